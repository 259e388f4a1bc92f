/- errors.As, at the package's own error. Conditions: none; over the given program. (And 14 texts more.) -/
import Derived.Test.YtjohlemgkcpoeaaGreatDoorR08
import Derived.Test.YtjohlemgkcpoeaaGreatDoorR07
set_option linter.unusedVariables false
set_option linter.unusedSimpArgs false
set_option linter.unusedSectionVars false
set_option maxRecDepth 100000
set_option maxHeartbeats 4000000

open Go.Proofs.Tryz
namespace Go.jc
open Go.Extern
abbrev aaW:Array Value->Sem Value:=fun args=>ReflectliteValue.unpack (args.getD 0 (.tuple #[]))
abbrev ath:Array Value→Sem Value:=ReflectliteValue.methodAny (ReflectliteValue.valueError "reflectlite.Value.Type" 0) fun t _ _ _=>ReflectliteType.toType t
abbrev aiR:Array Value→Sem Value:=ReflectliteValue.method (ReflectliteValue.valueError "reflectlite.Value.IsNil" 0) ReflectliteValue.isNil
abbrev aiS:Array Value→Sem Value:=ReflectliteValue.method (ReflectliteValue.valueError "reflectlite.Value.Elem" 0) ReflectliteValue.elem
abbrev ati:Array Value->Sem Value:=ReflectliteType.abiMethod fun t=>do pure (.int .u8 (<-Rtype.kind t))
instance:XF aV F5 aaW:=⟨F6,func115,aB,aB,aB,aB⟩
instance:XF aV BD ath:=⟨BF,func116,aB,aB,aB,aB⟩
instance:XF aV z_ aiR:=⟨Aa,func117,aB,aB,aB,aB⟩
instance:XF aV BH aiS:=⟨BI,func167,aB,aB,aB,aB⟩
instance:XF aV C9 ReflectliteValue.set:=⟨C_,func168,aB,aB,aB,aB⟩
instance:XF aV H9 ReflectliteType.typeOf:=⟨H_,func166,aB,aB,aB,aB⟩
instance:XF aV qY (ReflectliteType.method ReflectliteType.elem):=⟨BN,func239,aB,aB,aB,aB⟩
instance:XF aV nC (ReflectliteType.relation "Implements" ReflectliteType.implements_):=⟨vM,func240,aB,aB,aB,aB⟩
instance:XF aV lT (ReflectliteType.relation "AssignableTo" ReflectliteType.assignableTo):=⟨uF,func237,aB,aB,aB,aB⟩
instance:XF aV xZ ati:=⟨QD,func219,aB,aB,aB,aB⟩

noncomputable abbrev QI(t:TypeId):Value:=.iface yB (.agg #[typeHandle aV t])
noncomputable abbrev rvV(t:TypeId)(a:Addr)(n:Int):Value:=.agg #[typeHandle aV t,.pointer (some a),.int .u64 n]

variable{E:TypeId}{F:ah}{b β:Nat}{c:Array Value}{fz:Nat×Nat}{h:Hp}
theorem W9{t:TypeId}{v:Value}{cs:Array Value}{n:Int}(hc:v.cells=cs)(hm:∀a,V3 aV (ReflectliteValue.mk t a 0)=some (rvV t a n)):tr aV h (aaW #[.iface t v]) F (fun r F'=>∃β,r=rvV t ⟨β,0,none⟩ n/\F'=(β,.cells cs t (0,0))::F):=by
 show tr aV h (Sem.bind (newVar t v) fun a=>ReflectliteValue.mk t a 0) F _;simp only[newVar,newRow,bind_eq,au,bind_assoc,bind_pure,hc];exact D_ fun r _ _=>vU (hm _) ⟨r,O,O⟩
theorem aiT(hl:LP h F β (.cells c E fz))(hc:c[0]? =some (.pointer (some ⟨b,0,none⟩))):tr aV h (aiR #[rvV ig ⟨β,0,none⟩ 150]) F (fun r F'=>r= .bool false/\F'=F):=by
 show tr aV h (Sem.bind (ReflectliteValue.parts (rvV ig ⟨β,0,none⟩ 150)) _) F _;refine cu (vU (a:=some (ig,⟨β,0,none⟩,150)) aB ?_);show tr aV h (Sem.bind (loadVar ig ⟨β,0,none⟩) _) F _;exact cu (Bo hl hc ⟨O,O⟩)
theorem aiU(hl:LP h F β (.cells c E fz))(hc:c[0]? =some (.pointer (some ⟨b,0,none⟩))):tr aV h (aiS #[rvV ig ⟨β,0,none⟩ 150]) F (fun r F'=>r=rvV fG ⟨b,0,none⟩ 409/\F'=F):=by
 show tr aV h (Sem.bind (ReflectliteValue.parts (rvV ig ⟨β,0,none⟩ 150)) _) F _;refine cu (vU (a:=some (ig,⟨β,0,none⟩,150)) aB ?_);show tr aV h (Sem.bind (loadVar ig ⟨β,0,none⟩) fun v=>Sem.bind (Rtype.elem? ig) fun e=>_) F _;refine cu (Bo hl hc ?_);refine cu (vU (a:=some fG) aB ?_);exact vU (a:=rvV fG ⟨b,0,none⟩ 409) aB ⟨O,O⟩
theorem apJ{vs:Array Value}{E':TypeId}{U:Obj->ah}(hl:At b (.cells c E (0,0)) F U)(hc:c.size=2)(hs:LP h F β (.cells vs E' fz))(hn:vs.size=2)(h1:lC vs.toList=true):tr aV h (ReflectliteValue.set #[rvV fG ⟨b,0,none⟩ 409,rvV fG ⟨β,0,none⟩ 153]) F (fun r F'=>r= .tuple #[]/\F'=U (.cells vs E (0,0))):=by
 show tr aV h (Sem.bind (ReflectliteValue.parts (rvV fG ⟨b,0,none⟩ 409)) fun p=>Sem.bind (ReflectliteValue.parts (rvV fG ⟨β,0,none⟩ 153)) fun q=>_) F _;refine cu (vU (a:=some (fG,⟨b,0,none⟩,409)) aB ?_);refine cu (vU (a:=some (fG,⟨β,0,none⟩,153)) aB ?_);show tr aV h (Sem.bind (loadVar fG ⟨β,0,none⟩) fun val=>Sem.bind (Rtype.directlyAssignable fG fG) fun d=>_) F _;refine cu (JL (n:=2) hs aj ?_);refine cu (vU (a:=true) aB ?_);show tr aV h (Sem.bind (storeVar fG ⟨b,0,none⟩ _) fun _=>.pure (Value.tuple #[])) F _;have e:vs.extract 0 (0+2)=vs:=by apply Array.ext';simp[<-hn]
 have IW:(Value.agg vs).cells=vs:=rfl;rw[e];simp only[storeVar,bind_eq,au,bind_assoc,bind_pure,wP,IW,hn,ne_eq,not_true_eq_false,if_false];refine cu (l9 vs.toList 0 c h1 hl (by simp;omega) ⟨O,?_⟩);rw[Nat.add_zero,RX (by simp;omega)]

theorem atj(main:aN)(h:Hp)(fd:xw)(fl:Int)(β b1:Nat)(c c1:Array Value)(E1:TypeId)(z1:Nat×Nat)(hc:c.size=2)(h1:h b1=some (.cells c1 E1 z1))(Y4:c1[0]? =some (.pointer (some ⟨β,0,none⟩))):
  bG aV main aaL #[.iface fG (.agg #[kY fd,I fl]),.iface ig (.pointer (some ⟨β,0,none⟩)),rvV ig ⟨b1,0,none⟩ 150,QI fG] h [(β,.cells c fG (0,0))] (fun v A=>v= .bool true/\Sb [(β,.cells #[kY fd,I fl] fG (0,0))] A):=by
 have apK:=adq fd;refine bG.bH func118 [(0,.iface fG (.agg #[kY fd,I fl])),(1,.iface ig (.pointer (some ⟨β,0,none⟩))),(2,rvV ig ⟨b1,0,none⟩ 150),(3,QI fG)] ?_;refine d_ ?_;refine aA.box (fun mX=>?_);refine gI ?_;refine W.loop (σ:=Unit) (fun _=>True) (fun _=>[(8,.bool false),(6,.pointer (some ⟨mX,0,none⟩)),(0,.iface fG (.agg #[kY fd,I fl])),(1,.iface ig (.pointer (some ⟨β,0,none⟩))),(3,QI fG)]) (fun _=>[(mX,.cells #[typeHandle aV ig,.pointer (some ⟨b1,0,none⟩),.int .u64 150] Jz (0,0)),(β,.cells c fG (0,0))]) (fun _=>0) () trivial iw .refl ?_;rintro⟨⟩ -;refine kJ ?_;refine cxp (r:=QI fG) aB ?_;refine zT ?_;refine cix (f:=lT) (u':=.agg #[typeHandle aV fG]) (r:=.bool true) aB aB ?_;refine qj ?_;refine W.kG ?_;refine gI ?_;refine cx (fun h' hE=>aiU (.inl (hE.1 _ _ h1)) Y4) (fun v F' hv=>?_);obtain⟨rfl,rfl⟩:=hv;refine zT ?_;refine cx (fun h' hE=>W9 (n:=153) O (fun a=>by kernel_rfl)) (fun v F' hv=>?_);obtain⟨oJ,rfl,rfl⟩:=hv;refine cx (fun h' hE=>apJ (b:=β) (β:=oJ) (.tail (.tail .head)) hc (.inr (.head _)) O (show(one (kY fd)&&(one (I fl)&&true))=true by rw[apK];rfl)) (fun v F' hv=>?_);obtain⟨rfl,rfl⟩:=hv;refine gZ ?_;exact iQ ⟨O,qE⟩

theorem atl(main:aN)(h:Hp)(fd:xw)(fl:Int)(β:Nat)(c:Array Value)(Eg:TypeId)(zg:Nat×Nat)(hc:c.size=2)(hg:h 0=some (.cells #[QI kC] Eg zg)):
  bG aV main Ht #[.iface fG (.agg #[kY fd,I fl]),.iface ig (.pointer (some ⟨β,0,none⟩))] h [(β,.cells c fG (0,0))] (fun v A=>v= .bool true/\Sb [(β,.cells #[kY fd,I fl] fG (0,0))] A):=by
 refine bG.bH func82 [(0,.iface fG (.agg #[kY fd,I fl])),(1,.iface ig (.pointer (some ⟨β,0,none⟩)))] ?_;refine kR ?_;refine b_ (Y6 O O) O ?_;refine qj ?_;refine W.iq ?_;refine lg ?_;refine b_ (Y6 O O) O ?_;refine qj ?_;refine W.iq ?_;refine kJ ?_;refine cx (fun h' hE=>W9 (n:=150) O (fun a=>by kernel_rfl)) (fun v F' hv=>?_);obtain⟨vg,rfl,rfl⟩:=hv;refine aA.new (fun iI=>?_);refine kJ ?_;refine cxp (r:=QI ig) aB ?_;refine lg ?_;refine cix (f:=xZ) (u':=typeHandle aV ig) (r:=.int .u8 22) aB aB ?_;refine b_ (Yv.eq (Fe O O O) (show Value.bool (decide ((22:Int)≠22))= .bool false from rfl)) O ?_;refine zT ?_
 first | refine kw_ (ZW rfl rfl) rfl ?_ | refine kw_ (Qm rfl rfl) rfl ?_
 refine cx (fun h' hE=>aiT (β:=vg) (b:=β) (.inr zS) O) (fun v F' hv=>?_);obtain⟨rfl,rfl⟩:=hv;refine d_ ?_;refine W.iq ?_;refine kJ ?_;refine cix (f:=qY) (u':=.agg #[typeHandle aV ig]) (r:=QI fG) aB aB ?_;refine lg ?_;refine cix (f:=xZ) (u':=typeHandle aV fG) (r:=.int .u8 25) aB aB ?_;refine b_ (Yv.eq (Fe O O O) (show Value.bool (decide ((25:Int)≠20))= .bool true from rfl)) O ?_;refine d_ ?_;refine oq (CG O O (.inl hg) O) O (aI O O O) O O ?_;refine cix (f:=nC) (u':=.agg #[typeHandle aV fG]) (r:=.bool true) aB aB ?_;refine gI ?_;refine W.iq ?_;refine kR ?_;refine cg (A:=[(β,.cells c fG (0,0))]) (.tail (.tail .head)) (fun h' hE hL=>atj _ h' fd fl β vg c _ _ _ hc (hL vg _ zS) O) (fun v A' hv=>?_);obtain⟨rfl,bF⟩:=hv;refine gI ?_;refine iQ ⟨O,?_⟩;exact .skip O (.skip O (bF.trans (.right .refl .nil)))
theorem aaX(main:aN)(h:Hp)(tv:Value):Pu aV main Ht #[.nilIface,tv] h (.bool false):=by
 refine bG.bH func82 [(0,.nilIface),(1,tv)] ?_;refine kR ?_;refine b_ (aiP O O) O ?_;refine qj ?_;refine W.kG ?_;refine lg ?_;exact lQ O
end Go.jc

namespace Go.jc
abbrev Err:=Option ((Bool×Int)×Int)
def aeY(acc:Err)(n:Int):Bool:=match acc with
 | none=>true
 | some (q0,_)=>decide (n<q0.2)
def W_(acc:Err)(f:Int)(q:xw):Err:=match q with
 | none=>acc
 | some z=>if aeY acc z.2=true then some (z,f)else acc
def xA(fs:List Fl)(ss:List St)(p:List Be):Nat->Err
 | 0=>none
 | k+1=>W_ (xA fs ss p k) k (Fq fs ss p k)
def xB(fs:List Fl)(ss:List St)(p:List Be):Err:=xA fs ss p fs.length
variable{A A₀ F:ah}{P:Program}{Q:fO}{R:ah->Prop}{U kH:ah->ah}{X σ:Type}{b:Be}{bd us:Code}{cap:Array Value}{ds:List Deferred}{enc:X->Value}{f y:Operand}{fs:List Fl}{fv:Value}{h:Hp}{k:Nat}{o:Oper}{p:List Be}{ss:List St}{t:Tmp}{x:Cx}{xs:List X}{ρ:Env}
section
variable{x:Cx}{Q:fO}{ρ:Env}{ds:List Deferred}{F:ah}{ops:Array Oper}{d:Tmp}{ty:TypeId}{pos:String}{bW:Array Edge}{g:Option (Nat×Bool)}
variable{args:List Operand}{ts:Array TypeId}{vs:List Value}{y:Operand}{name:String}{t:TypeId}{u r:Value}{f:FuncId}
def An(x:Cx)(ρ:Env)(o:Oper)(F:ah)(u:Value):Prop:=∀R:Value->ah->Prop,(∀A,eH A->R u (A++F))->Ef x ρ o F R
theorem An.oy{u:Value}(hy:Yv x (· =F) ρ o u):An x ρ o F u:=fun R H=>Ef.YH hy (by simpa using H [] .nil)
theorem An.oi(ho:o.op= .call ⟨.invoke y name,args.toArray,ts⟩)(hy:ev ρ y=some (.iface t u))[mv:MV x.P t name f][FB x.P f](hv:jv ρ args=some vs)(H:∀h',Ext x.h h'->je F h'->Pu x.P x.main f (u::vs).toArray h' r):An x ρ o F r:=fun R K=>O3 ho hy hv H K
theorem a2g{fuel listed i j d d':Nat}{op JM:Op}{ty':TypeId}{pos':String}{Kz:Array Edge}{g':Option (Nat×Bool)}{v w:Value}(ho:dS ops.toList i=some ⟨some d,op,ty,pos,bW,g⟩)(mM:dS ops.toList j=some ⟨some d',JM,ty',pos',Kz,g'⟩)
  (hy:An x ρ ⟨some d,op,ty,pos,bW,g⟩ F v) (hy2:An x ((d',w)::ρ) ⟨some d,op,ty,pos,bW,g⟩ F v) (hy':An x ρ ⟨some d',JM,ty',pos',Kz,g'⟩ F w) (apB:An x ((d,v)::ρ) ⟨some d',JM,ty',pos',Kz,g'⟩ F w)
  (hw:iM ops (look ρ) ⟨some d,op,ty,pos,bW,g⟩ true) (hw2:iM ops (look ((d',w)::ρ)) ⟨some d,op,ty,pos,bW,g⟩ true) (hw':iM ops (look ρ) ⟨some d',JM,ty',pos',Kz,g'⟩ true) (apD:iM ops (look ((d,v)::ρ)) ⟨some d',JM,ty',pos',Kz,g'⟩ true)
  (hd:Nat.blt d x.n=true) (IK:Nat.blt d' x.n=true) (hn:fB op=true) (GN:fB JM=true)
  (H:Any x ops [] fuel ((listed||| 2 ^ i)||| 2 ^ j) Q ((d',w)::(d,v)::ρ) ds F) (iK:Nat.beq d d'=false:=by rfl)
  (hr:rH ops listed=[i,j]:=by kernel_rfl) (TP:rH ops (listed||| 2 ^ i)=[j]:=by kernel_rfl) (hr2:rH ops (listed||| 2 ^ j)=[i]:=by kernel_rfl):Any x ops [] (fuel+2) listed Q ρ ds F:=by
 have hk:∀F:ah,aC [] F:=fun _ p hp=>by cases hp
 refine Any.Vp (o:=⟨some d,op,ty,pos,bW,g⟩) (o':=⟨some d',JM,ty',pos',Kz,g'⟩) hr (aK ho) (aK mM) hw hw' hd IK hn GN (hy _ fun A hA=>⟨.inr (hk _),Any.sb (Sb.left .refl hA) ?_⟩) (hy' _ fun A hA=>⟨.inr (hk _),Any.sb (Sb.left .refl hA) ?_⟩)
 ·exact Any.Ql (o:=⟨some d',JM,ty',pos',Kz,g'⟩) (apB _ fun A hA=>⟨.inr (hk _),Any.sb (Sb.left .refl hA) H⟩) TP (aK mM) apD IK GN
 refine Any.Ql (o:=⟨some d,op,ty,pos,bW,g⟩) (hy2 _ fun A hA=>⟨.inr (hk _),Any.sb (Sb.left .refl hA) ?_⟩) hr2 (aK ho) hw2 hd hn;have e1:(listed||| 2 ^ j)||| 2 ^ i=(listed||| 2 ^ i)||| 2 ^ j:=by rw[Nat.or_assoc,Nat.or_comm (2 ^ j),<-Nat.or_assoc]
 have e2:look ((d,v)::(d',w)::ρ)=look ((d',w)::(d,v)::ρ):=by
  funext t;show(bif Nat.beq t d then some v else bif Nat.beq t d' then some w else look ρ t)=(bif Nat.beq t d' then some w else bif Nat.beq t d then some v else look ρ t)
  cases h1:Nat.beq t d with
  | false=>rfl
  | true=>
   have:t=d:=Nat.eq_of_beq_eq_true h1;subst this;rw[iK];rfl
 rw[e1];unfold Any at H⊢;show J7 _ _ _ _ _ _ (look ((d,v)::(d',w)::ρ)) _;rw[e2];exact H
end
def alY:Err->Value
 | none=>.nilIface
 | some (q,f)=>.iface fG (.agg #[kY (some q),I f])
theorem An.fault{main:aN}{fn:FuncId}{m:Nat}{ro:Option Nat}{c:Bool}{n:Int}{ts:Array TypeId}(ho:o.op= .call ⟨.invoke y "muscovado/floor.day", #[],ts⟩)(hy:ev ρ y=some (kY (some (c,n)))):An ⟨aV,main,fn,m,ro,h⟩ ρ o F (I n):=by
 cases c with
 | true=>exact An.oi (args:=[]) (vs:=[]) ho hy rfl (fun h' _ _=>KR _ h' n)
 | false=>exact An.oi (args:=[]) (vs:=[]) ho hy rfl (fun h' _ _=>KQ _ h' n)
theorem alZ{S:ah->Prop}{t t':TypeId}{ms:Array (String×TypeId)}{e:Err}(ho:o.op= .binOp .neq t y (.const .nilIface) t')[TD x.P t (.interface ms)](hy:ev ρ y=some (alY e)):Yv x S ρ o (.bool e.isSome):=by
 rcases e with _ | ⟨q,f⟩
 ·exact alW ho hy
 exact alV ho hy

theorem adu(main:aN)(h:Hp)(fs:List Fl)(ss:List St)(p:List Be)(vf vs:Value)(Eg:TypeId)(zg:Nat×Nat)(hf:Sl h Fl.row vf fs)(hs:Sl h St.row vs ss)(aO:dV fs ss)(hp:nY fs ss p)(hg:h 0=some (.cells #[QI kC] Eg zg)):Pu aV main HY #[.agg #[vf,vs],jI p] h (alY (xB fs ss p)):=by
 obtain⟨a,cap,rfl⟩:=hf.aU;obtain⟨a',f_,rfl⟩:=hs.aU;have oH:=uI hp.ok;have PX:=aO.nf;refine bG.bH func101 [(0,.agg #[.slice a fs.length cap,.slice a' ss.length f_]),(1,jI p)] ?_;refine d_ ?_;refine aA.box (fun oJ=>?_);refine aA.box (fun nP=>?_);refine Qv ?_;refine W.loop (σ:=Nat) (fun k=>k<=fs.length) (fun k=>[(13,I k),(12,I fs.length),(5,alY (xA fs ss p k)),(3,.pointer (some ⟨nP,0,none⟩)),(2,.pointer (some ⟨oJ,0,none⟩))]) (fun _=>[(nP,.cells (flat Be.row p).toArray dD (0,0)),(oJ,.cells #[.slice a fs.length cap,.slice a' ss.length f_] x9 (0,0))]) (fun k=>fs.length-k) 0 (Nat.zero_le _) iw qE ?_;intro k hk;refine kJ ?_;refine W.aJ O (fun WW=>?_) (fun WW=>?_)
 ·refine Qs ?_;refine cp (fun h' hE hL=>alX _ h' fs ss p k _ _ (hf.ext hE) (hs.ext hE) aO hp aj aj) ?_;obtain⟨q,hq⟩:∃q,Fq fs ss p k=q:=⟨_,rfl⟩
  rw[hq];refine lg ?_;refine b_ (adr O O) O ?_;refine qj ?_;refine W.cond O (fun Oh=>?_) (fun Oh=>?_)
  ·refine kR ?_
   have e:xA fs ss p (k+1)=xA fs ss p k:=by
    cases q with
    | none=>simp only[xA,hq,W_]
    | some z=>cases Oh
   refine⟨O,k+1,aj,aj,⟨O,O,?_,O,O,trivial⟩,qE⟩;rw[e];rfl
  obtain⟨⟨cc,n⟩,rfl⟩:∃z,q=some z:=by
   cases q with
   | none=>simp at Oh
   | some z=>exact⟨z,rfl⟩
  refine lF ?_;refine aA.new (fun zC=>?_);refine d_ ?_;obtain⟨acc,kT⟩:∃acc,xA fs ss p k=acc:=⟨_,rfl⟩
  rw[kT];refine W.mono (Q:=fun e gW iT F'=>e= .normal/\iT=[]/\Sub [(33,.bool (aeY acc n)),(7,kY (some (cc,n))),(6,I k),(13,I k),(12,I fs.length),(5,alY acc),(3,.pointer (some ⟨nP,0,none⟩)),(2,.pointer (some ⟨oJ,0,none⟩))] gW/\Sb [(nP,.cells (flat Be.row p).toArray dD (0,0)),(oJ,.cells #[.slice a fs.length cap,.slice a' ss.length f_] x9 (0,0))] F') ?_ ?_
  ·refine W.kQ [] (n:=12) O ?_;rcases acc with _ | ⟨⟨c0,n0⟩,f0⟩
   ·refine ay 0 ?_;refine fJ 1 (aiI O O) O ?_;refine acp (i:=2) (fun h' hE hL=>aaX _ h' _) ?_;refine ay 3 ?_;refine ay 4 ?_;refine ap (i:=5) O O O O O O ?_;refine ap (i:=6) O O O O O O ?_;refine ap (i:=7) O O O O O O ?_;refine ap (i:=8) O O O O O O ?_;refine ap (i:=9) O O O O O O ?_;refine ap (i:=10) O O O O O O ?_;refine ay 11 ?_;refine az ?_;exact⟨O,O,iw,qE⟩
   refine ay 0 ?_;refine fJ 1 (aiI O O) O ?_;refine ae (i:=2) O an O O (gq (f:=Ht) (args:=[_,_]) (A:=[(zC,_)]) O O .head (fun h' hE hL=>atl _ h' (some (c0,n0)) f0 zC _ Eg zg O (hE.1 _ _ hg)) (fun v A' hv=>?_));obtain⟨rfl,bF⟩:=hv;refine⟨.inr (fun _ h=>absurd h List.not_mem_nil),Any.sb (bF.app .refl) ?_⟩;refine ay 3 ?_;refine ay 4 ?_;refine aq (i:=5) (xO O O) O (bD O O O O) O O ?_;refine aq (i:=7) (o8 O O) O (bD O O O O) O O ?_;refine a2g (i:=6) (j:=8) O O (An.fault O O) (An.fault O O) (An.oy (CG O O)) (An.oy (CG O O)) (bD O O O O) (bD O O O O) (bD O O O O) (bD O O O O) O O O O ?_;refine atf (i:=9) ?_ (.inr (fun _ h=>absurd h List.not_mem_nil));refine aq (i:=10) (WG O O O) O (bD O O O O) O O ?_;refine ay 11 ?_;refine az ?_;exact⟨O,O,iw,qE⟩
  rintro e gW iT F' ⟨rfl,rfl,hE,hD⟩;refine fH (W.env hE (W.sb hD ?_));refine W.cond O (fun c33=>?_) (fun c33=>?_)
  ·refine gI ?_;refine b_ (dw (cs:= #[kY (some (cc,n)),I k]) rfl rfl (by cases cc <;>rfl)) rfl ?_;refine zT ?_;refine zW rfl rfl rfl<|aA.nil<|iE<|fH<|W.region rfl ?_;refine gI ?_;have e:xA fs ss p (k+1)=some ((cc,n),(k:Int)):=by simp only[xA,kT,hq,W_];rw[if_pos c33]
   refine⟨O,k+1,aj,aj,⟨O,O,?_,O,O,trivial⟩,qE⟩;rw[e];rfl
  refine jk ?_;have e:xA fs ss p (k+1)=acc:=by simp only[xA,kT,hq,W_];rw[if_neg (by rw[c33];exact Bool.false_ne_true)]
  refine⟨O,k+1,aj,aj,⟨O,O,?_,O,O,trivial⟩,qE⟩;rw[e];rfl
 refine iC ?_;refine lQ ?_;rw[xB,show fs.length=k by omega];rfl
theorem W.Ui(hf:ev ρ f=some fv)(FK:x.ro=none)(ht:Nat.blt t x.n=true)
  (st:σ->X->σ) (ex:σ->X->Option Exit) (nx:X->σ->Prop) (D X':σ->ah->Prop) (l7:σ) (hs:L8 A₀ F kH) (h0:D l7 A₀)
  (hi:∀h',Ext x.h h'->je (kH []) h'->Iter x.P x.main fv enc xs h')
  (hex:∀s p e,ex s p=some e->(wU e).isSome=true)
  (Gt:∀pre p post s',xs=pre++p::post->runs (jD st ex) (l7,none) pre=((s',none),true)->nx p s')
  (
   body:∀s p A,nx p s->D s A->∀l h',Ext x.h h'->je (kH []) h'->W {x with ro:=some l,h:=h'} us (fun e Aw Az vG=>e= .normal/\Az=[]/\∀h',Ext x.h h'->je (kH []) h'->
   W {x with ro:=some l,h:=h'} bd (fun e _ nO qK=>nO=[]/\e=J_ (ex s p)/\∃B,(match ex s p with | none=>D (st s p) B | some _=>X' (st s p) B)/\Sb B qK) Aw [] vG) ((t,enc p)::ρ) [] A)
  (after:∀s e A,(runs (jD st ex) (l7,none) xs).1=(s,e)->(match e with | none=>D s A | some _=>X' s A)->∀d,Q (J_ e) ρ (mark d::ds) ((d,.deferred (some []))::kH A)):W x (.rangeFunc f #[t] us bd) Q ρ ds F:=by
 refine W.rangeFunc hf FK fun tmps LD oH l d=>?_
 let L (s:LoopState) (pd:Option Code):Obj:=.loop {state:=s,pending:=pd,fn:=x.fn,tmps,params:= #[t],assign:=us,body:=bd,defers:=d}
 let J:σ×Option Exit->ah->Prop:=fun s A=>s.2=none/\∃B,D s.1 B/\A=B++[(l,L .ready none)]
 let K:σ×Option Exit->ah->Prop:=fun s A=>∃B c,X' s.1 B/\s.2.bind wU=some c/\A=B++[(l,L .done (some c))]
 
 refine⟨A₀++[(l,L .ready none)],(d,.deferred (some []))::kH [],fun _ A'=>Out J K (runs (jD st ex) (l7,none) xs) A',?_,?_,?_⟩
 ·refine(dK.append_right _).trans ?_;refine List.Perm.cons _ ?_;exact List.perm_middle.trans (hs.perm.1.cons _)
 ·intro h' e1 e2;have e3:je (kH []) h':=fun b o hb=>e2 b o (dH _ hb);refine hi h' e1 e3 h' ⟨fun _ _ z=>z,fun _ z=>z⟩ _ O (σ×Option Exit) (fun p s=>s.2=none->nx p s.1) (jD st ex) J K ?_ (l7,none) _ (fun pre p post s' e hr hn=>Gt pre p post s'.1 e (by rw[hr,<-hn])) ⟨O,A₀,h0,O⟩
  
  rintro Gm e4 ⟨s,e⟩ p A hp ⟨rfl,B,hB,rfl⟩;have hE:Ext x.h Gm:=e1.trans e4;have hL:je (kH []) Gm:=fun b o hb=>e4.1 _ _ (e3 b o hb);refine⟨_,_,_,O,?_⟩;simp only[invoke,Instr.yield,Instr.getLoop,bind_eq,au,bind_assoc];refine⟨L .ready none,.inr (bZ _ (bT ..)),(fun _ _ _=>by simp[L]),O,?_⟩;have ez:Array.foldl (fun(tmps:Array Value) (x:Tmp×Value)=>tmps.setIfInBounds x.1 x.2) tmps (#[t].zip #[enc p])=tmps.setIfInBounds t (enc p):=by simp
  show tZ x.P x.main Gm _ (.round l x.fn (Array.foldl (fun(tmps:Array Value) (x:Tmp×Value)=>tmps.setIfInBounds x.1 x.2) tmps (#[t].zip #[enc p])) us bd) _;rw[ez];have fK:t<tmps.size:=by rw[oH];exact Nat.le_of_ble_eq_true ht
  have ah5:jf ((t,enc p)::ρ) (tmps.setIfInBounds t (enc p)):=LD.put fK _;have acW:(tmps.setIfInBounds t (enc p)).size=x.n:=by simpa using oH
  show Rnd x.P x.main l x.fn (tmps.setIfInBounds t (enc p)) us bd Gm _ _;refine Rnd.gX _ ah5 ?_;rw[acW]
  
  refine(W.frame (x:={x with ro:=some l,h:=Gm}) fun SE e5 _=>body s p B (hp rfl) hB l SE (hE.trans e5) (fun b o hb=>e5.1 _ _ (hL b o hb))).mono ?_;rintro e Aw Az vG ⟨A',⟨rfl,rfl,hbd⟩,rfl⟩;refine⟨O,O,?_⟩;simp only[Instr.beginRound,Instr.getLoop,bind_eq,au,bind_assoc];refine⟨L .ready none,.inr (bZ _ (bT ..)),(fun _ _ _=>by simp[L]),O,?_⟩;refine⟨L .ready none,A',[],O,(fun _ _ _=>by simp[L]),O,?_⟩;show W _ _ _ _ _ (A'++[(l,L .busy none)])
  
  refine(W.frame (x:={x with ro:=some l,h:=Gm}) fun SE e5 _=>hbd SE (hE.trans e5) (fun b o hb=>e5.1 _ _ (hL b o hb))).mono ?_;rintro e Fa nO qK ⟨afQ,⟨rfl,rfl,Kq,GZ,bF⟩,rfl⟩;refine⟨O,(ex s p).bind wU,Bq fun e he=>hex s p e he,?_⟩;simp only[Instr.endRound,Instr.getLoop,bind_eq,au,bind_assoc];refine⟨L .busy none,.inr (bZ _ (bT ..)),(fun _ _ _=>by simp[L]),O,?_⟩;refine⟨L .busy none,afQ,[],O,(fun _ _ _=>by simp[L]),O,?_⟩
  cases he:ex s p with
  | none=>
   simp only[he]at GZ;refine⟨by simp[jD,he],Kq++[(l,L .ready none)],bF.app .refl,?_⟩;simp only[jD,he];exact⟨O,Kq,GZ,O⟩
  | some e=>
   simp only[he]at GZ;obtain⟨c,hc⟩:=iJ.1 (hex s p e he);have hj:(some e:Option Exit).bind wU=some c:=hc;refine⟨by simp[jD,he,hc],Kq++[(l,L .done (some c))],?_,?_⟩
   ·rw[hj];exact bF.app .refl
   simp only[jD,he];exact⟨Kq,c,GZ,hj,O⟩
 rintro _ A' ⟨B,qB,hB⟩;refine⟨B,qB,?_⟩;generalize hr:runs (jD st ex) (l7,none) xs=r at hB;obtain⟨⟨s,e⟩,b⟩:=r;have hrs:=Ko hr;have ah6:=fun A hA=>after s e A (by rw[hr]) hA d;simp only[Instr.endLoop,Instr.getLoop,bind_eq,au,bind_assoc]
 cases b with
 | true=>
  obtain⟨he,A,hA,rfl⟩:=hB;simp only at he;subst he;refine⟨L .ready none,.inr (jm _ (bZ _ (bT ..))),(fun _ _ _=>by simp[L]),O,?_⟩;refine⟨L .ready none,A,(d,.deferred (some []))::kH [],by simp,(fun _ _ _=>by simp[L]),O,?_⟩;refine⟨(d,.deferred (some []))::kH A,?_,ah6 A hA⟩;refine Sb.trans (Sb.aT ((hs.perm.2 A).cons _)) ?_;refine(Sb.aT List.perm_middle.symm).trans (Sb.app .refl (Sb.skip O .refl))
 | false=>
  obtain⟨A,c,hA,hc,rfl⟩:=hB;simp only at hc;obtain⟨e,rfl,he⟩:=Option.bind_eq_some_iff.1 hc;refine⟨L .done (some c),.inr (jm _ (bZ _ (bT ..))),(fun _ _ _=>by simp[L]),O,?_⟩;refine⟨L .done (some c),A,(d,.deferred (some []))::kH [],by simp,(fun _ _ _=>by simp[L]),O,?_⟩;show W x c Q ρ (mark d::ds) _;refine W.sb (F':=(d,.deferred (some []))::kH A) ?_ ?_
  ·refine Sb.trans (Sb.aT ((hs.perm.2 A).cons _)) ?_;refine(Sb.aT List.perm_middle.symm).trans (Sb.app .refl (Sb.skip O .refl))
  have q:=ah6 A hA
  cases e <;>simp only[wU,dY]at he <;>first | (cases he;done) | subst he
  ·exact W.exit q
  ·exact W.goto q
  exact W.ret q

theorem W.apM(hf:ev ρ f=some fv)(FK:x.ro=none)(ht:Nat.blt t x.n=true)
  (st:σ->X->σ) (ex:σ->X->Option Exit) (D X':σ->ah->Prop) (l7:σ) (hs:L8 A₀ F kH) (h0:D l7 A₀)
  (hi:∀h',Ext x.h h'->je (kH []) h'->Iter x.P x.main fv enc xs h')
  (hex:∀s p e,ex s p=some e->(wU e).isSome=true)
  (
   body:∀s p A,p∈xs->D s A->∀l h',Ext x.h h'->je (kH []) h'->W {x with ro:=some l,h:=h'} us (fun e Aw Az vG=>e= .normal/\Az=[]/\∀h',Ext x.h h'->je (kH []) h'->
   W {x with ro:=some l,h:=h'} bd (fun e _ nO qK=>nO=[]/\e=J_ (ex s p)/\∃B,(match ex s p with | none=>D (st s p) B | some _=>X' (st s p) B)/\Sb B qK) Aw [] vG) ((t,enc p)::ρ) [] A)
  (after:∀s e A,(runs (jD st ex) (l7,none) xs).1=(s,e)->(match e with | none=>D s A | some _=>X' s A)->∀d,Q (J_ e) ρ (mark d::ds) ((d,.deferred (some []))::kH A)):W x (.rangeFunc f #[t] us bd) Q ρ ds F:=
 W.Ui hf FK ht st ex (fun p _=>p∈xs) D X' l7 hs h0 hi hex (fun pre p post s' e _=>by rw[e];simp) body after

theorem WC.fn{main:aN}{K:ah->Prop}{f:FuncId}[FB P f](hs:L8 A F U)(H:∀h',Ext h h'->je (U []) h'->QN P main f cap h' A R)(k:∀A',R A'->WC P main h ds (A'++U []) K):WC P main h ({target:=.fn (.func f) cap,args:= #[]}::ds) F K:=by
 obtain⟨fn,h1,h2,h3⟩:=FB.out (inferInstance:FB P f);show tr P h (callFunc f (#[]++cap)) F _;simp only[callFunc,bind_eq,au,o7,h1,h2,h3,eU,if_false,Array.empty_append];exact⟨f,cap,O,A,U [],hs.perm.1,fun h' e1 e2=>(H h' e1 e2).mono fun A' r=>k A' r⟩
theorem Ie{main:aN}{fn:Func}{R':Value->ah->Prop}{e:Exit}{f:FuncId}[FB P f](hs:L8 A F U)(H:∀h',Ext h h'->je (U []) h'->QN P main f cap h' A R)(k:∀A',R A'->leave P main fn h R' e ρ ds (A'++U []))(he:e= .ret\/e= .normal:=by first | exact .inl rfl | exact .inr rfl):leave P main fn h R' e ρ ({target:=.fn (.func f) cap,args:= #[]}::ds) F:=
 ⟨he,WC.fn hs H fun A' r=>(k A' r).2⟩
abbrev PY:=Nat->Bool×Bool
def kL(f d:Int):Nat->List Be
 | 0=>[]
 | m+1=>⟨f,d⟩::kL f (d+1) m
def dJ(s:St)(f:Int):Nat->List Be
 | 0=>[]
 | m+1=>kL f s.day (s.wa+1).toNat++dJ s (f+1) m
def ru(ss:List St)(k:Nat):St:=ss.getD k ⟨0,0,0⟩
def bI(fs:List Fl)(ss:List St)(may:PY)(k:Nat):List Be:=
 (if(may k).2 then[fZ]else[])++(if(may k).1 then dJ (ru ss k) 0 fs.length else[])
def over(pl:Int):List Sp->Bool
 | []=>false
 | s::r=>if pl<s.hi then true else over pl r
def prune(fs:List Fl)(ss:List St)(p:List Be)(b:Be):Bool:=if 0<=b.fl then over (jr fs b.fl).pl (mY fs ss p b.fl)else false
def iD(fs:List Fl)(ss:List St)(may:PY):Nat->Nat->List Be->List (List Be)
 | 0,_,p=>if(xB fs ss p).isNone then[p]else[]
 | m+1,k,p=>(bI fs ss may k).flatMap fun b=>if prune fs ss (p.set k b) b then[]else iD fs ss may m (k+1) (p.set k b)
theorem I7{pl:Int}:∀{d:List Sp} {k:Nat},(∀i,i<k->∀s,d[i]? =some s->¬pl<s.hi)->over pl d=over pl (d.drop k)
 | d,0,_=>rfl
 | [],k+1,_=>by simp
 | s::d,k+1,hn=>by
  have h0:=hn 0 aj s O;simp only[over,if_neg h0,List.drop_succ_cons];exact I7 fun i hi s hs=>hn (i+1) aj s (by simpa using hs)

theorem yK{f:Int}:∀{m:Nat} {d:Int} {b:Be},b∈kL f d m->b.fl=f/\d<=b.day/\b.day<d+m
 | 0,_,_,h=>by simp[kL]at h
 | m+1,d,b,h=>by
  simp only[kL,bU]at h;rcases h with rfl | h
  ·exact⟨O,Int.le_refl _,by simp;omega⟩
  have:=yK h;exact⟨this.1,aj,aj⟩
theorem uJ{s:St}:∀{m:Nat} {f:Int} {b:Be},b∈dJ s f m->f<=b.fl/\b.fl<f+m/\s.day<=b.day/\b.day<s.day+(s.wa+1).toNat
 | 0,_,_,h=>by simp[dJ]at h
 | m+1,f,b,h=>by
  rcases dh.1 h with h | h
  ·have:=yK h;omega
  have:=uJ h;omega
theorem lV{may:PY}(aO:dV fs ss)(hk:k<ss.length)(h:b∈bI fs ss may k): -1<=b.fl/\b.fl<=1/\b.fl<fs.length/\0<=b.day/\b.day<=17:=by
 have hs:ru ss k∈ss:=by simp[ru,List.getD,jh hk]
 have:=aO.st _ hs;have hn:=aO.nf;unfold bI at h;rcases dh.1 h with h | h
 ·split at h
  ·have:b=fZ:=by simpa using h
   subst this;simp[fZ];omega
  cases h
 split at h
 ·have:=uJ h;omega
 cases h
theorem pO(hp:nY fs ss p)(hk:k<ss.length)(hb: -1<=b.fl/\b.fl<=1/\b.fl<fs.length/\0<=b.day/\b.day<=17):nY fs ss (p.set k b):=by
 refine⟨⟨by simpa using hp.ok.len,fun c hc=>?_⟩,fun c hc=>?_,fun i hi=>?_⟩
 ·rcases List.mem_or_eq_of_mem_set hc with h | rfl
  ·exact hp.ok.ok c h
  omega
 ·rcases List.mem_or_eq_of_mem_set hc with h | rfl
  ·exact hp.fl c h
  omega
 have:=hp.pad i hi;simp only[dB,List.getD]at this⊢;rw[List.getElem?_set_ne aj];exact this
theorem JU(hk:k<p.length):gQ (flat Be.row p).toArray (0+k*2) [I b.fl,I b.day]=(flat Be.row (p.set k b)).toArray:=by
 induction p generalizing k with
 | nil=>simp at hk
 | cons a p ih=>
  cases k with
  | zero=>simp[iW,Be.row,gQ]
  | succ k=>
   have:=ih (k:=k) (by simpa using hk);simp only[List.set_cons_succ,iW];apply Array.ext';have h2:=congrArg Array.toList this;simp only[gQ,Array.toList_setIfInBounds,Nat.zero_add]at h2⊢;have e1:(k+1)*2=k*2+2:=by omega
   rw[e1,<-h2];simp[Be.row]

theorem Ig(main:aN)(h:Hp)(p:List Be)(k:Nat)(b:Be)(bp b11 b6 b7:Nat)(E1 E6 E7:TypeId)(z1 z6 z7:Nat×Nat)(hk:k<4)(hp:p.length=4)
  (h1:h b11=some (.cells #[I b.fl,I b.day] E1 z1)) (h6:h b6=some (.cells #[.pointer (some ⟨bp,0,none⟩)] E6 z6)) (h7:h b7=some (.cells #[I k] E7 z7)):
  QN aV main oI #[.pointer (some ⟨b11,0,none⟩),.pointer (some ⟨b6,0,none⟩),.pointer (some ⟨b7,0,none⟩)] h [(bp,.cells (flat Be.row p).toArray dD (0,0))] (fun A=>A=[(bp,.cells (flat Be.row (p.set k b)).toArray dD (0,0))]):=by
 have oH:(flat Be.row p).toArray.size=8:=by simp[gU,hp]
 have hex: #[I b.fl,I b.day].extract 0 (0+2)= #[I b.fl,I b.day]:=rfl;refine QN.gX func155 O (by show 3<=8;decide) [(0,.pointer (some ⟨b11,0,none⟩)),(1,.pointer (some ⟨b6,0,none⟩)),(2,.pointer (some ⟨b7,0,none⟩))] ⟨O,O,O,trivial⟩ ?_;refine W.kQ [] (n:=6) O ?_;refine ay 0 ?_;refine ay 1 ?_;refine ay 2 ?_;refine ay 3 ?_
 first | refine fJ 4 (rM rfl rfl rfl) rfl ?_ | refine fJ 4 (kU rfl rfl rfl) rfl ?_
 first | refine ae (i:=5) rfl an rfl rfl (eSW rfl rfl rfl ?_) | refine ae (i:=5) rfl an rfl rfl (eSA rfl rfl rfl ?_)
 refine⟨.inl aB,?_⟩;refine az ?_;rw[JU aj];exact iQ O

abbrev PZ(vf vs mv:Value):Value:=.agg #[vf,vs,mv]

theorem al0(main:aN)(h:Hp)(fs:List Fl)(ss:List St)(p:List Be)(k:Nat)(b:Be)(vf vs mv dov:Value)(bp:Nat)(A:ah)(Q9:one mv=true)(hf:Sl h Fl.row vf fs)(hs:Sl h St.row vs ss)(aO:dV fs ss)(hp:nY fs ss p)(hk:k<ss.length)
  (hb: -1<=b.fl/\b.fl<=1/\b.fl<fs.length/\0<=b.day/\b.day<=17) (P:Value->ah->Prop) (apO:prune fs ss (p.set k b) b=true->P (.bool true) A)
  (hdo:prune fs ss (p.set k b) b=false->∀h',Ext h h'->gG aV main dov [] h' (A++[(bp,.cells (flat Be.row (p.set k b)).toArray dD (0,0))]) (fun v A1=>∃r,v= .bool r/\∃B,P (.bool r) B/\Sb (B++[(bp,.cells (flat Be.row (p.set k b)).toArray dD (0,0))]) A1)):
  bG aV main Jp #[PZ vf vs mv,.pointer (some ⟨bp,0,none⟩),I k,b.val,dov] h (A++[(bp,.cells (flat Be.row p).toArray dD (0,0))]) (fun v A'=>∃B,P v B/\Sb (B++[(bp,.cells (flat Be.row p).toArray dD (0,0))]) A'):=by
 obtain⟨a,cap,rfl⟩:=hf.aU;obtain⟨a',f_,rfl⟩:=hs.aU;have hlen:=hp.ok.len;have QH:k<4:=by have:=aO.ns;omega
 have oH:=uI hp.ok;have hp':=pO hp hk hb;have acW:=uI hp'.ok;have hold:(flat Be.row p).toArray.extract (0+k*2) (0+k*2+2)= #[I (dB p k).fl,I (dB p k).day]:=by rw[Nat.zero_add];exact aeS hp.ok QH
 have WT:(p.set k b).set k (dB p k)=p:=by
  rw[List.set_set];apply List.ext_getElem?;intro j;rw[List.getElem?_set];split
  ·rename_i e;subst e;have:=(nG hp.ok QH).1;rw[this];simp[hlen,QH]
  rfl
 refine bG.perm (A:=(bp,.cells (flat Be.row p).toArray dD (0,0))::A) (dK (l₁:=[_])) ?_;refine bG.bH func103 [(0,PZ (.slice a fs.length cap) (.slice a' ss.length f_) mv),(1,.pointer (some ⟨bp,0,none⟩)),(2,I k),(3,b.val),(4,dov)] ?_;refine d_ ?_;refine aA.box (fun iI=>?_);refine aA.box (fun mX=>?_);refine aA.box (fun yc=>?_);refine aA.box (fun zC=>?_);refine gI ?_;refine W.jS (n:=7) O ?_;refine ay 0 ?_;refine ay 1 ?_;refine ay 2 ?_
 first | refine fJ 3 (rM rfl rfl rfl) rfl ?_ | refine fJ 3 (kU rfl rfl rfl) rfl ?_
 refine ay 4 ?_;refine ae (i:=5) O an O O (eN O (fun zH=>?_));refine⟨.inr aiJ,?_⟩
 first | refine ae (i:=6) rfl an rfl rfl (eSW rfl rfl rfl ?_) | refine ae (i:=6) rfl an rfl rfl (eSA rfl rfl rfl ?_)
 refine⟨.inl aB,?_⟩;refine az ?_;refine d_ ?_;refine W.kQ [(zC,.cells #[I b.fl,I b.day] ku (0,0)),(yc,.cells #[I k] aX (0,0)),(mX,.cells #[.pointer (some ⟨bp,0,none⟩)] aaP (0,0))] (n:=6) O ?_;refine ay 0 ?_;refine ay 1 ?_;refine ay 2 ?_;refine ay 3 ?_
 first | refine fJ 4 (rM rfl rfl rfl) rfl ?_ | refine fJ 4 (kU rfl rfl rfl) rfl ?_
 first | refine ae (i:=5) rfl an rfl rfl (eSW rfl rfl rfl ?_) | refine ae (i:=5) rfl an rfl rfl (eSA rfl rfl rfl ?_)
 refine⟨.inl aB,?_⟩;refine az ?_;refine d_ ?_;rw[JU aj];refine d_ ?_;refine aA.defer (d:={target:=.fn (.func oI) #[.pointer (some ⟨zH,0,none⟩),.pointer (some ⟨mX,0,none⟩),.pointer (some ⟨yc,0,none⟩)],args:= #[]}) O (aK O) O wn O (fun e he=>?_) ?_
 ·have e3:e (.tmp 24)= .func (.func oI) #[] #[.pointer (some ⟨zH,0,none⟩),.pointer (some ⟨mX,0,none⟩),.pointer (some ⟨yc,0,none⟩)]:=he _ _ O;simp[resolve,Deferred.ofValue,e3,au]
 refine kR ?_;refine W.aJ O (fun ZH=>?_) (fun ZH=>?_)
 ·obtain⟨fl,CV,-⟩:=has (show b.fl.toNat<fs.length by omega);have hfe:jr fs b.fl=fl:=by simp[jr,List.getD,CV]
  obtain⟨b0,off,c,E,fz,rfl,hb0,hx,hy,hz⟩:=hf.at CV;have hz0:c[off+b.fl.toNat*4+0]? =some (I fl.pl):=hz 0 dF;have aze:b.fl<fs.length:=hb.2.2.1;refine W.seq ?_;refine W.jS (n:=9) O ?_;refine ay 0 ?_;refine fJ 1 (Qm (vs:= #[.slice (some ⟨b0,off,none⟩) fs.length cap,.slice a' ss.length f_]) O O (hn:=by show 0+2<=3;decide) (hv:=by rfl)) O ?_;refine ay 2 ?_;refine ay 3 ?_;refine ay 4 ?_;refine ay 5 ?_;refine ay 6 ?_;refine ay 8 ?_;refine acp (i:=7) (fun h' hE hL=>WY _ h' fs ss (p.set k b) b.fl _ _ (hf.ext hE) (hs.ext hE) aO hp' ZH hb.2.2.1) ?_;refine az ?_;refine d_ ?_;obtain⟨D,hD⟩:∃D,mY fs ss (p.set k b) b.fl=D:=⟨_,rfl⟩
  have hDl:D.length=22:=by rw[<-hD];exact xu
  have hDs:=Nu hDl;rw[hD];have qw:prune fs ss (p.set k b) b=over fl.pl D:=by simp only[prune];rw[if_pos ZH,hfe,hD]
  refine W.loop (σ:=Nat) (fun j=>j<=22/\∀i,i<j->∀s,D[i]? =some s->¬fl.pl<s.hi) (fun j=>[(36,I j),(35,aiO D),(5,.pointer (some ⟨iI,0,none⟩)),(8,.pointer (some ⟨zC,0,none⟩)),(4,dov)]) (fun _=>(zH,.cells #[I (dB p k).fl,I (dB p k).day] ku (0,0))::(zC,.cells #[I b.fl,I b.day] ku (0,0))::(yc,.cells #[I k] aX (0,0))::(mX,.cells #[.pointer (some ⟨bp,0,none⟩)] aaP (0,0))::(iI,.cells #[.slice (some ⟨b0,off,none⟩) fs.length cap,.slice a' ss.length f_,mv] Ib (0,0))::(bp,.cells (flat Be.row (p.set k b)).toArray dD (0,0))::A) (fun j=>22-j) 0 ⟨Nat.zero_le _,fun i hi=>absurd hi (Nat.not_lt_zero _)⟩ iw .refl ?_;rintro j ⟨hj,hn⟩;refine kJ ?_;refine W.aJ O (fun c37=>?_) (fun c37=>?_)
  ·obtain⟨s,hsk,yI⟩:=has (show j<D.length by omega);have hex:(flat Sp.row D).toArray.extract ((j:Int).toNat*2) ((j:Int).toNat*2+2)= #[I s.lo,I s.hi]:=aeT hsk;refine lg ?_
   first | refine b_ (QT rfl rfl rfl aj aj (by first | assumption | rfl)) rfl ?_ | refine b_ (L6 rfl rfl rfl aj aj (by first | assumption | rfl)) rfl ?_
   refine aA.new (fun yg=>?_);refine gI ?_;refine W.jS (n:=12) O ?_;refine ay 0 ?_;refine ay 1 ?_;refine ay 2 ?_;refine ay 3 ?_;refine ay 4 ?_;refine ay 5 ?_;refine ay 6 ?_;refine ay 7 ?_;refine ay 8 ?_;refine ay 9 ?_;refine ay 10 ?_;refine ay 11 ?_;refine az ?_;refine fH ?_;refine W.aJ O (fun c50=>?_) (fun c50=>?_)
   ·refine gZ ?_;have hpt:prune fs ss (p.set k b) b=true:=by rw[qw,I7 hn,yI];simp only[over];rw[if_pos c50]
    refine Ie (A:=[(bp,.cells (flat Be.row (p.set k b)).toArray dD (0,0))]) (.tail (.tail (.tail (.tail (.tail (.tail .head)))))) (fun h' hE hL=>Ig _ h' (p.set k b) k (dB p k) bp zH mX yc _ _ _ _ _ _ QH hp'.ok.len (hL _ _ (.tail _ (.head _))) (hL _ _ (.tail _ (.tail _ (.tail _ (.tail _ (.head _)))))) (hL _ _ (.tail _ (.tail _ (.tail _ (.head _)))))) (fun A' hA'=>?_);subst hA';rw[WT];refine iQ (vs:=[.bool true]) ⟨A,apO hpt,?_⟩;refine(Sb.aT dK).trans ?_;exact .cons (.skip O (.skip O (.skip O (.skip O (.skip O (.skip O .refl))))))
   refine jk ?_;refine⟨O,j+1,⟨aj,fun i hi s' xK=>?_⟩,aj,iw,.skip O .refl⟩;rcases(by omega:i<j\/i=j)with hi | rfl
   ·exact hn i hi s' xK
   rw[hsk]at xK;cases xK;exact c50
  refine lg ?_
  have hpf:prune fs ss (p.set k b) b=false:=by
   first
   | (rw[qw,I7 hn,show j=D.length by omega];simp[over])
   | (simp only[prune];rw[if_neg ZH])
  refine d_ ?_;refine aA.perm (F':=(A++[(bp,.cells (flat Be.row (p.set k b)).toArray dD (0,0))])++_) (dK.trans ((dK (l₁:=A) (l₂:=[_])).append_left [_,_,_,_,_])) ?_;refine cgv .head (fun h' hE hL=>hdo hpf h' hE) (fun v A1 hv=>?_);obtain⟨r,rfl,B,hPB,bF⟩:=hv;refine aA.sb (F':=[(bp,.cells (flat Be.row (p.set k b)).toArray dD (0,0))]++(B++_)) (((Sb.aT dK).trans bF).app .refl |> Sb.trans (.aT (by rw[eF]))) ?_;refine gI ?_;refine Ie (A:=[(bp,.cells (flat Be.row (p.set k b)).toArray dD (0,0))]) .head (fun h' hE hL=>Ig _ h' (p.set k b) k (dB p k) bp zH mX yc _ _ _ _ _ _ QH hp'.ok.len (hL _ _ (bZ [] (bZ _ zS))) (hL _ _ (bZ [] (bZ _ zS))) (hL _ _ (bZ [] (bZ _ zS)))) (fun A' hA'=>?_);subst hA';rw[WT];refine iQ (vs:=[.bool r]) ⟨B,hPB,?_⟩;refine(Sb.aT dK).trans (.app .refl ?_);exact(show Sb B (B++[_,_,_,_,_])from .right .refl (.cons O (.cons O (.cons O (.cons O (.cons O .nil))))))
 refine gI ?_
 have hpf:prune fs ss (p.set k b) b=false:=by
  first
  | (rw[qw,I7 hn,show j=D.length by omega];simp[over])
  | (simp only[prune];rw[if_neg ZH])
 refine d_ ?_;refine aA.perm (F':=(A++[(bp,.cells (flat Be.row (p.set k b)).toArray dD (0,0))])++_) (dK.trans ((dK (l₁:=A) (l₂:=[_])).append_left [_,_,_,_,_])) ?_;refine cgv .head (fun h' hE hL=>hdo hpf h' hE) (fun v A1 hv=>?_);obtain⟨r,rfl,B,hPB,bF⟩:=hv;refine aA.sb (F':=[(bp,.cells (flat Be.row (p.set k b)).toArray dD (0,0))]++(B++_)) (((Sb.aT dK).trans bF).app .refl |> Sb.trans (.aT (by rw[eF]))) ?_;refine gI ?_;refine Ie (A:=[(bp,.cells (flat Be.row (p.set k b)).toArray dD (0,0))]) .head (fun h' hE hL=>Ig _ h' (p.set k b) k (dB p k) bp zH mX yc _ _ _ _ _ _ QH hp'.ok.len (hL _ _ (bZ [] (bZ _ zS))) (hL _ _ (bZ [] (bZ _ zS))) (hL _ _ (bZ [] (bZ _ zS)))) (fun A' hA'=>?_);subst hA';rw[WT];refine iQ (vs:=[.bool r]) ⟨B,hPB,?_⟩;refine(Sb.aT dK).trans (.app .refl ?_);exact(show Sb B (B++[_,_,_,_,_])from .right .refl (.cons O (.cons O (.cons O (.cons O (.cons O .nil))))))
end Go.jc

namespace Go.Proofs.YtjohlemgkcpoeaaGreatDoor
open Go Go.jc
instance:TD Tryz.prog 35 (.struct #[⟨"Lo",3,0,false, "", "",0⟩,⟨"Hi",3,1,false, "", "",8⟩]):=⟨aB⟩
instance:TD Tryz.prog 58 (.struct #[⟨"Floor",3,0,false, "", "",0⟩,⟨"Day",3,1,false, "", "",8⟩]):=⟨aB⟩
instance:SC Tryz.prog 86:=⟨aB⟩
instance:TD Tryz.prog 98 (.struct #[⟨"way",22,0,false, "", "muscovado/month",0⟩,⟨"day",3,1,false, "", "muscovado/month",24⟩]):=⟨aB⟩
instance:TD Tryz.prog 134 (.struct #[]):=⟨aB⟩
instance:TD Tryz.prog 159 (.struct #[⟨"Day",3,0,false, "", "",0⟩,⟨"Cones",3,1,false, "", "",8⟩,⟨"Wait",3,2,false, "", "",16⟩]):=⟨aB⟩
instance:SC Tryz.prog 162:=⟨aB⟩
instance:TI Tryz.prog 162 1 8 .nilFunc #[.nilFunc]:=⟨aB,rfl⟩
instance:SC Tryz.prog 168:=⟨aB⟩
instance:SC Tryz.prog 210:=⟨aB⟩
instance:SC Tryz.prog 306:=⟨aB⟩
end Go.Proofs.YtjohlemgkcpoeaaGreatDoor

namespace Go.jc
def Y7(main:aN)(mv:Value)(may:PY)(h:Hp):Prop:=∀h',Ext h h'->∀k:Nat,k<4->PuV aV main mv [I k] h' (.tuple #[.bool (may k).1,.bool (may k).2])
variable{A F:ah}{E t:TypeId}{P:Program}{Q:fO}{U:Obj->ah}{X α σ:Type}{a:Option Addr}{b:Bool}{c:Nat}{ds:List Deferred}{fs:List Fl}{h h':Hp}{p:X}{ss:List St}{v z:Value}{x:Cx}{xs:List X}{y:Nat×Obj}{zc:Array Value}{ρ:Env}{s s':σ}
theorem Y7.ext{main:aN}{mv:Value}{may:PY}(H:Y7 main mv may h)(e:Ext h h'):Y7 main mv may h':=fun h2 e2=>H h2 (e.trans e2)

abbrev atn(b2 b3:Nat):Value:=.func (.func sS) #[] #[.pointer (some ⟨b2,0,none⟩),.pointer (some ⟨b3,0,none⟩)]
theorem Xa(main:aN)(h:Hp)(vf vs mv:Value)(k:Nat)(h1:one vf=true)(h2:one vs=true)(h3:one mv=true):bG aV main FY #[PZ vf vs mv,I k] h [] (fun v A=>∃b2 b3,v=atn b2 b3/\A=[(b3,.cells #[I k] aX (0,0)),(b2,.cells #[vf,vs,mv] Ib (0,0))]):=by
 refine bG.bH func102 [(0,PZ vf vs mv),(1,I k)] ?_;refine d_ ?_;refine aA.box (fun oJ=>?_);refine aA.box (fun nP=>?_);refine kR ?_;exact iQ ⟨_,_,O,O⟩

theorem Xb{step:σ->X->σ×Bool}(h:step s p=(s',false)):runs step s (p::xs)=(s',false):=by simp only[runs,h]
theorem al2{step:σ->X->σ×Bool}(h:step s p=(s',true)):runs step s (p::xs)=runs step s' xs:=by simp only[runs,h]
theorem Bd{r:σ×Bool}(h:r.2=b):∃s',r=(s',b):=⟨r.1,by rw[<-h]⟩

theorem Y8(h:(!b)=true):b=false:=by simpa using h
theorem aiV(h:(!b)=false):b=true:=by simpa using h
section
variable{σ X:Type}{step:σ->X->σ×Bool}{s:σ}{p:X}{xs rest:List X}{J K:σ->ah->Prop}{B:ah}
theorem Xc(e:(!(step s p).2)=true)(h:match step s p with | (s,true)=>J s B | (s,false)=>K s B)(hG:opn y.2=false):Out J K (runs step s (p::rest)) (y::B):=by
 obtain⟨s',hs⟩:=Bd (Y8 e);rw[hs]at h;exact⟨B,.skip hG .refl,by rw[Xb hs];exact h⟩
theorem Uj(hx:xs=p::rest)(e:(!(step s p).2)=true)(h:match step s p with | (s,true)=>J s B | (s,false)=>K s B):Out J K (runs step s xs) B:=by
 obtain⟨s',hs⟩:=Bd (Y8 e);rw[hs]at h;exact⟨B,.refl,by rw[hx,Xb hs];exact h⟩
theorem Y9(hx:xs=[p])(e:(!(step s p).2)=false)(h:match step s p with | (s,true)=>J s B | (s,false)=>K s B):Out J K (runs step s xs) B:=by
 obtain⟨s',hs⟩:=Bd (aiV e);rw[hs]at h;exact⟨B,.refl,by rw[hx,al2 hs];exact h⟩
theorem Uk(hx:xs=[])(h:J s B):Out J K (runs step s xs) B:=⟨B,.refl,by rw[hx];exact h⟩
theorem aaY(hx:xs=p::rest)(e:(!(step s p).2)=false)(h:match step s p with | (s,true)=>J s B | (s,false)=>K s B):∃s1,J s1 B/\ZY step s xs s1 rest:=by
 obtain⟨s',hs⟩:=Bd (aiV e);rw[hs]at h;exact⟨s',h,by rw[hx];exact ZY.zero.next hs⟩
end
theorem P5(main:aN)(h:Hp)(fs:List Fl)(ss:List St)(may:PY)(k:Nat)(vf vs mv:Value)(b2 b3:Nat)(E2 E3:TypeId)(z2 z3:Nat×Nat)(hf:Sl h Fl.row vf fs)(hs:Sl h St.row vs ss)(aO:dV fs ss)(hk:k<ss.length)(hm:Y7 main mv may h)
  (h2:h b2=some (.cells #[vf,vs,mv] E2 z2)) (h3:h b3=some (.cells #[I k] E3 z3)):Iter aV main (atn b2 b3) Be.val (bI fs ss may k) h:=by
 intro h' Bc yv YZ σ nx step J K hy s A Y0 hJ;have h2':=Bc.1 _ _ h2;have h3':=Bc.1 _ _ h3;have hs0:=hs.ext Bc;obtain⟨a,cap,rfl⟩:=hf.aU;obtain⟨a',f_,rfl⟩:=hs.aU;have QH:k<4:=by have:=aO.ns;omega
 have Q_:=aO.nf;obtain⟨x,hx,-⟩:=has hk;have Sz:ru ss k=x:=by simp[ru,List.getD,hx]
 have hxo:=aO.st x (dL hx);obtain⟨b,off,c,E,fz,rfl,hb,Vh,YZ,Gq⟩:=hs0.at hx;have hx2:c.extract (off+k*3) (off+k*3+3)= #[I x.day,I x.co,I x.wa]:=Vh;clear Vh Gq;obtain⟨inn,Gn⟩:∃i,(may k).1=i:=⟨_,rfl⟩
 obtain⟨out,al3⟩:∃i,(may k).2=i:=⟨_,rfl⟩
 have hB:bI fs ss may k=(if out then[fZ]else[])++(if inn then dJ x 0 fs.length else[]):=by simp only[bI,Gn,al3,Sz]
 refine gG.o9 (f:=sS) (fi:=[]) (ca:=[.pointer (some ⟨b2,0,none⟩),.pointer (some ⟨b3,0,none⟩)]) ?_;refine bG.bH func154 [(0,yv),(1,.pointer (some ⟨b2,0,none⟩)),(2,.pointer (some ⟨b3,0,none⟩))] ?_;refine kJ ?_;refine cv (fun h2 hE hL=>hm h2 (Bc.trans hE) k QH) ?_;rw[Gn,al3];refine iC ?_;refine aA.aiL (fun KT=>?_) (fun KT=>?_)
 ·refine d_ ?_;have ho:out=true:=KT;refine aA.perm (F':=A++[]) (by simp) ?_;refine cgv .head (fun h2 hE hL=>hy h2 hE s fZ A (Y0.far (rest:=if inn then dJ x 0 fs.length else[]) (by rw[hB,ho];exact .zero)) hJ) (fun r B1 TP=>?_);obtain⟨rfl,A,bF,Y_⟩:=TP;refine aA.sb (F':=A) (by simpa using bF) ?_;refine gI ?_;refine aA.aiL (fun KU=>?_) (fun KU=>?_)
  ·refine lF ?_;refine W.kG ?_;refine d_ ?_
   first
   | exact iQ (Uj (rest:=if inn then dJ x 0 fs.length else[]) (by rw[hB,KT];rfl) KU Y_)
   | exact iQ (Y9 (by rw[hB,KT,Y8 Rf];rfl) KU Y_)
   | exact iQ (Uk (by rw[hB,KT,Y8 Rf];rfl) hJ)
  refine lF ?_;refine W.cond O (fun Rf=>?_) (fun Rf=>?_)
  ·refine d_ ?_
   first
   | exact iQ (Uj (rest:=if inn then dJ x 0 fs.length else[]) (by rw[hB,KT];rfl) KU Y_)
   | exact iQ (Y9 (by rw[hB,KT,Y8 Rf];rfl) KU Y_)
   | exact iQ (Uk (by rw[hB,KT,Y8 Rf];rfl) hJ)
  have aiW:inn=true:=by simpa using Rf
  obtain⟨s1,hJ1,uT⟩:∃s1,J s1 A/\ZY step s (bI fs ss may k) s1 (dJ x 0 fs.length):=by
   first
   | exact⟨s,hJ,by rw[hB,aiW,KT];exact .zero⟩
   | exact aaY (by rw[hB,aiW,KT];rfl) KU Y_
  refine iC ?_;refine aA.new (fun mX=>?_);refine oz ?_;refine W.uq (fun(j:Nat) (t:σ) (C:ah)=>j<=fs.length/\J t C/\ZY step s (bI fs ss may k) t (dJ x j (fs.length-j))) (fun j t C=>[(39,I j),(38,I fs.length),(6,.pointer (some ⟨mX,0,none⟩)),(0,yv)]) (fun j t C=>(mX,.cells #[I x.day,I x.co,I x.wa] pG (0,0))::C) (fun j _ _=>fs.length-j) 0 s1 A ⟨Nat.zero_le _,hJ1,uT⟩ iw .refl ?_;rintro j t C ⟨hj,hJt,hr⟩;refine kJ ?_;refine W.aJ O (fun c40=>?_) (fun c40=>?_)
  ·obtain⟨m0,hm0⟩:∃m0,fs.length-j=m0+1:=⟨fs.length-j-1,aj⟩
   rw[hm0]at hr;have apR:fs.length- (j+1)=m0:=by omega
   refine Qv ?_;refine W.uq (fun(m:Nat) (t:σ) (C:ah)=>m<=(x.wa+1).toNat/\J t C/\ZY step s (bI fs ss may k) t (kL j (x.day+(x.wa+1-m)) m++dJ x (j+1) m0)) (fun m t C=>[(8,I (x.day+(x.wa+1-m))),(7,I j),(39,I j),(38,I fs.length),(6,.pointer (some ⟨mX,0,none⟩)),(0,yv)]) (fun m t C=>(mX,.cells #[I x.day,I x.co,I x.wa] pG (0,0))::C) (fun m _ _=>m) (x.wa+1).toNat t C ⟨Nat.le_refl _,hJt,by rw[show x.day+(x.wa+1- ((x.wa+1).toNat:Int))=x.day by omega];exact hr⟩ ⟨lk O (show I _=I _ by congr 1;omega),O,O,O,O,O,trivial⟩ .refl ?_;clear hr hJt;rintro m t C ⟨hm,hJt,hr⟩;refine iC ?_;refine W.aJ O (fun c50=>?_) (fun c50=>?_)
   ·obtain⟨m1,rfl⟩:∃m1,m=m1+1:=⟨m-1,aj⟩
    obtain⟨d,hd⟩:∃d,x.day+(x.wa+1- ((m1+1:Nat):Int))=d:=⟨_,rfl⟩
    rw[hd]at hr⊢;rw[kL,List.cons_append]at hr;refine gZ ?_;refine cgv (.tail .all) (fun h2 hE hL=>hy h2 hE t ⟨j,d⟩ C (Y0.far hr) hJt) (fun r B1 TP=>?_);obtain⟨rfl,C2,bF,Y_⟩:=TP;refine aA.sb (.cons bF) ?_;refine d_ ?_;refine W.cond O (fun c58=>?_) (fun c58=>?_)
    ·refine FT ?_;refine iQ ?_;rw[hr.eq];exact Xc c58 Y_ O
    refine kR ?_;obtain⟨t',ht⟩:=Bd (aiV c58);rw[ht]at Y_;refine⟨O,m1,t',C2,⟨aj,Y_,?_⟩,aj,⟨lk O (show I _=I _ by congr 1;omega),O,O,O,O,O,trivial⟩,.refl⟩;have:=hr.next ht;rwa[show d+1=x.day+(x.wa+1-m1) by omega]at this
   have:m=0:=by omega
   subst this;refine gZ ?_;exact⟨O,j+1,t,C,⟨aj,hJt,by rw[apR];exact hr⟩,aj,iw,.refl⟩
  refine lF ?_;refine iQ ⟨C,.skip O .refl,?_⟩;rw[hr.eq,show fs.length-j=0 by omega];exact hJt
 refine gZ ?_;refine W.cond O (fun Rf=>?_) (fun Rf=>?_)
 ·refine d_ ?_
  first
  | exact iQ (Uj (rest:=if inn then dJ x 0 fs.length else[]) (by rw[hB,KT];rfl) KU Y_)
  | exact iQ (Y9 (by rw[hB,KT,Y8 Rf];rfl) KU Y_)
  | exact iQ (Uk (by rw[hB,KT,Y8 Rf];rfl) hJ)
 have aiW:inn=true:=by simpa using Rf
 obtain⟨s1,hJ1,uT⟩:∃s1,J s1 A/\ZY step s (bI fs ss may k) s1 (dJ x 0 fs.length):=by
  first
  | exact⟨s,hJ,by rw[hB,aiW,KT];exact .zero⟩
  | exact aaY (by rw[hB,aiW,KT];rfl) KU Y_
 refine iC ?_;refine aA.new (fun mX=>?_);refine oz ?_;refine W.uq (fun(j:Nat) (t:σ) (C:ah)=>j<=fs.length/\J t C/\ZY step s (bI fs ss may k) t (dJ x j (fs.length-j))) (fun j t C=>[(39,I j),(38,I fs.length),(6,.pointer (some ⟨mX,0,none⟩)),(0,yv)]) (fun j t C=>(mX,.cells #[I x.day,I x.co,I x.wa] pG (0,0))::C) (fun j _ _=>fs.length-j) 0 s1 A ⟨Nat.zero_le _,hJ1,uT⟩ iw .refl ?_;rintro j t C ⟨hj,hJt,hr⟩;refine kJ ?_;refine W.aJ O (fun c40=>?_) (fun c40=>?_)
 ·obtain⟨m0,hm0⟩:∃m0,fs.length-j=m0+1:=⟨fs.length-j-1,aj⟩
  rw[hm0]at hr;have apR:fs.length- (j+1)=m0:=by omega
  refine Qv ?_;refine W.uq (fun(m:Nat) (t:σ) (C:ah)=>m<=(x.wa+1).toNat/\J t C/\ZY step s (bI fs ss may k) t (kL j (x.day+(x.wa+1-m)) m++dJ x (j+1) m0)) (fun m t C=>[(8,I (x.day+(x.wa+1-m))),(7,I j),(39,I j),(38,I fs.length),(6,.pointer (some ⟨mX,0,none⟩)),(0,yv)]) (fun m t C=>(mX,.cells #[I x.day,I x.co,I x.wa] pG (0,0))::C) (fun m _ _=>m) (x.wa+1).toNat t C ⟨Nat.le_refl _,hJt,by rw[show x.day+(x.wa+1- ((x.wa+1).toNat:Int))=x.day by omega];exact hr⟩ ⟨lk O (show I _=I _ by congr 1;omega),O,O,O,O,O,trivial⟩ .refl ?_;clear hr hJt;rintro m t C ⟨hm,hJt,hr⟩;refine iC ?_;refine W.aJ O (fun c50=>?_) (fun c50=>?_)
  ·obtain⟨m1,rfl⟩:∃m1,m=m1+1:=⟨m-1,aj⟩
   obtain⟨d,hd⟩:∃d,x.day+(x.wa+1- ((m1+1:Nat):Int))=d:=⟨_,rfl⟩
   rw[hd]at hr⊢;rw[kL,List.cons_append]at hr;refine gZ ?_;refine cgv (.tail .all) (fun h2 hE hL=>hy h2 hE t ⟨j,d⟩ C (Y0.far hr) hJt) (fun r B1 TP=>?_);obtain⟨rfl,C2,bF,Y_⟩:=TP;refine aA.sb (.cons bF) ?_;refine d_ ?_;refine W.cond O (fun c58=>?_) (fun c58=>?_)
   ·refine FT ?_;refine iQ ?_;rw[hr.eq];exact Xc c58 Y_ O
   refine kR ?_;obtain⟨t',ht⟩:=Bd (aiV c58);rw[ht]at Y_;refine⟨O,m1,t',C2,⟨aj,Y_,?_⟩,aj,⟨lk O (show I _=I _ by congr 1;omega),O,O,O,O,O,trivial⟩,.refl⟩;have:=hr.next ht;rwa[show d+1=x.day+(x.wa+1-m1) by omega]at this
  have:m=0:=by omega
  subst this;refine gZ ?_;exact⟨O,j+1,t,C,⟨aj,hJt,by rw[apR];exact hr⟩,aj,iw,.refl⟩
 refine lF ?_;refine iQ ⟨C,.skip O .refl,?_⟩;rw[hr.eq,show fs.length-j=0 by omega];exact hJt
def aiX{σ:Type}(J K:σ->ah->Prop)(r:σ×Bool)(B:ah):Prop:=match r with | (s,true)=>J s B | (s,false)=>K s B
theorem O4{σ X Y:Type}(step:σ->Y->σ×Bool)(g:X->List Y):∀(xs:List X) (s:σ),match(runs (jD (fun s b=>(runs step s (g b)).1) (fun s b=>if(runs step s (g b)).2 then none else some Exit.ret)) (s,none) xs).1 with
    | (s',none)=>runs step s (xs.flatMap g)=(s',true)
    | (s',some e)=>e= .ret/\runs step s (xs.flatMap g)=(s',false)
  | [],s=>rfl
  | x::xs,s=>by
    rw[List.flatMap_cons,GY];obtain⟨⟨s',b⟩,hb⟩:∃r,runs step s (g x)=r:=⟨_,rfl⟩
    cases b with
    | true=>
      have h1:(runs (jD (fun s b=>(runs step s (g b)).1) (fun s b=>if(runs step s (g b)).2 then none else some Exit.ret)) (s,none) (x::xs))=runs (jD (fun s b=>(runs step s (g b)).1) (fun s b=>if(runs step s (g b)).2 then none else some Exit.ret)) (s',none) xs:=by
        simp only[runs,jD,hb,if_true,Option.isNone_none]
      rw[h1,hb];exact O4 step g xs s'
    | false=>
      have h1:(runs (jD (fun s b=>(runs step s (g b)).1) (fun s b=>if(runs step s (g b)).2 then none else some Exit.ret)) (s,none) (x::xs)).1=(s',some Exit.ret):=by
        simp[runs,jD,hb]
      rw[h1,hb];exact⟨O,O⟩

abbrev an3(bs bp yb bf:Nat):Value:=.func (.func qV) #[] #[.pointer (some ⟨bs,0,none⟩),.pointer (some ⟨bp,0,none⟩),.pointer (some ⟨yb,0,none⟩),.pointer (some ⟨bf,0,none⟩)]
abbrev doV(bf b5:Nat):Value:=.func (.func pF) #[] #[.pointer (some ⟨bf,0,none⟩),.pointer (some ⟨b5,0,none⟩)]

theorem ato(main:aN)(h:Hp)(fv:Value)(bf b5 k:Nat)(Ef E5:TypeId)(zf z5:Nat×Nat)(F:ah)(R:Value->ah->Prop)(WZ:one fv=true)(hk:k<=4)(Za:h bf=some (.cells #[fv] Ef zf))(hb5:h b5=some (.cells #[I k] E5 z5))
    (H:∀h',Ext h h'->gG aV main fv [I ((k+1:Nat):Int)] h' F R):gG aV main (doV bf b5) [] h F R:=by
  refine gG.o9 (f:=pF) (fi:=[]) (ca:=[.pointer (some ⟨bf,0,none⟩),.pointer (some ⟨b5,0,none⟩)]) ?_;refine bG.bH func104 [(0,.pointer (some ⟨bf,0,none⟩)),(1,.pointer (some ⟨b5,0,none⟩))] ?_;refine kR ?_;refine b_ (Yv.eq (acU O O O) (show I _=I ((k+1:Nat):Int) by congr 1)) O ?_;refine cgv .all (fun h2 hE hL=>H h2 hE) (fun v B hv=>?_);refine gI ?_;exact iQ (vs:=[v]) hv

theorem al4(main:aN)(fs:List Fl)(ss:List St)(may:PY)(vf vs mv yv:Value)(bs bp yb bf:Nat)(Es Ey Ef Eg:TypeId)(zs zy zf zg:Nat×Nat)(aO:dV fs ss)(Q9:one mv=true)(YZ:one yv=true)(nx:List Be->σ->Prop)(step:σ->List Be->σ×Bool)(J K:σ->ah->Prop):
    ∀(m k:Nat) (p:List Be) (h:Hp) (s:σ) (A:ah),k+m=ss.length->nY fs ss p->Sl h Fl.row vf fs->Sl h St.row vs ss->Y7 main mv may h->
      h bs=some (.cells #[vf,vs,mv] Es zs)->h yb=some (.cells #[yv] Ey zy)->h bf=some (.cells #[an3 bs bp yb bf] Ef zf)->h 0=some (.cells #[QI kC] Eg zg)->
      Yld aV main yv h jI nx step J K->SA nx step s (iD fs ss may m k p)->J s A->
      bG aV main qV #[I k,.pointer (some ⟨bs,0,none⟩),.pointer (some ⟨bp,0,none⟩),.pointer (some ⟨yb,0,none⟩),.pointer (some ⟨bf,0,none⟩)] h (A++[(bp,.cells (flat Be.row p).toArray dD (0,0))])
        (fun v A'=>v= .bool (runs step s (iD fs ss may m k p)).2/\∃B,aiX J K (runs step s (iD fs ss may m k p)) B/\Sb (B++[(bp,.cells (flat Be.row p).toArray dD (0,0))]) A'):=by
  intro m
  induction m with
  | zero=>
    intro k p h s A hk hp hf hs apU hbs hyb Za hg hy Y0 hJ;have oH:=uI hp.ok;have hn4:=aO.ns;obtain⟨a,cap,rfl⟩:=hf.aU;obtain⟨a',f_,rfl⟩:=hs.aU;refine bG.perm (A:=(bp,.cells (flat Be.row p).toArray dD (0,0))::A) (dK (l₁:=[_])) ?_;refine bG.bH func100 [(0,I k),(1,.pointer (some ⟨bs,0,none⟩)),(2,.pointer (some ⟨bp,0,none⟩)),(3,.pointer (some ⟨yb,0,none⟩)),(4,.pointer (some ⟨bf,0,none⟩))] ?_;refine d_ ?_;refine aA.box (fun iI=>?_);refine aA.new (fun mX=>?_);refine oz ?_;refine W.aJ O (fun WW=>?_) (fun WW=>?_)
    · refine gI ?_;refine b_ (Qm (vs:= #[.slice a fs.length cap,.slice a' ss.length f_]) O O (.inl hbs) (by show 0+0+2<=3;decide) O) O ?_;refine asR O ?_;refine cp (fun h' hE hL=>adu _ h' fs ss p _ _ Eg zg (hf.ext hE) (hs.ext hE) aO hp (hE.1 _ _ hg)) ?_;refine b_ (alZ O O) O ?_;refine zT ?_;refine aA.aiL (fun al6=>?_) (fun al6=>?_)
      · refine kR ?_
        first
        | (
           refine AY (hv:=rSc nM) ⟨?_,B,?_,?_⟩
           · rw[hri];obtain⟨⟨s',b⟩,fP⟩:∃r,step s p=r:=⟨_,rfl⟩
             cases b <;>simp only[runs,fP] <;>rfl
           · rw[hri];revert Y_;obtain⟨⟨s',b⟩,fP⟩:∃r,step s p=r:=⟨_,rfl⟩
             cases b <;>simp only[runs,fP,aiX] <;>exact id
           exact(Sb.aT dK).trans (.skip O (.skip O (.cons bF))))
        | (
           have Gn:(xB fs ss p).isNone=false:=by simpa using al6
           have hri:iD fs ss may 0 k p=[]:=by simp only[iD,Gn,eU,if_false]
           refine AY (hv:=rSc nM) ⟨by rw[hri];rfl,A,by rw[hri];exact hJ,?_⟩;exact(Sb.aT dK).trans (.skip O (.skip O .refl)))
      refine zT ?_
      first | refine kw_ (ZW rfl rfl) rfl ?_ | refine kw_ (Qm rfl rfl) rfl ?_
      have Gn:(xB fs ss p).isNone=true:=by simpa using al6
      have hri:iD fs ss may 0 k p=[p]:=by simp only[iD,Gn,if_true]
      refine cgv (.tail (.tail (.tail .all))) (fun h2 hE hL=>hy h2 hE s p A (Y0.far (rest:=[]) (by rw[hri];exact .zero)) hJ) (fun r B1 TP=>?_);obtain⟨rfl,B,bF,Y_⟩:=TP;refine kJ ?_
      first
      | (
         refine AY (hv:=rSc nM) ⟨?_,B,?_,?_⟩
         · rw[hri];obtain⟨⟨s',b⟩,fP⟩:∃r,step s p=r:=⟨_,rfl⟩
           cases b <;>simp only[runs,fP] <;>rfl
         · rw[hri];revert Y_;obtain⟨⟨s',b⟩,fP⟩:∃r,step s p=r:=⟨_,rfl⟩
           cases b <;>simp only[runs,fP,aiX] <;>exact id
         exact(Sb.aT dK).trans (.skip O (.skip O (.cons bF))))
      | (
         have Gn:(xB fs ss p).isNone=false:=by simpa using al6
         have hri:iD fs ss may 0 k p=[]:=by simp only[iD,Gn,eU,if_false]
         refine AY (hv:=rSc nM) ⟨by rw[hri];rfl,A,by rw[hri];exact hJ,?_⟩;exact(Sb.aT dK).trans (.skip O (.skip O .refl)))
    exact absurd WW aj
  | succ m ih=>
    intro k p h s A hk hp hf hs apU hbs hyb Za hg hy Y0 hJ;have oH:=uI hp.ok;have hn4:=aO.ns;have zI:k<ss.length:=by omega
    obtain⟨a,cap,rfl⟩:=hf.aU;obtain⟨a',f_,rfl⟩:=hs.aU;obtain⟨g,Oy⟩:∃g:Be->List (List Be),g=fun b=>if prune fs ss (p.set k b) b then[]else iD fs ss may m (k+1) (p.set k b):=⟨_,rfl⟩
    have hri:iD fs ss may (m+1) k p=(bI fs ss may k).flatMap g:=by rw[Oy];rfl
    refine bG.perm (A:=(bp,.cells (flat Be.row p).toArray dD (0,0))::A) (dK (l₁:=[_])) ?_;refine bG.bH func100 [(0,I k),(1,.pointer (some ⟨bs,0,none⟩)),(2,.pointer (some ⟨bp,0,none⟩)),(3,.pointer (some ⟨yb,0,none⟩)),(4,.pointer (some ⟨bf,0,none⟩))] ?_;refine d_ ?_;refine aA.box (fun iI=>?_);refine aA.new (fun mX=>?_);refine oz ?_;refine W.aJ O (fun WW=>?_) (fun WW=>?_)
    · exact absurd WW aj
    refine jk ?_;refine c0 (fun h' hE hL=>Xa _ h' _ _ mv k O O Q9) (fun v A' hv=>?_);obtain⟨b2,b3,rfl,rfl⟩:=hv;refine d_ ?_;refine W.perm (F':=((mX,.cells #[.bool false] KO (0,0))::(bp,.cells (flat Be.row p).toArray dD (0,0))::A)++[(b3,.cells #[I k] aX (0,0)),(b2,.cells #[.slice a fs.length cap,.slice a' ss.length f_,mv] Ib (0,0)),(iI,.cells #[I k] aX (0,0))]) ?_ ?_
    · refine(dK).trans ?_;exact((List.Perm.swap _ _ _).cons _).cons _
    refine W.Ui (σ:=σ) (X:=Be) (enc:=Be.val) (xs:=bI fs ss may k) O O O (fun s b=>(runs step s (g b)).1) (fun s b=>if(runs step s (g b)).2 then none else some Exit.ret)
      (fun b t=>∃pre post,bI fs ss may k=pre++b::post/\runs step s (pre.flatMap g)=(t,true)) (fun s A'=>∃B,A'=(mX,.cells #[.bool false] KO (0,0))::(bp,.cells (flat Be.row p).toArray dD (0,0))::B/\J s B) (fun s A'=>∃B,A'=(mX,.cells #[.bool false] KO (0,0))::(bp,.cells (flat Be.row p).toArray dD (0,0))::B/\K s B) s .head ⟨A,O,hJ⟩
      (fun h' hE hL=>P5 _ h' fs ss may k _ _ mv b2 b3 _ _ _ _ (hf.ext hE) (hs.ext hE) aO zI (apU.ext hE) (hL b2 _ zS) (hL b3 _ zS)) (fun s p' e he=>?_) (fun pre b post s' e hr=>?_) ?_ ?_
    · split at he
      · cases he
      cases he;rfl
    · have:=O4 step g pre s;rw[hr]at this;exact⟨pre,post,e,this⟩
    · rintro t b A1 ⟨pre,post,Tn,uT⟩ ⟨B,rfl,hJt⟩ l h1- -;have hb:b∈bI fs ss may k:=by rw[Tn];simp
      refine W.region O ?_;refine aA.new (fun yc=>?_);refine zT ?_;refine aA.nil ?_;refine⟨O,O,fun h0 Bc hL0=>?_⟩;have h5:h0 iI=some (.cells #[I k] aX (0,0)):=hL0 _ _ zS;have atp:=Bc.1 _ _ hbs;have aAj:=Bc.1 _ _ Za;clear hL0;refine jk ?_;refine aA.perm (F':=(B++[(bp,.cells (flat Be.row p).toArray dD (0,0))])++[(yc,.cells #[I b.fl,I b.day] ku (0,0)),(mX,.cells #[.bool false] KO (0,0))]) ?_ ?_
      · refine(dK).trans ?_;exact((dK (l₁:=B) (l₂:=[_])).cons _).cons _
      refine cg .head (fun h2 hE hL=>al0 _ h2 fs ss p k b _ _ mv (doV bf iI) bp B Q9 (hf.ext (Bc.trans hE)) (hs.ext (Bc.trans hE)) aO hp zI (lV aO zI hb) (fun v B'=>v= .bool (runs step t (g b)).2/\aiX J K (runs step t (g b)) B') ?_ ?_) (fun v A2 hv=>?_)
      · intro qw;have:g b=[]:=by rw[Oy];simp only[qw,if_true]
        rw[this];exact⟨O,hJt⟩
      · intro qw h3 e3;have hgb:g b=iD fs ss may m (k+1) (p.set k b):=by rw[Oy];simp only[qw,eU,if_false]
        have hE3:=(Bc.trans hE).trans e3;refine(ato _ h3 (an3 bs bp yb bf) bf iI k _ _ _ _ _ _ O aj (hE3.1 _ _ Za) (e3.1 _ _ (hE.1 _ _ h5)) fun h4 e4=>?_).mono (R:=fun v A'=>v= .bool (runs step t (iD fs ss may m (k+1) (p.set k b))).2/\∃B,aiX J K (runs step t (iD fs ss may m (k+1) (p.set k b))) B/\Sb (B++[(bp,.cells (flat Be.row (p.set k b)).toArray dD (0,0))]) A') ?_
        · have Xd:=hE3.trans e4
          exact gG.o9 (fi:=[]) (args:=[_]) (ca:=[_,_,_,_]) (ih (k+1) (p.set k b) h4 t B aj (pO hp zI (lV aO zI hb)) (hf.ext Xd) (hs.ext Xd) (apU.ext Xd) (Xd.1 _ _ hbs) (Xd.1 _ _ hyb) (Xd.1 _ _ Za) (Xd.1 _ _ hg)
            (hy.sub Xd fun _ _ q=>q) (fun ao1 q atq s' e' hr'=>Y0 (pre.flatMap g++ao1) q (atq++post.flatMap g) s' (by rw[hri,Tn,List.flatMap_append,List.flatMap_cons,hgb,e'];simp) (by rw[GY,uT];exact hr')) hJt)
        rintro v A' ⟨rfl,B',h1',h2'⟩;rw[hgb];exact⟨_,O,B',⟨O,h1'⟩,h2'⟩
      obtain⟨B',⟨rfl,YF⟩,bF⟩:=hv;refine aA.sb (F':=(B'++[(bp,.cells (flat Be.row p).toArray dD (0,0))])++_) (bF.app .refl) ?_;refine aA.perm (F':=(yc,.cells #[I b.fl,I b.day] ku (0,0))::(mX,.cells #[.bool false] KO (0,0))::(bp,.cells (flat Be.row p).toArray dD (0,0))::B') ?_ ?_
      · refine List.Perm.trans ?_ (dK);exact((dK (l₁:=[_]) (l₂:=B')).cons _).cons _
      refine d_ ?_;refine W.cond O (fun c34=>?_) (fun c34=>?_)
      · refine lg ?_;have fP:=Y8 c34;refine⟨O,by rw[fP];rfl,_,?_,.skip O .refl⟩;rw[fP];refine⟨B',O,?_⟩;obtain⟨s',xK⟩:=Bd fP;rw[xK]at YF⊢;exact YF
      refine d_ ?_;have fP:=aiV c34;refine⟨O,by rw[fP];rfl,_,?_,.skip O .refl⟩;rw[fP];refine⟨B',O,?_⟩;obtain⟨s',xK⟩:=Bd fP;rw[xK]at YF⊢;exact YF
    intro s' e A2 he hA d;have CV:=O4 step g (bI fs ss may k) s;rw[he]at CV;rcases e with _ | e
    case some=>
      obtain⟨rfl,CV⟩:=CV;obtain⟨B,rfl,hK⟩:=hA;refine d_ ?_;refine lvm (hl:=At.head) (AY (hv:=rSc nM) ⟨?_,B,?_,?_⟩)
      · rw[hri,CV];rfl
      · rw[hri,CV];exact hK
      refine(Sb.aT dK).trans ?_;exact .skip O (.skip O (.cons (.right .refl (.cons O (.cons O (.cons O .nil))))))
    obtain⟨B,rfl,hJ2⟩:=hA;refine jk ?_;refine lvm (hl:=At.head) (AY (hv:=rSc nM) ⟨?_,B,?_,?_⟩)
    · rw[hri,CV];rfl
    · rw[hri,CV];exact hJ2
    refine(Sb.aT dK).trans ?_;exact .skip O (.skip O (.cons (.right .refl (.cons O (.cons O (.cons O .nil))))))
theorem atr{x z:Nat×Obj}:((A++[y])++[x,z]).Perm (x::y::z::A):=
 (dK).trans (((List.Perm.cons _ (dK (l₁:=A) (l₂:=[_]))).trans (List.Perm.swap _ _ _)).cons _)
abbrev aiY(bb bs:Nat):Value:=.func (.func uz) #[] #[.pointer (some ⟨bb,0,none⟩),.pointer (some ⟨bs,0,none⟩)]
theorem Ul(main:aN)(h:Hp)(vf vs mv vl:Value)(h1:one vf=true)(h2:one vs=true)(h3:one mv=true)(h4:one vl=true):bG aV main Hq #[PZ vf vs mv,vl] h [] (fun v A=>∃bb bs,v=aiY bb bs/\A=[(bb,.cells #[vl] adh (0,0)),(bs,.cells #[vf,vs,mv] Ib (0,0))]):=by
 have hc:vl.cells= #[vl]:=GR h4;refine bG.bH func69 [(0,PZ vf vs mv),(1,vl)] ?_;refine d_ ?_;refine aA.box (fun oJ=>?_);refine aA.box (fun nP=>?_) O O hc;refine kR ?_;exact iQ ⟨_,_,O,O⟩

def dO(fs:List Fl)(ss:List St)(may:PY)(l:List Be):List (List Be):=iD fs ss may (ss.length-l.length) l.length (oC l)
theorem KW(main:aN)(h:Hp)(fs:List Fl)(ss:List St)(may:PY)(l:List Be)(vf vs mv vl:Value)(bb bs:Nat)(Eb Es Eg:TypeId)(zb zs zg:Nat×Nat)(hf:Sl h Fl.row vf fs)(hs:Sl h St.row vs ss)(hl:Sl h Be.row vl l)(Q9:one mv=true)(aO:dV fs ss)(hll:l.length<=ss.length)(hp:nY fs ss (oC l))(hm:Y7 main mv may h)
  (hbb:h bb=some (.cells #[vl] Eb zb)) (hbs:h bs=some (.cells #[vf,vs,mv] Es zs)) (hg:h 0=some (.cells #[QI kC] Eg zg)):Iter aV main (aiY bb bs) jI (dO fs ss may l) h:=by
 intro h' Bc yv YZ σ nx step J K hy s A Y0 hJ;have h4:l.length<=4:=by have:=aO.ns;omega
 have aAk:=Bc.1 _ _ hbb;have atp:=Bc.1 _ _ hbs;have oH:=uI hp.ok;have hon:lC (flat Be.row (oC l)).toArray.toList=true:=vN;obtain⟨a2,JA,rfl⟩:=hl.aU;refine gG.o9 (f:=uz) (fi:=[]) (ca:=[.pointer (some ⟨bb,0,none⟩),.pointer (some ⟨bs,0,none⟩)]) ?_;refine bG.bH func98 [(0,yv),(1,.pointer (some ⟨bb,0,none⟩)),(2,.pointer (some ⟨bs,0,none⟩))] ?_;refine d_ ?_;refine aA.box (fun nP=>?_) O O (GR YZ);refine lF ?_;refine cp (fun h' hE hL=>agd _ h' _ _ (hl.ext (Bc.trans hE)) h4) ?_;refine aA.new (fun mW=>?_);refine lF ?_;refine aA.new (fun iI=>?_);refine gZ ?_;refine aA.perm atr ?_;refine cgv .head (fun h2 hE hL=>gG.o9 (fi:=[]) (args:=[_]) (ca:=[_,_,_,_]) (al4 _ fs ss may _ _ mv yv bs mW nP iI Es _ _ Eg zs _ _ zg aO Q9 YZ nx step J K (ss.length-l.length) l.length (oC l) h2 s A aj hp (hf.ext (Bc.trans hE)) (hs.ext (Bc.trans hE)) (hm.ext (Bc.trans hE)) (hE.1 _ _ atp) (hL _ _ (.tail _ (.head _))) (hL _ _ (.head _)) ((Bc.trans hE).1 _ _ hg) (hy.sub hE fun _ _ q=>q) Y0 hJ)) (fun v B hv=>?_);obtain⟨rfl,B',YF,bF⟩:=hv;refine aA.nil ?_;refine iQ ⟨B',?_,YF⟩;refine Sb.right ?_ (.cons O (.cons O .nil));exact Sb.trans (.right .refl (.cons O .nil)) bF

theorem al7(main:aN)(h:Hp)(k:Int):Pu aV main EC #[I k] h (.tuple #[.bool true,.bool true]):=by
 refine bG.bH func73 [(0,I k)] ?_;refine iC ?_;exact lQ O
def uK:PY:=fun _=>(true,true)
theorem aiZ(main:aN)(h:Hp):Y7 main (.func (.func EC) #[] #[]) uK h:=fun h' _ k _=>gG.o9 (fi:=[]) (args:=[_]) (ca:=[]) (al7 main h' k)
theorem uM(hn:1<=fs.length):nY fs ss (oC []):=by
 refine⟨⟨O,fun b hb=>?_⟩,fun b hb=>?_,fun i hi=>?_⟩
 ·have:b=fZ:=by simpa[oC]using hb
  subst this;simp[fZ]
 ·have:b=fZ:=by simpa[oC]using hb
  subst this;simp[fZ];omega
 simp only[dB,oC,List.getD];rcases bQ i 4 with h | h
 ·rcases(by omega:i=0\/i=1\/i=2\/i=3)with rfl | rfl | rfl | rfl <;>simp[fZ]
 simp[fM,h,fZ]

def lW(fs:List Fl)(ss:List St)(may:PY):Bool:= !(dO fs ss may []).isEmpty
theorem W.scope{c:Code}(hg:∀l ρ ds F,¬Q (.goto l) ρ ds F)(H:W x c Q ρ ds F):W x (.scope c) Q ρ ds F:=by
 intro b k cs Stop tmps hk M h1 h0 h2 h3 h4 h5 hc;refine .idle O (fun _=>ahN) (H b (.inScope c::k) cs Stop tmps hk M h1 h0 h2 h3 h4 h5 fun e gW iT F' bC fA M' q a1 a2 a3 a4=>?_)
 cases e with
 | normal=>exact .idle rfl (fun _=>acE) (hc .normal _ _ _ _ _ _ q a1 a2 a3 a4)
 | exit id=>
  have e1:exitTo id (.inScope c::k)=exitTo id k:=by simp[exitTo]
  have:=hc (.exit id) _ _ _ _ _ _ q a1 a2 a3 a4;simp only[After,e1]at this⊢;exact this
 | goto l=>exact absurd q (hg _ _ _ _)
 | ret=>exact hc .ret _ _ _ _ _ _ q a1 a2 a3 a4
 | panic ch=>exact hc (.panic ch) _ _ _ _ _ _ q a1 a2 a3 a4
 | outgrown=>exact hc .outgrown _ _ _ _ _ _ q a1 a2 a3 a4

theorem att[TD P t (.slice E)]{β:Type}{f:Bool->Sem β}{Q:β->ah->Prop}{n:Nat}(d:Nat):tr P h ((Op.equalIn (d+1) t (.slice a n c) (.slice none 0 0)).bind f) F Q=tr P h (f a.isNone) F Q:=by
 cases a with
 | none=>simp only[Op.equalIn,bind_eq,au,bind_assoc,bind_pure,aF]
 | some a=>simp only[Op.equalIn,bind_eq,au,bind_assoc,bind_pure,aF];rfl
theorem Rh{S:ah->Prop}{o:Oper}{t':TypeId}{y:Operand}{n:Nat}(ho:o.op= .binOp .eql t y (.const (.slice none 0 0)) t')[TD x.P t (.slice E)](hy:ev ρ y=some (.slice a n c)):Yv x S ρ o (.bool a.isNone):=fun e he F hF h' hE=>by
 have hc:e (.const (.slice none 0 0))= .slice none 0 0:=he _ _ O
 have hg:eqGuard .eql t y (.const (.slice none 0 0)) (.slice a n c) (.slice none 0 0)= .pure ():=by
  simp[eqGuard,au]
 obtain⟨dd,hdd⟩:=zF t (.slice a n c) (.slice none 0 0);simp only[execOp,ho,he y _ hy,hc,hg,binOp,hdd,bind_eq,au,bind_assoc,bind_pure,att];exact⟨O,O⟩
theorem W.atu{c:Code}(Ds:σ->List Deferred)(C:σ->Prop)(E:σ->Env)(D:σ->ah)(μ:σ->Nat)(l7:σ)(X8:C l7)(he:Sub (E l7) ρ)(hF:Sb (D l7) F)
  (round:∀s,C s->W x c (thn (fun gW iT F'=>∃s',iT=Ds s'/\C s'/\μ s'<μ s/\Sub (E s') gW/\Sb (D s') F') Q) (E s) (Ds s) (D s)):W x (.loop c) Q ρ (Ds l7) F:=by
 refine W.env he (W.sb hF ?_);intro b k cs Stop tmps hk M h1 h0 h2 h3 h4 h5 hc;refine .idle O (fun _=>X3) ?_
 have key:∀N s,μ s=N->C s->∀tmps hk M,jf (E s) tmps->tmps.size=x.n->Sat x.h (D s) hk M->(∀e gW iT F' bC fA M',Q e gW iT F'->jf gW bC->bC.size=x.n->Sat x.h F' fA M'->Fr M (D s) M' F'->After x.P x.main Stop b k cs e bC iT fA M')->
   Gs x.P x.main Stop (G (dR b tmps (Ds s) (.code c:: .inLoop c::k)) cs) hk M:=by
  intro N
  induction N using Nat.strongRecOn with
  | _ N ih=>
   intro s hN hs tmps hk M h3 h4 h5 hc;refine round s hs b (.inLoop c::k) cs Stop tmps hk M h1 h0 h2 h3 h4 h5 fun e gW iT F' bC fA M' q a1 a2 a3 a4=>?_
   cases e with
   | normal=>
    obtain⟨s',rfl,c1,c2,c3,c4⟩:=q;exact .idle O (fun _=>Ol) (ih (μ s') (hN▸c2) s' rfl c1 bC fA M' (a1.sub c3) a2 (a3.sb c4) fun e Fa nO qK yE ou oV X7 e1 e2 e3 e4=>hc e Fa nO qK yE ou oV X7 e1 e2 e3 (a4.trans (e4.sub fun _ y=>c4.mem _ y)))
   | exit id=>exact(hc _ _ _ _ _ _ _ q a1 a2 a3 a4).push rfl (by simp)
   | goto l=>exact(hc _ _ _ _ _ _ _ q a1 a2 a3 a4).push rfl (by simp)
   | ret=>exact(hc _ _ _ _ _ _ _ q a1 a2 a3 a4).push (x:=.inLoop c) rfl (by simp)
   | panic ch=>exact hc _ _ _ _ _ _ _ q a1 a2 a3 a4
   | outgrown=>exact hc _ _ _ _ _ _ _ q a1 a2 a3 a4
 exact key _ l7 O X8 tmps hk M h3 h4 h5 hc


def adw(l:List Nat):List Deferred:=l.map mark
def Um(l:List Nat):ah:=l.map fun d=>(d,.deferred (some []))
theorem Nw{P:Program}{main:aN}{fn:Func}{h:Hp}{R:Value->ah->Prop}{e:Exit}{ρ:Env}{F:ah}(H:∀Z,eH Z->leave P main fn h R e ρ [] (Z++F)):∀{l:List Nat} {Z:ah},eH Z->leave P main fn h R e ρ (adw l) (Z++(Um l++F))
 | [],Z,hZ=>H Z hZ
 | d::l,Z,hZ=>by
  refine lvm (U:=fun o=>Z++((d,o)::(Um l++F))) (hl:=.app .head) ?_;have:=Nw H (l:=l) (Z:=Z++[(d,.deferred none)]) (hZ.app (.cons O .nil));rw[eF]at this;exact this
theorem Ny{main:aN}{fn:Func}{R:Value->ah->Prop}{e:Exit}(Z:ah){l:List Nat}(hZ:eH Z)(H:∀Z,eH Z->leave P main fn h R e ρ [] Z):leave P main fn h R e ρ (adw l) (Z++Um l):=by
 have:=Nw (F:=[]) (l:=l) (fun Z hZ=>by rw[List.append_nil];exact H Z hZ) hZ;rwa[List.append_nil]at this
theorem P6:∀{fs:List Fl} {f:Fl},kV fs=0->f∈fs->lu f=0
 | [],_,_,h=>by cases h
 | g::fs,f,h,hm=>by
  simp only[kV]at h;split at h
  ·rename_i h1;rcases bU.1 hm with rfl | hm
   ·exact h1
   exact P6 h hm
  rename_i h1;exact absurd h h1
theorem ai0{f:Fl}(h:lu f=0):1<=f.pl/\f.pl<=9/\1<=f.lo/\f.lo<=f.hi/\f.hi<=6/\0<=f.co/\f.co<=9:=by
 unfold lu at h;split at h
 ·cases h
 split at h
 ·cases h
 split at h
 ·cases h
 rename_i h1 h2 h3;simp only[outs]at h1 h3;omega
theorem wI(h:dU fs ss=0):dV fs ss:=by
 obtain⟨h1,h2,h3,h4,h5⟩:=Uf h;refine⟨⟨aj,h2⟩,h3,fun f hf=>ai0 (P6 h4 hf),fun s hs=>?_⟩;obtain⟨k,hk,rfl⟩:=List.mem_iff_getElem.1 hs;have:=agc h (jh hk);omega

def jq(n:Nat):PY:=fun i=>(decide (i<=n),decide (n<i))
def zJ(fs:List Fl)(ss:List St):Nat->Nat->Int
 | 0,_=> -1
 | m+1,n=>if lW fs ss (jq n)then zJ fs ss m (n+1)else n
def xC(fs:List Fl)(ss:List St):Int:=zJ fs ss ss.length 0

theorem ai1(main:aN)(h:Hp)(k n b5:Nat)(E5:TypeId)(z5:Nat×Nat)(hb:h b5=some (.cells #[I n] E5 z5)):Pu aV main pz #[I k,.pointer (some ⟨b5,0,none⟩)] h (.tuple #[.bool (jq n k).1,.bool (jq n k).2]):=by
 refine bG.bH func68 [(0,I k),(1,.pointer (some ⟨b5,0,none⟩))] ?_;refine lg ?_;refine W.jS (n:=8) O ?_;refine ay 0 ?_;refine ay 1 ?_;refine ay 2 ?_;refine ay 3 ?_;refine ay 4 ?_;refine ay 5 ?_;refine ay 6 ?_;refine ay 7 ?_;refine az ?_;refine d_ ?_;refine lQ (vs:=[.bool (decide ((k:Int)<=n)),.bool (decide ((n:Int)<k))]) ?_;have e1:decide ((k:Int)<=n)=decide (k<=n):=decide_eq_decide.2 aj;have e2:decide ((n:Int)<k)=decide (n<k):=decide_eq_decide.2 aj;rw[e1,e2];rfl

theorem al8(main:aN)(h:Hp)(fs:List Fl)(ss:List St)(vf vs:Value)(Eg:TypeId)(zg:Nat×Nat)(hf:Sl h Fl.row vf fs)(hs:Sl h St.row vs ss)(hg:h 0=some (.cells #[QI kC] Eg zg)):
  Pu aV main MW #[.agg #[vf,vs]] h (.tuple #[I (if dU fs ss≠0 then 0 else xC fs ss),I (dU fs ss)]):=by
 obtain⟨a,cap,rfl⟩:=hf.aU;obtain⟨a',f_,rfl⟩:=hs.aU;refine bG.bH func44 [(0,.agg #[.slice a fs.length cap,.slice a' ss.length f_])] ?_;refine d_ ?_;refine aA.box (fun vg=>?_);refine gI ?_;refine W.scope (fun _ _ _ _ h=>by rcases h.1 with h | h <;>cases h) ?_;refine lF ?_;refine cp (fun h' hE hL=>Ue _ h' _ _ _ _ (hf.ext hE) (hs.ext hE)) ?_;refine jk ?_;refine W.aJ O (fun Xe=>?_) (fun Xe=>?_)
 ·refine kR ?_;refine lQ ?_;rw[if_pos Xe];rfl
 have h0:dU fs ss=0:=by simpa using Xe
 have aO:=wI h0;have hn4:=aO.ns;rw[if_neg Xe,h0];refine gI ?_;refine W.label ?_;refine gZ ?_;refine W.atu (σ:=Nat×List Nat) (fun s=>adw s.2) (fun s=>s.1<=ss.length/\xC fs ss=zJ fs ss (ss.length-s.1) s.1) (fun s=>[(15,I s.1),(14,I ss.length),(1,.pointer (some ⟨vg,0,none⟩))]) (fun s=>Um s.2++[(vg,.cells #[.slice a fs.length cap,.slice a' ss.length f_] j_ (0,0))]) (fun s=>ss.length-s.1) (0,[]) ⟨Nat.zero_le _,O⟩ iw qE ?_;rintro⟨n,ms⟩ ⟨hn,hl⟩;dsimp only at hn hl⊢;refine W.perm (F':=(vg,.cells #[.slice a fs.length cap,.slice a' ss.length f_] j_ (0,0))::Um ms) (dK (l₁:=[_])) ?_;refine kJ ?_;refine W.aJ O (fun PV=>?_) (fun PV=>?_)
 ·obtain⟨m,hm⟩:∃m,ss.length-n=m+1:=⟨ss.length-n-1,aj⟩
  rw[hm,zJ]at hl;refine jk ?_;refine aA.new (fun iI=>?_);refine kJ ?_;refine b_ (dw (cs:= #[.slice a fs.length cap,.slice a' ss.length f_]) O O O) O ?_;refine zT ?_;refine b_ (dw (cs:= #[.slice a fs.length cap,.slice a' ss.length f_,(.func (.func pz) #[] #[.pointer (some ⟨iI,0,none⟩)])]) O O O) O ?_;refine aA.new (fun mX=>?_);refine lg ?_;refine c0 (fun h' hE hL=>Ul _ h' (.slice a fs.length cap) (.slice a' ss.length f_) (.func (.func pz) #[] #[.pointer (some ⟨iI,0,none⟩)]) (.slice none 0 0) O O O O) (fun v A' hv=>?_);obtain⟨bb,bs,rfl,rfl⟩:=hv;refine d_ ?_
  refine W.apM (σ:=Unit) (X:=List Be) (enc:=jI) (xs:=dO fs ss (jq n) []) O O O (fun _ _=>()) (fun _ _=>some (Exit.exit 1)) (fun _ A'=>A'=[]) (fun _ A'=>A'=[]) () (A₀:=[]) .head O
   (fun h' hE hL=>KW _ h' fs ss (jq n) [] (.slice a fs.length cap) (.slice a' ss.length f_) (.func (.func pz) #[] #[.pointer (some ⟨iI,0,none⟩)]) (.slice none 0 0) bb bs _ _ _ _ _ _ (hf.ext hE) (hs.ext hE) .nil rfl aO (Nat.zero_le _) (uM aO.nf.1) (fun h2 e2 k _=>gG.o9 (f:=pz) (fi:=[]) (args:=[_]) (ca:=[_]) (ai1 _ h2 k n iI _ _ (e2.1 _ _ (hL iI _ zS)))) (hL _ _ (.head _)) (hL _ _ (.tail _ (.head _))) (hE.1 _ _ hg)) (fun s p' e he=>by cases he;rfl) ?_ ?_
  ·rintro⟨⟩ q A1 hq rfl l h1- -;refine W.skip ?_;refine⟨O,O,fun h1 zD hL1=>?_⟩;refine W.block<|W.exit<|AP ?_;exact⟨O,O,_,O,.refl⟩
  intro s' e A2 he hA d;rcases e with _ | e
  ·simp only at hA;subst hA
   have iK:lW fs ss (jq n)=false:=by
    cases hr:dO fs ss (jq n) []with
    | nil=>simp[lW,hr]
    | cons q r=>rw[hr]at he;simp[runs,jD]at he
   rw[iK]at hl;refine Qs ?_;refine lvm (hl:=At.head) ?_;refine Ny (l:=ms) [_,_,_,_,_,_] (by repeat(first | exact eH.nil | refine eH.cons rfl ?_)) fun Z hZ=>lQ (hs:=hZ) ?_;rw[hl,if_neg Bool.false_ne_true];rfl
  have hee:e= .exit 1:=by
   cases hr:dO fs ss (jq n) []with
   | nil=>rw[hr]at he;cases he
   | cons q r=>rw[hr]at he;simp[runs,jD]at he;exact he.symm
  subst hee;simp only at hA;subst hA
  have iK:lW fs ss (jq n)=true:=by
   cases hr:dO fs ss (jq n) []with
   | nil=>rw[hr]at he;cases he
   | cons q r=>simp[lW,hr]
  rw[iK]at hl;refine AP<|sG<|CB<|fH<|W.region rfl ?_;refine gI ?_;refine⟨(n+1,d::ms),O,⟨aj,?_⟩,aj,iw,?_⟩
  ·rw[hl,if_pos O,show ss.length- (n+1)=m by omega]
  refine(Sb.aT (dK (l₂:=[_]))).trans ?_;refine Sb.trans (.aT (List.Perm.swap _ _ _)) ?_;exact .cons (.skip O (.skip O (.skip O (.skip O .refl))))
 refine iC ?_;refine Ny (l:=ms) [_] (by repeat(first | exact eH.nil | refine eH.cons rfl ?_)) fun Z hZ=>lQ (hs:=hZ) ?_;rw[hl,show ss.length-n=0 by omega];rfl
def an5(lo:Int):Nat->List Int
 | 0=>[]
 | k+1=>an5 lo k++[lo+k]
def cZ(lo hi:Int):List Int:=an5 lo (hi+1-lo).toNat

section
variable{x:Cx}{Q:fO}{ρ:Env}{ds:List Deferred}{F:ah}{ops:Array Oper}{i:Nat}{rest:List Nat}{ty:TypeId}{pos:String}{bW:Array Edge}{g:Option (Nat×Bool)}
theorem aA.adx{y:Operand}{tys:Array TypeId}(H:aA x ops rest Q ρ ({target:=.builtin .close tys ty (#[y].map fun | .const _=>true | _=>false),args:= #[.chan (some c)]}::ds) F)(FK:x.ro=none:=by rfl)(ho:dS ops.toList i=some ⟨none,.defer ⟨.builtin .close, #[y],tys⟩,ty,pos,bW,g⟩:=by rfl)(hy:ev ρ y=some (.chan (some c)):=by rfl)
  (hw:gY ops ρ ⟨none,.defer ⟨.builtin .close, #[y],tys⟩,ty,pos,bW,g⟩:=by first | exact wn | exact aI rfl rfl rfl):aA x ops (i::rest) Q ρ ds F:=
 aA.defer (o:=⟨none,.defer ⟨.builtin .close, #[y],tys⟩,ty,pos,bW,g⟩) FK (aK ho) O hw O (fun e he=>by have e3:e y=_:=he y _ hy;simp only[resolve,List.map_toArray,dQ,List.map_nil,e3,au];rfl) H
end
theorem YG.marked{d:Nat}(hl:At d (.deferred (some [])) F U)(H:YG P c h ds (U (.deferred none))):YG P c h (mark d::ds) F:=by
 obtain⟨F1,F2,e1,e2⟩:=hl.split;show tr P h (Instr.takeDeferred d) F fun l F'=>l=[]/\YG P c h ds F';simp only[Instr.takeDeferred,bind_eq,au];refine⟨.deferred (some []),.inr (e1▸by simp),(fun _ _ _=>by simp),O,?_⟩;refine⟨.deferred (some []),F1,F2,e1,(fun _ _ _=>by simp),O,O,?_⟩;rw[e2]at H;exact H

theorem O5{X:Type}:∀(pre xs:List X),runs (jD (fun(s:List X) (_:X)=>s.tail) fun _ _=>none) (xs,none) pre=((xs.drop pre.length,none),true)
 | [],xs=>rfl
 | p::pre,xs=>by
  have h:runs (jD (fun(s:List X) (_:X)=>s.tail) fun _ _=>none) (xs,none) (p::pre)=runs (jD (fun(s:List X) (_:X)=>s.tail) fun _ _=>none) (xs.tail,none) pre:=by simp only[runs,jD,Option.isNone_none]
  rw[h,O5 pre]
  cases xs <;>simp

def Zs(h:Hp)(v:Value):Prop:=∀b off n cap,v= .slice (some ⟨b,off,none⟩) n cap->h.z b
theorem Sl.told{row:α->List Value}{w:Nat}[Rw row w]{l:List α}(H:Sl h row v l)(hz:Zs h v)(hn:h c=none):Sl (PU h c) row v l:=by
 obtain⟨a,cap,rfl,hx⟩:=H;refine⟨a,cap,O,fun iK=>?_⟩;obtain⟨b,off,cc,E,fz,rfl,hb,hp⟩:=hx iK;exact⟨b,off,cc,E,fz,O,Hf hn (hz _ _ _ _ O) hb O,hp⟩
theorem Zs.ext(H:Zs h v)(e:Ext h h'):Zs h' v:=fun b off n cap hv=>e.2 b (H b off n cap hv)

def chF(cs:List (Nat×List Value)):ah:=cs.map fun c=>(c.1,mO c.2)
def apW(c:Nat):List Value:=[.chan (some c)]
instance:Rw apW 1:=⟨fun _=>rfl,fun _=>rfl⟩

theorem eY{c:Code}{row:α->List Value}{w:Nat}[Rw row w]{l:List α}(hs:Os E row v l A)
  (H:∀h',Ext x.h h'->Sl h' row v l->Zs h' v->W {x with h:=h'} c Q ρ ds F):W x c Q ρ ds (A++F):=by
 rcases hs with⟨rfl,rfl,yu⟩ | ⟨β,cc,cap,J,rfl,rfl,h1,h2,h3,yu⟩
 ·exact W.sb (Sb.left .refl yu) (H x.h ⟨fun _ _ q=>q,fun _ q=>q⟩ .nil (fun b off n cap e=>by cases e))
 refine W.freeze (b:=β) O fun h' hE hb hz=>?_;refine W.sb (F':=F) (Sb.left .refl yu) (H h' hE (.mk hb rfl h3) (fun b off n cap e=>by cases e;exact hz))
theorem Zs.nil:Zs h (.slice none 0 0):=fun b off n cap e=>by cases e

def rcO:List Value->Obj
 | []=>Fg
 | _::l=>mO l
section rules
variable{x:Cx}{Q:fO}{ρ:Env}{ds:List Deferred}{F:ah}{ops:Array Oper}{i:Nat}{rest:List Nat}{d:Tmp}{ty:TypeId}{pos:String}{bW:Array Edge}{g:Option (Nat×Bool)}
theorem aA.atv{ct el s' b':Nat}{dir:ChanDir}{ch:Operand}{l:List Value}{u:Value}(hS:∀S,x.main.ok S->∃Fin,S=Mn x.P Fin)(hb:x.main.b=true)[TD x.P ct (.chan dir el)][TI x.P el s' b' z zc](hu:l.headD z=u)(hl:At c (mO l) F U)
  (H:aA x ops rest Q ((d,.tuple #[u,.bool (!l.isEmpty)])::ρ) ds (U (rcO l))) (ho:dS ops.toList i=some ⟨some d,.recv ct ch true,ty,pos,bW,g⟩:=by rfl)
  (hw:gY ops ρ ⟨some d,.recv ct ch true,ty,pos,bW,g⟩:=by first | exact wn | exact aI rfl rfl rfl) (hd:Nat.blt d x.n=true:=by rfl) (um:ev ρ ch=some (.chan (some c)):=by rfl):aA x ops (i::rest) Q ρ ds F:=by
 subst hu
 cases l with
 | nil=>exact aA.recvDone (o:=⟨some d,.recv ct ch true,ty,pos,bW,g⟩) hS hb (aK ho) rfl hw hd um hl H
 | cons v l=>exact aA.recv (o:=⟨some d,.recv ct ch true,ty,pos,bW,g⟩) hS hb (aK ho) rfl hw hd um hl H
end rules
section
variable{x:Cx}{Q:fO}{ρ:Env}{ds:List Deferred}{ops:Array Oper}{id n:Nat}{V4 ady al9:Nat×Obj}{G:ah}
theorem W.O6(hn:ops.size=n)(H:Any x ops [V4] n 0 Q ρ ds (V4::G))[MO x.P]:W x (.region id ops true) Q ρ ds (V4::G):=W.kQ _ hn H
theorem W.yh(hn:ops.size=n)(H:Any x ops [V4,ady] n 0 Q ρ ds (V4::ady::G))[MO x.P]:W x (.region id ops true) Q ρ ds (V4::ady::G):=W.kQ _ hn H
end
section
variable{x:Cx}{Q:fO}{ρ:Env}{ds:List Deferred}{F:ah}{ops:Array Oper}{i:Nat}{d:Tmp}{ty:TypeId}{pos:String}{bW:Array Edge}{g:Option (Nat×Bool)}{L:ah}{vs:List Value}
theorem abl{fuel listed t E s b len:Nat}{parts:List (Nat×Operand)}{cs:Array Value}(H:∀β,Any x ops L fuel (listed||| 2 ^ i) Q ((d,.slice (some ⟨β,0,none⟩) len len)::ρ) ds ((β,.cells cs E (0,0))::F))
  (ho:dS ops.toList i=some ⟨some d,.buildSlice t len parts.toArray,ty,pos,bW,g⟩:=by rfl) (hk:aC L F:=by first | exact fun _ h=>h | (repeat(first | exact aC.nil | refine aC.one zS ?_))) [TD x.P t (.slice E)] [TI x.P E s b z zc] (hv:jv ρ (parts.map (·.2))=some vs:=by rfl) (hls:0<len*s:=by decide) (hl:len*s<=2 ^ 24:=by decide)
  (hf:Instr.fill (fun i=>some (i*s,s)) ((List.range (len*s)).map (fun i=>zc[i % zc.size]!)).toArray ((parts.map (·.1)).zip vs)=some cs:=by rfl)
  (hw:iM ops (look ρ) ⟨some d,.buildSlice t len parts.toArray,ty,pos,bW,g⟩ true:=by first | exact an | exact bD rfl rfl rfl rfl) (hd:Nat.blt d x.n=true:=by rfl) (hr:rH ops listed=[i]:=by kernel_rfl):Any x ops L (fuel+1) listed Q ρ ds F:=
 Any.Ql (o:=⟨some d,.buildSlice t len parts.toArray,ty,pos,bW,g⟩) (Ea O hv hls hl (by rw[show(Array.range (len*s)).map (zc[· % zc.size]!)=((List.range (len*s)).map (fun i=>zc[i % zc.size]!)).toArray by apply Array.ext';simp];exact hf) fun β _ _=>⟨.inr fun p hp=>dH _ (hk p hp),H β⟩) hr (aK ho) hw hd O
end
end Go.jc
