/- What clearing costs. Conditions: none; over the given program. (And 8 texts more.) -/
import Derived.Test.YtjohlemgkcpoeaaGreatDoorR16
import Derived.Test.YtjohlemgkcpoeaaGreatDoorR07
import Derived.Test.YtjohlemgkcpoeaaGreatDoorR12
import Derived.Test.YtjohlemgkcpoeaaGreatDoorR13
set_option linter.unusedVariables false
set_option linter.unusedSimpArgs false
set_option linter.unusedSectionVars false
set_option maxRecDepth 100000
set_option maxHeartbeats 4000000

open Go.Proofs.Tryz
namespace Go.jc
theorem W.XO{x:Cx}{c:Code}{Q:fO}{ρ:Env}{ds:List Deferred}:∀{A F:ah} (_:∀b o,(b,o)∈A->o.isChan=false) (_:∀h',Ext x.h h'->je A h'->W {x with h:=h'} c Q ρ ds F),W x c Q ρ ds (A++F)
 | [],F,_,K=>K x.h ⟨fun _ _ q=>q,fun _ q=>q⟩ (fun _ _ h=>by cases h)
 | (b,o)::A,F,hc,K=>W.freeze (Gu (hc b o (bT ..))) fun h1 zD hb _=>W.XO (x:={x with h:=h1}) (fun b o h=>hc b o (dH _ h)) fun h2 NY hL=>K h2 (zD.trans NY) fun b' o' h=>by
   rcases bU.1 h with e | h
   ·cases e;exact NY.1 _ _ hb
   exact hL b' o' h
variable{D:yD}{M:oU}{U:Obj->ah}{a:Int}{b:Nat}{α:Type}{f:Int->List α}
theorem ab5{l:List uV}(fP:∀p∈l,XG (nH D.gs p.x.ks D.ps) p.x.d p.v p.E):∀b o,(b,o)∈bM l->o.isChan=false:=fun b o hb=>by
 obtain⟨F,hF,hbF⟩:=List.mem_flatten.1 hb;obtain⟨p,hp,rfl⟩:=List.mem_map.1 hF;rcases bU.1 hbF with e | hbF
 ·cases e;rfl
 have hs:=fP p hp;revert hs
 cases hw:nH D.gs p.x.ks D.ps with
 | none=>rintro⟨-,e⟩;rw[e]at hbF;cases hbF
 | some w=>rintro⟨s,-,hR⟩;exact hR.cl b o hbF
theorem akt{T:Type}{st:Nat->T->Option T}{N:Nat}:∀{l:List Nat} {t e:T},goG st N t l e->∀i∈l,i<N
 | [],_,_,_,i,h=>by cases h
 | k::l,t,e,⟨hk,u,hu,h⟩,i,hi=>by
  rcases bU.1 hi with rfl | hi
  ·exact hk
  exact akt h i hi
theorem ab6{gs:List Ag}{ks:List Int}{ps:Int}{l:List Int}(hN:gs.length<=4)(h:nH gs ks ps=some l):∀a∈l,∃i:Nat,a=(i:Int)/\i<gs.length:=by
 unfold nH at h;rw[jR]at h;obtain⟨w,h1,rfl⟩:=h;obtain⟨-,e,hg,-⟩:=(UJ hN dF).1 w h1;intro a ha;obtain⟨i,hi,rfl⟩:=List.mem_map.1 ha;exact⟨i,O,akt hg i hi⟩

def Po(l:List Int):Int:=l.foldl (· + ·) 0
theorem XP{l:List Int}:Po (l++[a])=Po l+a:=by simp[Po]
theorem afA{l:List Int}(h:∀a∈l,0<=a/\a<=9):∀k,0<=Po (l.take k)/\Po (l.take k)<=9*(k:Int)
 | 0=>by simp[Po]
 | k+1=>by
  have ih:=afA h k;rcases bQ k l.length with hk | hk
  ·rw[List.take_add_one,jh hk];have:=h l[k] (List.getElem_mem ..);have e:Po (l.take k++(some l[k]).toList)=Po (l.take k)+l[k]:=XP;rw[e];omega
  rw[List.take_of_length_le aj]at ih⊢;omega
theorem aqV(main:aN)(h:Hp)(l:List Int)(v:Value)(hf:Sl h bY v l)(hl:l.length<=1000)(hb:∀a∈l,0<=a/\a<=9):Pu aV main aaJ #[v] h (I (Po l)):=by
 obtain⟨a,cap,rfl⟩:=hf.aU;refine bG.bH func51 [(0,.slice a l.length cap)] ?_;refine Qv ?_;refine W.loop (σ:=Nat) (fun k=>k<=l.length) (fun k=>[(8,I k),(7,I l.length),(6,.slice a l.length cap),(3,I (Po (l.take k)))]) (fun _=>[]) (fun k=>l.length-k) 0 (Nat.zero_le _) iw .refl ?_;rintro k hk;refine kJ ?_;refine W.aJ O (fun c9=>?_) (fun c9=>?_)
 ·obtain⟨x,hp,yI⟩:=has (show k<l.length by omega);obtain⟨b,off,c,E,fz,rfl,hbb,hx,hy,hz⟩:=hf.at hp;have Aq:c[off+k*1]? =some (I x):=hz 0 dF;have hxb:=hb x (dL hp);have hs:=afA hb k;have Gt:Po (l.take (k+1))=Po (l.take k)+x:=by rw[List.take_add_one,hp];exact XP
  clear hx hz;refine Qs ?_;refine zW rfl rfl rfl<|aA.nil<|iE<|fH<|W.region rfl ?_;refine gI ?_;exact⟨O,k+1,aj,aj,⟨O,O,O,lk O (by rw[Gt]),trivial⟩,qE⟩
 obtain rfl:k=l.length:=by omega
 refine iC ?_;refine lQ ?_;show I _=I _;rw[List.take_length]

def Mo.agC(N:Mo)(a:Int):Int:=match N.gs[a.toNat]? with
 | some g=>g.co
 | none=>0
def Mo.DY(N:Mo)(i:Int):List Int:=((N.way i.toNat).getD []).map N.agC
def Mo.cost(N:Mo):Int:=Po ((mV N.mi).flatMap N.DY)
theorem mem_set(h:a∈mV M):∃i:Nat,a=(i:Int)/\i<M.l.length/\Gj M i=true:=by
 simp only[mV,zs,O0,List.mem_map,List.mem_filter,List.mem_range,decide_eq_true_eq]at h;obtain⟨i,⟨h1,h2⟩,rfl⟩:=h;refine⟨i,O,h1,?_⟩
 cases hc:Gj M i with
 | true=>rfl
 | false=>rw[afx hc]at h2;exact absurd h2 dF
theorem ZA:(mV M).length<=M.l.length:=by
 unfold mV;rw[rZ];exact Nat.le_trans (List.length_filter_le ..) (by simp)
theorem ahg{l:List Int}{k:Nat}(h:l[k]? =some a):(l.take (k+1)).flatMap f=(l.take k).flatMap f++f a:=by
 rw[List.take_add_one,h];simp
theorem XQ{l:List Int}(h:∀a,(f a).length<=5):(l.flatMap f).length<=5*l.length:=by
 induction l with
 | nil=>simp
 | cons a l ih=>have:=h a;simp only[List.flatMap_cons,jA,gK]at ih⊢;omega
theorem yD.At.DY{h:Hp}(H:D.At h)(i:Int):(D.mo.DY i).length<=5/\∀c∈D.mo.DY i,0<=c/\c<=9:=by
 unfold Mo.DY
 cases hw:D.mo.way i.toNat with
 | none=>exact⟨by simp,fun c hc=>by simp at hc⟩
 | some w=>
  have hb:∃x:Mt,nH D.gs x.ks D.ps=some w:=by
   unfold Mo.way at hw;split at hw
   ·rename_i x _;exact⟨x,hw⟩
   cases hw
  obtain⟨x,hb⟩:=hb;have uU:=Iq.xE H.gk;refine⟨by simpa using DK uU.len hb,fun c hc=>?_⟩;obtain⟨a,ha,rfl⟩:=List.mem_map.1 hc;obtain⟨j,rfl,hj⟩:=ab6 uU.len hb a ha;unfold Mo.agC;rw[Int.toNat_natCast,show D.mo.gs=D.gs from rfl,jh hj];have:=(uU.ag _ (List.getElem_mem hj)).2.2.2.2;simp only;omega

theorem aqW{main:aN}(hS:∀S,main.ok S->∃Fin,S=Mn aV Fin)(qJ:main.b=true)(h:Hp)(D:yD)(H:D.At h):bG aV main YN #[D.V] h [] (fun v F=>v= .tuple #[I D.mo.cost,I 0]/\eH F):=by
 have h4:=H.m4;refine bG.bH func20 [(0,D.V)] ?_;refine d_ ?_;refine aA.box (fun vg=>?_);refine lg ?_;refine c0 (fun h' hE hL=>wo hS qJ h' D (H.ext hE) [] _ .nil (fun n hn=>by cases hn) (Nat.zero_le _)) (fun v A' hv=>?_);obtain⟨u,kb,mb,rfl,X,l,vp,S,rfl,hl,fP,hO,bF⟩:=hv;refine aA.sb (bF.app .refl) ?_;refine oz ?_;refine W.aJ O (fun BO=>?_) (fun BO=>?_)
 ·exact absurd O BO
 refine d_ ?_
 refine W.sb (F':=(X,.cells (mG D.va D.nS D.vr D.vf D.vm vp D.ps kb) gB (0,0))::(S++(bM l++[(vg,.cells #[D.va,I D.ps,D.nS,D.vr,D.vf,D.vm] fC (0,0))]))) (.cons (by
  show Sb (S++(bM l++[_])) ((S++(pX kb mb []++bM l))++[_]);rw[eF,eF];exact .app .refl (.left .refl wu))) ?_
 refine W.Ws D H hl fP hO (fun h1 zD HM=>?_);have E8:=Lu (X:=X) (kb:=kb) (vp:=vp) hl;have Xz:l.length=D.jJ.length:=by rw[<-hl];simp
 have P7:=ZA (M:=D.mo.mi);have hmn:D.mo.mi.l.length=D.jJ.length:=by show(List.map _ (List.map _ _)).length=_;simp
 obtain⟨ag,cg',eg⟩:=H.ga.aU;refine kR ?_;refine cg (A:=bM l) (.head (A:=bM l)) (fun h' hE hL=>aoA hS qJ h' _ (HM.ext hE)) (fun v A' hv=>?_);obtain⟨S2,Ci,pJ⟩:=hv;rw[E8.set]at Ci;obtain⟨a2,c2,rfl⟩:=Ci.aU;refine aA.sb (F':=S2++(bM l++[(vg,.cells #[D.va,I D.ps,D.nS,D.vr,D.vf,D.vm] fC (0,0))])) (by rw[<-eF];exact pJ.app .refl) ?_;refine lF ?_;refine eY Ci (fun h2 NY Oa hz2=>?_);refine W.XO (ab5 fP) (fun h3 hE3 hLp=>?_);replace Oa:=Oa.ext hE3;have HM3:=(HM.ext NY).ext hE3;have H3:=((H.ext zD).ext NY).ext hE3;obtain⟨EX,zX,hX⟩:=HM3.cx;have Oj:=HM3.vp;obtain⟨av,cv',ev'⟩:=Oj.aU;rw[List.length_map]at ev';unfold oU.C at hX;rw[ev']at hX Oj;have hX:h3 X=some (.cells (mG D.va D.nS D.vr D.vf D.vm (.slice av l.length cv') D.ps kb) EX zX):=hX;have hga:=H3.ga;rw[eg]at hga
 refine W.loop (σ:=Nat×Value×ah) (fun s=>s.1<=(mV D.mo.mi).length/\Os aX bY s.2.1 (((mV D.mo.mi).take s.1).flatMap D.mo.DY) s.2.2) (fun s=>[(24,I s.1),(23,I (mV D.mo.mi).length),(22,.slice a2 (mV D.mo.mi).length c2),(4,aG X),(1,aG vg),(6,s.2.1)])
  (fun s=>(vg,.cells #[D.va,I D.ps,D.nS,D.vr,D.vf,D.vm] fC (0,0))::s.2.2) (fun s=>(mV D.mo.mi).length-s.1) (0,.slice none 0 0,[]) ⟨Nat.zero_le _,.nil .nil⟩ iw .refl ?_
 rintro⟨k,v,S⟩ ⟨hk,hO⟩;simp only at hk hO⊢;refine kJ ?_;refine W.aJ O (fun JW=>?_) (fun JW=>?_)
 ·obtain⟨a,ha,-⟩:=has (show k<(mV D.mo.mi).length by omega);obtain⟨i,rfl,hi,hic⟩:=mem_set (dL ha);have CV:=ahg (f:=D.mo.DY) ha;have ayc:=XQ (l:=(mV D.mo.mi).take k) (fun i=>(H.DY i).1);have htk:((mV D.mo.mi).take k).length<=4:=by simp;omega
  obtain⟨p,hp,hpm,hw⟩:=ab4 hl (show i<D.jJ.length by omega)
  obtain⟨w,Lh⟩:∃w,nH D.gs p.x.ks D.ps=some w:=by
   rw[<-E8.lI]at hic;unfold Gj at hic;rw[show(oU.of D X kb vp l).l[i]? =some p from hp]at hic;exact iJ.1 hic
  have IW:D.mo.DY i=w.map D.mo.agC:=by unfold Mo.DY;rw[Int.toNat_natCast,hw,Lh];rfl
  have hw5:=DK (Iq.xE H.gk).len Lh;have ayd:=ab6 (Iq.xE H.gk).len Lh;obtain⟨sa,n,sc,z,hta,htl⟩:=aks (fP p (dL hp));obtain⟨hR,rfl,-⟩:=htl w Lh;have hRs:=hR.rd h3 fun b o hb=>hLp b o (XM hp hb);have hpB:=hLp _ _ (Pm hp);obtain⟨bs,os,cs,Es,fs,rfl,hbs,hxs,hys,hzs⟩:=Oa.at ha;have auA:cs[os+k*1]? =some (I i):=hzs 0 dF;clear hxs hzs;obtain⟨b,off,c,E,fz,rfl,hb,hx,hy,hz⟩:=Oj.at (show(l.map (·.B))[i]? =some p.B by rw[iL,hp];rfl);have Aq:c[off+i*1]? =some (aG p.B):=hz 0 dF;clear hx hz;have Gp:i<l.length:=by omega
  obtain⟨ao,co,rfl⟩:=hO.aU;refine asY ?_;refine b_ (yta hta O O) O ?_;refine gI ?_;refine aA.new (fun Oi=>?_);refine iC ?_
  refine W.loop (σ:=Nat×Value×ah) (fun s=>s.1<=w.length/\Os aX bY s.2.1 (((mV D.mo.mi).take k).flatMap D.mo.DY++(w.take s.1).map D.mo.agC) s.2.2) (fun s=>[(45,I s.1),(44,I w.length),(43,.slice sa w.length sc),(24,I k),(23,I (mV D.mo.mi).length),(22,.slice (some ⟨bs,os,none⟩) (mV D.mo.mi).length c2),(4,aG X),(1,aG vg),(6,s.2.1)])
   (fun s=>(vg,.cells #[D.va,I D.ps,D.nS,D.vr,D.vf,D.vm] fC (0,0))::s.2.2) (fun s=>w.length-s.1) (0,_,S) ⟨Nat.zero_le _,by simpa using hO⟩ ⟨O,O,O,O,O,O,O,O,O,trivial⟩ (.skip O .refl) ?_
  rintro⟨j,v2,S3⟩ ⟨hj,hO3⟩;simp only at hj hO3⊢;obtain⟨ao3,co3,rfl⟩:=hO3.aU;refine kJ ?_;refine W.aJ O (fun c46=>?_) (fun c46=>?_)
  ·obtain⟨a',YD,-⟩:=has (show j<w.length by omega);obtain⟨g,rfl,hg⟩:=ayd a' (dL YD);obtain⟨G,hG,-⟩:=has hg;obtain⟨bw,ow,cw,Ew,fw,rfl,hbw,hxw,hyw,hzw⟩:=hRs.at YD;have aAB:cw[ow+j*1]? =some (I g):=hzw 0 dF;clear hxw hzw;obtain⟨bg,og,cg2,Eg,fg,rfl,hbg,hxg,hyg,hzg⟩:=hga.at hG;have asN:cg2[og+g*5+4]? =some (I G.co):=hzg 4 dF;clear hxg hzg;have hag:D.mo.agC g=G.co:=by unfold Mo.agC;rw[Int.toNat_natCast,show D.mo.gs=D.gs from rfl,hG]
   have Gt:(w.take (j+1)).map D.mo.agC=(w.take j).map D.mo.agC++[G.co]:=by rw[List.take_add_one,YD,<-hag];simp
   refine CW ?_;refine Gh (u:=.slice (some ⟨bg,og,none⟩) D.gs.length cg') (CG O O) eg O wn O O ?_;refine lF ?_;refine aA.zZ (cs:= #[I G.co]) (fun aye=>?_) O;refine oe O wn O O (bV (row:=bY) (l':=[G.co]) O O O hO3 (.tail (.tail .all)) (fun h2 _ hl=>Sl.mk (hl aye _ (.head _)) O (Part.all [I G.co])) (by simp only[jA,List.length_map,List.length_take,gK,List.length_nil];omega) dF O (fun v' S' xM=>?_));refine zW rfl rfl rfl<|aA.nil<|iE<|fH<|W.region rfl ?_;refine gI ?_;exact⟨O,(j+1,v',S'),⟨by simp only;omega,by simp only;rw[Gt,<-eF];exact xM⟩,by simp only;omega,iw,.skip O .refl⟩
  refine gZ ?_;obtain rfl:j=w.length:=by omega
  rw[List.take_length,<-IW,<-CV]at hO3;exact⟨O,(k+1,_,S3),⟨by simp only;omega,hO3⟩,by simp only;omega,⟨O,O,O,O,O,lk O (by rw[CV,IW,List.take_length]),trivial⟩,.refl⟩
 obtain rfl:k=(mV D.mo.mi).length:=by omega
 rw[List.take_length]at hO;have ayc:=XQ (l:=mV D.mo.mi) (fun i=>(H.DY i).1);refine kR ?_;refine cp (fun h' hE hL=>aqV _ h' _ _ (hO.sl fun b o hb=>hL b o (.tail _ hb)) aj (fun c hc=>?_)) ?_
 ·obtain⟨i,-,hc⟩:=List.mem_flatMap.1 hc;exact(H.DY i).2 c hc
 refine lF ?_;exact iQ (vs:=[_,_]) ⟨O,.cons O hO.shut⟩
variable{x:Cx}{Q:fO}{ρ:Env}{F:ah}{o:Oper}{R:Value->ah->Prop}
theorem At.mem{o:Obj}{F:ah}(h:At b o F U):(b,o)∈F:=by
 obtain⟨F1,F2,rfl,-⟩:=h.split;exact bZ _ (.head _)
theorem anf{t t' E wO:Nat}{z:Value}{zc:Array Value}{y yx:Operand}{off n cap J8 n' f_:Nat}{c:Array Value}{C:TypeId}{vs:List Value}(ho:o.op= .call ⟨.builtin .copy, #[y,yx], #[t,t']⟩)[TD x.P t (.slice E)][TI x.P E 1 wO z zc]
  (hy:ev ρ y=some (.slice (some ⟨b,off,none⟩) n cap)) (hx:ev ρ yx=some (.slice (some ⟨b,J8,none⟩) n' f_)) (hl:At b (.cells c C (0,0)) F U) (hm:Nat.min n' n=vs.length) (hv:c.extract J8 (J8+vs.length)=vs.toArray) (h1:lC vs=true) (Og:J8+vs.length<=c.size) (hc:off+vs.length<=c.size)
  (H:R (.int .i64 vs.length) (U (.cells (gQ c off vs) C (0,0)))):Ef x ρ o F R:=
 Ef.uY fun e he h' hE=>by
  simp only[execOp,ho,resolve,invoke,builtin,Builtin.copy_,List.map_toArray,dQ,List.map_nil,he y _ hy,he yx _ hx,List.getElem?_toArray,List.getElem?_cons_zero,List.getElem?_cons_succ,bind_eq,au,bind_assoc,bind_pure,aF,Builtin.lenOf,fF,hm,Builtin.firstCells,loadCells,Nat.mul_one];refine cu (jL (.inr hl.mem) _ 0 #[] aj ?_);simp only[Nat.add_zero,Array.empty_append,hv];refine cu (l9 vs 0 c h1 hl aj ?_);exact⟨_,.inl O,by simpa[goInt]using H⟩
end Go.jc

namespace Go.jc
section
variable{x:Cx}{ρ:Env}{F:ah}{o:Oper}{R:Value->ah->Prop}
theorem ang{t t' E wO c:Nat}{z:Value}{zc:Array Value}{y yx:Operand}{xv:Value}{b cap:Nat}{C:Array Value}{T:TypeId}{a:Int}{U:Obj->ah}(ho:o.op= .call ⟨.builtin .copy, #[y,yx], #[t,t']⟩)[TD x.P t (.slice E)][TI x.P E 1 wO z zc]
  (hy:ev ρ y=some (.slice (some ⟨b,0,none⟩) c cap)) (hx:ev ρ yx=some xv) (hs:Sl x.h bY xv [a]) (hl:At b (.cells C T (0,0)) F U) (hc:c<=C.size)
  (H:R (I (min 1 c:Nat)) (U (.cells (gQ C 0 (List.replicate (min 1 c) (I a))) T (0,0)))):Ef x ρ o F R:=by
 rcases c with _ | c
 ·refine Ef.uY fun e he h' hE=>?_;have xK:=Sl.ext hE hs;obtain⟨a,cp,rfl⟩:=hs.aU;have asZ:Nat.min [a].length 0=0:=rfl;simp only[execOp,ho,resolve,invoke,builtin,Builtin.copy_,List.map_toArray,dQ,List.map_nil,he y _ hy,he yx _ hx,List.getElem?_toArray,List.getElem?_cons_zero,List.getElem?_cons_succ,bind_eq,au,bind_assoc,bind_pure,aF,Builtin.lenOf,fF,Nat.min_zero,gK,List.length_nil]
  have e0:Builtin.firstCells 1 0 (.slice a 1 cp)=pure #[]:=by
   cases a <;>rfl
  simp only[Nat.zero_add,show Nat.min 1 0=0 from rfl,e0,bind_eq,au];obtain⟨F1,F2,e1,e2⟩:=hl.split;have H':=H;rw[show min 1 0=0 from rfl,List.replicate_zero,gQ,e2,<-e1]at H';exact⟨_,.inl O,H'⟩
 have e1:min 1 (c+1)=1:=by omega
 rw[e1]at H;exact adb (row:=bY) (l:=[a]) ho hy hx hs (by simp) hl (by simp;omega) H
end
theorem aku(main:aN)(h:Hp)(c:Nat)(hc:c<=4):Pu aV main Nh #[.int .u64 1,.int .u64 c] h (.tuple #[.int .u64 0,.int .u64 c]):=by
 refine bG.bH func114 [(0,.int .u64 1),(1,.int .u64 c)] ?_;have Og:c=0\/c=1\/c=2\/c=3\/c=4:=by omega
 rcases Og with rfl | rfl | rfl | rfl | rfl
 all_goals
  refine Qs ?_;refine b_ (AB O O O aj) O ?_;refine iC ?_;refine b_ (AB O O O aj) O ?_;refine lg ?_
  first | refine b_ (TL rfl rfl rfl) rfl ?_ | refine b_ (yU rfl rfl rfl) rfl ?_
  refine lg ?_
  first | refine b_ (TL rfl rfl rfl) rfl ?_ | refine b_ (yU rfl rfl rfl) rfl ?_
  refine zT ?_;refine b_ (AB O O O aj) O ?_;refine oz ?_;refine b_ (AB O O O aj) O ?_;refine jk ?_
  first | refine b_ (TL rfl rfl rfl) rfl ?_ | refine b_ (yU rfl rfl rfl) rfl ?_
  refine jk ?_
  first | refine b_ (TL rfl rfl rfl) rfl ?_ | refine b_ (yU rfl rfl rfl) rfl ?_
  refine gI ?_;refine b_ (AB O O O aj) O ?_;refine jk ?_
  first | refine b_ (TL rfl rfl rfl) rfl ?_ | refine b_ (yU rfl rfl rfl) rfl ?_
  refine gI ?_;refine lQ ?_;kernel_rfl
theorem aqX(main:aN)(h:Hp)(c:Nat)(hc:c<=4):Pu aV main Qz #[.int .u64 1,.int .u64 c] h (.tuple #[.int .u64 0,.int .u64 c]):=by
 refine bG.bH func80 [(0,.int .u64 1),(1,.int .u64 c)] ?_;refine lg ?_;refine W.iq ?_;refine lg ?_;refine cp (fun h' hE hL=>aku _ h' c hc) ?_;refine Qs ?_;exact lQ O
theorem ahh(main:aN)(h:Hp)(n:Int)(v:Value)(c:Nat)(hv:Sl h bY v [n])(hc:c<=4):bG aV main Jk #[v,I c] h [] (fun v A=>Os aX bY v (List.replicate c n) A):=by
 obtain⟨a,cap,rfl⟩:=hv.aU;refine bG.bH func53 [(0,.slice a 1 cap),(1,I c)] ?_;refine gZ ?_;refine W.aJ O (fun Xe=>?_) (fun Xe=>?_)
 ·exact absurd Xe aj
 refine lg ?_;refine Gh (GL O O) (show _=Value.int .u64 1 from rfl) O wn O O ?_;refine zT ?_;refine Gh (GL O O) (congrArg (Value.int .u64) (show(c:Int) % (18446744073709551616:Int)=c by omega)) O wn O O ?_;refine cp (fun h' hE hL=>aqX _ h' c hc) ?_;refine gZ ?_;refine Gh (WH O O O) (show _=Value.bool false from rfl) O wn O O ?_;refine d_ ?_;refine Gh (WH O O O) (congrArg Value.bool (decide_eq_false aj)) O (aI O O O) O O ?_;refine d_ ?_;refine W.iq ?_;refine kJ ?_;refine Gh (GL O O) (congrArg (Value.int .i64) (AA aj aj)) O wn O O ?_;refine oe O wn O O (abm (n:=c) O O O aj (fun UW=>?_));refine lg ?_;refine oe O wn O O (ang (c:=c) O O O hv .head (by simp) ?_);refine lF ?_;refine W.loop (σ:=Nat×Array Value) (fun t=>t.1<=c/\Part t.2 0 (List.replicate t.1 (I n))/\t.2.size=c/\(0<c->0<t.1)) (fun t=>[(8,I t.1),(7,.slice (some ⟨UW,0,none⟩) c c)]) (fun t=>[(UW,.cells t.2 aX (0,0))]) (fun t=>c-t.1) (min 1 c,gQ (List.replicate c (I 0)).toArray 0 (List.replicate (min 1 c) (I n))) ⟨by dsimp only;omega,?_,by dsimp only;rw[wQ];simp,by dsimp only;omega⟩ iw .refl ?_
 ·have:=AQ (List.replicate (min 1 c) (I n)) (List.replicate c (I 0)).toArray (xs:=[]) ⟨[],_,O,O⟩ (by simp;omega);simpa using this
 rintro⟨m,X⟩ ⟨hm,hX,oH,hm0⟩;dsimp only at*;refine kR ?_;refine W.aJ O (fun c37=>?_) (fun c37=>?_)
 ·have hmc:m<c:=by omega
  have Q9:=hm0 aj;have hkm:min m (c-m)<=m:=by omega
  have hXk:Part X 0 (List.replicate (min m (c-m)) (I n)):=Part.sub (c:=X) (off:=0) (a:=[]) (b:=List.replicate (min m (c-m)) (I n)) (d:=List.replicate (m-min m (c-m)) (I n)) (by
   rw[List.nil_append,List.replicate_append_replicate,Nat.add_sub_cancel' hkm];exact hX)
  have hXe:=hXk.extract
  have hXn:Part (gQ X m (List.replicate (min m (c-m)) (I n))) 0 (List.replicate (m+min m (c-m)) (I n)):=by
   have:=AQ (List.replicate (min m (c-m)) (I n)) X hX (by simp;omega);rw[List.length_replicate,List.replicate_append_replicate]at this;exact this
  have apK:∀k,lC (List.replicate k (I n))=true:=fun k=>by
   induction k with
   | zero=>rfl
   | succ k ih=>rw[List.replicate_succ];exact ih
  refine gI ?_;refine W.kQ [] (n:=10) O ?_;refine ay 0 ?_;refine ay 1 ?_;refine ay 2 ?_
  refine aqe (i:=3) (agA O O O) (show _=Value.slice (some ⟨UW,m,none⟩) (c-m) (c-m) by
   rw[if_neg (show¬c=m by omega)];simp[kF]) O an O O ?_
  refine ay 4 ?_;refine ay 5 ?_;refine fJ 6 (WU rfl rfl rfl (by first | exact .inl rfl | exact .inr rfl | assumption)) rfl ?_;refine ae (i:=7) O an O O (anf (vs:=List.replicate (min m (c-m)) (I n)) O O O .head (by rw[List.length_replicate]) hXe (apK _) (by rw[List.length_replicate];omega) (by rw[List.length_replicate];omega) ?_);refine⟨.inr aC.nil,?_⟩;rw[List.length_replicate];refine ay 8 ?_;refine ay 9 ?_;refine az ?_;refine d_ ?_;exact⟨O,(m+min m (c-m),_),⟨by dsimp only;omega,hXn,by dsimp only;rw[wQ];exact oH,fun _=>by dsimp only;omega⟩,by dsimp only;omega,⟨lk O (show I _=I _ by congr 1),O,trivial⟩,.refl⟩
 refine iC ?_;obtain rfl:m=c:=by omega
 refine iQ (vs:=[.slice (some ⟨UW,0,none⟩) m m]) (.inr ⟨UW,X,m,[],by rw[List.length_replicate];rfl,O,by rw[oH,Nat.mul_one],by rw[List.length_replicate];exact Nat.le_refl _,?_,.nil⟩);rw[adL,List.map_replicate];exact hX
def ltI(N:Mo)(i:Int):Lt:=match N.mts[i.toNat]? with
 | some x=>⟨x.qu,x.co⟩
 | none=>⟨0,0⟩
def Mo.JE(N:Mo):List Lt:=(mV N.mi).map (ltI N)
def ab7(n:Nat)(st sh:List Int)(k:Nat):List Int:=((st.zip sh).take k).foldl (fun o x=>o.set x.1.toNat x.2) (List.replicate n (-1))
theorem akv{n:Nat}{st sh:List Int}:∀k,(ab7 n st sh k).length=n:=fun k=>by
 unfold ab7
 have:∀(l:List (Int×Int)) (o:List Int),(l.foldl (fun o x=>o.set x.1.toNat x.2) o).length=o.length:=fun l=>by
  induction l with
  | nil=>intro o;rfl
  | cons a l ih=>intro o;rw[List.foldl_cons,ih];simp
 rw[this];simp
variable{D:yD}{h:Hp}{i:Nat}{k:Int}{kv v' vm':Value}{α:Type}{P S a b c x:List α}
theorem ahi{n:Nat}{st sh:List Int}{k:Nat}{s:Int}(h:st[k]? =some (i:Int))(h':sh[k]? =some s):ab7 n st sh (k+1)=(ab7 n st sh k).set i s:=by
 unfold ab7;have e:(st.zip sh)[k]? =some ((i:Int),s):=by simp[List.zip,List.getElem?_zipWith,h,h']
 rw[List.take_add_one,e];simp
def yD.share(D:yD):List Int×Int×Int:=sD D.Vj D.mo.JE D.rs
def yD.out(D:yD):List Int:=ab7 D.jJ.length (mV D.mo.mi) D.share.1 (mV D.mo.mi).length
theorem ad7{ps:List Pn}{ls:List Lt}{rs:List Int}(h:jP ps ls rs=0):(sD ps ls rs).1.length=ls.length:=by
 unfold sD;rw[if_neg (by rw[h];decide)];obtain⟨s0,rest,hs0⟩:=List.exists_cons_of_ne_nil (XC (ps:=ps) (ls:=ls) (rs:=rs));rw[hs0];exact DL (UL (by rw[hs0];exact bT ..))
theorem yD.At.shE(H:D.At h):jP D.Vj D.mo.JE D.rs=0:=by
 have hsk:=H.sk;have h4:=H.m4;have P7:=ZA (M:=D.mo.mi);have hmn:D.mo.mi.l.length=D.jJ.length:=by show(List.map _ (List.map _ _)).length=_;simp
 unfold jP at hsk⊢;split at hsk
 ·rename_i h1;exact absurd hsk h1
 rename_i h1;rw[if_neg h1];split at hsk
 ·rename_i h2;exact absurd hsk h2
 have zU:NM D.mo.JE=0:=by
  unfold NM;rw[if_neg (by simp[Mo.JE];omega),if_neg];rw[Bool.not_eq_true,List.any_eq_false];intro x hx;obtain⟨a,ha,rfl⟩:=List.mem_map.1 hx;obtain⟨i,rfl,hi,-⟩:=mem_set ha;have him:i<D.mo.mts.length:=by show i<(D.jJ.map (·.2)).length;rw[List.length_map];omega
  unfold ltI;rw[Int.toNat_natCast,jh him];obtain⟨m,hm,e⟩:=List.mem_map.1 (List.getElem_mem him);have uU:=(H.me m hm).2.2;rw[<-e];have h1:=uU.qu;have h2:=uU.co;show¬Dy ⟨m.2.qu,m.2.co⟩=true;have e1:¬outs m.2.qu 0 12:=by simp only[outs];omega
  have e2:¬outs m.2.co 1 9:=by simp only[outs];omega
  simp[Dy,e1,e2]
 rw[if_neg (by rw[zU];decide)];exact hsk

theorem anh{main:aN}(hS:∀S,main.ok S->∃Fin,S=Mn aV Fin)(qJ:main.b=true)(h:Hp)(D:yD)(H:D.At h):bG aV main VF #[D.V] h [] (fun v F=>∃u S,v= .tuple #[u,I D.share.2.1,I 0]/\Os aX bY u D.out S/\Sb S F):=by
 have h4:=H.m4;have hse:=H.shE;have ayf:=ad7 hse;have ayg:D.share.2.2=0:=by unfold yD.share sD;rw[if_neg (by rw[hse];decide)]
 refine bG.bH func21 [(0,D.V)] ?_;obtain⟨am,cm,em⟩:=H.mm.aU;obtain⟨ap,cp',ep⟩:=H.pn.aU;obtain⟨ar,cr,er⟩:=H.rr.aU;refine d_ ?_;refine aA.box (fun vg=>?_);refine jk ?_;refine c0 (fun h' hE hL=>wo hS qJ h' D (H.ext hE) [] _ .nil (fun n hn=>by cases hn) (Nat.zero_le _)) (fun v A' hv=>?_);obtain⟨u,kb,mb,rfl,X,l,vp,S,rfl,hl,fP,hO,bF⟩:=hv;refine aA.sb (bF.app .refl) ?_;refine oz ?_;refine W.aJ O (fun c22=>?_) (fun c22=>?_)
 ·exact absurd O c22
 refine d_ ?_
 refine W.sb (F':=(X,.cells (mG D.va D.nS D.vr D.vf D.vm vp D.ps kb) gB (0,0))::(S++(bM l++[(vg,.cells #[D.va,I D.ps,D.nS,D.vr,D.vf,D.vm] fC (0,0))]))) (.cons (by
  show Sb (S++(bM l++[_])) ((S++(pX kb mb []++bM l))++[_]);rw[eF,eF];exact .app .refl (.left .refl wu))) ?_
 refine W.Ws D H hl fP hO (fun h1 zD HM=>?_);have E8:=Lu (X:=X) (kb:=kb) (vp:=vp) hl;have Xz:l.length=D.jJ.length:=by rw[<-hl];simp
 have P7:=ZA (M:=D.mo.mi);have hmn:D.mo.mi.l.length=D.jJ.length:=by show(List.map _ (List.map _ _)).length=_;simp
 refine jk ?_;refine cg (A:=bM l) (.head (A:=bM l)) (fun h' hE hL=>aoA hS qJ h' _ (HM.ext hE)) (fun v A' hv=>?_);obtain⟨S2,Ci,pJ⟩:=hv;rw[E8.set]at Ci;obtain⟨a2,c2,rfl⟩:=Ci.aU;refine aA.sb (F':=S2++[(vg,.cells #[D.va,I D.ps,D.nS,D.vr,D.vf,D.vm] fC (0,0))]) ((Sb.trans (.right .refl (pY fP)) pJ).app .refl) ?_;refine d_ ?_;refine eY Ci (fun h2 NY Oa hz2=>?_);have H2:=(H.ext zD).ext NY;have hmm:=H2.mm;rw[em]at hmm;refine kR ?_
 refine W.loop (σ:=Nat×Value×ah) (fun s=>s.1<=(mV D.mo.mi).length/\Os anW Lt.row s.2.1 (D.mo.JE.take s.1) s.2.2) (fun s=>[(28,I s.1),(27,I (mV D.mo.mi).length),(26,.slice a2 (mV D.mo.mi).length c2),(8,.slice a2 (mV D.mo.mi).length c2),(1,aG vg),(7,s.2.1)])
  (fun s=>(vg,.cells #[D.va,I D.ps,D.nS,D.vr,D.vf,D.vm] fC (0,0))::s.2.2) (fun s=>(mV D.mo.mi).length-s.1) (0,.slice none 0 0,[]) ⟨Nat.zero_le _,.nil .nil⟩ iw .refl ?_
 rintro⟨k,v,S⟩ ⟨hk,hO⟩;simp only at hk hO⊢;have hll:D.mo.JE.length=(mV D.mo.mi).length:=by simp[Mo.JE]
 refine kJ ?_;refine W.aJ O (fun c29=>?_) (fun c29=>?_)
 ·obtain⟨a,ha,-⟩:=has (show k<(mV D.mo.mi).length by omega);obtain⟨i,rfl,hi,hic⟩:=mem_set (dL ha);obtain⟨bs,os,cs,Es,fs,rfl,hbs,hxs,hys,hzs⟩:=Oa.at ha;have auA:cs[os+k*1]? =some (I i):=hzs 0 dF;clear hxs hzs;obtain⟨⟨kv,x⟩,hx0,-⟩:=has (show i<D.jJ.length by omega);obtain⟨bm,om,cmm,Em,fm,rfl,hbm,hxm,hym,hzm⟩:=hmm.at hx0;have hm4:cmm[om+i*5+4]? =some (I x.qu):=hzm 4 dF;have hm2:cmm[om+i*5+2]? =some (I x.co):=hzm 2 dF;clear hxm hzm
  have fK:ltI D.mo i=⟨x.qu,x.co⟩:=by
   unfold ltI;rw[Int.toNat_natCast,show D.mo.mts=D.jJ.map (·.2)from rfl,iL,hx0];rfl
  have Gt:D.mo.JE.take (k+1)=D.mo.JE.take k++[⟨x.qu,x.co⟩]:=by
   rw[List.take_add_one,Mo.JE,iL,ha,<-fK];rfl
  obtain⟨ao,co,rfl⟩:=hO.aU;refine gZ ?_;refine W.kQ [(vg,.cells #[D.va,I D.ps,D.nS,D.vr,D.vf,D.vm] fC (0,0))] (n:=17) O ?_;refine ay 0 ?_;refine ay 1 ?_;refine aqe (i:=2) (u:=.slice (some ⟨bm,om,none⟩) D.jJ.length cm) (CG O O) em O an O O ?_;refine ay 3 ?_;refine ay 4 ?_;refine ay 5 ?_;refine ay 6 ?_;refine ay 7 ?_;refine aqe (i:=8) (u:=.slice (some ⟨bm,om,none⟩) D.jJ.length cm) (CG O O) em O an O O ?_;refine ay 9 ?_;refine ay 10 ?_;refine ay 11 ?_;refine ay 12 ?_;refine ay 13 ?_;refine abl (i:=14) (cs:= #[I x.qu,I x.co]) (fun Le=>?_) O (hf:=by kernel_rfl);refine ae (i:=15) O an O O (bV (row:=Lt.row) (l':=[(⟨x.qu,x.co⟩:Lt)]) O O O hO (.tail (.tail .all)) (fun h2 _ hl=>Sl.mk (hl Le _ (.head _)) O (Part.all (Lt.row ⟨x.qu,x.co⟩))) (by simp;omega) dF O (fun v' S' xM=>?_));refine⟨.inr (by repeat(first | exact aC.nil | refine aC.one zS ?_)),?_⟩;refine ay 16 ?_;refine az ?_;refine lg ?_;exact⟨O,(k+1,v',S'),⟨by simp only;omega,by simp only;rw[Gt];exact xM⟩,by simp only;omega,iw,.skip O .refl⟩
 obtain rfl:k=(mV D.mo.mi).length:=by omega
 rw[<-hll,List.take_length]at hO;obtain⟨ao,co,rfl⟩:=hO.aU;refine kR ?_;refine Gh (u:=.slice ap D.Vj.length cp') (CG O O) ep O wn O O ?_;refine d_ ?_;refine Gh (u:=.slice ar D.rs.length cr) (CG O O) er O wn O O ?_;refine c0 (fun h' hE hL=>abv _ h' D.Vj D.mo.JE D.rs _ _ _ (ep▸H2.pn.ext hE) (hO.sl fun b o hb=>hL b o (.tail _ hb)) (er▸H2.rr.ext hE)) (fun v A' hv=>?_);obtain⟨us,SS,rfl,hOS,aqT⟩:=hv;change Os aX bY us D.share.1 SS at hOS;rw[show(sD D.Vj D.mo.JE D.rs).2.2=0 from ayg];obtain⟨aS,cS,rfl⟩:=hOS.aU;refine aA.sb (F':=SS++[(vg,.cells #[D.va,I D.ps,D.nS,D.vr,D.vf,D.vm] fC (0,0))]) (aqT.app (.cons (.nil hO.shut))) ?_;refine Qs ?_;refine W.aJ O (fun c60=>?_) (fun c60=>?_)
 ·exact absurd O c60
 refine d_ ?_;refine eY hOS (fun h3 hE3 ayh hzS=>?_);replace Oa:=Oa.ext hE3;refine d_ ?_;refine aA.zZ (cs:= #[I (-1)]) (fun ayj=>?_) O;refine awJ O ?_;refine Gh (u:=.slice am D.jJ.length cm) (CG O O) em O wn O O ?_;refine zT ?_;refine c0 (fun h' hE hL=>ahh _ h' (-1) _ D.jJ.length (Sl.mk (hL ayj _ (.head _)) O (Part.all [I (-1)])) h4) (fun v A' hv=>?_);obtain⟨aR,cR,rfl⟩:=hv.aU;rw[List.length_replicate];refine gZ ?_
 refine W.loop (σ:=Nat×ah) (fun s=>s.1<=(mV D.mo.mi).length/\Os aX bY (.slice aR D.jJ.length cR) (ab7 D.jJ.length (mV D.mo.mi) D.share.1 s.1) s.2) (fun s=>[(69,I s.1),(68,I (mV D.mo.mi).length),(67,.slice a2 (mV D.mo.mi).length c2),(11,.slice aS D.share.1.length cS),(12,I D.share.2.1),(13,.slice aR D.jJ.length cR)])
  (fun s=>s.2) (fun s=>(mV D.mo.mi).length-s.1) (0,A') ⟨Nat.zero_le _,by simpa[ab7]using hv⟩ iw (.right .refl (.cons O (.cons O .nil))) ?_
 rintro⟨k,S⟩ ⟨hk,hOk⟩;simp only at hk hOk⊢;refine kJ ?_;refine W.aJ O (fun c70=>?_) (fun c70=>?_)
 ·obtain⟨a,ha,-⟩:=has (show k<(mV D.mo.mi).length by omega);obtain⟨i,rfl,hi,hic⟩:=mem_set (dL ha);have azV:D.share.1.length=D.mo.JE.length:=ayf;have hll:D.mo.JE.length=(mV D.mo.mi).length:=by simp[Mo.JE]
  obtain⟨s,hs,-⟩:=has (show k<D.share.1.length by omega);obtain⟨bs,os,cs,Es,fs,rfl,hbs,hxs,hys,hzs⟩:=Oa.at ha;have auA:cs[os+k*1]? =some (I i):=hzs 0 dF;clear hxs hzs;obtain⟨bS,oS,cSS,ES,fS,rfl,hbS,hxS,hyS,hzS⟩:=ayh.at hs;have aAC:cSS[oS+k*1]? =some (I s):=hzS 0 dF;clear hxS hzS;have him:i<D.jJ.length:=by omega
  have hlk:=akv (n:=D.jJ.length) (st:=mV D.mo.mi) (sh:=D.share.1) k;rcases id hOk with⟨he,-⟩ | ⟨βo,cc,f_,Jo,he,rfl,IW,DN,hpt,hJo⟩
  ·rw[he]at hlk;exact absurd hlk (by simp;omega)
  rw[hlk]at he
  cases he
  have oH:0+i*1<cc.size:=by rw[hlk]at DN;omega
  refine apy ?_;refine oe O wn O O (eS O O O ?_ (hc:=oH));refine aA.nil<|iE<|fH<|W.region rfl ?_;refine gI ?_;refine⟨O,(k+1,(βo,.cells (cc.setIfInBounds (0+i*1) (I s)) aX (0,0))::Jo),⟨by simp only;omega,?_⟩,by simp only;omega,iw,.refl⟩;simp only;rw[ahi ha hs];refine .inr ⟨βo,_,_,Jo,by rw[List.length_set,hlk],O,by simpa using IW,by rw[List.length_set];exact DN,?_,hJo⟩;rw[show 0+i*1=i by omega];exact hpt.O0 (by rw[hlk];exact him)
 obtain rfl:k=(mV D.mo.mi).length:=by omega
 refine Qs ?_;exact iQ (vs:=[_,_,_]) ⟨_,S,O,hOk,.refl⟩
theorem ahj(main:aN)(h:Hp)(ss:List (Value×Mt))(vs:Value)(hs:Sl h yM vs ss)(hn:ss.length<=1000):bG aV main Jm #[vs] h [] (fun v A=>∃S,Os kD yM v ss S/\Sb S A):=by
 obtain⟨a,cap,rfl⟩:=hs.aU;refine bG.bH func91 [(0,.slice a ss.length cap)] ?_;refine kR ?_;refine b_ (Rh O O) O ?_;refine qj ?_;refine W.cond O (fun c4=>?_) (fun c4=>?_)
 ·refine lg ?_
  have:ss=[]:=by
   cases a with
   | some a=>cases c4
   | none=>
    rcases hss:ss with _ | ⟨x,r⟩
    ·rfl
    obtain⟨b,off,c,E,fz,e,_⟩:=hs.at (i:=0) (p:=x) (by rw[hss];rfl)
    cases e
  subst this;exact iQ (vs:=[.slice none 0 0]) ⟨[],.nil .nil,.refl⟩
 refine lF ?_;refine aA.alJ (fun iI=>?_) O;refine zT ?_;have hO:Os kD yM (.slice (some ⟨iI,0,none⟩) 0 0) ([]:List (Value×Mt)) [(iI,.cells #[] kD (0,0))]:=.inr ⟨iI, #[],0,[],O,O,O,Nat.le_refl _,Part.all [],.nil⟩;refine oe O wn O O (bV (row:=yM) (l:=[]) (l':=ss) O O O hO .all (fun h2 hE hl=>hs.ext hE) (by simp;omega) dF O (fun v' S' xM=>?_));rw[List.nil_append]at xM;refine gI ?_;exact iQ (vs:=[v']) ⟨S',xM,.refl⟩


theorem XT{kv v':Value}{x:Mt}{ks':List Int}(hv:one v'=true):∀{l:List (Value×Mt)} {i:Nat},l[i]? =some (kv,x)->(flat yM l).set (i*5) v'=flat yM (l.set i (v',{x with ks:=ks'}))
 | [],i,h=>by cases h
 | a::l,0,h=>by
  cases h
  rw[Nat.zero_mul,List.set_cons_zero,iW,iW];rw[Iw hv];rfl
 | a::l,i+1,h=>by
  rw[List.set_cons_succ,iW,iW,<-XT hv (l:=l) (i:=i) (by simpa using h)];have e:(yM a).length=5:=rfl;rw[List.set_append,if_neg (by rw[e];omega),e]
  congr 2;omega
theorem ahk{c:Array Value}{l:List (Value×Mt)}{x:Mt}{ks':List Int}(hP:Part c 0 (flat yM l))(hv:one v'=true)(hi:l[i]? =some (kv,x)):Part (c.setIfInBounds (0+i*5) v') 0 (flat yM (l.set i (v',{x with ks:=ks'}))):=by
 obtain⟨pre,post,h1,h2⟩:=hP;have hp:pre=[]:=jy.1 h2;subst hp;refine⟨[],post,?_,O⟩
 have Gp:i<l.length:=by
  rcases bQ i l.length with h' | h'
  ·exact h'
  rw[fM h']at hi;cases hi
 have CV:i*5<(flat yM l).length:=by rw[gU];omega
 rw[Array.toList_setIfInBounds,h1,List.nil_append,List.nil_append,Nat.zero_add,List.set_append,if_pos CV,XT hv hi]

theorem ab8(main:aN)(h:Hp)(b7 β off:Nat)(k:Int)(E7:TypeId)(z7:Nat×Nat)(c:Array Value)(hb:h b7=some (.cells #[I k] E7 z7))(xR:off<c.size):
  gG aV main (.func (.func iG) #[] #[aG b7]) [.pointer (some ⟨β,off,none⟩)] h [(β,.cells c kD (0,0))] (fun _ F=>∃βk,Sb [(βk,.cells #[I k] aX (0,0)),(β,.cells (c.setIfInBounds off (.slice (some ⟨βk,0,none⟩) 1 1)) kD (0,0))] F):=by
 refine gG.o9 (f:=iG) (fi:=[]) (ca:=[aG b7]) ?_;refine bG.bH func65 [(0,.pointer (some ⟨β,off,none⟩)),(1,aG b7)] ?_;refine gI ?_;refine aA.zZ (cs:= #[I k]) (fun iI=>?_) O;refine d_ ?_;refine oe O wn O O (eS O O O ?_ (hc:=by show off+0<c.size;omega));refine aA.nil ?_;exact iQ (vs:=[]) ⟨iI,.refl⟩
theorem akw(main:aN)(h:Hp)(b11 b6 b8 β n cap i:Nat)(x0 x1 x2 x3 x4 kv:Value)(d co wa qu:Int)(E1 E2 E3:TypeId)(z1 z2 z3:Nat×Nat)(c:Array Value)(h1:h b11=some (.cells #[kv,I d,I co,I wa,I qu] E1 z1))(okv:one kv=true)(h2:h b6=some (.cells #[x0,x1,x2,x3,x4,.slice (some ⟨β,0,none⟩) n cap] E2 z2))(h3:h b8=some (.cells #[I i] E3 z3))(hi:i<n)(hn:n*5<=c.size):
  QN aV main ni #[aG b11,aG b6,aG b8] h [(β,.cells c kD (0,0))] (fun A=>eH A):=by
 refine QN.gX func92 O (by show 3<=8;decide) [(0,aG b11),(1,aG b6),(2,aG b8)] ⟨O,O,O,trivial⟩ ?_;refine lg ?_;refine aA.alf (n:=5) (vs:= #[kv,I d,I co,I wa,I qu]) ?_ (hc:=by show 0+i*5+5<=c.size;omega) (h1:=by show(one kv&&true)=true;rw[okv];rfl);refine aA.nil ?_;exact iQ (vs:=[]) (.cons O .nil)

theorem auC{L:List α}:((L++P)++(a++(x++S))).Perm ((x++(S++P))++(a++L)):=by
 classical
 rw[List.perm_iff_count];intro y;simp only[List.count_append];omega
theorem auD{L p q r:List α}:((a++(q++(p++(r++L))))++(P++(x++S))).Perm ((L++P)++(a++(p++(q++(r++(x++S)))))):=by
 classical
 rw[List.perm_iff_count];intro y;simp only[List.count_append];omega
def Mo.kind(N:Mo)(i:Nat)(k:Int):Mo:=match N.mts[i]? with
 | some x=>{N with mts:=N.mts.set i {x with ks:=[k]}}
 | none=>N
def yD.kind(D:yD)(i:Nat)(x:Mt)(k:Int)(v' vm':Value):yD:={D with vm:=vm',jJ:=D.jJ.set i (v',{x with ks:=[k]})}
theorem ani{x:Mt}(hi:D.jJ[i]? =some (kv,x)):(D.kind i x k v' vm').mo=D.mo.kind i k:=by
 unfold Mo.kind;rw[show D.mo.mts=D.jJ.map (·.2)from rfl,iL,hi];show(⟨D.gs,D.ps,D.fs,(D.jJ.set i (v',{x with ks:=[k]})).map (·.2)⟩:Mo)=⟨D.gs,D.ps,D.fs,_⟩;rw[List.map_set]
theorem yD.At.kind{h':Hp}(H:D.At h)(hE:Ext h h'){x:Mt}(hi:D.jJ[i]? =some (kv,x))(hk:0<=k/\k<=63)(hv:Sl h' bY v' [k])(zv:Zs h' v')(hm:Sl h' yM vm' (D.jJ.set i (v',{x with ks:=[k]}))):(D.kind i x k v' vm').At h':=by
 have H':=H.ext hE;refine⟨H'.ga,H'.za,H'.gk,H'.pk,H'.pn,H'.rr,H'.sk,H'.ff,H'.zf,H'.fk,hm,fun p hp=>?_,by show(D.jJ.set _ _).length<=4;rw[List.length_set];exact H'.m4,H'.g0,H'.z0⟩;rcases List.mem_or_eq_of_mem_set hp with hp | rfl
 ·exact H'.me p hp
 have hx:=(H'.me _ (dL hi)).2.2;exact⟨hv,zv,⟨Nat.le_refl _,by show 1<=3;decide,fun n hn=>by rw[dP.1 hn];exact hk,List.pairwise_singleton ..,hx.d,hx.co,hx.wa,hx.qu⟩⟩
abbrev uS:Value:=.func (.func qF) #[] #[]
def Mo.JD(N:Mo):Int:=FI N.mi

theorem aqY{main:aN}(hS:∀S,main.ok S->∃Fin,S=Mn aV Fin)(qJ:main.b=true)(h:Hp)(D:yD)(H:D.At h)(i:Nat)(kv:Value)(x:Mt)(hi:D.jJ[i]? =some (kv,x))(k:Int)(hk:0<=k/\k<=63)(b7:Nat)(E7:TypeId)(z7:Nat×Nat)(hb7:h b7=some (.cells #[I k] E7 z7))(kb mb:Nat)(m:List (List Int×Value))(hm:IC D.fs m):
  bG aV main FU #[.agg #[uS],D.V,aG kb,I i,.func (.func iG) #[] #[aG b7]] h (pX kb mb m) (fun v F=>v=I (D.mo.kind i k).JD/\∃m',IC D.fs m'/\Sb (pX kb mb m') F):=by
 have h4:=H.m4
 have Gp:i<D.jJ.length:=by
  rcases bQ i D.jJ.length with h' | h'
  ·exact h'
  rw[fM h']at hi;cases hi
 obtain⟨am,cm,em⟩:=H.mm.aU;have okv:=(H.me _ (dL hi)).1.one;refine bG.bH func64 [(0,.agg #[uS]),(1,D.V),(2,aG kb),(3,I i),(4,.func (.func iG) #[] #[aG b7])] ?_;refine d_ ?_;refine aA.box (fun iI=>?_);refine aA.box (fun mX=>?_);refine aA.box (fun zC=>?_);refine lg ?_;refine c0 (fun h' hE hL=>ahj _ h' D.jJ _ (H.mm.ext hE) aj) (fun v A' hv=>?_);obtain⟨S,hO,bF⟩:=hv;rcases id hO with⟨he,-⟩ | ⟨XU,cc,ND,Jc,rfl,rfl,Y4,ZJ,hpt,hJc⟩
 ·rw[he]at Gp;cases Gp
 refine aA.sb (F':=(XU,.cells cc kD (0,0))::(zC,.cells #[I i] aX (0,0))::(mX,.cells #[D.va,I D.ps,D.nS,D.vr,D.vf,D.vm] fC (0,0))::(iI,.cells #[uS] dZ (0,0))::pX kb mb m) (.trans (.cons (.left .refl hJc)) (bF.app .refl)) ?_
 have hcc:i*5+5<=cc.size:=by
                    have:ND*5<=cc.size:=by omega
                    omega
 have hex:cc.extract (0+i*5) (0+i*5+5)= #[kv,I x.d,I x.co,I x.wa,I x.qu]:=by
  have:=(Part.afN hpt hi).1;rw[Iw okv]at this;exact this
 have hn5:0+i*5+5<=cc.size:=by omega
 refine gZ ?_;refine aA.new (fun zH=>?_);refine aA.Yi (vs:= #[kv,I x.d,I x.co,I x.wa,I x.qu]) ?_ (h1:=by show(one kv&&true)=true;rw[okv];rfl);refine lF ?_;refine aA.defer (d:={target:=.fn (.func ni) #[aG zH,aG mX,aG zC],args:= #[]}) O (aK O) O wn O (fun e he=>?_) ?_
 ·have e3:e (.tmp 21)= .func (.func ni) #[] #[aG zH,aG mX,aG zC]:=he _ _ O;simp[resolve,Deferred.ofValue,e3,au]
 refine kR ?_;refine cgv (A:=[(XU,.cells cc kD (0,0))]) (.tail .head) (fun h' hE hL=>ab8 main h' b7 XU (0+i*5) k E7 z7 cc (hE.1 _ _ hb7) aj) (fun v A' hv=>?_);obtain⟨βk,aqZ⟩:=hv;refine aA.sb (.cons (aqZ.app .refl)) ?_;refine d_ ?_;refine W.sb (F':=(βk,.cells #[I k] aX (0,0))::([(iI,.cells #[uS] dZ (0,0)),(mX,.cells #[D.va,I D.ps,D.nS,D.vr,D.vf,.slice (some ⟨XU,0,none⟩) D.jJ.length ND] fC (0,0)),(zC,.cells #[I i] aX (0,0)),(XU,.cells (cc.setIfInBounds (0+i*5) (.slice (some ⟨βk,0,none⟩) 1 1)) kD (0,0))]++((zH,.cells #[kv,I x.d,I x.co,I x.wa,I x.qu] kD (0,0))::pX kb mb m))) (.aT ?_) ?_
 ·refine List.perm_middle.symm.trans ?_;exact(List.reverse_perm [(zH,.cells #[kv,I x.d,I x.co,I x.wa,I x.qu] kD (0,0)),(βk,.cells #[I k] aX (0,0)),(XU,.cells (cc.setIfInBounds (0+i*5) (.slice (some ⟨βk,0,none⟩) 1 1)) kD (0,0)),(zC,.cells #[I i] aX (0,0)),(mX,.cells #[D.va,I D.ps,D.nS,D.vr,D.vf,.slice (some ⟨XU,0,none⟩) D.jJ.length ND] fC (0,0)),(iI,.cells #[uS] dZ (0,0))]).append_right (pX kb mb m)
 refine W.freeze O (fun h1 zD hbk hzk=>?_);have hP2:=ahk (ks':=[k]) (v':=.slice (some ⟨βk,0,none⟩) 1 1) hpt O hi;generalize hD':D.kind i x k (.slice (some ⟨βk,0,none⟩) 1 1) (.slice (some ⟨XU,0,none⟩) D.jJ.length ND)=D';have aoE:D'.fs=D.fs:=by rw[<-hD'];rfl
 have hHD:∀h',Ext h1 h'->h' XU=some (.cells (cc.setIfInBounds (0+i*5) (.slice (some ⟨βk,0,none⟩) 1 1)) kD (0,0))->D'.At h':=fun h' hE hc=>by
  rw[<-hD'];exact H.kind (zD.trans hE) hi hk (Sl.mk (hE.1 _ _ hbk) rfl (Part.all [I k])) (fun b off n cap e=>by cases e;exact hE.2 _ hzk) (Sl.mk hc (by rw[List.length_set]) hP2)
 refine W.kQ [(iI,.cells #[uS] dZ (0,0)),(mX,.cells #[D.va,I D.ps,D.nS,D.vr,D.vf,.slice (some ⟨XU,0,none⟩) D.jJ.length ND] fC (0,0))] (n:=7) O ?_;refine ay 0 ?_;refine ay 1 ?_;refine ay 2 ?_;refine ay 3 ?_
 refine ae (i:=4) O an O O (oL (args:=[_,_]) O O (fun h' hE hL=>show bG aV main Ez #[.agg #[D.va,I D.ps,D.nS,D.vr,D.vf,.slice (some ⟨XU,0,none⟩) D.jJ.length ND],aG kb] h' [] (fun v F=>akp D' v [] kb F)from by
  have:=ab2 hS qJ h' D' (hHD h' hE (hL XU _ (.tail _ (.tail _ (.tail _ (.head _)))))) kb;rw[<-hD']at this⊢;exact this) (fun v A' hv=>?_))
 refine⟨.inr (aC.app (fun _ h=>jm _ (jm _ h))),?_⟩;obtain⟨X,l,vp,SO,rfl,hl,fP,hOO,ayk⟩:=hv;have E8:=Lu (X:=X) (kb:=kb) (vp:=vp) hl;refine Any.sb (F':=(pX kb mb m++bM l)++([(iI,.cells #[uS] dZ (0,0)),(mX,.cells #[D.va,I D.ps,D.nS,D.vr,D.vf,.slice (some ⟨XU,0,none⟩) D.jJ.length ND] fC (0,0))]++((zC,.cells #[I i] aX (0,0))::(XU,.cells (cc.setIfInBounds (0+i*5) (.slice (some ⟨βk,0,none⟩) 1 1)) kD (0,0))::(zH,.cells #[kv,I x.d,I x.co,I x.wa,I x.qu] kD (0,0))::(X,.cells (mG D'.va D'.nS D'.vr D'.vf D'.vm vp D'.ps kb) gB (0,0))::SO))) ?_ ?_
 ·exact .trans (.aT (auC (L:=pX kb mb m) (P:=bM l) (a:=[_,_,_,_,_]) (x:=[_]) (S:=SO))) (ayk.app .refl)
 refine ae (i:=5) O an O O (AL (A:=pX kb mb m++bM l) (args:=[_]) O O O (.head (A:=pX kb mb m++bM l)) (fun h' hE hL=>gG.o9 (f:=qF) (fi:=[]) (ca:=[]) (ab1 hS qJ h' (oU.of D' X kb vp l) ((hHD h' hE (hL XU _ (.tail _ (.tail _ (.tail _ (.head _)))))).Ws ⟨fun _ _ q=>q,fun _ q=>q⟩ (hL X _ (.tail _ (.tail _ (.tail _ (.tail _ (.tail _ (.head _))))))) (hOO.sl fun b o hb=>hL b o (.tail _ (.tail _ (.tail _ (.tail _ (.tail _ (.tail _ hb))))))) hl fP) mb m (show IC D'.fs m from aoE.symm▸hm))) (fun v A2 hv=>?_));refine⟨.inr (fun _ h=>bZ _ (jm _ h)),?_⟩;obtain⟨rfl,m',Vf,pJ⟩:=hv;refine Any.sb (F':=(iI,.cells #[uS] dZ (0,0))::(mX,.cells #[D.va,I D.ps,D.nS,D.vr,D.vf,.slice (some ⟨XU,0,none⟩) D.jJ.length ND] fC (0,0))::(XU,.cells (cc.setIfInBounds (0+i*5) (.slice (some ⟨βk,0,none⟩) 1 1)) kD (0,0))::(zC,.cells #[I i] aX (0,0))::(zH,.cells #[kv,I x.d,I x.co,I x.wa,I x.qu] kD (0,0))::pX kb mb m') (.trans ⟨bM l++((X,.cells (mG D'.va D'.nS D'.vr D'.vf D'.vm vp D'.ps kb) gB (0,0))::SO),auD (L:=pX kb mb m') (P:=bM l) (a:=[_,_]) (p:=[_]) (q:=[_]) (r:=[_]) (x:=[_]) (S:=SO),(pY fP).app (.cons O hOO.shut)⟩ (pJ.app .refl)) ?_;refine ay 6 ?_;refine az ?_;refine d_ ?_;refine Ie (cap:= #[aG zH,aG mX,aG zC]) (A:=[(XU,.cells (cc.setIfInBounds (0+i*5) (.slice (some ⟨βk,0,none⟩) 1 1)) kD (0,0))]) (.tail (.tail .head)) (fun h' hE hL=>akw main h' zH mX zC XU D.jJ.length ND i _ _ _ _ _ kv x.d x.co x.wa x.qu _ _ _ _ _ _ _ (hL zH _ (.tail _ (.tail _ (.tail _ (.head _))))) okv (hL mX _ (.tail _ (.head _))) (hL zC _ (.tail _ (.tail _ (.head _)))) Gp (by rw[Array.size_setIfInBounds];omega)) (fun A2 hA2=>?_);refine iQ (vs:=[_]) ⟨?_,m',aoE▸Vf,.left (.skip O (.skip O (.skip O (.skip O .refl)))) hA2⟩;show I _=I _;rw[E8.JD,<-hD',ani hi];rfl
def auE(x:Int)(v:Value)(S:ah):Prop:=v=I x/\S=[]
theorem ad8{main:aN}(hS:∀S,main.ok S->∃Fin,S=Mn aV Fin)(qJ:main.b=true)(h:Hp)(D:yD)(H:D.At h)(i:Nat)(kv:Value)(x:Mt)(hi:D.jJ[i]? =some (kv,x))(kb b1 b2 b3 b4:Nat)(E1 E2 E3 E4:TypeId)(z1 z2 z3 z4:Nat×Nat)
  (h1:h b1=some (.cells #[D.va,I D.ps,D.nS,D.vr,D.vf,D.vm] E1 z1)) (h2:h b2=some (.cells #[I i] E2 z2)) (h3:h b3=some (.cells #[uS] E3 z3)) (h4:h b4=some (.cells #[aG kb] E4 z4)) (mb:Nat) (m:List (List Int×Value)) (hm:IC D.fs m):
  aof aV main (.func (.func mD) #[] #[aG b1,aG b2,aG b3,aG b4]) auE (x.ks.map fun k=>(D.mo.kind i k).JD) (pX kb mb m) (fun R=>∃m',IC D.fs m'/\R=pX kb mb m') h:=by
 intro h' Bc yv YZ J K hy A hJ;obtain⟨am,cm,em⟩:=H.mm.aU;have hm4:=H.m4
 have Gp:i<D.jJ.length:=by
  rcases bQ i D.jJ.length with h' | h'
  ·exact h'
  rw[fM h']at hi;cases hi
 obtain⟨ks0,zk0,hx⟩:Sl h bY kv x.ks/\Zs h kv/\EU x:=H.me _ (dL hi);obtain⟨ak,ck,ek⟩:=ks0.aU;have hxk:=hx.ks;have aAD:=hx.k3;have hH':=H.ext Bc;have auF:=hH'.mm;rw[em]at auF h1;obtain⟨b,off,c,E,fz,e,hb,hxx,hyy,hzz⟩:=auF.at hi
 cases e
 have hDV:D.V= .agg #[D.va,I D.ps,D.nS,D.vr,D.vf,.slice (some ⟨b,off,none⟩) D.jJ.length cm]:=by rw[<-em]
 have okv:one kv=true:=ks0.one;have hz0:c[off+i*5+0]? =some kv:=by have:=hzz 0 dF;rw[Iw okv]at this;exact this
 clear hzz hxx;subst ek;replace h1:=Bc.1 _ _ h1;replace h2:=Bc.1 _ _ h2;replace h3:=Bc.1 _ _ h3;replace h4:=Bc.1 _ _ h4;refine gG.o9 (f:=mD) (fi:=[]) (args:=[_]) (ca:=[aG b1,aG b2,aG b3,aG b4]) ?_;refine bG.bH func63 [(0,yv),(1,aG b1),(2,aG b2),(3,aG b3),(4,aG b4)] ?_;refine oz ?_;refine W.loop (σ:=Nat×List (List Int×Value)×ah) (fun s=>s.1<=x.ks.length/\IC D.fs s.2.1/\J s.1 s.2.2) (fun s=>[(15,I s.1),(14,I x.ks.length),(13,.slice ak x.ks.length ck),(0,yv),(1,aG b1),(2,aG b2),(3,aG b3),(4,aG b4)]) (fun s=>pX kb mb s.2.1++s.2.2) (fun s=>x.ks.length-s.1) (0,m,A) ⟨Nat.zero_le _,hm,hJ⟩ iw (.aT dK) ?_;rintro⟨k,m1,A1⟩ ⟨hk,Q9,hJ1⟩;refine kJ ?_;refine W.aJ O (fun PV=>?_) (fun PV=>?_)
 ·simp only at hk Q9 hJ1;have zI:k<x.ks.length:=by omega
  obtain⟨p,hp,yI⟩:=has zI;obtain⟨b9,auv,c9,E9,fz9,e9,hb9,hx9,hy9,hz9⟩:=(ks0.ext Bc).at hp
  cases e9
  have aAE:c9[auv+k*1]? =some (I p):=hz9 0 dF;have aut:=hxk p (dL hp);clear hx9 hz9;have hpx:(x.ks.map fun k=>(D.mo.kind i k).JD)[k]? =some (D.mo.kind i p).JD:=by rw[iL,hp];rfl
  refine kR ?_;refine aA.new (fun yc=>?_);refine gZ ?_
  refine cg (A:=pX kb mb m1) (.tail .head) (vs:=[.agg #[uS],.agg #[D.va,I D.ps,D.nS,D.vr,D.vf,.slice (some ⟨b,off,none⟩) D.jJ.length cm],aG kb,I i,.func (.func iG) #[] #[aG yc]]) (fun h2 hE hL=>by
   have:=aqY hS qJ h2 D (hH'.ext hE) i _ x hi p aut yc _ _ (hL yc _ (.head _)) kb mb m1 Q9;rw[hDV]at this;exact this) (fun v A' hv=>?_)
  obtain⟨rfl,m2,hm2,bF⟩:=hv;refine aA.sb (F':=A1++((yc,.cells #[I p] aX (0,0))::pX kb mb m2)) ((Sb.aT (dK.trans (.refl _))).trans (.cons (bF.app .refl))) ?_;refine cgv (A:=A1) .head (fun h2 hE hL=>hy h2 hE k _ _ [] A1 hpx ⟨rfl,rfl⟩ (fun b o h=>by cases h) hJ1) (fun r B1 TP=>?_);obtain⟨rb,rfl⟩:∃rb,r= .bool rb:=by rcases TP with⟨h,-⟩ | ⟨h,-⟩ <;>exact⟨_,h⟩
  refine d_ ?_;refine W.cond O (fun ZH=>?_) (fun ZH=>?_)
  ·skip
   refine kJ ?_;refine iQ (vs:=[]) ?_;rcases TP with⟨h,-⟩ | ⟨-,B,hK,pJ⟩
   ·cases h;cases ZH
   refine⟨pX kb mb m2,⟨m2,hm2,O⟩,.inr ⟨k,_,_,[],B,hpx,⟨O,O⟩,hK,?_⟩⟩;rw[List.append_nil];exact pJ.app (.skip O .refl)
  obtain⟨B,hJ2,pJ⟩:∃B,J (k+1) B/\Sb B B1:=by
   rcases TP with⟨-,B,h1,h2⟩ | ⟨h,-⟩
   ·exact⟨B,h1,h2⟩
   cases h;cases ZH
  refine jk ?_;exact⟨O,(k+1,m2,B),⟨zI,hm2,hJ2⟩,by show _-_<_-_;omega,iw,((Sb.aT dK).trans (pJ.app (.skip O .refl)))⟩
 refine lF ?_;refine iQ (vs:=[]) ?_;simp only at hk Q9 hJ1;have hke:k=x.ks.length:=by omega
 refine⟨pX kb mb m1,⟨m1,Q9,O⟩,.inl ⟨A1,by rw[List.length_map,<-hke];exact hJ1,.aT dK⟩⟩

theorem akx(main:aN)(h:Hp)(va nS vr vf vm:Value)(ps:Int)(kb:Nat)(i:Int)(o1:one va=true)(o2:one nS=true)(o3:one vr=true)(o4:one vf=true)(o5:one vm=true):bG aV main Eu #[.agg #[uS],.agg #[va,I ps,nS,vr,vf,vm],aG kb,I i] h []
  (fun v A=>∃b1 b2 b3 b4,v= .func (.func mD) #[] #[aG b1,aG b2,aG b3,aG b4]/\Sb [(b1,.cells #[va,I ps,nS,vr,vf,vm] fC (0,0)),(b2,.cells #[I i] aX (0,0)),(b3,.cells #[uS] dZ (0,0)),(b4,.cells #[aG kb] nD (0,0))] A):=by
 refine bG.bH func37 [(0,.agg #[uS]),(1,.agg #[va,I ps,nS,vr,vf,vm]),(2,aG kb),(3,I i)] ?_;refine d_ ?_;refine aA.box (fun mW=>?_);refine aA.box (fun iI=>?_);refine aA.box (fun mX=>?_);refine aA.box (fun yc=>?_);refine kR ?_;refine iQ ⟨iI,yc,mW,mX,O,.aT ?_⟩
 classical
 rw[List.perm_iff_count];intro y;show List.count y ([(iI,Obj.cells #[va,I ps,nS,vr,vf,vm] fC (0,0))]++([(yc,Obj.cells #[I i] aX (0,0))]++([(mW,Obj.cells #[uS] dZ (0,0))]++[(mX,Obj.cells #[aG kb] nD (0,0))])))=List.count y ([(yc,Obj.cells #[I i] aX (0,0))]++([(mX,Obj.cells #[aG kb] nD (0,0))]++([(iI,Obj.cells #[va,I ps,nS,vr,vf,vm] fC (0,0))]++[(mW,Obj.cells #[uS] dZ (0,0))])));simp only[List.count_append];omega

theorem xH{x:Cx}{ρ:Env}{F:ah}{o:Oper}{v:Value}{R:Value->ah->Prop}(hy:Yv x (· =F) ρ o v)(K:R v F):Ef x ρ o F R:=Ef.uY fun e he h' hE=>qg (hy e he F O h' hE) fun nx F' h=>⟨v,.inl h.1,h.2▸K⟩
def auG:Option (Int×Int)->Array Value
 | none=> #[I 0,I 0,.bool false]
 | some (a,b)=> #[I a,I b,.bool true]
abbrev ZB(o:Option (Int×Int)):Obj:=.cells (auG o) rW (0,0)
def tkF:Option (Int×Int)->Int->Option (Int×Int)
 | none,n=>some (n,n)
 | some (a,b),n=>some (min a n,max b n)
theorem auI(main:aN)(h:Hp)(β:Nat)(o:Option (Int×Int))(n:Int):bG aV main nV #[aG β,I n] h [(β,ZB o)] (fun _ A=>Sb [(β,ZB (tkF o n))] A):=by
 rcases o with _ | ⟨a,b⟩
 ·show bG aV main nV #[aG β,I n] h [(β,.cells #[I 0,I 0,.bool false] rW (0,0))] _;refine bG.bH func38 [(0,aG β),(1,I n)] ?_;refine FT ?_;refine W.cond O (fun c8=>?_) (fun c8=>?_)
  ·refine Qv ?_;refine W.mono (Q:=(fun e gW iT F'=>e= .normal/\iT=[]/\Sb [(β,ZB (tkF none n))] F')) ?_ ?_
   ·refine W.kQ [] (n:=20) O ?_;refine ay 0 ?_;refine ay 1 ?_;refine ay 2 ?_;refine ay 3 ?_;refine ay 4 ?_;refine ay 6 ?_;refine ay 8 ?_;refine ay 9 ?_;refine ay 10 ?_;refine ay 12 ?_;refine Any.Vp (i:=5) (j:=11) aB (aK O) (aK O) an an O O O O ?_ ?_
    ·refine xH (CG O O (v:=I n)) ⟨.inr aC.nil,?_⟩;refine ay 7 ?_;refine ae (i:=11) O an O O (xH (CG O O (v:=I n)) ⟨.inr aC.nil,?_⟩);refine ay 13 ?_;refine ay 14 ?_;refine ay 15 ?_;refine ae (i:=16) O an O O (eS O O O ?_);refine⟨.inr aC.nil,?_⟩;refine ay 17 ?_;refine ay 18 ?_;refine ae (i:=19) O an O O (eS O O O ?_);refine⟨.inr aC.nil,?_⟩;refine az ?_;exact⟨O,O,(by rw[Int.min_self,Int.max_self];exact .refl)⟩
    refine xH (CG O O (v:=I n)) ⟨.inr aC.nil,?_⟩;refine ay 13 ?_;refine ae (i:=5) O an O O (xH (CG O O (v:=I n)) ⟨.inr aC.nil,?_⟩);refine ay 7 ?_;refine ay 14 ?_;refine ay 15 ?_;refine ae (i:=16) O an O O (eS O O O ?_);refine⟨.inr aC.nil,?_⟩;refine ay 17 ?_;refine ay 18 ?_;refine ae (i:=19) O an O O (eS O O O ?_);refine⟨.inr aC.nil,?_⟩;refine az ?_;exact⟨O,O,(by rw[Int.min_self,Int.max_self];exact .refl)⟩
   rintro e gW iT F' ⟨rfl,rfl,bF⟩;exact iQ (vs:=[]) bF
  exact absurd c8 (by simp)
 show bG aV main nV #[aG β,I n] h [(β,.cells #[I a,I b,.bool true] rW (0,0))] _;refine bG.bH func38 [(0,aG β),(1,I n)] ?_;refine FT ?_;refine W.cond O (fun c8=>?_) (fun c8=>?_)
 ·exact absurd c8 (by simp)
 refine d_ ?_;refine W.mono (Q:=(fun e gW iT F'=>e= .normal/\iT=[]/\Sb [(β,ZB (tkF (some (a,b)) n))] F')) ?_ ?_
 ·refine W.kQ [] (n:=20) O ?_;refine ay 0 ?_;refine ay 1 ?_;refine ay 2 ?_;refine ay 3 ?_;refine ay 4 ?_;refine ay 6 ?_;refine ay 8 ?_;refine ay 9 ?_;refine ay 10 ?_;refine ay 12 ?_;refine Any.Vp (i:=5) (j:=11) aB (aK O) (aK O) an an O O O O ?_ ?_
  ·refine xH (CG O O (v:=I a)) ⟨.inr aC.nil,?_⟩;refine ay 7 ?_;refine ae (i:=11) O an O O (xH (CG O O (v:=I b)) ⟨.inr aC.nil,?_⟩);refine ay 13 ?_;refine ay 14 ?_;refine ay 15 ?_;refine ae (i:=16) O an O O (eS O O O ?_);refine⟨.inr aC.nil,?_⟩;refine ay 17 ?_;refine ay 18 ?_;refine ae (i:=19) O an O O (eS O O O ?_);refine⟨.inr aC.nil,?_⟩;refine az ?_;exact⟨O,O,.refl⟩
  refine xH (CG O O (v:=I b)) ⟨.inr aC.nil,?_⟩;refine ay 13 ?_;refine ae (i:=5) O an O O (xH (CG O O (v:=I a)) ⟨.inr aC.nil,?_⟩);refine ay 7 ?_;refine ay 14 ?_;refine ay 15 ?_;refine ae (i:=16) O an O O (eS O O O ?_);refine⟨.inr aC.nil,?_⟩;refine ay 17 ?_;refine ay 18 ?_;refine ae (i:=19) O an O O (eS O O O ?_);refine⟨.inr aC.nil,?_⟩;refine az ?_;exact⟨O,O,.refl⟩
 rintro e gW iT F' ⟨rfl,rfl,bF⟩;exact iQ (vs:=[]) bF
theorem aky{fs:List Fl}{ss:List St}:0<=(jF fs ss).2.1/\(jF fs ss).2.1<=24:=by
 by_cases zU:dU fs ss=0
 ·have hh:=wI zU;obtain⟨q,-,hq⟩:=(XK hh).1;have hn:=hh.ns;have hl:=Lp (p:=q) hh ss.length aj;rw[(U9 zU).1];show 0<=(lY fs ss).1/\(lY fs ss).1<=24;rw[<-hq,Lr hh];omega
 rw[show jF fs ss=([],0,dU fs ss)from if_pos zU];exact⟨Int.le_refl _,by show(0:Int)<=24;decide⟩
theorem ab9{M:oU}:0<=FI M/\FI M<=24:=by
 unfold FI;split
 ·exact⟨Int.le_refl _,dF⟩
 exact aky
def Mo.known(N:Mo)(i:Nat)(ks:List Int):List Int:=ks.map fun k=>(N.kind i k).JD
def Mo.worth(N:Mo)(i:Nat)(ks:List Int)(n:Nat):Option (Int×Int):=(((N.known i ks).take n).map fun a=>a-N.JD).foldl tkF none
theorem ad9{N:Mo}{ks:List Int}{n:Nat}{a:Int}(h:(N.known i ks)[n]? =some a):N.worth i ks (n+1)=tkF (N.worth i ks n) (a-N.JD):=by
 unfold Mo.worth;rw[List.take_add_one,h];simp
def akz(o:Option (Int×Int)):Array Value:=match o with
 | none=> #[I 0,I 0]
 | some (a,b)=> #[I a,I b]

theorem aq0(o:Option (Int×Int)):∃a b s,auG o= #[I a,I b,.bool s]/\akz o= #[I a,I b]:=by
 rcases o with _ | ⟨a,b⟩
 ·exact⟨0,0,false,O,O⟩
 exact⟨a,b,true,O,O⟩
theorem auJ{L R:List α}:(a++(b++(c++(x++(L++R))))).Perm ((c++L)++(a++(b++(x++R)))):=by
 classical
 rw[List.perm_iff_count];intro y;simp only[List.count_append];omega
theorem auK{y L:List α}:(x++(L++((a++(b++c))++y))).Perm (L++(a++(b++(c++(x++y))))):=by
 classical
 rw[List.perm_iff_count];intro y;simp only[List.count_append];omega
theorem anj{main:aN}(hS:∀S,main.ok S->∃Fin,S=Mn aV Fin)(qJ:main.b=true)(h:Hp)(D:yD)(H:D.At h)(i:Nat)(kv:Value)(x:Mt)(hi:D.jJ[i]? =some (kv,x)):bG aV main VD #[D.V,I i] h [] (fun v F=>v= .tuple #[.agg (akz (D.mo.worth i x.ks x.ks.length)),I 0]/\eH F):=by
 have Gp:i<D.jJ.length:=by
  rcases bQ i D.jJ.length with h' | h'
  ·exact h'
  rw[fM h']at hi;cases hi
 refine bG.bH func10 [(0,D.V),(1,I i)] ?_;refine d_ ?_;refine aA.box (fun oJ=>?_);refine aA.new (fun mW=>?_);refine lg ?_;refine aA.zZ (cs:= #[I i]) (fun akA=>?_) O;refine c0 (fun h' hE hL=>wo hS qJ h' D (H.ext hE) [(i:Int)] _ (Sl.mk (hL akA _ (.head _)) O (Part.all [I i])) (fun n hn=>by rw[dP.1 hn];omega) (Nat.le_of_ble_eq_true O)) (fun v A' hv=>?_);obtain⟨u,kb,mb,rfl,X,l,vp,S,rfl,hl,fP,hO,bF⟩:=hv;refine aA.sb (bF.app .refl) ?_;refine oz ?_;refine W.aJ O (fun c20=>?_) (fun c20=>?_)
 ·exact absurd O c20
 refine d_ ?_;refine W.sb (F':=(X,.cells (mG D.va D.nS D.vr D.vf D.vm vp D.ps kb) gB (0,0))::(S++((pX kb mb []++bM l)++[(mW,.cells #[I 0,I 0] 35 (0,0)),(oJ,.cells #[D.va,I D.ps,D.nS,D.vr,D.vf,D.vm] fC (0,0))]))) (.cons (.trans (.app .refl (.app .refl (.skip O .refl))) (.aT (.of_eq (eF S (pX kb mb []++bM l) _).symm)))) ?_;refine W.Ws D H hl fP hO (fun h1 zD HM=>?_);have E8:=Lu (X:=X) (kb:=kb) (vp:=vp) hl;obtain⟨EX,zX,hX⟩:=HM.cx;unfold oU.C at hX;refine gI ?_;refine cg (A:=pX kb mb []++bM l) .head (fun h' hE hL=>ab1 hS qJ h' (oU.of D X kb vp l) (HM.ext hE) mb [] (fun p hp=>by cases hp)) (fun v A' hv=>?_);obtain⟨rfl,m1,Q9,UO⟩:=hv;rw[E8.JD];have Xz:FI D.mo.mi=D.mo.JD:=rfl;rw[Xz];have hb0:0<=D.mo.JD/\D.mo.JD<=24:=ab9;refine aA.sb (F':=pX kb mb m1++[(mW,.cells #[I 0,I 0] 35 (0,0)),(oJ,.cells #[D.va,I D.ps,D.nS,D.vr,D.vf,D.vm] fC (0,0))]) (.app (.trans (.right .refl (pY fP)) UO) .refl) ?_;refine aA.new (fun zC=>?_);refine lF ?_;refine aA.new (fun Oi=>?_);refine lF ?_;refine aA.new (fun VY=>?_);refine lF ?_;refine W.jS (n:=8) O ?_;refine ay 0 ?_;refine ay 1 ?_;refine ay 2 ?_;refine ay 3 ?_;refine ay 4 ?_;refine ay 5 ?_;refine ay 6 ?_;refine ae (i:=7) O an O O (oL (args:=[_,_,_,_]) O O (fun h' hE hL=>akx main h' D.va D.nS D.vr D.vf D.vm D.ps kb i H.ga.one H.pn.one H.rr.one H.ff.one H.mm.one) (fun v A' hv=>?_));refine⟨.inl aB,?_⟩;obtain⟨b1,b2,b3,b4,rfl,aqZ⟩:=hv;refine Any.sb (aqZ.app .refl) ?_;refine az ?_;refine d_ ?_;refine W.perm (F':=([(Oi,ZB none)]++pX kb mb m1)++([(b1,.cells #[D.va,I D.ps,D.nS,D.vr,D.vf,D.vm] fC (0,0)),(b2,.cells #[I i] aX (0,0)),(b3,.cells #[uS] dZ (0,0)),(b4,.cells #[aG kb] nD (0,0))]++([(VY,.cells #[uS] dZ (0,0))]++([(zC,.cells #[I D.mo.JD] aX (0,0))]++[(mW,.cells #[I 0,I 0] 35 (0,0)),(oJ,.cells #[D.va,I D.ps,D.nS,D.vr,D.vf,D.vm] fC (0,0))])))) (auJ (a:=[_,_,_,_]) (b:=[_]) (c:=[_]) (x:=[_]) (R:=[_,_])).symm ?_
 refine W.ajA (Val:=auE) (xs:=D.mo.known i x.ks) (pX kb mb m1) (fun R=>∃m',IC D.fs m'/\R=pX kb mb m') O O O (fun k A=>A=[(Oi,ZB (D.mo.worth i x.ks k))]) (fun _ _ _ _=>False) .head O
  (fun h' hE hL=>ad8 hS qJ h' D (H.ext (zD.trans hE)) i kv x hi kb b1 b2 b3 b4 _ _ _ _ _ _ _ _ (hL b1 _ (.head _)) (hL b2 _ (.tail _ (.head _))) (hL b3 _ (.tail _ (.tail _ (.head _)))) (hL b4 _ (.tail _ (.tail _ (.tail _ (.head _))))) mb m1 Q9) ?_ ?_
 ·rintro k p v S3 A3 hp ⟨rfl,rfl⟩ rfl lr hr hEr hLr hSr
  have LK:0<=p/\p<=24:=by
   obtain⟨q,-,rfl⟩:=List.mem_map.1 (dL hp);exact ab9
  have Gt:=ad9 hp;refine W.region rfl<|zW rfl rfl rfl<|aA.nil ?_;refine⟨O,O,fun h0 Bc hL0=>?_⟩;intro hS0;have hb8:=hL0 zC _ (.tail _ (.tail _ (.tail _ (.tail _ (.tail _ (.head _))))));refine kJ ?_;refine cg (A:=[(Oi,ZB (D.mo.worth i x.ks k))]) .all (fun h' hE hL=>auI main h' Oi (D.mo.worth i x.ks k) (p-D.mo.JD)) (fun v A' hv=>?_);refine aA.nil<|iE ?_;exact⟨O,.inl ⟨O,_,O,by rw[Gt];exact hv⟩⟩
 rintro e2 A2 R2 ⟨m2,hm2,rfl⟩ h2 d
 have h3:e2= .normal/\A2=[(Oi,ZB (D.mo.worth i x.ks x.ks.length))]:=by
  rcases h2 with⟨rfl,h⟩ | ⟨_,_,_,_,_,_,_,hX,_⟩
  ·rw[show(D.mo.known i x.ks).length=x.ks.length from List.length_map _]at h;exact⟨O,h⟩
  exact hX.elim
 obtain⟨rfl,rfl⟩:=h3;obtain⟨wa,wb,ws,hw1,hw2⟩:=aq0 (D.mo.worth i x.ks x.ks.length);unfold ZB;rw[hw1,hw2];refine gI ?_;refine W.sb (F':=(d,.deferred (some []))::(Oi,Obj.cells #[I wa,I wb,.bool ws] 85 (0,0))::(mW,Obj.cells #[I 0,I 0] 35 (0,0))::(pX kb mb m2++(([(b1,Obj.cells #[D.va,I D.ps,D.nS,D.vr,D.vf,D.vm] fC (0,0)),(b2,Obj.cells #[I i] aX (0,0)),(b3,Obj.cells #[uS] dZ (0,0)),(b4,Obj.cells #[aG kb] nD (0,0))]++([(VY,Obj.cells #[uS] dZ (0,0))]++[(zC,Obj.cells #[I D.mo.JD] aX (0,0))]))++[(oJ,Obj.cells #[D.va,I D.ps,D.nS,D.vr,D.vf,D.vm] fC (0,0))]))) (.cons (.cons (.aT (auK (L:=pX kb mb m2) (a:=[_,_,_,_]) (b:=[_]) (c:=[_]) (x:=[_]) (y:=[_]))))) ?_;refine gZ ?_;exact lvm (hl:=At.head) (AY (hv:=qU (adf nM)) ⟨O,.cons O (.cons O (.cons O (eH.app wu (.cons O (.cons O (.cons O (.cons O (.cons O (.cons O (.cons O .nil))))))))))⟩)
theorem auL{a b:α}{L M:List α}:(a::b::(L++M)).Perm (L++(a::b::M)):=(List.Perm.cons a List.perm_middle.symm).trans List.perm_middle.symm
theorem ahm(main:aN)(h:Hp)(ss:List Fl)(vs:Value)(hs:Sl h Fl.row vs ss)(hn:ss.length<=1000):bG aV main Ho #[vs] h [] (fun v A=>∃S,Os A_ Fl.row v ss S/\Sb S A):=by
 obtain⟨a,cap,rfl⟩:=hs.aU;refine bG.bH func45 [(0,.slice a ss.length cap)] ?_;refine kR ?_;refine b_ (Rh O O) O ?_;refine qj ?_;refine W.cond O (fun c4=>?_) (fun c4=>?_)
 ·refine lg ?_
  have:ss=[]:=by
   cases a with
   | some a=>cases c4
   | none=>
    rcases hss:ss with _ | ⟨x,r⟩
    ·rfl
    obtain⟨b,off,c,E,fz,e,_⟩:=hs.at (i:=0) (p:=x) (by rw[hss];rfl)
    cases e
  subst this;exact iQ (vs:=[.slice none 0 0]) ⟨[],.nil .nil,.refl⟩
 refine lF ?_;refine aA.alJ (fun iI=>?_) O;refine zT ?_;have hO:Os A_ Fl.row (.slice (some ⟨iI,0,none⟩) 0 0) ([]:List Fl) [(iI,.cells #[] A_ (0,0))]:=.inr ⟨iI, #[],0,[],O,O,O,Nat.le_refl _,Part.all [],.nil⟩;refine oe O wn O O (bV (row:=Fl.row) (l:=[]) (l':=ss) O O O hO .all (fun h2 hE hl=>hs.ext hE) (by simp;omega) dF O (fun v' S' xM=>?_));rw[List.nil_append]at xM;refine gI ?_;exact iQ (vs:=[v']) ⟨S',xM,.refl⟩

theorem ank{main:aN}(hS:∀S,main.ok S->∃Fin,S=Mn aV Fin)(qJ:main.b=true)(h:Hp)(D:yD)(H:D.At h):bG aV main VE #[D.V] h [] (fun v F=>dU D.fs (stM D.mo.mi)=0/\∃vf vs vo S1 S2 S3,v= .tuple #[.agg #[vf,vs],vo,I 0]/\Os A_ Fl.row vf D.fs S1/\Os pG St.row vs (stM D.mo.mi) S2/\Os aX bY vo (nZ D.mo.mi) S3/\Sb (S1++(S2++S3)) F):=by
 have CV:=(wI H.fk).nf;refine bG.bH func15 [(0,D.V)] ?_;refine d_ ?_;refine aA.box (fun vg=>?_);refine aA.new (fun oJ=>?_);refine lg ?_;refine c0 (fun h' hE hL=>wo hS qJ h' D (H.ext hE) [] _ .nil (fun n hn=>by cases hn) (Nat.zero_le _)) (fun v A' hv=>?_);obtain⟨u,kb,mb,rfl,X,l,vp,S,rfl,hl,fP,hO,bF⟩:=hv;refine aA.sb (bF.app .refl) ?_;refine oz ?_;refine W.aJ O (fun Xn=>?_) (fun Xn=>?_)
 ·exact absurd O Xn
 refine d_ ?_
 refine W.sb (F':=(X,.cells (mG D.va D.nS D.vr D.vf D.vm vp D.ps kb) gB (0,0))::(S++(bM l++[(oJ,.cells #[.slice none 0 0,.slice none 0 0] j_ (0,0))]))) (.cons (by
  show Sb (S++(bM l++[_])) ((S++(pX kb mb []++bM l))++[_,_]);rw[eF,eF];exact .app .refl (.left (.app .refl (.cons (.skip O .refl))) wu))) ?_
 refine W.Ws D H hl fP hO (fun h1 zD HM=>?_);have E8:=Lu (X:=X) (kb:=kb) (vp:=vp) hl;have aym:dU D.fs (stM D.mo.mi)=0:=by rw[<-E8.st];exact HM.ckP
 refine gI ?_;refine cg (A:=bM l) (.head (A:=bM l)) (fun h' hE hL=>N8 (r_.of hS qJ) h' _ (HM.ext hE)) (fun v A' hv=>?_);obtain⟨vs,S3,vo,S2,rfl,hO3,Ci,pJ⟩:=hv;rw[E8.ord]at Ci;rw[E8.st]at hO3;obtain⟨a3,c3,rfl⟩:=hO3.aU;obtain⟨a2,c2,rfl⟩:=Ci.aU;obtain⟨af,cf,ef⟩:=H.ff.aU;rw[show(oU.of D X kb vp l).vf=D.vf from rfl,ef];refine aA.sb (F':=(oJ,.cells #[.slice none 0 0,.slice none 0 0] j_ (0,0))::(S3++S2)) ?_ ?_
 ·refine Sb.trans (.aT (dK (l₁:=[_]))) (.app (.trans ?_ pJ) .refl);exact .app .refl (.right .refl (pY fP))
 refine gI ?_;refine aA.new (fun yc=>?_);refine jk ?_;refine c0 (fun h' hE hL=>ahm main h' D.fs (.slice af D.fs.length cf) (ef▸(H.ff.ext (zD.trans hE))) aj) (fun v A' hv=>?_);obtain⟨S1,hO1,UO⟩:=hv;obtain⟨a1,c1,rfl⟩:=hO1.aU;refine aA.sb (UO.app .refl) ?_;refine aA.sb (F':=(yc,.cells #[.slice af D.fs.length cf,.slice a3 (stM D.mo.mi).length c3] j_ (0,0))::(oJ,.cells #[.slice none 0 0,.slice none 0 0] j_ (0,0))::(S1++(S3++S2))) (.aT auL) ?_;refine oz ?_;exact AY (vs:=[.agg #[.slice a1 D.fs.length c1,.slice a3 (stM D.mo.mi).length c3],.slice a2 (nZ D.mo.mi).length c2,I 0]) ⟨aym,_,_,_,S1,S3,S2,O,hO1,hO3,Ci,.skip O (.skip O .refl)⟩
section
variable{x:Cx}{Q:fO}{ρ:Env}{ds:List Deferred}{F:ah}{ops:Array Oper}{L:ah}
end
def p2(i:Nat):Int:=[1,2,4,8].getD i 0
theorem Vd:∀i:Nat,i<3->IntKind.i64.wrap (1*2 ^ (min (i:Int).toNat IntKind.i64.bits))=p2 i/\p2 (i+1)=p2 i+p2 i/\1<=p2 i/\p2 i<=4:=by decide
def b8(n:Int):Prop:=0<=n/\n<=7
theorem IE{n:Int}(h:b8 n):∃m:Nat,m<8/\n=m:=⟨n.toNat,by unfold b8 at h;omega,by unfold b8 at h;omega⟩
theorem b8T:∀a:Fin 8,∀b:Fin 8,((0<=bits .and .i64 (a.1:Int) (b.1:Int)/\bits .and .i64 (a.1:Int) (b.1:Int)<=7)/\(0<=bits .or .i64 (a.1:Int) (b.1:Int)/\bits .or .i64 (a.1:Int) (b.1:Int)<=7))/\((0<=bits .andNot .i64 (a.1:Int) (b.1:Int)/\bits .andNot .i64 (a.1:Int) (b.1:Int)<=7)/\bits .and .i64 (b.1:Int) (bits .andNot .i64 (a.1:Int) (b.1:Int))=0):=by decide+kernel
theorem LC{a b:Int}(ha:b8 a)(hb:b8 b):b8 (bits .and .i64 a b):=by
 obtain⟨n,h1,rfl⟩:=IE ha;obtain⟨m,h2,rfl⟩:=IE hb;exact(b8T ⟨n,h1⟩ ⟨m,h2⟩).1.1
theorem auM{a b:Int}(ha:b8 a)(hb:b8 b):b8 (bits .or .i64 a b):=by
 obtain⟨n,h1,rfl⟩:=IE ha;obtain⟨m,h2,rfl⟩:=IE hb;exact(b8T ⟨n,h1⟩ ⟨m,h2⟩).1.2
theorem IG{a b:Int}(ha:b8 a)(hb:b8 b):b8 (bits .andNot .i64 a b)/\bits .and .i64 b (bits .andNot .i64 a b)=0:=by
 obtain⟨n,h1,rfl⟩:=IE ha;obtain⟨m,h2,rfl⟩:=IE hb;exact(b8T ⟨n,h1⟩ ⟨m,h2⟩).2
theorem ayo:∀a:Fin 8,0<=bits .or .i64 56 (a.1:Int)/\bits .or .i64 56 (a.1:Int)<=63:=by decide+kernel
theorem b56{a:Int}(ha:b8 a):0<=bits .or .i64 56 a/\bits .or .i64 56 a<=63:=by
 obtain⟨n,h1,rfl⟩:=IE ha;exact ayo ⟨n,h1⟩
theorem lZ(h:i<3):b8 (p2 i):=by have:=Vd i h;unfold b8;omega

theorem jW(main:aN)(h:Hp)(cZ:List Int)(lv:Value)(b k:Nat)(s:Int)(hl:Sl h bY lv cZ)(hk:k<=1000000):bG aV main TV #[aG b,I 3] h [(b,jl lv k s)] (fun v A=>∃r s',v=I r/\b8 r/\Sb [(b,jl lv (k+3) s')] A):=by
 refine bG.bH func56 [(0,aG b),(1,I 3)] ?_;refine Qs ?_;refine W.uq (σ:=Nat) (τ:=Int) (υ:=Int) (fun i f _=>i<=3/\0<=f/\f+1<=p2 i) (fun i f _=>[(6,I i),(5,I f),(0,aG b),(1,I 3)]) (fun i _ u=>[(b,jl lv (k+i) u)]) (fun i _ _=>3-i) 0 0 s ⟨Nat.zero_le _,Int.le_refl _,dF⟩ iw .refl ?_;rintro i f u ⟨hi,hf0,WZ⟩;refine jk ?_;refine W.aJ O (fun c9=>?_) (fun c9=>?_)
 ·have hp:=Vd i aj;refine jk ?_;refine cg (A:=[(b,_)]) .all (fun h' hE hL=>I8 _ h' cZ lv b (k+i) u 3 (hl.ext hE) aj aj) (fun v A' hv=>?_);obtain⟨r,s1,rfl,bF⟩:=hv;refine aA.sb bF ?_;refine qj ?_;refine W.cond O (fun c13=>?_) (fun c13=>?_)
  ·refine gI ?_;refine Gh (u:=I (p2 i)) (JK O O O aj) (by show I (IntKind.i64.wrap _)=_;rw[hp.1]) O wn O O ?_;refine asT O ?_;refine zW rfl rfl rfl<|aA.nil<|iE<|fH<|W.region rfl<|aiH rfl rfl rfl ?_;refine gI ?_;exact⟨O,i+1,f+p2 i,s1,⟨aj,aj,aj⟩,aj,iw,.refl⟩
  refine kR ?_;exact⟨O,i+1,f,s1,⟨aj,aj,aj⟩,aj,iw,.refl⟩
 obtain rfl:i=3:=by omega
 refine iC ?_;exact iQ (vs:=[_]) ⟨f,u,O,⟨hf0,by have:p2 3=8:=rfl;omega⟩,.refl⟩

theorem XV(main:aN)(h:Hp)(cZ:List Int)(lv:Value)(b k:Nat)(s:Int)(hl:Sl h bY lv cZ)(hk:k<=100000):bG aV main YP #[aG b,I 3] h [(b,jl lv k s)] (fun v A=>∃r s',v=I r/\(0<=r/\r<=63)/\Sb [(b,jl lv (k+6) s')] A):=by
 refine bG.bH func24 [(0,aG b),(1,I 3)] ?_;refine kJ ?_;refine W.kQ [] (n:=13) O ?_;refine ay 0 ?_;refine fJ 1 (Yv.eq (u:=I 8) (JK O O O dF) aB) O ?_;refine ay 2 ?_;refine fJ 3 (Yv.eq (u:=I 56) (yV O O O) aB) O ?_;refine ay 4 ?_;refine ay 5 ?_;refine ay 7 ?_;refine ay 8 ?_;refine ae (i:=6) O an O O (gq (A:=[(b,_)]) (args:=[_,_]) O O .all (fun h' hE hL=>jW _ h' cZ lv b k s (hl.ext hE) aj) (fun v A' hv=>?_));refine⟨.inr aC.nil,?_⟩;obtain⟨r1,s1,rfl,TP,bF⟩:=hv;refine Any.sb bF ?_;refine ae (i:=9) O an O O (gq (A:=[(b,_)]) (args:=[_,_]) O O .all (fun h' hE hL=>jW _ h' cZ lv b (k+3) s1 (hl.ext hE) aj) (fun v A' hv=>?_));refine⟨.inr aC.nil,?_⟩;obtain⟨r2,s2,rfl,hr2,bF⟩:=hv;refine Any.sb bF ?_;refine ay 10 ?_;refine ay 11 ?_;refine ay 12 ?_;refine az ?_;refine d_ ?_;exact iQ (vs:=[_]) ⟨_,s2,O,b56 (LC TP hr2),.refl⟩
end Go.jc
