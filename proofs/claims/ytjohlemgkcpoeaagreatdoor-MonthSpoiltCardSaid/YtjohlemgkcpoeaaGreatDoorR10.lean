/- The senders of a search. Conditions: none; over the given program. (And 14 texts more.) -/
import Derived.Test.YtjohlemgkcpoeaaGreatDoorR09
set_option linter.unusedVariables false
set_option linter.unusedSimpArgs false
set_option linter.unusedSectionVars false
set_option maxRecDepth 100000
set_option maxHeartbeats 4000000

open Go.Proofs.Tryz
namespace Go.jc
theorem KX{fs:List Fl}{ss:List St}{may:PY}:∀{m k:Nat} {q p:List Be},p∈iD fs ss may m k q->p.length=q.length
 | 0,k,q,p,h=>by
  simp only[iD]at h;split at h
  ·have:p=q:=by simpa using h
   rw[this]
  cases h
 | m+1,k,q,p,h=>by
  simp only[iD,List.mem_flatMap]at h;obtain⟨b,_,h⟩:=h;split at h
  ·cases h
  rw[KX h,List.length_set]
variable{E K K' clock i kt o t t' vt β:Nat}{P:Program}{U:Obj->ah}{a bs us:List Int}{c:Nat×List Value}{cs:List (Nat×List Value)}{es:Array MapEntry}{fs:List Fl}{k y z:Operand}{kd:IntKind}{ks:List (List Int)}{may:PY}{p:List Be}{s:Int×List (List Be)}{ss:List St}{u v:Value}{ws:List Nat}{zc:Array Value}{α:Type}
theorem agm{l:List Be}(hl:l.length<=4)(h:p∈dO fs ss may l):p.length=4/\(flat Be.row p).toArray.size=8/\lC (flat Be.row p).toArray.toList=true:=by
 have e:p.length=4:=(KX h).trans (TQ hl);exact⟨e,by simp[gU,e],vN⟩

theorem apX(h:Hp)(fs:List Fl)(ss:List St)(may:PY)(b:Be)(vf vs mv:Value)(c b5 b1 b4:Nat)(E5 E1 E4 Eg:TypeId)(z5 z1 z4 zg:Nat×Nat)(kc:Hp)(hf:Sl h Fl.row vf fs)(hs:Sl h St.row vs ss)(Q9:one mv=true)(aO:dV fs ss)(hll:1<=ss.length)(hp:nY fs ss (oC [b]))(hm:∀main h,Y7 main mv may h)
  (h5:h b5=some (.cells #[.chan (some c)] E5 z5)) (h1:h b1=some (.cells #[vf,vs,mv] E1 z1)) (h4:h b4=some (.cells #[I b.fl,I b.day] E4 z4)) (hg:h 0=some (.cells #[QI kC] Eg zg)) (S:Sat h [(c,mO ((dO fs ss may [b]).map jI))] kc (· =c)):
  Ch aV c (xX aV {target:=.fn (.func w_) #[.pointer (some ⟨b5,0,none⟩),.pointer (some ⟨b1,0,none⟩),.pointer (some ⟨b4,0,none⟩)],args:= #[]}) kc (· =c):=by
 obtain⟨a,cap,rfl⟩:=hf.aU;obtain⟨a',f_,rfl⟩:=hs.aU;refine Ch.start (f:=w_) func106 O O (by show 3<=12;decide) [(0,.pointer (some ⟨b5,0,none⟩)),(1,.pointer (some ⟨b1,0,none⟩)),(2,.pointer (some ⟨b4,0,none⟩))] ⟨O,O,O,trivial⟩ S ?_;refine gI ?_;refine aA.adx (c:=c) ?_;refine kJ ?_;refine aA.zZ (cs:= #[I b.fl,I b.day]) (fun yc=>?_) O;refine c0 (fun h' hE hL=>Ul _ h' (.slice a fs.length cap) (.slice a' ss.length f_) mv (.slice (some ⟨yc,0,none⟩) 1 1) O O Q9 O) (fun v A' hv=>?_);obtain⟨bb,bs,rfl,rfl⟩:=hv;refine d_ ?_
 refine W.Ui (σ:=List (List Be)) (X:=List Be) (enc:=jI) (xs:=dO fs ss may [b]) O O O (fun s _=>s.tail) (fun _ _=>none) (fun p s=>∃r,s=p::r/\p∈dO fs ss may [b]) (fun s A'=>A'=[(c,mO (s.map jI))]) (fun _ _=>False) (dO fs ss may [b]) (A₀:=[(c,mO ((dO fs ss may [b]).map jI))]) (.tail (.tail (.tail .all))) O
  (fun h' hE hL=>KW _ h' fs ss may [b] (.slice a fs.length cap) (.slice a' ss.length f_) mv (.slice (some ⟨yc,0,none⟩) 1 1) bb bs _ _ _ _ _ _ (hf.ext hE) (hs.ext hE) (Sl.mk (hL yc _ (.tail _ (.tail _ (.head _)))) rfl (Part.all [I b.fl,I b.day])) Q9 aO hll hp (hm _ h') (hL _ _ (.head _)) (hL _ _ (.tail _ (.head _))) (hE.1 _ _ hg)) (fun s p' e he=>by cases he) (fun pre p post s' e hr=>?_) ?_ ?_
 ·rw[O5]at hr;injection hr with hr _
  injection hr with hr _
  rw[e]at hr;exact⟨post,by rw[<-hr];simp,by rw[e];simp⟩
 ·rintro s p A1 ⟨r,rfl,qw⟩ rfl l h1- -;obtain⟨-,oH,hon⟩:=agm (by simp) qw;refine W.region O ?_;refine aA.new (fun nP=>?_);refine zT ?_;refine aA.nil ?_;refine⟨O,O,fun h0 Bc hL0=>?_⟩;have h5':=Bc.1 _ _ h5;refine lF ?_;refine aA.send (c:=c) (v:=jI p) (l:=r.map jI) (fun S h=>h) O (aK O) O wn O O O (.tail .head) ?_;refine aA.nil<|iE ?_;exact⟨O,O,_,O,.skip O .refl⟩
 intro s e A he hA d;rw[O5]at he
 cases he
 subst hA;refine iE ?_;refine⟨.inr O,YG.marked (hl:=At.head) ⟨O,O,?_⟩⟩;simp
def wS(p:List Be):List Value:=(flat Be.row p++List.replicate 8 (I 0)).take 8
theorem Xf:∀(l:List Value) (n:Nat),lC l=true->lC (l.take n)=true
 | [],n,_=>by simp;rfl
 | u::l,0,_=>rfl
 | u::l,n+1,h=>by
  simp only[jc.lC,Bool.and_eq_true]at h;simp only[List.take_succ_cons,jc.lC,Bool.and_eq_true];exact⟨h.1,Xf l n h.2⟩
instance:Rw wS 8:=⟨fun p=>by simp[wS],fun p=>Xf _ _ (by rw[Si,sH];rfl)⟩
theorem Zb(h:p.length=4):wS p=flat Be.row p:=by
 have e:(flat Be.row p).length=8:=by rw[gU,h]
 rw[wS,List.take_append_of_le_length aj,<-e,List.take_length]
theorem sU(h:p.length=4):Part (flat Be.row p).toArray 0 (flat wS [p]):=by
 rw[ah3,Zb h];exact Part.all _

theorem four{p:List α}(h:p.length=4):∃a b c d,p=[a,b,c,d]:=by
 match p,h with
 | [a,b,c,d],_=>exact⟨a,b,c,d,rfl⟩
theorem Dp(h:p.length=4):Instr.fill (fun i=>some (i*8,8)) ((List.range (1*8)).map (fun i=>(#[I 0,I 0,I 0,I 0,I 0,I 0,I 0,I 0]:Array Value)[i % 8]!)).toArray ([0].zip [jI p])=some (flat Be.row p).toArray:=by
 obtain⟨a,b,c,d,rfl⟩:=four h;kernel_rfl

theorem Nz{f:Int}:∀{m:Nat} {d:Int},(kL f d m).length=m
 | 0,_=>rfl
 | m+1,d=>by simp[kL,Nz (m:=m)]
theorem Ih{s:St}:∀{m:Nat} {f:Int},(dJ s f m).length=m*(s.wa+1).toNat
 | 0,_=>by simp[dJ]
 | m+1,f=>by simp[dJ,Nz,Ih (m:=m),Nat.succ_mul,Nat.add_comm]
theorem Bf{k:Nat}(aO:dV fs ss)(hk:k<ss.length):(bI fs ss may k).length<=13:=by
 obtain⟨x,hx,-⟩:=has hk;have Sz:ru ss k=x:=by simp[ru,List.getD,hx]
 have hxo:=aO.st x (dL hx);have Q_:=aO.nf;have h1:fs.length*(x.wa+1).toNat<=2*6:=Nat.mul_le_mul Q_.2 aj;unfold bI;simp only[Sz];split <;>split <;>simp[Ih] <;>omega
theorem KY{α β:Type}{g:α->List β}{n:Nat}:∀{l:List α},(∀a∈l,(g a).length<=n)->(l.flatMap g).length<=l.length*n
 | [],_=>by simp
 | a::l,h=>by
  rw[List.flatMap_cons,jA,gK,Nat.succ_mul];have h1:=h a (bT ..);have h2:=KY (l:=l) fun b hb=>h b (dH _ hb);omega
theorem Xg{fs:List Fl}{ss:List St}{may:PY}(aO:dV fs ss):∀{m k:Nat} {p:List Be},k+m<=ss.length->(iD fs ss may m k p).length<=13 ^ m
 | 0,k,p,_=>by
  simp only[iD];split <;>simp
 | m+1,k,p,h=>by
  obtain⟨B,hB⟩:∃B,13 ^ m=B:=⟨_,rfl⟩
  have hk:k<ss.length:=by clear hB;omega
  have hk1:k+1+m<=ss.length:=by clear hB;omega
  have h1:=Bf (may:=may) aO hk
  have hr:∀b,(if prune fs ss (p.set k b) b then[]else iD fs ss may m (k+1) (p.set k b)).length<=B:=fun b=>by
   by_cases hp:prune fs ss (p.set k b) b=true
   ·rw[if_pos hp];exact Nat.zero_le _
   rw[if_neg hp,<-hB];exact Xg aO hk1
  have h2:=KY (l:=bI fs ss may k) (n:=B) fun b _=>hr b;have h3:(bI fs ss may k).length*B<=13*B:=Nat.mul_le_mul_right _ h1;rw[Nat.pow_succ,hB,Nat.mul_comm];rw[iD];exact Nat.le_trans h2 h3

theorem Dq{X:Type}(xs:List X):∀(pre:List X) (s:List X),runs (jD (fun(s:List X) (p:X)=>s++[p]) fun _ _=>none) (s,none) pre=((s++pre,none),true)
 | [],s=>by simp[runs]
 | p::pre,s=>by
  have h:runs (jD (fun(s:List X) (p:X)=>s++[p]) fun _ _=>none) (s,none) (p::pre)=runs (jD (fun(s:List X) (p:X)=>s++[p]) fun _ _=>none) (s++[p],none) pre:=by simp only[runs,jD,Option.isNone_none]
  rw[h,Dq xs pre];simp

theorem Zc(main:aN)(h:Hp)(xs:List (List Be))(fv:Value)(WZ:one fv=true)(hi:Iter aV main fv jI xs h)(hx4:∀p∈xs,p.length=4)(hn:xs.length<=100000):bG aV main CY #[.slice none 0 0,fv] h [] (fun v A=>∃S,Os dD wS v xs S/\Sb S A):=by
 refine bG.bH func157 [(0,.slice none 0 0),(1,fv)] ?_;refine d_ ?_;refine aA.box (fun oJ=>?_);refine kR ?_
 refine W.Ui (σ:=List (List Be)) (X:=List Be) (enc:=jI) (xs:=xs) O O O (fun s p=>s++[p]) (fun _ _=>none) (fun p s=>∃post,xs=s++p::post) (fun s A=>∃v S,A=(oJ,.cells #[v] aga (0,0))::S/\Os dD wS v s S) (fun _ _=>False) [] .all ⟨_,_,O,.nil .nil⟩
  (fun h' hE hL=>hi.ext hE) (fun s p' e he=>by cases he) (fun pre p post s' e hr=>?_) ?_ ?_
 ·rw[Dq xs]at hr;injection hr with hr _
  injection hr with hr _
  exact⟨post,by rw[<-hr];simpa using e⟩
 ·rintro s p A1 ⟨post,TJ⟩ ⟨v,S,rfl,hS⟩ l h1- -;have uN:p.length=4:=hx4 p (by rw[TJ];simp);have oH:(flat Be.row p).toArray.size=8:=by simp[gU,uN]
  have hon:lC (flat Be.row p).toArray.toList=true:=vN;have hsn:s.length+1<=xs.length:=by rw[TJ];simp
  refine W.region O ?_;refine aA.new (fun iI=>?_);refine zT ?_;refine aA.nil ?_;refine⟨O,O,fun h0 Bc hL0=>?_⟩;refine lF ?_;refine aA.zZ (cs:=(flat Be.row p).toArray) (fun VY=>?_) O (hf:=by exact Dp uN);refine oe O wn O O (bV (row:=wS) (l':=[p]) O O O hS (.tail (.tail (.tail .all))) (fun h2 _ hl=>Sl.mk (hl VY _ (.head _)) O (sU uN)) (by simp;omega) dF O (fun v' S' xM=>?_));obtain⟨an,al_,rfl⟩:=xM.aU;refine aA.sto ?_;refine aA.nil<|iE ?_;exact⟨O,O,_,⟨_,S',O,xM⟩,.skip O (.skip O .refl)⟩
 intro s e A he hA d;rw[Dq xs,List.nil_append]at he
 cases he
 obtain⟨v,S,rfl,hS⟩:=hA;refine kR ?_;exact lvm (hl:=At.head) (iQ (vs:=[v]) ⟨S,hS,.skip O (.skip O .refl)⟩)

theorem adA(main:aN)(h:Hp)(xs:List (List Be))(fv:Value)(WZ:one fv=true)(hi:Iter aV main fv jI xs h)(hx4:∀p∈xs,p.length=4)(hn:xs.length<=100000):bG aV main FZ #[fv] h [] (fun v A=>∃S,Os dD wS v xs S/\Sb S A):=by
 refine bG.bH func105 [(0,fv)] ?_;refine jk ?_;refine c0 (fun h' hE hL=>Zc _ h' xs fv WZ (hi.ext hE) hx4 hn) (fun v A' hv=>?_);obtain⟨S,hS,bF⟩:=hv;refine gI ?_;exact iQ (vs:=[v]) ⟨S,hS,by simpa using bF⟩
def aa0(fs:List Fl)(ss:List St)(may:PY)(b:Be):List Value:=(dO fs ss may [b]).map jI
def yL(fs:List Fl)(ss:List St)(may:PY):List (List Be):=if ss.length=0 then dO fs ss may []else(bI fs ss may 0).flatMap fun b=>dO fs ss may [b]
theorem NC{b:Be}:oC [b]=(oC []).set 0 b:=rfl
theorem Ii{l:List Be}(aO:dV fs ss)(hl:l.length<=ss.length):(dO fs ss may l).length<=13 ^ (ss.length-l.length):=Xg aO aj
theorem Ij(aO:dV fs ss)(hs:1<=ss.length):∀(l:List Be),(l.flatMap fun b=>dO fs ss may [b]).length<=l.length*2197
 | l=>KY fun b _=>by
  have h1:=Ii (may:=may) (l:=[b]) aO hs;have h2:ss.length- [b].length<=3:=by have:=aO.ns;simp;omega
  have h3:13 ^ (ss.length- [b].length)<=13 ^ 3:=Nat.pow_le_pow_right dF h2;omega
theorem Ri{l:List Be}(hl:l.length<=4)(h:p∈dO fs ss may l):p.length=4:=(KX h).trans (TQ hl)
theorem Xh{l:List α}{p:α}(h:l[i]? =some p):l.take (i+1)=l.take i++[p]:=by
 rw[List.take_add_one,h];rfl
theorem ai3(h:cs[i]? =some c):chF (cs.drop i)=(c.1,mO c.2)::chF (cs.drop (i+1)):=by
 obtain⟨p,h1,h2⟩:=has (show i<cs.length by
  rcases bQ i cs.length with h' | h'
  ·exact h'
  rw[fM h']at h;cases h)
 rw[h]at h1
 cases h1
 rw[h2];rfl
theorem ama:chF (cs++[c])=chF cs++[(c.1,mO c.2)]:=by simp[chF]
def Xi(l:List (List Be)):List Be:=l.headD [⟨0,0⟩,⟨0,0⟩,⟨0,0⟩,⟨0,0⟩]
theorem ai4(l:List (List Be)):(l.map jI).headD as2=jI (Xi l):=by cases l <;>rfl

theorem apY(main:aN)(hS:∀S,main.ok S->∃Fin,S=Mn aV Fin)(qJ:main.b=true)(h:Hp)(fs:List Fl)(ss:List St)(may:PY)(vf vs mv:Value)(Eg:TypeId)(zg:Nat×Nat)(hf:Sl h Fl.row vf fs)(hs:Sl h St.row vs ss)(zf:Zs h vf)(zs:Zs h vs)(Q9:one mv=true)(aO:dV fs ss)(hm:∀main h,Y7 main mv may h)
  (hg:h 0=some (.cells #[QI kC] Eg zg)) (z0:h.z 0):bG aV main KG #[PZ vf vs mv] h [] (fun v A=>∃S,Os dD wS v (yL fs ss may) S/\Sb S A):=by
 obtain⟨a,cap,rfl⟩:=hf.aU;obtain⟨a',f_,rfl⟩:=hs.aU;refine bG.bH func74 [(0,PZ (.slice a fs.length cap) (.slice a' ss.length f_) mv)] ?_;refine d_ ?_;refine aA.box (fun vg=>?_);refine oz ?_;refine W.aJ O (fun PV=>?_) (fun PV=>?_)
 ·have hn0:ss.length=0:=by omega
  refine gI ?_;refine c0 (fun h' hE hL=>Ul _ h' (.slice a fs.length cap) (.slice a' ss.length f_) mv (.slice none 0 0) O O Q9 O) (fun v A' hv=>?_);obtain⟨bb,bs,rfl,rfl⟩:=hv
  refine c0 (fun h' hE hL=>adA _ h' (dO fs ss may []) _ O (KW _ h' fs ss may [] (.slice a fs.length cap) (.slice a' ss.length f_) mv (.slice none 0 0) bb bs _ _ Eg _ _ zg (hf.ext hE) (hs.ext hE) .nil Q9 aO (Nat.zero_le _) (uM aO.nf.1) (hm _ h') (hL _ _ (.head _)) (hL _ _ (.tail _ (.head _))) (hE.1 _ _ hg)) (fun p hp=>Ri (Nat.zero_le _) hp) (by
   have h1:=Ii (may:=may) (l:=[]) aO (Nat.zero_le _);rw[hn0]at h1;exact Nat.le_trans h1 dF)) (fun v A' hv=>?_)
  obtain⟨S,hS,bF⟩:=hv;refine lF ?_;refine iQ (vs:=[v]) ⟨S,?_,?_⟩
  ·rw[yL,if_pos hn0];exact hS
  exact bF.right (by repeat(first | exact eH.nil | refine eH.cons rfl ?_))
 refine d_ ?_;have hn0:¬ss.length=0:=by omega
 refine W.freeze (b:=vg) O (fun hz hEz hbz hzz=>?_);have WZ:=hf.ext hEz;have hs1:=hs.ext hEz;have hg1:=hEz.1 _ _ hg;refine d_ ?_;refine aA.new (fun nP=>?_);refine kJ ?_;refine c0 (fun h' hE hL=>Xa _ h' _ _ mv 0 O O Q9) (fun v A' hv=>?_);obtain⟨b2,b3,rfl,rfl⟩:=hv;refine d_ ?_
 refine W.Ui (σ:=List Be) (X:=Be) (enc:=Be.val) (xs:=bI fs ss may 0) O O O (fun s b=>s++[b]) (fun _ _=>none) (fun b s=>∃post,bI fs ss may 0=s++b::post)
  (fun s A=>∃v S cs,A=(nP,.cells #[v] uG (0,0))::(S++chF cs)/\Os Ic apW v (cs.map (·.1)) S/\cs.map (·.2)=s.map (aa0 fs ss may)) (fun _ _=>False) [] (.tail (.tail .all)) ⟨_,[],[],O,.nil .nil,O⟩
  (fun h' hE hL=>P5 _ h' fs ss may 0 _ _ mv b2 b3 _ _ _ _ (WZ.ext hE) (hs1.ext hE) aO aj (hm _ h') (hL _ _ (.tail _ (.head _))) (hL _ _ (.head _))) (fun s p' e he=>by cases he) (fun pre p post s' e hr=>?_) ?_ ?_
 ·rw[Dq (bI fs ss may 0)]at hr;injection hr with hr _
  injection hr with hr _
  exact⟨post,by rw[<-hr];simpa using e⟩
 ·rintro s b A1 ⟨post,TJ⟩ ⟨v,S,cs,rfl,hO,IW⟩ l h1- -;have hbm:b∈bI fs ss may 0:=by rw[TJ];simp
  have ZG:cs.length=s.length:=by simpa using congrArg List.length IW
  have P7:s.length+1<=13:=by
   have:=Bf (may:=may) aO (show 0<ss.length by omega);rw[TJ]at this;simp at this;omega
  refine W.region O ?_;refine aA.new (fun mW=>?_);refine zT ?_;refine aA.nil ?_;refine⟨O,O,fun h0 Bc hL0=>?_⟩;refine gI ?_;refine oe O wn O O (ac_ O O fun lX aAl _=>?_);refine aA.new (fun iI=>?_);refine lg ?_;refine aA.zZ (cs:= #[.chan (some lX)]) (fun aw0=>?_) O;refine oe O wn O O (bV (row:=apW) (l':=[lX]) O O O hO (.tail (.tail (.tail (.tail (.tail .head))))) (fun h2 _ hl=>Sl.mk (hl aw0 _ (.head _)) O (Part.all [.chan (some lX)])) (by simp;omega) dF O (fun v' S' qm=>?_));obtain⟨an,al_,rfl⟩:=qm.aU;refine d_ ?_;refine W.sb (F':=(iI,.cells #[.chan (some lX)] Ic (0,0))::(mW,.cells #[I b.fl,I b.day] ku (0,0))::(lX,sZ)::(nP,.cells #[.slice an (cs.map (·.1)++[lX]).length al_] uG (0,0))::(S'++chF cs)) (.skip O (.cons (Sb.aT (List.Perm.swap _ _ _)))) ?_;refine W.freeze (b:=iI) O (fun h5 hE5 hb5 hz5=>?_);refine W.freeze (b:=mW) O (fun h4 Xd hb4 hz4=>?_);refine d_ ?_;refine aA.spawn (c:=lX) (l:=aa0 fs ss may b) (args:=[]) (vs:=[]) hS qJ (aK O) O wn O O O .head (fun hn kc apZ=>?_) ?_
  ·have hEh:Ext hz h4:=(Bc.trans hE5).trans Xd;have fK:0<ss.length:=by omega
   exact apX (PU h4 lX) fs ss may b (.slice a fs.length cap) (.slice a' ss.length f_) mv lX iI vg mW Ic Ib ku Eg (0,0) (0,0) (0,0) zg kc ((WZ.ext hEh).told ((zf.ext hEz).ext hEh) hn) ((hs1.ext hEh).told ((zs.ext hEz).ext hEh) hn) Q9 aO fK (by rw[NC];exact pO (uM aO.nf.1) fK (lV aO fK hbm)) hm
    (Hf hn (Xd.2 _ hz5) (Xd.1 _ _ hb5) O) (Hf hn (hEh.2 _ hzz) (hEh.1 _ _ hbz) O) (Hf hn hz4 hb4 O) (Hf hn (hEh.2 _ (hEz.2 _ z0)) (hEh.1 _ _ hg1) O) apZ
  refine aA.nil<|iE ?_;refine⟨O,O,(nP,.cells #[.slice an (cs.map (·.1)++[lX]).length al_] uG (0,0))::(S'++chF (cs++[(lX,aa0 fs ss may b)])),⟨_,S',cs++[(lX,aa0 fs ss may b)],O,by rw[List.map_append];exact qm,by rw[List.map_append,List.map_append,IW];rfl⟩,Sb.aT ?_⟩;rw[ama];refine List.Perm.trans (.cons _ ?_) (List.Perm.swap _ _ _);rw[<-eF];exact dK
 intro s e A he hA d;rw[Dq (bI fs ss may 0),List.nil_append]at he
 cases he
 obtain⟨v,S,cs,rfl,hO,IW⟩:=hA;have ZG:cs.length=(bI fs ss may 0).length:=by simpa using congrArg List.length IW
 obtain⟨chs,um⟩:∃l,cs.map (·.1)=l:=⟨_,rfl⟩
 have aAm:chs.length=cs.length:=by rw[<-um];simp
 have azi:cs.length<=13:=by rw[ZG];exact Bf aO aj
 rw[um]at hO;obtain⟨ac,ND,rfl⟩:=hO.aU;refine d_ ?_;refine W.sb (F':=S++((d,.deferred (some []))::(nP,.cells #[.slice ac chs.length ND] uG (0,0))::chF cs)) ?_ ?_
 ·refine Sb.trans (Sb.aT ?_) (.cons (.skip O (.skip O .refl)));exact List.perm_middle.trans (.cons _ List.perm_middle)
 refine eY hO (fun hx hEx P7 _=>?_);refine oz ?_;refine W.uq (fun(i:Nat) (o:Value) (O2:ah)=>i<=cs.length/\Os dD wS o (((bI fs ss may 0).take i).flatMap fun b=>dO fs ss may [b]) O2) (fun i o O2=>[(31,I i),(30,I chs.length),(29,.slice ac chs.length ND),(6,o)]) (fun i o O2=>(d,.deferred (some []))::(O2++chF (cs.drop i))) (fun i _ _=>cs.length-i) 0 (.slice none 0 0) [] ⟨Nat.zero_le _,.nil .nil⟩ iw (.cons (.skip O .refl)) ?_;rintro i o O2 ⟨hi,hOo⟩;refine kJ ?_;refine W.aJ O (fun EL=>?_) (fun EL=>?_)
 ·obtain⟨⟨c,cl⟩,hc,-⟩:=has (show i<cs.length by omega);obtain⟨b,hb,-⟩:=has (show i<(bI fs ss may 0).length by omega);have hcc:chs[i]? =some c:=by rw[<-um,iL,hc];rfl
  have X6:cl=aa0 fs ss may b:=by
   have:=congrArg (·[i]?) IW;simp only[iL,hc,hb]at this;simpa using this
  obtain⟨bb,off,cc,EE,fz,rfl,hbb,Vh,YZ,Gq⟩:=P7.at hcc;have hz0:cc[off+i*1]? =some (.chan (some c)):=Gq 0 dF;clear Vh Gq
  have hlen:((((bI fs ss may 0).take i).flatMap fun b=>dO fs ss may [b])++dO fs ss may [b]).length<=14*2197:=by
   have h1:=Ij (may:=may) aO aj ((bI fs ss may 0).take i);have h2:=Ij (may:=may) aO aj [b];have h3:((bI fs ss may 0).take i).length<=13:=by rw[List.length_take];omega
   have h4:((bI fs ss may 0).take i).length*2197<=13*2197:=Nat.mul_le_mul_right _ h3;rw[List.flatMap_cons,List.flatMap_nil,List.append_nil]at h2;simp only[jA,gK,List.length_nil]at h2⊢;omega
  refine iC ?_;refine W.uq (fun(rem:List (List Be)) (o:Value) (O2:ah)=>∃done,done++rem=dO fs ss may [b]/\Os dD wS o ((((bI fs ss may 0).take i).flatMap fun b=>dO fs ss may [b])++done) O2) (fun rem o O2=>[(8,.chan (some c)),(31,I i),(30,I chs.length),(29,.slice (some ⟨bb,off,none⟩) chs.length ND),(6,o)]) (fun rem o O2=>(c,mO (rem.map jI))::(d,.deferred (some []))::(O2++chF (cs.drop (i+1)))) (fun rem _ _=>rem.length) (dO fs ss may [b]) o O2 ⟨[],O,by simpa using hOo⟩ iw (Sb.aT ?_) ?_
  ·rw[ai3 hc,X6];refine(List.Perm.swap _ _ _).trans (.cons _ ?_);exact List.perm_middle.symm
  clear hOo;rintro rem o O2 ⟨done,Yu,hOo⟩
  have uN:(Xi rem).length=4:=by
   cases rem with
   | nil=>rfl
   | cons p r=>exact Ri (l:=[b]) (by simp) (by rw[<-Yu];simp[Xi])
  have oH:(flat Be.row (Xi rem)).toArray.size=8:=by simp[gU,uN]
  have hon:lC (flat Be.row (Xi rem)).toArray.toList=true:=vN;refine lF ?_;refine aA.atv (c:=c) (u:=jI (Xi rem)) hS qJ (ai4 rem) .head ?_;refine gI ?_;refine aA.new (fun Oi=>?_);refine FT ?_;refine W.cond O (fun c41=>?_) (fun c41=>?_)
  ·have hr0:rem=[]:=by
    cases rem with
    | nil=>rfl
    | cons p r=>cases c41
   subst hr0;refine W.exit<|sG<|AP<|sG<|CB<|iE<|fH<|W.region rfl ?_;refine gI ?_;refine⟨O,i+1,o,O2,⟨aj,?_⟩,aj,iw,.skip O (.skip O .refl)⟩;rw[List.append_nil]at Yu;rw[Xh hb,List.flatMap_append];simpa[Yu]using hOo
  obtain⟨p,r,rfl⟩:∃p r,rem=p::r:=by
   cases rem with
   | nil=>cases c41
   | cons p r=>exact⟨p,r,rfl⟩
  have hll:((((bI fs ss may 0).take i).flatMap fun b=>dO fs ss may [b])++done).length+1<=14*2197:=by
   rw[<-Yu]at hlen;simp only[jA,gK]at hlen⊢;omega
  refine kJ ?_;refine aA.zZ (cs:=(flat Be.row p).toArray) (fun ap3=>?_) O (hf:=by exact Dp uN);refine oe O wn O O (bV (row:=wS) (l':=[p]) O O O hOo (.tail (.tail (.tail (.tail .head)))) (fun h2 _ hl=>Sl.mk (hl ap3 _ (.head _)) O (sU uN)) (by simp at hll⊢;omega) dF O (fun v' S' qm=>?_));obtain⟨an,al_,rfl⟩:=qm.aU;refine zW rfl rfl rfl<|aA.nil<|iE<|fH ?_;exact⟨O,r,_,S',⟨done++[p],by rw[<-Yu];simp,by rw[<-eF];exact qm⟩,by simp,iw,.skip O (.skip O .refl)⟩
 have hie:i=cs.length:=by omega
 subst hie;refine iC ?_;refine lvm (hl:=At.head) (iQ (vs:=[o]) ⟨O2,?_,?_⟩)
 ·rw[yL,if_neg hn0];rw[ZG,List.take_length]at hOo;exact hOo
 simpa[chF]using Sb.skip O .refl
class NS(P:Program)(t:TypeId):Prop where
 stood:P.stoodInHeld t=false
 guard:P.eqGuardType P.depth t=false

abbrev nI(n:Int):Value:=.int .i64 n
abbrev nK(kd:IntKind)(n:Int):Value:=.int kd n
def EqAt(P:Program)(t:TypeId)(w K:Nat)(kd:IntKind:=.i64):Prop:=∀{h:Hp} {F:ah} {β:Type} {f:Bool->Sem β} {Q:β->ah->Prop} (d:Nat) {xs ys:Array Value} {off:Nat} {us bs:List Int},us.length=w->bs.length=w->Part xs off (us.map (nK kd))->Part ys off (bs.map (nK kd))->
 tr P h ((part t xs off).bind fun x=>(part t ys off).bind fun y=>(Op.equalIn (d+K) t x y).bind f) F Q=tr P h (f (decide (us=bs))) F Q
def Rj(P:Program)(t:TypeId)(w K:Nat)(kd:IntKind:=.i64):Prop:=∀{h:Hp} {F:ah} {β:Type} {f:Bool->Sem β} {Q:β->ah->Prop} (d:Nat) {us bs:List Int},us.length=w->bs.length=w->
 tr P h ((Op.equalIn (d+K) t (.agg (us.map (nK kd)).toArray) (.agg (bs.map (nK kd)).toArray)).bind f) F Q=tr P h (f (decide (us=bs))) F Q

theorem EqAt.le{w:Nat}(H:EqAt P t w K kd)(h:K<=K'):EqAt P t w K' kd:=by
 intro hp F β f Q d xs ys off us bs h1 h2 h3 h4;have:= @H hp F β f Q (d+(K'-K)) xs ys off us bs h1 h2 h3 h4;rwa[show d+(K'-K)+K=d+K' by omega]at this
theorem EqAt.int{t:TypeId}[TD P t (.int kd)][SC P t]:EqAt P t 1 1 kd:=by
 intro hp F β f Q d xs ys off us bs h1 h2 h3 h4;obtain⟨a,rfl⟩:=List.length_eq_one_iff.1 h1;obtain⟨b,rfl⟩:=List.length_eq_one_iff.1 h2;have e1:xs[off]? =some (nK kd a):=h3.get (j:=0) (by simp);have e2:ys[off]? =some (nK kd b):=h4.get (j:=0) (by simp);rw[yS e1,yS e2];simp only[Op.equalIn,bind_eq,au,bind_assoc,bind_pure,aF,if_true]
 congr 2
 rw[QU];by_cases h:a=b <;>simp[h]
theorem Rj.at{w:Nat}(H:Rj P t w K kd)[AG P t w]:EqAt P t w K kd:=by
 intro hp F β f Q d xs ys off us bs h1 h2 h3 h4;have e1:=h3.extract;have e2:=h4.extract;rw[List.length_map,h1]at e1;rw[List.length_map,h2]at e2;rw[yT,yT,e1,e2];exact H d h1 h2

theorem NG{w:Nat}(h:us.take w=bs.take w)(h':us.drop w=bs.drop w):us=bs:=by
 rw[<-List.take_append_drop w us,<-List.take_append_drop w bs,h,h']
theorem Part.two{xs:Array Value}{off w:Nat}(h:Part xs off (us.map (nK kd)))(hw:w<=us.length):Part xs off ((us.take w).map (nK kd))/\Part xs (off+w) ((us.drop w).map (nK kd)):=by
 have e:us.map (nK kd)=[]++((us.take w).map (nK kd)++(us.drop w).map (nK kd)):=by rw[List.nil_append,<-List.map_append,List.take_append_drop]
 constructor
 ·rw[e]at h;exact h.sub
 have e':us.map (nK kd)=(us.take w).map (nK kd)++((us.drop w).map (nK kd)++[]):=by rw[List.append_nil,<-List.map_append,List.take_append_drop]
 rw[e']at h;have:=h.sub;rwa[List.length_map,List.length_take,Nat.min_eq_left hw]at this

def ZK(P:Program)(K:Nat)(kd:IntKind):List Field->List Nat->Nat->Prop
 | [],[],_=>True
 | f::fs,w::ws,o=>f.name≠ "_" ∧f.offset=o∧EqAt P f.type w K kd∧ZK P K kd fs ws (o+w)
 | _,_,_=>False

theorem ZK.nil:ZK P K kd [] [] o:=trivial
theorem ZK.cons{w:Nat}{f:Field}{fs:List Field}(hn:f.name≠ "_")(ho:f.offset=o)(he:EqAt P f.type w K kd)(hl:ZK P K kd fs ws (o+w)):ZK P K kd (f::fs) (w::ws) o:=⟨hn,ho,he,hl⟩
theorem Xj{kd:IntKind}{P:Program}{K:Nat}{xs ys:Array Value}{hp:Hp}{F:ah}{β:Type}{Q:β->ah->Prop}(d:Nat){g:Option Bool×Unit->Sem β}:∀(fs:List Field) (ws:List Nat) (o:Nat) (us bs:List Int),ZK P K kd fs ws o->us.length=ws.sum->bs.length=ws.sum->Part xs o (us.map (nK kd))->Part ys o (bs.map (nK kd))->
  tr P hp ((
            forIn fs (
            (none,()):Option Bool×Unit) fun f __s=>
         if f.name≠ "_" then
          (
           part f.type xs f.offset).bind fun __do_lift=>
           (
            part f.type ys f.offset).bind fun __do_lift_1=>
            (
             Op.equalIn (d+K) f.type __do_lift __do_lift_1).bind fun __do_lift=>
             if(!__do_lift)=true then Sem.pure (ForInStep.done (some false,()))
             else Sem.pure (ForInStep.yield (none,()))
         else Sem.pure (ForInStep.yield (none,()))).bind g) F Q=tr P hp (g (if us=bs then(none,())else(some false,()))) F Q
 | [],[],o,us,bs,_,h1,h2,h3,h4=>by
  have e1:us=[]:=jy.1 (by simpa using h1);have e2:bs=[]:=jy.1 (by simpa using h2);subst e1 e2;simp only[List.forIn_nil,au,bind_pure,if_true]
 | f::fs,w::ws,o,us,bs,hl,h1,h2,h3,h4=>by
  obtain⟨hn,ho,he,hl⟩:=hl;simp only[List.sum_cons]at h1 h2;obtain⟨p1,p2⟩:=h3.two (w:=w) aj;obtain⟨q1,q2⟩:=h4.two (w:=w) aj;have e1:(us.take w).length=w:=by simp;omega
  have e2:(bs.take w).length=w:=by simp;omega
  subst ho;simp only[List.forIn_cons,bind_eq,if_pos hn,bind_assoc];rw[he d e1 e2 p1 q1];by_cases hc:us.take w=bs.take w
  ·simp only[hc,decide_true,Bool.not_true,eU,if_false,bind_pure];rw[Xj d fs ws _ (us.drop w) (bs.drop w) hl (by simp;omega) (by simp;omega) p2 q2];by_cases hd:us.drop w=bs.drop w
   ·rw[if_pos hd,if_pos (NG hc hd)]
   rw[if_neg hd,if_neg (fun h=>hd (by rw[h]))]
  simp only[hc,decide_false,Bool.not_false,if_true,bind_pure];rw[if_neg (fun h=>hc (by rw[h]))];simp only[au,bind_pure]
 | [],_::_,_,_,_,hl,_,_,_,_=>hl.elim
 | _::_,[],_,_,_,hl,_,_,_,_=>hl.elim

theorem Rj.struct{t:TypeId}{fs:Array Field}[TD P t (.struct fs)][n:NS P t](hl:ZK P K kd fs.toList ws 0):Rj P t ws.sum (K+1) kd:=by
 intro hp F β f Q d us bs h1 h2;have hs:=n.stood;show tr P hp ((Op.equalIn (d+K+1) t _ _).bind f) F Q=_;simp only[Op.equalIn,bind_eq,au,bind_assoc,bind_pure,aF,program,Sem.bind,tr,hs,eU,if_false];rw[<-Array.forIn_toList,Xj d fs.toList ws 0 us bs hl h1 h2 (Part.all _) (Part.all _)];by_cases h:us=bs <;>simp[h,bind_pure]

theorem aa1{kd:IntKind}{P:Program}{E w K:Nat}{xs ys:Array Value}{hp:Hp}{F:ah}{β:Type}{Q:β->ah->Prop}(he:EqAt P E w K kd)(d:Nat){g:Option Bool×Unit->Sem β}:∀(n i:Nat) (us bs:List Int),us.length=n*w->bs.length=n*w->Part xs (i*w) (us.map (nK kd))->Part ys (i*w) (bs.map (nK kd))->
  tr P hp ((
       forIn (List.range' i n) ((none,()):Option Bool×Unit) fun i __s=>
      (
       part E xs (i*w)).bind fun __do_lift=>
       (
        part E ys (i*w)).bind fun __do_lift_1=>
        (
         Op.equalIn (d+K) E __do_lift __do_lift_1).bind fun __do_lift=>
         if(!__do_lift)=true then Sem.pure (ForInStep.done (some false,()))
         else Sem.pure (ForInStep.yield (none,()))).bind g) F Q=tr P hp (g (if us=bs then(none,())else(some false,()))) F Q
 | 0,i,us,bs,h1,h2,h3,h4=>by
  have e1:us=[]:=jy.1 (by simpa using h1);have e2:bs=[]:=jy.1 (by simpa using h2);subst e1 e2;simp only[List.range'_zero,List.forIn_nil,au,bind_pure,if_true]
 | n+1,i,us,bs,h1,h2,h3,h4=>by
  rw[Nat.succ_mul]at h1 h2;obtain⟨p1,p2⟩:=h3.two (w:=w) aj;obtain⟨q1,q2⟩:=h4.two (w:=w) aj;have e1:(us.take w).length=w:=by simp;omega
  have e2:(bs.take w).length=w:=by simp;omega
  have e3:i*w+w=(i+1)*w:=by rw[Nat.succ_mul]
  rw[e3]at p2 q2;simp only[List.range'_succ,List.forIn_cons,bind_eq,bind_assoc];rw[he d e1 e2 p1 q1];by_cases hc:us.take w=bs.take w
  ·simp only[hc,decide_true,Bool.not_true,eU,if_false,bind_pure];rw[aa1 he d n (i+1) (us.drop w) (bs.drop w) (by simp;omega) (by simp;omega) p2 q2];by_cases hd:us.drop w=bs.drop w
   ·rw[if_pos hd,if_pos (NG hc hd)]
   rw[if_neg hd,if_neg (fun h=>hd (by rw[h]))]
  simp only[hc,decide_false,Bool.not_false,if_true,bind_pure];rw[if_neg (fun h=>hc (by rw[h]))];simp only[au,bind_pure]

theorem Rj.array{n w:Nat}{s:Nat}{z:Value}[TD P t (.array n E)][TI P E w s z zc](he:EqAt P E w K kd):Rj P t (n*w) (K+1) kd:=by
 intro hp F β f Q d us bs h1 h2;show tr P hp ((Op.equalIn (d+K+1) t _ _).bind f) F Q=_;simp only[Op.equalIn,bind_eq,au,bind_assoc,bind_pure,aF,fF];rw[Std.Legacy.Range.forIn_eq_forIn_range'];have e:(Std.Legacy.Range.size [:n])=n:=by simp[Std.Legacy.Range.size]
 rw[e];refine(aa1 he d n 0 us bs h1 h2 (by rw[Nat.zero_mul];exact Part.all _) (by rw[Nat.zero_mul];exact Part.all _)).trans ?_;by_cases h:us=bs <;>simp[h,bind_pure]

class EV(P:Program)(t:TypeId)(w:outParam Nat)(kd:outParam IntKind:=.i64):Prop where
 out:Rj P t w 9 kd
theorem Rj.le{w:Nat}(H:Rj P t w K kd)(h:K<=K'):Rj P t w K' kd:=by
 intro hp F β f Q d us bs h1 h2;have:= @H hp F β f Q (d+(K'-K)) us bs h1 h2;rwa[show d+(K'-K)+K=d+K' by omega]at this

section rules
variable{x:Cx}{ρ:Env}{F:ah}{S:ah->Prop}{o:Oper}{R:Value->ah->Prop}
theorem Ik{w:Nat}[v:EV P t w kd]{h:Hp}{F:ah}{β:Type}{f:Bool->Sem β}{Q:β->ah->Prop}(h1:us.length=w)(h2:bs.length=w):tr P h ((Op.equal t (.agg (us.map (nK kd)).toArray) (.agg (bs.map (nK kd)).toArray)).bind f) F Q=tr P h (f (decide (us=bs))) F Q:=by
 have e:Op.equal t (.agg (us.map (nK kd)).toArray) (.agg (bs.map (nK kd)).toArray)=Op.equalIn (9991+9) t (.agg (us.map (nK kd)).toArray) (.agg (bs.map (nK kd)).toArray):=rfl;rw[e];exact v.out 9991 h1 h2
theorem ai5{w:Nat}(us bs:List Int)(ho:o.op= .binOp .eql t y z t')[EV x.P t w kd][n:NS x.P t](hy:ev ρ y=some u)(hz:ev ρ z=some v)(hu:u= .agg (us.map (nK kd)).toArray)(hv:v= .agg (bs.map (nK kd)).toArray)(h1:us.length=w)(h2:bs.length=w):Yv x S ρ o (.bool (decide (us=bs))):=fun e he F hF h' hE=>by
 subst hu hv
 have hg:∀{β:Type} {f:Unit->Sem β} {Q:β->ah->Prop},tr x.P h' ((eqGuard .eql t y z (.agg (us.map (nK kd)).toArray) (.agg (bs.map (nK kd)).toArray)).bind f) F Q=tr x.P h' (f ()) F Q:=by
  intro β f Q;simp only[eqGuard,bind_eq,au,bind_assoc,o7,n.guard,Bool.not_false,if_true,bind_pure,Bool.not_true,eU,if_false]
 simp only[execOp,ho,he y _ hy,he z _ hz,bind_eq,au,bind_assoc,hg,binOp,Ik h1 h2];exact⟨O,O⟩
theorem an_{w:Nat}(us bs:List Int)(ho:o.op= .binOp .neq t y z t')[EV x.P t w kd][n:NS x.P t](hy:ev ρ y=some u)(hz:ev ρ z=some v)(hu:u= .agg (us.map (nK kd)).toArray)(hv:v= .agg (bs.map (nK kd)).toArray)(h1:us.length=w)(h2:bs.length=w):Yv x S ρ o (.bool (!decide (us=bs))):=fun e he F hF h' hE=>by
 subst hu hv
 have hg:∀{β:Type} {f:Unit->Sem β} {Q:β->ah->Prop},tr x.P h' ((eqGuard .neq t y z (.agg (us.map (nK kd)).toArray) (.agg (bs.map (nK kd)).toArray)).bind f) F Q=tr x.P h' (f ()) F Q:=by
  intro β f Q;simp only[eqGuard,bind_eq,au,bind_assoc,o7,n.guard,Bool.not_false,if_true,bind_pure,Bool.not_true,eU,if_false]
 simp only[execOp,ho,he y _ hy,he z _ hz,bind_eq,au,bind_assoc,hg,binOp,Ik h1 h2];exact⟨O,O⟩
end rules
def V5(P:Program)(t:TypeId)(w K:Nat)(kd:IntKind:=.i64):Prop:=∀{h:Hp} {F:ah} {β:Type} {f:Unit->Sem β} {Q:β->ah->Prop} (em:Bool) (d:Nat) {xs:Array Value} {off:Nat} {us:List Int},us.length=w->Part xs off (us.map (nK kd))->
 tr P h ((part t xs off).bind fun x=>(Instr.checkKey em (d+K) t x).bind f) F Q=tr P h (f ()) F Q
def Xk(P:Program)(t:TypeId)(w K:Nat)(kd:IntKind:=.i64):Prop:=∀{h:Hp} {F:ah} {β:Type} {f:Unit->Sem β} {Q:β->ah->Prop} (em:Bool) (d:Nat) {us:List Int},us.length=w->
 tr P h ((Instr.checkKey em (d+K) t (.agg (us.map (nK kd)).toArray)).bind f) F Q=tr P h (f ()) F Q
theorem V5.int{t:TypeId}[TD P t (.int kd)][SC P t]:V5 P t 1 1 kd:=by
 intro hp F β f Q em d xs off us h1 h3;obtain⟨a,rfl⟩:=List.length_eq_one_iff.1 h1;have e1:xs[off]? =some (nK kd a):=h3.get (j:=0) (by simp);rw[yS e1];simp only[Instr.checkKey,bind_eq,au,bind_assoc,bind_pure,aF]
theorem Xk.at{w:Nat}(H:Xk P t w K kd)[AG P t w]:V5 P t w K kd:=by
 intro hp F β f Q em d xs off us h1 h3;have e1:=h3.extract;rw[List.length_map,h1]at e1;rw[yT,e1];exact H em d h1
theorem Xk.le{w:Nat}(H:Xk P t w K kd)(h:K<=K'):Xk P t w K' kd:=by
 intro hp F β f Q em d us h1;have:= @H hp F β f Q em (d+(K'-K)) us h1;rwa[show d+(K'-K)+K=d+K' by omega]at this

def KZ(P:Program)(K:Nat)(kd:IntKind):List Field->List Nat->Nat->Prop
 | [],[],_=>True
 | f::fs,w::ws,o=>f.name≠ "_" ∧f.offset=o∧V5 P f.type w K kd∧KZ P K kd fs ws (o+w)
 | _,_,_=>False
theorem KZ.nil:KZ P K kd [] [] o:=trivial
theorem KZ.cons{w:Nat}{f:Field}{fs:List Field}(hn:f.name≠ "_")(ho:f.offset=o)(he:V5 P f.type w K kd)(hl:KZ P K kd fs ws (o+w)):KZ P K kd (f::fs) (w::ws) o:=⟨hn,ho,he,hl⟩
theorem Xl{kd:IntKind}{P:Program}{K:Nat}{xs:Array Value}{hp:Hp}{F:ah}{β:Type}{Q:β->ah->Prop}(em:Bool)(d:Nat){g:PUnit->Sem β}:∀(fs:List Field) (ws:List Nat) (o:Nat) (us:List Int),KZ P K kd fs ws o->us.length=ws.sum->Part xs o (us.map (nK kd))->
  tr P hp ((
       forIn fs PUnit.unit fun f __s=>
     if f.name≠ "_" then
      (
       part f.type xs f.offset).bind fun __do_lift=>
       (Instr.checkKey em (d+K) f.type __do_lift).bind fun r=>Sem.pure (ForInStep.yield PUnit.unit)
     else Sem.pure (ForInStep.yield PUnit.unit)).bind g) F Q=tr P hp (g PUnit.unit) F Q
 | [],[],o,us,_,h1,h3=>by
  simp only[List.forIn_nil,au,bind_pure]
 | f::fs,w::ws,o,us,hl,h1,h3=>by
  obtain⟨hn,ho,he,hl⟩:=hl;simp only[List.sum_cons]at h1;obtain⟨p1,p2⟩:=h3.two (w:=w) aj;have e1:(us.take w).length=w:=by simp;omega
  subst ho;simp only[List.forIn_cons,bind_eq,if_pos hn,bind_assoc];rw[he em d e1 p1];simp only[bind_pure];exact Xl em d fs ws _ (us.drop w) hl (by simp;omega) p2
 | [],_::_,_,_,hl,_,_=>hl.elim
 | _::_,[],_,_,hl,_,_=>hl.elim
theorem Xk.struct{t:TypeId}{fs:Array Field}[TD P t (.struct fs)](hl:KZ P K kd fs.toList ws 0):Xk P t ws.sum (K+1) kd:=by
 intro hp F β f Q em d us h1;show tr P hp ((Instr.checkKey em (d+K+1) t _).bind f) F Q=_;simp only[Instr.checkKey,bind_eq,au,bind_assoc,bind_pure,aF];rw[<-Array.forIn_toList];exact Xl em d fs.toList ws 0 us hl h1 (Part.all _)
theorem aa2{kd:IntKind}{P:Program}{E w K:Nat}{s:Nat}{z:Value}{zc:Array Value}[TI P E w s z zc]{xs:Array Value}{hp:Hp}{F:ah}{β:Type}{Q:β->ah->Prop}(he:V5 P E w K kd)(em:Bool)(d:Nat){g:PUnit->Sem β}:∀(n i:Nat) (us:List Int),us.length=n*w->Part xs (i*w) (us.map (nK kd))->
  tr P hp ((
       forIn (List.range' i n) PUnit.unit fun i __s=>
     (
      sizeOf E).bind fun __do_lift=>
      (
       part E xs (i*__do_lift)).bind fun __do_lift=>
       (Instr.checkKey em (d+K) E __do_lift).bind fun r=>Sem.pure (ForInStep.yield PUnit.unit)).bind g) F Q=tr P hp (g PUnit.unit) F Q
 | 0,i,us,h1,h3=>by
  simp only[List.range'_zero,List.forIn_nil,au,bind_pure]
 | n+1,i,us,h1,h3=>by
  rw[Nat.succ_mul]at h1;obtain⟨p1,p2⟩:=h3.two (w:=w) aj;have e1:(us.take w).length=w:=by simp;omega
  have e3:i*w+w=(i+1)*w:=by rw[Nat.succ_mul]
  rw[e3]at p2;simp only[List.range'_succ,List.forIn_cons,bind_eq,bind_assoc,fF];rw[he em d e1 p1];simp only[bind_pure];exact aa2 he em d n (i+1) (us.drop w) (by simp;omega) p2
theorem Xk.array{n w:Nat}{s:Nat}{z:Value}[TD P t (.array n E)][TI P E w s z zc](he:V5 P E w K kd):Xk P t (n*w) (K+1) kd:=by
 intro hp F β f Q em d us h1;show tr P hp ((Instr.checkKey em (d+K+1) t _).bind f) F Q=_;simp only[Instr.checkKey,bind_eq,au,bind_assoc,bind_pure,aF];rw[Std.Legacy.Range.forIn_eq_forIn_range'];have e:(Std.Legacy.Range.size [:n])=n:=by simp[Std.Legacy.Range.size]
 rw[e];exact aa2 he em d n 0 us h1 (by rw[Nat.zero_mul];exact Part.all _)

class KV(P:Program)(t:TypeId)(w:outParam Nat)(kd:outParam IntKind:=.i64):Prop where
 eq:EV P t w kd
 ck:Xk P t w 9 kd
 ag:∃d,P.underlying t=some d/\((∃fs,d= .struct fs)\/∃n e,d= .array n e)

def JB(es:Array MapEntry)(ks:List (List Int))(kd:IntKind:=.i64):Prop:=es.toList.map (fun e=>(e.key,e.val))=ks.map fun a=>(Value.agg (a.map (nK kd)).toArray,Value.bool true)

section
variable{P:Program}{h:Hp}{F:ah}{β:Type}{Q:β->ah->Prop}{t w:Nat}
theorem Bg[k:KV P t w kd]{f:Unit->Sem β}{em:Bool}(h1:us.length=w):tr P h ((Instr.checkKey em 10000 t (.agg (us.map (nK kd)).toArray)).bind f) F Q=tr P h (f ()) F Q:=by
 have e:(10000:Nat)=9991+9:=rfl;rw[e];exact k.ck em 9991 h1

def Dt(k:List Int):List (List Int)->Nat->Option (Nat×Value)
 | [],_=>none
 | a::ks,i=>if k=a then some (i,.bool true)else Dt k ks (i+1)
theorem K_{k:List Int}:∀{ks:List (List Int)} {i:Nat} {r:Nat×Value},Dt k ks i=some r->r.2= .bool true/\k∈ks/\∃j,r.1=i+j/\ks[j]? =some k
 | [],_,_,h=>by cases h
 | a::ks,i,r,h=>by
  simp only[Dt]at h;split at h
  ·rename_i e
   cases h
   subst e;exact⟨O,bT ..,0,O,O⟩
  obtain⟨h1,h2,j,h3,h4⟩:=K_ h;exact⟨h1,dH _ h2,j+1,by rw[h3];omega,by simpa using h4⟩
theorem La{k:List Int}:∀{ks:List (List Int)} {i:Nat},Dt k ks i=none->k∉ks
 | [],_,_=>by simp
 | a::ks,i,h=>by
  simp only[Dt]at h;split at h
  ·cases h
  rename_i e;simp[e,La h]

theorem JV{kd:IntKind}[k:KV P t w kd]{f:Option (Nat×Value)->Sem β}{a:List Int}(h1:a.length=w):∀{ks:List (List Int)} {l:List MapEntry} {i:Nat},(∀b∈ks,b.length=w)->l.map (fun e=>(e.key,e.val))=ks.map (fun a=>(Value.agg (a.map (nK kd)).toArray,Value.bool true))->
  tr P h ((Instr.findAsking t (.agg (a.map (nK kd)).toArray) l i).bind f) F Q=tr P h (f (Dt a ks i)) F Q
 | [],l,i,hw,hm=>by
  have:l=[]:=by simpa using hm
  subst this;simp only[Instr.findAsking,au,bind_pure,Dt]
 | b::ks,[],i,hw,hm=>by cases hm
 | b::ks,e::l,i,hw,hm=>by
  simp only[dQ,List.cons.injEq,Prod.mk.injEq]at hm;obtain⟨⟨hk,hv⟩,hm⟩:=hm;have:=k.eq;simp only[Instr.findAsking,bind_eq,au,bind_assoc,hk,Ik h1 (hw b (bT ..))];by_cases hab:a=b
  ·simp only[hab,decide_true,if_true,bind_pure,Dt,hv]
  simp only[hab,decide_false,eU,if_false,Dt];exact JV h1 (fun c hc=>hw c (dH _ hc)) hm
theorem Un[k:KV P t w kd]{f:Option (Nat×Value)->Sem β}(h1:a.length=w)(hw:∀b∈ks,b.length=w)(hm:JB es ks kd):
  tr P h ((Instr.findKey t (.agg (a.map (nK kd)).toArray) es.toList).bind f) F Q=tr P h (f (Dt a ks 0)) F Q:=by
 obtain⟨d,hd,hda⟩:=k.ag;have:TD P t d:=⟨hd⟩
 simp only[Instr.findKey,bind_eq,au,bind_assoc,aF];have Vf:=hm;unfold JB at Vf
 cases hl:es.toList with
 | nil=>
  rw[hl]at Vf;have:ks=[]:=by simpa using Vf.symm
  subst this;simp only[Instr.findNow,bind_pure,Dt]
 | cons e l=>
  have hn:Instr.findNow d (.agg (a.map (nK kd)).toArray) (e::l) 0=none:=by
   have:Instr.sameNow d (.agg (a.map (nK kd)).toArray) e.key=none:=by
    rcases hda with⟨fs,rfl⟩ | ⟨n,el,rfl⟩ <;>rfl
   simp only[Instr.findNow,this]
  simp only[hn];rw[<-hl];exact JV h1 hw Vf
end
theorem V6:∀(n:Nat) (us:List Int),Instr.sameBits (n+2) (.agg (us.map (nK kd)).toArray) (.agg (us.map (nK kd)).toArray)=true:=by
 intro n us;simp only[Instr.sameBits,beq_self_eq_true,Bool.true_and,List.all_eq_true];intro p hp
 have key:∀(l:List Value) (p:Value×Value),p∈l.zip l->p.1=p.2/\p.1∈l:=by
  intro l
  induction l with
  | nil=>intro p hp;cases hp
  | cons a l ih=>
   intro p hp;rcases bU.1 hp with rfl | hp
   ·exact⟨O,bT ..⟩
   obtain⟨h1,h2⟩:=ih p hp;exact⟨h1,dH _ h2⟩
 obtain⟨h1,h2⟩:=key _ p hp;obtain⟨a,_,ha⟩:=List.mem_map.1 h2;obtain⟨u,v⟩:=p;simp only at h1 ha;subst h1 ha;simp[Instr.sameBits]

theorem Uo{α β:Type}{g:α->β}{f:α->α}:∀{l:List α} {i:Nat},(∀x,l[i]? =some x->g (f x)=g x)->(l.modify i f).map g=l.map g
 | [],i,_=>by cases i <;>rfl
 | a::l,0,h=>by
  show g (f a)::l.map g=_;rw[h a O];rfl
 | a::l,i+1,h=>by
  have:=Uo (l:=l) (i:=i) (f:=f) (g:=g) fun x hx=>h x (by simpa using hx);rw[List.modify_succ_cons,dQ,this,dQ]

section rules
variable{x:Cx}{ρ:Env}{F:ah}{S:ah->Prop}{o:Oper}{R:Value->ah->Prop}
theorem O7(ho:o.op= .makeMap t none)(H:∀β,x.h β=none->(∀o,(β,o)∉F)->R (.map (some β)) ((β,.map #[] 0)::F)):Ef x ρ o F R:=
 Ef.uY fun e he h' hE=>by
  simp only[execOp,ho,Instr.makeMap,Option.map_none,bind_eq,au,bind_assoc,bind_pure];exact⟨(fun h=>by cases h),fun r h5 h6=>⟨_,.inl rfl,H r (hE.none h5) h6⟩⟩
theorem aa3{w s b:Nat}(ho:o.op= .lookup t y k false)[TD x.P t (.map kt vt)][KV x.P kt w kd][TI x.P vt s b (.bool false) #[.bool false]](hy:ev ρ y=some (.map (some β)))(hk:ev ρ k=some u)(hu:u= .agg (a.map (nK kd)).toArray)(h1:a.length=w)(hl:At β (.map es clock) F U)(hm:JB es ks kd)(hw:∀b∈ks,b.length=w)
  (H:R (.bool (decide (a∈ks))) F):Ef x ρ o F R:=
 Ef.uY fun e he h' hE=>by
  subst hu;obtain⟨F1,F2,e1,e2⟩:=hl.split;simp only[execOp,ho,he y _ hy,he k _ hk,Instr.lookup,bind_eq,au,bind_assoc,bind_pure,aF,eU,if_false];refine⟨.map es clock,.inr (by rw[e1];simp),(fun _ _ _=>by simp),O,?_⟩;simp only[au,bind_pure,bind_assoc];rw[Bg h1,Un h1 hw hm]
  cases hf:Dt a ks 0 with
  | none=>
   have hn:=La hf;simp only[hn,decide_false]at H;simp only[bind_assoc];rw[jQ (P:=x.P) (t:=vt)];simp only[bind_pure];exact⟨_,.inl O,H⟩
  | some r=>
   obtain⟨i,v⟩:=r;obtain⟨h5,h6,_⟩:=K_ hf;simp only at h5;subst h5;simp only[h6,decide_true]at H;simp only[bind_pure];exact⟨_,.inl O,H⟩
theorem Il{w:Nat}{v:Operand}(ho:o.op= .mapUpdate t y k v)[TD x.P t (.map kt vt)][KV x.P kt w kd](hy:ev ρ y=some (.map (some β)))(hk:ev ρ k=some u)(hu:u= .agg (a.map (nK kd)).toArray)(hv:ev ρ v=some (.bool true))(h1:a.length=w)(hl:At β (.map es clock) F U)(hm:JB es ks kd)(hw:∀b∈ks,b.length=w)
  (H:∀LM ap5,JB LM (if a∈ks then ks else ks++[a]) kd->R undef (U (.map LM ap5))):Ef x ρ o F R:=
 Ef.uY fun e he h' hE=>by
  subst hu;obtain⟨F1,F2,e1,e2⟩:=hl.split;simp only[execOp,ho,he y _ hy,he k _ hk,he v _ hv,Instr.mapUpdate,bind_eq,au,bind_assoc,bind_pure,aF];refine⟨.map es clock,.inr (by rw[e1];simp),(fun _ _ _=>by simp),O,?_⟩;simp only[au,bind_pure,bind_assoc];rw[Bg h1,Un h1 hw hm]
  cases hf:Dt a ks 0 with
  | none=>
   have hn:=La hf;simp only[hn,if_false]at H;refine⟨.map es clock,F1,F2,e1,(fun _ _ _=>by simp),O,?_⟩
   have:=H (es.push {key:=.agg (a.map (nK kd)).toArray,val:=.bool true,born:=clock}) (clock+1) (by
    unfold JB at hm⊢;simp[hm])
   rw[e2]at this;exact⟨_,.inr ⟨O,O⟩,this⟩
  | some r=>
   obtain⟨i,v'⟩:=r;obtain⟨h5,h6,j,h7,h8⟩:=K_ hf;simp only[Nat.zero_add]at h7;subst h7;simp only[h6,if_true]at H
   have hes:∃me,es.toList[i]? =some me/\me.key= .agg (a.map (nK kd)).toArray/\me.val= .bool true:=by
    have h9:=congrArg (·[i]?) hm;simp only[iL,h8,Option.map_some]at h9;obtain⟨me,h10,h11⟩:=jR.1 h9;simp only[Prod.mk.injEq]at h11;exact⟨me,h10,h11.1,h11.2⟩
   obtain⟨me,hme,hmk,hmv⟩:=hes;have aw3:es[i]? =some me:=by rw[<-Array.getElem?_toList];exact hme
   simp only[aw3,Option.map_some,Option.getD_some,hmk,Instr.keyThatStays,bind_eq,au];rw[if_pos (V6 9998 a)];simp only[bind_pure,bind_assoc];refine⟨.map es clock,F1,F2,e1,(fun _ _ _=>by simp),O,?_⟩
   have:=H (es.modify i fun e=>{e with key:=.agg (a.map (nK kd)).toArray,val:=.bool true}) clock (by
    unfold JB at hm⊢;rw[Array.toList_modify,Uo,hm];intro y hy;rw[hme]at hy
    cases hy
    simp[hmk,hmv])
   rw[e2]at this;exact⟨_,.inr ⟨O,O⟩,this⟩
end rules
instance:NS aV YU:=⟨aB,aB⟩
instance:NS aV ku:=⟨aB,aB⟩
instance:NS aV pG:=⟨aB,aB⟩
instance:NS aV A_:=⟨aB,aB⟩
theorem ei:EqAt aV aX 1 1:=EqAt.int
theorem ckI:V5 aV aX 1 1:=V5.int
theorem ai7:Rj aV YU 2 2:=by
 refine Rj.struct (ws:=[1,1]) (K:=1) ?_;exact(ZK.cons dF O ei (ZK.cons dF O ei ZK.nil))
theorem Xm:Rj aV ku 2 2:=by
 refine Rj.struct (ws:=[1,1]) (K:=1) ?_;exact(ZK.cons dF O ei (ZK.cons dF O ei ZK.nil))
theorem Ur:Rj aV pG 3 2:=by
 refine Rj.struct (ws:=[1,1,1]) (K:=1) ?_;exact(ZK.cons dF O ei (ZK.cons dF O ei (ZK.cons dF O ei ZK.nil)))
theorem ai8:Rj aV dD 8 3:=Rj.array (n:=4) (w:=2) (K:=2) Xm.at
instance:EV aV YU 2:=⟨ai7.le dF⟩
instance:EV aV ku 2:=⟨Xm.le dF⟩
instance:EV aV pG 3:=⟨Ur.le dF⟩
instance:EV aV dD 8:=⟨ai8.le dF⟩
theorem agn:Xk aV ku 2 2:=by
 refine Xk.struct (ws:=[1,1]) (K:=1) ?_;exact(KZ.cons dF O ckI (KZ.cons dF O ckI KZ.nil))
theorem ai9:Xk aV dD 8 3:=Xk.array (n:=4) (w:=2) (K:=2) agn.at
instance:KV aV dD 8:=⟨inferInstance,ai9.le dF,_,TD.out,.inr ⟨_,_,O⟩⟩

def Gf(p:List Be):List Int:=p.flatMap fun b=>[b.fl,b.day]
theorem Zd(p:List Be):jI p= .agg ((Gf p).map nI).toArray:=by
 have e:flat Be.row p=(Gf p).map nI:=by
  induction p with
  | nil=>rfl
  | cons b p ih=>rw[iW,ih];rfl
 rw[jI,e]
theorem Du(h:p.length=4):(Gf p).length=8:=by
 obtain⟨a,b,c,d,rfl⟩:=four h;rfl
theorem aa4:∀{p q:List Be},p.length=q.length->Gf p=Gf q->p=q
 | [],[],_,_=>rfl
 | a::p,b::q,h,e=>by
  simp only[Gf,List.flatMap_cons,List.cons_append,List.nil_append,List.cons.injEq]at e;obtain⟨e1,e2,e3⟩:=e;rw[aa4 (by simpa using h) e3];obtain⟨x,y⟩:=a;obtain⟨z,w⟩:=b
  cases e1;cases e2;rfl

def wJ(ss:List St)(p:List Be):Nat->Int
 | 0=>0
 | k+1=>if 0<=(dB p k).fl then BQ (wJ ss p k) (ru ss k).co else wJ ss p k
def mZ(ss:List St)(p:List Be):Int:=wJ ss p ss.length
theorem agp(main:aN)(h:Hp)(fs:List Fl)(ss:List St)(p:List Be)(vf vs:Value)(hf:Sl h Fl.row vf fs)(hs:Sl h St.row vs ss)(hp:Ak p)(hn:ss.length<=4):Pu aV main Jl #[.agg #[vf,vs],jI p] h (I (mZ ss p)):=by
 obtain⟨a,cap,rfl⟩:=hf.aU;obtain⟨a',f_,rfl⟩:=hs.aU;have oH:=uI hp;refine bG.bH func75 [(0,.agg #[.slice a fs.length cap,.slice a' ss.length f_]),(1,jI p)] ?_;refine d_ ?_;refine aA.box (fun oJ=>?_);refine aA.box (fun nP=>?_);refine Qv ?_;refine W.loop (σ:=Nat) (fun k=>k<=ss.length) (fun k=>[(12,I k),(11,I ss.length),(10,.slice a' ss.length f_),(5,I (wJ ss p k)),(3,.pointer (some ⟨nP,0,none⟩))]) (fun _=>[(nP,.cells (flat Be.row p).toArray dD (0,0))]) (fun k=>ss.length-k) 0 (Nat.zero_le _) iw qE ?_;rintro k hk;refine kJ ?_;refine W.aJ O (fun c13=>?_) (fun c13=>?_)
 ·obtain⟨x,hx,-⟩:=has (show k<ss.length by omega);have Sz:ru ss k=x:=by simp[ru,List.getD,hx]
  obtain⟨b,off,c,E,fz,rfl,hb,Vh,YZ,Gq⟩:=hs.at hx;have hx2:c.extract (off+k*3) (off+k*3+3)= #[I x.day,I x.co,I x.wa]:=Vh;clear Vh Gq;have QH:k<4:=by omega
  have hpa:(flat Be.row p).toArray[0+k*2+0]? =some (I (dB p k).fl):=by simpa using(Q7 hp QH).1
  refine FT ?_;refine aA.new (fun yc=>?_);refine lg ?_
  first | refine b_ (rM rfl rfl rfl) rfl ?_ | refine b_ (kU rfl rfl rfl) rfl ?_
  refine lF ?_;refine W.aJ O (fun Oh=>?_) (fun Oh=>?_)
  ·refine kJ ?_;refine zW rfl rfl rfl<|aA.nil<|iE<|fH<|W.region rfl ?_;refine gI ?_
   first
   | exact⟨rfl,k+1,aj,aj,⟨rfl,rfl,rfl,lk rfl (show I _=I _ by congr 1;simp only[wJ];rw[if_pos Oh,Sz]),rfl,trivial⟩,qE⟩
   | exact⟨rfl,k+1,aj,aj,⟨rfl,rfl,rfl,lk rfl (show I _=I _ by congr 1;simp only[wJ];rw[if_neg Oh]),rfl,trivial⟩,qE⟩
  refine jk ?_
  first
  | exact⟨rfl,k+1,aj,aj,⟨rfl,rfl,rfl,lk rfl (show I _=I _ by congr 1;simp only[wJ];rw[if_pos Oh,Sz]),rfl,trivial⟩,qE⟩
  | exact⟨rfl,k+1,aj,aj,⟨rfl,rfl,rfl,lk rfl (show I _=I _ by congr 1;simp only[wJ];rw[if_neg Oh]),rfl,trivial⟩,qE⟩
 refine iC ?_;refine lQ ?_;rw[mZ,show ss.length=k by omega];rfl
def jC(s:Int×List (List Be))(p:List Be)(n:Int):Int×List (List Be):=
  let s':=if s.2=[]\/s.1<n then(n,[])else s
  if n=s'.1 then(s'.1,s'.2++[p])else s'

theorem ap7(main:aN)(h:Hp)(bm:Nat)(c n:Int)(v:Value)(l:List (List Be))(p:List Be)(S:ah)(hO:Os dD wS v l S)(hl:l.length<=100000)(uN:p.length=4):bG aV main CX #[.pointer (some ⟨bm,0,none⟩),jI p,I n] h ((bm,.cells #[I c,v] KP (0,0))::S) (fun _ A'=>∃v' S',Os dD wS v' (jC (c,l) p n).2 S'/\Sb ((bm,.cells #[I (jC (c,l) p n).1,v'] KP (0,0))::S') A'):=by
  obtain⟨a,cap,rfl⟩:=hO.aU;have oH:(flat Be.row p).toArray.size=8:=by simp[gU,uN]
  have hon:lC (flat Be.row p).toArray.toList=true:=vN;refine bG.bH func72 [(0,.pointer (some ⟨bm,0,none⟩)),(1,jI p),(2,I n)] ?_;refine d_ ?_;refine aA.box (fun mW=>?_);refine iC ?_;refine aA.ask (fun Am=>?_) (fun Am=>?_)
  · refine kR ?_;refine W.kG ?_;refine apy ?_;refine W.aJ O (fun EL=>?_) (fun EL=>?_)
    · refine W.yh (n:=11) O ?_;refine ay 0 ?_;refine ay 1 ?_;refine ay 2 ?_;refine ay 3 ?_;refine ay 4 ?_;refine ay 5 ?_;refine abl (i:=6) (cs:=(flat Be.row p).toArray) (fun aa5=>?_) O (hf:=by exact Dp uN)
      first
      | refine ae (i:=7) rfl an rfl rfl (bV (row:=wS) (l:=[]) (l':=[p]) rfl rfl rfl (Os.nil hO.shut) (.tail (.tail (.tail .all))) (fun h2 _ hl=>Sl.mk (hl aa5 _ (.head _)) rfl (sU uN)) (by simp) dF rfl (fun v' S' qm=>?_))
      | refine ae (i:=7) rfl an rfl rfl (bV (row:=wS) (l':=[p]) rfl rfl rfl hO (.tail (.tail (.tail .all))) (fun h2 _ hl=>Sl.mk (hl aa5 _ (.head _)) rfl (sU uN)) (by simp;omega) dF rfl (fun v' S' qm=>?_))
      refine⟨.inr (fun q hq=>?_),?_⟩
      · rcases bU.1 hq with rfl | hq
        · exact .tail _ (.head _)
        rcases bU.1 hq with rfl | hq
        · exact .tail _ (.tail _ (.head _))
        cases hq
      obtain⟨asl,csl,rfl⟩:=qm.aU;refine ay 8 ?_;refine ay 9 ?_;refine ae (i:=10) O an O O (eS O O O ?_);refine⟨.inl aB,?_⟩;refine az ?_;refine iQ (vs:=[]) ?_
      first
      | (
         have BU:l=[]:=jy.1 aj;subst BU;have e:jC (c,[]) p n=(n,[p]):=by simp[jC]
         rw[e];exact⟨_,S',qm,.skip O (.skip O .refl)⟩)
      | (
         have BU:l≠[]:=by rintro rfl;simp at Am
         have e:jC (c,l) p n=(n,[p]):=by simp[jC,BO]
         rw[e];exact⟨_,S',qm,.skip O (.skip O .refl)⟩)
      | (
         have BU:l≠[]:=by rintro rfl;simp at Am
         have e:jC (c,l) p n=(c,l++[p]):=by simp[jC,BU,BO,EL]
         rw[e];exact⟨_,S',qm,.skip O (.skip O .refl)⟩)
      | (
         have BU:l≠[]:=by rintro rfl;simp at Am
         have e:jC (c,l) p n=(c,l):=by simp[jC,BU,BO,EL]
         rw[e];exact⟨_,S,hO,.skip O .refl⟩)
      | exact absurd rfl EL
    refine W.skip ?_;refine iQ (vs:=[]) ?_
    first
    | (
       have BU:l=[]:=jy.1 aj;subst BU;have e:jC (c,[]) p n=(n,[p]):=by simp[jC]
       rw[e];exact⟨_,S',qm,.skip O (.skip O .refl)⟩)
    | (
       have BU:l≠[]:=by rintro rfl;simp at Am
       have e:jC (c,l) p n=(n,[p]):=by simp[jC,BO]
       rw[e];exact⟨_,S',qm,.skip O (.skip O .refl)⟩)
    | (
       have BU:l≠[]:=by rintro rfl;simp at Am
       have e:jC (c,l) p n=(c,l++[p]):=by simp[jC,BU,BO,EL]
       rw[e];exact⟨_,S',qm,.skip O (.skip O .refl)⟩)
    | (
       have BU:l≠[]:=by rintro rfl;simp at Am
       have e:jC (c,l) p n=(c,l):=by simp[jC,BU,BO,EL]
       rw[e];exact⟨_,S,hO,.skip O .refl⟩)
    | exact absurd rfl EL
  refine d_ ?_
  first | refine kw_ (rJ rfl rfl) rfl ?_ | refine kw_ (oZ rfl rfl) rfl ?_
  refine kJ ?_;refine W.aJ O (fun BO=>?_) (fun BO=>?_)
  · refine apy ?_;refine W.aJ O (fun EL=>?_) (fun EL=>?_)
    · refine W.yh (n:=11) O ?_;refine ay 0 ?_;refine ay 1 ?_;refine ay 2 ?_;refine ay 3 ?_;refine ay 4 ?_;refine ay 5 ?_;refine abl (i:=6) (cs:=(flat Be.row p).toArray) (fun aa5=>?_) O (hf:=by exact Dp uN)
      first
      | refine ae (i:=7) rfl an rfl rfl (bV (row:=wS) (l:=[]) (l':=[p]) rfl rfl rfl (Os.nil hO.shut) (.tail (.tail (.tail .all))) (fun h2 _ hl=>Sl.mk (hl aa5 _ (.head _)) rfl (sU uN)) (by simp) dF rfl (fun v' S' qm=>?_))
      | refine ae (i:=7) rfl an rfl rfl (bV (row:=wS) (l':=[p]) rfl rfl rfl hO (.tail (.tail (.tail .all))) (fun h2 _ hl=>Sl.mk (hl aa5 _ (.head _)) rfl (sU uN)) (by simp;omega) dF rfl (fun v' S' qm=>?_))
      refine⟨.inr (fun q hq=>?_),?_⟩
      · rcases bU.1 hq with rfl | hq
        · exact .tail _ (.head _)
        rcases bU.1 hq with rfl | hq
        · exact .tail _ (.tail _ (.head _))
        cases hq
      obtain⟨asl,csl,rfl⟩:=qm.aU;refine ay 8 ?_;refine ay 9 ?_;refine ae (i:=10) O an O O (eS O O O ?_);refine⟨.inl aB,?_⟩;refine az ?_;refine iQ (vs:=[]) ?_
      first
      | (
         have BU:l=[]:=jy.1 aj;subst BU;have e:jC (c,[]) p n=(n,[p]):=by simp[jC]
         rw[e];exact⟨_,S',qm,.skip O (.skip O .refl)⟩)
      | (
         have BU:l≠[]:=by rintro rfl;simp at Am
         have e:jC (c,l) p n=(n,[p]):=by simp[jC,BO]
         rw[e];exact⟨_,S',qm,.skip O (.skip O .refl)⟩)
      | (
         have BU:l≠[]:=by rintro rfl;simp at Am
         have e:jC (c,l) p n=(c,l++[p]):=by simp[jC,BU,BO,EL]
         rw[e];exact⟨_,S',qm,.skip O (.skip O .refl)⟩)
      | (
         have BU:l≠[]:=by rintro rfl;simp at Am
         have e:jC (c,l) p n=(c,l):=by simp[jC,BU,BO,EL]
         rw[e];exact⟨_,S,hO,.skip O .refl⟩)
      | exact absurd rfl EL
    refine W.skip ?_;refine iQ (vs:=[]) ?_
    first
    | (
       have BU:l=[]:=jy.1 aj;subst BU;have e:jC (c,[]) p n=(n,[p]):=by simp[jC]
       rw[e];exact⟨_,S',qm,.skip O (.skip O .refl)⟩)
    | (
       have BU:l≠[]:=by rintro rfl;simp at Am
       have e:jC (c,l) p n=(n,[p]):=by simp[jC,BO]
       rw[e];exact⟨_,S',qm,.skip O (.skip O .refl)⟩)
    | (
       have BU:l≠[]:=by rintro rfl;simp at Am
       have e:jC (c,l) p n=(c,l++[p]):=by simp[jC,BU,BO,EL]
       rw[e];exact⟨_,S',qm,.skip O (.skip O .refl)⟩)
    | (
       have BU:l≠[]:=by rintro rfl;simp at Am
       have e:jC (c,l) p n=(c,l):=by simp[jC,BU,BO,EL]
       rw[e];exact⟨_,S,hO,.skip O .refl⟩)
    | exact absurd rfl EL
  refine iC ?_;refine W.aJ O (fun EL=>?_) (fun EL=>?_)
  · refine W.yh (n:=11) O ?_;refine ay 0 ?_;refine ay 1 ?_;refine ay 2 ?_;refine ay 3 ?_;refine ay 4 ?_;refine ay 5 ?_;refine abl (i:=6) (cs:=(flat Be.row p).toArray) (fun aa5=>?_) O (hf:=by exact Dp uN)
    first
    | refine ae (i:=7) rfl an rfl rfl (bV (row:=wS) (l:=[]) (l':=[p]) rfl rfl rfl (Os.nil hO.shut) (.tail (.tail (.tail .all))) (fun h2 _ hl=>Sl.mk (hl aa5 _ (.head _)) rfl (sU uN)) (by simp) dF rfl (fun v' S' qm=>?_))
    | refine ae (i:=7) rfl an rfl rfl (bV (row:=wS) (l':=[p]) rfl rfl rfl hO (.tail (.tail (.tail .all))) (fun h2 _ hl=>Sl.mk (hl aa5 _ (.head _)) rfl (sU uN)) (by simp;omega) dF rfl (fun v' S' qm=>?_))
    refine⟨.inr (fun q hq=>?_),?_⟩
    · rcases bU.1 hq with rfl | hq
      · exact .tail _ (.head _)
      rcases bU.1 hq with rfl | hq
      · exact .tail _ (.tail _ (.head _))
      cases hq
    obtain⟨asl,csl,rfl⟩:=qm.aU;refine ay 8 ?_;refine ay 9 ?_;refine ae (i:=10) O an O O (eS O O O ?_);refine⟨.inl aB,?_⟩;refine az ?_;refine iQ (vs:=[]) ?_
    first
    | (
       have BU:l=[]:=jy.1 aj;subst BU;have e:jC (c,[]) p n=(n,[p]):=by simp[jC]
       rw[e];exact⟨_,S',qm,.skip O (.skip O .refl)⟩)
    | (
       have BU:l≠[]:=by rintro rfl;simp at Am
       have e:jC (c,l) p n=(n,[p]):=by simp[jC,BO]
       rw[e];exact⟨_,S',qm,.skip O (.skip O .refl)⟩)
    | (
       have BU:l≠[]:=by rintro rfl;simp at Am
       have e:jC (c,l) p n=(c,l++[p]):=by simp[jC,BU,BO,EL]
       rw[e];exact⟨_,S',qm,.skip O (.skip O .refl)⟩)
    | (
       have BU:l≠[]:=by rintro rfl;simp at Am
       have e:jC (c,l) p n=(c,l):=by simp[jC,BU,BO,EL]
       rw[e];exact⟨_,S,hO,.skip O .refl⟩)
    | exact absurd rfl EL
  refine W.skip ?_;refine iQ (vs:=[]) ?_
  first
  | (
     have BU:l=[]:=jy.1 aj;subst BU;have e:jC (c,[]) p n=(n,[p]):=by simp[jC]
     rw[e];exact⟨_,S',qm,.skip O (.skip O .refl)⟩)
  | (
     have BU:l≠[]:=by rintro rfl;simp at Am
     have e:jC (c,l) p n=(n,[p]):=by simp[jC,BO]
     rw[e];exact⟨_,S',qm,.skip O (.skip O .refl)⟩)
  | (
     have BU:l≠[]:=by rintro rfl;simp at Am
     have e:jC (c,l) p n=(c,l++[p]):=by simp[jC,BU,BO,EL]
     rw[e];exact⟨_,S',qm,.skip O (.skip O .refl)⟩)
  | (
     have BU:l≠[]:=by rintro rfl;simp at Am
     have e:jC (c,l) p n=(c,l):=by simp[jC,BU,BO,EL]
     rw[e];exact⟨_,S,hO,.skip O .refl⟩)
  | exact absurd rfl EL
def Dv(ss:List St)(s:(Int×List (List Be))×List (List Be))(p:List Be):(Int×List (List Be))×List (List Be):=
 if p∈s.2 then s else(jC s.1 p (mZ ss p),s.2++[p])
def rY(ss:List St)(l:List (List Be)):(Int×List (List Be))×List (List Be):=l.foldl (Dv ss) ((0,[]),[])
def lY(fs:List Fl)(ss:List St):Int×List (List Be):=(rY ss (yL fs ss uK)).1
theorem P8{l:List (List Be)}(h:l[i]? =some p):rY ss (l.take (i+1))=Dv ss (rY ss (l.take i)) p:=by
 simp only[rY,Xh h,List.foldl_append,List.foldl_cons,List.foldl_nil]
theorem ai_{n:Int}:(jC s p n).2.length<=s.2.length+1:=by
 simp only[jC];split <;>split <;>simp
theorem Us{ss:List St}:∀{l:List (List Be)} {i:Nat},i<=l.length->(rY ss (l.take i)).1.2.length<=i/\∀p∈(rY ss (l.take i)).2,p∈l
 | l,0,_=>by simp[rY]
 | l,i+1,h=>by
  obtain⟨p,hp,-⟩:=has (show i<l.length by omega);rw[P8 hp];obtain⟨h1,h2⟩:=Us (ss:=ss) (l:=l) (i:=i) aj;simp only[Dv];split
  ·exact⟨aj,h2⟩
  refine⟨Nat.le_trans ai_ (by simpa using h1),fun q hq=>?_⟩;rcases dh.1 hq with hq | hq
  ·exact h2 q hq
  have:q=p:=by simpa using hq
  subst this;exact dL hp
theorem aja(h:p∈yL fs ss may):p.length=4:=by
 unfold yL at h;split at h
 ·exact Ri (Nat.zero_le _) h
 obtain⟨b,_,hb⟩:=List.mem_flatMap.1 h;exact Ri (l:=[b]) (by simp) hb
theorem ajb(aO:dV fs ss):(yL fs ss may).length<=28561:=by
 unfold yL;split
 ·rename_i h;have h1:=Ii (may:=may) (l:=[]) aO (Nat.zero_le _);rw[h]at h1;exact Nat.le_trans h1 dF
 have h1:=Ij (may:=may) aO aj (bI fs ss may 0);have h2:=Bf (may:=may) aO (show 0<ss.length by omega);have h3:(bI fs ss may 0).length*2197<=13*2197:=Nat.mul_le_mul_right _ h2;omega
theorem mem_keys{met:List (List Be)}(hp:p.length=4)(hm:∀q∈met,q.length=4):Gf p∈met.map Gf↔p∈met:=by
 constructor
 ·intro h;obtain⟨q,hq,e⟩:=List.mem_map.1 h;rw[<-aa4 ((hm q hq).trans hp.symm) e];exact hq
 exact fun h=>List.mem_map.2 ⟨p,h,O⟩
theorem BX{fs:List Fl}{ss:List St}{may:PY}(aO:dV fs ss):∀{m k:Nat} {q p:List Be},k+m<=ss.length->nY fs ss q->p∈iD fs ss may m k q->nY fs ss p
 | 0,k,q,p,_,hq,h=>by
  simp only[iD]at h;split at h
  ·have:p=q:=by simpa using h
   subst this;exact hq
  cases h
 | m+1,k,q,p,hk,hq,h=>by
  simp only[iD,List.mem_flatMap]at h;obtain⟨b,hb,h⟩:=h;split at h
  ·cases h
  exact BX aO aj (pO hq aj (lV aO aj hb)) h
theorem aa6(aO:dV fs ss)(h:p∈yL fs ss may):nY fs ss p:=by
 unfold yL at h;split at h
 ·exact BX aO (by simp) (uM aO.nf.1) h
 rename_i hn;obtain⟨b,hb,h⟩:=List.mem_flatMap.1 h;refine BX aO (by simp;omega) ?_ h;rw[NC];exact pO (uM aO.nf.1) aj (lV aO aj hb)

theorem amd(main:aN)(hS:∀S,main.ok S->∃Fin,S=Mn aV Fin)(qJ:main.b=true)(h:Hp)(fs:List Fl)(ss:List St)(vf vs:Value)(Eg:TypeId)(zg:Nat×Nat)(hf:Sl h Fl.row vf fs)(hs:Sl h St.row vs ss)(zf:Zs h vf)(zs:Zs h vs)(aO:dV fs ss)
  (hg:h 0=some (.cells #[QI kC] Eg zg)) (z0:h.z 0):bG aV main MX #[.agg #[vf,vs]] h [] (fun v A=>∃u S,v= .agg #[I (lY fs ss).1,u]/\Os dD wS u (lY fs ss).2 S/\Sb S A):=by
 obtain⟨a,cap,rfl⟩:=hf.aU;obtain⟨a',f_,rfl⟩:=hs.aU;have hns:=aO.ns;obtain⟨ps,hps⟩:∃ps,yL fs ss uK=ps:=⟨_,rfl⟩
 have OI:ps.length<=28561:=by rw[<-hps];exact ajb aO
 have uN:∀p∈ps,p.length=4:=fun p hp=>aja (hps▸hp);have hpo:∀p∈ps,nY fs ss p:=fun p hp=>aa6 aO (hps▸hp);refine bG.bH func47 [(0,.agg #[.slice a fs.length cap,.slice a' ss.length f_])] ?_;refine d_ ?_;refine aA.box (fun vg=>?_);refine aA.new (fun oJ=>?_);refine gI ?_;refine aA.new (fun nP=>?_);refine kR ?_;refine oe O wn O O (O7 O fun Oi _ _=>?_);refine jk ?_;refine c0 (fun h' hE hL=>apY _ hS qJ h' fs ss uK (.slice a fs.length cap) (.slice a' ss.length f_) (.func (.func EC) #[] #[]) Eg zg (hf.ext hE) (hs.ext hE) (zf.ext hE) (zs.ext hE) O aO aiZ (hE.1 _ _ hg) (hE.2 _ z0)) (fun v A' hv=>?_);rw[hps]at hv;obtain⟨S,xM,bF⟩:=hv;obtain⟨sa,sc,rfl⟩:=xM.aU;refine lF ?_;refine W.sb (F':=S++((Oi,.map #[] 0)::(nP,.cells #[I 0,.slice none 0 0] KP (0,0))::(oJ,.cells #[I 0,.slice none 0 0] KP (0,0))::[(vg,.cells #[.slice a fs.length cap,.slice a' ss.length f_] x9 (0,0))])) (bF.app .refl) ?_;refine eY xM (fun hx hEx P7 _=>?_)
 refine W.uq (fun(i:Nat) (u:Value) (T:ah×Array MapEntry×Nat)=>i<=ps.length/\Os dD wS u (rY ss (ps.take i)).1.2 T.1/\JB T.2.1 ((rY ss (ps.take i)).2.map Gf)) (fun i _ _=>[(14,I i),(13,I ps.length),(12,.slice sa ps.length sc),(5,.map (some Oi)),(4,.func (.func CX) #[.pointer (some ⟨nP,0,none⟩)] #[]),(3,.pointer (some ⟨nP,0,none⟩)),(2,.pointer (some ⟨oJ,0,none⟩)),(1,.pointer (some ⟨vg,0,none⟩))])
  (fun i u T=>(Oi,.map T.2.1 T.2.2)::(oJ,.cells #[I 0,.slice none 0 0] KP (0,0))::(vg,.cells #[.slice a fs.length cap,.slice a' ss.length f_] x9 (0,0))::(nP,.cells #[I (rY ss (ps.take i)).1.1,u] KP (0,0))::T.1) (fun i _ _=>ps.length-i) 0 (.slice none 0 0) ([], #[],0) ⟨Nat.zero_le _,.nil .nil,O⟩ iw (Sb.aT ?_) ?_
 ·refine(List.Perm.cons _ ?_);exact dK (l₁:=[_,_]) (l₂:=[_])
 rintro i u ⟨Sm,es,cl⟩ ⟨hi,hO,hM⟩;simp only at hO hM;obtain⟨ua,uc,rfl⟩:=hO.aU;refine kJ ?_;refine W.aJ O (fun Xn=>?_) (fun Xn=>?_)
 ·obtain⟨p,hp,-⟩:=has (show i<ps.length by omega);have hpm:=dL hp;have Ze:=uN p hpm;have uU:=(hpo p hpm).ok;have Gt:=P8 (ss:=ss) hp;obtain⟨FQ,hbm⟩:=Us (ss:=ss) hi;obtain⟨⟨cc,ll⟩,met,fP⟩:∃c m,rY ss (ps.take i)=(c,m):=⟨_,_,rfl⟩
  rw[fP]at hO hM FQ hbm Gt⊢;have hm4:∀q∈met,q.length=4:=fun q hq=>uN q (hbm q hq);obtain⟨b,off,c,E,fz,rfl,hb,Vh,YZ,Gq⟩:=P7.at hp;have hx2:c.extract (off+i*8) (off+i*8+8)=(flat Be.row p).toArray:=by rw[Vh,Zb Ze]
  clear Vh Gq;have oH:=uI uU;have hon:lC (flat Be.row p).toArray.toList=true:=vN;refine kR ?_;refine aA.new (fun yc=>?_);refine jk ?_;refine oe rfl wn rfl rfl (aa3 (a:=Gf p) rfl rfl rfl (Zd p) (Du Ze) (.tail .head) hM (fun q hq=>by obtain⟨q',h1,rfl⟩:=List.mem_map.1 hq;exact Du (hm4 _ h1)) ?_);refine d_ ?_;refine W.cond O (fun Oh=>?_) (fun Oh=>?_)
  ·refine W.kQ [(yc,.cells (flat Be.row p).toArray dD (0,0)),(vg,.cells #[.slice a fs.length cap,.slice a' ss.length f_] x9 (0,0))] (n:=6) O ?_;refine ay 0 ?_;refine ay 1 ?_;refine ay 2 ?_;refine ay 3 ?_;refine acp (i:=4) (fun h' hE hL=>agp _ h' fs ss p _ _ ((hf.ext hEx).ext hE) ((hs.ext hEx).ext hE) uU hns) ?_ (hS:=.inr (fun q hq=>?_))
   rotate_left
   ·rcases bU.1 hq with rfl | hq
    ·exact .head _
    rcases bU.1 hq with rfl | hq
    ·exact .tail _ (.tail _ (.tail _ (.head _)))
    cases hq
   refine ae (i:=5) O an O O (AL (args:=[_,_]) O O O (.tail (.tail (.tail (.tail .all)))) (fun h' hE hL=>gG.o9 (fi:=[_]) (args:=[_,_]) (ca:=[]) (ap7 _ h' nP cc (mZ ss p) (.slice ua ll.length uc) ll p Sm hO (by have:ll.length<=i:=FQ;omega) Ze)) (fun v A2 hv=>?_));refine⟨.inl aB,?_⟩;obtain⟨v',S2,Ci,pJ⟩:=hv;obtain⟨va,vc,rfl⟩:=Ci.aU;refine Any.sb (.cons (.cons (.cons (.cons pJ)))) ?_;refine az ?_;refine lF ?_;refine oe rfl wn rfl rfl (Il (a:=Gf p) rfl rfl rfl (Zd p) rfl (Du Ze) (.tail .head) hM (fun q hq=>by obtain⟨q',h1,rfl⟩:=List.mem_map.1 hq;exact Du (hm4 _ h1)) (fun LM cl' SV=>?_));refine aA.nil<|iE<|fH<|W.region rfl ?_;refine gI ?_
   have hn:p∉met:=by
    intro Gn;have:=(mem_keys Ze hm4).2 Gn;simp[this]at Oh
   have hk:¬Gf p∈met.map Gf:=fun Gn=>hn ((mem_keys Ze hm4).1 Gn);have PW:rY ss (ps.take (i+1))=(jC (cc,ll) p (mZ ss p),met++[p]):=by rw[Gt];simp only[Dv];rw[if_neg hn]
   have hM2:JB LM ((met++[p]).map Gf):=by
    rw[List.map_append];simpa[hk]using SV
   refine⟨O,i+1,_,(S2,LM,cl'),⟨aj,by simp only[PW];exact Ci,by simp only[PW];exact hM2⟩,aj,iw,?_⟩;simp only[PW];exact .skip O .refl
  refine kJ ?_;refine oe rfl wn rfl rfl (Il (a:=Gf p) rfl rfl rfl (Zd p) rfl (Du Ze) (.tail .head) hM (fun q hq=>by obtain⟨q',h1,rfl⟩:=List.mem_map.1 hq;exact Du (hm4 _ h1)) (fun LM cl' SV=>?_));refine aA.nil<|iE<|fH<|W.region rfl ?_;refine gI ?_;have hk:Gf p∈met.map Gf:=by simpa using Oh
  have hn:p∈met:=(mem_keys Ze hm4).1 hk;have PW:rY ss (ps.take (i+1))=((cc,ll),met):=by rw[Gt];simp only[Dv];rw[if_pos hn]
  have hM2:JB LM (met.map Gf):=by simpa[hk]using SV
  refine⟨O,i+1,_,(Sm,LM,cl'),⟨aj,by simp only[PW];exact hO,by simp only[PW];exact hM2⟩,aj,iw,?_⟩;simp only[PW];exact .skip O .refl
 have hie:i=ps.length:=by omega
 subst hie;rw[List.take_length]at hO⊢;refine iC ?_;refine AY (hv:=qU nM) ⟨.slice ua (rY ss ps).1.2.length uc,Sm,?_,?_,?_⟩
 ·rw[lY,hps];rfl
 ·rw[lY,hps];exact hO
 exact .skip O (.skip O (.skip O (.skip O .refl)))
theorem aeZ(k:Nat):dB (oC []) k=fZ:=by
 simp only[dB,oC,List.getD];rcases bQ k 4 with h | h
 ·rcases(by omega:k=0\/k=1\/k=2\/k=3)with rfl | rfl | rfl | rfl <;>rfl
 simp[h]
theorem ap8(k:Nat):(oC []).set k fZ=oC []:=by
 rcases bQ k 4 with h | h
 ·rcases(by omega:k=0\/k=1\/k=2\/k=3)with rfl | rfl | rfl | rfl <;>rfl
 exact List.set_eq_of_length_le (by simpa[oC]using h)
theorem ae0{f:Int}(hf:0<=f):∀k,yJ (oC []) f k=[]
 | 0=>rfl
 | k+1=>by
  simp only[yJ,aeZ];rw[if_neg (by simp[fZ];omega)];exact ae0 hf k
theorem ame{f:Int}(hf:0<=f):qZ (oC []) f=[]:=by
 rw[qZ,ae0 hf];rfl
theorem ae1{pl:Int}(hp:0<=pl):∀(m k:Nat),qy pl (List.replicate m ⟨0,0⟩) k=none
 | 0,_=>rfl
 | m+1,k=>by
  rw[List.replicate_succ,qy,if_neg (by simp;omega)];exact ae1 hp m (k+1)
theorem ajc{f:Int}(hf:0<=f)(hp:0<=(jr fs f).pl):Fq fs ss (oC []) f=none:=by
 simp only[Fq,mY,ame hf,List.foldl_nil,Ns];exact ae1 hp 22 0
theorem aa7{fs:List Fl}{ss:List St}(aO:dV fs ss):∀k,k<=fs.length->xA fs ss (oC []) k=none
 | 0,_=>rfl
 | k+1,h=>by
  obtain⟨x,hx,-⟩:=has (show k<fs.length by omega);have Sz:jr fs (k:Int)=x:=by simp[jr,List.getD,hx]
  have OI:=(aO.fl x (dL hx)).1;rw[xA,aa7 aO k aj,ajc aj (by rw[Sz];omega)]
  rfl
theorem O8{fs:List Fl}{ss:List St}(aO:dV fs ss):∀m k,oC []∈iD fs ss uK m k (oC [])
 | 0,k=>by
  rw[iD,xB,aa7 aO _ (Nat.le_refl _)];simp
 | m+1,k=>by
  rw[iD,List.mem_flatMap];refine⟨fZ,?_,?_⟩
  ·simp[bI,uK]
  rw[ap8,if_neg (by simp[prune,fZ])];exact O8 aO m (k+1)
theorem ae2(aO:dV fs ss):oC []∈yL fs ss uK:=by
 unfold yL;split
 ·exact O8 aO _ _
 exact List.mem_flatMap.2 ⟨fZ,by simp[bI,uK],O8 aO _ _⟩
theorem ae3{n:Int}:(jC s p n).2≠[]:=by
 obtain⟨c,l⟩:=s;simp only[jC];by_cases h:l=[]\/c<n
 ·simp[h]
 simp only[h,if_false];rw[not_or]at h;split
 ·simp
 exact h.1
theorem Fv{ss:List St}:∀(l:List (List Be)) (s:(Int×List (List Be))×List (List Be)),s.1.2≠[]->(l.foldl (Dv ss) s).1.2≠[]
 | [],s,h=>h
 | p::l,s,h=>by
  rw[List.foldl_cons];refine Fv l _ ?_;simp only[Dv];split
  ·exact h
  exact ae3
theorem Ut(aO:dV fs ss):(lY fs ss).2≠[]:=by
 have h:=ae2 aO;rw[lY,rY]
 cases hl:yL fs ss uK with
 | nil=>rw[hl]at h;cases h
 | cons p l=>
  rw[List.foldl_cons];refine Fv l _ ?_;simp only[Dv,List.not_mem_nil,if_false];exact ae3
theorem ajd{q:List Be}{n:Int}(h:q∈(jC s p n).2):q=p\/q∈s.2:=by
 obtain⟨c,l⟩:=s;simp only[jC]at h;split at h <;>split at h <;>simp at h <;>first | exact .inl h | exact .inr h | exact h.symm
theorem Uu{ss:List St}:∀(l:List (List Be)) (s:(Int×List (List Be))×List (List Be)) {q:List Be},q∈(l.foldl (Dv ss) s).1.2->q∈s.1.2\/q∈l
 | [],s,q,h=>.inl h
 | p::l,s,q,h=>by
  rw[List.foldl_cons]at h;rcases Uu l _ h with h | h
  ·simp only[Dv]at h;split at h
   ·exact .inl h
   rcases ajd h with rfl | h
   ·exact .inr (bT ..)
   exact .inl h
  exact .inr (dH _ h)
theorem Xo{q:List Be}(h:q∈(lY fs ss).2):q∈yL fs ss uK:=by
 rcases Uu _ _ h with h | h
 ·cases h
 exact h
theorem agq(main:aN)(h:Hp)(l:List Be)(vl:Value)(hs:Sl h Be.row vl l)(hn:l.length<=1000):bG aV main Hr #[vl] h [] (fun v A=>∃S,Os ku Be.row v l S/\Sb S A):=by
 obtain⟨a,cap,rfl⟩:=hs.aU;refine bG.bH func76 [(0,.slice a l.length cap)] ?_;refine kR ?_;refine b_ (Rh O O) O ?_;refine qj ?_;refine W.cond O (fun c4=>?_) (fun c4=>?_)
 ·refine lg ?_
  have:l=[]:=by
   cases a with
   | some a=>cases c4
   | none=>
    rcases hss:l with _ | ⟨x,r⟩
    ·rfl
    obtain⟨b,off,c,E,fz,e,_⟩:=hs.at (i:=0) (p:=x) (by rw[hss];rfl)
    cases e
  subst this;exact iQ (vs:=[.slice none 0 0]) ⟨[],.nil .nil,.refl⟩
 refine lF ?_;refine aA.alJ (fun iI=>?_) O;refine zT ?_;have hO:Os ku Be.row (.slice (some ⟨iI,0,none⟩) 0 0) ([]:List Be) [(iI,.cells #[] ku (0,0))]:=.inr ⟨iI, #[],0,[],O,O,O,Nat.le_refl _,Part.all [],.nil⟩;refine oe O wn O O (bV (row:=Be.row) (l:=[]) (l':=l) O O O hO .all (fun h2 hE hl=>hs.ext hE) (by simp;omega) dF O (fun v' S' xM=>?_));rw[List.nil_append]at xM;refine gI ?_;exact iQ (vs:=[v']) ⟨S',xM,.refl⟩

theorem amf(main:aN)(h:Hp)(ss:List St)(p:List Be)(vf vs:Value)(WZ:one vf=true)(hs:Sl h St.row vs ss)(uN:p.length=4)(hn:ss.length<=4):bG aV main MZ #[.agg #[vf,vs],jI p] h [] (fun v A=>∃S,Os ku Be.row v (p.take ss.length) S/\Sb S A):=by
 obtain⟨a',f_,rfl⟩:=hs.aU;have oH:(flat Be.row p).toArray.size=8:=by simp[gU,uN]
 have hon:lC (flat Be.row p).toArray.toList=true:=vN;refine bG.bH func48 [(0,.agg #[vf,.slice a' ss.length f_]),(1,jI p)] ?_;refine d_ ?_;refine aA.box (fun oJ=>?_);refine aA.box (fun nP=>?_);refine kR ?_;refine b_ (Et O O O) O ?_;refine c0 (fun h' hE hL=>agq _ h' (p.take ss.length) (.slice (some ⟨nP,0,none⟩) ss.length 4) (Sl.mk (hL nP _ (.head _)) (by rw[List.length_take];omega) ?_) (by rw[List.length_take];omega)) (fun v A' hv=>?_)
 ·refine⟨[],flat Be.row (p.drop ss.length),?_,O⟩;rw[List.nil_append,<-wR,List.take_append_drop]
  rfl
 obtain⟨S,hS,bF⟩:=hv;refine gI ?_;exact iQ (vs:=[v]) ⟨S,hS,bF.right (.cons O (.cons O .nil))⟩

def jF(fs:List Fl)(ss:List St):List Be×Int×Int:=if dU fs ss≠0 then([],0,dU fs ss)else(((lY fs ss).2.headD []).take ss.length,(lY fs ss).1,0)
theorem Zf(main:aN)(hS:∀S,main.ok S->∃Fin,S=Mn aV Fin)(qJ:main.b=true)(h:Hp)(fs:List Fl)(ss:List St)(vf vs:Value)(Eg:TypeId)(zg:Nat×Nat)(hf:Sl h Fl.row vf fs)(hs:Sl h St.row vs ss)(zf:Zs h vf)(zs:Zs h vs)
  (hg:h 0=some (.cells #[QI kC] Eg zg)) (z0:h.z 0):bG aV main YL #[.agg #[vf,vs]] h [] (fun v A=>∃u S,v= .tuple #[u,I (jF fs ss).2.1,I (jF fs ss).2.2]/\Os ku Be.row u (jF fs ss).1 S/\Sb S A):=by
 obtain⟨a,cap,rfl⟩:=hf.aU;obtain⟨a',f_,rfl⟩:=hs.aU;refine bG.bH func16 [(0,.agg #[.slice a fs.length cap,.slice a' ss.length f_])] ?_;refine d_ ?_;refine aA.box (fun vg=>?_);refine kR ?_;refine cp (fun h' hE hL=>Ue _ h' _ _ _ _ (hf.ext hE) (hs.ext hE)) ?_;refine jk ?_;refine W.aJ O (fun Xe=>?_) (fun Xe=>?_)
 ·refine FT ?_;refine iQ (vs:=[_,_,_]) ⟨.slice none 0 0,[],?_,?_,.nil (.cons O .nil)⟩
  ·simp only[jF];rw[if_pos Xe];rfl
  simp only[jF];rw[if_pos Xe];exact .nil .nil
 have h0:dU fs ss=0:=by simpa using Xe
 have aO:=wI h0;have hn4:=aO.ns
 obtain⟨p,r,qw⟩:∃p r,(lY fs ss).2=p::r:=by
  cases h:(lY fs ss).2 with
  | nil=>exact absurd h (Ut aO)
  | cons p r=>exact⟨p,r,rfl⟩
 have uN:p.length=4:=aja (Xo (qw▸bT ..));have hbB:jF fs ss=(p.take ss.length,(lY fs ss).1,0):=by simp only[jF];rw[if_neg Xe,qw];rfl
 refine kJ ?_;refine b_ (dw (cs:= #[.slice a fs.length cap,.slice a' ss.length f_]) O O O) O ?_;refine c0 (fun h' hE hL=>amd _ hS qJ h' fs ss (.slice a fs.length cap) (.slice a' ss.length f_) Eg zg (hf.ext hE) (hs.ext hE) (zf.ext hE) (zs.ext hE) aO (hE.1 _ _ hg) (hE.2 _ z0)) (fun v A' hv=>?_);obtain⟨u,S,rfl,hO,bF⟩:=hv;obtain⟨ua,uc,rfl⟩:=hO.aU;refine aA.new (fun mX=>?_);refine d_ ?_;refine W.sb (F':=S++((mX,.cells #[I (lY fs ss).1,.slice ua (lY fs ss).2.length uc] KP (0,0))::[(vg,.cells #[.slice a fs.length cap,.slice a' ss.length f_] j_ (0,0))])) ?_ ?_
 ·refine Sb.trans (Sb.aT List.perm_middle) (.cons (bF.app .refl))
 refine eY hO (fun hx hEx P7 _=>?_);rw[qw]at P7⊢;have hlen:0<(p::r).length:=Nat.succ_pos _;obtain⟨b,off,c,E,fz,rfl,hb,Vh,YZ,Gq⟩:=P7.at (i:=0) (p:=p) rfl;have hx2:c.extract (off+0*8) (off+0*8+8)=(flat Be.row p).toArray:=by rw[Vh,Zb uN]
 clear Vh Gq;refine W.seq ?_;refine W.yh (n:=12) O ?_;refine ay 0 ?_;refine ay 1 ?_;refine ay 2 ?_;refine ay 3 ?_;refine ay 4 ?_;refine ay 5 ?_;refine ay 7 ?_;refine ay 8 ?_;refine ae (i:=6) O an O O (oL (args:=[_,_]) O O (fun h' hE hL=>amf _ h' ss p (.slice a fs.length cap) (.slice a' ss.length f_) O ((hs.ext hEx).ext hE) uN hn4) (fun v A2 hv=>?_));refine⟨.inr (fun q hq=>bZ _ hq),?_⟩;obtain⟨S2,Ci,pJ⟩:=hv;refine ay 9 ?_;refine ay 10 ?_;refine ay 11 ?_;refine az ?_;refine d_ ?_;refine iQ (vs:=[_,_,_]) ⟨v,S2,?_,?_,?_⟩
 ·rw[hbB];rfl
 ·rw[hbB];exact Ci
 exact pJ.right (.cons O (.cons O .nil))
def Sp.val(s:Sp):Value:=.agg #[I s.lo,I s.hi]
abbrev jl(lv:Value)(k:Nat)(s:Int):Obj:=.cells #[lv,I k,.int .u64 s] as3 (0,0)

theorem ap9(n:Int):0<=IntKind.u64.wrap n:=by
 show 0<=n % (18446744073709551616:Int);omega
theorem aje(a b:Int):0<=bits .xor IntKind.u64 a b:=by
 unfold bits;exact ap9 _
theorem amg(main:aN)(h:Hp)(cZ:List Int)(lv:Value)(b k:Nat)(s:Int)(hl:Sl h bY lv cZ)(hk:k<4000000000):bG aV main TU #[.pointer (some ⟨b,0,none⟩)] h [(b,jl lv k s)] (fun v A=>∃x s',v= .int .u64 x/\0<=x/\Sb [(b,jl lv (k+1) s')] A):=by
 obtain⟨a,cap,rfl⟩:=hl.aU;refine bG.bH func34 [(0,.pointer (some ⟨b,0,none⟩))] ?_;refine Qv ?_;refine W.jS (n:=10) O ?_;refine ay 0 ?_;refine ay 1 ?_;refine ay 2 ?_;refine ay 3 ?_;refine ay 4 ?_;refine ay 5 ?_;refine ay 6 ?_;refine ay 7 ?_;refine ay 8 ?_;refine ay 9 ?_;refine az ?_;refine fH ?_;refine W.aJ O (fun c20=>?_) (fun c20=>?_)
 ·obtain⟨p,hp,-⟩:=has (show k<cZ.length by omega);obtain⟨b1,off,c,E,fz,rfl,hb,hx,hy,hz⟩:=hl.at hp;have hz0:=hz 0 dF;have hpa:c[off+k*1]? =some (I p):=by simpa[bY]using hz0
  refine W.jS (n:=15) O ?_;refine ay 0 ?_;refine ay 1 ?_;refine ay 2 ?_;refine ay 3 ?_;refine ay 4 ?_;refine ay 5 ?_;refine ay 6 ?_;refine ay 7 ?_;refine ay 8 ?_;refine ay 9 ?_;refine ay 10 ?_;refine fJ 11 (GL O O) O ?_
  first | refine fJ 12 (TL rfl rfl rfl) rfl ?_ | refine fJ 12 (yU rfl rfl rfl) rfl ?_
  refine fJ 13 (WI O O O) O ?_;refine ay 14 ?_;refine az ?_;refine awN ?_
  first | refine b_ (TL rfl rfl rfl) rfl ?_ | refine b_ (yU rfl rfl rfl) rfl ?_
  refine kJ ?_;refine W.jS (n:=14) O ?_;refine ay 0 ?_;refine ay 1 ?_;refine ay 2 ?_;refine ay 3 ?_;refine ay 4 ?_;refine ay 5 ?_;refine ay 6 ?_;refine ay 7 ?_;refine ay 8 ?_;refine fJ 9 (AB O O O aj) O ?_;refine fJ 10 (WI O O O) O ?_;refine ay 11 ?_;refine ay 12 ?_;refine ae (i:=13) O an O O (eS O O O ?_);refine⟨.inl aB,?_⟩;refine az ?_;refine jk ?_
  first | refine b_ (TL rfl rfl rfl) rfl ?_ | refine b_ (yU rfl rfl rfl) rfl ?_
  refine lg ?_;refine b_ (AB O O O aj) O ?_;refine zT ?_;refine b_ (AB O O O aj) O ?_;refine gI ?_;refine iQ ⟨_,_,O,?_,.refl⟩;exact Int.fdiv_nonneg (aje _ _) dF
 refine asY ?_
 first | refine b_ (TL rfl rfl rfl) rfl ?_ | refine b_ (yU rfl rfl rfl) rfl ?_
 refine kJ ?_;refine W.jS (n:=14) O ?_;refine ay 0 ?_;refine ay 1 ?_;refine ay 2 ?_;refine ay 3 ?_;refine ay 4 ?_;refine ay 5 ?_;refine ay 6 ?_;refine ay 7 ?_;refine ay 8 ?_;refine fJ 9 (AB O O O aj) O ?_;refine fJ 10 (WI O O O) O ?_;refine ay 11 ?_;refine ay 12 ?_;refine ae (i:=13) O an O O (eS O O O ?_);refine⟨.inl aB,?_⟩;refine az ?_;refine jk ?_
 first | refine b_ (TL rfl rfl rfl) rfl ?_ | refine b_ (yU rfl rfl rfl) rfl ?_
 refine lg ?_;refine b_ (AB O O O aj) O ?_;refine zT ?_;refine b_ (AB O O O aj) O ?_;refine gI ?_;refine iQ ⟨_,_,O,?_,.refl⟩;exact Int.fdiv_nonneg (aje _ _) dF
theorem ap_{x n:Int}(hx:0<=x)(h1:1<=n)(h2:n<=1000000):∃r,IntKind.i64.wrap (x.tmod (IntKind.u64.wrap (IntKind.u64.wrap n+1)))=r/\0<=r/\r<=n:=by
 have e1:IntKind.u64.wrap n=n:=by show n % (18446744073709551616:Int)=n;omega
 have e2:IntKind.u64.wrap (n+1)=n+1:=by show(n+1) % (18446744073709551616:Int)=n+1;omega
 have e3:x.tmod (n+1)=x % (n+1):=Int.tmod_eq_emod_of_nonneg hx;have h3:=Int.emod_nonneg x (show n+1≠0 by omega);have h4:=Int.emod_lt_of_pos x (show 0<n+1 by omega);rw[e1,e2,e3];rw[AA aj aj];exact⟨_,O,h3,aj⟩

theorem atz{n:Int}(h1:1<=n)(h2:n<=1000000):IntKind.u64.wrap (IntKind.u64.wrap n+1)≠0:=by
 have e1:IntKind.u64.wrap n=n:=by show n % (18446744073709551616:Int)=n;omega
 have e2:IntKind.u64.wrap (n+1)=n+1:=by show(n+1) % (18446744073709551616:Int)=n+1;omega
 rw[e1,e2];omega
theorem zK(main:aN)(h:Hp)(cZ:List Int)(lv:Value)(b k:Nat)(s n:Int)(hl:Sl h bY lv cZ)(hk:k<4000000000)(hn: -1000000<=n/\n<=1000000):bG aV main YJ #[.pointer (some ⟨b,0,none⟩),I n] h [(b,jl lv k s)] (fun v A=>∃r s',v=I r/\(0<=r/\(r<=n\/r=0))/\Sb [(b,jl lv (k+1) s')] A):=by
 refine bG.bH func9 [(0,.pointer (some ⟨b,0,none⟩)),(1,I n)] ?_;refine jk ?_;refine cg (A:=[(b,_)]) .head (fun h' hE hL=>amg _ h' cZ lv b k s (hl.ext hE) hk) (fun v A' hv=>?_);obtain⟨x,s',rfl,hx,bF⟩:=hv;refine aA.sb (bF.app .refl) ?_;refine kR ?_;refine W.aJ O (fun c9=>?_) (fun c9=>?_)
 ·refine lg ?_;exact iQ (vs:=[_]) ⟨0,s',O,⟨Int.le_refl _,.inr O⟩,.refl⟩
 refine kR ?_;refine b_ (anx O O O (atz aj hn.2)) O ?_;refine lF ?_;obtain⟨r,hr,h0,h1⟩:=ap_ (n:=n) hx aj hn.2;exact iQ (vs:=[_]) ⟨r,s',congrArg (Value.int .i64) hr,⟨h0,.inl h1⟩,.refl⟩

theorem oM(main:aN)(h:Hp)(cZ:List Int)(lv:Value)(b k:Nat)(s lo hi:Int)(hl:Sl h bY lv cZ)(hk:k<4000000000)(hn: -100000<=lo/\lo<=100000/\-100000<=hi/\hi<=100000):bG aV main TT #[.pointer (some ⟨b,0,none⟩),I lo,I hi] h [(b,jl lv k s)] (fun v A=>∃r s',v=I r/\(lo<=r/\(r<=hi\/r=lo))/\Sb [(b,jl lv (k+1) s')] A):=by
 refine bG.bH func26 [(0,.pointer (some ⟨b,0,none⟩)),(1,I lo),(2,I hi)] ?_;refine iC ?_;refine cg (A:=[(b,_)]) .head (fun h' hE hL=>zK _ h' cZ lv b k s (hi-lo) (hl.ext hE) hk aj) (fun v A' hv=>?_);obtain⟨r,s',rfl,hr,bF⟩:=hv;refine aA.sb (bF.app .refl) ?_;refine lF ?_;exact iQ (vs:=[_]) ⟨lo+r,s',O,⟨aj,aj⟩,.refl⟩

theorem I8(main:aN)(h:Hp)(cZ:List Int)(lv:Value)(b k:Nat)(s n:Int)(hl:Sl h bY lv cZ)(hk:k<4000000000)(hn: -100000<=n/\n<=100000):bG aV main OO #[.pointer (some ⟨b,0,none⟩),I n] h [(b,jl lv k s)] (fun v A=>∃r s',v= .bool r/\Sb [(b,jl lv (k+1) s')] A):=by
 refine bG.bH func81 [(0,.pointer (some ⟨b,0,none⟩)),(1,I n)] ?_;refine FT ?_;refine cg (A:=[(b,_)]) .head (fun h' hE hL=>zK _ h' cZ lv b k s (n-1) (hl.ext hE) hk aj) (fun v A' hv=>?_);obtain⟨r,s',rfl,hr,bF⟩:=hv;refine aA.sb (bF.app .refl) ?_;refine lF ?_;exact iQ (vs:=[_]) ⟨_,s',O,.refl⟩

theorem EN(main:aN)(h:Hp)(cZ:List Int)(lv:Value)(b k:Nat)(s:Int)(l:List Int)(vl:Value)(hl:Sl h bY lv cZ)(hs:Sl h bY vl l)(hk:k<4000000000)(h1:1<=l.length)(h2:l.length<=1000):bG aV main VL #[.pointer (some ⟨b,0,none⟩),vl] h [(b,jl lv k s)] (fun v A=>∃r s',v=I r/\r∈l/\Sb [(b,jl lv (k+1) s')] A):=by
 obtain⟨a,cap,rfl⟩:=hs.aU;refine bG.bH func57 [(0,.pointer (some ⟨b,0,none⟩)),(1,.slice a l.length cap)] ?_;refine iC ?_;refine cg (A:=[(b,_)]) .head (fun h' hE hL=>zK _ h' cZ lv b k s ((l.length:Int)-1) (hl.ext hE) hk aj) (fun v A' hv=>?_);obtain⟨r,s',rfl,hr,bF⟩:=hv;refine aA.sb (bF.app .refl) ?_;obtain⟨rn,rfl⟩:∃rn:Nat,r=rn:=⟨r.toNat,aj⟩
 obtain⟨p,hp,-⟩:=has (show rn<l.length by omega);obtain⟨b1,off,c,E,fz,rfl,hb,hx,hy,hz⟩:=hs.at hp;have hz0:=hz 0 dF;have hpa:c[off+rn*1]? =some (I p):=by simpa[bY]using hz0
 refine kJ ?_;exact iQ (vs:=[_]) ⟨p,s',O,dL hp,.refl⟩

theorem ags(main:aN)(h:Hp)(cZ:List Int)(lv:Value)(hl:Sl h bY lv cZ):bG aV main YI #[lv] h [] (fun v A=>∃b s,v= .pointer (some ⟨b,0,none⟩)/\A=[(b,jl lv 0 s)]):=by
 obtain⟨a,cap,rfl⟩:=hl.aU;refine bG.bH func6 [(0,.slice a cZ.length cap)] ?_;refine kR ?_;refine aA.box (fun iI=>?_);refine gI ?_;exact iQ (vs:=[_]) ⟨_,_,O,O⟩
end Go.jc
