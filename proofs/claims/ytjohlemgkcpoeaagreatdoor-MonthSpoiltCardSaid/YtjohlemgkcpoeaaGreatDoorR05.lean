/- The machine: a sender, a worker is started. Conditions: none; over any program. (And 4 texts more.) -/
import Derived.Test.YtjohlemgkcpoeaaGreatDoorR04
set_option linter.unusedVariables false
set_option linter.unusedSimpArgs false
set_option linter.unusedSectionVars false
set_option maxRecDepth 100000
set_option maxHeartbeats 4000000

namespace Go.jc
open Go.Conc (crowd parked rcase scase QuitsIn QuitsD Before Knows knows_own touchAt touchAt_of touchAt_old getElem?_append_old getElem?_append_cases lt_size_of_getElem? touch_of hb_po hb_app ofEvents_eq woken Deaf deaf_old g?_old act?_old heard_old lt_of_act? Deaf_own Deaf_other counts_old deaf_inside)
open Go.ConcN (RelBy)
def Told(k k':Hp):Prop:=∀b o,k' b=some o->k b=some o\/∃o0,k b=some o0/\o0.isChan=true/\o.isChan=true/\ji o=ji o0/\∀c po,o=bn c po->∃po',o0=bn c po'/\c.size<=po'
section
variable{P:Program}{gs gs':Array Goroutine}{w w':World}{t u:Trace}{k k' k₀ fU kc:Hp}{M M' aH jo Mc:Nat->Prop}{og En:Option OG}{ks:List (KS P)}{d d' dG i c n gn:Nat}{g g' child:Goroutine}{x x':KS P}{es:Array Event}{fn fn':FuncId}{pos pos':String}{dv:Nat->Nat}{pr:Prs}{sh nU:Nat->Prop}
theorem Kno.told(K:Kno w t gn k M)(T:Told k k')(D:LH k' M')(hM:∀b,M' b->M b):Kno w t gn k' M':=by
 have nc:∀b,(k' b).isSome=true->lI (k' b)=false->k b=k' b:=fun b hs hc=>by
  obtain⟨o,ho⟩:=iJ.1 hs;rcases T b o ho with h | ⟨o0,h1,h2,h3,h4,_⟩
  ·rw[h,ho]
  rw[ho,qP,h3]at hc;cases hc
 refine⟨fun b o ho=>?_,D,fun b hb hc=>K.own b (hM b hb) (by rw[nc b (D b hb) hc];exact hc),fun b hb hc=>K.rd b (by rw[nc b hb hc];exact hb) (by rw[nc b hb hc];exact hc),fun b c po off hb h1 h2=>?_⟩
 ·rcases T b o ho with h | ⟨o0,h1,h2,h3,h4,h7⟩
  ·exact K.rO b o h
  obtain⟨y,h5,h6,h8⟩:=K.rO b o0 h1;refine⟨y,h5,.inr ⟨h3,?_⟩,fun c po e=>?_⟩
  ·rcases h6 with rfl | ⟨_,h6 | h6⟩
   ·exact .inl h2
   ·exact .inl h6
   exact .inr (by rw[h4];exact h6)
  obtain⟨po',h9,h10⟩:=h7 c po e;obtain⟨c',e',fz,h11,h12⟩:=h8 c po' h9;exact⟨c',e',fz,h11,fun i hi _=>h12 i hi aj⟩
 rcases T b _ hb with h | ⟨o0,h3,_,_,_,h4⟩
 ·exact K.vw b c po off h h1 h2
 obtain⟨po',rfl,h5⟩:=h4 c po rfl;exact K.vw b c po' off h3 h1 aj
theorem Told.apart(T:Told k k')(h:Apart M k):Apart M k':=fun b hb hs=>by
 obtain⟨o,ho⟩:=iJ.1 hs;rw[ho];rcases T b o ho with h1 | ⟨_,_,_,h3,_⟩
 ·have:=h b hb (by rw[h1];rfl);rw[h1]at this;exact this
 exact h3
theorem Told.AV(Y:LY w t n dv pr sh nU)(hp:pr gn=some (k,M))(T:Told k k'):(∀b o,k' b=some o->(sh b->ji o=true)/\(ji o=true->sh b))/\∀b,nU b->k' b=none:=by
 refine⟨fun b o ho=>?_,fun b hb=>?_⟩
 ·rcases T b o ho with h | ⟨o0,h1,_,_,h4,_⟩
  ·exact⟨fun hs=>Y.AV b gn k M o hs hp h,Y.fk b gn k M o hp h⟩
  rw[h4];exact⟨fun hs=>Y.AV b gn k M o0 hs hp h1,Y.fk b gn k M o0 hp h1⟩
 cases e:k' b with
 | none=>rfl
 | some o=>
  have:=Y.tC b gn k M hb hp;rcases T b o e with h | ⟨o0,h,_⟩ <;>rw[h]at this <;>cases this
theorem LY.told(Y:LY w t n dv pr sh nU)(hp:pr gn=some (k,M))(T:Told k k')(D:LH k' M')(hM:∀b,M' b->M b):LY w t n dv (vJ pr gn (some (k',M'))) sh nU:=
 Y.set ((Y.xQ gn k M hp).told T D hM) (fun x k1 M1 hx h1=>⟨fun b hb hs=>Y.apart gn x k M k1 M1 (Ne.symm hx) hp h1 b (hM b hb) hs,T.apart (Y.apart x gn k1 M1 k M hx h1 hp)⟩) (T.AV Y hp).1 (T.AV Y hp).2
theorem LY.fork(Y:LY w t n dv pr sh nU)(hn:0<n)(hd0:dv 0=0)(Yu:dv n=0)(hp:pr 0=some (k₀,aH))(apb:Told k₀ fU)(Tc:Told k₀ kc)(apc:LH fU jo)(Dc:LH kc Mc)(hM:∀b,jo b->aH b)(hMc:∀b,Mc b->aH b)(a1:Apart jo kc)(a2:Apart Mc fU):
  LY w (t++ #[OB n fn pos,go2 n fn' pos']) (n+1) dv (vJ (vJ pr 0 (some (fU,jo))) n (some (kc,Mc))) sh nU:=by
 obtain⟨Y1,aaq⟩:=Y.start (fn:=fn) (fn':=fn') (pos:=pos) (pos':=pos') hn hd0 Yu;have Kc:=(Y.xQ 0 k₀ aH hp).told Tc Dc hMc;have old:∀{j a},touchAt (t++ #[OB n fn pos,go2 n fn' pos']) j=some a->touchAt t j=some a:=fun ha=>OC ha O O;refine(Y1.told hp apb apc hM).set ⟨Kc.rO,Dc,fun b hb hc j a ha hl=>aaq j (Kc.own b hb hc j a (old ha) hl),fun b hb hc j a ha hl hw=>aaq j (Kc.rd b hb hc j a (old ha) hl hw),fun b c po off hb h1 h2 j a ha hl hw=>aaq j (Kc.vw b c po off hb h1 h2 j a (old ha) hl hw)⟩ (fun y k1 M1 hy h1=>?_) (Tc.AV Y hp).1 (Tc.AV Y hp).2;by_cases h0:y=0
 ·subst h0;rw[iP]at h1;cases h1;exact⟨a2,a1⟩
 rw[jZ h0]at h1;exact⟨fun b hb hs=>Y.apart 0 y k₀ aH k1 M1 (Ne.symm h0) hp h1 b (hMc b hb) hs,Tc.apart (Y.apart y 0 k1 M1 k₀ aH h0 h1 hp)⟩

theorem aar(h:x.OE=[]):qR (ks++[x])=qR ks:=by
 funext b;unfold qR;rw[List.map_append,List.flatten_append];simp[h]
theorem MS.fork[Base](I:MS P gs w t 0 k₀ aH og ks)(apb:Told k₀ fU)(Tc:Told k₀ kc)(apc:LH fU jo)(Dc:LH kc Mc)(hM:qA k₀ jo aH)(hMc:∀b,Mc b->aH b)(a1:Apart jo kc)(a2:Apart Mc fU)
  (hx:x.act=some (kc,Mc)) (hxd:x.deaf=0) (Sz:x.OE=[]) (hog:∀o,og=some o->∃o',En=some o'/\o'.γ=o.γ) (yu:LJ En=LJ og) (Vx:∀b,fU b=some sZ->k₀ b=some sZ)
  (WS:∀(j:Nat) (y:KS P) c,ks[j]? =some y->y.ch=some c->fU c=k₀ c/\x.ch≠some c) (awn:∀c l,fU c=some (mO l)->x.ch=some c\/k₀ c=some (mO l))
  (hK:Bz P w (t++ #[OB (ks.length+1) fn pos,go2 (ks.length+1) fn' pos']) fU jo En ks.length child x) (hG:∀o',En=some o'->Fj w (t++ #[OB (ks.length+1) fn pos,go2 (ks.length+1) fn' pos']) (ks++[x]) o') (hN:En=none->x.wr=none) (hv:∀gn k b c po,(gn=0/\k=fU)\/(gn≠0/\k=kc)\/(∃M,gn≠0/\xU k₀ aH ks gn=some (k,M))->k b=some (bn c po)->∃o,En=some o/\o.p≠ .out/\b=o.γ.X/\(gn≠0->po=o.γ.q))
  (hs:gs'.size=gs.size+1) (Ce:gs'[gs.size]? =some child) (hgo:∀m,m<gs.size->0<m->gs'[m]? =gs[m]?):
  MS P gs' w (t++ #[OB (ks.length+1) fn pos,go2 (ks.length+1) fn' pos']) 0 fU jo En (ks++[x]):=by
 have oH:=I.size
 have Yu:D5 0 ks (ks.length+1)=0:=by
  unfold D5;rw[if_neg aj,fM aj];rfl
 have nt:∀op∈ #[OB (ks.length+1) fn pos,go2 (ks.length+1) fn' pos'],op.act.touch? =none/\(op.g=0\/op.g=ks.length+1):=fun op h=>by
  have:op=OB (ks.length+1) fn pos\/op=go2 (ks.length+1) fn' pos':=by simpa using h
  rcases this with rfl | rfl
  ·exact⟨O,.inl O⟩
  exact⟨O,.inr O⟩
 refine⟨by rw[hs,oH,jA];rfl,?_,fun b hb hn=>?_,fun j y hj=>?_,fun j m c' y z hj hm hy hz=>?_,fun c' l' Og hl=>?_,hG,fun hn y hy=>?_,?_,I.base,fun gn k M b hp hb=>?_,fun b hb=>?_,fun gn k M b c po hp hb=>?_⟩
 ·rw[aar Sz,yu,ail hxd,jA];refine(I.Y.fork aj zi Yu aW apb Tc apc Dc hM.1 hMc a1 a2).Eh fun g=>?_;rw[aik,hx]
 ·obtain⟨h1,h2⟩:=I.new b (hM.1 b hb) (Vx b hn);exact⟨h1.app fun op aY a ha=>(by rw[(nt op aY).1]at ha;cases ha),h2⟩
 ·rcases G8 hj with hj | ⟨rfl,rfl⟩
  ·have hjl:=gy hj;obtain⟨g,h1,h2⟩:=I.Cc j y hj;refine⟨g,by rw[hgo (j+1) aj aj];exact h1,h2.keep hog (fun _ _ _ h _=>h) (fun c' e=>(WS j y c' hj e).1) (fun c' e ⟨l,hl⟩ hm=>?_) (fun op aY=>by rcases(nt op aY).2 with h | h <;>omega) (fun c' _ op aY a ha=>by rw[(nt op aY).1]at ha;cases ha) (fun _ _ op aY a ha=>by rw[(nt op aY).1]at ha;cases ha) fun b o _=>⟨rfl,fun op aY a ha=>by rw[(nt op aY).1]at ha;cases ha⟩⟩;rcases Classical.em (jo c')with h | h
   ·exact h
   have:=hM.2 c' _ hm h hl;cases this
  exact⟨child,by rw[<-oH];exact Ce,hK⟩
 ·rcases G8 hj with h1 | ⟨e1,e2⟩ <;>rcases G8 hm with h3 | ⟨e3,e4⟩
  ·exact I.one j m c' y z h1 h3 hy hz
  ·exact absurd (e4▸hz) (WS j y c' h1 hy).2
  ·exact absurd (e2▸hy) (WS m z c' h3 hz).2
  exact e1.trans e3.symm
 ·rcases awn c' l' hl with h | h
  ·exact⟨ks.length,x,by rw[List.getElem?_append_right (Nat.le_refl _)];simp,h⟩
  obtain⟨j,y,hj,hy⟩:=I.has c' l' (hM.1 c' Og) h;exact⟨j,y,by rw[List.getElem?_append_left (gy hj)];exact hj,hy⟩
 ·have xJ:og=none:=by
   cases h:og with
   | none=>rfl
   | some o=>obtain⟨o',e,_⟩:=hog o h;rw[hn]at e;cases e
  rcases dh.1 hy with h | h
  ·exact I.Vw xJ y h
  obtain rfl:y=x:=by simpa using h
  exact hN hn
 ·rw[List.map_append,List.flatten_append];simpa[Sz]using I.Kv
 ·rcases fV hp with⟨rfl,rfl,rfl⟩ | ⟨j,y,rfl,hj,hy⟩
  ·exact I.low 0 k₀ aH b aW (hM.1 b hb)
  rcases G8 hj with hj | ⟨rfl,rfl⟩
  ·exact I.low _ k M b (by rw[iY hj];exact hy) hb
  rw[hx]at hy;cases hy;exact I.low 0 k₀ aH b aW (hMc b hb)
 ·rw[aar Sz]at hb;exact I.Kw b hb
 rcases fV hp with⟨rfl,rfl,rfl⟩ | ⟨j,y,rfl,hj,hy⟩
 ·exact hv 0 _ b c po (.inl ⟨O,O⟩) hb
 rcases G8 hj with hj | ⟨rfl,rfl⟩
 ·exact hv _ k b c po (.inr (.inr ⟨M,aj,(iY hj).trans hy⟩)) hb
 rw[hx]at hy;cases hy;exact hv _ _ b c po (.inr (.inl ⟨aj,O⟩)) hb

theorem MS.spawn[Base]{l:List Value}(I:MS P gs w t 0 k₀ aH none ks)(hk:k₀ c=some sZ)(hM:aH c)(Jf:kc c=some (mO l))(qB:∀b o,b≠c->kc b=some o->k₀ b=some o/\o.isChan=false)
  (hsc:child.status= .running) (hc:Ch P c child kc (· =c)) (SV:qA k₀ jo aH) (aae:jo c) (FP:∀b,b≠c->(kc b).isSome=true->¬jo b)
  (hs:gs'.size=gs.size+1) (Ce:gs'[gs.size]? =some child) (hgo:∀m,m<gs.size->0<m->gs'[m]? =gs[m]?):
  MS P gs' w (t++ #[OB (ks.length+1) fn pos,go2 (ks.length+1) fn' pos']) 0 (dM k₀ c (mO l)) jo none (ks++[.run c child kc (· =c)]):=by
 obtain⟨vI,hfr⟩:=I.new c hM hk;have K:=I.Y.xQ 0 k₀ aH aW
 have Vx:∀{i:Nat} {x:KS P},ks[i]? =some x->x.ch≠some c:=fun{i x} hi e=>by
  obtain⟨g,_,h2⟩:=I.Cc i x hi;obtain⟨o,h3,_,h4,_⟩:=h2.chan e;rw[hk]at h3;cases h3;exact h4 rfl
 have Yu:D5 0 ks (ks.length+1)=0:=by
  unfold D5;rw[if_neg aj,fM aj];rfl
 refine I.fork (x:=.run c child kc (· =c)) (Mc:=(· =c)) (kc:=kc) (fU:=dM k₀ c (mO l)) (fun b o ho=>?_) (fun b o ho=>?_) (fun b hb=>?_) (fun b hb=>by rw[hb,Jf];rfl) SV (fun b hb=>hb▸hM) (fun b hb hs=>?_) (fun b hb _=>by rw[hb,bP];rfl) rfl rfl rfl (fun o h=>by cases h) rfl (fun b hn=>?_) (fun j y c' hj hy=>⟨bJ _ _ fun e=>Vx hj (e▸hy),fun e=>by cases e;exact Vx hj hy⟩) (fun c' l' hl=>?_)
  ⟨rfl,hsc,hc,rfl,⟨l,Jf,bP _ _ _⟩,aae,⟨0,0,hfr⟩,fun j a ha hl _=>(I.Y.start aj zi Yu).2 j (vI j a (OC ha rfl rfl) hl),fun b y hy=>?_⟩ (fun o h=>by cases h) (fun _=>rfl) (fun gn k b c' po Og hb=>?_) hs Ce hgo
 ·rcases aZ ho with⟨rfl,rfl⟩ | ⟨_,h2⟩
  ·exact .inr ⟨_,hk,O,O,O,fun c po e=>by simp[mO,bn]at e⟩
  exact .inl h2
 ·by_cases hb:b=c
  ·subst hb;rw[Jf]at ho;cases ho;exact .inr ⟨_,hk,rfl,rfl,rfl,fun c po e=>by simp[mO,bn]at e⟩
  exact .inl (qB b o hb ho).1
 ·rw[(Md hk O O).2];exact K.qC b (SV.1 b hb)
 ·by_cases YB:b=c
  ·rw[YB,Jf];rfl
  exact absurd hb (FP b YB hs)
 ·by_cases YB:b=c
  ·subst YB;rw[bP]at hn;simp[mO,sZ]at hn
  rwa[bJ _ _ YB]at hn
 ·by_cases hcc:c'=c
  ·exact .inl (congrArg some hcc.symm)
  rw[bJ _ _ hcc]at hl;exact .inr hl
 ·by_cases YB:b=c
  ·subst YB;rw[Jf]at hy;cases hy;rfl
  cases hf:ji y with
  | false=>rfl
  | true=>have h1:=eP hf;rw[(qB b y YB hy).2]at h1;cases h1
 exfalso
 have old:∀{gn:Nat} {k:Hp} {M:Nat->Prop},xU k₀ aH ks gn=some (k,M)->k b≠some (bn c' po):=fun h e=>by
  obtain⟨o,h1,_⟩:=I.vX _ _ _ _ _ _ h e;cases h1
 rcases Og with⟨rfl,rfl⟩ | ⟨_,rfl⟩ | ⟨M,_,h⟩
 ·rcases aZ hb with⟨_,h⟩ | ⟨_,h⟩
  ·simp[mO,bn]at h
  exact old aW h
 ·by_cases YB:b=c
  ·subst YB;rw[Jf]at hb;simp[mO,bn]at hb
  have:=(qB b _ YB hb).2;cases this
 exact old h hb

theorem aas{j:Nat}(h:x.Cb=some j):(ks++[x]).filterMap KS.Cb=ks.filterMap KS.Cb++[j]:=by simp[h]
theorem MS.work[Base]{o:OG}{left:Nat}{A:ah}{j:List Nat}{τ:Nat}(I:MS P gs w t 0 k₀ aH (some o) ks)(hp:o.p= .add 1)(hl:o.left=left+1)(hk:k₀ o.γ.Wg=some (tu 1 j (left+1)))(qB:∀b ob,kc b=some ob->(k₀ b=some ob/\ob.isChan=false)\/(b=o.γ.X/\∃c n,k₀ o.γ.X=some (bn c n)/\c.size<=n/\ob=bn c o.γ.q))
  (hA:∀b o,(b,o)∈A->kc b=some o/\k₀ b=some o/\aH b/\o.isChan=false) (T:Vg P o.γ τ 0 child kc fun b=>∃o,(b,o)∈A) (SV:qA k₀ jo aH) (ac3:jo o.γ.Wg) (FP:∀b,b≠o.γ.X->(kc b).isSome=true->¬jo b)
  (hs:gs'.size=gs.size+1) (Ce:gs'[gs.size]? =some child) (hgo:∀m,m<gs.size->0<m->gs'[m]? =gs[m]?):
  MS P gs' w (t++ #[OB (ks.length+1) fn pos,go2 (ks.length+1) fn' pos']) 0 (dM (Me k₀ A) o.γ.Wg (tu 0 (j++[τ]) left)) jo (some {o with left:=left,p:=.add 0}) (ks++[.work o.γ τ T]):=by
 have K:=I.Y.xQ 0 k₀ aH aW;have G:=I.Td o O
 have Yu:D5 0 ks (ks.length+1)=0:=by
  unfold D5;rw[if_neg aj,fM aj];rfl
 have aaq:=(I.Y.start (fn:=fn) (fn':=fn') (pos:=pos) (pos':=pos') aj zi Yu).2
 have nt:∀op∈ #[OB (ks.length+1) fn pos,go2 (ks.length+1) fn' pos'],op.act.touch? =none:=fun op h=>by
  have:op=OB (ks.length+1) fn pos\/op=go2 (ks.length+1) fn' pos':=by simpa using h
  rcases this with rfl | rfl <;>rfl
 have LK:o.p≠ .out:=by rw[hp];simp
 have hAX:∀b ob,(b,ob)∈A->b≠o.γ.X:=fun b ob hb e=>by
  subst e;have:=eP (I.Y.AV _ 0 k₀ aH ob ⟨o,O,.inr ⟨O,LK⟩⟩ aW (hA _ ob hb).2.1);rw[(hA _ ob hb).2.2.2]at this;cases this
 have hAl:∀b,jo b->A.lookup b=none:=fun b hb=>by
  cases e:A.lookup b with
  | none=>rfl
  | some ob=>have hm:=jO e;exact absurd hb (FP b (hAX b ob hm) (by rw[(hA b ob hm).1];rfl))
 have um:∀{i:Nat} {y:KS P} {c:Nat},ks[i]? =some y->y.ch=some c->c≠o.γ.Wg/\A.lookup c=none:=fun{i y c} hi e=>by
  obtain⟨g,_,h2⟩:=I.Cc i y hi;obtain⟨o',h3,h4,h5,_⟩:=h2.chan e;refine⟨fun e'=>?_,?_⟩
  ·subst e';obtain⟨y',h6,h7⟩:=I.heap h2 e;have:=G.at_;unfold Ku at this;rw[this]at h6;cases h6;cases h7
  cases e':A.lookup c with
  | none=>rfl
  | some o''=>have hm:=hA c o'' (jO e');rw[h3]at hm;cases hm.2.1;rw[h4]at hm;cases hm.2.2.2
 refine I.fork (x:=.work o.γ τ T) (kc:=kc) (Mc:=fun b=>∃o,(b,o)∈A) (fU:=dM (Me k₀ A) o.γ.Wg (tu 0 (j++[τ]) left)) (fun b o' ho=>?_) (fun b o' ho=>?_) (fun b hb=>?_) (fun b hb=>hb.elim fun o' hb=>by rw[(hA b o' hb).1];rfl) SV (fun b hb=>hb.elim fun o' hb=>(hA b o' hb).2.2.1) (fun b hb hs=>?_) (fun b hb hs=>?_) rfl rfl rfl (fun o' h=>⟨_,rfl,by cases h;rfl⟩) ?_ (fun b hn=>?_) (fun i y c hi hy=>⟨?_,fun e=>by cases e⟩) (fun c' l' hl=>?_)
  ⟨rfl,⟨_,rfl,rfl⟩,fun i a ha hl OI=>aaq i (G.plk i a (OC ha rfl rfl) hl OI)⟩ (fun o' h=>?_) (fun h=>by cases h) (fun gn k b c po Og hb=>?_) hs Ce hgo
 ·rcases aZ ho with⟨rfl,rfl⟩ | ⟨_,h2⟩
  ·exact .inr ⟨_,hk,O,O,by rw[G7,G7],fun c po e=>by simp[tu,bn]at e⟩
  exact .inl (sJ h2).2
 ·rcases qB b o' ho with⟨h,_⟩ | ⟨rfl,c,n,h1,h2,rfl⟩
  ·exact .inl h
  exact .inr ⟨_,h1,rfl,rfl,rfl,fun c' po e=>by simp only[bn,Obj.chan.injEq]at e;obtain⟨_,rfl,_⟩:=e;exact⟨n,rfl,h2⟩⟩
 ·by_cases Qq:b=o.γ.Wg
  ·subst Qq;rw[bP];rfl
  rw[bJ _ _ Qq,Ee (hAl b hb)];exact K.qC b (SV.1 b hb)
 ·by_cases QZ:b=o.γ.X
  ·obtain⟨y,hy⟩:=iJ.1 hs;rcases qB b y hy with⟨h,h'⟩ | ⟨_,c,n,_,_,rfl⟩
   ·have:=eP (I.Y.AV _ 0 k₀ aH y ⟨o,O,.inr ⟨QZ,LK⟩⟩ aW h);rw[h']at this;cases this
   rw[hy];rfl
  exact absurd hb (FP b QZ hs)
 ·obtain⟨y,hy⟩:=iJ.1 hs;rcases aZ hy with⟨rfl,rfl⟩ | ⟨_,h2⟩
  ·rw[bP];rfl
  obtain⟨_,hb⟩:=hb;have:=AU hb;rw[(sJ h2).1]at this;cases this
 ·funext b;apply propext;exact⟨fun⟨o',h1,h2⟩=>⟨o,rfl,by cases h1;exact h2.imp id fun h=>⟨h.1,LK⟩⟩,fun⟨o',h1,h2⟩=>⟨_,rfl,by cases h1;exact h2.imp id fun h=>⟨h.1,by simp⟩⟩⟩
 ·rcases aZ hn with⟨_,h⟩ | ⟨_,h2⟩
  ·exfalso;simp[tu,sZ]at h
  exact(sJ h2).2
 ·obtain⟨h1,h2⟩:=um hi hy;rw[bJ _ _ h1,Ee h2]
 ·rcases aZ hl with⟨_,h⟩ | ⟨_,h2⟩
  ·exfalso;simp[tu,mO]at h
  exact .inr (sJ h2).2
 ·cases h
  have hw:=G.wok;rw[hp]at hw;have asB:=G.num;rw[hl]at asB;refine⟨?_,?_,fun s e=>by cases e;omega,G.at_,G.plk.app fun op aY a ha=>(by rw[nt op aY]at ha;cases ha),?_,G.low,G.Vu,G.ac6,fun _=>G.xat LK,fun _=>CU (o':={o with left:=left,p:=.add 0}) (G.ac7 LK) rfl (fun i x h1 h2=>⟨x,by rw[List.getElem?_append_left (gy h1)];exact h1,h2⟩) fun op aY a ha=>by rw[nt op aY]at ha;cases ha⟩
  ·have e:∀q,cK (ks++[.work o.γ τ T]) q=cK ks q+(if WR.live=q then 1 else 0):=fun q=>by rw[ao4];simp[KS.wr]
   simp only[jK]at hw⊢;simp only[e];simp;omega
  ·rw[aas (j:=τ) O,jA];simp only[gK,List.length_nil];omega
  trivial
 have old:∀{gn:Nat} {k:Hp} {M:Nat->Prop},xU k₀ aH ks gn=some (k,M)->k b=some (bn c po)->b=o.γ.X/\(gn≠0->po=o.γ.q):=fun h e=>by
  obtain⟨o',h1,_,h2⟩:=I.vX _ _ _ _ _ _ h e;cases h1;exact h2
 have key:b=o.γ.X/\(gn≠0->po=o.γ.q):=by
  rcases Og with⟨rfl,rfl⟩ | ⟨_,rfl⟩ | ⟨M,_,h⟩
  ·rcases aZ hb with⟨_,h⟩ | ⟨_,h⟩
   ·exfalso;simp[tu,bn]at h
   exact old aW (sJ h).2
  ·rcases qB b _ hb with⟨_,h⟩ | ⟨h1,c',n,_,_,h2⟩
   ·cases h
   refine⟨h1,fun _=>?_⟩;simp only[bn,Obj.chan.injEq]at h2;exact h2.2.2.2.1
  exact old h hb
 exact⟨_,O,by simp,key.1,key.2⟩
end
end Go.jc

namespace Go.jc
open Go.Conc (crowd parked rcase scase QuitsIn QuitsD Before Knows knows_own touchAt touchAt_of touchAt_old getElem?_append_old getElem?_append_cases lt_size_of_getElem? touch_of hb_po hb_app ofEvents_eq woken Deaf deaf_old g?_old act?_old heard_old lt_of_act? Deaf_own Deaf_other counts_old deaf_inside)
open Go.ConcN (RelBy)
variable{A:ah}{a:LA}{b:Nat}{o:OG}{p:MP}{r:WR}
section
variable{P:Program}{γ:GP}{gs gs':Array Goroutine}{w w':World}{t u:Trace}{k k' k₀ fU:Hp}{M M' aH:Nat->Prop}{og En:Option OG}{ks:List (KS P)}{d d' dG i j n gn:Nat}{g g':Goroutine}{x x':KS P}{es:Array Event}{fn:FuncId}{pos:String}{dv:Nat->Nat}{pr:Prs}{sh nU:Nat->Prop}
theorem af2(t:Trace)(j:Nat)(fn:FuncId)(pos:String):t++MemOp.ofEvents j fn pos #[]=t:=by rw[ofEvents_eq];simp
theorem Tj{G:Grp}{x x':xP}(h:Ku G w x){n:Nat}(h1:x'.st=n)(h2:x'.ws=x.ws):Ku G (w.setCell (jY G.Wg) (.int .u64 (n:Int))) x':=by
 have:=Ei (off:=0) (v:=.int .u64 (n:Int)) h;unfold Ku;rw[show jY G.Wg=⟨G.Wg,0,none⟩from rfl,this];simp[SG,h1,h2]
theorem ais{G:Grp}{x x':xP}(h:Ku G w x){n:Nat}(h1:x'.st=x.st)(h2:x'.ws=n):Ku G (w.setCell (yY G.Wg) (.int .u32 (n:Int))) x':=by
 have:=Ei (off:=1) (v:=.int .u32 (n:Int)) h;unfold Ku;rw[show yY G.Wg=⟨G.Wg,1,none⟩from rfl,this];simp[SG,h1,h2]
theorem Fj.small[Base](H:Fj w t ks o):o.x.v<=64/\o.x.w<=1/\o.x.ws<=1:=by
 have h1:=H.wok.small H.tok;have h2:=aio (ks:=ks) .live .s1 (by simp);have h3:=H.num;omega
theorem Fj.asC[Base](H:Fj w t ks o)(hi:ks[i]? =some x)(hr:x.wr=some r):DF r o.x:=by
 have hn:=H.small;have hp:=Yz hi hr;refine⟨hn.1,hn.2.1,hn.2.2,?_⟩
 cases r
 ·trivial
 ·exact(H.wok.ah8 hp).1
 ·exact H.wok.look hp
 ·trivial
 ·exact H.wok.aso hp
 trivial

theorem apd(hi:ks[i]? =some x)(h:x'.wr≠none):∀(j:Nat) (y:KS P),ks[j]? =some y->y.wr≠none->∃y':KS P,(ks.set i x')[j]? =some y'/\y'.wr≠none:=fun j y hj hy=>by
 by_cases e:i=j
 ·subst e;exact⟨x',by rw[List.getElem?_set,if_pos O,if_pos (gy hi)],h⟩
 exact⟨y,by rw[List.getElem?_set,if_neg e];exact hj,hy⟩
theorem ape{G:Grp}{x:xP}{y:KS P}{s':LS}(H:jK x p (cK ks))(hi:ks[i]? =some y)(hy:y.wr=some r)(nN:Ku G w x)(iV:oP a (.dn r d))(hn:Jh a (.dn r d) x s'):
  ∃(r':WR) (d':Nat) (x':xP),s'= .dn r' d'/\(∀y':KS P,y'.wr=some r'->jK x' p (cK (ks.set i y')))/\Ku G (tq G a x w) x'/\deafBehind d (jH G a x)=d'/\(r≠ .live->r'≠ .live)/\(a= .wrm->r= .live/\d=0/\r'= .s1)/\(a≠ .wrm->r= .live->r'= .live)/\(a≠ .wrm->vK d (jH G a x))/\(x'.ws=x.ws\/a= .G5):=by
 have same:∀y':KS P,y'.wr=some r->jK x p (cK (ks.set i y')):=fun y' h=>by rw[aeJ hi (h.trans hy.symm)];exact H
 cases a with
 | Kr=>exact⟨r,d+1,x,hn,same,nN,rfl,fun h=>h,fun h=>(by cases h),fun _ h=>h,fun _=>aaj rfl,.inl rfl⟩
 | en=>exact⟨r,d-1,x,hn,same,nN,rfl,fun h=>h,fun h=>(by cases h),fun _ h=>h,fun _=>aaj rfl,.inl rfl⟩
 | Ym=>
  obtain rfl:r= .live:=iV;exact⟨.live,d,x,hn,same,nN,rfl,fun h=>h,fun h=>(by cases h),fun _ h=>h,fun _ j e he=>by simp[jH]at he,.inl rfl⟩
 | wrm=>
  obtain⟨rfl,rfl⟩:=iV;exact⟨.s1,0,x,hn,fun y' h=>H.told (OH hi hy h),nN,O,fun h=>absurd O h,fun _=>⟨O,O,O⟩,fun h=>absurd O h,fun h=>absurd O h,.inl O⟩
 | aac=>
  obtain⟨hd,rfl⟩:=iV;have hp:=(H.ah8 (Yz hi hy)).1;have fP:({x with v:=x.v-1}:xP).st=x.st-4294967296:=by simp only[xP.st];omega
  by_cases he:x.v=1/\x.w=1
  ·exact⟨.s2,d,{x with v:=x.v-1},by rw[show s'=_ from hn,if_pos he],fun y' h=>H.av7 (OH hi hy h) he,Tj nN fP rfl,rfl,fun _=>by simp,fun h=>(by cases h),fun _ h=>(by cases h),fun _=>aak hd,.inl rfl⟩
  exact⟨.gone,d,{x with v:=x.v-1},by rw[show s'=_ from hn,if_neg he],fun y' h=>(H.sub (OH hi hy h) he).1,Tj nN fP rfl,rfl,fun _=>by simp,fun h=>(by cases h),fun _ h=>(by cases h),fun _=>aak hd,.inl rfl⟩
 | PN=>
  obtain⟨hd,rfl⟩:=iV;exact⟨.s3,d,x,hn,fun y' h=>H.looked (OH hi hy h),nN,rfl,fun _=>by simp,fun h=>(by cases h),fun _ h=>(by cases h),fun _=>aif hd,.inl rfl⟩
 | Ed=>
  obtain⟨hd,rfl⟩:=iV;have fP:({x with v:=0,w:=0}:xP).st=0:=by simp[xP.st]
  exact⟨.s4,d,{x with v:=0,w:=0},hn,fun y' h=>H.store (OH hi hy h),Tj nN fP rfl,rfl,fun _=>by simp,fun h=>(by cases h),fun _ h=>(by cases h),fun _=>aii hd,.inl rfl⟩
 | G5=>
  obtain⟨hd,rfl⟩:=iV;refine⟨.gone,d,{x with ws:=x.ws+1},hn,fun y' h=>(H.post (OH hi hy h)).1,ais nN rfl rfl,?_,fun _=>by simp,fun h=>(by cases h),fun _ h=>(by cases h),fun _=>afV,.inr rfl⟩;simp[deafBehind,jH,FN,yw,FM,Kt]
 | _=>exact iV.elim
theorem ait{G:Grp}{x:xP}{d:Nat}(iV:oP a (.dn r d)):∀e∈jH G a x,aai G.Wg e:=by
 have hm:∀m,(∀a,m≠ .release a)->(∀a,m≠ .read a)->(∀a,m≠ .write a)->aai G.Wg (yw m):=fun m h1 h2 h3=>.inl ⟨m,O,h1,h2,h3⟩;have h0:aai G.Wg (FM (jY G.Wg)):=.inr ⟨_,O,.inl O⟩;have h1:aai G.Wg (Kt (jY G.Wg)):=.inr ⟨_,O,.inr O⟩;have h2:aai G.Wg (FM (yY G.Wg)):=.inr ⟨_,O,.inl O⟩;have h3:aai G.Wg (Kt (yY G.Wg)):=.inr ⟨_,O,.inr O⟩;have hd:=hm .disable (by simp) (by simp) (by simp);have hn:=hm .enable (by simp) (by simp) (by simp);intro e he
 cases a with
 | Kr=>simp only[jH,Array.mem_singleton,List.mem_toArray,dP]at he;subst he;exact hd
 | en=>simp only[jH,Array.mem_singleton,List.mem_toArray,dP]at he;subst he;exact hn
 | Ym=>simp[jH]at he
 | wrm=>simp[jH]at he;subst he;exact hm _ (by simp) (by simp) (by simp)
 | aac=>simp[jH]at he;rcases he with rfl | rfl;exact h0;exact h1
 | PN=>simp[jH]at he;subst he;exact h0
 | Ed=>simp[jH]at he;subst he;exact h1
 | G5=>simp[jH,FN]at he;rcases he with rfl | rfl | rfl | rfl;exact hd;exact h2;exact h3;exact hn
 | _=>exact iV.elim
theorem apf{G:Grp}{x:xP}{w:World}{d:Nat}(iV:oP a (.dn r d)):OA G.Wg w (tq G a x w):=by
 cases a with
 | Ym=>exact .refl _ _
 | Kr=>exact .refl _ _
 | en=>exact .refl _ _
 | wrm=>exact .refl _ _
 | aac=>exact OA.set _ (jY G.Wg) _
 | PN=>exact .refl _ _
 | Ed=>exact OA.set _ (jY G.Wg) _
 | G5=>exact OA.set _ (yY G.Wg) _
 | _=>exact iV.elim

theorem aiu{d:Nat}(h:oP a (.dn .gone d)):a= .Kr\/a= .en:=by
 cases a <;>simp_all[oP]
theorem ac9{G:Grp}{s:(gJ G).S}(T:qO P false (gJ G) (Gone P) s g):∀{w:World} {x:xP} {d:Nat},Ku G w x->DF .gone x->s= .dn .gone d->∃n,QuitsD P n d g:=by
 induction T with
 | exit hs h=>
  intro w x d _ _ e;subst e;obtain⟨h1,n,h2⟩:=h
  cases h1
  exact⟨n,.of_quitsIn h2⟩
 | idle hs e T ih=>
  intro w x d nN hx hd;obtain⟨n,hq⟩:=ih nN hx hd;exact⟨n+1,.inr ⟨hs,_, #[],by simp,e,hq⟩⟩
 | act a hs hc ho wait ok wk fr h ih=>
  intro w x d nN hx hd;subst hd;have key:(a:LA)= .Kr\/a= .en:=aiu hc;obtain⟨g',es,hm,fP⟩:=fr key;have Eo:¬yZ a x:=fun h=>by rcases key with rfl | rfl <;>exact h
  obtain⟨s',hn⟩:=Yn (x:=x) hc;obtain⟨iF,h1,_⟩:=ok w x nN hx Eo;have MN:=fP w;rw[h1]at MN;injection MN with e1 e2 e3
  subst e1;have e3:jH G a x=es:=e3;subst e3
  have Yu:∃d',s'= .dn .gone d'/\deafBehind d (jH G a x)=d':=by
   rcases key with rfl | rfl
   ·exact⟨_,hn,O⟩
   exact⟨_,hn,O⟩
  obtain⟨d',rfl,IK⟩:=Yu;obtain⟨n,hq⟩:=ih w x iF _ _ _ nN hx Eo h1 hn nN hx rfl;exact⟨n+1,.inr ⟨hs,iF,_,hm,fP,IK.symm▸hq⟩⟩

theorem Ox.off(hp:Ox k M d es d')(Y:LY w t n dv pr sh nU)(hg:pr gn=some (k,M))(hb:(nU b\/sh b)\/∃o,w.heap[b]? =some o/\o.isChan=true):∀op∈MemOp.ofEvents gn fn pos es,∀a,op.act.touch? =some a->¬In a.loc b:=by
 intro op aY a ha hl;obtain⟨_,alx,_,h2,h3,h4,h5⟩:=(hp.ops op aY).2.2 a ha;obtain rfl:=h2 b hl;obtain⟨o,ho⟩:=iJ.1 h4;rw[ho,qP]at h5;rcases hb with(hb | hb) | ⟨y,hy,hyc⟩
 ·rw[Y.tC b gn k M hb hg]at ho;cases ho
 ·rw[eP (Y.AV b gn k M o hb hg ho)]at h5;cases h5
 rw[(Y.xQ gn k M hg).rO.get ho h5]at hy;cases hy;rw[h5]at hyc;cases hyc

theorem MS.asD[Base]{T:Vg P γ j d g k M}{T':Vg P γ j d g' (snap k w w') (grown M w w')}(I:MS P gs w t dG k₀ aH og ks)(hi:ks[i]? =some (.work γ j T))(gu:iR k M w w' es)
  (hs:gs'.size=gs.size) (Ce:gs'[i+1]? =some g') (hgo:∀m,m≠i+1->0<m->gs'[m]? =gs[m]?):MS P gs' w' (t++MemOp.ofEvents (i+1) fn pos es) dG k₀ aH og (ks.set i (.work γ j T')):=by
 have qw:xU k₀ aH ks (i+1)=some (k,M):=iY hi;obtain⟨jd,h1,_,h2,h3⟩:=I.Cc i _ hi;have Gp:=gy hi;refine I.aao (x':=.work γ j T') hi rfl rfl rfl rfl ?_ (fun b o hb Gv _=>⟨OJ I.Y qw gu hb Gv,gu.lJ _ _ hb Gv⟩) (I.off qw gu fun _ _ _ _ _ _=>⟨.work γ j T',by rw[show i+1-1=i by omega,List.getElem?_set,if_pos rfl,if_pos Gp],by simp[KS.wr]⟩) (fun k' M' b c' po e hb=>by cases e;exact⟨k,M,rfl,CO (I.Y.xQ _ k M qw).rO gu hb⟩) (fun _ _=>rfl) (fun c' e=>by cases e) (fun op aY=>.inl (ofEvents_g op aY)) hs Ce hgo ⟨rfl,h2,h3.app fun op aY _ _ _ _=>ofEvents_g op aY⟩ (fun k' M' b e hb=>?_) (I.base.Ji gu fun b hb=>I.low _ k M b qw hb)
 ·rw[CQ hi (x':=.work γ j T') O];exact(I.Y.step qw aj gu).Eh fun g=>wF hi g
 cases e
 exact IV (fun b hb=>I.low _ k M b qw hb) I.base.size b hb
theorem MS.asE[Base]{T:Vg P γ j d g k M}{T':Vg P γ j d' g' (snap k w w') (grown M w w')}(I:MS P gs w t dG k₀ aH og ks)(hi:ks[i]? =some (.work γ j T))(gu:iR k M w w' #[])(hp:Ox k M d es d')
  (hs:gs'.size=gs.size) (Ce:gs'[i+1]? =some g') (hgo:∀m,m≠i+1->0<m->gs'[m]? =gs[m]?):MS P gs' w' (t++MemOp.ofEvents (i+1) fn pos es) dG k₀ aH og (ks.set i (.work γ j T')):=by
 have qw:xU k₀ aH ks (i+1)=some (k,M):=iY hi;obtain⟨jd,h1,_,h2,h3⟩:=I.Cc i _ hi;have Gp:=gy hi;refine I.aao (x':=.work γ j T') hi rfl rfl rfl rfl ?_ (fun b o hb Gv _=>⟨hp.off I.Y qw (.inr ⟨o,hb,Gv⟩),gu.lJ _ _ hb Gv⟩) (.none fun b hb=>⟨hb.elim (fun h=>(aag (fn:=fn) (pos:=pos) I.Y qw gu h).1) fun h=>(Yq (fn:=fn) (pos:=pos) I.Y qw gu h).1,hp.off I.Y qw (.inl hb)⟩) (fun k' M' b c' po e hb=>by cases e;exact⟨k,M,rfl,CO (I.Y.xQ _ k M qw).rO gu hb⟩) (fun _ _=>rfl) (fun c' e=>by cases e) (fun op aY=>.inl (ofEvents_g op aY)) hs Ce hgo ⟨rfl,h2,h3.app fun op aY _ _ _ _=>ofEvents_g op aY⟩ (fun k' M' b e hb=>?_) (I.base.Ji gu fun b hb=>I.low _ k M b qw hb)
 ·have Y1:=I.Y.YA (fn:=fn) (pos:=pos) (es:=es) (d':=d') (dv':=D5 dG (ks.set i (.work γ j T'))) qw aj (by rw[Bv hi];exact hp) fun x=>by rw[MH hi];rfl
  have Y2:=Y1.step (fn:=fn) (pos:=pos) qw aj gu;rw[af2]at Y2;exact Y2.Eh fun g=>wF hi g
 cases e
 exact IV (fun b hb=>I.low _ k M b qw hb) I.base.size b hb
theorem MS.relabel[Base](I:MS P gs w t dG k₀ aH og ks)(hi:ks[i]? =some x)(um:x'.ch=x.ch)(Ti:x'.wr=x.wr)(hj:x'.Cb=x.Cb)(he:x'.OE=x.OE)(ha:x'.act=x.act)(hd:x'.deaf=x.deaf)
  (hs:gs'.size=gs.size) (Ce:gs'[i+1]? =some g') (hgo:∀m,m≠i+1->0<m->gs'[m]? =gs[m]?) (hK:Bz P w t k₀ aH og i g' x') (Jf:∀c,x.ch=some c->noV k₀ c):MS P gs' w t dG k₀ aH og (ks.set i x'):=by
 have e:t++(#[]:Trace)=t:=by simp
 have:=I.aao (u:= #[]) hi um Ti hj he (by rw[CQ hi hd,e];exact I.Y.Eh fun g=>CP hi ha g) (fun b o hb _ _=>⟨fun op h=>by simp at h,hb⟩) (.none fun b _=>⟨O,fun op h=>by simp at h⟩) (fun k' M' b c' po e hb=>⟨k',M',ha.symm.trans e,hb⟩) (fun _ _=>rfl) Jf (fun op h=>by simp at h) hs Ce hgo (by rw[e];exact hK) (fun k' M' b e' hb=>I.low _ k' M' b ((iY hi).trans (ha.symm.trans e')) hb) I.base;rwa[e]at this
theorem MS.aeI[Base]{n n':Nat}(I:MS P gs w t dG k₀ aH og ks)(hi:ks[i]? =some (.gone j A n d))(hm:∀e∈es,Event.mute e=true)(hq:QuitsD P n' (deafBehind d es) g')
  (hs:gs'.size=gs.size) (Ce:gs'[i+1]? =some g') (hgo:∀m,m≠i+1->0<m->gs'[m]? =gs[m]?):MS P gs' w (t++MemOp.ofEvents (i+1) fn pos es) dG k₀ aH og (ks.set i (.gone j A n' (deafBehind d es))):=by
 obtain⟨jd,h1,h2,o,ho,h3⟩:=I.Cc i _ hi;have Gp:=gy hi;have hu:=MG (g:=i+1) (fn:=fn) (pos:=pos) hm;have nt:∀op∈MemOp.ofEvents (i+1) fn pos es,∀a,op.act.touch? =some a->False:=fun op aY a ha=>by rw[(hu op aY).2.1]at ha;cases ha
 refine I.aao (x':=.gone j A n' (deafBehind d es)) hi rfl rfl rfl rfl ?_ (fun b o hb _ _=>⟨fun op aY a ha=>(nt op aY a ha).elim,hb⟩) (.none fun b _=>⟨rfl,fun op aY a ha=>(nt op aY a ha).elim⟩) (fun k' M' b c' po e hb=>by cases e) (fun _ _=>rfl) (fun c' e=>by cases e) (fun op aY=>.inl (hu op aY).1) hs Ce hgo ⟨hq,o,ho,h3.keep (fun b o _=>⟨rfl,fun op aY a ha=>(nt op aY a ha).elim⟩) fun n hn _=>PO hm n hn⟩ (fun k' M' b e hb=>by cases e) I.base;have Y:=I.Y.mute (g:=i+1) (fn:=fn) (pos:=pos) (dv':=D5 dG (ks.set i (.gone j A n' (deafBehind d es)))) aj hm fun x=>by rw[MH hi,Bv hi];rfl
 exact Y.Eh fun g=>CP (x':=.gone j A n' (deafBehind d es)) hi O g

theorem MS.OL[Base](I:MS P gs w t dG k₀ aH (some o) ks)(hb:qR ks b):b≠o.γ.Wg/\b≠o.γ.X:=by
 obtain⟨ob,hb⟩:=hb;obtain⟨L,hL,hb⟩:=List.mem_flatten.1 hb;obtain⟨y,hy,rfl⟩:=List.mem_map.1 hL;obtain⟨m,hm⟩:=List.getElem?_of_mem hy;obtain⟨g,h1,h2⟩:=I.Cc m y hm
 cases y with
 | fin γ j pre A T=>
  obtain⟨_,⟨o',e,rfl⟩,_,r,d,_,_,h3,h4⟩:=h2
  cases e
  by_cases hr:r= .live
  ·obtain⟨k,M,rfl,_⟩:=h3 hr;cases hb
  obtain⟨rfl,_,h5,_⟩:=h4 hr;exact(h5 b ob hb).2.2
 | gone j A n d=>
  obtain⟨_,o',e,_,h5,_⟩:=h2
  cases e
  exact(h5 b ob hb).2.2
 | _=>cases hb
theorem anN{l:Nat}{x:xP}(h:p≠ .out↔o.p≠ .out):LJ (some {o with left:=l,p:=p,x:=x})=LJ (some o):=by
 funext b;apply propext;exact⟨fun⟨o',h1,h2⟩=>⟨o,rfl,by cases h1;exact h2.imp id fun h'=>⟨h'.1,h.1 h'.2⟩⟩,fun⟨o',h1,h2⟩=>⟨_,rfl,by cases h1;exact h2.imp id fun h'=>⟨h'.1,h.2 h'.2⟩⟩⟩

theorem MS.Yw[Base]{pre:Option (Hp×(Nat->Prop))}{s:LS}{hs:g.status= .running}{hc:oP a s}{ho wait}{ok:∀w x,Ku γ.toGrp w x->SI a s x->¬yZ a x->∃g',stepG P false g w= .go g' (tq γ.toGrp a x w) (jH γ.toGrp a x)/\g'.status= .running}{wk:ac0 a->mayWake P g=true}{fr}
  {hh:∀w x g' w' es s',Ku γ.toGrp w x->SI a s x->¬yZ a x->stepG P false g w= .go g' w' es->Jh a s x s'->qO P false (gJ γ.toGrp) (Gone P) s' g'} (I:MS P gs w t dG k₀ aH og ks)
  (
   hi:ks[i]? =some (.fin γ j pre A (.act (π:=gJ γ.toGrp) a hs hc ho wait ok wk fr hh))):∃(o:OG) (g':Goroutine) (y:KS P) (x':xP),og=some o/\stepG P false g w= .go g' (tq o.γ.toGrp a o.x w) (jH o.γ.toGrp a o.x)/\g'.status= .running/\Fh y (.fin γ j pre A (.act (π:=gJ γ.toGrp) a hs hc ho wait ok wk fr hh))/\y.Cb=some j/\
   (
    x'.ws=o.x.ws\/mayWake P g=true)/\(∀b,b≠o.γ.Wg->(tq o.γ.toGrp a o.x w).heap[b]? =w.heap[b]?)/\(∃ob,w.heap[o.γ.Wg]? =some ob/\ob.isChan=false)/\∀(gs':Array Goroutine) (fn:FuncId) (pos:String),gs'.size=gs.size->gs'[i+1]? =some g'->(∀m,m≠i+1->0<m->gs'[m]? =gs[m]?)->
    MS P gs' (tq o.γ.toGrp a o.x w) (t++MemOp.ofEvents (i+1) fn pos (jH o.γ.toGrp a o.x)) dG k₀ aH (some {o with x:=x'}) (ks.set i y):=by
 obtain⟨jd,h1,_,⟨o,rfl,rfl⟩,alz,r,d,rfl,hrg,Tn,aiv⟩:=I.Cc i _ hi;have G:=I.Td o O;have nN:Ku o.γ.toGrp w o.x:=G.at_;have BA:SI a (.dn r d) o.x:=G.asC hi O;have Eo:¬yZ a o.x:=fun h=>by cases a <;>first | exact h.elim | exact hc.elim
 obtain⟨g',fP,uT⟩:=ok w o.x nN BA Eo;obtain⟨s',hn⟩:=Yn (x:=o.x) hc;obtain⟨r',d',x',rfl,hN,asF,DZ,hlv,awo,anO,hq,hws⟩:=ape G.wok hi rfl nN hc hn;have Gp:=gy hi;have fK:=I.anJ O
 have LK:o.p≠ .out:=fun e=>by
  have h1:=G.wok;rw[e]at h1;have h2:=h1.av9;have h3:=Yz hi (r:=r) O
  cases r <;>first | exact hrg rfl | omega
 have We:=apf (G:=o.γ.toGrp) (x:=o.x) (w:=w) hc;have qw:xU k₀ aH ks (i+1)=pre:=iY hi
 have base:∀(fn:FuncId) (pos:String) (y:KS P) (gs':Array Goroutine),y.ch=none->y.wr=some r'->y.Cb=some j->y.deaf=d'->(∀k' M' b c po,y.act=some (k',M')->k' b=some (bn c po)->∃k M,pre=some (k,M)/\k b=some (bn c po))->gs'.size=gs.size->gs'[i+1]? =some g'->(∀m,m≠i+1->0<m->gs'[m]? =gs[m]?)->
   (LY (tq o.γ.toGrp a o.x w) (t++MemOp.ofEvents (i+1) fn pos (jH o.γ.toGrp a o.x)) (ks.length+1) (D5 dG (ks.set i y)) (xU k₀ aH ks) (LJ (some o)) (qR ks)->LY (tq o.γ.toGrp a o.x w) (t++MemOp.ofEvents (i+1) fn pos (jH o.γ.toGrp a o.x)) (ks.length+1) (D5 dG (ks.set i y)) (xU k₀ aH (ks.set i y)) (LJ (some o)) (qR (ks.set i y)))->
   Bz P (tq o.γ.toGrp a o.x w) (t++MemOp.ofEvents (i+1) fn pos (jH o.γ.toGrp a o.x)) k₀ aH (some {o with x:=x'}) i g' y->(((ks.set i y).map KS.OE).flatten.map (·.1)).Nodup->(∀k' M' b,y.act=some (k',M')->M' b->Base.ref.heap.size<=b)->(∀b,qR (ks.set i y) b->Base.ref.heap.size<=b)->
   MS P gs' (tq o.γ.toGrp a o.x w) (t++MemOp.ofEvents (i+1) fn pos (jH o.γ.toGrp a o.x)) dG k₀ aH (some {o with x:=x'}) (ks.set i y):=by
  intro fn pos y gs' awp hyw hyj hyd hvx hs Ce hgo hY hK ao9 ac8 aip;obtain⟨S,St⟩:=anG (g:=i+1) (fn:=fn) (pos:=pos) (ait (G:=o.γ.toGrp) (x:=o.x) hc) alz fK;have asH:(ks.set i y).filterMap KS.Cb=ks.filterMap KS.Cb:=Ej hi hyj;refine I.turn (x':=y) hi awp ?_ (fun b ob hb YB _=>?_) (fun b hb=>⟨We.off b (I.OL hb).1,fun op aY a' ha hl=>(I.OL hb).1 ((St op aY a' ha).2 b hl)⟩) (fun o' _ op aY a' ha hp=>absurd hp (St op aY a' ha).1) (fun o' h=>⟨_,rfl,by cases h;exact⟨rfl,rfl⟩⟩) (fun o' h=>?_) (fun h=>by cases h) hvx (fun _ _=>rfl) (fun c e=>by cases e) (fun op aY=>.inl (S.g op aY)) hs Ce hgo hK ao9 ac8 aip (I.base.asn We G.low)
  ·rw[show LJ (some {o with x:=x'})=LJ (some o)from anN .rfl];refine hY ?_
   refine I.Y.afT (tch:=fun b=>b=o.γ.Wg) aj (Nat.le_refl _) We.size (fun b hb=>We.off b hb) S (fun op aY a' ha b hl=>(St op aY a' ha).2 b hl)
    (fun b y k M o' hb hy ho=>by subst hb;have:=I.Y.AV _ y k M o' ⟨o,rfl,.inl rfl⟩ hy ho;exact⟨eP this,.inl this,fun c po e=>by obtain⟨o2,e1,_,e2,_⟩:=I.vX y k M _ c po hy (e▸ho);cases e1;exact G.Vu e2.symm⟩) fun g=>?_
   rw[MH hi,hyd];by_cases hg:g=i+1
   ·subst hg;rw[if_pos O,Deaf_own,I.Y.tk.deaf,Bv hi];exact DZ
   rw[if_neg hg,Deaf_other t (Ne.symm hg) _ S.g];exact I.Y.tk.deaf g
  ·have Qq:b≠o.γ.Wg:=fun e=>by subst e;unfold Ku at nN;rw[nN]at hb;cases hb;cases YB
   exact⟨fun op aY a' ha hl=>Qq ((St op aY a' ha).2 b hl),by rw[We.off b Qq];exact hb⟩
  cases h
  exact⟨hN y hyw,by rw[asH];exact G.num,G.tok,asF,G.plk.app fun op aY a' ha hl hp=>absurd hp (St op aY a' ha).1,trivial,G.low,G.Vu,G.ac6,fun hp=>by rw[We.off _ G.Vu];exact G.xat hp,fun hp=>CU (o':={o with x:=x'}) (G.ac7 hp) rfl (apd hi (by rw[hyw];simp)) fun op aY a' ha hl=>absurd ((St op aY a' ha).2 _ hl) G.Vu⟩
 have T':=hh w o.x g' _ _ _ nN BA Eo fP hn;by_cases ha:a= .wrm
 ·
  subst ha;obtain⟨rfl,rfl,rfl⟩:=awo rfl;obtain⟨k,M,rfl,hA,hAn,hR⟩:=Tn rfl;have K:=I.Y.xQ _ k M qw;have hAw:∀b o,(b,o)∈A->w.heap[b]? =some o:=fun b o hb=>K.rO.get (hA b o hb).1 (hA b o hb).2.2
  have hAs:∀b o',(b,o')∈A->¬LJ (some o) b:=fun b o' hb bF=>by
   have:=eP (I.Y.AV b _ k M o' bF qw (hA b o' hb).1);rw[(hA b o' hb).2.2]at this;cases this
  have hes:(ks.map KS.OE)[i]? =some []:=by rw[iL,hi];rfl
  have YC:=Qp (A:=A) hes;have asI:(ks.set i (.fin o.γ j none A (hh w o.x g' _ _ _ nN BA Eo fP hn))).map KS.OE=(ks.map KS.OE).set i A:=by rw[List.map_set];rfl
  have apg:∀b,qR (ks.set i (.fin o.γ j none A (hh w o.x g' _ _ _ nN BA Eo fP hn))) b↔qR ks b\/∃o,(b,o)∈A:=fun b=>by
   unfold qR;rw[asI];constructor
   ·rintro⟨o,h⟩;rcases dh.1 (YC.mem_iff.1 h)with h | h
    ·exact .inr ⟨o,h⟩
    exact .inl ⟨o,h⟩
   rintro(⟨o,h⟩ | ⟨o,h⟩)
   ·exact⟨o,YC.mem_iff.2 (dh.2 (.inr h))⟩
   exact⟨o,YC.mem_iff.2 (dh.2 (.inl h))⟩
  refine⟨o,g',.fin o.γ j none A (hh w o.x g' _ _ _ nN BA Eo fP hn),x',rfl,fP,uT,.Yw,rfl,hws.imp id wk,We.off,⟨_,nN,rfl⟩,fun gs' fn pos hs Ce hgo=>base fn pos _ gs' rfl rfl rfl rfl (fun k' M' b c po e=>by cases e) hs Ce hgo (fun Y1=>?_) ⟨rfl,⟨_,rfl,rfl⟩,?_,.s1,_,rfl,by simp,fun h=>(by cases h),fun _=>⟨rfl,hR,fun b o' hb=>⟨hAw b o' hb,(hA b o' hb).2.2,fun e=>hAs b o' hb ⟨o,rfl,.inl e⟩,fun e=>hAs b o' hb ⟨o,rfl,.inr ⟨e,LK⟩⟩⟩,t.size,?_,fun b o' hb n a' ha hl=>?_⟩⟩ ?_ (fun k' M' b e=>by cases e) fun b hb=>?_⟩
  ·refine(((Y1.drop (g:=i+1)).Eh fun g=>?_).re (fun b g2 k2 M2 o' h2 mM=>⟨fun hb=>?_,fun hf=>?_⟩) (fun b g2 k2 M2 hb h2=>?_) fun b hb=>?_:LY _ _ _ _ (xU k₀ aH (ks.set i (.fin o.γ j none A (hh w o.x g' _ _ _ nN BA Eo fP hn)))) _ _)
   ·rw[wF hi];rfl
   ·exact(Y1.drop (g:=i+1)).AV b g2 k2 M2 o' hb (by rw[wF hi]at h2;exact h2) mM
   ·exact(Y1.drop (g:=i+1)).fk b g2 k2 M2 o' (by rw[wF hi]at h2;exact h2) mM hf
   ·rw[wF hi]at h2;rcases(apg b).1 hb with hb | ⟨o',hb⟩
    ·exact(Y1.drop (g:=i+1)).tC b g2 k2 M2 hb h2
    by_cases hg:g2=i+1
    ·subst hg;rw[iP]at h2;cases h2
    rw[jZ hg]at h2;exact I.Y.alone (Ne.symm hg) qw h2 (hA b o' hb).2.1 (hA b o' hb).1 (hA b o' hb).2.2 (hAs b o' hb)
   rcases hb with hb | hb
   ·exact Y1.lt b (.inl hb)
   rcases(apg b).1 hb with hb | ⟨o',hb⟩
   ·exact Y1.lt b (.inr hb)
   rw[We.size];exact nT (hAw b o' hb)
  ·exact alz.app fun op aY _ _ _ _=>ofEvents_g op aY
  ·exact RelBy.new (by rw[I.Y.tk.deaf,Bv hi];rfl) fn pos
  ·obtain⟨z,Gq,hz2,hz3⟩:=aeH (g:=i+1) (fn:=fn) (pos:=pos) (m:=.releaseMerge (jY o.γ.Wg));rw[show MemOp.ofEvents (i+1) fn pos (jH o.γ.toGrp .wrm o.x)= #[z]from Gq]at ha⊢;rcases jM ha with⟨_,h2⟩ | ⟨op,_,hmm,h2⟩
   ·exact(K.own b (hA b o' hb).2.1 (by rw[(hA b o' hb).1];exact(hA b o' hb).2.2)).before hz3 h2 hl
   rw[iU hmm,hz2]at h2;cases h2
  ·rw[asI];refine(YC.map (·.1)).nodup_iff.2 ?_;rw[List.map_append,List.nodup_append];refine⟨hAn,I.Kv,fun b hb b' wz e=>?_⟩;subst e;obtain⟨⟨b1,o1⟩,h1,rfl⟩:=List.mem_map.1 hb;obtain⟨⟨b2,o2⟩,h2,e⟩:=List.mem_map.1 wz;simp only at e;subst e;have:=I.Y.tC _ _ k M ⟨o2,h2⟩ qw;rw[(hA _ o1 h1).1]at this;cases this
  rcases(apg b).1 hb with hb | ⟨o',hb⟩
  ·exact I.Kw b hb
  exact I.low _ k M b qw (hA b o' hb).2.1
 have WT:r≠ .live->∀(fn:FuncId) (pos:String),S_ (tq o.γ.toGrp a o.x w) (t++MemOp.ofEvents (i+1) fn pos (jH o.γ.toGrp a o.x)) o.γ i j A:=fun hr fn pos=>by
  obtain⟨_,h2⟩:=aiv hr;have St:=(anG (g:=i+1) (fn:=fn) (pos:=pos) (ait (G:=o.γ.toGrp) (x:=o.x) hc) alz fK).2;exact h2.keep (fun b o' hb=>⟨We.off b (h2.2.1 b o' hb).2.2.1,fun op aY a' ha hl=>(h2.2.1 b o' hb).2.2.1 ((St op aY a' ha).2 b hl)⟩) (Yr (hq ha) (by rw[I.Y.tk.deaf,Bv hi];rfl))
 by_cases hg:r'= .gone
 ·subst hg;have hr:r≠ .live:=fun e=>by have:=anO ha e;cases this
  obtain⟨rfl,_⟩:=aiv hr
  have aws:DF .gone x':=by
   have h1:=(hN (.gone j A 0 0) O).small G.tok;have h2:=aio (ks:=ks.set i (.gone j A 0 0)) .live .s1 (by simp);have h3:=G.num;rw[Ej hi (a':=.gone j A 0 0) O]at h2;exact⟨aj,aj,aj,trivial⟩
  obtain⟨n,hqd⟩:=ac9 T' asF aws rfl;refine⟨o,g',.gone j A n d',x',rfl,fP,uT,.alr,rfl,hws.imp id wk,We.off,⟨_,nN,rfl⟩,fun gs' fn pos hs Ce hgo=>base fn pos _ gs' rfl rfl rfl rfl (fun k' M' b c po e=>by cases e) hs Ce hgo (fun Y1=>?_) ⟨hqd,_,rfl,WT hr fn pos⟩ (by rw[MI hi (x':=.gone j A n d') rfl];exact I.Kv) (fun k' M' b e=>by cases e) fun b hb=>I.Kw b (by rw[CS hi (x':=.gone j A n d') rfl]at hb;exact hb)⟩;rw[CS hi (x':=.gone j A n d') O];exact Y1.Eh fun g=>CP (x':=.gone j A n d') hi O g
 refine⟨o,g',.fin o.γ j pre A (hh w o.x g' _ _ _ nN BA Eo fP hn),x',O,fP,uT,.Yw,O,hws.imp id wk,We.off,⟨_,nN,O⟩,fun gs' fn pos hs Ce hgo=>base fn pos _ gs' rfl O O O (fun k' M' b c po e hb=>⟨k',M',e,hb⟩) hs Ce hgo (fun Y1=>?_) ⟨O,⟨_,O,O⟩,?_,r',_,O,hg,fun h=>?_,fun h=>?_⟩ (by rw[MI hi (x':=.fin o.γ j pre A (hh w o.x g' _ _ _ nN BA Eo fP hn)) O];exact I.Kv) (fun k' M' b e hb=>I.low _ k' M' b (qw.trans e) hb) fun b hb=>I.Kw b (by rw[CS hi (x':=.fin o.γ j pre A (hh w o.x g' _ _ _ nN BA Eo fP hn)) O]at hb;exact hb)⟩
 ·rw[CS hi (x':=.fin o.γ j pre A (hh w o.x g' _ _ _ nN BA Eo fP hn)) O];exact Y1.Eh fun g=>CP (x':=.fin o.γ j pre A (hh w o.x g' _ _ _ nN BA Eo fP hn)) hi O g
 ·exact alz.app fun op aY _ _ _ _=>ofEvents_g op aY
 ·by_cases hr:r= .live
  ·exact Tn hr
  exact absurd h (hlv hr)
 have hr:r≠ .live:=fun e=>h (anO ha e);exact⟨(aiv hr).1,WT hr fn pos⟩
end
end Go.jc

namespace Go.jc
open Go.Conc (crowd parked rcase scase QuitsIn QuitsD Before Knows knows_own touchAt touchAt_of touchAt_old getElem?_append_old getElem?_append_cases lt_size_of_getElem? touch_of hb_po hb_app ofEvents_eq woken Deaf deaf_old g?_old act?_old heard_old lt_of_act? Deaf_own Deaf_other counts_old deaf_inside)
open Go.ConcN (RelBy)
variable{a:LA}{p:MP}{s':LS}
section
variable{P:Program}{γ:GP}{gs gs':Array Goroutine}{w w':World}{t u:Trace}{k k' k₀ fU:Hp}{M M' aH:Nat->Prop}{og En:Option OG}{ks:List (KS P)}{d d' dG i j n gn:Nat}{g g':Goroutine}{x x':KS P}{es:Array Event}{fn:FuncId}{pos:String}{dv:Nat->Nat}{pr:Prs}{sh nU:Nat->Prop}{o:OG}
theorem LY.opens{B:Nat}{o o':Obj}(Y:LY w t n dv pr sh nU)(hp:pr 0=some (k₀,aH))(hk:k₀ B=some o)(ho:o.isChan=false)(hM:aH B)(hns:¬sh B)(hf:ji o'=true)(hv:VOK o' o):LY w t n dv (vJ pr 0 (some (dM k₀ B o',aH))) (fun b=>sh b\/b=B) nU:=by
 have K:=Y.xQ 0 k₀ aH hp;have Og:=eP hf
 have hC:∀b,lI (dM k₀ B o' b)=false->b≠B/\dM k₀ B o' b=k₀ b:=fun b h=>by
  have hb:b≠B:=fun e=>by rw[e,bP,qP,Og]at h;cases h
  exact⟨hb,bJ _ _ hb⟩
 have mg:∀{x k1 M1},vJ pr 0 (some (dM k₀ B o',aH)) x=some (k1,M1)->(x=0/\k1=dM k₀ B o'/\M1=aH)\/(x≠0/\pr x=some (k1,M1)):=by
  intro x k1 M1 h;by_cases hx:x=0
  ·subst hx;rw[iP]at h;cases h;exact .inl ⟨rfl,rfl,rfl⟩
  rw[jZ hx]at h;exact .inr ⟨hx,h⟩
 refine⟨Y.tk,fun x k1 M1 h=>?_,fun x y k1 M1 k2 M2 MB e1 e2=>?_,fun b x k1 M1 y hb h hy=>?_,fun b x k1 M1 y h hy hyf=>?_,fun b x k1 M1 hb h=>?_,fun b hb=>?_⟩
 ·rcases mg h with⟨rfl,rfl,rfl⟩ | ⟨_,h⟩
  ·refine⟨fun b y hy=>?_,fun b hb=>?_,fun b hb hc=>?_,fun b hb hc=>?_,fun b c po off hb h1 h2=>?_⟩
   ·rcases aZ hy with⟨rfl,rfl⟩ | ⟨_,h2⟩
    ·exact⟨o,K.rO.get hk ho,.inr ⟨Og,.inr hf⟩,hv⟩
    exact K.rO b y h2
   ·by_cases hbB:b=B
    ·rw[hbB,bP];rfl
    rw[bJ _ _ hbB];exact K.qC b hb
   ·obtain⟨_,e⟩:=hC b hc;rw[e]at hc;exact K.own b hb hc
   ·obtain⟨_,e⟩:=hC b hc;rw[e]at hc hb;exact K.rd b hb hc
   rcases aZ hb with⟨rfl,_⟩ | ⟨_,h3⟩
   ·exact fun i a ha hl _=>K.own _ hM (by rw[hk,qP];exact ho) i a ha (by rw[hl];rfl)
   exact K.vw b c po off h3 h1 h2
  exact Y.xQ x k1 M1 h
 ·rcases mg e1 with⟨rfl,rfl,rfl⟩ | ⟨hx,q1⟩ <;>rcases mg e2 with⟨rfl,rfl,rfl⟩ | ⟨hy,q2⟩
  ·exact absurd O MB
  ·exact Y.apart 0 y k₀ _ k2 M2 MB hp q2
  ·refine fun b hb hs=>?_;by_cases hbB:b=B
   ·rw[hbB,bP];exact Og
   rw[bJ _ _ hbB]at hs⊢;exact Y.apart x 0 k1 M1 k₀ _ MB q1 hp b hb hs
  exact Y.apart x y k1 M1 k2 M2 MB q1 q2
 ·rcases mg h with⟨rfl,rfl,rfl⟩ | ⟨hx,h'⟩
  ·rcases aZ hy with⟨_,rfl⟩ | ⟨h1,h2⟩
   ·exact hf
   exact Y.AV b 0 k₀ _ y (hb.resolve_right h1) hp h2
  rcases hb with hb | rfl
  ·exact Y.AV b x k1 M1 y hb h' hy
  rw[Y.alone (Ne.symm hx) hp h' hM hk ho hns]at hy;cases hy
 ·rcases mg h with⟨rfl,rfl,rfl⟩ | ⟨hx,h⟩
  ·rcases aZ hy with⟨e,_⟩ | ⟨_,h2⟩
   ·exact .inr e
   exact .inl (Y.fk b 0 k₀ _ y hp h2 hyf)
  exact .inl (Y.fk b x k1 M1 y h hy hyf)
 ·rcases mg h with⟨rfl,rfl,rfl⟩ | ⟨hx,h⟩
  ·have:=Y.tC b 0 k₀ _ hb hp;rw[bJ _ _ fun e=>by rw[e,hk]at this;cases this];exact this
  exact Y.tC b x k1 M1 hb h
 rcases hb with(hb | rfl) | hb
 ·exact Y.lt b (.inl hb)
 ·exact K.rO.lt hk
 exact Y.lt b (.inr hb)
theorem asK(h:ks.filterMap KS.Cb=[]):∀x∈ks,x.wr=none:=fun x hx=>by
 have:x.Cb=none:=List.filterMap_eq_nil_iff.1 h x hx
 cases x <;>first | rfl | cases this
theorem MS.opens[Base]{N:Nat}{c:Array Value}(I:MS P gs w t 0 k₀ aH none ks)(hN:N<=63)(hk:k₀ γ.Wg=some (SG γ.tW ⟨0,0,0⟩))(hM:aH γ.Wg)(iK:γ.X≠γ.Wg)(hX:k₀ γ.X=some (.cells c γ.tX γ.fX))(hMX:aH γ.X):
  MS P gs w t 0 (dM (dM k₀ γ.Wg (tu 0 [] N)) γ.X (bn c c.size)) aH (some ⟨γ,N,.add 0,⟨0,0,0⟩,c⟩) ks:=by
 have K:=I.Y.xQ 0 k₀ aH aW
 have hj:ks.filterMap KS.Cb=[]:=List.filterMap_eq_nil_iff.2 fun x hx=>by
  have:=I.Vw O x hx
  cases x <;>first | rfl | cases this
 have hw0:∀q,cK ks q=0:=fun q=>by
  have:=anI (ks:=ks) q;rw[hj]at this;exact Nat.le_zero.1 this
 have um:∀{i:Nat} {y:KS P} {c:Nat},ks[i]? =some y->y.ch=some c->c≠γ.Wg/\c≠γ.X:=fun hi hc=>by
  obtain⟨g,_,h2⟩:=I.Cc _ _ hi;obtain⟨o,h3,h4,_⟩:=h2.chan hc;exact⟨fun e=>(by rw[e,hk]at h3;cases h3;cases h4),fun e=>by rw[e,hX]at h3;cases h3;cases h4⟩
 have hkX:dM k₀ γ.Wg (tu 0 [] N) γ.X=some (.cells c γ.tX γ.fX):=by rw[bJ _ _ iK];exact hX
 have IW:∀b o,dM (dM k₀ γ.Wg (tu 0 [] N)) γ.X (bn c c.size) b=some o->(b=γ.X/\o=bn c c.size)\/(b=γ.Wg/\o=tu 0 [] N)\/k₀ b=some o:=fun b o h=>by
  rcases aZ h with h | ⟨_,h⟩
  ·exact .inl h
  exact .inr ((aZ h).imp id fun h=>h.2)
 have apj:∀b,¬LJ (none:Option OG) b:=fun b ⟨o,h,_⟩=>by cases h
 refine⟨I.size,?_,fun b hb hn=>?_,fun i y hi=>?_,I.one,fun c l hc hl=>?_,fun o h=>?_,fun h=>(by cases h),I.Kv,I.base,fun gn k M b hp hb=>?_,I.Kw,fun gn k M b c' po hp hb=>?_⟩
 ·have e:LJ (some ⟨γ,N,.add 0,⟨0,0,0⟩,c⟩)=fun b=>(LJ (none:Option OG) b\/b=γ.Wg)\/b=γ.X:=by
   funext b;apply propext;exact⟨fun⟨o',h1,h2⟩=>by cases h1;exact h2.elim (fun h=>.inl (.inr h)) fun h=>.inr h.1,fun h=>⟨_,rfl,h.elim (fun h=>.inl (h.resolve_left (apj b))) fun h=>.inr ⟨h,by simp⟩⟩⟩
  rw[e];have Y1:=I.Y.opens aW hk O hM (apj _) (G7 0 [] N) (.of fun c po e=>by simp[tu,bn]at e)
  have Y2:=Y1.opens (B:=γ.X) (o':=bn c c.size) iP hkX O hMX (fun h=>h.elim (apj _) iK) O fun c' po e=>by
   simp only[bn,Obj.chan.injEq]at e;obtain⟨_,rfl,_⟩:=e;exact⟨c,_,_,O,fun _ _ _=>rfl⟩
  refine Y2.Eh fun g=>?_;rw[zh (k₀:=k₀) (aH:=aH)];unfold vJ;by_cases h:g=0
  ·rw[if_pos h,if_pos h]
  rw[if_neg h,if_neg h,if_neg h]
 ·rcases IW b _ hn with⟨_,h⟩ | ⟨_,h⟩ | h
  ·exfalso;simp[bn,sZ]at h
  ·exfalso;simp[tu,sZ]at h
  exact I.new b hb h
 ·obtain⟨g,h1,h2⟩:=I.Cc i y hi;have h3:=h2.keep (w':=w) (u:= #[]) (En:=some ⟨γ,N,.add 0,⟨0,0,0⟩,c⟩) (fU:=dM (dM k₀ γ.Wg (tu 0 [] N)) γ.X (bn c c.size)) (jo:=aH) (fun o h=>by cases h) (fun _ _ _ h _=>h) (fun c hc=>by rw[bJ _ _ (um hi hc).2,bJ _ _ (um hi hc).1]) (fun _ _ _ h=>h) (fun op h=>by simp at h) (fun _ _ op h=>by simp at h) (fun _ _ op h=>by simp at h) fun _ _ _=>⟨rfl,fun op h=>by simp at h⟩
  rw[Array.append_empty]at h3;exact⟨g,h1,h3⟩
 ·rcases IW c _ hl with⟨_,h⟩ | ⟨_,h⟩ | h
  ·exfalso;simp[bn,mO]at h
  ·exfalso;simp[tu,mO]at h
  exact I.has c l hc h
 ·cases h
  refine⟨?_,by rw[hj];simpa using hN,fun s e=>by cases e;omega,K.rO.get hk rfl,(K.own _ hM (by rw[hk];rfl)).plk,trivial,I.low 0 k₀ aH _ aW hM,iK,I.low 0 k₀ aH _ aW hMX,fun _=>K.rO.get hX rfl,fun _ n a ha hl=>.inl (K.own _ hMX (by rw[hX];rfl) n a ha hl)⟩;simp only[jK,hw0];simp
 ·rcases fV hp with⟨rfl,rfl,rfl⟩ | ⟨j,y,rfl,hj,hy⟩
  ·exact I.low 0 k₀ _ b aW hb
  exact I.low _ k M b (by rw[iY hj];exact hy) hb
 have old:∀{gn:Nat} {k:Hp} {M:Nat->Prop},xU k₀ aH ks gn=some (k,M)->k b≠some (bn c' po):=fun h e=>by
  obtain⟨o,h1,_⟩:=I.vX _ _ _ _ _ _ h e;cases h1
 rcases fV hp with⟨rfl,rfl,rfl⟩ | ⟨j,y,rfl,hj,hy⟩
 ·rcases IW b _ hb with⟨h,_⟩ | ⟨_,h⟩ | h
  ·exact⟨_,O,by simp,h,fun h=>absurd O h⟩
  ·exfalso;simp[tu,bn]at h
  exact absurd h (old aW)
 exact absurd hb (old ((iY hj).trans hy))
theorem MS.exit[Base](I:MS P gs w t 0 k₀ aH (some o) ks)(LK:o.p= .out)(hj:ks.filterMap KS.Cb=[]):MS P gs w t 0 (zV k₀ o.γ.Wg) (fun b=>aH b/\b≠o.γ.Wg) none ks:=by
 have K:=I.Y.xQ 0 k₀ aH aW;have Ti:=asK hj;have G:=I.Td o O
 have iK:∀{i:Nat} {y:KS P} {c:Nat},ks[i]? =some y->y.ch=some c->c≠o.γ.Wg:=fun hi hc e=>by
  obtain⟨g,_,h2⟩:=I.Cc _ _ hi;obtain⟨ob,h3,h4⟩:=I.heap h2 hc;have:=G.at_;unfold Ku at this;rw[e,this]at h3;cases h3;cases h4
 have xJ:∀{i:Nat} {y:KS P} {k1:Hp} {M1:Nat->Prop} {b:Nat} {ob:Obj},ks[i]? =some y->y.act=some (k1,M1)->k1 b=some ob->ji ob=false:=fun{i y k1 M1 b ob} hi hy hb=>by
  obtain⟨g,_,h2⟩:=I.Cc _ _ hi;have h3:=Ti _ (dL hi)
  cases y with
  | run c g' k M=>cases hy;exact h2.2.2.2.nf b ob hb
  | uj c k M=>cases hy;obtain⟨_,_,_,_,_,_,_,L⟩:=h2;exact L.nf b ob hb
  | quit c n d=>cases hy
  | _=>cases h3
 have hC:∀b ob,zV k₀ o.γ.Wg b=some ob->b≠o.γ.Wg/\k₀ b=some ob:=fun b ob h=>y8 h;have hdl:∀b,(zV k₀ o.γ.Wg b).isSome=true->b≠o.γ.Wg:=fun b h e=>by rw[e,CJ]at h;cases h
 refine⟨I.size,⟨I.Y.tk,fun x k1 M1 h=>?_,fun x y k1 M1 k2 M2 MB e1 e2=>?_,fun b x k1 M1 y hb h hy=>(by obtain⟨_,h,_⟩:=hb;cases h),fun b x k1 M1 y h hy hyf=>?_,fun b x k1 M1 hb h=>?_,fun b hb=>?_⟩,fun b hb hn=>?_,fun i y hi=>?_,I.one,fun c l hc hl=>?_,fun o h=>(by cases h),fun _=>Ti,I.Kv,I.base,fun gn k M b hp hb=>?_,I.Kw,fun gn k M b c po hp hb=>?_⟩
 ·rcases fV h with⟨rfl,rfl,rfl⟩ | ⟨i,y,rfl,hi,hy⟩
  ·refine⟨fun b ob hy=>K.rO b ob (hC b ob hy).2,fun b hb=>(by rw[lM _ hb.2];exact K.qC b hb.1),fun b hb hc=>K.own b hb.1 (by rw[lM _ hb.2]at hc;exact hc),fun b hb hc=>?_,fun b c po off hb=>K.vw b c po off (hC b _ hb).2⟩;have wz:=hdl b hb;rw[lM _ wz]at hb hc;exact K.rd b hb hc
  exact I.Y.xQ _ k1 M1 ((iY hi).trans hy)
 ·have old:∀{x k1 M1},x≠0->xU (zV k₀ o.γ.Wg) (fun b=>aH b/\b≠o.γ.Wg) ks x=some (k1,M1)->xU k₀ aH ks x=some (k1,M1):=fun hx h=>by
   rw[zh (k₀:=k₀) (aH:=aH),jZ hx]at h;exact h
  by_cases hx:x=0
  ·subst hx;rw[aW]at e1;cases e1;exact fun b hb hs=>I.Y.apart 0 y k₀ aH k2 M2 MB aW (old (Ne.symm MB) e2) b hb.1 hs
  by_cases hy:y=0
  ·subst hy;rw[aW]at e2;cases e2;refine fun b hb hs=>?_;have wz:=hdl b hs;rw[lM _ wz]at hs⊢;exact I.Y.apart x 0 k1 M1 k₀ aH MB (old hx e1) aW b hb hs
  exact I.Y.apart x y k1 M1 k2 M2 MB (old hx e1) (old hy e2)
 ·rcases fV h with⟨rfl,rfl,rfl⟩ | ⟨i,z,rfl,hi,hz⟩
  ·obtain⟨h1,h2⟩:=hC b y hy;obtain⟨o',e,h3⟩:=I.Y.fk b 0 k₀ aH y aW h2 hyf
   cases e;exact absurd (h3.resolve_right fun h=>h.2 LK) h1
  rw[xJ hi hz hy]at hyf;cases hyf
 ·rcases fV h with⟨rfl,rfl,rfl⟩ | ⟨i,z,rfl,hi,hz⟩
  ·cases e:zV k₀ o.γ.Wg b with
   | none=>rfl
   | some ob=>have h0:=(hC b ob e).2;rw[I.Y.tC b 0 k₀ aH hb aW]at h0;cases h0
  exact I.Y.tC b _ k1 M1 hb ((iY hi).trans hz)
 ·rcases hb with⟨_,h,_⟩ | hb
  ·cases h
  exact I.Y.lt b (.inr hb)
 ·exact I.new b hb.1 (hC b _ hn).2
 ·obtain⟨g,h1,h2⟩:=I.Cc i y hi;refine⟨g,h1,?_⟩;have h3:=Ti _ (dL hi);have e:t++(#[]:Trace)=t:=by simp
  cases y with
  | run c g' k M=>
   have:=h2.2.2.2.keep (u:= #[]) (w':=w) (fU:=zV k₀ o.γ.Wg) (jo:=fun b=>aH b/\b≠o.γ.Wg) (fun _ h _=>h) (lM _ (iK hi O)) (fun _ h=>⟨h,iK hi O⟩) fun op h=>by simp at h
   rw[e]at this;exact⟨h2.1,h2.2.1,h2.2.2.1,this⟩
  | uj c k M=>
   obtain⟨g',v,l,z,a1,a2,a3,L⟩:=h2;have:=L.keep (u:= #[]) (w':=w) (fU:=zV k₀ o.γ.Wg) (jo:=fun b=>aH b/\b≠o.γ.Wg) (fun _ h _=>h) (lM _ (iK hi O)) (fun _ h=>⟨h,iK hi O⟩) fun op h=>by simp at h
   rw[e]at this;exact⟨g',v,l,z,a1,a2,a3,this⟩
  | quit c n d=>
   have:=h2.2.keep (u:= #[]) (w':=w) (fU:=zV k₀ o.γ.Wg) (jo:=fun b=>aH b/\b≠o.γ.Wg) (fun _ _ _ h _=>h) (fun c' e'=>lM _ (iK hi e')) (fun c' e' _ h=>⟨h,iK hi e'⟩) (uh fun op h=>by simp at h);rw[e]at this;exact⟨h2.1,this⟩
  | _=>cases h3
 ·exact I.has c l hc.1 (hC c _ hl).2
 ·rcases fV hp with⟨rfl,rfl,rfl⟩ | ⟨j,y,rfl,hj,hy⟩
  ·exact I.low 0 k₀ aH b aW hb.1
  exact I.low _ k M b (by rw[iY hj];exact hy) hb
 exfalso
 have old:∀{gn:Nat} {k:Hp} {M:Nat->Prop},xU k₀ aH ks gn=some (k,M)->k b≠some (bn c po):=fun h e=>by
  obtain⟨o',h1,h2,_⟩:=I.vX _ _ _ _ _ _ h e;cases h1;exact h2 LK
 rcases fV hp with⟨rfl,rfl,rfl⟩ | ⟨j,y,rfl,hj,hy⟩
 ·exact old aW (hC b _ hb).2
 exact old ((iY hj).trans hy) hb

theorem Fj.anP[Base](H:Fj w t ks o):WF o.p o.x:=by
 have hn:=H.small;refine⟨hn.1,hn.2.1,hn.2.2,?_⟩;have hw:=H.wok;generalize o.x=x at*;generalize o.p=p at*
 cases p with
 | add t=>simp only[jK]at hw⊢;omega
 | wt old B=>
  cases old with
  | none=>simp only[jK]at hw;exact⟨aj,aj,fun _=>by omega,fun o e=>by cases e⟩
  | some o=>simp only[jK]at hw;exact⟨aj,aj,fun e=>(by cases e),fun o' e=>by cases e;omega⟩
 | reg=>simp only[jK]at hw⊢;intro h;rcases hw with h | h | h | h <;>omega
 | seen=>simp only[jK]at hw⊢;omega
 | out=>trivial
theorem apk{G:Grp}{x:xP}{c:Wn}(H:jK x p c)(hp:∀t,p= .add t->t<=1)(nN:Ku G w x)(iV:oP a (.wg p d))(ha:a≠ .Qo)(hpo:p≠ .out)(Eo:¬yZ a x)(hn:Jh a (.wg p d) x s'):
  ∃(p':MP) (d':Nat) (x':xP),s'= .wg p' d'/\p'≠ .out/\jK x' p' c/\(∀t,p'= .add t->t<=1)/\Ku G (tq G a x w) x'/\deafBehind d (jH G a x)=d':=by
 cases a with
 | Kr=>exact⟨p,d+1,x,hn,hpo,H,hp,nN,rfl⟩
 | en=>exact⟨p,d-1,x,hn,hpo,H,hp,nN,rfl⟩
 | acZ=>
  obtain rfl:p= .add 0:=iV;exact⟨_,_,x,hn,by simp,H.begin,fun t e=>(by cases e),nN,rfl⟩
 | Z9=>
  obtain⟨hd,rfl⟩:=iV;have fP:({x with v:=x.v+1}:xP).st=x.st+4294967296:=by simp only[xP.st];omega
  exact⟨_,_,{x with v:=x.v+1},hn,by simp,H.inc.1,fun t e=>(by cases e;omega),Tj nN fP rfl,rfl⟩
 | Ym=>exact⟨p,d,x,hn,hpo,H,hp,nN,rfl⟩
 | WM=>exact⟨p,d,x,hn,hpo,H,hp,nN,rfl⟩
 | SH=>
  obtain⟨hd,B,rfl⟩:=iV;by_cases h0:x.v=0
  ·exact⟨.seen,d,x,by rw[show s'=_ from hn,if_pos h0],by simp,(H.asg h0).1,fun t e=>(by cases e),nN,rfl⟩
  exact⟨.wt (some x.v) x.v,d,x,by rw[show s'=_ from hn,if_neg h0],by simp,H.ash.1,fun t e=>(by cases e),nN,rfl⟩
 | Z_ o=>
  obtain⟨hd,h0,B,rfl⟩:=iV;by_cases he:x.v=o
  ·have hr:=H.reg he h0;have fP:({x with w:=1}:xP).st=x.st+1:=by simp only[xP.st];omega
   refine⟨.reg,d,{x with w:=1},by rw[show s'=_ from hn,if_pos he],by simp,hr.1,fun t e=>(by cases e),?_,?_⟩
   ·simp only[tq,if_pos he];exact Tj nN fP O
   simp only[jH,if_pos he];rfl
  refine⟨.wt none o,d,x,by rw[show s'=_ from hn,if_neg he],by simp,(H.av8 he).1,fun t e=>(by cases e),?_,?_⟩
  ·simp only[tq,if_neg he];exact nN
  simp only[jH,if_neg he];rfl
 | Ov=>exact⟨p,d,x,hn,hpo,H,hp,nN,rfl⟩
 | L_=>
  obtain⟨hd,rfl⟩:=iV;have h0:x.ws≠0:=Eo;refine⟨.seen,d,{x with ws:=x.ws-1},hn,by simp,H.take aj,fun t e=>(by cases e),ais nN rfl rfl,?_⟩;simp[deafBehind,jH,FN,yw,FM,Kt]
 | WO=>exact⟨p,d,x,hn,hpo,H,hp,nN,rfl⟩
 | Qo=>exact absurd rfl ha
 | _=>exact iV.elim
theorem apl{x:xP}{G:Grp}{d:Nat}(iV:oP a (.wg p d))(ha:a≠ .Qo):∀e∈jH G a x,(∀c,MemAct.ofEvent e≠ .mark (.release c))/\∀y,(MemAct.ofEvent e).touch? =some y->y.kind≠ .plain/\In y.loc G.Wg/\∀b',In y.loc b'->b'=G.Wg:=by
 have hm:∀m,(∀a,m≠ .release a)->(MemAct.ofEvent (yw m)).touch? =none->(∀c,MemAct.ofEvent (yw m)≠ .mark (.release c))/\∀y,(MemAct.ofEvent (yw m)).touch? =some y->y.kind≠ .plain/\In y.loc G.Wg/\∀b',In y.loc b'->b'=G.Wg:=fun m h1 h2=>⟨fun c e=>by
  have e:MemAct.mark m= .mark (.release c):=e;injection e with e;exact h1 c e,fun y hy=>by rw[h2]at hy;cases hy⟩
 have hr:∀c:Addr,c.block=G.Wg->(∀c',MemAct.ofEvent (FM c)≠ .mark (.release c'))/\∀y,(MemAct.ofEvent (FM c)).touch? =some y->y.kind≠ .plain/\In y.loc G.Wg/\∀b',In y.loc b'->b'=G.Wg:=fun c hc=>⟨fun c' e=>(by cases e),fun y hy=>by
  simp only[FM,MemAct.ofEvent,MemAct.touch?,dY]at hy;subst hy;exact⟨by simp,hc,fun b' e=>e.symm.trans hc⟩⟩
 have hw:∀c:Addr,c.block=G.Wg->(∀c',MemAct.ofEvent (Kt c)≠ .mark (.release c'))/\∀y,(MemAct.ofEvent (Kt c)).touch? =some y->y.kind≠ .plain/\In y.loc G.Wg/\∀b',In y.loc b'->b'=G.Wg:=fun c hc=>⟨fun c' e=>(by cases e),fun y hy=>by
  simp only[Kt,MemAct.ofEvent,MemAct.touch?,dY]at hy;subst hy;exact⟨by simp,hc,fun b' e=>e.symm.trans hc⟩⟩
 have hsr:∀c:Addr,c.block=G.Wg->(∀c',MemAct.ofEvent (yw (.read c))≠ .mark (.release c'))/\∀y,(MemAct.ofEvent (yw (.read c))).touch? =some y->y.kind≠ .plain/\In y.loc G.Wg/\∀b',In y.loc b'->b'=G.Wg:=fun c hc=>⟨fun c' e=>(by cases e),fun y hy=>by
  simp only[yw,MemAct.ofEvent,MemAct.touch?,dY]at hy;subst hy;exact⟨by simp,hc,fun b' e=>e.symm.trans hc⟩⟩
 have hsw:∀c:Addr,c.block=G.Wg->(∀c',MemAct.ofEvent (yw (.write c))≠ .mark (.release c'))/\∀y,(MemAct.ofEvent (yw (.write c))).touch? =some y->y.kind≠ .plain/\In y.loc G.Wg/\∀b',In y.loc b'->b'=G.Wg:=fun c hc=>⟨fun c' e=>(by cases e),fun y hy=>by
  simp only[yw,MemAct.ofEvent,MemAct.touch?,dY]at hy;subst hy;exact⟨by simp,hc,fun b' e=>e.symm.trans hc⟩⟩
 have hd:=hm .disable (by simp) O;have hn:=hm .enable (by simp) O;intro e he
 cases a with
 | Kr=>simp[jH]at he;subst he;exact hd
 | en=>simp[jH]at he;subst he;exact hn
 | acZ=>simp[jH]at he;subst he;exact hd
 | Z9=>simp[jH]at he;rcases he with rfl | rfl;exact hr _ rfl;exact hw _ rfl
 | Ym=>simp[jH]at he
 | WM=>simp[jH]at he;subst he;exact hsr _ rfl
 | SH=>simp[jH]at he;subst he;exact hr _ rfl
 | Z_ o=>
  simp only[jH]at he;split at he <;>simp at he
  ·rcases he with rfl | rfl;exact hr _ rfl;exact hw _ rfl
  subst he;exact hr _ O
 | Ov=>simp[jH]at he;subst he;exact hsw _ rfl
 | L_=>simp[jH,FN]at he;rcases he with rfl | rfl | rfl | rfl;exact hd;exact hr _ rfl;exact hw _ rfl;exact hn
 | WO=>simp[jH]at he;subst he;exact hr _ rfl
 | Qo=>exact absurd rfl ha
 | _=>exact iV.elim
theorem apm{x:xP}{G:Grp}{d:Nat}(iV:oP a (.wg p d)):OA G.Wg w (tq G a x w):=by
 cases a with
 | Z9=>exact OA.set _ (jY G.Wg) _
 | Z_ o=>simp only[tq];split;exact OA.set _ (jY G.Wg) _;exact .refl _ _
 | L_=>exact OA.set _ (yY G.Wg) _
 | Ym=>exact .refl _ _
 | Kr=>exact .refl _ _
 | en=>exact .refl _ _
 | acZ=>exact .refl _ _
 | WM=>exact .refl _ _
 | SH=>exact .refl _ _
 | Ov=>exact .refl _ _
 | WO=>exact .refl _ _
 | Qo=>exact .refl _ _
 | _=>exact iV.elim


theorem MS.awu[Base](I:MS P gs w t dG k₀ aH (some o) ks)(iV:oP a (.wg o.p dG))(ha:a≠ .Qo)(hpo:o.p≠ .out)(Eo:¬yZ a o.x)(hn:Jh a (.wg o.p dG) o.x s'):
  ∃(p':MP) (d':Nat) (x':xP),s'= .wg p' d'/\p'≠ .out/\(∀(b:Nat) (ob:Obj),w.heap[b]? =some ob->ob.isChan=true->(tq o.γ.toGrp a o.x w).heap[b]? =some ob)/\∀(gs':Array Goroutine) (fn:FuncId) (pos:String),gs'.size=gs.size->(∀m,0<m->gs'[m]? =gs[m]?)->
   MS P gs' (tq o.γ.toGrp a o.x w) (t++MemOp.ofEvents 0 fn pos (jH o.γ.toGrp a o.x)) d' k₀ aH (some {o with p:=p',x:=x'}) ks:=by
 have G:=I.Td o O;obtain⟨p',d',x',rfl,aiw,hN,hp',nN,DZ⟩:=apk G.wok G.tok G.at_ iV ha hpo Eo hn;have fK:=I.anJ O;have hE:=apl (x:=o.x) (G:=o.γ.toGrp) iV ha;have We:=apm (x:=o.x) (w:=w) (G:=o.γ.toGrp) iV;have hWg:=G.at_;unfold Ku at hWg;have um:∀{b:Nat} {ob:Obj},w.heap[b]? =some ob->ob.isChan=true->b≠o.γ.Wg:=fun hb hc e=>by rw[e,hWg]at hb;cases hb;cases hc
 refine⟨p',d',x',O,aiw,fun b ob hb hc=>by rw[We.off b (um hb hc)];exact hb,fun gs' fn pos hs hgo=>?_⟩;have alA:∀op∈MemOp.ofEvents 0 fn pos (jH o.γ.toGrp a o.x),op.g=0:=fun op aY=>ofEvents_g op aY
 have hot:∀op∈MemOp.ofEvents 0 fn pos (jH o.γ.toGrp a o.x),∀y,op.act.touch? =some y->y.kind≠ .plain/\In y.loc o.γ.Wg/\∀b',In y.loc b'->b'=o.γ.Wg:=fun op aY y hy=>by
  obtain⟨e,he,rfl⟩:=mem_ofEvents aY;exact(hE e he).2 y hy
 have S:Vs t 0 w.heap.size (MemOp.ofEvents 0 fn pos (jH o.γ.toGrp a o.x)):=⟨alA,fun op aY y hy=>by
  obtain⟨h1,h2,h3⟩:=hot op aY y hy;exact⟨h1,fun _=>rfl,o.γ.Wg,h2,h3,fK,G.plk⟩,fun op aY c=>by
  obtain⟨e,he,rfl⟩:=mem_ofEvents aY;exact(hE e he).1 c⟩
 have nt:∀{b},b≠o.γ.Wg->∀op∈MemOp.ofEvents 0 fn pos (jH o.γ.toGrp a o.x),∀y,op.act.touch? =some y->¬In y.loc b:=fun hb op aY y hy hl=>hb ((hot op aY y hy).2.2 _ hl);refine⟨by rw[hs,I.size],?_,fun b hb GN=>?_,fun i y hi=>?_,I.one,I.has,fun o' h=>?_,fun h=>(by cases h),I.Kv,I.base.asn We G.low,I.low,I.Kw,fun gn k M b c po h1 h2=>by obtain⟨o',h3,_,h4,h5⟩:=I.vX gn k M b c po h1 h2;cases h3;exact⟨_,rfl,aiw,h4,h5⟩⟩
 ·rw[show LJ (some {o with p:=p',x:=x'})=LJ (some o)from anN ⟨fun _=>hpo,fun _=>aiw⟩];refine I.Y.afT (tch:=fun b=>b=o.γ.Wg) aj (Nat.le_refl _) We.size (fun b hb=>We.off b hb) S (fun op aY y hy b hl=>(hot op aY y hy).2.2 b hl) (fun b y k M ob hb hy ho=>by subst hb;have:=I.Y.AV _ y k M ob ⟨o,rfl,.inl rfl⟩ hy ho;exact⟨eP this,.inl this,fun c po e=>by obtain⟨o2,e1,_,e2,_⟩:=I.vX y k M _ c po hy (e▸ho);cases e1;exact G.Vu e2.symm⟩) fun g=>?_;rw[aan (d:=dG)];by_cases hg:g=0
  ·subst hg;rw[if_pos O,Deaf_own,I.Y.tk.deaf,zi];exact DZ
  rw[if_neg hg,Deaf_other t (Ne.symm hg) _ alA];exact I.Y.tk.deaf g
 ·obtain⟨h1,h2⟩:=I.new b hb GN;have Qq:=um h2 O;exact⟨h1.app fun op aY y hy hl=>absurd hl (nt Qq op aY y hy),by rw[We.off b Qq];exact h2⟩
 ·obtain⟨g,h1,h2⟩:=I.Cc i y hi;refine⟨g,by rw[hgo (i+1) aj];exact h1,h2.keep (fun o' h=>⟨_,rfl,by cases h;rfl⟩) (fun c hc ob hb hob=>by rw[We.off c (um hb hob)];exact hb) (fun _ _=>rfl) (fun _ _ _ h=>h) (fun op aY=>by rw[alA op aY];omega) (fun c hc op aY a' YD hp=>absurd hp (hot op aY a' YD).1) (fun o' _ op aY a' YD hp=>absurd hp (hot op aY a' YD).1) fun b ob hb=>?_⟩;have Qq:=(I.OL (MJ hi hb)).1;exact⟨We.off b Qq,nt Qq⟩
 cases h
 exact⟨hN,G.num,hp',nN,G.plk.app fun op aY y hy hl hp=>absurd hp (hot op aY y hy).1,G.asu,G.low,G.Vu,G.ac6,fun _=>by rw[We.off _ G.Vu];exact G.xat hpo,fun _=>CU (o':={o with p:=p',x:=x'}) (G.ac7 hpo) rfl (fun i x h1 h2=>⟨x,h1,h2⟩) fun op aY _ _ _=>.inl (alA op aY)⟩
end
end Go.jc

namespace Go.jc
open Go.Conc (noRace_append crowd parked rcase scase QuitsIn QuitsD Before Knows knows_own touchAt touchAt_of touchAt_old getElem?_append_old getElem?_append_cases lt_size_of_getElem? touch_of hb_po hb_app ofEvents_eq woken Deaf deaf_old g?_old act?_old heard_old lt_of_act? Deaf_own Deaf_other counts_old deaf_inside)
open Go.ConcN (RelBy)
variable{X m:Nat}{c:Array Value}{fX:Nat×Nat}{tX:TypeId}{z:MemOp}
section
variable{P:Program}{γ:GP}{gs gs':Array Goroutine}{w w':World}{t u:Trace}{k k' k₀ fU:Hp}{M M' aH:Nat->Prop}{ks:List (KS P)}{d d' dG i j n gn:Nat}{fn:FuncId}{pos:String}{dv:Nat->Nat}{pr:Prs}{sh nU:Nat->Prop}{o:OG}
theorem TK.one{size:Nat}{a:Touch}(h:TK t n size dv)(hn:z.g<n)(ha:z.act.touch? =some a)(hk:a.kind= .plain)(hl:∀b,In a.loc b->b<size)(hc:∀i a',touchAt t i=some a'->a'.loc=a.loc->Knows t z.g i)(hm:∀m,z.act≠ .mark m):TK (t++ #[z]) n size dv:=by
 refine⟨fun op aY a Vf=>?_,fun said=>noRace_append (h.clean said) (fun op aY=>by rw[iU aY]) fun i a' YD op aY b hb hcf=>?_,fun i a' b YD hb=>?_,fun op aY=>?_,fun g=>?_,SL h.said fun op aY a' YD hs=>?_⟩
 ·rcases Array.mem_append.1 aY with h1 | h1
  ·exact h.norel op h1 a Vf
  rw[iU h1]at Vf;exact absurd Vf (hm _)
 ·rw[iU aY,ha]at hb
  cases hb
  exact hc i a' YD hcf.1
 ·rcases jM YD with⟨_,h1⟩ | ⟨op,_,hmm,h1⟩
  ·exact h.below i a' b h1 hb
  rw[iU hmm,ha]at h1;cases h1;exact hl b hb
 ·rcases Array.mem_append.1 aY with h1 | h1
  ·exact h.who op h1
  rw[iU h1];exact hn
 ·rw[Go.ConcN.Deaf_still t g _ fun op h=>(by rw[iU h];exact⟨hm _,hm _⟩)];exact h.deaf g
 rw[iU aY,ha]at YD;cases YD;rw[hk]at hs;cases hs

theorem Ep{q:Nat}{v:Value}(h:w.heap[X]? =some (.cells c tX fX)):(w.setCell ⟨X,q,none⟩ v).heap[X]? =some (.cells (c.setIfInBounds q v) tX fX):=Ei h
theorem LY.Oz{q:Nat}{v:Value}(Y:LY w t n dv pr sh nU)(hn:0<n)(hX:sh X)(hp:pr 0=some (k₀,aH))(hk:k₀ X=some (bn c m))(hw:w.heap[X]? =some (.cells c tX fX))(hv:∀x k M c' po,x≠0->pr x=some (k,M)->k X=some (bn c' po)->po=q)
  (vI:∀i a,touchAt t i=some a->a.loc= .cell ⟨X,q,none⟩->Knows t 0 i) (hz:z.g=0) (hza:z.act.touch? =some ⟨.cell ⟨X,q,none⟩,true,.plain⟩) (hzm:∀m,z.act≠ .mark m):
  LY (w.setCell ⟨X,q,none⟩ v) (t++ #[z]) n dv (vJ pr 0 (some (dM k₀ X (bn (c.setIfInBounds q v) m),aH))) sh nU:=by
 have K:=Y.xQ 0 k₀ aH hp;have xR:∀b,b≠X->(w.setCell ⟨X,q,none⟩ v).heap[b]? =w.heap[b]? :=fun b hb=>wX hb
 have Gn:∀op∈ #[z],∀a,op.act.touch? =some a->a.loc= .cell ⟨X,q,none⟩/\op.g=0:=fun op aY a ha=>by
  rw[iU aY,hza]at ha;cases ha;exact⟨rfl,by rw[iU aY,hz]⟩
 have hfr:∀{x k M},pr x=some (k,M)->∀b,(k b).isSome=true->lI (k b)=false->b≠X:=fun h b hs hc e=>by
  subst e;obtain⟨y,hy⟩:=iJ.1 hs;rw[hy,qP,eP (Y.AV _ _ _ _ y hX h hy)]at hc;cases hc
 have hC:∀b,lI (dM k₀ X (bn (c.setIfInBounds q v) m) b)=lI (k₀ b)/\(dM k₀ X (bn (c.setIfInBounds q v) m) b).isSome=(k₀ b).isSome:=fun b=>Md hk O O
 have mg:∀{x k1 M1},vJ pr 0 (some (dM k₀ X (bn (c.setIfInBounds q v) m),aH)) x=some (k1,M1)->(x=0/\k1=dM k₀ X (bn (c.setIfInBounds q v) m)/\M1=aH)\/(x≠0/\pr x=some (k1,M1)):=by
  intro x k1 M1 h;by_cases hx:x=0
  ·subst hx;rw[iP]at h;cases h;exact .inl ⟨rfl,rfl,rfl⟩
  rw[jZ hx]at h;exact .inr ⟨hx,h⟩
 refine⟨by rw[show(w.setCell ⟨X,q,none⟩ v).heap.size=w.heap.size from qh];exact Y.tk.one (by rw[hz];exact hn) hza O (fun b hb=>hb▸Y.lt X (.inl hX)) (fun i a ha hl=>by rw[hz];exact vI i a ha hl) hzm,fun x k1 M1 h=>?_,fun x y k1 M1 k2 M2 MB e1 e2=>?_,fun b x k1 M1 y hb h hy=>?_,fun b x k1 M1 y h hy hyf=>?_,fun b x k1 M1 hb h=>?_,fun b hb=>?_⟩
 ·rcases mg h with⟨rfl,rfl,rfl⟩ | ⟨hx,hq⟩
  ·refine⟨fun b y hy=>?_,fun b hb=>(by rw[(hC b).2];exact K.qC b hb),fun b hb hc=>(K.own b hb (by rw[<-(hC b).1];exact hc)).app fun op aY a ha _=>(Gn op aY a ha).2,fun b hb hc=>(K.rd b (by rw[<-(hC b).2];exact hb) (by rw[<-(hC b).1];exact hc)).app fun op aY a ha _ _=>(Gn op aY a ha).2,fun b c' po off hb h1 h2=>?_⟩
   ·rcases aZ hy with⟨rfl,rfl⟩ | ⟨h1,h2⟩
    ·refine⟨_,Ep hw,.inr ⟨O,.inr O⟩,fun c' po e=>?_⟩;simp only[bn,Obj.chan.injEq]at e;obtain⟨_,rfl,_⟩:=e;exact⟨_,_,_,O,fun _ _ _=>rfl⟩
    obtain⟨y',h3,h4⟩:=K.rO b y h2;exact⟨y',by rw[xR b h1];exact h3,h4⟩
   refine RdC.app ?_ fun op aY a ha _ _=>(Gn op aY a ha).2;rcases aZ hb with⟨rfl,h3⟩ | ⟨_,h3⟩
   ·simp only[bn,Obj.chan.injEq]at h3;obtain⟨_,rfl,_,rfl,_⟩:=h3;rw[Array.size_setIfInBounds]at h1;exact K.vw _ c po off hk h1 h2
   exact K.vw b c' po off h3 h1 h2
  have K':=Y.xQ x k1 M1 hq;refine⟨fun b y hy=>?_,K'.qC,fun b hb hc=>(K'.own b hb hc).app fun op aY a ha hl=>?_,fun b hb hc=>(K'.rd b hb hc).app fun op aY a ha hl=>?_,fun b c' po off hb h1 h2=>(K'.vw b c' po off hb h1 h2).app fun op aY a ha hl=>?_⟩
  ·obtain⟨y',h3,h4,h5⟩:=K'.rO b y hy;by_cases hb:b=X
   ·subst hb;have hyf:=Y.AV _ x k1 M1 y hX hq hy;refine⟨_,Ep hw,.inr ⟨eP hyf,.inr hyf⟩,fun c' po e=>?_⟩;obtain⟨c2,e2,fz,h6,h7⟩:=h5 c' po e;rw[hw]at h3;cases h3;cases h6;have:=hv x k1 M1 c' po hx hq (by rw[hy,e]);exact⟨_,_,_,O,fun i hi iK=>by rw[kM aj];exact h7 i hi iK⟩
   exact⟨y',by rw[xR b hb];exact h3,h4,h5⟩
  ·rw[(Gn op aY a ha).1]at hl;exact absurd hl.symm (hfr hq b (K'.qC b hb) hc)
  ·rw[(Gn op aY a ha).1]at hl;exact absurd hl.symm (hfr hq b hb hc)
  rw[(Gn op aY a ha).1]at hl;injection hl with hl
  injection hl with hl1 hl2 _
  subst hl1;exact absurd (hv x k1 M1 c' po hx hq hb) aj
 ·rcases mg e1 with⟨rfl,rfl,rfl⟩ | ⟨hx,q1⟩ <;>rcases mg e2 with⟨rfl,rfl,rfl⟩ | ⟨hy,q2⟩
  ·exact absurd O MB
  ·exact Y.apart 0 y k₀ _ k2 M2 MB hp q2
  ·exact fun b hb hs=>by rw[(hC b).1];exact Y.apart x 0 k1 M1 k₀ _ MB q1 hp b hb (by rw[<-(hC b).2];exact hs)
  exact Y.apart x y k1 M1 k2 M2 MB q1 q2
 ·rcases mg h with⟨rfl,rfl,rfl⟩ | ⟨_,h⟩
  ·rcases aZ hy with⟨_,rfl⟩ | ⟨_,h2⟩
   ·rfl
   exact Y.AV b 0 k₀ _ y hb hp h2
  exact Y.AV b x k1 M1 y hb h hy
 ·rcases mg h with⟨rfl,rfl,rfl⟩ | ⟨_,h⟩
  ·rcases aZ hy with⟨rfl,_⟩ | ⟨_,h2⟩
   ·exact hX
   exact Y.fk b 0 k₀ _ y hp h2 hyf
  exact Y.fk b x k1 M1 y h hy hyf
 ·rcases mg h with⟨rfl,rfl,rfl⟩ | ⟨_,h⟩
  ·have:=Y.tC b 0 k₀ _ hb hp;rw[bJ _ _ fun e=>by rw[e,hk]at this;cases this];exact this
  exact Y.tC b x k1 M1 hb h
 rw[show(w.setCell ⟨X,q,none⟩ v).heap.size=w.heap.size from qh];exact Y.lt b hb

theorem MS.Oz[Base]{v:Value}(I:MS P gs w t dG k₀ aH (some o) ks)(LK:o.p≠ .out)(hk:k₀ o.γ.X=some (bn o.xc m))(hs:gs'.size=gs.size)(hgo:∀m,0<m->gs'[m]? =gs[m]?):
  MS P gs' (w.setCell o.γ.hole v) (t++MemOp.ofEvents 0 fn pos #[⟨.cell o.γ.hole,true,false⟩]) dG (dM k₀ o.γ.X (bn (o.xc.setIfInBounds o.γ.q v) m)) aH (some {o with xc:=o.xc.setIfInBounds o.γ.q v}) ks:=by
 have G:=I.Td o O;have hw:=G.xat LK;have yu:LJ (some o) o.γ.X:=⟨o,O,.inr ⟨O,LK⟩⟩
 have e0:MemOp.ofEvents 0 fn pos #[⟨.cell o.γ.hole,true,false⟩]= #[{g:=0,fn,pos,act:=.access ⟨.cell o.γ.hole,true,false⟩}]:=by rw[ofEvents_eq];simp[MemAct.ofEvent]
 rw[e0]
 have Gn:∀op∈ #[({g:=0,fn,pos,act:=.access ⟨.cell o.γ.hole,true,false⟩}:MemOp)],∀a,op.act.touch? =some a->(∀b,In a.loc b->b=o.γ.X):=fun op aY a ha b hb=>by
  rw[iU aY]at ha;simp only[MemAct.touch?,dY]at ha;subst ha;exact hb.symm
 have hg0:∀op∈ #[({g:=0,fn,pos,act:=.access ⟨.cell o.γ.hole,true,false⟩}:MemOp)],op.g=0:=fun op aY=>by rw[iU aY]
 have xR:∀b,b≠o.γ.X->(w.setCell o.γ.hole v).heap[b]? =w.heap[b]? :=fun b hb=>wX hb;have um:∀{b:Nat} {ob:Obj},w.heap[b]? =some ob->ob.isChan=true->b≠o.γ.X:=fun hb hc e=>by rw[e,hw]at hb;cases hb;cases hc
 have hX:∀{i:Nat} {y:KS P} {c:Nat},ks[i]? =some y->y.ch=some c->c≠o.γ.X:=fun hi hc e=>by
  obtain⟨g,_,h2⟩:=I.Cc _ _ hi;obtain⟨ob,h3,h4⟩:=I.heap h2 hc;exact um h3 h4 e
 refine⟨by rw[hs,I.size],?_,fun b hb hn=>?_,fun i y hi=>?_,I.one,fun c l hc hl=>?_,fun o' h=>?_,fun h=>(by cases h),I.Kv,I.base.off rfl rfl rfl qh fun b hb=>xR b fun e=>by have:=G.ac6;omega,fun gn k M b hp hb=>?_,I.Kw,fun gn k M b c po hp hb=>?_⟩
 ·have e:LJ (some {o with xc:=o.xc.setIfInBounds o.γ.q v})=LJ (some o):=by
   funext b;apply propext;exact⟨fun⟨o',h1,h2⟩=>⟨o,rfl,by cases h1;exact h2⟩,fun⟨o',h1,h2⟩=>⟨_,rfl,by cases h1;exact h2⟩⟩
  rw[e];refine(I.Y.Oz (X:=o.γ.X) (q:=o.γ.q) (v:=v) aj yu aW hk hw (fun x k M c' po hx h1 h2=>?_) (fun i a ha hl=>?_) O O (by simp)).Eh fun g=>zh g
  ·obtain⟨o',h3,_,_,h4⟩:=I.vX x k M _ c' po h1 h2
   cases h3;exact h4 hx
  exact(G.ac7 LK i a ha (by rw[hl];rfl)).resolve_right fun h=>h.2.2.1 hl
 ·rcases aZ hn with⟨_,h⟩ | ⟨_,h⟩
  ·exfalso;simp[bn,sZ]at h
  obtain⟨h1,h2⟩:=I.new b hb h;have QZ:=um h2 O;exact⟨h1.app fun op aY a ha hl=>absurd (Gn op aY a ha b hl) QZ,by rw[xR b QZ];exact h2⟩
 ·obtain⟨g,h1,h2⟩:=I.Cc i y hi;refine⟨g,by rw[hgo (i+1) aj];exact h1,h2.keep (fun o' h=>⟨_,rfl,by cases h;rfl⟩) (fun c hc ob hb hob=>by rw[xR c (um hb hob)];exact hb) (fun c hc=>bJ _ _ (hX hi hc)) (fun _ _ _ h=>h) (fun op aY=>by rw[hg0 op aY];omega) (fun c hc op aY a ha _ hl=>hX hi hc (Gn op aY a ha c hl)) (fun o' h op aY a ha _ hl=>by cases h;exact G.Vu (Gn op aY a ha _ hl).symm) fun b ob hb=>?_⟩;have QZ:=(I.OL (MJ hi hb)).2;exact⟨xR b QZ,fun op aY a ha hl=>QZ (Gn op aY a ha b hl)⟩
 ·rcases aZ hl with⟨_,h⟩ | ⟨_,h⟩
  ·exfalso;simp[bn,mO]at h
  exact I.has c l hc h
 ·cases h
  exact⟨G.wok,G.num,G.tok,by have:=G.at_;unfold Ku at this⊢;rw[xR _ G.Vu.symm];exact this,G.plk.app fun op aY a ha hl _=>absurd (Gn op aY a ha _ hl).symm G.Vu,G.asu,G.low,G.Vu,G.ac6,fun _=>Ep hw,fun _=>CU (o':={o with xc:=o.xc.setIfInBounds o.γ.q v}) (G.ac7 LK) rfl (fun i x h1 h2=>⟨x,h1,h2⟩) fun op aY _ _ _=>.inl (hg0 op aY)⟩
 ·rcases fV hp with⟨rfl,rfl,rfl⟩ | ⟨j,y,rfl,hj,hy⟩
  ·exact I.low 0 k₀ _ b aW hb
  exact I.low _ k M b (by rw[iY hj];exact hy) hb
 rcases fV hp with⟨rfl,rfl,rfl⟩ | ⟨j,y,rfl,hj,hy⟩
 ·rcases aZ hb with⟨h,_⟩ | ⟨_,h⟩
  ·exact⟨_,O,LK,h,fun h=>absurd O h⟩
  obtain⟨o',h3,_,h4⟩:=I.vX 0 k₀ _ b c po aW h
  cases h3;exact⟨_,rfl,LK,h4⟩
 obtain⟨o',h3,_,h4⟩:=I.vX _ k M b c po ((iY hj).trans hy) hb
 cases h3;exact⟨_,rfl,LK,h4⟩
end
end Go.jc

namespace Go.jc
open Go.Conc (crowd parked rcase scase QuitsIn QuitsD Before Knows knows_own touchAt touchAt_of touchAt_old getElem?_append_old getElem?_append_cases lt_size_of_getElem? touch_of hb_po hb_app ofEvents_eq woken Deaf deaf_old g?_old act?_old heard_old lt_of_act? Deaf_own Deaf_other counts_old deaf_inside)
open Go.ConcN (RelBy)
def KS.uo{P:Program}:KS P->KS P
 | .gone _ _ n d=>.quit none n d
 | x=>x
def KS.back{P:Program}:KS P->Option (Nat×ah)
 | .gone j A _ _=>some (j,A)
 | _=>none
def KS.Tq{P:Program}(x:KS P):Prop:=(∃j A n d,x= .gone j A n d)\/x.wr=none
variable{o':Obj}
section
variable{P:Program}{γ:GP}{gs gs':Array Goroutine}{w w':World}{t u:Trace}{k k' k₀ fU:Hp}{M M' aH:Nat->Prop}{ks:List (KS P)}{d d' dG i j n gn:Nat}{g g':Goroutine}{x x':KS P}{es:Array Event}{fn:FuncId}{pos:String}{dv:Nat->Nat}{pr:Prs}{sh nU:Nat->Prop}{o:OG}
theorem KS.sO(h:x.Tq):x.uo.ch=x.ch/\x.uo.act=x.act/\x.uo.deaf=x.deaf/\x.uo.wr=none/\x.uo.Cb=none/\x.uo.OE=[]:=by
 rcases h with⟨j,A,n,d,rfl⟩ | h
 ·exact⟨O,O,O,O,O,O⟩
 cases x <;>first | exact⟨rfl,rfl,rfl,rfl,rfl,rfl⟩ | cases h
theorem aau:∀{ks:List (KS P)},(∀x∈ks,x.Tq)->((ks.filterMap KS.back).map (·.2)).flatten=(ks.map KS.OE).flatten
 | [],_=>rfl
 | x::l,h=>by
  have ih:=aau (ks:=l) fun y hy=>h y (dH _ hy);rcases h x (bT ..)with⟨j,A,n,d,rfl⟩ | h1
  ·simp[KS.back,KS.OE,ih]
  cases x <;>first | exact ih | cases h1
theorem Tt:∀{ks:List (KS P)},(∀x∈ks,x.Tq)->(ks.filterMap KS.back).map (·.1)=ks.filterMap KS.Cb
 | [],_=>rfl
 | x::l,h=>by
  have ih:=Tt (ks:=l) fun y hy=>h y (dH _ hy);rcases h x (bT ..)with⟨j,A,n,d,rfl⟩ | h1
  ·simp[KS.back,KS.Cb,ih]
  cases x <;>first | exact ih | cases h1
theorem LY.join{E:ah}{W:Nat}(Y:LY w t n dv pr sh nU)(hp:pr 0=some (k₀,aH))(hE:∀b o,(b,o)∈E->nU b/\w.heap[b]? =some o/\o.isChan=false/\Own t 0 b)(hW:∃o,k₀ W=some o)(yu:sh W)(awv:∀b o,(b,o)∈E->¬sh b)(hf:ji o'=true)(hov:∀c po,o'≠bn c po)(alo:∀b,nU b->∃o,(b,o)∈E):
  LY w t n dv (vJ pr 0 (some (dM (qN k₀ E) W o',fun b=>aH b\/∃o,(b,o)∈E))) sh (fun _=>False):=by
 have K:=Y.xQ 0 k₀ aH hp;have Og:=eP hf
 have hEW:∀b o,(b,o)∈E->b≠W:=fun b o hb e=>by
  obtain⟨o2,h2⟩:=hW;have:=Y.tC b 0 k₀ aH (hE b o hb).1 hp;rw[e,h2]at this;cases this
 have aiy:∀b o,dM (qN k₀ E) W o' b=some o->(b=W/\o=o')\/(b≠W/\(b,o)∈E)\/(b≠W/\k₀ b=some o):=fun b o h=>by
  rcases aZ h with h | ⟨h1,h⟩
  ·exact .inl h
  simp only[qN]at h
  cases e:E.lookup b with
  | none=>rw[e]at h;exact .inr (.inr ⟨h1,h⟩)
  | some o2=>rw[e]at h;cases h;exact .inr (.inl ⟨h1,jO e⟩)
 have WS:∀b o,k₀ b=some o->b≠W->dM (qN k₀ E) W o' b=some o:=fun b o h hb=>by
  rw[bJ _ _ hb];simp only[qN]
  cases e:E.lookup b with
  | none=>exact h
  | some o2=>have:=Y.tC b 0 k₀ aH (hE b o2 (jO e)).1 hp;rw[h]at this;cases this
 have Y1:LY w t n dv pr sh (fun _=>False):=Y.re (fun b g k M o h ho=>⟨fun hb=>Y.AV b g k M o hb h ho,Y.fk b g k M o h ho⟩) (fun b g k M hb _=>hb.elim) fun b hb=>Y.lt b (.inl (hb.resolve_right fun h=>h));refine Y1.set ⟨fun b o ho=>?_,fun b hb=>?_,fun b hb hc=>?_,fun b hb hc=>?_,fun b c po off hb h1 h2=>?_⟩ (fun x k1 M1 hx h1=>⟨fun b hb hs=>?_,fun b hb hs=>?_⟩) (fun b o ho=>?_) fun b hb=>hb.elim
 ·rcases aiy b o ho with⟨rfl,rfl⟩ | ⟨_,h⟩ | ⟨_,h⟩
  ·obtain⟨o2,h2⟩:=hW;obtain⟨y,h3,_⟩:=K.rO _ _ h2;exact⟨y,h3,.inr ⟨Og,.inr hf⟩,.of hov⟩
  ·exact⟨o,(hE b o h).2.1,.inl O,.nc (hE b o h).2.2.1⟩
  exact K.rO b o h
 ·by_cases Qq:b=W
  ·rw[Qq,bP];rfl
  rcases hb with hb | ⟨o,hb⟩
  ·obtain⟨o,ho⟩:=iJ.1 (K.qC b hb);rw[WS b o ho Qq];rfl
  rw[bJ _ _ Qq];simp only[qN];obtain⟨o2,h2⟩:=iJ.1 (AU hb);rw[h2];rfl
 ·rcases hb with hb | ⟨o,hb⟩
  ·obtain⟨o,ho⟩:=iJ.1 (K.qC b hb);by_cases Qq:b=W
   ·rw[Qq,bP,qP,Og]at hc;cases hc
   rw[WS b o ho Qq]at hc;exact K.own b hb (by rw[ho];exact hc)
  exact(hE b o hb).2.2.2
 ·obtain⟨o,ho⟩:=iJ.1 hb;rw[ho]at hc;rcases aiy b o ho with⟨rfl,rfl⟩ | ⟨_,h⟩ | ⟨_,h⟩
  ·rw[qP,Og]at hc;cases hc
  ·exact(hE b o h).2.2.2.rd
  exact K.rd b (by rw[h];rfl) (by rw[h];exact hc)
 ·rcases aiy b _ hb with⟨_,h⟩ | ⟨_,h⟩ | ⟨_,h⟩
  ·exact absurd h.symm (hov _ _)
  ·have:=(hE b _ h).2.2.1;cases this
  exact K.vw b c po off h h1 h2
 ·rcases hb with hb | ⟨o,hb⟩
  ·exact Y.apart 0 x k₀ aH k1 M1 (Ne.symm hx) hp h1 b hb hs
  rw[Y.tC b x k1 M1 (hE b o hb).1 h1]at hs;cases hs
 ·obtain⟨o,ho⟩:=iJ.1 hs;rcases aiy b o ho with⟨rfl,rfl⟩ | ⟨_,h⟩ | ⟨_,h⟩
  ·rw[ho];exact Og
  ·have:=(Y.xQ x k1 M1 h1).qC b hb;rw[Y.tC b x k1 M1 (hE b o h).1 h1]at this;cases this
  have:=Y.apart x 0 k1 M1 k₀ aH hx h1 hp b hb (by rw[h];rfl);rw[h]at this;rw[ho];exact this
 rcases aiy b o ho with⟨rfl,rfl⟩ | ⟨hb,h⟩ | ⟨hb,h⟩
 ·exact⟨fun _=>hf,fun _=>yu⟩
 ·refine⟨fun hs=>absurd hs (awv b o h),fun h'=>?_⟩;have:=eP h';rw[(hE b o h).2.2.1]at this;cases this
 exact⟨fun hs=>Y.AV b 0 k₀ aH o hs hp h,Y.fk b 0 k₀ aH o hp h⟩

theorem LY.alC{X:Nat}{xo:Obj}(Y:LY w t n dv pr sh nU)(hp:pr 0=some (k₀,aH))(hk:k₀ X=some o')(hsX:sh X)(hw:w.heap[X]? =some xo)(hxo:xo.isChan=false)(vI:Own t 0 X)(xJ:∀x k M,x≠0->pr x=some (k,M)->k X=none):
  LY w t n dv (vJ pr 0 (some (dM k₀ X xo,aH))) (fun b=>sh b/\b≠X) nU:=by
 have K:=Y.xQ 0 k₀ aH hp
 have mg:∀{x k1 M1},vJ pr 0 (some (dM k₀ X xo,aH)) x=some (k1,M1)->(x=0/\k1=dM k₀ X xo/\M1=aH)\/(x≠0/\pr x=some (k1,M1)):=by
  intro x k1 M1 h;by_cases hx:x=0
  ·subst hx;rw[iP]at h;cases h;exact .inl ⟨rfl,rfl,rfl⟩
  rw[jZ hx]at h;exact .inr ⟨hx,h⟩
 refine⟨Y.tk,fun x k1 M1 h=>?_,fun x y k1 M1 k2 M2 MB e1 e2=>?_,fun b x k1 M1 y hb h hy=>?_,fun b x k1 M1 y h hy hyf=>?_,fun b x k1 M1 hb h=>?_,fun b hb=>Y.lt b (hb.imp (fun h=>h.1) id)⟩
 ·rcases mg h with⟨rfl,rfl,rfl⟩ | ⟨_,h⟩
  ·refine⟨fun b y hy=>?_,fun b hb=>?_,fun b hb hc=>?_,fun b hb hc=>?_,fun b c po off hb h1 h2=>?_⟩
   ·rcases aZ hy with⟨rfl,rfl⟩ | ⟨_,h2⟩
    ·exact⟨_,hw,.inl O,.nc hxo⟩
    exact K.rO b y h2
   ·by_cases QZ:b=X
    ·rw[QZ,bP];rfl
    rw[bJ _ _ QZ];exact K.qC b hb
   ·by_cases QZ:b=X
    ·rw[QZ];exact vI
    rw[bJ _ _ QZ]at hc;exact K.own b hb hc
   ·by_cases QZ:b=X
    ·rw[QZ];exact vI.rd
    rw[bJ _ _ QZ]at hb hc;exact K.rd b hb hc
   rcases aZ hb with⟨_,h3⟩ | ⟨_,h3⟩
   ·rw[<-h3]at hxo;cases hxo
   exact K.vw b c po off h3 h1 h2
  exact Y.xQ x k1 M1 h
 ·rcases mg e1 with⟨rfl,rfl,rfl⟩ | ⟨hx,q1⟩ <;>rcases mg e2 with⟨rfl,rfl,rfl⟩ | ⟨hy,q2⟩
  ·exact absurd O MB
  ·exact Y.apart 0 y k₀ _ k2 M2 MB hp q2
  ·refine fun b hb hs=>?_;by_cases QZ:b=X
   ·have:=(Y.xQ x k1 M1 q1).qC b hb;rw[QZ,xJ x k1 M1 hx q1]at this;cases this
   rw[bJ _ _ QZ]at hs⊢;exact Y.apart x 0 k1 M1 k₀ _ MB q1 hp b hb hs
  exact Y.apart x y k1 M1 k2 M2 MB q1 q2
 ·rcases mg h with⟨rfl,rfl,rfl⟩ | ⟨_,h⟩
  ·rw[bJ _ _ hb.2]at hy;exact Y.AV b 0 k₀ _ y hb.1 hp hy
  exact Y.AV b x k1 M1 y hb.1 h hy
 ·rcases mg h with⟨rfl,rfl,rfl⟩ | ⟨hx,h⟩
  ·rcases aZ hy with⟨_,h3⟩ | ⟨h2,h3⟩
   ·rw[h3]at hyf;rw[eP hyf]at hxo;cases hxo
   exact⟨Y.fk b 0 k₀ _ y hp h3 hyf,h2⟩
  exact⟨Y.fk b x k1 M1 y h hy hyf,fun e=>by rw[e,xJ x k1 M1 hx h]at hy;cases hy⟩
 rcases mg h with⟨rfl,rfl,rfl⟩ | ⟨_,h⟩
 ·have:=Y.tC b 0 k₀ _ hb hp;rw[bJ _ _ fun e=>by rw[e,hk]at this;cases this];exact this
 exact Y.tC b x k1 M1 hb h

theorem MS.shut[Base](I:MS P gs w t 0 k₀ aH (some o) ks)(hp:o.p= .seen){gw:Obj}(hk:k₀ o.γ.Wg=some gw){m:Nat}(hkX:k₀ o.γ.X=some (bn o.xc m)){z:MemOp}(hz:z.act= .mark (.acquire (jY o.γ.Wg)))(hzg:z.g=0)(kT:∀p∈ks,Acc (Fh (P:=P)) p):
  ∃(As:List ah) (ks':List (KS P)),As.length=(ks.filterMap KS.Cb).length/\(∀(i τ:Nat) (A:ah),As[i]? =some A->(ks.filterMap KS.Cb)[i]? =some τ->o.γ.R τ A)/\(As.flatten.map (·.1)).Nodup/\(∀b ob,(b,ob)∈As.flatten->k₀ b=none/\¬aH b/\ob.isChan=false)/\(∀p∈ks',Acc (Fh (P:=P)) p)/\ks'.filterMap KS.Cb=[]/\
   ∀gs':Array Goroutine,gs'.size=gs.size->(∀m,0<m->gs'[m]? =gs[m]?)->MS P gs' w (t++ #[z]) 0 (dM (dM (qN k₀ As.flatten) o.γ.Wg wW) o.γ.X (.cells o.xc o.γ.tX o.γ.fX)) (fun b=>aH b\/∃ob,(b,ob)∈As.flatten) (some {o with p:=.out}) ks':=by
 have G:=I.Td o O;have K:=I.Y.xQ 0 k₀ aH aW;have hs0:=G.wok;rw[hp]at hs0;have hs0:=hs0.asi;have LK:o.p≠ .out:=by rw[hp];simp
 have hg:∀x∈ks,x.Tq:=fun x hx=>by
  obtain⟨i,hi⟩:=List.getElem?_of_mem hx;obtain⟨g,h1,h2⟩:=I.Cc i x hi
  have zero:∀r,x.wr=some r->r= .gone:=fun r hr=>by
   have:=Yz hi hr
   cases r <;>first | rfl | (exfalso;omega)
  cases x with
  | work γ j T=>have:=zero .live rfl;cases this
  | fin γ j pre A T=>
   obtain⟨_,_,_,r,d,rfl,h3,_⟩:=h2;exact absurd (zero r O) h3
  | gone j A n d=>exact .inl ⟨j,A,n,d,rfl⟩
  | _=>exact .inr rfl
 have hd0:Deaf t z.g=0:=by rw[hzg,I.Y.tk.deaf];exact zi
 have apo:∀{i' r:Nat},RelBy (jY o.γ.Wg) t (i'+1) r->∀{n},Before t n r->Knows (t++ #[z]) 0 n:=fun hr n hb=>by
  have:=Yo I.Y.tk.norel hr.act hr.heard hz hd0 hb;rwa[hzg]at this
 have hnt:∀op∈ #[z],∀a,op.act.touch? =some a->False:=fun op aY a ha=>by rw[iU aY,hz]at ha;cases ha
 have hu:∀op∈ #[z],op.g=0:=fun op h=>by rw[iU h,hzg]
 have CV:=aau hg
 have hbk:∀b ob,(b,ob)∈((ks.filterMap KS.back).map (·.2)).flatten->∃(i j:Nat) (A:ah),(b,ob)∈A/\S_ w t o.γ i j A:=fun b ob hb=>by
  obtain⟨A,hA,hb⟩:=List.mem_flatten.1 hb;obtain⟨⟨j,A'⟩,hA',rfl⟩:=List.mem_map.1 hA;obtain⟨x,hx,Sz⟩:=List.mem_filterMap.1 hA';obtain⟨i,hi⟩:=List.getElem?_of_mem hx;obtain⟨g,h1,h2⟩:=I.Cc i x hi
  cases x with
  | gone j A n d=>cases Sz;obtain⟨_,o',e,h3⟩:=h2;cases e;exact⟨i,_,_,hb,h3⟩
  | _=>cases Sz
 have hE:∀b ob,(b,ob)∈((ks.filterMap KS.back).map (·.2)).flatten->qR ks b/\w.heap[b]? =some ob/\ob.isChan=false/\Own (t++ #[z]) 0 b:=fun b ob hb=>by
  obtain⟨i,j,A,h1,_,h3,r,h4,h5⟩:=hbk b ob hb;refine⟨⟨ob,CV▸hb⟩,(h3 b ob h1).1,(h3 b ob h1).2.1,fun n a ha hl=>?_⟩;rcases jM ha with⟨_,h2⟩ | ⟨op,_,hm,h2⟩
  ·exact apo h4 (h5 b ob h1 n a h2 hl)
  exact(hnt op hm a h2).elim
 have aaw:∀b ob,(b,ob)∈((ks.filterMap KS.back).map (·.2)).flatten->k₀ b=none:=fun b ob h=>I.Y.tC b 0 k₀ aH (hE b ob h).1 aW
 have hfr:∀{i:Nat} {y:KS P},(ks.map KS.uo)[i]? =some y->∃x,ks[i]? =some x/\x.Tq/\y=x.uo:=fun{i y} h=>by
  rw[iL]at h;obtain⟨x,hx,rfl⟩:=jR.1 h;exact⟨x,hx,hg x (dL hx),O⟩
 have hjf:(ks.map KS.uo).filterMap KS.Cb=[]:=by
  rw[List.filterMap_map,List.filterMap_eq_nil_iff];exact fun x hx=>(KS.sO (hg x hx)).2.2.2.2.1
 have hwf:∀q,cK (ks.map KS.uo) q=0:=fun q=>by
  have:=anI (ks:=ks.map KS.uo) q;rw[hjf]at this;exact Nat.le_zero.1 this
 have hef:((ks.map KS.uo).map KS.OE).flatten=[]:=by
  rw[List.map_map,List.flatten_eq_nil_iff];intro l hl;obtain⟨x,hx,rfl⟩:=List.mem_map.1 hl;exact(KS.sO (hg x hx)).2.2.2.2.2
 have hpf:∀g,xU k₀ aH (ks.map KS.uo) g=xU k₀ aH ks g:=fun g=>by
  unfold xU;by_cases h0:g=0
  ·rw[if_pos h0,if_pos h0]
  rw[if_neg h0,if_neg h0,iL]
  cases e:ks[g-1]? with
  | none=>rfl
  | some x=>exact(KS.sO (hg x (dL e))).2.1
 have DZ:D5 0 (ks.map KS.uo)=D5 0 ks:=by
  funext g;unfold D5;by_cases h0:g=0
  ·rw[if_pos h0,if_pos h0]
  rw[if_neg h0,if_neg h0,iL]
  cases e:ks[g-1]? with
  | none=>rfl
  | some x=>simp[(KS.sO (hg x (dL e))).2.2.1]
 have um:∀{i:Nat} {y:KS P} {c:Nat},ks[i]? =some y->y.ch=some c->dM (dM (qN k₀ ((ks.filterMap KS.back).map (·.2)).flatten) o.γ.Wg wW) o.γ.X (.cells o.xc o.γ.tX o.γ.fX) c=k₀ c:=fun{i y c} hi hc=>by
  obtain⟨g,_,h2⟩:=I.Cc _ _ hi;obtain⟨ob,h3,h4⟩:=I.heap h2 hc;have nN:=G.at_;unfold Ku at nN;rw[bJ _ _ (fun e=>by rw[e,G.xat LK]at h3;cases h3;cases h4),bJ _ _ fun e=>by rw[e,nN]at h3;cases h3;cases h4];simp only[qN]
  cases e:List.lookup c ((ks.filterMap KS.back).map (·.2)).flatten with
  | none=>rfl
  | some o2=>have:=(hE c o2 (jO e)).2;rw[h3]at this;cases this.1;rw[h4]at this;cases this.2.1
 have awz:dM (qN k₀ ((ks.filterMap KS.back).map (·.2)).flatten) o.γ.Wg wW o.γ.X=some (bn o.xc m):=by
  rw[bJ _ _ G.Vu];simp only[qN]
  cases e:List.lookup o.γ.X ((ks.filterMap KS.back).map (·.2)).flatten with
  | none=>exact hkX
  | some o2=>have:=aaw _ o2 (jO e);rw[hkX]at this;cases this
 have hnX:∀x k M,x≠0->xU k₀ aH ks x=some (k,M)->k o.γ.X=none:=fun x k M hx h=>by
  rcases fV h with⟨h0,_⟩ | ⟨j,y,rfl,hj,hy⟩
  ·exact absurd h0 hx
  cases e:k o.γ.X with
  | none=>rfl
  | some ob=>
   exfalso;have hf:=I.Y.AV _ _ k M ob ⟨o,O,.inr ⟨O,LK⟩⟩ h e;obtain⟨g,_,h2⟩:=I.Cc j y hj;rcases hg y (dL hj)with⟨_,_,_,_,rfl⟩ | Ti
   ·cases hy
   cases y with
   | run c g' k' M'=>cases hy;rw[h2.2.2.2.nf _ _ e]at hf;cases hf
   | uj c k' M'=>cases hy;obtain⟨_,_,_,_,_,_,_,L⟩:=h2;rw[L.nf _ _ e]at hf;cases hf
   | quit c n d=>cases hy
   | _=>cases Ti
 have asM:Own (t++ #[z]) 0 o.γ.X:=fun n a ha hl=>by
  rcases jM ha with⟨hn,h1⟩ | ⟨op,_,hm,h1⟩
  ·rcases G.ac7 LK n a h1 hl with h2 | ⟨h2,_,_,i,x,h3,h4,h5⟩
   ·exact h2.app _
   obtain⟨g,_,h6⟩:=I.Cc i x h3;rcases hg x (dL h3)with⟨j,A,n',d,rfl⟩ | Ti
   ·obtain⟨_,o',e,_,_,r,h7,_⟩:=h6
    cases e
    have hc:t.counts n:=⟨a,h1,by cases hh:a.loc <;>rw[hh]at hl <;>first | rfl | exact hl.elim,.inl (by rw[h2];simp)⟩
    exact apo h7 (OD h5 h7.g (Nat.le_of_not_lt fun h'=>h7.after n h' h5 hc))
   exact absurd Ti h4
  exact(hnt op hm a h1).elim
 have IW:∀b ob,dM (dM (qN k₀ ((ks.filterMap KS.back).map (·.2)).flatten) o.γ.Wg wW) o.γ.X (.cells o.xc o.γ.tX o.γ.fX) b=some ob->(ob.isChan=true/\ji ob=false\/ji ob=true)->ob=wW\/(List.lookup b ((ks.filterMap KS.back).map (·.2)).flatten=none/\k₀ b=some ob):=fun b ob h hc=>by
  rcases aZ h with⟨_,rfl⟩ | ⟨_,h⟩
  ·rcases hc with hc | hc
   ·cases hc.1
   cases hc
  rcases aZ h with⟨_,h⟩ | ⟨_,h⟩
  ·exact .inl h
  simp only[qN]at h
  cases e:List.lookup b ((ks.filterMap KS.back).map (·.2)).flatten with
  | none=>rw[e]at h;exact .inr ⟨rfl,h⟩
  | some o2=>
   rw[e]at h;cases h;have h1:=(hE b _ (jO e)).2.2.1;rcases hc with hc | hc
   ·rw[hc.1]at h1;cases h1
   rw[eP hc]at h1;cases h1
 have hMb:∀b,List.lookup b ((ks.filterMap KS.back).map (·.2)).flatten=none->(aH b\/∃ob,(b,ob)∈((ks.filterMap KS.back).map (·.2)).flatten)->aH b:=fun b e hb=>by
  rcases hb with hb | ⟨ob,hb⟩
  ·exact hb
  have:=AU hb;rw[e]at this;cases this
 refine⟨(ks.filterMap KS.back).map (·.2),ks.map KS.uo,?_,fun i τ A hA hτ=>?_,by rw[CV];exact I.Kv,fun b ob hb=>⟨aaw b ob hb,fun hm=>?_,(hE b ob hb).2.2.1⟩,fun p hp=>?_,hjf,fun gs' hs hgo=>⟨by rw[hs,I.size,List.length_map],?_,fun b hb hn=>?_,fun i y hi=>?_,fun i j c y y' hi hj hy hy'=>?_,fun c l hc hl=>?_,fun o' h=>?_,fun h=>(by cases h),by rw[hef];simp,I.base,fun gn k M b hpp hb=>?_,fun b hb=>?_,fun gn k M b c po hpp hb=>?_⟩⟩
 ·rw[<-Tt hg];simp
 ·rw[iL]at hA;obtain⟨⟨j,A'⟩,h1,rfl⟩:=jR.1 hA;have hj:((ks.filterMap KS.back).map (·.1))[i]? =some j:=by rw[iL,h1];rfl
  rw[Tt hg]at hj;obtain rfl:j=τ:=Option.some.inj (hj.symm.trans hτ);obtain⟨x,hx,Sz⟩:=List.mem_filterMap.1 (dL h1);obtain⟨m,hm⟩:=List.getElem?_of_mem hx;obtain⟨g,_,h2⟩:=I.Cc m x hm
  cases x with
  | gone j A n d=>cases Sz;obtain⟨_,o',e,h3,_⟩:=h2;cases e;exact h3
  | _=>cases Sz
 ·have:=K.qC b hm;rw[aaw b ob hb]at this;cases this
 ·obtain⟨x,hx,rfl⟩:=List.mem_map.1 hp;rcases hg x hx with⟨j,A,n,d,rfl⟩ | h
  ·exact QX _ _
  cases x <;>first | exact kT _ hx | cases h
 ·have yu:LJ (some {o with p:=.out})=fun b=>LJ (some o) b/\b≠o.γ.X:=by
   funext b;apply propext;exact⟨fun⟨o',h1,h2⟩=>by cases h1;rcases h2 with h2 | ⟨_,h2⟩;exact⟨⟨o,rfl,.inl h2⟩,fun e=>G.Vu (e.symm.trans h2)⟩;exact absurd rfl h2,fun⟨⟨o',h1,h2⟩,h3⟩=>⟨_,rfl,by cases h1;exact .inl (h2.resolve_right fun h=>h3 h.1)⟩⟩
  rw[yu,List.length_map,DZ,show qR (ks.map KS.uo)=fun _=>False by funext b;unfold qR;rw[hef];simp]
  have Y1:LY w (t++ #[z]) (ks.length+1) (D5 0 ks) (xU k₀ aH ks) (LJ (some o)) (qR ks):=
   I.Y.afT (tch:=fun _=>False) aj (Nat.le_refl _) rfl (fun _ _=>rfl) ⟨hu,fun op h a ha=>(hnt op h a ha).elim,fun op h a e=>(by rw[iU h,hz]at e;cases e)⟩ (fun op h a ha=>(hnt op h a ha).elim) (fun b x k M o hb=>hb.elim) fun x=>by
    rw[Go.ConcN.Deaf_still t x _ fun op h=>(by rw[iU h,hz];exact⟨by simp,by simp⟩)];exact I.Y.tk.deaf x
  have Y2:=Y1.join (W:=o.γ.Wg) (o':=wW) aW hE ⟨gw,hk⟩ ⟨o,rfl,.inl rfl⟩ (fun b ob hb hs=>by obtain⟨o2,h1,h2⟩:=hs;cases h1;rcases h2 with h2 | h2;exact(I.OL (hE b ob hb).1).1 h2;exact(I.OL (hE b ob hb).1).2 h2.1) rfl (fun c po e=>by simp[wW,bn]at e) fun b ⟨ob,hb⟩=>⟨ob,CV▸hb⟩
  refine(Y2.alC (X:=o.γ.X) (xo:=.cells o.xc o.γ.tX o.γ.fX) iP awz ⟨o,O,.inr ⟨O,LK⟩⟩ (G.xat LK) O asM fun x k M hx h=>hnX x k M hx (by rw[jZ hx]at h;exact h)).Eh fun g=>?_;rw[zh (k₀:=k₀) (aH:=aH)];unfold vJ;by_cases hg0:g=0
  ·rw[if_pos hg0,if_pos hg0]
  rw[if_neg hg0,if_neg hg0,if_neg hg0,hpf]
 ·rcases IW b _ hn (.inl ⟨rfl,rfl⟩)with h | ⟨e,h⟩
  ·simp[wW,sZ]at h
  obtain⟨h1,h2⟩:=I.new b (hMb b e hb) h;exact⟨h1.app fun op aY a ha=>(hnt op aY a ha).elim,h2⟩
 ·obtain⟨x,hx,hxg,rfl⟩:=hfr hi;obtain⟨g,h1,h2⟩:=I.Cc i x hx;refine⟨g,by rw[hgo (i+1) aj];exact h1,?_⟩;rcases hxg with⟨j,A,n,d,rfl⟩ | Ti
  ·obtain⟨h3,o',e,_,_,r,h4,_⟩:=h2
   cases e
   refine⟨h3,.inl ⟨fun c e=>(by cases e),fun m hc hgm=>?_⟩⟩;rcases bQ m t.size with hm | hm
   ·rw[g?_old hm]at hgm;have Og:=(counts_old hm).1 hc;exact apo h4 (OD hgm h4.g (Nat.le_of_not_lt fun h'=>h4.after m h' hgm Og))
   exact absurd hc (uh (fun op aY=>by rw[hu op aY];omega) m hm hgm)
  have e:x.uo=x:=by cases x <;>first | rfl | cases Ti
  rw[e];exact h2.keep (fun o' h=>⟨_,rfl,by cases h;rfl⟩) (fun _ _ _ h _=>h) (fun c hc=>um hx hc) (fun _ _ _ h=>.inl h) (fun op aY=>by rw[hu op aY];omega) (fun _ _ op aY a ha=>(hnt op aY a ha).elim) (fun _ _ op aY a ha=>(hnt op aY a ha).elim) fun _ _ _=>⟨rfl,fun op aY a ha=>(hnt op aY a ha).elim⟩
 ·obtain⟨x,hx,hxg,rfl⟩:=hfr hi;obtain⟨x',Aq,asN,rfl⟩:=hfr hj;rw[(KS.sO hxg).1]at hy;rw[(KS.sO asN).1]at hy';exact I.one i j c x x' hx Aq hy hy'
 ·rcases IW c _ hl (.inl ⟨rfl,rfl⟩)with h | ⟨e,h⟩
  ·simp[wW,mO]at h
  obtain⟨i,x,hi,hx⟩:=I.has c l (hMb c e hc) h;exact⟨i,x.uo,by rw[iL,hi];rfl,by rw[(KS.sO (hg x (dL hi))).1];exact hx⟩
 ·cases h
  have asB:=G.num;refine⟨?_,by rw[hjf];simp only[List.length_nil];omega,fun s e=>(by cases e),G.at_,G.plk.app fun op aY a ha=>(hnt op aY a ha).elim,trivial,G.low,G.Vu,G.ac6,fun h=>absurd rfl h,fun h=>absurd rfl h⟩;show jK o.x .out (cK (ks.map KS.uo));simp only[jK,hwf];refine⟨trivial,?_,?_,?_,trivial⟩ <;>omega
 ·rcases fV hpp with⟨rfl,rfl,rfl⟩ | ⟨j,y,rfl,hj,hy⟩
  ·rcases hb with hb | ⟨ob,hb⟩
   ·exact I.low 0 k₀ aH b aW hb
   exact I.Kw b (hE b ob hb).1
  obtain⟨x,hx,hxg,rfl⟩:=hfr hj;rw[(KS.sO hxg).2.1]at hy;exact I.low _ k M b ((iY hx).trans hy) hb
 ·exfalso;obtain⟨ob,hb⟩:=hb;rw[hef]at hb;cases hb
 exfalso;rcases fV hpp with⟨rfl,rfl,rfl⟩ | ⟨j,y,rfl,hj,hy⟩
 ·rcases IW b _ hb (.inr rfl)with h | ⟨_,h⟩
  ·simp[wW,bn]at h
  obtain⟨o',h1,_,h2,_⟩:=I.vX 0 k₀ aH b c po aW h
  cases h1
  rw[h2,bP]at hb;cases hb
 have hpp:=(hpf (j+1)).symm.trans ((iY (k₀:=k₀) (aH:=aH) hj).trans hy);obtain⟨o',h1,_,h2,_⟩:=I.vX _ k M b c po hpp hb
 cases h1
 rw[h2,hnX _ k M aj hpp]at hb;cases hb
end
end Go.jc
