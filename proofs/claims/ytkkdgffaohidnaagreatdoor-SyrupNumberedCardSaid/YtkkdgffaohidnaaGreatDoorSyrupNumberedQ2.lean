/- SyrupNumbered. Conditions: none; over the given program. (And 1 texts more.) -/
import Derived.Test.YtkkdgffaohidnaaGreatDoorSyrupNumberedQ1
import Derived.Test.YtkkdgffaohidnaaGreatDoorR13
set_option linter.unusedVariables false
set_option linter.unusedSimpArgs false
set_option linter.unusedSectionVars false

/- SyrupNumbered. Conditions: none; over the given program. -/
namespace Go.aS
set_option maxRecDepth 100000
set_option maxHeartbeats 4000000
theorem av8{n:Nat}(hn:n≤4):(Array.range (n*3)).map (fun i=>(#[I 0,I 0,I 0]:Array Value)[i % (#[I 0,I 0,I 0]:Array Value).size]!)=(flat Pn.row (List.replicate n ⟨0,0,0⟩)).toArray:=by
 rcases(by omega:n=0∨n=1∨n=2∨n=3∨n=4)with rfl | rfl | rfl | rfl | rfl <;>kernel_rfl
theorem awq{ps:List Pn}{q:Int}(h:ps.length≤4):(FoF ps q).1.length≤4:=by
 rw[FoF]
 split
 ·simp
 ·split
  ·exact Nat.le_trans (List.length_filter_le ..) (by rw[List.length_range];omega)
  ·simp
theorem avZ(main:Side)(hS:∀S,main.ok S→∃Fin,S=Mo prog Fin)(hmb:main.b=true)(h:Hp)(nums:List Int)(lv:Value)(Eg:TypeId)(zg:Nat×Nat)(hl:Sl h fH lv nums)(hg:h 0=some (.cells #[Ur qM] Eg zg))(z0:h.z 0):QE prog main avz #[lv] h (.bool true):=by
 refine QE.aG avH rfl (by show 1≤240;decide) [(0,lv)] ⟨rfl,trivial⟩ ?_
 refine W.seq<|W.region rfl<|agb rfl rfl rfl<|pq<|W.seq<|W.region rfl<|qm rfl rfl rfl ?_
 refine c0 (fun h' hE hL=>VQ _ h' nums lv (hl.ext hE)) (fun v A' hv=>?_)
 obtain⟨b,s0,rfl,rfl⟩:=hv
 refine agb rfl rfl rfl<|pq<|W.seq<|W.region rfl<|qm rfl rfl rfl ?_
 refine cg (A:=[(b,wF lv 0 s0)]) .head (fun h' hE hL=>VT _ h' nums lv b 0 s0 4 (hl.ext hE) (by omega) (by omega)) (fun v A' hv=>?_)
 obtain⟨ps,Sp,k1,s1,hO,⟨hpl,hck⟩,hk1,hsb⟩:=hv
 refine Ops.sb (F':=[(b,wF lv k1 s1)]++Sp) (by simpa using hsb) ?_
 have hps:=aaD hpl hck
 have hok:=iP.yB hps
 have h4:=hok.len
 refine qm rfl rfl rfl ?_
 refine cg (A:=[(b,wF lv k1 s1)]) .head (fun h' hE hL=>UC _ h' nums lv b k1 s1 12 (hl.ext hE) (by omega) (by omega)) (fun v A' hv=>?_)
 obtain⟨q,s2,rfl,hq,Oh⟩:=hv
 refine Ops.sb (F':=Sp++[(b,wF lv (k1+1) s2)]) (Sb.trans (.dF List.perm_append_comm) (Oh.app .refl)) ?_
 obtain⟨q,rfl⟩:∃n:Nat,q=n:=⟨q.toNat,by omega⟩
 have Dn:q<13:=by omega
 refine qm rfl rfl rfl ?_
 refine cg (A:=[(b,wF lv (k1+1) s2)]) (.app .all) (fun h' hE hL=>am6 _ h' nums lv b (k1+1) s2 4 (hl.ext hE) (by omega) (by omega)) (fun v A' hv=>?_)
 obtain⟨ls,Sq,k2,s3,hOl,⟨hll,hlb⟩,hk2,afy⟩:=hv
 refine Ops.sb (F':=Sp++(Sq++[(b,wF lv k2 s3)])) (.app .refl (Sb.trans (.dF List.perm_append_comm) afy)) ?_
 refine agb rfl rfl rfl<|agb rfl rfl rfl<|agb rfl rfl rfl<|pq ?_
 refine JU hO (fun hz hEz hsl _=>?_)
 refine JU hOl (fun hy hEy amK _=>?_)
 obtain⟨a,cap,rfl⟩:=hsl.dA
 obtain⟨a2,cap2,rfl⟩:=amK.dA
 have hgz:=hEy.1 _ _ (hEz.1 _ _ hg)
 replace hsl:=hsl.ext hEy
 have hlz:=hl.ext (hEz.trans hEy)
 refine W.seq<|W.region rfl<|qm rfl rfl rfl<|qm rfl rfl rfl ?_
 refine agW (dM rfl rfl) rfl ?_
 refine cg (A:=[(b,wF lv k2 s3)]) .all (fun h' hE hL=>amY _ h' nums lv b k2 s3 ps.length (hlz.ext hE) (by omega) (by omega)) (fun v A' hv=>?_)
 obtain⟨rs,Sr,k3,s4,hOr,⟨hrl,hrb⟩,hk3,af4⟩:=hv
 refine Ops.sb (F':=[(b,wF lv k3 s4)]++Sr) (by simpa using af4) ?_
 refine qm rfl rfl rfl<|qm rfl rfl rfl ?_
 refine agW (dM rfl rfl) rfl ?_
 refine cg (A:=[(b,wF lv k3 s4)]) .head (fun h' hE hL=>awh _ h' nums lv b k3 s4 ps.length (hlz.ext hE) (by omega) (by omega)) (fun v2 A' hv=>?_)
 obtain⟨o,So,k4,s5,hOo,⟨hol,hpm⟩,hk4,afA⟩:=hv
 refine Ops.sb (F':=So++Sr) (((Sb.skip rfl .refl).trans afA).app .refl) ?_
 refine agb rfl rfl rfl<|agb rfl rfl rfl<|pq ?_
 refine JU hOo (fun hz2 hE2 av_ _=>?_)
 refine W.sb (F':=Sr++[]) (by rw[List.append_nil];exact .refl) ?_
 refine JU hOr (fun hz3 hE3 amX _=>?_)
 replace av_:=av_.ext hE3
 obtain⟨a3,cap3,rfl⟩:=amX.dA
 obtain⟨a4,cap4,rfl⟩:=av_.dA
 rw[hrl]at amX⊢
 rw[hol]at av_⊢
 replace hgz:=hE3.1 _ _ (hE2.1 _ _ hgz)
 replace hsl:=hsl.ext (hE2.trans hE3)
 replace amK:=amK.ext (hE2.trans hE3)
 refine W.seq ?_
 refine W.mono (Q:=(fun e ρ' ds' F'=>e= .normal∧ds'=[]∧∃Uw Oj,Sub [(10,.slice (some ⟨Oj,0,none⟩) ps.length ps.length),(9,.slice (some ⟨Uw,0,none⟩) ps.length ps.length),(8,.slice a4 ps.length cap4),(7,.slice a3 ps.length cap3),(6,.slice a2 ls.length cap2),(5,I q),(4,.slice a ps.length cap)] ρ'∧Sb [(Uw,.cells (flat Pn.row (List.replicate ps.length ⟨0,0,0⟩)).toArray Ag (0,0)),(Oj,.cells (List.replicate ps.length (I 0)).toArray dL (0,0))] F')) ?_ ?_
 ·refine W.DR [] (n:=8) rfl ?_
  refine xq 0 (aN rfl rfl) rfl ?_
  refine xq 1 (dM rfl rfl) rfl ?_
  refine xq 3 (aN rfl rfl) rfl ?_
  refine xq 4 (dM rfl rfl) rfl ?_
  refine Any.WB (i:=2) (j:=5) (by kernel_rfl) (aU rfl) (aU rfl) an an rfl rfl rfl rfl ?_ ?_
  ·refine avX (n:=ps.length) rfl rfl rfl (by omega) (by decide) (av8 h4) (fun Uw=>⟨.inr Keeps.nil,?_⟩)
   refine xq 6 (jS rfl rfl) rfl ?_
   refine ae (i:=5) rfl an rfl rfl (G8 (n:=ps.length) rfl rfl rfl (by omega) (fun Oj=>⟨.inr Keeps.nil,?_⟩))
   refine xq 7 (jS rfl rfl) rfl ?_
   refine az ?_
   exact⟨rfl,rfl,Uw,Oj,⟨rfl,rfl,rfl,rfl,rfl,rfl,rfl,trivial⟩,.dF (.swap _ _ _)⟩
  ·refine G8 (n:=ps.length) rfl rfl rfl (by omega) (fun Oj=>⟨.inr Keeps.nil,?_⟩)
   refine ae (i:=2) rfl an rfl rfl (avX (n:=ps.length) rfl rfl rfl (by omega) (by decide) (av8 h4) (fun Uw=>⟨.inr Keeps.nil,?_⟩))
   refine xq 6 (jS rfl rfl) rfl ?_
   refine xq 7 (jS rfl rfl) rfl ?_
   refine az ?_
   exact⟨rfl,rfl,Uw,Oj,⟨rfl,rfl,rfl,rfl,rfl,rfl,rfl,trivial⟩,.refl⟩
 rintro e9 ρ9 ds9 F9 ⟨rfl,rfl,Uw,Oj,hE9,akw⟩
 refine aA (W.env hE9 (W.sb akw ?_))
 rw[show(List.replicate ps.length (I 0)).toArray=uV (List.replicate ps.length 0) by rw[uV,List.map_replicate]]
 refine W.seq<|W.seq<|W.region rfl<|agb rfl rfl rfl<|pq<|W.block ?_
 refine W.loop (σ:=Nat×List Pn×Array Value×List Int) (fun t=>t.1≤ps.length∧t.2.1.length=ps.length∧t.2.2.2.length=ps.length∧Part t.2.2.1 0 (flat Pn.row t.2.1)∧t.2.2.1.size=ps.length*3∧∀j,j<t.1→t.2.1[(o.getD j 0).toNat]? =ps[j]? ∧t.2.2.2.getD (o.getD j 0).toNat 0=rs.getD j 0)
  (fun t=>[(11,I t.1),(10,.slice (some ⟨Oj,0,none⟩) ps.length ps.length),(9,.slice (some ⟨Uw,0,none⟩) ps.length ps.length),(8,.slice a4 ps.length cap4),(7,.slice a3 ps.length cap3),(6,.slice a2 ls.length cap2),(5,I q),(4,.slice a ps.length cap)]) (fun t=>[(Uw,.cells t.2.2.1 Ag (0,0)),(Oj,.cells (uV t.2.2.2) dL (0,0))]) (fun t=>ps.length-t.1) (0,List.replicate ps.length ⟨0,0,0⟩,_,List.replicate ps.length 0) ⟨Nat.zero_le _,by simp,by simp,Part.all _,by dsimp only;rw[List.size_toArray,VR];simp,fun j hj=>absurd hj (Nat.not_lt_zero _)⟩ ⟨rfl,rfl,rfl,rfl,rfl,rfl,rfl,rfl,trivial⟩ .refl ?_
 rintro⟨i,X,C,Y⟩ ⟨hi,hXl,hYl,hpt,hC,hget⟩
 dsimp only at*
 refine W.seq<|W.seq<|W.region rfl<|qm rfl rfl rfl<|qm rfl rfl rfl ?_
 refine agW (dM rfl rfl) rfl ?_
 refine agW (fO rfl rfl rfl) rfl ?_
 refine pq ?_
 refine W.bC rfl (fun c49=>?_) (fun c49=>?_)
 ·have hil:i<ps.length:=by omega
  obtain⟨ho1,hfl⟩:=av3 hpm i hil
  have hdis:∀j,j<i→(o.getD j 0).toNat≠(o.getD i 0).toNat:=fun j hj e=>by
   have:=awi hpm j (by omega) i hil e
   omega
  obtain⟨fi,hfi⟩:∃fi,(o.getD i 0).toNat=fi:=⟨_,rfl⟩
  rw[hfi]at ho1 hfl hdis
  obtain⟨p,hp,-⟩:=has hil
  obtain⟨r,hr,-⟩:=has (show i<rs.length by omega)
  obtain⟨b1,o1,c1,E1,f1,hv1,hb1,hx1,hy1,-⟩:=hsl.at hp
  cases hv1
  have hx':c1.extract (o1+i*3) (o1+i*3+3)= #[I p.lo,I p.hi,I p.sh]:=hx1
  clear hx1
  obtain⟨b2,o2,c2,E2,f2,hv2,hb2,-,-,hz2'⟩:=amX.at hr
  cases hv2
  have hr2:c2[o2+i*1]? =some (I r):=hz2' 0 (by decide)
  obtain⟨b5,o5,c5,E5,f5,hv5,hb5,-,-,hz5⟩:=av_.at ho1
  cases hv5
  have hr5:c5[o5+i*1]? =some (I fi):=hz5 0 (by decide)
  clear hz2' hz5
  have hrg:rs.getD i 0=r:=by rw[List.getD_eq_getElem?_getD,hr];rfl
  have hcs:0+fi*3+3≤C.size:=by rw[hC];omega
  have hsz:0+fi*1<(uV Y).size:=by rw[qj];omega
  refine W.skip<|aA<|W.seq<|W.block ?_
  refine W.mono (Q:=(fun e ρ' ds' F'=>e= .normal∧ds'=[]∧Sub [(11,I i),(10,.slice (some ⟨Oj,0,none⟩) ps.length ps.length),(9,.slice (some ⟨Uw,0,none⟩) ps.length ps.length),(8,.slice (some ⟨b5,o5,none⟩) ps.length cap4),(7,.slice (some ⟨b2,o2,none⟩) ps.length cap3),(6,.slice a2 ls.length cap2),(5,I q),(4,.slice (some ⟨b1,o1,none⟩) ps.length cap)] ρ'∧Sb [(Uw,.cells (jv C (0+fi*3) (Pn.row p)) Ag (0,0)),(Oj,.cells (uV (Y.set fi r)) dL (0,0))] F')) ?_ ?_
  ·refine W.DR [] (n:=22) rfl ?_
   refine xq 0 (aN rfl rfl) rfl ?_
   refine xq 1 (aN rfl rfl) rfl ?_
   refine xq 2 (aN rfl rfl) rfl ?_
   first | refine xq 3 (G_ rfl rfl rfl) rfl ?_ | refine xq 3 (o_ rfl rfl rfl) rfl ?_
   refine xq 4 (iQ rfl rfl) rfl ?_
   refine xq 5 (aN rfl rfl) rfl ?_
   refine xq 6 (aN rfl rfl) rfl ?_
   refine xq 7 (aN rfl rfl) rfl ?_
   first | refine xq 8 (G_ rfl rfl rfl) rfl ?_ | refine xq 8 (o_ rfl rfl rfl) rfl ?_
   refine xq 9 (iQ rfl rfl) rfl ?_
   refine xq 10 (aN rfl rfl) rfl ?_
   refine xq 11 (aN rfl rfl) rfl ?_
   first | refine xq 12 (G_ rfl rfl rfl) rfl ?_ | refine xq 12 (o_ rfl rfl rfl) rfl ?_
   first | refine xq 13 (Bf rfl rfl) rfl ?_ | refine xq 13 (zi rfl rfl) rfl ?_
   refine xq 14 (aN rfl rfl) rfl ?_
   refine xq 15 (aN rfl rfl) rfl ?_
   first | refine xq 16 (G_ rfl rfl rfl) rfl ?_ | refine xq 16 (o_ rfl rfl rfl) rfl ?_
   refine xq 17 (iQ rfl rfl) rfl ?_
   first | refine xq 18 (G_ rfl rfl rfl) rfl ?_ | refine xq 18 (o_ rfl rfl rfl) rfl ?_
   refine ae (i:=19) rfl an rfl rfl (eSA rfl rfl rfl ?_)
   refine⟨.inr Keeps.nil,?_⟩
   first | refine xq 20 (G_ rfl rfl rfl) rfl ?_ | refine xq 20 (o_ rfl rfl rfl) rfl ?_
   refine ae (i:=21) rfl an rfl rfl (eS rfl rfl rfl ?_)
   refine⟨.inr Keeps.nil,?_⟩
   refine az ?_
   exact⟨rfl,rfl,⟨rfl,rfl,rfl,rfl,rfl,rfl,rfl,rfl,trivial⟩,.eq (by rw[Ux] <;>rfl)⟩
  rintro e9 ρ9 ds9 F9 ⟨rfl,rfl,hE9,akw⟩
  refine dI<|aA ?_
  refine W.env hE9 (W.sb akw ?_)
  refine W.region rfl<|qm rfl rfl rfl ?_
  refine ag1 rfl ?_
  refine agb rfl rfl rfl<|pq ?_
  refine⟨rfl,(i+1,X.set fi p,jv C (0+fi*3) (Pn.row p),Y.set fi r),⟨hil,by simp[hXl],by simp[hYl],hpt.axi (by omega),by dsimp only;rw[y9];exact hC,fun j hj=>?_⟩,by dsimp only;omega,⟨rfl,rfl,rfl,rfl,rfl,rfl,rfl,rfl,trivial⟩,.refl⟩
  dsimp only
  rcases Nat.lt_or_ge j i with h9 | h9
  ·have:=hget j h9
   have hd:=hdis j h9
   rw[List.getElem?_set_ne (fun e=>hd e.symm),avf (by omega),if_neg hd]
   exact this
  ·obtain rfl:j=i:=by omega
   rw[hfi,List.getElem?_set_self (by omega),avf (by omega),if_pos rfl,hp,hrg]
   exact⟨rfl,rfl⟩
 ·obtain rfl:i=ps.length:=by omega
  obtain⟨g,hR⟩:=awY hpm hXl fun i hi=>(hget i hi).1
  have hoi:=fun i hi=>(av3 hpm i hi).1
  have ayz:=hR.ck hps
  have hev:=hR.ever hps
  have hen:=hR.ends hps Dn
  have hef:=hR.axr hps (q:=(q:Int))
  have ayA:=hR.best h4 (ls:=ls) hrl hYl fun i hi=>(hget i hi).2
  obtain⟨htk,ht1,ht2⟩:=hR.takes hoi hps Dn
  obtain⟨hfo,hfe⟩:=hR.forced hoi hps Dn
  have hYb:∀r∈Y,0≤r∧r≤20:=fun r hr=>by
   obtain⟨k,hk⟩:=List.getElem?_of_mem hr
   have hkl:k<ps.length:=by have:=(List.getElem?_eq_some_iff.1 hk).1;omega
   have h1:=(hget (g k) (hR.gl k hkl)).2
   rw[hR.fg k hkl,List.getD_eq_getElem?_getD,hk]at h1
   have h2:rs[g k]? =some (rs.getD (g k) 0):=by rw[List.getD_eq_getElem?_getD,List.getElem?_eq_getElem (by rw[hrl];exact hR.gl k hkl)];rfl
   have h3:=hrb _ (List.mem_of_getElem? h2)
   rw[←h1]at h3
   exact h3
  have ayB:AA ps ls rs=((oZ ps ls rs).2.headD [],(oZ ps ls rs).1,0):=by
   rw[AA,if_neg (by rw[anr hps hll hlb hrl hrb];simp)]
  have hsh2:AA X ls Y=((oZ X ls Y).2.headD [],(oZ X ls Y).1,0):=by
   rw[AA,if_neg (by rw[anr ayz hll hlb (hYl.trans hXl.symm) hYb];simp)]
  have hev0:(aef ps).2=0:=by rw[ae4 hps]
  have axw:(EnF ps q).2=0:=by
   have hb:kU ps [(q:Int)]=0:=by rw[akP,hps,if_neg (by simp),if_neg (by unfold outs;omega)]
   rw[EnF,if_neg (by simpa using hb)]
  have hOX:Os Ag Pn.row (.slice (some ⟨Uw,0,none⟩) ps.length ps.length) X [(Uw,.cells C Ag (0,0))]:=.inr ⟨Uw,C,ps.length,[],by rw[hXl],rfl,hC,by omega,hpt,.nil⟩
  have hOY:Os dL fH (.slice (some ⟨Oj,0,none⟩) ps.length ps.length) Y [(Oj,.cells (uV Y) dL (0,0))]:=.inr ⟨Oj,uV Y,ps.length,[],by rw[hYl],rfl,by rw[qj,hYl,Nat.mul_one],by omega,by rw[YE];exact Part.all _,.nil⟩
  have ayC:(zs (aef ps).1).length≤100000:=by rw[kT,ae4 hps];exact Nat.le_trans afn (by decide)
  have ayD:(zs (EnF ps q).1).length≤100000:=by
   rw[kT,EnF]
   split
   ·simp
   ·exact Nat.le_trans afn (by decide)
  have htl:(zs (TkF ps q).1).length≤1000:=by rw[kT];exact Nat.le_trans aln (by decide)
  have hfl:(zs (FoF ps q).1).length≤1000:=by rw[kT];exact Nat.le_trans (awq h4) (by decide)
  refine W.exit<|bP<|bP<|gG<|aA ?_
  refine W.sb (F':=[(Uw,.cells C Ag (0,0))]++([(Oj,.cells (uV Y) dL (0,0))]++[])) .refl ?_
  refine JU hOX (fun hz4 hE4 hsx _=>?_)
  refine JU hOY (fun hz5 hE5 hsy _=>?_)
  replace hsx:=hsx.ext hE5
  replace hsl:=hsl.ext (hE4.trans hE5)
  replace amK:=amK.ext (hE4.trans hE5)
  replace amX:=amX.ext (hE4.trans hE5)
  replace av_:=av_.ext (hE4.trans hE5)
  replace hgz:=hE5.1 _ _ (hE4.1 _ _ hgz)
  refine W.seq<|W.region rfl<|qm rfl rfl rfl ?_
  refine c0 (fun h' hE hL=>afo _ h' ps _ (hsl.ext hE)) (fun v A' hv=>?_)
  obtain⟨w1,S1,rfl,hO1,hs1⟩:=hv
  refine Ops.sb (F':=S1++([])) (hs1.app .refl) ?_
  refine qm rfl rfl rfl<|oq (bD rfl rfl rfl) rfl wn rfl rfl<|oq (bD rfl rfl rfl) rfl wn rfl rfl<|agb rfl rfl rfl<|agb rfl rfl rfl<|pq<|W.seq<|W.region rfl<|qm rfl rfl rfl ?_
  refine c0 (fun h' hE hL=>afo _ h' X _ (hsx.ext hE)) (fun v A' hv=>?_)
  obtain⟨w2,S2,rfl,hO2,hs2⟩:=hv
  rw[hev]at hO2⊢
  refine Ops.sb (F':=S2++(S1++([]))) (hs2.app .refl) ?_
  refine qm rfl rfl rfl<|oq (bD rfl rfl rfl) rfl wn rfl rfl<|oq (bD rfl rfl rfl) rfl wn rfl rfl<|agb rfl rfl rfl<|agb rfl rfl rfl<|pq<|W.seq<|W.region rfl<|qm rfl rfl rfl ?_
  refine qm rfl rfl rfl ?_
  refine c0 (fun h' hE hL=>aiH _ h' ps _ q (hsl.ext hE)) (fun v A' hv=>?_)
  obtain⟨w3,S3,rfl,hO3,hs3⟩:=hv
  refine Ops.sb (F':=S3++(S2++(S1++([])))) (hs3.app .refl) ?_
  refine qm rfl rfl rfl<|oq (bD rfl rfl rfl) rfl wn rfl rfl<|oq (bD rfl rfl rfl) rfl wn rfl rfl<|agb rfl rfl rfl<|agb rfl rfl rfl<|pq<|W.seq<|W.region rfl<|qm rfl rfl rfl ?_
  refine qm rfl rfl rfl ?_
  refine c0 (fun h' hE hL=>aiH _ h' X _ q (hsx.ext hE)) (fun v A' hv=>?_)
  obtain⟨w4,S4,rfl,hO4,hs4⟩:=hv
  rw[hen]at hO4⊢
  refine Ops.sb (F':=S4++(S3++(S2++(S1++([]))))) (hs4.app .refl) ?_
  refine qm rfl rfl rfl<|oq (bD rfl rfl rfl) rfl wn rfl rfl<|oq (bD rfl rfl rfl) rfl wn rfl rfl<|agb rfl rfl rfl<|agb rfl rfl rfl<|pq<|W.seq<|W.seq<|W.region rfl ?_
  refine qm rfl rfl rfl ?_
  refine KU (nG rfl rfl rfl) (congrArg Value.bool (show decide ((aef ps).2≠0)=false by rw[hev0];rfl)) rfl wn rfl rfl ?_
  refine qm rfl rfl rfl ?_
  refine oq (aN rfl rfl) rfl (ak rfl rfl rfl) rfl rfl ?_
  refine KU (nG rfl rfl rfl) (congrArg Value.bool (show decide ((aef ps).2≠0)=false by rw[hev0];rfl)) rfl (ak rfl rfl rfl) rfl rfl ?_
  refine agW (iH rfl rfl rfl) rfl ?_
  refine qm rfl rfl rfl ?_
  refine oq (aN rfl rfl) rfl (ak rfl rfl rfl) rfl rfl ?_
  refine KU (nG rfl rfl rfl) (congrArg Value.bool (show decide ((EnF ps q).2≠0)=false by rw[axw];rfl)) rfl (ak rfl rfl rfl) rfl rfl ?_
  refine agW (iH rfl rfl rfl) rfl ?_
  refine qm rfl rfl rfl ?_
  refine oq (aN rfl rfl) rfl (ak rfl rfl rfl) rfl rfl ?_
  refine KU (nG rfl rfl rfl) (congrArg Value.bool (show decide ((EnF ps q).2≠0)=false by rw[axw];rfl)) rfl (ak rfl rfl rfl) rfl rfl ?_
  refine agW (iH rfl rfl rfl) rfl ?_
  refine qm rfl rfl rfl ?_
  refine oq (aN rfl rfl) rfl (ak rfl rfl rfl) rfl rfl ?_
  refine oq (aN rfl rfl) rfl (ak rfl rfl rfl) rfl rfl ?_
  refine cp (g:=some _) (fun h' hE hL=>VU _ h' (zs (aef ps).1) (zs (aef ps).1) _ _ (hO1.sl fun b' o hb=>hL b' o (by simp[hb])) (hO2.sl fun b' o hb=>hL b' o (by simp[hb])) ayC) ?_
  refine KU (xU rfl rfl) (congrArg Value.bool (show(!decide ((zs (aef ps).1)=(zs (aef ps).1)))=false by simp)) rfl (ak rfl rfl rfl) rfl rfl ?_
  refine agW (iH rfl rfl rfl) rfl ?_
  refine qm rfl rfl rfl ?_
  refine oq (aN rfl rfl) rfl (ak rfl rfl rfl) rfl rfl ?_
  refine oq (aN rfl rfl) rfl (ak rfl rfl rfl) rfl rfl ?_
  refine cp (g:=some _) (fun h' hE hL=>VU _ h' (zs (EnF ps q).1) (zs (EnF ps q).1) _ _ (hO3.sl fun b' o hb=>hL b' o (by simp[hb])) (hO4.sl fun b' o hb=>hL b' o (by simp[hb])) ayD) ?_
  refine KU (xU rfl rfl) (congrArg Value.bool (show(!decide ((zs (EnF ps q).1)=(zs (EnF ps q).1)))=false by simp)) rfl (ak rfl rfl rfl) rfl rfl ?_
  refine agW (iH rfl rfl rfl) rfl ?_
  refine pq ?_
  refine W.bZ ?_
  refine W.skip<|aA<|W.seq<|W.region rfl<|qm rfl rfl rfl<|qm rfl rfl rfl ?_
  refine cp (fun h' hE hL=>J3 _ h' ps _ q (hsl.ext hE)) ?_
  refine qm rfl rfl rfl<|oq (bD rfl rfl rfl) rfl wn rfl rfl<|oq (bD rfl rfl rfl) rfl wn rfl rfl<|agb rfl rfl rfl<|agb rfl rfl rfl<|pq<|W.seq<|W.region rfl<|qm rfl rfl rfl ?_
  refine qm rfl rfl rfl ?_
  refine cp (fun h' hE hL=>J3 _ h' X _ q (hsx.ext hE)) ?_
  rw[hef]
  refine qm rfl rfl rfl<|oq (bD rfl rfl rfl) rfl wn rfl rfl<|oq (bD rfl rfl rfl) rfl wn rfl rfl<|agb rfl rfl rfl<|agb rfl rfl rfl<|pq<|W.seq<|W.region rfl<|qm rfl rfl rfl ?_
  refine qm rfl rfl rfl ?_
  refine cp (fun h' hE hL=>Yy _ h' ps _ q (hsl.ext hE)) ?_
  refine qm rfl rfl rfl<|oq (bD rfl rfl rfl) rfl wn rfl rfl<|oq (bD rfl rfl rfl) rfl wn rfl rfl<|agb rfl rfl rfl<|agb rfl rfl rfl<|pq<|W.seq<|W.region rfl<|qm rfl rfl rfl ?_
  refine qm rfl rfl rfl ?_
  refine cp (fun h' hE hL=>Yy _ h' X _ q (hsx.ext hE)) ?_
  rw[hef]
  refine qm rfl rfl rfl<|oq (bD rfl rfl rfl) rfl wn rfl rfl<|oq (bD rfl rfl rfl) rfl wn rfl rfl<|agb rfl rfl rfl<|agb rfl rfl rfl<|pq<|W.seq<|W.seq<|W.region rfl ?_
  refine qm rfl rfl rfl<|qm rfl rfl rfl ?_
  refine KU (nG rfl rfl rfl) (congrArg Value.bool (show decide (((qh ps q).1.1:Int)≠(qh ps q).1.1)=false by simp)) rfl wn rfl rfl ?_
  refine qm rfl rfl rfl ?_
  refine oq (aN rfl rfl) rfl (ak rfl rfl rfl) rfl rfl ?_
  refine oq (aN rfl rfl) rfl (ak rfl rfl rfl) rfl rfl ?_
  refine KU (nG rfl rfl rfl) (congrArg Value.bool (show decide ((qh ps q).2≠(qh ps q).2)=false by simp)) rfl (ak rfl rfl rfl) rfl rfl ?_
  refine agW (iH rfl rfl rfl) rfl ?_
  refine qm rfl rfl rfl ?_
  refine oq (aN rfl rfl) rfl (ak rfl rfl rfl) rfl rfl ?_
  refine oq (aN rfl rfl) rfl (ak rfl rfl rfl) rfl rfl ?_
  refine KU (nG rfl rfl rfl) (congrArg Value.bool (show decide (((qh ps q).1.2:Int)≠(qh ps q).1.2)=false by simp)) rfl (ak rfl rfl rfl) rfl rfl ?_
  refine agW (iH rfl rfl rfl) rfl ?_
  refine qm rfl rfl rfl ?_
  refine oq (aN rfl rfl) rfl (ak rfl rfl rfl) rfl rfl ?_
  refine oq (aN rfl rfl) rfl (ak rfl rfl rfl) rfl rfl ?_
  refine KU (nG rfl rfl rfl) (congrArg Value.bool (show decide ((qh ps q).2≠(qh ps q).2)=false by simp)) rfl (ak rfl rfl rfl) rfl rfl ?_
  refine agW (iH rfl rfl rfl) rfl ?_
  refine pq ?_
  refine W.bZ ?_
  refine W.skip<|aA<|W.seq<|W.region rfl<|qm rfl rfl rfl<|qm rfl rfl rfl<|qm rfl rfl rfl ?_
  refine c0 (fun h' hE hL=>YK _ h' ps ls rs _ _ (.slice a3 ps.length cap3) (hsl.ext hE) (amK.ext hE) (amX.ext hE)) (fun v A' hv=>?_)
  obtain⟨w5,S5,rfl,hO5,hs5⟩:=hv
  rw[ayB]at hO5⊢
  refine Ops.sb (F':=S5++(S4++(S3++(S2++(S1++([])))))) (hs5.app .refl) ?_
  refine qm rfl rfl rfl<|oq (bD rfl rfl rfl) rfl wn rfl rfl<|oq (bD rfl rfl rfl) rfl wn rfl rfl<|oq (bD rfl rfl rfl) rfl wn rfl rfl<|agb rfl rfl rfl<|agb rfl rfl rfl<|pq<|W.seq<|W.region rfl ?_
  refine qm rfl rfl rfl<|qm rfl rfl rfl<|qm rfl rfl rfl ?_
  refine c0 (fun h' hE hL=>YK _ h' X ls Y _ _ (.slice (some ⟨Oj,0,none⟩) ps.length ps.length) (hsx.ext hE) (amK.ext hE) (hsy.ext hE)) (fun v A' hv=>?_)
  obtain⟨w6,S6,rfl,hO6,hs6⟩:=hv
  rw[hsh2,←ayA]at hO6⊢
  refine Ops.sb (F':=S6++(S5++(S4++(S3++(S2++(S1++([]))))))) (hs6.app .refl) ?_
  refine qm rfl rfl rfl<|oq (bD rfl rfl rfl) rfl wn rfl rfl<|oq (bD rfl rfl rfl) rfl wn rfl rfl<|oq (bD rfl rfl rfl) rfl wn rfl rfl<|agb rfl rfl rfl<|agb rfl rfl rfl<|pq<|W.seq<|W.region rfl ?_
  refine qm rfl rfl rfl<|qm rfl rfl rfl ?_
  refine c0 (fun h' hE hL=>ala _ h' ps _ q (hsl.ext hE)) (fun v A' hv=>?_)
  obtain⟨w7,S7,rfl,hO7,hs7⟩:=hv
  rw[ht1]
  refine Ops.sb (F':=S7++(S6++(S5++(S4++(S3++(S2++(S1++([])))))))) (hs7.app .refl) ?_
  refine qm rfl rfl rfl<|oq (bD rfl rfl rfl) rfl wn rfl rfl<|oq (bD rfl rfl rfl) rfl wn rfl rfl<|agb rfl rfl rfl<|agb rfl rfl rfl<|pq<|W.seq<|W.region rfl<|qm rfl rfl rfl ?_
  refine qm rfl rfl rfl ?_
  refine c0 (fun h' hE hL=>ala _ h' X _ q (hsx.ext hE)) (fun v A' hv=>?_)
  obtain⟨w8,S8,rfl,hO8,hs8⟩:=hv
  rw[ht2]
  refine Ops.sb (F':=S8++(S7++(S6++(S5++(S4++(S3++(S2++(S1++([]))))))))) (hs8.app .refl) ?_
  refine qm rfl rfl rfl<|oq (bD rfl rfl rfl) rfl wn rfl rfl<|oq (bD rfl rfl rfl) rfl wn rfl rfl<|agb rfl rfl rfl<|agb rfl rfl rfl<|pq<|W.seq<|W.seq<|W.region rfl ?_
  refine qm rfl rfl rfl<|qm rfl rfl rfl ?_
  refine KU (nG rfl rfl rfl) (congrArg Value.bool (show decide (((oZ ps ls rs).1:Int)≠(oZ ps ls rs).1)=false by simp)) rfl wn rfl rfl ?_
  refine qm rfl rfl rfl ?_
  refine oq (aN rfl rfl) rfl (ak rfl rfl rfl) rfl rfl ?_
  refine KU (nG rfl rfl rfl) (congrArg Value.bool (show decide ((0:Int)≠0)=false by decide)) rfl (ak rfl rfl rfl) rfl rfl ?_
  refine agW (iH rfl rfl rfl) rfl ?_
  refine qm rfl rfl rfl ?_
  refine oq (aN rfl rfl) rfl (ak rfl rfl rfl) rfl rfl ?_
  refine KU (nG rfl rfl rfl) (congrArg Value.bool (show decide ((0:Int)≠0)=false by decide)) rfl (ak rfl rfl rfl) rfl rfl ?_
  refine agW (iH rfl rfl rfl) rfl ?_
  refine qm rfl rfl rfl ?_
  refine oq (aN rfl rfl) rfl (ak rfl rfl rfl) rfl rfl ?_
  refine KU (nG rfl rfl rfl) (congrArg Value.bool (show decide ((0:Int)≠0)=false by decide)) rfl (ak rfl rfl rfl) rfl rfl ?_
  refine agW (iH rfl rfl rfl) rfl ?_
  refine qm rfl rfl rfl ?_
  refine oq (aN rfl rfl) rfl (ak rfl rfl rfl) rfl rfl ?_
  refine KU (nG rfl rfl rfl) (congrArg Value.bool (show decide ((0:Int)≠0)=false by decide)) rfl (ak rfl rfl rfl) rfl rfl ?_
  refine agW (iH rfl rfl rfl) rfl ?_
  refine qm rfl rfl rfl ?_
  refine oq (aN rfl rfl) rfl (ak rfl rfl rfl) rfl rfl ?_
  refine oq (aN rfl rfl) rfl (ak rfl rfl rfl) rfl rfl ?_
  refine oq (aN rfl rfl) rfl (ak rfl rfl rfl) rfl rfl ?_
  refine cp (g:=some _) (fun h' hE hL=>awg _ h' _ _ o _ _ (.slice a4 ps.length cap4) (hO7.sl fun b' o' hb=>hL b' o' (by simp[hb])) (hO8.sl fun b' o' hb=>hL b' o' (by simp[hb])) (av_.ext hE) htl (by omega) htk) ?_
  refine KU (xU rfl rfl) (show _=Value.bool false from rfl) rfl (ak rfl rfl rfl) rfl rfl ?_
  refine agW (iH rfl rfl rfl) rfl ?_
  refine pq ?_
  refine W.bZ ?_
  refine W.skip<|aA<|W.seq<|W.region rfl<|qm rfl rfl rfl<|qm rfl rfl rfl ?_
  refine c0 (fun h' hE hL=>ai5 _ h' ps _ q (hsl.ext hE)) (fun v A' hv=>?_)
  obtain⟨w9,S9,rfl,hO9,hs9⟩:=hv
  refine Ops.sb (F':=S9++(S8++(S7++(S6++(S5++(S4++(S3++(S2++(S1++([])))))))))) (hs9.app .refl) ?_
  refine qm rfl rfl rfl<|oq (bD rfl rfl rfl) rfl wn rfl rfl<|oq (bD rfl rfl rfl) rfl wn rfl rfl<|agb rfl rfl rfl<|agb rfl rfl rfl<|pq<|W.seq<|W.region rfl<|qm rfl rfl rfl ?_
  refine qm rfl rfl rfl ?_
  refine c0 (fun h' hE hL=>ai5 _ h' X _ q (hsx.ext hE)) (fun v A' hv=>?_)
  obtain⟨w10,S10,rfl,axy,hs10⟩:=hv
  rw[←hfe]
  refine Ops.sb (F':=S10++(S9++(S8++(S7++(S6++(S5++(S4++(S3++(S2++(S1++([]))))))))))) (hs10.app .refl) ?_
  refine qm rfl rfl rfl<|oq (bD rfl rfl rfl) rfl wn rfl rfl<|oq (bD rfl rfl rfl) rfl wn rfl rfl<|agb rfl rfl rfl<|agb rfl rfl rfl<|pq<|W.seq<|W.region rfl<|qm rfl rfl rfl ?_
  refine qm rfl rfl rfl ?_
  refine KU (nD rfl rfl rfl) (congrArg Value.bool (show decide ((FoF ps q).2=(FoF ps q).2)=true by simp)) rfl wn rfl rfl ?_
  refine qm rfl rfl rfl ?_
  refine oq (aN rfl rfl) rfl (ak rfl rfl rfl) rfl rfl ?_
  refine oq (aN rfl rfl) rfl (ak rfl rfl rfl) rfl rfl ?_
  refine oq (aN rfl rfl) rfl (ak rfl rfl rfl) rfl rfl ?_
  refine cp (g:=some _) (fun h' hE hL=>awg _ h' _ _ o _ _ (.slice a4 ps.length cap4) (hO9.sl fun b' o' hb=>hL b' o' (by simp[hb])) (axy.sl fun b' o' hb=>hL b' o' (by simp[hb])) (av_.ext hE) hfl (by omega) hfo) ?_
  refine agW (dG rfl rfl rfl) rfl ?_
  refine qm rfl rfl rfl ?_
  refine cp (fun h' hE hL=>VW _ h' hS hmb _ _ (hE.1 _ _ hgz)) ?_
  refine agW (dG rfl rfl rfl) rfl ?_
  refine agb rfl rfl rfl<|pq<|W.ret ?_
  exact lvq rfl (hs:=axy.shut.app (hO9.shut.app (hO8.shut.app (hO7.shut.app (hO6.shut.app (hO5.shut.app (hO4.shut.app (hO3.shut.app (hO2.shut.app (hO1.shut.app (.nil)))))))))))
end Go.aS

/- SyrupNumbered's card. Conditions: as the card says; over the given program. -/
namespace Go.Proofs.YtkkdgffaohidnaaGreatDoor
open Go Go.aS
set_option maxRecDepth 100000
set_option maxHeartbeats 4000000
theorem avL:joinedFacts prog avz avG Rows.syrupNumberedSpec Rows.syrupNumberedRow=true:=by
 unfold joinedFacts
 repeat' with_reducible refine Bool.and_eq_true_iff.2 ⟨?_,?_⟩
 all_goals first
  | with_reducible exact aci
  | (with_reducible refine makeT ?_;kernel_rfl)
  | (with_reducible refine aeb ?_;kernel_rfl)
  | (as_aux_lemma=>kernel_rfl)
theorem avJ:prog.funcNamed Rows.syrupNumberedRow.func=some avz:=by kernel_rfl
theorem avO:prog.mainIs=some (true, "dbc29bbb9727fbebaf7429f7266f9d82b5a02ec0969210b724e1ed2dac66cc8d".toList):=ad9
theorem avP:true=Rows.syrupNumberedRow.goesBy prog:=by kernel_rfl
theorem avM:true=prog.looks []:=by kernel_rfl
theorem av1:Rows.SyrupNumberedSaid:=
 OpenClaim.holds_of_wide_leaving_time avz avG rfl rfl rfl rfl rfl rfl rfl ⟨rfl,rfl,rfl,rfl,rfl⟩ rfl rfl rfl rfl rfl avJ avH avL
  (of_decide_eq_true (by kernel_rfl)) (by unfold Func.isWrapper;first | (rw[if_pos (by decide+kernel)];kernel_rfl) | (rw[if_neg (by decide+kernel)];exact⟨rfl,rfl⟩))
  (
   fun os started H enc _ F=>ad7 (s:=Rows.syrupNumberedSpec) os started H enc avH (by kernel_rfl) (by kernel_rfl) (by kernel_rfl) (by kernel_rfl) (by kernel_rfl) rfl (fun _=>rfl)
   (OB (enc:=enc) (C:=Tryz.checked) (os:=os) (X:=fun w _=>laidMetH prog J9 w) (laidWorld os) #[.slice none 0 0] 8 rfl (by kernel_rfl) (by kernel_rfl) (by kernel_rfl) (by kernel_rfl) (by kernel_rfl) (laidWorld_met os _))
   (fun main hS hmb h nums lv Eg zg hl hg z0=>avZ main hS hmb h nums lv Eg zg hl hg z0) F)

theorem SyrupNumbered_card:Rows.SyrupNumberedCardSaid:=
 VZ .later [] [.handle] true (true, "dbc29bbb9727fbebaf7429f7266f9d82b5a02ec0969210b724e1ed2dac66cc8d") true
  av1 (fun _ h=>by cases h) (by kernel_rfl) (fun _ h=>by cases h) syrupNumbered_row_tie rfl ⟨rfl,rfl⟩ avO rfl
  (
   fun f fn hf hfn=>by
   obtain rfl:f=avz:=(Option.some.inj (avJ.symm.trans hf)).symm
   obtain rfl:fn=avG:=(Option.some.inj (avH.symm.trans hfn)).symm
   exact⟨avM,fun j t ht=>by
    rw[show(avG).params= #[nS] by kernel_rfl]at ht
    have h3:t=nS:=by
     rcases j with _ | j
     ·simpa using ht.symm
     ·simp at ht
    subst h3
    exact(show prog.wantsStandIn nS=false by kernel_rfl)⟩)
  avP
#print axioms SyrupNumbered_card
end Go.Proofs.YtkkdgffaohidnaaGreatDoor
