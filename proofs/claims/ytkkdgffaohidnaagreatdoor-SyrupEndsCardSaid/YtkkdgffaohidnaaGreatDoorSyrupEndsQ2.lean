/- Where it may end, as the document has it. Conditions: none; over the given program. (And 5 texts more.) -/
import Derived.Test.YtkkdgffaohidnaaGreatDoorSyrupEndsQ1
import Derived.Test.YtkkdgffaohidnaaGreatDoorR13
import Derived.Test.YtkkdgffaohidnaaGreatDoorR10
import Derived.Test.YtkkdgffaohidnaaGreatDoorR14
set_option linter.unusedVariables false
set_option linter.unusedSimpArgs false
set_option linter.unusedSectionVars false

/- Where it may end, as the document has it. Conditions: none; over the given program. -/
namespace Go.aS
set_option maxRecDepth 100000
set_option maxHeartbeats 4000000
theorem asA(main:Side)(h:Hp)(ps:List Pn)(w:Int)(S:Nat→Bool)(vs:List Sv)(vl:Value)(q:Nat)(hvl:vs.length=14)(hv:Sl h ags vl vs)(ahc:∀k,k<14→∃β E z,vs[k]? =some (svB β)∧h β=some (.cells (bA (apy ps w S k)) E z))(hq:q<13):Pu prog main arz #[vl,I q] h (.bool ((List.range 14).any fun n=>apy ps w S n q)):=by
 obtain⟨al,cl,rfl⟩:=hv.dA
 refine dV.aG arW rfl (by show 2≤19;decide) [(0,.slice al vs.length cl),(1,I q)] ⟨rfl,rfl,trivial⟩ ?_
 refine W.seq<|W.region rfl<|agb rfl rfl rfl<|pq<|W.seq<|W.seq<|W.region rfl<|agb rfl rfl rfl<|Ops.nil ?_
 refine aA<|W.block ?_
 refine W.loop (σ:=Nat) (fun n=>n≤14∧(List.range n).any (fun n=>apy ps w S n q)=false) (fun n=>[(5,I n),(0,.slice al vs.length cl),(1,I q)]) (fun _=>[]) (fun n=>14-n) 0 ⟨Nat.zero_le _,rfl⟩ ⟨rfl,rfl,rfl,trivial⟩ .refl ?_
 rintro n ⟨hn,hno⟩
 refine W.seq<|W.seq<|W.region rfl<|qm rfl rfl rfl<|qm rfl rfl rfl ?_
 refine agW (dM rfl rfl) rfl ?_
 refine agW (fO rfl rfl rfl) rfl ?_
 refine pq ?_
 refine W.bC rfl (fun c9=>?_) (fun c9=>?_)
 ·have agu:n<14:=by omega
  obtain⟨Fe,Em,zm,hvm,hbm⟩:=ahc n agu
  obtain⟨bl,arS,ccl,El,fzl,hel,hbl,-,-,hzl⟩:=hv.at hvm
  cases hel
  have hxl:ccl[arS+n*1]? =some (V9 Fe):=hzl 0 (by decide)
  clear hzl
  have hg2:(bA (apy ps w S n))[0+q*1]? =some (.bool (apy ps w S n q)):=by rw[show 0+q*1=q by omega];exact L9 hq
  refine W.skip<|aA<|W.seq<|W.block<|W.seq<|W.region rfl<|qm rfl rfl rfl<|qm rfl rfl rfl ?_
  refine ag3 rfl ?_
  refine agX rfl ?_
  refine qm rfl rfl rfl ?_
  refine ag3 rfl ?_
  refine agX rfl ?_
  refine pq ?_
  refine W.cond rfl (fun c18=>?_) (fun c18=>?_)
  ·refine W.seq<|W.region rfl<|agb rfl rfl rfl<|pq<|W.ret<|cZ<|aY<|aY<|cZ ?_
   refine aY ?_
   refine uZ ?_
   exact congrArg Value.bool (List.any_eq_true.2 ⟨n,List.mem_range.2 agu,c18⟩).symm
  ·refine W.skip<|dI<|aA<|W.region rfl<|qm rfl rfl rfl ?_
   refine ag1 rfl ?_
   refine agb rfl rfl rfl<|pq ?_
   exact⟨rfl,n+1,⟨agu,by rw[List.range_succ,List.any_append,hno];simpa using c18⟩,by omega,⟨rfl,rfl,rfl,trivial⟩,.refl⟩
 ·obtain rfl:n=14:=by omega
  refine W.exit<|bP<|bP<|gG<|aA<|W.seq<|W.region rfl<|agb rfl rfl rfl<|pq ?_
  refine W.ret ?_
  refine uZ ?_
  exact congrArg Value.bool hno.symm
theorem aru{ps:List Pn}(h4:ps.length≤4){q e:Nat}(hq:q<13):enB ps (Ah (dO ps 0) q) e=(dY ps e&&(List.range 14).any fun n=>apy ps (-1) (apM ps e) n q):=by
 have hr:=aiq (g:=dO ps 0) afX (q:=q) F9 hq (e:=e)
 rw[Bool.eq_iff_iff,enB,List.any_eq_true,Bool.and_eq_true,List.any_eq_true]
 constructor
 ·rintro⟨w,hw,h1⟩
  simp only[Bool.and_eq_true,decide_eq_true_eq]at h1
  obtain⟨rfl,h2⟩:=h1
  obtain⟨n,h3,h5⟩:=hr.1 ⟨w,hw,rfl⟩
  exact⟨h2,n,List.mem_range.2 h3,by rw[ap2 h4,ard];exact h5⟩
 ·rintro⟨h1,n,h2,h3⟩
  rw[ap2 h4,ard]at h3
  obtain⟨w,hw,rfl⟩:=hr.2 ⟨n,List.mem_range.1 h2,h3⟩
  exact⟨w,hw,by simp[h1]⟩
theorem asf(main:Side)(h:Hp)(ps:List Pn)(vp:Value)(q:Int)(hf:Sl h Pn.row vp ps):dV prog main arx #[vp,I q] h [] (fun v A=>∃w S,v= .tuple #[w,I (EnF ps q).2]∧Os dL fH w (zs (EnF ps q).1) S∧Sb S A):=by
 obtain⟨a,cap,rfl⟩:=hf.dA
 refine dV.aG arV rfl (by show 2≤35;decide) [(0,.slice a ps.length cap),(1,I q)] ⟨rfl,rfl,trivial⟩ ?_
 refine W.seq<|W.region rfl<|agb rfl rfl rfl<|agb rfl rfl rfl<|pq<|W.seq<|W.seq<|W.region rfl<|qm rfl rfl rfl ?_
 refine qm rfl rfl rfl ?_
 refine cp (fun h' hE hL=>ald _ h' ps _ q (hf.ext hE)) ?_
 refine agb rfl rfl rfl<|pq<|W.seq<|W.region rfl<|qm rfl rfl rfl ?_
 refine agW (nG rfl rfl rfl) rfl ?_
 refine pq ?_
 refine W.bC rfl (fun c13=>?_) (fun c13=>?_)
 ·refine W.seq<|W.region rfl<|qm rfl rfl rfl<|agb rfl rfl rfl<|agb rfl rfl rfl<|pq<|W.ret<|aY ?_
  refine mg (vs:=[_,_]) ?_
  rw[EnF,if_pos (by assumption)]
  exact⟨_,[],rfl,.nil .nil,.nil .nil⟩
 ·have h0:kU ps [q]=0:=by simpa using c13
  obtain⟨hok,hq0,hq12⟩:=Sj h0
  have h4:=hok.len
  obtain⟨q,rfl⟩:∃n:Nat,q=n:=⟨q.toNat,by omega⟩
  have Dn:q<13:=by omega
  rw[show EnF ps q=(qsL (enB ps (Ah (dO ps 0) q)),0) by rw[EnF,if_neg (by assumption),Int.toNat_natCast]]
  refine W.skip<|aA<|W.seq<|W.region rfl<|agb rfl rfl rfl<|pq<|W.seq<|W.seq<|W.region rfl ?_
  refine agb rfl rfl rfl<|pq<|W.block ?_
  refine W.loop (σ:=Nat×Value×ah) (fun t=>t.1≤13∧Os dL fH t.2.1 (zs ((List.range t.1).filter (enB ps (Ah (dO ps 0) q)))) t.2.2) (fun t=>[(8,I t.1),(7,t.2.1),(0,.slice a ps.length cap),(1,I q)]) (fun t=>t.2.2) (fun t=>13-t.1) (0,.slice none 0 0,[]) ⟨Nat.zero_le _,.nil .nil⟩ ⟨rfl,rfl,rfl,rfl,trivial⟩ .refl ?_
  rintro⟨k,v,S⟩ ⟨hk,hO⟩
  dsimp only at*
  refine W.seq<|W.seq<|W.region rfl<|qm rfl rfl rfl ?_
  refine agW (Lr rfl rfl rfl) rfl ?_
  refine pq ?_
  refine W.bC rfl (fun c16=>?_) (fun c16=>?_)
  ·have Vq:k<13:=by omega
   have hfl:((List.range k).filter (enB ps (Ah (dO ps 0) q))).length≤k:=Nat.le_trans (List.length_filter_le ..) (by simp)
   refine W.skip<|aA<|W.seq<|W.block<|W.seq ?_
   refine W.cut [(29,.bool (enB ps (Ah (dO ps 0) q) k)),(8,I k),(7,v),(0,.slice a ps.length cap),(1,I q)] S ?_ ?_
   ·refine W.region rfl<|qm rfl rfl rfl<|qm rfl rfl rfl ?_
    refine cp (fun h' hE hL=>ah6 _ h' ps _ k (hf.ext hE) (by omega)) ?_
    refine qm rfl rfl rfl ?_
    refine Ops.RV (fun akX=>?_) (fun akX=>?_)
    ·refine oq (aN rfl rfl) rfl (ak rfl rfl rfl) rfl rfl ?_
     refine oq (aN rfl rfl) rfl (ak rfl rfl rfl) rfl rfl ?_
     refine oq (eH rfl rfl rfl) rfl (ak rfl rfl rfl) rfl rfl ?_
     refine oe rfl (ak rfl rfl rfl) rfl rfl (QZ (args:=[_,_,_]) (A:=[]) rfl rfl (Seg.head (A:=[])) (fun h' hE hL=>aq0 _ h' ps _ (-1) k (hf.ext hE) hok) (fun v A' hv=>?_))
     obtain⟨vs,SL,Fo,hOl,hvl,hLA,hsb⟩:=hv
     refine Ops.sb (F':=(SL++Fo)++S) (hsb.app .refl) ?_
     refine oq (aN rfl rfl) rfl (ak rfl rfl rfl) rfl rfl ?_
     refine cp (g:=some _) (fun h' hE hL=>asA _ h' ps (-1) (apM ps k) vs _ q hvl (hOl.sl fun b' o hb=>hL b' o (by simp[hb])) (fun n hn=>by
      obtain⟨β,h1,h2⟩:=hLA.2 n hn
      exact⟨β,RS,(0,0),h1,hL _ _ (by simp[h2])⟩) Dn) ?_
     refine agW (dG rfl rfl rfl) rfl ?_
     refine Ops.nil ?_
     first
      | exact⟨rfl,rfl,⟨lk rfl (congrArg Value.bool (by rw[aru h4 Dn];simp[*])),rfl,rfl,rfl,rfl,trivial⟩,.left .refl (hOl.shut.app hLA.1)⟩
      | exact⟨rfl,rfl,⟨lk rfl (congrArg Value.bool (by rw[aru h4 Dn];simp[*])),rfl,rfl,rfl,rfl,trivial⟩,.refl⟩
    ·refine Ops.no ?_
     refine Ops.no ?_
     refine Ops.no ?_
     refine Ops.no ?_
     refine Ops.no ?_
     refine Ops.no ?_
     refine agW (iH rfl rfl rfl) rfl ?_
     refine Ops.nil ?_
     first
      | exact⟨rfl,rfl,⟨lk rfl (congrArg Value.bool (by rw[aru h4 Dn];simp[*])),rfl,rfl,rfl,rfl,trivial⟩,.left .refl (hOl.shut.app hLA.1)⟩
      | exact⟨rfl,rfl,⟨lk rfl (congrArg Value.bool (by rw[aru h4 Dn];simp[*])),rfl,rfl,rfl,rfl,trivial⟩,.refl⟩
   ·skip
    refine W.cond rfl (fun c29=>?_) (fun c29=>?_)
    ·refine W.region rfl<|qm rfl rfl rfl<|qm rfl rfl rfl ?_
     refine Ops.NK (cs:= #[I k]) (fun aul=>?_) rfl
     refine oe rfl wn rfl rfl (iW (row:=fH) (l':=[(k:Int)]) rfl rfl rfl hO (.tail .all) (fun h2 _ hl=>Sl.mk (hl aul _ (.head _)) rfl (Part.all [I k])) (by rw[kT];simp;omega) (by decide) rfl (fun v' S' Ie=>?_))
     refine agb rfl rfl rfl<|Ops.nil<|dI<|aA<|W.region rfl<|qm rfl rfl rfl ?_
     refine ag1 rfl ?_
     refine agb rfl rfl rfl<|pq ?_
     exact⟨rfl,(k+1,v',S'),⟨Vq,by dsimp only;rw[List.range_succ,List.filter_append,X3];simpa[zs,c29]using Ie⟩,by dsimp only;omega,⟨rfl,rfl,rfl,rfl,trivial⟩,.skip rfl .refl⟩
    ·refine W.skip<|dI<|aA<|W.region rfl<|qm rfl rfl rfl ?_
     refine ag1 rfl ?_
     refine agb rfl rfl rfl<|pq ?_
     exact⟨rfl,(k+1,v,S),⟨Vq,by dsimp only;rw[List.range_succ,List.filter_append,X3];simpa[zs,c29]using hO⟩,by dsimp only;omega,⟨rfl,rfl,rfl,rfl,trivial⟩,.refl⟩
  ·obtain rfl:k=13:=by omega
   refine W.exit<|bP<|bP<|gG<|aA<|W.seq<|W.region rfl<|qm rfl rfl rfl<|agb rfl rfl rfl<|agb rfl rfl rfl ?_
   refine pq<|W.ret ?_
   exact mg (vs:=[_,_]) ⟨_,S,rfl,hO,.refl⟩
end Go.aS

/- SyrupRings. Conditions: none; over the given program. -/
namespace Go.aS
set_option maxRecDepth 100000
set_option maxHeartbeats 4000000
end Go.aS

/- SyrupEnds. Conditions: none; over the given program. -/
namespace Go.aS
set_option maxRecDepth 100000
set_option maxHeartbeats 4000000
theorem asB{ps:List Pn}{q:Int}:(zs (EnF ps q).1).length≤100000:=by
 rw[kT,EnF]
 split
 ·simp
 ·exact Nat.le_trans afn (by decide)
theorem ar4{ps:List Pn}{q:Int}:(zs (ahU ps q).1).length≤100000:=by
 rw[kT]
 by_cases h:kU ps [q]=0
 ·obtain⟨hok,h1,h2⟩:=Sj h
  obtain⟨q,rfl⟩:∃n:Nat,q=n:=⟨q.toNat,by omega⟩
  rw[arB h (by omega)]
  cases hr:afV (dO ps 0) (apM ps (-1)) 0 q with
  | none=>simp
  | some v=>
   rw[arX,(agV (g:=dO ps 0) afX (q:=q) F9 (T:=fun k=>dY ps k) (lo:=0) (by omega) (by omega)).1]at hr
   obtain⟨w,hw,rfl⟩:=Option.map_eq_some_iff.1 hr
   have:=((agV (g:=dO ps 0) afX (q:=q) F9 (T:=fun k=>dY ps k) (lo:=0) (by omega) (by omega)).2 w hw).2.2.2.1
   show w.1.length≤_;omega
 ·rw[ahU,if_pos h];simp
theorem arM(main:Side)(hS:∀S,main.ok S→∃Fin,S=Mo prog Fin)(hmb:main.b=true)(h:Hp)(ps:List Pn)(vp:Value)(p:Pn)(q:Int)(nums:List Int)(lv:Value)(Eg:TypeId)(zg:Nat×Nat)(hf:Sl h Pn.row vp ps)(hl:Sl h fH lv nums)(hg:h 0=some (.cells #[Ur qM] Eg zg))(z0:h.z 0):QE prog main aqb #[vp,p.val,I q,lv] h (.bool true):=by
 obtain⟨a,cap,rfl⟩:=hf.dA
 refine QE.aG aqZ rfl (by show 4≤131;decide) [(0,.slice a ps.length cap),(1,p.val),(2,I q),(3,lv)] ⟨rfl,rfl,rfl,rfl,trivial⟩ ?_
 refine W.seq<|W.region rfl ?_
 refine Ops.box (cs:= #[I p.lo,I p.hi,I p.sh]) (fun mZ=>?_)
 refine agb rfl rfl rfl<|pq<|W.seq<|W.seq<|W.region rfl<|qm rfl rfl rfl ?_
 refine agW (dM rfl rfl) rfl ?_
 refine agW (rC rfl rfl rfl) rfl ?_
 refine pq ?_
 refine W.bC rfl (fun c24=>?_) (fun c24=>?_)
 ·refine W.seq<|W.region rfl ?_
  refine cp (fun h' hE hL=>VW _ h' hS hmb _ _ (hE.1 _ _ (by first | exact hgz | exact hg))) ?_
  refine agb rfl rfl rfl<|pq<|W.ret<|aY ?_
  exact lvq rfl
 ·have arF:ps.length≤20:=by omega
  refine W.skip<|aA<|W.seq ?_
  refine W.DR [(mZ,.cells #[I p.lo,I p.hi,I p.sh] Ag (0,0))] (n:=6) rfl ?_
  refine xq 0 (aN rfl rfl) rfl ?_
  first | refine xq 1 (Bf rfl rfl) rfl ?_ | refine xq 1 (zi rfl rfl) rfl ?_
  refine xq 2 (aN rfl rfl) rfl ?_
  refine ae (i:=3) rfl an rfl rfl (QZ (args:=[_]) (A:=[]) rfl rfl (Seg.head (A:=[])) (fun h' hE hL=>VQ _ h' nums lv (hl.ext hE)) (fun v A' hv=>?_))
  obtain⟨b,s0,rfl,rfl⟩:=hv
  refine⟨.inr (.one (.tail _ (.head _)) .nil),?_⟩
  refine ae (i:=4) rfl an rfl rfl (QZ (args:=[_,_,_]) (A:=[(b,wF lv 0 s0)]) rfl rfl .head (fun h' hE hL=>apA _ h' nums lv b 0 s0 ps _ p (hl.ext hE) (by omega) (hf.ext hE)) (fun v A' hv=>?_))
  obtain⟨sv0,vs,ls,S,T,k1,s1,hs0,hT,hO,⟨hvl,hll⟩,hk1,hsb⟩:=hv
  obtain⟨at4,ct4,rfl⟩:=hT.dA
  refine⟨.inr (.one (List.mem_append_right _ (.head _)) .nil),Any.sb (F':=(mZ,.cells #[I p.lo,I p.hi,I p.sh] Ag (0,0))::(T++(S++[(b,wF lv k1 s1)]))) (Sb.trans (.dF (agQ fun y=>by simp only[List.count_append,List.count_cons,List.count_nil];omega)) (hsb.app (.refl (A:=[(mZ,.cells #[I p.lo,I p.hi,I p.sh] Ag (0,0))])))) ?_⟩
  refine xq 5 (jS rfl rfl) rfl ?_
  refine az ?_
  refine aA ?_
  refine W.sb (F':=T++(S++[])) (.skip rfl (.app .refl (.app .refl (.nil (.cons rfl .nil))))) ?_
  refine JU hT (fun hz hEz ap0 _=>?_)
  refine agG hO (fun hz2 agM hall=>?_)
  replace ap0:=ap0.ext agM
  have hEh:=hEz.trans agM
  have hgz:=hEh.1 _ _ hg
  have h4:(sv0::vs).length=4:=by simp[hvl]
  have hcase:∀i,i<4→∃(sv:Sv) (l:List Pn),(sv0::vs)[i]? =some sv∧Sl hz2 Pn.row sv.val l∧l.length≤20:=by
   intro i hi
   rcases i with _ | i
   ·exact⟨sv0,ps,rfl,by rw[←hs0];exact hf.ext hEh,arF⟩
   ·obtain⟨sv,hsv,-⟩:=has (show i<vs.length by omega)
    obtain⟨l,hl',-⟩:=has (show i<ls.length by rw[←hO.len];omega)
    exact⟨sv,l,by simpa using hsv,(hall i sv l hsv hl').1,by have:=hll l (List.mem_of_getElem? hl');omega⟩
  rw[h4]at ap0⊢
  refine W.seq<|W.seq<|W.region rfl<|agb rfl rfl rfl<|pq<|W.block ?_
  refine W.loop (σ:=Nat) (fun i=>i≤4) (fun i=>[(10,I i),(9,.slice at4 4 ct4),(2,I q)]) (fun _=>[]) (fun i=>4-i) 0 (Nat.zero_le _) ⟨rfl,rfl,rfl,trivial⟩ .refl ?_
  rintro i hi
  refine W.seq<|W.seq<|W.region rfl<|qm rfl rfl rfl<|qm rfl rfl rfl ?_
  refine agW (dM rfl rfl) rfl ?_
  refine agW (fO rfl rfl rfl) rfl ?_
  refine pq ?_
  refine W.bC rfl (fun c34=>?_) (fun c34=>?_)
  ·have hi4:i<4:=by omega
   obtain⟨sv,l,hsv,apH,ar_⟩:=hcase i hi4
   obtain⟨bb,off,c,E,fz,hv,hb,-,-,hzz⟩:=ap0.at hsv
   cases hv
   have hx0:c[off+i*1]? =some (.slice sv.a sv.n sv.cap):=hzz 0 (by decide)
   refine W.skip<|aA<|W.seq<|W.block<|W.seq<|W.region rfl<|qm rfl rfl rfl<|qm rfl rfl rfl ?_
   refine ag3 rfl ?_
   refine agX rfl ?_
   refine c0 (fun h' hE hL=>aij _ h' l _ (apH.ext hE) (by omega)) (fun v A' hv=>?_)
   obtain⟨Sw,hOw,arI⟩:=hv
   refine Ops.sb (F':=Sw++[]) (arI.app .refl) ?_
   obtain⟨aw,cw,rfl⟩:=hOw.dA
   refine agb rfl rfl rfl<|pq<|W.seq<|W.seq<|W.region rfl<|agb rfl rfl rfl<|pq<|W.block ?_
   refine W.loop (σ:=Nat) (fun m=>m≤14) (fun m=>[(12,I ((m:Int)-1)),(11,.slice aw l.length cw),(10,I i),(9,.slice (some ⟨bb,off,none⟩) 4 ct4),(2,I q)]) (fun _=>Sw) (fun m=>14-m) 0 (Nat.zero_le _) ⟨rfl,rfl,rfl,rfl,rfl,trivial⟩ (by rw[List.append_nil];exact .refl) ?_
   rintro m hm
   refine W.seq<|W.seq<|W.region rfl<|qm rfl rfl rfl ?_
   refine agW (Lr rfl rfl rfl) rfl ?_
   refine pq ?_
   refine W.bC rfl (fun c43=>?_) (fun c43=>?_)
   ·have auK:m<14:=by omega
    refine W.skip<|aA<|W.seq<|W.block<|W.seq<|W.region rfl<|qm rfl rfl rfl<|agb rfl rfl rfl<|pq ?_
    refine W.seq ?_
    refine W.aiB (σ:=Int) (fun _=>True) (fun k=>[(13,I k),(12,I ((m:Int)-1)),(11,.slice aw l.length cw),(10,I i),(9,.slice (some ⟨bb,off,none⟩) 4 ct4),(2,I q)]) (fun _=>Sw) ?_ ?_
    ·refine W.seq<|W.region rfl<|qm rfl rfl rfl ?_
     refine agW (fO rfl rfl rfl) rfl ?_
     refine pq ?_
     refine W.bC rfl (fun c48=>?_) (fun c48=>?_)
     ·refine W.region rfl<|qm rfl rfl rfl<|agb rfl rfl rfl<|Ops.nil ?_
      exact⟨rfl,rfl,_,trivial,⟨rfl,rfl,rfl,rfl,rfl,rfl,trivial⟩,.refl⟩
     ·refine W.skip ?_
      exact⟨rfl,rfl,_,trivial,⟨rfl,rfl,rfl,rfl,rfl,rfl,trivial⟩,.refl⟩
    ·intro k _
     refine W.seq<|W.region rfl<|qm rfl rfl rfl<|qm rfl rfl rfl ?_
     refine cp (fun h' hE hL=>J3 _ h' l _ k (hOw.sl fun b' o hb=>hL b' o hb)) ?_
     refine qm rfl rfl rfl<|oq (bD rfl rfl rfl) rfl wn rfl rfl<|oq (bD rfl rfl rfl) rfl wn rfl rfl<|agb rfl rfl rfl<|agb rfl rfl rfl<|pq<|W.seq<|W.region rfl<|qm rfl rfl rfl ?_
     refine qm rfl rfl rfl ?_
     refine ag3 rfl ?_
     refine agX rfl ?_
     refine qm rfl rfl rfl ?_
     refine cp (fun h' hE hL=>arZ _ h' l _ k (apH.ext hE)) ?_
     refine qm rfl rfl rfl<|oq (bD rfl rfl rfl) rfl wn rfl rfl<|oq (bD rfl rfl rfl) rfl wn rfl rfl<|agb rfl rfl rfl<|agb rfl rfl rfl<|pq<|W.seq<|W.region rfl<|qm rfl rfl rfl ?_
     refine qm rfl rfl rfl ?_
     refine c0 (fun h' hE hL=>aib _ h' l _ k (hOw.sl fun b' o hb=>hL b' o hb)) (fun v A' hv=>?_)
     obtain⟨t3,St3,rfl,asv,aqP⟩:=hv
     refine Ops.sb (F':=St3++Sw) (aqP.app .refl) ?_
     refine qm rfl rfl rfl<|oq (bD rfl rfl rfl) rfl wn rfl rfl<|oq (bD rfl rfl rfl) rfl wn rfl rfl<|agb rfl rfl rfl<|agb rfl rfl rfl<|pq<|W.seq<|W.region rfl<|qm rfl rfl rfl ?_
     refine qm rfl rfl rfl ?_
     refine ag3 rfl ?_
     refine agX rfl ?_
     refine qm rfl rfl rfl ?_
     refine c0 (fun h' hE hL=>arU _ h' l _ k (apH.ext hE)) (fun v A' hv=>?_)
     obtain⟨t4,St4,rfl,aqQ,aqR⟩:=hv
     refine Ops.sb (F':=St4++(St3++Sw)) (aqR.app .refl) ?_
     refine qm rfl rfl rfl<|oq (bD rfl rfl rfl) rfl wn rfl rfl<|oq (bD rfl rfl rfl) rfl wn rfl rfl<|agb rfl rfl rfl<|agb rfl rfl rfl<|pq<|W.seq<|W.seq<|W.region rfl ?_
     refine qm rfl rfl rfl<|qm rfl rfl rfl ?_
     refine KU (nG rfl rfl rfl) (congrArg Value.bool (show decide ((((qh l k).1.1:Nat):Int)≠((qh l k).1.1:Nat))=false by simp)) rfl wn rfl rfl ?_
     refine qm rfl rfl rfl ?_
     refine oq (aN rfl rfl) rfl (ak rfl rfl rfl) rfl rfl ?_
     refine oq (aN rfl rfl) rfl (ak rfl rfl rfl) rfl rfl ?_
     refine KU (nG rfl rfl rfl) (congrArg Value.bool (show decide (((qh l k).2:Int)≠(qh l k).2)=false by simp)) rfl (ak rfl rfl rfl) rfl rfl ?_
     refine agW (iH rfl rfl rfl) rfl ?_
     refine qm rfl rfl rfl ?_
     refine oq (aN rfl rfl) rfl (ak rfl rfl rfl) rfl rfl ?_
     refine oq (aN rfl rfl) rfl (ak rfl rfl rfl) rfl rfl ?_
     refine KU (nG rfl rfl rfl) (congrArg Value.bool (show decide (((ahU l k).2:Int)≠(ahU l k).2)=false by simp)) rfl (ak rfl rfl rfl) rfl rfl ?_
     refine agW (iH rfl rfl rfl) rfl ?_
     refine qm rfl rfl rfl ?_
     refine oq (aN rfl rfl) rfl (ak rfl rfl rfl) rfl rfl ?_
     refine oq (aN rfl rfl) rfl (ak rfl rfl rfl) rfl rfl ?_
     refine cp (g:=some _) (fun h' hE hL=>VU _ h' (zs (ahU l k).1) (zs (ahU l k).1) _ _ (asv.2 _ fun b' o hb=>hL b' o (by simp[hb])) (aqQ.sl fun b' o hb=>hL b' o (by simp[hb])) ar4) ?_
     refine KU (xU rfl rfl) (congrArg Value.bool (show(!decide ((zs (ahU l k).1)=(zs (ahU l k).1)))=false by simp)) rfl (ak rfl rfl rfl) rfl rfl ?_
     refine agW (iH rfl rfl rfl) rfl ?_
     refine pq ?_
     refine W.bZ ?_
     refine W.skip<|aA<|W.seq<|W.region rfl<|qm rfl rfl rfl<|qm rfl rfl rfl ?_
     refine c0 (fun h' hE hL=>aiH _ h' l _ k (hOw.sl fun b' o hb=>hL b' o (by simp[hb]))) (fun v A' hv=>?_)
     obtain⟨t5,St5,rfl,ato,atp⟩:=hv
     refine Ops.sb (F':=St5++(St4++(St3++Sw))) (atp.app .refl) ?_
     refine qm rfl rfl rfl<|oq (bD rfl rfl rfl) rfl wn rfl rfl<|oq (bD rfl rfl rfl) rfl wn rfl rfl<|agb rfl rfl rfl<|agb rfl rfl rfl<|pq<|W.seq<|W.region rfl<|qm rfl rfl rfl ?_
     refine qm rfl rfl rfl ?_
     refine ag3 rfl ?_
     refine agX rfl ?_
     refine qm rfl rfl rfl ?_
     refine c0 (fun h' hE hL=>asf _ h' l _ k (apH.ext hE)) (fun v A' hv=>?_)
     obtain⟨t6,St6,rfl,atq,atr⟩:=hv
     refine Ops.sb (F':=St6++(St5++(St4++(St3++Sw)))) (atr.app .refl) ?_
     refine qm rfl rfl rfl<|oq (bD rfl rfl rfl) rfl wn rfl rfl<|oq (bD rfl rfl rfl) rfl wn rfl rfl<|agb rfl rfl rfl<|agb rfl rfl rfl<|pq<|W.seq<|W.region rfl<|qm rfl rfl rfl ?_
     refine qm rfl rfl rfl ?_
     refine KU (nG rfl rfl rfl) (congrArg Value.bool (show decide (((EnF l k).2:Int)≠(EnF l k).2)=false by simp)) rfl wn rfl rfl ?_
     refine qm rfl rfl rfl ?_
     refine oq (aN rfl rfl) rfl (ak rfl rfl rfl) rfl rfl ?_
     refine oq (aN rfl rfl) rfl (ak rfl rfl rfl) rfl rfl ?_
     refine cp (g:=some _) (fun h' hE hL=>VU _ h' (zs (EnF l k).1) (zs (EnF l k).1) _ _ (ato.sl fun b' o hb=>hL b' o (by simp[hb])) (atq.sl fun b' o hb=>hL b' o (by simp[hb])) asB) ?_
     refine KU (xU rfl rfl) (congrArg Value.bool (show(!decide ((zs (EnF l k).1)=(zs (EnF l k).1)))=false by simp)) rfl (ak rfl rfl rfl) rfl rfl ?_
     refine agW (iH rfl rfl rfl) rfl ?_
     refine pq ?_
     refine W.bZ ?_
     refine W.skip<|dI<|aA<|W.region rfl<|qm rfl rfl rfl ?_
     refine ag1 rfl ?_
     refine agb rfl rfl rfl<|pq ?_
     exact⟨rfl,m+1,by omega,by omega,⟨lk rfl (show I _=I _ by congr 1;omega),rfl,rfl,rfl,rfl,trivial⟩,.left (.left (.left (.left .refl asv.1) aqQ.shut) ato.shut) atq.shut⟩
   ·refine W.exit<|bP<|bP<|gG<|aA<|W.seq<|W.region rfl<|qm rfl rfl rfl<|qm rfl rfl rfl<|qm rfl rfl rfl ?_
    refine ag3 rfl ?_
    refine agX rfl ?_
    refine cp (fun h' hE hL=>apE _ h' l l _ _ (hOw.sl fun b' o hb=>hL b' o hb) (apH.ext hE) (by omega)) ?_
    refine KU (xU rfl rfl) (congrArg Value.bool (show(!decide (l=l))=false by simp)) rfl wn rfl rfl ?_
    refine pq ?_
    refine W.bZ ?_
    refine W.skip<|dI<|aA<|W.region rfl<|qm rfl rfl rfl ?_
    refine ag1 rfl ?_
    refine agb rfl rfl rfl<|pq ?_
    exact⟨rfl,i+1,by omega,by omega,⟨rfl,rfl,rfl,trivial⟩,.nil hOw.shut⟩
  ·refine W.exit<|bP<|bP<|gG<|aA<|W.seq<|W.region rfl ?_
   refine cp (fun h' hE hL=>VW _ h' hS hmb _ _ (hE.1 _ _ (by first | exact hgz | exact hg))) ?_
   refine agb rfl rfl rfl<|pq<|W.ret ?_
   exact lvq rfl
end Go.aS

/- Slices of structs of numbers, as they are handed in. Conditions: none; over any program. -/
namespace Go.aS
def aoW(P:Program)(t:TypeId)(w:Nat):Prop:=P.cellsOf t=w∧∀{H:Type} {enc:TypeId×Value→H} {W:World} {base:Nat} {spare:Nat→Bool} {held:Bool} {fuel:Nat} {cs:List Value} {x:DataW H×List MemPlace},DataW.trod enc P W base spare held fuel t cs=some x→∃ns:List Int,cs=ns.map nI∧ns.length=w
theorem aoW.int{P:Program}{t:TypeId}(ht:P.underlying t=some (.int .i64))(hc:P.cellsOf t=1):aoW P t 1:=⟨hc,fun h=>by
 obtain⟨n,rfl,-,-⟩:=DataW.trod_int ht h
 exact⟨[n],rfl,rfl⟩⟩
def aqg(P:Program):List Field→List Nat→Nat→Prop
 | [],[],_=>True
 | f::fs,w::ws,o=>f.offset=o∧aoW P f.type w∧aqg P fs ws (o+w)
 | _,_,_=>False
theorem apx{P:Program}{H:Type}{enc:TypeId×Value→H}{W:World}{base:Nat}{spare:Nat→Bool}{held:Bool}{n:Nat}{cs:List Value}:∀(fs:List Field) (ws:List Nat) (o:Nat),aqg P fs ws o→(∀f∈fs,∃x,DataW.trod enc P W base spare held n f.type ((cs.drop f.offset).take (P.cellsOf f.type))=some x)→o+ws.sum=cs.length→∃ns:List Int,cs.drop o=ns.map nI∧ns.length=ws.sum
 | [],[],o,_,_,hl=>⟨[],by simp at hl;simp;omega,rfl⟩
 | f::fs,w::ws,o,⟨ho,⟨hc,hr⟩,hrest⟩,hx,hl=>by
  obtain⟨x,h1⟩:=hx f (List.mem_cons_self ..)
  obtain⟨ns,h2,h3⟩:=hr h1
  rw[List.sum_cons]at hl
  obtain⟨ms,h4,h5⟩:=apx fs ws (o+w) hrest (fun g hg=>hx g (List.mem_cons_of_mem _ hg)) (by omega)
  subst ho
  rw[hc]at h2
  refine⟨ns++ms,?_,by rw[List.length_append,h3,h5,List.sum_cons]⟩
  rw[List.map_append,←h2,←h4,←List.drop_drop,List.take_append_drop]
 | [],_::_,_,h,_,_=>h.elim
 | _::_,[],_,h,_,_=>h.elim
theorem aoW.struct{P:Program}{t:TypeId}{fs:Array Field}{ws:List Nat}(ht:P.underlying t=some (.struct fs))(hl:aqg P fs.toList ws 0)(hc:P.cellsOf t=ws.sum):aoW P t ws.sum:=⟨hc,fun{H enc W base spare held fuel cs x} h=>by
 obtain⟨xs,n,-,-,h1,h2,h3⟩:=DataW.trod_struct ht h
 have:=apx (cs:=cs) fs.toList ws 0 hl (fun f hf=>by
  obtain⟨i,hi⟩:=List.mem_iff_getElem?.1 hf
  have hi':fs[i]? =some f:=by simpa using hi
  have hlt:i<xs.length:=by
   rw[h2]
   rcases Nat.lt_or_ge i fs.size with h | h
   ·exact h
   ·rw[Array.getElem?_eq_none h]at hi';cases hi'
  exact⟨xs[i],by rw[h3 i f hi',List.getElem?_eq_getElem hlt]⟩) (by omega)
 simpa using this⟩
theorem aoW.val{P:Program}{t w:Nat}(R:aoW P t w){H:Type}{enc:TypeId×Value→H}{W:World}{base:Nat}{spare:Nat→Bool}{held:Bool}{v:Value}{d:DataW H}{ps:List MemPlace}(h:DataW.Trod enc P W base spare held t v d ps):∃ns:List Int,v.cells.toList=ns.map nI∧ns.length=w:=by
 obtain⟨fuel,h⟩:=h
 exact R.2 h

theorem apB{W:World}{base n:Nat}{a:Addr}{cs:List Value}(h:W.cells? base a n=some cs):cs.length=n∧∀i,i<n→W.cell? (a.add i)=cs[i]? :=by
 unfold World.cells? at h
 split at h
 ·have h1:=mapM_some_length h
  rw[List.length_range]at h1
  exact⟨h1,fun i hi=>mapM_some_get h i i (by simp[hi])⟩
 ·cases h
theorem aoW.slice{P:Program}{e t w:Nat}(R:aoW P e w)(hw:0<w){α:Type}{row:α→List Value}[Rw row w](mk:∀ns:List Int,ns.length=w→∃p:α,row p=ns.map nI)(ht:P.underlying t=some (.slice e)){H:Type}{enc:TypeId×Value→H}{W:World}{base:Nat}{spare:Nat→Bool}{held:Bool}{v:Value}{fuel:Nat}{x:DataW H×List MemPlace}(hf:DataW.trod enc P W base spare held fuel t [v]=some x):∃l:List α,Sl (atStart W) row v l:=by
 rcases DataW.trod_slice ht hf with⟨hcs,-⟩ | ⟨a,len,cap,elems,rest,n,-,hcs,-,hb,hle,hm,hlen,hel,-,-⟩
 ·obtain rfl:v= .slice none 0 0:=by simpa using hcs
  exact⟨[],.nil⟩
 ·obtain rfl:v= .slice (some a) len cap:=by simpa using hcs
  rw[R.1]at hel
  have each:∀i,i<len→∃p:α,∀j,j<w→W.cell? ((a.add (i*w)).add j)=(row p)[j]? :=fun i hi=>by
   have h1:=hel i hi
   rw[List.getElem?_eq_getElem (by omega),Option.bind_eq_some_iff]at h1
   obtain⟨cs,h2,h3⟩:=h1
   obtain⟨ns,rfl,h4⟩:=R.2 h3
   obtain⟨p,hp⟩:=mk ns h4
   refine⟨p,fun j hj=>?_⟩
   rw[(apB h2).2 j hj,hp]
  have all:∀m,m≤len→∃l:List α,l.length=m∧∀i p,l[i]? =some p→∀j,j<w→W.cell? ((a.add (i*w)).add j)=(row p)[j]? :=by
   intro m
   induction m with
   | zero=>intro _;exact⟨[],rfl,fun i p hp=>by simp at hp⟩
   | succ m ih=>
    intro hm
    obtain⟨l,h1,h2⟩:=ih (by omega)
    obtain⟨p,hp⟩:=each m (by omega)
    refine⟨l++[p],by simp[h1],fun i q hq=>?_⟩
    rcases Nat.lt_or_ge i l.length with h | h
    ·rw[List.getElem?_append_left h]at hq;exact h2 i q hq
    ·have hlt:=lt_of_some hq
     simp at hlt
     have:i=m:=by omega
     subst this
     rw[List.getElem?_append_right h,show i-l.length=0 by omega]at hq
     simp at hq
     subst hq
     exact hp
  obtain⟨l,hl,hc⟩:=all len (Nat.le_refl _)
  refine⟨l,some a,cap,by rw[hl],fun hne=>?_⟩
  have hpos:0<len:=by
   rcases Nat.eq_zero_or_pos len with h | h
   ·subst h;exact absurd (List.eq_nil_of_length_eq_zero hl) hne
   ·exact h
  obtain⟨b,off,spot⟩:=a
  have hsp:spot=none:=by
   obtain⟨p,hp,-⟩:=has (show 0<l.length by omega)
   have h0:=hc 0 p hp 0 hw
   have hrw:(row p).length=w:=Rw.len p
   rw[List.getElem?_eq_getElem (by omega)]at h0
   cases hs:spot with
   | none=>rfl
   | some s=>
    subst hs
    exfalso
    simp only[Nat.zero_mul,World.cell?,Addr.add,if_true]at h0
    split at h0
    ·simp at h0
    ·cases h0
  subst hsp
  have cell:∀k,k<(flat row l).length→∃c E fz,W.heap[b]? =some (.cells c E fz)∧c[off+k]? =(flat row l)[k]? :=fun k hk=>by
   rw[jT]at hk
   have hi:k / w<l.length:=Nat.div_lt_of_lt_mul (by rw[Nat.mul_comm];exact hk)
   have hj:k % w<w:=Nat.mod_lt _ hw
   obtain⟨p,hp,-⟩:=has hi
   have h1:=hc _ p hp _ hj
   have hrw:(row p).length=w:=Rw.len p
   have e1:k / w*w+k % w=k:=Nat.div_add_mod' k w
   have h2:(flat row l)[k]? =(row p)[k % w]? :=by
    have hP:Part (flat row l).toArray 0 (flat row l):=Part.all _
    have h3:=hP.Bo hp (k % w) hj
    rw[Nat.zero_add,e1]at h3
    simpa using h3
   have ea:((⟨b,off,none⟩:Addr).add (k / w*w)).add (k % w)=⟨b,off+k,none⟩:=by
    have e2:(⟨b,off,none⟩:Addr).add (k / w*w)=⟨b,off+k / w*w,none⟩:=jE rfl _
    rw[e2,jE rfl]
    simp only[Addr.mk.injEq,true_and,and_true]
    omega
   rw[ea]at h1
   rw[h2]
   rw[List.getElem?_eq_getElem (show k % w<(row p).length by omega)]at h1⊢
   simp only[World.cell?]at h1
   split at h1
   ·rename_i c E fz hb
    exact⟨c,E,fz,hb,by simpa using h1⟩
   ·cases h1
  have hfl:=jT (row:=row) l
  have apK:0<(flat row l).length:=by rw[hfl];exact Nat.mul_pos (by omega) hw
  obtain⟨c,E,fz,hb',h0⟩:=cell 0 apK
  refine⟨b,off,c,E,fz,rfl,ku.2 ⟨hb',rfl⟩,Part.ace (fun j hj=>?_) (fun e=>by rw[e]at apK;simp at apK)⟩
  obtain⟨c',E',fz',hb2,hj'⟩:=cell j hj
  rw[hb']at hb2
  cases hb2
  exact hj'
end Go.aS

/- From a law of pans, lots and numbers that answers true to its card, time passing meanwhile. Conditions: as the cards say; over the given program. -/
namespace Go.aS
open Go.Proofs.YtkkdgffaohidnaaGreatDoor
set_option maxRecDepth 100000
set_option maxHeartbeats 4000000
section
open Go.ChangeShapes Go.WideShapes Go.RowKit
theorem aoX:aoW prog dL 1:=aoW.int VX VY
theorem apL:aoW prog Ag 3:=aoW.struct (ws:=[1,1,1]) (TD.out (t:=Ag)) ⟨rfl,aoX,rfl,aoX,rfl,aoX,trivial⟩ (by kernel_rfl)
theorem aqh:aoW prog XI 2:=aoW.struct (ws:=[1,1]) (TD.out (t:=XI)) ⟨rfl,aoX,rfl,aoX,trivial⟩ (by kernel_rfl)
theorem aqS:∀ns:List Int,ns.length=3→∃p:Pn,p.row=ns.map nI
 | [a,b,c],_=>⟨⟨a,b,c⟩,rfl⟩
theorem mkLt:∀ns:List Int,ns.length=2→∃p:Lt,p.row=ns.map nI
 | [a,b],_=>⟨⟨a,b⟩,rfl⟩
theorem mkI:∀ns:List Int,ns.length=1→∃p:Int,fH p=ns.map nI
 | [a],_=>⟨a,rfl⟩

structure ap8(h:Hp)(t:TypeId)(v:Value):Prop where
 arK:t=aoG→∃l,Sl h Pn.row v l
 pan:t=Ag→∃p:Pn,v=p.val
 lots:t=apa→∃l,Sl h Lt.row v l
 int:t=dL→∃n,v=I n
 ints:t=nS→∃l,Sl h fH v l
def apv(h:Hp):List TypeId→List Value→Prop
 | [],[]=>True
 | t::ts,v::vs=>ap8 h t v∧apv h ts vs
 | _,_=>False
theorem aqi{H:Type}{enc:TypeId×Value→H}{W:World}{n:Nat}{t:TypeId}{v:Value}{d:DataW H}{ps:List MemPlace}(hv:Value.okWide prog W .any n t v)(h:DataW.Trod enc prog W 0 (fun _=>true) true t v d ps):ap8 (atStart W) t v:=by
 refine⟨?_,?_,?_,?_,?_⟩
 ·rintro rfl
  obtain⟨a,len,cap,rfl⟩:=okWide_slice (TD.out (t:=aoG)) hv
  obtain⟨fuel,h⟩:=h
  exact apL.slice (row:=Pn.row) (by decide) aqS (TD.out (t:=aoG)) h
 ·rintro rfl
  obtain⟨cs,rfl,hc⟩:=okWide_struct (TD.out (t:=Ag)) hv
  obtain⟨ns,h1,h2⟩:=apL.val h
  obtain⟨p,hp⟩:=aqS ns h2
  refine⟨p,?_⟩
  have:cs.toList=p.row:=by rw[hp];exact h1
  rw[show cs=p.row.toArray by rw[←this]]
  rfl
 ·rintro rfl
  obtain⟨a,len,cap,rfl⟩:=okWide_slice (TD.out (t:=apa)) hv
  obtain⟨fuel,h⟩:=h
  exact aqh.slice (row:=Lt.row) (by decide) mkLt (TD.out (t:=apa)) h
 ·rintro rfl
  obtain⟨ns,h1,h2⟩:=aoX.val h
  obtain⟨n,rfl⟩:=okWide_int VX hv
  exact⟨n,rfl⟩
 ·rintro rfl
  obtain⟨a,len,cap,rfl⟩:=okWide_slice EX hv
  obtain⟨fuel,h⟩:=h
  exact aoX.slice (row:=fH) (by decide) mkI EX h
theorem apC{H:Type}{enc:TypeId×Value→H}{W:World}{n:Nat}:∀{ts:List TypeId} {vs:List Value} {ds:List (DataW H)} {ps:List MemPlace},(∀(j:Nat) t v,ts[j]? =some t→vs[j]? =some v→Value.okWide prog W .any n t v)→DataW.TrodAll enc prog W 0 (fun _=>true) true ts vs ds ps→apv (atStart W) ts vs∧ds.length=ts.length
 | [],[],ds,ps,_,h=>by
  cases ds with
  | nil=>exact⟨trivial,rfl⟩
  | cons d ds=>exact h.elim
 | [],_::_,_,_,_,h=>h.elim
 | _::_,[],_,_,_,h=>h.elim
 | t::ts,v::vs,[],_,_,h=>h.elim
 | t::ts,v::vs,d::ds,ps,hv,h=>by
  obtain⟨p,q,h1,h2,-⟩:=h
  obtain⟨h3,h4⟩:=apC (fun j t v a b=>hv (j+1) t v (by simpa using a) (by simpa using b)) h2
  exact⟨⟨aqi (hv 0 t v rfl rfl) h1,h3⟩,by simp[h4]⟩
theorem apt{H:Type}{enc:TypeId×Value→H}{W W':World}(hb:Below W.heap.size W W'):∀{ts:List TypeId} {vs:List Value} {ds:List (DataW H)} {ps:List MemPlace},(∀t∈ts,prog.readableRec t=true∧t<prog.types.size)→DataW.TrodAll enc prog W 0 (fun _=>true) true ts vs ds ps→(∀x∈ps,x.block<W.heap.size)→DataW.TrodAll enc prog W' 0 (fun b=>decide (b<W.heap.size)) true ts vs ds ps
 | [],[],ds,ps,_,h,_=>by
  cases ds with
  | nil=>exact h
  | cons d ds=>exact h.elim
 | [],_::_,_,_,_,h,_=>h.elim
 | _::_,[],_,_,_,h,_=>h.elim
 | t::ts,v::vs,[],_,_,h,_=>h.elim
 | t::ts,v::vs,d::ds,ps,ht,h,hlt=>by
  obtain⟨p,q,h1,h2,rfl⟩:=h
  exact⟨p,q,Below.trod YR (ht t (List.mem_cons_self ..)).1 (ht t (List.mem_cons_self ..)).2 h1 hb (fun x hx=>hlt x (List.mem_append_left _ hx)),apt hb (fun t h=>ht t (List.mem_cons_of_mem _ h)) h2 (fun x hx=>hlt x (List.mem_append_right _ hx)),rfl⟩
theorem aqT{s:ChangeSpec}{f:FuncId}{fn:Func}(os:Go.Os)(started:os.Started)(H:Type)(enc:TypeId×Value→H)(hfn:prog.funcs[f]? =some fn)(hinit:prog.inits.idxOf? f=none)(ts:List TypeId)(hp:fn.params.toList=ts)(hts:∀t∈ts,prog.readableRec t=true∧t<prog.types.size)(hr:fn.resultTypes.toList=[RS])(hrs:fn.resultTypes.size=1)(hv:s.vars=[])
  (hs:∀ds:List (DataW H),ds.length=ts.length→s.fn H ds={results:=[.lit (.bool true)],args:=ds})
  (
   witness:∃(w:World) (tape:Tape) (i:Input),w.os=os∧(w.forCall tape i).Shaped prog∧i.vars=[]∧Input.okWide prog (w.forCall tape i) .any w.heap.size f i∧
   ((s.pre enc prog fn [] false (w.forCall tape i).memory i.args∧laidMetH prog J9 (w.forCall tape i).memory)∧sizedMet enc prog fn (OpenSpec.ofChange s) false (w.forCall tape i).memory i.args)∧({calm:=true}:Assume).holds prog (lone (Frame.enter prog f i.args .normal) [] (w.forCall tape i)))
  (T:∀(main:Side) (_:∀S,main.ok S→∃Fin,S=Mo prog Fin) (_:main.b=true) (h:Hp) (args:List Value) (_:apv h ts args) (Eg:TypeId) (zg:Nat×Nat) (_:h 0=some (.cells #[Ur qM] Eg zg)) (_:h.z 0),QE prog main f args.toArray h (.bool true))
  (F:Stop.Interp):ReturnsInLeavingWide {calm:=true} Go.Proofs.Tryz.checked os f .any (fun w args=>(s.pre enc prog fn [] false w args∧laidMetH prog J9 w)∧sizedMet enc prog fn (OpenSpec.ofChange s) false w args) ((OpenSpec.ofChange s).postWith enc prog fn F (outsideKept [.timePasses]) false true false):=by
 refine returnsInLeavingWide_of_good (C:=Go.Proofs.Tryz.checked) afH started witness ?_
 intro w tape i _ _ _ hok hpre _
 obtain⟨_,_,_,fn',hfn',_,_,_,_,hval0⟩:=hok
 have e:fn'=fn:=Option.some.inj (hfn'.symm.trans hfn)
 subst e
 obtain⟨⟨⟨ds,gs,before,hw,-⟩,hx⟩,-⟩:=hpre
 have hW:=DataW.Whole.of_heap (w':=w.forCall tape i) (by rfl) hw
 have hL:laidMetH prog J9 (w.forCall tape i):=Ld (by rfl) hx
 generalize w.forCall tape i=W at*
 have hval:∀(j:Nat) t v,fn'.params[j]? =some t→i.args[j]? =some v→Value.okWide prog W .any w.heap.size t v:=hval0
 have hW':=hW
 obtain⟨p,q,hA0,hV,rfl,_,_⟩:=hW
 have hA:DataW.TrodAll enc prog W 0 (fun _=>true) true fn'.params.toList i.args.toList ds p:=hA0
 rw[hp]at hA
 obtain⟨hao,hdl⟩:=apC (n:=w.heap.size) (fun j t v a b=>hval j t v (by rw[←Array.getElem?_toList,hp];exact a) (by rw[←Array.getElem?_toList];exact b)) hA
 rw[hv]at hV
 obtain⟨rfl,rfl⟩:=trodVars_none hV
 simp only[List.append_nil]at hW'
 have hlt:∀x∈p,x.block<W.heap.size:=fun x hx=>by simpa using hW'.lt x hx
 obtain⟨E,z,hg⟩:=aaH hL
 have hgs:atStart W 0=some (.cells #[Ur qM] E z):=ku.2 ⟨hg,rfl⟩
 obtain⟨M,last,o,w',t',h1,h2,h3,h4⟩:=QE.run hinit (T (GI prog (tZ prog fun v _=>v= .bool true)) (fun S h=>⟨_,h⟩) rfl (atStart W) i.args.toList hao E z hgs ⟨_,hg,rfl⟩)
 refine⟨M,last,o,w',t',h1,h2,h3,h4.mono fun v hF=>?_⟩
 obtain⟨rfl,hk⟩:=hF
 have hb:=hk.below
 refine postWith_blind (postWith_of_post ⟨ds,[],p,[],p,[],hW',?_,?_,?_,hb.frame _,fun h=>by cases h⟩ hk.os)
 ·have hrl:Value.resultList fn'.resultTypes.size (.bool true)=[.bool true]:=by rw[hrs];rfl
  rw[List.append_nil,hs ds hdl,hrl,hr];exact trodAll_mk1 (shut_bool SS true)
 ·rw[List.append_nil,hs ds hdl,hp]
  exact apt hb hts hA hlt
 ·rw[List.append_nil,hs ds hdl,hv];rfl
end
end Go.aS

/- SyrupEnds's card. Conditions: as the card says; over the given program. -/
namespace Go.Proofs.YtkkdgffaohidnaaGreatDoor
open Go Go.aS
set_option maxRecDepth 100000
set_option maxHeartbeats 4000000
theorem arC(main:Side)(hS:∀S,main.ok S→∃Fin,S=Mo prog Fin)(hmb:main.b=true)(h:Hp):∀(args:List Value) (_:apv h [aoG,Ag,dL,nS] args) (Eg:TypeId) (zg:Nat×Nat) (_:h 0=some (.cells #[Ur qM] Eg zg)) (_:h.z 0),QE prog main aqb args.toArray h (.bool true)
 | [v0,v1,v2,v3],⟨h0,h1,h2,h3,_⟩,Eg,zg,hg,z0=>by
  obtain⟨ps0,hp0⟩:=h0.arK rfl
  obtain⟨p1,rfl⟩:=h1.pan rfl
  obtain⟨n2,rfl⟩:=h2.int rfl
  obtain⟨x3,hx3⟩:=h3.ints rfl
  apply arM main hS hmb h
  all_goals first | assumption | exact hg | exact z0
 | [],h,_,_,_,_=>h.elim
 | [v0],⟨h0,h⟩,_,_,_,_=>h.elim
 | [v0,v1],⟨h0,h1,h⟩,_,_,_,_=>h.elim
 | [v0,v1,v2],⟨h0,h1,h2,h⟩,_,_,_,_=>h.elim
 | v0::v1::v2::v3::v4::r,⟨h0,h1,h2,h3,h⟩,_,_,_,_=>h.elim
theorem arn:joinedFacts prog aqb aqt Rows.syrupEndsSpec Rows.syrupEndsRow=true:=by
 unfold joinedFacts
 repeat' with_reducible refine Bool.and_eq_true_iff.2 ⟨?_,?_⟩
 all_goals first
  | with_reducible exact aci
  | (with_reducible refine makeT ?_;kernel_rfl)
  | (with_reducible refine aeb ?_;kernel_rfl)
  | (as_aux_lemma=>kernel_rfl)
theorem aq7:prog.funcNamed Rows.syrupEndsRow.func=some aqb:=by kernel_rfl
theorem arD:prog.mainIs=some (true, "dbc29bbb9727fbebaf7429f7266f9d82b5a02ec0969210b724e1ed2dac66cc8d".toList):=ad9
theorem arE:true=Rows.syrupEndsRow.goesBy prog:=by kernel_rfl
theorem aro:true=prog.looks []:=by kernel_rfl
theorem arP:Rows.SyrupEndsSaid:=
 OpenClaim.holds_of_wide_leaving_time aqb aqt rfl rfl rfl rfl rfl rfl rfl ⟨rfl,rfl,rfl,rfl,rfl⟩ rfl rfl rfl rfl rfl aq7 aqZ arn
  (of_decide_eq_true (by kernel_rfl)) (by unfold Func.isWrapper;first | (rw[if_pos (by decide+kernel)];kernel_rfl) | (rw[if_neg (by decide+kernel)];exact⟨rfl,rfl⟩))
  (
   fun os started H enc _ F=>aqT (s:=Rows.syrupEndsSpec) os started H enc aqZ (by kernel_rfl) [aoG,Ag,dL,nS] (by kernel_rfl) (fun t ht=>by
    have h0:([aoG,Ag,dL,nS]:List TypeId).all (fun t=>prog.readableRec t&&Nat.blt t prog.types.size)=true:=by kernel_rfl
    have h1:=List.all_eq_true.1 h0 t ht
    rw[Bool.and_eq_true]at h1
    exact⟨h1.1,Nat.le_of_ble_eq_true h1.2⟩) (by kernel_rfl) (by kernel_rfl) rfl (fun ds hd=>by
    match ds,hd with
    | [d0,d1,d2,d3],_=>rfl)
   (OB (enc:=enc) (C:=Tryz.checked) (os:=os) (X:=fun w _=>laidMetH prog J9 w) (laidWorld os) #[.slice none 0 0,.agg #[I 0,I 0,I 0],I 0,.slice none 0 0] 8 rfl (by kernel_rfl) (by kernel_rfl) (by kernel_rfl) (by kernel_rfl) (by kernel_rfl) (laidWorld_met os _))
   (fun main hS hmb h args ha Eg zg hg z0=>arC main hS hmb h args ha Eg zg hg z0) F)

theorem SyrupEnds_card:Rows.SyrupEndsCardSaid:=
 VZ .later [] [.handle] true (true, "dbc29bbb9727fbebaf7429f7266f9d82b5a02ec0969210b724e1ed2dac66cc8d") true
  arP (fun _ h=>by cases h) (by kernel_rfl) (fun _ h=>by cases h) syrupEnds_row_tie rfl ⟨rfl,rfl⟩ arD rfl
  (
   fun f fn hf hfn=>by
   obtain rfl:f=aqb:=(Option.some.inj (aq7.symm.trans hf)).symm
   obtain rfl:fn=aqt:=(Option.some.inj (aqZ.symm.trans hfn)).symm
   exact⟨aro,fun j t ht=>by
    rw[show(aqt).params= #[aoG,Ag,dL,nS] by kernel_rfl]at ht
    have h3:([aoG,Ag,dL,nS]:List TypeId).all (fun t=> !prog.wantsStandIn t)=true:=by kernel_rfl
    have h4:=List.all_eq_true.1 h3 t (List.mem_of_getElem? (by simpa using ht))
    exact(show prog.wantsStandIn t=false by simpa using h4)⟩)
  arE
#print axioms SyrupEnds_card
end Go.Proofs.YtkkdgffaohidnaaGreatDoor
