/- The best shares, as the document has them. Conditions: none; over the given program. (And 10 texts more.) -/
import Derived.Test.YtkkdgffaohidnaaGreatDoorSyrupSharesQ1
import Derived.Test.YtkkdgffaohidnaaGreatDoorR07
import Derived.Test.YtkkdgffaohidnaaGreatDoorR10
import Derived.Test.YtkkdgffaohidnaaGreatDoorR12
import Derived.Test.YtkkdgffaohidnaaGreatDoorR13
set_option linter.unusedVariables false
set_option linter.unusedSimpArgs false
set_option linter.unusedSectionVars false

/- The best shares, as the document has them. Conditions: none; over the given program. -/
namespace Go.aS
set_option maxRecDepth 100000
set_option maxHeartbeats 4000000
theorem UG.sub{α:Type}{row:α→List Value}{w:Nat}[Rw row w]{E:TypeId}{vs:List Sv}{ls:List (List α)}{A:ah}(h:UG E row vs ls A):∀{Z:List (Sv×List α)},Z.Sublist (vs.zip ls)→∃B,UG E row (Z.map (·.1)) (Z.map (·.2)) B∧Sb B A:=by
 induction h with
 | nil=>
  intro Z hZ
  cases hZ
  exact⟨[],.nil,.refl⟩
 | cons h1 h2 ih=>
  intro Z hZ
  rw[List.zip_cons_cons]at hZ
  cases hZ with
  | cons _ hZ=>
   obtain⟨B,h3,h4⟩:=ih hZ
   exact⟨B,h3,.left h4 h1.shut⟩
  | cons_cons _ hZ=>
   obtain⟨B,h3,h4⟩:=ih hZ
   exact⟨_,.cons h1 h3,.app .refl h4⟩
theorem aun(main:Side)(h:Hp)(ps:List Pn)(ls:List Lt)(rs:List Int)(vp vl vr:Value)(hok:iP ps)(hlo:Au ls)(hro:Aw ps.length rs)(hp:Sl h Pn.row vp ps)(hl:Sl h Lt.row vl ls)(hr:Sl h fH vr rs):dV prog main aug #[vp,vl,vr] h [] (fun v A=>∃O us B w,v= .tuple #[w,I (oZ ps ls rs).1]∧Os nS ags w us O∧UG dL fH us (oZ ps ls rs).2 B∧Sb (O++B) A):=by
 obtain⟨a,cap,rfl⟩:=hp.dA
 obtain⟨a2,cap2,rfl⟩:=hl.dA
 obtain⟨a3,cap3,rfl⟩:=hr.dA
 have hl4:=hlo.len
 have hL0:∀x∈yS ps ls rs,0≤Ba ls x:=fun x _=>(ab3 hlo.lot).1
 refine dV.aG auO rfl (by show 3≤61;decide) [(0,.slice a ps.length cap),(1,.slice a2 ls.length cap2),(2,.slice a3 rs.length cap3)] ⟨rfl,rfl,rfl,trivial⟩ ?_
 refine W.seq<|W.region rfl<|agb rfl rfl rfl<|agb rfl rfl rfl<|pq<|W.seq<|W.region rfl<|qm rfl rfl rfl<|qm rfl rfl rfl ?_
 refine qm rfl rfl rfl ?_
 refine c0 (fun h' hE hL=>au5 _ ps ls _ _ hok hlo ls.length rs [] _ ⟨none,0,0⟩ [] h' (by simp) hro.len hro.room (hp.ext hE) (hl.ext hE) (hr.ext hE) (.nil .nil)) (fun v A' hv=>?_)
 obtain⟨O0,us0,B0,hO0,hB0,hsb⟩:=hv
 have hB0:UG dL fH us0 (yS ps ls rs) B0:=hB0
 refine Ops.sb (F':=(O0++B0)++[]) (hsb.app .refl) ?_
 obtain⟨a0,c0,rfl⟩:=hO0.dA
 have hul:=hB0.len
 have hal:=aax (ps:=ps) (rs:=rs) hl4
 refine agb rfl rfl rfl<|pq<|W.seq<|W.region rfl<|agb rfl rfl rfl<|pq<|W.seq<|W.region rfl ?_
 refine agb rfl rfl rfl<|pq<|W.seq<|W.seq<|W.region rfl<|agb rfl rfl rfl<|pq<|W.block ?_
 refine W.loop (σ:=Nat×Int×List (Sv×List Int)×Option Addr×Nat×ah) (fun t=>t.1≤us0.length∧atM (Ba ls) ((yS ps ls rs).take t.1)=(t.2.1,t.2.2.1.map (·.2))∧t.2.2.1.Sublist ((us0.zip (yS ps ls rs)).take t.1)∧Os nS ags (.slice t.2.2.2.1 (t.2.2.1.map (·.1)).length t.2.2.2.2.1) (t.2.2.1.map (·.1)) t.2.2.2.2.2)
  (fun t=>[(11,I t.1),(10,.slice t.2.2.2.1 (t.2.2.1.map (·.1)).length t.2.2.2.2.1),(9,I t.2.1),(8,.slice a0 us0.length c0),(0,.slice a ps.length cap),(1,.slice a2 ls.length cap2),(2,.slice a3 rs.length cap3)]) (fun t=>t.2.2.2.2.2++(O0++B0)) (fun t=>us0.length-t.1) (0,-1,[],none,0,[]) ⟨Nat.zero_le _,rfl,by simp,.nil .nil⟩ ⟨rfl,rfl,rfl,rfl,rfl,rfl,rfl,trivial⟩ (by rw[List.append_nil];exact .refl) ?_
 rintro⟨i,m,Z,sa,sc,O⟩ ⟨hi,hm,hZ,hO⟩
 dsimp only at*
 refine W.seq<|W.seq<|W.region rfl<|qm rfl rfl rfl<|qm rfl rfl rfl ?_
 refine agW (dM rfl rfl) rfl ?_
 refine agW (fO rfl rfl rfl) rfl ?_
 refine pq ?_
 refine W.bC rfl (fun c21=>?_) (fun c21=>?_)
 ·have hil:i<us0.length:=by omega
  obtain⟨x,hx,-⟩:=has (show i<(yS ps ls rs).length by omega)
  obtain⟨s,hs0,-⟩:=has hil
  have hxl:x.length=ls.length:=Az (List.mem_of_getElem? hx)
  have hnx:=auj (f:=Ba ls) hx
  have hzx:(us0.zip (yS ps ls rs))[i]? =some (s,x):=by rw[List.getElem?_zip_eq_some];exact⟨hs0,hx⟩
  have hZl:Z.length≤625:=Nat.le_trans hZ.length_le (by rw[List.length_take,List.length_zip];omega)
  obtain⟨βo,co',Jo,hsa,hOe,-,-,-,hPo,-⟩:=hO0.open (by omega)
  subst hsa
  have hcell:co'[0+i*1+0]? =some (.slice s.a s.n s.cap):=hPo.Bo hs0 0 (by decide)
  refine W.skip<|aA<|W.seq<|W.block<|W.seq<|W.region rfl<|agb rfl rfl rfl<|pq<|W.seq ?_
  refine W.seq<|W.region rfl<|agb rfl rfl rfl<|pq<|W.block ?_
  refine W.loop (σ:=Nat) (fun k=>k≤ls.length) (fun k=>[(13,I k),(12,I (Ba (ls.take k) x)),(11,I i),(10,.slice sa (Z.map (·.1)).length sc),(9,I m),(8,.slice (some ⟨βo,0,none⟩) us0.length c0),(0,.slice a ps.length cap),(1,.slice a2 ls.length cap2),(2,.slice a3 rs.length cap3)]) (fun _=>O++(O0++B0)) (fun k=>ls.length-k) 0 (Nat.zero_le _) ⟨rfl,lk rfl (show I _=I _ by rw[List.take_zero];simp[Ba]),rfl,rfl,rfl,rfl,rfl,rfl,rfl,trivial⟩ .refl ?_
  rintro k hk
  refine W.seq<|W.seq<|W.region rfl<|qm rfl rfl rfl<|qm rfl rfl rfl ?_
  refine agW (dM rfl rfl) rfl ?_
  refine agW (fO rfl rfl rfl) rfl ?_
  refine pq ?_
  refine W.bC rfl (fun c27=>?_) (fun c27=>?_)
  ·have hkl:k<ls.length:=by omega
   obtain⟨l,hlt,-⟩:=has hkl
   have hlk:=hlo.lot l (List.mem_of_getElem? hlt)
   obtain⟨bl,ol,cl,El,fl,hvl,hbl,-,-,hzl⟩:=hl.at hlt
   cases hvl
   have hp2:cl[ol+k*2+1]? =some (I l.po):=hzl 1 (by decide)
   obtain⟨y,hy,-⟩:=has (show k<x.length by omega)
   have hacc:=ab3 (ls:=ls.take k) (fun l hl=>hlo.lot l (List.mem_of_mem_take hl)) (s:=x)
   rw[List.length_take]at hacc
   have hlt2:=ave hlt hy
   obtain⟨A9,hS9,hm9⟩:=hB0.os hs0 hx
   obtain⟨a9,c9,he9⟩:=hS9.dA
   obtain⟨s1,s2,s3⟩:=s
   cases he9
   obtain⟨Uw,co9,J9,alC,alD,-,-,-,hP9,-⟩:=hS9.open (by omega)
   subst alC
   have hc9:co9[0+k*1+0]? =some (I y):=hP9.Bo hy 0 (by decide)
   have hkx:k<x.length:=by omega
   refine W.skip<|aA<|W.seq<|W.block<|W.seq<|W.region rfl<|qm rfl rfl rfl<|qm rfl rfl rfl ?_
   refine ag3 rfl ?_
   refine agW (iQ rfl rfl (.inr (fun _ e=>by subst e;exact List.mem_append_right _ (List.mem_append_left _ (by rw[hOe];exact .head _)))) hcell) rfl ?_
   refine qm rfl rfl rfl ?_
   refine ag3 rfl ?_
   refine oq (iQ rfl rfl (.inr (fun _ e=>by subst e;exact List.mem_append_right _ (List.mem_append_right _ (hm9 _ (by rw[alD];exact .head _))))) hc9) rfl wn rfl rfl ?_
   refine agW (IJ rfl rfl rfl) rfl ?_
   refine pq ?_
   refine W.bC rfl (fun c37=>?_) (fun c37=>?_)
   ·refine W.region rfl<|qm rfl rfl rfl<|qm rfl rfl rfl<|qm rfl rfl rfl ?_
    refine ag3 rfl ?_
    refine agY rfl ?_
    refine agX rfl ?_
    refine ag1 rfl ?_
    refine agb rfl rfl rfl<|Ops.nil<|dI<|aA<|W.region rfl<|qm rfl rfl rfl ?_
    refine ag1 rfl ?_
    refine agb rfl rfl rfl<|pq ?_
    exact⟨rfl,k+1,hkl,by omega,⟨rfl,lk rfl (show I _=I _ by rw[hlt2,if_pos (by omega)]),rfl,rfl,rfl,rfl,rfl,rfl,rfl,trivial⟩,.refl⟩
   ·refine W.skip<|dI<|aA<|W.region rfl<|qm rfl rfl rfl ?_
    refine ag1 rfl ?_
    refine agb rfl rfl rfl<|pq ?_
    exact⟨rfl,k+1,hkl,by omega,⟨rfl,lk rfl (show I _=I _ by rw[hlt2,if_neg (by omega),Int.add_zero]),rfl,rfl,rfl,rfl,rfl,rfl,rfl,trivial⟩,.refl⟩
  ·obtain rfl:k=ls.length:=by omega
   rw[List.take_length]
   have hfx:=ab3 (ls:=ls) hlo.lot (s:=x)
   generalize hf:Ba ls x=f at*
   refine W.exit<|bP<|bP<|gG<|aA<|W.seq ?_
   refine W.aiB (σ:=Int×List (Sv×List Int)×Option Addr×Nat×ah) (fun t=>Os nS ags (.slice t.2.2.1 (t.2.1.map (·.1)).length t.2.2.2.1) (t.2.1.map (·.1)) t.2.2.2.2∧((m<f∧t.1=f∧t.2.1=[])∨(f≤m∧t.1=m∧t.2.1=Z)))
    (fun t=>[(12,I f),(11,I i),(10,.slice t.2.2.1 (t.2.1.map (·.1)).length t.2.2.2.1),(9,I t.1),(8,.slice (some ⟨βo,0,none⟩) us0.length c0),(0,.slice a ps.length cap),(1,.slice a2 ls.length cap2),(2,.slice a3 rs.length cap3)]) (fun t=>t.2.2.2.2++(O0++B0)) ?_ ?_
   ·refine W.seq<|W.region rfl<|qm rfl rfl rfl<|qm rfl rfl rfl ?_
    refine agW (rC rfl rfl rfl) rfl ?_
    refine pq ?_
    refine W.bC rfl (fun c47=>?_) (fun c47=>?_)
    ·refine W.region rfl<|qm rfl rfl rfl<|agb rfl rfl rfl<|agb rfl rfl rfl<|Ops.nil ?_
     exact⟨rfl,rfl,(f,[],none,0,[]),⟨.nil .nil,.inl ⟨by omega,rfl,rfl⟩⟩,⟨rfl,rfl,rfl,rfl,rfl,rfl,rfl,rfl,trivial⟩,.left .refl hO.shut⟩
    ·refine W.skip ?_
     exact⟨rfl,rfl,(m,Z,sa,sc,O),⟨hO,.inr ⟨by omega,rfl,rfl⟩⟩,⟨rfl,rfl,rfl,rfl,rfl,rfl,rfl,rfl,trivial⟩,.refl⟩
   ·rintro⟨m2,Z2,sa2,sc2,O2⟩ ⟨hO2,hc2⟩
    dsimp only at*
    have hZ2:Z2.Sublist ((us0.zip (yS ps ls rs)).take i)∧Z2.length≤625:=by
     rcases hc2 with⟨-,-,rfl⟩ | ⟨-,-,rfl⟩
     ·exact⟨List.nil_sublist _,by simp⟩
     ·exact⟨hZ,hZl⟩
    have hadd:au4 (Ba ls) (m,Z.map (·.2)) x=(m2,if f=m2 then Z2.map (·.2)++[x]else Z2.map (·.2)):=by
     rw[au4,hf]
     rcases hc2 with⟨h1,rfl,rfl⟩ | ⟨h1,rfl,rfl⟩
     ·simp only[if_pos h1];rfl
     ·simp only[if_neg (show¬m2<f by omega)]
    rw[hm,hadd]at hnx
    have htk:(us0.zip (yS ps ls rs)).take (i+1)=(us0.zip (yS ps ls rs)).take i++[(s,x)]:=by rw[List.take_add_one,hzx];rfl
    refine W.seq<|W.region rfl<|qm rfl rfl rfl<|qm rfl rfl rfl ?_
    refine agW (nD rfl rfl rfl) rfl ?_
    refine pq ?_
    refine W.bC rfl (fun c51=>?_) (fun c51=>?_)
    ·refine W.region rfl<|qm rfl rfl rfl<|qm rfl rfl rfl<|qm rfl rfl rfl ?_
     refine ag3 rfl ?_
     refine agW (iQ rfl rfl (.inr (fun _ e=>by subst e;exact List.mem_append_right _ (List.mem_append_left _ (by rw[hOe];exact .head _)))) hcell) rfl ?_
     refine Ops.NK (cs:= #[.slice s.a s.n s.cap]) (fun axz=>?_) rfl
     refine oe rfl wn rfl rfl (iW (row:=ags) (l':=[s]) rfl rfl rfl hO2 (.tail .head) (fun h2 _ hl=>Sl.mk (hl axz _ (.head _)) rfl (Part.all (ags s))) (by simp;omega) (by decide) rfl (fun v3 N3 hN3=>?_))
     obtain⟨na3,nc3,rfl⟩:=hN3.dA
     refine agb rfl rfl rfl<|Ops.nil<|dI<|aA<|W.region rfl<|qm rfl rfl rfl ?_
     refine ag1 rfl ?_
     refine agb rfl rfl rfl<|pq ?_
     rw[if_pos (by omega)]at hnx
     have hmp:(Z2++[(s,x)]).map (·.1)=Z2.map (·.1)++[s]:=by simp
     exact⟨rfl,(i+1,m2,Z2++[(s,x)],na3,nc3,N3),⟨hil,by dsimp only;rw[hnx];simp,by dsimp only;rw[htk];exact hZ2.1.append (.refl _),by dsimp only;rw[hmp];exact hN3⟩,by dsimp only;omega,⟨rfl,lk rfl (by rw[hmp]),rfl,rfl,rfl,rfl,rfl,trivial⟩,.skip rfl .refl⟩
    ·refine W.skip<|dI<|aA<|W.region rfl<|qm rfl rfl rfl ?_
     refine ag1 rfl ?_
     refine agb rfl rfl rfl<|pq ?_
     rw[if_neg (by omega)]at hnx
     exact⟨rfl,(i+1,m2,Z2,sa2,sc2,O2),⟨hil,hnx,by dsimp only;rw[htk];exact hZ2.1.trans (List.sublist_append_left _ _),hO2⟩,by dsimp only;omega,⟨rfl,rfl,rfl,rfl,rfl,rfl,rfl,trivial⟩,.refl⟩
 ·refine W.exit<|bP<|bP<|gG<|aA<|W.seq<|W.region rfl<|qm rfl rfl rfl<|qm rfl rfl rfl<|agb rfl rfl rfl ?_
  refine agb rfl rfl rfl<|pq<|W.ret ?_
  obtain rfl:i=us0.length:=by omega
  rw[hul,List.take_length,auY hlo]at hm
  rw[List.take_of_length_le (by rw[List.length_zip];omega)]at hZ
  obtain⟨B',hB',axA⟩:=hB0.sub hZ
  refine mg (vs:=[_,_]) ?_
  rw[hm]
  exact⟨O,_,B',_,rfl,hO,hB',.app .refl (.left axA hO0.shut)⟩
theorem au9(main:Side)(h:Hp)(ps:List Pn)(ls:List Lt)(rs:List Int)(vp vl vr:Value)(hp:Sl h Pn.row vp ps)(hl:Sl h Lt.row vl ls)(hr:Sl h fH vr rs):dV prog main at1 #[vp,vl,vr] h [] (fun v A=>∃l S,v= .tuple #[l,I (AA ps ls rs).2.1,I (AA ps ls rs).2.2]∧Os dL fH l (AA ps ls rs).1 S∧Sb S A):=by
 obtain⟨a,cap,rfl⟩:=hp.dA
 obtain⟨a2,cap2,rfl⟩:=hl.dA
 obtain⟨a3,cap3,rfl⟩:=hr.dA
 refine dV.aG auF rfl (by show 3≤30;decide) [(0,.slice a ps.length cap),(1,.slice a2 ls.length cap2),(2,.slice a3 rs.length cap3)] ⟨rfl,rfl,rfl,trivial⟩ ?_
 refine W.seq<|W.region rfl<|agb rfl rfl rfl<|agb rfl rfl rfl<|agb rfl rfl rfl<|pq<|W.seq<|W.seq<|W.region rfl ?_
 refine qm rfl rfl rfl<|qm rfl rfl rfl<|qm rfl rfl rfl ?_
 refine cp (fun h' hE hL=>atn _ h' ps ls rs _ _ _ (hp.ext hE) (hl.ext hE) (hr.ext hE)) ?_
 refine agb rfl rfl rfl<|pq<|W.seq<|W.region rfl<|qm rfl rfl rfl ?_
 refine agW (nG rfl rfl rfl) rfl ?_
 refine pq ?_
 refine W.bC rfl (fun c17=>?_) (fun c17=>?_)
 ·refine W.seq<|W.region rfl<|qm rfl rfl rfl<|agb rfl rfl rfl<|agb rfl rfl rfl<|agb rfl rfl rfl<|pq<|W.ret<|aY ?_
  refine mg (vs:=[_,_,_]) ?_
  rw[AA,if_pos (by assumption)]
  exact⟨_,[],rfl,.nil .nil,.nil .nil⟩
 ·have h0:ji ps ls rs=0:=by simpa using c17
  obtain⟨hok,hlo,hro⟩:=aaA h0
  have e:AA ps ls rs=((oZ ps ls rs).2.headD [],(oZ ps ls rs).1,0):=by rw[AA,if_neg (by simpa using h0)]
  refine W.skip<|aA<|W.seq<|W.region rfl<|qm rfl rfl rfl<|qm rfl rfl rfl<|qm rfl rfl rfl ?_
  refine c0 (fun h' hE hL=>aun _ h' ps ls rs _ _ _ hok hlo hro (hp.ext hE) (hl.ext hE) (hr.ext hE)) (fun v A' hv=>?_)
  obtain⟨O,us,B,w,rfl,hO,hB,hsb⟩:=hv
  refine Ops.sb (F':=(O++B)++[]) (hsb.app .refl) ?_
  obtain⟨ao,co,rfl⟩:=hO.dA
  have hul:=hB.len
  obtain⟨x0,r0,hb⟩:=List.exists_cons_of_ne_nil (VN (ps:=ps) (ls:=ls) (rs:=rs))
  rw[hb]at hul
  have hu0:0<us.length:=by rw[hul];simp
  obtain⟨s,hs0,-⟩:=has hu0
  obtain⟨Bi,hBi,avd⟩:=hB.pick hs0 (l:=x0) (by rw[hb];rfl)
  obtain⟨βo,co',Jo,hsa,hOe,-,-,-,hPo,-⟩:=hO.open hu0
  subst hsa
  have hcell:co'[0+0*1+0]? =some (.slice s.a s.n s.cap):=hPo.Bo hs0 0 (by decide)
  rw[hb]at e
  refine qm rfl rfl rfl<|oq (bD rfl rfl rfl) rfl wn rfl rfl<|oq (bD rfl rfl rfl) rfl wn rfl rfl<|agb rfl rfl rfl<|agb rfl rfl rfl<|pq<|W.seq<|W.region rfl<|qm rfl rfl rfl ?_
  refine ag3 rfl ?_
  refine agW (iQ rfl rfl (.inr (fun _ e=>by subst e;exact List.mem_append_left _ (List.mem_append_left _ (by rw[hOe];exact .head _)))) hcell) rfl ?_
  refine qm rfl rfl rfl<|agb rfl rfl rfl<|agb rfl rfl rfl<|agb rfl rfl rfl<|pq<|W.ret ?_
  refine mg (vs:=[_,_,_]) ?_
  rw[e]
  exact⟨_,Bi,rfl,hBi,.right (.left avd hO.shut) .nil⟩
theorem auQ(main:Side)(h:Hp)(ps:List Pn)(ls:List Lt)(rs:List Int)(k:Int)(vp vl vr:Value)(hp:Sl h Pn.row vp ps)(hl:Sl h Lt.row vl ls)(hr:Sl h fH vr rs):Pu prog main atz #[vp,vl,vr,I k] h (.tuple #[I (amz ps ls rs k).1,I (amz ps ls rs k).2]):=by
 obtain⟨a,cap,rfl⟩:=hp.dA
 obtain⟨a2,cap2,rfl⟩:=hl.dA
 obtain⟨a3,cap3,rfl⟩:=hr.dA
 refine dV.aG aue rfl (by show 4≤58;decide) [(0,.slice a ps.length cap),(1,.slice a2 ls.length cap2),(2,.slice a3 rs.length cap3),(3,I k)] ⟨rfl,rfl,rfl,rfl,trivial⟩ ?_
 refine W.seq<|W.region rfl<|agb rfl rfl rfl<|agb rfl rfl rfl<|pq<|W.seq<|W.seq<|W.region rfl<|qm rfl rfl rfl ?_
 refine qm rfl rfl rfl<|qm rfl rfl rfl ?_
 refine cp (fun h' hE hL=>atn _ h' ps ls rs _ _ _ (hp.ext hE) (hl.ext hE) (hr.ext hE)) ?_
 refine agb rfl rfl rfl<|pq<|W.seq<|W.region rfl<|qm rfl rfl rfl ?_
 refine agW (nG rfl rfl rfl) rfl ?_
 refine pq ?_
 refine W.bC rfl (fun c20=>?_) (fun c20=>?_)
 ·refine W.seq<|W.region rfl<|qm rfl rfl rfl<|agb rfl rfl rfl<|agb rfl rfl rfl<|pq<|W.ret<|aY ?_
  refine uZ ?_
  rw[amz,if_pos (by assumption)] <;>rfl
 ·have h0:ji ps ls rs=0:=by simpa using c20
  obtain⟨hok,hlo,hro⟩:=aaA h0
  have hl4:=hlo.len
  refine W.skip<|aA<|W.seq<|W.seq<|W.region rfl<|qm rfl rfl rfl<|qm rfl rfl rfl ?_
  refine agW (dM rfl rfl) rfl ?_
  refine ag5 rfl ?_
  refine cp (fun h' hE hL=>aii _ h' k 0 ((ls.length:Int)-1)) ?_
  refine KU (xU rfl rfl) (congrArg Value.bool (akO k 0 ((ls.length:Int)-1))) rfl wn rfl rfl ?_
  refine pq ?_
  refine W.bC rfl (fun c27=>?_) (fun c27=>?_)
  ·refine W.seq<|W.region rfl<|agb rfl rfl rfl<|agb rfl rfl rfl<|pq<|W.ret<|aY ?_
   refine uZ ?_
   rw[amz,if_neg (by simpa using h0),if_pos (by assumption)] <;>rfl
  ·have hk0:0≤k∧k<ls.length:=by
    have:¬outs k 0 ((ls.length:Int)-1):=by assumption
    unfold outs at this;omega
   obtain⟨k,rfl⟩:∃n:Nat,k=n:=⟨k.toNat,by omega⟩
   have hkl:k<ls.length:=by omega
   have e:amz ps ls rs k=(al7 (amh (oZ ps ls rs).2 k) (oZ ps ls rs).2.length,0):=by
    rw[amz,if_neg (by simpa using h0),if_neg (by unfold outs;omega),Int.toNat_natCast,an7 (n:=ls.length) (fun s hs=>Az (SN hs)) hkl hl4]
   refine W.skip<|aA<|W.seq<|W.region rfl<|qm rfl rfl rfl<|qm rfl rfl rfl<|qm rfl rfl rfl ?_
   refine c0 (fun h' hE hL=>aun _ h' ps ls rs _ _ _ hok hlo hro (hp.ext hE) (hl.ext hE) (hr.ext hE)) (fun v A' hv=>?_)
   obtain⟨O,us,B,w,rfl,hO,hB,hsb⟩:=hv
   refine Ops.sb (F':=(O++B)++[]) (hsb.app .refl) ?_
   obtain⟨ao,co,rfl⟩:=hO.dA
   have hul:=hB.len
   have hbm:∀s∈(oZ ps ls rs).2,s.length=ls.length:=fun s hs=>Az (SN hs)
   have aot:=ank (ps:=ps) (rs:=rs) hl4
   rw[e]
   clear e
   generalize(oZ ps ls rs).2=L at*
   refine qm rfl rfl rfl<|oq (bD rfl rfl rfl) rfl wn rfl rfl<|oq (bD rfl rfl rfl) rfl wn rfl rfl<|agb rfl rfl rfl<|agb rfl rfl rfl<|pq<|W.seq<|W.region rfl<|agb rfl rfl rfl ?_
   refine pq<|W.seq<|W.seq<|W.region rfl<|agb rfl rfl rfl<|pq<|W.block ?_
   refine W.loop (σ:=Nat) (fun i=>i≤us.length) (fun i=>[(14,I i),(13,I (amh (L.take i) k)),(11,.slice ao us.length co),(3,I k)]) (fun _=>O++B) (fun i=>us.length-i) 0 (Nat.zero_le _) ⟨rfl,rfl,rfl,rfl,trivial⟩ (by rw[List.append_nil];exact .refl) ?_
   rintro i hi
   refine W.seq<|W.seq<|W.region rfl<|qm rfl rfl rfl<|qm rfl rfl rfl ?_
   refine agW (dM rfl rfl) rfl ?_
   refine agW (fO rfl rfl rfl) rfl ?_
   refine pq ?_
   refine W.bC rfl (fun c38=>?_) (fun c38=>?_)
   ·have hil:i<us.length:=by omega
    obtain⟨x,hx,-⟩:=has (show i<L.length by omega)
    obtain⟨s,hs0,-⟩:=has hil
    have hxl:=hbm x (List.mem_of_getElem? hx)
    obtain⟨βo,co',Jo,hsa,hOe,-,-,-,hPo,-⟩:=hO.open (by omega)
    subst hsa
    have hcell:co'[0+i*1+0]? =some (.slice s.a s.n s.cap):=hPo.Bo hs0 0 (by decide)
    obtain⟨y,hy,-⟩:=has (show k<x.length by omega)
    obtain⟨A9,hS9,hm9⟩:=hB.os hs0 hx
    obtain⟨a9,c9,he9⟩:=hS9.dA
    obtain⟨s1,s2,s3⟩:=s
    cases he9
    obtain⟨Uw,co9,J9,alC,alD,-,-,-,hP9,-⟩:=hS9.open (by omega)
    subst alC
    have hc9:co9[0+k*1+0]? =some (I y):=hP9.Bo hy 0 (by decide)
    have hkx:k<x.length:=by omega
    have hck:amh (L.take i) k≤(L.take i).length:=List.length_filter_le ..
    rw[List.length_take]at hck
    have hyg:x.getD k 0=y:=by rw[List.getD_eq_getElem?_getD,hy];rfl
    have hcn:amh (L.take (i+1)) k=amh (L.take i) k+if 0≤y then 1 else 0:=by rw[List.take_add_one,hx,←hyg];exact ane
    refine W.skip<|aA<|W.seq<|W.block<|W.seq<|W.region rfl<|qm rfl rfl rfl<|qm rfl rfl rfl ?_
    refine ag3 rfl ?_
    refine agW (iQ rfl rfl (.inr (fun _ e=>by subst e;exact List.mem_append_left _ (by rw[hOe];exact .head _))) hcell) rfl ?_
    refine qm rfl rfl rfl ?_
    refine ag3 rfl ?_
    refine agW (iQ rfl rfl (.inr (fun _ e=>by subst e;exact List.mem_append_right _ (hm9 _ (by rw[alD];exact .head _)))) hc9) rfl ?_
    refine agW (IJ rfl rfl rfl) rfl ?_
    refine pq ?_
    refine W.bC rfl (fun c48=>?_) (fun c48=>?_)
    ·refine W.region rfl<|qm rfl rfl rfl ?_
     refine ag1 rfl ?_
     refine agb rfl rfl rfl<|Ops.nil<|dI<|aA<|W.region rfl<|qm rfl rfl rfl ?_
     refine ag1 rfl ?_
     refine agb rfl rfl rfl<|pq ?_
     exact⟨rfl,i+1,hil,by omega,⟨rfl,lk rfl (show I _=I _ by rw[hcn,if_pos (by omega)];rfl),rfl,rfl,trivial⟩,.refl⟩
    ·refine W.skip<|dI<|aA<|W.region rfl<|qm rfl rfl rfl ?_
     refine ag1 rfl ?_
     refine agb rfl rfl rfl<|pq ?_
     exact⟨rfl,i+1,hil,by omega,⟨rfl,lk rfl (show I _=I _ by rw[hcn,if_neg (by omega),Nat.add_zero]),rfl,rfl,trivial⟩,.refl⟩
   ·obtain rfl:i=us.length:=by omega
    rw[List.take_of_length_le (by omega)]
    have hcL:amh L k≤L.length:=List.length_filter_le ..
    refine W.exit<|bP<|bP<|gG<|aA<|W.seq<|W.seq<|W.region rfl<|qm rfl rfl rfl<|Ops.nil ?_
    refine aA<|W.block<|W.seq<|W.region rfl ?_
    refine agW (nD rfl rfl rfl) rfl ?_
    refine agb rfl rfl rfl<|pq ?_
    refine W.bC rfl (fun c52=>?_) (fun c52=>?_)
    ·refine W.seq<|W.region rfl<|agb rfl rfl rfl<|agb rfl rfl rfl<|pq<|W.ret<|cZ<|aY ?_
     refine uZ ?_ (hs:=hO.shut.app hB.shut)
     rw[al7]
     dsimp only
     first
     | (rw[if_pos (by omega)];rfl)
     | (rw[if_neg (by omega),if_pos (by omega)];rfl)
     | (rw[if_neg (by omega),if_neg (by omega)];rfl)
    ·refine W.seq<|W.region rfl<|qm rfl rfl rfl ?_
     refine agW (dM rfl rfl) rfl ?_
     refine agW (nD rfl rfl rfl) rfl ?_
     refine agb rfl rfl rfl<|pq ?_
     refine W.bC rfl (fun c54=>?_) (fun c54=>?_)
     ·refine W.seq<|W.region rfl<|agb rfl rfl rfl<|agb rfl rfl rfl<|pq<|W.ret<|cZ<|aY ?_
      refine uZ ?_ (hs:=hO.shut.app hB.shut)
      rw[al7]
      dsimp only
      first
      | (rw[if_pos (by omega)];rfl)
      | (rw[if_neg (by omega),if_pos (by omega)];rfl)
      | (rw[if_neg (by omega),if_neg (by omega)];rfl)
     ·refine W.skip<|dI<|aA<|W.seq<|W.region rfl<|agb rfl rfl rfl<|agb rfl rfl rfl<|pq<|W.ret ?_
      refine uZ ?_ (hs:=hO.shut.app hB.shut)
      rw[al7]
      dsimp only
      first
      | (rw[if_pos (by omega)];rfl)
      | (rw[if_neg (by omega),if_pos (by omega)];rfl)
      | (rw[if_neg (by omega),if_neg (by omega)];rfl)
end Go.aS

/- copy within a block of one's own. Conditions: none; over any program. -/
namespace Go.aS
variable{x:Cx}{Q:Post}{ρ:Env}{F:ah}{o:Oper}{R:Value→ah→Prop}
theorem At.mem{b:Nat}{o:Obj}{F:ah}{U:Obj→ah}(h:At b o F U):(b,o)∈F:=by
 obtain⟨F1,F2,rfl,-⟩:=h.split
 exact List.mem_append_right _ (.head _)
theorem avt{t t' E by':Nat}{z:Value}{zc:Array Value}{y yx:Operand}{b off n cap off' n' cap':Nat}{c:Array Value}{C:TypeId}{vs:List Value}{U:Obj→ah}(ho:o.op= .call ⟨.builtin .copy, #[y,yx], #[t,t']⟩)[TD x.P t (.slice E)][TI x.P E 1 by' z zc]
  (hy:ev ρ y=some (.slice (some ⟨b,off,none⟩) n cap)) (hx:ev ρ yx=some (.slice (some ⟨b,off',none⟩) n' cap')) (hl:At b (.cells c C (0,0)) F U) (hm:Nat.min n' n=vs.length) (hv:c.extract off' (off'+vs.length)=vs.toArray) (h1:ones vs=true) (hc':off'+vs.length≤c.size) (hc:off+vs.length≤c.size)
  (H:R (.int .i64 vs.length) (U (.cells (jv c off vs) C (0,0)))):Ef x ρ o F R:=
 Ef.xW fun e he h' hE=>by
  simp only[execOp,ho,resolve,invoke,builtin,Builtin.copy_,List.map_toArray,List.map_cons,List.map_nil,he y _ hy,he yx _ hx,List.getElem?_toArray,List.getElem?_cons_zero,List.getElem?_cons_succ,bind_eq,au,bind_assoc,bind_pure,aC,Builtin.lenOf,dH,hm,Builtin.firstCells,loadCells,Nat.mul_one]
  refine bJ (gX (.inr hl.mem) _ 0 #[] (by omega) ?_)
  simp only[Nat.add_zero,Array.empty_append,hv]
  refine bJ (kV vs 0 c h1 hl (by omega) ?_)
  exact⟨_,.inl rfl,by simpa[goInt]using H⟩
end Go.aS

/- slices.Repeat, of one number. Conditions: none; over the given program. -/
namespace Go.aS
set_option maxRecDepth 100000
set_option maxHeartbeats 4000000
section
variable{x:Cx}{ρ:Env}{F:ah}{o:Oper}{R:Value→ah→Prop}
theorem avu{t t' E by' c:Nat}{z:Value}{zc:Array Value}{y yx:Operand}{xv:Value}{b cap:Nat}{C:Array Value}{T:TypeId}{a:Int}{U:Obj→ah}(ho:o.op= .call ⟨.builtin .copy, #[y,yx], #[t,t']⟩)[TD x.P t (.slice E)][TI x.P E 1 by' z zc]
  (hy:ev ρ y=some (.slice (some ⟨b,0,none⟩) c cap)) (hx:ev ρ yx=some xv) (hs:Sl x.h fH xv [a]) (hl:At b (.cells C T (0,0)) F U) (hc:c≤C.size)
  (H:R (I (min 1 c:Nat)) (U (.cells (jv C 0 (List.replicate (min 1 c) (I a))) T (0,0)))):Ef x ρ o F R:=by
 rcases c with _ | c
 ·refine Ef.xW fun e he h' hE=>?_
  have hs':=Sl.ext hE hs
  obtain⟨a,cp,rfl⟩:=hs.dA
  have hmin:Nat.min [a].length 0=0:=rfl
  simp only[execOp,ho,resolve,invoke,builtin,Builtin.copy_,List.map_toArray,List.map_cons,List.map_nil,he y _ hy,he yx _ hx,List.getElem?_toArray,List.getElem?_cons_zero,List.getElem?_cons_succ,bind_eq,au,bind_assoc,bind_pure,aC,Builtin.lenOf,dH,Nat.min_zero,List.length_cons,List.length_nil]
  have e0:Builtin.firstCells 1 0 (.slice a 1 cp)=pure #[]:=by
   cases a <;>rfl
  simp only[Nat.zero_add,show Nat.min 1 0=0 from rfl,e0,bind_eq,au]
  obtain⟨F1,F2,e1,e2⟩:=hl.split
  have H':=H
  rw[show min 1 0=0 from rfl,List.replicate_zero,jv,e2,←e1]at H'
  exact⟨_,.inl rfl,H'⟩
 ·have e1:min 1 (c+1)=1:=by omega
  rw[e1]at H
  exact avI (row:=fH) (l:=[a]) ho hy hx hs (by simp) hl (by simp;omega) H
end
theorem avh(main:Side)(h:Hp)(c:Nat)(hc:c≤4):Pu prog main as4 #[.int .u64 1,.int .u64 c] h (.tuple #[.int .u64 0,.int .u64 c]):=by
 refine dV.aG atB rfl (by show 2≤51;decide) [(0,.int .u64 1),(1,.int .u64 c)] ⟨rfl,rfl,trivial⟩ ?_
 have hc':c=0∨c=1∨c=2∨c=3∨c=4:=by omega
 rcases hc' with rfl | rfl | rfl | rfl | rfl
 all_goals
  refine W.seq<|W.region rfl<|agb rfl rfl rfl<|agb rfl rfl rfl<|pq<|W.seq<|W.region rfl<|qm rfl rfl rfl ?_
  refine agW (aaK rfl rfl rfl) rfl ?_
  refine agb rfl rfl rfl<|pq<|W.seq<|W.region rfl<|qm rfl rfl rfl ?_
  refine agW (Gw rfl rfl rfl (by omega)) rfl ?_
  refine agb rfl rfl rfl<|pq<|W.seq<|W.region rfl<|qm rfl rfl rfl ?_
  refine agW (aaK rfl rfl rfl) rfl ?_
  refine agb rfl rfl rfl<|pq<|W.seq<|W.region rfl<|qm rfl rfl rfl ?_
  refine agW (Gw rfl rfl rfl (by omega)) rfl ?_
  refine agb rfl rfl rfl<|pq<|W.seq<|W.region rfl<|qm rfl rfl rfl<|qm rfl rfl rfl ?_
  first | refine agW (aaC rfl rfl rfl) rfl ?_ | refine agW (Fz rfl rfl rfl) rfl ?_
  refine agb rfl rfl rfl<|pq<|W.seq<|W.region rfl<|qm rfl rfl rfl<|qm rfl rfl rfl ?_
  first | refine agW (aaC rfl rfl rfl) rfl ?_ | refine agW (Fz rfl rfl rfl) rfl ?_
  refine qm rfl rfl rfl ?_
  refine agW (Gw rfl rfl rfl (by omega)) rfl ?_
  refine ag1 rfl ?_
  refine agb rfl rfl rfl<|pq<|W.seq<|W.region rfl<|qm rfl rfl rfl ?_
  refine agW (aaK rfl rfl rfl) rfl ?_
  refine agb rfl rfl rfl<|pq<|W.seq<|W.region rfl<|qm rfl rfl rfl ?_
  refine agW (Gw rfl rfl rfl (by omega)) rfl ?_
  refine agb rfl rfl rfl<|pq<|W.seq<|W.region rfl<|qm rfl rfl rfl<|qm rfl rfl rfl<|qm rfl rfl rfl ?_
  first | refine agW (aaC rfl rfl rfl) rfl ?_ | refine agW (Fz rfl rfl rfl) rfl ?_
  refine ag1 rfl ?_
  refine agb rfl rfl rfl<|pq<|W.seq<|W.region rfl<|qm rfl rfl rfl<|qm rfl rfl rfl ?_
  first | refine agW (aaC rfl rfl rfl) rfl ?_ | refine agW (Fz rfl rfl rfl) rfl ?_
  refine qm rfl rfl rfl ?_
  refine ag1 rfl ?_
  refine qm rfl rfl rfl ?_
  refine agW (Gw rfl rfl rfl (by omega)) rfl ?_
  refine ag1 rfl ?_
  refine agb rfl rfl rfl<|pq<|W.seq<|W.region rfl<|qm rfl rfl rfl<|qm rfl rfl rfl ?_
  first | refine agW (aaC rfl rfl rfl) rfl ?_ | refine agW (Fz rfl rfl rfl) rfl ?_
  refine agb rfl rfl rfl<|pq<|W.ret ?_
  refine uZ ?_
  kernel_rfl
theorem avU(main:Side)(h:Hp)(c:Nat)(hc:c≤4):Pu prog main atj #[.int .u64 1,.int .u64 c] h (.tuple #[.int .u64 0,.int .u64 c]):=by
 refine dV.aG atU rfl (by show 2≤30;decide) [(0,.int .u64 1),(1,.int .u64 c)] ⟨rfl,rfl,trivial⟩ ?_
 refine W.seq<|W.region rfl<|agb rfl rfl rfl<|agb rfl rfl rfl<|pq<|W.seq ?_
 refine W.bZ ?_
 refine W.skip<|aA<|W.seq<|W.region rfl<|qm rfl rfl rfl<|qm rfl rfl rfl ?_
 refine cp (fun h' hE hL=>avh _ h' c hc) ?_
 refine qm rfl rfl rfl<|oq (bD rfl rfl rfl) rfl wn rfl rfl<|oq (bD rfl rfl rfl) rfl wn rfl rfl<|agb rfl rfl rfl<|agb rfl rfl rfl<|pq<|W.seq<|W.region rfl<|qm rfl rfl rfl ?_
 refine qm rfl rfl rfl<|agb rfl rfl rfl<|agb rfl rfl rfl<|pq<|W.ret ?_
 exact uZ rfl
theorem atW(main:Side)(h:Hp)(n:Int)(v:Value)(c:Nat)(hv:Sl h fH v [n])(hc:c≤4):dV prog main asZ #[v,I c] h [] (fun v A=>Os dL fH v (List.replicate c n) A):=by
 obtain⟨a,cap,rfl⟩:=hv.dA
 refine dV.aG atm rfl (by show 2≤48;decide) [(0,.slice a 1 cap),(1,I c)] ⟨rfl,rfl,trivial⟩ ?_
 refine W.seq<|W.region rfl<|agb rfl rfl rfl<|pq<|W.seq<|W.seq<|W.region rfl<|qm rfl rfl rfl ?_
 refine agW (fO rfl rfl rfl) rfl ?_
 refine pq ?_
 refine W.bC rfl (fun c10=>?_) (fun c10=>?_)
 ·exact absurd c10 (by omega)
 ·refine W.skip<|aA<|W.seq<|W.region rfl<|qm rfl rfl rfl ?_
  refine agW (dM rfl rfl) rfl ?_
  refine KU (FC rfl rfl) (show _=Value.int .u64 1 from rfl) rfl wn rfl rfl ?_
  refine qm rfl rfl rfl ?_
  refine KU (FC rfl rfl) (congrArg (Value.int .u64) (show(c:Int) % (18446744073709551616:Int)=c by omega)) rfl wn rfl rfl ?_
  refine cp (fun h' hE hL=>avU _ h' c hc) ?_
  refine qm rfl rfl rfl<|oq (bD rfl rfl rfl) rfl wn rfl rfl<|oq (bD rfl rfl rfl) rfl wn rfl rfl<|agb rfl rfl rfl<|agb rfl rfl rfl<|pq<|W.seq<|W.seq<|W.region rfl ?_
  refine qm rfl rfl rfl ?_
  refine KU (rC rfl rfl rfl) (show _=Value.bool false from rfl) rfl wn rfl rfl ?_
  refine qm rfl rfl rfl ?_
  refine oq (aN rfl rfl) rfl (ak rfl rfl rfl) rfl rfl ?_
  refine KU (rC rfl rfl rfl) (congrArg Value.bool (decide_eq_false (by omega))) rfl (ak rfl rfl rfl) rfl rfl ?_
  refine agW (iH rfl rfl rfl) rfl ?_
  refine pq ?_
  refine W.bZ ?_
  refine W.skip<|aA<|W.seq<|W.region rfl<|qm rfl rfl rfl ?_
  refine KU (FC rfl rfl) (congrArg (Value.int .i64) (nC (by omega) (by omega))) rfl wn rfl rfl ?_
  refine oe rfl wn rfl rfl (G8 (n:=c) rfl rfl rfl (by omega) (fun avi=>?_))
  refine agb rfl rfl rfl<|pq<|W.seq<|W.region rfl<|qm rfl rfl rfl<|qm rfl rfl rfl ?_
  refine oe rfl wn rfl rfl (avu (c:=c) rfl rfl rfl hv .head (by simp) ?_)
  refine agb rfl rfl rfl<|pq<|W.seq<|W.block ?_
  refine W.loop (σ:=Nat×Array Value) (fun t=>t.1≤c∧Part t.2 0 (List.replicate t.1 (I n))∧t.2.size=c∧(0<c→0<t.1)) (fun t=>[(8,I t.1),(7,.slice (some ⟨avi,0,none⟩) c c)]) (fun t=>[(avi,.cells t.2 dL (0,0))]) (fun t=>c-t.1) (min 1 c,jv (List.replicate c (I 0)).toArray 0 (List.replicate (min 1 c) (I n))) ⟨by dsimp only;omega,?_,by dsimp only;rw[y9];simp,by dsimp only;omega⟩ ⟨rfl,rfl,trivial⟩ .refl ?_
  ·have:=Gz (List.replicate (min 1 c) (I n)) (List.replicate c (I 0)).toArray (xs:=[]) ⟨[],_,rfl,rfl⟩ (by simp;omega)
   simpa using this
  rintro⟨m,X⟩ ⟨hm,hX,hsz,hm0⟩
  dsimp only at*
  refine W.seq<|W.seq<|W.region rfl<|qm rfl rfl rfl<|qm rfl rfl rfl ?_
  refine agW (dM rfl rfl) rfl ?_
  refine agW (fO rfl rfl rfl) rfl ?_
  refine pq ?_
  refine W.bC rfl (fun c37=>?_) (fun c37=>?_)
  ·have hmc:m<c:=by omega
   have hm1:=hm0 (by omega)
   have hkm:min m (c-m)≤m:=by omega
   have hXk:Part X 0 (List.replicate (min m (c-m)) (I n)):=Part.sub (c:=X) (off:=0) (a:=[]) (b:=List.replicate (min m (c-m)) (I n)) (d:=List.replicate (m-min m (c-m)) (I n)) (by
    rw[List.nil_append,List.replicate_append_replicate,Nat.add_sub_cancel' hkm];exact hX)
   have hXe:=hXk.extract
   have hXn:Part (jv X m (List.replicate (min m (c-m)) (I n))) 0 (List.replicate (m+min m (c-m)) (I n)):=by
    have:=Gz (List.replicate (min m (c-m)) (I n)) X hX (by simp;omega)
    rw[List.length_replicate,List.replicate_append_replicate]at this
    exact this
   have hone:∀k,ones (List.replicate k (I n))=true:=fun k=>by
    induction k with
    | zero=>rfl
    | succ k ih=>rw[List.replicate_succ];exact ih
   refine W.skip<|aA<|W.block ?_
   refine W.DR [] (n:=10) rfl ?_
   refine xq 0 (aN rfl rfl) rfl ?_
   refine xq 1 (aN rfl rfl) rfl ?_
   refine xq 2 (aN rfl rfl) rfl ?_
   refine aqe (i:=3) (ak8 rfl rfl rfl) (show _=Value.slice (some ⟨avi,m,none⟩) (c-m) (c-m) by
    rw[if_neg (show¬c=m by omega)]
    simp[jE]) rfl an rfl rfl ?_
   refine xq 4 (aN rfl rfl) rfl ?_
   refine xq 5 (aN rfl rfl) rfl ?_
   refine xq 6 (Vb rfl rfl rfl (by first | exact .inl rfl | exact .inr rfl | assumption)) rfl ?_
   refine ae (i:=7) rfl an rfl rfl (avt (vs:=List.replicate (min m (c-m)) (I n)) rfl rfl rfl .head (by rw[List.length_replicate]) hXe (hone _) (by rw[List.length_replicate];omega) (by rw[List.length_replicate];omega) ?_)
   refine⟨.inr Keeps.nil,?_⟩
   rw[List.length_replicate]
   first | refine xq 8 (Zi rfl rfl rfl) rfl ?_ | refine xq 8 (MZ rfl rfl rfl) rfl ?_
   refine xq 9 (jS rfl rfl) rfl ?_
   refine az ?_
   refine dI<|aA ?_
   exact⟨rfl,(m+min m (c-m),_),⟨by dsimp only;omega,hXn,by dsimp only;rw[y9];exact hsz,fun _=>by dsimp only;omega⟩,by dsimp only;omega,⟨lk rfl (show I _=I _ by congr 1),rfl,trivial⟩,.refl⟩
  ·refine W.exit<|bP<|bP<|gG<|aA<|W.seq<|W.region rfl<|qm rfl rfl rfl<|agb rfl rfl rfl<|Ops.nil ?_
   refine aA<|W.ret ?_
   obtain rfl:m=c:=by omega
   refine mg (vs:=[.slice (some ⟨avi,0,none⟩) m m]) (.inr ⟨avi,X,m,[],by rw[List.length_replicate];rfl,rfl,by rw[hsz,Nat.mul_one],by rw[List.length_replicate];exact Nat.le_refl _,?_,.nil⟩)
   rw[YE,List.map_replicate];exact hX
end Go.aS

/- Marks of loops over functions, at a way out. Conditions: none; over any program. -/
namespace Go.aS
def aup(l:List Nat):ah:=l.map fun d=>(d,.deferred none)
theorem att:∀(l:List Nat),Shut (aup l)
 | []=>.nil
 | d::l=>.cons rfl (att l)
theorem avV{P:Program}{main:Side}{fn:Func}{h:Hp}{R:Value→ah→Prop}{e:Exit}{ρ:Env}:∀{l:List Nat} {G:ah},leave P main fn h R e ρ [] (G++aup l)→leave P main fn h R e ρ (auI l) (G++as3 l)
 | [],G,H=>H
 | d::l,G,H=>by
  refine lvm (U:=fun o=>G++((d,o)::as3 l)) ?_ (At.app At.head)
  have e1:G++((d,.deferred none)::as3 l)=(G++[(d,.deferred none)])++as3 l:=by simp
  show leave P main fn h R e ρ (auI l) (G++((d,.deferred none)::as3 l))
  rw[e1]
  refine avV ?_
  have e2:(G++[(d,Obj.deferred none)])++aup l=G++aup (d::l):=by simp[aup]
  rw[e2];exact H
end Go.aS

/- The room that is needed, as the document has it and as the program has it. Conditions: none; over the given program. -/
namespace Go.aS
set_option maxRecDepth 100000
set_option maxHeartbeats 4000000
def asO(ps:List Pn)(ls:List Lt):Int×Int:=if nV ps≠0 then(0,nV ps)else if Ig ls≠0 then(0,Ig ls)else(((atl ps ls:Nat):Int),0)
theorem auR{m n:Nat}(hn:n≤40):Aw m (List.replicate m (n:Int)):=⟨by simp,fun r hr=>by
 obtain⟨-,rfl⟩:=List.mem_replicate.1 hr
 omega⟩
theorem avj{m i:Nat}{n:Int}(h:i<m):(List.replicate i n++List.replicate (m-i) (0:Int)).set i n=List.replicate (i+1) n++List.replicate (m- (i+1)) 0:=by
 obtain⟨d,hd⟩:∃d,m-i=d+1:=⟨m-i-1,by omega⟩
 rw[List.set_append_right _ _ (by simp),List.length_replicate,Nat.sub_self,hd,List.replicate_succ,List.set_cons_zero,List.replicate_succ',List.append_assoc,show m- (i+1)=d by omega]
 rfl
theorem avk(main:Side)(h:Hp)(ps:List Pn)(ls:List Lt)(vp vl:Value)(hp:Sl h Pn.row vp ps)(hl:Sl h Lt.row vl ls):Pu prog main auf #[vp,vl] h (.tuple #[I (asO ps ls).1,I (asO ps ls).2]):=by
 obtain⟨a,cap,rfl⟩:=hp.dA
 obtain⟨a2,cap2,rfl⟩:=hl.dA
 refine dV.aG auN rfl (by show 2≤72;decide) [(0,.slice a ps.length cap),(1,.slice a2 ls.length cap2)] ⟨rfl,rfl,trivial⟩ ?_
 refine W.seq<|W.region rfl<|agb rfl rfl rfl<|agb rfl rfl rfl<|pq<|W.seq<|W.seq<|W.region rfl<|qm rfl rfl rfl ?_
 refine cp (fun h' hE hL=>ak9 _ h' ps _ (hp.ext hE)) ?_
 refine agb rfl rfl rfl<|pq<|W.seq<|W.region rfl<|qm rfl rfl rfl ?_
 refine agW (nG rfl rfl rfl) rfl ?_
 refine pq ?_
 refine W.bC rfl (fun c18=>?_) (fun c18=>?_)
 ·refine W.seq<|W.region rfl<|qm rfl rfl rfl<|agb rfl rfl rfl<|agb rfl rfl rfl<|pq<|W.ret<|aY ?_
  refine uZ ?_
  rw[asO,if_pos (by assumption)] <;>rfl
 ·have h0:nV ps=0:=by simpa using c18
  have hok:=iP.yB h0
  have Du:=hok.len
  refine W.skip<|aA<|W.seq<|W.seq<|W.region rfl<|qm rfl rfl rfl ?_
  refine cp (fun h' hE hL=>atA _ h' ls _ (hl.ext hE)) ?_
  refine agb rfl rfl rfl<|pq<|W.seq<|W.region rfl<|qm rfl rfl rfl ?_
  refine agW (nG rfl rfl rfl) rfl ?_
  refine pq ?_
  refine W.bC rfl (fun c23=>?_) (fun c23=>?_)
  ·refine W.seq<|W.region rfl<|qm rfl rfl rfl<|agb rfl rfl rfl<|agb rfl rfl rfl<|pq<|W.ret<|aY ?_
   refine uZ ?_
   rw[asO,if_neg (by assumption),if_pos (by assumption)] <;>rfl
  ·have h1:Ig ls=0:=by simpa using c23
   have hlo:=Au.yB h1
   have hl4:=hlo.len
   obtain⟨hn1,hn2,hn3⟩:=atC (ps:=ps) Du hlo.lot
   have hdd:=atg (ps:=ps) hlo.lot
   have e:asO ps ls=(((atl ps ls:Nat):Int),0):=by rw[asO,if_neg (by simpa using h0),if_neg (by simpa using h1)]
   refine W.skip<|aA<|W.seq<|W.region rfl<|agb rfl rfl rfl<|pq<|W.seq<|W.seq<|W.region rfl ?_
   refine agb rfl rfl rfl<|pq<|W.block ?_
   refine W.loop (σ:=Nat) (fun k=>k≤ls.length) (fun k=>[(9,I k),(8,I (asD ps (ls.take k))),(0,.slice a ps.length cap),(1,.slice a2 ls.length cap2)]) (fun _=>[]) (fun k=>ls.length-k) 0 (Nat.zero_le _) ⟨rfl,rfl,rfl,rfl,trivial⟩ .refl ?_
   rintro k hk
   refine W.seq<|W.seq<|W.region rfl<|qm rfl rfl rfl<|qm rfl rfl rfl ?_
   refine agW (dM rfl rfl) rfl ?_
   refine agW (fO rfl rfl rfl) rfl ?_
   refine pq ?_
   refine W.bC rfl (fun c28=>?_) (fun c28=>?_)
   ·have hkl:k<ls.length:=by omega
    obtain⟨l,hlt,-⟩:=has hkl
    have hlk:=hlo.lot l (List.mem_of_getElem? hlt)
    obtain⟨bl,ol,cl,El,fl,hvl,hbl,-,-,hzl⟩:=hl.at hlt
    cases hvl
    have hq2:cl[ol+k*2+0]? =some (I l.qu):=hzl 0 (by decide)
    have hp2:cl[ol+k*2+1]? =some (I l.po):=hzl 1 (by decide)
    have hacc:=atg (ps:=ps) (ls:=ls.take k) (fun l hl=>hlo.lot l (List.mem_of_mem_take hl))
    rw[List.length_take]at hacc
    have hdt:=auB (ps:=ps) hlt
    refine W.skip<|aA<|W.seq<|W.block<|W.seq<|W.region rfl<|qm rfl rfl rfl<|qm rfl rfl rfl<|qm rfl rfl rfl ?_
    refine ag3 rfl ?_
    refine agY rfl ?_
    refine agX rfl ?_
    refine cp (fun h' hE hL=>ah6 _ h' ps _ l.qu (hp.ext hE) (by omega)) ?_
    refine agW (xU rfl rfl) rfl ?_
    refine pq ?_
    refine W.cond rfl (fun c38=>?_) (fun c38=>?_)
    ·refine W.region rfl<|qm rfl rfl rfl<|qm rfl rfl rfl<|qm rfl rfl rfl ?_
     refine ag3 rfl ?_
     refine agY rfl ?_
     refine agX rfl ?_
     refine ag1 rfl ?_
     refine agb rfl rfl rfl<|Ops.nil<|dI<|aA<|W.region rfl<|qm rfl rfl rfl ?_
     refine ag1 rfl ?_
     refine agb rfl rfl rfl<|pq ?_
     exact⟨rfl,k+1,hkl,by omega,⟨rfl,lk rfl (show I _=I _ by rw[hdt,if_neg (by simp_all)]),rfl,rfl,trivial⟩,.refl⟩
    ·refine W.skip<|dI<|aA<|W.region rfl<|qm rfl rfl rfl ?_
     refine ag1 rfl ?_
     refine agb rfl rfl rfl<|pq ?_
     exact⟨rfl,k+1,hkl,by omega,⟨rfl,lk rfl (show I _=I _ by rw[hdt,if_pos (by simp_all),Int.add_zero]),rfl,rfl,trivial⟩,.refl⟩
   ·obtain rfl:k=ls.length:=by omega
    rw[List.take_length]
    refine W.exit<|bP<|bP<|gG<|aA<|W.seq<|W.region rfl<|agb rfl rfl rfl<|pq ?_
    refine W.block ?_
    refine W.loop (σ:=Nat) (fun n=>∀j,j<n→ath ps ls j=false) (fun n=>[(10,I n),(8,I (asD ps ls)),(0,.slice a ps.length cap),(1,.slice a2 ls.length cap2)]) (fun _=>[]) (fun n=>40-n) 0 (fun j hj=>by omega) ⟨rfl,rfl,rfl,rfl,trivial⟩ .refl ?_
    rintro n hnj
    have ayc:n≤atl ps ls:=by
     rcases Nat.lt_or_ge (atl ps ls) n with h | h
     ·rw[hnj _ h]at hn1;cases hn1
     ·exact h
    refine W.seq<|W.block<|W.seq<|W.region rfl<|qm rfl rfl rfl ?_
    refine agW (dM rfl rfl) rfl ?_
    refine oe rfl wn rfl rfl (G8 (n:=ps.length) rfl rfl rfl (by omega) (fun avl=>?_))
    rw[show(List.replicate ps.length (I 0)).toArray=uV (List.replicate 0 (n:Int)++List.replicate (ps.length-0) 0) by rw[uV];simp]
    refine agb rfl rfl rfl<|pq<|W.seq<|W.seq<|W.region rfl<|agb rfl rfl rfl<|pq<|W.block ?_
    refine W.loop (σ:=Nat) (fun i=>i≤ps.length) (fun i=>[(12,I i),(11,.slice (some ⟨avl,0,none⟩) ps.length ps.length),(10,I n),(8,I (asD ps ls)),(0,.slice a ps.length cap),(1,.slice a2 ls.length cap2)]) (fun i=>[(avl,.cells (uV (List.replicate i (n:Int)++List.replicate (ps.length-i) 0)) dL (0,0))]) (fun i=>ps.length-i) 0 (Nat.zero_le _) ⟨rfl,rfl,rfl,rfl,rfl,rfl,trivial⟩ .refl ?_
    rintro i hi
    refine W.seq<|W.seq<|W.region rfl<|qm rfl rfl rfl<|qm rfl rfl rfl ?_
    refine agW (dM rfl rfl) rfl ?_
    refine agW (fO rfl rfl rfl) rfl ?_
    refine pq ?_
    refine W.bC rfl (fun c54=>?_) (fun c54=>?_)
    ·have hil:i<ps.length:=by omega
     have hsz:0+i*1<(uV (List.replicate i (n:Int)++List.replicate (ps.length-i) 0)).size:=by rw[qj];simp;omega
     refine W.skip<|aA<|W.seq<|W.block<|W.region rfl<|qm rfl rfl rfl<|qm rfl rfl rfl<|qm rfl rfl rfl ?_
     refine ag3 rfl ?_
     refine Ops.yG ?_
     refine Ops.nil<|dI<|aA<|W.region rfl<|qm rfl rfl rfl ?_
     refine ag1 rfl ?_
     refine agb rfl rfl rfl<|pq ?_
     exact⟨rfl,i+1,hil,by omega,⟨rfl,rfl,rfl,rfl,rfl,rfl,trivial⟩,.eq (by rw[Ux,avj hil])⟩
    ·obtain rfl:i=ps.length:=by omega
     rw[Nat.sub_self,List.replicate_zero,List.append_nil]
     have hro:=auR (m:=ps.length) (n:=n) (by omega)
     refine W.exit<|bP<|bP<|gG<|aA<|W.seq<|W.region rfl<|qm rfl rfl rfl<|qm rfl rfl rfl<|qm rfl rfl rfl ?_
     refine c0 (fun h' hE hL=>aun _ h' ps ls (List.replicate ps.length (n:Int)) _ _ (.slice (some ⟨avl,0,none⟩) ps.length ps.length) hok hlo hro (hp.ext hE) (hl.ext hE) (Sl.mk (hL avl _ (.head _)) (by simp) (by rw[YE];exact Part.all _))) (fun v A' hv=>?_)
     obtain⟨O,us,B,w,rfl,hO,hB,hsb⟩:=hv
     refine Ops.sb (F':=(O++B)++[(avl,.cells (uV (List.replicate ps.length (n:Int))) dL (0,0))]) (hsb.app .refl) ?_
     have hbd:=avg (ps:=ps) (ls:=ls) (n:=n) hlo.lot
     refine qm rfl rfl rfl<|oq (bD rfl rfl rfl) rfl wn rfl rfl<|oq (bD rfl rfl rfl) rfl wn rfl rfl<|agb rfl rfl rfl<|agb rfl rfl rfl<|pq<|W.seq<|W.region rfl<|qm rfl rfl rfl ?_
     refine qm rfl rfl rfl ?_
     refine agW (nD rfl rfl rfl) rfl ?_
     refine pq ?_
     refine W.bC rfl (fun c70=>?_) (fun c70=>?_)
     ·refine W.seq<|W.region rfl<|qm rfl rfl rfl<|agb rfl rfl rfl<|agb rfl rfl rfl<|pq<|W.ret<|cZ<|aY ?_
      refine aY<|cZ ?_
      have hc:ath ps ls n=true:=hbd.1 (by omega)
      have hnn:=aum Du hlo.lot hc hnj
      refine uZ ?_ (hs:=(hO.shut.app hB.shut).app (.cons rfl .nil))
      rw[e,hnn] <;>rfl
     ·refine W.skip<|dI<|aA<|W.region rfl<|qm rfl rfl rfl ?_
      refine ag1 rfl ?_
      refine agb rfl rfl rfl<|pq ?_
      have hc:ath ps ls n=false:=by
       rw[←Bool.not_eq_true];intro h;exact absurd (hbd.2 h) (by omega)
      refine⟨rfl,n+1,fun j hj=>?_,by omega,⟨rfl,rfl,rfl,rfl,trivial⟩,.nil ((hO.shut.app hB.shut).app (.cons rfl .nil))⟩
      rcases Nat.lt_or_ge j n with h | h
      ·exact hnj j h
      ·obtain rfl:j=n:=by omega
       exact hc
end Go.aS

/- The room that is needed, as the program has it. Conditions: none; over the given program. -/
namespace Go.aS
set_option maxRecDepth 100000
set_option maxHeartbeats 4000000
theorem avw(main:Side)(h:Hp)(ps:List Pn)(ls:List Lt)(vp vl:Value)(hp:Sl h Pn.row vp ps)(hl:Sl h Lt.row vl ls):Pu prog main atD #[vp,vl] h (.tuple #[I (asO ps ls).1,I (asO ps ls).2]):=by
 obtain⟨a,cap,rfl⟩:=hp.dA
 obtain⟨a2,cap2,rfl⟩:=hl.dA
 refine dV.aG aus rfl (by show 2≤69;decide) [(0,.slice a ps.length cap),(1,.slice a2 ls.length cap2)] ⟨rfl,rfl,trivial⟩ ?_
 have hbe:kU ps []=nV ps:=by unfold kU;split <;>simp_all
 refine W.seq<|W.region rfl ?_
 refine Ops.new (fun wC=>?_)
 refine Ops.new (fun mZ=>?_)
 refine pq<|W.seq<|W.region rfl<|qm rfl rfl rfl ?_
 refine cp (fun h' hE hL=>Am _ h' ps _ [] _ (hp.ext hE) .nil (by simp)) ?_
 refine qm rfl rfl rfl<|oq (bD rfl rfl rfl) rfl wn rfl rfl<|oq (bD rfl rfl rfl) rfl wn rfl rfl ?_
 have hcs:∃cs:Array Value,(if kU ps []=0 then xJ (.slice a ps.length cap) 0 else LZ)= .agg cs∧cs.size=2∧ones cs.toList=true:=by
  split <;>exact⟨_,rfl,rfl,rfl⟩
 obtain⟨cs,hcs,hcs2,hcs1⟩:=hcs
 rw[hcs,hbe]
 refine Ops.new (fun yC=>?_)
 refine Ops.jP (n:=2) (vs:=cs) ?_ (hy:=by rfl) (hn:=hcs2) (h1:=hcs1)
 refine agb rfl rfl rfl<|pq<|W.seq<|W.seq<|W.region rfl<|qm rfl rfl rfl ?_
 refine agW (nG rfl rfl rfl) rfl ?_
 refine pq ?_
 refine W.bC rfl (fun c21=>?_) (fun c21=>?_)
 ·refine W.seq<|W.region rfl<|qm rfl rfl rfl ?_
  refine Ops.yG ?_
  refine Ops.yG ?_
  refine pq<|W.ret<|aY ?_
  have e:asO ps ls=(0,nV ps):=by rw[asO,if_pos (by assumption)]
  rw[e]
  exact QJ (hv:=rSc (rSc zJ)) ⟨rfl,by repeat(first | exact Shut.nil | refine Shut.cons rfl ?_)⟩
 ·have h0:nV ps=0:=by simpa using c21
  have hok:=iP.yB h0
  have Du:=hok.len
  rw[hbe,if_pos h0]at hcs
  cases hcs
  refine W.skip<|aA<|W.seq<|W.seq<|W.region rfl<|qm rfl rfl rfl ?_
  refine cp (fun h' hE hL=>Ov _ h' ls _ (hl.ext hE)) ?_
  refine agb rfl rfl rfl<|pq<|W.seq<|W.region rfl<|qm rfl rfl rfl ?_
  refine agW (nG rfl rfl rfl) rfl ?_
  refine pq ?_
  refine W.bC rfl (fun c26=>?_) (fun c26=>?_)
  ·refine W.seq<|W.region rfl<|qm rfl rfl rfl ?_
   refine Ops.yG ?_
   refine Ops.yG ?_
   refine pq<|W.ret<|aY ?_
   have e:asO ps ls=(0,Ig ls):=by rw[asO,if_neg (by simpa using h0),if_pos (by assumption)]
   rw[e]
   exact QJ (hv:=rSc (rSc zJ)) ⟨rfl,by repeat(first | exact Shut.nil | refine Shut.cons rfl ?_)⟩
  ·have h1:Ig ls=0:=by simpa using c26
   have hlo:=Au.yB h1
   have hl4:=hlo.len
   obtain⟨hn1,hn2,hn3⟩:=atC (ps:=ps) Du hlo.lot
   have hdd:=atg (ps:=ps) hlo.lot
   have e:asO ps ls=(((atl ps ls:Nat):Int),0):=by rw[asO,if_neg (by simpa using h0),if_neg (by simpa using h1)]
   refine W.skip<|aA<|W.seq<|W.region rfl ?_
   refine Ops.new (fun Uw=>?_)
   refine Ops.yG ?_
   refine pq<|W.seq<|W.seq<|W.region rfl<|qm rfl rfl rfl ?_
   refine agW (dM rfl rfl) rfl ?_
   refine qm rfl rfl rfl<|pq<|W.block ?_
   refine W.loop (σ:=Nat) (fun k=>k≤ls.length) (fun k=>[(30,I k),(29,I ls.length),(28,.slice a2 ls.length cap2),(9,bI Uw),(6,bI yC),(5,bI mZ),(4,bI wC),(0,.slice a ps.length cap),(1,.slice a2 ls.length cap2)]) (fun k=>[(Uw,.cells #[I (asD ps (ls.take k))] dL (0,0)),(yC,.cells #[.slice a ps.length cap,U8 0] bG (0,0)),(mZ,.cells #[I 0] Uf (0,0)),(wC,.cells #[I 0] dL (0,0))]) (fun k=>ls.length-k) 0 (Nat.zero_le _) ⟨rfl,rfl,rfl,rfl,rfl,rfl,rfl,rfl,rfl,trivial⟩ .refl ?_
   rintro k hk
   refine W.seq<|W.region rfl ?_
   refine agW (fO rfl rfl rfl) rfl ?_
   refine pq<|W.seq ?_
   refine W.bC rfl (fun c31=>?_) (fun c31=>?_)
   ·have hkl:k<ls.length:=by omega
    obtain⟨l,hlt,-⟩:=has hkl
    have hlk:=hlo.lot l (List.mem_of_getElem? hlt)
    obtain⟨bl,ol,cl,El,fl,hvl,hbl,hxl,hyl,-⟩:=hl.at hlt
    cases hvl
    have ayd:cl.extract (ol+k*2) (ol+k*2+2)= #[I l.qu,I l.po]:=hxl
    clear hxl
    have hacc:=atg (ps:=ps) (ls:=ls.take k) (fun l hl=>hlo.lot l (List.mem_of_mem_take hl))
    rw[List.length_take]at hacc
    have hdt:=auB (ps:=ps) hlt
    refine W.skip<|aA<|W.seq<|W.block<|W.seq<|W.region rfl ?_
    refine ag3 rfl ?_
    refine ag2 rfl ?_
    refine Ops.new (fun KY=>?_)
    refine Ops.jP (vs:= #[I l.qu,I l.po]) ?_
    refine pq<|W.seq<|W.region rfl ?_
    refine ag2 rfl ?_
    refine agY rfl ?_
    refine agX rfl ?_
    refine cp (fun h' hE hL=>Si _ h' ps _ 0 l.qu (hp.ext hE) Du) ?_
    refine agW (xU rfl rfl) rfl ?_
    refine pq ?_
    refine W.cond rfl (fun c38=>?_) (fun c38=>?_)
    ·refine W.region rfl ?_
     refine agX rfl ?_
     refine agY rfl ?_
     refine agX rfl ?_
     refine ag1 rfl ?_
     refine Ops.yG ?_
     refine Ops.nil<|dI<|aA<|W.region rfl ?_
     refine ag1 rfl ?_
     refine qm rfl rfl rfl<|pq ?_
     exact⟨rfl,k+1,hkl,by omega,⟨rfl,rfl,rfl,rfl,rfl,rfl,rfl,rfl,rfl,trivial⟩,.skip rfl (.eq (by rw[hdt,if_neg (by simp_all)];rfl))⟩
    ·refine W.skip<|dI<|aA<|W.region rfl ?_
     refine ag1 rfl ?_
     refine qm rfl rfl rfl<|pq ?_
     exact⟨rfl,k+1,hkl,by omega,⟨rfl,rfl,rfl,rfl,rfl,rfl,rfl,rfl,rfl,trivial⟩,.skip rfl (.eq (by rw[hdt,if_pos (by simp_all),Int.add_zero]))⟩
   ·obtain rfl:k=ls.length:=by omega
    rw[List.take_length]
    refine W.exit<|bP<|bP<|gG<|aA<|W.seq<|W.seq<|W.region rfl ?_
    refine agX rfl ?_
    refine ag1 rfl ?_
    refine qm rfl rfl rfl<|pq<|W.block ?_
    refine W.awj (σ:=Nat×List Nat) (fun t=>auI t.2) (fun t=>(t.1:Int)≤asD ps ls+1∧∀j,j<t.1→ath ps ls j=false) (fun t=>[(46,I t.1),(45,I (asD ps ls+1)),(9,bI Uw),(6,bI yC),(5,bI mZ),(4,bI wC),(0,.slice a ps.length cap),(1,.slice a2 ls.length cap2)]) (fun t=>[(Uw,.cells #[I (asD ps ls)] dL (0,0)),(yC,.cells #[.slice a ps.length cap,U8 0] bG (0,0)),(mZ,.cells #[I 0] Uf (0,0)),(wC,.cells #[I 0] dL (0,0))]++as3 t.2) (fun t=>(asD ps ls).toNat+1-t.1) (0,[]) ⟨by dsimp only;omega,fun j hj=>absurd hj (Nat.not_lt_zero _)⟩ ⟨rfl,rfl,rfl,rfl,rfl,rfl,rfl,rfl,trivial⟩ .refl ?_
    rintro⟨n,mk⟩ ⟨hn,hnj⟩
    dsimp only at*
    refine W.seq<|W.region rfl ?_
    refine agW (fO rfl rfl rfl) rfl ?_
    refine pq<|W.seq ?_
    refine W.bC rfl (fun c47=>?_) (fun c47=>?_)
    ·have hnd:(n:Int)≤asD ps ls:=by omega
     have hro:=auR (m:=ps.length) (n:=n) (by omega)
     have hL4:∀s∈yS ps ls (List.replicate ps.length (n:Int)),(kC s).length=4:=fun s hs=>Qw (by have:=Az hs;omega)
     refine W.skip<|aA<|W.seq<|W.block<|W.seq<|W.region rfl<|qm rfl rfl rfl ?_
     refine Ops.new (fun Yf=>?_)
     refine Ops.yG ?_
     refine pq<|W.seq ?_
     refine W.mono (Q:=(fun e ρ' ds' F'=>e= .normal∧ds'=auI mk∧∃βx X5 vr S,Os dL fH vr (List.replicate ps.length (n:Int)) S∧Sub [(13,bI X5),(12,bI Yf),(46,I n),(45,I (asD ps ls+1)),(9,bI Uw),(6,bI yC),(5,bI mZ),(4,bI wC),(0,.slice a ps.length cap),(1,.slice a2 ls.length cap2)] ρ'∧
       Sb ((X5,.cells #[bI βx] fM (0,0))::(βx,.cells #[.slice a ps.length cap,U8 0,.slice a2 ls.length cap2,vr] xE (0,0))::(S++((Yf,.cells #[I n] dL (0,0))::([(Uw,.cells #[I (asD ps ls)] dL (0,0)),(yC,.cells #[.slice a ps.length cap,U8 0] bG (0,0)),(mZ,.cells #[I 0] Uf (0,0)),(wC,.cells #[I 0] dL (0,0))]++as3 mk)))) F')) ?_ ?_
     ·refine W.rE (n:=11) rfl ?_
      first | refine xq 0 (Bf rfl rfl) rfl ?_ | refine xq 0 (zi rfl rfl) rfl ?_
      refine xq 1 (aN rfl rfl) rfl ?_
      refine xq 2 (iQ rfl rfl) rfl ?_
      refine xq 4 (aN rfl rfl) rfl ?_
      refine xq 5 (dM rfl rfl) rfl ?_
      refine Any.WB (i:=3) (j:=9) (by kernel_rfl) (aU rfl) (aU rfl) an an rfl rfl rfl rfl ?_ ?_
      ·refine DN (parts:=[⟨_,_⟩]) (cs:= #[I n]) rfl rfl (by decide) (by decide) (by kernel_rfl) fun afi _ _=>⟨.inr (by repeat(first | exact fun _ h=>h | apply Keeps.cons | apply Keeps.app)),?_⟩
       refine Any.WB (i:=6) (j:=9) (by kernel_rfl) (aU rfl) (aU rfl) an an rfl rfl rfl rfl ?_ ?_
       ·refine QZ (args:=[_,_]) (A:=[]) rfl rfl (Seg.head (A:=[])) (fun h' hE hL=>atW _ h' n _ ps.length (Sl.mk (hL afi _ (.head _)) rfl (Part.all [I n])) Du) (fun vr A' hv=>?_)
        obtain⟨ar,cr,rfl⟩:=hv.dA
        refine⟨.inr (by repeat(first | exact fun _ h=>h | apply Keeps.cons | apply Keeps.app)),?_⟩
        refine xq 7 (eH rfl rfl rfl) rfl ?_ (hS:=(by repeat(first | exact fun _ h=>h | apply Keeps.cons | apply Keeps.app)))
        refine Any.WB (i:=8) (j:=9) (by kernel_rfl) (aU rfl) (aU rfl) an an rfl rfl rfl rfl ?_ ?_
        ·refine abb rfl rfl (fun βx _ _=>⟨.inr (by repeat(first | exact fun _ h=>h | apply Keeps.cons | apply Keeps.app)),?_⟩)
         refine ae (i:=9) rfl an rfl rfl (wJ rfl (fun X5 _ _=>⟨.inr (by repeat(first | exact fun _ h=>h | apply Keeps.cons | apply Keeps.app)),?_⟩))
         refine ae (i:=10) rfl an rfl rfl (eS rfl rfl rfl ?_)
         refine⟨.inl (by kernel_rfl),?_⟩
         refine az ?_
         refine⟨rfl,rfl,βx,X5,_,A',hv,⟨rfl,rfl,rfl,rfl,rfl,rfl,rfl,rfl,rfl,rfl,trivial⟩,?_⟩
         exact .cons (.cons (.app .refl (.skip rfl .refl)))
        ·refine wJ rfl (fun X5 _ _=>⟨.inr (by repeat(first | exact fun _ h=>h | apply Keeps.cons | apply Keeps.app)),?_⟩)
         refine ae (i:=8) rfl an rfl rfl (abb rfl rfl (fun βx _ _=>⟨.inr (by repeat(first | exact fun _ h=>h | apply Keeps.cons | apply Keeps.app)),?_⟩))
         refine ae (i:=10) rfl an rfl rfl (eS rfl rfl rfl ?_)
         refine⟨.inl (by kernel_rfl),?_⟩
         refine az ?_
         refine⟨rfl,rfl,βx,X5,_,A',hv,⟨rfl,rfl,rfl,rfl,rfl,rfl,rfl,rfl,rfl,rfl,trivial⟩,?_⟩
         refine Sb.trans ?_ (.dF (.swap _ _ _))
         exact .cons (.cons (.app .refl (.skip rfl .refl)))
       ·refine wJ rfl (fun X5 _ _=>⟨.inr (by repeat(first | exact fun _ h=>h | apply Keeps.cons | apply Keeps.app)),?_⟩)
        refine ae (i:=6) rfl an rfl rfl (QZ (args:=[_,_]) (A:=[]) rfl rfl (Seg.head (A:=[])) (fun h' hE hL=>atW _ h' n _ ps.length (Sl.mk (hL afi _ (.tail _ (.head _))) rfl (Part.all [I n])) Du) (fun vr A' hv=>?_))
        obtain⟨ar,cr,rfl⟩:=hv.dA
        refine⟨.inr (by repeat(first | exact fun _ h=>h | apply Keeps.cons | apply Keeps.app)),?_⟩
        refine xq 7 (eH rfl rfl rfl) rfl ?_ (hS:=(by repeat(first | exact fun _ h=>h | apply Keeps.cons | apply Keeps.app)))
        refine ae (i:=8) rfl an rfl rfl (abb rfl rfl (fun βx _ _=>⟨.inr (by repeat(first | exact fun _ h=>h | apply Keeps.cons | apply Keeps.app)),?_⟩))
        refine ae (i:=10) rfl an rfl rfl (eS rfl rfl rfl ?_)
        refine⟨.inl (by kernel_rfl),?_⟩
        refine az ?_
        refine⟨rfl,rfl,βx,X5,_,A',hv,⟨rfl,rfl,rfl,rfl,rfl,rfl,rfl,rfl,rfl,rfl,trivial⟩,?_⟩
        refine Sb.trans ?_ (.dF (.cons _ List.perm_middle.symm))
        refine Sb.trans ?_ (.dF (.swap _ _ _))
        exact .cons (.cons (.app .refl (.skip rfl .refl)))
      ·refine wJ rfl (fun X5 _ _=>⟨.inr (by repeat(first | exact fun _ h=>h | apply Keeps.cons | apply Keeps.app)),?_⟩)
       refine ae (i:=3) rfl an rfl rfl (DN (parts:=[⟨_,_⟩]) (cs:= #[I n]) rfl rfl (by decide) (by decide) (by kernel_rfl) fun afi _ _=>⟨.inr (by repeat(first | exact fun _ h=>h | apply Keeps.cons | apply Keeps.app)),?_⟩)
       refine ae (i:=6) rfl an rfl rfl (QZ (args:=[_,_]) (A:=[]) rfl rfl (Seg.head (A:=[])) (fun h' hE hL=>atW _ h' n _ ps.length (Sl.mk (hL afi _ (.head _)) rfl (Part.all [I n])) Du) (fun vr A' hv=>?_))
       obtain⟨ar,cr,rfl⟩:=hv.dA
       refine⟨.inr (by repeat(first | exact fun _ h=>h | apply Keeps.cons | apply Keeps.app)),?_⟩
       refine xq 7 (eH rfl rfl rfl) rfl ?_ (hS:=(by repeat(first | exact fun _ h=>h | apply Keeps.cons | apply Keeps.app)))
       refine ae (i:=8) rfl an rfl rfl (abb rfl rfl (fun βx _ _=>⟨.inr (by repeat(first | exact fun _ h=>h | apply Keeps.cons | apply Keeps.app)),?_⟩))
       refine ae (i:=10) rfl an rfl rfl (eS rfl rfl rfl ?_)
       refine⟨.inl (by kernel_rfl),?_⟩
       refine az ?_
       refine⟨rfl,rfl,βx,X5,_,A',hv,⟨rfl,rfl,rfl,rfl,rfl,rfl,rfl,rfl,rfl,rfl,trivial⟩,?_⟩
       refine Sb.trans ?_ (.dF (.cons _ (.append_left _ (.swap _ _ _))))
       refine Sb.trans ?_ (.dF (.cons _ List.perm_middle.symm))
       refine Sb.trans ?_ (.dF (.swap _ _ _))
       exact .cons (.cons (.app .refl (.skip rfl .refl)))
     rintro e9 ρ9 ds9 F9 ⟨rfl,rfl,βx,X5,vr,S,hS,hE9,akw⟩
     obtain⟨o,hrm,axC⟩:=aau hS
     rw[List.length_replicate]at hrm
     obtain⟨ar,cr,rfl⟩:=hrm.dA
     refine aA (W.env hE9 (W.sb (F':=([(X5,.cells #[bI βx] fM (0,0)),(Yf,.cells #[I n] dL (0,0)),(Uw,.cells #[I (asD ps ls)] dL (0,0)),(mZ,.cells #[I 0] Uf (0,0)),(wC,.cells #[I 0] dL (0,0))]++Iu o (List.replicate ps.length (n:Int)))++((βx,.cells #[.slice a ps.length cap,U8 0,.slice a2 ls.length cap2,.slice ar ps.length cr] xE (0,0))::(yC,.cells #[.slice a ps.length cap,U8 0] bG (0,0))::as3 mk)) (Sb.trans ?_ akw) ?_))
     ·refine Sb.trans ?_ (.cons (.cons (axC.app .refl)))
      refine .dF (agQ fun y=>?_)
      simp only[List.count_append,List.count_cons,List.count_nil];omega
     refine W.seq<|W.region rfl ?_
     refine agX rfl ?_
     refine c0 (fun h' hE hL=>ab7 _ h' βx) (fun v A' hv=>?_)
     obtain⟨b1,rfl,rfl⟩:=hv
     refine pq<|W.block ?_
     refine W.perm (F':=([(X5,.cells #[bI βx] fM (0,0)),(Yf,.cells #[I n] dL (0,0)),(Uw,.cells #[I (asD ps ls)] dL (0,0)),(mZ,.cells #[I 0] Uf (0,0)),(wC,.cells #[I 0] dL (0,0))]++Iu o (List.replicate ps.length (n:Int)))++((b1,.cells #[bI βx] fM (0,0))::(βx,.cells #[.slice a ps.length cap,U8 0,.slice a2 ls.length cap2,.slice ar ps.length cr] xE (0,0))::(yC,.cells #[.slice a ps.length cap,U8 0] bG (0,0))::as3 mk)) (agQ fun y=>by simp only[List.count_append,List.count_cons,List.count_nil];omega) ?_
     refine W.rangeS (Val:=ab6) (xs:=yS ps ls (List.replicate ps.length (n:Int))) (Iu o (List.replicate ps.length (n:Int))) rfl rfl rfl (fun k A=>(∀s∈(yS ps ls (List.replicate ps.length (n:Int))).take k,Ba ls s≠asD ps ls)∧A=[(X5,.cells #[bI βx] fM (0,0)),(Yf,.cells #[I n] dL (0,0)),(Uw,.cells #[I (asD ps ls)] dL (0,0)),(mZ,.cells #[I 0] Uf (0,0)),(wC,.cells #[I 0] dL (0,0))]) (fun _ _ e A=>e= .ret∧ath ps ls n=true∧A=[(mZ,.cells #[I 0] Uf (0,0)),(wC,.cells #[I n] dL (0,0))]) .head ⟨by simp,rfl⟩
      (fun h' hE hL=>VK _ h' ps ls _ _ _ _ o βx b1 _ _ _ _ hok hlo hro hrm (hp.ext hE) (hl.ext hE) (hL βx _ (.tail _ (.head _))) (hL b1 _ (.head _))) ?_ ?_
     ·rintro k p v S A1 hpk ⟨rfl,rfl⟩ ⟨hno,rfl⟩ l1 h1 hE1 hL1 hS1
      have hpm:=List.mem_of_getElem? hpk
      have agk:=hL4 p hpm
      have hsz:(uV (kC p)).size=4:=by rw[qj,agk]
      have hon:ones (uV (kC p)).toList=true:=Qv
      have hlp:Ba ls (kC p)=Ba ls p:=UA (Az hpm)
      refine W.region rfl ?_
      refine Ops.new (fun aht=>?_)
      first | refine Ops.jP ?_ | refine Ops.nY ?_
      refine Ops.nil ?_
      refine⟨rfl,rfl,fun h2 hE2 hL2=>?_⟩
      intro hS2
      have hbx:=hL2 βx _ (.tail _ (.head _))
      refine W.block<|W.seq ?_
      refine W.avQ (n:=5) rfl ?_
      refine xq 0 (iQ rfl rfl) rfl ?_
      first | refine xq 1 (Bf rfl rfl) rfl ?_ | refine xq 1 (zi rfl rfl) rfl ?_
      refine xq 3 (iQ rfl rfl) rfl ?_
      refine Va (i:=2) (fun h' hE hL=>VL _ h' ls (kC p) _ _ _ βx _ _ hlo agk (hl.ext (hE2.trans hE)) (hE.1 _ _ hbx)) ?_ (hS:=.inr (Keeps.one (.head _) (Keeps.one (.tail _ (.head _)) (Keeps.one (.tail _ (.tail _ (.head _))) (Keeps.one (.tail _ (.tail _ (.tail _ (.head _)))) Keeps.nil)))))
      rw[hlp]
      refine xq 4 (nD rfl rfl rfl) rfl ?_
      refine az ?_
      refine aA ?_
      refine W.bC rfl (fun c65=>?_) (fun c65=>?_)
      ·refine W.seq<|W.region rfl ?_
       refine agX rfl ?_
       refine Ops.yG ?_
       refine Ops.yG ?_
       refine pq<|W.ret<|cZ ?_
       have hc:ath ps ls n=true:=by rw[ath,List.any_eq_true];exact⟨p,hpm,decide_eq_true (by omega)⟩
       exact⟨rfl,.inr ⟨rfl,_,⟨rfl,hc,rfl⟩,.skip rfl (.skip rfl (.skip rfl (.skip rfl .refl)))⟩⟩
      ·refine W.skip<|dI ?_
       refine⟨rfl,.inl ⟨rfl,_,⟨fun s hs=>?_,rfl⟩,.skip rfl .refl⟩⟩
       rw[List.take_add_one,hpk]at hs
       rcases List.mem_append.1 hs with hs | hs
       ·exact hno s hs
       ·simp only[Option.toList_some,List.mem_singleton]at hs
        rw[hs];omega
     ·rintro e2 A2 (⟨rfl,hno,rfl⟩ | ⟨k,p,v,S2,B,hpk,⟨rfl,rfl⟩,⟨rfl,hcan,rfl⟩,rfl⟩) d
      ·refine dI<|dI<|aA<|W.region rfl ?_
       refine ag1 rfl ?_
       refine qm rfl rfl rfl<|pq ?_
       have hc:ath ps ls n=false:=by
        rw[←Bool.not_eq_true,ath,List.any_eq_true]
        rintro⟨s,h2,h3⟩
        rw[List.take_length]at hno
        exact hno s h2 (of_decide_eq_true h3)
       refine⟨(n+1,d::mk),rfl,⟨by dsimp only;omega,fun j hj=>?_⟩,by dsimp only;omega,⟨lk rfl (show I _=I _ by congr 1),rfl,rfl,rfl,rfl,rfl,rfl,rfl,trivial⟩,?_⟩
       ·rcases Nat.lt_or_ge j n with h | h
        ·exact hnj j h
        ·obtain rfl:j=n:=by omega
         exact hc
       ·dsimp only
        show Sb ([(Uw,.cells #[I (asD ps ls)] dL (0,0)),(yC,.cells #[.slice a ps.length cap,U8 0] bG (0,0)),(mZ,.cells #[I 0] Uf (0,0)),(wC,.cells #[I 0] dL (0,0))]++((d,.deferred (some []))::as3 mk)) _
        have hrS:Shut (Iu o (List.replicate ps.length (n:Int))):=by unfold Iu;split;exact .nil;exact .cons rfl .nil
        refine Sb.trans (B:=(d,.deferred (some []))::(([(Uw,.cells #[I (asD ps ls)] dL (0,0)),(mZ,.cells #[I 0] Uf (0,0)),(wC,.cells #[I 0] dL (0,0))]++[])++((yC,.cells #[.slice a ps.length cap,U8 0] bG (0,0))::as3 mk))) (.dF (agQ fun y=>by simp only[List.count_append,List.count_cons,List.count_nil];omega)) ?_
        exact .cons (.app (.app (.skip rfl (.skip rfl .refl)) (.nil hrS)) (.skip rfl (.skip rfl .refl)))
      ·refine cZ<|cZ<|aY<|aY<|cZ<|aY ?_
       first
       | exact absurd (auk Du hlo.lot) (by rw[hnj _ (by omega)];simp)
       | (
         refine lvm (hl:=At.head) ?_
         have e9:∀(X M:ah) (x0 x1 x2 x3:Nat×Obj),x0::(X++(x1::x2::x3::M))=(x0::(X++[x1,x2,x3]))++M:=fun X M x0 x1 x2 x3=>by simp
         rw[e9]
         refine avV ?_
         simp only[List.append_assoc,List.cons_append,List.nil_append,List.append_nil]
         rw[e,aum Du hlo.lot hcan hnj]
         exact QJ (hv:=rSc (rSc zJ)) ⟨rfl,.cons rfl (.cons rfl (.cons rfl ((show Shut (Iu o (List.replicate ps.length (n:Int))) by unfold Iu;split;exact .nil;exact .cons rfl .nil).app (.cons rfl (.cons rfl (.cons rfl (att _)))))))⟩)
    ·refine W.exit<|bP<|bP<|gG<|aA<|W.seq<|W.region rfl ?_
     refine agX rfl ?_
     refine Ops.yG ?_
     refine Ops.yG ?_
     refine pq<|W.ret ?_
     first
     | exact absurd (auk Du hlo.lot) (by rw[hnj _ (by omega)];simp)
     | (
       refine lvm (hl:=At.head) ?_
       have e9:∀(X M:ah) (x0 x1 x2 x3:Nat×Obj),x0::(X++(x1::x2::x3::M))=(x0::(X++[x1,x2,x3]))++M:=fun X M x0 x1 x2 x3=>by simp
       rw[e9]
       refine avV ?_
       simp only[List.append_assoc,List.cons_append,List.nil_append,List.append_nil]
       rw[e,aum Du hlo.lot hcan hnj]
       exact QJ (hv:=rSc (rSc zJ)) ⟨rfl,.cons rfl (.cons rfl (.cons rfl ((show Shut (Iu o (List.replicate ps.length (n:Int))) by unfold Iu;split;exact .nil;exact .cons rfl .nil).app (.cons rfl (.cons rfl (.cons rfl (att _)))))))⟩)
end Go.aS

/- SyrupRings. Conditions: none; over the given program. -/
namespace Go.aS
set_option maxRecDepth 100000
set_option maxHeartbeats 4000000
end Go.aS

/- SyrupShares. Conditions: none; over the given program. -/
namespace Go.aS
set_option maxRecDepth 100000
set_option maxHeartbeats 4000000
theorem auZ{ps:List Pn}{ls:List Lt}{rs:List Int}(h:ls.length≤20):(AA ps ls rs).1.length≤100000:=by
 rw[AA]
 split
 ·simp
 ·show((oZ ps ls rs).2.headD []).length≤100000
  cases hb:(oZ ps ls rs).2 with
  | nil=>simp
  | cons x r=>
   have:=Az (SN (ps:=ps) (ls:=ls) (rs:=rs) (s:=x) (by rw[hb];exact .head _))
   show x.length≤_;omega
theorem aua(main:Side)(hS:∀S,main.ok S→∃Fin,S=Mo prog Fin)(hmb:main.b=true)(h:Hp)(ps:List Pn)(vp:Value)(p:Pn)(lots:List Lt)(vl:Value)(aur:List Int)(vr:Value)(lot:Int)(nums:List Int)(lv:Value)(Eg:TypeId)(zg:Nat×Nat)(hf:Sl h Pn.row vp ps)(hq:Sl h Lt.row vl lots)(hr:Sl h fH vr aur)(hl:Sl h fH lv nums)(hg:h 0=some (.cells #[Ur qM] Eg zg))(z0:h.z 0):QE prog main asu #[vp,p.val,vl,vr,I lot,lv] h (.bool true):=by
 obtain⟨a,cap,rfl⟩:=hf.dA
 obtain⟨a2,cap2,rfl⟩:=hq.dA
 obtain⟨a3,cap3,rfl⟩:=hr.dA
 refine QE.aG asN rfl (by show 6≤196;decide) [(0,.slice a ps.length cap),(1,p.val),(2,.slice a2 lots.length cap2),(3,.slice a3 aur.length cap3),(4,I lot),(5,lv)] ⟨rfl,rfl,rfl,rfl,rfl,rfl,trivial⟩ ?_
 refine W.seq<|W.region rfl ?_
 refine Ops.box (cs:= #[I p.lo,I p.hi,I p.sh]) (fun Vo=>?_)
 refine agb rfl rfl rfl<|pq<|W.seq<|W.seq<|W.region rfl<|qm rfl rfl rfl ?_
 refine agW (dM rfl rfl) rfl ?_
 refine agW (rC rfl rfl rfl) rfl ?_
 refine qm rfl rfl rfl ?_
 refine Ops.ask (fun ae5=>?_) (fun ae5=>?_)
 ·refine Ops.no ?_
  refine Ops.no ?_
  refine Ops.no ?_
  refine agW (dG rfl rfl rfl) rfl ?_
  refine qm rfl rfl rfl ?_
  refine Ops.no ?_
  refine Ops.no ?_
  refine Ops.no ?_
  refine agW (dG rfl rfl rfl) rfl ?_
  refine pq ?_
  refine W.dW ?_
  refine W.seq<|W.region rfl ?_
  refine cp (fun h' hE hL=>VW _ h' hS hmb _ _ (hE.1 _ _ (by first | exact hgz | exact hg))) ?_
  refine agb rfl rfl rfl<|pq<|W.ret<|aY ?_
  exact lvq rfl
 ·refine oq (aN rfl rfl) rfl (ak rfl rfl rfl) rfl rfl ?_
  refine oq (dM rfl rfl) rfl (ak rfl rfl rfl) rfl rfl ?_
  refine oq (rC rfl rfl rfl) rfl (ak rfl rfl rfl) rfl rfl ?_
  refine agW (iH rfl rfl rfl) rfl ?_
  refine qm rfl rfl rfl ?_
  refine Ops.ask (fun axD=>?_) (fun axD=>?_)
  ·refine Ops.no ?_
   refine Ops.no ?_
   refine Ops.no ?_
   refine agW (dG rfl rfl rfl) rfl ?_
   refine pq ?_
   refine W.dW ?_
   refine W.seq<|W.region rfl ?_
   refine cp (fun h' hE hL=>VW _ h' hS hmb _ _ (hE.1 _ _ (by first | exact hgz | exact hg))) ?_
   refine agb rfl rfl rfl<|pq<|W.ret<|aY ?_
   exact lvq rfl
  ·refine oq (aN rfl rfl) rfl (ak rfl rfl rfl) rfl rfl ?_
   refine oq (dM rfl rfl) rfl (ak rfl rfl rfl) rfl rfl ?_
   refine oq (rC rfl rfl rfl) rfl (ak rfl rfl rfl) rfl rfl ?_
   refine agW (iH rfl rfl rfl) rfl ?_
   refine pq ?_
   refine W.bC rfl (fun c44=>?_) (fun c44=>?_)
   ·refine W.seq<|W.region rfl ?_
    refine cp (fun h' hE hL=>VW _ h' hS hmb _ _ (hE.1 _ _ (by first | exact hgz | exact hg))) ?_
    refine agb rfl rfl rfl<|pq<|W.ret<|aY ?_
    exact lvq rfl
   ·have arF:ps.length≤20:=by omega
    have ar_:lots.length≤20:=by omega
    have axE:aur.length≤20:=by omega
    refine W.skip<|aA<|W.seq<|W.region rfl<|qm rfl rfl rfl ?_
    refine c0 (fun h' hE hL=>VQ _ h' nums lv (hl.ext hE)) (fun v A' hv=>?_)
    obtain⟨b,s0,rfl,rfl⟩:=hv
    refine agb rfl rfl rfl<|pq<|W.seq<|W.region rfl<|qm rfl rfl rfl ?_
    refine ag2 rfl ?_
    refine qm rfl rfl rfl ?_
    refine cg (A:=[(b,wF lv 0 s0)]) .head (fun h' hE hL=>apA _ h' nums lv b 0 s0 ps _ p (hl.ext hE) (by omega) (hf.ext hE)) (fun v A' hv=>?_)
    obtain⟨sv0,vs,ls,S,T,k1,s1,hs0,hT,hO,⟨hvl,hll⟩,hk1,hsb⟩:=hv
    obtain⟨at4,ct4,rfl⟩:=hT.dA
    refine Ops.sb (F':=T++(S++[(b,wF lv k1 s1)])) (Sb.trans (.dF (agQ fun y=>by simp only[List.count_append,List.count_cons,List.count_nil];omega)) (hsb.right (.cons rfl .nil))) ?_
    refine agb rfl rfl rfl<|pq ?_
    refine JU hT (fun hz hEz ap0 _=>?_)
    refine agG hO (fun hz2 agM hall=>?_)
    replace ap0:=ap0.ext agM
    have hEh:=hEz.trans agM
    have hgz:=hEh.1 _ _ hg
    have h4:(sv0::vs).length=4:=by simp[hvl]
    have hcase:∀i,i<4→∃(sv:Sv) (l:List Pn),(sv0::vs)[i]? =some sv∧Sl hz2 Pn.row sv.val l∧l.length≤20:=by
     intro i hi
     rcases i with _ | i
     ·exact⟨sv0,ps,rfl,by rw[←hs0];exact hf.ext hEh,arF⟩
     ·obtain⟨sv,hsv,-⟩:=has (show i<vs.length by omega)
      obtain⟨l,hl',-⟩:=has (show i<ls.length by rw[←hO.len];omega)
      exact⟨sv,l,by simpa using hsv,(hall i sv l hsv hl').1,by have:=hll l (List.mem_of_getElem? hl');omega⟩
    rw[h4]at ap0⊢
    refine W.seq<|W.seq<|W.region rfl<|agb rfl rfl rfl<|pq<|W.block ?_
    refine W.loop (σ:=Nat×Nat×Int) (fun t=>t.1≤4∧t.2.1≤400+201*t.1) (fun t=>[(15,I t.1),(14,.slice at4 4 ct4),(13,bI b),(2,.slice a2 lots.length cap2),(3,.slice a3 aur.length cap3),(4,I lot)]) (fun t=>[(b,wF lv t.2.1 t.2.2)]) (fun t=>4-t.1) (0,k1,s1) ⟨Nat.zero_le _,by dsimp only;omega⟩ ⟨rfl,rfl,rfl,rfl,rfl,rfl,trivial⟩ .refl ?_
    rintro⟨i,k,s⟩ ⟨hi,hk⟩
    dsimp only at*
    refine W.seq<|W.seq<|W.region rfl<|qm rfl rfl rfl<|qm rfl rfl rfl ?_
    refine agW (dM rfl rfl) rfl ?_
    refine agW (fO rfl rfl rfl) rfl ?_
    refine pq ?_
    refine W.bC rfl (fun c55=>?_) (fun c55=>?_)
    ·have hi4:i<4:=by omega
     obtain⟨sv,l,hsv,apH,ax9⟩:=hcase i hi4
     obtain⟨bb,off,c,E,fz,hv,hb,-,-,hzz⟩:=ap0.at hsv
     cases hv
     have hx0:c[off+i*1]? =some (.slice sv.a sv.n sv.cap):=hzz 0 (by decide)
     have axG:sv.n=l.length:=by
      obtain⟨a',c',h1⟩:=apH.dA
      exact(Value.slice.inj h1).2.1
     refine W.skip<|aA<|W.seq<|W.block<|W.seq ?_
     refine W.DR [] (n:=14) rfl ?_
     refine xq 0 (aN rfl rfl) rfl ?_
     refine xq 2 (aN rfl rfl) rfl ?_
     refine xq 3 (aN rfl rfl) rfl ?_
     refine xq 4 (aN rfl rfl) rfl ?_
     first | refine xq 5 (G_ rfl rfl rfl) rfl ?_ | refine xq 5 (o_ rfl rfl rfl) rfl ?_
     refine xq 6 (iQ rfl rfl) rfl ?_
     refine xq 7 (dM rfl rfl) rfl ?_
     refine xq 9 (aN rfl rfl) rfl ?_
     refine ae (i:=1) rfl an rfl rfl (QZ (args:=[_,_]) (A:=[(b,wF lv k s)]) rfl rfl .head (fun h' hE hL=>am6 _ h' nums lv b k s 4 (hl.ext (hEh.trans hE)) (by omega) (by omega)) (fun v A' hv=>?_))
     obtain⟨lq,Sq,k2,s2,hOq,⟨hlq,-⟩,hk2,Oh⟩:=hv
     refine⟨.inr Keeps.nil,Any.sb (F':=(b,wF lv k2 s2)::Sq) (by simpa using Oh) ?_⟩
     rw[axG]
     refine ae (i:=8) rfl an rfl rfl (QZ (args:=[_,_]) (A:=[(b,wF lv k2 s2)]) rfl rfl .head (fun h' hE hL=>amY _ h' nums lv b k2 s2 l.length (hl.ext (hEh.trans hE)) (by omega) (by omega)) (fun v3 A3 hv=>?_))
     obtain⟨rq,Sr,k3,s3,hOr,⟨hrl,-⟩,hk3,afy⟩:=hv
     refine⟨.inr Keeps.nil,Any.sb (F':=(b,wF lv k3 s3)::(Sr++Sq)) (by simpa using afy.app (.refl (A:=Sq))) ?_⟩
     refine ae (i:=10) rfl an rfl rfl (QZ (args:=[_,_]) (A:=[(b,wF lv k3 s3)]) rfl rfl .head (fun h' hE hL=>UC _ h' nums lv b k3 s3 3 (hl.ext (hEh.trans hE)) (by omega) (by omega)) (fun v4 A4 hv=>?_))
     obtain⟨at0,s4,rfl,-,af4⟩:=hv
     refine⟨.inr Keeps.nil,Any.sb (F':=(b,wF lv (k3+1) s4)::(Sr++Sq)) (by simpa using af4.app (.refl (A:=Sr++Sq))) ?_⟩
     refine xq 11 (jS rfl rfl) rfl ?_
     refine xq 12 (jS rfl rfl) rfl ?_
     refine xq 13 (jS rfl rfl) rfl ?_
     refine az ?_
     refine aA ?_
     refine W.sb (F':=Sq++(Sr++[(b,wF lv (k3+1) s4)])) (.dF (agQ fun y=>by simp only[List.count_append,List.count_cons,List.count_nil];omega)) ?_
     refine JU hOq (fun hz3 hE3 aub _=>?_)
     refine JU hOr (fun hz4 hE4 amX _=>?_)
     replace aub:=aub.ext hE4
     replace apH:=apH.ext (hE3.trans hE4)
     replace hb:=hE4.1 _ _ (hE3.1 _ _ hb)
     have hq4:=hq.ext (hEh.trans (hE3.trans hE4))
     have hr4:=hr.ext (hEh.trans (hE3.trans hE4))
     obtain⟨aq,cq,rfl⟩:=aub.dA
     obtain⟨ar,cr,rfl⟩:=amX.dA
     refine W.seq ?_
     refine W.aiB (σ:=Value×List Lt×Int) (fun t=>Sl hz4 Lt.row t.1 t.2.1∧t.2.1.length≤20) (fun t=>[(16,t.1),(18,I t.2.2),(17,.slice ar rq.length cr),(15,I i),(14,.slice (some ⟨bb,off,none⟩) 4 ct4),(13,bI b),(2,.slice a2 lots.length cap2),(3,.slice a3 aur.length cap3),(4,I lot)]) (fun _=>[(b,wF lv (k3+1) s4)]) ?_ ?_
     ·refine W.seq<|W.region rfl<|qm rfl rfl rfl ?_
      refine agW (nD rfl rfl rfl) rfl ?_
      refine qm rfl rfl rfl ?_
      refine Ops.ask (fun axH=>?_) (fun axH=>?_)
      ·refine Ops.no ?_
       refine Ops.no ?_
       refine agW (dG rfl rfl rfl) rfl ?_
       refine pq ?_
       refine W.dW ?_
       refine W.region rfl<|qm rfl rfl rfl<|qm rfl rfl rfl<|agb rfl rfl rfl<|agb rfl rfl rfl<|Ops.nil ?_
       exact⟨rfl,rfl,(_,lots,lot),⟨hq4,ar_⟩,⟨rfl,rfl,rfl,rfl,rfl,rfl,rfl,rfl,rfl,trivial⟩,.refl⟩
      ·refine oq (aN rfl rfl) rfl (ak rfl rfl rfl) rfl rfl ?_
       refine oq (nD rfl rfl rfl) rfl (ak rfl rfl rfl) rfl rfl ?_
       refine agW (iH rfl rfl rfl) rfl ?_
       refine pq ?_
       refine W.bC rfl (fun c74=>?_) (fun c74=>?_)
       ·refine W.region rfl<|qm rfl rfl rfl<|qm rfl rfl rfl<|agb rfl rfl rfl<|agb rfl rfl rfl<|Ops.nil ?_
        exact⟨rfl,rfl,(_,lots,lot),⟨hq4,ar_⟩,⟨rfl,rfl,rfl,rfl,rfl,rfl,rfl,rfl,rfl,trivial⟩,.refl⟩
       ·refine W.skip ?_
        exact⟨rfl,rfl,(_,lq,at0),⟨aub,by dsimp only;omega⟩,⟨rfl,rfl,rfl,rfl,rfl,rfl,rfl,rfl,rfl,trivial⟩,.refl⟩
     ·clear aub hlq
      rintro⟨vq,lq,at0⟩ ⟨aub,awD⟩
      dsimp only at*
      refine W.seq ?_
      refine W.aiB (σ:=Value×List Int) (fun t=>Sl hz4 fH t.1 t.2∧t.2.length≤20) (fun t=>[(17,t.1),(16,vq),(18,I at0),(15,I i),(14,.slice (some ⟨bb,off,none⟩) 4 ct4),(13,bI b),(2,.slice a2 lots.length cap2),(3,.slice a3 aur.length cap3),(4,I lot)]) (fun _=>[(b,wF lv (k3+1) s4)]) ?_ ?_
      ·refine W.seq<|W.region rfl<|qm rfl rfl rfl ?_
       refine agW (nD rfl rfl rfl) rfl ?_
       refine pq ?_
       refine W.bC rfl (fun c78=>?_) (fun c78=>?_)
       ·refine W.region rfl<|qm rfl rfl rfl<|agb rfl rfl rfl<|Ops.nil ?_
        exact⟨rfl,rfl,(_,aur),⟨hr4,axE⟩,⟨rfl,rfl,rfl,rfl,rfl,rfl,rfl,rfl,rfl,trivial⟩,.refl⟩
       ·refine W.skip ?_
        exact⟨rfl,rfl,(_,rq),⟨amX,by dsimp only;omega⟩,⟨rfl,rfl,rfl,rfl,rfl,rfl,rfl,rfl,rfl,trivial⟩,.refl⟩
      ·clear amX hrl
       rintro⟨vq2,rq⟩ ⟨amX,ax_⟩
       dsimp only at*
       obtain⟨aq,cq,rfl⟩:=aub.dA
       obtain⟨ar,cr,rfl⟩:=amX.dA
       refine W.seq<|W.region rfl<|qm rfl rfl rfl<|qm rfl rfl rfl ?_
       refine ag3 rfl ?_
       refine agX rfl ?_
       refine c0 (fun h' hE hL=>aij _ h' l _ (apH.ext hE) (by omega)) (fun v A' hv=>?_)
       obtain⟨Sx,hOx,axI⟩:=hv
       refine Ops.sb (F':=Sx++[(b,wF lv (k3+1) s4)]) (axI.app .refl) ?_
       obtain⟨ax,cx,rfl⟩:=hOx.dA
       refine qm rfl rfl rfl ?_
       refine c0 (fun h' hE hL=>auW _ h' lq _ (aub.ext hE) (by omega)) (fun v A' hv=>?_)
       obtain⟨Sy,hOy,axJ⟩:=hv
       refine Ops.sb (F':=Sy++(Sx++[(b,wF lv (k3+1) s4)])) (axJ.app .refl) ?_
       obtain⟨ay,cy,rfl⟩:=hOy.dA
       refine qm rfl rfl rfl ?_
       refine c0 (fun h' hE hL=>af0 _ h' rq _ (amX.ext hE) (by omega)) (fun v A' hv=>?_)
       obtain⟨Sz,hOz,hsbz⟩:=hv
       refine Ops.sb (F':=Sz++(Sy++(Sx++[(b,wF lv (k3+1) s4)]))) (hsbz.app .refl) ?_
       obtain⟨az,cz,rfl⟩:=hOz.dA
       refine agb rfl rfl rfl<|agb rfl rfl rfl<|agb rfl rfl rfl<|pq<|W.seq<|W.region rfl<|qm rfl rfl rfl<|qm rfl rfl rfl<|qm rfl rfl rfl ?_
       refine c0 (fun h' hE hL=>YK _ h' l lq rq _ _ _ (hOx.sl fun b' o hb=>hL b' o (by simp[hb])) (hOy.sl fun b' o hb=>hL b' o (by simp[hb])) (hOz.sl fun b' o hb=>hL b' o (by simp[hb]))) (fun v A' hv=>?_)
       obtain⟨t1,S1,rfl,hO1,Ym⟩:=hv
       refine Ops.sb (F':=S1++(Sz++(Sy++(Sx++[(b,wF lv (k3+1) s4)])))) (Ym.app .refl) ?_
       refine qm rfl rfl rfl<|oq (bD rfl rfl rfl) rfl wn rfl rfl<|oq (bD rfl rfl rfl) rfl wn rfl rfl<|oq (bD rfl rfl rfl) rfl wn rfl rfl<|agb rfl rfl rfl<|agb rfl rfl rfl<|agb rfl rfl rfl<|pq<|W.seq ?_
       refine W.region rfl<|qm rfl rfl rfl<|qm rfl rfl rfl ?_
       refine ag3 rfl ?_
       refine agX rfl ?_
       refine qm rfl rfl rfl<|qm rfl rfl rfl ?_
       refine c0 (fun h' hE hL=>au9 _ h' l lq rq _ _ _ (apH.ext hE) (aub.ext hE) (amX.ext hE)) (fun v A' hv=>?_)
       obtain⟨t2,S2,rfl,hO2,awF⟩:=hv
       refine Ops.sb (F':=S2++(S1++(Sz++(Sy++(Sx++[(b,wF lv (k3+1) s4)]))))) (awF.app .refl) ?_
       refine qm rfl rfl rfl<|oq (bD rfl rfl rfl) rfl wn rfl rfl<|oq (bD rfl rfl rfl) rfl wn rfl rfl<|oq (bD rfl rfl rfl) rfl wn rfl rfl<|agb rfl rfl rfl<|agb rfl rfl rfl<|agb rfl rfl rfl<|pq<|W.seq ?_
       refine W.region rfl<|qm rfl rfl rfl<|qm rfl rfl rfl<|qm rfl rfl rfl<|qm rfl rfl rfl ?_
       refine cp (fun h' hE hL=>amZ _ h' l lq rq at0 _ _ _ (hOx.sl fun b' o hb=>hL b' o (by simp[hb])) (hOy.sl fun b' o hb=>hL b' o (by simp[hb])) (hOz.sl fun b' o hb=>hL b' o (by simp[hb]))) ?_
       refine qm rfl rfl rfl<|oq (bD rfl rfl rfl) rfl wn rfl rfl<|oq (bD rfl rfl rfl) rfl wn rfl rfl<|agb rfl rfl rfl<|agb rfl rfl rfl<|pq<|W.seq<|W.region rfl<|qm rfl rfl rfl ?_
       refine qm rfl rfl rfl ?_
       refine ag3 rfl ?_
       refine agX rfl ?_
       refine qm rfl rfl rfl<|qm rfl rfl rfl<|qm rfl rfl rfl ?_
       refine cp (fun h' hE hL=>auQ _ h' l lq rq at0 _ _ _ (apH.ext hE) (aub.ext hE) (amX.ext hE)) ?_
       refine qm rfl rfl rfl<|oq (bD rfl rfl rfl) rfl wn rfl rfl<|oq (bD rfl rfl rfl) rfl wn rfl rfl<|agb rfl rfl rfl<|agb rfl rfl rfl<|pq<|W.seq<|W.seq<|W.region rfl ?_
       refine qm rfl rfl rfl<|qm rfl rfl rfl ?_
       refine KU (nG rfl rfl rfl) (congrArg Value.bool (show decide ((AA l lq rq).2.1≠(AA l lq rq).2.1)=false by simp)) rfl wn rfl rfl ?_
       refine qm rfl rfl rfl ?_
       refine oq (aN rfl rfl) rfl (ak rfl rfl rfl) rfl rfl ?_
       refine oq (aN rfl rfl) rfl (ak rfl rfl rfl) rfl rfl ?_
       refine KU (nG rfl rfl rfl) (congrArg Value.bool (show decide ((AA l lq rq).2.2≠(AA l lq rq).2.2)=false by simp)) rfl (ak rfl rfl rfl) rfl rfl ?_
       refine agW (iH rfl rfl rfl) rfl ?_
       refine qm rfl rfl rfl ?_
       refine oq (aN rfl rfl) rfl (ak rfl rfl rfl) rfl rfl ?_
       refine oq (aN rfl rfl) rfl (ak rfl rfl rfl) rfl rfl ?_
       refine KU (nG rfl rfl rfl) (congrArg Value.bool (show decide ((amz l lq rq at0).1≠(amz l lq rq at0).1)=false by simp)) rfl (ak rfl rfl rfl) rfl rfl ?_
       refine agW (iH rfl rfl rfl) rfl ?_
       refine qm rfl rfl rfl ?_
       refine oq (aN rfl rfl) rfl (ak rfl rfl rfl) rfl rfl ?_
       refine oq (aN rfl rfl) rfl (ak rfl rfl rfl) rfl rfl ?_
       refine KU (nG rfl rfl rfl) (congrArg Value.bool (show decide ((amz l lq rq at0).2≠(amz l lq rq at0).2)=false by simp)) rfl (ak rfl rfl rfl) rfl rfl ?_
       refine agW (iH rfl rfl rfl) rfl ?_
       refine qm rfl rfl rfl ?_
       refine oq (aN rfl rfl) rfl (ak rfl rfl rfl) rfl rfl ?_
       refine oq (aN rfl rfl) rfl (ak rfl rfl rfl) rfl rfl ?_
       refine cp (g:=some _) (fun h' hE hL=>VU _ h' _ _ _ _ (hO1.sl fun b' o hb=>hL b' o (by simp[hb])) (hO2.sl fun b' o hb=>hL b' o (by simp[hb])) (auZ awD)) ?_
       refine KU (xU rfl rfl) (congrArg Value.bool (show(!decide ((AA l lq rq).1=(AA l lq rq).1))=false by simp)) rfl (ak rfl rfl rfl) rfl rfl ?_
       refine agW (iH rfl rfl rfl) rfl ?_
       refine pq ?_
       refine W.bZ ?_
       refine W.skip<|aA<|W.seq<|W.region rfl<|qm rfl rfl rfl<|qm rfl rfl rfl ?_
       refine cp (fun h' hE hL=>avw _ h' l lq _ _ (hOx.sl fun b' o hb=>hL b' o (by simp[hb])) (hOy.sl fun b' o hb=>hL b' o (by simp[hb]))) ?_
       refine qm rfl rfl rfl<|oq (bD rfl rfl rfl) rfl wn rfl rfl<|oq (bD rfl rfl rfl) rfl wn rfl rfl<|agb rfl rfl rfl<|agb rfl rfl rfl<|pq<|W.seq<|W.region rfl<|qm rfl rfl rfl ?_
       refine qm rfl rfl rfl ?_
       refine ag3 rfl ?_
       refine agX rfl ?_
       refine qm rfl rfl rfl ?_
       refine cp (fun h' hE hL=>avk _ h' l lq _ _ (apH.ext hE) (aub.ext hE)) ?_
       refine qm rfl rfl rfl<|oq (bD rfl rfl rfl) rfl wn rfl rfl<|oq (bD rfl rfl rfl) rfl wn rfl rfl<|agb rfl rfl rfl<|agb rfl rfl rfl<|pq<|W.seq<|W.region rfl<|qm rfl rfl rfl ?_
       refine qm rfl rfl rfl ?_
       refine KU (nG rfl rfl rfl) (congrArg Value.bool (show decide ((asO l lq).1≠(asO l lq).1)=false by simp)) rfl wn rfl rfl ?_
       refine qm rfl rfl rfl ?_
       refine oq (aN rfl rfl) rfl (ak rfl rfl rfl) rfl rfl ?_
       refine oq (aN rfl rfl) rfl (ak rfl rfl rfl) rfl rfl ?_
       refine KU (nG rfl rfl rfl) (congrArg Value.bool (show decide ((asO l lq).2≠(asO l lq).2)=false by simp)) rfl (ak rfl rfl rfl) rfl rfl ?_
       refine agW (iH rfl rfl rfl) rfl ?_
       refine qm rfl rfl rfl ?_
       refine oq (aN rfl rfl) rfl (ak rfl rfl rfl) rfl rfl ?_
       refine oq (aN rfl rfl) rfl (ak rfl rfl rfl) rfl rfl ?_
       refine oq (aN rfl rfl) rfl (ak rfl rfl rfl) rfl rfl ?_
       first | refine oq (G_ rfl rfl rfl) rfl (ak rfl rfl rfl) rfl rfl ?_ | refine oq (o_ rfl rfl rfl) rfl (ak rfl rfl rfl) rfl rfl ?_
       refine oq (iQ rfl rfl) rfl (ak rfl rfl rfl) rfl rfl ?_
       refine cp (g:=some _) (fun h' hE hL=>apE _ h' l l _ _ (hOx.sl fun b' o hb=>hL b' o (by simp[hb])) (apH.ext hE) (by omega)) ?_
       refine KU (xU rfl rfl) (congrArg Value.bool (show(!decide (l=l))=false by simp)) rfl (ak rfl rfl rfl) rfl rfl ?_
       refine agW (iH rfl rfl rfl) rfl ?_
       refine qm rfl rfl rfl ?_
       refine oq (aN rfl rfl) rfl (ak rfl rfl rfl) rfl rfl ?_
       refine oq (aN rfl rfl) rfl (ak rfl rfl rfl) rfl rfl ?_
       refine cp (g:=some _) (fun h' hE hL=>au3 _ h' lq lq _ _ (hOy.sl fun b' o hb=>hL b' o (by simp[hb])) (aub.ext hE) (by omega)) ?_
       refine KU (xU rfl rfl) (congrArg Value.bool (show(!decide (lq=lq))=false by simp)) rfl (ak rfl rfl rfl) rfl rfl ?_
       refine agW (iH rfl rfl rfl) rfl ?_
       refine qm rfl rfl rfl ?_
       refine oq (aN rfl rfl) rfl (ak rfl rfl rfl) rfl rfl ?_
       refine oq (aN rfl rfl) rfl (ak rfl rfl rfl) rfl rfl ?_
       refine cp (g:=some _) (fun h' hE hL=>VU _ h' rq rq _ _ (hOz.sl fun b' o hb=>hL b' o (by simp[hb])) (amX.ext hE) (by omega)) ?_
       refine KU (xU rfl rfl) (congrArg Value.bool (show(!decide (rq=rq))=false by simp)) rfl (ak rfl rfl rfl) rfl rfl ?_
       refine agW (iH rfl rfl rfl) rfl ?_
       refine pq ?_
       refine W.bZ ?_
       refine W.skip<|dI<|aA<|W.region rfl<|qm rfl rfl rfl ?_
       refine ag1 rfl ?_
       refine agb rfl rfl rfl<|pq ?_
       exact⟨rfl,(i+1,k3+1,s4),⟨by dsimp only;omega,by dsimp only;omega⟩,by dsimp only;omega,⟨rfl,rfl,rfl,rfl,rfl,rfl,trivial⟩,.left (.left (.left (.left (.left .refl hOx.shut) hOy.shut) hOz.shut) hO1.shut) hO2.shut⟩
    ·refine W.exit<|bP<|bP<|gG<|aA<|W.seq<|W.region rfl ?_
     refine cp (fun h' hE hL=>VW _ h' hS hmb _ _ (hE.1 _ _ (by first | exact hgz | exact hg))) ?_
     refine agb rfl rfl rfl<|pq<|W.ret ?_
     exact lvq rfl
end Go.aS

/- Slices of structs of numbers, as they are handed in. Conditions: none; over any program. -/
namespace Go.aS
def aoW(P:Program)(t:TypeId)(w:Nat):Prop:=P.cellsOf t=w∧∀{H:Type} {enc:TypeId×Value→H} {W:World} {base:Nat} {spare:Nat→Bool} {held:Bool} {fuel:Nat} {cs:List Value} {x:DataW H×List MemPlace},DataW.trod enc P W base spare held fuel t cs=some x→∃ns:List Int,cs=ns.map nI∧ns.length=w
theorem aoW.int{P:Program}{t:TypeId}(ht:P.underlying t=some (.int .i64))(hc:P.cellsOf t=1):aoW P t 1:=⟨hc,fun h=>by
 obtain⟨n,rfl,-,-⟩:=DataW.trod_int ht h
 exact⟨[n],rfl,rfl⟩⟩
def aqg(P:Program):List Field→List Nat→Nat→Prop
 | [],[],_=>True
 | f::fs,w::ws,o=>f.offset=o∧aoW P f.type w∧aqg P fs ws (o+w)
 | _,_,_=>False
theorem apx{P:Program}{H:Type}{enc:TypeId×Value→H}{W:World}{base:Nat}{spare:Nat→Bool}{held:Bool}{n:Nat}{cs:List Value}:∀(fs:List Field) (ws:List Nat) (o:Nat),aqg P fs ws o→(∀f∈fs,∃x,DataW.trod enc P W base spare held n f.type ((cs.drop f.offset).take (P.cellsOf f.type))=some x)→o+ws.sum=cs.length→∃ns:List Int,cs.drop o=ns.map nI∧ns.length=ws.sum
 | [],[],o,_,_,hl=>⟨[],by simp at hl;simp;omega,rfl⟩
 | f::fs,w::ws,o,⟨ho,⟨hc,hr⟩,hrest⟩,hx,hl=>by
  obtain⟨x,h1⟩:=hx f (List.mem_cons_self ..)
  obtain⟨ns,h2,h3⟩:=hr h1
  rw[List.sum_cons]at hl
  obtain⟨ms,h4,h5⟩:=apx fs ws (o+w) hrest (fun g hg=>hx g (List.mem_cons_of_mem _ hg)) (by omega)
  subst ho
  rw[hc]at h2
  refine⟨ns++ms,?_,by rw[List.length_append,h3,h5,List.sum_cons]⟩
  rw[List.map_append,←h2,←h4,←List.drop_drop,List.take_append_drop]
 | [],_::_,_,h,_,_=>h.elim
 | _::_,[],_,h,_,_=>h.elim
theorem aoW.struct{P:Program}{t:TypeId}{fs:Array Field}{ws:List Nat}(ht:P.underlying t=some (.struct fs))(hl:aqg P fs.toList ws 0)(hc:P.cellsOf t=ws.sum):aoW P t ws.sum:=⟨hc,fun{H enc W base spare held fuel cs x} h=>by
 obtain⟨xs,n,-,-,h1,h2,h3⟩:=DataW.trod_struct ht h
 have:=apx (cs:=cs) fs.toList ws 0 hl (fun f hf=>by
  obtain⟨i,hi⟩:=List.mem_iff_getElem?.1 hf
  have hi':fs[i]? =some f:=by simpa using hi
  have hlt:i<xs.length:=by
   rw[h2]
   rcases Nat.lt_or_ge i fs.size with h | h
   ·exact h
   ·rw[Array.getElem?_eq_none h]at hi';cases hi'
  exact⟨xs[i],by rw[h3 i f hi',List.getElem?_eq_getElem hlt]⟩) (by omega)
 simpa using this⟩
theorem aoW.val{P:Program}{t w:Nat}(R:aoW P t w){H:Type}{enc:TypeId×Value→H}{W:World}{base:Nat}{spare:Nat→Bool}{held:Bool}{v:Value}{d:DataW H}{ps:List MemPlace}(h:DataW.Trod enc P W base spare held t v d ps):∃ns:List Int,v.cells.toList=ns.map nI∧ns.length=w:=by
 obtain⟨fuel,h⟩:=h
 exact R.2 h

theorem apB{W:World}{base n:Nat}{a:Addr}{cs:List Value}(h:W.cells? base a n=some cs):cs.length=n∧∀i,i<n→W.cell? (a.add i)=cs[i]? :=by
 unfold World.cells? at h
 split at h
 ·have h1:=mapM_some_length h
  rw[List.length_range]at h1
  exact⟨h1,fun i hi=>mapM_some_get h i i (by simp[hi])⟩
 ·cases h
theorem aoW.slice{P:Program}{e t w:Nat}(R:aoW P e w)(hw:0<w){α:Type}{row:α→List Value}[Rw row w](mk:∀ns:List Int,ns.length=w→∃p:α,row p=ns.map nI)(ht:P.underlying t=some (.slice e)){H:Type}{enc:TypeId×Value→H}{W:World}{base:Nat}{spare:Nat→Bool}{held:Bool}{v:Value}{fuel:Nat}{x:DataW H×List MemPlace}(hf:DataW.trod enc P W base spare held fuel t [v]=some x):∃l:List α,Sl (atStart W) row v l:=by
 rcases DataW.trod_slice ht hf with⟨hcs,-⟩ | ⟨a,len,cap,elems,rest,n,-,hcs,-,hb,hle,hm,hlen,hel,-,-⟩
 ·obtain rfl:v= .slice none 0 0:=by simpa using hcs
  exact⟨[],.nil⟩
 ·obtain rfl:v= .slice (some a) len cap:=by simpa using hcs
  rw[R.1]at hel
  have each:∀i,i<len→∃p:α,∀j,j<w→W.cell? ((a.add (i*w)).add j)=(row p)[j]? :=fun i hi=>by
   have h1:=hel i hi
   rw[List.getElem?_eq_getElem (by omega),Option.bind_eq_some_iff]at h1
   obtain⟨cs,h2,h3⟩:=h1
   obtain⟨ns,rfl,h4⟩:=R.2 h3
   obtain⟨p,hp⟩:=mk ns h4
   refine⟨p,fun j hj=>?_⟩
   rw[(apB h2).2 j hj,hp]
  have all:∀m,m≤len→∃l:List α,l.length=m∧∀i p,l[i]? =some p→∀j,j<w→W.cell? ((a.add (i*w)).add j)=(row p)[j]? :=by
   intro m
   induction m with
   | zero=>intro _;exact⟨[],rfl,fun i p hp=>by simp at hp⟩
   | succ m ih=>
    intro hm
    obtain⟨l,h1,h2⟩:=ih (by omega)
    obtain⟨p,hp⟩:=each m (by omega)
    refine⟨l++[p],by simp[h1],fun i q hq=>?_⟩
    rcases Nat.lt_or_ge i l.length with h | h
    ·rw[List.getElem?_append_left h]at hq;exact h2 i q hq
    ·have hlt:=lt_of_some hq
     simp at hlt
     have:i=m:=by omega
     subst this
     rw[List.getElem?_append_right h,show i-l.length=0 by omega]at hq
     simp at hq
     subst hq
     exact hp
  obtain⟨l,hl,hc⟩:=all len (Nat.le_refl _)
  refine⟨l,some a,cap,by rw[hl],fun hne=>?_⟩
  have hpos:0<len:=by
   rcases Nat.eq_zero_or_pos len with h | h
   ·subst h;exact absurd (List.eq_nil_of_length_eq_zero hl) hne
   ·exact h
  obtain⟨b,off,spot⟩:=a
  have hsp:spot=none:=by
   obtain⟨p,hp,-⟩:=has (show 0<l.length by omega)
   have h0:=hc 0 p hp 0 hw
   have hrw:(row p).length=w:=Rw.len p
   rw[List.getElem?_eq_getElem (by omega)]at h0
   cases hs:spot with
   | none=>rfl
   | some s=>
    subst hs
    exfalso
    simp only[Nat.zero_mul,World.cell?,Addr.add,if_true]at h0
    split at h0
    ·simp at h0
    ·cases h0
  subst hsp
  have cell:∀k,k<(flat row l).length→∃c E fz,W.heap[b]? =some (.cells c E fz)∧c[off+k]? =(flat row l)[k]? :=fun k hk=>by
   rw[jT]at hk
   have hi:k / w<l.length:=Nat.div_lt_of_lt_mul (by rw[Nat.mul_comm];exact hk)
   have hj:k % w<w:=Nat.mod_lt _ hw
   obtain⟨p,hp,-⟩:=has hi
   have h1:=hc _ p hp _ hj
   have hrw:(row p).length=w:=Rw.len p
   have e1:k / w*w+k % w=k:=Nat.div_add_mod' k w
   have h2:(flat row l)[k]? =(row p)[k % w]? :=by
    have hP:Part (flat row l).toArray 0 (flat row l):=Part.all _
    have h3:=hP.Bo hp (k % w) hj
    rw[Nat.zero_add,e1]at h3
    simpa using h3
   have ea:((⟨b,off,none⟩:Addr).add (k / w*w)).add (k % w)=⟨b,off+k,none⟩:=by
    have e2:(⟨b,off,none⟩:Addr).add (k / w*w)=⟨b,off+k / w*w,none⟩:=jE rfl _
    rw[e2,jE rfl]
    simp only[Addr.mk.injEq,true_and,and_true]
    omega
   rw[ea]at h1
   rw[h2]
   rw[List.getElem?_eq_getElem (show k % w<(row p).length by omega)]at h1⊢
   simp only[World.cell?]at h1
   split at h1
   ·rename_i c E fz hb
    exact⟨c,E,fz,hb,by simpa using h1⟩
   ·cases h1
  have hfl:=jT (row:=row) l
  have apK:0<(flat row l).length:=by rw[hfl];exact Nat.mul_pos (by omega) hw
  obtain⟨c,E,fz,hb',h0⟩:=cell 0 apK
  refine⟨b,off,c,E,fz,rfl,ku.2 ⟨hb',rfl⟩,Part.ace (fun j hj=>?_) (fun e=>by rw[e]at apK;simp at apK)⟩
  obtain⟨c',E',fz',hb2,hj'⟩:=cell j hj
  rw[hb']at hb2
  cases hb2
  exact hj'
end Go.aS

/- From a law of pans, lots and numbers that answers true to its card, time passing meanwhile. Conditions: as the cards say; over the given program. -/
namespace Go.aS
open Go.Proofs.YtkkdgffaohidnaaGreatDoor
set_option maxRecDepth 100000
set_option maxHeartbeats 4000000
section
open Go.ChangeShapes Go.WideShapes Go.RowKit
theorem aoX:aoW prog dL 1:=aoW.int VX VY
theorem apL:aoW prog Ag 3:=aoW.struct (ws:=[1,1,1]) (TD.out (t:=Ag)) ⟨rfl,aoX,rfl,aoX,rfl,aoX,trivial⟩ (by kernel_rfl)
theorem aqh:aoW prog XI 2:=aoW.struct (ws:=[1,1]) (TD.out (t:=XI)) ⟨rfl,aoX,rfl,aoX,trivial⟩ (by kernel_rfl)
theorem aqS:∀ns:List Int,ns.length=3→∃p:Pn,p.row=ns.map nI
 | [a,b,c],_=>⟨⟨a,b,c⟩,rfl⟩
theorem mkLt:∀ns:List Int,ns.length=2→∃p:Lt,p.row=ns.map nI
 | [a,b],_=>⟨⟨a,b⟩,rfl⟩
theorem mkI:∀ns:List Int,ns.length=1→∃p:Int,fH p=ns.map nI
 | [a],_=>⟨a,rfl⟩

structure ap8(h:Hp)(t:TypeId)(v:Value):Prop where
 arK:t=aoG→∃l,Sl h Pn.row v l
 pan:t=Ag→∃p:Pn,v=p.val
 lots:t=apa→∃l,Sl h Lt.row v l
 int:t=dL→∃n,v=I n
 ints:t=nS→∃l,Sl h fH v l
def apv(h:Hp):List TypeId→List Value→Prop
 | [],[]=>True
 | t::ts,v::vs=>ap8 h t v∧apv h ts vs
 | _,_=>False
theorem aqi{H:Type}{enc:TypeId×Value→H}{W:World}{n:Nat}{t:TypeId}{v:Value}{d:DataW H}{ps:List MemPlace}(hv:Value.okWide prog W .any n t v)(h:DataW.Trod enc prog W 0 (fun _=>true) true t v d ps):ap8 (atStart W) t v:=by
 refine⟨?_,?_,?_,?_,?_⟩
 ·rintro rfl
  obtain⟨a,len,cap,rfl⟩:=okWide_slice (TD.out (t:=aoG)) hv
  obtain⟨fuel,h⟩:=h
  exact apL.slice (row:=Pn.row) (by decide) aqS (TD.out (t:=aoG)) h
 ·rintro rfl
  obtain⟨cs,rfl,hc⟩:=okWide_struct (TD.out (t:=Ag)) hv
  obtain⟨ns,h1,h2⟩:=apL.val h
  obtain⟨p,hp⟩:=aqS ns h2
  refine⟨p,?_⟩
  have:cs.toList=p.row:=by rw[hp];exact h1
  rw[show cs=p.row.toArray by rw[←this]]
  rfl
 ·rintro rfl
  obtain⟨a,len,cap,rfl⟩:=okWide_slice (TD.out (t:=apa)) hv
  obtain⟨fuel,h⟩:=h
  exact aqh.slice (row:=Lt.row) (by decide) mkLt (TD.out (t:=apa)) h
 ·rintro rfl
  obtain⟨ns,h1,h2⟩:=aoX.val h
  obtain⟨n,rfl⟩:=okWide_int VX hv
  exact⟨n,rfl⟩
 ·rintro rfl
  obtain⟨a,len,cap,rfl⟩:=okWide_slice EX hv
  obtain⟨fuel,h⟩:=h
  exact aoX.slice (row:=fH) (by decide) mkI EX h
theorem apC{H:Type}{enc:TypeId×Value→H}{W:World}{n:Nat}:∀{ts:List TypeId} {vs:List Value} {ds:List (DataW H)} {ps:List MemPlace},(∀(j:Nat) t v,ts[j]? =some t→vs[j]? =some v→Value.okWide prog W .any n t v)→DataW.TrodAll enc prog W 0 (fun _=>true) true ts vs ds ps→apv (atStart W) ts vs∧ds.length=ts.length
 | [],[],ds,ps,_,h=>by
  cases ds with
  | nil=>exact⟨trivial,rfl⟩
  | cons d ds=>exact h.elim
 | [],_::_,_,_,_,h=>h.elim
 | _::_,[],_,_,_,h=>h.elim
 | t::ts,v::vs,[],_,_,h=>h.elim
 | t::ts,v::vs,d::ds,ps,hv,h=>by
  obtain⟨p,q,h1,h2,-⟩:=h
  obtain⟨h3,h4⟩:=apC (fun j t v a b=>hv (j+1) t v (by simpa using a) (by simpa using b)) h2
  exact⟨⟨aqi (hv 0 t v rfl rfl) h1,h3⟩,by simp[h4]⟩
theorem apt{H:Type}{enc:TypeId×Value→H}{W W':World}(hb:Below W.heap.size W W'):∀{ts:List TypeId} {vs:List Value} {ds:List (DataW H)} {ps:List MemPlace},(∀t∈ts,prog.readableRec t=true∧t<prog.types.size)→DataW.TrodAll enc prog W 0 (fun _=>true) true ts vs ds ps→(∀x∈ps,x.block<W.heap.size)→DataW.TrodAll enc prog W' 0 (fun b=>decide (b<W.heap.size)) true ts vs ds ps
 | [],[],ds,ps,_,h,_=>by
  cases ds with
  | nil=>exact h
  | cons d ds=>exact h.elim
 | [],_::_,_,_,_,h,_=>h.elim
 | _::_,[],_,_,_,h,_=>h.elim
 | t::ts,v::vs,[],_,_,h,_=>h.elim
 | t::ts,v::vs,d::ds,ps,ht,h,hlt=>by
  obtain⟨p,q,h1,h2,rfl⟩:=h
  exact⟨p,q,Below.trod YR (ht t (List.mem_cons_self ..)).1 (ht t (List.mem_cons_self ..)).2 h1 hb (fun x hx=>hlt x (List.mem_append_left _ hx)),apt hb (fun t h=>ht t (List.mem_cons_of_mem _ h)) h2 (fun x hx=>hlt x (List.mem_append_right _ hx)),rfl⟩
theorem aqT{s:ChangeSpec}{f:FuncId}{fn:Func}(os:Go.Os)(started:os.Started)(H:Type)(enc:TypeId×Value→H)(hfn:prog.funcs[f]? =some fn)(hinit:prog.inits.idxOf? f=none)(ts:List TypeId)(hp:fn.params.toList=ts)(hts:∀t∈ts,prog.readableRec t=true∧t<prog.types.size)(hr:fn.resultTypes.toList=[RS])(hrs:fn.resultTypes.size=1)(hv:s.vars=[])
  (hs:∀ds:List (DataW H),ds.length=ts.length→s.fn H ds={results:=[.lit (.bool true)],args:=ds})
  (
   witness:∃(w:World) (tape:Tape) (i:Input),w.os=os∧(w.forCall tape i).Shaped prog∧i.vars=[]∧Input.okWide prog (w.forCall tape i) .any w.heap.size f i∧
   ((s.pre enc prog fn [] false (w.forCall tape i).memory i.args∧laidMetH prog J9 (w.forCall tape i).memory)∧sizedMet enc prog fn (OpenSpec.ofChange s) false (w.forCall tape i).memory i.args)∧({calm:=true}:Assume).holds prog (lone (Frame.enter prog f i.args .normal) [] (w.forCall tape i)))
  (T:∀(main:Side) (_:∀S,main.ok S→∃Fin,S=Mo prog Fin) (_:main.b=true) (h:Hp) (args:List Value) (_:apv h ts args) (Eg:TypeId) (zg:Nat×Nat) (_:h 0=some (.cells #[Ur qM] Eg zg)) (_:h.z 0),QE prog main f args.toArray h (.bool true))
  (F:Stop.Interp):ReturnsInLeavingWide {calm:=true} Go.Proofs.Tryz.checked os f .any (fun w args=>(s.pre enc prog fn [] false w args∧laidMetH prog J9 w)∧sizedMet enc prog fn (OpenSpec.ofChange s) false w args) ((OpenSpec.ofChange s).postWith enc prog fn F (outsideKept [.timePasses]) false true false):=by
 refine returnsInLeavingWide_of_good (C:=Go.Proofs.Tryz.checked) afH started witness ?_
 intro w tape i _ _ _ hok hpre _
 obtain⟨_,_,_,fn',hfn',_,_,_,_,hval0⟩:=hok
 have e:fn'=fn:=Option.some.inj (hfn'.symm.trans hfn)
 subst e
 obtain⟨⟨⟨ds,gs,before,hw,-⟩,hx⟩,-⟩:=hpre
 have hW:=DataW.Whole.of_heap (w':=w.forCall tape i) (by rfl) hw
 have hL:laidMetH prog J9 (w.forCall tape i):=Ld (by rfl) hx
 generalize w.forCall tape i=W at*
 have hval:∀(j:Nat) t v,fn'.params[j]? =some t→i.args[j]? =some v→Value.okWide prog W .any w.heap.size t v:=hval0
 have hW':=hW
 obtain⟨p,q,hA0,hV,rfl,_,_⟩:=hW
 have hA:DataW.TrodAll enc prog W 0 (fun _=>true) true fn'.params.toList i.args.toList ds p:=hA0
 rw[hp]at hA
 obtain⟨hao,hdl⟩:=apC (n:=w.heap.size) (fun j t v a b=>hval j t v (by rw[←Array.getElem?_toList,hp];exact a) (by rw[←Array.getElem?_toList];exact b)) hA
 rw[hv]at hV
 obtain⟨rfl,rfl⟩:=trodVars_none hV
 simp only[List.append_nil]at hW'
 have hlt:∀x∈p,x.block<W.heap.size:=fun x hx=>by simpa using hW'.lt x hx
 obtain⟨E,z,hg⟩:=aaH hL
 have hgs:atStart W 0=some (.cells #[Ur qM] E z):=ku.2 ⟨hg,rfl⟩
 obtain⟨M,last,o,w',t',h1,h2,h3,h4⟩:=QE.run hinit (T (GI prog (tZ prog fun v _=>v= .bool true)) (fun S h=>⟨_,h⟩) rfl (atStart W) i.args.toList hao E z hgs ⟨_,hg,rfl⟩)
 refine⟨M,last,o,w',t',h1,h2,h3,h4.mono fun v hF=>?_⟩
 obtain⟨rfl,hk⟩:=hF
 have hb:=hk.below
 refine postWith_blind (postWith_of_post ⟨ds,[],p,[],p,[],hW',?_,?_,?_,hb.frame _,fun h=>by cases h⟩ hk.os)
 ·have hrl:Value.resultList fn'.resultTypes.size (.bool true)=[.bool true]:=by rw[hrs];rfl
  rw[List.append_nil,hs ds hdl,hrl,hr];exact trodAll_mk1 (shut_bool SS true)
 ·rw[List.append_nil,hs ds hdl,hp]
  exact apt hb hts hA hlt
 ·rw[List.append_nil,hs ds hdl,hv];rfl
end
end Go.aS

/- SyrupShares's card. Conditions: as the card says; over the given program. -/
namespace Go.Proofs.YtkkdgffaohidnaaGreatDoor
open Go Go.aS
set_option maxRecDepth 100000
set_option maxHeartbeats 4000000
theorem atX(main:Side)(hS:∀S,main.ok S→∃Fin,S=Mo prog Fin)(hmb:main.b=true)(h:Hp):∀(args:List Value) (_:apv h [aoG,Ag,apa,nS,dL,nS] args) (Eg:TypeId) (zg:Nat×Nat) (_:h 0=some (.cells #[Ur qM] Eg zg)) (_:h.z 0),QE prog main asu args.toArray h (.bool true)
 | [v0,v1,v2,v3,v4,v5],⟨h0,h1,h2,h3,h4,h5,_⟩,Eg,zg,hg,z0=>by
  obtain⟨ps0,hp0⟩:=h0.arK rfl
  obtain⟨p1,rfl⟩:=h1.pan rfl
  obtain⟨l2,hl2⟩:=h2.lots rfl
  obtain⟨x3,hx3⟩:=h3.ints rfl
  obtain⟨n4,rfl⟩:=h4.int rfl
  obtain⟨x5,hx5⟩:=h5.ints rfl
  apply aua main hS hmb h
  all_goals first | assumption | exact hg | exact z0
 | [],h,_,_,_,_=>h.elim
 | [v0],⟨h0,h⟩,_,_,_,_=>h.elim
 | [v0,v1],⟨h0,h1,h⟩,_,_,_,_=>h.elim
 | [v0,v1,v2],⟨h0,h1,h2,h⟩,_,_,_,_=>h.elim
 | [v0,v1,v2,v3],⟨h0,h1,h2,h3,h⟩,_,_,_,_=>h.elim
 | [v0,v1,v2,v3,v4],⟨h0,h1,h2,h3,h4,h⟩,_,_,_,_=>h.elim
 | v0::v1::v2::v3::v4::v5::v6::r,⟨h0,h1,h2,h3,h4,h5,h⟩,_,_,_,_=>h.elim
theorem atN:joinedFacts prog asu asE Rows.syrupSharesSpec Rows.syrupSharesRow=true:=by
 unfold joinedFacts
 repeat' with_reducible refine Bool.and_eq_true_iff.2 ⟨?_,?_⟩
 all_goals first
  | with_reducible exact aci
  | (with_reducible refine makeT ?_;kernel_rfl)
  | (with_reducible refine aeb ?_;kernel_rfl)
  | (as_aux_lemma=>kernel_rfl)
theorem as5:prog.funcNamed Rows.syrupSharesRow.func=some asu:=by kernel_rfl
theorem atY:prog.mainIs=some (true, "dbc29bbb9727fbebaf7429f7266f9d82b5a02ec0969210b724e1ed2dac66cc8d".toList):=ad9
theorem atZ:true=Rows.syrupSharesRow.goesBy prog:=by kernel_rfl
theorem atO:true=prog.looks []:=by kernel_rfl
theorem auc:Rows.SyrupSharesSaid:=
 OpenClaim.holds_of_wide_leaving_time asu asE rfl rfl rfl rfl rfl rfl rfl ⟨rfl,rfl,rfl,rfl,rfl⟩ rfl rfl rfl rfl rfl as5 asN atN
  (of_decide_eq_true (by kernel_rfl)) (by unfold Func.isWrapper;first | (rw[if_pos (by decide+kernel)];kernel_rfl) | (rw[if_neg (by decide+kernel)];exact⟨rfl,rfl⟩))
  (
   fun os started H enc _ F=>aqT (s:=Rows.syrupSharesSpec) os started H enc asN (by kernel_rfl) [aoG,Ag,apa,nS,dL,nS] (by kernel_rfl) (fun t ht=>by
    have h0:([aoG,Ag,apa,nS,dL,nS]:List TypeId).all (fun t=>prog.readableRec t&&Nat.blt t prog.types.size)=true:=by kernel_rfl
    have h1:=List.all_eq_true.1 h0 t ht
    rw[Bool.and_eq_true]at h1
    exact⟨h1.1,Nat.le_of_ble_eq_true h1.2⟩) (by kernel_rfl) (by kernel_rfl) rfl (fun ds hd=>by
    match ds,hd with
    | [d0,d1,d2,d3,d4,d5],_=>rfl)
   (OB (enc:=enc) (C:=Tryz.checked) (os:=os) (X:=fun w _=>laidMetH prog J9 w) (laidWorld os) #[.slice none 0 0,.agg #[I 0,I 0,I 0],.slice none 0 0,.slice none 0 0,I 0,.slice none 0 0] 8 rfl (by kernel_rfl) (by kernel_rfl) (by kernel_rfl) (by kernel_rfl) (by kernel_rfl) (laidWorld_met os _))
   (fun main hS hmb h args ha Eg zg hg z0=>atX main hS hmb h args ha Eg zg hg z0) F)

theorem SyrupShares_card:Rows.SyrupSharesCardSaid:=
 VZ .later [] [.handle] true (true, "dbc29bbb9727fbebaf7429f7266f9d82b5a02ec0969210b724e1ed2dac66cc8d") true
  auc (fun _ h=>by cases h) (by kernel_rfl) (fun _ h=>by cases h) syrupShares_row_tie rfl ⟨rfl,rfl⟩ atY rfl
  (
   fun f fn hf hfn=>by
   obtain rfl:f=asu:=(Option.some.inj (as5.symm.trans hf)).symm
   obtain rfl:fn=asE:=(Option.some.inj (asN.symm.trans hfn)).symm
   exact⟨atO,fun j t ht=>by
    rw[show(asE).params= #[aoG,Ag,apa,nS,dL,nS] by kernel_rfl]at ht
    have h3:([aoG,Ag,apa,nS,dL,nS]:List TypeId).all (fun t=> !prog.wantsStandIn t)=true:=by kernel_rfl
    have h4:=List.all_eq_true.1 h3 t (List.mem_of_getElem? (by simpa using ht))
    exact(show prog.wantsStandIn t=false by simpa using h4)⟩)
  atZ
#print axioms SyrupShares_card
end Go.Proofs.YtkkdgffaohidnaaGreatDoor
