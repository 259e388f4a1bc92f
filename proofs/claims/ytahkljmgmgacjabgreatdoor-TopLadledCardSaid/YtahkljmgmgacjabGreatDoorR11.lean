/- Runs, thicknesses, proofs out of a hat. Conditions: none; over the given program. (And 11 texts more.) -/
import Derived.Test.YtahkljmgmgacjabGreatDoorR10
import Derived.Test.YtahkljmgmgacjabGreatDoorR08
import Derived.Test.YtahkljmgmgacjabGreatDoorR07
import Derived.Test.YtahkljmgmgacjabGreatDoorR04
import Derived.Conc.LeavingOf
import Derived.LaidLaws
import Derived.LaidHandle
import Derived.ChangeSlices
import Derived.WideShapes
import Derived.Carry
import Derived.RowKit
set_option linter.unusedVariables false
set_option linter.unusedSimpArgs false
set_option linter.unusedSectionVars false

/- Runs, thicknesses, proofs out of a hat. Conditions: none; over the given program. -/
namespace Go.aS
set_option maxRecDepth 100000
set_option maxHeartbeats 1000000
theorem aIO(main:Side)(h:Hp)(nums:List Int)(lv:Value)(b k:Nat)(s:Int)(vs vr vm vh vp:Value)(ss hs:List Spn)(hl:Sl h fH lv nums)(hk:k≤100000)(hss:Sl h Spn.row vs ss)(hhs:Sl h Spn.row vh hs)(hs3:ss.length≤3)(hs0:∀s0∈ss,0≤s0.lo∧s0.lo≤s0.hi∧s0.hi≤40)(h5:hs.length≤5)(hp:∀s∈hs,0≤s.lo∧s.lo≤s.hi∧s.hi≤4):
  dV prog main aDK #[bI b,.agg #[vs,vr,vm,vh,vp]] h [(b,wF lv k s)]
  (fun v A=>∃vq vw ql apU Sq Sw k' s',v= .tuple #[vq,vw]∧Os dL fH vq ql Sq∧Os dL fH vw apU Sw∧ql.length=ss.length∧(∀(i:Nat) p s,ql[i]? =some p→ss[i]? =some s→s.lo≤p∧p≤s.hi)∧apU.length=hs.length∧(∀(i:Nat) p s,apU[i]? =some p→hs[i]? =some s→s.lo≤p∧p≤s.hi)∧k'≤k+100∧Sb ((b,wF lv k' s')::(Sq++Sw)) A):=by
 obtain⟨a1,cap1,rfl⟩:=hss.dA
 obtain⟨a4,cap4,rfl⟩:=hhs.dA
 refine dV.aG aFK rfl (by show 2≤60;decide) [(0,bI b),(1,.agg #[.slice a1 ss.length cap1,vr,vm,.slice a4 hs.length cap4,vp])] ⟨rfl,rfl,trivial⟩ ?_
 refine W.seq<|W.region rfl ?_
 refine Ops.box (fun uU=>?_)
 refine agb rfl rfl rfl<|agb rfl rfl rfl<|pq<|W.seq<|W.region rfl<|agb rfl rfl rfl<|agb rfl rfl rfl<|pq ?_
 refine W.seq<|W.seq<|W.region rfl<|agb rfl rfl rfl<|pq<|W.block ?_
 refine W.Js (σ:=Nat) (τ:=List Int×Value) (υ:=(Nat×Int)×eG) (fun i t u=>i≤ss.length∧t.1.length=i∧(∀(j:Nat) p s,t.1[j]? =some p→ss[j]? =some s→s.lo≤p∧p≤s.hi)∧Os dL fH t.2 t.1 u.2∧u.1.1=k+i) (fun i t _=>[(8,I i),(6,t.2),(7,.slice none 0 0),(3,bI uU),(0,bI b)])
  (fun _ _ u=>(uU,.cells #[.slice a1 ss.length cap1,vr,vm,.slice a4 hs.length cap4,vp] MP (0,0))::(b,wF lv u.1.1 u.1.2)::u.2) (fun i _ _=>ss.length-i) 0 ([],.slice none 0 0) ((k,s),[]) ⟨Nat.zero_le _,rfl,(fun j p s hj=>by cases hj),.nil .nil,rfl⟩ ⟨rfl,rfl,rfl,rfl,rfl,trivial⟩ .refl ?_
 rintro i ⟨ql,vq⟩ ⟨⟨k1,s1⟩,Sq⟩ ⟨hi,h1,hq1,hQ,hk1⟩
 dsimp only at*
 obtain⟨qa,qc,rfl⟩:=hQ.dA
 refine W.seq<|W.seq<|W.region rfl<|qm rfl rfl rfl ?_
 refine agY rfl ?_
 refine agX rfl ?_
 refine agW (dM rfl rfl) rfl ?_
 refine agW (fO rfl rfl rfl) rfl ?_
 refine pq ?_
 refine W.bC rfl (fun c14=>?_) (fun c14=>?_)
 ·obtain⟨s0,hsp,-⟩:=has (show i<ss.length by omega)
  have hspb:=hs0 s0 (List.mem_of_getElem? hsp)
  obtain⟨b0,aKH,c0,E0,fz0,e3,hb0,-,hy0,hz0⟩:=hss.at hsp
  cases e3
  have hx0:c0[aKH+i*2+0]? =some (I s0.lo):=hz0 0 (by decide)
  have hx1:c0[aKH+i*2+1]? =some (I s0.hi):=hz0 1 (by decide)
  clear hz0
  refine W.skip<|aA<|W.seq<|W.block ?_
  refine W.DR [(uU,.cells #[.slice (some ⟨b0,aKH,none⟩) ss.length cap1,vr,vm,.slice a4 hs.length cap4,vp] MP (0,0))] (n:=18) rfl ?_
  refine dn 0 (aN rfl rfl) rfl ?_
  refine dn 1 (aN rfl rfl) rfl ?_
  refine dn 2 (ay rfl rfl) rfl ?_
  refine dn 3 (iQ rfl rfl) rfl ?_
  refine dn 4 (aN rfl rfl) rfl ?_
  first | refine dn 5 (G_ rfl rfl rfl) rfl ?_ | refine dn 5 (o_ rfl rfl rfl) rfl ?_
  refine dn 6 (ay rfl rfl) rfl ?_
  refine dn 7 (iQ rfl rfl) rfl ?_
  refine dn 8 (ay rfl rfl) rfl ?_
  refine dn 9 (iQ rfl rfl) rfl ?_
  refine dn 10 (aN rfl rfl) rfl ?_
  first | refine dn 11 (G_ rfl rfl rfl) rfl ?_ | refine dn 11 (o_ rfl rfl rfl) rfl ?_
  refine dn 12 (ay rfl rfl) rfl ?_
  refine dn 13 (iQ rfl rfl) rfl ?_
  refine ae (i:=14) rfl an rfl rfl (QZ (args:=[_,_,_]) rfl rfl (.tail (.head (A:=[(b,_)]))) (fun h' hE hL=>UD _ h' nums lv b k1 s1 s0.lo s0.hi (hl.ext hE) (by omega) (by omega)) (fun v A' hv=>?_))
  refine⟨.inr (Keeps.one (.head _) Keeps.nil),?_⟩
  obtain⟨q,s2,rfl,hq,hsb⟩:=hv
  refine Any.sb (.cons (hsb.app .refl)) ?_
  refine ae (i:=15) rfl an rfl rfl (DN (parts:=[⟨_,_⟩]) (cs:= #[I q]) rfl rfl (by decide) (by decide) (by kernel_rfl) fun aul _ _=>⟨.inr (Keeps.one (.tail _ (.head _)) Keeps.nil),?_⟩)
  refine ae (i:=16) rfl an rfl rfl (iW (row:=fH) (l':=[q]) rfl rfl rfl hQ (.tail (.tail (.app .all))) (fun h2 _ hl=>Sl.mk (hl aul _ (.head _)) rfl (Part.all (flat fH [q]))) (by simp;omega) (by decide) rfl (fun v2 S2 hS2=>?_))
  refine⟨.inr (Keeps.one (.tail _ (.head _)) Keeps.nil),?_⟩
  refine dn 17 (jS rfl rfl) rfl ?_
  refine az ?_
  refine dI<|aA<|W.region rfl<|qm rfl rfl rfl ?_
  refine ag1 rfl ?_
  refine agb rfl rfl rfl<|pq ?_
  refine⟨rfl,i+1,(ql++[q],v2),((k1+1,s2),S2),⟨by omega,by simp;omega,fun j p s hj hs'=>?_,hS2,by dsimp only;omega⟩,by omega,⟨lk rfl (show I _=I _ by congr 1),rfl,rfl,rfl,rfl,trivial⟩,.skip rfl .refl⟩
  rcases Nat.lt_or_ge j ql.length with h' | h'
  ·exact hq1 j p s (by simpa[List.getElem?_append_left h']using hj) hs'
  ·replace hj:(ql++[q])[j]? =some p:=hj
   rw[List.getElem?_append_right h']at hj
   have hj0:j=ql.length:=by
    rcases Nat.eq_zero_or_pos (j-ql.length)with h0 | h0
    ·omega
    ·rw[List.getElem?_eq_none (by simp;omega)]at hj;cases hj
   subst hj0
   rw[h1,hsp]at hs'
   cases hs'
   have:q=p:=by simpa using hj
   subst this;omega
 ·obtain rfl:i=ss.length:=by omega
  refine W.exit<|bP<|bP<|gG<|aA<|W.seq<|W.seq<|W.region rfl<|agb rfl rfl rfl<|Ops.nil ?_
  refine aA<|W.block ?_
  refine W.Js (σ:=Nat) (τ:=List Int×Value) (υ:=(Nat×Int)×eG) (fun i t u=>i≤hs.length∧t.1.length=i∧(∀(j:Nat) p s,t.1[j]? =some p→hs[j]? =some s→s.lo≤p∧p≤s.hi)∧Os dL fH t.2 t.1 u.2∧u.1.1=k+ss.length+i) (fun i t _=>[(9,I i),(7,t.2),(6,.slice qa ql.length qc),(3,bI uU),(0,bI b)])
   (fun _ _ u=>(uU,.cells #[.slice a1 ss.length cap1,vr,vm,.slice a4 hs.length cap4,vp] MP (0,0))::(b,wF lv u.1.1 u.1.2)::(u.2++Sq)) (fun i _ _=>hs.length-i) 0 ([],.slice none 0 0) ((k1,s1),[]) ⟨Nat.zero_le _,rfl,(fun j p s hj=>by cases hj),.nil .nil,hk1⟩ ⟨rfl,rfl,rfl,rfl,rfl,trivial⟩ .refl ?_
  rintro i ⟨wl,vw⟩ ⟨⟨k2,s2⟩,Sw⟩ ⟨hi,h2,hw1,hW,hk2⟩
  dsimp only at*
  obtain⟨wa,wc,rfl⟩:=hW.dA
  refine W.seq<|W.seq<|W.region rfl<|qm rfl rfl rfl ?_
  refine agY rfl ?_
  refine agX rfl ?_
  refine agW (dM rfl rfl) rfl ?_
  refine agW (fO rfl rfl rfl) rfl ?_
  refine pq ?_
  refine W.bC rfl (fun c38=>?_) (fun c38=>?_)
  ·obtain⟨sp,hsp,-⟩:=has (show i<hs.length by omega)
   have hspb:=hp sp (List.mem_of_getElem? hsp)
   obtain⟨bh,aC0,ch,Eh,fzh,e3,hbh,-,hyh,hzh⟩:=hhs.at hsp
   cases e3
   have aNy:ch[aC0+i*2+0]? =some (I sp.lo):=hzh 0 (by decide)
   have aNz:ch[aC0+i*2+1]? =some (I sp.hi):=hzh 1 (by decide)
   clear hzh
   refine W.skip<|aA<|W.seq<|W.block ?_
   refine W.DR [(uU,.cells #[.slice a1 ss.length cap1,vr,vm,.slice (some ⟨bh,aC0,none⟩) hs.length cap4,vp] MP (0,0))] (n:=18) rfl ?_
   refine dn 0 (aN rfl rfl) rfl ?_
   refine dn 1 (aN rfl rfl) rfl ?_
   refine dn 2 (ay rfl rfl) rfl ?_
   refine dn 3 (iQ rfl rfl) rfl ?_
   refine dn 4 (aN rfl rfl) rfl ?_
   first | refine dn 5 (G_ rfl rfl rfl) rfl ?_ | refine dn 5 (o_ rfl rfl rfl) rfl ?_
   refine dn 6 (ay rfl rfl) rfl ?_
   refine dn 7 (iQ rfl rfl) rfl ?_
   refine dn 8 (ay rfl rfl) rfl ?_
   refine dn 9 (iQ rfl rfl) rfl ?_
   refine dn 10 (aN rfl rfl) rfl ?_
   first | refine dn 11 (G_ rfl rfl rfl) rfl ?_ | refine dn 11 (o_ rfl rfl rfl) rfl ?_
   refine dn 12 (ay rfl rfl) rfl ?_
   refine dn 13 (iQ rfl rfl) rfl ?_
   refine ae (i:=14) rfl an rfl rfl (QZ (args:=[_,_,_]) rfl rfl (.tail (.head (A:=[(b,_)]))) (fun h' hE hL=>UD _ h' nums lv b k2 s2 sp.lo sp.hi (hl.ext hE) (by omega) (by omega)) (fun v A' hv=>?_))
   refine⟨.inr (Keeps.one (.head _) Keeps.nil),?_⟩
   obtain⟨n,s3,rfl,hn,hsb⟩:=hv
   refine Any.sb (.cons (hsb.app .refl)) ?_
   refine ae (i:=15) rfl an rfl rfl (DN (parts:=[⟨_,_⟩]) (cs:= #[I n]) rfl rfl (by decide) (by decide) (by kernel_rfl) fun afj _ _=>⟨.inr (Keeps.one (.tail _ (.head _)) Keeps.nil),?_⟩)
   refine ae (i:=16) rfl an rfl rfl (iW (row:=fH) (l':=[n]) rfl rfl rfl hW (.tail (.tail (.app .head))) (fun h2 _ hl=>Sl.mk (hl afj _ (.head _)) rfl (Part.all (flat fH [n]))) (by simp;omega) (by decide) rfl (fun v2 S2 hS2=>?_))
   refine⟨.inr (Keeps.one (.tail _ (.head _)) Keeps.nil),?_⟩
   refine dn 17 (jS rfl rfl) rfl ?_
   refine az ?_
   refine dI<|aA<|W.region rfl<|qm rfl rfl rfl ?_
   refine ag1 rfl ?_
   refine agb rfl rfl rfl<|pq ?_
   refine⟨rfl,i+1,(wl++[n],v2),((k2+1,s3),S2),⟨by omega,by simp;omega,fun j p s hj hs'=>?_,hS2,by dsimp only;omega⟩,by omega,⟨rfl,rfl,rfl,rfl,rfl,trivial⟩,.skip rfl .refl⟩
   rcases Nat.lt_or_ge j wl.length with h | h
   ·rw[List.getElem?_append_left h]at hj
    exact hw1 j p s hj hs'
   ·rw[List.getElem?_append_right h]at hj
    have e:j=i:=by
     rcases Nat.eq_zero_or_pos (j-wl.length)with h' | h'
     ·omega
     ·rw[List.getElem?_eq_none (by simp;omega)]at hj;cases hj
    subst e
    rw[show j-wl.length=0 by omega]at hj
    cases hj
    rw[hsp]at hs'
    cases hs'
    omega
  ·obtain rfl:i=hs.length:=by omega
   refine W.exit<|bP<|bP<|gG<|aA<|W.seq<|W.region rfl<|qm rfl rfl rfl<|qm rfl rfl rfl<|agb rfl rfl rfl ?_
   refine agb rfl rfl rfl<|pq<|W.ret ?_
   exact mg (vs:=[_,_]) ⟨_,_,ql,wl,Sq,Sw,k2,s2,rfl,hQ,hW,h1,hq1,h2,hw1,by omega,.skip rfl (.cons (.dF List.perm_append_comm))⟩
end Go.aS

/- Thicknesses and threads of a run. Conditions: none; over the given program. -/
namespace Go.aS
set_option maxRecDepth 100000
set_option maxHeartbeats 1000000
theorem aFL(main:Side)(h:Hp)(vs vr vm vh vp:Value)(ms:Int×Int×Int)(n:Int)(hm:Sl h fH vm [ms.1,ms.2.1,ms.2.2])(hms:1≤ms.1∧ms.1<ms.2.1∧ms.2.1<ms.2.2∧ms.2.2≤60):Pu prog main aBs #[ax8 vs vr vm vh vp,I n] h (I (awL ms n:Nat)):=by
 obtain⟨m1,m2,m3⟩:=ms
 simp only at hm hms
 obtain⟨l,hl⟩:∃l,l=[m1,m2,m3]:=⟨_,rfl⟩
 rw[←hl]at hm
 have h3:l.length=3:=by rw[hl];rfl
 obtain⟨a,cap,rfl⟩:=hm.dA
 have hcnt:∀k,k≤3→(l.take k).countP (fun m=>decide (n≥m))≤3:=fun k hk=>Nat.le_trans List.countP_le_length (by rw[List.length_take];omega)
 refine dV.aG aDT rfl (by show 2≤24;decide) [(0,ax8 vs vr (.slice a l.length cap) vh vp),(1,I n)] ⟨rfl,rfl,trivial⟩ ?_
 refine W.seq<|W.region rfl ?_
 refine Ops.box (fun yR=>?_)
 refine agb rfl rfl rfl<|pq<|W.seq<|W.region rfl<|agb rfl rfl rfl<|pq<|W.seq<|W.seq ?_
 refine W.region rfl<|agb rfl rfl rfl<|pq<|W.block ?_
 refine W.loop (σ:=Nat) (fun k=>k≤l.length) (fun k=>[(6,I k),(5,I ((l.take k).countP (fun m=>decide (n≥m)):Nat)),(2,bI yR),(1,I n)]) (fun _=>[(yR,.cells (Wv vs vr (.slice a l.length cap) vh vp) MP (0,0))]) (fun k=>l.length-k) 0 (Nat.zero_le _) ⟨rfl,rfl,rfl,rfl,trivial⟩ .refl ?_
 rintro k hk
 refine W.seq<|W.seq<|W.region rfl<|qm rfl rfl rfl ?_
 refine agY rfl ?_
 refine agX rfl ?_
 refine agW (dM rfl rfl) rfl ?_
 refine agW (fO rfl rfl rfl) rfl ?_
 refine pq ?_
 refine W.bC rfl (fun c11=>?_) (fun c11=>?_)
 ·obtain⟨m,hmk,-⟩:=has (show k<l.length by omega)
  obtain⟨b1,off,c,E,fz,e3,hb1,hx,hy,hz⟩:=hm.at hmk
  cases e3
  have x0:c[off+k*1+0]? =some (I m):=hz 0 (by decide)
  clear hx hz
  have hc3:=hcnt k (by omega)
  have hnx:(l.take (k+1)).countP (fun m=>decide (n≥m))=(l.take k).countP (fun m=>decide (n≥m))+(if n≥m then 1 else 0):=by
   rw[List.take_add_one,hmk,List.countP_append];simp[List.countP_cons]
  refine W.skip<|aA<|W.seq<|W.block<|W.seq<|W.region rfl<|qm rfl rfl rfl ?_
  refine agY rfl ?_
  refine agX rfl ?_
  refine qm rfl rfl rfl ?_
  refine ag3 rfl ?_
  refine agX rfl ?_
  refine agW (IJ rfl rfl rfl) rfl ?_
  refine pq ?_
  refine W.bC rfl (fun c20=>?_) (fun c20=>?_)
  ·refine W.region rfl<|qm rfl rfl rfl ?_
   refine ag1 rfl ?_
   refine agb rfl rfl rfl<|Ops.nil<|dI<|aA<|W.region rfl<|qm rfl rfl rfl ?_
   refine ag1 rfl ?_
   refine agb rfl rfl rfl<|pq ?_
   exact⟨rfl,k+1,by omega,by omega,⟨lk rfl (show I _=I _ by congr 1),lk rfl (show I _=I _ by rw[hnx,if_pos (by omega)];congr 1),rfl,rfl,trivial⟩,.refl⟩
  ·refine W.skip<|dI<|aA<|W.region rfl<|qm rfl rfl rfl ?_
   refine ag1 rfl ?_
   refine agb rfl rfl rfl<|pq ?_
   exact⟨rfl,k+1,by omega,by omega,⟨lk rfl (show I _=I _ by congr 1),lk rfl (show I _=I _ by rw[hnx,if_neg (by omega)];congr 1),rfl,rfl,trivial⟩,.refl⟩
 ·obtain rfl:k=l.length:=by omega
  refine W.exit<|bP<|bP<|gG<|aA<|W.seq<|W.region rfl<|qm rfl rfl rfl<|agb rfl rfl rfl<|Ops.nil ?_
  refine aA<|W.ret ?_
  refine uZ ?_
  show I _=I _
  congr 1
  rw[List.take_length,hl]
  unfold awL
  simp only[List.countP_cons,List.countP_nil]
  (repeat' split) <;>simp_all <;>omega

theorem aGh(main:Side)(h:Hp)(vs vm vh vp vr vq vw:Value)(rs ql apU:List Int)(Jq t:Nat)(hr:Sl h fH vr rs)(hq:Sl h fH vq ql)(hw:Sl h fH vw apU)(aGd:Jq<rs.length)(hpq:Jq<ql.length)(ht:t≤apU.length)(h5:apU.length≤5)(hr1:∀r∈rs,1≤r∧r≤3)(hq1:∀q∈ql,0≤q∧q≤40)(hb4:∀a∈apU,0≤a∧a≤4):Pu prog main aCt #[ax8 vs vr vm vh vp,vq,vw,I Jq,I t] h (I (ql.getD Jq 0+aw_ rs apU Jq t)):=by
 obtain⟨r,hrp,-⟩:=has aGd
 obtain⟨q,hqp,-⟩:=has hpq
 have hrb:=hr1 r (List.mem_of_getElem? hrp)
 have hqb:=hq1 q (List.mem_of_getElem? hqp)
 have e1:ql.getD Jq 0=q:=by rw[List.getD_eq_getElem?_getD,hqp];rfl
 have e2:∀t,aw_ rs apU Jq t=r*aAm (apU.take t):=fun t=>by unfold aw_;rw[List.getD_eq_getElem?_getD,hrp];rfl
 have hab:∀t,t≤5→0≤r*aAm (apU.take t)∧r*aAm (apU.take t)≤60:=fun t ht=>by rw[←e2];exact aAU hr1 hb4 ht
 rw[e1,e2]
 obtain⟨ar,cr,rfl⟩:=hr.dA
 obtain⟨aq,cq,rfl⟩:=hq.dA
 obtain⟨aw,cw,rfl⟩:=hw.dA
 obtain⟨br,aKJ,ccr,Er,fr,e3,hbr,-,hyr,hzr⟩:=hr.at hrp
 cases e3
 have xr:ccr[aKJ+Jq*1+0]? =some (I r):=hzr 0 (by decide)
 obtain⟨bq,aJK,ccq,Eq,fq,e3,hbq,-,hyq,hzq⟩:=hq.at hqp
 cases e3
 have xq:ccq[aJK+Jq*1+0]? =some (I q):=hzq 0 (by decide)
 clear hzr hzq
 refine dV.aG aEi rfl (by show 5≤35;decide) [(0,ax8 vs (.slice (some ⟨br,aKJ,none⟩) rs.length cr) vm vh vp),(1,.slice (some ⟨bq,aJK,none⟩) ql.length cq),(2,.slice aw apU.length cw),(3,I Jq),(4,I t)] ⟨rfl,rfl,rfl,rfl,rfl,trivial⟩ ?_
 refine W.seq<|W.region rfl ?_
 refine Ops.box (fun mZ=>?_)
 refine agb rfl rfl rfl<|pq<|W.seq<|W.region rfl<|qm rfl rfl rfl<|qm rfl rfl rfl ?_
 refine ag3 rfl ?_
 refine agX rfl ?_
 refine agb rfl rfl rfl<|pq<|W.seq<|W.seq<|W.region rfl<|agb rfl rfl rfl<|pq<|W.block ?_
 refine W.loop (σ:=Nat) (fun k=>k≤t) (fun k=>[(12,I k),(11,I (q+r*aAm (apU.take k))),(5,bI mZ),(2,.slice aw apU.length cw),(3,I Jq),(4,I t)]) (fun _=>[(mZ,.cells (Wv vs (.slice (some ⟨br,aKJ,none⟩) rs.length cr) vm vh vp) MP (0,0))]) (fun k=>t-k) 0 (Nat.zero_le _) ⟨rfl,lk rfl (show I _=I _ by simp[aAm]),rfl,rfl,rfl,rfl,trivial⟩ .refl ?_
 rintro k hk
 refine W.seq<|W.seq<|W.region rfl<|qm rfl rfl rfl<|qm rfl rfl rfl ?_
 refine agW (fO rfl rfl rfl) rfl ?_
 refine pq ?_
 refine W.bC rfl (fun c19=>?_) (fun c19=>?_)
 ·obtain⟨y,hyk,-⟩:=has (show k<apU.length by omega)
  have hyb:=hb4 y (List.mem_of_getElem? hyk)
  obtain⟨bw,aMy,ccw,Ew,fw,e3,hbw,-,hyw,hzw⟩:=hw.at hyk
  cases e3
  have xw:ccw[aMy+k*1+0]? =some (I y):=hzw 0 (by decide)
  clear hzw
  have hb1:=hab k (by omega)
  have hb2:=hab (k+1) (by omega)
  have hnx:=aFk hyk
  rw[hnx,Int.mul_add]at hb2
  refine W.skip<|aA<|W.seq<|W.block ?_
  refine W.aG8 (n:=13) rfl ?_
  refine dn 0 (aN rfl rfl) rfl ?_
  refine dn 1 (ay rfl rfl) rfl ?_
  refine dn 2 (iQ rfl rfl) rfl ?_
  refine dn 3 (aN rfl rfl) rfl ?_
  first | refine dn 4 (G_ rfl rfl rfl) rfl ?_ | refine dn 4 (o_ rfl rfl rfl) rfl ?_
  refine dn 5 (iQ rfl rfl) rfl ?_
  refine dn 6 (aN rfl rfl) rfl ?_
  refine dn 7 (aN rfl rfl) rfl ?_
  first | refine dn 8 (G_ rfl rfl rfl) rfl ?_ | refine dn 8 (o_ rfl rfl rfl) rfl ?_
  refine dn 9 (iQ rfl rfl) rfl ?_
  first | refine dn 10 (aaC rfl rfl rfl) rfl ?_ | refine dn 10 (Fz rfl rfl rfl) rfl ?_
  first | refine dn 11 (Zi rfl rfl rfl) rfl ?_ | refine dn 11 (MZ rfl rfl rfl) rfl ?_
  refine dn 12 (jS rfl rfl) rfl ?_
  refine az ?_
  refine dI<|aA<|W.region rfl<|qm rfl rfl rfl ?_
  refine ag1 rfl ?_
  refine agb rfl rfl rfl<|pq ?_
  exact⟨rfl,k+1,by omega,by omega,⟨lk rfl (show I _=I _ by congr 1),lk rfl (show I _=I _ by rw[hnx,Int.mul_add,Int.add_assoc]),rfl,rfl,rfl,rfl,trivial⟩,.refl⟩
 ·obtain rfl:k=t:=by omega
  refine W.exit<|bP<|bP<|gG<|aA<|W.seq<|W.region rfl<|qm rfl rfl rfl<|agb rfl rfl rfl<|Ops.nil ?_
  refine aA<|W.ret ?_
  exact uZ rfl
end Go.aS

/- Proofs out of a hat. Conditions: none; over the given program. -/
namespace Go.aS
set_option maxRecDepth 100000
set_option maxHeartbeats 1000000
theorem aG9(main:Side)(h:Hp)(nums:List Int)(lv:Value)(b k:Nat)(s:Int)(vs vr vm vh vp vq vw:Value)(B:Boi)(ok:BOK B)(ql apU:List Int)(hl:Sl h fH lv nums)(hk:k≤1000000)(H:aBp h vs vr vm vh vp B)(hq:Sl h fH vq ql)(hw:Sl h fH vw apU)(RF:ql.length=B.ss.length)(hwl:apU.length=B.hs.length)(hq1:∀q∈ql,0≤q∧q≤40)(hb4:∀a∈apU,0≤a∧a≤4):
  dV prog main aCu #[bI b,ax8 vs vr vm vh vp,vq,vw] h [(b,wF lv k s)] (fun v A=>∃p s',v=Prf.val p∧(0≤p.Jq∧p.Jq<B.ss.length)∧(0≤p.tick∧p.tick≤B.hs.length)∧p.th=awL B.ms (ql.getD p.Jq.toNat 0+aw_ B.rs apU p.Jq.toNat p.tick.toNat)∧Sb [(b,wF lv (k+2) s')] A):=by
 have hs1:=ok.s1
 have hs2:=ok.s2
 have hh5:=ok.h2
 have hr1:=ok.r1
 obtain⟨a1,cap1,hvs⟩:=H.sm.dA
 obtain⟨a4,cap4,hvh⟩:=H.hm.dA
 subst hvs hvh
 refine dV.aG aEk rfl (by show 4≤34;decide) [(0,bI b),(1,ax8 (.slice a1 B.ss.length cap1) vr vm (.slice a4 B.hs.length cap4) vp),(2,vq),(3,vw)] ⟨rfl,rfl,rfl,rfl,trivial⟩ ?_
 refine W.seq<|W.region rfl ?_
 refine Ops.box (fun mZ=>?_)
 refine Ops.new (fun yD=>?_)
 refine pq<|W.seq ?_
 refine W.mono (Q:=(fun e ρ' ds' F'=>e= .normal∧ds'=[]∧∃(p t:Nat) (s2:Int) (Uw:Nat),(p<B.ss.length∧t≤B.hs.length)∧Sub [(9,bI Uw),(2,vq),(3,vw),(5,bI mZ),(8,bI yD)] ρ'∧Sb ((Uw,.cells #[I p,I t,I 0] aB3 (0,0))::(yD,.cells #[I 0,I 0,I 0] aB3 (0,0))::(mZ,.cells (Wv (.slice a1 B.ss.length cap1) vr vm (.slice a4 B.hs.length cap4) vp) MP (0,0))::[(b,wF lv (k+1+1) s2)]) F')) ?_ ?_
 ·refine W.DR [(mZ,.cells (Wv (.slice a1 B.ss.length cap1) vr vm (.slice a4 B.hs.length cap4) vp) MP (0,0))] (n:=14) rfl ?_
  refine dn 0 (aN rfl rfl) rfl ?_
  refine dn 1 (ay rfl rfl) rfl ?_
  refine dn 2 (iQ rfl rfl) rfl ?_
  refine dn 3 (dM rfl rfl) rfl ?_
  refine dn 4 (acL rfl rfl rfl) rfl ?_
  refine dn 6 (aN rfl rfl) rfl ?_
  refine dn 7 (ay rfl rfl) rfl ?_
  refine dn 8 (iQ rfl rfl) rfl ?_
  refine dn 9 (dM rfl rfl) rfl ?_
  refine Any.WB (i:=5) (j:=12) (by kernel_rfl) (aU rfl) (aU rfl) an an rfl rfl rfl rfl ?_ ?_
  ·refine(QZ (A:=[(b,_)]) (args:=[_,_]) rfl rfl (.tail (.tail (.head))) (fun h' hE hL=>UC _ h' nums lv b k s ((B.ss.length:Int)-1) (hl.ext hE) (by omega) (by omega)) (fun v A' hv=>?_))
   refine⟨.inr (by repeat(first | exact Keeps.nil | refine Keeps.one (by repeat(first | exact List.Mem.head _ | apply List.Mem.tail)) ?_)),?_⟩
   obtain⟨p0,s1,rfl,hp0,hsb⟩:=hv
   refine Any.sb (.cons (.cons (hsb.app .refl))) ?_
   refine Any.WB (i:=10) (j:=12) (by kernel_rfl) (aU rfl) (aU rfl) an an rfl rfl rfl rfl ?_ ?_
   ·refine(QZ (A:=[(b,_)]) (args:=[_,_]) rfl rfl (.tail (.tail (.head))) (fun h' hE hL=>UC _ h' nums lv b (k+1) s1 (B.hs.length:Int) (hl.ext hE) (by omega) (by omega)) (fun v A' hv=>?_))
    refine⟨.inr (by repeat(first | exact Keeps.nil | refine Keeps.one (by repeat(first | exact List.Mem.head _ | apply List.Mem.tail)) ?_)),?_⟩
    obtain⟨t0,s2,rfl,ht0,hsb⟩:=hv
    refine Any.sb (.cons (.cons (hsb.app .refl))) ?_
    refine dn 11 (eH (cs:= #[I p0,I t0,I 0]) rfl rfl (by kernel_rfl)) rfl ?_
    refine ae (i:=12) rfl an rfl rfl (eN rfl (fun Uw=>?_))
    refine⟨.inr (by repeat(first | exact Keeps.nil | refine Keeps.one (by repeat(first | exact List.Mem.head _ | apply List.Mem.tail)) ?_)),?_⟩
    refine ae (i:=13) rfl an rfl rfl (eSW rfl rfl rfl ?_)
    refine⟨.inl (by kernel_rfl),?_⟩
    refine az ?_
    obtain⟨p,rfl⟩:∃p:Nat,p0=p:=⟨p0.toNat,by omega⟩
    obtain⟨t,rfl⟩:∃t:Nat,t0=t:=⟨t0.toNat,by omega⟩
    exact⟨rfl,rfl,p,t,s2,Uw,⟨by omega,by omega⟩,⟨rfl,rfl,rfl,rfl,rfl,trivial⟩,.refl⟩
   ·refine(eN rfl (fun Uw=>?_))
    refine⟨.inr (by repeat(first | exact Keeps.nil | refine Keeps.one (by repeat(first | exact List.Mem.head _ | apply List.Mem.tail)) ?_)),?_⟩
    refine ae (i:=10) rfl an rfl rfl (QZ (A:=[(b,_)]) (args:=[_,_]) rfl rfl (.tail (.tail (.tail (.head)))) (fun h' hE hL=>UC _ h' nums lv b (k+1) s1 (B.hs.length:Int) (hl.ext hE) (by omega) (by omega)) (fun v A' hv=>?_))
    refine⟨.inr (by repeat(first | exact Keeps.nil | refine Keeps.one (by repeat(first | exact List.Mem.head _ | apply List.Mem.tail)) ?_)),?_⟩
    obtain⟨t0,s2,rfl,ht0,hsb⟩:=hv
    refine Any.sb (.cons (.cons (.cons (hsb.app .refl)))) ?_
    refine dn 11 (eH (cs:= #[I p0,I t0,I 0]) rfl rfl (by kernel_rfl)) rfl ?_
    refine ae (i:=13) rfl an rfl rfl (eSW rfl rfl rfl ?_)
    refine⟨.inl (by kernel_rfl),?_⟩
    refine az ?_
    obtain⟨p,rfl⟩:∃p:Nat,p0=p:=⟨p0.toNat,by omega⟩
    obtain⟨t,rfl⟩:∃t:Nat,t0=t:=⟨t0.toNat,by omega⟩
    exact⟨rfl,rfl,p,t,s2,Uw,⟨by omega,by omega⟩,⟨rfl,rfl,rfl,rfl,rfl,trivial⟩,.refl⟩
  ·refine(eN rfl (fun Uw=>?_))
   refine⟨.inr (by repeat(first | exact Keeps.nil | refine Keeps.one (by repeat(first | exact List.Mem.head _ | apply List.Mem.tail)) ?_)),?_⟩
   refine ae (i:=5) rfl an rfl rfl (QZ (A:=[(b,_)]) (args:=[_,_]) rfl rfl (.tail (.tail (.tail (.head)))) (fun h' hE hL=>UC _ h' nums lv b k s ((B.ss.length:Int)-1) (hl.ext hE) (by omega) (by omega)) (fun v A' hv=>?_))
   refine⟨.inr (by repeat(first | exact Keeps.nil | refine Keeps.one (by repeat(first | exact List.Mem.head _ | apply List.Mem.tail)) ?_)),?_⟩
   obtain⟨p0,s1,rfl,hp0,hsb⟩:=hv
   refine Any.sb (.cons (.cons (.cons (hsb.app .refl)))) ?_
   refine ae (i:=10) rfl an rfl rfl (QZ (A:=[(b,_)]) (args:=[_,_]) rfl rfl (.tail (.tail (.tail (.head)))) (fun h' hE hL=>UC _ h' nums lv b (k+1) s1 (B.hs.length:Int) (hl.ext hE) (by omega) (by omega)) (fun v A' hv=>?_))
   refine⟨.inr (by repeat(first | exact Keeps.nil | refine Keeps.one (by repeat(first | exact List.Mem.head _ | apply List.Mem.tail)) ?_)),?_⟩
   obtain⟨t0,s2,rfl,ht0,hsb⟩:=hv
   refine Any.sb (.cons (.cons (.cons (hsb.app .refl)))) ?_
   refine dn 11 (eH (cs:= #[I p0,I t0,I 0]) rfl rfl (by kernel_rfl)) rfl ?_
   refine ae (i:=13) rfl an rfl rfl (eSW rfl rfl rfl ?_)
   refine⟨.inl (by kernel_rfl),?_⟩
   refine az ?_
   obtain⟨p,rfl⟩:∃p:Nat,p0=p:=⟨p0.toNat,by omega⟩
   obtain⟨t,rfl⟩:∃t:Nat,t0=t:=⟨t0.toNat,by omega⟩
   exact⟨rfl,rfl,p,t,s2,Uw,⟨by omega,by omega⟩,⟨rfl,rfl,rfl,rfl,rfl,trivial⟩,.refl⟩
 rintro e ρ' ds' F' ⟨rfl,rfl,p,t,s2,Uw,⟨hpb,htb⟩,hE0,hsb⟩
 refine aA (W.env hE0 (W.sb hsb ?_))
 refine W.seq ?_
 refine W.aIP (n:=12) rfl ?_
 first | refine dn 0 (Bf rfl rfl) rfl ?_ | refine dn 0 (zi rfl rfl) rfl ?_ | refine dn 0 (ady rfl rfl) rfl ?_
 first | refine dn 1 (Bf rfl rfl) rfl ?_ | refine dn 1 (zi rfl rfl) rfl ?_ | refine dn 1 (ady rfl rfl) rfl ?_
 refine dn 2 (aN rfl rfl) rfl ?_
 refine dn 3 (aN rfl rfl) rfl ?_
 refine dn 4 (ay rfl rfl) rfl ?_
 refine dn 5 (iQ rfl rfl) rfl ?_
 refine dn 6 (ay rfl rfl) rfl ?_
 refine dn 7 (iQ rfl rfl) rfl ?_
 refine Va (i:=8) (fun h' hE hL=>aGh _ h' _ vm _ vp vr vq vw B.rs ql apU p t (H.rm.ext hE) (hq.ext hE) (hw.ext hE) (by omega) (by omega) (by omega) (by omega) ok.rp hq1 hb4) ?_ (hS:=.inr (by repeat(first | exact Keeps.nil | refine Keeps.one (by repeat(first | exact List.Mem.head _ | apply List.Mem.tail)) ?_)))
 refine Va (i:=9) (fun h' hE hL=>aFL _ h' _ vr vm _ vp B.ms _ (H.mm.ext hE) ok.mp) ?_ (hS:=.inr (by repeat(first | exact Keeps.nil | refine Keeps.one (by repeat(first | exact List.Mem.head _ | apply List.Mem.tail)) ?_)))
 refine dn 10 (ay rfl rfl) rfl ?_
 refine ae (i:=11) rfl an rfl rfl (eS rfl rfl rfl ?_)
 refine⟨.inl (by kernel_rfl),?_⟩
 refine az ?_
 refine aA<|W.seq<|W.region rfl ?_
 first | refine ag2 rfl ?_ | refine agW (ady rfl rfl) rfl ?_
 first | refine Ops.jP ?_ | refine Ops.nY ?_
 refine pq<|W.ret ?_
 refine QJ (hv:=D_ zJ) ⟨⟨p,t,(awL B.ms (ql.getD p 0+aw_ B.rs apU p t):Nat)⟩,s2,rfl,⟨by simp only;omega,by simp only;omega⟩,⟨by simp only;omega,by simp only;omega⟩,by simp only[Int.toNat_natCast],.skip rfl (.skip rfl (.skip rfl .refl))⟩
end Go.aS

/- Boils with proofs that are right in a run. Conditions: none; over the given program. -/
namespace Go.aS
set_option maxRecDepth 100000
set_option maxHeartbeats 1000000
theorem aGi:∀{hs:List Spn} {x:List Int},x.length=hs.length→(∀(i:Nat) p s,x[i]? =some p→hs[i]? =some s→s.lo≤p∧p≤s.hi)→x∈allH hs
 | [],x,h,_=>by
  have:x=[]:=List.length_eq_zero_iff.1 h
  subst this;simp[allH]
 | s::hs,[],h,_=>by simp at h
 | s::hs,a::x,h,H=>by
  simp only[allH,List.mem_flatMap,List.mem_map]
  refine⟨a,aHw.2 (H 0 a s rfl rfl),x,aGi (by simpa using h) (fun i p s' h1 h2=>H (i+1) p s' (by simpa using h1) (by simpa using h2)),rfl⟩
theorem aIQ{rs x:List Int}{Jq t:Nat}(ht:t≤x.length):aw_ rs (MF x) Jq t=aw_ rs x Jq t:=by
 unfold aw_ MF
 rw[List.take_append_of_le_length ht]
theorem aJN{B:Boi}{q x:List Int}(ok:BOK B)(ql:q.length=B.ss.length)(qs:∀(i:Nat) n s,q[i]? =some n→B.ss[i]? =some s→s.lo≤n∧n≤s.hi)(xm:x∈allH B.hs)(pr:∀p∈B.ps,p.th=awL B.ms (q.getD p.Jq.toNat 0+aw_ B.rs x p.Jq.toNat p.tick.toNat)):1≤(ayo B).length:=by
 have hxl:=az0 xm
 have hx4:∀a∈MF x,0≤a∧a≤4:=aFG fun a ha=>aC4 (fun s hs'=>⟨(ok.hp s hs').1,(ok.hp s hs').2.2⟩) xm ha
 have h5:=ok.h2
 have hin:InS q (axX B (MF x)):=by
  refine InS.fold (fun i n s hi hs=>?_) fun p hp n hn=>?_
  ·have hl:i<B.ss.length:=by have:=(List.getElem?_eq_some_iff.1 hi).1;rw[ql]at this;exact this
   rw[aG_,List.getElem?_append_left hl]at hs
   exact qs i n s hi hs
  ·have hpp:=ok.pp p hp
   have h1:=pr p hp
   rw[←aIQ (x:=x) (by omega)]at h1
   have h2:q.getD p.Jq.toNat 0=n:=by rw[List.getD_eq_getElem?_getD,hn];rfl
   rw[h2]at h1
   have h3:p.th.toNat=awL B.ms (n+aw_ B.rs (MF x) p.Jq.toNat p.tick.toNat):=by omega
   rw[h3]
   have hl:p.Jq.toNat<B.ss.length:=by omega
   obtain⟨s,hs⟩:∃s,B.ss[p.Jq.toNat]? =some s:=⟨_,List.getElem?_eq_getElem hl⟩
   have h4:=qs _ n s hn hs
   have h5':=ok.sp s (List.mem_of_getElem? hs)
   have h6:=aAU (Jq:=p.Jq.toNat) (t:=p.tick.toNat) ok.rp hx4 (by omega)
   exact aFM ok.mp (by omega)
 have hpos:0<azh B (MF x):=by
  unfold azh aLy
  refine aCv (by decide) fun y hy=>?_
  obtain⟨s,hs,rfl⟩:=List.mem_map.1 hy
  obtain⟨i,hi⟩:=List.mem_iff_getElem?.1 hs
  rw[List.getElem?_take]at hi
  split at hi
  ·rename_i hl
   obtain⟨n,hn⟩:∃n,q[i]? =some n:=⟨_,List.getElem?_eq_getElem (by rw[ql];exact hl)⟩
   have:=hin i n s hn hi
   unfold aGj;omega
  ·cases hi
 exact List.length_pos_of_mem (aAC.2 ⟨xm,by omega⟩)
end Go.aS

/- ProvedOf. Conditions: none; over the given program. -/
namespace Go.aS
set_option maxRecDepth 100000
set_option maxHeartbeats 1000000
theorem aGk(main:Side)(h:Hp)(nums:List Int)(lv:Value)(b k:Nat)(s:Int)(hl:Sl h fH lv nums)(hk:k≤10000):dV prog main aBt #[bI b,I 3,I 4] h [(b,wF lv k s)]
  (fun v A=>∃(B:Boi) (vs vr vm vh vp vq vw:Value) (ql apU:List Int) (Ss Sr Sm Sh Sp Sq Sw:eG) (k':Nat) (s':Int),v= .tuple #[ax8 vs vr vm vh vp,vq,vw]∧BOK B∧B.hs.length≤4∧1≤(ayo B).length∧Os ayj Spn.row vs B.ss Ss∧Os dL fH vr B.rs Sr∧Os dL fH vm [B.ms.1,B.ms.2.1,B.ms.2.2] Sm∧Os ayj Spn.row vh B.hs Sh∧Os aB3 Prf.row vp B.ps Sp∧Os dL fH vq ql Sq∧Os dL fH vw apU Sw∧k'≤k+300∧Sb ((b,wF lv k' s')::(Sp++(Ss++(Sr++(Sm++(Sh++(Sq++Sw))))))) A):=by
 refine dV.aG aDU rfl (by show 3≤42;decide) [(0,bI b),(1,I 3),(2,I 4)] ⟨rfl,rfl,rfl,trivial⟩ ?_
 refine W.seq<|W.region rfl ?_
 refine Ops.new (fun yC=>?_)
 refine agb rfl rfl rfl<|agb rfl rfl rfl<|pq<|W.seq<|W.region rfl<|qm rfl rfl rfl<|qm rfl rfl rfl<|qm rfl rfl rfl ?_
 refine cg (A:=[(b,_)]) (.tail .head) (fun h' hE hL=>aH1 _ h' nums lv b k s (hl.ext hE) (by omega)) (fun v A' hv=>?_)
 obtain⟨vs,vr,vm,vh,ss,rs,m1,m2,m3,hs,Ss,Sr,Sm,Sh,k1,s1,rfl,hOs,hOr,hOm,hOh,ok,hh4,hk1,hsb⟩:=hv
 obtain⟨a1,c1,rfl⟩:=hOs.dA
 obtain⟨a2,c2,rfl⟩:=hOr.dA
 obtain⟨a3,c3,rfl⟩:=hOm.dA
 obtain⟨a4,c4,rfl⟩:=hOh.dA
 have hs2:=ok.s2
 have hh5:=ok.h2
 have hsp:=ok.sp
 have hhp:=ok.hp
 simp only at hs2 hh5 hsp hhp
 refine Ops.sb (F':=(b,wF lv k1 s1)::(yC,.cells (Wv ax7 ax7 ax7 ax7 ax7) MP (0,0))::(Ss++(Sr++(Sm++Sh)))) ?_ ?_
 ·refine Sb.trans (.dF (show List.Perm _ ((yC,.cells (Wv ax7 ax7 ax7 ax7 ax7) MP (0,0))::((b,wF lv k1 s1)::(Ss++(Sr++(Sm++Sh)))):eG)from .swap _ _ _)) (.cons ?_)
  first | exact hsb | (rw[List.append_nil];exact hsb)
 refine Ops.new (fun Uw=>?_)
 first | refine Ops.jP ?_ | refine Ops.nY ?_
 refine pq<|W.seq<|W.region rfl<|qm rfl rfl rfl ?_
 first | refine ag2 rfl ?_ | refine agW (ady rfl rfl) rfl ?_
 refine cg (A:=[(b,_)]) (.tail .head) (fun h' hE hL=>aIO _ h' nums lv b k1 s1 _ _ _ _ _ ss hs (hl.ext hE) (by omega) (hOs.sl (fun q o hq=>hL q o (by simp[hq]))) (hOh.sl (fun q o hq=>hL q o (by simp[hq]))) hs2 hsp hh5 hhp) (fun v A' hv=>?_)
 obtain⟨vq,vw,ql,apU,Sq,Sw,k2,s2,rfl,hOq,hOw,RF,hq1,hwl,hw1,hk2,Oh⟩:=hv
 obtain⟨aQ,cq,rfl⟩:=hOq.dA
 obtain⟨aW,cw,rfl⟩:=hOw.dA
 have aKq:apU∈allH hs:=aGi hwl hw1
 have aMz:∀q∈ql,0≤q∧q≤40:=fun q hq=>by
  obtain⟨i,hi⟩:=List.mem_iff_getElem?.1 hq
  have hil:=(List.getElem?_eq_some_iff.1 hi).1
  obtain⟨s,hs,-⟩:=has (show i<ss.length by omega)
  have h1:=hq1 i q s hi hs
  have h2:=hsp s (List.mem_of_getElem? hs)
  omega
 have hw4:∀a∈apU,0≤a∧a≤4:=fun a ha=>aC4 (fun s hs'=>⟨(hhp s hs').1,(hhp s hs').2.2⟩) aKq ha
 refine Ops.sb (F':=(b,wF lv k2 s2)::(Uw,.cells (Wv (.slice a1 ss.length c1) (.slice a2 rs.length c2) (.slice a3 3 c3) (.slice a4 hs.length c4) ax7) MP (0,0))::(yC,.cells (Wv ax7 ax7 ax7 ax7 ax7) MP (0,0))::(Ss++(Sr++(Sm++(Sh++(Sq++Sw)))))) ?_ ?_
 ·refine Sb.trans (.dF (show List.Perm _ ((Uw,.cells (Wv (.slice a1 ss.length c1) (.slice a2 rs.length c2) (.slice a3 3 c3) (.slice a4 hs.length c4) ax7) MP (0,0))::(((b,wF lv k2 s2)::(Sq++Sw))++((yC,.cells (Wv ax7 ax7 ax7 ax7 ax7) MP (0,0))::(Ss++(Sr++(Sm++Sh))))):eG)from agQ fun y=>by simp only[List.count_append,List.count_cons,List.count_nil];omega)) (.cons (Oh.app .refl))
 refine qm rfl rfl rfl<|oq (bD rfl rfl rfl) rfl wn rfl rfl<|oq (bD rfl rfl rfl) rfl wn rfl rfl<|agb rfl rfl rfl<|agb rfl rfl rfl<|pq<|W.seq<|W.seq<|W.region rfl ?_
 refine qm rfl rfl rfl ?_
 refine cg (A:=[(b,_)]) .head (fun h' hE hL=>UC _ h' nums lv b k2 s2 3 (hl.ext hE) (by omega) (by omega)) (fun v A' hv=>?_)
 obtain⟨r,s3,rfl,hr,afy⟩:=hv
 refine Ops.sb (afy.app .refl) ?_
 obtain⟨N,rfl⟩:∃N:Nat,r=N:=⟨r.toNat,by omega⟩
 refine agb rfl rfl rfl<|pq<|W.block ?_
 refine W.Js (σ:=Nat) (τ:=List Prf×Value) (υ:=(Nat×Int)×eG) (fun i t u=>i≤N∧t.1.length+i=N∧BOK ⟨ss,rs,(m1,m2,m3),hs,t.1⟩∧(∀p∈t.1,p.th=awL (m1,m2,m3) (ql.getD p.Jq.toNat 0+aw_ rs apU p.Jq.toNat p.tick.toNat))∧Os aB3 Prf.row t.2 t.1 u.2∧u.1.1+2*i≤k2+1+2*N) (fun i _ _=>[(12,I i),(9,bI Uw),(10,.slice aQ ql.length cq),(11,.slice aW apU.length cw),(6,bI yC),(0,bI b)])
  (fun _ t u=>(b,wF lv u.1.1 u.1.2)::(Uw,.cells (Wv (.slice a1 ss.length c1) (.slice a2 rs.length c2) (.slice a3 3 c3) (.slice a4 hs.length c4) t.2) MP (0,0))::(yC,.cells (Wv ax7 ax7 ax7 ax7 ax7) MP (0,0))::(u.2++(Ss++(Sr++(Sm++(Sh++(Sq++Sw))))))) (fun i _ _=>i) N ([],ax7) ((k2+1,s3),[]) ⟨Nat.le_refl _,by simp,ok,(fun p hp=>by cases hp),.nil .nil,by dsimp only;omega⟩ ⟨rfl,rfl,rfl,rfl,rfl,rfl,trivial⟩ .refl ?_
 rintro i ⟨lp,vp⟩ ⟨⟨k3,s4⟩,Sp⟩ ⟨hi,h1,okp,hpr,hP,hk3⟩
 dsimp only at*
 obtain⟨pa,pc,rfl⟩:=hP.dA
 refine W.seq<|W.seq<|W.region rfl<|qm rfl rfl rfl ?_
 refine agW (rC rfl rfl rfl) rfl ?_
 refine pq ?_
 refine W.bC rfl (fun c26=>?_) (fun c26=>?_)
 ·have hi1:1≤i:=by omega
  refine W.skip<|aA<|W.seq<|W.block ?_
  refine W.DR [(Uw,.cells (Wv (.slice a1 ss.length c1) (.slice a2 rs.length c2) (.slice a3 3 c3) (.slice a4 hs.length c4) (.slice pa lp.length pc)) MP (0,0))] (n:=11) rfl ?_
  refine dn 0 (ay rfl rfl) rfl ?_
  refine dn 1 (iQ rfl rfl) rfl ?_
  refine dn 2 (aN rfl rfl) rfl ?_
  first | refine dn 3 (Bf rfl rfl) rfl ?_ | refine dn 3 (zi rfl rfl) rfl ?_ | refine dn 3 (ady rfl rfl) rfl ?_
  refine dn 4 (aN rfl rfl) rfl ?_
  refine dn 5 (aN rfl rfl) rfl ?_
  refine ae (i:=6) rfl an rfl rfl (QZ (A:=[(b,_)]) (args:=[_,_,_,_]) rfl rfl .head (fun h' hE hL=>aG9 _ h' nums lv b k3 s4 _ _ _ _ _ _ _ ⟨ss,rs,(m1,m2,m3),hs,lp⟩ okp ql apU (hl.ext hE) (by omega) ⟨hOs.sl (fun q o hq=>hL q o (by simp[hq])),hOr.sl (fun q o hq=>hL q o (by simp[hq])),hOm.sl (fun q o hq=>hL q o (by simp[hq])),hOh.sl (fun q o hq=>hL q o (by simp[hq])),hP.sl (fun q o hq=>hL q o (by simp[hq]))⟩ (hOq.sl (fun q o hq=>hL q o (by simp[hq]))) (hOw.sl (fun q o hq=>hL q o (by simp[hq]))) RF hwl aMz hw4) (fun v A' hv=>?_))
  refine⟨.inr (Keeps.one (List.mem_append_right _ (.head _)) Keeps.nil),?_⟩
  obtain⟨p,s5,rfl,hp1,hp2,hp3,af4⟩:=hv
  refine Any.sb (af4.app .refl) ?_
  refine abl (i:=7) (cs:= #[I p.Jq,I p.tick,I p.th]) (fun afr=>?_) rfl
  refine ae (i:=8) rfl an rfl rfl (iW (row:=Prf.row) (l':=[p]) rfl rfl rfl hP (.tail (.tail (.tail (.tail .head)))) (fun h2 _ hl=>Sl.mk (hl afr _ (.head _)) rfl (Part.all (flat Prf.row [p]))) (by simp;omega) (by decide) rfl (fun v2 S2 hS2=>?_))
  refine⟨.inr (by repeat(first | exact Keeps.nil | refine Keeps.one (by repeat(first | exact List.Mem.head _ | apply List.Mem.tail)) ?_)),?_⟩
  obtain⟨pa2,pc2,rfl⟩:=hS2.dA
  refine dn 9 (ay rfl rfl) rfl ?_
  refine ae (i:=10) rfl an rfl rfl (eS rfl rfl rfl ?_)
  refine⟨.inl (by kernel_rfl),?_⟩
  refine az ?_
  refine dI<|aA<|W.region rfl<|qm rfl rfl rfl ?_
  refine ag5 rfl ?_
  refine agb rfl rfl rfl<|pq ?_
  refine⟨rfl,i-1,(lp++[p],_),((k3+2,s5),S2),⟨by omega,by simp;omega,⟨okp.s1,okp.s2,okp.sp,okp.r1,okp.rp,okp.mp,okp.h1,okp.h2,okp.hp,by simp;omega,fun y hy=>?_⟩,fun y hy=>?_,hS2,by dsimp only;omega⟩,by omega,⟨lk rfl (show I _=I _ by congr 1;omega),rfl,rfl,rfl,rfl,rfl,trivial⟩,.skip rfl .refl⟩
  ·rcases List.mem_append.1 hy with hy | hy
   ·exact okp.pp y hy
   ·rw[List.mem_singleton.1 hy];refine⟨hp1,hp2,?_⟩
    rw[hp3];unfold awL;(repeat' split) <;>omega
  ·rcases List.mem_append.1 hy with hy | hy
   ·exact hpr y hy
   ·rw[List.mem_singleton.1 hy];exact hp3
 ·obtain rfl:i=0:=by omega
  refine W.exit<|bP<|bP<|gG<|aA<|W.seq<|W.region rfl ?_
  first | refine ag2 rfl ?_ | refine agW (ady rfl rfl) rfl ?_
  refine qm rfl rfl rfl<|qm rfl rfl rfl ?_
  first | refine Ops.jP ?_ | refine Ops.nY ?_
  refine agb rfl rfl rfl<|agb rfl rfl rfl<|pq<|W.ret ?_
  refine QJ (hv:=D_ (RN (RN zJ))) ⟨⟨ss,rs,(m1,m2,m3),hs,lp⟩,_,_,_,_,_,_,_,ql,apU,Ss,Sr,Sm,Sh,Sp,Sq,Sw,k3,s4,rfl,okp,hh4,aJN okp RF hq1 aKq hpr,hOs,hOr,hOm,hOh,hP,hOq,hOw,by omega,.cons (.skip rfl (.skip rfl .refl))⟩
end Go.aS

/- The example of the law on ladles, in numbers. Conditions: none. -/
namespace Go.aS
set_option maxRecDepth 100000
set_option maxHeartbeats 1000000
def awB:Boi:=⟨[⟨3,3⟩],[2],(5,7,20),[⟨1,1⟩,⟨2,2⟩,⟨0,1⟩],[]⟩
theorem aMA:BOK awB:=by
 refine⟨by decide,by decide,?_,by decide,?_,by decide,by decide,by decide,?_,by decide,?_⟩
 ·intro s hs;have:s=⟨3,3⟩:=by simpa[awB]using hs
  subst this;decide
 ·intro r hr;have:r=2:=by simpa[awB]using hr
  subst this;decide
 ·intro s hs
  simp only[awB,List.mem_cons,List.not_mem_nil,or_false]at hs
  rcases hs with rfl | rfl | rfl <;>decide
 ·intro p hp;cases hp
theorem aLz:1≤(ayo awB).length:=by
 have:(ayo awB).length=2:=by kernel_rfl
 omega
theorem aLA:WR awB 0=[2,3]:=by kernel_rfl
theorem aKK:aye [⟨1,1,2,0⟩] [⟨2,1,1⟩]=([⟨0,2⟩],1,0):=by kernel_rfl
end Go.aS

/- Equal lists of numbers, of berths; where a number stands. Conditions: none; over the given program. -/
namespace Go.aS
set_option maxRecDepth 100000
set_option maxHeartbeats 1000000
theorem VU(main:Side)(h:Hp)(l l':List Int)(v v':Value)(hl:Sl h fH v l)(hl':Sl h fH v' l')(hn:l.length≤100000):Pu prog main wY #[v,v'] h (.bool (decide (l=l'))):=by
 obtain⟨a,cap,rfl⟩:=hl.dA
 obtain⟨a',cap',rfl⟩:=hl'.dA
 refine dV.aG KA rfl (by show 2≤32;decide) [(0,.slice a l.length cap),(1,.slice a' l'.length cap')] ⟨rfl,rfl,trivial⟩ ?_
 refine W.seq<|W.region rfl<|agb rfl rfl rfl<|pq<|W.seq<|W.seq<|W.region rfl<|agb rfl rfl rfl<|Ops.nil ?_
 refine aA<|W.block ?_
 refine W.loop (σ:=Nat) (fun k=>k≤l.length∧k≤l'.length∧l.take k=l'.take k) (fun k=>[(5,I k),(0,.slice a l.length cap),(1,.slice a' l'.length cap')]) (fun _=>[]) (fun k=>l.length-k) 0 ⟨Nat.zero_le _,Nat.zero_le _,rfl⟩ ⟨rfl,rfl,rfl,trivial⟩ TW ?_
 rintro k ⟨hk,hk',he⟩
 refine W.seq<|W.seq<|W.region rfl<|qm rfl rfl rfl<|qm rfl rfl rfl ?_
 refine agW (dM rfl rfl) rfl ?_
 refine agW (fO rfl rfl rfl) rfl ?_
 refine qm rfl rfl rfl ?_
 refine Ops.ask (fun afD=>?_) (fun afD=>?_)
 ·refine oq (aN rfl rfl) rfl (ak rfl rfl rfl) rfl rfl ?_
  refine oq (aN rfl rfl) rfl (ak rfl rfl rfl) rfl rfl ?_
  refine oq (dM rfl rfl) rfl (ak rfl rfl rfl) rfl rfl ?_
  refine oq (fO rfl rfl rfl) rfl (ak rfl rfl rfl) rfl rfl ?_
  refine agW (dG rfl rfl rfl) rfl ?_
  refine pq ?_
  refine W.bC rfl (fun c15=>?_) (fun c15=>?_)
  ·obtain⟨p,hp,-⟩:=has (show k<l.length by omega)
   obtain⟨q,hq,-⟩:=has (show k<l'.length by omega)
   obtain⟨b,off,c,E,fz,rfl,hb,-,hy1,hz1⟩:=hl.at hp
   have hx2:c[off+k*1+0]? =some (I p):=hz1 0 (by decide)
   clear hz1
   obtain⟨b',off',c',E',fz',rfl,hb',-,hy2,hz1⟩:=hl'.at hq
   have hx3:c'[off'+k*1+0]? =some (I q):=hz1 0 (by decide)
   clear hz1
   refine W.skip<|aA<|W.seq<|W.block<|W.seq ?_
   refine W.rE (n:=9) rfl ?_
   refine dn 0 (aN rfl rfl) rfl ?_
   refine dn 1 (aN rfl rfl) rfl ?_
   first | refine dn 2 (G_ rfl rfl rfl) rfl ?_ | refine dn 2 (o_ rfl rfl rfl) rfl ?_
   refine dn 3 (iQ rfl rfl) rfl ?_
   refine dn 4 (aN rfl rfl) rfl ?_
   refine dn 5 (aN rfl rfl) rfl ?_
   first | refine dn 6 (G_ rfl rfl rfl) rfl ?_ | refine dn 6 (o_ rfl rfl rfl) rfl ?_
   refine dn 7 (iQ rfl rfl) rfl ?_
   refine dn 8 (nG rfl rfl rfl) rfl ?_
   refine az ?_
   refine aA ?_
   refine W.bC rfl (fun c26=>?_) (fun c26=>?_)
   ·refine W.seq<|W.region rfl<|agb rfl rfl rfl<|pq<|W.ret<|cZ<|aY<|aY<|cZ ?_
    refine aY ?_
    refine uZ ?_
    refine congrArg Value.bool (decide_eq_false fun e=>?_).symm
    subst e
    rw[hp]at hq
    cases hq
    exact c26 rfl
   ·refine W.skip<|dI<|aA<|W.region rfl<|qm rfl rfl rfl ?_
    refine ag1 rfl ?_
    refine agb rfl rfl rfl<|pq ?_
    have hpq:p=q:=Decidable.byContradiction c26
    subst hpq
    exact⟨rfl,k+1,⟨by omega,by omega,by rw[MG hp,MG hq,he]⟩,by omega,⟨rfl,rfl,rfl,trivial⟩,TW⟩
  ·refine W.exit<|bP<|bP<|gG<|aA<|W.seq<|W.region rfl<|qm rfl rfl rfl ?_
   refine agW (dM rfl rfl) rfl ?_
   refine qm rfl rfl rfl ?_
   refine agW (dM rfl rfl) rfl ?_
   refine agW (nD rfl rfl rfl) rfl ?_
   refine agb rfl rfl rfl<|pq<|W.ret ?_
   refine uZ ?_
   refine congrArg Value.bool (decide_eq_decide.2 ⟨fun e=>?_,fun e=>?_⟩)
   ·have e':l.length=l'.length:=by omega
    have hkl:k=l.length:=by omega
    rw[←List.take_length (l:=l),←List.take_length (l:=l'),←e',←hkl,he]
   ·rw[e]
 ·refine Ops.no ?_
  refine Ops.no ?_
  refine Ops.no ?_
  refine Ops.no ?_
  refine agW (iH rfl rfl rfl) rfl ?_
  refine pq ?_
  refine W.bZ ?_
  refine W.exit<|bP<|bP<|gG<|aA<|W.seq<|W.region rfl<|qm rfl rfl rfl ?_
  refine agW (dM rfl rfl) rfl ?_
  refine qm rfl rfl rfl ?_
  refine agW (dM rfl rfl) rfl ?_
  refine agW (nD rfl rfl rfl) rfl ?_
  refine agb rfl rfl rfl<|pq<|W.ret ?_
  refine uZ ?_
  refine congrArg Value.bool (decide_eq_decide.2 ⟨fun e=>?_,fun e=>?_⟩)
  ·have e':l.length=l'.length:=by omega
   have hkl:k=l.length:=by omega
   rw[←List.take_length (l:=l),←List.take_length (l:=l'),←e',←hkl,he]
  ·rw[e]

theorem afl(main:Side)(h:Hp)(l:List Int)(v:Value)(q:Int)(hl:Sl h fH v l)(hn:l.length≤100000):dV prog main acD #[v,I q] h [] (fun v A=>∃n:Int,v=I n∧(0≤n↔q∈l)∧Shut A):=by
 obtain⟨a,cap,rfl⟩:=hl.dA
 refine dV.aG aej rfl (by show 2≤19;decide) [(0,.slice a l.length cap),(1,I q)] ⟨rfl,rfl,trivial⟩ ?_
 refine W.seq<|W.region rfl<|agb rfl rfl rfl<|pq<|W.seq<|W.seq<|W.region rfl<|agb rfl rfl rfl<|Ops.nil ?_
 refine aA<|W.block ?_
 refine W.loop (σ:=Nat) (fun k=>k≤l.length∧q∉l.take k) (fun k=>[(5,I k),(0,.slice a l.length cap),(1,I q)]) (fun _=>[]) (fun k=>l.length-k) 0 ⟨Nat.zero_le _,by simp⟩ ⟨rfl,rfl,rfl,trivial⟩ TW ?_
 rintro k ⟨hk,hno⟩
 refine W.seq<|W.seq<|W.region rfl<|qm rfl rfl rfl<|qm rfl rfl rfl ?_
 refine agW (dM rfl rfl) rfl ?_
 refine agW (fO rfl rfl rfl) rfl ?_
 refine pq ?_
 refine W.bC rfl (fun c9=>?_) (fun c9=>?_)
 ·obtain⟨p,hp,-⟩:=has (show k<l.length by omega)
  obtain⟨b,off,c,E,fz,rfl,hb,-,hy1,hz1⟩:=hl.at hp
  have hx2:c[off+k*1+0]? =some (I p):=hz1 0 (by decide)
  clear hz1
  refine W.skip<|aA<|W.seq<|W.block<|W.seq<|W.region rfl<|qm rfl rfl rfl<|qm rfl rfl rfl ?_
  refine ag3 rfl ?_
  refine agX rfl ?_
  refine qm rfl rfl rfl ?_
  refine agW (nD rfl rfl rfl) rfl ?_
  refine pq ?_
  refine W.bC rfl (fun c17=>?_) (fun c17=>?_)
  ·refine W.seq<|W.region rfl<|qm rfl rfl rfl<|agb rfl rfl rfl<|pq<|W.ret<|cZ<|aY<|aY ?_
   refine cZ<|aY ?_
   refine mg (vs:=[I k]) ⟨k,rfl,⟨fun _=>by rw[←c17];exact List.mem_of_getElem? hp,fun _=>by omega⟩,.nil⟩
  ·refine W.skip<|dI<|aA<|W.region rfl<|qm rfl rfl rfl ?_
   refine ag1 rfl ?_
   refine agb rfl rfl rfl<|pq ?_
   refine⟨rfl,k+1,⟨by omega,?_⟩,by omega,⟨rfl,rfl,rfl,trivial⟩,TW⟩
   rw[MG hp]
   intro hm
   rcases List.mem_append.1 hm with hm | hm
   ·exact hno hm
   ·exact c17 (List.mem_singleton.1 hm).symm
 ·obtain rfl:k=l.length:=by omega
  rw[List.take_length]at hno
  refine W.exit<|bP<|bP<|gG<|aA<|W.seq<|W.region rfl<|agb rfl rfl rfl<|pq ?_
  refine W.ret ?_
  exact mg (vs:=[I (-1)]) ⟨-1,rfl,⟨fun h=>by omega,fun h=>absurd h hno⟩,.nil⟩

theorem aLB(p q:Be):(!decide ([p.fl,p.day]=[q.fl,q.day]))=decide (p≠q):=by
 obtain⟨x,y⟩:=p
 obtain⟨x',y'⟩:=q
 by_cases h:x=x'∧y=y'
 ·simp[h]
 ·simp[h]
theorem aGl(main:Side)(h:Hp)(l l':List Be)(v v':Value)(hl:Sl h Be.row v l)(hl':Sl h Be.row v' l')(hn:l.length≤100000):Pu prog main aBu #[v,v'] h (.bool (decide (l=l'))):=by
 obtain⟨a,cap,rfl⟩:=hl.dA
 obtain⟨a',cap',rfl⟩:=hl'.dA
 refine dV.aG aDV rfl (by show 2≤32;decide) [(0,.slice a l.length cap),(1,.slice a' l'.length cap')] ⟨rfl,rfl,trivial⟩ ?_
 refine W.seq<|W.region rfl<|agb rfl rfl rfl<|pq<|W.seq<|W.seq<|W.region rfl<|agb rfl rfl rfl<|Ops.nil ?_
 refine aA<|W.block ?_
 refine W.loop (σ:=Nat) (fun k=>k≤l.length∧k≤l'.length∧l.take k=l'.take k) (fun k=>[(5,I k),(0,.slice a l.length cap),(1,.slice a' l'.length cap')]) (fun _=>[]) (fun k=>l.length-k) 0 ⟨Nat.zero_le _,Nat.zero_le _,rfl⟩ ⟨rfl,rfl,rfl,trivial⟩ TW ?_
 rintro k ⟨hk,hk',he⟩
 refine W.seq<|W.seq<|W.region rfl<|qm rfl rfl rfl<|qm rfl rfl rfl ?_
 refine agW (dM rfl rfl) rfl ?_
 refine agW (fO rfl rfl rfl) rfl ?_
 refine qm rfl rfl rfl ?_
 refine Ops.ask (fun afD=>?_) (fun afD=>?_)
 ·refine oq (aN rfl rfl) rfl (ak rfl rfl rfl) rfl rfl ?_
  refine oq (aN rfl rfl) rfl (ak rfl rfl rfl) rfl rfl ?_
  refine oq (dM rfl rfl) rfl (ak rfl rfl rfl) rfl rfl ?_
  refine oq (fO rfl rfl rfl) rfl (ak rfl rfl rfl) rfl rfl ?_
  refine agW (dG rfl rfl rfl) rfl ?_
  refine pq ?_
  refine W.bC rfl (fun c15=>?_) (fun c15=>?_)
  ·obtain⟨p,hp,-⟩:=has (show k<l.length by omega)
   obtain⟨q,hq,-⟩:=has (show k<l'.length by omega)
   obtain⟨b,off,c,E,fz,rfl,hb,hx1,hy1,hz1⟩:=hl.at hp
   have hx2:c.extract (off+k*2) (off+k*2+2)= #[I p.fl,I p.day]:=hx1
   clear hx1 hz1
   obtain⟨b',off',c',E',fz',rfl,hb',hx1,hy2,hz1⟩:=hl'.at hq
   have hx3:c'.extract (off'+k*2) (off'+k*2+2)= #[I q.fl,I q.day]:=hx1
   clear hx1 hz1
   refine W.skip<|aA<|W.seq<|W.block<|W.seq ?_
   refine W.rE (n:=9) rfl ?_
   refine dn 0 (aN rfl rfl) rfl ?_
   refine dn 1 (aN rfl rfl) rfl ?_
   first | refine dn 2 (G_ rfl rfl rfl) rfl ?_ | refine dn 2 (o_ rfl rfl rfl) rfl ?_
   first | refine dn 3 (Bf rfl rfl) rfl ?_ | refine dn 3 (zi rfl rfl) rfl ?_ | refine dn 3 (ady rfl rfl) rfl ?_
   refine dn 4 (aN rfl rfl) rfl ?_
   refine dn 5 (aN rfl rfl) rfl ?_
   first | refine dn 6 (G_ rfl rfl rfl) rfl ?_ | refine dn 6 (o_ rfl rfl rfl) rfl ?_
   first | refine dn 7 (Bf rfl rfl) rfl ?_ | refine dn 7 (zi rfl rfl) rfl ?_ | refine dn 7 (ady rfl rfl) rfl ?_
   refine dn 8 (Yv.eq (u:=.bool (decide (p≠q))) (aqB [p.fl,p.day] [q.fl,q.day] rfl rfl rfl rfl rfl rfl rfl) (congrArg Value.bool (aLB p q))) rfl ?_
   refine az ?_
   refine aA ?_
   refine W.bC rfl (fun c26=>?_) (fun c26=>?_)
   ·refine W.seq<|W.region rfl<|agb rfl rfl rfl<|pq<|W.ret<|cZ<|aY<|aY<|cZ ?_
    refine aY ?_
    refine uZ ?_
    refine congrArg Value.bool (decide_eq_false fun e=>?_).symm
    subst e
    rw[hp]at hq
    cases hq
    exact c26 rfl
   ·refine W.skip<|dI<|aA<|W.region rfl<|qm rfl rfl rfl ?_
    refine ag1 rfl ?_
    refine agb rfl rfl rfl<|pq ?_
    have hpq:p=q:=Decidable.byContradiction c26
    subst hpq
    exact⟨rfl,k+1,⟨by omega,by omega,by rw[MG hp,MG hq,he]⟩,by omega,⟨rfl,rfl,rfl,trivial⟩,TW⟩
  ·refine W.exit<|bP<|bP<|gG<|aA<|W.seq<|W.region rfl<|qm rfl rfl rfl ?_
   refine agW (dM rfl rfl) rfl ?_
   refine qm rfl rfl rfl ?_
   refine agW (dM rfl rfl) rfl ?_
   refine agW (nD rfl rfl rfl) rfl ?_
   refine agb rfl rfl rfl<|pq<|W.ret ?_
   refine uZ ?_
   refine congrArg Value.bool (decide_eq_decide.2 ⟨fun e=>?_,fun e=>?_⟩)
   ·have e':l.length=l'.length:=by omega
    have hkl:k=l.length:=by omega
    rw[←List.take_length (l:=l),←List.take_length (l:=l'),←e',←hkl,he]
   ·rw[e]
 ·refine Ops.no ?_
  refine Ops.no ?_
  refine Ops.no ?_
  refine Ops.no ?_
  refine agW (iH rfl rfl rfl) rfl ?_
  refine pq ?_
  refine W.bZ ?_
  refine W.exit<|bP<|bP<|gG<|aA<|W.seq<|W.region rfl<|qm rfl rfl rfl ?_
  refine agW (dM rfl rfl) rfl ?_
  refine qm rfl rfl rfl ?_
  refine agW (dM rfl rfl) rfl ?_
  refine agW (nD rfl rfl rfl) rfl ?_
  refine agb rfl rfl rfl<|pq<|W.ret ?_
  refine uZ ?_
  refine congrArg Value.bool (decide_eq_decide.2 ⟨fun e=>?_,fun e=>?_⟩)
  ·have e':l.length=l'.length:=by omega
   have hkl:k=l.length:=by omega
   rw[←List.take_length (l:=l),←List.take_length (l:=l'),←e',←hkl,he]
  ·rw[e]
/-! The examples -/
end Go.aS

/- What is frozen between two operations. Conditions: none; over any program. -/
namespace Go.aS
/-! ### Frozen between operations -/
theorem Ops.freeze{x:Cx}{ops:Array Oper}{l:List Nat}{Q:Post}{ρ:Env}{ds:List Deferred}{F:eG}{b:Nat}{o:Obj}(ho:opn o=false)(H:∀h',Ext x.h h'→h' b=some o→h'.z b→Ops {x with h:=h'} ops l Q ρ ds F):Ops x ops l Q ρ ds ((b,o)::F):=by
 intro fr k cs Stop tmps hk M h1 h0 h2 h3 h4 h5 hc
 obtain⟨S,e,hl⟩:=h5.freeze ho
 have hb:=(h5.own b o (List.mem_cons_self ..)).2.2
 refine CJ.x9 Stop.2.2 _ _ _ _ hl (H _ e (AY _ _ _) (.inl rfl) fr k cs Stop tmps hk _ h1 h0 h2 h3 h4 S fun ex ρ' ds' F' aZ hk' M' q a1 a2 a3 a4=>hc ex ρ' ds' F' aZ hk' M' q a1 a2 (a3.thaw hb ho) fun c' hm hF=>?_)
 have hne:c'≠b:=by rintro rfl;exact hF o (List.mem_cons_self ..)
 exact a4 c' ⟨hm,hne⟩ fun o' ho'=>hF o' (List.mem_cons_of_mem _ ho')
end Go.aS

/- The example of the law on ladles. Conditions: none; over the given program. -/
namespace Go.aS
set_option maxRecDepth 100000
set_option maxHeartbeats 1000000
theorem aEl(main:Side)(hS:∀S,main.ok S→∃Fin,S=Mn prog Fin)(hmb:main.b=true)(h:Hp)(Eg:TypeId)(zg:Nat×Nat)(hg:h 0=some (.cells #[Ur qM] Eg zg))(z0:h.z 0):Pu prog main axZ #[] h (.bool true):=by
 refine dV.aG azR rfl (by show 0≤53;decide) [] trivial ?_
 refine W.seq<|W.region rfl<|agb rfl rfl rfl<|pq<|W.seq<|W.region rfl ?_
 refine agW (eH rfl rfl rfl) rfl ?_
 refine Ops.NK (cs:= #[I 3,I 3]) (fun yD=>?_) rfl
 refine Ops.NK (cs:= #[I 2]) (fun Uw=>?_) rfl
 refine Ops.NK (cs:= #[I 5,I 7,I 20]) (fun Oj=>?_) rfl
 refine agW (eH rfl rfl rfl) rfl ?_
 refine agW (eH rfl rfl rfl) rfl ?_
 refine agW (eH rfl rfl rfl) rfl ?_
 refine Ops.NK (cs:= #[I 1,I 1,I 2,I 2,I 0,I 1]) (fun aht=>?_) rfl
 refine agW (eH (cs:=Wv (.slice (some ⟨yD,0,none⟩) 1 1) (.slice (some ⟨Uw,0,none⟩) 1 1) (.slice (some ⟨Oj,0,none⟩) 3 3) (.slice (some ⟨aht,0,none⟩) 3 3) ax7) rfl rfl (by kernel_rfl)) rfl ?_
 refine Ops.new (fun β1=>?_)
 first | refine Ops.jP ?_ | refine Ops.nY ?_
 refine pq<|W.seq<|W.region rfl ?_
 first | refine ag2 rfl ?_ | refine agW (ady rfl rfl) rfl ?_
 refine c0 (fun h' hE hL=>aFi _ h' _ _ _ _ _ awB aMA aLz 0 (by decide) ⟨Sl.mk (hL yD _ (by repeat(first | exact List.Mem.head _ | apply List.Mem.tail))) rfl (Part.all [I 3,I 3]),Sl.mk (hL Uw _ (by repeat(first | exact List.Mem.head _ | apply List.Mem.tail))) rfl (Part.all [I 2]),Sl.mk (hL Oj _ (by repeat(first | exact List.Mem.head _ | apply List.Mem.tail))) rfl (Part.all [I 5,I 7,I 20]),Sl.mk (hL aht _ (by repeat(first | exact List.Mem.head _ | apply List.Mem.tail))) rfl (Part.all [I 1,I 1,I 2,I 2,I 0,I 1]),.nil⟩) (fun v A' hv=>?_)
 rw[aLA]at hv
 obtain⟨w,Sw,rfl,hOw,hsb⟩:=hv
 refine Ops.sb (hsb.app .refl) ?_
 refine qm rfl rfl rfl<|oq (bD rfl rfl rfl) rfl wn rfl rfl<|oq (bD rfl rfl rfl) rfl wn rfl rfl<|agb rfl rfl rfl<|agb rfl rfl rfl<|pq<|W.seq<|W.region rfl ?_
 refine agW (eH rfl rfl rfl) rfl ?_
 refine agW (eH (cs:= #[I 1,I 1,I 2,I 0]) rfl rfl (by kernel_rfl)) rfl ?_
 refine Ops.NK (cs:= #[I 1,I 1,I 2,I 0]) (fun avR=>?_) rfl
 refine agW (eH rfl rfl rfl) rfl ?_
 refine Ops.NK (cs:= #[I 2,I 1,I 1]) (fun aKL=>?_) rfl
 refine agW (eH rfl rfl rfl) rfl ?_
 refine Ops.freeze rfl (fun h1 hE1 aMB aMC=>?_)
 refine Ops.freeze rfl (fun h2 hE2 aMD aME=>?_)
 refine c0 (fun h' hE hL=>aHA _ hS hmb h' [⟨1,1,2,0⟩] [⟨2,1,1⟩] (.slice (some ⟨avR,0,none⟩) 1 1) (.slice (some ⟨aKL,0,none⟩) 1 1) Eg zg (Sl.mk (hE.1 _ _ aMD) rfl (Part.all [I 1,I 1,I 2,I 0])) (Sl.mk ((hE2.trans hE).1 _ _ aMB) rfl (Part.all [I 2,I 1,I 1])) (fun b off n cap e=>by cases e;exact hE.2 _ aME) (fun b off n cap e=>by cases e;exact(hE2.trans hE).2 _ aMC) ((hE1.trans (hE2.trans hE)).1 _ _ hg) ((hE1.trans (hE2.trans hE)).2 _ z0)) (fun v A' hv=>?_)
 rw[aKK]at hv
 obtain⟨u,Su,rfl,hOu,Oh⟩:=hv
 refine Ops.sb (Oh.app .refl) ?_
 refine qm rfl rfl rfl<|oq (bD rfl rfl rfl) rfl wn rfl rfl<|oq (bD rfl rfl rfl) rfl wn rfl rfl<|oq (bD rfl rfl rfl) rfl wn rfl rfl<|agb rfl rfl rfl<|agb rfl rfl rfl<|agb rfl rfl rfl<|pq<|W.seq ?_
 refine W.region rfl<|qm rfl rfl rfl ?_
 refine KU (nD rfl rfl rfl) (show Value.bool (decide ((0:Int)=0))= .bool true from rfl) rfl wn rfl rfl ?_
 refine qm rfl rfl rfl ?_
 refine oq (aN rfl rfl) rfl (ak rfl rfl rfl) rfl rfl ?_
 refine KU (nD rfl rfl rfl) (show Value.bool (decide ((0:Int)=0))= .bool true from rfl) rfl (ak rfl rfl rfl) rfl rfl ?_
 refine agW (dG rfl rfl rfl) rfl ?_
 refine qm rfl rfl rfl ?_
 refine oq (aN rfl rfl) rfl (ak rfl rfl rfl) rfl rfl ?_
 refine KU (nD rfl rfl rfl) (show Value.bool (decide ((1:Int)=1))= .bool true from rfl) rfl (ak rfl rfl rfl) rfl rfl ?_
 refine agW (dG rfl rfl rfl) rfl ?_
 refine qm rfl rfl rfl ?_
 refine oq (aN rfl rfl) rfl (ak rfl rfl rfl) rfl rfl ?_
 refine Ops.NK (cs:= #[I 2,I 3]) (fun aKM=>?_) rfl
 refine cp (u:=.bool true) (fun h' hE hL=>?_) ?_
 ·exact VU _ h' [2,3] [2,3] _ _ (hOw.sl (fun q o hq=>hL q o (by simp[hq]))) (Sl.mk (hL aKM _ (.head _)) rfl (Part.all [I 2,I 3])) (by decide)
 refine agW (dG rfl rfl rfl) rfl ?_
 refine qm rfl rfl rfl ?_
 refine oq (aN rfl rfl) rfl (ak rfl rfl rfl) rfl rfl ?_
 refine oq (eH (cs:= #[I 0,I 2]) rfl rfl (by kernel_rfl)) rfl (ak rfl rfl rfl) rfl rfl ?_
 refine Ops.NK (cs:= #[I 0,I 2]) (fun avl=>?_) rfl
 refine cp (u:=.bool true) (fun h' hE hL=>?_) ?_
 ·exact aGl _ h' [⟨0,2⟩] [⟨0,2⟩] _ _ (hOu.sl (fun q o hq=>hL q o (by simp[hq]))) (Sl.mk (hL avl _ (.head _)) rfl (Part.all [I 0,I 2])) (by decide)
 refine agW (dG rfl rfl rfl) rfl ?_
 refine agb rfl rfl rfl<|pq<|W.ret ?_
 have hz1:=hOw.shut
 have hz2:=hOu.shut
 exact uZ rfl
end Go.aS

/- From a law's body to the run of the machine, and to what is claimed of it. Conditions: none; over any program. -/
namespace Go.aS
def QE(P:Program)(main:Side)(f:FuncId)(args:Array Value)(h:Hp)(u:Value):Prop:=
 ∃(fn:Func) (c:Code) (ρ:Env),P.funcs[f]? =some fn∧fn.body=some c∧args.size≤fn.ntmps∧G9 ρ args∧W ⟨P,main,f,fn.ntmps,none,h⟩ c (fun e ρ ds F=>ds=[]∧Shut F∧leave P main fn h (fun v _=>v=u) e ρ [] F) ρ [] []

section
variable{P:Program}{main:Side}{h:Hp}
theorem QE.aG{f:FuncId}{fn:Func}{c:Code}{args:Array Value}{u:Value}(hf:P.funcs[f]? =some fn)(hb:fn.body=some c)(ha:args.size≤fn.ntmps)(ρ:Env)(hρ:G9 ρ args)
  (H:W ⟨P,main,f,fn.ntmps,none,h⟩ c (fun e ρ ds F=>ds=[]∧Shut F∧leave P main fn h (fun v _=>v=u) e ρ [] F) ρ [] []):QE P main f args h u:=⟨fn,c,ρ,hf,hb,ha,hρ,H⟩
variable{fn:Func}{e:Exit}{ρ:Env}{F:eG}
theorem lvq{u:Value}{vs:List Value}(hu:pack vs=u)(he:e= .ret∨e= .normal:=by first | exact .inl rfl | exact .inr rfl)(hv:RI ρ fn.results.toList=some vs:=by rfl)(hs:Shut F:=by repeat(first | exact Shut.nil | assumption | refine Shut.cons rfl ?_ | refine Shut.app ?_ ?_)):([]:List Deferred)=[]∧Shut F∧leave P main fn h (fun v _=>v=u) e ρ [] F:=
 ⟨rfl,hs,mg hu he hv⟩
end
theorem QE.run{P:Program}{f:FuncId}{args:Array Value}{W:World}{u:Value}(hi:P.inits.idxOf? f=none)(T:QE P (GI P (tZ P fun v _=>v=u)) f args (atStart W) u):
  ∃M last o w' t',runNT P (M+1) (Conc.solo (Conc.G (Frame.enter P f args .normal) []) W) #[]=(.ended o w',t')∧runN P M (Conc.solo (Conc.G (Frame.enter P f args .normal) []) W)= .next last∧Go.step P last= .ended o w'∧Conc.Good P (fun v w'=>v=u∧Kept W w') last o w' t':=by
 obtain⟨fn,c,ρ,h1,h2,h3,h4,h5⟩:=T
 exact Mn.run (Mn.top (R:=fun v=>v=u) h1 h2 hi h3 ρ h4 PD (fun b o hb=>(ku.1 hb).2) (fun v w hv _=>hv) h5)

theorem Kept.below{w w':World}(h:Kept w w'):Go.RowKit.Below w.heap.size w w':=⟨h.os,h.tape,h.output,h.size,h.block⟩

theorem Gl(l:List Int):flat fH l=l.map fun n=>.int .i64 n:=by
 induction l with
 | nil=>rfl
 | cons a l ih=>rw[iV,ih];rfl
theorem Part.ace{c:Array Value}{off:Nat}{xs:List Value}(h:∀j,j<xs.length→c[off+j]? =xs[j]?)(hne:xs≠[]):Part c off xs:=by
 have hlen:off+xs.length≤c.size:=by
  have hpos:0<xs.length:=List.length_pos_iff.2 hne
  have:=h (xs.length-1) (by omega)
  rw[List.getElem?_eq_getElem (by omega)]at this
  rcases Nat.lt_or_ge (off+(xs.length-1)) c.size with h' | h'
  ·omega
  ·rw[Array.getElem?_eq_none h']at this;cases this
 refine⟨c.toList.take off,c.toList.drop (off+xs.length),?_,by simp;omega⟩
 apply List.ext_getElem?
 intro i
 have hsz:c.toList.length=c.size:=by simp
 rcases Nat.lt_or_ge i off with h1 | h1
 ·rw[List.getElem?_append_left (by simp;omega),List.getElem?_take,if_pos h1]
 ·rw[List.getElem?_append_right (by simp;omega)]
  have e1:(c.toList.take off).length=off:=by simp;omega
  rw[e1]
  rcases Nat.lt_or_ge (i-off) xs.length with h2 | h2
  ·rw[List.getElem?_append_left h2,←h _ h2]
   simp only[Array.getElem?_toList]
   congr 1;omega
  ·rw[List.getElem?_append_right h2,List.getElem?_drop]
   congr 1;omega
theorem Sl.atStart{W:World}{a:Addr}{n cap:Nat}{zs:List Int}(hz:n≤zs.length)(h:∀i,i<zs.length→W.cell? (a.add i)=some (.int .i64 (zs.getD i 0))):Sl (atStart W) fH (.slice (some a) n cap) (zs.take n):=by
 refine⟨some a,cap,by rw[List.length_take,Nat.min_eq_left hz],fun hne=>?_⟩
 have hpos:0<n:=by
  rcases Nat.eq_zero_or_pos n with h' | h'
  ·subst h';simp at hne
  ·exact h'
 obtain⟨b,off,spot⟩:=a
 have hsp:spot=none:=by
  have:=h 0 (by omega)
  cases hs:spot with
  | none=>rfl
  | some s=>
   subst hs
   exfalso
   simp only[World.cell?,Addr.add,if_true]at this
   split at this
   ·simp at this
   ·cases this
 subst hsp
 have cell:∀i,i<zs.length→∃c E fz,W.heap[b]? =some (.cells c E fz)∧c[off+i]? =some (.int .i64 (zs.getD i 0)):=fun i hi=>by
  have:=h i hi
  rw[show(⟨b,off,none⟩:Addr).add i=⟨b,off+i,none⟩ by unfold Addr.add;split <;>simp[*]]at this
  simp only[World.cell?]at this
  split at this
  ·rename_i c E fz hb
   exact⟨c,E,fz,hb,by simpa using this⟩
  ·cases this
 obtain⟨c,E,fz,hb,h0⟩:=cell 0 (by omega)
 refine⟨b,off,c,E,fz,rfl,ku.2 ⟨hb,rfl⟩,Part.ace (fun j hj=>?_) ?_⟩
 ·rw[Gl,List.length_map,List.length_take]at hj
  obtain⟨c',E',fz',hb',hj'⟩:=cell j (by omega)
  rw[hb]at hb'
  cases hb'
  rw[hj',Gl,List.getElem?_map,List.getElem?_take,if_pos (by omega),List.getElem?_eq_getElem (by omega)]
  simp[List.getD,List.getElem?_eq_getElem (show j<zs.length by omega)]
 ·rw[Gl]
  intro e
  exact hne (List.map_eq_nil_iff.1 e)
end Go.aS

/- Slices of slices; makeSlice. Conditions: none; over any program. -/
namespace Go.aS
structure Sv where
  a:Option Addr
  n:Nat
  cap:Nat
abbrev Sv.val(s:Sv):Value:=.slice s.a s.n s.cap
def ags(s:Sv):List Value:=[.slice s.a s.n s.cap]
instance:Rw ags 1:=⟨fun _=>rfl,fun _=>rfl⟩

section
variable{α:Type}{row:α→List Value}{w:Nat}[rw':Rw row w]{E:TypeId}
inductive UG(E:TypeId)(row:α→List Value)[Rw row w]:List Sv→List (List α)→eG→Prop
  | nil:UG E row [] [] []
  | cons {s:Sv} {l:List α} {A B:eG} {vs:List Sv} {ls:List (List α)}:Os E row s.val l A→UG E row vs ls B→UG E row (s::vs) (l::ls) (A++B)
theorem UG.len{vs:List Sv}{ls:List (List α)}{A:eG}(h:UG E row vs ls A):vs.length=ls.length:=by
  induction h with
  | nil=>rfl
  | cons _ _ ih=>simp[ih]
theorem UG.shut{vs:List Sv}{ls:List (List α)}{A:eG}(h:UG E row vs ls A):Shut A:=by
  induction h with
  | nil=>exact .nil
  | cons h _ ih=>exact h.shut.app ih
theorem UG.snoc{vs:List Sv}{ls:List (List α)}{A B:eG}{s:Sv}{l:List α}(h:UG E row vs ls A)(hs:Os E row s.val l B):UG E row (vs++[s]) (ls++[l]) (A++B):=by
  induction h with
  | nil=>have:=UG.cons hs .nil;simpa using this
  | cons h1 _ ih=>have:=UG.cons h1 ih;rw[←List.append_assoc]at this;exact this
theorem UG.sl{vs:List Sv}{ls:List (List α)}{A:eG}{h':Hp}(h:UG E row vs ls A)(hL:∀b o,(b,o)∈A→h' b=some o):∀{k:Nat} {s:Sv} {l:List α},vs[k]? =some s→ls[k]? =some l→Sl h' row s.val l:=by
  induction h with
  | nil=>intro k s l hs;simp at hs
  | cons h1 _ ih=>
    intro k s l hs hl
    rcases k with _ | k
    · simp at hs hl;subst hs hl
      exact h1.sl fun b o hb=>hL b o (List.mem_append_left _ hb)
    · simp at hs hl
      exact ih (fun b o hb=>hL b o (List.mem_append_right _ hb)) hs hl
theorem agG{x:Cx}{c:Code}{Q:Post}{ρ:Env}{ds:List Deferred}{A F:eG}{vs:List Sv}{ls:List (List α)}(hs:UG E row vs ls A)
    (H:∀h',Ext x.h h'→(∀(k:Nat) (s:Sv) (l:List α),vs[k]? =some s→ls[k]? =some l→Sl h' row s.val l∧Zs h' s.val)→W {x with h:=h'} c Q ρ ds F):W x c Q ρ ds (A++F):=by
  induction hs generalizing x with
  | nil=>exact H x.h ⟨fun _ _ q=>q,fun _ q=>q⟩ fun k s l hk=>by simp at hk
  | cons h1 h2 ih=>
    rw[List.append_assoc]
    refine JU h1 fun h' hE hsl hz=>ih (x:={x with h:=h'}) fun h'' hE' hall=>H h'' (hE.trans hE') fun k s l hk hl=>?_
    rcases k with _ | k
    · simp at hk hl;subst hk hl
      exact⟨hsl.ext hE',hz.ext hE'⟩
    · simp at hk hl
      exact hall k s l hk hl
end
/-! makeSlice -/
section
variable{x:Cx}{ρ:Env}{F:eG}{o:Oper}{R:Value→eG→Prop}
end
end Go.aS

/- Shut blocks are put by. Conditions: none; over any program. -/
namespace Go.aS
theorem W.cut{x:Cx}{c c2:Code}{Q:Post}{ρ:Env}{ds:List Deferred}{F:eG}(L:Env)(G:eG)(H:W x c (fun e ρ' ds' F'=>e= .normal∧ds'=ds∧Sub L ρ'∧Sb G F') ρ ds F)(K:W x c2 Q L ds G):W x c (thn (fun ρ' ds' F'=>W x c2 Q ρ' ds' F') Q) ρ ds F:=
 W.mono H fun e ρ' ds' F' h=>by
  obtain⟨he,hd,hs,hb⟩:=h
  subst he hd
  exact aA (W.env hs (W.sb hb K))
theorem W.aiB{σ:Type}{x:Cx}{c c2:Code}{Q:Post}{ρ:Env}{ds:List Deferred}{F:eG}(ok:σ→Prop)(L:σ→Env)(G:σ→eG)(H:W x c (fun e ρ' ds' F'=>e= .normal∧ds'=ds∧∃s,ok s∧Sub (L s) ρ'∧Sb (G s) F') ρ ds F)(K:∀s,ok s→W x c2 Q (L s) ds (G s)):W x c (thn (fun ρ' ds' F'=>W x c2 Q ρ' ds' F') Q) ρ ds F:=
 W.mono H fun e ρ' ds' F' h=>by
  obtain⟨he,hd,s,ho,hs,hb⟩:=h
  subst he hd
  exact aA (W.env hs (W.sb hb (K s ho)))
end Go.aS
