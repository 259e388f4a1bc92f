/- A stove is opened; the plan with the most cones. Conditions: none; over the given program. (And 12 texts more.) -/
import Derived.Test.YtahkljmgmgacjaaDoorR10
import Derived.Test.YtahkljmgmgacjaaDoorR06
import Derived.Test.YtahkljmgmgacjaaDoorR08
import Derived.Test.YtahkljmgmgacjaaDoorR09
import Derived.Conc.LeavingOf
import Derived.Conc.HoldsTime
import Derived.LaidLaws
import Derived.LaidHandle
import Derived.ChangeSlices
import Derived.WideShapes
import Derived.Carry
import Derived.RowKit
import Derived.Handed
import Derived.Test.YtahkljmgmgacjaaDoorR07
import Derived.Test.YtahkljmgmgacjaaDoorCards
import Derived.Test.YtahkljmgmgacjaaDoorTie
import Derived.SevenTiedAt
set_option linter.unusedVariables false
set_option linter.unusedSimpArgs false
set_option linter.unusedSectionVars false

/- A stove is opened; the plan with the most cones. Conditions: none; over the given program. -/
namespace Go.aS
set_option maxRecDepth 100000
set_option maxHeartbeats 4000000
structure aHm(hs:List Int)(no ri to:Int):Prop where
 num:0≤no∧no≤5∧0≤ri∧ri≤3∧0≤to∧to≤5
 hts:aDP to ri no hs
theorem aHn(main:Side)(h:Hp)(sh:List Shf)(cn:List Cne)(hs:List Int)(no ri to:Int)(vs vc vh:Value)(Eg:TypeId)(zg:Nat×Nat)(h1:Sl h Shf.row vs sh)(h2:Sl h Cne.row vc cn)(h3:Sl h fH vh hs)(hok:aCr sh cn hs)(hn:aHm hs no ri to)(hg:h 0=some (.cells #[Ur qM] Eg zg)):
  dV prog main aE8 #[aFr vs vc hs no ri to,vh,aB9,aB9] h [] (fun v A=>∃bs mp l F,v= .tuple #[bI bs,I 0]∧aDQ sh cn hs cn.length l F∧Sb ((bs,.cells (stC vs vc hs.length no ri to vh l mp) U8 (0,0))::(mp,ax6 [])::F) A):=by
 have k1:=h1
 have k2:=h2
 have k3:=h3
 have hd4:=hok.d4
 obtain⟨a1,cap1,rfl⟩:=h1.dA
 obtain⟨a2,cap2,rfl⟩:=h2.dA
 obtain⟨a3,cap3,rfl⟩:=h3.dA
 refine dV.aG aGo rfl (by show 4≤57;decide) [(0,aFr (.slice a1 sh.length cap1) (.slice a2 cn.length cap2) hs no ri to),(1,.slice a3 hs.length cap3),(2,aB9),(3,aB9)] ⟨rfl,rfl,rfl,rfl,trivial⟩ ?_
 refine W.seq<|W.region rfl ?_
 refine Ops.box (fun wC=>?_)
 refine agb rfl rfl rfl<|agb rfl rfl rfl<|pq<|W.seq<|W.seq ?_
 refine W.rE (n:=8) rfl ?_
 first | refine xq 0 (Bf rfl rfl) rfl ?_ | refine xq 0 (zi rfl rfl) rfl ?_ | refine xq 0 (ady rfl rfl) rfl ?_
 first | refine xq 2 (Bf rfl rfl) rfl ?_ | refine xq 2 (zi rfl rfl) rfl ?_ | refine xq 2 (ady rfl rfl) rfl ?_
 refine xq 3 (aN rfl rfl) rfl ?_
 refine Va (i:=1) (fun h' hE hL=>aIe _ h' sh cn hs no ri to _ _ hok hn.num (k1.ext hE) (k2.ext hE)) ?_
 refine Va (i:=4) (fun h' hE hL=>aGd _ h' hs no ri to _ _ _ ⟨_,_,_,rfl⟩ ⟨_,_,_,rfl⟩ hn.num hn.hts (k3.ext hE) hd4) ?_
 refine abl (i:=5) (cs:= #[I 0,I 0]) (fun an4=>?_) rfl
 refine Va (i:=6) (fun h' hE hL=>aId _ h' _ (Sl.mk (hL an4 _ (.head _)) rfl (Part.all [I 0,I 0]))) ?_
 refine xq 7 (jS rfl rfl) rfl ?_
 refine az ?_
 refine aA<|W.seq<|W.region rfl<|qm rfl rfl rfl ?_
 refine agW (nG rfl rfl rfl) rfl ?_
 refine pq ?_
 refine W.bC rfl (fun c23=>?_) (fun c23=>?_)
 ·refine W.seq<|W.region rfl<|qm rfl rfl rfl<|agb rfl rfl rfl<|agb rfl rfl rfl<|pq<|W.ret<|aY ?_
  exact absurd rfl c23
 ·refine W.skip<|aA<|W.seq<|W.seq<|W.region rfl<|qm rfl rfl rfl<|qm rfl rfl rfl ?_
  refine Ops.NK (cs:= #[aB9,aB9]) (fun arO=>?_) rfl
  refine agW (dM rfl rfl) rfl ?_
  refine qm rfl rfl rfl<|pq<|W.block ?_
  refine W.loop (σ:=Nat) (fun k=>k≤2) (fun k=>[(29,I k),(28,I 2),(27,.slice (some ⟨arO,0,none⟩) 2 2),(4,bI wC),(1,.slice a3 hs.length cap3)]) (fun _=>[(arO,.cells #[aB9,aB9] nS (0,0)),(wC,.cells #[.slice a1 sh.length cap1,.slice a2 cn.length cap2,I hs.length,I no,I ri,I to] awO (0,0))]) (fun k=>2-k) 0 (Nat.zero_le _) ⟨rfl,rfl,rfl,rfl,rfl,trivial⟩ TW ?_
  rintro k hk
  refine W.seq<|W.region rfl ?_
  refine agW (fO rfl rfl rfl) rfl ?_
  refine pq<|W.seq ?_
  refine W.bC rfl (fun c30=>?_) (fun c30=>?_)
  ·have hk2:k<2:=by omega
   have hat:(#[aB9,aB9]:Array Value)[0+k*1]? =some aB9:=by rcases(by omega:k=0∨k=1)with rfl | rfl <;>rfl
   refine W.skip<|aA<|W.seq<|W.block<|W.seq<|W.region rfl<|qm rfl rfl rfl ?_
   refine ag3 rfl ?_
   refine agX rfl ?_
   refine agb rfl rfl rfl<|agb rfl rfl rfl<|pq<|W.seq<|W.region rfl<|qm rfl rfl rfl ?_
   refine agW (dM rfl rfl) rfl ?_
   refine qm rfl rfl rfl<|pq<|W.block ?_
   refine W.loop (σ:=Nat) (fun d=>d=0) (fun d=>[(36,I d),(35,I 0),(34,aB9),(29,I k),(28,I 2),(27,.slice (some ⟨arO,0,none⟩) 2 2),(4,bI wC),(1,.slice a3 hs.length cap3)]) (fun _=>[(arO,.cells #[aB9,aB9] nS (0,0)),(wC,.cells #[.slice a1 sh.length cap1,.slice a2 cn.length cap2,I hs.length,I no,I ri,I to] awO (0,0))]) (fun d=>0) 0 rfl ⟨rfl,rfl,rfl,rfl,rfl,rfl,rfl,rfl,trivial⟩ .refl ?_
   rintro d rfl
   refine W.seq<|W.region rfl ?_
   refine agW (fO rfl rfl rfl) rfl ?_
   refine pq<|W.seq ?_
   refine W.bC rfl (fun c37=>?_) (fun c37=>?_)
   ·exact absurd c37 (by simp)
   ·refine W.exit<|bP<|bP<|gG<|dI<|aA<|W.region rfl ?_
    refine ag1 rfl ?_
    refine qm rfl rfl rfl<|pq ?_
    exact⟨rfl,k+1,by omega,by omega,⟨rfl,rfl,rfl,rfl,rfl,trivial⟩,.refl⟩
  ·refine W.exit<|bP<|bP<|gG<|aA<|W.seq<|W.region rfl ?_
   first | refine ag2 rfl ?_ | refine agW (ady rfl rfl) rfl ?_
   refine qm rfl rfl rfl ?_
   refine c0 (fun h' hE hL=>aHj _ h' sh cn hs no ri to _ _ _ _ _ (k1.ext hE) (k2.ext hE) (k3.ext hE) hok (hE.1 _ _ hg)) (fun v A' hv=>?_)
   obtain⟨bs,mp,l,F,rfl,hF,hsb⟩:=hv
   refine agb rfl rfl rfl<|agb rfl rfl rfl<|pq<|W.ret ?_
   exact mg (vs:=[bI bs,I 0]) ⟨bs,mp,l,F,rfl,hF,hsb.right (.cons rfl (.cons rfl .nil))⟩
end Go.aS

/- The plan with the most cones. Conditions: none; over the given program. -/
namespace Go.aS
set_option maxRecDepth 100000
set_option maxHeartbeats 4000000
theorem aIX{n:Nat}(h:n≤3):IntKind.u8.wrap (IntKind.u8.wrap (1*2 ^ (min (n:Int).toNat IntKind.u8.bits))-1)=(aEO n:Int):=by
 rcases(by omega:n=0∨n=1∨n=2∨n=3)with rfl | rfl | rfl | rfl <;>kernel_rfl
theorem aIY(main:Side)(h:Hp)(cn:List Cne)(vs vc vh:Value)(bs n:Nat)(cs:Array Value)(Es:TypeId)(zs:Nat×Nat)(hS:StF cs vs vc vh n)(hbs:h bs=some (.cells cs Es zs))(h2:Sl h Cne.row vc cn)(hc3:cn.length≤3):Pu prog main aDa #[bI bs] h (B8 (aEO cn.length)):=by
 have hc1:=hS.c1
 obtain⟨a2,cap2,rfl⟩:=h2.dA
 refine dV.aG aEp rfl (by show 1≤11;decide) [(0,bI bs)] ⟨rfl,trivial⟩ ?_
 refine W.seq<|W.region rfl<|agb rfl rfl rfl<|pq<|W.seq<|W.region rfl<|qm rfl rfl rfl ?_
 refine ag4 rfl ?_
 refine agY rfl ?_
 refine agY rfl ?_
 refine agX rfl ?_
 refine agW (dM rfl rfl) rfl ?_
 refine agW (Wx rfl rfl rfl (by omega)) rfl ?_
 refine ag5 rfl ?_
 refine agb rfl rfl rfl<|pq<|W.ret ?_
 refine uZ ?_
 exact congrArg (Value.int .u8) (aIX hc3)
def aCz(sh:List Shf)(cn:List Cne)(hs:List Int)(k:Nat):List Sd×Int×Bool:=((aCA sh cn hs).take k).foldl (takeB cn.length) (aFy,0,false)
theorem aJx{sh:List Shf}{cn:List Cne}{hs:List Int}{p:List Sd}(h:p∈aCA sh cn hs):p.length=3:=(aDt h).1
theorem aE5{sh:List Shf}{cn:List Cne}{hs:List Int}{k:Nat}{p:List Sd}(h:(aCA sh cn hs)[k]? =some p):aCz sh cn hs (k+1)=takeB cn.length (aCz sh cn hs k) p:=by
 unfold aCz
 rw[List.take_add_one,h,List.foldl_append];rfl
theorem aFs{sh:List Shf}{cn:List Cne}{hs:List Int}:∀(k:Nat),(aCz sh cn hs k).1.length=3
 | 0=>rfl
 | k+1=>by
  cases h:(aCA sh cn hs)[k]? with
  | none=>
   have e:aCz sh cn hs (k+1)=aCz sh cn hs k:=by
    unfold aCz;rw[List.take_add_one,h];simp
   rw[e];exact aFs k
  | some p=>
   rw[aE5 h]
   unfold takeB
   split
   ·exact aJx (List.mem_of_getElem? h)
   ·exact aFs k
theorem aFt{sh:List Shf}{cn:List Cne}{hs:List Int}:∀(k:Nat),-(cn.length:Int)≤(aCz sh cn hs k).2.1∧(aCz sh cn hs k).2.1≤0
 | 0=>⟨by show -(cn.length:Int)≤0;omega,Int.le_refl _⟩
 | k+1=>by
  cases h:(aCA sh cn hs)[k]? with
  | none=>
   have e:aCz sh cn hs (k+1)=aCz sh cn hs k:=by
    unfold aCz;rw[List.take_add_one,h];simp
   rw[e];exact aFt k
  | some p=>
   rw[aE5 h]
   unfold takeB
   split
   ·have:=aGe (k:=cn.length) (p:=p)
    exact⟨by simp only;omega,by simp only;omega⟩
   ·exact aFt k
theorem aGN{sh:List Shf}{cn:List Cne}{hs:List Int}:aCz sh cn hs (aCA sh cn hs).length=aBE sh cn hs:=by unfold aCz aBE;rw[List.take_length]
theorem aDQ.sl{sh:List Shf}{cn:List Cne}{hs:List Int}{k:Nat}{l:List Value}{F:ah}(H:aDQ sh cn hs k l F)(hk:k=cn.length){h:Hp}(hF:∀b o,(b,o)∈F→h b=some o):∀j c,cn[j]? =some c→Sl h Sd.row (l.getD j aB9) (aB8 sh c hs):=by
 obtain⟨h1,h2,Fs,h3,rfl,h4⟩:=H
 intro j c hj
 have hjl:j<cn.length:=by
  rcases Nat.lt_or_ge j cn.length with h' | h'
  ·exact h'
  ·rw[List.getElem?_eq_none h']at hj;cases hj
 have hS:Fs[j]? =some Fs[j]:=List.getElem?_eq_getElem (by omega)
 exact(h4 j c _ hj hS).sl fun b o hb=>hF b o (List.mem_flatten.2 ⟨_,List.getElem_mem _,hb⟩)
theorem aDQ.shut{sh:List Shf}{cn:List Cne}{hs:List Int}{k:Nat}{l:List Value}{F:ah}(H:aDQ sh cn hs k l F)(hk:k=cn.length):Shut F:=by
 obtain⟨h1,h2,Fs,h3,rfl,h4⟩:=H
 intro q hq
 obtain⟨S,hS,hqS⟩:=List.mem_flatten.1 hq
 obtain⟨j,hj,rfl⟩:=List.mem_iff_getElem.1 hS
 exact(h4 j _ _ (List.getElem?_eq_getElem (show j<cn.length by omega)) (List.getElem?_eq_getElem hj)).shut q hqS
theorem aH1(main:Side)(h:Hp)(sh:List Shf)(cn:List Cne)(hs:List Int)(no ri to:Int)(vs vc vh:Value)(Eg:TypeId)(zg:Nat×Nat)(h1:Sl h Shf.row vs sh)(h2:Sl h Cne.row vc cn)(h3:Sl h fH vh hs)(hok:aCr sh cn hs)(hn:aHm hs no ri to)(hg:h 0=some (.cells #[Ur qM] Eg zg)):
  dV prog main aE7 #[aFr vs vc hs no ri to,vh] h [] (fun v A=>∃w S,v= .tuple #[w,I (-(aBE sh cn hs).2.1),I 0]∧Os aBC Sd.row w ((aBE sh cn hs).1.take cn.length) S∧Sb S A):=by
 have k1:=h1
 have k2:=h2
 have k3:=h3
 have hd4:=hok.d4
 have hc3:=hok.c3
 obtain⟨a1,cap1,rfl⟩:=h1.dA
 obtain⟨a2,cap2,rfl⟩:=h2.dA
 obtain⟨a3,cap3,rfl⟩:=h3.dA
 refine dV.aG aGm rfl (by show 2≤38;decide) [(0,aFr (.slice a1 sh.length cap1) (.slice a2 cn.length cap2) hs no ri to),(1,.slice a3 hs.length cap3)] ⟨rfl,rfl,trivial⟩ ?_
 refine W.seq<|W.region rfl ?_
 refine Ops.box (fun yR=>?_)
 refine agb rfl rfl rfl<|agb rfl rfl rfl<|agb rfl rfl rfl<|pq<|W.seq<|W.region rfl ?_
 first | refine ag2 rfl ?_ | refine agW (ady rfl rfl) rfl ?_
 refine qm rfl rfl rfl ?_
 refine c0 (fun h' hE hL=>aHn _ h' sh cn hs no ri to _ _ _ _ _ (k1.ext hE) (k2.ext hE) (k3.ext hE) hok hn (hE.1 _ _ hg)) (fun v A' hv=>?_)
 obtain⟨bs,mp,l,F,rfl,hF,hsb⟩:=hv
 refine Ops.sb (F':=((bs,.cells (stC (.slice a1 sh.length cap1) (.slice a2 cn.length cap2) hs.length no ri to (.slice a3 hs.length cap3) l mp) U8 (0,0))::(mp,ax6 [])::F)++[(yR,.cells #[.slice a1 sh.length cap1,.slice a2 cn.length cap2,I hs.length,I no,I ri,I to] awO (0,0))]) (hsb.app .refl) ?_
 refine qm rfl rfl rfl<|oq (bD rfl rfl rfl) rfl wn rfl rfl<|oq (bD rfl rfl rfl) rfl wn rfl rfl ?_
 refine Ops.new (fun Vo=>?_)
 refine Ops.yG ?_
 refine agb rfl rfl rfl<|pq<|W.seq<|W.seq<|W.region rfl<|qm rfl rfl rfl ?_
 refine agW (nG rfl rfl rfl) rfl ?_
 refine pq ?_
 refine W.bC rfl (fun c18=>?_) (fun c18=>?_)
 ·refine W.seq<|W.region rfl<|qm rfl rfl rfl<|agb rfl rfl rfl<|agb rfl rfl rfl<|agb rfl rfl rfl<|pq<|W.ret<|aY ?_
  exact absurd rfl c18
 ·refine W.skip<|aA<|W.seq<|W.region rfl ?_
  refine Ops.new (fun Uw=>?_)
  refine pq<|W.seq<|W.seq ?_
  refine W.rE (n:=4) rfl ?_
  refine xq 0 (iQ rfl rfl) rfl ?_
  refine xq 1 (iQ rfl rfl) rfl ?_
  refine Va (i:=2) (fun h' hE hL=>aIY _ h' cn _ _ _ bs hs.length _ _ _ aGL (hL bs _ (by repeat(first | exact List.Mem.head _ | apply List.Mem.tail))) (k2.ext hE) hc3) ?_
  refine ae (i:=3) rfl an rfl rfl (lQ (args:=[_,_,_]) rfl rfl (fun h' hE hL=>aIi _ h' bs _) (fun v A' hv=>?_))
  refine⟨.inr (Keeps.app Keeps.refl),?_⟩
  obtain⟨b1,b2,b3,rfl,rfl⟩:=hv
  refine az ?_
  refine aA<|W.block ?_
  refine W.perm (F':=[(Uw,.cells (aCt (aFy,0,false)) 87 (0,0)),(mp,ax6 [])]++([(b2,.cells #[.bool false] RS (0,0)),(b3,.cells #[B8 (aEO cn.length)] aDF (0,0)),(b1,.cells #[bI bs] asc (0,0)),(Vo,.cells #[bI bs] asc (0,0)),(bs,.cells (stC (.slice a1 sh.length cap1) (.slice a2 cn.length cap2) hs.length no ri to (.slice a3 hs.length cap3) l mp) U8 (0,0)),(yR,.cells #[.slice a1 sh.length cap1,.slice a2 cn.length cap2,I hs.length,I no,I ri,I to] awO (0,0))]++F)) (show List.Perm _ ([(b2,.cells #[.bool false] RS (0,0)),(b3,.cells #[B8 (aEO cn.length)] aDF (0,0)),(b1,.cells #[bI bs] asc (0,0))]++((Uw,.cells (aCt (aFy,0,false)) 87 (0,0))::(Vo,.cells #[bI bs] asc (0,0))::(((bs,.cells (stC (.slice a1 sh.length cap1) (.slice a2 cn.length cap2) hs.length no ri to (.slice a3 hs.length cap3) l mp) U8 (0,0))::(mp,ax6 [])::F)++[(yR,.cells #[.slice a1 sh.length cap1,.slice a2 cn.length cap2,I hs.length,I no,I ri,I to] awO (0,0))])))from agQ fun y=>by simp only[List.count_append,List.count_cons,List.count_nil];omega) ?_
  refine W.abW (Val:=aJQ) (xs:=aCA sh cn hs) rfl rfl rfl
   (fun j A=>∃m,KX cn.length m∧A=[(Uw,.cells (aCt (aCz sh cn hs j)) 87 (0,0)),(mp,ax6 m)]) (fun _ _ _ _=>False) .head ⟨[],(fun e he=>by cases he),rfl⟩
   (fun h' hE hL=>aHF _ h' sh cn hs no ri to _ _ _ l mp bs b1 b2 b3 _ _ _ _ _ _ _ _ _ _ hok (k1.ext hE) (k2.ext hE) (k3.ext hE) (hE.1 _ _ hg) (hL bs _ (by repeat(first | exact List.Mem.head _ | apply List.Mem.tail))) (hF.sl rfl fun b o hb=>hL b o (List.mem_append_right [] (List.mem_append_right _ hb))) (hL b1 _ (by repeat(first | exact List.Mem.head _ | apply List.Mem.tail))) (hL b2 _ (by repeat(first | exact List.Mem.head _ | apply List.Mem.tail))) (hL b3 _ (by repeat(first | exact List.Mem.head _ | apply List.Mem.tail)))) ?_ ?_
  ·rintro j p v S1 A1 hp ⟨rfl,rfl⟩ ⟨m,hm,rfl⟩ l1 h9 hE9 hL9 hS9
   have hp3:=aJx (List.mem_of_getElem? hp)
   have hsz:=aC9 hp3
   have hop:=aFM hp3
   refine W.region rfl ?_
   refine Ops.new (fun Oj=>?_)
   first | refine Ops.jP ?_ | refine Ops.nY ?_
   refine Ops.nil ?_
   refine⟨rfl,rfl,fun h0 hE0 hL0=>?_⟩
   intro hS0
   have h7:h0 Vo=some (.cells #[bI bs] asc (0,0)):=hL0 _ _ (by repeat(first | exact List.Mem.head _ | apply List.Mem.tail))
   have hbs:h0 bs=some (.cells (stC (.slice a1 sh.length cap1) (.slice a2 cn.length cap2) hs.length no ri to (.slice a3 hs.length cap3) l mp) U8 (0,0)):=hL0 _ _ (by repeat(first | exact List.Mem.head _ | apply List.Mem.tail))
   refine W.block ?_
   refine W.DR [(Oj,.cells (pC p) aBq (0,0))] (n:=6) rfl ?_
   first | refine xq 0 (Bf rfl rfl) rfl ?_ | refine xq 0 (zi rfl rfl) rfl ?_ | refine xq 0 (ady rfl rfl) rfl ?_
   refine xq 1 (iQ rfl rfl) rfl ?_
   first | refine xq 2 (Bf rfl rfl) rfl ?_ | refine xq 2 (zi rfl rfl) rfl ?_ | refine xq 2 (ady rfl rfl) rfl ?_
   have hcl:=aGe (k:=cn.length) (p:=p)
   refine ae (i:=3) rfl an rfl rfl (QZ (args:=[_,_]) (A:=[(mp,ax6 m)]) rfl rfl (.tail (.tail .all)) (fun h' hE hL=>aIn _ h' cn hs no ri to _ _ _ l bs mp _ _ (hE.1 _ _ hbs) ((k2.ext hE0).ext hE) hc3 m hm p hp3) (fun v A' hv=>?_))
   obtain⟨rfl,m',hm',Oh⟩:=hv
   refine⟨.inr (Keeps.one (List.mem_cons_self ..) Keeps.nil),?_⟩
   refine Any.sb (F':=[(Oj,.cells (pC p) aBq (0,0)),(Uw,.cells (aCt (aCz sh cn hs j)) 87 (0,0)),(mp,ax6 m')]) (.cons (.cons Oh)) ?_
   refine xq 4 (anF rfl rfl) rfl ?_
   refine ae (i:=5) rfl an rfl rfl (QZ (args:=[_,_,_]) (A:=[(Uw,.cells (aCt (aCz sh cn hs j)) 87 (0,0))]) rfl rfl (.tail .head) (fun h' hE hL=>aIV _ h' Uw cn.length (aCz sh cn hs j) p 87 (aFs j) hp3) (fun v A' hv=>?_))
   refine⟨.inl (by kernel_rfl),?_⟩
   refine az ?_
   refine dI ?_
   refine⟨rfl,.inl ⟨rfl,_,⟨m',hm',rfl⟩,?_⟩⟩
   rw[aE5 hp]
   exact .skip rfl (hv.app .refl)
  ·rintro e2 A2 hA2 d
   obtain⟨rfl,m,hm,rfl⟩:e2= .normal∧∃m,KX cn.length m∧A2=[(Uw,.cells (aCt (aBE sh cn hs)) 87 (0,0)),(mp,ax6 m)]:=by
    rcases hA2 with⟨rfl,m,hm,rfl⟩ | ⟨_,_,_,_,_,_,_,hx,_⟩
    ·exact⟨rfl,m,hm,by rw[aGN]⟩
    ·exact hx.elim
   have hb3:(aBE sh cn hs).1.length=3:=(aE4 hok).1
   obtain⟨hz,hz6,hz7,hz0⟩:=aHZ (n:=(aBE sh cn hs).2.1) (b:=(aBE sh cn hs).2.2) hb3
   replace hz:(aCt (aBE sh cn hs)).size=8:=hz
   replace hz6:(aCt (aBE sh cn hs))[0+6]? =some (I (aBE sh cn hs).2.1):=hz6
   replace hz0:(aCt (aBE sh cn hs)).extract (0+0) (0+0+6)=pC (aBE sh cn hs).1:=hz0
   obtain⟨hn1,hn2⟩:=aFt (sh:=sh) (cn:=cn) (hs:=hs) (aCA sh cn hs).length
   rw[aGN]at hn1 hn2
   refine dI<|aA<|W.seq ?_
   refine W.rE (n:=10) rfl ?_
   refine xq 0 (iQ rfl rfl) rfl ?_
   refine xq 1 (ay rfl rfl) rfl ?_
   first | refine xq 2 (Bf rfl rfl) rfl ?_ | refine xq 2 (zi rfl rfl) rfl ?_ | refine xq 2 (ady rfl rfl) rfl ?_
   refine xq 4 (ay rfl rfl) rfl ?_
   refine xq 5 (iQ rfl rfl) rfl ?_
   refine xq 6 (anF rfl rfl) rfl ?_
   refine ae (i:=3) rfl an rfl rfl (lQ (args:=[_,_]) rfl rfl (fun h' hE hL=>aIT _ h' cn _ _ _ bs hs.length _ _ _ aGL (hL bs _ (by repeat(first | exact List.Mem.head _ | apply List.Mem.tail))) (k2.ext hE) hc3 (aBE sh cn hs).1 hb3) (fun v A' hv=>?_))
   refine⟨.inr (Keeps.app Keeps.refl),?_⟩
   obtain⟨S,hS,afy⟩:=hv
   refine xq 7 (jS rfl rfl) rfl ?_
   refine xq 8 (jS rfl rfl) rfl ?_
   refine xq 9 (jS rfl rfl) rfl ?_
   refine az ?_
   refine aA<|W.ret ?_
   refine lvm ?_ (hl:=.app .head)
   refine mg (vs:=[v,I (-(aBE sh cn hs).2.1),I 0]) ⟨v,S,rfl,hS,afy.right ?_⟩
   exact .cons rfl (.cons rfl (.cons rfl (.cons rfl (.cons rfl (.cons rfl (.cons rfl (.cons rfl (.cons rfl (hF.shut rfl)))))))))
end Go.aS

/- recover, where nobody panics. Conditions: none; over any program. -/
namespace Go.aS
section
variable{x:Cx}{Q:Post}{ρ:Env}{ds:List Deferred}{F:ah}{ops:Array Oper}{i d:Nat}{rest:List Nat}{ty:TypeId}{pos:String}{bK:Array Edge}{g:Option (Nat×Bool)}
theorem aGz{P:Program}{fr:Frame}{cs:List Frame}{s:Sem Next}{w:World}(r:s.runT P w #[]=(.ok .recover w, #[]))(hk:(fr.kind==CallKind.early)=false)(hr:fr.roundOf=none)(ht:tryRecover fr cs=none):
  stepG.apply P true fr cs none s w= .go (G (fr.finish .nilIface) cs) w #[]:=by
 unfold stepG.apply
 simp only[r,hk,if_true,Bool.false_eq_true,if_false,hr,ht]
 rw[Jh]
 rfl
theorem Ops.recover{ats:Array TypeId}(ho:cO ops.toList i=some ⟨some d,.call ⟨.builtin .recover, #[],ats⟩,ty,pos,bK,g⟩)(hw:want ops ρ ⟨some d,.call ⟨.builtin .recover, #[],ats⟩,ty,pos,bK,g⟩)(hro:x.ro=none)(hd:Nat.blt d x.n=true)(H:Ops x ops rest Q ((d,.nilIface)::ρ) ds F):Ops x ops (i::rest) Q ρ ds F:=by
 intro b k cs Stop tmps hk M h1 h0 h2 h3 h4 h5 hc
 have hk':(b.kind==CallKind.early)=false:=by simpa using h2.1
 have ho':=aU ho
 have hf:=eY (b:=b) (t:=tmps) (ds:=ds) (k:=k) (cs:=cs) (rest:=rest) ho' .nilIface
 refine .idle (g':=G (((bW b tmps ds (.inRegion ops (i::rest)::k))).finish .nilIface) cs) rfl (fun w=>?_) ?_
 ·have e:stepG x.P x.main.b (G (bW b tmps ds (.inRegion ops (i::rest)::k)) cs) w=stepG.apply x.P true (bW b tmps ds (.inRegion ops (i::rest)::k)) cs none (execOp (bW b tmps ds (.inRegion ops (i::rest)::k)).eval ⟨some d,.call ⟨.builtin .recover, #[],ats⟩,ty,pos,bK,g⟩) w:=by
   have hr:b.roundOf=none:=h0.trans hro
   simp only[Conc.G,stepG,stepG.exec,stepG.oper,Frame.oper?,bW,ho',hw.wanted h3,hr,Option.map_some,Option.getD_some,if_true]
  rw[e]
  refine aGz (fr:=bW b tmps ds (.inRegion ops (i::rest)::k)) ?_ hk' (h0.trans hro) (h2.2 _ rfl)
  rfl
 ·rw[hf]
  exact H b k cs Stop _ hk M h1 h0 h2 (h3.put (h4▸Nat.le_of_ble_eq_true hd) _) (by simpa using h4) h5 hc
end
end Go.aS

/- Who is where in a plan. Conditions: none; over the given program. -/
namespace Go.aS
set_option maxRecDepth 100000
set_option maxHeartbeats 4000000
theorem aHI(main:Side)(h:Hp)(b4 b5:Nat):Y8 prog main aBB #[bI b4,bI b5] h [] (fun A=>Shut A):=by
 refine Y8.aG aDO rfl (by show 2≤13;decide) [(0,bI b4),(1,bI b5)] ⟨rfl,rfl,trivial⟩ ?_
 refine W.seq<|W.region rfl ?_
 refine Ops.recover rfl wn rfl rfl ?_
 refine agW (yta (v:=.tuple #[.agg #[I 0],.bool false]) (by kernel_rfl) rfl rfl) rfl ?_
 refine qm rfl rfl rfl<|oq (bD rfl rfl rfl) rfl wn rfl rfl<|oq (bD rfl rfl rfl) rfl wn rfl rfl ?_
 refine Ops.new (fun yR=>?_)
 first | refine Ops.jP ?_ | refine Ops.nY ?_
 refine agb rfl rfl rfl<|pq<|W.seq<|W.region rfl<|qm rfl rfl rfl<|pq ?_
 refine W.bZ ?_
 refine W.skip ?_
 exact mg (vs:=[]) (.cons rfl .nil)
def aIo(sh:List Shf)(hs:List Int)(q:List Nat)(i:Nat)(c:Cne)(a:Sd):List Nat:=if a.sh= -1 then q else aDw sh hs q i c a
theorem aJp(main:Side)(h:Hp)(sh:List Shf)(cn:List Cne)(hs:List Int)(vs vc vh:Value)(bs bq:Nat)(cs:Array Value)(Es Eg:TypeId)(zs zg:Nat×Nat)(hS:StF cs vs vc vh hs.length)(hbs:h bs=some (.cells cs Es zs))(h1:Sl h Shf.row vs sh)(h2:Sl h Cne.row vc cn)(h3:Sl h fH vh hs)(hok:aCr sh cn hs)(hg:h 0=some (.cells #[Ur qM] Eg zg))
  (i:Nat) (c:Cne) (hc:cn[i]? =some c) (a:Sd) (ha:a=off∨a∈aB8 sh c hs) (q:List Nat) (hq:QOK q):dV prog main aB1 #[bI bs,bI bq,I i,a.val] h [(bq,.cells (qC q) Pn (0,0))] (fun v A=>Sb [(bq,.cells (qC (aIo sh hs q i c a)) Pn (0,0))] A):=by
 rcases ha with rfl | ha
 ·have:=dV.frame (A:=[]) (B:=[(bq,.cells (qC q) Pn (0,0))]) (main:=main) (h:=h) fun h' _ _=>aIh main h' bs bq i
  refine dV.mono this ?_
  rintro v F ⟨A',⟨rfl,hA⟩,rfl⟩
  exact Sb.left .refl hA
 ·obtain⟨k,d,e,rfl,-⟩:=aFL ha
  have e1:aIo sh hs q i c ⟨k,d⟩=aDw sh hs q i c ⟨k,d⟩:=by unfold aIo;rw[if_neg (by simp only;omega)]
  rw[e1]
  exact aIM main h sh cn hs vs vc vh bs bq cs Es Eg zs zg hS hbs h1 h2 h3 hok hg i c hc _ ha q hq
theorem aG2{sh:List Shf}{hs:List Int}{cn:List Cne}{k:Nat}{c:Cne}{p:List Sd}{q:List Nat}(hd:cn.drop k=c::cn.drop (k+1)):azd sh hs (cn.drop k) k p q=azd sh hs (cn.drop (k+1)) (k+1) p (aIo sh hs q k c (p.getD k off)):=by
 rw[hd,azd];rfl
theorem aIp(main:Side)(h:Hp)(sh:List Shf)(cn:List Cne)(hs:List Int)(vs vc vh vl:Value)(bs:Nat)(cs:Array Value)(Es Eg:TypeId)(zs zg:Nat×Nat)(hS:StF cs vs vc vh hs.length)(hbs:h bs=some (.cells cs Es zs))(h1:Sl h Shf.row vs sh)(h2:Sl h Cne.row vc cn)(h3:Sl h fH vh hs)(hok:aCr sh cn hs)(hg:h 0=some (.cells #[Ur qM] Eg zg))
  (p:List Sd) (hp3:p.length=3) (hl:Sl h Sd.row vl (p.take cn.length)) (hf:aHz sh hs cn 0 p) (hrm:aCG sh hs (azd sh hs cn 0 p aBS)=true) (hQ:QOK (azd sh hs cn 0 p aBS)):
  dV prog main aCC #[bI bs,vl] h [] (fun v A=>v= .tuple #[.agg (qC (azd sh hs cn 0 p aBS)),I 0]∧Shut A):=by
 have hc1:=hS.c1
 have hc3:=hok.c3
 have k1:=h1
 have k2:=h2
 have k3:=h3
 have hll:(p.take cn.length).length=cn.length:=by rw[List.length_take];omega
 obtain⟨a4,cap4,rfl⟩:=hl.dA
 obtain⟨a2,cap2,rfl⟩:=h2.dA
 rw[hll]at hl⊢
 refine dV.aG aD2 rfl (by show 2≤46;decide) [(0,bI bs),(1,.slice a4 cn.length cap4)] ⟨rfl,rfl,trivial⟩ ?_
 refine W.seq<|W.region rfl ?_
 refine Ops.new (fun wC=>?_)
 refine Ops.new (fun mZ=>?_)
 refine pq<|W.seq<|W.seq ?_
 refine W.rE (n:=16) rfl ?_
 refine xq 0 (aN rfl rfl) rfl ?_
 refine xq 1 (dM rfl rfl) rfl ?_
 refine xq 2 (aN rfl rfl) rfl ?_
 first | refine xq 3 (bg rfl rfl) rfl ?_ | refine xq 3 (aT rfl rfl) rfl ?_
 refine xq 4 (ay rfl rfl) rfl ?_
 refine xq 5 (ay rfl rfl) rfl ?_
 refine xq 6 (iQ rfl rfl) rfl ?_
 refine xq 7 (dM rfl rfl) rfl ?_
 refine xq 8 (aN rfl rfl) rfl ?_
 first | refine xq 9 (bg rfl rfl) rfl ?_ | refine xq 9 (aT rfl rfl) rfl ?_
 refine xq 10 (ay rfl rfl) rfl ?_
 refine xq 11 (ay rfl rfl) rfl ?_
 refine xq 12 (iQ rfl rfl) rfl ?_
 refine xq 13 (dM rfl rfl) rfl ?_
 refine Va (i:=14) (u:=I 0) (fun h' hE hL=>?_) ?_
 ·exact aEm _ _ _ _ _ (by omega)
 refine xq 15 (jS rfl rfl) rfl ?_
 refine az ?_
 refine aA<|W.seq<|W.region rfl<|qm rfl rfl rfl ?_
 refine agW (nG rfl rfl rfl) rfl ?_
 refine pq ?_
 refine W.bC rfl (fun c25=>?_) (fun c25=>?_)
 ·refine W.seq<|W.region rfl ?_
  first | refine ag2 rfl ?_ | refine agW (ady rfl rfl) rfl ?_
  refine qm rfl rfl rfl ?_
  first | refine Ops.jP ?_ | refine Ops.nY ?_
  refine Ops.yG ?_
  refine pq<|W.ret<|aY ?_
  exact absurd rfl c25
 ·refine W.skip<|aA<|W.seq<|W.region rfl ?_
  refine agW (y7 rfl rfl rfl) rfl ?_
  refine Ops.defer (d:={target:=.fn (.func aBB) #[bI wC,bI mZ],args:= #[]}) rfl (aU rfl) rfl wn rfl (fun e he=>?_) ?_
  ·have e3:e (.tmp 28)= .func (.func aBB) #[] #[bI wC,bI mZ]:=he _ _ rfl
   simp[resolve,Deferred.ofValue,e3,au]
  refine pq<|W.seq<|W.seq<|W.region rfl<|qm rfl rfl rfl ?_
  refine agW (dM rfl rfl) rfl ?_
  refine qm rfl rfl rfl<|pq<|W.block ?_
  refine W.aa1 (fun(k:Nat) (q:List Nat)=>k≤cn.length∧QOK q∧azd sh hs (cn.drop k) k p q=azd sh hs cn 0 p aBS) (fun k _=>[(31,I k),(30,I cn.length),(29,.slice a4 cn.length cap4),(0,bI bs),(4,bI wC),(5,bI mZ)]) (fun _ q=>[(mZ,.cells #[I 0] Uf (0,0)),(wC,.cells (qC q) Pn (0,0))]) (fun k _=>cn.length-k) 0 aBS ⟨Nat.zero_le _,.zero,rfl⟩ ⟨rfl,rfl,rfl,rfl,rfl,rfl,trivial⟩ .refl ?_
  rintro k q ⟨hk,hq,hpl⟩
  refine W.seq<|W.region rfl ?_
  refine agW (fO rfl rfl rfl) rfl ?_
  refine pq<|W.seq ?_
  refine W.bC rfl (fun c32=>?_) (fun c32=>?_)
  ·obtain⟨c,hc,hdc⟩:=has (show k<cn.length by omega)
   obtain⟨a,hka,-⟩:=has (show k<p.length by omega)
   have hkt:(p.take cn.length)[k]? =some a:=by rw[List.getElem?_take,if_pos (by omega)];exact hka
   have hpk:p.getD k off=a:=by rw[List.getD_eq_getElem?_getD,hka];rfl
   have hfk:a=off∨a∈aB8 sh c hs:=by have:=hf k c hc;rwa[Nat.zero_add,hpk]at this
   obtain⟨b,off',c',E,fz,e1,hb,hxx,hyy,hww⟩:=hl.at hkt
   cases e1
   have hx':c'.extract (off'+k*2) (off'+k*2+2)= #[I a.sh,I a.da]:=hxx
   clear hxx hww
   rw[aG2 hdc,hpk]at hpl
   refine W.skip<|aA<|W.seq<|W.block<|W.seq<|W.region rfl<|qm rfl rfl rfl ?_
   refine ag3 rfl ?_
   first | refine ag2 rfl ?_ | refine agW (ady rfl rfl) rfl ?_
   refine Ops.new (fun yD=>?_)
   refine agb rfl rfl rfl ?_
   first | refine Ops.jP ?_ | refine Ops.nY ?_
   refine pq<|W.region rfl<|qm rfl rfl rfl<|qm rfl rfl rfl ?_
   first | refine ag2 rfl ?_ | refine agW (ady rfl rfl) rfl ?_
   refine cg (A:=[(wC,.cells (qC q) Pn (0,0))]) (.tail (.tail .head)) (fun h' hE hL=>aJp _ h' sh cn hs _ _ _ bs wC _ _ _ _ _ hS (hE.1 _ _ hbs) (k1.ext hE) (k2.ext hE) (k3.ext hE) hok (hE.1 _ _ hg) k c hc a hfk q hq) (fun v A' hv=>?_)
   refine Ops.nil<|dI<|aA<|W.region rfl ?_
   refine ag1 rfl ?_
   refine qm rfl rfl rfl<|pq ?_
   refine⟨rfl,k+1,aIo sh hs q k c a,⟨by omega,?_,hpl⟩,by omega,⟨rfl,rfl,rfl,rfl,rfl,rfl,trivial⟩,?_⟩
   ·unfold aIo
    split
    ·exact hq
    ·exact hq.aDw (by omega)
   ·exact .skip rfl (.cons (by rw[List.append_nil];exact hv))
  ·obtain rfl:k=cn.length:=by omega
   rw[List.drop_length,azd]at hpl
   subst hpl
   have hsz:(qC (azd sh hs cn 0 p aBS)).size=12:=by rw[aDY,hQ.len]
   have hon:ones (qC (azd sh hs cn 0 p aBS)).toList=true:=aG0
   refine W.exit<|bP<|bP<|gG<|aA<|W.seq<|W.region rfl<|qm rfl rfl rfl ?_
   first | refine ag2 rfl ?_ | refine agW (ady rfl rfl) rfl ?_
   refine cp (u:=.bool true) (fun h' hE hL=>?_) ?_
   ·have:=aHW main h' sh cn hs _ _ _ bs _ _ _ hS (hE.1 _ _ hbs) (k1.ext hE) hok _ hQ
    rwa[hrm]at this
   refine cp (fun h' hE hL=>aGZ _ _ _) ?_
   refine pq<|W.seq<|W.region rfl ?_
   first | refine ag2 rfl ?_ | refine agW (ady rfl rfl) rfl ?_
   first | refine Ops.jP ?_ | refine Ops.nY ?_
   refine Ops.yG ?_
   refine pq<|W.ret ?_
   refine X6 (A:=[]) .head (fun h' hE hL=>aHI _ h' wC mZ) (fun A' hA'=>?_)
   refine QJ (hv:=D_ (rSc zJ (hl:=List.mem_append_right _ (.head _))) (hl:=List.mem_append_right _ (.tail _ (.head _)))) ⟨rfl,hA'.app (.cons rfl (.cons rfl .nil))⟩
end Go.aS

/- Who is on each shelf on a day. Conditions: none; over the given program. -/
namespace Go.aS
set_option maxRecDepth 100000
set_option maxHeartbeats 4000000
theorem aIq(main:Side)(h:Hp)(sh:List Shf)(cn:List Cne)(hs:List Int)(no ri to:Int)(vs vc vh vl:Value)(Eg:TypeId)(zg:Nat×Nat)(h1:Sl h Shf.row vs sh)(h2:Sl h Cne.row vc cn)(h3:Sl h fH vh hs)(hok:aCr sh cn hs)(hn:aHm hs no ri to)(hg:h 0=some (.cells #[Ur qM] Eg zg))
  (p:List Sd) (hp3:p.length=3) (hl:Sl h Sd.row vl (p.take cn.length)) (hf:aHz sh hs cn 0 p) (hrm:aCG sh hs (azd sh hs cn 0 p aBS)=true) (hQ:QOK (azd sh hs cn 0 p aBS)) (d:Nat) (hd:d<hs.length):
  dV prog main aD8 #[aFr vs vc hs no ri to,vh,vl,I d] h [] (fun v A=>∃w us S,v= .tuple #[w,I 0]∧Os nS ags w us S∧us.length=sh.length∧(∀k u,us[k]? =some u→u.n=(aDH ((azd sh hs cn 0 p aBS).getD (k*4+d) 0)).length)∧Sb S A):=by
 have k1:=h1
 have k2:=h2
 have k3:=h3
 have k4:=hl
 have hd4:=hok.d4
 have hs3:=hok.s3
 have hc3:=hok.c3
 obtain⟨a1,cap1,rfl⟩:=h1.dA
 obtain⟨a2,cap2,rfl⟩:=h2.dA
 obtain⟨a3,cap3,rfl⟩:=h3.dA
 obtain⟨a4,cap4,rfl⟩:=hl.dA
 generalize hQe:azd sh hs cn 0 p aBS=Q at hrm hQ⊢
 have hsz:(qC Q).size=12:=by rw[aDY,hQ.len]
 have hon:ones (qC Q).toList=true:=aG0
 refine dV.aG aFE rfl (by show 4≤56;decide) [(0,aFr (.slice a1 sh.length cap1) (.slice a2 cn.length cap2) hs no ri to),(1,.slice a3 hs.length cap3),(2,.slice a4 (p.take cn.length).length cap4),(3,I d)] ⟨rfl,rfl,rfl,rfl,trivial⟩ ?_
 refine W.seq<|W.region rfl ?_
 refine Ops.box (fun wC=>?_)
 refine agb rfl rfl rfl<|agb rfl rfl rfl<|pq<|W.seq<|W.region rfl ?_
 first | refine ag2 rfl ?_ | refine agW (ady rfl rfl) rfl ?_
 refine qm rfl rfl rfl ?_
 refine c0 (fun h' hE hL=>aHn _ h' sh cn hs no ri to _ _ _ _ _ (k1.ext hE) (k2.ext hE) (k3.ext hE) hok hn (hE.1 _ _ hg)) (fun v A' hv=>?_)
 obtain⟨bs,mp,l,F,rfl,hF,hsb⟩:=hv
 refine Ops.sb (F':=((bs,.cells (stC (.slice a1 sh.length cap1) (.slice a2 cn.length cap2) hs.length no ri to (.slice a3 hs.length cap3) l mp) U8 (0,0))::(mp,ax6 [])::F)++[(wC,.cells #[.slice a1 sh.length cap1,.slice a2 cn.length cap2,I hs.length,I no,I ri,I to] awO (0,0))]) (hsb.app .refl) ?_
 refine qm rfl rfl rfl<|oq (bD rfl rfl rfl) rfl wn rfl rfl<|oq (bD rfl rfl rfl) rfl wn rfl rfl<|agb rfl rfl rfl<|agb rfl rfl rfl<|pq<|W.seq<|W.seq<|W.region rfl ?_
 refine qm rfl rfl rfl ?_
 refine agW (nG rfl rfl rfl) rfl ?_
 refine pq ?_
 refine W.bC rfl (fun Qc=>?_) (fun Qc=>?_)
 ·refine W.seq<|W.region rfl<|qm rfl rfl rfl<|agb rfl rfl rfl<|agb rfl rfl rfl<|pq<|W.ret<|aY ?_
  exact absurd rfl Qc
 ·refine W.skip<|aA<|W.seq<|W.region rfl<|qm rfl rfl rfl<|qm rfl rfl rfl ?_
  refine c0 (fun h' hE hL=>aIp _ h' sh cn hs _ _ _ _ bs _ _ _ _ _ aGL (hL bs _ (by repeat(first | exact List.Mem.head _ | apply List.Mem.tail))) (k1.ext hE) (k2.ext hE) (k3.ext hE) hok (hE.1 _ _ hg) p hp3 (k4.ext hE) hf (by rw[hQe];exact hrm) (by rw[hQe];exact hQ)) (fun v A' hv=>?_)
  rw[hQe]at hv
  obtain⟨rfl,hA⟩:=hv
  refine Ops.sb (F':=[(wC,.cells #[.slice a1 sh.length cap1,.slice a2 cn.length cap2,I hs.length,I no,I ri,I to] awO (0,0))]) (.left (.left .refl (.cons rfl (.cons rfl (hF.shut rfl)))) hA) ?_
  refine qm rfl rfl rfl<|oq (bD rfl rfl rfl) rfl wn rfl rfl<|oq (bD rfl rfl rfl) rfl wn rfl rfl ?_
  refine Ops.new (fun Yf=>?_)
  first | refine Ops.jP ?_ | refine Ops.nY ?_
  refine agb rfl rfl rfl<|pq<|W.seq<|W.seq<|W.region rfl<|qm rfl rfl rfl ?_
  refine agW (nG rfl rfl rfl) rfl ?_
  refine pq ?_
  refine W.bC rfl (fun c31=>?_) (fun c31=>?_)
  ·refine W.seq<|W.region rfl<|qm rfl rfl rfl<|agb rfl rfl rfl<|agb rfl rfl rfl<|pq<|W.ret<|aY ?_
   exact absurd rfl c31
  ·refine W.skip<|aA<|W.seq<|W.seq<|W.region rfl<|qm rfl rfl rfl ?_
   refine agY rfl ?_
   refine agX rfl ?_
   refine ag5 rfl ?_
   refine cp (u:=.bool true) (fun h' hE hL=>?_) ?_
   ·exact aAA (by omega)
   refine KU (xU rfl rfl) (show Value.bool (!true)= .bool false from rfl) rfl wn rfl rfl ?_
   refine pq ?_
   refine W.bZ ?_
   refine W.skip<|aA<|W.seq<|W.region rfl<|agb rfl rfl rfl<|pq<|W.seq<|W.seq<|W.region rfl ?_
   refine agY rfl ?_
   refine agX rfl ?_
   refine agW (dM rfl rfl) rfl ?_
   refine qm rfl rfl rfl<|pq<|W.block ?_
   refine W.Js (fun(k:Nat) (w:Value) (T:List Sv×ah)=>k≤sh.length∧Os nS ags w T.1 T.2∧T.1.length=k∧∀j u,T.1[j]? =some u→u.n=(aDH (Q.getD (j*4+d) 0)).length) (fun k w _=>[(42,I k),(41,I sh.length),(3,I d),(12,bI Yf),(13,w)]) (fun _ _ T=>(Yf,.cells (qC Q) Pn (0,0))::T.2) (fun k _ _=>sh.length-k) 0 aB9 ([],[]) ⟨Nat.zero_le _,.nil .nil,rfl,fun j u hu=>by simp at hu⟩ ⟨rfl,rfl,rfl,rfl,rfl,trivial⟩ TW ?_
   rintro k w ⟨us,T⟩ ⟨hk,hT,hul,hu⟩
   replace hT:Os nS ags w us T:=hT
   replace hul:us.length=k:=hul
   refine W.seq<|W.region rfl ?_
   refine agW (fO rfl rfl rfl) rfl ?_
   refine pq<|W.seq ?_
   refine W.bC rfl (fun c43=>?_) (fun c43=>?_)
   ·have hkl:k<sh.length:=by omega
    have hq8:=hQ.at (k*4+d)
    have hat:(qC Q)[0+k*4+d*1]? =some (B8 (Q.getD (k*4+d) 0)):=by
     rw[show 0+k*4+d*1=k*4+d by omega];exact aIL (by rw[hQ.len];omega)
    refine W.skip<|aA<|W.seq<|W.block<|W.seq<|W.region rfl<|qm rfl rfl rfl<|agb rfl rfl rfl<|pq ?_
    refine W.region rfl<|qm rfl rfl rfl<|qm rfl rfl rfl<|qm rfl rfl rfl ?_
    first | refine agW (UN rfl rfl rfl) rfl ?_ | refine agW (Qg rfl rfl rfl) rfl ?_
    first | refine agW (UN rfl rfl rfl) rfl ?_ | refine agW (Qg rfl rfl rfl) rfl ?_
    refine agX rfl ?_
    refine c0 (fun h' hE hL=>aHh _ h' _ hq8) (fun v A' hv=>?_)
    have hvs:=hv.shut
    obtain⟨av,cv,rfl⟩:=hv.dA
    rw[aHe]
    refine Ops.sb (F':=(Yf,.cells (qC Q) Pn (0,0))::T) (.left .refl hvs) ?_
    refine Ops.NK (cs:= #[.slice av (aDH (Q.getD (k*4+d) 0)).length cv]) (fun afi=>?_) rfl
    refine oe rfl wn rfl rfl (iW (row:=ags) (l':=[(⟨av,(aDH (Q.getD (k*4+d) 0)).length,cv⟩:Sv)]) rfl rfl rfl hT (.tail (.tail .all)) (fun h2 _ hl=>Sl.mk (hl afi _ (.head _)) rfl (Part.all (ags (⟨av,(aDH (Q.getD (k*4+d) 0)).length,cv⟩:Sv)))) (by simp;omega) (by decide) rfl (fun w' T' hT'=>?_))
    refine agb rfl rfl rfl<|Ops.nil<|dI<|aA<|W.region rfl ?_
    refine ag1 rfl ?_
    refine qm rfl rfl rfl<|pq ?_
    refine⟨rfl,k+1,w',(us++[(⟨av,(aDH (Q.getD (k*4+d) 0)).length,cv⟩:Sv)],T'),⟨by omega,hT',by simp[hul],fun j u hj=>?_⟩,by omega,⟨rfl,rfl,rfl,rfl,rfl,trivial⟩,.skip rfl .refl⟩
    rcases Nat.lt_or_ge j us.length with h' | h'
    ·exact hu j u (by simpa[List.getElem?_append_left h']using hj)
    ·replace hj:(us++[(⟨av,(aDH (Q.getD (k*4+d) 0)).length,cv⟩:Sv)])[j]? =some u:=hj
     rw[List.getElem?_append_right h']at hj
     have hj0:j=us.length:=by
      rcases Nat.eq_zero_or_pos (j-us.length)with h0 | h0
      ·omega
      ·rw[List.getElem?_eq_none (by simp;omega)]at hj;cases hj
     subst hj0
     have:(⟨av,(aDH (Q.getD (k*4+d) 0)).length,cv⟩:Sv)=u:=by simpa using hj
     rw[←this,hul]
   ·obtain rfl:k=sh.length:=by omega
    refine W.exit<|bP<|bP<|gG<|aA<|W.seq<|W.region rfl<|qm rfl rfl rfl<|agb rfl rfl rfl<|agb rfl rfl rfl ?_
    refine pq<|W.ret ?_
    exact mg (vs:=[w,I 0]) ⟨w,us,T,rfl,hT,hul,hu,.skip rfl .refl⟩
end Go.aS

/- The examples that TopCooled asks for. Conditions: none; over the given program. -/
namespace Go.aS
set_option maxRecDepth 100000
set_option maxHeartbeats 4000000
def wSh:List Shf:=[⟨0,1⟩,⟨2,1⟩]
def wCn:List Cne:=[⟨6,3,1,5⟩,⟨4,4,2,6⟩]
def wHs:List Int:=[1,2,3]
theorem aJq(main:Side)(h:Hp):dV prog main aC3 #[] h [] (fun v A=>∃b3 b6,v=aFr (.slice (some ⟨b3,0,none⟩) 2 2) (.slice (some ⟨b6,0,none⟩) 2 2) wHs 0 2 3∧Sb [(b3,.cells #[I 0,I 1,I 2,I 1] aDU (0,0)),(b6,.cells #[I 6,I 3,I 1,I 5,I 4,I 4,I 2,I 6] aHr (0,0))] A):=by
 refine dV.aG aEc rfl (by show 0≤8;decide) [] trivial ?_
 refine W.seq<|W.region rfl ?_
 refine Ops.new (fun β0=>?_)
 refine pq<|W.seq<|W.region rfl ?_
 refine agW (eH (cs:= #[I 0,I 1]) rfl rfl rfl) rfl ?_
 refine agW (eH (cs:= #[I 2,I 1]) rfl rfl rfl) rfl ?_
 refine Ops.NK (cs:= #[I 0,I 1,I 2,I 1]) (fun uU=>?_) rfl
 refine agW (eH (cs:= #[I 6,I 3,I 1,I 5]) rfl rfl rfl) rfl ?_
 refine agW (eH (cs:= #[I 4,I 4,I 2,I 6]) rfl rfl rfl) rfl ?_
 refine Ops.NK (cs:= #[I 6,I 3,I 1,I 5,I 4,I 4,I 2,I 6]) (fun yC=>?_) rfl
 refine agW (eH (cs:= #[.slice (some ⟨uU,0,none⟩) 2 2,.slice (some ⟨yC,0,none⟩) 2 2,I 3,I 0,I 2,I 3]) rfl rfl (by kernel_rfl)) rfl ?_
 first | refine Ops.jP ?_ | refine Ops.nY ?_
 refine pq<|W.ret ?_
 refine QJ (hv:=D_ zJ) ⟨uU,yC,rfl,?_⟩
 exact Sb.trans (B:=(yC,.cells #[I 6,I 3,I 1,I 5,I 4,I 4,I 2,I 6] aHr (0,0))::[(uU,.cells #[I 0,I 1,I 2,I 1] aDU (0,0))]) (.dF (.swap _ _ _)) (.cons (.cons (.nil (.cons rfl .nil))))
theorem wOK:aCr wSh wCn wHs:=by
 refine⟨by decide,by decide,by decide,by decide,by decide,?_,?_,?_⟩
 ·intro s hs
  simp only[wSh,List.mem_cons,List.not_mem_nil,or_false]at hs
  rcases hs with rfl | rfl <;>decide
 ·intro c hc
  simp only[wCn,List.mem_cons,List.not_mem_nil,or_false]at hc
  rcases hc with rfl | rfl <;>(unfold aHc;decide)
 ·intro x hx
  simp only[wHs,List.mem_cons,List.not_mem_nil,or_false]at hx
  rcases hx with rfl | rfl | rfl <;>decide
theorem aKU:aHm wHs 0 2 3:=⟨by decide,by unfold wHs aDP aDP aDP aDP;decide⟩
theorem aKl:(aBE wSh wCn wHs).2.1= -2:=by kernel_rfl
def aIZ:Fl:=⟨3,2,3,1⟩
def aI0:St:=⟨0,2,0⟩
theorem aJr:aDX [aIZ] [aI0] [⟨0,0⟩] 0=(⟨2,3⟩,0):=by kernel_rfl
theorem aI1:aDB [aIZ] [aI0] [⟨0,0⟩] 0 1=(⟨2,2⟩,0):=by kernel_rfl
instance:NS prog eG:=⟨by kernel_rfl,by kernel_rfl⟩
theorem aIr:V7 prog eG 2 2:=by
 refine V7.struct (ws:=[1,1]) (K:=1) ?_
 exact(Lay.cons (by decide) rfl EqAt.int (Lay.cons (by decide) rfl EqAt.int Lay.nil))
instance:EV prog eG 2:=⟨aIr.le (by decide)⟩
theorem aGf(main:Side)(h:Hp)(Eg:TypeId)(zg:Nat×Nat)(hg:h 0=some (.cells #[Ur qM] Eg zg)):Pu prog main aB_ #[] h (.bool true):=by
 refine dV.aG aC5 rfl (by show 0≤60;decide) [] trivial ?_
 refine W.seq<|W.region rfl<|agb rfl rfl rfl<|pq<|W.seq<|W.region rfl ?_
 refine agW (eH (cs:= #[I 2,I 3]) rfl rfl rfl) rfl ?_
 refine agW (eH (cs:= #[I 3,I 2,I 3,I 1]) rfl rfl rfl) rfl ?_
 refine agW (eH (cs:= #[I 0,I 2,I 0]) rfl rfl rfl) rfl ?_
 refine c0 (fun h' hE hL=>aDC _ h' aIZ aI0) (fun v A' hv=>?_)
 obtain⟨b7,b9,b14,rfl,hsb⟩:=hv
 refine Ops.sb (F':=[(b7,.cells #[I 3,I 2,I 3,I 1] Jq (0,0)),(b9,.cells #[I 0,I 2,I 0] ql (0,0)),(b14,.cells #[I 0,I 0] ay1 (0,0))]) (hsb.right .nil) ?_
 refine qm rfl rfl rfl<|oq (bD rfl rfl rfl) rfl wn rfl rfl<|oq (bD rfl rfl rfl) rfl wn rfl rfl ?_
 refine Ops.new (fun β1=>?_)
 first | refine Ops.jP ?_ | refine Ops.nY ?_
 refine agb rfl rfl rfl<|pq<|W.seq<|W.region rfl ?_
 first | refine ag2 rfl ?_ | refine agW (ady rfl rfl) rfl ?_
 refine qm rfl rfl rfl ?_
 refine cp (u:=.tuple #[.agg #[I 2,I 3],I 0]) (fun h' hE hL=>?_) ?_
 ·have:=aHb main h' [aIZ] [aI0] [⟨0,0⟩] 0 (.slice (some ⟨b7,0,none⟩) 1 1) (.slice (some ⟨b9,0,none⟩) 1 1) (.slice (some ⟨b14,0,none⟩) 1 1) (Sl.mk (hL b7 _ (by repeat(first | exact List.Mem.head _ | apply List.Mem.tail))) rfl (Part.all [I 3,I 2,I 3,I 1])) (Sl.mk (hL b9 _ (by repeat(first | exact List.Mem.head _ | apply List.Mem.tail))) rfl (Part.all [I 0,I 2,I 0])) (Sl.mk (hL b14 _ (by repeat(first | exact List.Mem.head _ | apply List.Mem.tail))) rfl (Part.all [I 0,I 0]))
  rw[aJr]at this
  exact this
 refine qm rfl rfl rfl<|oq (bD rfl rfl rfl) rfl wn rfl rfl<|oq (bD rfl rfl rfl) rfl wn rfl rfl ?_
 refine Ops.new (fun uU=>?_)
 first | refine Ops.jP ?_ | refine Ops.nY ?_
 refine agb rfl rfl rfl<|pq<|W.seq<|W.region rfl ?_
 first | refine ag2 rfl ?_ | refine agW (ady rfl rfl) rfl ?_
 refine qm rfl rfl rfl ?_
 refine cp (u:=.tuple #[.agg #[I 2,I 2],I 0]) (fun h' hE hL=>?_) ?_
 ·have:=aGG main h' [aIZ] [aI0] [⟨0,0⟩] 0 1 (.slice (some ⟨b7,0,none⟩) 1 1) (.slice (some ⟨b9,0,none⟩) 1 1) (.slice (some ⟨b14,0,none⟩) 1 1) (Sl.mk (hL b7 _ (by repeat(first | exact List.Mem.head _ | apply List.Mem.tail))) rfl (Part.all [I 3,I 2,I 3,I 1])) (Sl.mk (hL b9 _ (by repeat(first | exact List.Mem.head _ | apply List.Mem.tail))) rfl (Part.all [I 0,I 2,I 0])) (Sl.mk (hL b14 _ (by repeat(first | exact List.Mem.head _ | apply List.Mem.tail))) rfl (Part.all [I 0,I 0]))
  rw[aI1]at this
  exact this
 refine qm rfl rfl rfl<|oq (bD rfl rfl rfl) rfl wn rfl rfl<|oq (bD rfl rfl rfl) rfl wn rfl rfl ?_
 refine Ops.new (fun mZ=>?_)
 first | refine Ops.jP ?_ | refine Ops.nY ?_
 refine agb rfl rfl rfl<|pq<|W.seq<|W.region rfl ?_
 refine c0 (fun h' hE hL=>aJq _ h') (fun v A' hv=>?_)
 obtain⟨b3,b6,rfl,Oh⟩:=hv
 refine Ops.sb (Oh.app .refl) ?_
 refine Ops.NK (cs:= #[I 1,I 2,I 3]) (fun aCN=>?_) rfl
 refine c0 (fun h' hE hL=>aH1 _ h' wSh wCn wHs 0 2 3 _ _ _ _ _ (Sl.mk (hL b3 _ (by repeat(first | exact List.Mem.head _ | apply List.Mem.tail))) rfl (Part.all [I 0,I 1,I 2,I 1])) (Sl.mk (hL b6 _ (by repeat(first | exact List.Mem.head _ | apply List.Mem.tail))) rfl (Part.all [I 6,I 3,I 1,I 5,I 4,I 4,I 2,I 6])) (Sl.mk (hL aCN _ (.head _)) rfl (Part.all [I 1,I 2,I 3])) wOK aKU (hE.1 _ _ hg)) (fun v A' hv=>?_)
 rw[aKl]at hv
 obtain⟨w,S,rfl,hS,afy⟩:=hv
 have hSs:Shut A':=by
  obtain⟨X,p,x⟩:=afy
  intro q hq
  rcases List.mem_append.1 (p.symm.subset hq)with h | h
  ·exact hS.shut q h
  ·exact x q h
 refine Ops.sb (F':=[(mZ,.cells #[I 2,I 2] eG (0,0)),(uU,.cells #[I 2,I 3] eG (0,0))]) (.left (.skip rfl (.skip rfl (.skip rfl (.cons (.cons (.nil (.cons rfl (.cons rfl (.cons rfl (.cons rfl .nil)))))))))) hSs) ?_
 refine qm rfl rfl rfl<|oq (bD rfl rfl rfl) rfl wn rfl rfl<|oq (bD rfl rfl rfl) rfl wn rfl rfl<|oq (bD rfl rfl rfl) rfl wn rfl rfl<|agb rfl rfl rfl<|agb rfl rfl rfl<|agb rfl rfl rfl<|pq<|W.seq ?_
 refine W.region rfl<|qm rfl rfl rfl ?_
 refine KU (nD rfl rfl rfl) (show Value.bool (decide ((0:Int)=0))= .bool true from rfl) rfl wn rfl rfl ?_
 refine qm rfl rfl rfl ?_
 refine oq (aN rfl rfl) rfl (ak rfl rfl rfl) rfl rfl ?_
 refine KU (nD rfl rfl rfl) (show Value.bool (decide ((0:Int)=0))= .bool true from rfl) rfl (ak rfl rfl rfl) rfl rfl ?_
 refine agW (dG rfl rfl rfl) rfl ?_
 refine qm rfl rfl rfl ?_
 refine oq (aN rfl rfl) rfl (ak rfl rfl rfl) rfl rfl ?_
 refine KU (nD rfl rfl rfl) (show Value.bool (decide ((0:Int)=0))= .bool true from rfl) rfl (ak rfl rfl rfl) rfl rfl ?_
 refine agW (dG rfl rfl rfl) rfl ?_
 refine qm rfl rfl rfl ?_
 first | refine oq (Bf rfl rfl) rfl (ak rfl rfl rfl) rfl rfl ?_ | refine oq (zi rfl rfl) rfl (ak rfl rfl rfl) rfl rfl ?_ | refine oq (ady rfl rfl) rfl (ak rfl rfl rfl) rfl rfl ?_
 refine oq (eH (cs:= #[I 2,I 3]) rfl rfl rfl) rfl (ak rfl rfl rfl) rfl rfl ?_
 refine KU (adA [2,3] [2,3] rfl rfl rfl rfl rfl rfl rfl) (show Value.bool (decide (([2,3]:List Int)=[2,3]))= .bool true from rfl) rfl (ak rfl rfl rfl) rfl rfl ?_
 refine agW (dG rfl rfl rfl) rfl ?_
 refine qm rfl rfl rfl ?_
 first | refine oq (Bf rfl rfl) rfl (ak rfl rfl rfl) rfl rfl ?_ | refine oq (zi rfl rfl) rfl (ak rfl rfl rfl) rfl rfl ?_ | refine oq (ady rfl rfl) rfl (ak rfl rfl rfl) rfl rfl ?_
 refine oq (eH (cs:= #[I 2,I 2]) rfl rfl rfl) rfl (ak rfl rfl rfl) rfl rfl ?_
 refine KU (adA [2,2] [2,2] rfl rfl rfl rfl rfl rfl rfl) (show Value.bool (decide (([2,2]:List Int)=[2,2]))= .bool true from rfl) rfl (ak rfl rfl rfl) rfl rfl ?_
 refine agW (dG rfl rfl rfl) rfl ?_
 refine qm rfl rfl rfl ?_
 refine oq (aN rfl rfl) rfl (ak rfl rfl rfl) rfl rfl ?_
 refine KU (nD rfl rfl rfl) (show Value.bool (decide ((2:Int)=2))= .bool true from rfl) rfl (ak rfl rfl rfl) rfl rfl ?_
 refine agW (dG rfl rfl rfl) rfl ?_
 refine agb rfl rfl rfl<|pq<|W.ret ?_
 exact uZ rfl
end Go.aS

/- Shut blocks are put by. Conditions: none; over any program. -/
namespace Go.aS
theorem W.cut{x:Cx}{c c2:Code}{Q:Post}{ρ:Env}{ds:List Deferred}{F:ah}(L:Env)(G:ah)(H:W x c (fun e ρ' ds' F'=>e= .normal∧ds'=ds∧Sub L ρ'∧Sb G F') ρ ds F)(K:W x c2 Q L ds G):W x c (thn (fun ρ' ds' F'=>W x c2 Q ρ' ds' F') Q) ρ ds F:=
 W.mono H fun e ρ' ds' F' h=>by
  obtain⟨he,hd,hs,hb⟩:=h
  subst he hd
  exact aA (W.env hs (W.sb hb K))
end Go.aS

/- Heats out of a hat. Conditions: none; over the given program. -/
namespace Go.aS
set_option maxRecDepth 100000
set_option maxHeartbeats 4000000
def lastH(n:Int)(l:List Int):Int:=l.foldl (fun _ x=>x) n
theorem aDR{to ri x:Int}:∀{l:List Int} {n:Int},aDP to ri n l→0≤x→x≤to→x≤lastH n l+ri→aDP to ri n (l++[x])
 | [],n,_,h1,h2,h3=>⟨h1,h2,h3,trivial⟩
 | y::l,n,h,h1,h2,h3=>⟨h.1,h.2.1,h.2.2.1,aDR (l:=l) (n:=y) h.2.2.2 h1 h2 h3⟩
theorem aEn{n x:Int}{l:List Int}:lastH n (l++[x])=x:=by unfold lastH;rw[List.foldl_append];rfl
theorem aHo{to ri:Int}:∀{l:List Int} {n:Int},aDP to ri n l→∀x∈l,0≤x∧x≤to
 | y::l,n,h,x,hx=>by
  rcases List.mem_cons.1 hx with rfl | hx
  ·exact⟨h.1,h.2.1⟩
  ·exact aHo h.2.2.2 x hx
theorem aHJ(main:Side)(h:Hp)(nums:List Int)(lv:Value)(b k:Nat)(s:Int)(vs vc:Value)(da:Nat)(no ri to:Int)(hl:Sl h fH lv nums)(hk:k<1000000000)(ho1:∃a l c,vs= .slice a l c)(ho2:∃a l c,vc= .slice a l c)(hd:da≤3)(hn:0≤no∧no≤2∧0≤ri∧ri≤3∧1≤to∧to≤4):
  dV prog main aEG #[.pointer (some ⟨b,0,none⟩),.agg #[vs,vc,I da,I no,I ri,I to]] h [(b,wF lv k s)] (fun v A=>∃hs S k' s',Os dL fH v hs S∧hs.length=da∧aDP to ri no hs∧k'≤k+10∧Sb ((b,wF lv k' s')::S) A):=by
 obtain⟨a2,l2,c2,rfl⟩:=ho1
 obtain⟨a3,l3,c3,rfl⟩:=ho2
 refine dV.aG aFP rfl (by show 2≤33;decide) [(0,.pointer (some ⟨b,0,none⟩)),(1,.agg #[.slice a2 l2 c2,.slice a3 l3 c3,I da,I no,I ri,I to])] ⟨rfl,rfl,trivial⟩ ?_
 refine W.seq<|W.region rfl ?_
 refine Ops.box (fun uU=>?_)
 refine agb rfl rfl rfl<|pq<|W.seq<|W.region rfl<|agb rfl rfl rfl<|pq<|W.seq<|W.region rfl ?_
 refine agY rfl ?_
 refine agX rfl ?_
 refine agb rfl rfl rfl<|pq<|W.seq<|W.seq<|W.region rfl<|agb rfl rfl rfl<|pq<|W.block ?_
 refine W.Js (σ:=Nat×Int) (τ:=List Int×Value×ah) (υ:=Nat×Int) (fun i t u=>i.1≤da∧Os dL fH t.2.1 t.1 t.2.2∧t.1.length=i.1∧(aDP to ri no t.1∧lastH no t.1=i.2∧0≤i.2∧i.2≤4)∧u.1≤k+2*i.1) (fun i t _=>[(7,I i.1),(6,I i.2),(5,t.2.1),(3,.pointer (some ⟨uU,0,none⟩)),(0,.pointer (some ⟨b,0,none⟩))])
  (fun _ t u=>(uU,.cells #[.slice a2 l2 c2,.slice a3 l3 c3,I da,I no,I ri,I to] awO (0,0))::(b,wF lv u.1 u.2)::t.2.2) (fun i _ _=>da-i.1) (0,no) ([],.slice none 0 0,[]) (k,s) ⟨Nat.zero_le _,.nil .nil,rfl,⟨trivial,rfl,by simp only;omega,by simp only;omega⟩,by simp only;omega⟩ ⟨rfl,rfl,rfl,rfl,rfl,trivial⟩ .refl ?_
 rintro⟨i,n⟩ ⟨hs,w,S⟩ ⟨k1,s1⟩ ⟨hi,hO,hlen,⟨hh,hla,hn0,hn4⟩,hk1⟩
 simp only at hi hO hlen hh hla hn0 hn4 hk1⊢
 refine W.seq<|W.seq<|W.region rfl<|qm rfl rfl rfl ?_
 refine agY rfl ?_
 refine agX rfl ?_
 refine agW (fO rfl rfl rfl) rfl ?_
 refine pq ?_
 refine W.bC rfl (fun c13=>?_) (fun c13=>?_)
 ·obtain⟨wa,wc,rfl⟩:=hO.dA
  obtain⟨m,hm⟩:∃m,min to (n+ri)=m:=⟨_,rfl⟩
  have hm1:0≤m∧m≤to∧m≤n+ri∧m≤4:=by omega
  refine W.skip<|aA<|W.seq<|W.block<|W.seq<|W.region rfl ?_
  refine agY rfl ?_
  refine agX rfl ?_
  refine qm rfl rfl rfl ?_
  refine agY rfl ?_
  refine agX rfl ?_
  refine ag1 rfl ?_
  refine agW ((Tm rfl rfl rfl).eq (u:=I m) (congrArg I hm)) rfl ?_
  refine agb rfl rfl rfl<|pq<|W.seq<|W.seq<|W.region rfl<|qm rfl rfl rfl ?_
  refine cg (A:=[(b,_)]) (.tail .head) (fun h' hE hL=>VP _ h' nums lv b k1 s1 2 (hl.ext hE) (by omega) (by omega)) (fun v A' hv=>?_)
  obtain⟨r,s2,rfl,hsb⟩:=hv
  refine Ops.sb (.cons (hsb.app .refl)) ?_
  refine pq ?_
  refine W.cond rfl (fun c24=>?_) (fun c24=>?_)
  ·refine W.region rfl<|qm rfl rfl rfl<|qm rfl rfl rfl ?_
   refine cg (A:=[(b,_)]) (.tail .head) (fun h' hE hL=>UC _ h' nums lv b (k1+1) s2 m (hl.ext hE) (by omega) (by omega)) (fun v A' hv=>?_)
   obtain⟨m2,s3,rfl,hm2,hsb⟩:=hv
   refine Ops.sb (.cons (hsb.app .refl)) ?_
   refine agb rfl rfl rfl<|pq<|W.region rfl<|qm rfl rfl rfl<|qm rfl rfl rfl ?_
   first | refine Ops.NK (cs:= #[I m2]) (fun avi=>?_) rfl | refine Ops.NK (cs:= #[I m]) (fun avi=>?_) rfl
   first
    | refine oe rfl wn rfl rfl (iW (row:=fH) (l':=[m2]) rfl rfl rfl hO (.tail (.tail (.tail .all))) (fun h2 _ hl=>Sl.mk (hl avi _ (.head _)) rfl (Part.all [I m2])) (by simp;omega) (by decide) rfl (fun v' S' Ie=>?_))
    | refine oe rfl wn rfl rfl (iW (row:=fH) (l':=[m]) rfl rfl rfl hO (.tail (.tail (.tail .all))) (fun h2 _ hl=>Sl.mk (hl avi _ (.head _)) rfl (Part.all [I m])) (by simp;omega) (by decide) rfl (fun v' S' Ie=>?_))
   refine agb rfl rfl rfl<|Ops.nil<|dI<|aA<|W.region rfl<|qm rfl rfl rfl ?_
   refine ag1 rfl ?_
   refine agb rfl rfl rfl<|pq ?_
   first
    | exact⟨rfl,(i+1,m2),(hs++[m2],v',S'),(k1+2,s3),⟨by simp only;omega,Ie,by simp[hlen],⟨aDR hh (by omega) (by omega) (by omega),aEn,by simp only;omega,by simp only;omega⟩,by simp only;omega⟩,by simp only;omega,⟨lk rfl (show I _=I _ by congr 1),rfl,rfl,rfl,rfl,trivial⟩,.skip rfl .refl⟩
    | exact⟨rfl,(i+1,m),(hs++[m],v',S'),(k1+1,s2),⟨by simp only;omega,Ie,by simp[hlen],⟨aDR hh (by omega) (by omega) (by omega),aEn,by simp only;omega,by simp only;omega⟩,by simp only;omega⟩,by simp only;omega,⟨lk rfl (show I _=I _ by congr 1),rfl,rfl,rfl,rfl,trivial⟩,.skip rfl .refl⟩
  ·refine W.skip<|aA<|W.region rfl<|qm rfl rfl rfl<|qm rfl rfl rfl ?_
   first | refine Ops.NK (cs:= #[I m2]) (fun avi=>?_) rfl | refine Ops.NK (cs:= #[I m]) (fun avi=>?_) rfl
   first
    | refine oe rfl wn rfl rfl (iW (row:=fH) (l':=[m2]) rfl rfl rfl hO (.tail (.tail (.tail .all))) (fun h2 _ hl=>Sl.mk (hl avi _ (.head _)) rfl (Part.all [I m2])) (by simp;omega) (by decide) rfl (fun v' S' Ie=>?_))
    | refine oe rfl wn rfl rfl (iW (row:=fH) (l':=[m]) rfl rfl rfl hO (.tail (.tail (.tail .all))) (fun h2 _ hl=>Sl.mk (hl avi _ (.head _)) rfl (Part.all [I m])) (by simp;omega) (by decide) rfl (fun v' S' Ie=>?_))
   refine agb rfl rfl rfl<|Ops.nil<|dI<|aA<|W.region rfl<|qm rfl rfl rfl ?_
   refine ag1 rfl ?_
   refine agb rfl rfl rfl<|pq ?_
   first
    | exact⟨rfl,(i+1,m2),(hs++[m2],v',S'),(k1+2,s3),⟨by simp only;omega,Ie,by simp[hlen],⟨aDR hh (by omega) (by omega) (by omega),aEn,by simp only;omega,by simp only;omega⟩,by simp only;omega⟩,by simp only;omega,⟨lk rfl (show I _=I _ by congr 1),rfl,rfl,rfl,rfl,trivial⟩,.skip rfl .refl⟩
    | exact⟨rfl,(i+1,m),(hs++[m],v',S'),(k1+1,s2),⟨by simp only;omega,Ie,by simp[hlen],⟨aDR hh (by omega) (by omega) (by omega),aEn,by simp only;omega,by simp only;omega⟩,by simp only;omega⟩,by simp only;omega,⟨lk rfl (show I _=I _ by congr 1),rfl,rfl,rfl,rfl,trivial⟩,.skip rfl .refl⟩
 ·refine W.exit<|bP<|bP<|gG<|aA<|W.seq<|W.region rfl<|qm rfl rfl rfl<|agb rfl rfl rfl<|Ops.nil ?_
  refine aA<|W.ret ?_
  exact mg (vs:=[w]) ⟨hs,S,k1,s1,hO,by omega,hh,by omega,.skip rfl .refl⟩
end Go.aS

/- One floor, one strike: when its cones are done, how many stand on a day. Conditions: none. -/
namespace Go.aS
set_option maxRecDepth 100000
theorem aI2{f:Fl}{s:St}(hf:aAP f=0)(h1:0≤s.day∧s.day≤12)(h2:1≤s.co∧s.co≤6)(h3:s.wa=0):aCl [f] [s] [⟨0,s.day⟩]=0:=by
 have e1:aBs [f] [s]=0:=by
  unfold aBs
  rw[if_neg (by simp),if_neg (by simp),if_neg (by simp[aBU,hf]),if_neg (by simp)]
  simp only[aBr]
  have:aBG 0 s=0:=by
   unfold aBG
   rw[if_neg (by unfold outs;omega),if_neg (by omega)]
  rw[if_pos this]
 unfold aCl
 rw[if_neg (by simp[e1]),if_neg (by simp),if_neg (by simp)]
 simp only[aBb]
 have:aAq (([f]:List Fl).length:Int) s ⟨0,s.day⟩=0:=by
  unfold aAq
  rw[if_neg (by unfold outs;simp),if_neg (by simp),if_neg (by unfold outs;simp only;omega)]
 rw[if_pos this]
theorem aH2{f:Fl}{s:St}{ns:List Int}(hf:aAP f=0)(h1:0≤s.day∧s.day≤12)(h2:1≤s.co∧s.co≤6)(h3:s.wa=0)(hn:aEP 1 ns=false):aDv [f] [s] [⟨0,s.day⟩] ns=0:=by
 unfold aDv
 rw[if_neg (by simp[aI2 hf h1 h2 h3])]
 have:aEP (([f]:List Fl).length:Int) ns=false:=hn
 rw[this];rfl
theorem ready_one{f:Fl}{s:St}(hf:aAP f=0)(h1:0≤s.day∧s.day≤12)(h2:1≤s.co∧s.co≤6)(h3:s.wa=0):aDX [f] [s] [⟨0,s.day⟩] 0=(⟨s.day+f.lo,s.day+f.hi⟩,0):=by
 unfold aDX
 rw[if_neg (by simp[aH2 hf h1 h2 h3 (show aEP 1 []=false from rfl)]),if_neg (by simp[outs])]
 rfl
theorem aHK{f:Fl}{s:St}{d:Nat}(hf:aAP f=0)(h1:0≤s.day∧s.day≤12)(h2:1≤s.co∧s.co≤6)(h3:s.wa=0)(hd:d<22):aDB [f] [s] [⟨0,s.day⟩] 0 d=(⟨if s.day≤d∧(d:Int)<s.day+f.lo then s.co else 0,if s.day≤d∧(d:Int)<s.day+f.hi then s.co else 0⟩,0):=by
 have hck:=aI2 hf h1 h2 h3
 obtain⟨hall,hp,-⟩:=aFK hck
 unfold aDB
 rw[if_neg (by simp[aH2 hf h1 h2 h3 (show aEP 1 [0]=false by simp[aEP,outs])]),if_neg (by unfold outs;omega)]
 have h:=aHx hall hp.ok (f:=0) (by decide) (by simp) hd
 have e:(aC8 [f] [s] (aBZ [⟨0,s.day⟩]) 0).getD (d:Int).toNat ⟨0,0⟩=⟨aIA [f] [s] (aBZ [⟨0,s.day⟩]) 0 d,aIz [f] [s] (aBZ [⟨0,s.day⟩]) 0 d⟩:=by
  rw[Int.toNat_natCast,List.getD_eq_getElem?_getD,h];rfl
 rw[e]
 have e2:aIA [f] [s] (aBZ [⟨0,s.day⟩]) 0 d=if s.day≤d∧(d:Int)<s.day+f.lo then s.co else 0:=by
  simp[aIA,aF8,loG,aBZ,aBw,aCB,aBY,aF6,List.replicate]
 have e3:aIz [f] [s] (aBZ [⟨0,s.day⟩]) 0 d=if s.day≤d∧(d:Int)<s.day+f.hi then s.co else 0:=by
  simp[aIz,aF8,hiG,aBZ,aBw,aCB,aBY,aF6,List.replicate]
 rw[e2,e3]
end Go.aS

/- From a law's body to the run of the machine, and to what is claimed of it. Conditions: none; over any program. -/
namespace Go.aS
def QE(P:Program)(main:Side)(f:FuncId)(args:Array Value)(h:Hp)(u:Value):Prop:=
 ∃(fn:Func) (c:Code) (ρ:Env),P.funcs[f]? =some fn∧fn.body=some c∧args.size≤fn.ntmps∧G9 ρ args∧W ⟨P,main,f,fn.ntmps,none,h⟩ c (fun e ρ ds F=>ds=[]∧Shut F∧leave P main fn h (fun v _=>v=u) e ρ [] F) ρ [] []

section
variable{P:Program}{main:Side}{h:Hp}
theorem QE.aG{f:FuncId}{fn:Func}{c:Code}{args:Array Value}{u:Value}(hf:P.funcs[f]? =some fn)(hb:fn.body=some c)(ha:args.size≤fn.ntmps)(ρ:Env)(hρ:G9 ρ args)
  (H:W ⟨P,main,f,fn.ntmps,none,h⟩ c (fun e ρ ds F=>ds=[]∧Shut F∧leave P main fn h (fun v _=>v=u) e ρ [] F) ρ [] []):QE P main f args h u:=⟨fn,c,ρ,hf,hb,ha,hρ,H⟩
variable{fn:Func}{e:Exit}{ρ:Env}{F:ah}
theorem lvq{u:Value}{vs:List Value}(hu:pack vs=u)(he:e= .ret∨e= .normal:=by first | exact .inl rfl | exact .inr rfl)(hv:RI ρ fn.results.toList=some vs:=by rfl)(hs:Shut F:=by repeat(first | exact Shut.nil | assumption | refine Shut.cons rfl ?_ | refine Shut.app ?_ ?_)):([]:List Deferred)=[]∧Shut F∧leave P main fn h (fun v _=>v=u) e ρ [] F:=
 ⟨rfl,hs,mg hu he hv⟩
end
theorem QE.run{P:Program}{f:FuncId}{args:Array Value}{W:World}{u:Value}(hi:P.inits.idxOf? f=none)(T:QE P (GI P (tZ P fun v _=>v=u)) f args (atStart W) u):
  ∃M last o w' t',runNT P (M+1) (Conc.solo (Conc.G (Frame.enter P f args .normal) []) W) #[]=(.ended o w',t')∧runN P M (Conc.solo (Conc.G (Frame.enter P f args .normal) []) W)= .next last∧Go.step P last= .ended o w'∧Conc.Good P (fun v w'=>v=u∧Kept W w') last o w' t':=by
 obtain⟨fn,c,ρ,h1,h2,h3,h4,h5⟩:=T
 exact Mo.run (Mo.top (R:=fun v=>v=u) h1 h2 hi h3 ρ h4 PD (fun b o hb=>(ku.1 hb).2) (fun v w hv _=>hv) h5)

theorem Kept.below{w w':World}(h:Kept w w'):Go.RowKit.Below w.heap.size w {w' with os:=w.os}:=⟨rfl,h.tape,h.output,h.size,h.block⟩

theorem Gl(l:List Int):flat fH l=l.map fun n=>.int .i64 n:=by
 induction l with
 | nil=>rfl
 | cons a l ih=>rw[iV,ih];rfl
theorem Part.ace{c:Array Value}{off:Nat}{xs:List Value}(h:∀j,j<xs.length→c[off+j]? =xs[j]?)(hne:xs≠[]):Part c off xs:=by
 have hlen:off+xs.length≤c.size:=by
  have hpos:0<xs.length:=List.length_pos_iff.2 hne
  have:=h (xs.length-1) (by omega)
  rw[List.getElem?_eq_getElem (by omega)]at this
  rcases Nat.lt_or_ge (off+(xs.length-1)) c.size with h' | h'
  ·omega
  ·rw[Array.getElem?_eq_none h']at this;cases this
 refine⟨c.toList.take off,c.toList.drop (off+xs.length),?_,by simp;omega⟩
 apply List.ext_getElem?
 intro i
 have hsz:c.toList.length=c.size:=by simp
 rcases Nat.lt_or_ge i off with h1 | h1
 ·rw[List.getElem?_append_left (by simp;omega),List.getElem?_take,if_pos h1]
 ·rw[List.getElem?_append_right (by simp;omega)]
  have e1:(c.toList.take off).length=off:=by simp;omega
  rw[e1]
  rcases Nat.lt_or_ge (i-off) xs.length with h2 | h2
  ·rw[List.getElem?_append_left h2,←h _ h2]
   simp only[Array.getElem?_toList]
   congr 1;omega
  ·rw[List.getElem?_append_right h2,List.getElem?_drop]
   congr 1;omega
theorem Sl.atStart{W:World}{a:Addr}{n cap:Nat}{zs:List Int}(hz:n≤zs.length)(h:∀i,i<zs.length→W.cell? (a.add i)=some (.int .i64 (zs.getD i 0))):Sl (atStart W) fH (.slice (some a) n cap) (zs.take n):=by
 refine⟨some a,cap,by rw[List.length_take,Nat.min_eq_left hz],fun hne=>?_⟩
 have hpos:0<n:=by
  rcases Nat.eq_zero_or_pos n with h' | h'
  ·subst h';simp at hne
  ·exact h'
 obtain⟨b,off,spot⟩:=a
 have hsp:spot=none:=by
  have:=h 0 (by omega)
  cases hs:spot with
  | none=>rfl
  | some s=>
   subst hs
   exfalso
   simp only[World.cell?,Addr.add,if_true]at this
   split at this
   ·simp at this
   ·cases this
 subst hsp
 have cell:∀i,i<zs.length→∃c E fz,W.heap[b]? =some (.cells c E fz)∧c[off+i]? =some (.int .i64 (zs.getD i 0)):=fun i hi=>by
  have:=h i hi
  rw[show(⟨b,off,none⟩:Addr).add i=⟨b,off+i,none⟩ by unfold Addr.add;split <;>simp[*]]at this
  simp only[World.cell?]at this
  split at this
  ·rename_i c E fz hb
   exact⟨c,E,fz,hb,by simpa using this⟩
  ·cases this
 obtain⟨c,E,fz,hb,h0⟩:=cell 0 (by omega)
 refine⟨b,off,c,E,fz,rfl,ku.2 ⟨hb,rfl⟩,Part.ace (fun j hj=>?_) ?_⟩
 ·rw[Gl,List.length_map,List.length_take]at hj
  obtain⟨c',E',fz',hb',hj'⟩:=cell j (by omega)
  rw[hb]at hb'
  cases hb'
  rw[hj',Gl,List.getElem?_map,List.getElem?_take,if_pos (by omega),List.getElem?_eq_getElem (by omega)]
  simp[List.getD,List.getElem?_eq_getElem (show j<zs.length by omega)]
 ·rw[Gl]
  intro e
  exact hne (List.map_eq_nil_iff.1 e)
end Go.aS

/- The outermost function where no goroutine is started: from a law's body to the run of the machine. Conditions: none; over any program. -/
namespace Go.aS
open Go.Conc (solo solo_eq_crowd stepT_solo runT_crowd_go)
def az6(P:Program)(S:Goroutine→Hp→(Nat→Prop)→Prop):Side:=⟨true,fun X=>X=S⟩

section
variable{P:Program}{Post:Value→World→Prop}
theorem CJ.top{f:FuncId}{fn:Func}{body:Code}(hf:P.funcs[f]? =some fn)(hb:fn.body=some body)(hi:P.inits.idxOf? f=none){args:Array Value}(ha:args.size≤fn.ntmps)(ρ:Env)(hρ:G9 ρ args){h k:Hp}{M:Nat→Prop}(S:Sat h [] k M)(hno:∀b o,h b=some o→o.isChan=false)
  {R:Value→Prop} (hpost:∀v w,R v→(∀b o,h b=some o→w.heap[b]? =some o)→Post v w)
  (H:W ⟨P,az6 P (tZ P Post),f,fn.ntmps,none,h⟩ body (fun e ρ ds F=>ds=[]∧Shut F∧leave P (az6 P (tZ P Post)) fn h (fun v _=>R v) e ρ [] F) ρ [] []):CJ P true (tZ P Post) (G (Frame.enter P f args .normal) []) k M:=by
 have e:Frame.enter P f args .normal=bW {(default:Frame)with fn:=f,kind:=.normal} (args++Array.replicate (fn.ntmps-args.size) undef) [] [.code body]:=by
  simp[Frame.enter,bW,hf,hb];rfl
 rw[e]
 refine H _ [] [] ⟨tZ P Post,rfl,tZ.x9⟩ _ k M rfl rfl (.normal rfl) hρ.ok (by simp;omega) S fun ex ρ' ds' F' aZ hk' M' q a1 a2 a3 a4=>?_
 obtain⟨rfl,hsh,hex,hu⟩:=q
 have hu':tr P h (results fn aZ) F' (fun v _=>R v):=hu aZ a1
 have go:∀todo,CJ P true (tZ P Post) (G (iC {(default:Frame)with fn:=f,kind:=.normal} aZ [] todo) []) hk' M':=fun todo=>by
  refine .stop ⟨rfl,fun c o hm hk=>?_,fun w hw hM=>?_⟩
  ·cases ho:opn o with
   | false=>rfl
   | true=>
    rcases a3.all c o hm hk ho with h1 | h1
    ·rw[hsh _ h1]at ho;cases ho
    ·rw[Fh (hno c o h1)]at ho;cases ho
  ·obtain⟨v,Lp,w',es,r1,r2,r3,r4,r5⟩:=jR _ #[] hu' a3 hw hM
   rw[Array.empty_append]at r1
   refine⟨v,w',_,abD hf hi r1 rfl,r2.mem fun _=>mem_seen,hpost v w' r5 fun b o hb=>?_⟩
   exact(qZ hw r2).get (r3.sub b o hb) (hno b o hb)
 rcases hex with rfl | rfl
 ·exact fun k'=>.idle rfl (fun _=>Fj (main:=az6 P (tZ P Post)) rfl) (go _)
 ·exact .idle rfl (fun _=>Fp (main:=az6 P (tZ P Post)) rfl) (go _)

theorem CJ.running{S:Goroutine→Hp→(Nat→Prop)→Prop}{g:Goroutine}{k:Hp}{M:Nat→Prop}(H:CJ P true S g k M)(hS:∀g k M,S g k M→g.status= .running):g.status= .running:=by
 cases H with
 | stop h=>exact hS _ _ _ h
 | step hs _ _=>exact hs

theorem step_solo_go{g g':Goroutine}{w w':World}{es:Array Event}(hs:g.status= .running)(h:stepG P true g w= .go g' w' es):Go.step P (solo g w)= .next (solo g' w'):=by
 have e:stepT P (solo g w)=(.next (solo g' w'),MemOp.ofEvents 0 g.frame.fn g.frame.place es):=by
  rw[stepT_solo hs,solo_eq_crowd]
  have:=runT_crowd_go (P:=P) (gs:= #[g]) (w:=w) (sl:=none) (i:=0) (g:=g) (g':=g') (w':=w') (es:=es) rfl h
  rw[this]
  simp[solo_eq_crowd]
 show(stepT P (solo g w)).1=_
 rw[e]
theorem azZ{g:Goroutine}{w w':World}{o:Outcome}{es:Array Event}(hs:g.status= .running)(h:stepG P true g w= .ended o w' es):Go.step P (solo g w)= .ended o w':=by
 have e:stepT P (solo g w)=(.ended o w',MemOp.ofEvents 0 g.frame.fn g.frame.place es):=by
  rw[stepT_solo hs,solo_eq_crowd]
  exact runT_crowd_ended (gs:= #[g]) (i:=0) rfl h
 show(stepT P (solo g w)).1=_
 rw[e]

theorem CJ.ends{W0:World}{g:Goroutine}{k:Hp}{M:Nat→Prop}(H:CJ P true (tZ P Post) g k M):∀w,yF k w→Dom k M→Kept W0 w→w.os=W0.os→(∀b,M b→W0.heap.size≤b)→
  ∃n g' wl v w',runN P n (solo g w)= .next (solo g' wl)∧Go.step P (solo g' wl)= .ended (.done v) w'∧Post v w'∧Kept W0 w'∧w'.os=W0.os:=by
 induction H with
 | stop h=>
  rename_i g k M
  intro w ha hd hk ho hl
  obtain⟨hs,_,he⟩:=h
  obtain⟨v,w',es,e,gu,hp⟩:=he w ha hd
  exact⟨0,g,w,v,w',rfl,azZ hs e,hp,hk.guar gu hl,gu.os.trans ho⟩
 | step hs ok h ih=>
  rename_i g k M
  intro w ha hd hk ho hl
  obtain⟨g',w',es,e,gu⟩:=ok w ha hd
  obtain⟨n,g1,wl,v,w1,h1,h2⟩:=ih w g' w' es ha hd e w' (qZ ha gu) (u_ ha hd gu.size) (hk.guar gu hl) (gu.os.trans ho) fun b hb=>by
   rcases hb with hb | hb
   ·exact hl b hb
   ·exact Nat.le_trans hk.size hb.1
  refine⟨n+1,g1,wl,v,w1,?_,h2⟩
  show runN P (n+1) (solo g w)=_
  rw[runN,step_solo_go hs e]
  exact h1

theorem QE.alone{f:FuncId}{args:Array Value}{W:World}{u:Value}(hi:P.inits.idxOf? f=none)(T:QE P (az6 P (tZ P fun v _=>v=u)) f args (atStart W) u):
  ∃n g' wl w',runN P n (lone (Frame.enter P f args .normal) [] W)= .next (solo g' wl)∧Go.step P (solo g' wl)= .ended (.done u) w'∧Kept W w'∧w'.os=W.os:=by
 obtain⟨fn,c,ρ,h1,h2,h3,h4,h5⟩:=T
 have H:=CJ.top (R:=fun v=>v=u) h1 h2 hi h3 ρ h4 PD (fun b o hb=>(ku.1 hb).2) (fun v w hv _=>hv) h5
 obtain⟨n,g',wl,v,w',a1,a2,rfl,a4,a5⟩:=H.ends W (fun b o hb=>⟨o,(ku.1 hb).1,.inl rfl⟩) (fun b hb=>hb.elim) (.refl W) rfl fun b hb=>hb.elim
 exact⟨n,g',wl,w',a1,a2,a4,a5⟩

theorem axb{a:Assume}{C:Checked}{os:Go.Os}{f:FuncId}{r:Reach}{Pre:World→Array Value→Prop}{Post:World→Array Value→Value→World→Prop}
  (own:ownKnob C.prog.godebug=none) (started:os.Started)
  (
   witness:∃(w:World) (tape:Tape) (i:Input),w.os=os∧(w.forCall tape i).Shaped C.prog∧i.vars=[]∧Input.okWide C.prog (w.forCall tape i) r w.heap.size f i∧Pre (w.forCall tape i).memory i.args∧
   a.holds C.prog (lone (Frame.enter C.prog f i.args .normal) [] (w.forCall tape i)))
  (
   contract:∀(w:World) (tape:Tape) (i:Input),w.os=os→(w.forCall tape i).ShapedOpen C.prog→i.vars=[]→Input.okWide C.prog (w.forCall tape i) r w.heap.size f i→Pre (w.forCall tape i).memory i.args→
   a.holds C.prog (lone (Frame.enter C.prog f i.args .normal) [] (w.forCall tape i))→
   ∃n g' wl v w',runN C.prog n (lone (Frame.enter C.prog f i.args .normal) [] (w.forCall tape i))= .next (solo g' wl)∧Go.step C.prog (solo g' wl)= .ended (.done v) w'∧Post (w.forCall tape i).blind i.args v w'.blind):
  ReturnsInHanded a C os f r Pre Post:=fun enter=>by
 obtain⟨w0,t0,i0,a1,a2,a3,a4,a5,a6⟩:=witness
 refine⟨enter,own,started,⟨w0,t0,i0,a1,a2,a3,a4,a5,a6,trivial⟩,fun w tape i h=>?_⟩
 obtain⟨n,g',wl,v,w',hn,hend,hp⟩:=contract w tape i h.1 h.2.1 h.2.2.1 h.2.2.2.1 h.2.2.2.2.1 h.2.2.2.2.2.1
 have h1:(solo g' wl).gs.size≤1:=by simp[solo]
 have hend':runN C.prog (n+1) (lone (Frame.enter C.prog f i.args .normal) [] (w.forCall tape i))= .ended (.done v) w':=by
  rw[runN_add,hn]
  simp[runN,hend]
 refine⟨n+1,v,w',hend',(no_race_of_lone _ n _ _ hn h1 rfl).2,roomy_placeholder ..,hp,⟨n,_,hn,hend,⟨by simp[solo,Machine.othersDone],by simp[solo]⟩,handedOver_of_allBy (allBy_of_lone _ n _ _ hn h1 rfl),fun j g hg hj=>?_⟩,fun _ _ _=>trivial⟩
 cases j with
 | zero=>exact absurd rfl hj
 | succ k=>simp[solo]at hg
end
end Go.aS

/- TopCooled. Conditions: none; over the given program. -/
namespace Go.aS
set_option maxRecDepth 100000
set_option maxHeartbeats 8000000
theorem aHL{f:Fl}(h:aAP f=0):1≤f.lo∧f.lo≤f.hi∧f.hi≤6:=by
 unfold aAP outs at h
 split at h
 ·cases h
 ·split at h
  ·cases h
  ·omega
theorem aGg{sh:List Shf}{hs:List Int}{p:List Sd}:∀{cn:List Cne} {i:Nat} {q:List Nat},QOK q→i+cn.length≤3→QOK (azd sh hs cn i p q)
 | [],_,_,h,_=>h
 | c::cs,i,q,h,hi=>by
  rw[List.length_cons]at hi
  rw[azd]
  refine aGg (cn:=cs) ?_ (by omega)
  split
  ·exact h
  ·exact h.aDw (by omega)

theorem aH3{q:List Nat}{d:Nat}:∀{k:Nat},aGY q d k≤3*k
 | 0=>Nat.le_refl _
 | k+1=>by
  have:=aH3 (q:=q) (d:=d) (k:=k)
  have:=aGb (c:=q.getD (k*4+d) 0)
  rw[aGY];omega
theorem aGA(main:Side)(hmb:main.b=true)(h:Hp)(nums:List Int)(lv:Value)(Eg:TypeId)(zg:Nat×Nat)(hl:Sl h fH lv nums)(hg:h 0=some (.cells #[Ur qM] Eg zg)):QE prog main aze #[lv] h (.bool true):=by
 refine QE.aG aBa rfl (by show 1≤193;decide) [(0,lv)] ⟨rfl,trivial⟩ ?_
 refine W.seq<|W.region rfl<|agb rfl rfl rfl<|pq<|W.seq<|W.region rfl<|qm rfl rfl rfl ?_
 refine c0 (fun h' hE hL=>VQ _ h' nums lv (hl.ext hE)) (fun v A' hv=>?_)
 obtain⟨b,s0,rfl,rfl⟩:=hv
 refine agb rfl rfl rfl<|pq<|W.seq<|W.region rfl<|qm rfl rfl rfl ?_
 refine cg (A:=[(b,_)]) .head (fun h' hE hL=>aHB _ h' nums lv b s0 (hl.ext hE)) (fun v A' hv=>?_)
 obtain⟨vs,sh,Ss,da,no,ri,to,k1,s1,rfl,hOs,⟨hs1,hs3,aKV⟩,⟨aLo,aLp,aLq,aLr,aLs,aLt,aLu,aLv⟩,hk1,hsb⟩:=hv
 obtain⟨va,vca,rfl⟩:=hOs.dA
 obtain⟨da,rfl⟩:∃n:Nat,da=n:=⟨da.toNat,by omega⟩
 refine Ops.sb (F':=(b,wF lv k1 s1)::Ss) (hsb.right .nil) ?_
 refine Ops.new (fun wC=>?_)
 first | refine Ops.jP ?_ | refine Ops.nY ?_
 refine pq<|W.seq<|W.region rfl<|qm rfl rfl rfl ?_
 refine cg (A:=[(b,_)]) (.tail .head) (fun h' hE hL=>UC _ h' nums lv b k1 s1 12 (hl.ext hE) (by omega) (by omega)) (fun v A' hv=>?_)
 obtain⟨dN,s2,rfl,hdN,hsb⟩:=hv
 refine Ops.sb (.cons (hsb.app .refl)) ?_
 obtain⟨dN,rfl⟩:∃n:Nat,dN=n:=⟨dN.toNat,by omega⟩
 refine qm rfl rfl rfl ?_
 refine cg (A:=[(b,_)]) (.tail .head) (fun h' hE hL=>UD _ h' nums lv b (k1+1) s2 1 3 (hl.ext hE) (by omega) (by omega)) (fun v A' hv=>?_)
 obtain⟨cN,s3,rfl,hcN,hsb⟩:=hv
 refine Ops.sb (.cons (hsb.app .refl)) ?_
 obtain⟨cN,rfl⟩:∃n:Nat,cN=n:=⟨cN.toNat,by omega⟩
 refine agW (eH (cs:= #[I dN,I cN,I 0]) rfl rfl rfl) rfl ?_
 refine Ops.new (fun mZ=>?_)
 first | refine Ops.jP ?_ | refine Ops.nY ?_
 refine pq<|W.seq<|W.seq<|W.region rfl<|agb rfl rfl rfl<|pq<|W.block ?_
 refine W.Js (σ:=Nat) (τ:=List Cne×Value×ah) (υ:=Nat×Int) (fun i t u=>i≤cN∧Os aHr Cne.row t.2.1 t.1 t.2.2∧(∀c∈t.1,aHc c)∧t.1.length=i∧u.1≤102+4*i) (fun i _ _=>[(6,I i),(5,bI mZ),(4,bI wC),(3,bI b)])
  (fun _ t u=>(mZ,.cells #[I dN,I cN,I 0] ql (0,0))::(wC,.cells #[.slice va sh.length vca,t.2.1,I da,I no,I ri,I to] awO (0,0))::(b,wF lv u.1 u.2)::(t.2.2++Ss)) (fun i _ _=>cN-i) 0 ([],.slice none 0 0,[]) (k1+2,s3) ⟨Nat.zero_le _,.nil .nil,(fun c hc=>by cases hc),rfl,by simp only;omega⟩ ⟨rfl,rfl,rfl,rfl,trivial⟩ .refl ?_
 rintro i ⟨cs,vc,Sc⟩ ⟨k2,s4⟩ ⟨hi,hOc,hck,hlen,hk2⟩
 simp only at hOc hck hlen hk2⊢
 refine W.seq<|W.seq<|W.region rfl<|qm rfl rfl rfl ?_
 refine agY rfl ?_
 refine agX rfl ?_
 refine agW (fO rfl rfl rfl) rfl ?_
 refine pq ?_
 refine W.bC rfl (fun c34=>?_) (fun c34=>?_)
 ·obtain⟨ca,cca,rfl⟩:=hOc.dA
  refine W.skip<|aA<|W.seq<|W.block ?_
  refine W.Ap (n:=8) rfl ?_
  refine xq 0 (ay rfl rfl) rfl ?_
  refine xq 1 (iQ rfl rfl) rfl ?_
  refine xq 2 (aN rfl rfl) rfl ?_
  refine ae (i:=3) rfl an rfl rfl (QZ (A:=[(b,_)]) (args:=[_]) rfl rfl (.tail (.tail .head)) (fun h' hE hL=>aIf _ h' nums lv b k2 s4 (hl.ext hE) (by omega)) (fun v A' hv=>?_))
  refine⟨.inr (Keeps.one (.head _) (Keeps.one (.tail _ (.head _)) Keeps.nil)),?_⟩
  obtain⟨c,s5,rfl,hcc,hsb⟩:=hv
  refine Any.sb (.cons (.cons (hsb.app .refl))) ?_
  refine abl (i:=4) (cs:= #[I c.we,I c.co,I c.ju,I c.mo]) (fun aCO=>?_) rfl
  refine ae (i:=5) rfl an rfl rfl (iW (row:=Cne.row) (l':=[c]) rfl rfl rfl hOc (.tail (.tail (.tail (.tail .head)))) (fun h2 _ hl=>Sl.mk (hl aCO _ (.head _)) rfl (Part.all (flat Cne.row [c]))) (by simp;omega) (by decide) rfl (fun v' S' Ie=>?_))
  refine⟨.inr (Keeps.one (.tail _ (.head _)) (Keeps.one (.tail _ (.tail _ (.head _))) Keeps.nil)),?_⟩
  obtain⟨asl,csl,rfl⟩:=Ie.dA
  refine xq 6 (ay rfl rfl) rfl ?_
  refine ae (i:=7) rfl an rfl rfl (eS rfl rfl rfl ?_)
  refine⟨.inl (by kernel_rfl),?_⟩
  refine az ?_
  refine dI<|aA<|W.region rfl<|qm rfl rfl rfl ?_
  refine ag1 rfl ?_
  refine agb rfl rfl rfl<|pq ?_
  refine⟨rfl,i+1,(cs++[c],_,S'),(k2+4,s5),⟨by omega,Ie,fun y hy=>?_,by simp[hlen],by simp only;omega⟩,by omega,⟨lk rfl (show I _=I _ by congr 1),rfl,rfl,rfl,trivial⟩,.skip rfl .refl⟩
  rcases List.mem_append.1 hy with hy | hy
  ·exact hck y hy
  ·obtain rfl:y=c:=by simpa using hy
   exact hcc
 ·obtain rfl:i=cN:=by omega
  obtain⟨ca,cca,rfl⟩:=hOc.dA
  refine W.exit<|bP<|bP<|gG<|aA<|W.seq<|W.region rfl<|qm rfl rfl rfl ?_
  first | refine ag2 rfl ?_ | refine agW (ady rfl rfl) rfl ?_
  refine cg (A:=[(b,_)]) (.tail (.tail .head)) (fun h' hE hL=>aHJ _ h' nums lv b k2 s4 _ _ da no ri to (hl.ext hE) (by omega) ⟨_,_,_,rfl⟩ ⟨_,_,_,rfl⟩ (by omega) (by omega)) (fun v A' hv=>?_)
  obtain⟨hs,Sh,k3,s5,hOh,hhl,hht,hk3,hsb⟩:=hv
  obtain⟨ha,hca,rfl⟩:=hOh.dA
  refine Ops.sb (F':=(mZ,.cells #[I dN,I i,I 0] ql (0,0))::(wC,.cells #[.slice va sh.length vca,.slice ca cs.length cca,I da,I no,I ri,I to] awO (0,0))::(b,wF lv k3 s5)::(Sh++(Sc++Ss))) (.cons (.cons (hsb.app .refl))) ?_
  obtain⟨cN,aKW⟩:∃n,n=i:=⟨_,rfl⟩
  subst aKW
  refine agb rfl rfl rfl<|pq<|W.seq ?_
  refine W.mono (Q:=(fun e ρ' ds' F'=>e= .normal∧ds'=[]∧∃f yD b7 b9 b14,aAP f=0∧Sub [(9,.slice (some ⟨b14,0,none⟩) 1 1),(8,bI yD),(7,.slice ha hs.length hca),(5,bI mZ),(4,bI wC)] ρ'∧Sb ((yD,.cells #[.slice (some ⟨b7,0,none⟩) 1 1,.slice (some ⟨b9,0,none⟩) 1 1] Wy (0,0))::(b7,.cells #[I f.pl,I f.lo,I f.hi,I f.co] Jq (0,0))::(b9,.cells #[I dN,I cN,I 0] ql (0,0))::(b14,.cells #[I 0,I dN] ay1 (0,0))::(mZ,.cells #[I dN,I cN,I 0] ql (0,0))::(wC,.cells #[.slice va sh.length vca,.slice ca cs.length cca,I da,I no,I ri,I to] awO (0,0))::(Sh++(Sc++Ss))) F')) ?_ ?_
  ·refine W.DR [(mZ,.cells #[I dN,I cN,I 0] ql (0,0))] (n:=10) rfl ?_
   refine xq 0 (aN rfl rfl) rfl ?_
   first | refine xq 2 (Bf rfl rfl) rfl ?_ | refine xq 2 (zi rfl rfl) rfl ?_
   refine Any.WB (i:=1) (j:=7) (by kernel_rfl) (aU rfl) (aU rfl) an an rfl rfl rfl rfl ?_ ?_
   ·refine(QZ (A:=[(b,_)]) (args:=[_]) rfl rfl (.tail (.tail (.head))) (fun h' hE hL=>aF_ _ h' nums lv b k3 s5 (hl.ext hE) (by omega)) (fun v A' hv=>?_))
    refine⟨.inr (by repeat(first | exact Keeps.nil | refine Keeps.one (by repeat(first | exact List.Mem.head _ | apply List.Mem.tail)) ?_)),?_⟩
    obtain⟨f,s6,rfl,hcf,hsb⟩:=hv
    refine Any.sb (.cons (.cons (hsb.app .refl))) ?_
    refine Any.WB (i:=3) (j:=7) (by kernel_rfl) (aU rfl) (aU rfl) an an rfl rfl rfl rfl ?_ ?_
    ·refine(lQ (args:=[_,_]) rfl rfl (fun h' hE hL=>aDC _ h' f ⟨dN,cN,0⟩) (fun v A' hv=>?_))
     obtain⟨b7,b9,b14,rfl,Oh⟩:=hv
     refine⟨.inr (Keeps.app (by repeat(first | exact Keeps.nil | refine Keeps.one (by repeat(first | exact List.Mem.head _ | apply List.Mem.tail)) ?_))),?_⟩
     refine Any.sb (Oh.app .refl) ?_
     refine xq 4 (aN rfl rfl) rfl ?_
     refine xq 5 (bD rfl rfl rfl) rfl ?_
     refine xq 6 (bD rfl rfl rfl) rfl ?_
     refine ae (i:=7) rfl an rfl rfl (eN rfl (fun yD=>?_))
     refine⟨.inr (by repeat(first | exact Keeps.nil | refine Keeps.one (by repeat(first | exact List.Mem.head _ | apply List.Mem.tail)) ?_)),?_⟩
     refine ae (i:=8) rfl an rfl rfl (eSW rfl rfl rfl ?_)
     refine⟨.inr (by repeat(first | exact Keeps.nil | refine Keeps.one (by repeat(first | exact List.Mem.head _ | apply List.Mem.tail)) ?_)),?_⟩
     refine xq 9 (jS rfl rfl) rfl ?_
     refine az ?_
     exact⟨rfl,rfl,f,yD,b7,b9,b14,hcf,⟨rfl,rfl,rfl,rfl,rfl,trivial⟩,Sb.trans (B:=(b,wF lv (k3+6) s6)::((yD,.cells #[.slice (some ⟨b7,0,none⟩) 1 1,.slice (some ⟨b9,0,none⟩) 1 1] Wy (0,0))::(b7,.cells #[I f.pl,I f.lo,I f.hi,I f.co] Jq (0,0))::(b9,.cells #[I dN,I cN,I 0] ql (0,0))::(b14,.cells #[I 0,I dN] ay1 (0,0))::(mZ,.cells #[I dN,I cN,I 0] ql (0,0))::(wC,.cells #[.slice va sh.length vca,.slice ca cs.length cca,I da,I no,I ri,I to] awO (0,0))::(Sh++(Sc++Ss)))) (.skip rfl .refl) (.dF (show List.Perm _ ((yD,.cells #[.slice (some ⟨b7,0,none⟩) 1 1,.slice (some ⟨b9,0,none⟩) 1 1] Wy (0,0))::(b7,.cells #[I f.pl,I f.lo,I f.hi,I f.co] Jq (0,0))::(b9,.cells #[I dN,I cN,I 0] ql (0,0))::(b14,.cells #[I 0,I dN] ay1 (0,0))::(mZ,.cells #[I dN,I cN,I 0] ql (0,0))::(wC,.cells #[.slice va sh.length vca,.slice ca cs.length cca,I da,I no,I ri,I to] awO (0,0))::(b,wF lv (k3+6) s6)::(Sh++(Sc++Ss)):ah)from agQ fun y=>by simp only[List.count_append,List.count_cons,List.count_nil];omega))⟩
    ·refine(eN rfl (fun yD=>?_))
     refine⟨.inr (by repeat(first | exact Keeps.nil | refine Keeps.one (by repeat(first | exact List.Mem.head _ | apply List.Mem.tail)) ?_)),?_⟩
     refine ae (i:=3) rfl an rfl rfl (lQ (args:=[_,_]) rfl rfl (fun h' hE hL=>aDC _ h' f ⟨dN,cN,0⟩) (fun v A' hv=>?_))
     obtain⟨b7,b9,b14,rfl,Oh⟩:=hv
     refine⟨.inr (Keeps.app (by repeat(first | exact Keeps.nil | refine Keeps.one (by repeat(first | exact List.Mem.head _ | apply List.Mem.tail)) ?_))),?_⟩
     refine Any.sb (Oh.app .refl) ?_
     refine xq 4 (aN rfl rfl) rfl ?_
     refine xq 5 (bD rfl rfl rfl) rfl ?_
     refine xq 6 (bD rfl rfl rfl) rfl ?_
     refine ae (i:=8) rfl an rfl rfl (eSW rfl rfl rfl ?_)
     refine⟨.inr (by repeat(first | exact Keeps.nil | refine Keeps.one (by repeat(first | exact List.Mem.head _ | apply List.Mem.tail)) ?_)),?_⟩
     refine xq 9 (jS rfl rfl) rfl ?_
     refine az ?_
     exact⟨rfl,rfl,f,yD,b7,b9,b14,hcf,⟨rfl,rfl,rfl,rfl,rfl,trivial⟩,Sb.trans (B:=(b,wF lv (k3+6) s6)::((yD,.cells #[.slice (some ⟨b7,0,none⟩) 1 1,.slice (some ⟨b9,0,none⟩) 1 1] Wy (0,0))::(b7,.cells #[I f.pl,I f.lo,I f.hi,I f.co] Jq (0,0))::(b9,.cells #[I dN,I cN,I 0] ql (0,0))::(b14,.cells #[I 0,I dN] ay1 (0,0))::(mZ,.cells #[I dN,I cN,I 0] ql (0,0))::(wC,.cells #[.slice va sh.length vca,.slice ca cs.length cca,I da,I no,I ri,I to] awO (0,0))::(Sh++(Sc++Ss)))) (.skip rfl .refl) (.dF (show List.Perm _ ((b7,.cells #[I f.pl,I f.lo,I f.hi,I f.co] Jq (0,0))::(b9,.cells #[I dN,I cN,I 0] ql (0,0))::(b14,.cells #[I 0,I dN] ay1 (0,0))::(yD,.cells #[.slice (some ⟨b7,0,none⟩) 1 1,.slice (some ⟨b9,0,none⟩) 1 1] Wy (0,0))::(mZ,.cells #[I dN,I cN,I 0] ql (0,0))::(wC,.cells #[.slice va sh.length vca,.slice ca cs.length cca,I da,I no,I ri,I to] awO (0,0))::(b,wF lv (k3+6) s6)::(Sh++(Sc++Ss)):ah)from agQ fun y=>by simp only[List.count_append,List.count_cons,List.count_nil];omega))⟩
   ·refine(eN rfl (fun yD=>?_))
    refine⟨.inr (by repeat(first | exact Keeps.nil | refine Keeps.one (by repeat(first | exact List.Mem.head _ | apply List.Mem.tail)) ?_)),?_⟩
    refine ae (i:=1) rfl an rfl rfl (QZ (A:=[(b,_)]) (args:=[_]) rfl rfl (.tail (.tail (.tail (.head)))) (fun h' hE hL=>aF_ _ h' nums lv b k3 s5 (hl.ext hE) (by omega)) (fun v A' hv=>?_))
    refine⟨.inr (by repeat(first | exact Keeps.nil | refine Keeps.one (by repeat(first | exact List.Mem.head _ | apply List.Mem.tail)) ?_)),?_⟩
    obtain⟨f,s6,rfl,hcf,hsb⟩:=hv
    refine Any.sb (.cons (.cons (.cons (hsb.app .refl)))) ?_
    refine ae (i:=3) rfl an rfl rfl (lQ (args:=[_,_]) rfl rfl (fun h' hE hL=>aDC _ h' f ⟨dN,cN,0⟩) (fun v A' hv=>?_))
    obtain⟨b7,b9,b14,rfl,Oh⟩:=hv
    refine⟨.inr (Keeps.app (by repeat(first | exact Keeps.nil | refine Keeps.one (by repeat(first | exact List.Mem.head _ | apply List.Mem.tail)) ?_))),?_⟩
    refine Any.sb (Oh.app .refl) ?_
    refine xq 4 (aN rfl rfl) rfl ?_
    refine xq 5 (bD rfl rfl rfl) rfl ?_
    refine xq 6 (bD rfl rfl rfl) rfl ?_
    refine ae (i:=8) rfl an rfl rfl (eSW rfl rfl rfl ?_)
    refine⟨.inr (by repeat(first | exact Keeps.nil | refine Keeps.one (by repeat(first | exact List.Mem.head _ | apply List.Mem.tail)) ?_)),?_⟩
    refine xq 9 (jS rfl rfl) rfl ?_
    refine az ?_
    exact⟨rfl,rfl,f,yD,b7,b9,b14,hcf,⟨rfl,rfl,rfl,rfl,rfl,trivial⟩,Sb.trans (B:=(b,wF lv (k3+6) s6)::((yD,.cells #[.slice (some ⟨b7,0,none⟩) 1 1,.slice (some ⟨b9,0,none⟩) 1 1] Wy (0,0))::(b7,.cells #[I f.pl,I f.lo,I f.hi,I f.co] Jq (0,0))::(b9,.cells #[I dN,I cN,I 0] ql (0,0))::(b14,.cells #[I 0,I dN] ay1 (0,0))::(mZ,.cells #[I dN,I cN,I 0] ql (0,0))::(wC,.cells #[.slice va sh.length vca,.slice ca cs.length cca,I da,I no,I ri,I to] awO (0,0))::(Sh++(Sc++Ss)))) (.skip rfl .refl) (.dF (show List.Perm _ ((b7,.cells #[I f.pl,I f.lo,I f.hi,I f.co] Jq (0,0))::(b9,.cells #[I dN,I cN,I 0] ql (0,0))::(b14,.cells #[I 0,I dN] ay1 (0,0))::(yD,.cells #[.slice (some ⟨b7,0,none⟩) 1 1,.slice (some ⟨b9,0,none⟩) 1 1] Wy (0,0))::(mZ,.cells #[I dN,I cN,I 0] ql (0,0))::(wC,.cells #[.slice va sh.length vca,.slice ca cs.length cca,I da,I no,I ri,I to] awO (0,0))::(b,wF lv (k3+6) s6)::(Sh++(Sc++Ss)):ah)from agQ fun y=>by simp only[List.count_append,List.count_cons,List.count_nil];omega))⟩
  rintro e ρ' ds' F' ⟨rfl,rfl,f,yD,b7,b9,b14,hcf,hE0,hsb⟩
  refine aA (W.env hE0 (W.sb hsb ?_))
  refine W.seq ?_
  subst hhl
  obtain⟨hlo,hlh,hh6⟩:=aHL hcf
  obtain⟨fp,lo,hi,fc⟩:=f
  simp only at hlo hlh hh6⊢
  obtain⟨lo,rfl⟩:∃n:Nat,lo=n:=⟨lo.toNat,by omega⟩
  obtain⟨hi,rfl⟩:∃n:Nat,hi=n:=⟨hi.toNat,by omega⟩
  have hhs:=aHo hht
  have hok:aCr sh cs hs:=⟨hs1,hs3,by omega,by omega,by omega,aKV,hck,fun x hx=>by have:=hhs x hx;omega⟩
  have hnm:aHm hs no ri to:=⟨by omega,hht⟩
  obtain⟨hp3,hfit,hroom⟩:=aE4 hok
  have aKX:QOK (azd sh hs cs 0 (aBE sh cs hs).1 aBS):=aGg .zero (by omega)
  refine W.region rfl ?_
  first | refine ag2 rfl ?_ | refine agW (ady rfl rfl) rfl ?_
  refine qm rfl rfl rfl ?_
  refine cp (u:=.tuple #[.agg #[I (dN+lo:Int),I (dN+hi:Int)],I 0]) (fun h' hE hL=>?_) ?_
  ·have:=aHb main h' [⟨fp,lo,hi,fc⟩] [⟨dN,cN,0⟩] [⟨0,dN⟩] 0 (.slice (some ⟨b7,0,none⟩) 1 1) (.slice (some ⟨b9,0,none⟩) 1 1) (.slice (some ⟨b14,0,none⟩) 1 1) (Sl.mk (hL b7 _ (by repeat(first | exact List.Mem.head _ | apply List.Mem.tail))) rfl (Part.all [I fp,I lo,I hi,I fc])) (Sl.mk (hL b9 _ (by repeat(first | exact List.Mem.head _ | apply List.Mem.tail))) rfl (Part.all [I dN,I cN,I 0])) (Sl.mk (hL b14 _ (by repeat(first | exact List.Mem.head _ | apply List.Mem.tail))) rfl (Part.all [I 0,I dN]))
   rw[ready_one hcf (by simp only;omega) (by simp only;omega) rfl]at this
   exact this
  refine qm rfl rfl rfl<|oq (bD rfl rfl rfl) rfl wn rfl rfl<|oq (bD rfl rfl rfl) rfl wn rfl rfl ?_
  refine Ops.new (fun Oj=>?_)
  first | refine Ops.jP ?_ | refine Ops.nY ?_
  refine agb rfl rfl rfl<|pq<|W.seq<|W.region rfl ?_
  first | refine ag2 rfl ?_ | refine agW (ady rfl rfl) rfl ?_
  refine qm rfl rfl rfl ?_
  refine c0 (fun h' hE hL=>aH1 _ h' sh cs hs no ri to _ _ _ _ _ (hOs.sl (fun q o hq=>hL q o (by simp[hq]))) (hOc.sl (fun q o hq=>hL q o (by simp[hq]))) (hOh.sl (fun q o hq=>hL q o (by simp[hq]))) hok hnm (hE.1 _ _ hg)) (fun v A' hv=>?_)
  obtain⟨vp,Sm,rfl,hOp,hsb⟩:=hv
  obtain⟨pa,pc,rfl⟩:=hOp.dA
  refine Ops.sb (F':=(Oj,.cells #[I (dN+lo:Int),I (dN+hi:Int)] eG (0,0))::(yD,.cells #[.slice (some ⟨b7,0,none⟩) 1 1,.slice (some ⟨b9,0,none⟩) 1 1] Wy (0,0))::(b7,.cells #[I fp,I lo,I hi,I fc] Jq (0,0))::(b9,.cells #[I dN,I cN,I 0] ql (0,0))::(b14,.cells #[I 0,I dN] ay1 (0,0))::(mZ,.cells #[I dN,I cN,I 0] ql (0,0))::(wC,.cells #[.slice va sh.length vca,.slice ca cs.length cca,I hs.length,I no,I ri,I to] awO (0,0))::(Sm++(Sh++(Sc++Ss)))) (.trans (.dF (show List.Perm _ (Sm++((Oj,.cells #[I (dN+lo:Int),I (dN+hi:Int)] eG (0,0))::(yD,.cells #[.slice (some ⟨b7,0,none⟩) 1 1,.slice (some ⟨b9,0,none⟩) 1 1] Wy (0,0))::(b7,.cells #[I fp,I lo,I hi,I fc] Jq (0,0))::(b9,.cells #[I dN,I cN,I 0] ql (0,0))::(b14,.cells #[I 0,I dN] ay1 (0,0))::(mZ,.cells #[I dN,I cN,I 0] ql (0,0))::(wC,.cells #[.slice va sh.length vca,.slice ca cs.length cca,I hs.length,I no,I ri,I to] awO (0,0))::(Sh++(Sc++Ss))):ah)from agQ fun y=>by simp only[List.count_append,List.count_cons,List.count_nil];omega)) (hsb.app .refl)) ?_
  refine qm rfl rfl rfl<|oq (bD rfl rfl rfl) rfl wn rfl rfl<|oq (bD rfl rfl rfl) rfl wn rfl rfl<|oq (bD rfl rfl rfl) rfl wn rfl rfl<|agb rfl rfl rfl<|agb rfl rfl rfl<|agb rfl rfl rfl<|pq<|W.seq ?_
  refine W.seq<|W.region rfl<|qm rfl rfl rfl ?_
  refine KU (nG rfl rfl rfl) (show Value.bool (decide ((0:Int)≠0))= .bool false from rfl) rfl wn rfl rfl ?_
  refine qm rfl rfl rfl ?_
  refine oq (aN rfl rfl) rfl (ak rfl rfl rfl) rfl rfl ?_
  refine KU (nG rfl rfl rfl) (show Value.bool (decide ((0:Int)≠0))= .bool false from rfl) rfl (ak rfl rfl rfl) rfl rfl ?_
  refine agW (iH rfl rfl rfl) rfl ?_
  refine qm rfl rfl rfl ?_
  refine oq (ay rfl rfl) rfl (ak rfl rfl rfl) rfl rfl ?_
  refine oq (iQ rfl rfl) rfl (ak rfl rfl rfl) rfl rfl ?_
  refine oq (ay rfl rfl) rfl (ak rfl rfl rfl) rfl rfl ?_
  refine oq (iQ rfl rfl) rfl (ak rfl rfl rfl) rfl rfl ?_
  refine KU (Lr rfl rfl rfl) (congrArg Value.bool (decide_eq_false (by omega))) rfl (ak rfl rfl rfl) rfl rfl ?_
  refine agW (iH rfl rfl rfl) rfl ?_
  refine qm rfl rfl rfl ?_
  refine oq (ay rfl rfl) rfl (ak rfl rfl rfl) rfl rfl ?_
  refine oq (iQ rfl rfl) rfl (ak rfl rfl rfl) rfl rfl ?_
  refine oq (ay rfl rfl) rfl (ak rfl rfl rfl) rfl rfl ?_
  refine oq (iQ rfl rfl) rfl (ak rfl rfl rfl) rfl rfl ?_
  refine KU (rC rfl rfl rfl) (congrArg Value.bool (decide_eq_false (by omega))) rfl (ak rfl rfl rfl) rfl rfl ?_
  refine agW (iH rfl rfl rfl) rfl ?_
  refine qm rfl rfl rfl ?_
  refine oq (ay rfl rfl) rfl (ak rfl rfl rfl) rfl rfl ?_
  refine oq (iQ rfl rfl) rfl (ak rfl rfl rfl) rfl rfl ?_
  refine KU (rC rfl rfl rfl) (congrArg Value.bool (decide_eq_false (by omega))) rfl (ak rfl rfl rfl) rfl rfl ?_
  refine agW (iH rfl rfl rfl) rfl ?_
  refine pq ?_
  refine W.bZ ?_
  refine W.skip<|aA<|W.seq<|W.seq<|W.region rfl ?_
  refine agY rfl ?_
  refine agX rfl ?_
  refine agb rfl rfl rfl<|pq<|W.block ?_
  refine W.loop (σ:=Nat) (fun d=>dN≤d∧d≤22) (fun d=>[(15,I d),(12,.slice pa ((aBE sh cs hs).1.take cs.length).length pc),(10,bI Oj),(9,.slice (some ⟨b14,0,none⟩) 1 1),(8,bI yD),(7,.slice ha hs.length hca),(5,bI mZ),(4,bI wC)])
   (fun _=>(Oj,.cells #[I (dN+lo:Int),I (dN+hi:Int)] eG (0,0))::(yD,.cells #[.slice (some ⟨b7,0,none⟩) 1 1,.slice (some ⟨b9,0,none⟩) 1 1] Wy (0,0))::(b7,.cells #[I fp,I lo,I hi,I fc] Jq (0,0))::(b9,.cells #[I dN,I cN,I 0] ql (0,0))::(b14,.cells #[I 0,I dN] ay1 (0,0))::(mZ,.cells #[I dN,I cN,I 0] ql (0,0))::(wC,.cells #[.slice va sh.length vca,.slice ca cs.length cca,I hs.length,I no,I ri,I to] awO (0,0))::(Sm++(Sh++(Sc++Ss)))) (fun d=>22-d) dN ⟨Nat.le_refl _,by omega⟩ ⟨rfl,rfl,rfl,rfl,rfl,rfl,rfl,rfl,trivial⟩ .refl ?_
  rintro d ⟨hd1,hd2⟩
  refine W.seq<|W.seq<|W.region rfl<|qm rfl rfl rfl ?_
  refine agY rfl ?_
  refine agX rfl ?_
  refine agY rfl ?_
  refine agX rfl ?_
  refine ag1 rfl ?_
  refine ag5 rfl ?_
  refine agW (Tm rfl rfl rfl) rfl ?_
  refine agW (Lr rfl rfl rfl) rfl ?_
  refine pq ?_
  refine W.bC rfl (fun aCY=>?_) (fun aCY=>?_)
  ·have aLw:d≤21∧d≤dN+hi+hs.length-1:=by omega
   refine W.skip<|aA<|W.seq<|W.block<|W.seq<|W.region rfl ?_
   first | refine ag2 rfl ?_ | refine agW (ady rfl rfl) rfl ?_
   refine qm rfl rfl rfl<|qm rfl rfl rfl ?_
   refine cp (u:=.tuple #[.agg #[I (if(dN:Int)≤d∧(d:Int)<dN+lo then(cN:Int)else 0),I (if(dN:Int)≤d∧(d:Int)<dN+hi then(cN:Int)else 0)],I 0]) (fun h' hE hL=>?_) ?_
   ·have:=aGG main h' [⟨fp,lo,hi,fc⟩] [⟨dN,cN,0⟩] [⟨0,dN⟩] 0 d (.slice (some ⟨b7,0,none⟩) 1 1) (.slice (some ⟨b9,0,none⟩) 1 1) (.slice (some ⟨b14,0,none⟩) 1 1) (Sl.mk (hL b7 _ (by repeat(first | exact List.Mem.head _ | apply List.Mem.tail))) rfl (Part.all [I fp,I lo,I hi,I fc])) (Sl.mk (hL b9 _ (by repeat(first | exact List.Mem.head _ | apply List.Mem.tail))) rfl (Part.all [I dN,I cN,I 0])) (Sl.mk (hL b14 _ (by repeat(first | exact List.Mem.head _ | apply List.Mem.tail))) rfl (Part.all [I 0,I dN]))
    rw[aHK hcf (by simp only;omega) (by simp only;omega) rfl (by omega)]at this
    exact this
   refine qm rfl rfl rfl<|oq (bD rfl rfl rfl) rfl wn rfl rfl<|oq (bD rfl rfl rfl) rfl wn rfl rfl ?_
   refine Ops.new (fun Ye=>?_)
   first | refine Ops.jP ?_ | refine Ops.nY ?_
   refine agb rfl rfl rfl<|pq<|W.seq ?_
   refine W.cut [(15,I d),(12,.slice pa ((aBE sh cs hs).1.take cs.length).length pc),(10,bI Oj),(9,.slice (some ⟨b14,0,none⟩) 1 1),(8,bI yD),(7,.slice ha hs.length hca),(5,bI mZ),(4,bI wC)] ((Oj,.cells #[I (dN+lo:Int),I (dN+hi:Int)] eG (0,0))::(yD,.cells #[.slice (some ⟨b7,0,none⟩) 1 1,.slice (some ⟨b9,0,none⟩) 1 1] Wy (0,0))::(b7,.cells #[I fp,I lo,I hi,I fc] Jq (0,0))::(b9,.cells #[I dN,I cN,I 0] ql (0,0))::(b14,.cells #[I 0,I dN] ay1 (0,0))::(mZ,.cells #[I dN,I cN,I 0] ql (0,0))::(wC,.cells #[.slice va sh.length vca,.slice ca cs.length cca,I hs.length,I no,I ri,I to] awO (0,0))::(Sm++(Sh++(Sc++Ss)))) ?_ ?_
   ·refine W.seq ?_
    have hX1:(0:Int)≤(if(dN:Int)≤d∧(d:Int)<dN+lo then(cN:Int)else 0):=by split <;>omega
    have hX2:(if(dN:Int)≤d∧(d:Int)<dN+hi then(cN:Int)else 0)≤cN:=by split <;>omega
    refine W.region rfl<|qm rfl rfl rfl ?_
    refine KU (nG rfl rfl rfl) (show Value.bool (decide ((0:Int)≠0))= .bool false from rfl) rfl wn rfl rfl ?_
    refine qm rfl rfl rfl ?_
    refine oq (ay rfl rfl) rfl (ak rfl rfl rfl) rfl rfl ?_
    refine oq (iQ rfl rfl) rfl (ak rfl rfl rfl) rfl rfl ?_
    refine KU (fO rfl rfl rfl) (congrArg Value.bool (decide_eq_false (by omega))) rfl (ak rfl rfl rfl) rfl rfl ?_
    refine agW (iH rfl rfl rfl) rfl ?_
    refine qm rfl rfl rfl ?_
    refine oq (ay rfl rfl) rfl (ak rfl rfl rfl) rfl rfl ?_
    refine oq (iQ rfl rfl) rfl (ak rfl rfl rfl) rfl rfl ?_
    refine oq (ay rfl rfl) rfl (ak rfl rfl rfl) rfl rfl ?_
    refine oq (iQ rfl rfl) rfl (ak rfl rfl rfl) rfl rfl ?_
    refine KU (rC rfl rfl rfl) (congrArg Value.bool (decide_eq_false (by omega))) rfl (ak rfl rfl rfl) rfl rfl ?_
    refine agW (iH rfl rfl rfl) rfl ?_
    refine qm rfl rfl rfl ?_
    refine oq (aN rfl rfl) rfl (ak rfl rfl rfl) rfl rfl ?_
    refine oq (ay rfl rfl) rfl (ak rfl rfl rfl) rfl rfl ?_
    refine oq (iQ rfl rfl) rfl (ak rfl rfl rfl) rfl rfl ?_
    refine oq (fO rfl rfl rfl) rfl (ak rfl rfl rfl) rfl rfl ?_
    refine oq (aN rfl rfl) rfl (ak rfl rfl rfl) rfl rfl ?_
    refine Ops.ask (fun aJU=>?_) (fun aJU=>?_)
    ·refine oq (ay rfl rfl) rfl (ak rfl rfl rfl) rfl rfl ?_
     refine oq (iQ rfl rfl) rfl (ak rfl rfl rfl) rfl rfl ?_
     refine oq (ay rfl rfl) rfl (ak rfl rfl rfl) rfl rfl ?_
     refine oq (iQ rfl rfl) rfl (ak rfl rfl rfl) rfl rfl ?_
     refine KU (nG rfl rfl rfl) (congrArg Value.bool (decide_eq_false (by rw[if_pos (by omega)];omega))) rfl (ak rfl rfl rfl) rfl rfl ?_
     refine oq (dG rfl rfl rfl) rfl (ak rfl rfl rfl) rfl rfl ?_
     refine agW (iH rfl rfl rfl) rfl ?_
     refine qm rfl rfl rfl ?_
     refine oq (aN rfl rfl) rfl (ak rfl rfl rfl) rfl rfl ?_
     refine oq (ay rfl rfl) rfl (ak rfl rfl rfl) rfl rfl ?_
     refine oq (iQ rfl rfl) rfl (ak rfl rfl rfl) rfl rfl ?_
     refine oq (IJ rfl rfl rfl) rfl (ak rfl rfl rfl) rfl rfl ?_
     refine oq (aN rfl rfl) rfl (ak rfl rfl rfl) rfl rfl ?_
     refine Ops.ask (fun aHM=>?_) (fun aHM=>?_)
     ·first | refine oq (Bf rfl rfl) rfl (ak rfl rfl rfl) rfl rfl ?_ | refine oq (zi rfl rfl) rfl (ak rfl rfl rfl) rfl rfl ?_ | refine oq (ady rfl rfl) rfl (ak rfl rfl rfl) rfl rfl ?_
      refine oq (eH rfl rfl rfl) rfl (ak rfl rfl rfl) rfl rfl ?_
      refine KU (aqB [0,0] [0,0] rfl rfl rfl (by rw[if_neg (by omega),if_neg (by omega)];rfl) rfl rfl rfl) (show Value.bool (!decide (([0,0]:List Int)=[0,0]))= .bool false from rfl) rfl (ak rfl rfl rfl) rfl rfl ?_
      refine oq (dG rfl rfl rfl) rfl (ak rfl rfl rfl) rfl rfl ?_
      refine agW (iH rfl rfl rfl) rfl ?_
      refine pq ?_
      refine W.bZ ?_
      refine W.skip ?_
      exact⟨rfl,rfl,⟨rfl,rfl,rfl,rfl,rfl,rfl,rfl,rfl,trivial⟩,.skip rfl .refl⟩
     ·refine Ops.no ?_
      refine Ops.no ?_
      refine Ops.no ?_
      refine oq (iH rfl rfl rfl) rfl (ak rfl rfl rfl) rfl rfl ?_
      refine agW (iH rfl rfl rfl) rfl ?_
      refine pq ?_
      refine W.bZ ?_
      refine W.skip ?_
      exact⟨rfl,rfl,⟨rfl,rfl,rfl,rfl,rfl,rfl,rfl,rfl,trivial⟩,.skip rfl .refl⟩
    ·refine Ops.no ?_
     refine Ops.no ?_
     refine Ops.no ?_
     refine Ops.no ?_
     refine Ops.no ?_
     refine oq (iH rfl rfl rfl) rfl (ak rfl rfl rfl) rfl rfl ?_
     refine agW (iH rfl rfl rfl) rfl ?_
     refine qm rfl rfl rfl ?_
     refine oq (aN rfl rfl) rfl (ak rfl rfl rfl) rfl rfl ?_
     refine oq (ay rfl rfl) rfl (ak rfl rfl rfl) rfl rfl ?_
     refine oq (iQ rfl rfl) rfl (ak rfl rfl rfl) rfl rfl ?_
     refine oq (IJ rfl rfl rfl) rfl (ak rfl rfl rfl) rfl rfl ?_
     refine oq (aN rfl rfl) rfl (ak rfl rfl rfl) rfl rfl ?_
     refine Ops.ask (fun aHM=>?_) (fun aHM=>?_)
     ·first | refine oq (Bf rfl rfl) rfl (ak rfl rfl rfl) rfl rfl ?_ | refine oq (zi rfl rfl) rfl (ak rfl rfl rfl) rfl rfl ?_ | refine oq (ady rfl rfl) rfl (ak rfl rfl rfl) rfl rfl ?_
      refine oq (eH rfl rfl rfl) rfl (ak rfl rfl rfl) rfl rfl ?_
      refine KU (aqB [0,0] [0,0] rfl rfl rfl (by rw[if_neg (by omega),if_neg (by omega)];rfl) rfl rfl rfl) (show Value.bool (!decide (([0,0]:List Int)=[0,0]))= .bool false from rfl) rfl (ak rfl rfl rfl) rfl rfl ?_
      refine oq (dG rfl rfl rfl) rfl (ak rfl rfl rfl) rfl rfl ?_
      refine agW (iH rfl rfl rfl) rfl ?_
      refine pq ?_
      refine W.bZ ?_
      refine W.skip ?_
      exact⟨rfl,rfl,⟨rfl,rfl,rfl,rfl,rfl,rfl,rfl,rfl,trivial⟩,.skip rfl .refl⟩
     ·refine Ops.no ?_
      refine Ops.no ?_
      refine Ops.no ?_
      refine oq (iH rfl rfl rfl) rfl (ak rfl rfl rfl) rfl rfl ?_
      refine agW (iH rfl rfl rfl) rfl ?_
      refine pq ?_
      refine W.bZ ?_
      refine W.skip ?_
      exact⟨rfl,rfl,⟨rfl,rfl,rfl,rfl,rfl,rfl,rfl,rfl,trivial⟩,.skip rfl .refl⟩
   ·refine W.seq<|W.seq<|W.region rfl<|qm rfl rfl rfl ?_
    refine agY rfl ?_
    refine agX rfl ?_
    refine agW (fO rfl rfl rfl) rfl ?_
    refine pq ?_
    refine W.bC rfl (fun aKZ=>?_) (fun aKZ=>?_)
    ·refine W.exit<|bP<|gG<|aA<|W.region rfl<|qm rfl rfl rfl ?_
     refine ag1 rfl ?_
     refine agb rfl rfl rfl<|pq ?_
     refine⟨rfl,d+1,⟨by omega,by omega⟩,by omega,⟨lk rfl (show I _=I _ by congr 1),rfl,rfl,rfl,rfl,rfl,rfl,rfl,trivial⟩,.refl⟩
    ·refine W.skip<|aA<|W.seq<|W.region rfl ?_
     first | refine ag2 rfl ?_ | refine agW (ady rfl rfl) rfl ?_
     refine qm rfl rfl rfl<|qm rfl rfl rfl<|qm rfl rfl rfl ?_
     refine agY rfl ?_
     refine agX rfl ?_
     have hdd:d- (dN+hi)<hs.length:=by omega
     refine KU (acL rfl rfl rfl) (congrArg (Value.int .i64) (show(d:Int)- (dN+hi)=((d- (dN+hi):Nat):Int) by omega)) rfl wn rfl rfl ?_
     refine c0 (fun h' hE hL=>aIq _ h' sh cs hs no ri to _ _ _ _ _ _ (hOs.sl (fun q o hq=>hL q o (by simp[hq]))) (hOc.sl (fun q o hq=>hL q o (by simp[hq]))) (hOh.sl (fun q o hq=>hL q o (by simp[hq]))) hok hnm (hE.1 _ _ hg) _ hp3 (hOp.sl (fun q o hq=>hL q o (by simp[hq]))) hfit hroom aKX (d- (dN+hi)) hdd) (fun v A' hv=>?_)
     obtain⟨w,us,Su,rfl,hOu,hul,hun,hsb⟩:=hv
     obtain⟨ua,uc,rfl⟩:=hOu.dA
     refine Ops.sb (F':=(Oj,.cells #[I (dN+lo:Int),I (dN+hi:Int)] eG (0,0))::(yD,.cells #[.slice (some ⟨b7,0,none⟩) 1 1,.slice (some ⟨b9,0,none⟩) 1 1] Wy (0,0))::(b7,.cells #[I fp,I lo,I hi,I fc] Jq (0,0))::(b9,.cells #[I dN,I cN,I 0] ql (0,0))::(b14,.cells #[I 0,I dN] ay1 (0,0))::(mZ,.cells #[I dN,I cN,I 0] ql (0,0))::(wC,.cells #[.slice va sh.length vca,.slice ca cs.length cca,I hs.length,I no,I ri,I to] awO (0,0))::(Sm++(Su++(Sh++(Sc++Ss))))) (.trans (.dF (show List.Perm _ (Su++((Oj,.cells #[I (dN+lo:Int),I (dN+hi:Int)] eG (0,0))::(yD,.cells #[.slice (some ⟨b7,0,none⟩) 1 1,.slice (some ⟨b9,0,none⟩) 1 1] Wy (0,0))::(b7,.cells #[I fp,I lo,I hi,I fc] Jq (0,0))::(b9,.cells #[I dN,I cN,I 0] ql (0,0))::(b14,.cells #[I 0,I dN] ay1 (0,0))::(mZ,.cells #[I dN,I cN,I 0] ql (0,0))::(wC,.cells #[.slice va sh.length vca,.slice ca cs.length cca,I hs.length,I no,I ri,I to] awO (0,0))::(Sm++(Sh++(Sc++Ss)))):ah)from agQ fun y=>by simp only[List.count_append,List.count_cons,List.count_nil];omega)) (hsb.app .refl)) ?_
     refine qm rfl rfl rfl<|oq (bD rfl rfl rfl) rfl wn rfl rfl<|oq (bD rfl rfl rfl) rfl wn rfl rfl<|agb rfl rfl rfl<|agb rfl rfl rfl<|pq<|W.seq<|W.seq<|W.region rfl ?_
     refine qm rfl rfl rfl ?_
     refine KU (nG rfl rfl rfl) (show Value.bool (decide ((0:Int)≠0))= .bool false from rfl) rfl wn rfl rfl ?_
     refine qm rfl rfl rfl ?_
     refine oq (aN rfl rfl) rfl (ak rfl rfl rfl) rfl rfl ?_
     refine oq (dM rfl rfl) rfl (ak rfl rfl rfl) rfl rfl ?_
     refine oq (ay rfl rfl) rfl (ak rfl rfl rfl) rfl rfl ?_
     refine oq (iQ rfl rfl) rfl (ak rfl rfl rfl) rfl rfl ?_
     refine oq (dM rfl rfl) rfl (ak rfl rfl rfl) rfl rfl ?_
     refine KU (nG rfl rfl rfl) (congrArg Value.bool (decide_eq_false (by omega))) rfl (ak rfl rfl rfl) rfl rfl ?_
     refine agW (iH rfl rfl rfl) rfl ?_
     refine pq ?_
     refine W.bZ ?_
     refine W.skip<|aA<|W.seq<|W.region rfl<|agb rfl rfl rfl<|pq<|W.seq<|W.seq<|W.region rfl ?_
     refine agb rfl rfl rfl<|pq<|W.block ?_
     refine W.loop (σ:=Nat) (fun k=>k≤sh.length) (fun k=>[(20,I (aGY (azd sh hs cs 0 (aBE sh cs hs).1 aBS) (d- (dN+hi)) k)),(21,I k),(18,.slice ua us.length uc),(15,I d),(12,.slice pa ((aBE sh cs hs).1.take cs.length).length pc),(10,bI Oj),(9,.slice (some ⟨b14,0,none⟩) 1 1),(8,bI yD),(7,.slice ha hs.length hca),(5,bI mZ),(4,bI wC)])
      (fun _=>(Oj,.cells #[I (dN+lo:Int),I (dN+hi:Int)] eG (0,0))::(yD,.cells #[.slice (some ⟨b7,0,none⟩) 1 1,.slice (some ⟨b9,0,none⟩) 1 1] Wy (0,0))::(b7,.cells #[I fp,I lo,I hi,I fc] Jq (0,0))::(b9,.cells #[I dN,I cN,I 0] ql (0,0))::(b14,.cells #[I 0,I dN] ay1 (0,0))::(mZ,.cells #[I dN,I cN,I 0] ql (0,0))::(wC,.cells #[.slice va sh.length vca,.slice ca cs.length cca,I hs.length,I no,I ri,I to] awO (0,0))::(Sm++(Su++(Sh++(Sc++Ss))))) (fun k=>sh.length-k) 0 (Nat.zero_le _) ⟨rfl,rfl,rfl,rfl,rfl,rfl,rfl,rfl,rfl,rfl,rfl,trivial⟩ .refl ?_
     rintro k hk
     refine W.seq<|W.seq<|W.region rfl<|qm rfl rfl rfl<|qm rfl rfl rfl ?_
     refine agW (dM rfl rfl) rfl ?_
     refine agW (fO rfl rfl rfl) rfl ?_
     refine pq ?_
     refine W.bC rfl (fun aK2=>?_) (fun aK2=>?_)
     ·have hkl:k<us.length:=by omega
      obtain⟨u,hu⟩:∃u,us[k]? =some u:=⟨_,List.getElem?_eq_getElem hkl⟩
      have hn3:=hun k u hu
      obtain⟨βo,co',Jo,hsa,hOe,-,-,-,hPo,-⟩:=hOu.open (by omega)
      subst hsa
      have hcell:co'[0+k*1+0]? =some (.slice u.a u.n u.cap):=hPo.Bo hu 0 (by decide)
      refine W.skip<|aA<|W.seq<|W.block<|W.region rfl<|qm rfl rfl rfl<|qm rfl rfl rfl<|qm rfl rfl rfl ?_
      refine ag3 rfl ?_
      refine oq (iQ rfl rfl (.inr (fun _ e=>by cases e;rw[hOe];exact .tail _ (.tail _ (.tail _ (.tail _ (.tail _ (.tail _ (.tail _ (List.mem_append_right _ (List.mem_append_left _ (.head _))))))))))) hcell) rfl wn rfl rfl ?_
      refine agW (dM rfl rfl) rfl ?_
      have hb1:=aH3 (q:=azd sh hs cs 0 (aBE sh cs hs).1 aBS) (d:=d- (dN+hi)) (k:=k)
      have hb2:=aGb (c:=(azd sh hs cs 0 (aBE sh cs hs).1 aBS).getD (k*4+(d- (dN+hi))) 0)
      refine KU (Zi rfl rfl rfl) (congrArg (Value.int .i64) (show _=((aGY (azd sh hs cs 0 (aBE sh cs hs).1 aBS) (d- (dN+hi)) (k+1):Nat):Int) by rw[aGY,←hn3];simp)) rfl wn rfl rfl ?_
      refine agb rfl rfl rfl<|Ops.nil<|dI<|aA<|W.region rfl<|qm rfl rfl rfl ?_
      refine ag1 rfl ?_
      refine agb rfl rfl rfl<|pq ?_
      refine⟨rfl,k+1,by omega,by omega,⟨rfl,lk rfl (show I _=I _ by congr 1),rfl,rfl,rfl,rfl,rfl,rfl,rfl,rfl,rfl,trivial⟩,.refl⟩
     ·obtain rfl:k=sh.length:=by omega
      have hsm:=aIF hok (d:=d- (dN+hi)) (by omega)
      refine W.exit<|bP<|bP<|gG<|aA<|W.seq<|W.region rfl<|qm rfl rfl rfl ?_
      refine agY rfl ?_
      refine agX rfl ?_
      refine KU (rC rfl rfl rfl) (congrArg Value.bool (decide_eq_false (by omega))) rfl wn rfl rfl ?_
      refine pq ?_
      refine W.bZ ?_
      refine W.skip<|dI<|aA<|W.region rfl<|qm rfl rfl rfl ?_
      refine ag1 rfl ?_
      refine agb rfl rfl rfl<|pq ?_
      refine⟨rfl,d+1,⟨by omega,by omega⟩,by omega,⟨lk rfl (show I _=I _ by congr 1),rfl,rfl,rfl,rfl,rfl,rfl,rfl,trivial⟩,.trans (Sb.left (C:=Su) .refl hOu.shut) (.dF (show List.Perm _ ((Oj,.cells #[I (dN+lo:Int),I (dN+hi:Int)] eG (0,0))::(yD,.cells #[.slice (some ⟨b7,0,none⟩) 1 1,.slice (some ⟨b9,0,none⟩) 1 1] Wy (0,0))::(b7,.cells #[I fp,I lo,I hi,I fc] Jq (0,0))::(b9,.cells #[I dN,I cN,I 0] ql (0,0))::(b14,.cells #[I 0,I dN] ay1 (0,0))::(mZ,.cells #[I dN,I cN,I 0] ql (0,0))::(wC,.cells #[.slice va sh.length vca,.slice ca cs.length cca,I hs.length,I no,I ri,I to] awO (0,0))::(Sm++(Su++(Sh++(Sc++Ss)))):ah)from agQ fun y=>by simp only[List.count_append,List.count_cons,List.count_nil];omega))⟩
  ·refine W.exit<|bP<|bP<|gG<|aA<|W.seq<|W.region rfl ?_
   have hz1:=hOs.shut
   have hz2:=hOc.shut
   have hz3:=hOh.shut
   have hz4:=hOp.shut
   refine cp (fun h' hE hL=>aGf _ h' _ _ (hE.1 _ _ hg)) ?_
   refine agb rfl rfl rfl<|pq<|W.ret ?_
   exact lvq rfl
end Go.aS

/- From a law that answers true to its card, time passing meanwhile: the parts that all laws of this seat share. Conditions: as the cards say; over the given program. -/
namespace Go.aS
open Go.Proofs.YtahkljmgmgacjaaDoor
set_option maxRecDepth 100000
set_option maxHeartbeats 4000000
theorem afH:ownKnob prog.godebug=none:=by kernel_rfl
theorem YR:laidOutB prog=true:=by kernel_rfl
theorem et0:prog.globalNamed "errors.errorType" =some 0:=by kernel_rfl
abbrev acf:String:=match(Rows.laid_errors_errorType:DataW Unit)with
 | .iface s _=>s
 | _=> ""
theorem rt0:(prog.cutTypes.find? (·.1==acf)).map (·.2)=some qI:=by kernel_rfl
theorem ad6:prog.types.size=222:=by kernel_rfl
theorem aaG:((List.range 222).filter fun t=>prog.rowNamed t [101,114,114,111,114])=[qM]:=by kernel_rfl
theorem EX:prog.underlying nS=some (.slice dL):=by kernel_rfl
theorem VX:prog.underlying dL=some (.int .i64):=by kernel_rfl
theorem SS:prog.underlying RS=some .bool:=by kernel_rfl
theorem VY:prog.cellsOf dL=1:=by kernel_rfl

abbrev J9:List (String×DataW Unit):=[("errors.errorType",Rows.laid_errors_errorType)]
theorem aaH{W:World}(h:laidMetH prog J9 W):∃E z,W.heap[0]? =some (.cells #[Ur qM] E z):=by
 have h':laidMet prog [] W∧handlesMet prog J9 W:=h
 obtain⟨name,u,ty,e1,e2,e3,e4,e5⟩:=h'.2 _ (List.mem_singleton.2 rfl)
 have en:name=[101,114,114,111,114]:=(Option.some.inj e1).symm
 subst en
 obtain rfl:=Option.some.inj (rt0.symm.trans e2)
 have hm:ty∈(List.range 222).filter fun t=>prog.rowNamed t [101,114,114,111,114]:=List.mem_filter.2 ⟨List.mem_range.2 (by rw[←ad6];exact e3),e4⟩
 rw[aaG]at hm
 obtain rfl:=List.mem_singleton.1 hm
 simp only[World.var?]at e5
 rw[et0,Option.bind_some]at e5
 split at e5
 ·rename_i cs E z hb
  obtain rfl:=Option.some.inj e5
  exact⟨E,z,hb⟩
 ·cases e5

noncomputable def laidWorld(os:Go.Os):World:=
 let w0:=World.holding prog os ⟨#[], #[],[]⟩
 {w0 with heap:=w0.heap.modify 0 fun
   | .cells _ t frozen=>.cells #[Ur qM] t frozen
   | o=>o}
theorem laidWorld_met(os:Go.Os)(args:Array Value):laidMetH prog J9 ((laidWorld os).forCall (fun _ _=>0) ⟨#[],args,[]⟩).memory:=
 laidMetH_of_parts (laidMet_nil _ _) (by kernel_rfl)

theorem Ld{P:Program}{l:List (String×DataW Unit)}{w w':World}(hh:w.heap=w'.heap)(h:laidMetH P l w):laidMetH P l w':=h.of_heap hh

section
open Go.ChangeShapes Go.WideShapes Go.RowKit
theorem aCh{s:ChangeSpec}{f:FuncId}{fn:Func}(os:Go.Os)(started:os.Started)(H:Type)(enc:TypeId×Value→H)(hfn:prog.funcs[f]? =some fn)(hinit:prog.inits.idxOf? f=none)(hp:fn.params.toList=[nS])(hpa:fn.params= #[nS])(hr:fn.resultTypes.toList=[RS])(hrs:fn.resultTypes.size=1)(hv:s.vars=[])
  (hs:∀d,s.fn H [d]={results:=[.lit (.bool true)],args:=[d]})
  (
   witness:∃(w:World) (tape:Tape) (i:Input),w.os=os∧(w.forCall tape i).Shaped prog∧i.vars=[]∧Input.okWide prog (w.forCall tape i) .any w.heap.size f i∧
   ((s.pre enc prog fn [] false (w.forCall tape i).memory i.args∧laidMetH prog J9 (w.forCall tape i).memory)∧sizedMet enc prog fn (OpenSpec.ofChange s) false (w.forCall tape i).memory i.args)∧({}:Assume).holds prog (lone (Frame.enter prog f i.args .normal) [] (w.forCall tape i)))
  (T:∀(main:Side) (_:main.b=true) (h:Hp) (nums:List Int) (lv:Value) (Eg:TypeId) (zg:Nat×Nat) (_:Sl h fH lv nums) (_:h 0=some (.cells #[Ur qM] Eg zg)),QE prog main f #[lv] h (.bool true)):
  ReturnsInHanded {} Go.Proofs.Tryd.checked os f .any (fun w args=>(s.pre enc prog fn [] false w args∧laidMetH prog J9 w)∧sizedMet enc prog fn (OpenSpec.ofChange s) false w args) (s.post enc prog fn false true false false):=by
 refine axb (C:=Go.Proofs.Tryd.checked) afH started witness ?_
 intro w tape i _ _ _ hok hpre _
 obtain⟨_,_,_,fn',hfn',_,_,_,_,hval0⟩:=hok
 have e:fn'=fn:=Option.some.inj (hfn'.symm.trans hfn)
 subst e
 obtain⟨⟨⟨ds,gs,before,hw,-⟩,hx⟩,-⟩:=hpre
 have hW:=DataW.Whole.of_heap (w':=w.forCall tape i) (by rfl) hw
 have hL:laidMetH prog J9 (w.forCall tape i):=Ld (by rfl) hx
 generalize w.forCall tape i=W at*
 have hval:∀(j:Nat) t v,fn'.params[j]? =some t→i.args[j]? =some v→Value.okWide prog W .any w.heap.size t v:=hval0
 have hW':=hW
 obtain⟨p,q,hA0,hV,rfl,_,_⟩:=hW
 have hA:DataW.TrodAll enc prog W 0 (fun _=>true) true fn'.params.toList i.args.toList ds p:=hA0
 rw[hp]at hA
 rw[hpa]at hval
 obtain⟨v0,d0,ha,rfl,h0⟩:=trodAll_one hA
 have hargs:i.args= #[v0]:=by simpa using ha
 rw[hargs]at hval hW'⊢
 rw[hv]at hV
 obtain⟨rfl,rfl⟩:=trodVars_none hV
 simp only[List.append_nil]at hW'
 have hlt:∀x∈p,x.block<W.heap.size:=fun x hx=>by simpa using hW'.lt x hx
 obtain⟨a0,len,cap,rfl⟩:=okWide_slice EX (hval 0 nS v0 rfl rfl)
 obtain⟨E,z,hg⟩:=aaH hL
 have hsl:∃nums,Sl (atStart W) fH (.slice a0 len cap) nums:=by
  obtain⟨fuel,hf⟩:=h0
  rcases open_ints EX VX VY hf with⟨hcs,_⟩ | ⟨a,len',cap',zs,hcs,_,hl,hm,hz,_,hcell,_⟩
  ·simp[Value.cells]at hcs
   obtain⟨rfl,rfl,rfl⟩:=hcs
   exact⟨[],.nil⟩
  ·simp[Value.cells]at hcs
   obtain⟨rfl,rfl,rfl⟩:=hcs
   simp only[if_true]at hz
   exact⟨zs.take len,Sl.atStart (by omega) hcell⟩
 obtain⟨nums,hsl⟩:=hsl
 have hgs:atStart W 0=some (.cells #[Ur qM] E z):=ku.2 ⟨hg,rfl⟩
 obtain⟨n,g',wl,w',h1,h2,hk,hos⟩:=QE.alone hinit (T (az6 prog (tZ prog fun v _=>v= .bool true)) rfl (atStart W) nums _ E z hsl hgs)
 refine⟨n,g',wl,.bool true,w',h1,h2,?_⟩
 have hb:=hk.below
 have e2:({w' with os:=W.os}:World)=w':=by rw[←hos]
 rw[e2]at hb
 refine ChangeSpec.post_blind ⟨[d0],[],p,[],p,[],hW',?_,?_,?_,hb.frame _,fun h=>by cases h⟩
 ·have hrl:Value.resultList fn'.resultTypes.size (.bool true)=[.bool true]:=by rw[hrs];rfl
  rw[List.append_nil,hs,hrl,hr];exact trodAll_mk1 (shut_bool SS true)
 ·rw[List.append_nil,hs,hp]
  exact trodAll_mk1 (Below.trod YR (by kernel_rfl) (of_decide_eq_true (by kernel_rfl)) h0 hb hlt)
 ·rw[List.append_nil,hs,hv];rfl
end
end Go.aS
