/- The best shares; sharing out. Conditions: none; over the given program. (And 13 texts more.) -/
import Derived.Test.YtkkdgffaohidnaaGreatDoorR12
import Derived.Test.YtkkdgffaohidnaaGreatDoorR10
import Derived.Test.YtkkdgffaohidnaaGreatDoorR11
import Derived.Test.YtkkdgffaohidnaaGreatDoorR06
import Derived.Test.YtkkdgffaohidnaaGreatDoorR07
import Derived.Conc.LeavingOf
import Derived.Conc.HoldsTime
import Derived.LaidLaws
import Derived.LaidHandle
import Derived.ChangeSlices
import Derived.WideShapes
import Derived.Carry
import Derived.RowKit
import Derived.Test.YtkkdgffaohidnaaGreatDoorR08
import Derived.Test.YtkkdgffaohidnaaGreatDoorCards
import Derived.Test.YtkkdgffaohidnaaGreatDoorTie
import Derived.SevenTiedAt
set_option linter.unusedVariables false
set_option linter.unusedSimpArgs false
set_option linter.unusedSectionVars false

/- The best shares; sharing out. Conditions: none; over the given program. -/
namespace Go.aS
set_option maxRecDepth 100000
set_option maxHeartbeats 4000000
theorem xO{p:List Int}(h:p.length=4):Instr.fill (fun i=>some (i*4,4)) ((List.range (1*4)).map (fun i=>(#[I 0,I 0,I 0,I 0]:Array Value)[i % 4]!)).toArray ([0].zip [Value.agg (uV p)])=some (uV p):=by
 obtain⟨a,b,c,d,rfl⟩:=list4 h
 kernel_rfl
theorem j_{p:List Int}(h:p.length=4):Part (uV p) 0 (flat jZ [p]):=by
 rw[←Qz h]
 have e:flat jZ [p]=jZ p:=by simp[flat]
 rw[e]
 exact Part.all _
theorem aay(main:Side)(h:Hp)(bm:Nat)(c n:Int)(v:Value)(l:List (List Int))(p:List Int)(S:ah)(hO:Os dw jZ v l S)(hl:l.length≤100000)(Du:p.length=4)(hl4:∀q∈l,q.length=4):
  dV prog main vV #[bI bm,.agg (uV p),I n] h ((bm,.cells #[I c,v] iJ (0,0))::S) (fun _ A'=>∃v' S',Os dw jZ v' (jQ (c,l) p n).2 S'∧Sb ((bm,.cells #[I (jQ (c,l) p n).1,v'] iJ (0,0))::S') A'):=by
 obtain⟨a,cap,rfl⟩:=hO.dA
 have hsz:(uV p).size=4:=by rw[qj,Du]
 have hon:ones (uV p).toList=true:=Qv
 refine dV.aG EH rfl (by show 3≤50;decide) [(0,bI bm),(1,.agg (uV p)),(2,I n)] ⟨rfl,rfl,rfl,trivial⟩ ?_
 refine W.seq<|W.region rfl ?_
 refine Ops.box (fun wC=>?_)
 refine pq<|W.seq<|W.seq<|W.region rfl<|qm rfl rfl rfl ?_
 refine ag4 rfl ?_
 refine agY rfl ?_
 refine agX rfl ?_
 refine agW (dM rfl rfl) rfl ?_
 refine agW (rC rfl rfl rfl) rfl ?_
 refine qm rfl rfl rfl ?_
 refine Ops.ask (fun adW=>?_) (fun adW=>?_)
 ·refine oq (aN rfl rfl) rfl (ak rfl rfl rfl) rfl rfl ?_
  refine oq (aN rfl rfl) rfl (ak rfl rfl rfl) rfl rfl ?_
  first | refine oq (bg rfl rfl) rfl (ak rfl rfl rfl) rfl rfl ?_ | refine oq (aT rfl rfl) rfl (ak rfl rfl rfl) rfl rfl ?_
  refine oq (ay rfl rfl) rfl (ak rfl rfl rfl) rfl rfl ?_
  refine oq (iQ rfl rfl) rfl (ak rfl rfl rfl) rfl rfl ?_
  refine oq (fO rfl rfl rfl) rfl (ak rfl rfl rfl) rfl rfl ?_
  refine agW (dG rfl rfl rfl) rfl ?_
  refine pq ?_
  refine W.bC rfl (fun c19=>?_) (fun c19=>?_)
  ·refine W.ret<|aY ?_
   have hl0:l≠[]:=by rintro rfl;simp at adW
   have e:jQ (c,l) p n=(c,l):=by simp only[jQ];rw[if_pos ⟨hl0,c19⟩]
   rw[e]
   exact mg (vs:=[]) ⟨_,S,hO,.skip rfl .refl⟩
  ·refine W.skip<|aA<|W.seq<|W.seq<|W.region rfl<|qm rfl rfl rfl<|qm rfl rfl rfl ?_
   refine ag4 rfl ?_
   refine agY rfl ?_
   refine agX rfl ?_
   refine agW (rC rfl rfl rfl) rfl ?_
   refine pq ?_
   refine W.bC rfl (fun c25=>?_) (fun c25=>?_)
   ·refine W.region rfl<|qm rfl rfl rfl ?_
    refine ag4 rfl ?_
    refine agY rfl ?_
    refine Ops.yG ?_
    refine pq<|W.seq<|W.region rfl<|qm rfl rfl rfl<|qm rfl rfl rfl ?_
    refine ag4 rfl ?_
    refine agY rfl ?_
    refine Ops.yG ?_
    refine pq<|W.seq ?_
    refine W.Ap (n:=7) rfl ?_
    refine xq 0 (aN rfl rfl) rfl ?_
    first | refine xq 1 (bg rfl rfl) rfl ?_ | refine xq 1 (aT rfl rfl) rfl ?_
    refine xq 2 (ay rfl rfl) rfl ?_
    refine xq 3 (iQ rfl rfl) rfl ?_
    first | refine xq 4 (Bf rfl rfl) rfl ?_ | refine xq 4 (zi rfl rfl) rfl ?_
    first
    | refine Va (i:=5) (fun h' hE hL=>jq _ h' [] p _ .nil Du (fun q hq=>by cases hq) (by simp)) ?_ (hS:=.inr (Keeps.one (.head _) (Keeps.one (.tail _ (.head _)) Keeps.nil)))
    | refine Va (i:=5) (fun h' hE hL=>jq _ h' l p _ (hO.sl fun b o hb=>hL b o (.tail _ (.tail _ hb))) Du hl4 (by omega)) ?_ (hS:=.inr (Keeps.one (.head _) (Keeps.one (.tail _ (.head _)) Keeps.nil)))
    refine xq 6 (xU rfl rfl) rfl ?_
    refine az ?_
    refine aA ?_
    refine W.cond rfl (fun Ic=>?_) (fun Ic=>?_)
    ·refine W.Ap (n:=11) rfl ?_
     refine xq 0 (aN rfl rfl) rfl ?_
     refine xq 1 (aN rfl rfl) rfl ?_
     first | refine xq 2 (bg rfl rfl) rfl ?_ | refine xq 2 (aT rfl rfl) rfl ?_
     refine xq 3 (ay rfl rfl) rfl ?_
     refine xq 4 (iQ rfl rfl) rfl ?_
     first | refine xq 5 (Bf rfl rfl) rfl ?_ | refine xq 5 (zi rfl rfl) rfl ?_
     refine abl (i:=6) (cs:=uV p) (fun J5=>?_) rfl (hf:=by exact xO Du)
     first
     | refine ae (i:=7) rfl an rfl rfl (iW (row:=jZ) (l:=[]) (l':=[p]) rfl rfl rfl (Os.nil hO.shut) (.tail (.tail (.tail .all))) (fun h2 _ hl=>Sl.mk (hl J5 _ (.head _)) rfl (j_ Du)) (by simp) (by decide) rfl (fun v' S' Ie=>?_))
     | refine ae (i:=7) rfl an rfl rfl (iW (row:=jZ) (l':=[p]) rfl rfl rfl hO (.tail (.tail (.tail .all))) (fun h2 _ hl=>Sl.mk (hl J5 _ (.head _)) rfl (j_ Du)) (by simp;omega) (by decide) rfl (fun v' S' Ie=>?_))
     refine⟨.inr (fun q hq=>?_),?_⟩
     ·rcases List.mem_cons.1 hq with rfl | hq
      ·exact .tail _ (.head _)
      ·rcases List.mem_cons.1 hq with rfl | hq
       ·exact .tail _ (.tail _ (.head _))
       ·cases hq
     obtain⟨asl,csl,rfl⟩:=Ie.dA
     first | refine xq 8 (bg rfl rfl) rfl ?_ | refine xq 8 (aT rfl rfl) rfl ?_
     refine xq 9 (ay rfl rfl) rfl ?_
     refine ae (i:=10) rfl an rfl rfl (eS rfl rfl rfl ?_)
     refine⟨.inl (by kernel_rfl),?_⟩
     refine az ?_
     have hno:¬(l≠[]∧n<c):=by
      rintro⟨h1,h2⟩
      first | exact c19 h2 | exact h1 (List.length_eq_zero_iff.1 (by omega))
     refine mg (vs:=[]) ?_
     first
     | (
       have e:jQ (c,l) p n=(n,[p]):=by simp only[jQ];rw[if_neg hno,if_pos c25];simp
       rw[e]
       exact⟨_,S',Ie,.skip rfl (.skip rfl .refl)⟩)
     | (
       have e:jQ (c,l) p n=(n,l++[p]):=by simp only[jQ];rw[if_neg hno,if_neg c25,if_neg (by simpa using Ic)]
       rw[e]
       exact⟨_,S',Ie,.skip rfl (.skip rfl .refl)⟩)
    ·refine W.skip ?_
     first
     | (simp at Ic;done)
     | (
       have hno:¬(l≠[]∧n<c):=by
        rintro⟨h1,h2⟩
        first | exact c19 h2 | exact h1 (List.length_eq_zero_iff.1 (by omega))
       refine mg (vs:=[]) ?_
       have e:jQ (c,l) p n=(n,l):=by simp only[jQ];rw[if_neg hno,if_neg c25,if_pos (by simpa using Ic)]
       rw[e]
       exact⟨_,S,hO,.skip rfl .refl⟩)
   ·refine W.skip<|aA<|W.seq<|W.region rfl<|qm rfl rfl rfl<|qm rfl rfl rfl ?_
    refine ag4 rfl ?_
    refine agY rfl ?_
    refine Ops.yG ?_
    refine pq<|W.seq ?_
    refine W.Ap (n:=7) rfl ?_
    refine xq 0 (aN rfl rfl) rfl ?_
    first | refine xq 1 (bg rfl rfl) rfl ?_ | refine xq 1 (aT rfl rfl) rfl ?_
    refine xq 2 (ay rfl rfl) rfl ?_
    refine xq 3 (iQ rfl rfl) rfl ?_
    first | refine xq 4 (Bf rfl rfl) rfl ?_ | refine xq 4 (zi rfl rfl) rfl ?_
    first
    | refine Va (i:=5) (fun h' hE hL=>jq _ h' [] p _ .nil Du (fun q hq=>by cases hq) (by simp)) ?_ (hS:=.inr (Keeps.one (.head _) (Keeps.one (.tail _ (.head _)) Keeps.nil)))
    | refine Va (i:=5) (fun h' hE hL=>jq _ h' l p _ (hO.sl fun b o hb=>hL b o (.tail _ (.tail _ hb))) Du hl4 (by omega)) ?_ (hS:=.inr (Keeps.one (.head _) (Keeps.one (.tail _ (.head _)) Keeps.nil)))
    refine xq 6 (xU rfl rfl) rfl ?_
    refine az ?_
    refine aA ?_
    refine W.cond rfl (fun Ic=>?_) (fun Ic=>?_)
    ·refine W.Ap (n:=11) rfl ?_
     refine xq 0 (aN rfl rfl) rfl ?_
     refine xq 1 (aN rfl rfl) rfl ?_
     first | refine xq 2 (bg rfl rfl) rfl ?_ | refine xq 2 (aT rfl rfl) rfl ?_
     refine xq 3 (ay rfl rfl) rfl ?_
     refine xq 4 (iQ rfl rfl) rfl ?_
     first | refine xq 5 (Bf rfl rfl) rfl ?_ | refine xq 5 (zi rfl rfl) rfl ?_
     refine abl (i:=6) (cs:=uV p) (fun J5=>?_) rfl (hf:=by exact xO Du)
     first
     | refine ae (i:=7) rfl an rfl rfl (iW (row:=jZ) (l:=[]) (l':=[p]) rfl rfl rfl (Os.nil hO.shut) (.tail (.tail (.tail .all))) (fun h2 _ hl=>Sl.mk (hl J5 _ (.head _)) rfl (j_ Du)) (by simp) (by decide) rfl (fun v' S' Ie=>?_))
     | refine ae (i:=7) rfl an rfl rfl (iW (row:=jZ) (l':=[p]) rfl rfl rfl hO (.tail (.tail (.tail .all))) (fun h2 _ hl=>Sl.mk (hl J5 _ (.head _)) rfl (j_ Du)) (by simp;omega) (by decide) rfl (fun v' S' Ie=>?_))
     refine⟨.inr (fun q hq=>?_),?_⟩
     ·rcases List.mem_cons.1 hq with rfl | hq
      ·exact .tail _ (.head _)
      ·rcases List.mem_cons.1 hq with rfl | hq
       ·exact .tail _ (.tail _ (.head _))
       ·cases hq
     obtain⟨asl,csl,rfl⟩:=Ie.dA
     first | refine xq 8 (bg rfl rfl) rfl ?_ | refine xq 8 (aT rfl rfl) rfl ?_
     refine xq 9 (ay rfl rfl) rfl ?_
     refine ae (i:=10) rfl an rfl rfl (eS rfl rfl rfl ?_)
     refine⟨.inl (by kernel_rfl),?_⟩
     refine az ?_
     have hno:¬(l≠[]∧n<c):=by
      rintro⟨h1,h2⟩
      first | exact c19 h2 | exact h1 (List.length_eq_zero_iff.1 (by omega))
     refine mg (vs:=[]) ?_
     first
     | (
       have e:jQ (c,l) p n=(n,[p]):=by simp only[jQ];rw[if_neg hno,if_pos c25];simp
       rw[e]
       exact⟨_,S',Ie,.skip rfl (.skip rfl .refl)⟩)
     | (
       have e:jQ (c,l) p n=(n,l++[p]):=by simp only[jQ];rw[if_neg hno,if_neg c25,if_neg (by simpa using Ic)]
       rw[e]
       exact⟨_,S',Ie,.skip rfl (.skip rfl .refl)⟩)
    ·refine W.skip ?_
     first
     | (simp at Ic;done)
     | (
       have hno:¬(l≠[]∧n<c):=by
        rintro⟨h1,h2⟩
        first | exact c19 h2 | exact h1 (List.length_eq_zero_iff.1 (by omega))
       refine mg (vs:=[]) ?_
       have e:jQ (c,l) p n=(n,l):=by simp only[jQ];rw[if_neg hno,if_neg c25,if_pos (by simpa using Ic)]
       rw[e]
       exact⟨_,S,hO,.skip rfl .refl⟩)
 ·refine Ops.no ?_
  refine Ops.no ?_
  refine Ops.no ?_
  refine Ops.no ?_
  refine Ops.no ?_
  refine Ops.no ?_
  refine agW (iH rfl rfl rfl) rfl ?_
  refine pq ?_
  refine W.bZ ?_
  refine W.skip<|aA<|W.seq<|W.seq<|W.region rfl<|qm rfl rfl rfl<|qm rfl rfl rfl ?_
  refine ag4 rfl ?_
  refine agY rfl ?_
  refine agX rfl ?_
  refine agW (rC rfl rfl rfl) rfl ?_
  refine pq ?_
  refine W.bC rfl (fun c25=>?_) (fun c25=>?_)
  ·refine W.region rfl<|qm rfl rfl rfl ?_
   refine ag4 rfl ?_
   refine agY rfl ?_
   refine Ops.yG ?_
   refine pq<|W.seq<|W.region rfl<|qm rfl rfl rfl<|qm rfl rfl rfl ?_
   refine ag4 rfl ?_
   refine agY rfl ?_
   refine Ops.yG ?_
   refine pq<|W.seq ?_
   refine W.Ap (n:=7) rfl ?_
   refine xq 0 (aN rfl rfl) rfl ?_
   first | refine xq 1 (bg rfl rfl) rfl ?_ | refine xq 1 (aT rfl rfl) rfl ?_
   refine xq 2 (ay rfl rfl) rfl ?_
   refine xq 3 (iQ rfl rfl) rfl ?_
   first | refine xq 4 (Bf rfl rfl) rfl ?_ | refine xq 4 (zi rfl rfl) rfl ?_
   first
   | refine Va (i:=5) (fun h' hE hL=>jq _ h' [] p _ .nil Du (fun q hq=>by cases hq) (by simp)) ?_ (hS:=.inr (Keeps.one (.head _) (Keeps.one (.tail _ (.head _)) Keeps.nil)))
   | refine Va (i:=5) (fun h' hE hL=>jq _ h' l p _ (hO.sl fun b o hb=>hL b o (.tail _ (.tail _ hb))) Du hl4 (by omega)) ?_ (hS:=.inr (Keeps.one (.head _) (Keeps.one (.tail _ (.head _)) Keeps.nil)))
   refine xq 6 (xU rfl rfl) rfl ?_
   refine az ?_
   refine aA ?_
   refine W.cond rfl (fun Ic=>?_) (fun Ic=>?_)
   ·refine W.Ap (n:=11) rfl ?_
    refine xq 0 (aN rfl rfl) rfl ?_
    refine xq 1 (aN rfl rfl) rfl ?_
    first | refine xq 2 (bg rfl rfl) rfl ?_ | refine xq 2 (aT rfl rfl) rfl ?_
    refine xq 3 (ay rfl rfl) rfl ?_
    refine xq 4 (iQ rfl rfl) rfl ?_
    first | refine xq 5 (Bf rfl rfl) rfl ?_ | refine xq 5 (zi rfl rfl) rfl ?_
    refine abl (i:=6) (cs:=uV p) (fun J5=>?_) rfl (hf:=by exact xO Du)
    first
    | refine ae (i:=7) rfl an rfl rfl (iW (row:=jZ) (l:=[]) (l':=[p]) rfl rfl rfl (Os.nil hO.shut) (.tail (.tail (.tail .all))) (fun h2 _ hl=>Sl.mk (hl J5 _ (.head _)) rfl (j_ Du)) (by simp) (by decide) rfl (fun v' S' Ie=>?_))
    | refine ae (i:=7) rfl an rfl rfl (iW (row:=jZ) (l':=[p]) rfl rfl rfl hO (.tail (.tail (.tail .all))) (fun h2 _ hl=>Sl.mk (hl J5 _ (.head _)) rfl (j_ Du)) (by simp;omega) (by decide) rfl (fun v' S' Ie=>?_))
    refine⟨.inr (fun q hq=>?_),?_⟩
    ·rcases List.mem_cons.1 hq with rfl | hq
     ·exact .tail _ (.head _)
     ·rcases List.mem_cons.1 hq with rfl | hq
      ·exact .tail _ (.tail _ (.head _))
      ·cases hq
    obtain⟨asl,csl,rfl⟩:=Ie.dA
    first | refine xq 8 (bg rfl rfl) rfl ?_ | refine xq 8 (aT rfl rfl) rfl ?_
    refine xq 9 (ay rfl rfl) rfl ?_
    refine ae (i:=10) rfl an rfl rfl (eS rfl rfl rfl ?_)
    refine⟨.inl (by kernel_rfl),?_⟩
    refine az ?_
    have hno:¬(l≠[]∧n<c):=by
     rintro⟨h1,h2⟩
     first | exact c19 h2 | exact h1 (List.length_eq_zero_iff.1 (by omega))
    refine mg (vs:=[]) ?_
    first
    | (
      have e:jQ (c,l) p n=(n,[p]):=by simp only[jQ];rw[if_neg hno,if_pos c25];simp
      rw[e]
      exact⟨_,S',Ie,.skip rfl (.skip rfl .refl)⟩)
    | (
      have e:jQ (c,l) p n=(n,l++[p]):=by simp only[jQ];rw[if_neg hno,if_neg c25,if_neg (by simpa using Ic)]
      rw[e]
      exact⟨_,S',Ie,.skip rfl (.skip rfl .refl)⟩)
   ·refine W.skip ?_
    first
    | (simp at Ic;done)
    | (
      have hno:¬(l≠[]∧n<c):=by
       rintro⟨h1,h2⟩
       first | exact c19 h2 | exact h1 (List.length_eq_zero_iff.1 (by omega))
      refine mg (vs:=[]) ?_
      have e:jQ (c,l) p n=(n,l):=by simp only[jQ];rw[if_neg hno,if_neg c25,if_pos (by simpa using Ic)]
      rw[e]
      exact⟨_,S,hO,.skip rfl .refl⟩)
  ·refine W.skip<|aA<|W.seq<|W.region rfl<|qm rfl rfl rfl<|qm rfl rfl rfl ?_
   refine ag4 rfl ?_
   refine agY rfl ?_
   refine Ops.yG ?_
   refine pq<|W.seq ?_
   refine W.Ap (n:=7) rfl ?_
   refine xq 0 (aN rfl rfl) rfl ?_
   first | refine xq 1 (bg rfl rfl) rfl ?_ | refine xq 1 (aT rfl rfl) rfl ?_
   refine xq 2 (ay rfl rfl) rfl ?_
   refine xq 3 (iQ rfl rfl) rfl ?_
   first | refine xq 4 (Bf rfl rfl) rfl ?_ | refine xq 4 (zi rfl rfl) rfl ?_
   first
   | refine Va (i:=5) (fun h' hE hL=>jq _ h' [] p _ .nil Du (fun q hq=>by cases hq) (by simp)) ?_ (hS:=.inr (Keeps.one (.head _) (Keeps.one (.tail _ (.head _)) Keeps.nil)))
   | refine Va (i:=5) (fun h' hE hL=>jq _ h' l p _ (hO.sl fun b o hb=>hL b o (.tail _ (.tail _ hb))) Du hl4 (by omega)) ?_ (hS:=.inr (Keeps.one (.head _) (Keeps.one (.tail _ (.head _)) Keeps.nil)))
   refine xq 6 (xU rfl rfl) rfl ?_
   refine az ?_
   refine aA ?_
   refine W.cond rfl (fun Ic=>?_) (fun Ic=>?_)
   ·refine W.Ap (n:=11) rfl ?_
    refine xq 0 (aN rfl rfl) rfl ?_
    refine xq 1 (aN rfl rfl) rfl ?_
    first | refine xq 2 (bg rfl rfl) rfl ?_ | refine xq 2 (aT rfl rfl) rfl ?_
    refine xq 3 (ay rfl rfl) rfl ?_
    refine xq 4 (iQ rfl rfl) rfl ?_
    first | refine xq 5 (Bf rfl rfl) rfl ?_ | refine xq 5 (zi rfl rfl) rfl ?_
    refine abl (i:=6) (cs:=uV p) (fun J5=>?_) rfl (hf:=by exact xO Du)
    first
    | refine ae (i:=7) rfl an rfl rfl (iW (row:=jZ) (l:=[]) (l':=[p]) rfl rfl rfl (Os.nil hO.shut) (.tail (.tail (.tail .all))) (fun h2 _ hl=>Sl.mk (hl J5 _ (.head _)) rfl (j_ Du)) (by simp) (by decide) rfl (fun v' S' Ie=>?_))
    | refine ae (i:=7) rfl an rfl rfl (iW (row:=jZ) (l':=[p]) rfl rfl rfl hO (.tail (.tail (.tail .all))) (fun h2 _ hl=>Sl.mk (hl J5 _ (.head _)) rfl (j_ Du)) (by simp;omega) (by decide) rfl (fun v' S' Ie=>?_))
    refine⟨.inr (fun q hq=>?_),?_⟩
    ·rcases List.mem_cons.1 hq with rfl | hq
     ·exact .tail _ (.head _)
     ·rcases List.mem_cons.1 hq with rfl | hq
      ·exact .tail _ (.tail _ (.head _))
      ·cases hq
    obtain⟨asl,csl,rfl⟩:=Ie.dA
    first | refine xq 8 (bg rfl rfl) rfl ?_ | refine xq 8 (aT rfl rfl) rfl ?_
    refine xq 9 (ay rfl rfl) rfl ?_
    refine ae (i:=10) rfl an rfl rfl (eS rfl rfl rfl ?_)
    refine⟨.inl (by kernel_rfl),?_⟩
    refine az ?_
    have hno:¬(l≠[]∧n<c):=by
     rintro⟨h1,h2⟩
     first | exact c19 h2 | exact h1 (List.length_eq_zero_iff.1 (by omega))
    refine mg (vs:=[]) ?_
    first
    | (
      have e:jQ (c,l) p n=(n,[p]):=by simp only[jQ];rw[if_neg hno,if_pos c25];simp
      rw[e]
      exact⟨_,S',Ie,.skip rfl (.skip rfl .refl)⟩)
    | (
      have e:jQ (c,l) p n=(n,l++[p]):=by simp only[jQ];rw[if_neg hno,if_neg c25,if_neg (by simpa using Ic)]
      rw[e]
      exact⟨_,S',Ie,.skip rfl (.skip rfl .refl)⟩)
   ·refine W.skip ?_
    first
    | (simp at Ic;done)
    | (
      have hno:¬(l≠[]∧n<c):=by
       rintro⟨h1,h2⟩
       first | exact c19 h2 | exact h1 (List.length_eq_zero_iff.1 (by omega))
      refine mg (vs:=[]) ?_
      have e:jQ (c,l) p n=(n,l):=by simp only[jQ];rw[if_neg hno,if_neg c25,if_pos (by simpa using Ic)]
      rw[e]
      exact⟨_,S,hO,.skip rfl .refl⟩)

theorem aaz(main:Side)(h:Hp)(ps:List Pn)(ls:List Lt)(rs:List Int)(vp vl vm:Value)(o:Option (Nat×List Value))(bl:Nat)(El:TypeId)(zl:Nat×Nat)(hok:iP ps)(hlo:Au ls)(hro:Aw ps.length rs)(hrm:RmV o ps.length vm)(hp:Sl h Pn.row vp ps)(hl:Sl h Lt.row vl ls)
  (hbl:h bl=some (.cells #[vp,U8 0,vl,vm] El zl)):dV prog main uf #[bI bl] h (Iu o rs) (fun v A=>∃u S,v= .agg #[I (CG ps ls rs).1,u]∧Os dw jZ u (CG ps ls rs).2 S∧Sb (S++Iu o rs) A):=by
 obtain⟨xs,hxs⟩:∃xs,yS ps ls rs=xs:=⟨_,rfl⟩
 have hxl:xs.length≤625:=hxs▸aax hlo.len
 have hx4:∀s∈xs,(kC s).length=4:=fun s hs=>Qw (by have:=Az (hxs▸hs);have:=hlo.len;omega)
 refine dV.aG CX rfl (by show 1≤14;decide) [(0,bI bl)] ⟨rfl,trivial⟩ ?_
 refine W.seq<|W.region rfl ?_
 refine Ops.box (fun β1=>?_)
 refine Ops.new (fun yR=>?_)
 refine pq<|W.seq<|W.region rfl ?_
 refine Ops.new (fun uU=>?_)
 refine pq<|W.seq<|W.seq<|W.region rfl ?_
 refine agX rfl ?_
 refine c0 (fun h' hE hL=>ab7 _ h' bl) (fun v A' hv=>?_)
 obtain⟨b1,rfl,rfl⟩:=hv
 refine pq<|W.block ?_
 refine W.perm (F':=([(uU,.cells #[I 0,.slice none 0 0] iJ (0,0))]++Iu o rs)++[(b1,.cells #[bI bl] fM (0,0)),(yR,.cells #[I 0,.slice none 0 0] iJ (0,0)),(β1,.cells #[bI bl] fM (0,0))]) ((List.perm_append_comm (l₂:=[_,_,_])).trans (.cons _ (List.perm_middle (l₁:=[_,_])))) ?_
 refine W.rangeS (Val:=ab6) (xs:=yS ps ls rs) (Iu o rs) rfl rfl rfl (fun k A=>∃u Sm,A=(uU,.cells #[I (wE (Ba ls) ((xs.map kC).take k)).1,u] iJ (0,0))::Sm∧Os dw jZ u (wE (Ba ls) ((xs.map kC).take k)).2 Sm) (fun _ _ _ _=>False) .head ⟨_,[],rfl,.nil .nil⟩
  (fun h' hE hL=>VK _ h' ps ls rs vp vl vm o bl b1 _ _ _ _ hok hlo hro hrm (hp.ext hE) (hl.ext hE) (hE.1 _ _ hbl) (hL b1 _ (.head _))) ?_ ?_
 ·rintro k p v S A1 hp ⟨rfl,rfl⟩ ⟨u,Sm,rfl,hO⟩ l h1 hE1 hL1 hS1
  rw[hxs]at hp
  have hpm:=List.mem_of_getElem? hp
  have Du:=hx4 p hpm
  have hpk:k<xs.length:=by
   rcases Nat.lt_or_ge k xs.length with h' | h'
   ·exact h'
   ·rw[List.getElem?_eq_none h']at hp;cases hp
  have hpx:(xs.map kC)[k]? =some (kC p):=by rw[List.getElem?_map,hp];rfl
  have hnx:=J4 (f:=Ba ls) hpx
  obtain⟨hs1,hs2⟩:=MC (f:=Ba ls) (xs:=xs.map kC) (k:=k) (by rw[List.length_map];omega)
  have hsz:(uV (kC p)).size=4:=by rw[qj,Du]
  have hon:ones (uV (kC p)).toList=true:=Qv
  refine W.region rfl ?_
  refine Ops.new (fun wC=>?_)
  first | refine Ops.jP ?_ | refine Ops.nY ?_
  refine Ops.nil ?_
  refine⟨rfl,rfl,fun h0 hE0 hL0=>?_⟩
  intro hS0
  have hb1:=hL0 β1 _ (.tail _ (.tail _ (.head _)))
  refine W.block ?_
  refine W.DR [(wC,.cells (uV (kC p)) dw (0,0))] (n:=5) rfl ?_
  first | refine xq 0 (Bf rfl rfl) rfl ?_ | refine xq 0 (zi rfl rfl) rfl ?_
  refine xq 1 (iQ rfl rfl) rfl ?_
  first | refine xq 2 (Bf rfl rfl) rfl ?_ | refine xq 2 (zi rfl rfl) rfl ?_
  refine Va (i:=3) (fun h' hE hL=>VL _ h' ls (kC p) vp vl vm bl _ _ hlo Du (hl.ext (hE0.trans hE)) ((hE0.trans hE).1 _ _ hbl)) ?_ (hS:=.inr (Keeps.one (.head _) Keeps.nil))
  refine ae (i:=4) rfl an rfl rfl (QZ (args:=[_,_,_]) rfl rfl (.tail .all) (fun h' hE hL=>aay _ h' uU _ (Ba ls (kC p)) u _ (kC p) Sm hO (by omega) Du (fun q hq=>by obtain⟨s,hs,rfl⟩:=List.mem_map.1 (hs2 q hq);exact hx4 s hs)) (fun v A2 hv=>?_))
  refine⟨.inl (by kernel_rfl),?_⟩
  obtain⟨v',S',Ie,hsb⟩:=hv
  refine Any.sb (.cons hsb) ?_
  refine az ?_
  refine dI ?_
  exact⟨rfl,.inl ⟨rfl,_,⟨v',S',rfl,by rw[hnx];exact Ie⟩,by rw[hnx];exact .skip rfl .refl⟩⟩
 ·rintro e2 A2 h2 d
  have h3:e2= .normal∧∃u Sm,A2=(uU,.cells #[I (CG ps ls rs).1,u] iJ (0,0))::Sm∧Os dw jZ u (CG ps ls rs).2 Sm:=by
   rcases h2 with⟨rfl,u,Sm,rfl,hO⟩ | ⟨_,_,_,_,_,_,_,hX,_⟩
   ·have e:(wE (Ba ls) ((xs.map kC).take (yS ps ls rs).length))=CG ps ls rs:=by
     rw[hxs,List.take_of_length_le (by simp),CG,hxs]
    rw[e]at hO⊢
    exact⟨rfl,u,Sm,rfl,hO⟩
   ·exact hX.elim
  obtain⟨rfl,u,Sm,rfl,hO⟩:=h3
  obtain⟨ua,uc,rfl⟩:=hO.dA
  refine dI<|aA<|W.seq ?_
  refine W.sb (F':=(d,.deferred (some []))::(uU,.cells #[I (CG ps ls rs).1,.slice ua (CG ps ls rs).2.length uc] iJ (0,0))::([(b1,.cells #[bI bl] fM (0,0)),(yR,.cells #[I 0,.slice none 0 0] iJ (0,0)),(β1,.cells #[bI bl] fM (0,0))]++(Sm++Iu o rs))) (.cons (.cons (.dF List.perm_append_comm.symm))) ?_
  refine W.region rfl ?_
  refine ag2 rfl ?_
  first | refine Ops.jP ?_ | refine Ops.nY ?_
  refine pq<|W.ret ?_
  refine lvm (hl:=At.head) (QJ (hv:=D_ zJ) ⟨_,Sm,rfl,hO,?_⟩)
  exact .skip rfl (.skip rfl (.skip rfl (.skip rfl (.skip rfl .refl))))
end Go.aS

/- Sharing out. Conditions: none; over the given program. -/
namespace Go.aS
set_option maxRecDepth 100000
set_option maxHeartbeats 4000000
def AA(ps:List Pn)(ls:List Lt)(rs:List Int):List Int×Int×Int:=
 if ji ps ls rs≠0 then([],0,ji ps ls rs)else((oZ ps ls rs).2.headD [],(oZ ps ls rs).1,0)
theorem aaA{ps:List Pn}{ls:List Lt}{rs:List Int}(h:ji ps ls rs=0):iP ps∧Au ls∧Aw ps.length rs:=by
 unfold ji at h
 split at h
 ·rename_i h1;exact absurd h h1
 split at h
 ·rename_i h1;exact absurd h h1
 ·rename_i h1 h2
  exact⟨iP.yB (by simpa using h1),Au.yB (by simpa using h2),Aw.yB h⟩
theorem VN{ps:List Pn}{ls:List Lt}{rs:List Int}:(oZ ps ls rs).2≠[]:=(EU qX:lY (Ba ls) (yS ps ls rs) (oZ ps ls rs)).ne Ou
theorem SN{ps:List Pn}{ls:List Lt}{rs s:List Int}(h:s∈(oZ ps ls rs).2):s∈yS ps ls rs:=by
 have e:(oZ ps ls rs).2=(yS ps ls rs).filter fun x=>decide (Ba ls x=(oZ ps ls rs).1):=(EU qX:lY (Ba ls) (yS ps ls rs) (oZ ps ls rs)).eq
 rw[e]at h
 exact(List.mem_filter.1 h).1
theorem VO{p:List Int}(h:p.length=4):jZ p=p.map fun n=>I n:=by
 obtain⟨a,b,c,d,rfl⟩:=list4 h
 rfl
theorem YK(main:Side)(h:Hp)(ps:List Pn)(ls:List Lt)(rs:List Int)(vp vl vr:Value)(hp:Sl h Pn.row vp ps)(hl:Sl h Lt.row vl ls)(hr:Sl h fH vr rs):dV prog main Cb #[vp,vl,vr] h [] (fun v A=>∃l S,v= .tuple #[l,I (AA ps ls rs).2.1,I (AA ps ls rs).2.2]∧Os dL fH l (AA ps ls rs).1 S∧Sb S A):=by
 obtain⟨a,cap,rfl⟩:=hp.dA
 obtain⟨a2,cap2,rfl⟩:=hl.dA
 obtain⟨a3,cap3,rfl⟩:=hr.dA
 refine dV.aG Jz rfl (by show 3≤33;decide) [(0,.slice a ps.length cap),(1,.slice a2 ls.length cap2),(2,.slice a3 rs.length cap3)] ⟨rfl,rfl,rfl,trivial⟩ ?_
 refine W.seq<|W.region rfl<|agb rfl rfl rfl<|agb rfl rfl rfl<|agb rfl rfl rfl<|pq<|W.seq<|W.region rfl<|qm rfl rfl rfl ?_
 refine qm rfl rfl rfl<|qm rfl rfl rfl ?_
 refine c0 (fun h' hE hL=>VD _ h' ps ls rs _ _ _ (hp.ext hE) (hl.ext hE) (hr.ext hE)) (fun v A' hv=>?_)
 have hv2:∃pv,v= .tuple #[pv,I (ji ps ls rs)]∧(ji ps ls rs≠0→Shut A')∧(ji ps ls rs=0→∃bl R vm,pv=bI bl∧Os dL fH vm rs R∧Sb ((bl,.cells #[.slice a ps.length cap,U8 0,.slice a2 ls.length cap2,vm] xE (0,0))::R) A'):=by
  rcases hv with⟨h1,rfl,h2⟩ | ⟨h1,bl,R,vm,rfl,hR,hsb⟩
  ·exact⟨_,rfl,fun _=>h2,fun h=>absurd h h1⟩
  ·exact⟨_,by rw[h1],fun h=>absurd h1 h,fun _=>⟨bl,R,vm,rfl,hR,hsb⟩⟩
 obtain⟨pv,rfl,hv3,hv4⟩:=hv2
 clear hv
 refine qm rfl rfl rfl<|oq (bD rfl rfl rfl) rfl wn rfl rfl<|oq (bD rfl rfl rfl) rfl wn rfl rfl<|agb rfl rfl rfl<|agb rfl rfl rfl<|pq<|W.seq<|W.seq<|W.region rfl ?_
 refine qm rfl rfl rfl ?_
 refine agW (nG rfl rfl rfl) rfl ?_
 refine pq ?_
 refine W.bC rfl (fun c20=>?_) (fun c20=>?_)
 ·refine W.seq<|W.region rfl<|qm rfl rfl rfl<|agb rfl rfl rfl<|agb rfl rfl rfl<|agb rfl rfl rfl<|pq<|W.ret<|aY ?_
  have e:AA ps ls rs=([],0,ji ps ls rs):=by rw[AA,if_pos c20]
  rw[e]
  exact mg (vs:=[_,_,_]) ⟨_,[],rfl,.nil .nil,.nil (by simpa using hv3 c20)⟩
 ·have h0:ji ps ls rs=0:=by simpa using c20
  obtain⟨hok,hlo,hro⟩:=aaA h0
  obtain⟨bl,R,vm,rfl,hR,hsb⟩:=hv4 h0
  obtain⟨o,hrm,Oh⟩:=aau hR
  rw[hro.len]at hrm
  have hl4:=hlo.len
  refine W.sb (F':=(bl,.cells #[.slice a ps.length cap,U8 0,.slice a2 ls.length cap2,vm] xE (0,0))::Iu o rs) (by simpa using(Sb.cons Oh).trans hsb) ?_
  refine W.skip<|aA<|W.seq<|W.region rfl<|qm rfl rfl rfl ?_
  refine cg (.tail .all) (fun h' hE hL=>aaz _ h' ps ls rs _ _ vm o bl _ _ hok hlo hro hrm (hp.ext hE) (hl.ext hE) (hL bl _ (.head _))) (fun v A1 hv=>?_)
  obtain⟨u,S,rfl,hO,afy⟩:=hv
  rw[YG]at hO⊢
  simp only at hO
  obtain⟨s0,rest,hs0⟩:=List.exists_cons_of_ne_nil (VN (ps:=ps) (ls:=ls) (rs:=rs))
  have afz:s0.length=ls.length:=Az (SN (by rw[hs0];exact List.mem_cons_self ..))
  have hp0:(kC s0).length=4:=Qw (by omega)
  rw[hs0,List.map_cons]at hO
  rcases hO with⟨h9,-⟩ | ⟨βu,c,cp,Ju,rfl,rfl,hc1,hc2,hpt,hJu⟩
  ·cases h9
  refine Ops.sb (F':=(βu,.cells c dw (0,0))::[]) (.skip rfl (Sb.trans (.cons (.nil (hJu.app (by unfold Iu;split;exact .nil;exact .cons rfl .nil)))) afy)) ?_
  have hfl:flat jZ (kC s0::rest.map kC)=[]++(flat fH s0++(((List.replicate (4-s0.length) 0).map fun n=>I n)++flat jZ (rest.map kC))):=by
   rw[iV,VO hp0,YE,kC,List.map_append,List.nil_append,List.append_assoc]
  have Gj:Part c 0 (flat fH s0):=by
   rw[hfl]at hpt
   exact hpt.sub
  refine Ops.new (fun KY=>?_)
  first | refine Ops.jP ?_ | refine Ops.nY ?_
  refine pq<|W.seq ?_
  refine W.rE (n:=12) rfl ?_
  refine xq 0 (ay rfl rfl) rfl ?_
  refine xq 1 (iQ rfl rfl) rfl ?_
  refine xq 2 (o_ rfl rfl rfl (by omega) (by simp only[List.length_cons];omega)) rfl ?_
  refine xq 3 (aN rfl rfl) rfl ?_
  refine xq 4 (dM rfl rfl) rfl ?_
  refine xq 5 (NJ rfl rfl rfl hl4) rfl ?_
  refine xq 7 (ay rfl rfl) rfl ?_
  refine xq 8 (iQ rfl rfl) rfl ?_
  refine ae (i:=6) rfl an rfl rfl (lQ (args:=[_]) rfl rfl (fun h' hE hL=>Gh _ h' s0 _ (Sl.mk (hL βu _ (.tail _ (.head _))) afz.symm Gj) (by omega)) (fun v A' hv=>?_))
  refine⟨.inr (Keeps.app Keeps.refl),?_⟩
  obtain⟨S2,hS2,afA⟩:=hv
  refine xq 9 (jS rfl rfl) rfl ?_
  refine xq 10 (jS rfl rfl) rfl ?_
  refine xq 11 (jS rfl rfl) rfl ?_
  refine az ?_
  refine aA<|W.ret ?_
  have e:AA ps ls rs=(s0,(oZ ps ls rs).1,0):=by rw[AA,if_neg (by simpa using h0),hs0];rfl
  rw[e]
  exact mg (vs:=[_,_,_]) ⟨_,S2,rfl,hS2,.right afA (.cons rfl (.cons rfl .nil))⟩
end Go.aS

/- Numbers out of a hat. Conditions: none; over the given program. -/
namespace Go.aS
set_option maxRecDepth 100000
set_option maxHeartbeats 4000000
abbrev wF(lv:Value)(k:Nat)(s:Int):Obj:=.cells #[lv,I k,.int .u64 s] adi (0,0)

theorem ab8(n:Int):0≤IntKind.u64.wrap n:=by
 show 0≤n % (18446744073709551616:Int)
 omega
theorem YL(a b:Int):0≤bits .xor IntKind.u64 a b:=by
 unfold bits
 exact ab8 _
theorem aaB(main:Side)(h:Hp)(nums:List Int)(lv:Value)(b k:Nat)(s:Int)(hl:Sl h fH lv nums)(hk:k<4000000000):dV prog main zM #[.pointer (some ⟨b,0,none⟩)] h [(b,wF lv k s)] (fun v A=>∃x s',v= .int .u64 x∧0≤x∧Sb [(b,wF lv (k+1) s')] A):=by
 obtain⟨a,cap,rfl⟩:=hl.dA
 refine dV.aG Hz rfl (by show 1≤75;decide) [(0,.pointer (some ⟨b,0,none⟩))] ⟨rfl,trivial⟩ ?_
 refine W.seq<|W.region rfl<|agb rfl rfl rfl<|pq<|W.seq<|W.region rfl<|qm rfl rfl rfl ?_
 refine ag4 rfl ?_
 refine agY rfl ?_
 refine agX rfl ?_
 refine agW (FC rfl rfl) rfl ?_
 refine ag1 rfl ?_
 refine agb rfl rfl rfl<|pq<|W.seq<|W.seq ?_
 refine W.rE (n:=10) rfl ?_
 refine xq 0 (aN rfl rfl) rfl ?_
 first | refine xq 1 (bg rfl rfl) rfl ?_ | refine xq 1 (aT rfl rfl) rfl ?_
 refine xq 2 (ay rfl rfl) rfl ?_
 refine xq 3 (iQ rfl rfl) rfl ?_
 refine xq 4 (aN rfl rfl) rfl ?_
 first | refine xq 5 (bg rfl rfl) rfl ?_ | refine xq 5 (aT rfl rfl) rfl ?_
 refine xq 6 (ay rfl rfl) rfl ?_
 refine xq 7 (iQ rfl rfl) rfl ?_
 refine xq 8 (dM rfl rfl) rfl ?_
 refine xq 9 (fO rfl rfl rfl) rfl ?_
 refine az ?_
 refine aA ?_
 refine W.bC rfl (fun c20=>?_) (fun c20=>?_)
 ·obtain⟨p,hp,-⟩:=has (show k<nums.length by omega)
  obtain⟨b1,off,c,E,fz,rfl,hb,hx,hy,hz⟩:=hl.at hp
  have hz0:=hz 0 (by decide)
  have hpa:c[off+k*1]? =some (I p):=by simpa[fH]using hz0
  refine W.rE (n:=15) rfl ?_
  refine xq 0 (aN rfl rfl) rfl ?_
  refine xq 1 (aN rfl rfl) rfl ?_
  first | refine xq 2 (bg rfl rfl) rfl ?_ | refine xq 2 (aT rfl rfl) rfl ?_
  refine xq 3 (ay rfl rfl) rfl ?_
  refine xq 4 (iQ rfl rfl) rfl ?_
  refine xq 5 (aN rfl rfl) rfl ?_
  first | refine xq 6 (bg rfl rfl) rfl ?_ | refine xq 6 (aT rfl rfl) rfl ?_
  refine xq 7 (ay rfl rfl) rfl ?_
  refine xq 8 (iQ rfl rfl) rfl ?_
  first | refine xq 9 (G_ rfl rfl rfl) rfl ?_ | refine xq 9 (o_ rfl rfl rfl) rfl ?_
  refine xq 10 (iQ rfl rfl) rfl ?_
  refine xq 11 (FC rfl rfl) rfl ?_
  first | refine xq 12 (aaC rfl rfl rfl) rfl ?_ | refine xq 12 (Fz rfl rfl rfl) rfl ?_
  refine xq 13 (Gx rfl rfl rfl) rfl ?_
  refine xq 14 (jS rfl rfl) rfl ?_
  refine az ?_
  refine aA<|W.seq<|W.region rfl<|qm rfl rfl rfl ?_
  refine ag4 rfl ?_
  refine agY rfl ?_
  refine agX rfl ?_
  refine ag1 rfl ?_
  refine ag4 rfl ?_
  refine agY rfl ?_
  refine Ops.yG ?_
  refine pq<|W.seq<|W.region rfl<|qm rfl rfl rfl<|qm rfl rfl rfl ?_
  refine ag4 rfl ?_
  refine agY rfl ?_
  refine agX rfl ?_
  refine qm rfl rfl rfl ?_
  refine agW (Gx rfl rfl rfl) rfl ?_
  first | refine agW (aaC rfl rfl rfl) rfl ?_ | refine agW (Fz rfl rfl rfl) rfl ?_
  refine ag4 rfl ?_
  refine agY rfl ?_
  refine Ops.yG ?_
  refine pq<|W.seq ?_
  refine W.rE (n:=14) rfl ?_
  refine xq 0 (aN rfl rfl) rfl ?_
  refine xq 1 (aN rfl rfl) rfl ?_
  first | refine xq 2 (bg rfl rfl) rfl ?_ | refine xq 2 (aT rfl rfl) rfl ?_
  refine xq 3 (ay rfl rfl) rfl ?_
  refine xq 4 (iQ rfl rfl) rfl ?_
  refine xq 5 (aN rfl rfl) rfl ?_
  first | refine xq 6 (bg rfl rfl) rfl ?_ | refine xq 6 (aT rfl rfl) rfl ?_
  refine xq 7 (ay rfl rfl) rfl ?_
  refine xq 8 (iQ rfl rfl) rfl ?_
  refine xq 9 (Gw rfl rfl rfl (by omega)) rfl ?_
  refine xq 10 (Gx rfl rfl rfl) rfl ?_
  first | refine xq 11 (bg rfl rfl) rfl ?_ | refine xq 11 (aT rfl rfl) rfl ?_
  refine xq 12 (ay rfl rfl) rfl ?_
  refine ae (i:=13) rfl an rfl rfl (eS rfl rfl rfl ?_)
  refine⟨.inl (by kernel_rfl),?_⟩
  refine az ?_
  refine aA<|W.seq<|W.region rfl<|qm rfl rfl rfl ?_
  refine ag4 rfl ?_
  refine agY rfl ?_
  refine agX rfl ?_
  first | refine agW (aaC rfl rfl rfl) rfl ?_ | refine agW (Fz rfl rfl rfl) rfl ?_
  refine agb rfl rfl rfl<|pq<|W.seq<|W.region rfl<|qm rfl rfl rfl<|qm rfl rfl rfl ?_
  refine agW (Gw rfl rfl rfl (by omega)) rfl ?_
  refine agW (Gx rfl rfl rfl) rfl ?_
  refine agW (Gw rfl rfl rfl (by omega)) rfl ?_
  refine agb rfl rfl rfl<|pq<|W.ret ?_
  refine mg ⟨_,_,rfl,?_,.refl⟩
  exact Int.fdiv_nonneg (YL _ _) (by decide)
 ·refine W.skip<|aA<|W.seq<|W.region rfl<|qm rfl rfl rfl ?_
  refine ag4 rfl ?_
  refine agY rfl ?_
  refine agX rfl ?_
  refine ag1 rfl ?_
  refine ag4 rfl ?_
  refine agY rfl ?_
  refine Ops.yG ?_
  refine pq<|W.seq<|W.region rfl<|qm rfl rfl rfl<|qm rfl rfl rfl ?_
  refine ag4 rfl ?_
  refine agY rfl ?_
  refine agX rfl ?_
  refine qm rfl rfl rfl ?_
  refine agW (Gx rfl rfl rfl) rfl ?_
  first | refine agW (aaC rfl rfl rfl) rfl ?_ | refine agW (Fz rfl rfl rfl) rfl ?_
  refine ag4 rfl ?_
  refine agY rfl ?_
  refine Ops.yG ?_
  refine pq<|W.seq ?_
  refine W.rE (n:=14) rfl ?_
  refine xq 0 (aN rfl rfl) rfl ?_
  refine xq 1 (aN rfl rfl) rfl ?_
  first | refine xq 2 (bg rfl rfl) rfl ?_ | refine xq 2 (aT rfl rfl) rfl ?_
  refine xq 3 (ay rfl rfl) rfl ?_
  refine xq 4 (iQ rfl rfl) rfl ?_
  refine xq 5 (aN rfl rfl) rfl ?_
  first | refine xq 6 (bg rfl rfl) rfl ?_ | refine xq 6 (aT rfl rfl) rfl ?_
  refine xq 7 (ay rfl rfl) rfl ?_
  refine xq 8 (iQ rfl rfl) rfl ?_
  refine xq 9 (Gw rfl rfl rfl (by omega)) rfl ?_
  refine xq 10 (Gx rfl rfl rfl) rfl ?_
  first | refine xq 11 (bg rfl rfl) rfl ?_ | refine xq 11 (aT rfl rfl) rfl ?_
  refine xq 12 (ay rfl rfl) rfl ?_
  refine ae (i:=13) rfl an rfl rfl (eS rfl rfl rfl ?_)
  refine⟨.inl (by kernel_rfl),?_⟩
  refine az ?_
  refine aA<|W.seq<|W.region rfl<|qm rfl rfl rfl ?_
  refine ag4 rfl ?_
  refine agY rfl ?_
  refine agX rfl ?_
  first | refine agW (aaC rfl rfl rfl) rfl ?_ | refine agW (Fz rfl rfl rfl) rfl ?_
  refine agb rfl rfl rfl<|pq<|W.seq<|W.region rfl<|qm rfl rfl rfl<|qm rfl rfl rfl ?_
  refine agW (Gw rfl rfl rfl (by omega)) rfl ?_
  refine agW (Gx rfl rfl rfl) rfl ?_
  refine agW (Gw rfl rfl rfl (by omega)) rfl ?_
  refine agb rfl rfl rfl<|pq<|W.ret ?_
  refine mg ⟨_,_,rfl,?_,.refl⟩
  exact Int.fdiv_nonneg (YL _ _) (by decide)
end Go.aS

/- Floors, strikes and plants out of a hat. Conditions: none; over the given program. -/
namespace Go.aS
set_option maxRecDepth 100000
set_option maxHeartbeats 4000000
theorem ab9{x n:Int}(hx:0≤x)(h1:1≤n)(h2:n≤1000000):∃r,IntKind.i64.wrap (x.tmod (IntKind.u64.wrap (IntKind.u64.wrap n+1)))=r∧0≤r∧r≤n:=by
 have e1:IntKind.u64.wrap n=n:=by show n % (18446744073709551616:Int)=n;omega
 have e2:IntKind.u64.wrap (n+1)=n+1:=by show(n+1) % (18446744073709551616:Int)=n+1;omega
 have e3:x.tmod (n+1)=x % (n+1):=Int.tmod_eq_emod_of_nonneg hx
 have h3:=Int.emod_nonneg x (show n+1≠0 by omega)
 have h4:=Int.emod_lt_of_pos x (show 0<n+1 by omega)
 rw[e1,e2,e3]
 rw[nC (by omega) (by omega)]
 exact⟨_,rfl,h3,by omega⟩

theorem adY{n:Int}(h1:1≤n)(h2:n≤1000000):IntKind.u64.wrap (IntKind.u64.wrap n+1)≠0:=by
 have e1:IntKind.u64.wrap n=n:=by show n % (18446744073709551616:Int)=n;omega
 have e2:IntKind.u64.wrap (n+1)=n+1:=by show(n+1) % (18446744073709551616:Int)=n+1;omega
 rw[e1,e2];omega
theorem UC(main:Side)(h:Hp)(nums:List Int)(lv:Value)(b k:Nat)(s n:Int)(hl:Sl h fH lv nums)(hk:k<4000000000)(hn: -1000000≤n∧n≤1000000):dV prog main Ee #[.pointer (some ⟨b,0,none⟩),I n] h [(b,wF lv k s)] (fun v A=>∃r s',v=I r∧(0≤r∧(r≤n∨r=0))∧Sb [(b,wF lv (k+1) s')] A):=by
 refine dV.aG Ky rfl (by show 2≤16;decide) [(0,.pointer (some ⟨b,0,none⟩)),(1,I n)] ⟨rfl,rfl,trivial⟩ ?_
 refine W.seq<|W.region rfl<|agb rfl rfl rfl<|pq<|W.seq<|W.region rfl<|qm rfl rfl rfl ?_
 refine cg (A:=[(b,_)]) .head (fun h' hE hL=>aaB _ h' nums lv b k s (hl.ext hE) hk) (fun v A' hv=>?_)
 obtain⟨x,s',rfl,hx,hsb⟩:=hv
 refine Ops.sb (hsb.app .refl) ?_
 refine agb rfl rfl rfl<|pq<|W.seq<|W.seq<|W.region rfl<|qm rfl rfl rfl ?_
 refine agW (fO rfl rfl rfl) rfl ?_
 refine pq ?_
 refine W.bC rfl (fun c9=>?_) (fun c9=>?_)
 ·refine W.seq<|W.region rfl<|agb rfl rfl rfl<|pq<|W.ret<|aY ?_
  exact mg (vs:=[_]) ⟨0,s',rfl,⟨Int.le_refl _,.inr rfl⟩,.refl⟩
 ·refine W.skip<|aA<|W.seq<|W.region rfl<|qm rfl rfl rfl<|qm rfl rfl rfl ?_
  refine agW (FC rfl rfl) rfl ?_
  refine ag1 rfl ?_
  refine agW (Wu rfl rfl rfl (adY (by omega) hn.2)) rfl ?_
  refine agW (FC rfl rfl) rfl ?_
  refine agb rfl rfl rfl<|pq<|W.ret ?_
  obtain⟨r,hr,h0,h1⟩:=ab9 (n:=n) hx (by omega) hn.2
  exact mg (vs:=[_]) ⟨r,s',congrArg (Value.int .i64) hr,⟨h0,.inl h1⟩,.refl⟩

theorem UD(main:Side)(h:Hp)(nums:List Int)(lv:Value)(b k:Nat)(s lo hi:Int)(hl:Sl h fH lv nums)(hk:k<4000000000)(hn: -100000≤lo∧lo≤100000∧-100000≤hi∧hi≤100000):dV prog main zL #[.pointer (some ⟨b,0,none⟩),I lo,I hi] h [(b,wF lv k s)] (fun v A=>∃r s',v=I r∧(lo≤r∧(r≤hi∨r=lo))∧Sb [(b,wF lv (k+1) s')] A):=by
 refine dV.aG Hy rfl (by show 3≤14;decide) [(0,.pointer (some ⟨b,0,none⟩)),(1,I lo),(2,I hi)] ⟨rfl,rfl,rfl,trivial⟩ ?_
 refine W.seq<|W.region rfl<|agb rfl rfl rfl<|pq<|W.seq<|W.region rfl<|qm rfl rfl rfl<|qm rfl rfl rfl<|qm rfl rfl rfl ?_
 refine qm rfl rfl rfl ?_
 refine ag5 rfl ?_
 refine cg (A:=[(b,_)]) .head (fun h' hE hL=>UC _ h' nums lv b k s (hi-lo) (hl.ext hE) hk (by omega)) (fun v A' hv=>?_)
 obtain⟨r,s',rfl,hr,hsb⟩:=hv
 refine Ops.sb (hsb.app .refl) ?_
 refine ag1 rfl ?_
 refine agb rfl rfl rfl<|pq<|W.ret ?_
 exact mg (vs:=[_]) ⟨lo+r,s',rfl,⟨by omega,by omega⟩,.refl⟩

theorem YM(main:Side)(h:Hp)(nums:List Int)(lv:Value)(b k:Nat)(s:Int)(l:List Int)(vl:Value)(hl:Sl h fH lv nums)(hs:Sl h fH vl l)(hk:k<4000000000)(h1:1≤l.length)(h2:l.length≤1000):dV prog main Ce #[.pointer (some ⟨b,0,none⟩),vl] h [(b,wF lv k s)] (fun v A=>∃r s',v=I r∧r∈l∧Sb [(b,wF lv (k+1) s')] A):=by
 obtain⟨a,cap,rfl⟩:=hs.dA
 refine dV.aG JD rfl (by show 2≤13;decide) [(0,.pointer (some ⟨b,0,none⟩)),(1,.slice a l.length cap)] ⟨rfl,rfl,trivial⟩ ?_
 refine W.seq<|W.region rfl<|agb rfl rfl rfl<|pq<|W.seq<|W.region rfl<|qm rfl rfl rfl<|qm rfl rfl rfl<|qm rfl rfl rfl ?_
 refine agW (dM rfl rfl) rfl ?_
 refine ag5 rfl ?_
 refine cg (A:=[(b,_)]) .head (fun h' hE hL=>UC _ h' nums lv b k s ((l.length:Int)-1) (hl.ext hE) hk (by omega)) (fun v A' hv=>?_)
 obtain⟨r,s',rfl,hr,hsb⟩:=hv
 refine Ops.sb (hsb.app .refl) ?_
 obtain⟨rn,rfl⟩:∃rn:Nat,r=rn:=⟨r.toNat,by omega⟩
 obtain⟨p,hp,-⟩:=has (show rn<l.length by omega)
 obtain⟨b1,off,c,E,fz,rfl,hb,hx,hy,hz⟩:=hs.at hp
 have hz0:=hz 0 (by decide)
 have hpa:c[off+rn*1]? =some (I p):=by simpa[fH]using hz0
 refine ag3 rfl ?_
 refine agX rfl ?_
 refine agb rfl rfl rfl<|pq<|W.ret ?_
 exact mg (vs:=[_]) ⟨p,s',rfl,List.mem_of_getElem? hp,.refl⟩

theorem VQ(main:Side)(h:Hp)(nums:List Int)(lv:Value)(hl:Sl h fH lv nums):dV prog main Ec #[lv] h [] (fun v A=>∃b s,v= .pointer (some ⟨b,0,none⟩)∧A=[(b,wF lv 0 s)]):=by
 obtain⟨a,cap,rfl⟩:=hl.dA
 refine dV.aG Kv rfl (by show 1≤6;decide) [(0,.slice a nums.length cap)] ⟨rfl,trivial⟩ ?_
 refine W.seq<|W.region rfl<|agb rfl rfl rfl<|pq<|W.seq<|W.region rfl<|qm rfl rfl rfl ?_
 refine agW (eH rfl rfl rfl) rfl ?_
 refine Ops.box (fun mZ=>?_)
 refine agb rfl rfl rfl<|pq<|W.ret ?_
 exact mg (vs:=[_]) ⟨_,_,rfl,rfl⟩
end Go.aS

/- Pans, lots and room out of a hat. Conditions: none; over the given program. -/
namespace Go.aS
set_option maxRecDepth 100000
set_option maxHeartbeats 4000000
theorem EW{p:Pn}(h:0≤p.lo∧p.lo≤12∧p.hi≤12∧p.lo≤p.hi∧-6≤p.sh∧p.sh≤6):gW p=0:=by
 unfold gW
 rw[if_neg (by unfold outs;omega),if_neg (by omega),if_neg (by unfold outs;omega)]
theorem SQ{ps:List Pn}(h:∀p∈ps,gW p=0):lX ps=0:=by
 induction ps with
 | nil=>rfl
 | cons p ps ih=>
  rw[lX,if_pos (h p (List.mem_cons_self ..))]
  exact ih fun q hq=>h q (List.mem_cons_of_mem _ hq)
theorem aaD{ps:List Pn}(hl:ps.length≤4)(h:∀p∈ps,gW p=0):nV ps=0:=by
 rw[nV,if_neg (by omega)];exact SQ h

theorem YN(main:Side)(h:Hp)(nums:List Int)(lv:Value)(b k:Nat)(s:Int)(hl:Sl h fH lv nums)(hk:k≤1000000):dV prog main GL #[bI b] h [(b,wF lv k s)] (fun v A=>∃p s',v=p.val∧gW p=0∧Sb [(b,wF lv (k+4) s')] A):=by
 refine dV.aG N7 rfl (by show 1≤19;decide) [(0,bI b)] ⟨rfl,trivial⟩ ?_
 refine W.seq<|W.region rfl ?_
 refine Ops.new (fun yR=>?_)
 refine pq<|W.seq<|W.region rfl<|qm rfl rfl rfl ?_
 refine cg (A:=[(b,_)]) (.tail .all) (fun h' hE hL=>UC _ h' nums lv b k s 12 (hl.ext hE) (by omega) (by omega)) (fun v A' hv=>?_)
 obtain⟨lo,s1,rfl,hlo,hsb⟩:=hv
 refine Ops.sb (.cons hsb) ?_
 refine agb rfl rfl rfl<|pq<|W.seq<|W.region rfl<|qm rfl rfl rfl<|qm rfl rfl rfl<|qm rfl rfl rfl ?_
 refine Ops.NK (cs:= #[I 0,I 1,I 2,I 4,I 12]) (fun Uw=>?_) rfl
 refine cg (A:=[(b,_)]) (.tail (.tail .all)) (fun h' hE hL=>YM _ h' nums lv b (k+1) s1 [0,1,2,4,12] _ (hl.ext hE) (Sl.mk (hL Uw _ (.head _)) rfl (Part.all [I 0,I 1,I 2,I 4,I 12])) (by omega) (by simp) (by simp)) (fun v A' hv=>?_)
 obtain⟨d,s2,rfl,hd,hsb⟩:=hv
 refine Ops.sb (.skip rfl (.cons hsb)) ?_
 have hd2:0≤d∧d≤12:=by
  simp only[List.mem_cons,List.not_mem_nil,or_false]at hd
  omega
 refine ag1 rfl ?_
 refine agW (Tm rfl rfl rfl) rfl ?_
 refine qm rfl rfl rfl<|qm rfl rfl rfl ?_
 refine cg (A:=[(b,_)]) (.tail .all) (fun h' hE hL=>UD _ h' nums lv b (k+1+1) s2 (-6) 6 (hl.ext hE) (by omega) (by omega)) (fun v A' hv=>?_)
 obtain⟨sh0,s3,rfl,agn,hsb⟩:=hv
 refine Ops.sb (.cons hsb) ?_
 refine Ops.NK (cs:= #[I (-1),I (-2),I (-3),I (-3),I 2,I 1,I 0,I sh0]) (fun Ye=>?_) rfl
 refine cg (A:=[(b,_)]) (.tail (.tail .all)) (fun h' hE hL=>YM _ h' nums lv b (k+1+1+1) s3 [-1,-2,-3,-3,2,1,0,sh0] _ (hl.ext hE) (Sl.mk (hL Ye _ (.head _)) rfl (Part.all [I (-1),I (-2),I (-3),I (-3),I 2,I 1,I 0,I sh0])) (by omega) (by simp) (by simp)) (fun v A' hv=>?_)
 obtain⟨sh,s4,rfl,hsh,hsb⟩:=hv
 refine Ops.sb (.skip rfl (.cons hsb)) ?_
 have hsh2: -6≤sh∧sh≤6:=by
  simp only[List.mem_cons,List.not_mem_nil,or_false]at hsh
  omega
 refine agW (eH rfl rfl rfl) rfl ?_
 first | refine Ops.jP ?_ | refine Ops.nY ?_
 refine pq<|W.ret ?_
 refine QJ (hv:=D_ zJ) ⟨⟨lo,_,sh⟩,s4,rfl,EW ?_,.skip rfl .refl⟩
 simp only
 omega
end Go.aS

/- Pans, lots and room out of a hat: how many one likes. Conditions: none; over the given program. -/
namespace Go.aS
set_option maxRecDepth 100000
set_option maxHeartbeats 4000000
theorem G7{α:Type}{row:α→List Value}{w:Nat}[rw':Rw row w]{j:Nat}{v:Value}{p p':α}(hj:j<w)(hr:row p'=(row p).set j v):∀{l:List α} {i:Nat},l[i]? =some p→(flat row l).set (i*w+j) v=flat row (l.set i p')
 | [],i,h=>by cases h
 | q::l,0,h=>by
  obtain rfl:q=p:=by simpa using h
  have hl:(row q).length=w:=Rw.len q
  rw[iV,List.set_cons_zero,iV,hr,Nat.zero_mul,Nat.zero_add,List.set_append_left _ _ (by rw[hl];exact hj)]
 | q::l,i+1,h=>by
  have hl:(row q).length=w:=Rw.len q
  have ih:=G7 (rw':=rw') hj hr (l:=l) (i:=i) h
  rw[iV,List.set_cons_succ,iV,←ih,List.set_append_right _ _ (by rw[hl,Nat.succ_mul];omega)]
  congr 2
  rw[hl,Nat.succ_mul];omega
theorem VR{α:Type}{row:α→List Value}{w:Nat}[Rw row w]{l:List α}:(flat row l).length=l.length*w:=jT ..
theorem Part.setRow{α:Type}{row:α→List Value}{w:Nat}[Rw row w]{c:Array Value}{l:List α}{i j:Nat}{v:Value}{p p':α}(h:Part c 0 (flat row l))(hi:l[i]? =some p)(hj:j<w)(hr:row p'=(row p).set j v):Part (c.setIfInBounds (i*w+j) v) 0 (flat row (l.set i p')):=by
 obtain⟨pre,post,h1,h2⟩:=h
 obtain rfl:=List.length_eq_zero_iff.1 h2
 refine⟨[],post,?_,rfl⟩
 have hil:i<l.length:=by
  rcases Nat.lt_or_ge i l.length with h' | h'
  ·exact h'
  ·rw[List.getElem?_eq_none h']at hi;cases hi
 rw[Array.toList_setIfInBounds,h1,List.nil_append,List.nil_append,←G7 hj hr hi,List.set_append_left]
 rw[VR]
 have:(i+1)*w≤l.length*w:=Nat.mul_le_mul_right _ hil
 rw[Nat.succ_mul]at this
 omega

theorem VT(main:Side)(h:Hp)(nums:List Int)(lv:Value)(b k:Nat)(s:Int)(n:Nat)(hl:Sl h fH lv nums)(hk:k≤100000)(hn:n≤4):dV prog main Ed #[bI b,I n] h [(b,wF lv k s)]
  (fun v A=>∃ps Sp k' s',Os Ag Pn.row v ps Sp∧(ps.length≤n∧∀p∈ps,gW p=0)∧k'≤k+100∧Sb ((b,wF lv k' s')::Sp) A):=by
 refine dV.aG Kw rfl (by show 2≤20;decide) [(0,bI b),(1,I n)] ⟨rfl,rfl,trivial⟩ ?_
 refine W.seq<|W.region rfl<|agb rfl rfl rfl<|pq<|W.seq<|W.region rfl<|agb rfl rfl rfl<|pq ?_
 refine W.seq<|W.seq<|W.region rfl<|qm rfl rfl rfl<|qm rfl rfl rfl ?_
 refine cg (A:=[(b,_)]) .all (fun h' hE hL=>UD _ h' nums lv b k s 0 n (hl.ext hE) (by omega) (by omega)) (fun v A' hv=>?_)
 obtain⟨r,s1,rfl,hr,hsb⟩:=hv
 refine Ops.sb hsb ?_
 obtain⟨m,rfl⟩:∃m:Nat,r=m:=⟨r.toNat,by omega⟩
 refine agb rfl rfl rfl<|pq<|W.block ?_
 refine W.Js (σ:=Nat) (τ:=List Pn×Value×ah) (υ:=Nat×Int) (fun i t u=>i≤m∧Os Ag Pn.row t.2.1 t.1 t.2.2∧(∀p∈t.1,gW p=0)∧t.1.length+i=m∧u.1+4*i=k+1+4*m) (fun i t _=>[(6,I i),(5,t.2.1),(0,bI b)])
  (fun _ t u=>(b,wF lv u.1 u.2)::t.2.2) (fun i _ _=>i) m ([],.slice none 0 0,[]) (k+1,s1) ⟨Nat.le_refl _,.nil .nil,(fun p hp=>by cases hp),by simp,by simp⟩ ⟨rfl,rfl,rfl,trivial⟩ .refl ?_
 rintro i ⟨ps,vp,Sp⟩ ⟨k1,s2⟩ ⟨hi,hO,hck,hlen,hk1⟩
 simp only at hO hck hlen hk1⊢
 obtain⟨va,vc,rfl⟩:=hO.dA
 refine W.seq<|W.seq<|W.region rfl<|qm rfl rfl rfl ?_
 refine agW (rC rfl rfl rfl) rfl ?_
 refine pq ?_
 refine W.bC rfl (fun c11=>?_) (fun c11=>?_)
 ·skip
  refine W.skip<|aA<|W.seq<|W.block<|W.region rfl<|qm rfl rfl rfl<|qm rfl rfl rfl ?_
  refine cg (A:=[(b,_)]) .head (fun h' hE hL=>YN _ h' nums lv b k1 s2 (hl.ext hE) (by omega)) (fun v A' hv=>?_)
  obtain⟨p,s3,rfl,hcp,hsb⟩:=hv
  refine Ops.sb (hsb.app (D:=Sp) .refl) ?_
  refine Ops.NK (cs:= #[I p.lo,I p.hi,I p.sh]) (fun afC=>?_) rfl
  refine oe rfl wn rfl rfl (iW (row:=Pn.row) (l':=[p]) rfl rfl rfl hO (.tail (.tail .all)) (fun h2 _ hl=>Sl.mk (hl afC _ (.head _)) rfl (Part.all (flat Pn.row [p]))) (by simp;omega) (by decide) rfl (fun v' S' Ie=>?_))
  refine agb rfl rfl rfl<|Ops.nil<|dI<|aA<|W.region rfl<|qm rfl rfl rfl ?_
  refine ag5 rfl ?_
  refine agb rfl rfl rfl<|pq ?_
  refine⟨rfl,i-1,(ps++[p],v',S'),(k1+4,s3),⟨by omega,Ie,fun q hq=>?_,by simp;omega,by simp only;omega⟩,by omega,⟨lk rfl (show I _=I _ by congr 1;omega),rfl,rfl,trivial⟩,.skip rfl .refl⟩
  rcases List.mem_append.1 hq with hq | hq
  ·exact hck q hq
  ·rw[List.mem_singleton.1 hq];exact hcp
 ·skip
  refine W.exit<|bP<|bP<|gG<|aA<|W.seq<|W.region rfl<|qm rfl rfl rfl<|agb rfl rfl rfl<|Ops.nil ?_
  refine aA<|W.ret ?_
  exact mg (vs:=[_]) ⟨ps,Sp,k1,s2,hO,⟨by omega,hck⟩,by omega,.refl⟩

theorem am6(main:Side)(h:Hp)(nums:List Int)(lv:Value)(b k:Nat)(s:Int)(n:Nat)(hl:Sl h fH lv nums)(hk:k≤100000)(hn:n≤4):dV prog main amk #[bI b,I n] h [(b,wF lv k s)]
  (fun v A=>∃ls Sp k' s',Os XI Lt.row v ls Sp∧(ls.length≤n∧∀l∈ls,Ar l=false)∧k'≤k+100∧Sb ((b,wF lv k' s')::Sp) A):=by
 refine dV.aG amG rfl (by show 2≤23;decide) [(0,bI b),(1,I n)] ⟨rfl,rfl,trivial⟩ ?_
 refine W.seq<|W.region rfl<|agb rfl rfl rfl<|pq<|W.seq<|W.region rfl<|agb rfl rfl rfl<|pq ?_
 refine W.seq<|W.seq<|W.region rfl<|qm rfl rfl rfl<|qm rfl rfl rfl ?_
 refine cg (A:=[(b,_)]) .all (fun h' hE hL=>UD _ h' nums lv b k s 0 n (hl.ext hE) (by omega) (by omega)) (fun v A' hv=>?_)
 obtain⟨r,s1,rfl,hr,hsb⟩:=hv
 refine Ops.sb hsb ?_
 obtain⟨m,rfl⟩:∃m:Nat,r=m:=⟨r.toNat,by omega⟩
 refine agb rfl rfl rfl<|pq<|W.block ?_
 refine W.Js (σ:=Nat) (τ:=List Lt×Value×ah) (υ:=Nat×Int) (fun i t u=>i≤m∧Os XI Lt.row t.2.1 t.1 t.2.2∧(∀p∈t.1,Ar p=false)∧t.1.length+i=m∧u.1+2*i=k+1+2*m) (fun i t _=>[(6,I i),(5,t.2.1),(0,bI b)])
  (fun _ t u=>(b,wF lv u.1 u.2)::t.2.2) (fun i _ _=>i) m ([],.slice none 0 0,[]) (k+1,s1) ⟨Nat.le_refl _,.nil .nil,(fun p hp=>by cases hp),by simp,by simp⟩ ⟨rfl,rfl,rfl,trivial⟩ .refl ?_
 rintro i ⟨ps,vp,Sp⟩ ⟨k1,s2⟩ ⟨hi,hO,hck,hlen,hk1⟩
 simp only at hO hck hlen hk1⊢
 obtain⟨va,vc,rfl⟩:=hO.dA
 refine W.seq<|W.seq<|W.region rfl<|qm rfl rfl rfl ?_
 refine agW (rC rfl rfl rfl) rfl ?_
 refine pq ?_
 refine W.bC rfl (fun c11=>?_) (fun c11=>?_)
 ·skip
  refine W.skip<|aA<|W.seq<|W.block<|W.region rfl<|qm rfl rfl rfl<|qm rfl rfl rfl ?_
  refine cg (A:=[(b,_)]) .head (fun h' hE hL=>UC _ h' nums lv b k1 s2 12 (hl.ext hE) (by omega) (by omega)) (fun v A' hv=>?_)
  obtain⟨q,s3,rfl,hq,hsb⟩:=hv
  refine Ops.sb (hsb.app (D:=Sp) .refl) ?_
  refine qm rfl rfl rfl ?_
  refine cg (A:=[(b,_)]) .head (fun h' hE hL=>UD _ h' nums lv b (k1+1) s3 1 9 (hl.ext hE) (by omega) (by omega)) (fun v A' hv=>?_)
  obtain⟨po,s4,rfl,hpo,hsb⟩:=hv
  refine Ops.sb (hsb.app (D:=Sp) .refl) ?_
  refine agW (eH rfl rfl rfl) rfl ?_
  refine Ops.NK (cs:= #[I q,I po]) (fun an4=>?_) rfl
  refine oe rfl wn rfl rfl (iW (row:=Lt.row) (l':=[⟨q,po⟩]) rfl rfl rfl hO (.tail (.tail .all)) (fun h2 _ hl=>Sl.mk (hl an4 _ (.head _)) rfl (Part.all (flat Lt.row [⟨q,po⟩]))) (by simp;omega) (by decide) rfl (fun v' S' Ie=>?_))
  refine agb rfl rfl rfl<|Ops.nil<|dI<|aA<|W.region rfl<|qm rfl rfl rfl ?_
  refine ag5 rfl ?_
  refine agb rfl rfl rfl<|pq ?_
  refine⟨rfl,i-1,(ps++[⟨q,po⟩],v',S'),(k1+2,s4),⟨by omega,Ie,fun x hx=>?_,by simp;omega,by simp only;omega⟩,by omega,⟨lk rfl (show I _=I _ by congr 1;omega),rfl,rfl,trivial⟩,.skip rfl .refl⟩
  rcases List.mem_append.1 hx with hx | hx
  ·exact hck x hx
  ·rw[List.mem_singleton.1 hx]
   have h9:¬outs q 0 12∧¬outs po 1 9:=by unfold outs;omega
   simpa[Ar]using h9
 ·skip
  refine W.exit<|bP<|bP<|gG<|aA<|W.seq<|W.region rfl<|qm rfl rfl rfl<|agb rfl rfl rfl<|Ops.nil ?_
  refine aA<|W.ret ?_
  exact mg (vs:=[_]) ⟨ps,Sp,k1,s2,hO,⟨by omega,hck⟩,by omega,.refl⟩

theorem amY(main:Side)(h:Hp)(nums:List Int)(lv:Value)(b k:Nat)(s:Int)(n:Nat)(hl:Sl h fH lv nums)(hk:k≤100000)(hn:n≤30):dV prog main ami #[bI b,I n] h [(b,wF lv k s)]
  (fun v A=>∃rs Sp k' s',Os dL fH v rs Sp∧(rs.length=n∧∀r∈rs,0≤r∧r≤20)∧k'≤k+100∧Sb ((b,wF lv k' s')::Sp) A):=by
 refine dV.aG amD rfl (by show 2≤23;decide) [(0,bI b),(1,I n)] ⟨rfl,rfl,trivial⟩ ?_
 refine W.seq<|W.region rfl<|agb rfl rfl rfl<|pq<|W.seq<|W.region rfl<|agb rfl rfl rfl<|pq ?_
 refine W.seq<|W.seq<|W.region rfl<|agb rfl rfl rfl<|pq<|W.block ?_
 refine W.Js (σ:=Nat) (τ:=List Int×Value×ah) (υ:=Nat×Int) (fun i t u=>i≤n∧Os dL fH t.2.1 t.1 t.2.2∧(∀p∈t.1,0≤p∧p≤20)∧t.1.length=i∧u.1=k+3*i) (fun i t _=>[(6,I i),(5,t.2.1),(0,bI b),(1,I n)])
  (fun _ t u=>(b,wF lv u.1 u.2)::t.2.2) (fun i _ _=>n-i) 0 ([],.slice none 0 0,[]) (k,s) ⟨Nat.zero_le _,.nil .nil,(fun p hp=>by cases hp),by simp,by simp⟩ ⟨rfl,rfl,rfl,rfl,trivial⟩ .refl ?_
 rintro i ⟨ps,vp,Sp⟩ ⟨k1,s2⟩ ⟨hi,hO,hck,hlen,hk1⟩
 simp only at hO hck hlen hk1⊢
 obtain⟨va,vc,rfl⟩:=hO.dA
 refine W.seq<|W.seq<|W.region rfl<|qm rfl rfl rfl<|qm rfl rfl rfl ?_
 refine agW (fO rfl rfl rfl) rfl ?_
 refine pq ?_
 refine W.bC rfl (fun c9=>?_) (fun c9=>?_)
 ·skip
  refine W.skip<|aA<|W.seq<|W.block<|W.region rfl<|qm rfl rfl rfl<|qm rfl rfl rfl<|qm rfl rfl rfl ?_
  refine cg (A:=[(b,_)]) .head (fun h' hE hL=>UC _ h' nums lv b k1 s2 9 (hl.ext hE) (by omega) (by omega)) (fun v A' hv=>?_)
  obtain⟨q,s3,rfl,hq,hsb⟩:=hv
  refine Ops.sb (hsb.app (D:=Sp) .refl) ?_
  refine qm rfl rfl rfl ?_
  refine cg (A:=[(b,_)]) .head (fun h' hE hL=>UC _ h' nums lv b (k1+1) s3 14 (hl.ext hE) (by omega) (by omega)) (fun v A' hv=>?_)
  obtain⟨q2,s4,rfl,hq2,hsb⟩:=hv
  refine Ops.sb (hsb.app (D:=Sp) .refl) ?_
  refine Ops.NK (cs:= #[I 0,I q,I q2,I 20]) (fun ape=>?_) rfl
  refine cg (A:=[(b,_)]) (.tail .head) (fun h' hE hL=>YM _ h' nums lv b (k1+1+1) s4 [0,q,q2,20] _ (hl.ext hE) (Sl.mk (hL ape _ (.head _)) rfl (Part.all [I 0,I q,I q2,I 20])) (by omega) (by simp) (by simp)) (fun v A' hv=>?_)
  obtain⟨r,s5,rfl,hr,hsb⟩:=hv
  refine Ops.sb (.skip rfl (hsb.app (D:=Sp) .refl)) ?_
  have hr2:0≤r∧r≤20:=by
   simp only[List.mem_cons,List.not_mem_nil,or_false]at hr
   omega
  refine Ops.NK (cs:= #[I r]) (fun an4=>?_) rfl
  refine oe rfl wn rfl rfl (iW (row:=fH) (l':=[r]) rfl rfl rfl hO (.tail (.tail .all)) (fun h2 _ hl=>Sl.mk (hl an4 _ (.head _)) rfl (Part.all [I r])) (by simp;omega) (by decide) rfl (fun v' S' Ie=>?_))
  refine agb rfl rfl rfl<|Ops.nil<|dI<|aA<|W.region rfl<|qm rfl rfl rfl ?_
  refine ag1 rfl ?_
  refine agb rfl rfl rfl<|pq ?_
  refine⟨rfl,i+1,(ps++[r],v',S'),(k1+3,s5),⟨by omega,Ie,fun x hx=>?_,by simp;omega,by simp only;omega⟩,by omega,⟨rfl,rfl,rfl,rfl,trivial⟩,.skip rfl .refl⟩
  rcases List.mem_append.1 hx with hx | hx
  ·exact hck x hx
  ·rw[List.mem_singleton.1 hx];exact hr2
 ·skip
  refine W.exit<|bP<|bP<|gG<|aA<|W.seq<|W.region rfl<|qm rfl rfl rfl<|agb rfl rfl rfl<|Ops.nil ?_
  refine aA<|W.ret ?_
  exact mg (vs:=[_]) ⟨ps,Sp,k1,s2,hO,⟨by omega,hck⟩,by omega,.refl⟩
end Go.aS

/- Pans that fall; copies; things beside each other. Conditions: none; over the given program. -/
namespace Go.aS
set_option maxRecDepth 100000
set_option maxHeartbeats 4000000
theorem MG{α:Type}{l:List α}{i:Nat}{p:α}(h:l[i]? =some p):l.take (i+1)=l.take i++[p]:=by
 rw[List.take_add_one,h];rfl
instance:NS prog Ag:=⟨by kernel_rfl,by kernel_rfl⟩
instance:NS prog XI:=⟨by kernel_rfl,by kernel_rfl⟩
theorem VU(main:Side)(h:Hp)(l l':List Int)(v v':Value)(hl:Sl h fH v l)(hl':Sl h fH v' l')(hn:l.length≤100000):Pu prog main wY #[v,v'] h (.bool (decide (l=l'))):=by
 obtain⟨a,cap,rfl⟩:=hl.dA
 obtain⟨a',cap',rfl⟩:=hl'.dA
 refine dV.aG KA rfl (by show 2≤32;decide) [(0,.slice a l.length cap),(1,.slice a' l'.length cap')] ⟨rfl,rfl,trivial⟩ ?_
 refine W.seq<|W.region rfl<|agb rfl rfl rfl<|pq<|W.seq<|W.seq<|W.region rfl<|agb rfl rfl rfl<|Ops.nil ?_
 refine aA<|W.block ?_
 refine W.loop (σ:=Nat) (fun k=>k≤l.length∧k≤l'.length∧l.take k=l'.take k) (fun k=>[(5,I k),(0,.slice a l.length cap),(1,.slice a' l'.length cap')]) (fun _=>[]) (fun k=>l.length-k) 0 ⟨Nat.zero_le _,Nat.zero_le _,rfl⟩ ⟨rfl,rfl,rfl,trivial⟩ TW ?_
 rintro k ⟨hk,hk',he⟩
 refine W.seq<|W.seq<|W.region rfl<|qm rfl rfl rfl<|qm rfl rfl rfl ?_
 refine agW (dM rfl rfl) rfl ?_
 refine agW (fO rfl rfl rfl) rfl ?_
 refine qm rfl rfl rfl ?_
 refine Ops.ask (fun afD=>?_) (fun afD=>?_)
 ·refine oq (aN rfl rfl) rfl (ak rfl rfl rfl) rfl rfl ?_
  refine oq (aN rfl rfl) rfl (ak rfl rfl rfl) rfl rfl ?_
  refine oq (dM rfl rfl) rfl (ak rfl rfl rfl) rfl rfl ?_
  refine oq (fO rfl rfl rfl) rfl (ak rfl rfl rfl) rfl rfl ?_
  refine agW (dG rfl rfl rfl) rfl ?_
  refine pq ?_
  refine W.bC rfl (fun c15=>?_) (fun c15=>?_)
  ·obtain⟨p,hp,-⟩:=has (show k<l.length by omega)
   obtain⟨q,hq,-⟩:=has (show k<l'.length by omega)
   obtain⟨b,off,c,E,fz,rfl,hb,-,hy1,hz1⟩:=hl.at hp
   have hx2:c[off+k*1+0]? =some (I p):=hz1 0 (by decide)
   clear hz1
   obtain⟨b',off',c',E',fz',rfl,hb',-,hy2,hz1⟩:=hl'.at hq
   have hx3:c'[off'+k*1+0]? =some (I q):=hz1 0 (by decide)
   clear hz1
   refine W.skip<|aA<|W.seq<|W.block<|W.seq ?_
   refine W.rE (n:=9) rfl ?_
   refine xq 0 (aN rfl rfl) rfl ?_
   refine xq 1 (aN rfl rfl) rfl ?_
   first | refine xq 2 (G_ rfl rfl rfl) rfl ?_ | refine xq 2 (o_ rfl rfl rfl) rfl ?_
   refine xq 3 (iQ rfl rfl) rfl ?_
   refine xq 4 (aN rfl rfl) rfl ?_
   refine xq 5 (aN rfl rfl) rfl ?_
   first | refine xq 6 (G_ rfl rfl rfl) rfl ?_ | refine xq 6 (o_ rfl rfl rfl) rfl ?_
   refine xq 7 (iQ rfl rfl) rfl ?_
   refine xq 8 (nG rfl rfl rfl) rfl ?_
   refine az ?_
   refine aA ?_
   refine W.bC rfl (fun c26=>?_) (fun c26=>?_)
   ·refine W.seq<|W.region rfl<|agb rfl rfl rfl<|pq<|W.ret<|cZ<|aY<|aY<|cZ ?_
    refine aY ?_
    refine uZ ?_
    refine congrArg Value.bool (decide_eq_false fun e=>?_).symm
    subst e
    rw[hp]at hq
    cases hq
    exact c26 rfl
   ·refine W.skip<|dI<|aA<|W.region rfl<|qm rfl rfl rfl ?_
    refine ag1 rfl ?_
    refine agb rfl rfl rfl<|pq ?_
    have hpq:p=q:=Decidable.byContradiction c26
    subst hpq
    exact⟨rfl,k+1,⟨by omega,by omega,by rw[MG hp,MG hq,he]⟩,by omega,⟨rfl,rfl,rfl,trivial⟩,TW⟩
  ·refine W.exit<|bP<|bP<|gG<|aA<|W.seq<|W.region rfl<|qm rfl rfl rfl ?_
   refine agW (dM rfl rfl) rfl ?_
   refine qm rfl rfl rfl ?_
   refine agW (dM rfl rfl) rfl ?_
   refine agW (nD rfl rfl rfl) rfl ?_
   refine agb rfl rfl rfl<|pq<|W.ret ?_
   refine uZ ?_
   refine congrArg Value.bool (decide_eq_decide.2 ⟨fun e=>?_,fun e=>?_⟩)
   ·have e':l.length=l'.length:=by omega
    have hkl:k=l.length:=by omega
    rw[←List.take_length (l:=l),←List.take_length (l:=l'),←e',←hkl,he]
   ·rw[e]
 ·refine Ops.no ?_
  refine Ops.no ?_
  refine Ops.no ?_
  refine Ops.no ?_
  refine agW (iH rfl rfl rfl) rfl ?_
  refine pq ?_
  refine W.bZ ?_
  refine W.exit<|bP<|bP<|gG<|aA<|W.seq<|W.region rfl<|qm rfl rfl rfl ?_
  refine agW (dM rfl rfl) rfl ?_
  refine qm rfl rfl rfl ?_
  refine agW (dM rfl rfl) rfl ?_
  refine agW (nD rfl rfl rfl) rfl ?_
  refine agb rfl rfl rfl<|pq<|W.ret ?_
  refine uZ ?_
  refine congrArg Value.bool (decide_eq_decide.2 ⟨fun e=>?_,fun e=>?_⟩)
  ·have e':l.length=l'.length:=by omega
   have hkl:k=l.length:=by omega
   rw[←List.take_length (l:=l),←List.take_length (l:=l'),←e',←hkl,he]
  ·rw[e]

theorem afl(main:Side)(h:Hp)(l:List Int)(v:Value)(q:Int)(hl:Sl h fH v l)(hn:l.length≤100000):dV prog main acD #[v,I q] h [] (fun v A=>∃n:Int,v=I n∧(0≤n↔q∈l)∧Shut A):=by
 obtain⟨a,cap,rfl⟩:=hl.dA
 refine dV.aG aej rfl (by show 2≤19;decide) [(0,.slice a l.length cap),(1,I q)] ⟨rfl,rfl,trivial⟩ ?_
 refine W.seq<|W.region rfl<|agb rfl rfl rfl<|pq<|W.seq<|W.seq<|W.region rfl<|agb rfl rfl rfl<|Ops.nil ?_
 refine aA<|W.block ?_
 refine W.loop (σ:=Nat) (fun k=>k≤l.length∧q∉l.take k) (fun k=>[(5,I k),(0,.slice a l.length cap),(1,I q)]) (fun _=>[]) (fun k=>l.length-k) 0 ⟨Nat.zero_le _,by simp⟩ ⟨rfl,rfl,rfl,trivial⟩ TW ?_
 rintro k ⟨hk,hno⟩
 refine W.seq<|W.seq<|W.region rfl<|qm rfl rfl rfl<|qm rfl rfl rfl ?_
 refine agW (dM rfl rfl) rfl ?_
 refine agW (fO rfl rfl rfl) rfl ?_
 refine pq ?_
 refine W.bC rfl (fun c9=>?_) (fun c9=>?_)
 ·obtain⟨p,hp,-⟩:=has (show k<l.length by omega)
  obtain⟨b,off,c,E,fz,rfl,hb,-,hy1,hz1⟩:=hl.at hp
  have hx2:c[off+k*1+0]? =some (I p):=hz1 0 (by decide)
  clear hz1
  refine W.skip<|aA<|W.seq<|W.block<|W.seq<|W.region rfl<|qm rfl rfl rfl<|qm rfl rfl rfl ?_
  refine ag3 rfl ?_
  refine agX rfl ?_
  refine qm rfl rfl rfl ?_
  refine agW (nD rfl rfl rfl) rfl ?_
  refine pq ?_
  refine W.bC rfl (fun c17=>?_) (fun c17=>?_)
  ·refine W.seq<|W.region rfl<|qm rfl rfl rfl<|agb rfl rfl rfl<|pq<|W.ret<|cZ<|aY<|aY ?_
   refine cZ<|aY ?_
   refine mg (vs:=[I k]) ⟨k,rfl,⟨fun _=>by rw[←c17];exact List.mem_of_getElem? hp,fun _=>by omega⟩,.nil⟩
  ·refine W.skip<|dI<|aA<|W.region rfl<|qm rfl rfl rfl ?_
   refine ag1 rfl ?_
   refine agb rfl rfl rfl<|pq ?_
   refine⟨rfl,k+1,⟨by omega,?_⟩,by omega,⟨rfl,rfl,rfl,trivial⟩,TW⟩
   rw[MG hp]
   intro hm
   rcases List.mem_append.1 hm with hm | hm
   ·exact hno hm
   ·exact c17 (List.mem_singleton.1 hm).symm
 ·obtain rfl:k=l.length:=by omega
  rw[List.take_length]at hno
  refine W.exit<|bP<|bP<|gG<|aA<|W.seq<|W.region rfl<|agb rfl rfl rfl<|pq ?_
  refine W.ret ?_
  exact mg (vs:=[I (-1)]) ⟨-1,rfl,⟨fun h=>by omega,fun h=>absurd h hno⟩,.nil⟩
end Go.aS

/- Pans that fall, out of a hat. Conditions: none; over the given program. -/
namespace Go.aS
set_option maxRecDepth 100000
set_option maxHeartbeats 4000000
end Go.aS

/- What is frozen between two operations. Conditions: none; over any program. -/
namespace Go.aS
/-! ### Frozen between operations -/
theorem Ops.freeze{x:Cx}{ops:Array Oper}{l:List Nat}{Q:Post}{ρ:Env}{ds:List Deferred}{F:ah}{b:Nat}{o:Obj}(ho:opn o=false)(H:∀h',Ext x.h h'→h' b=some o→h'.z b→Ops {x with h:=h'} ops l Q ρ ds F):Ops x ops l Q ρ ds ((b,o)::F):=by
 intro fr k cs Stop tmps hk M h1 h0 h2 h3 h4 h5 hc
 obtain⟨S,e,hl⟩:=h5.freeze ho
 have hb:=(h5.own b o (List.mem_cons_self ..)).2.2
 refine CJ.x9 Stop.2.2 _ _ _ _ hl (H _ e (AY _ _ _) (.inl rfl) fr k cs Stop tmps hk _ h1 h0 h2 h3 h4 S fun ex ρ' ds' F' aZ hk' M' q a1 a2 a3 a4=>hc ex ρ' ds' F' aZ hk' M' q a1 a2 (a3.thaw hb ho) fun c' hm hF=>?_)
 have hne:c'≠b:=by rintro rfl;exact hF o (List.mem_cons_self ..)
 exact a4 c' ⟨hm,hne⟩ fun o' ho'=>hF o' (List.mem_cons_of_mem _ ho')
theorem Ops.JU{x:Cx}{ops:Array Oper}{td:List Nat}{Q:Post}{ρ:Env}{ds:List Deferred}{A F:ah}{α:Type}{row:α→List Value}{w:Nat}[Rw row w]{E:TypeId}{v:Value}{l:List α}(hs:Os E row v l A)
  (H:∀h',Ext x.h h'→Sl h' row v l→Zs h' v→Ops {x with h:=h'} ops td Q ρ ds F):Ops x ops td Q ρ ds (A++F):=by
 rcases hs with⟨rfl,rfl,hsh⟩ | ⟨β,cc,cap,J,rfl,rfl,h1,h2,h3,hsh⟩
 ·exact Ops.sb (Sb.left .refl hsh) (H x.h ⟨fun _ _ q=>q,fun _ q=>q⟩ .nil (fun b off n cap e=>by cases e))
 ·refine Ops.freeze (b:=β) rfl fun h' hE hb hz=>?_
  refine Ops.sb (F':=F) (Sb.left .refl hsh) (H h' hE (.mk hb rfl h3) (fun b off n cap e=>by cases e;exact hz))
end Go.aS

/- The examples of the laws come out as they should. Conditions: none; over the given program. -/
namespace Go.aS
set_option maxRecDepth 100000
set_option maxHeartbeats 4000000
def s3:List Pn:=[⟨8,12,-3⟩,⟨4,9,-3⟩,⟨2,5,2⟩]
def t3:List Pn:=[⟨8,12,-3⟩,⟨4,9,-3⟩]
def l3:List Lt:=[⟨9,5⟩,⟨8,4⟩,⟨4,3⟩]
theorem aaE:ET s3 5=([1,2,2,1,2],0):=by kernel_rfl
theorem aaF:Aq s3 12 [0,0,1]=([9,6,3],0):=by kernel_rfl
theorem J8:nV s3=0∧Oo s3=[1]:=⟨by kernel_rfl,by kernel_rfl⟩
theorem YP:AA s3 l3 [6,6,2]=([0,1,-1],9,0):=by kernel_rfl
theorem UE:qh t3 12=((3,2),0):=by kernel_rfl

theorem YQ(main:Side)(h:Hp):dV prog main Uc #[] h [] (fun v A=>Os Ag Pn.row v s3 A):=by
 refine dV.aG XE rfl (by show 0≤5;decide) [] trivial ?_
 refine W.seq<|W.region rfl<|agb rfl rfl rfl<|pq<|W.seq<|W.region rfl ?_
 refine agW (eH rfl rfl rfl) rfl ?_
 refine agW (eH rfl rfl rfl) rfl ?_
 refine agW (eH rfl rfl rfl) rfl ?_
 refine Ops.NK (cs:= #[I 8,I 12,I (-3),I 4,I 9,I (-3),I 2,I 5,I 2]) (fun wC=>?_) rfl
 refine agb rfl rfl rfl<|pq<|W.ret ?_
 exact mg (vs:=[_]) (.inr ⟨wC,_,3,[],rfl,rfl,rfl,Nat.le_refl _,Part.all (flat Pn.row s3),.nil⟩)
theorem ad1(main:Side)(h:Hp):dV prog main Ud #[] h [] (fun v A=>Os Ag Pn.row v t3 A):=by
 refine dV.aG XG rfl (by show 0≤3;decide) [] trivial ?_
 refine W.seq<|W.region rfl<|agb rfl rfl rfl<|pq<|W.seq<|W.region rfl ?_
 refine c0 (fun h' hE hL=>YQ _ h') (fun v A' hv=>?_)
 rcases hv with⟨h9,-⟩ | ⟨β,c,cp,J,rfl,rfl,hc1,hc2,hpt,hJ⟩
 ·cases h9
 refine agW (Vb (m:=2) rfl rfl rfl (.inl rfl) (Nat.le_trans (by decide) hc2)) rfl ?_
 refine agb rfl rfl rfl<|pq<|W.ret ?_
 refine mg (vs:=[_]) (.inr ⟨β,c,cp,J++[],rfl,rfl,hc1,Nat.le_trans (by decide) hc2,?_,hJ.app .nil⟩)
 obtain⟨pre,post,h1,h2⟩:=hpt
 exact⟨pre,[I 2,I 5,I 2]++post,by rw[h1];rfl,h2⟩
theorem afF(main:Side)(h:Hp):dV prog main Ue #[] h [] (fun v A=>Os XI Lt.row v l3 A):=by
 refine dV.aG XH rfl (by show 0≤5;decide) [] trivial ?_
 refine W.seq<|W.region rfl<|agb rfl rfl rfl<|pq<|W.seq<|W.region rfl ?_
 refine agW (eH rfl rfl rfl) rfl ?_
 refine agW (eH rfl rfl rfl) rfl ?_
 refine agW (eH rfl rfl rfl) rfl ?_
 refine Ops.NK (cs:= #[I 9,I 5,I 8,I 4,I 4,I 3]) (fun wC=>?_) rfl
 refine agb rfl rfl rfl<|pq<|W.ret ?_
 exact mg (vs:=[_]) (.inr ⟨wC,_,3,[],rfl,rfl,rfl,Nat.le_refl _,Part.all (flat Lt.row l3),.nil⟩)
theorem Iw(main:Side)(h:Hp)(l:List Int)(v v':Value)(hl:Sl h fH v l)(hl':Sl h fH v' l)(hn:l.length≤100000):Pu prog main wY #[v,v'] h (.bool true):=by
 have:=VU main h l l v v' hl hl' hn
 simpa using this
end Go.aS

/- The examples all laws ask. Conditions: none; over the given program. -/
namespace Go.aS
set_option maxRecDepth 100000
set_option maxHeartbeats 4000000
theorem VW(main:Side)(h:Hp)(hS:∀S,main.ok S→∃Fin,S=Mo prog Fin)(hmb:main.b=true)(Eg:TypeId)(zg:Nat×Nat)(hg:h 0=some (.cells #[Ur qM] Eg zg)):Pu prog main Ei #[] h (.bool true):=by
 refine dV.aG KD rfl (by show 0≤102;decide) [] trivial ?_
 refine W.seq<|W.region rfl<|agb rfl rfl rfl<|pq<|W.seq<|W.region rfl ?_
 refine c0 (fun h' hE hL=>YQ _ h') (fun v A1 hs=>?_)
 refine Ops.NK (cs:= #[I 0,I 0,I 1]) (fun Ye=>?_) rfl
 refine c0 (fun h' hE hL=>aah _ h' s3 _ 12 [0,0,1] _ _ _ (hs.sl fun b o hb=>hL b o (.tail _ (List.mem_append_left _ hb))) (Sl.mk (hL Ye _ (.head _)) rfl (Part.all [I 0,I 0,I 1])) (hE.1 _ _ hg)) (fun v A2 hv=>?_)
 obtain⟨w1,S1,rfl,h1,hsb⟩:=hv
 rw[aaF]at h1⊢
 refine Ops.sb (F':=S1) (.right hsb (.cons rfl (hs.shut.app .nil))) ?_
 clear hs hsb
 refine qm rfl rfl rfl<|oq (bD rfl rfl rfl) rfl wn rfl rfl<|oq (bD rfl rfl rfl) rfl wn rfl rfl<|agb rfl rfl rfl<|agb rfl rfl rfl<|pq<|W.seq<|W.region rfl ?_
 refine c0 (fun h' hE hL=>YQ _ h') (fun v A1 hs=>?_)
 refine c0 (fun h' hE hL=>aao _ h' s3 _ 5 (hs.sl fun b o hb=>hL b o (List.mem_append_left _ hb))) (fun v A2 hv=>?_)
 obtain⟨w2,S2,rfl,h2,hsb⟩:=hv
 rw[aaE]at h2⊢
 refine Ops.sb (F':=S2++S1) (hsb.app (.left .refl hs.shut)) ?_
 clear hs hsb
 refine qm rfl rfl rfl<|oq (bD rfl rfl rfl) rfl wn rfl rfl<|oq (bD rfl rfl rfl) rfl wn rfl rfl<|agb rfl rfl rfl<|agb rfl rfl rfl<|pq<|W.seq<|W.region rfl ?_
 refine c0 (fun h' hE hL=>ad1 _ h') (fun v A1 hs=>?_)
 refine cp (fun h' hE hL=>J3 _ h' t3 _ 12 (hs.sl fun b o hb=>hL b o (List.mem_append_left _ hb))) ?_
 rw[UE]
 refine Ops.sb (F':=S2++S1) (.left .refl hs.shut) ?_
 clear hs
 refine qm rfl rfl rfl<|oq (bD rfl rfl rfl) rfl wn rfl rfl<|oq (bD rfl rfl rfl) rfl wn rfl rfl<|agb rfl rfl rfl<|agb rfl rfl rfl<|pq<|W.seq<|W.region rfl ?_
 refine c0 (fun h' hE hL=>ad1 _ h') (fun v A1 hs=>?_)
 refine cp (fun h' hE hL=>Yy _ h' t3 _ 12 (hs.sl fun b o hb=>hL b o (List.mem_append_left _ hb))) ?_
 rw[UE]
 refine Ops.sb (F':=S2++S1) (.left .refl hs.shut) ?_
 clear hs
 refine qm rfl rfl rfl<|oq (bD rfl rfl rfl) rfl wn rfl rfl<|oq (bD rfl rfl rfl) rfl wn rfl rfl<|agb rfl rfl rfl<|agb rfl rfl rfl<|pq<|W.seq<|W.region rfl ?_
 refine c0 (fun h' hE hL=>YQ _ h') (fun v A1 hs=>?_)
 refine Ops.JU hs (fun hz hEz hsl hzs=>?_)
 clear hs
 refine c0 (fun h' hE hL=>YB _ h' s3 _ hS hmb (hsl.ext hE) (hzs.ext hE)) (fun v A5 hv=>?_)
 obtain⟨w5,rfl,h5⟩:=hv
 rw[J8.1,if_pos rfl,J8.2]at h5
 rw[J8.1]
 refine qm rfl rfl rfl<|oq (bD rfl rfl rfl) rfl wn rfl rfl<|oq (bD rfl rfl rfl) rfl wn rfl rfl<|agb rfl rfl rfl<|agb rfl rfl rfl<|pq<|W.seq<|W.region rfl ?_
 refine c0 (fun h' hE hL=>YQ _ h') (fun v A1 hs=>?_)
 refine c0 (fun h' hE hL=>afF _ h') (fun v A6 hl=>?_)
 refine Ops.NK (cs:= #[I 6,I 6,I 2]) (fun afG=>?_) rfl
 refine c0 (fun h' hE hL=>YK _ h' s3 l3 [6,6,2] _ _ _ (hs.sl fun b o hb=>hL b o (.tail _ (List.mem_append_right _ (List.mem_append_left _ hb)))) (hl.sl fun b o hb=>hL b o (.tail _ (List.mem_append_left _ hb))) (Sl.mk (hL afG _ (.head _)) rfl (Part.all [I 6,I 6,I 2]))) (fun v A2 hv=>?_)
 obtain⟨w6,S6,rfl,h6,hsb⟩:=hv
 rw[YP]at h6⊢
 refine Ops.sb (F':=S6++(A5++(S2++S1))) (hsb.app (.skip rfl (.left (.left .refl hs.shut) hl.shut))) ?_
 clear hs hl hsb
 simp only at h1 h2 h5 h6⊢
 refine qm rfl rfl rfl<|oq (bD rfl rfl rfl) rfl wn rfl rfl<|oq (bD rfl rfl rfl) rfl wn rfl rfl<|oq (bD rfl rfl rfl) rfl wn rfl rfl<|agb rfl rfl rfl<|agb rfl rfl rfl<|agb rfl rfl rfl<|pq<|W.seq ?_
 refine W.region rfl<|qm rfl rfl rfl ?_
 refine KU (u:=.bool true) (nD rfl rfl rfl) rfl rfl wn rfl rfl ?_
 refine qm rfl rfl rfl ?_
 refine oq (aN rfl rfl) rfl (ak rfl rfl rfl) rfl rfl ?_
 refine KU (u:=.bool true) (nD rfl rfl rfl) rfl rfl (ak rfl rfl rfl) rfl rfl ?_
 refine agW (dG rfl rfl rfl) rfl ?_
 refine qm rfl rfl rfl ?_
 refine oq (aN rfl rfl) rfl (ak rfl rfl rfl) rfl rfl ?_
 refine KU (u:=.bool true) (nD rfl rfl rfl) rfl rfl (ak rfl rfl rfl) rfl rfl ?_
 refine agW (dG rfl rfl rfl) rfl ?_
 refine qm rfl rfl rfl ?_
 refine oq (aN rfl rfl) rfl (ak rfl rfl rfl) rfl rfl ?_
 refine KU (u:=.bool true) (nD rfl rfl rfl) rfl rfl (ak rfl rfl rfl) rfl rfl ?_
 refine agW (dG rfl rfl rfl) rfl ?_
 refine qm rfl rfl rfl ?_
 refine oq (aN rfl rfl) rfl (ak rfl rfl rfl) rfl rfl ?_
 refine KU (u:=.bool true) (nD rfl rfl rfl) rfl rfl (ak rfl rfl rfl) rfl rfl ?_
 refine agW (dG rfl rfl rfl) rfl ?_
 refine qm rfl rfl rfl ?_
 refine oq (aN rfl rfl) rfl (ak rfl rfl rfl) rfl rfl ?_
 refine KU (u:=.bool true) (nD rfl rfl rfl) rfl rfl (ak rfl rfl rfl) rfl rfl ?_
 refine agW (dG rfl rfl rfl) rfl ?_
 refine qm rfl rfl rfl ?_
 refine oq (aN rfl rfl) rfl (ak rfl rfl rfl) rfl rfl ?_
 refine KU (u:=.bool true) (nD rfl rfl rfl) rfl rfl (ak rfl rfl rfl) rfl rfl ?_
 refine agW (dG rfl rfl rfl) rfl ?_
 refine qm rfl rfl rfl ?_
 refine oq (aN rfl rfl) rfl (ak rfl rfl rfl) rfl rfl ?_
 refine KU (u:=.bool true) (nD rfl rfl rfl) rfl rfl (ak rfl rfl rfl) rfl rfl ?_
 refine agW (dG rfl rfl rfl) rfl ?_
 refine qm rfl rfl rfl ?_
 refine oq (aN rfl rfl) rfl (ak rfl rfl rfl) rfl rfl ?_
 refine KU (u:=.bool true) (nD rfl rfl rfl) rfl rfl (ak rfl rfl rfl) rfl rfl ?_
 refine agW (dG rfl rfl rfl) rfl ?_
 refine qm rfl rfl rfl ?_
 refine oq (aN rfl rfl) rfl (ak rfl rfl rfl) rfl rfl ?_
 refine Ops.NK (cs:= #[I 9,I 6,I 3]) (fun ad2=>?_) rfl
 refine cp (u:=.bool true) (fun h' hE hL=>Iw _ h' [9,6,3] _ _ (h1.sl (fun b o hb=>hL b o (.tail _ (List.mem_append_right _ (List.mem_append_right _ (List.mem_append_right _ hb)))))) (Sl.mk (hL ad2 _ (.head _)) rfl (Part.all [I 9,I 6,I 3])) (by simp)) ?_
 refine Ops.sb (.skip rfl .refl) ?_
 refine agW (dG rfl rfl rfl) rfl ?_
 refine qm rfl rfl rfl ?_
 refine oq (aN rfl rfl) rfl (ak rfl rfl rfl) rfl rfl ?_
 refine Ops.NK (cs:= #[I 1,I 2,I 2,I 1,I 2]) (fun ad3=>?_) rfl
 refine cp (u:=.bool true) (fun h' hE hL=>Iw _ h' [1,2,2,1,2] _ _ (h2.2 _ (fun b o hb=>hL b o (.tail _ (List.mem_append_right _ (List.mem_append_right _ (List.mem_append_left _ hb)))))) (Sl.mk (hL ad3 _ (.head _)) rfl (Part.all [I 1,I 2,I 2,I 1,I 2])) (by simp)) ?_
 refine Ops.sb (.skip rfl .refl) ?_
 refine agW (dG rfl rfl rfl) rfl ?_
 refine qm rfl rfl rfl ?_
 refine oq (aN rfl rfl) rfl (ak rfl rfl rfl) rfl rfl ?_
 refine Ops.NK (cs:= #[I 1]) (fun ad4=>?_) rfl
 refine cp (u:=.bool true) (fun h' hE hL=>Iw _ h' [1] _ _ (h5.sl (fun b o hb=>hL b o (.tail _ (List.mem_append_right _ (List.mem_append_left _ hb))))) (Sl.mk (hL ad4 _ (.head _)) rfl (Part.all [I 1])) (by simp)) ?_
 refine Ops.sb (.skip rfl .refl) ?_
 refine agW (dG rfl rfl rfl) rfl ?_
 refine qm rfl rfl rfl ?_
 refine oq (aN rfl rfl) rfl (ak rfl rfl rfl) rfl rfl ?_
 refine Ops.NK (cs:= #[I 0,I 1,I (-1)]) (fun ad5=>?_) rfl
 refine cp (u:=.bool true) (fun h' hE hL=>Iw _ h' [0,1,-1] _ _ (h6.sl (fun b o hb=>hL b o (.tail _ (List.mem_append_left _ hb)))) (Sl.mk (hL ad5 _ (.head _)) rfl (Part.all [I 0,I 1,I (-1)])) (by simp)) ?_
 refine Ops.sb (.skip rfl .refl) ?_
 refine agW (dG rfl rfl rfl) rfl ?_
 refine agb rfl rfl rfl<|pq<|W.ret ?_
 exact uZ rfl (hs:=h6.shut.app (h5.shut.app (h2.1.app h1.shut)))
end Go.aS

/- From a law's body to the run of the machine, and to what is claimed of it. Conditions: none; over any program. -/
namespace Go.aS
def QE(P:Program)(main:Side)(f:FuncId)(args:Array Value)(h:Hp)(u:Value):Prop:=
 ∃(fn:Func) (c:Code) (ρ:Env),P.funcs[f]? =some fn∧fn.body=some c∧args.size≤fn.ntmps∧G9 ρ args∧W ⟨P,main,f,fn.ntmps,none,h⟩ c (fun e ρ ds F=>ds=[]∧Shut F∧leave P main fn h (fun v _=>v=u) e ρ [] F) ρ [] []

section
variable{P:Program}{main:Side}{h:Hp}
theorem QE.aG{f:FuncId}{fn:Func}{c:Code}{args:Array Value}{u:Value}(hf:P.funcs[f]? =some fn)(hb:fn.body=some c)(ha:args.size≤fn.ntmps)(ρ:Env)(hρ:G9 ρ args)
  (H:W ⟨P,main,f,fn.ntmps,none,h⟩ c (fun e ρ ds F=>ds=[]∧Shut F∧leave P main fn h (fun v _=>v=u) e ρ [] F) ρ [] []):QE P main f args h u:=⟨fn,c,ρ,hf,hb,ha,hρ,H⟩
variable{fn:Func}{e:Exit}{ρ:Env}{F:ah}
theorem lvq{u:Value}{vs:List Value}(hu:pack vs=u)(he:e= .ret∨e= .normal:=by first | exact .inl rfl | exact .inr rfl)(hv:RI ρ fn.results.toList=some vs:=by rfl)(hs:Shut F:=by repeat(first | exact Shut.nil | assumption | refine Shut.cons rfl ?_ | refine Shut.app ?_ ?_)):([]:List Deferred)=[]∧Shut F∧leave P main fn h (fun v _=>v=u) e ρ [] F:=
 ⟨rfl,hs,mg hu he hv⟩
end
theorem QE.run{P:Program}{f:FuncId}{args:Array Value}{W:World}{u:Value}(hi:P.inits.idxOf? f=none)(T:QE P (GI P (tZ P fun v _=>v=u)) f args (atStart W) u):
  ∃M last o w' t',runNT P (M+1) (Conc.solo (Conc.G (Frame.enter P f args .normal) []) W) #[]=(.ended o w',t')∧runN P M (Conc.solo (Conc.G (Frame.enter P f args .normal) []) W)= .next last∧Go.step P last= .ended o w'∧Conc.Good P (fun v w'=>v=u∧Kept W w') last o w' t':=by
 obtain⟨fn,c,ρ,h1,h2,h3,h4,h5⟩:=T
 exact Mo.run (Mo.top (R:=fun v=>v=u) h1 h2 hi h3 ρ h4 PD (fun b o hb=>(ku.1 hb).2) (fun v w hv _=>hv) h5)

theorem Kept.below{w w':World}(h:Kept w w'):Go.RowKit.Below w.heap.size w {w' with os:=w.os}:=⟨rfl,h.tape,h.output,h.size,h.block⟩

theorem Gl(l:List Int):flat fH l=l.map fun n=>.int .i64 n:=by
 induction l with
 | nil=>rfl
 | cons a l ih=>rw[iV,ih];rfl
theorem Part.ace{c:Array Value}{off:Nat}{xs:List Value}(h:∀j,j<xs.length→c[off+j]? =xs[j]?)(hne:xs≠[]):Part c off xs:=by
 have hlen:off+xs.length≤c.size:=by
  have hpos:0<xs.length:=List.length_pos_iff.2 hne
  have:=h (xs.length-1) (by omega)
  rw[List.getElem?_eq_getElem (by omega)]at this
  rcases Nat.lt_or_ge (off+(xs.length-1)) c.size with h' | h'
  ·omega
  ·rw[Array.getElem?_eq_none h']at this;cases this
 refine⟨c.toList.take off,c.toList.drop (off+xs.length),?_,by simp;omega⟩
 apply List.ext_getElem?
 intro i
 have hsz:c.toList.length=c.size:=by simp
 rcases Nat.lt_or_ge i off with h1 | h1
 ·rw[List.getElem?_append_left (by simp;omega),List.getElem?_take,if_pos h1]
 ·rw[List.getElem?_append_right (by simp;omega)]
  have e1:(c.toList.take off).length=off:=by simp;omega
  rw[e1]
  rcases Nat.lt_or_ge (i-off) xs.length with h2 | h2
  ·rw[List.getElem?_append_left h2,←h _ h2]
   simp only[Array.getElem?_toList]
   congr 1;omega
  ·rw[List.getElem?_append_right h2,List.getElem?_drop]
   congr 1;omega
theorem Sl.atStart{W:World}{a:Addr}{n cap:Nat}{zs:List Int}(hz:n≤zs.length)(h:∀i,i<zs.length→W.cell? (a.add i)=some (.int .i64 (zs.getD i 0))):Sl (atStart W) fH (.slice (some a) n cap) (zs.take n):=by
 refine⟨some a,cap,by rw[List.length_take,Nat.min_eq_left hz],fun hne=>?_⟩
 have hpos:0<n:=by
  rcases Nat.eq_zero_or_pos n with h' | h'
  ·subst h';simp at hne
  ·exact h'
 obtain⟨b,off,spot⟩:=a
 have hsp:spot=none:=by
  have:=h 0 (by omega)
  cases hs:spot with
  | none=>rfl
  | some s=>
   subst hs
   exfalso
   simp only[World.cell?,Addr.add,if_true]at this
   split at this
   ·simp at this
   ·cases this
 subst hsp
 have cell:∀i,i<zs.length→∃c E fz,W.heap[b]? =some (.cells c E fz)∧c[off+i]? =some (.int .i64 (zs.getD i 0)):=fun i hi=>by
  have:=h i hi
  rw[show(⟨b,off,none⟩:Addr).add i=⟨b,off+i,none⟩ by unfold Addr.add;split <;>simp[*]]at this
  simp only[World.cell?]at this
  split at this
  ·rename_i c E fz hb
   exact⟨c,E,fz,hb,by simpa using this⟩
  ·cases this
 obtain⟨c,E,fz,hb,h0⟩:=cell 0 (by omega)
 refine⟨b,off,c,E,fz,rfl,ku.2 ⟨hb,rfl⟩,Part.ace (fun j hj=>?_) ?_⟩
 ·rw[Gl,List.length_map,List.length_take]at hj
  obtain⟨c',E',fz',hb',hj'⟩:=cell j (by omega)
  rw[hb]at hb'
  cases hb'
  rw[hj',Gl,List.getElem?_map,List.getElem?_take,if_pos (by omega),List.getElem?_eq_getElem (by omega)]
  simp[List.getD,List.getElem?_eq_getElem (show j<zs.length by omega)]
 ·rw[Gl]
  intro e
  exact hne (List.map_eq_nil_iff.1 e)
end Go.aS

/- From a law that answers true to its card, time passing meanwhile: the parts that all laws of this seat share. Conditions: as the cards say; over the given program. -/
namespace Go.aS
open Go.Proofs.YtkkdgffaohidnaaGreatDoor
set_option maxRecDepth 100000
set_option maxHeartbeats 4000000
theorem afH:ownKnob prog.godebug=none:=by kernel_rfl
theorem YR:laidOutB prog=true:=by kernel_rfl
theorem et0:prog.globalNamed "errors.errorType" =some 0:=by kernel_rfl
abbrev acf:String:=match(Rows.laid_errors_errorType:DataW Unit)with
 | .iface s _=>s
 | _=> ""
theorem rt0:(prog.cutTypes.find? (·.1==acf)).map (·.2)=some qI:=by kernel_rfl
theorem ad6:prog.types.size=270:=by kernel_rfl
theorem aaG:((List.range 270).filter fun t=>prog.rowNamed t [101,114,114,111,114])=[qM]:=by kernel_rfl
theorem EX:prog.underlying nS=some (.slice dL):=by kernel_rfl
theorem VX:prog.underlying dL=some (.int .i64):=by kernel_rfl
theorem SS:prog.underlying RS=some .bool:=by kernel_rfl
theorem VY:prog.cellsOf dL=1:=by kernel_rfl

abbrev J9:List (String×DataW Unit):=[("errors.errorType",Rows.laid_errors_errorType)]
theorem aaH{W:World}(h:laidMetH prog J9 W):∃E z,W.heap[0]? =some (.cells #[Ur qM] E z):=by
 have h':laidMet prog [] W∧handlesMet prog J9 W:=h
 obtain⟨name,u,ty,e1,e2,e3,e4,e5⟩:=h'.2 _ (List.mem_singleton.2 rfl)
 have en:name=[101,114,114,111,114]:=(Option.some.inj e1).symm
 subst en
 obtain rfl:=Option.some.inj (rt0.symm.trans e2)
 have hm:ty∈(List.range 270).filter fun t=>prog.rowNamed t [101,114,114,111,114]:=List.mem_filter.2 ⟨List.mem_range.2 (by rw[←ad6];exact e3),e4⟩
 rw[aaG]at hm
 obtain rfl:=List.mem_singleton.1 hm
 simp only[World.var?]at e5
 rw[et0,Option.bind_some]at e5
 split at e5
 ·rename_i cs E z hb
  obtain rfl:=Option.some.inj e5
  exact⟨E,z,hb⟩
 ·cases e5

noncomputable def laidWorld(os:Go.Os):World:=
 let w0:=World.holding prog os ⟨#[], #[],[]⟩
 {w0 with heap:=w0.heap.modify 0 fun
   | .cells _ t frozen=>.cells #[Ur qM] t frozen
   | o=>o}
theorem laidWorld_met(os:Go.Os)(args:Array Value):laidMetH prog J9 ((laidWorld os).forCall (fun _ _=>0) ⟨#[],args,[]⟩).memory:=
 laidMetH_of_parts (laidMet_nil _ _) (by kernel_rfl)

theorem Ld{P:Program}{l:List (String×DataW Unit)}{w w':World}(hh:w.heap=w'.heap)(h:laidMetH P l w):laidMetH P l w':=h.of_heap hh

theorem OB{H:Type}{enc:TypeId×Value→H}{C:Checked}{os:Go.Os}{f:FuncId}{fn:Func}{s:ChangeSpec}{conds:List PathCond}{apart:Bool}{X:World→Array Value→Prop}(w0:World)(args:Array Value)(fuel:Nat)(hos:w0.os=os)
  (hv:(w0.forCall (fun _ _=>0) ⟨#[],args,[]⟩).variablesB C.prog=true)
  (
   hr:((w0.forCall (fun _ _=>0) ⟨#[],args,[]⟩).heap.toList.drop C.prog.globals.size).take ((begin C.prog (fun _ _=>0) default).world.heap.size-C.prog.globals.size)=
   (begin C.prog (fun _ _=>0) default).world.heap.toList.drop C.prog.globals.size)
  (hok:Input.okWideB C.prog (w0.forCall (fun _ _=>0) ⟨#[],args,[]⟩) f ⟨#[],args,[]⟩=true)
  (hpre:s.preB enc C.prog fn conds apart (w0.forCall (fun _ _=>0) ⟨#[],args,[]⟩).memory args fuel=true)
  (hsz:s.sizedB enc C.prog fn apart (w0.forCall (fun _ _=>0) ⟨#[],args,[]⟩).memory args fuel=true)
  (hx:X (w0.forCall (fun _ _=>0) ⟨#[],args,[]⟩).memory args):
  ∃(w:World) (tape:Tape) (i:Input),w.os=os∧(w.forCall tape i).Shaped C.prog∧i.vars=[]∧Input.okWide C.prog (w.forCall tape i) .any w.heap.size f i∧
   ((s.pre enc C.prog fn conds apart (w.forCall tape i).memory i.args∧X (w.forCall tape i).memory i.args)∧sizedMet enc C.prog fn (OpenSpec.ofChange s) apart (w.forCall tape i).memory i.args)∧({calm:=true}:Assume).holds C.prog (lone (Frame.enter C.prog f i.args .normal) [] (w.forCall tape i)):=
 ⟨w0,fun _ _=>0,⟨#[],args,[]⟩,hos,World.shaped_of_B hv hr,(Input.okWide_of_okWideB (base:=0) hok).1,(Input.okWide_of_okWideB hok).2,⟨⟨ChangeSpec.pre_of_preB hpre,hx⟩,sizedMet_of_sizedB hsz⟩,by
  simp only[Assume.holds]
  exact⟨by simp,fun _ _ _ _=>rfl,by simp,by simp,by simp⟩⟩

section
open Go.ChangeShapes Go.WideShapes Go.RowKit
theorem ad7{s:ChangeSpec}{f:FuncId}{fn:Func}(os:Go.Os)(started:os.Started)(H:Type)(enc:TypeId×Value→H)(hfn:prog.funcs[f]? =some fn)(hinit:prog.inits.idxOf? f=none)(hp:fn.params.toList=[nS])(hpa:fn.params= #[nS])(hr:fn.resultTypes.toList=[RS])(hrs:fn.resultTypes.size=1)(hv:s.vars=[])
  (hs:∀d,s.fn H [d]={results:=[.lit (.bool true)],args:=[d]})
  (
   witness:∃(w:World) (tape:Tape) (i:Input),w.os=os∧(w.forCall tape i).Shaped prog∧i.vars=[]∧Input.okWide prog (w.forCall tape i) .any w.heap.size f i∧
   ((s.pre enc prog fn [] false (w.forCall tape i).memory i.args∧laidMetH prog J9 (w.forCall tape i).memory)∧sizedMet enc prog fn (OpenSpec.ofChange s) false (w.forCall tape i).memory i.args)∧({calm:=true}:Assume).holds prog (lone (Frame.enter prog f i.args .normal) [] (w.forCall tape i)))
  (T:∀(main:Side) (_:∀S,main.ok S→∃Fin,S=Mo prog Fin) (_:main.b=true) (h:Hp) (nums:List Int) (lv:Value) (Eg:TypeId) (zg:Nat×Nat) (_:Sl h fH lv nums) (_:h 0=some (.cells #[Ur qM] Eg zg)) (_:h.z 0),QE prog main f #[lv] h (.bool true))
  (F:Stop.Interp):ReturnsInLeavingWide {calm:=true} Go.Proofs.Tryz.checked os f .any (fun w args=>(s.pre enc prog fn [] false w args∧laidMetH prog J9 w)∧sizedMet enc prog fn (OpenSpec.ofChange s) false w args) ((OpenSpec.ofChange s).postWith enc prog fn F (outsideKept [.timePasses]) false true false):=by
 refine returnsInLeavingWide_of_good (C:=Go.Proofs.Tryz.checked) afH started witness ?_
 intro w tape i _ _ _ hok hpre _
 obtain⟨_,_,_,fn',hfn',_,_,_,_,hval0⟩:=hok
 have e:fn'=fn:=Option.some.inj (hfn'.symm.trans hfn)
 subst e
 obtain⟨⟨⟨ds,gs,before,hw,-⟩,hx⟩,-⟩:=hpre
 have hW:=DataW.Whole.of_heap (w':=w.forCall tape i) (by rfl) hw
 have hL:laidMetH prog J9 (w.forCall tape i):=Ld (by rfl) hx
 generalize w.forCall tape i=W at*
 have hval:∀(j:Nat) t v,fn'.params[j]? =some t→i.args[j]? =some v→Value.okWide prog W .any w.heap.size t v:=hval0
 have hW':=hW
 obtain⟨p,q,hA0,hV,rfl,_,_⟩:=hW
 have hA:DataW.TrodAll enc prog W 0 (fun _=>true) true fn'.params.toList i.args.toList ds p:=hA0
 rw[hp]at hA
 rw[hpa]at hval
 obtain⟨v0,d0,ha,rfl,h0⟩:=trodAll_one hA
 have hargs:i.args= #[v0]:=by simpa using ha
 rw[hargs]at hval hW'⊢
 rw[hv]at hV
 obtain⟨rfl,rfl⟩:=trodVars_none hV
 simp only[List.append_nil]at hW'
 have hlt:∀x∈p,x.block<W.heap.size:=fun x hx=>by simpa using hW'.lt x hx
 obtain⟨a0,len,cap,rfl⟩:=okWide_slice EX (hval 0 nS v0 rfl rfl)
 obtain⟨E,z,hg⟩:=aaH hL
 have hsl:∃nums,Sl (atStart W) fH (.slice a0 len cap) nums:=by
  obtain⟨fuel,hf⟩:=h0
  rcases open_ints EX VX VY hf with⟨hcs,_⟩ | ⟨a,len',cap',zs,hcs,_,hl,hm,hz,_,hcell,_⟩
  ·simp[Value.cells]at hcs
   obtain⟨rfl,rfl,rfl⟩:=hcs
   exact⟨[],.nil⟩
  ·simp[Value.cells]at hcs
   obtain⟨rfl,rfl,rfl⟩:=hcs
   simp only[if_true]at hz
   exact⟨zs.take len,Sl.atStart (by omega) hcell⟩
 obtain⟨nums,hsl⟩:=hsl
 have hgs:atStart W 0=some (.cells #[Ur qM] E z):=ku.2 ⟨hg,rfl⟩
 obtain⟨M,last,o,w',t',h1,h2,h3,h4⟩:=QE.run hinit (T (GI prog (tZ prog fun v _=>v= .bool true)) (fun S h=>⟨_,h⟩) rfl (atStart W) nums _ E z hsl hgs ⟨_,hg,rfl⟩)
 refine⟨M,last,o,w',t',h1,h2,h3,h4.mono fun v hF=>?_⟩
 obtain⟨rfl,hk⟩:=hF
 have hb:=hk.below
 refine postWith_blind (postWith_of_post ⟨[d0],[],p,[],p,[],hW',?_,?_,?_,hb.frame _,fun h=>by cases h⟩ hk.os)
 ·have hrl:Value.resultList fn'.resultTypes.size (.bool true)=[.bool true]:=by rw[hrs];rfl
  rw[List.append_nil,hs,hrl,hr];exact trodAll_mk1 (shut_bool SS true)
 ·rw[List.append_nil,hs,hp]
  exact trodAll_mk1 (Below.trod YR (by kernel_rfl) (of_decide_eq_true (by kernel_rfl)) h0 hb hlt)
 ·rw[List.append_nil,hs,hv];rfl
end
theorem VZ(Lk:Looks){p:Pinned}{s:OpenSpec}{c:OpenClaim}(al:List (List PathCond))(kinds:List LaidKind)(tests:Bool)(har:Bool×String)(lk:Bool)
  (hc:c.holds p s) (hal:∀D∈al,(c.withDomain D).holds p s) (hw:c.wfByText s=true) (hwal:∀D∈al,(c.withDomain D).wfByText s=true)
  (htie:c.laidByTextAt Lk p kinds tests)
  (hst:c.start= .entering) (hnb:c.noBlocks=false∧c.again=false) (hm:p.checked.prog.mainIs=some (har.1,har.2.toList)) (hn:(!har.1&&har.2.isEmpty&& !lk)=false)
  (hl:∀f fn,p.checked.prog.funcNamed c.func=some f→p.checked.prog.funcs[f]? =some fn→lk=p.checked.prog.looks []∧∀(j:Nat) t,fn.params[j]? =some t→p.checked.prog.wantsStandIn t=false)
  (hg:true=c.goesBy p.checked.prog):
  Claim7.holds p (.plain s) {stood:={row:=c,standIns:=[],harness:=har,looks:=lk},kinds:=[],alts:=al,goes:=true,laidByText:=true,laidKinds:=kinds,laidTests:=tests,laidLooks:=Lk}:=by
 have h6:∀r:OpenClaim,Claim7.isSixth {stood:={row:=r,standIns:=[],harness:=har,looks:=lk},kinds:=[]}=false:=fun r=>by simpa[Claim7.isSixth]using hn
 refine⟨Claim7.tied_new_at Lk kinds tests (Claim7.new_of_sixth hc har lk hst hnb hm (h6 c) hl) hw,fun D hD=>?_,htie,(fun h=>by cases h),hg⟩
 exact Claim7.tied_new_at Lk kinds tests (Claim7.new_of_sixth (hal D hD) har lk hst hnb hm (h6 _) hl) (hwal D hD)

end Go.aS

/- What the program's head says, found sign by sign. Conditions: none; over the given program. -/
namespace Go.aS
open Go
set_option maxRecDepth 100000
set_option maxHeartbeats 4000000
def uX:List Char:=['h','a','r','n','e','s','s',' ','d','b','c','2','9','b','b','b','9','7','2','7','f','b','e','b','a','f','7','4','2','9','f','7','2','6','6','f','9','d','8','2','b','5','a','0','2','e','c','0','9','6','9','2','1','0','b','7','2','4','e','1','e','d','2','d','a','c','6','6','c','c','8','d',' ','c','u','t',' ','a','t',' ','m','u','s','c','o','v','a','d','o','/','m','u','s','c','o','v','a','d','o','l','a','w','0','3','.','S','y','r','u','p','R','i','n','g',' ','m','u','s','c','o','v','a','d','o','/','m','u','s','c','o','v','a','d','o','l','a','w','0','3','.','S','y','r','u','p','L','o','n','g','e','s','t',' ','m','u','s','c','o','v','a','d','o','/','m','u','s','c','o','v','a','d','o','l','a','w','0','3','.','S','y','r','u','p','B','o','i','l','s',' ','m','u','s','c','o','v','a','d','o','/','m','u','s','c','o','v','a','d','o','l','a','w','0','3','.','S','y','r','u','p','B','o','i','l','e','d',' ','m','u','s','c','o','v','a','d','o','/','m','u','s','c','o','v','a','d','o','l','a','w','0','3','.','S','y','r','u','p','R','i','n','g','s',' ','m','u','s','c','o','v','a','d','o','/','m','u','s','c','o','v','a','d','o','l','a','w','0','3','.','S','y','r','u','p','E','v','e','r',' ','m','u','s','c','o','v','a','d','o','/','m','u','s','c','o','v','a','d','o','l','a','w','0','3','.','S','y','r','u','p','C','l','o','s','e','d',' ','m','u','s','c','o','v','a','d','o','/','m','u','s','c','o','v','a','d','o','l','a','w','0','3','.','S','y','r','u','p','M','o','r','e',' ','m','u','s','c','o','v','a','d','o','/','m','u','s','c','o','v','a','d','o','l','a','w','0','3','.','S','y','r','u','p','E','n','d',' ','m','u','s','c','o','v','a','d','o','/','m','u','s','c','o','v','a','d','o','l','a','w','0','3','.','S','y','r','u','p','M','i','r','r','o','r',' ','m','u','s','c','o','v','a','d','o','/','m','u','s','c','o','v','a','d','o','l','a','w','0','3','.','S','y','r','u','p','S','h','a','r','e','d',' ','m','u','s','c','o','v','a','d','o','/','m','u','s','c','o','v','a','d','o','l','a','w','0','3','.','S','y','r','u','p','C','o','u','n','t','s',' ','m','u','s','c','o','v','a','d','o','/','m','u','s','c','o','v','a','d','o','l','a','w','0','3','.','S','y','r','u','p','E','n','d','s',' ','m','u','s','c','o','v','a','d','o','/','m','u','s','c','o','v','a','d','o','l','a','w','0','3','.','S','y','r','u','p','S','h','o','r','t','e','s','t',' ','m','u','s','c','o','v','a','d','o','/','m','u','s','c','o','v','a','d','o','l','a','w','0','3','.','S','y','r','u','p','F','o','r','c','e','d',' ','m','u','s','c','o','v','a','d','o','/','m','u','s','c','o','v','a','d','o','l','a','w','0','3','.','S','y','r','u','p','N','u','m','b','e','r','e','d',' ','m','u','s','c','o','v','a','d','o','/','m','u','s','c','o','v','a','d','o','l','a','w','0','3','.','S','y','r','u','p','R','o','o','m',' ','m','u','s','c','o','v','a','d','o','/','m','u','s','c','o','v','a','d','o','l','a','w','0','3','.','S','y','r','u','p','S','h','a','r','e','s',' ','m','u','s','c','o','v','a','d','o','/','m','u','s','c','o','v','a','d','o','l','a','w','0','3','.','S','y','r','u','p','K','n','o','w','n']
theorem ad8:prog.initOrder=String.ofList uX:=by kernel_rfl
theorem UF:prog.initOrder.toList=uX:=by rw[ad8,String.toList_ofList]
theorem YS{P:Program}(h1:P.initOrder.toList=uX):P.mainIs=some (true, "dbc29bbb9727fbebaf7429f7266f9d82b5a02ec0969210b724e1ed2dac66cc8d".toList):=by unfold Program.mainIs;rw[h1];kernel_rfl
theorem acg{P:Program}(h1:P.initOrder.toList=uX):P.make=some .cut:=by unfold Program.make;rw[h1];kernel_rfl
theorem QF{P:Program}(h1:P.initOrder.toList=uX):P.headLifts=[]:=by unfold Program.headLifts;rw[h1];kernel_rfl
theorem OC{P:Program}(h1:P.initOrder.toList=uX):P.liftsFinal=false:=by unfold Program.liftsFinal;rw[QF h1,h1];kernel_rfl
theorem SV{P:Program}(h1:P.initOrder.toList=uX)(h2:P.laysLater=false)(h3:P.bearsReflect=false)(h4:P.doorFits []=true):P.mayEnter=true:=by
 unfold Program.mayEnter
 rw[h1,h2,h3]
 have e:(stripLifts liftWords ("cut".toList::(wordsSigns uX).drop 3)).1=[]:=by kernel_rfl
 have e2:behindMainWord (wordsSigns uX)= "cut".toList::(wordsSigns uX).drop 3:=by kernel_rfl
 rw[e2]
 dsimp only
 rw[e,h4]
 show _=true
 kernel_rfl
theorem ad9:prog.mainIs=some (true, "dbc29bbb9727fbebaf7429f7266f9d82b5a02ec0969210b724e1ed2dac66cc8d".toList):=YS UF
theorem ad_:prog.laysLater=false:=by kernel_rfl
theorem ach:prog.bearsReflect=false:=by kernel_rfl
theorem aea:prog.doorFits []=true:=by kernel_rfl
theorem aci:prog.mayEnter=true:=SV UF ad_ ach aea
theorem makeT{m:Option Make}(h:(some Make.cut==m)=true):(prog.make==m)=true:=by rw[acg UF];exact h
theorem aeb{b:Bool}(h:(b==false)=true):(b==prog.liftsFinal)=true:=by rw[OC UF];exact h
end Go.aS
