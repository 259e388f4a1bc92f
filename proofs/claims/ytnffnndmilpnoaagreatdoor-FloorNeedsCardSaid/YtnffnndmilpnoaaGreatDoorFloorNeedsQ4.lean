/- The document's answers of layer 5: what is wrong, when cones are done, days of doubt. Conditions: none; over the given program. (And 2 texts more.) -/
import Derived.Test.YtnffnndmilpnoaaGreatDoorFloorNeedsQ3
import Derived.Test.YtnffnndmilpnoaaGreatDoorFloorNeedsQ2
set_option linter.unusedVariables false
set_option linter.unusedSimpArgs false
set_option linter.unusedSectionVars false

/- The document's answers of layer 5: what is wrong, when cones are done, days of doubt. Conditions: none; over the given program. -/
namespace Go.Mus
set_option maxRecDepth 100000
set_option maxHeartbeats 40000000
def SetS (l : List Be) (k : Nat) (f a b : Int) (c : Bool) : Prop :=
 (c = false ∧ ∀ i, i < k → (beAt l i).fl ≠ f) ∨ (c = true ∧ (∃ i, i < k ∧ (beAt l i).fl = f ∧ (beAt l i).day = a) ∧ (∃ i, i < k ∧ (beAt l i).fl = f ∧ (beAt l i).day = b) ∧ ∀ i, i < k → (beAt l i).fl = f → a ≤ (beAt l i).day ∧ (beAt l i).day ≤ b)
theorem SetS.skip {l : List Be} {k : Nat} {f a b : Int} {c : Bool} (h : SetS l k f a b c) (hk : (beAt l k).fl ≠ f) : SetS l (k + 1) f a b c := by
 rcases h with ⟨h1, h2⟩ | ⟨h1, ⟨i, hi, h2⟩, ⟨j, hj, h3⟩, h4⟩
 ·refine .inl ⟨h1, fun i hi => ?_⟩
  rcases (by omega : i < k ∨ i = k) with h | rfl
  ·exact h2 i h
  ·exact hk
 ·refine .inr ⟨h1, ⟨i, by omega, h2⟩, ⟨j, by omega, h3⟩, fun x hx hxf => ?_⟩
  rcases (by omega : x < k ∨ x = k) with h | rfl
  ·exact h4 x h hxf
  ·exact absurd hxf hk
theorem SetS.next {l : List Be} {k : Nat} {f a b : Int} {c : Bool} (h : SetS l k f a b c) (hk : (beAt l k).fl = f) (a' b' : Int) (ha : (c = false ∨ (beAt l k).day < a) ∧ a' = (beAt l k).day ∨ (c = true ∧ a ≤ (beAt l k).day) ∧ a' = a) (hb : (c = false ∨ b < (beAt l k).day) ∧ b' = (beAt l k).day ∨ (c = true ∧ (beAt l k).day ≤ b) ∧ b' = b) : SetS l (k + 1) f a' b' true := by
 rcases h with ⟨rfl, h2⟩ | ⟨rfl, ⟨i, hi, h2⟩, ⟨j, hj, h3⟩, h4⟩
 ·have e1 : a' = (beAt l k).day := by rcases ha with h | h; exact h.2; exact absurd h.1.1 (by decide)
  have e2 : b' = (beAt l k).day := by rcases hb with h | h; exact h.2; exact absurd h.1.1 (by decide)
  subst e1 e2
  refine .inr ⟨rfl, ⟨k, by omega, hk, rfl⟩, ⟨k, by omega, hk, rfl⟩, fun x hx hxf => ?_⟩
  rcases (by omega : x < k ∨ x = k) with h | rfl
  ·exact absurd hxf (h2 x h)
  ·exact ⟨Int.le_refl _, Int.le_refl _⟩
 ·have ha' : (beAt l k).day < a ∧ a' = (beAt l k).day ∨ a ≤ (beAt l k).day ∧ a' = a := by
   rcases ha with ⟨h | h, e⟩ | ⟨⟨-, h⟩, e⟩
   ·cases h
   ·exact .inl ⟨h, e⟩
   ·exact .inr ⟨h, e⟩
  have hb' : b < (beAt l k).day ∧ b' = (beAt l k).day ∨ (beAt l k).day ≤ b ∧ b' = b := by
   rcases hb with ⟨h | h, e⟩ | ⟨⟨-, h⟩, e⟩
   ·cases h
   ·exact .inl ⟨h, e⟩
   ·exact .inr ⟨h, e⟩
  refine .inr ⟨rfl, ?_, ?_, fun x hx hxf => ?_⟩
  ·rcases ha' with ⟨-, rfl⟩ | ⟨-, rfl⟩
   ·exact ⟨k, by omega, hk, rfl⟩
   ·exact ⟨i, by omega, h2⟩
  ·rcases hb' with ⟨-, rfl⟩ | ⟨-, rfl⟩
   ·exact ⟨k, by omega, hk, rfl⟩
   ·exact ⟨j, by omega, h3⟩
  ·rcases (by omega : x < k ∨ x = k) with h | rfl
   ·have := h4 x h hxf; omega
   ·omega
theorem SetS.btw {l : List Be} {f a b d : Int} {c : Bool} (h : SetS l l.length f a b c) : Btw l f d ↔ c = true ∧ a < d ∧ d < b := by
 rcases h with ⟨rfl, h2⟩ | ⟨rfl, ⟨i, hi, h2, rfl⟩, ⟨j, hj, h3, rfl⟩, h4⟩
 ·refine ⟨fun ⟨⟨i, hi, h, _⟩, _⟩ => absurd h (h2 i hi), fun h => by cases h.1⟩
 ·constructor
  ·rintro ⟨⟨x, hx, hxf, hx1⟩, ⟨y, hy, hyf, hy1⟩⟩
   have := h4 x hx hxf
   have := h4 y hy hyf
   exact ⟨rfl, by omega, by omega⟩
  ·rintro ⟨-, h5, h6⟩
   exact ⟨⟨i, hi, h2, h5⟩, ⟨j, hj, h3, h6⟩⟩

theorem Rset_fn (main : Side) (h : Hp) (l : List Be) (f : Int) (vl : Value) (hl : Sl h Be.row vl l) (hn : l.length ≤ 1000) : Fnc prog main n_ref_set #[vl, I f] h [] (fun v A => ∃ a b c, v = .tuple #[I a, I b, .bool c] ∧ SetS l l.length f a b c ∧ Shut A) := by
 obtain ⟨al, lc, rfl⟩ := hl.isSl
 refine Fnc.of_body at_ref_set rfl (by show 2 ≤ 59; decide) [(0, .slice al l.length lc), (1, I f)] ⟨rfl, rfl, trivial⟩ ?_
 refine W.seq <| W.region rfl <| qs rfl rfl rfl <| qs rfl rfl rfl <| qs rfl rfl rfl <| nn <| W.seq <| W.region rfl <| qs rfl rfl rfl ?_
 refine qs rfl rfl rfl <| qs rfl rfl rfl <| nn <| W.seq <| W.seq <| W.region rfl <| qs rfl rfl rfl <| nn ?_
 refine W.block ?_
 refine W.loop (σ := Nat × Int × Int × Bool) (fun q => q.1 ≤ l.length ∧ SetS l q.1 f q.2.1 q.2.2.1 q.2.2.2) (fun q => [(10, I q.1), (7, I q.2.1), (8, I q.2.2.1), (9, .bool q.2.2.2), (0, .slice al l.length lc), (1, I f)]) (fun _ => []) (fun q => l.length - q.1) (0, 0, 0, false) ⟨Nat.zero_le _, .inl ⟨rfl, fun i hi => by omega⟩⟩ ⟨rfl, rfl, rfl, rfl, rfl, rfl, trivial⟩ sbA ?_
 rintro ⟨k, a, b, c⟩ ⟨hk, hM⟩
 dsimp only at *
 refine W.seq <| W.seq <| W.region rfl <| qm rfl rfl rfl <| qm rfl rfl rfl ?_
 refine o1 (y_len rfl rfl) rfl ?_
 refine o1 (y_lss rfl rfl rfl) rfl ?_
 refine nn ?_
 refine W.condp rfl (fun c14 => ?_) (fun c14 => ?_)
 ·have hk1 : k < l.length := by omega
  have hb0 : l[k]? = some (beAt l k) := by simp [beAt, List.getD, List.getElem?_eq_getElem hk1]
  obtain ⟨bl, offl, cl, El, fzl, rfl, hbl, -, hyl, hzl⟩ := hl.at hb0
  have hfl0 : cl[offl + k * 2 + 0]? = some (I (beAt l k).fl) := hzl 0 (by decide)
  have hfl1 : cl[offl + k * 2 + 1]? = some (I (beAt l k).day) := hzl 1 (by decide)
  clear hzl
  refine W.skip <| thn_n <| W.seq <| W.block <| W.seq <| W.seq <| W.region rfl <| qm rfl rfl rfl <| qm rfl rfl rfl ?_
  refine xq rfl ?_
  refine fq rfl ?_
  refine dq rfl ?_
  refine qm rfl rfl rfl ?_
  refine o1 (y_neq rfl rfl rfl) rfl ?_
  refine nn ?_
  refine W.condp rfl (fun c23 => ?_) (fun c23 => ?_)
  ·refine W.exit <| thn_x <| blk_x <| thn_n <| W.region rfl <| qm rfl rfl rfl ?_
   refine pq rfl ?_
   refine qs rfl rfl rfl <| nn ?_
   exact ⟨rfl, (k + 1, a, b, c), ⟨by simp only; omega, hM.skip (by assumption)⟩, by simp only; omega, ⟨rfl, rfl, rfl, rfl, rfl, rfl, trivial⟩, .refl⟩
  ·refine W.skip <| thn_n <| W.seq <| W.seq <| W.region rfl <| qm rfl rfl rfl ?_
   refine o1 (y_not rfl rfl) rfl ?_
   refine qm rfl rfl rfl ?_
   refine Ops.askB (fun a6_3 => ?_) (fun a6_3 => ?_)
   ·refine Ops.no ?_
    refine Ops.no ?_
    refine Ops.no ?_
    refine Ops.no ?_
    refine Ops.no ?_
    refine Ops.no ?_
    refine Ops.no ?_
    refine o1 (y_pickT rfl rfl rfl) rfl ?_
    refine nn ?_
    refine W.condT ?_
    refine W.region rfl <| qm rfl rfl rfl <| qm rfl rfl rfl ?_
    refine xq rfl ?_
    refine fq rfl ?_
    refine dq rfl ?_
    refine qs rfl rfl rfl <| nn <| W.seq <| W.seq <| W.region rfl <| qm rfl rfl rfl ?_
    refine o1 (y_not rfl rfl) rfl ?_
    refine qm rfl rfl rfl ?_
    refine Ops.askB (fun a8_3 => ?_) (fun a8_3 => ?_)
    ·refine Ops.no ?_
     refine Ops.no ?_
     refine Ops.no ?_
     refine Ops.no ?_
     refine Ops.no ?_
     refine Ops.no ?_
     refine Ops.no ?_
     refine o1 (y_pickT rfl rfl rfl) rfl ?_
     refine nn ?_
     refine W.condT ?_
     refine W.region rfl <| qm rfl rfl rfl <| qm rfl rfl rfl ?_
     refine xq rfl ?_
     refine fq rfl ?_
     refine dq rfl ?_
     refine qs rfl rfl rfl <| nn <| W.region rfl <| qs rfl rfl rfl <| Ops.nil <| blk_n <| thn_n <| W.region rfl <| qm rfl rfl rfl ?_
     refine pq rfl ?_
     refine qs rfl rfl rfl <| nn ?_
     have heq : (beAt l k).fl = f := by omega
     exact ⟨rfl, (k + 1, _, _, true), ⟨by simp only; omega, hM.next heq _ _ (by first | exact .inl ⟨.inl (by simpa using a6_3), rfl⟩ | exact .inl ⟨.inr c34, rfl⟩ | exact .inr ⟨⟨by simpa using a6_3, by omega⟩, rfl⟩) (by first | exact .inl ⟨.inl (by simpa using a8_3), rfl⟩ | exact .inl ⟨.inr c50, rfl⟩ | exact .inr ⟨⟨by simpa using a8_3, by omega⟩, rfl⟩)⟩, by simp only; omega, ⟨rfl, rfl, rfl, rfl, rfl, rfl, trivial⟩, .refl⟩
    ·refine oq (y_move rfl rfl) rfl (want_some rfl rfl rfl) rfl rfl ?_
     refine oq (y_move rfl rfl) rfl (want_some rfl rfl rfl) rfl rfl ?_
     first | refine oq (yix rfl rfl rfl) rfl (want_some rfl rfl rfl) rfl rfl ?_ | refine oq (yixI rfl rfl rfl) rfl (want_some rfl rfl rfl) rfl rfl ?_
     refine oq (y_fieldAddr rfl rfl) rfl (want_some rfl rfl rfl) rfl rfl ?_
     refine oq (yld rfl rfl) rfl (want_some rfl rfl rfl) rfl rfl ?_
     refine oq (y_move rfl rfl) rfl (want_some rfl rfl rfl) rfl rfl ?_
     refine oq (y_gtr rfl rfl rfl) rfl (want_some rfl rfl rfl) rfl rfl ?_
     refine o1 (y_pickF rfl rfl rfl) rfl ?_
     refine nn ?_
     refine W.condp rfl (fun c50 => ?_) (fun c50 => ?_)
     ·refine W.region rfl <| qm rfl rfl rfl <| qm rfl rfl rfl ?_
      refine xq rfl ?_
      refine fq rfl ?_
      refine dq rfl ?_
      refine qs rfl rfl rfl <| nn <| W.region rfl <| qs rfl rfl rfl <| Ops.nil <| blk_n <| thn_n <| W.region rfl <| qm rfl rfl rfl ?_
      refine pq rfl ?_
      refine qs rfl rfl rfl <| nn ?_
      have heq : (beAt l k).fl = f := by omega
      exact ⟨rfl, (k + 1, _, _, true), ⟨by simp only; omega, hM.next heq _ _ (by first | exact .inl ⟨.inl (by simpa using a6_3), rfl⟩ | exact .inl ⟨.inr c34, rfl⟩ | exact .inr ⟨⟨by simpa using a6_3, by omega⟩, rfl⟩) (by first | exact .inl ⟨.inl (by simpa using a8_3), rfl⟩ | exact .inl ⟨.inr c50, rfl⟩ | exact .inr ⟨⟨by simpa using a8_3, by omega⟩, rfl⟩)⟩, by simp only; omega, ⟨rfl, rfl, rfl, rfl, rfl, rfl, trivial⟩, .refl⟩
     ·refine W.skip <| thn_n <| W.region rfl <| qs rfl rfl rfl <| Ops.nil <| blk_n <| thn_n <| W.region rfl <| qm rfl rfl rfl ?_
      refine pq rfl ?_
      refine qs rfl rfl rfl <| nn ?_
      have heq : (beAt l k).fl = f := by omega
      exact ⟨rfl, (k + 1, _, _, true), ⟨by simp only; omega, hM.next heq _ _ (by first | exact .inl ⟨.inl (by simpa using a6_3), rfl⟩ | exact .inl ⟨.inr c34, rfl⟩ | exact .inr ⟨⟨by simpa using a6_3, by omega⟩, rfl⟩) (by first | exact .inl ⟨.inl (by simpa using a8_3), rfl⟩ | exact .inl ⟨.inr c50, rfl⟩ | exact .inr ⟨⟨by simpa using a8_3, by omega⟩, rfl⟩)⟩, by simp only; omega, ⟨rfl, rfl, rfl, rfl, rfl, rfl, trivial⟩, .refl⟩
   ·refine oq (y_move rfl rfl) rfl (want_some rfl rfl rfl) rfl rfl ?_
    refine oq (y_move rfl rfl) rfl (want_some rfl rfl rfl) rfl rfl ?_
    first | refine oq (yix rfl rfl rfl) rfl (want_some rfl rfl rfl) rfl rfl ?_ | refine oq (yixI rfl rfl rfl) rfl (want_some rfl rfl rfl) rfl rfl ?_
    refine oq (y_fieldAddr rfl rfl) rfl (want_some rfl rfl rfl) rfl rfl ?_
    refine oq (yld rfl rfl) rfl (want_some rfl rfl rfl) rfl rfl ?_
    refine oq (y_move rfl rfl) rfl (want_some rfl rfl rfl) rfl rfl ?_
    refine oq (y_lss rfl rfl rfl) rfl (want_some rfl rfl rfl) rfl rfl ?_
    refine o1 (y_pickF rfl rfl rfl) rfl ?_
    refine nn ?_
    refine W.condp rfl (fun c34 => ?_) (fun c34 => ?_)
    ·refine W.region rfl <| qm rfl rfl rfl <| qm rfl rfl rfl ?_
     refine xq rfl ?_
     refine fq rfl ?_
     refine dq rfl ?_
     refine qs rfl rfl rfl <| nn <| W.seq <| W.seq <| W.region rfl <| qm rfl rfl rfl ?_
     refine o1 (y_not rfl rfl) rfl ?_
     refine qm rfl rfl rfl ?_
     refine Ops.askB (fun a8_3 => ?_) (fun a8_3 => ?_)
     ·refine Ops.no ?_
      refine Ops.no ?_
      refine Ops.no ?_
      refine Ops.no ?_
      refine Ops.no ?_
      refine Ops.no ?_
      refine Ops.no ?_
      refine o1 (y_pickT rfl rfl rfl) rfl ?_
      refine nn ?_
      refine W.condT ?_
      refine W.region rfl <| qm rfl rfl rfl <| qm rfl rfl rfl ?_
      refine xq rfl ?_
      refine fq rfl ?_
      refine dq rfl ?_
      refine qs rfl rfl rfl <| nn <| W.region rfl <| qs rfl rfl rfl <| Ops.nil <| blk_n <| thn_n <| W.region rfl <| qm rfl rfl rfl ?_
      refine pq rfl ?_
      refine qs rfl rfl rfl <| nn ?_
      have heq : (beAt l k).fl = f := by omega
      exact ⟨rfl, (k + 1, _, _, true), ⟨by simp only; omega, hM.next heq _ _ (by first | exact .inl ⟨.inl (by simpa using a6_3), rfl⟩ | exact .inl ⟨.inr c34, rfl⟩ | exact .inr ⟨⟨by simpa using a6_3, by omega⟩, rfl⟩) (by first | exact .inl ⟨.inl (by simpa using a8_3), rfl⟩ | exact .inl ⟨.inr c50, rfl⟩ | exact .inr ⟨⟨by simpa using a8_3, by omega⟩, rfl⟩)⟩, by simp only; omega, ⟨rfl, rfl, rfl, rfl, rfl, rfl, trivial⟩, .refl⟩
     ·refine oq (y_move rfl rfl) rfl (want_some rfl rfl rfl) rfl rfl ?_
      refine oq (y_move rfl rfl) rfl (want_some rfl rfl rfl) rfl rfl ?_
      first | refine oq (yix rfl rfl rfl) rfl (want_some rfl rfl rfl) rfl rfl ?_ | refine oq (yixI rfl rfl rfl) rfl (want_some rfl rfl rfl) rfl rfl ?_
      refine oq (y_fieldAddr rfl rfl) rfl (want_some rfl rfl rfl) rfl rfl ?_
      refine oq (yld rfl rfl) rfl (want_some rfl rfl rfl) rfl rfl ?_
      refine oq (y_move rfl rfl) rfl (want_some rfl rfl rfl) rfl rfl ?_
      refine oq (y_gtr rfl rfl rfl) rfl (want_some rfl rfl rfl) rfl rfl ?_
      refine o1 (y_pickF rfl rfl rfl) rfl ?_
      refine nn ?_
      refine W.condp rfl (fun c50 => ?_) (fun c50 => ?_)
      ·refine W.region rfl <| qm rfl rfl rfl <| qm rfl rfl rfl ?_
       refine xq rfl ?_
       refine fq rfl ?_
       refine dq rfl ?_
       refine qs rfl rfl rfl <| nn <| W.region rfl <| qs rfl rfl rfl <| Ops.nil <| blk_n <| thn_n <| W.region rfl <| qm rfl rfl rfl ?_
       refine pq rfl ?_
       refine qs rfl rfl rfl <| nn ?_
       have heq : (beAt l k).fl = f := by omega
       exact ⟨rfl, (k + 1, _, _, true), ⟨by simp only; omega, hM.next heq _ _ (by first | exact .inl ⟨.inl (by simpa using a6_3), rfl⟩ | exact .inl ⟨.inr c34, rfl⟩ | exact .inr ⟨⟨by simpa using a6_3, by omega⟩, rfl⟩) (by first | exact .inl ⟨.inl (by simpa using a8_3), rfl⟩ | exact .inl ⟨.inr c50, rfl⟩ | exact .inr ⟨⟨by simpa using a8_3, by omega⟩, rfl⟩)⟩, by simp only; omega, ⟨rfl, rfl, rfl, rfl, rfl, rfl, trivial⟩, .refl⟩
      ·refine W.skip <| thn_n <| W.region rfl <| qs rfl rfl rfl <| Ops.nil <| blk_n <| thn_n <| W.region rfl <| qm rfl rfl rfl ?_
       refine pq rfl ?_
       refine qs rfl rfl rfl <| nn ?_
       have heq : (beAt l k).fl = f := by omega
       exact ⟨rfl, (k + 1, _, _, true), ⟨by simp only; omega, hM.next heq _ _ (by first | exact .inl ⟨.inl (by simpa using a6_3), rfl⟩ | exact .inl ⟨.inr c34, rfl⟩ | exact .inr ⟨⟨by simpa using a6_3, by omega⟩, rfl⟩) (by first | exact .inl ⟨.inl (by simpa using a8_3), rfl⟩ | exact .inl ⟨.inr c50, rfl⟩ | exact .inr ⟨⟨by simpa using a8_3, by omega⟩, rfl⟩)⟩, by simp only; omega, ⟨rfl, rfl, rfl, rfl, rfl, rfl, trivial⟩, .refl⟩
    ·refine W.skip <| thn_n <| W.seq <| W.seq <| W.region rfl <| qm rfl rfl rfl ?_
     refine o1 (y_not rfl rfl) rfl ?_
     refine qm rfl rfl rfl ?_
     refine Ops.askB (fun a8_3 => ?_) (fun a8_3 => ?_)
     ·refine Ops.no ?_
      refine Ops.no ?_
      refine Ops.no ?_
      refine Ops.no ?_
      refine Ops.no ?_
      refine Ops.no ?_
      refine Ops.no ?_
      refine o1 (y_pickT rfl rfl rfl) rfl ?_
      refine nn ?_
      refine W.condT ?_
      refine W.region rfl <| qm rfl rfl rfl <| qm rfl rfl rfl ?_
      refine xq rfl ?_
      refine fq rfl ?_
      refine dq rfl ?_
      refine qs rfl rfl rfl <| nn <| W.region rfl <| qs rfl rfl rfl <| Ops.nil <| blk_n <| thn_n <| W.region rfl <| qm rfl rfl rfl ?_
      refine pq rfl ?_
      refine qs rfl rfl rfl <| nn ?_
      have heq : (beAt l k).fl = f := by omega
      exact ⟨rfl, (k + 1, _, _, true), ⟨by simp only; omega, hM.next heq _ _ (by first | exact .inl ⟨.inl (by simpa using a6_3), rfl⟩ | exact .inl ⟨.inr c34, rfl⟩ | exact .inr ⟨⟨by simpa using a6_3, by omega⟩, rfl⟩) (by first | exact .inl ⟨.inl (by simpa using a8_3), rfl⟩ | exact .inl ⟨.inr c50, rfl⟩ | exact .inr ⟨⟨by simpa using a8_3, by omega⟩, rfl⟩)⟩, by simp only; omega, ⟨rfl, rfl, rfl, rfl, rfl, rfl, trivial⟩, .refl⟩
     ·refine oq (y_move rfl rfl) rfl (want_some rfl rfl rfl) rfl rfl ?_
      refine oq (y_move rfl rfl) rfl (want_some rfl rfl rfl) rfl rfl ?_
      first | refine oq (yix rfl rfl rfl) rfl (want_some rfl rfl rfl) rfl rfl ?_ | refine oq (yixI rfl rfl rfl) rfl (want_some rfl rfl rfl) rfl rfl ?_
      refine oq (y_fieldAddr rfl rfl) rfl (want_some rfl rfl rfl) rfl rfl ?_
      refine oq (yld rfl rfl) rfl (want_some rfl rfl rfl) rfl rfl ?_
      refine oq (y_move rfl rfl) rfl (want_some rfl rfl rfl) rfl rfl ?_
      refine oq (y_gtr rfl rfl rfl) rfl (want_some rfl rfl rfl) rfl rfl ?_
      refine o1 (y_pickF rfl rfl rfl) rfl ?_
      refine nn ?_
      refine W.condp rfl (fun c50 => ?_) (fun c50 => ?_)
      ·refine W.region rfl <| qm rfl rfl rfl <| qm rfl rfl rfl ?_
       refine xq rfl ?_
       refine fq rfl ?_
       refine dq rfl ?_
       refine qs rfl rfl rfl <| nn <| W.region rfl <| qs rfl rfl rfl <| Ops.nil <| blk_n <| thn_n <| W.region rfl <| qm rfl rfl rfl ?_
       refine pq rfl ?_
       refine qs rfl rfl rfl <| nn ?_
       have heq : (beAt l k).fl = f := by omega
       exact ⟨rfl, (k + 1, _, _, true), ⟨by simp only; omega, hM.next heq _ _ (by first | exact .inl ⟨.inl (by simpa using a6_3), rfl⟩ | exact .inl ⟨.inr c34, rfl⟩ | exact .inr ⟨⟨by simpa using a6_3, by omega⟩, rfl⟩) (by first | exact .inl ⟨.inl (by simpa using a8_3), rfl⟩ | exact .inl ⟨.inr c50, rfl⟩ | exact .inr ⟨⟨by simpa using a8_3, by omega⟩, rfl⟩)⟩, by simp only; omega, ⟨rfl, rfl, rfl, rfl, rfl, rfl, trivial⟩, .refl⟩
      ·refine W.skip <| thn_n <| W.region rfl <| qs rfl rfl rfl <| Ops.nil <| blk_n <| thn_n <| W.region rfl <| qm rfl rfl rfl ?_
       refine pq rfl ?_
       refine qs rfl rfl rfl <| nn ?_
       have heq : (beAt l k).fl = f := by omega
       exact ⟨rfl, (k + 1, _, _, true), ⟨by simp only; omega, hM.next heq _ _ (by first | exact .inl ⟨.inl (by simpa using a6_3), rfl⟩ | exact .inl ⟨.inr c34, rfl⟩ | exact .inr ⟨⟨by simpa using a6_3, by omega⟩, rfl⟩) (by first | exact .inl ⟨.inl (by simpa using a8_3), rfl⟩ | exact .inl ⟨.inr c50, rfl⟩ | exact .inr ⟨⟨by simpa using a8_3, by omega⟩, rfl⟩)⟩, by simp only; omega, ⟨rfl, rfl, rfl, rfl, rfl, rfl, trivial⟩, .refl⟩
 ·have hke : k = l.length := by omega
  subst hke
  refine W.exit <| thn_x <| thn_x <| blk_x <| thn_n <| W.seq <| W.region rfl <| qm rfl rfl rfl <| qm rfl rfl rfl <| qm rfl rfl rfl ?_
  refine qs rfl rfl rfl <| qs rfl rfl rfl <| qs rfl rfl rfl <| nn <| W.ret ?_
  exact lvt (vs := [_, _, _]) ⟨a, b, c, rfl, hM, .nil⟩

theorem Rbad_fn (main : Side) (h : Hp) (fs : List Fl) (ss : List St) (l : List Be) (f d : Nat) (vf vs vl : Value) (hf : Sl h Fl.row vf fs) (hs : Sl h St.row vs ss) (hl : Sl h Be.row vl l) (hall : HallOK fs ss) (hpl : PlanOf fs ss (padB l)) (hn : l.length = ss.length) (hf0 : f < fs.length) (hd : d ≤ 100) : Fnc prog main n_ref_bad #[.agg #[vf, vs], vl, I f, I d] h [] (fun v A => ∃ r, v = .bool r ∧ (r = true ↔ RB fs ss l f d) ∧ Shut A) := by
 have hns := hall.ns
 have hnf := hall.nf
 have hfi : (0 : Int) ≤ f ∧ (f : Int) < fs.length := by omega
 have hx0 := flAt_some hfi.1 hfi.2
 have hfo := fl_ok hall hfi.1 hfi.2
 obtain ⟨⟨pl, lo, hi', co⟩, hfa⟩ : ∃ x, flAt fs f = x := ⟨_, rfl⟩
 rw [hfa] at hx0 hfo
 rw [Int.toNat_natCast] at hx0
 dsimp only at hfo
 have hRB : RB fs ss l f d ↔ pl < sumK (hiG fs ss l f d) l.length ∨ co < idleN ss l (hLo fs l) f (d + 1) := by rw [RB, hfa, hi_sum hall hpl hn hfi.1]
 have hIdl : ∀ x : Int, Idl ss l (hLo fs l) f x ↔ sumK (loG fs ss l f x) l.length = 0 ∧ Btw l f x := fun x => by rw [Idl, cones_lo hall hpl hn hfi.1]
 obtain ⟨a, cap, rfl⟩ := hf.isSl
 obtain ⟨a', cap', rfl⟩ := hs.isSl
 obtain ⟨al, lc, rfl⟩ := hl.isSl
 have hstd : ∀ (h' : Hp) (x : Int), Ext h h' → Pu prog main n_ref_stands #[.agg #[.slice a fs.length cap, .slice a' ss.length cap'], .slice al l.length lc, I f, I x] h' (.agg #[I (sumK (loG fs ss l f x) l.length), I (sumK (hiG fs ss l f x) l.length)]) := fun h' x hE => Rstandsp_fn main h' fs ss l f x _ _ _ (hf.ext hE) (hs.ext hE) (hl.ext hE) hall hpl (by omega) hfi
 obtain ⟨bf, off, cf, E, fz, rfl, hbk, -, hy1, hz1⟩ := hf.at hx0
 have hd0 : cf[off + f * 4 + 0]? = some (I pl) := hz1 0 (by decide)
 have hd3 : cf[off + f * 4 + 3]? = some (I co) := hz1 3 (by decide)
 clear hz1
 refine Fnc.of_body at_ref_bad rfl (by show 4 ≤ 71; decide) [(0, .agg #[.slice (some ⟨bf, off, none⟩) fs.length cap, .slice a' ss.length cap']), (1, .slice al l.length lc), (2, I f), (3, I d)] ⟨rfl, rfl, rfl, rfl, trivial⟩ ?_
 refine W.seq <| W.region rfl ?_
 refine Ops.box (cs := #[.slice (some ⟨bf, off, none⟩) fs.length cap, .slice a' ss.length cap']) (fun β4 => ?_) rfl rfl rfl
 refine qs rfl rfl rfl <| nn <| W.seq <| W.seq ?_
 refine W.drawP1 (n := 13) rfl ?_
 first | refine a1 0 (yldW rfl rfl) rfl ?_ | refine a1 0 (yldA rfl rfl) rfl ?_
 refine a1 1 (y_move rfl rfl) rfl ?_
 refine a1 2 (y_move rfl rfl) rfl ?_
 refine a1 3 (y_move rfl rfl) rfl ?_
 refine a1 6 (y_fieldAddr rfl rfl) rfl ?_
 refine a1 7 (yld rfl rfl) rfl ?_
 refine a1 8 (y_move rfl rfl) rfl ?_
 first | refine a1 9 (yix rfl rfl rfl) rfl ?_ | refine a1 9 (yixI rfl rfl rfl) rfl ?_
 refine a1 10 (y_fieldAddr rfl rfl) rfl ?_
 refine a1 11 (yld rfl rfl) rfl ?_
 refine acp (i := 4) (vs := [.agg #[.slice (some ⟨bf, off, none⟩) fs.length cap, .slice a' ss.length cap'], .slice al l.length lc, I f, I d]) (fun h' hE hL => hstd h' d hE) ?_
 first | refine a1 5 (y_field rfl rfl rfl) rfl ?_ | refine a1 5 (y_fieldA rfl rfl rfl) rfl ?_
 refine a1 12 (y_gtr rfl rfl rfl) rfl ?_
 refine az ?_
 refine thn_n ?_
 refine W.condp rfl (fun c26 => ?_) (fun c26 => ?_)
 ·refine W.seq <| W.region rfl <| qs rfl rfl rfl <| nn <| W.ret <| thn_r ?_
  exact lvt (vs := [_]) ⟨true, rfl, ⟨fun _ => hRB.2 (.inl (by first | exact c26 | assumption)), fun _ => rfl⟩, .cons rfl .nil⟩
 ·refine W.skip <| thn_n <| W.seq <| W.region rfl <| qm rfl rfl rfl <| qm rfl rfl rfl ?_
  refine c0 (fun h' hE hL => Rset_fn _ h' l f _ (hl.ext hE) (by omega)) (fun v A' hv => ?_)
  obtain ⟨x1, x2, x3, rfl, hset, hsh⟩ := hv
  have hbtw := fun x => hset.btw (d := x)
  refine Ops.sb (Sb.left .refl hsh) ?_
  refine qm rfl rfl rfl <| oq (y_extract rfl rfl rfl) rfl wn rfl rfl <| oq (y_extract rfl rfl rfl) rfl wn rfl rfl <| oq (y_extract rfl rfl rfl) rfl wn rfl rfl <| qs rfl rfl rfl <| qs rfl rfl rfl <| qs rfl rfl rfl <| nn <| W.seq ?_
  refine W.seq <| W.region rfl <| qm rfl rfl rfl ?_
  refine o1 (y_not rfl rfl) rfl ?_
  refine qm rfl rfl rfl ?_
  refine Ops.askB (fun a4_3 => ?_) (fun a4_3 => ?_)
  ·refine Ops.no ?_
   refine Ops.no ?_
   refine Ops.no ?_
   refine o1 (y_pickT rfl rfl rfl) rfl ?_
   refine qm rfl rfl rfl ?_
   refine Ops.no ?_
   refine Ops.no ?_
   refine Ops.no ?_
   refine o1 (y_pickT rfl rfl rfl) rfl ?_
   refine nn ?_
   refine W.condT ?_
   refine W.seq <| W.region rfl <| qs rfl rfl rfl <| nn <| W.ret <| thn_r ?_
   have hnb : ¬ Btw l f d := fun hb => by
    have := (hbtw d).1 hb
    first
    | omega
    | (rw [this.1] at a4_3; simp at a4_3)
   have hz : idleN ss l (hLo fs l) f (d + 1) = 0 := by rw [idleN]; exact if_neg fun hx => hnb hx.2
   exact lvt (vs := [_]) ⟨false, rfl, ⟨fun h => (by cases h), fun h => (by have := hRB.1 h; omega)⟩, .cons rfl .nil⟩
  ·refine oq (y_move rfl rfl) rfl (want_some rfl rfl rfl) rfl rfl ?_
   refine oq (y_move rfl rfl) rfl (want_some rfl rfl rfl) rfl rfl ?_
   refine oq (y_leq rfl rfl rfl) rfl (want_some rfl rfl rfl) rfl rfl ?_
   refine o1 (y_pickF rfl rfl rfl) rfl ?_
   refine qm rfl rfl rfl ?_
   refine Ops.ask (fun a4_8 => ?_) (fun a4_8 => ?_)
   ·refine Ops.no ?_
    refine Ops.no ?_
    refine Ops.no ?_
    refine o1 (y_pickT rfl rfl rfl) rfl ?_
    refine nn ?_
    refine W.condT ?_
    refine W.seq <| W.region rfl <| qs rfl rfl rfl <| nn <| W.ret <| thn_r ?_
    have hnb : ¬ Btw l f d := fun hb => by
     have := (hbtw d).1 hb
     first
     | omega
     | (rw [this.1] at a4_3; simp at a4_3)
    have hz : idleN ss l (hLo fs l) f (d + 1) = 0 := by rw [idleN]; exact if_neg fun hx => hnb hx.2
    exact lvt (vs := [_]) ⟨false, rfl, ⟨fun h => (by cases h), fun h => (by have := hRB.1 h; omega)⟩, .cons rfl .nil⟩
   ·refine oq (y_move rfl rfl) rfl (want_some rfl rfl rfl) rfl rfl ?_
    refine oq (y_move rfl rfl) rfl (want_some rfl rfl rfl) rfl rfl ?_
    refine oq (y_geq rfl rfl rfl) rfl (want_some rfl rfl rfl) rfl rfl ?_
    refine o1 (y_pickF rfl rfl rfl) rfl ?_
    refine nn ?_
    refine W.condp rfl (fun c45 => ?_) (fun c45 => ?_)
    ·refine W.seq <| W.region rfl <| qs rfl rfl rfl <| nn <| W.ret <| thn_r ?_
     have hnb : ¬ Btw l f d := fun hb => by
      have := (hbtw d).1 hb
      first
      | omega
      | (rw [this.1] at a4_3; simp at a4_3)
     have hz : idleN ss l (hLo fs l) f (d + 1) = 0 := by rw [idleN]; exact if_neg fun hx => hnb hx.2
     exact lvt (vs := [_]) ⟨false, rfl, ⟨fun h => (by cases h), fun h => (by have := hRB.1 h; omega)⟩, .cons rfl .nil⟩
    ·have hx3 : x3 = true := by simpa using a4_3
     subst hx3
     refine W.skip <| thn_n <| W.seq <| W.region rfl <| qs rfl rfl rfl <| nn <| W.seq <| W.seq <| W.region rfl ?_
     refine qm rfl rfl rfl <| qs rfl rfl rfl <| nn <| W.block ?_
     have hx10 : 0 ≤ x1 := by
      rcases hset with ⟨hx, -⟩ | ⟨-, ⟨i, hi, h1, rfl⟩, -, -⟩
      ·cases hx
      ·exact (set_dayP hall hpl hn hi).1
     refine W.loop (σ := Nat) (fun j => j ≤ d ∧ x1 ≤ (d : Int) - j ∧ idleN ss l (hLo fs l) f (d + 1) = j + idleN ss l (hLo fs l) f (d + 1 - j)) (fun j => [(13, I ((d : Int) - j)), (12, I j), (9, I x1), (4, .pointer (some ⟨β4, 0, none⟩)), (1, .slice al l.length lc), (2, I f)]) (fun _ => [(β4, .cells #[.slice (some ⟨bf, off, none⟩) fs.length cap, .slice a' ss.length cap'] t_Plant (0, 0))]) (fun j => d - j) 0 ⟨Nat.zero_le _, by omega, by simp⟩ ⟨lk rfl (show I _ = I _ from congrArg I (by omega)), rfl, rfl, rfl, rfl, rfl, trivial⟩ .refl ?_
     rintro j ⟨hj, hjx, hje⟩
     have hcast : ((d - j : Nat) : Int) = (d : Int) - j := by omega
     have hst1p : Idl ss l (hLo fs l) f ((d : Int) - j) → idleN ss l (hLo fs l) f (d + 1 - j) = idleN ss l (hLo fs l) f (d - j) + 1 := fun hx => by
      rw [show d + 1 - j = (d - j) + 1 by omega, idleN, hcast]; exact if_pos hx
     have hst1n : ¬ Idl ss l (hLo fs l) f ((d : Int) - j) → idleN ss l (hLo fs l) f (d + 1 - j) = 0 := fun hx => by
      rw [show d + 1 - j = (d - j) + 1 by omega, idleN, hcast]; exact if_neg hx
     refine W.seq <| W.seq <| W.region rfl <| qm rfl rfl rfl <| qm rfl rfl rfl ?_
     refine o1 (y_gtr rfl rfl rfl) rfl ?_
     refine qm rfl rfl rfl ?_
     refine Ops.ask (fun a8_4 => ?_) (fun a8_4 => ?_)
     ·first | refine oq (yldW rfl rfl) rfl (want_some rfl rfl rfl) rfl rfl ?_ | refine oq (yldA rfl rfl) rfl (want_some rfl rfl rfl) rfl rfl ?_
      refine oq (y_move rfl rfl) rfl (want_some rfl rfl rfl) rfl rfl ?_
      refine oq (y_move rfl rfl) rfl (want_some rfl rfl rfl) rfl rfl ?_
      refine oq (y_move rfl rfl) rfl (want_some rfl rfl rfl) rfl rfl ?_
      refine cp (fun h' hE hL => hstd h' ((d : Int) - j) hE) ?_ (hw := want_some rfl rfl rfl)
      first | refine oq (y_field rfl rfl rfl) rfl (want_some rfl rfl rfl) rfl rfl ?_ | refine oq (y_fieldA rfl rfl rfl) rfl (want_some rfl rfl rfl) rfl rfl ?_
      refine oq (y_eql rfl rfl rfl) rfl (want_some rfl rfl rfl) rfl rfl ?_
      refine o1 (y_pickT rfl rfl rfl) rfl ?_
      refine nn ?_
      refine W.condp rfl (fun c58 => ?_) (fun c58 => ?_)
      ·refine W.skip <| thn_n <| W.seq <| W.block <| W.region rfl <| qm rfl rfl rfl ?_
       refine pq rfl ?_
       refine qs rfl rfl rfl <| Ops.nil <| blk_n <| thn_n <| W.region rfl <| qm rfl rfl rfl ?_
       refine mq rfl ?_
       refine qs rfl rfl rfl <| nn ?_
       have hI : Idl ss l (hLo fs l) f ((d : Int) - j) := (hIdl _).2 ⟨by first | exact c58 | assumption, (hbtw _).2 ⟨rfl, by omega, by omega⟩⟩
       have hst1 := hst1p hI
       exact ⟨rfl, j + 1, ⟨by omega, by omega, by rw [hje, hst1, show d + 1 - (j + 1) = d - j by omega]; omega⟩, by omega, ⟨lk rfl (show I _ = I _ by congr 1; omega), rfl, rfl, rfl, rfl, rfl, trivial⟩, .refl⟩
      ·refine W.exit <| thn_x <| thn_x <| blk_x <| thn_n <| W.seq <| W.region rfl <| qm rfl rfl rfl ?_
       refine fq rfl ?_
       refine dq rfl ?_
       refine qm rfl rfl rfl ?_
       refine xq rfl ?_
       refine fq rfl ?_
       refine dq rfl ?_
       refine o1 (y_gtr rfl rfl rfl) rfl ?_
       refine qs rfl rfl rfl <| nn <| W.ret ?_
       have hnI : ¬ Idl ss l (hLo fs l) f ((d : Int) - j) := fun hx => by
        have h1 := (hIdl _).1 hx
        have h2 := (hbtw _).1 h1.2
        first | exact absurd h1.1 (by assumption) | omega
       have hst1 := hst1n hnI
       refine lvt (vs := [_]) ⟨_, rfl, ?_, .cons rfl .nil⟩
       rw [decide_eq_true_eq, hRB, hje, hst1]
       omega
     ·refine Ops.no ?_
      refine Ops.no ?_
      refine Ops.no ?_
      refine Ops.no ?_
      refine Ops.no ?_
      refine Ops.no ?_
      refine Ops.no ?_
      refine o1 (y_pickF rfl rfl rfl) rfl ?_
      refine nn ?_
      refine W.condF ?_
      refine W.exit <| thn_x <| thn_x <| blk_x <| thn_n <| W.seq <| W.region rfl <| qm rfl rfl rfl ?_
      refine fq rfl ?_
      refine dq rfl ?_
      refine qm rfl rfl rfl ?_
      refine xq rfl ?_
      refine fq rfl ?_
      refine dq rfl ?_
      refine o1 (y_gtr rfl rfl rfl) rfl ?_
      refine qs rfl rfl rfl <| nn <| W.ret ?_
      have hnI : ¬ Idl ss l (hLo fs l) f ((d : Int) - j) := fun hx => by
       have h1 := (hIdl _).1 hx
       have h2 := (hbtw _).1 h1.2
       first | exact absurd h1.1 (by assumption) | omega
      have hst1 := hst1n hnI
      refine lvt (vs := [_]) ⟨_, rfl, ?_, .cons rfl .nil⟩
      rw [decide_eq_true_eq, hRB, hje, hst1]
      omega

theorem RwrongP_fn (main : Side) (h : Hp) (fs : List Fl) (ss : List St) (l : List Be) (vf vs vl : Value) (hf : Sl h Fl.row vf fs) (hs : Sl h St.row vs ss) (hl : Sl h Be.row vl l) (hall : HallOK fs ss) (hpl : PlanOf fs ss (padB l)) (hn : l.length = ss.length) : Fnc prog main n_ref_wrong #[.agg #[vf, vs], vl] h [] (fun v A => ∃ a b, v = .tuple #[I a, I b] ∧ MinS (fun f d => f < fs.length ∧ RB fs ss l f d) a b ∧ Shut A) := by
 have hnf := hall.nf
 obtain ⟨a, cap, rfl⟩ := hf.isSl
 obtain ⟨a', cap', rfl⟩ := hs.isSl
 obtain ⟨al, lc, rfl⟩ := hl.isSl
 refine Fnc.of_body at_ref_wrong rfl (by show 2 ≤ 26; decide) [(0, .agg #[.slice a fs.length cap, .slice a' ss.length cap']), (1, .slice al l.length lc)] ⟨rfl, rfl, trivial⟩ ?_
 refine W.seq <| W.region rfl ?_
 refine Ops.box (cs := #[.slice a fs.length cap, .slice a' ss.length cap']) (fun β2 => ?_) rfl rfl rfl
 refine qs rfl rfl rfl <| qs rfl rfl rfl <| nn <| W.seq <| W.seq <| W.region rfl <| qs rfl rfl rfl <| nn ?_
 refine W.block ?_
 refine W.loop (σ := Nat) (fun d => d ≤ 30 ∧ ∀ f d', d' < d → f < fs.length → ¬ RB fs ss l f d') (fun d => [(6, I d), (2, .pointer (some ⟨β2, 0, none⟩)), (1, .slice al l.length lc)]) (fun _ => [(β2, .cells #[.slice a fs.length cap, .slice a' ss.length cap'] t_Plant (0, 0))]) (fun d => 30 - d) 0 ⟨Nat.zero_le _, fun f d' h => by omega⟩ ⟨rfl, rfl, rfl, trivial⟩ .refl ?_
 rintro d ⟨hd, hno⟩
 refine W.seq <| W.seq <| W.region rfl <| qm rfl rfl rfl ?_
 refine o1 (y_leq rfl rfl rfl) rfl ?_
 refine nn ?_
 refine W.condp rfl (fun c9 => ?_) (fun c9 => ?_)
 ·have hd1 : d < 30 := by omega
  refine W.skip <| thn_n <| W.seq <| W.block <| W.seq <| W.region rfl <| qs rfl rfl rfl <| nn <| W.block ?_
  refine W.loop (σ := Nat) (fun k => k ≤ fs.length ∧ ∀ f, f < k → ¬ RB fs ss l f d) (fun k => [(7, I k), (6, I d), (2, .pointer (some ⟨β2, 0, none⟩)), (1, .slice al l.length lc)]) (fun _ => [(β2, .cells #[.slice a fs.length cap, .slice a' ss.length cap'] t_Plant (0, 0))]) (fun k => fs.length - k) 0 ⟨Nat.zero_le _, fun f h => by omega⟩ ⟨rfl, rfl, rfl, rfl, trivial⟩ .refl ?_
  rintro k ⟨hk, hnk⟩
  refine W.seq <| W.seq <| W.region rfl <| qm rfl rfl rfl ?_
  refine fq rfl ?_
  refine dq rfl ?_
  refine o1 (y_len rfl rfl) rfl ?_
  refine o1 (y_lss rfl rfl rfl) rfl ?_
  refine nn ?_
  refine W.condp rfl (fun c16 => ?_) (fun c16 => ?_)
  ·refine W.skip <| thn_n <| W.seq <| W.block <| W.seq <| W.region rfl ?_
   refine lq rfl ?_
   refine qm rfl rfl rfl <| qm rfl rfl rfl <| qm rfl rfl rfl ?_
   refine c0 (fun h' hE hL => Rbad_fn _ h' fs ss l k d _ _ _ (hf.ext hE) (hs.ext hE) (hl.ext hE) hall hpl hn (by omega) (by omega)) (fun v A' hv => ?_)
   obtain ⟨r, rfl, hr, hsh⟩ := hv
   refine Ops.sb (Sb.left .refl hsh) ?_
   refine nn ?_
   refine W.cond rfl (fun c23 => ?_) (fun c23 => ?_)
   ·refine W.seq <| W.region rfl <| qm rfl rfl rfl <| qm rfl rfl rfl <| qs rfl rfl rfl <| qs rfl rfl rfl <| nn <| W.ret <| blk_r ?_
    refine thn_r <| thn_r <| blk_r <| blk_r <| thn_r <| thn_r <| blk_r <| thn_r ?_
    have hrb := hr.1 c23
    exact lvt (vs := [_, _]) ⟨k, d, rfl, .inr ⟨k, d, rfl, rfl, ⟨by omega, hrb⟩, fun f' d' hx => by
     rcases Nat.lt_or_ge d' d with h1 | h1
     ·exact absurd hx.2 (hno f' d' h1 hx.1)
     ·rcases Nat.lt_or_ge d d' with h2 | h2
      ·exact .inl h2
      ·obtain rfl : d = d' := by omega
       refine .inr ⟨rfl, ?_⟩
       rcases Nat.lt_or_ge f' k with h3 | h3
       ·exact absurd hx.2 (hnk f' h3)
       ·exact h3⟩, .cons rfl .nil⟩
   ·refine W.skip <| blk_n <| thn_n <| W.region rfl <| qm rfl rfl rfl ?_
    refine pq rfl ?_
    refine qs rfl rfl rfl <| nn ?_
    refine ⟨rfl, k + 1, ⟨by omega, fun f hf' => ?_⟩, by omega, ⟨rfl, rfl, rfl, rfl, trivial⟩, .refl⟩
    by_cases e : f = k
    ·subst e; exact fun hx => by rw [hr.2 hx] at c23; cases c23
    ·exact hnk f (by omega)
  ·refine W.exit <| thn_x <| thn_x <| blk_x <| blk_n <| thn_n <| W.region rfl <| qm rfl rfl rfl ?_
   refine pq rfl ?_
   refine qs rfl rfl rfl <| nn ?_
   have hke : k = fs.length := by omega
   subst hke
   refine ⟨rfl, d + 1, ⟨by omega, fun f d' hd' hf' => ?_⟩, by omega, ⟨rfl, rfl, rfl, trivial⟩, .refl⟩
   by_cases e : d' = d
   ·subst e; exact hnk f hf'
   ·exact hno f d' (by omega) hf'
 ·refine W.exit <| thn_x <| thn_x <| blk_x <| thn_n <| W.seq <| W.region rfl <| qs rfl rfl rfl <| qs rfl rfl rfl <| Ops.nil ?_
  refine thn_n <| W.ret ?_
  exact lvt (vs := [_, _]) ⟨-1, -1, rfl, .inl ⟨rfl, rfl, fun f d' hx => by
   rcases Nat.lt_or_ge d' 22 with h1 | h1
   ·exact hno f d' (by omega) hx.1 hx.2
   ·exact hno f 21 (by omega) hx.1 (rb_lateP hall hpl hn hx.1 h1 hx.2)⟩, .cons rfl .nil⟩
theorem Rwrong_fn (main : Side) (h : Hp) (fs : List Fl) (ss : List St) (l : List Be) (vf vs vl : Value) (hf : Sl h Fl.row vf fs) (hs : Sl h St.row vs ss) (hl : Sl h Be.row vl l) (hck : ckPlan fs ss l = 0) : Fnc prog main n_ref_wrong #[.agg #[vf, vs], vl] h [] (fun v A => ∃ a b, v = .tuple #[I a, I b] ∧ MinS (fun f d => f < fs.length ∧ RB fs ss l f d) a b ∧ Shut A) := by
 obtain ⟨hall, hpl, hn⟩ := plan_ck hck
 exact RwrongP_fn main h fs ss l _ _ _ hf hs hl hall hpl hn

end Go.Mus

/- All plans as the document lists them; the right ones are those of all. Conditions: none. -/
namespace Go.Mus
def fullL (fs : List Fl) (ss : List St) (l : List Be) (f : Int) : Bool := (List.range l.length).any fun i => decide ((beAt l i).fl = f) && decide ((flAt fs f).pl < sumK (hiG fs ss l f (beAt l i).day) l.length)
def plansF (fs : List Fl) (ss : List St) (u : Int) : Nat → List Be → List (List Be)
  | 0, l => [l]
  | m + 1, l => (if u < 0 ∨ u < l.length then plansF fs ss u m (l ++ [bnone]) else []) ++ (if 0 ≤ u ∧ u < l.length then [] else (floorsFrom (stAt ss l.length) 0 fs.length).flatMap fun b => if fullL fs ss (l ++ [b]) b.fl then [] else plansF fs ss u m (l ++ [b]))
theorem hi_part {fs : List Fl} {ss : List St} {l : List Be} {f d : Int} (h4 : l.length ≤ 4) (h0 : 0 ≤ f) : hiAt fs ss (padB l) f d = sumK (hiG fs ss l f d) l.length := by
  have e : hiAt fs ss (padB l) f d = sumK (hiG fs ss l f d) 4 := sumK_congr fun i _ => by simp only [hiG, be_pad]
  rw [e]
  refine sumK_ext h4 fun i hi _ => ?_
  simp only [hiG, be_out hi, bnone]
  rw [if_neg (by omega)]
theorem full_no {fs : List Fl} {ss : List St} {l r : List Be} {f : Int} (hall : HallOK fs ss) (hp : PlanOf fs ss (padB (l ++ r))) (hn : (l ++ r).length ≤ 4) (h0 : 0 ≤ f) (hf : f < fs.length) (h : fullL fs ss l f = true) : isR fs ss (l ++ r) = false := by
  simp only [fullL, List.any_eq_true, List.mem_range, Bool.and_eq_true, decide_eq_true_eq] at h
  obtain ⟨i, hi, h1, h2⟩ := h
  rw [List.length_append] at hn
  have hm := hi_mono (fs := fs) (ss := ss) (p := padB (l ++ r)) (q := padB l) (f := f) (d := (beAt l i).day) hall h0 fun j hj => by
    rw [be_pad, be_pad]
    rcases Nat.lt_or_ge j l.length with h | h
    · left; simp only [beAt, List.getD]; rw [List.getElem?_append_left h]
    · right; rw [be_out h]; simp [bnone]
  rw [hi_part (by omega) h0] at hm
  have hd : 0 ≤ (beAt l i).day ∧ (beAt l i).day ≤ 17 := by
    have h3 := beAt_some hp.ok (show i < 4 by omega)
    rw [be_pad] at h3
    have e : beAt (l ++ r) i = beAt l i := by simp only [beAt, List.getD]; rw [List.getElem?_append_left hi]
    rw [e] at h3
    omega
  cases hx : isR fs ss (l ++ r) with
  | false => rfl
  | true =>
    have hn : inspF fs ss (padB (l ++ r)) = none := by simpa [isR] using hx
    exact absurd (.inl ⟨by omega, by omega, by omega⟩) ((insp_none hall hp.ok).1 hn f h0 hf (beAt l i).day)
/-- ████ The right ones of all plans. -/
theorem plans_right {fs : List Fl} {ss : List St} {u : Int} (hall : HallOK fs ss) (hu : u < 0) : ∀ m l, l.length + m = ss.length → PlanOf fs ss (padB l) → (plansF fs ss u m l).filter (isR fs ss) = (extF fs ss m l).filter (isR fs ss)
  | 0, l, _, _ => rfl
  | m + 1, l, hl, hp => by
    have h4 := hall.ns
    have hk : l.length < ss.length := by omega
    have hpb : ∀ b, b ∈ berthsK fs ss freeM l.length → PlanOf fs ss (padB (l ++ [b])) := fun b hb => by
      rw [← padB_set (by omega)]
      exact plan_set hp (by omega) (berth_ok hall hk hb)
    have e : berthsK fs ss freeM l.length = bnone :: floorsFrom (stAt ss l.length) 0 fs.length := by simp [berthsK, freeM]
    have hm : ∀ b, b ∈ floorsFrom (stAt ss l.length) 0 fs.length → b ∈ berthsK fs ss freeM l.length := fun b hb => by rw [e]; exact List.mem_cons_of_mem _ hb
    have h0 : bnone ∈ berthsK fs ss freeM l.length := by rw [e]; exact List.mem_cons_self ..
    rw [plansF, if_pos (.inl hu), if_neg (by omega), extF, e, List.flatMap_cons, List.filter_append, List.filter_append, List.filter_flatMap, List.filter_flatMap]
    congr 1
    · exact plans_right hall hu m _ (by simp; omega) (hpb _ h0)
    · refine fm_congr fun b hb => ?_
      split
      · rename_i hf
        rw [List.filter_nil]
        refine (List.filter_eq_nil_iff.2 fun l' hl' hr => ?_).symm
        obtain ⟨r, rfl⟩ := ext_pre m _ l' hl'
        have hq := ext_plan hall m _ _ (by simp; omega) (hpb b (hm b hb)) hl'
        have hbf := mem_floorsFrom hb
        have hlen : (l ++ [b] ++ r).length = ss.length := by
          have : ∀ m l l', l.length + m = ss.length → l' ∈ extF fs ss m l → l'.length = ss.length := by
            intro m
            induction m with
            | zero => intro l l' h h'; have : l' = l := by simpa [extF] using h'
                      rw [this]; omega
            | succ m ih => intro l l' h h'
                           obtain ⟨c, -, hc⟩ := List.mem_flatMap.1 h'
                           exact ih _ _ (by simp; omega) hc
          exact this m _ _ (by simp; omega) hl'
        have := full_no hall hq (by omega) (by omega) (by omega) hf
        rw [this] at hr; cases hr
      · exact plans_right hall hu m _ (by simp; omega) (hpb b (hm b hb))
theorem plansF_len {fs : List Fl} {ss : List St} {u : Int} (hall : HallOK fs ss) : ∀ m l, l.length + m = ss.length → (plansF fs ss u m l).length ≤ 13 ^ m
  | 0, l, _ => by simp [plansF]
  | m + 1, l, hl => by
    have hb := berths_len hall (show l.length < ss.length by omega)
    have e : berthsK fs ss freeM l.length = bnone :: floorsFrom (stAt ss l.length) 0 fs.length := by simp [berthsK, freeM]
    rw [e, List.length_cons] at hb
    have h1 := plansF_len (fs := fs) (ss := ss) (u := u) hall m (l ++ [bnone]) (by simp; omega)
    have h2 := fm_len (l := floorsFrom (stAt ss l.length) 0 fs.length) (f := fun b => if fullL fs ss (l ++ [b]) b.fl then [] else plansF fs ss u m (l ++ [b])) (n := 13 ^ m) fun b _ => by
      split
      · simp
      · exact plansF_len hall m _ (by simp; omega)
    have h3 : (floorsFrom (stAt ss l.length) 0 fs.length).length * 13 ^ m ≤ 12 * 13 ^ m := Nat.mul_le_mul_right _ (by omega)
    rw [plansF, List.length_append, Nat.pow_succ]
    split <;> split <;> (try simp only [List.length_nil]) <;> omega
end Go.Mus

/- The document's way through all plans. Conditions: none; over the given program. -/
namespace Go.Mus
set_option maxRecDepth 100000
set_option maxHeartbeats 40000000
theorem Rfull_fn (main : Side) (h : Hp) (fs : List Fl) (ss : List St) (l : List Be) (f : Nat) (vf vs vl : Value) (hf : Sl h Fl.row vf fs) (hs : Sl h St.row vs ss) (hl : Sl h Be.row vl l) (hall : HallOK fs ss) (hpl : PlanOf fs ss (padB l)) (hn : l.length ≤ ss.length) (hf0 : f < fs.length) : Pu prog main n_ref_full #[.agg #[vf, vs], vl, I f] h (.bool (fullL fs ss l f)) := by
 have hns := hall.ns
 have hnf := hall.nf
 have hfi : (0 : Int) ≤ f ∧ (f : Int) < fs.length := by omega
 have hx0 := flAt_some hfi.1 hfi.2
 obtain ⟨⟨pl, lo, hi', co⟩, hfa⟩ : ∃ x, flAt fs f = x := ⟨_, rfl⟩
 rw [hfa, Int.toNat_natCast] at hx0
 obtain ⟨a, cap, rfl⟩ := hf.isSl
 obtain ⟨a', cap', rfl⟩ := hs.isSl
 obtain ⟨al, lc, rfl⟩ := hl.isSl
 have hstd : ∀ (h' : Hp) (x : Int), Ext h h' → Pu prog main n_ref_stands #[.agg #[.slice a fs.length cap, .slice a' ss.length cap'], .slice al l.length lc, I f, I x] h' (.agg #[I (sumK (loG fs ss l f x) l.length), I (sumK (hiG fs ss l f x) l.length)]) := fun h' x hE => Rstandsp_fn main h' fs ss l f x _ _ _ (hf.ext hE) (hs.ext hE) (hl.ext hE) hall hpl hn hfi
 obtain ⟨bf, off, cf, E, fz, rfl, hbk, -, hy1, hz1⟩ := hf.at hx0
 have hd0 : cf[off + f * 4 + 0]? = some (I pl) := hz1 0 (by decide)
 clear hz1
 have hfull : fullL fs ss l f = (List.range l.length).any fun i => decide ((beAt l i).fl = f) && decide (pl < sumK (hiG fs ss l f (beAt l i).day) l.length) := by rw [fullL, hfa]
 rw [hfull]
 refine Fnc.of_body at_ref_full rfl (by show 3 ≤ 40; decide) [(0, .agg #[.slice (some ⟨bf, off, none⟩) fs.length cap, .slice a' ss.length cap']), (1, .slice al l.length lc), (2, I f)] ⟨rfl, rfl, rfl, trivial⟩ ?_
 refine W.seq <| W.region rfl ?_
 refine Ops.box (cs := #[.slice (some ⟨bf, off, none⟩) fs.length cap, .slice a' ss.length cap']) (fun β3 => ?_) rfl rfl rfl
 refine qs rfl rfl rfl <| nn <| W.seq <| W.seq <| W.region rfl <| qs rfl rfl rfl <| nn <| W.block ?_
 refine W.loop (σ := Nat) (fun k => k ≤ l.length ∧ ∀ i, i < k → ¬ ((beAt l i).fl = f ∧ pl < sumK (hiG fs ss l f (beAt l i).day) l.length)) (fun k => [(7, I k), (3, .pointer (some ⟨β3, 0, none⟩)), (1, .slice al l.length lc), (2, I f)]) (fun _ => [(β3, .cells #[.slice (some ⟨bf, off, none⟩) fs.length cap, .slice a' ss.length cap'] t_Plant (0, 0))]) (fun k => l.length - k) 0 ⟨Nat.zero_le _, fun i hi => by omega⟩ ⟨rfl, rfl, rfl, rfl, trivial⟩ .refl ?_
 rintro k ⟨hk, hno⟩
 refine W.seq <| W.seq <| W.region rfl <| qm rfl rfl rfl <| qm rfl rfl rfl ?_
 refine o1 (y_len rfl rfl) rfl ?_
 refine o1 (y_lss rfl rfl rfl) rfl ?_
 refine nn ?_
 refine W.condp rfl (fun c11 => ?_) (fun c11 => ?_)
 ·have hk1 : k < l.length := by omega
  have hb0 : l[k]? = some (beAt l k) := by simp [beAt, List.getD, List.getElem?_eq_getElem hk1]
  obtain ⟨bl, offl, cl, El, fzl, rfl, hbl, -, hyl, hzl⟩ := hl.at hb0
  have hfl0 : cl[offl + k * 2 + 0]? = some (I (beAt l k).fl) := hzl 0 (by decide)
  have hfl1 : cl[offl + k * 2 + 1]? = some (I (beAt l k).day) := hzl 1 (by decide)
  clear hzl
  refine W.skip <| thn_n <| W.seq <| W.block <| W.seq ?_
  refine W.drawP1 (n := 26) rfl ?_
  refine a1 0 (y_move rfl rfl) rfl ?_
  refine a1 1 (y_move rfl rfl) rfl ?_
  first | refine a1 2 (yix rfl rfl rfl) rfl ?_ | refine a1 2 (yixI rfl rfl rfl) rfl ?_
  refine a1 3 (y_fieldAddr rfl rfl) rfl ?_
  refine a1 4 (yld rfl rfl) rfl ?_
  refine a1 5 (y_move rfl rfl) rfl ?_
  refine a1 6 (y_eql rfl rfl rfl) rfl ?_
  refine a1 7 (y_move rfl rfl) rfl ?_
  refine Any.ask (d' := 21) (fun a4_8 => ?_) (fun a4_8 => ?_)
  ·first | refine aq (i := 8) (yldW rfl rfl) rfl (wantε_some rfl rfl rfl rfl) rfl rfl ?_ | refine aq (i := 8) (yldA rfl rfl) rfl (wantε_some rfl rfl rfl rfl) rfl rfl ?_
   refine aq (i := 9) (y_move rfl rfl) rfl (wantε_some rfl rfl rfl rfl) rfl rfl ?_
   refine aq (i := 10) (y_move rfl rfl) rfl (wantε_some rfl rfl rfl rfl) rfl rfl ?_
   refine aq (i := 11) (y_move rfl rfl) rfl (wantε_some rfl rfl rfl rfl) rfl rfl ?_
   refine aq (i := 12) (y_move rfl rfl) rfl (wantε_some rfl rfl rfl rfl) rfl rfl ?_
   first | refine aq (i := 13) (yix rfl rfl rfl) rfl (wantε_some rfl rfl rfl rfl) rfl rfl ?_ | refine aq (i := 13) (yixI rfl rfl rfl) rfl (wantε_some rfl rfl rfl rfl) rfl rfl ?_
   refine aq (i := 14) (y_fieldAddr rfl rfl) rfl (wantε_some rfl rfl rfl rfl) rfl rfl ?_
   refine aq (i := 15) (yld rfl rfl) rfl (wantε_some rfl rfl rfl rfl) rfl rfl ?_
   refine aq (i := 18) (y_fieldAddr rfl rfl) rfl (wantε_some rfl rfl rfl rfl) rfl rfl ?_
   refine aq (i := 19) (yld rfl rfl) rfl (wantε_some rfl rfl rfl rfl) rfl rfl ?_
   refine aq (i := 20) (y_move rfl rfl) rfl (wantε_some rfl rfl rfl rfl) rfl rfl ?_
   first | refine aq (i := 21) (yix rfl rfl rfl) rfl (wantε_some rfl rfl rfl rfl) rfl rfl ?_ | refine aq (i := 21) (yixI rfl rfl rfl) rfl (wantε_some rfl rfl rfl rfl) rfl rfl ?_
   refine aq (i := 22) (y_fieldAddr rfl rfl) rfl (wantε_some rfl rfl rfl rfl) rfl rfl ?_
   refine aq (i := 23) (yld rfl rfl) rfl (wantε_some rfl rfl rfl rfl) rfl rfl ?_
   refine acp (i := 16) (vs := [.agg #[.slice (some ⟨bf, off, none⟩) fs.length cap, .slice a' ss.length cap'], .slice (some ⟨bl, offl, none⟩) l.length lc, I f, I (beAt l k).day]) (fun h' hE hL => hstd h' (beAt l k).day hE) ?_
   first | refine aq (i := 17) (y_field rfl rfl rfl) rfl (wantε_some rfl rfl rfl rfl) rfl rfl ?_ | refine aq (i := 17) (y_fieldA rfl rfl rfl) rfl (wantε_some rfl rfl rfl rfl) rfl rfl ?_
   refine aq (i := 24) (y_gtr rfl rfl rfl) rfl (wantε_some rfl rfl rfl rfl) rfl rfl ?_
   refine a1 25 (y_pickT rfl rfl rfl) rfl ?_
   refine az ?_
   refine thn_n ?_
   refine W.condp rfl (fun c39 => ?_) (fun c39 => ?_)
   ·refine W.seq <| W.region rfl <| qs rfl rfl rfl <| nn <| W.ret <| blk_r <| thn_r <| thn_r <| blk_r ?_
    refine thn_r ?_
    refine lvp (hs := .cons rfl .nil) ?_
    refine congrArg Value.bool ?_
    refine (List.any_eq_true.2 ⟨k, List.mem_range.2 hk1, ?_⟩).symm
    rw [Bool.and_eq_true]
    exact ⟨decide_eq_true (by assumption), decide_eq_true (by assumption)⟩
   ·refine W.skip <| blk_n <| thn_n <| W.region rfl <| qm rfl rfl rfl ?_
    refine pq rfl ?_
    refine qs rfl rfl rfl <| nn ?_
    refine ⟨rfl, k + 1, ⟨by omega, fun i hi => ?_⟩, by omega, ⟨rfl, rfl, rfl, rfl, trivial⟩, .refl⟩
    by_cases e : i = k
    ·subst e
     rintro ⟨q1, q2⟩
     first | exact absurd q2 (by assumption) | exact absurd q1 (by assumption)
    ·exact hno i (by omega)
  ·refine ap (i := 8) rfl rfl rfl rfl rfl rfl ?_
   refine ap (i := 9) rfl rfl rfl rfl rfl rfl ?_
   refine ap (i := 10) rfl rfl rfl rfl rfl rfl ?_
   refine ap (i := 11) rfl rfl rfl rfl rfl rfl ?_
   refine ap (i := 12) rfl rfl rfl rfl rfl rfl ?_
   refine ap (i := 13) rfl rfl rfl rfl rfl rfl ?_
   refine ap (i := 14) rfl rfl rfl rfl rfl rfl ?_
   refine ap (i := 15) rfl rfl rfl rfl rfl rfl ?_
   refine ap (i := 18) rfl rfl rfl rfl rfl rfl ?_
   refine ap (i := 19) rfl rfl rfl rfl rfl rfl ?_
   refine ap (i := 20) rfl rfl rfl rfl rfl rfl ?_
   refine ap (i := 21) rfl rfl rfl rfl rfl rfl ?_
   refine ap (i := 22) rfl rfl rfl rfl rfl rfl ?_
   refine ap (i := 23) rfl rfl rfl rfl rfl rfl ?_
   refine ap (i := 16) rfl rfl rfl rfl rfl rfl ?_
   refine ap (i := 17) rfl rfl rfl rfl rfl rfl ?_
   refine ap (i := 24) rfl rfl rfl rfl rfl rfl ?_
   refine a1 25 (y_pickF rfl rfl rfl) rfl ?_
   refine az ?_
   refine thn_n ?_
   refine W.condF ?_
   refine W.skip <| blk_n <| thn_n <| W.region rfl <| qm rfl rfl rfl ?_
   refine pq rfl ?_
   refine qs rfl rfl rfl <| nn ?_
   refine ⟨rfl, k + 1, ⟨by omega, fun i hi => ?_⟩, by omega, ⟨rfl, rfl, rfl, rfl, trivial⟩, .refl⟩
   by_cases e : i = k
   ·subst e
    rintro ⟨q1, q2⟩
    first | exact absurd q2 (by assumption) | exact absurd q1 (by assumption)
   ·exact hno i (by omega)
 ·refine W.exit <| thn_x <| thn_x <| blk_x <| thn_n <| W.seq <| W.region rfl <| qs rfl rfl rfl <| nn ?_
  refine W.ret ?_
  refine lvp (hs := .cons rfl .nil) ?_
  refine congrArg Value.bool ?_
  refine (List.any_eq_false.2 fun i hi => ?_).symm
  rw [List.mem_range] at hi
  have := hno i (by omega)
  rw [Bool.and_eq_true, decide_eq_true_eq, decide_eq_true_eq]
  exact this
end Go.Mus
