/- What stands on a floor, as a sum; when a floor is cold. Conditions: none. (And 5 texts more.) -/
import Derived.Test.YtabnpjbnoedfgaaDoorP13
import Derived.Test.YtabnpjbnoedfgaaDoorP14

/- What stands on a floor, as a sum; when a floor is cold. Conditions: none. -/
namespace Go.Mus

theorem wadd_small {a b : Int} (h0 : 0 ≤ a) (h1 : a ≤ 100000) (h2 : 0 ≤ b) (h3 : b ≤ 100000) : wadd a b = a + b := wrap_id (by omega) (by omega)
/-- The sum over the first k. -/
def sumK (g : Nat → Int) : Nat → Int
  | 0 => 0
  | k + 1 => sumK g k + g k
theorem sumK_le {g g' : Nat → Int} : ∀ {k : Nat}, (∀ i, i < k → g i ≤ g' i) → sumK g k ≤ sumK g' k
  | 0, _ => Int.le_refl _
  | k + 1, h => by
    have h1 := sumK_le (k := k) fun i hi => h i (by omega)
    have h2 := h k (by omega)
    simp only [sumK]; omega
theorem sumK_congr {g g' : Nat → Int} : ∀ {k : Nat}, (∀ i, i < k → g i = g' i) → sumK g k = sumK g' k
  | 0, _ => rfl
  | k + 1, h => by
    have h1 := sumK_congr (k := k) fun i hi => h i (by omega)
    have h2 := h k (by omega)
    simp only [sumK]; omega
theorem sumK_0 : ∀ {k : Nat}, sumK (fun _ => 0) k = 0
  | 0 => rfl
  | k + 1 => by simp [sumK, sumK_0 (k := k)]
theorem sumK_nn {g : Nat → Int} {k : Nat} (h : ∀ i, i < k → 0 ≤ g i) : 0 ≤ sumK g k := by
  have := sumK_le (g := fun _ => 0) (g' := g) (k := k) h
  rwa [sumK_0] at this

/-- Whether a strike may still, and whether it surely does, stand on a floor on a day. -/
def hiG (fs : List Fl) (ss : List St) (p : List Be) (f d : Int) (i : Nat) : Int := if (beAt p i).fl = f ∧ (beAt p i).day ≤ d ∧ d < (beAt p i).day + (flAt fs f).hi then (stAt ss i).co else 0
def loG (fs : List Fl) (ss : List St) (p : List Be) (f d : Int) (i : Nat) : Int := if (beAt p i).fl = f ∧ (beAt p i).day ≤ d ∧ d < (beAt p i).day + (flAt fs f).lo then (stAt ss i).co else 0
def hiAt (fs : List Fl) (ss : List St) (p : List Be) (f d : Int) : Int := sumK (hiG fs ss p f d) 4
def loAt (fs : List Fl) (ss : List St) (p : List Be) (f d : Int) : Int := sumK (loG fs ss p f d) 4

theorem bump_at {d : List Sp} {i j : Nat} {b : Bool} {co : Int} {s : Sp} (h : d[j]? = some s) : (bump d i b co)[j]? = some (if i = j then ⟨if b then wadd s.lo co else s.lo, wadd s.hi co⟩ else s) := by
  by_cases e : i = j
  · subst e
    have hlt : i < d.length := by
      rcases Nat.lt_or_ge i d.length with h' | h'
      · exact h'
      · rw [List.getElem?_eq_none h'] at h; cases h
    simp only [bump, h, if_true, List.getElem?_set_self hlt]
  · rw [if_neg e]
    unfold bump
    split
    · rw [List.getElem?_set_ne e, h]
    · exact h
theorem addSt_at {day lo co : Int} (hday : 0 ≤ day) (hc : 0 ≤ co ∧ co ≤ 1000) {j : Nat} (hj : j < 22) : ∀ (m n : Nat) (D : List Sp) (s : Sp), D[j]? = some s → (day + n ≤ j → 0 ≤ s.lo ∧ s.lo ≤ 90000 ∧ 0 ≤ s.hi ∧ s.hi ≤ 90000) →
    (addSt day lo co m n D)[j]? = some (if day + n ≤ j ∧ (j : Int) < day + n + m then ⟨if (j : Int) < day + lo then s.lo + co else s.lo, s.hi + co⟩ else s)
  | 0, n, D, s, h, _ => by
    rw [addSt, h, if_neg (by omega)]
  | m + 1, n, D, s, h, hs => by
    rw [addSt]
    split
    · rw [h, if_neg (by omega)]
    · rename_i h21
      have hb := bump_at (i := (day + n).toNat) (b := decide ((n : Int) < lo)) (co := co) h
      have ih := addSt_at (lo := lo) hday hc hj m (n + 1) _ _ hb (fun hle => by rw [if_neg (by omega)]; exact hs (by omega))
      rw [ih]
      by_cases e : (day + n).toNat = j
      · have e' : day + n = j := by omega
        obtain ⟨q1, q2, q3, q4⟩ := hs (by omega)
        have c1 : ¬ (day + ((n + 1 : Nat) : Int) ≤ j ∧ (j : Int) < day + ((n + 1 : Nat) : Int) + (m : Nat)) := by omega
        have c2 : day + (n : Int) ≤ j ∧ (j : Int) < day + (n : Int) + ((m + 1 : Nat) : Int) := by omega
        rw [if_pos e, if_neg c1, if_pos c2, wadd_small q1 (by omega) hc.1 (by omega), wadd_small q3 (by omega) hc.1 (by omega)]
        by_cases hl : (n : Int) < lo
        · rw [if_pos (show decide ((n : Int) < lo) = true by simpa using hl), if_pos (show (j : Int) < day + lo by omega)]
        · rw [if_neg (show ¬ decide ((n : Int) < lo) = true by simpa using hl), if_neg (show ¬ (j : Int) < day + lo by omega)]
      · rw [if_neg e]
        by_cases hc2 : day + n ≤ j ∧ (j : Int) < day + n + ((m + 1 : Nat) : Int)
        · rw [if_pos (show day + ((n + 1 : Nat) : Int) ≤ j ∧ (j : Int) < day + ((n + 1 : Nat) : Int) + (m : Nat) by omega), if_pos hc2]
        · rw [if_neg (show ¬ (day + ((n + 1 : Nat) : Int) ≤ j ∧ (j : Int) < day + ((n + 1 : Nat) : Int) + (m : Nat)) by omega), if_neg hc2]

theorem perm_sum {α : Type} (g : α → Int) {l l' : List α} (h : l.Perm l') : (l.map g).sum = (l'.map g).sum := by
  induction h with
  | nil => rfl
  | cons x _ ih => simp only [List.map_cons, List.sum_cons, ih]
  | swap x y l => simp only [List.map_cons, List.sum_cons]; omega
  | trans _ _ ih1 ih2 => exact ih1.trans ih2
theorem onFk_sum {p : List Be} {f : Int} {g : Int → Int} : ∀ (k : Nat), ((onFk p f k).map g).sum = sumK (fun i => if (beAt p i).fl = f then g i else 0) k
  | 0 => rfl
  | k + 1 => by
    simp only [onFk, sumK]
    by_cases h : (beAt p k).fl = f
    · rw [if_pos h, if_pos h, List.map_append, List.sum_append, onFk_sum k]; simp
    · rw [if_neg h, if_neg h, onFk_sum k]; simp
theorem co_ok {fs : List Fl} {ss : List St} (hall : HallOK fs ss) (i : Nat) : 0 ≤ (stAt ss i).co ∧ (stAt ss i).co ≤ 6 := by
  simp only [stAt, List.getD]
  cases h : ss[i]? with
  | none => simp
  | some s => have := hall.st s (List.mem_of_getElem? h); simp; omega
theorem co_pos {fs : List Fl} {ss : List St} (hall : HallOK fs ss) {i : Nat} (hi : i < ss.length) : 1 ≤ (stAt ss i).co := by
  obtain ⟨s, hs, -⟩ := has hi
  have := hall.st s (List.mem_of_getElem? hs)
  simp [stAt, List.getD, hs]; omega
theorem beAt_day {p : List Be} (hp : PlOK p) (i : Nat) : 0 ≤ (beAt p i).day ∧ (beAt p i).day ≤ 17 := by
  rcases Nat.lt_or_ge i 4 with h | h
  · have := (beAt_some hp h).2; omega
  · simp [beAt, List.getD, List.getElem?_eq_none (show p.length ≤ i by have := hp.len; omega), bnone]
theorem fl_ok {fs : List Fl} {ss : List St} (hall : HallOK fs ss) {f : Int} (h0 : 0 ≤ f) (h1 : f < fs.length) : 1 ≤ (flAt fs f).pl ∧ (flAt fs f).pl ≤ 9 ∧ 1 ≤ (flAt fs f).lo ∧ (flAt fs f).lo ≤ (flAt fs f).hi ∧ (flAt fs f).hi ≤ 6 ∧ 0 ≤ (flAt fs f).co ∧ (flAt fs f).co ≤ 9 := by
  obtain ⟨x, hx, -⟩ := has (show f.toNat < fs.length by omega)
  have : flAt fs f = x := by simp [flAt, List.getD, hx]
  rw [this]
  exact hall.fl x (List.mem_of_getElem? hx)

/-- ████ WHAT STANDS, as a sum. -/
theorem standsD_at {fs : List Fl} {ss : List St} {p : List Be} {f : Int} (hall : HallOK fs ss) (hp : PlOK p) (h0 : 0 ≤ f) (h1 : f < fs.length) {j : Nat} (hj : j < 22) : (standsD fs ss p f)[j]? = some ⟨loAt fs ss p f j, hiAt fs ss p f j⟩ := by
  have hfl := fl_ok hall h0 h1
  have key : ∀ (l : List Int) (D : List Sp) (s : Sp), D[j]? = some s → 0 ≤ s.lo → 0 ≤ s.hi → s.lo + 6 * l.length ≤ 9000 → s.hi + 6 * l.length ≤ 9000 →
      (l.foldl (fun d i => addSt (dayOf p i) (flAt fs f).lo (coOf ss i) (flAt fs f).hi.toNat 0 d) D)[j]? = some ⟨s.lo + (l.map fun i => if dayOf p i ≤ j ∧ (j : Int) < dayOf p i + (flAt fs f).lo then coOf ss i else 0).sum, s.hi + (l.map fun i => if dayOf p i ≤ j ∧ (j : Int) < dayOf p i + (flAt fs f).hi then coOf ss i else 0).sum⟩ := by
    intro l
    induction l with
    | nil => intro D s h _ _ _ _; simpa using h
    | cons i l ih =>
      intro D s h q1 q2 q3 q4
      have hco := co_ok hall i.toNat
      have hday := (beAt_day hp i.toNat).1
      have ha := addSt_at (day := dayOf p i) (lo := (flAt fs f).lo) (co := coOf ss i) hday (by have : coOf ss i = (stAt ss i.toNat).co := rfl; omega) hj (flAt fs f).hi.toNat 0 D s h (fun _ => by simp only [List.length_cons] at q3 q4; omega)
      have hcoe : coOf ss i = (stAt ss i.toNat).co := rfl
      simp only [List.length_cons] at q3 q4
      rw [List.foldl_cons]
      by_cases hc : dayOf p i + ((0 : Nat) : Int) ≤ j ∧ (j : Int) < dayOf p i + ((0 : Nat) : Int) + (flAt fs f).hi.toNat
      · rw [if_pos hc] at ha
        by_cases hl : (j : Int) < dayOf p i + (flAt fs f).lo
        · rw [if_pos hl] at ha
          rw [ih _ _ ha (by simp only; omega) (by simp only; omega) (by simp only; omega) (by simp only; omega)]
          simp only [List.map_cons, List.sum_cons]
          rw [if_pos (show dayOf p i ≤ j ∧ (j : Int) < dayOf p i + (flAt fs f).lo by omega), if_pos (show dayOf p i ≤ j ∧ (j : Int) < dayOf p i + (flAt fs f).hi by omega), Int.add_assoc, Int.add_assoc]
        · rw [if_neg hl] at ha
          rw [ih _ _ ha (by simp only; omega) (by simp only; omega) (by simp only; omega) (by simp only; omega)]
          simp only [List.map_cons, List.sum_cons]
          rw [if_neg (show ¬ (dayOf p i ≤ j ∧ (j : Int) < dayOf p i + (flAt fs f).lo) by omega), if_pos (show dayOf p i ≤ j ∧ (j : Int) < dayOf p i + (flAt fs f).hi by omega), Int.add_assoc, Int.zero_add]
      · rw [if_neg hc] at ha
        rw [ih _ _ ha q1 q2 (by omega) (by omega)]
        simp only [List.map_cons, List.sum_cons]
        rw [if_neg (show ¬ (dayOf p i ≤ j ∧ (j : Int) < dayOf p i + (flAt fs f).lo) by omega), if_neg (show ¬ (dayOf p i ≤ j ∧ (j : Int) < dayOf p i + (flAt fs f).hi) by omega), Int.zero_add, Int.zero_add]
  have h00 : days0[j]? = some ⟨0, 0⟩ := by
    simp only [days0, List.getElem?_replicate, hj, if_true]
  have hlen := setL_len (p := p) (f := f)
  have := key (setL p f) days0 ⟨0, 0⟩ h00 (Int.le_refl _) (Int.le_refl _) (by simp only; omega) (by simp only; omega)
  rw [standsD, this]
  have e : ∀ g : Int → Int, ((setL p f).map g).sum = sumK (fun i => if (beAt p i).fl = f then g i else 0) 4 := fun g => by
    rw [setL, perm_sum g (isort_perm _ _), onFk_sum]
  rw [e, e]
  simp only [Int.zero_add, loAt, hiAt]
  congr 2
  · refine sumK_congr fun i _ => ?_
    simp only [loG, dayOf, coOf, Int.toNat_natCast, stAt]
    by_cases h1 : (beAt p i).fl = f <;> simp [h1]
  · refine sumK_congr fun i _ => ?_
    simp only [hiG, dayOf, coOf, Int.toNat_natCast, stAt]
    by_cases h1 : (beAt p i).fl = f <;> simp [h1]

/-! The first day that is too full -/
theorem fullF_none {pl : Int} : ∀ {D : List Sp} {k : Nat}, fullF pl D k = none ↔ ∀ (i : Nat) (s : Sp), D[i]? = some s → s.hi ≤ pl
  | [], k => by simp [fullF]
  | s :: D, k => by
    rw [fullF]
    split
    · rename_i h
      constructor
      · intro h'; cases h'
      · intro h'; have := h' 0 s rfl; omega
    · rename_i h
      rw [fullF_none (D := D) (k := k + 1)]
      constructor
      · intro h' i t ht
        cases i with
        | zero => simp at ht; subst ht; omega
        | succ i => exact h' i t (by simpa using ht)
      · intro h' i t ht; exact h' (i + 1) t (by simpa using ht)
theorem fullF_some {pl : Int} : ∀ {D : List Sp} {k : Nat} {q : Bool × Int}, fullF pl D k = some q → q.1 = false ∧ ∃ (i : Nat) (s : Sp), q.2 = ((k + i : Nat) : Int) ∧ D[i]? = some s ∧ pl < s.hi ∧ ∀ (i' : Nat) (s' : Sp), i' < i → D[i']? = some s' → s'.hi ≤ pl
  | [], k, q, h => by cases h
  | s :: D, k, q, h => by
    rw [fullF] at h
    split at h
    · rename_i h1
      cases h
      exact ⟨rfl, 0, s, rfl, rfl, h1, fun i' s' hi => by omega⟩
    · rename_i h1
      obtain ⟨h2, i, t, h3, h4, h5, h6⟩ := fullF_some h
      refine ⟨h2, i + 1, t, by rw [h3]; congr 1; omega, by simpa using h4, h5, fun i' s' hi hs => ?_⟩
      cases i' with
      | zero => simp at hs; subst hs; omega
      | succ i' => exact h6 i' s' (by omega) (by simpa using hs)
theorem over_iff {pl : Int} : ∀ {D : List Sp}, over pl D = true ↔ ∃ (i : Nat) (s : Sp), D[i]? = some s ∧ pl < s.hi
  | [] => by simp [over]
  | s :: D => by
    rw [over]
    split
    · rename_i h
      exact ⟨fun _ => ⟨0, s, rfl, h⟩, fun _ => rfl⟩
    · rename_i h
      rw [over_iff (D := D)]
      constructor
      · rintro ⟨i, t, h1, h2⟩; exact ⟨i + 1, t, by simpa using h1, h2⟩
      · rintro ⟨i, t, h1, h2⟩
        cases i with
        | zero => simp at h1; subst h1; exact absurd h2 h
        | succ i => exact ⟨i, t, by simpa using h1, h2⟩

/-! Sorted -/
abbrev Srt (key : Int → Int) (l : List Int) : Prop := l.Pairwise fun a b => key a ≤ key b
theorem sink_srt {key : Int → Int} : ∀ (j : Nat) (A C : List Int) (x : Int), A.length = j → Srt key A → ∃ R, sink key j (A ++ x :: C) = R ++ C ∧ R.length = j + 1 ∧ Srt key R ∧ R.Perm (x :: A)
  | 0, A, C, x, h, _ => by
    have : A = [] := List.length_eq_zero_iff.1 h
    subst this
    exact ⟨[x], rfl, rfl, List.pairwise_singleton _ _, .refl _⟩
  | j + 1, A, C, x, h, hs => by
    obtain ⟨A', a, rfl⟩ : ∃ A' a, A = A' ++ [a] := ⟨A.dropLast, A.getLast (by intro e; subst e; simp at h), (List.dropLast_concat_getLast _).symm⟩
    have hl : A'.length = j := by simpa using h
    have ha : (A' ++ [a] ++ x :: C)[j]? = some a := by simp [← hl]
    have hx : (A' ++ [a] ++ x :: C)[j + 1]? = some x := by simp [← hl]
    rw [Srt, List.pairwise_append] at hs
    rw [sink]
    simp only [ha, hx]
    split
    · rename_i hk
      have e : swp (A' ++ [a] ++ x :: C) j a x = A' ++ x :: a :: C := by
        simp [swp, ← hl, List.set_append]
      rw [e]
      obtain ⟨R, h1, h2, h3, h4⟩ := sink_srt j A' (a :: C) x hl hs.1
      refine ⟨R ++ [a], by rw [h1]; simp, by simp [h2], ?_, ?_⟩
      · rw [Srt, List.pairwise_append]
        refine ⟨h3, List.pairwise_singleton _ _, fun b hb c hc => ?_⟩
        have hc' : c = a := by simpa using hc
        subst hc'
        rcases List.mem_cons.1 (h4.subset hb) with rfl | hb
        · omega
        · exact hs.2.2 b hb c (by simp)
      · exact (h4.append_right [a])
    · rename_i hk
      refine ⟨A' ++ [a, x], by simp, by simp [hl], ?_, ?_⟩
      · rw [Srt, List.pairwise_append]
        refine ⟨hs.1, by simp; omega, fun b hb c hc => ?_⟩
        have hba := hs.2.2 b hb a (by simp)
        rcases List.mem_cons.1 hc with rfl | hc
        · exact hba
        · have : c = x := by simpa using hc
          subst this; omega
      · have : (A' ++ [a, x]) = (A' ++ [a]) ++ [x] := by simp
        rw [this]
        exact List.perm_append_comm
theorem isortN_srt {key : Int → Int} {l : List Int} : ∀ i, i < l.length → ∃ R, isortN key l i = R ++ l.drop (i + 1) ∧ R.length = i + 1 ∧ Srt key R
  | 0, h => by
    obtain ⟨x, hx, hd⟩ := has h
    exact ⟨[x], by rw [isortN]; simpa using hd, rfl, List.pairwise_singleton _ _⟩
  | i + 1, h => by
    obtain ⟨R, h1, h2, h3⟩ := isortN_srt (key := key) (l := l) i (by omega)
    obtain ⟨x, hx, hd⟩ := has h
    rw [isortN, h1, hd]
    obtain ⟨R', h4, h5, h6, -⟩ := sink_srt (key := key) (i + 1) R (l.drop (i + 2)) x h2 h3
    exact ⟨R', h4, h5, h6⟩
theorem isort_srt {key : Int → Int} {l : List Int} : Srt key (isort key l) := by
  rcases Nat.eq_zero_or_pos l.length with h | h
  · have : l = [] := List.length_eq_zero_iff.1 h
    subst this; exact .nil
  · obtain ⟨R, h1, h2, h3⟩ := isortN_srt (key := key) (l.length - 1) (show l.length - 1 < l.length by omega)
    rw [isort, h1, List.drop_eq_nil_of_le (by omega), List.append_nil]
    exact h3

/-! When a floor is cold -/
/-- The first cold day, of days in order. -/
def coldL (co lo : Int) : List Int → Int → Option Int
  | [], _ => none
  | d :: r, u => if 0 ≤ u ∧ u + co < d then some (u + co) else coldL co lo r (max u (d + lo))
/-- The earlier one. -/
def merge (fd : Fault) (c : Option Int) : Fault := match c with
  | none => fd
  | some n => if early n fd = true then some (true, n) else fd
theorem coldL_ge {co lo : Int} (hlo : 0 ≤ lo) : ∀ {l : List Int} {u n : Int}, coldL co lo l u = some n → u + co ≤ n
  | [], _, _, h => by cases h
  | d :: r, u, n, h => by
    rw [coldL] at h
    split at h
    · cases h; exact Int.le_refl _
    · have := coldL_ge hlo h; omega
theorem lookS_fold {co lo : Int} (hlo : 1 ≤ lo ∧ lo ≤ 6) (hco : 0 ≤ co ∧ co ≤ 9) : ∀ (ds : List Int) (fd : Fault) (u : Int), -1 ≤ u → u ≤ 100 → (∀ d ∈ ds, 0 ≤ d ∧ d ≤ 17) → (ds.foldl (fun s d => lookS co lo d s) (fd, u)).1 = merge fd (coldL co lo ds u)
  | [], fd, u, _, _, _ => rfl
  | d :: r, fd, u, h1, h2, hd => by
    have hd0 := hd d (List.mem_cons_self ..)
    have ew : wadd u co = u + co := wrap_id (by omega) (by omega)
    have hm : max u (d + lo) ≤ 100 ∧ -1 ≤ max u (d + lo) := by omega
    rw [List.foldl_cons, lookS, lookS_fold hlo hco r _ _ hm.2 hm.1 (fun x hx => hd x (List.mem_cons_of_mem _ hx)), ew, coldL]
    simp only
    by_cases hc : 0 ≤ u ∧ u + co < d
    · rw [if_pos hc]
      have hge : ∀ n, coldL co lo r (max u (d + lo)) = some n → u + co < n := fun n hn => by
        have := coldL_ge (by omega) hn; omega
      have hmm : ∀ fd', (fd' = some (true, u + co) ∨ early (u + co) fd' = false) → merge fd' (coldL co lo r (max u (d + lo))) = fd' := by
        intro fd' hf
        cases hn : coldL co lo r (max u (d + lo)) with
        | none => rfl
        | some n =>
          have := hge n hn
          simp only [merge]
          rw [if_neg]
          rcases hf with rfl | hf
          · simp [early]; omega
          · cases fd' with
            | none => simp [early] at hf
            | some q => simp [early] at hf ⊢; omega
      by_cases he : early (u + co) fd = true
      · rw [if_pos ⟨hc.1, hc.2, he⟩, hmm _ (.inl rfl)]
        simp [merge, he]
      · rw [if_neg (fun h => he h.2.2), hmm _ (.inr (by simpa using he))]
        simp [merge, he]
    · rw [if_neg (fun h => hc ⟨h.1, h.2.1⟩), if_neg hc]
theorem merge_none {fd : Fault} {c : Option Int} : merge fd c = none ↔ fd = none ∧ c = none := by
  cases c with
  | none => simp [merge]
  | some n =>
    simp only [merge]
    constructor
    · intro h
      split at h
      · cases h
      · rename_i h1; subst h; simp [early] at h1
    · rintro ⟨_, h⟩; cases h
/-- .. from the earliest time at which the one before is gone. -/
theorem coldL_srt {co lo : Int} (hlo : 1 ≤ lo) : ∀ {ds : List Int} {e : Int}, 0 ≤ e → (∀ d ∈ ds, e ≤ d) → ds.Pairwise (· ≤ ·) →
    (∀ n, coldL co lo ds (e + lo) = some n → ∃ a, (a = e ∨ a ∈ ds) ∧ n = a + lo + co ∧ (∃ b ∈ ds, n < b) ∧ ∀ b ∈ ds, b ≤ a ∨ n < b) ∧
    (coldL co lo ds (e + lo) = none → ∀ a, (a = e ∨ a ∈ ds) → ∀ b ∈ ds, a + lo + co < b → ∃ c ∈ ds, a < c ∧ c ≤ a + lo + co) ∧
    (∀ n, coldL co lo ds (e + lo) = some n → ∀ a, (a = e ∨ a ∈ ds) → a + lo + co < n → ∀ b ∈ ds, a + lo + co < b → ∃ c ∈ ds, a < c ∧ c ≤ a + lo + co)
  | [], e, _, _, _ => ⟨fun n h => (by cases h), fun _ a _ b hb => (by simp at hb), fun n h => (by cases h)⟩
  | d :: r, e, h0, hge, hs => by
    have hd := hge d (List.mem_cons_self ..)
    rw [List.pairwise_cons] at hs
    have hm : max (e + lo) (d + lo) = d + lo := by omega
    have he0 : 0 ≤ e + lo := by omega
    rw [coldL, hm]
    by_cases hc : 0 ≤ e + lo ∧ e + lo + co < d
    · rw [if_pos hc]
      refine ⟨fun n h => ?_, fun h => (by cases h), fun n h a ha hlt => ?_⟩
      · cases h
        refine ⟨e, .inl rfl, rfl, ⟨d, List.mem_cons_self .., hc.2⟩, fun b hb => .inr ?_⟩
        rcases List.mem_cons.1 hb with rfl | hb
        · exact hc.2
        · have := hs.1 b hb; omega
      · cases h
        rcases ha with rfl | ha
        · omega
        · have := hge a ha; omega
    · rw [if_neg hc]
      have hne : ¬ e + lo + co < d := fun h => hc ⟨he0, h⟩
      obtain ⟨i1, i2, i3⟩ := coldL_srt (co := co) hlo (ds := r) (e := d) (by omega) hs.1 hs.2
      have step : (∀ a, (a = d ∨ a ∈ r) → ∀ b ∈ r, a + lo + co < b → ∃ c ∈ r, a < c ∧ c ≤ a + lo + co) → ∀ a, (a = e ∨ a ∈ d :: r) → ∀ b ∈ d :: r, a + lo + co < b → ∃ c ∈ d :: r, a < c ∧ c ≤ a + lo + co := by
        intro H a ha b hb hlt
        have hb' : b ∈ r ∨ b = d := (List.mem_cons.1 hb).symm
        rcases ha with rfl | ha
        · -- the one before
          rcases hb' with hb' | rfl
          · by_cases hde : a < d
            · exact ⟨d, List.mem_cons_self .., hde, by omega⟩
            · have : d = a := by omega
              subst this
              obtain ⟨c, hc1, hc2⟩ := H d (.inl rfl) b hb' hlt
              exact ⟨c, List.mem_cons_of_mem _ hc1, hc2⟩
          · omega
        · have ha' : a = d ∨ a ∈ r := List.mem_cons.1 ha
          rcases hb' with hb' | rfl
          · obtain ⟨c, hc1, hc2⟩ := H a ha' b hb' hlt
            exact ⟨c, List.mem_cons_of_mem _ hc1, hc2⟩
          · rcases ha' with rfl | ha'
            · omega
            · have := hs.1 a ha'; omega
      refine ⟨fun n h => ?_, fun h => step (i2 h), fun n h => ?_⟩
      · obtain ⟨a, ha, hn, ⟨b, hb, hb2⟩, hall⟩ := i1 n h
        have had : d ≤ a := by
          rcases ha with rfl | ha
          · exact Int.le_refl _
          · exact hs.1 a ha
        refine ⟨a, .inr (by rcases ha with rfl | ha <;> simp [*]), hn, ⟨b, List.mem_cons_of_mem _ hb, hb2⟩, fun c hc => ?_⟩
        rcases List.mem_cons.1 hc with rfl | hc
        · exact .inl had
        · exact hall c hc
      · intro a ha hlt b hb hlt2
        have hn := coldL_ge (by omega) h
        rcases ha with rfl | ha
        · by_cases hde : a < d
          · exact ⟨d, List.mem_cons_self .., hde, by omega⟩
          · have hda : d = a := by omega
            subst hda
            rcases List.mem_cons.1 hb with rfl | hb
            · omega
            · obtain ⟨c, hc1, hc2⟩ := i3 n h d (.inl rfl) hlt b hb hlt2
              exact ⟨c, List.mem_cons_of_mem _ hc1, hc2⟩
        · rcases List.mem_cons.1 ha with rfl | ha
          · rcases List.mem_cons.1 hb with rfl | hb
            · omega
            · obtain ⟨c, hc1, hc2⟩ := i3 n h a (.inl rfl) hlt b hb hlt2
              exact ⟨c, List.mem_cons_of_mem _ hc1, hc2⟩
          · have := hs.1 a ha
            rcases List.mem_cons.1 hb with rfl | hb
            · omega
            · obtain ⟨c, hc1, hc2⟩ := i3 n h a (.inr ha) hlt b hb hlt2
              exact ⟨c, List.mem_cons_of_mem _ hc1, hc2⟩
end Go.Mus

/- Which plans are wrong, where, and when; which plans a search finds. Conditions: none. -/
namespace Go.Mus

/-- A strike is set on a floor on a day. -/
def OnDay (p : List Be) (f a : Int) : Prop := ∃ i, i < 4 ∧ (beAt p i).fl = f ∧ (beAt p i).day = a
def Cold (fs : List Fl) (p : List Be) (f n : Int) : Prop := ∃ a, OnDay p f a ∧ n = a + (flAt fs f).lo + (flAt fs f).co ∧ (∃ b, OnDay p f b ∧ n < b) ∧ ∀ b, OnDay p f b → b ≤ a ∨ n < b
def Full (fs : List Fl) (ss : List St) (p : List Be) (f n : Int) : Prop := 0 ≤ n ∧ n < 22 ∧ (flAt fs f).pl < hiAt fs ss p f n
def Bad (fs : List Fl) (ss : List St) (p : List Be) (f n : Int) : Prop := Full fs ss p f n ∨ Cold fs p f n

theorem onFk_iff {p : List Be} {f : Int} : ∀ {k : Nat} {a : Int}, a ∈ onFk p f k ↔ ∃ i, i < k ∧ (beAt p i).fl = f ∧ a = (i : Int)
  | 0, a => by simp [onFk]
  | k + 1, a => by
    rw [onFk]
    split
    · rename_i h
      rw [List.mem_append, onFk_iff (k := k)]
      constructor
      · rintro (⟨i, h1, h2, h3⟩ | h1)
        · exact ⟨i, by omega, h2, h3⟩
        · exact ⟨k, by omega, h, by simpa using h1⟩
      · rintro ⟨i, h1, h2, h3⟩
        by_cases e : i = k
        · subst e; right; simpa using h3
        · left; exact ⟨i, by omega, h2, h3⟩
    · rename_i h
      rw [onFk_iff (k := k)]
      constructor
      · rintro ⟨i, h1, h2, h3⟩; exact ⟨i, by omega, h2, h3⟩
      · rintro ⟨i, h1, h2, h3⟩
        by_cases e : i = k
        · subst e; exact absurd h2 h
        · exact ⟨i, by omega, h2, h3⟩
theorem days_iff {p : List Be} {f a : Int} : a ∈ (setL p f).map (dayOf p) ↔ OnDay p f a := by
  simp only [List.mem_map, setL, (isort_perm _ _).mem_iff, onFk_iff, OnDay]
  constructor
  · rintro ⟨x, ⟨i, h1, h2, rfl⟩, h3⟩; exact ⟨i, h1, h2, by simpa [dayOf] using h3⟩
  · rintro ⟨i, h1, h2, h3⟩; exact ⟨i, ⟨i, h1, h2, rfl⟩, by simpa [dayOf] using h3⟩
theorem onDay_ge {p : List Be} {f a : Int} (hp : PlOK p) (h : OnDay p f a) : 0 ≤ a ∧ a ≤ 17 := by
  obtain ⟨i, _, _, rfl⟩ := h
  exact beAt_day hp i

theorem lookF_eq {fs : List Fl} {ss : List St} {p : List Be} {f : Int} (hall : HallOK fs ss) (hp : PlOK p) (h0 : 0 ≤ f) (h1 : f < fs.length) :
    ∃ c, lookF fs ss p f = merge (fullF (flAt fs f).pl (standsD fs ss p f) 0) c ∧ (∀ n, c = some n → Cold fs p f n ∧ ∀ n', n' < n → ¬ Cold fs p f n') ∧ (c = none → ∀ n, ¬ Cold fs p f n) := by
  have hfl := fl_ok hall h0 h1
  refine ⟨coldL (flAt fs f).co (flAt fs f).lo ((setL p f).map (dayOf p)) (-1), ?_, ?_⟩
  · rw [← lookS_fold ⟨hfl.2.2.1, by omega⟩ ⟨hfl.2.2.2.2.2.1, hfl.2.2.2.2.2.2⟩ _ _ _ (Int.le_refl _) (by decide) (fun d hd => onDay_ge hp (days_iff.1 hd)), lookF, List.foldl_map]
  have hs : ((setL p f).map (dayOf p)).Pairwise (· ≤ ·) := by
    rw [List.pairwise_map]; exact isort_srt
  have hd : ∀ a, a ∈ (setL p f).map (dayOf p) ↔ OnDay p f a := fun a => days_iff
  cases hl : (setL p f).map (dayOf p) with
  | nil =>
    rw [hl] at hd
    refine ⟨fun n h => (by cases h), fun _ n hn => ?_⟩
    obtain ⟨a, ha, _⟩ := hn
    have := (hd a).2 ha
    cases this
  | cons d r =>
    rw [hl] at hs hd
    rw [List.pairwise_cons] at hs
    have hd0 := (onDay_ge hp ((hd d).1 (List.mem_cons_self ..))).1
    have e : coldL (flAt fs f).co (flAt fs f).lo (d :: r) (-1) = coldL (flAt fs f).co (flAt fs f).lo r (d + (flAt fs f).lo) := by
      rw [coldL, if_neg (by omega)]; congr 1; omega
    obtain ⟨i1, i2, i3⟩ := coldL_srt (co := (flAt fs f).co) hfl.2.2.1 (ds := r) (e := d) hd0 hs.1 hs.2
    have hm : ∀ a, (a = d ∨ a ∈ r) ↔ OnDay p f a := fun a => by rw [← hd]; exact List.mem_cons.symm
    have hr : ∀ a b, OnDay p f a → OnDay p f b → a < b → b ∈ r := fun a b ha hb hlt => by
      rcases (hm b).2 hb with rfl | h
      · rcases (hm a).2 ha with rfl | h'
        · omega
        · have := hs.1 a h'; omega
      · exact h
    rw [e]
    refine ⟨fun n h => ⟨?_, fun n' hn' hc => ?_⟩, fun h n hc => ?_⟩
    · obtain ⟨a, ha, hn, ⟨b, hb, hb2⟩, hal⟩ := i1 n h
      refine ⟨a, (hm a).1 ha, hn, ⟨b, (hm b).1 (.inr hb), hb2⟩, fun c hc => ?_⟩
      rcases (hm c).2 hc with rfl | hc
      · left
        rcases ha with rfl | ha
        · exact Int.le_refl _
        · exact hs.1 a ha
      · exact hal c hc
    · obtain ⟨a, ha, rfl, ⟨b, hb, hb2⟩, hal⟩ := hc
      obtain ⟨c, hc1, hc2, hc3⟩ := i3 n h a ((hm a).2 ha) hn' b (hr a b ha hb (by omega)) hb2
      have := hal c ((hm c).1 (.inr hc1)); omega
    · obtain ⟨a, ha, rfl, ⟨b, hb, hb2⟩, hal⟩ := hc
      obtain ⟨c, hc1, hc2, hc3⟩ := i2 h a ((hm a).2 ha) b (hr a b ha hb (by omega)) hb2
      have := hal c ((hm c).1 (.inr hc1)); omega

theorem full_none {fs : List Fl} {ss : List St} {p : List Be} {f : Int} (hall : HallOK fs ss) (hp : PlOK p) (h0 : 0 ≤ f) (h1 : f < fs.length) : fullF (flAt fs f).pl (standsD fs ss p f) 0 = none ↔ ∀ n, ¬ Full fs ss p f n := by
  rw [fullF_none]
  constructor
  · rintro h n ⟨n0, n1, n2⟩
    obtain ⟨j, rfl⟩ : ∃ j : Nat, n = j := ⟨n.toNat, by omega⟩
    have := h j _ (standsD_at hall hp h0 h1 (by omega))
    simp only at this; omega
  · intro h i s hs
    have hi : i < 22 := by
      rcases Nat.lt_or_ge i 22 with h' | h'
      · exact h'
      · rw [List.getElem?_eq_none (by rw [standsD_len]; exact h')] at hs; cases hs
    rw [standsD_at hall hp h0 h1 hi] at hs
    cases hs
    exact Int.not_lt.1 fun hlt => h i ⟨by omega, by omega, hlt⟩
theorem full_some {fs : List Fl} {ss : List St} {p : List Be} {f : Int} {q : Bool × Int} (hall : HallOK fs ss) (hp : PlOK p) (h0 : 0 ≤ f) (h1 : f < fs.length) (h : fullF (flAt fs f).pl (standsD fs ss p f) 0 = some q) : Full fs ss p f q.2 ∧ ∀ n', n' < q.2 → ¬ Full fs ss p f n' := by
  obtain ⟨-, i, s, h2, h3, h4, h5⟩ := fullF_some h
  have hi : i < 22 := by
    rcases Nat.lt_or_ge i 22 with h' | h'
    · exact h'
    · rw [List.getElem?_eq_none (by rw [standsD_len]; exact h')] at h3; cases h3
  rw [standsD_at hall hp h0 h1 hi] at h3
  cases h3
  rw [Nat.zero_add] at h2
  rw [h2]
  refine ⟨⟨by omega, by omega, h4⟩, ?_⟩
  rintro n' hn' ⟨q0, q1, q2⟩
  obtain ⟨j, rfl⟩ : ∃ j : Nat, n' = j := ⟨n'.toNat, by omega⟩
  have := h5 j _ (by omega) (standsD_at hall hp h0 h1 (by omega))
  simp only at this; omega

theorem look_none {fs : List Fl} {ss : List St} {p : List Be} {f : Int} (hall : HallOK fs ss) (hp : PlOK p) (h0 : 0 ≤ f) (h1 : f < fs.length) : lookF fs ss p f = none ↔ ∀ n, ¬ Bad fs ss p f n := by
  obtain ⟨c, hc, hs, hn⟩ := lookF_eq hall hp h0 h1
  rw [hc, merge_none, full_none hall hp h0 h1]
  constructor
  · rintro ⟨h2, h3⟩ n (hb | hb)
    · exact h2 n hb
    · exact hn h3 n hb
  · intro h
    refine ⟨fun n hb => h n (.inl hb), ?_⟩
    cases c with
    | none => rfl
    | some n => exact absurd (.inr (hs n rfl).1) (h n)
theorem look_some {fs : List Fl} {ss : List St} {p : List Be} {f : Int} {q : Bool × Int} (hall : HallOK fs ss) (hp : PlOK p) (h0 : 0 ≤ f) (h1 : f < fs.length) (h : lookF fs ss p f = some q) : Bad fs ss p f q.2 ∧ ∀ n', n' < q.2 → ¬ Bad fs ss p f n' := by
  obtain ⟨c, hc, hs, hn⟩ := lookF_eq hall hp h0 h1
  rw [hc] at h
  cases hf : fullF (flAt fs f).pl (standsD fs ss p f) 0 with
  | none =>
    rw [hf] at h
    have hf' := (full_none hall hp h0 h1).1 hf
    cases c with
    | none => cases h
    | some n =>
      have : q = (true, n) := by simpa [merge, early] using h.symm
      subst this
      obtain ⟨a1, a2⟩ := hs n rfl
      exact ⟨.inr a1, fun n' hn' hb => hb.elim (hf' n') (a2 n' hn')⟩
  | some q' =>
    rw [hf] at h
    obtain ⟨b1, b2⟩ := full_some hall hp h0 h1 hf
    cases c with
    | none =>
      have : q' = q := by simpa [merge] using h
      subst this
      exact ⟨.inl b1, fun n' hn' hb => hb.elim (b2 n' hn') (hn rfl n')⟩
    | some n =>
      obtain ⟨a1, a2⟩ := hs n rfl
      simp only [merge, early, decide_eq_true_eq] at h
      split at h
      · rename_i hlt
        have : q = (true, n) := by simpa using h.symm
        subst this
        exact ⟨.inr a1, fun n' hn' hb => hb.elim (b2 n' (by simp only at hn'; omega)) (a2 n' hn')⟩
      · rename_i hlt
        have : q' = q := by simpa using h
        subst this
        exact ⟨.inl b1, fun n' hn' hb => hb.elim (b2 n' hn') (a2 n' (by omega))⟩

theorem inspN_spec {fs : List Fl} {ss : List St} {p : List Be} (hall : HallOK fs ss) (hp : PlOK p) : ∀ k, k ≤ fs.length →
    (inspN fs ss p k = none → ∀ f : Int, 0 ≤ f → f < k → ∀ n, ¬ Bad fs ss p f n) ∧
    (∀ c n f, inspN fs ss p k = some ((c, n), f) → 0 ≤ f ∧ f < k ∧ Bad fs ss p f n ∧ ∀ g n' : Int, 0 ≤ g → g < k → Bad fs ss p g n' → n < n' ∨ n = n' ∧ f ≤ g)
  | 0, _ => ⟨fun _ f h0 h1 => by omega, fun c n f h => (by cases h)⟩
  | k + 1, hk => by
    obtain ⟨i1, i2⟩ := inspN_spec hall hp k (by omega)
    have l1 := look_none hall hp (show (0 : Int) ≤ k by omega) (show (k : Int) < fs.length by omega)
    have l2 := fun q => look_some (q := q) hall hp (show (0 : Int) ≤ k by omega) (show (k : Int) < fs.length by omega)
    rw [inspN]
    cases hl : lookF fs ss p k with
    | none =>
      have l1' := l1.1 hl
      simp only [inspS]
      refine ⟨fun h f h0 h1 n => ?_, fun c n f h => ?_⟩
      · by_cases e : f = k
        · subst e; exact l1' n
        · exact i1 h f h0 (by omega) n
      · obtain ⟨a0, a1, a2, a3⟩ := i2 c n f h
        refine ⟨a0, by omega, a2, fun g n' g0 g1 hb => ?_⟩
        by_cases e : g = k
        · subst e; exact absurd hb (l1' n')
        · exact a3 g n' g0 (by omega) hb
    | some z =>
      obtain ⟨z1, z2⟩ := l2 z hl
      simp only [inspS]
      cases hi : inspN fs ss p k with
      | none =>
        simp only [inspB, if_true]
        refine ⟨fun h => (by cases h), fun c n f h => ?_⟩
        simp only [Option.some.injEq, Prod.mk.injEq] at h
        obtain ⟨rfl, rfl⟩ := h
        refine ⟨by omega, by omega, z1, fun g n' g0 g1 hb => ?_⟩
        by_cases e : g = k
        · subst e
          rcases Int.lt_trichotomy n n' with h | h | h
          · exact .inl h
          · exact .inr ⟨h, Int.le_refl _⟩
          · exact absurd hb (z2 n' h)
        · exact absurd hb (i1 hi g g0 (by omega) n')
      | some w =>
        obtain ⟨⟨cw, nw⟩, fw⟩ := w
        obtain ⟨a0, a1, a2, a3⟩ := i2 cw nw fw hi
        simp only [inspB, decide_eq_true_eq]
        split
        · rename_i hlt
          refine ⟨fun h => (by cases h), fun c n f h => ?_⟩
          simp only [Option.some.injEq, Prod.mk.injEq] at h
          obtain ⟨rfl, rfl⟩ := h
          refine ⟨by omega, by omega, z1, fun g n' g0 g1 hb => ?_⟩
          by_cases e : g = k
          · subst e
            rcases Int.lt_trichotomy n n' with h | h | h
            · exact .inl h
            · exact .inr ⟨h, Int.le_refl _⟩
            · exact absurd hb (z2 n' h)
          · have := a3 g n' g0 (by omega) hb
            simp only at hlt; left; omega
        · rename_i hlt
          refine ⟨fun h => (by cases h), fun c n f h => ?_⟩
          simp only [Option.some.injEq, Prod.mk.injEq] at h
          obtain ⟨⟨rfl, rfl⟩, rfl⟩ := h
          refine ⟨a0, by omega, a2, fun g n' g0 g1 hb => ?_⟩
          by_cases e : g = k
          · subst e
            have : ¬ n' < z.2 := fun h => z2 n' h hb
            rcases Int.lt_trichotomy nw n' with h | h | h
            · exact .inl h
            · exact .inr ⟨h, by omega⟩
            · omega
          · exact a3 g n' g0 (by omega) hb
/-- ████ A PLAN IS RIGHT if nothing is wrong. -/
theorem insp_none {fs : List Fl} {ss : List St} {p : List Be} (hall : HallOK fs ss) (hp : PlOK p) : inspF fs ss p = none ↔ ∀ f : Int, 0 ≤ f → f < fs.length → ∀ n, ¬ Bad fs ss p f n := by
  obtain ⟨i1, i2⟩ := inspN_spec hall hp fs.length (Nat.le_refl _)
  constructor
  · intro h f h0 h1 n; exact i1 h f h0 h1 n
  · intro h
    cases hi : inspF fs ss p with
    | none => rfl
    | some w =>
      obtain ⟨⟨c, n⟩, f⟩ := w
      obtain ⟨a0, a1, a2, _⟩ := i2 c n f hi
      exact absurd a2 (h f a0 a1 n)
/-- ████ .. and the first fault is the first that is. -/
theorem insp_some {fs : List Fl} {ss : List St} {p : List Be} (hall : HallOK fs ss) (hp : PlOK p) {c : Bool} {n f : Int} (h : inspF fs ss p = some ((c, n), f)) : 0 ≤ f ∧ f < fs.length ∧ Bad fs ss p f n ∧ ∀ g n' : Int, 0 ≤ g → g < fs.length → Bad fs ss p g n' → n < n' ∨ n = n' ∧ f ≤ g :=
  (inspN_spec hall hp fs.length (Nat.le_refl _)).2 c n f h

/-! What a search finds -/
/-- A plan in which each strike has one of its berths. -/
structure Valid (fs : List Fl) (ss : List St) (may : May) (p : List Be) : Prop where
  len : p.length = 4
  at_ : ∀ i, i < ss.length → beAt p i ∈ berthsK fs ss may i
  out : ∀ i, ss.length ≤ i → beAt p i = bnone
theorem beAt_set {p : List Be} {k i : Nat} {b : Be} (hk : k < p.length) : beAt (p.set k b) i = if i = k then b else beAt p i := by
  simp only [beAt, List.getD]
  by_cases e : i = k
  · subst e; rw [if_pos rfl, List.getElem?_set_self hk]; rfl
  · rw [if_neg e, List.getElem?_set_ne (Ne.symm e)]
theorem beAt_ext {p q : List Be} (h1 : p.length = 4) (h2 : q.length = 4) (h : ∀ i, i < 4 → beAt p i = beAt q i) : p = q := by
  apply List.ext_getElem?
  intro i
  rcases Nat.lt_or_ge i 4 with hi | hi
  · have := h i hi
    simp only [beAt, List.getD, List.getElem?_eq_getElem (show i < p.length by omega), List.getElem?_eq_getElem (show i < q.length by omega), Option.getD_some] at this ⊢
    rw [this]
  · rw [List.getElem?_eq_none (by omega), List.getElem?_eq_none (by omega)]
/-- The more is set, the more stands. -/
theorem hi_mono {fs : List Fl} {ss : List St} {p q : List Be} {f d : Int} (hall : HallOK fs ss) (hf : 0 ≤ f) (h : ∀ i, i < 4 → beAt q i = beAt p i ∨ (beAt q i).fl < 0) : hiAt fs ss q f d ≤ hiAt fs ss p f d := by
  refine sumK_le fun i hi => ?_
  have hc := (co_ok hall i).1
  rcases h i hi with h | h
  · simp only [hiG, h]; exact Int.le_refl _
  · simp only [hiG]
    rw [if_neg (by omega)]
    split <;> omega
theorem prune_no {fs : List Fl} {ss : List St} {p q : List Be} {b : Be} (hall : HallOK fs ss) (hp : PlOK p) (hq : PlOK q) (hb : b.fl < fs.length) (hr : inspF fs ss p = none) (h : ∀ i, i < 4 → beAt q i = beAt p i ∨ (beAt q i).fl < 0) : prune fs ss q b = false := by
  unfold prune
  split
  · rename_i h0
    cases ho : over (flAt fs b.fl).pl (standsD fs ss q b.fl) with
    | false => rfl
    | true =>
      obtain ⟨i, s, hs, hlt⟩ := over_iff.1 ho
      have hi : i < 22 := by
        rcases Nat.lt_or_ge i 22 with h' | h'
        · exact h'
        · rw [List.getElem?_eq_none (by rw [standsD_len]; exact h')] at hs; cases hs
      rw [standsD_at hall hq h0 hb hi] at hs
      cases hs
      have hm := hi_mono (d := i) hall h0 h
      have := (insp_none hall hp).1 hr b.fl h0 hb i
      exact absurd (.inl ⟨by omega, by omega, by simp only at hlt; omega⟩) this
  · rfl
theorem mem_rights {fs : List Fl} {ss : List St} {may : May} (hall : HallOK fs ss) : ∀ (m k : Nat) (q p : List Be), k + m = ss.length → PlanOf fs ss q → (∀ i, k ≤ i → beAt q i = bnone) →
    (p ∈ rights fs ss may m k q ↔ p.length = 4 ∧ (∀ i, i < k → beAt p i = beAt q i) ∧ (∀ i, k ≤ i → i < ss.length → beAt p i ∈ berthsK fs ss may i) ∧ (∀ i, ss.length ≤ i → beAt p i = bnone) ∧ inspF fs ss p = none)
  | 0, k, q, p, hk, hq, hn => by
    rw [rights]
    constructor
    · intro h
      split at h
      · rename_i hi
        have : p = q := by simpa using h
        subst this
        exact ⟨hq.ok.len, fun _ _ => rfl, fun i h1 h2 => by omega, fun i h1 => hn i (by omega), by simpa using hi⟩
      · cases h
    · rintro ⟨h1, h2, h3, h4, h5⟩
      have : p = q := beAt_ext h1 hq.ok.len fun i hi => by
        rcases Nat.lt_or_ge i k with h | h
        · exact h2 i h
        · rw [h4 i (by omega), hn i h]
      subst this
      simp [h5]
  | m + 1, k, q, p, hk, hq, hn => by
    have hk4 : k < q.length := by have := hall.ns; have := hq.ok.len; omega
    have hbn : ∀ b, beAt (q.set k b) k = b := fun b => by rw [beAt_set hk4, if_pos rfl]
    have hsn : ∀ b i, k + 1 ≤ i → beAt (q.set k b) i = bnone := fun b i hi => by rw [beAt_set hk4, if_neg (by omega)]; exact hn i (by omega)
    have hso : ∀ b i, i < k → beAt (q.set k b) i = beAt q i := fun b i hi => by rw [beAt_set hk4, if_neg (by omega)]
    rw [rights, List.mem_flatMap]
    constructor
    · rintro ⟨b, hb, hp⟩
      split at hp
      · cases hp
      · obtain ⟨h1, h2, h3, h4, h5⟩ := (mem_rights hall m (k + 1) (q.set k b) p (by omega) (plan_set hq (by omega) (berth_ok hall (by omega) hb)) (hsn b)).1 hp
        refine ⟨h1, fun i hi => ?_, fun i hi hi2 => ?_, h4, h5⟩
        · rw [h2 i (by omega), hso b i hi]
        · by_cases e : i = k
          · subst e; rw [h2 i (by omega), hbn]; exact hb
          · exact h3 i (by omega) hi2
    · rintro ⟨h1, h2, h3, h4, h5⟩
      have hb := h3 k (Nat.le_refl _) (by omega)
      have hset := plan_set (k := k) hq (by omega) (berth_ok hall (by omega) hb)
      have hpre : ∀ i, i < 4 → beAt (q.set k (beAt p k)) i = beAt p i ∨ (beAt (q.set k (beAt p k)) i).fl < 0 := fun i hi => by
        rcases Nat.lt_trichotomy i k with h | h | h
        · left; rw [hso _ i h, h2 i h]
        · left; subst h; rw [hbn]
        · right; rw [hsn _ i (by omega)]; simp [bnone]
      have hpOK : PlOK p := ⟨h1, fun b hb => by
        obtain ⟨i, hi, rfl⟩ := List.mem_iff_getElem.1 hb
        have e : p[i] = beAt p i := by simp [beAt, List.getD, List.getElem?_eq_getElem hi]
        rw [e]
        rcases Nat.lt_or_ge i k with h | h
        · rw [h2 i h]; exact (beAt_some hq.ok (by omega)).2
        · rcases Nat.lt_or_ge i ss.length with h' | h'
          · have := berth_ok hall h' (h3 i h h'); omega
          · rw [h4 i h']; simp [bnone]⟩
      refine ⟨beAt p k, hb, ?_⟩
      rw [if_neg (by rw [prune_no hall hpOK hset.ok (berth_ok hall (by omega) hb).2.2.1 h5 hpre]; simp)]
      refine (mem_rights hall m (k + 1) _ p (by omega) hset (hsn _)).2 ⟨h1, fun i hi => ?_, fun i hi hi2 => h3 i (by omega) hi2, h4, h5⟩
      by_cases e : i = k
      · subst e; rw [hbn]
      · rw [hso _ i (by omega), h2 i (by omega)]
theorem beAt_nil (i : Nat) : beAt (padB []) i = bnone := beAt_p0 i
/-- ████ A SEARCH FINDS the right ones of the plans in which each strike has a berth that it may have. -/
theorem mem_rightsOf {fs : List Fl} {ss : List St} {may : May} (hall : HallOK fs ss) {p : List Be} : p ∈ rightsOf fs ss may [] ↔ Valid fs ss may p ∧ inspF fs ss p = none := by
  rw [rightsOf, List.length_nil, mem_rights hall _ _ _ _ (by omega) (pad_nil hall.nf.1) (fun i _ => beAt_nil i)]
  constructor
  · rintro ⟨h1, _, h3, h4, h5⟩; exact ⟨⟨h1, fun i hi => h3 i (Nat.zero_le _) hi, h4⟩, h5⟩
  · rintro ⟨⟨h1, h2, h3⟩, h4⟩; exact ⟨h1, fun i hi => by omega, fun i _ hi => h2 i hi, h3, h4⟩
theorem mem_allF {fs : List Fl} {ss : List St} {may : May} (hall : HallOK fs ss) {p : List Be} : p ∈ allF fs ss may ↔ Valid fs ss may p ∧ inspF fs ss p = none := by
  unfold allF
  split
  · exact mem_rightsOf hall
  · rename_i hs
    have h0 : 0 < (padB []).length := by decide
    rw [List.mem_flatMap]
    have hb1 : ∀ b, b ∈ berthsK fs ss may 0 → (p ∈ rightsOf fs ss may [b] ↔ p.length = 4 ∧ (∀ i, i < 1 → beAt p i = beAt ((padB []).set 0 b) i) ∧ (∀ i, 1 ≤ i → i < ss.length → beAt p i ∈ berthsK fs ss may i) ∧ (∀ i, ss.length ≤ i → beAt p i = bnone) ∧ inspF fs ss p = none) := fun b hb => by
      rw [rightsOf, List.length_singleton, pad_one]
      exact mem_rights hall _ _ _ _ (by omega) (plan_set (pad_nil hall.nf.1) (by omega) (berth_ok hall (by omega) hb)) (fun i hi => by rw [beAt_set h0, if_neg (by omega)]; exact beAt_nil i)
    constructor
    · rintro ⟨b, hb, hp⟩
      obtain ⟨h1, h2, h3, h4, h5⟩ := (hb1 b hb).1 hp
      refine ⟨⟨h1, fun i hi => ?_, h4⟩, h5⟩
      by_cases e : i = 0
      · subst e; rw [h2 0 (by omega), beAt_set h0, if_pos rfl]; exact hb
      · exact h3 i (by omega) hi
    · rintro ⟨⟨h1, h2, h3⟩, h4⟩
      refine ⟨beAt p 0, h2 0 (by omega), (hb1 _ (h2 0 (by omega))).2 ⟨h1, fun i hi => ?_, fun i _ hi => h2 i hi, h3, h4⟩⟩
      have : i = 0 := by omega
      subst this
      rw [beAt_set h0, if_pos rfl]
theorem mem_daysFrom_iff {f : Int} : ∀ {m : Nat} {d : Int} {b : Be}, b ∈ daysFrom f d m ↔ b.fl = f ∧ d ≤ b.day ∧ b.day < d + m
  | 0, d, b => by
    constructor
    · intro h; simp [daysFrom] at h
    · intro h; omega
  | m + 1, d, b => by
    rw [daysFrom, List.mem_cons, mem_daysFrom_iff]
    constructor
    · rintro (rfl | h)
      · simp; omega
      · omega
    · rintro ⟨h1, h2, h3⟩
      by_cases e : b.day = d
      · left; obtain ⟨x, y⟩ := b; simp at h1 e; rw [h1, e]
      · right; omega
theorem mem_floorsFrom_iff {s : St} : ∀ {m : Nat} {f : Int} {b : Be}, b ∈ floorsFrom s f m ↔ f ≤ b.fl ∧ b.fl < f + m ∧ s.day ≤ b.day ∧ b.day < s.day + (s.wa + 1).toNat
  | 0, f, b => by simp [floorsFrom]; omega
  | m + 1, f, b => by
    rw [floorsFrom, List.mem_append, mem_daysFrom_iff, mem_floorsFrom_iff]
    omega
theorem mem_berths {fs : List Fl} {ss : List St} {may : May} {k : Nat} {b : Be} : b ∈ berthsK fs ss may k ↔ (may k).2 = true ∧ b = bnone ∨ (may k).1 = true ∧ 0 ≤ b.fl ∧ b.fl < fs.length ∧ (stAt ss k).day ≤ b.day ∧ b.day < (stAt ss k).day + ((stAt ss k).wa + 1).toNat := by
  rw [berthsK, List.mem_append]
  have e1 : b ∈ (if (may k).2 then [bnone] else []) ↔ (may k).2 = true ∧ b = bnone := by
    split <;> simp [*]
  have e2 : b ∈ (if (may k).1 then floorsFrom (stAt ss k) 0 fs.length else []) ↔ (may k).1 = true ∧ b ∈ floorsFrom (stAt ss k) 0 fs.length := by
    split <;> simp [*]
  rw [e1, e2, mem_floorsFrom_iff]
  simp
end Go.Mus

/- The best plans; when all strikes can be set; the first that can't. Conditions: none. -/
namespace Go.Mus

/-! Each plan once -/
theorem daysFrom_nodup {f : Int} : ∀ (m : Nat) (d : Int), (daysFrom f d m).Nodup
  | 0, _ => .nil
  | m + 1, d => by
    rw [daysFrom, List.nodup_cons]
    refine ⟨fun h => ?_, daysFrom_nodup m (d + 1)⟩
    have := (mem_daysFrom h).2.1
    simp only at this; omega
theorem floorsFrom_nodup {s : St} : ∀ (m : Nat) (f : Int), (floorsFrom s f m).Nodup
  | 0, _ => .nil
  | m + 1, f => by
    rw [floorsFrom, List.nodup_append]
    refine ⟨daysFrom_nodup _ _, floorsFrom_nodup m (f + 1), fun a ha b hb e => ?_⟩
    subst e
    have h1 := (mem_daysFrom ha).1
    have h2 := (mem_floorsFrom hb).1
    omega
theorem berthsK_nodup {fs : List Fl} {ss : List St} {may : May} {k : Nat} : (berthsK fs ss may k).Nodup := by
  rw [berthsK, List.nodup_append]
  refine ⟨by split <;> simp, ?_, fun a ha b hb e => ?_⟩
  · split
    · exact floorsFrom_nodup _ _
    · exact .nil
  subst e
  split at ha
  · have : a = bnone := by simpa using ha
    subst this
    split at hb
    · have := (mem_floorsFrom hb).1; simp [bnone] at this
    · cases hb
  · cases ha
theorem rights_at {fs : List Fl} {ss : List St} {may : May} (hall : HallOK fs ss) {m k : Nat} {q p : List Be} {b : Be} (hk : k + 1 + m = ss.length) (hq : PlanOf fs ss q) (hn : ∀ i, k ≤ i → beAt q i = bnone) (hb : b ∈ berthsK fs ss may k) (h : p ∈ rights fs ss may m (k + 1) (q.set k b)) : beAt p k = b := by
  have hk4 : k < q.length := by have := hall.ns; have := hq.ok.len; omega
  have := ((mem_rights hall m (k + 1) (q.set k b) p (by omega) (plan_set hq (by omega) (berth_ok hall (by omega) hb)) (fun i hi => by rw [beAt_set hk4, if_neg (by omega)]; exact hn i (by omega))).1 h).2.1 k (by omega)
  rw [this, beAt_set hk4, if_pos rfl]
theorem rights_nodup {fs : List Fl} {ss : List St} {may : May} (hall : HallOK fs ss) : ∀ (m k : Nat) (q : List Be), k + m = ss.length → PlanOf fs ss q → (∀ i, k ≤ i → beAt q i = bnone) → (rights fs ss may m k q).Nodup
  | 0, k, q, _, _, _ => by
    rw [rights]; split <;> simp
  | m + 1, k, q, hk, hq, hn => by
    have hk4 : k < q.length := by have := hall.ns; have := hq.ok.len; omega
    rw [rights, List.Nodup, List.pairwise_flatMap]
    refine ⟨fun b hb => ?_, ?_⟩
    · split
      · exact .nil
      · exact rights_nodup hall m (k + 1) _ (by omega) (plan_set hq (by omega) (berth_ok hall (by omega) hb)) (fun i hi => by rw [beAt_set hk4, if_neg (by omega)]; exact hn i (by omega))
    · refine (berthsK_nodup (fs := fs) (ss := ss) (may := may) (k := k)).imp_of_mem fun {a b} ha hb hab x hx y hy e => ?_
      subst e
      split at hx
      · cases hx
      · split at hy
        · cases hy
        · exact hab ((rights_at hall (by omega) hq hn ha hx).symm.trans (rights_at hall (by omega) hq hn hb hy))
theorem allF_nodup {fs : List Fl} {ss : List St} {may : May} (hall : HallOK fs ss) : (allF fs ss may).Nodup := by
  unfold allF
  split
  · exact rights_nodup hall _ _ _ (by simp) (pad_nil hall.nf.1) (fun i _ => beAt_nil i)
  · rename_i hs
    have hall1 : ∀ b, b ∈ berthsK fs ss may 0 → ∀ i, 1 ≤ i → beAt ((padB []).set 0 b) i = bnone := fun b _ i hi => by rw [beAt_set (by decide), if_neg (by omega)]; exact beAt_nil i
    rw [List.Nodup, List.pairwise_flatMap]
    refine ⟨fun b hb => ?_, ?_⟩
    · rw [rightsOf, List.length_singleton, pad_one]
      exact rights_nodup hall _ _ _ (by omega) (plan_set (pad_nil hall.nf.1) (by omega) (berth_ok hall (by omega) hb)) (hall1 b hb)
    · refine (berthsK_nodup (fs := fs) (ss := ss) (may := may) (k := 0)).imp_of_mem fun {a b} ha hb hab x hx y hy e => ?_
      subst e
      rw [rightsOf, List.length_singleton, pad_one] at hx hy
      exact hab ((rights_at hall (by omega) (pad_nil hall.nf.1) (fun i _ => beAt_nil i) ha hx).symm.trans (rights_at hall (by omega) (pad_nil hall.nf.1) (fun i _ => beAt_nil i) hb hy))

/-! The best -/
theorem filter_none {α : Type} {l : List α} {f : α → Bool} (h : ∀ q ∈ l, f q = false) : l.filter f = [] := List.filter_eq_nil_iff.2 fun q hq => by rw [h q hq]; simp
/-- What is kept while plans are looked at. -/
structure BInv (ss : List St) (l : List (List Be)) (s : (Int × List (List Be)) × List (List Be)) : Prop where
  met : s.2 = l
  top : l ≠ [] → (∃ q ∈ l, loavesF ss q = s.1.1) ∧ ∀ q ∈ l, loavesF ss q ≤ s.1.1
  out : s.1.2 = l.filter fun q => decide (loavesF ss q = s.1.1)
theorem BInv.step {ss : List St} {l : List (List Be)} {s : (Int × List (List Be)) × List (List Be)} {p : List Be} (H : BInv ss l s) (hp : p ∉ l) : BInv ss (l ++ [p]) (bstep ss s p) := by
  obtain ⟨⟨m, out⟩, met⟩ := s
  obtain ⟨h1, h2, h3⟩ := H
  simp only at h1 h2 h3
  subst h1
  obtain ⟨n, hn⟩ : ∃ n, loavesF ss p = n := ⟨_, rfl⟩
  simp only [bstep, if_neg hp, addM, hn]
  have hpf : ∀ c, [p].filter (fun q => decide (loavesF ss q = c)) = if n = c then [p] else [] := fun c => by
    rw [List.filter_cons]; simp [hn]
  rcases met with _ | ⟨q0, r0⟩
  · have h0 : out = [] := h3
    subst h0
    simp only [true_or, if_true, List.nil_append]
    refine ⟨rfl, fun _ => ⟨⟨p, by simp, hn⟩, fun q hq => ?_⟩, by simp only; rw [hpf, if_pos rfl]⟩
    have : q = p := by simpa using hq
    subst this; simp only; omega
  · obtain ⟨⟨q1, hq1, hq2⟩, htop⟩ := h2 (by simp)
    have hne : (q0 :: r0).filter (fun q => decide (loavesF ss q = m)) ≠ [] := fun e => by
      have := List.filter_eq_nil_iff.1 e q1 hq1
      simp [hq2] at this
    rw [← h3] at hne
    generalize q0 :: r0 = l at *
    by_cases hlt : m < n
    · have hc : out = [] ∨ m < n := .inr hlt
      simp only [if_pos hc, if_true, List.nil_append]
      refine ⟨rfl, fun _ => ⟨⟨p, by simp, hn⟩, fun q hq => ?_⟩, ?_⟩
      · rcases List.mem_append.1 hq with hq | hq
        · have := htop q hq; simp only; omega
        · have : q = p := by simpa using hq
          subst this; simp only; omega
      · simp only
        rw [List.filter_append, hpf, if_pos rfl, filter_none fun q hq => ?_]
        · rfl
        · have := htop q hq
          exact decide_eq_false (by omega)
    · have hc : ¬ (out = [] ∨ m < n) := not_or.2 ⟨hne, hlt⟩
      simp only [if_neg hc]
      by_cases he : n = m
      · rw [if_pos he]
        refine ⟨rfl, fun _ => ⟨⟨p, by simp, hn.trans he⟩, fun q hq => ?_⟩, ?_⟩
        · rcases List.mem_append.1 hq with hq | hq
          · exact htop q hq
          · have : q = p := by simpa using hq
            subst this; simp only; omega
        · simp only
          rw [List.filter_append, hpf, if_pos he, h3]
      · rw [if_neg he]
        refine ⟨rfl, fun _ => ⟨⟨q1, by simp [hq1], hq2⟩, fun q hq => ?_⟩, ?_⟩
        · rcases List.mem_append.1 hq with hq | hq
          · exact htop q hq
          · have : q = p := by simpa using hq
            subst this; simp only; omega
        · simp only
          rw [List.filter_append, hpf, if_neg he, List.append_nil, h3]
theorem BInv.run {ss : List St} : ∀ (r l : List (List Be)) (s : (Int × List (List Be)) × List (List Be)), BInv ss l s → (l ++ r).Nodup → BInv ss (l ++ r) (r.foldl (bstep ss) s)
  | [], l, s, h, _ => by rw [List.append_nil]; exact h
  | p :: r, l, s, h, hnd => by
    rw [List.foldl_cons, show l ++ p :: r = (l ++ [p]) ++ r by simp]
    refine BInv.run r (l ++ [p]) _ (h.step fun hm => ?_) (by simpa using hnd)
    exact (List.nodup_append.1 hnd).2.2 p hm p (by simp) rfl
/-- ████ THE BEST PLANS: of the right ones those with the most loaves, in order. -/
theorem best_spec {fs : List Fl} {ss : List St} (hall : HallOK fs ss) : (∃ q ∈ allF fs ss freeM, loavesF ss q = (bestF fs ss).1) ∧ (∀ q ∈ allF fs ss freeM, loavesF ss q ≤ (bestF fs ss).1) ∧ (bestF fs ss).2 = (allF fs ss freeM).filter fun q => decide (loavesF ss q = (bestF fs ss).1) := by
  have h := BInv.run (ss := ss) (allF fs ss freeM) [] ((0, []), []) ⟨rfl, fun h => absurd rfl h, rfl⟩ (allF_nodup hall)
  rw [List.nil_append] at h
  have hne : allF fs ss freeM ≠ [] := fun e => by have := allF_p0 hall; rw [e] at this; cases this
  exact ⟨(h.top hne).1, (h.top hne).2, h.out⟩

/-! Loaves -/
def coG (ss : List St) (p : List Be) (i : Nat) : Int := if 0 ≤ (beAt p i).fl then (stAt ss i).co else 0
theorem loavesK_eq {fs : List Fl} {ss : List St} {p : List Be} (hall : HallOK fs ss) : ∀ k, k ≤ 1000 → loavesK ss p k = sumK (coG ss p) k ∧ 0 ≤ sumK (coG ss p) k ∧ sumK (coG ss p) k ≤ 6 * k
  | 0, _ => ⟨rfl, Int.le_refl _, Int.le_refl _⟩
  | k + 1, hk => by
    obtain ⟨h1, h2, h3⟩ := loavesK_eq (p := p) hall k (by omega)
    have hc := co_ok hall k
    simp only [loavesK, sumK, coG]
    split
    · rw [h1, wadd_small h2 (by omega) hc.1 (by omega)]
      exact ⟨rfl, by omega, by omega⟩
    · exact ⟨by omega, by omega, by omega⟩
theorem loavesF_eq {fs : List Fl} {ss : List St} {p : List Be} (hall : HallOK fs ss) : loavesF ss p = sumK (coG ss p) ss.length := (loavesK_eq hall _ (by have := hall.ns; omega)).1
theorem sumK_eq_all {g g' : Nat → Int} : ∀ {k : Nat}, (∀ i, i < k → g i ≤ g' i) → sumK g' k ≤ sumK g k → ∀ i, i < k → g i = g' i
  | 0, _, _, i, hi => by omega
  | k + 1, h, he, i, hi => by
    have h1 := sumK_le (k := k) fun i hi => h i (by omega)
    have h2 := h k (by omega)
    simp only [sumK] at he
    by_cases e : i = k
    · subst e; omega
    · exact sumK_eq_all (k := k) (fun i hi => h i (by omega)) (by omega) i (by omega)

/-! Whether all can be set -/
theorem valid_plan {fs : List Fl} {ss : List St} {may : May} {p : List Be} (hall : HallOK fs ss) (hv : Valid fs ss may p) : PlanOf fs ss p := by
  have hb : ∀ i, -1 ≤ (beAt p i).fl ∧ (beAt p i).fl ≤ 1 ∧ (beAt p i).fl < fs.length ∧ 0 ≤ (beAt p i).day ∧ (beAt p i).day ≤ 17 := fun i => by
    rcases Nat.lt_or_ge i ss.length with h | h
    · exact berth_ok hall h (hv.at_ i h)
    · rw [hv.out i h]; simp [bnone]; omega
  have hm : ∀ b ∈ p, ∃ i, b = beAt p i := fun b hb => by
    obtain ⟨i, hi, rfl⟩ := List.mem_iff_getElem.1 hb
    exact ⟨i, by simp [beAt, List.getD, List.getElem?_eq_getElem hi]⟩
  refine ⟨⟨hv.len, fun b h => ?_⟩, fun b h => ?_, fun i hi => by rw [hv.out i hi]; simp [bnone]⟩
  · obtain ⟨i, rfl⟩ := hm b h; have := hb i; omega
  · obtain ⟨i, rfl⟩ := hm b h; have := hb i; omega
theorem some_iff {fs : List Fl} {ss : List St} {may : May} (hall : HallOK fs ss) : someR fs ss may = true ↔ ∃ p, Valid fs ss may p ∧ inspF fs ss p = none := by
  have : someR fs ss may = true ↔ ∃ p, p ∈ rightsOf fs ss may [] := by
    simp only [someR, Bool.not_eq_true', List.isEmpty_eq_false_iff_exists_mem]
  rw [this]
  exact exists_congr fun p => mem_rightsOf hall
theorem bound_free {fs : List Fl} {ss : List St} {p : List Be} : Valid fs ss boundM p ↔ Valid fs ss freeM p ∧ ∀ i, i < ss.length → 0 ≤ (beAt p i).fl := by
  constructor
  · rintro ⟨h1, h2, h3⟩
    have hb : ∀ i, i < ss.length → 0 ≤ (beAt p i).fl ∧ beAt p i ∈ berthsK fs ss freeM i := fun i hi => by
      have := h2 i hi
      rw [mem_berths] at this ⊢
      simp only [boundM, freeM] at this ⊢
      simp at this ⊢
      exact ⟨this.1, .inr this⟩
    exact ⟨⟨h1, fun i hi => (hb i hi).2, h3⟩, fun i hi => (hb i hi).1⟩
  · rintro ⟨⟨h1, h2, h3⟩, h4⟩
    refine ⟨h1, fun i hi => ?_, h3⟩
    have := h2 i hi
    have h5 := h4 i hi
    rw [mem_berths] at this ⊢
    simp only [boundM, freeM] at this ⊢
    simp at this ⊢
    rcases this with h | h
    · rw [h] at h5; simp [bnone] at h5
    · exact h
theorem take_at {p : List Be} {n i : Nat} (hi : i < n) : (p.take n)[i]? = p[i]? := by
  rw [List.getElem?_take, if_pos hi]
/-- ████ THE BEST PLAN SETS ALL STRIKES just if some right plan does. -/
theorem best_all {fs : List Fl} {ss : List St} (hck : ckPlant fs ss = 0) : (∀ b ∈ (bestB fs ss).1, 0 ≤ b.fl) ↔ someR fs ss boundM = true := by
  have hall := hall_ck hck
  have hns := hall.ns
  obtain ⟨-, htop, hout⟩ := best_spec hall
  obtain ⟨p, r, hpr⟩ : ∃ p r, (bestF fs ss).2 = p :: r := by
    cases h : (bestF fs ss).2 with
    | nil => exact absurd h (bestF_ne hall)
    | cons p r => exact ⟨p, r, rfl⟩
  have hpm : p ∈ (bestF fs ss).2 := hpr ▸ List.mem_cons_self ..
  have hp := hpm
  rw [hout, List.mem_filter] at hp
  obtain ⟨hpa, hpl⟩ := hp
  have hpl' : loavesF ss p = (bestF fs ss).1 := by simpa using hpl
  obtain ⟨hv, hin⟩ := (mem_allF hall).1 hpa
  have hbB : (bestB fs ss).1 = p.take ss.length := by simp only [bestB]; rw [if_neg (by simp [hck]), hpr]; rfl
  have hat : (∀ b ∈ p.take ss.length, 0 ≤ b.fl) ↔ ∀ i, i < ss.length → 0 ≤ (beAt p i).fl := by
    constructor
    · intro h i hi
      have e : p[i]? = some (beAt p i) := by
        have := hv.len
        simp [beAt, List.getD, List.getElem?_eq_getElem (show i < p.length by omega)]
      exact h _ (List.mem_of_getElem? ((take_at hi).trans e))
    · intro h b hb
      obtain ⟨i, hi⟩ := List.mem_iff_getElem?.1 hb
      have hi4 : i < ss.length := by
        rcases Nat.lt_or_ge i ss.length with h' | h'
        · exact h'
        · rw [List.getElem?_eq_none (by simp; omega)] at hi; cases hi
      rw [take_at hi4] at hi
      have := h i hi4
      simpa [beAt, List.getD, hi] using this
  rw [hbB, hat, some_iff hall]
  constructor
  · intro h
    exact ⟨p, bound_free.2 ⟨hv, h⟩, hin⟩
  · rintro ⟨q, hq, hqi⟩
    obtain ⟨hqf, hqs⟩ := bound_free.1 hq
    have hle := htop q ((mem_allF hall).2 ⟨hqf, hqi⟩)
    rw [← hpl', loavesF_eq hall, loavesF_eq hall] at hle
    have hg : ∀ i, i < ss.length → coG ss p i = coG ss q i := sumK_eq_all (fun i hi => by
      simp only [coG, if_pos (hqs i hi)]
      have := (co_ok hall i).1
      split <;> omega) hle
    intro i hi
    have h1 := hg i hi
    have h2 := co_pos hall hi
    simp only [coG, if_pos (hqs i hi)] at h1
    split at h1
    · assumption
    · omega
end Go.Mus

/- The first strikes of a plant alone; which strike is late. Conditions: none. -/
namespace Go.Mus

theorem ckStrikes_take : ∀ {ss : List St} {b : Int} (m : Nat), ckStrikes b ss = 0 → ckStrikes b (ss.take m) = 0
  | [], b, m, _ => by simp [ckStrikes]
  | s :: ss, b, 0, _ => by simp [ckStrikes]
  | s :: ss, b, m + 1, h => by
    simp only [List.take_succ_cons, ckStrikes] at h ⊢
    split at h
    · rename_i hc; rw [if_pos hc]; exact ckStrikes_take m h
    · rename_i hc; exact absurd h hc
theorem ckPlant_mk {fs : List Fl} {ss : List St} (h1 : 1 ≤ fs.length) (h2 : fs.length ≤ 2) (h3 : ckFloors fs = 0) (h4 : ss.length ≤ 4) (h5 : ckStrikes 0 ss = 0) : ckPlant fs ss = 0 := by
  unfold ckPlant
  rw [if_neg (by omega), if_neg (by omega), if_neg (by simp [h3]), if_neg (by omega), h5]
theorem ckPlant_take {fs : List Fl} {ss : List St} (m : Nat) (h : ckPlant fs ss = 0) : ckPlant fs (ss.take m) = 0 := by
  obtain ⟨h1, h2, h3, h4, h5⟩ := ckPlant0 h
  exact ckPlant_mk (by omega) h2 h4 (by simp; omega) (ckStrikes_take m h5)

/-- What is right hangs on the cones of what is set. -/
theorem insp_cong {fs : List Fl} {ss ss' : List St} {p : List Be} (hall : HallOK fs ss) (hall' : HallOK fs ss') (hp : PlOK p) (h : ∀ i, i < 4 → 0 ≤ (beAt p i).fl → (stAt ss i).co = (stAt ss' i).co) : inspF fs ss p = none ↔ inspF fs ss' p = none := by
  rw [insp_none hall hp, insp_none hall' hp]
  have hh : ∀ f d : Int, 0 ≤ f → hiAt fs ss p f d = hiAt fs ss' p f d := fun f d hf => sumK_congr fun i hi => by
    simp only [hiG]
    by_cases hc : (beAt p i).fl = f ∧ (beAt p i).day ≤ d ∧ d < (beAt p i).day + (flAt fs f).hi
    · rw [if_pos hc, if_pos hc]; exact h i hi (by omega)
    · rw [if_neg hc, if_neg hc]
  have hb : ∀ f n : Int, 0 ≤ f → (Bad fs ss p f n ↔ Bad fs ss' p f n) := fun f n hf => by
    simp only [Bad, Full, hh f n hf]
  constructor
  · intro H f h0 h1 n hn; exact H f h0 h1 n ((hb f n h0).2 hn)
  · intro H f h0 h1 n hn; exact H f h0 h1 n ((hb f n h0).1 hn)
theorem stAt_take {ss : List St} {m i : Nat} (h : i < m) : stAt (ss.take m) i = stAt ss i := by
  simp only [stAt, List.getD, List.getElem?_take, if_pos h]
/-- .. so strikes that are to be left make no difference. -/
theorem some_take {fs : List Fl} {ss : List St} {m n : Nat} (hck : ckPlant fs ss = 0) (hn : n < m) (hm : m ≤ ss.length) : someR fs (ss.take m) (lateM n) = someR fs ss (lateM n) := by
  have hall := hall_ck hck
  have hall' := hall_ck (ckPlant_take m hck)
  have hl : (ss.take m).length = m := by simp; omega
  have hb : ∀ i (b : Be), i < m → (b ∈ berthsK fs (ss.take m) (lateM n) i ↔ b ∈ berthsK fs ss (lateM n) i) := fun i b hi => by
    rw [mem_berths, mem_berths, stAt_take hi]
  have hb2 : ∀ i (b : Be), m ≤ i → (b ∈ berthsK fs ss (lateM n) i ↔ b = bnone) := fun i b hi => by
    rw [mem_berths]
    have e1 : (lateM n i).1 = false := by simp [lateM]; omega
    have e2 : (lateM n i).2 = true := by simp [lateM]; omega
    rw [e1, e2]; simp
  have hv : ∀ p, Valid fs (ss.take m) (lateM n) p ↔ Valid fs ss (lateM n) p := fun p => by
    constructor
    · rintro ⟨h1, h2, h3⟩
      rw [hl] at h2 h3
      refine ⟨h1, fun i hi => ?_, fun i hi => h3 i (by omega)⟩
      rcases Nat.lt_or_ge i m with h | h
      · exact (hb i _ h).1 (h2 i h)
      · exact (hb2 i _ h).2 (h3 i h)
    · rintro ⟨h1, h2, h3⟩
      refine ⟨h1, fun i hi => ?_, fun i hi => ?_⟩
      · rw [hl] at hi; exact (hb i _ hi).2 (h2 i (by omega))
      · rw [hl] at hi
        rcases Nat.lt_or_ge i ss.length with h | h
        · exact (hb2 i _ hi).1 (h2 i h)
        · exact h3 i h
  have key : someR fs (ss.take m) (lateM n) = true ↔ someR fs ss (lateM n) = true := by
    rw [some_iff hall, some_iff hall']
    refine exists_congr fun p => ?_
    rw [hv p]
    refine and_congr_right fun hp => insp_cong hall' hall (valid_plan hall hp).ok fun i hi hf => ?_
    rcases Nat.lt_or_ge i m with h | h
    · rw [stAt_take h]
    · have := ((hv p).2 hp).out i (by omega)
      rw [this] at hf; simp [bnone] at hf
  exact Bool.eq_iff_iff.2 key
/-- All of the first ones. -/
theorem some_bound {fs : List Fl} {ss : List St} {m : Nat} (hck : ckPlant fs ss = 0) (h0 : 0 < m) (hm : m ≤ ss.length) : someR fs (ss.take m) boundM = someR fs ss (lateM (m - 1)) := by
  rw [← some_take (m := m) hck (by omega) hm]
  have hall' := hall_ck (ckPlant_take m hck)
  have hl : (ss.take m).length = m := by simp; omega
  refine Bool.eq_iff_iff.2 ?_
  rw [some_iff hall', some_iff hall']
  refine exists_congr fun p => and_congr_left fun _ => ?_
  have hb : ∀ i (b : Be), i < m → (b ∈ berthsK fs (ss.take m) boundM i ↔ b ∈ berthsK fs (ss.take m) (lateM (m - 1)) i) := fun i b hi => by
    rw [mem_berths, mem_berths]
    have e1 : (lateM (m - 1) i).1 = true := by simp [lateM]; omega
    have e2 : (lateM (m - 1) i).2 = false := by simp [lateM]; omega
    rw [e1, e2]; simp [boundM]
  constructor
  · rintro ⟨h1, h2, h3⟩
    exact ⟨h1, fun i hi => (hb i _ (by omega)).1 (h2 i hi), h3⟩
  · rintro ⟨h1, h2, h3⟩
    exact ⟨h1, fun i hi => (hb i _ (by omega)).2 (h2 i hi), h3⟩

theorem lateFrom_spec {fs : List Fl} {ss : List St} : ∀ (m n : Nat), (lateFrom fs ss m n = -1 ∧ ∀ k, n ≤ k → k < n + m → someR fs ss (lateM k) = true) ∨ ∃ r : Nat, n ≤ r ∧ r < n + m ∧ lateFrom fs ss m n = r ∧ someR fs ss (lateM r) = false ∧ ∀ k, n ≤ k → k < r → someR fs ss (lateM k) = true
  | 0, n => .inl ⟨rfl, fun k h1 h2 => by omega⟩
  | m + 1, n => by
    rw [lateFrom]
    cases hs : someR fs ss (lateM n) with
    | false =>
      rw [if_neg (by simp)]
      exact .inr ⟨n, Nat.le_refl _, by omega, rfl, hs, fun k h1 h2 => by omega⟩
    | true =>
      rw [if_pos rfl]
      rcases lateFrom_spec (fs := fs) (ss := ss) m (n + 1) with ⟨h1, h2⟩ | ⟨r, h1, h2, h3, h4, h5⟩
      · refine .inl ⟨h1, fun k k1 k2 => ?_⟩
        by_cases e : k = n
        · subst e; exact hs
        · exact h2 k (by omega) (by omega)
      · refine .inr ⟨r, by omega, by omega, h3, h4, fun k k1 k2 => ?_⟩
        by_cases e : k = n
        · subst e; exact hs
        · exact h5 k (by omega) k2
/-- ████ WHICH STRIKE IS LATE. -/
theorem late_spec (fs : List Fl) (ss : List St) : (lateF fs ss = -1 ∧ ∀ k, k < ss.length → someR fs ss (lateM k) = true) ∨ ∃ r : Nat, r < ss.length ∧ lateF fs ss = r ∧ someR fs ss (lateM r) = false ∧ ∀ k, k < r → someR fs ss (lateM k) = true := by
  rcases lateFrom_spec (fs := fs) (ss := ss) ss.length 0 with ⟨h1, h2⟩ | ⟨r, h1, h2, h3, h4, h5⟩
  · exact .inl ⟨h1, fun k hk => h2 k (Nat.zero_le _) (by omega)⟩
  · exact .inr ⟨r, by omega, h3, h4, fun k hk => h5 k (Nat.zero_le _) hk⟩
theorem late_without {fs : List Fl} {ss : List St} (hck : ckPlant fs ss = 0) (hn : 0 < ss.length) : lateF fs (ss.take (ss.length - 1)) = if lateF fs ss = (ss.length : Int) - 1 then -1 else lateF fs ss := by
  have hl : (ss.take (ss.length - 1)).length = ss.length - 1 := by simp
  have hs : ∀ k, k < ss.length - 1 → someR fs (ss.take (ss.length - 1)) (lateM k) = someR fs ss (lateM k) := fun k hk => some_take hck hk (by omega)
  rcases late_spec fs ss with ⟨h1, h2⟩ | ⟨r, h1, h2, h3, h4⟩ <;> rcases late_spec fs (ss.take (ss.length - 1)) with ⟨g1, g2⟩ | ⟨r', g1, g2, g3, g4⟩
  · rw [h1, g1, if_neg (by omega)]
  · rw [hl] at g1
    rw [hs r' g1, h2 r' (by omega)] at g3
    cases g3
  · rw [h2, g1]
    by_cases e : r = ss.length - 1
    · rw [if_pos (by omega)]
    · have := g2 r (by omega)
      rw [hs r (by omega), h3] at this
      cases this
  · rw [hl] at g1
    rw [hs r' g1] at g3
    rw [h2, g2]
    rcases Nat.lt_trichotomy r r' with h | h | h
    · have := g4 r h
      rw [hs r (by omega), h3] at this
      cases this
    · subst h; rw [if_neg (by omega)]
    · rw [h4 r' h] at g3; cases g3
end Go.Mus

/- A plant without its last strike. Conditions: none; over the given program. -/
namespace Go.Mus
set_option maxRecDepth 100000
set_option maxHeartbeats 4000000

theorem Os.addr {α : Type} {row : α → List Value} {w : Nat} [Rw row w] {E : TypeId} {a : Option Addr} {n cap : Nat} {l : List α} {A : Frag} (H : Os E row (.slice a n cap) l A) : (a.map (·.spot) = some none ∨ a = none) ∧ l.length ≤ cap := by
  rcases H with ⟨rfl, e, _⟩ | ⟨β, c, cap', J, e, _, _, h2, _⟩
  · cases e; exact ⟨.inr rfl, Nat.le_refl _⟩
  · cases e; exact ⟨.inl rfl, h2⟩
theorem FloorWithout_top (main : Side) (hS : ∀ S, main.ok S → ∃ Fin, S = Mn prog Fin) (hmb : main.b = true) (h : Hp) (nums : List Int) (lv : Value) (Eg : TypeId) (zg : Nat × Nat) (hl : Sl h rowI lv nums) (hg : h 0 = some (.cells #[rtV t_error] Eg zg)) (z0 : h.z 0) : TopV prog main n_law_FloorWithout #[lv] h (.bool true) := by
  refine TopV.of_body at_law_FloorWithout rfl (by show 1 ≤ 57; decide) [(0, lv)] ⟨rfl, trivial⟩ ?_
  refine W.seq ?_
  refine W.region rfl ?_
  refine oq (y_assign rfl rfl) rfl wn rfl rfl ?_
  refine Ops.nil ?_
  refine thn_n ?_
  refine W.seq ?_
  refine W.region rfl ?_
  refine oq (y_move rfl rfl) rfl wn rfl rfl ?_
  refine c0 (fun h' hE hL => NewHat_fn _ h' nums lv (hl.ext hE)) (fun v A' hv => ?_)
  obtain ⟨bh, s0, rfl, rfl⟩ := hv
  refine cg (A := [(bh, _)]) .head (fun h' hE hL => PlantOf_fn _ h' nums lv bh s0 4 1 (hl.ext hE) (by decide) (by decide)) (fun v A' hv => ?_)
  obtain ⟨vf, vs, fs, ss, Sf, Ss, k1, s1, rfl, ⟨hOf, hOs⟩, ⟨hck, hn4, hw⟩, -, hsb⟩ := hv
  refine Ops.sb (F' := Sf ++ Ss) ((Sb.skip rfl .refl).trans (hsb.trans (Sb.right .refl .nil))) ?_
  obtain ⟨a, cap, rfl⟩ := hOf.isSl
  obtain ⟨a', cap', rfl⟩ := hOs.isSl
  obtain ⟨h1n, h2n, -, -, -⟩ := ckPlant0 hck
  refine Ops.new (fun β3 => ?_)
  first | refine Ops.stoW ?_ | refine Ops.stoA ?_
  refine Ops.nil ?_
  refine thn_n ?_
  refine W.seq ?_
  refine W.region rfl ?_
  refine oq (y_fieldAddr rfl rfl) rfl wn rfl rfl ?_
  refine oq (yld rfl rfl) rfl wn rfl rfl ?_
  refine oq (y_len rfl rfl) rfl wn rfl rfl ?_
  refine oq (y_assign rfl rfl) rfl wn rfl rfl ?_
  refine Ops.nil ?_
  refine thn_n ?_
  refine W.seq ?_
  refine W.seq ?_
  refine W.region rfl ?_
  refine oq (y_move rfl rfl) rfl wn rfl rfl ?_
  refine oq (y_eql rfl rfl rfl) rfl wn rfl rfl ?_
  refine Ops.nil ?_
  refine thn_n ?_
  refine W.condp rfl (fun c18 => ?_) (fun c18 => ?_)
  · refine W.seq ?_
    refine W.region rfl ?_
    refine cp (fun h' hE hL => exs_fn _ hS hmb h' Eg zg (hE.1 _ _ hg) (hE.2 _ z0)) ?_
    refine oq (y_assign rfl rfl) rfl wn rfl rfl ?_
    refine Ops.nil ?_
    refine thn_n ?_
    refine W.ret ?_
    refine thn_r ?_
    exact lvq (hs := .cons rfl (hOf.shut.app hOs.shut)) rfl
  · refine W.skip ?_
    refine thn_n ?_
    refine W.seq ?_
    refine W.region rfl ?_
    first | refine oq (yldW rfl rfl) rfl wn rfl rfl ?_ | refine oq (yldA rfl rfl) rfl wn rfl rfl ?_
    refine c0 (fun h' hE hL => DupPlant_fn _ h' fs ss _ _ (hOf.sl fun b o hb => hL b o (.tail _ (List.mem_append_left _ hb))) (hOs.sl fun b o hb => hL b o (.tail _ (List.mem_append_right _ hb))) (by omega)) (fun v A' hv => ?_)
    obtain ⟨vf2, vs2, Sf2, Ss2, rfl, ⟨hOf2, hOs2⟩, hsb⟩ := hv
    refine Ops.sb (F' := (β3, .cells #[.slice a fs.length cap, .slice a' ss.length cap'] t_Plant (0, 0)) :: ((Sf ++ Ss) ++ (Sf2 ++ Ss2))) (.trans (.of_perm (List.perm_append_comm (l₁ := _ :: (Sf ++ Ss)) (l₂ := Sf2 ++ Ss2))) (hsb.app .refl)) ?_
    obtain ⟨a2, cap2, rfl⟩ := hOf2.isSl
    obtain ⟨a3, cap3, rfl⟩ := hOs2.isSl
    obtain ⟨hsp, hcp⟩ := hOs2.addr
    refine Ops.new (fun β5 => ?_)
    first | refine Ops.stoW ?_ | refine Ops.stoA ?_
    refine Ops.nil ?_
    refine thn_n ?_
    refine W.seq ?_
    refine W.region rfl ?_
    refine oq (y_fieldAddr rfl rfl) rfl wn rfl rfl ?_
    refine oq (yld rfl rfl) rfl wn rfl rfl ?_
    refine oq (y_move rfl rfl) rfl wn rfl rfl ?_
    refine oq ((ysub rfl rfl rfl).eq (u := I ((ss.length - 1 : Nat) : Int)) (show I _ = I _ by congr 1; omega)) rfl wn rfl rfl ?_
    refine oq (y_sliceHi (m := ss.length - 1) rfl rfl rfl hsp) rfl wn rfl rfl ?_
    refine oq (y_fieldAddr rfl rfl) rfl wn rfl rfl ?_
    refine Ops.sto ?_
    refine Ops.nil ?_
    refine thn_n ?_
    refine W.seq ?_
    refine W.region rfl ?_
    first | refine oq (yldW rfl rfl) rfl wn rfl rfl ?_ | refine oq (yldA rfl rfl) rfl wn rfl rfl ?_
    refine cp (u := .tuple #[I (lateF fs ss), I 0]) (fun h' hE hL => ?_) ?_
    · have := Late_fn main h' fs ss _ _ Eg zg (hOf.sl fun b o hb => hL b o (.tail _ (.tail _ (List.mem_append_left _ (List.mem_append_left _ hb))))) (hOs.sl fun b o hb => hL b o (.tail _ (.tail _ (List.mem_append_left _ (List.mem_append_right _ hb))))) (hE.1 _ _ hg)
      rw [hck, if_neg (by decide)] at this
      exact this
    refine oq (y_move rfl rfl) rfl wn rfl rfl ?_
    refine oq (y_extract rfl rfl rfl) rfl wn rfl rfl ?_
    refine oq (y_extract rfl rfl rfl) rfl wn rfl rfl ?_
    refine oq (y_assign rfl rfl) rfl wn rfl rfl ?_
    refine oq (y_assign rfl rfl) rfl wn rfl rfl ?_
    refine Ops.nil ?_
    refine thn_n ?_
    refine W.seq ?_
    refine W.region rfl ?_
    first | refine oq (yldW rfl rfl) rfl wn rfl rfl ?_ | refine oq (yldA rfl rfl) rfl wn rfl rfl ?_
    refine cp (u := .tuple #[I (lateF fs (ss.take (ss.length - 1))), I 0]) (fun h' hE hL => ?_) ?_
    · have := Late_fn main h' fs (ss.take (ss.length - 1)) _ _ Eg zg (hOf2.sl fun b o hb => hL b o (.tail _ (.tail _ (List.mem_append_right _ (List.mem_append_left _ hb))))) (Sl.take (hOs2.sl fun b o hb => hL b o (.tail _ (.tail _ (List.mem_append_right _ (List.mem_append_right _ hb))))) (by omega)) (hE.1 _ _ hg)
      rw [ckPlant_take _ hck, if_neg (by decide)] at this
      exact this
    refine oq (y_move rfl rfl) rfl wn rfl rfl ?_
    refine oq (y_extract rfl rfl rfl) rfl wn rfl rfl ?_
    refine oq (y_extract rfl rfl rfl) rfl wn rfl rfl ?_
    refine oq (y_assign rfl rfl) rfl wn rfl rfl ?_
    refine oq (y_assign rfl rfl) rfl wn rfl rfl ?_
    refine Ops.nil ?_
    refine thn_n ?_
    refine W.seq ?_
    refine W.region rfl ?_
    have hlw := late_without hck (show 0 < ss.length by omega)
    refine oq (y_move rfl rfl) rfl wn rfl rfl ?_
    refine oq (y_assign rfl rfl) rfl wn rfl rfl ?_
    refine Ops.nil ?_
    refine thn_n ?_
    refine W.seq ?_
    refine W.seq ?_
    refine W.region rfl ?_
    refine oq (y_move rfl rfl) rfl wn rfl rfl ?_
    refine oq (y_move rfl rfl) rfl wn rfl rfl ?_
    first | refine oq (ysub rfl rfl rfl) rfl wn rfl rfl ?_ | refine oq (y_subw rfl rfl rfl) rfl wn rfl rfl ?_
    refine oq (y_eql rfl rfl rfl) rfl wn rfl rfl ?_
    refine Ops.nil ?_
    refine thn_n ?_
    refine W.condp rfl (fun c42 => ?_) (fun c42 => ?_)
    · refine W.region rfl ?_
      refine oq (y_assign rfl rfl) rfl wn rfl rfl ?_
      refine Ops.nil ?_
      refine thn_n ?_
      refine W.seq ?_
      refine W.region rfl ?_
      refine oq (y_move rfl rfl) rfl wn rfl rfl ?_
      --abs T
      refine oq ((y_eql rfl rfl rfl).eq (u := .bool true) rfl) rfl wn rfl rfl ?_
      refine oq (y_move rfl rfl) rfl wn rfl rfl ?_
      refine oq (y_move rfl rfl) rfl (want_some rfl rfl rfl) rfl rfl ?_
      --abs T
      refine oq ((y_eql rfl rfl rfl).eq (u := .bool true) rfl) rfl (want_some rfl rfl rfl) rfl rfl ?_
      refine oq (y_pickT rfl rfl rfl) rfl wn rfl rfl ?_
      refine oq (y_move rfl rfl) rfl wn rfl rfl ?_
      refine oq (y_move rfl rfl) rfl (want_some rfl rfl rfl) rfl rfl ?_
      refine oq (y_move rfl rfl) rfl (want_some rfl rfl rfl) rfl rfl ?_
      --abs T
      first
      | refine oq ((y_eql rfl rfl rfl).eq (u := .bool true) (congrArg Value.bool (decide_eq_true (hlw.trans (if_pos c42))))) rfl (want_some rfl rfl rfl) rfl rfl ?_
      | refine oq ((y_eql rfl rfl rfl).eq (u := .bool true) (congrArg Value.bool (decide_eq_true (hlw.trans (if_neg c42))))) rfl (want_some rfl rfl rfl) rfl rfl ?_
      refine oq (y_pickT rfl rfl rfl) rfl wn rfl rfl ?_
      refine oq (y_move rfl rfl) rfl wn rfl rfl ?_
      --abs T
      refine cp (fun h' hE hL => exs_fn _ hS hmb h' Eg zg (hE.1 _ _ hg) (hE.2 _ z0)) ?_ (hw := want_some rfl rfl rfl)
      refine oq (y_pickT rfl rfl rfl) rfl wn rfl rfl ?_
      refine oq (y_assign rfl rfl) rfl wn rfl rfl ?_
      refine Ops.nil ?_
      refine thn_n ?_
      refine W.ret ?_
      exact lvq (hs := .cons rfl (.cons rfl ((hOf.shut.app hOs.shut).app (hOf2.shut.app hOs2.shut)))) rfl
    · refine W.skip ?_
      refine thn_n ?_
      refine W.seq ?_
      refine W.region rfl ?_
      refine oq (y_move rfl rfl) rfl wn rfl rfl ?_
      --abs T
      refine oq ((y_eql rfl rfl rfl).eq (u := .bool true) rfl) rfl wn rfl rfl ?_
      refine oq (y_move rfl rfl) rfl wn rfl rfl ?_
      refine oq (y_move rfl rfl) rfl (want_some rfl rfl rfl) rfl rfl ?_
      --abs T
      refine oq ((y_eql rfl rfl rfl).eq (u := .bool true) rfl) rfl (want_some rfl rfl rfl) rfl rfl ?_
      refine oq (y_pickT rfl rfl rfl) rfl wn rfl rfl ?_
      refine oq (y_move rfl rfl) rfl wn rfl rfl ?_
      refine oq (y_move rfl rfl) rfl (want_some rfl rfl rfl) rfl rfl ?_
      refine oq (y_move rfl rfl) rfl (want_some rfl rfl rfl) rfl rfl ?_
      --abs T
      first
      | refine oq ((y_eql rfl rfl rfl).eq (u := .bool true) (congrArg Value.bool (decide_eq_true (hlw.trans (if_pos c42))))) rfl (want_some rfl rfl rfl) rfl rfl ?_
      | refine oq ((y_eql rfl rfl rfl).eq (u := .bool true) (congrArg Value.bool (decide_eq_true (hlw.trans (if_neg c42))))) rfl (want_some rfl rfl rfl) rfl rfl ?_
      refine oq (y_pickT rfl rfl rfl) rfl wn rfl rfl ?_
      refine oq (y_move rfl rfl) rfl wn rfl rfl ?_
      --abs T
      refine cp (fun h' hE hL => exs_fn _ hS hmb h' Eg zg (hE.1 _ _ hg) (hE.2 _ z0)) ?_ (hw := want_some rfl rfl rfl)
      refine oq (y_pickT rfl rfl rfl) rfl wn rfl rfl ?_
      refine oq (y_assign rfl rfl) rfl wn rfl rfl ?_
      refine Ops.nil ?_
      refine thn_n ?_
      refine W.ret ?_
      exact lvq (hs := .cons rfl (.cons rfl ((hOf.shut.app hOs.shut).app (hOf2.shut.app hOs2.shut)))) rfl
end Go.Mus

/- FloorWithout's card. Conditions: as the card says; over the given program. -/
namespace Go.Proofs.YtabnpjbnoedfgaaDoor
open Go Go.Mus
set_option maxRecDepth 100000
set_option maxHeartbeats 4000000

/-- A tied card of a row whose call starts goroutines. -/
theorem tied_goes (Lk : Looks) {p : Pinned} {s : OpenSpec} {c : OpenClaim} (al : List (List PathCond)) (kinds : List LaidKind) (tests : Bool) (har : Bool × String) (lk : Bool)
    (hc : c.holds p s) (hal : ∀ D ∈ al, (c.withDomain D).holds p s) (hw : c.wfByText s = true) (hwal : ∀ D ∈ al, (c.withDomain D).wfByText s = true)
    (htie : c.laidByTextAt Lk p kinds tests)
    (hst : c.start = .entering) (hnb : c.noBlocks = false ∧ c.again = false) (hm : p.checked.prog.mainIs = some (har.1, har.2.toList)) (hn : (!har.1 && har.2.isEmpty && !lk) = false)
    (hl : ∀ f fn, p.checked.prog.funcNamed c.func = some f → p.checked.prog.funcs[f]? = some fn → lk = p.checked.prog.looks [] ∧ ∀ (j : Nat) t, fn.params[j]? = some t → p.checked.prog.wantsStandIn t = false)
    (hg : true = c.goesBy p.checked.prog) :
    Claim7.holds p (.plain s) { stood := { row := c, standIns := [], harness := har, looks := lk }, kinds := [], alts := al, goes := true, laidByText := true, laidKinds := kinds, laidTests := tests, laidLooks := Lk } := by
  have h6 : ∀ r : OpenClaim, Claim7.isSixth { stood := { row := r, standIns := [], harness := har, looks := lk }, kinds := [] } = false := fun r => by simpa [Claim7.isSixth] using hn
  refine ⟨Claim7.tied_new_at Lk kinds tests (Claim7.new_of_sixth hc har lk hst hnb hm (h6 c) hl) hw, fun D hD => ?_, htie, (fun h => by cases h), hg⟩
  exact Claim7.tied_new_at Lk kinds tests (Claim7.new_of_sixth (hal D hD) har lk hst hnb hm (h6 _) hl) (hwal D hD)

theorem floorWithout_row : Rows.FloorWithoutSaid :=
  OpenClaim.holds_of_wide_leaving n_law_FloorWithout F_law_FloorWithout rfl rfl rfl rfl rfl rfl rfl ⟨rfl, rfl, rfl, rfl, rfl⟩ rfl rfl rfl rfl rfl (by kernel_rfl) at_law_FloorWithout (by kernel_rfl)
    (of_decide_eq_true (by kernel_rfl)) (by unfold Func.isWrapper; first | (rw [if_pos (by decide +kernel)]; kernel_rfl) | (rw [if_neg (by decide +kernel)]; exact ⟨rfl, rfl⟩))
    (fun os started H enc _ => lift1 (s := Rows.floorWithoutSpec) os started H enc at_law_FloorWithout (by kernel_rfl) (by kernel_rfl) (by kernel_rfl) (by kernel_rfl) (by kernel_rfl) rfl (fun _ => rfl)
      (ChangeSpec.witness_at (enc := enc) (C := Tryd.checked) (os := os) (X := fun w _ => laidMetH prog laid0 w) false (laidWorld os) #[.slice none 0 0] 8 rfl (by kernel_rfl) (by kernel_rfl) (by kernel_rfl) (by kernel_rfl) (by kernel_rfl) (laidWorld_met os _))
      (fun main hS hmb h nums lv Eg zg hl hg z0 => FloorWithout_top main hS hmb h nums lv Eg zg hl hg z0))

theorem FloorWithout_card : Rows.FloorWithoutCardSaid :=
  tied_goes .later [] [.handle] true (true, "2e2133920f864db8286a366f85eb0bf56b29bab96a3561a4e902e110205c3504") true
    floorWithout_row (fun _ h => by cases h) (by kernel_rfl) (fun _ h => by cases h) floorWithout_row_tie rfl ⟨rfl, rfl⟩ (by kernel_rfl) rfl
    (fun f fn hf hfn => by
      obtain rfl : f = n_law_FloorWithout := (Option.some.inj ((show prog.funcNamed "muscovado/muscovadolaw05.FloorWithout" = some n_law_FloorWithout by kernel_rfl).symm.trans hf)).symm
      obtain rfl : fn = F_law_FloorWithout := (Option.some.inj (at_law_FloorWithout.symm.trans hfn)).symm
      exact ⟨by kernel_rfl, fun j t ht => by
        rw [show (F_law_FloorWithout).params = #[t_sl_int] by kernel_rfl] at ht
        have h3 : t = t_sl_int := by
          rcases j with _ | j
          · simpa using ht.symm
          · simp at ht
        subst h3
        exact (show prog.wantsStandIn t_sl_int = false by kernel_rfl)⟩)
    (by kernel_rfl)
#print axioms FloorWithout_card
end Go.Proofs.YtabnpjbnoedfgaaDoor
