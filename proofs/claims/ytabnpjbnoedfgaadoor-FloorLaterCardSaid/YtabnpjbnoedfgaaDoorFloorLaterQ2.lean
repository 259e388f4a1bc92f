/- Plants whose plans answer to each other; floors with other numbers. Conditions: none. (And 5 texts more.) -/
import Derived.Test.YtabnpjbnoedfgaaDoorFloorLaterQ1
import Derived.Test.YtabnpjbnoedfgaaDoorP14
import Derived.Test.YtabnpjbnoedfgaaDoorP13
set_option linter.unusedVariables false
set_option linter.unusedSimpArgs false

/- Plants whose plans answer to each other; floors with other numbers. Conditions: none. -/
namespace Go.Mus

theorem perm_of_mem {α : Type} [DecidableEq α] {l l' : List α} (h : l.Nodup) (h' : l'.Nodup) (hm : ∀ a, a ∈ l ↔ a ∈ l') : l.Perm l' := by
  rw [List.perm_iff_count]
  intro a
  by_cases ha : a ∈ l
  · have h1 := List.count_pos_iff.2 ha
    have h2 := List.count_pos_iff.2 ((hm a).1 ha)
    have h3 := List.nodup_iff_count.1 h a
    have h4 := List.nodup_iff_count.1 h' a
    omega
  · rw [List.count_eq_zero.2 ha, List.count_eq_zero.2 fun h => ha ((hm a).2 h)]

theorem valid_free {fs : List Fl} {ss : List St} {may : May} {p : List Be} (h : Valid fs ss may p) : Valid fs ss freeM p := by
  refine ⟨h.len, fun i hi => ?_, h.out⟩
  have := h.at_ i hi
  rw [mem_berths] at this ⊢
  rcases this with ⟨_, h1⟩ | ⟨_, h1⟩
  · exact .inl ⟨rfl, h1⟩
  · exact .inr ⟨rfl, h1⟩
/-- Each right plan of the one answers to one of the other. -/
structure Sym (fs fs' : List Fl) (ss ss' : List St) (σ τ : List Be → List Be) : Prop where
  hall : HallOK fs ss
  hall' : HallOK fs' ss'
  len : ss'.length = ss.length
  val : ∀ may p, Valid fs ss may p → Valid fs' ss' may (σ p)
  val' : ∀ may p, Valid fs' ss' may p → Valid fs ss may (τ p)
  rgt : ∀ p, Valid fs ss freeM p → inspF fs ss p = none → inspF fs' ss' (σ p) = none
  rgt' : ∀ p, Valid fs' ss' freeM p → inspF fs' ss' p = none → inspF fs ss (τ p) = none
  inv : ∀ p, Valid fs ss freeM p → τ (σ p) = p
  inv' : ∀ p, Valid fs' ss' freeM p → σ (τ p) = p
  lo : ∀ p, Valid fs ss freeM p → loavesF ss' (σ p) = loavesF ss p
  on : ∀ p i, Valid fs ss freeM p → (0 ≤ (beAt (σ p) i).fl ↔ 0 ≤ (beAt p i).fl)
section
variable {fs fs' : List Fl} {ss ss' : List St} {σ τ : List Be → List Be} (Y : Sym fs fs' ss ss' σ τ)
include Y
theorem Sym.lo' {p : List Be} (h : Valid fs' ss' freeM p) : loavesF ss (τ p) = loavesF ss' p := by
  rw [← Y.lo _ (Y.val' _ _ h), Y.inv' p h]
theorem Sym.top : (bestF fs' ss').1 = (bestF fs ss).1 := by
  have h1 := best_le Y.hall Y.hall' fun p hv hi => ⟨σ p, Y.val _ _ hv, Y.rgt p hv hi, by rw [Y.lo p hv]; exact Int.le_refl _⟩
  have h2 := best_le Y.hall' Y.hall fun p hv hi => ⟨τ p, Y.val' _ _ hv, Y.rgt' p hv hi, by rw [Y.lo' hv]; exact Int.le_refl _⟩
  omega
theorem Sym.all : (allF fs' ss' freeM).Perm ((allF fs ss freeM).map σ) := by
  refine perm_of_mem (allF_nodup Y.hall') ?_ fun p => ?_
  · rw [List.Nodup, List.pairwise_map]
    refine (allF_nodup Y.hall).imp_of_mem fun {a b} ha hb hab e => hab ?_
    rw [← Y.inv a ((mem_allF Y.hall).1 ha).1, e, Y.inv b ((mem_allF Y.hall).1 hb).1]
  · rw [mem_allF Y.hall', List.mem_map]
    constructor
    · rintro ⟨h1, h2⟩
      exact ⟨τ p, (mem_allF Y.hall).2 ⟨Y.val' _ _ h1, Y.rgt' p h1 h2⟩, Y.inv' p h1⟩
    · rintro ⟨q, hq, rfl⟩
      obtain ⟨h1, h2⟩ := (mem_allF Y.hall).1 hq
      exact ⟨Y.val _ _ h1, Y.rgt q h1 h2⟩
theorem Sym.best : (bestF fs' ss').2.Perm ((bestF fs ss).2.map σ) := by
  rw [(best_spec Y.hall').2.2, (best_spec Y.hall).2.2, Y.top]
  refine (Y.all.filter _).trans (.of_eq ?_)
  rw [List.filter_map]
  congr 1
  refine List.filter_congr fun p hp => ?_
  show decide (loavesF ss' (σ p) = _) = _
  rw [Y.lo p ((mem_allF Y.hall).1 hp).1]
theorem Sym.count : (bestF fs' ss').2.length = (bestF fs ss).2.length := by rw [Y.best.length_eq, List.length_map]
theorem Sym.cnt (s : Nat) : cntF s (bestF fs' ss').2 = cntF s (bestF fs ss).2 := by
  rw [cntF, Y.best.countP_eq, List.countP_map, cntF]
  refine List.countP_congr fun p hp => ?_
  have hv := ((mem_allF Y.hall).1 (bestF_mem hp)).1
  simp only [Function.comp_apply, decide_eq_true_eq]
  exact Y.on p s hv
theorem Sym.verd (s : Nat) : verdF fs' ss' s = verdF fs ss s := by rw [verdF, verdF, Y.cnt, Y.count]
theorem Sym.someR (may : May) : someR fs' ss' may = Go.Mus.someR fs ss may := by
  refine Bool.eq_iff_iff.2 ?_
  rw [some_iff Y.hall', some_iff Y.hall]
  constructor
  · rintro ⟨p, h1, h2⟩; exact ⟨τ p, Y.val' _ _ h1, Y.rgt' p (valid_free h1) h2⟩
  · rintro ⟨p, h1, h2⟩; exact ⟨σ p, Y.val _ _ h1, Y.rgt p (valid_free h1) h2⟩
theorem Sym.late : lateF fs' ss' = lateF fs ss := by
  have key : ∀ m n, lateFrom fs' ss' m n = lateFrom fs ss m n := by
    intro m
    induction m with
    | zero => intro n; rfl
    | succ m ih => intro n; rw [lateFrom, lateFrom, Y.someR, ih]
  rw [lateF, lateF, Y.len, key]
end

/-! Floors with other numbers -/
def swB (nf : Int) (b : Be) : Be := if b.fl < 0 then b else ⟨nf - 1 - b.fl, b.day⟩
def swP (nf : Int) (p : List Be) : List Be := p.map (swB nf)
theorem swP_at {nf : Int} {p : List Be} {i : Nat} : beAt (swP nf p) i = swB nf (beAt p i) := by
  simp only [beAt, swP, List.getD, List.getElem?_map]
  cases p[i]? with
  | none => simp [swB, bnone]
  | some b => rfl
theorem flAt_rev {fs : List Fl} {f : Int} (h0 : 0 ≤ f) (h1 : f < fs.length) : flAt fs.reverse f = flAt fs (fs.length - 1 - f) := by
  simp only [flAt, List.getD]
  rw [List.getElem?_reverse (by omega)]
  congr 3
  omega
theorem ckFloors_all : ∀ {fs : List Fl}, ckFloors fs = 0 ↔ ∀ f ∈ fs, ckFloor f = 0
  | [] => by simp [ckFloors]
  | f :: fs => by
    simp only [ckFloors, List.mem_cons, forall_eq_or_imp]
    split
    · rename_i h; rw [ckFloors_all (fs := fs)]; exact ⟨fun h2 => ⟨h, h2⟩, fun h2 => h2.2⟩
    · rename_i h; exact ⟨fun h2 => absurd h2 h, fun h2 => absurd h2.1 h⟩
theorem ckPlant_rev {fs : List Fl} {ss : List St} (h : ckPlant fs ss = 0) : ckPlant fs.reverse ss = 0 := by
  obtain ⟨h1, h2, h3, h4, h5⟩ := ckPlant0 h
  refine ckPlant_mk (by simp; omega) (by simpa using h2) ?_ h3 h5
  rw [ckFloors_all] at h4 ⊢
  exact fun f hf => h4 f (List.mem_reverse.1 hf)
theorem sw_fl {nf : Int} {b : Be} {f : Int} (h0 : 0 ≤ f) (h1 : f < nf) : (swB nf b).fl = f ↔ b.fl = nf - 1 - f := by
  unfold swB; split
  · omega
  · simp only; omega
theorem sw_day {nf : Int} {b : Be} : (swB nf b).day = b.day := by unfold swB; split <;> rfl
theorem sw_bad {fs : List Fl} {ss : List St} {p : List Be} {f n : Int} (h0 : 0 ≤ f) (h1 : f < fs.length) : Bad fs.reverse ss (swP fs.length p) f n ↔ Bad fs ss p (fs.length - 1 - f) n := by
  have e := flAt_rev h0 h1
  have hon : ∀ a, OnDay (swP fs.length p) f a ↔ OnDay p (fs.length - 1 - f) a := fun a => by
    simp only [OnDay, swP_at, sw_fl h0 h1, sw_day]
  have hhi : hiAt fs.reverse ss (swP fs.length p) f n = hiAt fs ss p (fs.length - 1 - f) n := sumK_congr fun i _ => by
    simp only [hiG, swP_at, sw_fl h0 h1, sw_day, e]
  simp only [Bad, Full, Cold, hon, hhi, e]
theorem sw_right {fs : List Fl} {ss : List St} {p : List Be} (hall : HallOK fs ss) (hall' : HallOK fs.reverse ss) (hp : PlOK p) (hp' : PlOK (swP fs.length p)) (h : inspF fs ss p = none) : inspF fs.reverse ss (swP fs.length p) = none := by
  rw [insp_none hall hp] at h
  rw [insp_none hall' hp']
  intro f h0 h1 n hb
  rw [List.length_reverse] at h1
  exact h _ (by omega) (by omega) n ((sw_bad h0 h1).1 hb)
theorem sw_valid {fs : List Fl} {ss : List St} {may : May} {p : List Be} (h : Valid fs ss may p) : Valid fs.reverse ss may (swP fs.length p) := by
  refine ⟨by simp [swP, h.len], fun i hi => ?_, fun i hi => ?_⟩
  · have := h.at_ i hi
    rw [swP_at, mem_berths]
    rw [mem_berths] at this
    rcases this with ⟨a1, a2⟩ | ⟨a1, a2, a3, a4, a5⟩
    · exact .inl ⟨a1, by rw [a2]; rfl⟩
    · refine .inr ⟨a1, ?_⟩
      rw [List.length_reverse, sw_day]
      unfold swB
      rw [if_neg (by omega)]
      simp only; omega
  · rw [swP_at, h.out i hi]; rfl
theorem swB_inv {nf : Int} {b : Be} (h : b.fl < nf) : swB nf (swB nf b) = b := by
  by_cases h1 : b.fl < 0
  · have e : swB nf b = b := if_pos h1
    rw [e, e]
  · have e : swB nf b = ⟨nf - 1 - b.fl, b.day⟩ := if_neg h1
    have e2 : swB nf ⟨nf - 1 - b.fl, b.day⟩ = ⟨nf - 1 - (nf - 1 - b.fl), b.day⟩ := if_neg (by simp only; omega)
    rw [e, e2, show nf - 1 - (nf - 1 - b.fl) = b.fl by omega]
theorem sw_inv {fs : List Fl} {ss : List St} {p : List Be} (hall : HallOK fs ss) (h : Valid fs ss freeM p) : swP fs.length (swP fs.length p) = p := by
  have hp := valid_plan hall h
  rw [swP, swP, List.map_map]
  conv => rhs; rw [← List.map_id p]
  refine List.map_congr_left fun b hb => ?_
  have := hp.fl b hb
  exact swB_inv this
theorem sw_sym {fs : List Fl} {ss : List St} (hck : ckPlant fs ss = 0) : Sym fs fs.reverse ss ss (swP fs.length) (swP fs.length) := by
  have hall := hall_ck hck
  have hall' := hall_ck (ckPlant_rev hck)
  have hback : ∀ may p, Valid fs.reverse ss may p → Valid fs ss may (swP fs.length p) := fun may p h => by
    have := sw_valid h
    rwa [List.length_reverse, List.reverse_reverse] at this
  refine ⟨hall, hall', rfl, fun may p h => sw_valid h, hback, fun p h hi => sw_right hall hall' (valid_plan hall h).ok (valid_plan hall' (sw_valid h)).ok hi, fun p h hi => ?_, fun p h => sw_inv hall h, fun p h => ?_, fun p h => ?_, fun p i h => ?_⟩
  · have := sw_right (fs := fs.reverse) (ss := ss) (p := p) hall' (by rw [List.reverse_reverse]; exact hall) (valid_plan hall' h).ok (by rw [List.length_reverse]; exact (valid_plan hall (hback _ _ h)).ok) hi
    rwa [List.length_reverse, List.reverse_reverse] at this
  · have := sw_inv hall' h
    rwa [List.length_reverse] at this
  · rw [loavesF_eq hall, loavesF_eq hall]
    refine sumK_congr fun i hi => ?_
    have hb := h.at_ i hi
    rw [mem_berths] at hb
    simp only [coG, swP_at]
    congr 1
    refine propext ?_
    rcases hb with ⟨_, a2⟩ | ⟨_, a2, a3, _⟩
    · rw [a2]; rfl
    · unfold swB; rw [if_neg (by omega)]; simp only; omega
  · rw [swP_at]
    rcases Nat.lt_or_ge i ss.length with hi | hi
    · have hb := h.at_ i hi
      rw [mem_berths] at hb
      rcases hb with ⟨_, a2⟩ | ⟨_, a2, a3, _⟩
      · rw [a2]; rfl
      · unfold swB; rw [if_neg (by omega)]; simp only; omega
    · rw [h.out i hi]; rfl
end Go.Mus

/- Floors with other numbers. Conditions: none; over the given program. -/
namespace Go.Mus
set_option maxRecDepth 100000
set_option maxHeartbeats 4000000

/-- The first k turned round. -/
def mixK {α : Type} (l : List α) (k : Nat) : List α := l.reverse.take k ++ l.drop k
theorem mixK_len {α : Type} {l : List α} {k : Nat} (h : k ≤ l.length) : (mixK l k).length = l.length := by simp [mixK]; omega
theorem mixK_step {α : Type} {l : List α} {k : Nat} {y : α} (hk : k < l.length) (hy : l[l.length - 1 - k]? = some y) : (mixK l k).set k y = mixK l (k + 1) := by
  have hr : l.reverse[k]? = some y := by rw [List.getElem?_reverse hk]; exact hy
  have hl : (l.reverse.take k).length = k := by simp; omega
  rw [mixK, mixK, ← List.getElem_cons_drop hk, List.take_add_one, hr]
  have := List.set_append_right (s := l.reverse.take k) (t := l[k] :: l.drop (k + 1)) k y (by omega)
  rw [this, hl, Nat.sub_self, List.set_cons_zero, List.append_assoc]
  rfl
theorem mixK_end {α : Type} {l : List α} : mixK l l.length = l.reverse := by
  rw [mixK, List.drop_length, List.append_nil]
  exact List.take_of_length_le (by simp)
theorem Part.setF {c : Array Value} {l : List Fl} {j : Nat} {x y : Fl} (h : Part c 0 (flat Fl.row l)) (hj : l[j]? = some x) : Part (putAll c (0 + j * 4) [I y.pl, I y.lo, I y.hi, I y.co]) 0 (flat Fl.row (l.set j y)) := by
  have h1 := h.setR (⟨y.pl, x.lo, x.hi, x.co⟩ : Fl) 0 (I y.pl) (by decide) hj rfl
  have e1 : (l.set j (⟨y.pl, x.lo, x.hi, x.co⟩ : Fl))[j]? = some ⟨y.pl, x.lo, x.hi, x.co⟩ := List.getElem?_set_self (lt_of_get hj)
  have h2 := h1.setR (⟨y.pl, y.lo, x.hi, x.co⟩ : Fl) 1 (I y.lo) (by decide) e1 rfl
  rw [List.set_set] at h2
  have e2 : (l.set j (⟨y.pl, y.lo, x.hi, x.co⟩ : Fl))[j]? = some ⟨y.pl, y.lo, x.hi, x.co⟩ := List.getElem?_set_self (lt_of_get hj)
  have h3 := h2.setR (⟨y.pl, y.lo, y.hi, x.co⟩ : Fl) 2 (I y.hi) (by decide) e2 rfl
  rw [List.set_set] at h3
  have e3 : (l.set j (⟨y.pl, y.lo, y.hi, x.co⟩ : Fl))[j]? = some ⟨y.pl, y.lo, y.hi, x.co⟩ := List.getElem?_set_self (lt_of_get hj)
  have h4 := h3.setR y 3 (I y.co) (by decide) e3 rfl
  rw [List.set_set] at h4
  simpa [putAll, Nat.add_assoc] using h4

theorem FloorNumbered_top (main : Side) (hS : ∀ S, main.ok S → ∃ Fin, S = Mn prog Fin) (hmb : main.b = true) (h : Hp) (nums : List Int) (lv : Value) (Eg : TypeId) (zg : Nat × Nat) (hl : Sl h rowI lv nums) (hg : h 0 = some (.cells #[rtV t_error] Eg zg)) (z0 : h.z 0) : TopV prog main n_law_FloorNumbered #[lv] h (.bool true) := by
  refine TopV.of_body at_law_FloorNumbered rfl (by show 1 ≤ 63; decide) [(0, lv)] ⟨rfl, trivial⟩ ?_
  refine W.seq ?_
  refine W.region rfl ?_
  refine oq (y_assign rfl rfl) rfl wn rfl rfl ?_
  refine Ops.nil ?_
  refine thn_n ?_
  refine W.seq ?_
  refine W.region rfl ?_
  refine oq (y_move rfl rfl) rfl wn rfl rfl ?_
  refine c0 (fun h' hE hL => NewHat_fn _ h' nums lv (hl.ext hE)) (fun v A' hv => ?_)
  obtain ⟨bh, s0, rfl, rfl⟩ := hv
  refine cg (A := [(bh, _)]) .head (fun h' hE hL => PlantOf_fn _ h' nums lv bh s0 3 2 (hl.ext hE) (by decide) (by decide)) (fun v A' hv => ?_)
  obtain ⟨vf, vs, fs, ss, Sf, Ss, k1, s1, rfl, ⟨hOf, hOs⟩, ⟨hck, hn4, hw⟩, hk100, hsb⟩ := hv
  refine Ops.sb (F' := Sf ++ Ss) ((Sb.skip rfl .refl).trans (hsb.trans (Sb.right .refl .nil))) ?_
  obtain ⟨a, cap, rfl⟩ := hOf.isSl
  obtain ⟨a', cap', rfl⟩ := hOs.isSl
  have hnf := (hall_ck hck).nf
  refine Ops.new (fun β3 => ?_)
  first | refine Ops.stoW ?_ | refine Ops.stoA ?_
  refine Ops.nil ?_
  refine thn_n ?_
  refine W.sb (F' := Sf ++ (Ss ++ [(β3, .cells #[.slice a fs.length cap, .slice a' ss.length cap'] t_Plant (0, 0))])) (.of_perm (by rw [← List.append_assoc]; exact List.perm_append_singleton _ _)) ?_
  refine freezeOs hOf (fun hx hEx hslf hzf => ?_)
  refine freezeOs hOs (fun hy hEy hsls hzs => ?_)
  refine W.seq ?_
  refine W.region rfl ?_
  first | refine oq (yldW rfl rfl) rfl wn rfl rfl ?_ | refine oq (yldA rfl rfl) rfl wn rfl rfl ?_
  refine c0 (fun h' hE hL => DupPlant_fn _ h' fs ss _ _ (hslf.ext (hEy.trans hE)) (hsls.ext hE) (by omega)) (fun v A' hv => ?_)
  obtain ⟨vf2, vs2, Sf2, Ss2, rfl, ⟨hOf2, hOs2⟩, hsb3⟩ := hv
  refine Ops.sb (F' := (β3, .cells #[.slice a fs.length cap, .slice a' ss.length cap'] t_Plant (0, 0)) :: (Ss2 ++ Sf2)) (.trans (.of_perm (.trans (List.Perm.cons _ List.perm_append_comm) (List.perm_append_singleton _ _).symm)) (hsb3.app .refl)) ?_
  obtain ⟨a2, cap2, rfl⟩ := hOf2.isSl
  obtain ⟨a3, cap3, rfl⟩ := hOs2.isSl
  refine Ops.new (fun β4 => ?_)
  first | refine Ops.stoW ?_ | refine Ops.stoA ?_
  refine Ops.nil ?_
  refine thn_n ?_
  refine W.seq ?_
  refine W.seq ?_
  refine W.region rfl ?_
  refine oq (y_assign rfl rfl) rfl wn rfl rfl ?_
  refine Ops.nil ?_
  refine thn_n ?_
  refine W.block ?_
  have hO0 : Os t_Floor Fl.row (.slice a2 fs.length cap2) (mixK fs 0) Sf2 := by simpa [mixK] using hOf2
  refine W.loop2 (fun (k : Nat) (S' : Frag) => k ≤ fs.length ∧ Os t_Floor Fl.row (.slice a2 fs.length cap2) (mixK fs k) S') (fun k S' => [(5, I k), (4, .pointer (some ⟨β4, 0, none⟩)), (3, .pointer (some ⟨β3, 0, none⟩))]) (fun k S' => (β4, .cells #[.slice a2 fs.length cap2, .slice a3 ss.length cap3] t_Plant (0, 0)) :: (β3, .cells #[.slice a fs.length cap, .slice a' ss.length cap'] t_Plant (0, 0)) :: (Ss2 ++ S')) (fun k _ => fs.length - k) 0 Sf2 ⟨Nat.zero_le _, hO0⟩ ⟨rfl, rfl, rfl, trivial⟩ .refl ?_
  rintro k S' ⟨hk, hO'⟩
  refine W.seq ?_
  refine W.seq ?_
  refine W.region rfl ?_
  refine oq (y_move rfl rfl) rfl wn rfl rfl ?_
  refine oq (y_fieldAddr rfl rfl) rfl wn rfl rfl ?_
  refine oq (yld rfl rfl) rfl wn rfl rfl ?_
  refine oq (y_len rfl rfl) rfl wn rfl rfl ?_
  refine oq (y_lss rfl rfl rfl) rfl wn rfl rfl ?_
  refine Ops.nil ?_
  refine thn_n ?_
  refine W.condp rfl (fun c19 => ?_) (fun c19 => ?_)
  · have hk1 : k < fs.length := by omega
    obtain ⟨y, hy0, -⟩ := has (show fs.length - 1 - k < fs.length by omega)
    obtain ⟨bf, off, c, E, fz, rfl, hb, hx1, hy1, hz1⟩ := hslf.at hy0
    have hb' := hEy.1 _ _ hb
    have hx2 : c.extract (off + (fs.length - 1 - k) * 4) (off + (fs.length - 1 - k) * 4 + 4) = #[I y.pl, I y.lo, I y.hi, I y.co] := hx1
    clear hx1 hz1
    have hml := mixK_len (l := fs) (k := k) hk
    obtain ⟨x0, hx0, -⟩ := has (show k < (mixK fs k).length by omega)
    rcases hO' with ⟨hnil, _, _⟩ | ⟨β, c2, cp, J, hv, rfl, hc1, hc2, hP, hJ⟩
    · rw [hnil] at hml; simp at hml; omega
    obtain ⟨rfl, rfl⟩ : a2 = some ⟨β, 0, none⟩ ∧ cap2 = cp := by injection hv with e1 e2 e3; exact ⟨e1, e3⟩
    have hP2 := hP.setF (y := y) hx0
    rw [mixK_step hk1 hy0] at hP2
    have hsz := (hP.rowE hx0).2
    refine W.skip ?_
    refine thn_n ?_
    refine W.seq ?_
    refine W.block ?_
    refine W.drawP2 (n := 15) rfl ?_
    refine aq (i := 0) (y_fieldAddr rfl rfl) rfl an rfl rfl ?_
    refine aq (i := 1) (yld rfl rfl) rfl an rfl rfl ?_
    refine aq (i := 2) (y_move rfl rfl) rfl an rfl rfl ?_
    refine aq (i := 3) (y_fieldAddr rfl rfl) rfl an rfl rfl ?_
    refine aq (i := 4) (yld rfl rfl) rfl an rfl rfl ?_
    refine aq (i := 5) (y_fieldAddr rfl rfl) rfl an rfl rfl ?_
    refine aq (i := 6) (yld rfl rfl) rfl an rfl rfl ?_
    refine aq (i := 7) (y_len rfl rfl) rfl an rfl rfl ?_
    first | refine aq (i := 8) (ysub rfl rfl rfl) rfl an rfl rfl ?_ | refine aq (i := 8) (y_subw rfl rfl rfl) rfl an rfl rfl ?_
    refine aq (i := 9) (y_move rfl rfl) rfl an rfl rfl ?_
    refine aq (i := 10) (Yv.eq (u := I ((fs.length - 1 - k : Nat) : Int)) (ysub rfl rfl rfl) (show I _ = I _ by congr 1; omega)) rfl an rfl rfl ?_
    first | refine aq (i := 11) (yix rfl rfl rfl) rfl an rfl rfl ?_ | refine aq (i := 11) (yixI rfl rfl rfl) rfl an rfl rfl ?_
    first | refine aq (i := 12) (yldW rfl rfl) rfl an rfl rfl ?_ | refine aq (i := 12) (yldA rfl rfl) rfl an rfl rfl ?_
    first | refine aq (i := 13) (yix rfl rfl rfl) rfl an rfl rfl ?_ | refine aq (i := 13) (yixI rfl rfl rfl) rfl an rfl rfl ?_
    first | refine ae (i := 14) rfl an rfl rfl (eSW rfl rfl rfl ?_) | refine ae (i := 14) rfl an rfl rfl (eSA rfl rfl rfl ?_)
    refine ⟨.inl (by kernel_rfl), ?_⟩
    refine az ?_
    refine blk_n ?_
    refine thn_n ?_
    refine W.region rfl ?_
    refine oq (y_move rfl rfl) rfl wn rfl rfl ?_
    first | refine oq (yadd rfl rfl rfl) rfl wn rfl rfl ?_ | refine oq (y_addw rfl rfl rfl) rfl wn rfl rfl ?_
    refine oq (y_assign rfl rfl) rfl wn rfl rfl ?_
    refine Ops.nil ?_
    refine thn_n ?_
    exact ⟨rfl, k + 1, (β, _) :: J, ⟨by omega, .inr ⟨β, _, cap2, J, by rw [mixK_len (by omega)], rfl, by rw [putAll_size]; exact hc1, by rw [mixK_len (by omega)]; rw [hml] at hc2; exact hc2, hP2, hJ⟩⟩, by omega, ⟨rfl, rfl, rfl, trivial⟩, .refl⟩
  · have hkl : k = fs.length := by omega
    subst hkl
    rw [mixK_end] at hO'
    have Y := sw_sym hck
    have hckr := ckPlant_rev hck
    have hlr : fs.reverse.length = fs.length := List.length_reverse
    refine W.exit ?_
    refine thn_x ?_
    refine thn_x ?_
    refine blk_x ?_
    refine thn_n ?_
    refine W.sb (F' := Ss2 ++ (S' ++ [(β4, .cells #[.slice a2 fs.length cap2, .slice a3 ss.length cap3] t_Plant (0, 0)), (β3, .cells #[.slice a fs.length cap, .slice a' ss.length cap'] t_Plant (0, 0))])) (.of_perm (by rw [← List.append_assoc]; exact List.perm_append_comm (l₂ := [_, _]))) ?_
    refine freezeOs hOs2 (fun hx2 hEx2 hsls2 hzs2 => ?_)
    refine freezeOs hO' (fun hy2 hEy2 hslf2 hzf2 => ?_)
    have hEall := ((hEx.trans hEy).trans hEx2).trans hEy2
    have hE3 := (hEy.trans hEx2).trans hEy2
    have hE4 := hEx2.trans hEy2
    refine W.seq ?_
    refine W.region rfl ?_
    first | refine oq (yldW rfl rfl) rfl wn rfl rfl ?_ | refine oq (yldA rfl rfl) rfl wn rfl rfl ?_
    refine cp (fun h' hE hL => lawloaves_fn main hS hmb h' fs ss _ _ Eg zg (hslf.ext (hE3.trans hE)) (hsls.ext (hE4.trans hE)) (hzf.ext (hE3.trans hE)) (hzs.ext (hE4.trans hE)) hck ((hEall.trans hE).1 _ _ hg) ((hEall.trans hE).2 _ z0)) ?_
    refine oq (y_move rfl rfl) rfl wn rfl rfl ?_
    refine oq (y_extract rfl rfl rfl) rfl wn rfl rfl ?_
    refine oq (y_extract rfl rfl rfl) rfl wn rfl rfl ?_
    refine oq (y_assign rfl rfl) rfl wn rfl rfl ?_
    refine oq (y_assign rfl rfl) rfl wn rfl rfl ?_
    refine Ops.nil ?_
    refine thn_n ?_
    refine W.seq ?_
    refine W.region rfl ?_
    first | refine oq (yldW rfl rfl) rfl wn rfl rfl ?_ | refine oq (yldA rfl rfl) rfl wn rfl rfl ?_
    refine cp (fun h' hE hL => lawloaves_fn main hS hmb h' fs.reverse ss _ _ Eg zg (hslf2.ext hE) (hsls2.ext (hEy2.trans hE)) (hzf2.ext hE) (hzs2.ext (hEy2.trans hE)) hckr ((hEall.trans hE).1 _ _ hg) ((hEall.trans hE).2 _ z0)) ?_
    refine oq (y_move rfl rfl) rfl wn rfl rfl ?_
    refine oq (y_extract rfl rfl rfl) rfl wn rfl rfl ?_
    refine oq (y_extract rfl rfl rfl) rfl wn rfl rfl ?_
    refine oq (y_assign rfl rfl) rfl wn rfl rfl ?_
    refine oq (y_assign rfl rfl) rfl wn rfl rfl ?_
    refine Ops.nil ?_
    refine thn_n ?_
    refine W.seq ?_
    refine W.region rfl ?_
    --abs T
    refine oq ((y_move rfl rfl).eq (u := .bool true) rfl) rfl wn rfl rfl ?_
    refine oq (y_move rfl rfl) rfl wn rfl rfl ?_
    --abs T
    refine oq ((y_move rfl rfl).eq (u := .bool true) rfl) rfl (want_some rfl rfl rfl) rfl rfl ?_
    refine oq (y_pickT rfl rfl rfl) rfl wn rfl rfl ?_
    refine oq (y_move rfl rfl) rfl wn rfl rfl ?_
    refine oq (y_move rfl rfl) rfl (want_some rfl rfl rfl) rfl rfl ?_
    refine oq (y_move rfl rfl) rfl (want_some rfl rfl rfl) rfl rfl ?_
    --abs T
    refine oq ((y_eql rfl rfl rfl).eq (u := .bool true) (congrArg Value.bool (decide_eq_true Y.top.symm))) rfl (want_some rfl rfl rfl) rfl rfl ?_
    refine oq (y_pickT rfl rfl rfl) rfl wn rfl rfl ?_
    refine oq (y_move rfl rfl) rfl wn rfl rfl ?_
    first | refine oq (yldW rfl rfl) rfl (want_some rfl rfl rfl) rfl rfl ?_ | refine oq (yldA rfl rfl) rfl (want_some rfl rfl rfl) rfl rfl ?_
    first | refine oq (yldW rfl rfl) rfl (want_some rfl rfl rfl) rfl rfl ?_ | refine oq (yldA rfl rfl) rfl (want_some rfl rfl rfl) rfl rfl ?_
    --abs T
    refine cp (fun h' hE hL => same_fn main hS hmb h' fs fs.reverse ss ss _ _ _ _ Eg zg (hslf.ext (hE3.trans hE)) (hsls.ext (hE4.trans hE)) (hzf.ext (hE3.trans hE)) (hzs.ext (hE4.trans hE)) (hslf2.ext hE) (hsls2.ext (hEy2.trans hE)) (hzf2.ext hE) (hzs2.ext (hEy2.trans hE)) hck hckr rfl Y.count Y.late (fun i _ => Y.verd i) ((hEall.trans hE).1 _ _ hg) ((hEall.trans hE).2 _ z0)) ?_ (hw := want_some rfl rfl rfl)
    refine oq (y_pickT rfl rfl rfl) rfl wn rfl rfl ?_
    refine oq (y_move rfl rfl) rfl wn rfl rfl ?_
    --abs T
    refine cp (fun h' hE hL => exs_fn _ hS hmb h' Eg zg ((hEall.trans hE).1 _ _ hg) ((hEall.trans hE).2 _ z0)) ?_ (hw := want_some rfl rfl rfl)
    refine oq (y_pickT rfl rfl rfl) rfl wn rfl rfl ?_
    refine oq (y_assign rfl rfl) rfl wn rfl rfl ?_
    refine Ops.nil ?_
    refine thn_n ?_
    refine W.ret ?_
    exact lvq rfl
end Go.Mus

/- Plans out of a hat; copies of plans. Conditions: none; over the given program. -/
namespace Go.Mus
set_option maxRecDepth 100000
set_option maxHeartbeats 4000000

theorem DupBerths_fn (main : Side) (h : Hp) (l : List Be) (v : Value) (hl : Sl h Be.row v l) (hn : l.length ≤ 1000) : Fnc prog main n_kit_DupBerths #[v] h [] (fun v A => ∃ S, Os t_Berth Be.row v l S ∧ Sb S A) := by
  obtain ⟨a, cap, rfl⟩ := hl.isSl
  refine Fnc.of_body at_kit_DupBerths rfl (by show 1 ≤ 6; decide) [(0, .slice a l.length cap)] ⟨rfl, trivial⟩ ?_
  refine W.seq ?_
  refine W.region rfl ?_
  refine oq (y_assign rfl rfl) rfl wn rfl rfl ?_
  refine Ops.nil ?_
  refine thn_n ?_
  refine W.seq ?_
  refine W.region rfl ?_
  refine Ops.bsl0 (fun β3 => ?_)
  refine oq (y_move rfl rfl) rfl wn rfl rfl ?_
  have hO : Os t_Berth Be.row (.slice (some ⟨β3, 0, none⟩) 0 0) ([] : List Be) [(β3, .cells #[] t_Berth (0, 0))] := .inr ⟨β3, #[], 0, [], rfl, rfl, rfl, Nat.le_refl _, Part.all [], .nil⟩
  refine oe rfl wn rfl rfl (e_append (row := Be.row) (l := []) (l' := l) rfl rfl rfl hO .all (fun h2 hE _ => hl.ext hE) (by simp; omega) (by decide) rfl (fun v' S' hS' => ?_))
  rw [List.nil_append] at hS'
  refine oq (y_assign rfl rfl) rfl wn rfl rfl ?_
  refine Ops.nil ?_
  refine thn_n ?_
  refine W.ret ?_
  exact lvt (vs := [v']) ⟨S', hS', .refl⟩

theorem ckBerths_app {nf : Int} : ∀ {ss : List St} {l : List Be} {s : St} {b : Be}, ckBerths nf (ss.take l.length) l = 0 → ss[l.length]? = some s → ckBerth nf s b = 0 → ckBerths nf (ss.take (l.length + 1)) (l ++ [b]) = 0
  | [], l, s, b, _, h, _ => by simp at h
  | t :: ss, [], s, b, _, h, hb => by
    simp at h; subst h
    simp [ckBerths, hb]
  | t :: ss, c :: l, s, b, h, hs, hb => by
    simp only [List.length_cons, List.take_succ_cons, List.cons_append, ckBerths] at h ⊢
    split at h
    · rename_i h1
      rw [if_pos h1]
      exact ckBerths_app h (by simpa using hs) hb
    · rename_i h1; exact absurd h h1
theorem ckBerth_ok {nf : Int} {s : St} {b : Be} (hnf : 1 ≤ nf) (h : b = ⟨-1, 0⟩ ∨ 0 ≤ b.fl ∧ b.fl < nf ∧ s.day ≤ b.day ∧ b.day ≤ s.day + s.wa) : ckBerth nf s b = 0 := by
  unfold ckBerth
  rcases h with rfl | h
  · rw [if_neg (by unfold outs; simp only; omega), if_neg (by simp), if_neg (by simp only; omega)]
  · rw [if_neg (by unfold outs; omega), if_neg (by omega), if_neg (by unfold outs; omega)]

theorem BerthsOf_fn (main : Side) (h : Hp) (nums : List Int) (lv : Value) (b k : Nat) (s : Int) (fs : List Fl) (ss : List St) (vf vs : Value) (hl : Sl h rowI lv nums) (hf : Sl h Fl.row vf fs) (hs : Sl h St.row vs ss) (hck : ckPlant fs ss = 0) (hk : k < 2000000000) : Fnc prog main n_kit_BerthsOf #[.pointer (some ⟨b, 0, none⟩), .agg #[vf, vs]] h [(b, hatO lv k s)]
    (fun v A => ∃ l S k' s', Os t_Berth Be.row v l S ∧ ckPlan fs ss l = 0 ∧ k' ≤ k + 100 ∧ Sb ((b, hatO lv k' s') :: S) A) := by
  have hall := hall_ck hck
  have hnf := hall.nf
  have hns := hall.ns
  obtain ⟨a, cap, rfl⟩ := hf.isSl
  obtain ⟨a', cap', rfl⟩ := hs.isSl
  refine Fnc.of_body at_kit_BerthsOf rfl (by show 2 ≤ 46; decide) [(0, .pointer (some ⟨b, 0, none⟩)), (1, .agg #[.slice a fs.length cap, .slice a' ss.length cap'])] ⟨rfl, rfl, trivial⟩ ?_
  refine W.seq ?_
  refine W.region rfl ?_
  refine Ops.box (cs := #[.slice a fs.length cap, .slice a' ss.length cap']) (fun β3 => ?_) rfl rfl rfl
  refine oq (y_assign rfl rfl) rfl wn rfl rfl ?_
  refine Ops.nil ?_
  refine thn_n ?_
  refine W.seq ?_
  refine W.region rfl ?_
  refine oq (y_assign rfl rfl) rfl wn rfl rfl ?_
  refine Ops.nil ?_
  refine thn_n ?_
  refine W.seq ?_
  refine W.seq ?_
  refine W.region rfl ?_
  refine oq (y_assign rfl rfl) rfl wn rfl rfl ?_
  refine Ops.nil ?_
  refine thn_n ?_
  refine W.block ?_
  refine W.loop3 (σ := Nat) (τ := List Be × Value × Frag) (υ := Nat × Int) (fun i t u => i ≤ ss.length ∧ t.1.length = i ∧ Os t_Berth Be.row t.2.1 t.1 t.2.2 ∧ ckBerths fs.length (ss.take i) t.1 = 0 ∧ u.1 ≤ k + 3 * i) (fun i t _ => [(6, I i), (5, t.2.1), (3, .pointer (some ⟨β3, 0, none⟩)), (0, .pointer (some ⟨b, 0, none⟩))])
    (fun _ t u => (β3, .cells #[.slice a fs.length cap, .slice a' ss.length cap'] t_Plant (0, 0)) :: (b, hatO lv u.1 u.2) :: t.2.2) (fun i _ _ => ss.length - i) 0 ([], .slice none 0 0, []) (k, s) ⟨Nat.zero_le _, rfl, .nil .nil, by simp [ckBerths], by omega⟩ ⟨rfl, rfl, rfl, rfl, trivial⟩ .refl ?_
  rintro i ⟨l, v, S⟩ ⟨k1, s1⟩ ⟨hi, hlen, hO, hcb, hk1⟩
  simp only at hlen hO hcb hk1 ⊢
  refine W.seq ?_
  refine W.seq ?_
  refine W.region rfl ?_
  refine oq (y_move rfl rfl) rfl wn rfl rfl ?_
  refine oq (y_fieldAddr rfl rfl) rfl wn rfl rfl ?_
  refine oq (yld rfl rfl) rfl wn rfl rfl ?_
  refine oq (y_len rfl rfl) rfl wn rfl rfl ?_
  refine oq (y_lss rfl rfl rfl) rfl wn rfl rfl ?_
  refine Ops.nil ?_
  refine thn_n ?_
  refine W.condp rfl (fun c11 => ?_) (fun c11 => ?_)
  · have hi1 : i < ss.length := by omega
    obtain ⟨t, ht, -⟩ := has hi1
    have hto := hall.st t (List.mem_of_getElem? ht)
    have hto2 := strike_ok hck ht
    obtain ⟨bs, off, c, E, fz, rfl, hb, hx1, hy1, hz1⟩ := hs.at ht
    have hc0 : c[off + i * 3 + 0]? = some (I t.day) := hz1 0 (by decide)
    have hc2 : c[off + i * 3 + 2]? = some (I t.wa) := hz1 2 (by decide)
    clear hx1 hz1
    obtain ⟨va, vc, rfl⟩ := hO.isSl
    refine W.skip ?_
    refine thn_n ?_
    refine W.seq ?_
    refine W.block ?_
    refine W.seq ?_
    refine W.seq ?_
    refine W.region rfl ?_
    refine oq (y_move rfl rfl) rfl wn rfl rfl ?_
    --abs B
    refine cg (A := [(b, _)]) (.tail .head) (fun h' hE hL => Seldom_fn _ h' nums lv b k1 s1 5 (hl.ext hE) (by omega) (by decide)) (fun v A' hv => ?_)
    obtain ⟨r, s2, rfl, hsb⟩ := hv
    refine Ops.sb (.cons (hsb.app .refl)) ?_
    refine Ops.nil ?_
    refine thn_n ?_
    refine W.cond rfl (fun c15 => ?_) (fun c15 => ?_)
    · refine W.seq ?_
      refine W.region rfl ?_
      refine oq (y_move rfl rfl) rfl wn rfl rfl ?_
      refine oq (y_build (cs := #[I (-1), I 0]) rfl rfl rfl) rfl wn rfl rfl ?_
      refine Ops.bsl (cs := #[I (-1), I 0]) (fun β18 => ?_) rfl (hf := by kernel_rfl)
      refine oe rfl wn rfl rfl (e_append (row := Be.row) (l' := [⟨-1, 0⟩]) rfl rfl rfl hO (.tail (.tail (.tail .all))) (fun h2 _ hl => Sl.mk (hl β18 _ (.head _)) rfl (Part.all (flat Be.row [⟨-1, 0⟩]))) (by simp; omega) (by decide) rfl (fun v' S' hO' => ?_))
      refine oq (y_assign rfl rfl) rfl wn rfl rfl ?_
      refine Ops.nil ?_
      refine thn_n ?_
      refine W.exit ?_
      refine thn_x ?_
      refine blk_x ?_
      refine thn_n ?_
      refine W.region rfl ?_
      refine oq (y_move rfl rfl) rfl wn rfl rfl ?_
      first | refine oq (yadd rfl rfl rfl) rfl wn rfl rfl ?_ | refine oq (y_addw rfl rfl rfl) rfl wn rfl rfl ?_
      refine oq (y_assign rfl rfl) rfl wn rfl rfl ?_
      refine Ops.nil ?_
      refine thn_n ?_
      first
      | exact ⟨rfl, i + 1, (l ++ [⟨-1, 0⟩], v', S'), (k1 + 1, s2), ⟨by omega, by simp [hlen], hO', by subst hlen; exact ckBerths_app hcb ht (ckBerth_ok (by omega) (.inl rfl)), by simp only; omega⟩, by omega, ⟨rfl, rfl, rfl, rfl, trivial⟩, .skip rfl .refl⟩
      | exact ⟨rfl, i + 1, (l ++ [⟨f, t.day + w⟩], _, S'), (k1 + 3, s4), ⟨by omega, by simp [hlen], hO', by subst hlen; exact ckBerths_app hcb ht (ckBerth_ok (by omega) (.inr ⟨by simp only; omega, by simp only; omega, by simp only; omega, by simp only; omega⟩)), by simp only; omega⟩, by omega, ⟨rfl, rfl, rfl, rfl, trivial⟩, .skip rfl .refl⟩
    · refine W.skip ?_
      refine thn_n ?_
      refine W.drawP1 (n := 26) rfl ?_
      refine aq (i := 0) (y_move rfl rfl) rfl an rfl rfl ?_
      refine aq (i := 1) (y_move rfl rfl) rfl an rfl rfl ?_
      refine aq (i := 2) (y_fieldAddr rfl rfl) rfl an rfl rfl ?_
      refine aq (i := 3) (yld rfl rfl) rfl an rfl rfl ?_
      refine aq (i := 4) (y_len rfl rfl) rfl an rfl rfl ?_
      first | refine aq (i := 5) (ysub rfl rfl rfl) rfl an rfl rfl ?_ | refine aq (i := 5) (y_subw rfl rfl rfl) rfl an rfl rfl ?_
      refine aq (i := 7) (y_fieldAddr rfl rfl) rfl an rfl rfl ?_
      refine aq (i := 8) (yld rfl rfl) rfl an rfl rfl ?_
      refine aq (i := 9) (y_move rfl rfl) rfl an rfl rfl ?_
      first | refine aq (i := 10) (yix rfl rfl rfl) rfl an rfl rfl ?_ | refine aq (i := 10) (yixI rfl rfl rfl) rfl an rfl rfl ?_
      refine aq (i := 11) (y_fieldAddr rfl rfl) rfl an rfl rfl ?_
      refine aq (i := 12) (yld rfl rfl) rfl an rfl rfl ?_
      refine aq (i := 13) (y_move rfl rfl) rfl an rfl rfl ?_
      refine aq (i := 14) (y_fieldAddr rfl rfl) rfl an rfl rfl ?_
      refine aq (i := 15) (yld rfl rfl) rfl an rfl rfl ?_
      refine aq (i := 16) (y_move rfl rfl) rfl an rfl rfl ?_
      first | refine aq (i := 17) (yix rfl rfl rfl) rfl an rfl rfl ?_ | refine aq (i := 17) (yixI rfl rfl rfl) rfl an rfl rfl ?_
      refine aq (i := 18) (y_fieldAddr rfl rfl) rfl an rfl rfl ?_
      refine aq (i := 19) (yld rfl rfl) rfl an rfl rfl ?_
      refine ae (i := 6) rfl an rfl rfl (e_call (A := [(b, _)]) (args := [_, _]) rfl rfl (.tail .head) (fun h' hE hL => To_fn _ h' nums lv b (k1 + 1) s2 ((fs.length : Int) - 1) (hl.ext hE) (by omega) (by omega)) (fun v A' hv => ?_))
      refine ⟨.inr (Keeps.one (.head _) Keeps.nil), ?_⟩
      obtain ⟨f, s3, rfl, hf0, hsb3⟩ := hv
      refine Any.sb (.cons (hsb3.app .refl)) ?_
      refine ae (i := 20) rfl an rfl rfl (e_call (A := [(b, _)]) (args := [_, _]) rfl rfl (.tail .head) (fun h' hE hL => To_fn _ h' nums lv b (k1 + 2) s3 t.wa (hl.ext hE) (by omega) (by omega)) (fun v A' hv => ?_))
      refine ⟨.inr (Keeps.one (.head _) Keeps.nil), ?_⟩
      obtain ⟨w, s4, rfl, hw0, hsb4⟩ := hv
      refine Any.sb (.cons (hsb4.app .refl)) ?_
      refine aq (i := 21) (yadd rfl rfl rfl) rfl an rfl rfl ?_
      refine aq (i := 22) (y_build (cs := #[I f, I (t.day + w)]) rfl rfl rfl) rfl an rfl rfl ?_
      refine abl (i := 23) (cs := #[I f, I (t.day + w)]) (fun β43 => ?_) rfl
      refine ae (i := 24) rfl an rfl rfl (e_append (row := Be.row) (l' := [⟨f, t.day + w⟩]) rfl rfl rfl hO (.tail (.tail (.tail .all))) (fun h2 _ hl => Sl.mk (hl β43 _ (.head _)) rfl (Part.all (flat Be.row [⟨f, t.day + w⟩]))) (by simp; omega) (by decide) rfl (fun v' S' hO' => ?_))
      refine ⟨.inr (Keeps.one (.tail _ (.head _)) Keeps.nil), ?_⟩
      obtain ⟨asl, csl, rfl⟩ := hO'.isSl
      refine aq (i := 25) (y_assign rfl rfl) rfl an rfl rfl ?_
      refine az ?_
      refine blk_n ?_
      refine thn_n ?_
      refine W.region rfl ?_
      refine oq (y_move rfl rfl) rfl wn rfl rfl ?_
      first | refine oq (yadd rfl rfl rfl) rfl wn rfl rfl ?_ | refine oq (y_addw rfl rfl rfl) rfl wn rfl rfl ?_
      refine oq (y_assign rfl rfl) rfl wn rfl rfl ?_
      refine Ops.nil ?_
      refine thn_n ?_
      first
      | exact ⟨rfl, i + 1, (l ++ [⟨-1, 0⟩], v', S'), (k1 + 1, s2), ⟨by omega, by simp [hlen], hO', by subst hlen; exact ckBerths_app hcb ht (ckBerth_ok (by omega) (.inl rfl)), by simp only; omega⟩, by omega, ⟨rfl, rfl, rfl, rfl, trivial⟩, .skip rfl .refl⟩
      | exact ⟨rfl, i + 1, (l ++ [⟨f, t.day + w⟩], _, S'), (k1 + 3, s4), ⟨by omega, by simp [hlen], hO', by subst hlen; exact ckBerths_app hcb ht (ckBerth_ok (by omega) (.inr ⟨by simp only; omega, by simp only; omega, by simp only; omega, by simp only; omega⟩)), by simp only; omega⟩, by omega, ⟨rfl, rfl, rfl, rfl, trivial⟩, .skip rfl .refl⟩
  · have hil : i = ss.length := by omega
    refine W.exit ?_
    refine thn_x ?_
    refine thn_x ?_
    refine blk_x ?_
    refine thn_n ?_
    refine W.seq ?_
    refine W.region rfl ?_
    refine oq (y_move rfl rfl) rfl wn rfl rfl ?_
    refine oq (y_assign rfl rfl) rfl wn rfl rfl ?_
    refine Ops.nil ?_
    refine thn_n ?_
    refine W.ret ?_
    refine lvt (vs := [_]) ⟨l, S, k1, s1, hO, ?_, by omega, .skip rfl .refl⟩
    subst hil
    rw [List.take_length] at hcb
    unfold ckPlan
    rw [if_neg (by simp [hck]), if_neg (by omega), if_neg (by omega)]
    exact hcb
end Go.Mus

/- Small plants and plans out of a hat; plans a day later. Conditions: none; over the given program. -/
namespace Go.Mus
set_option maxRecDepth 100000
set_option maxHeartbeats 4000000

theorem tiny_fn (main : Side) (h : Hp) (nums : List Int) (lv : Value) (b : Nat) (s : Int) (hl : Sl h rowI lv nums) : Fnc prog main n_law_tiny #[.pointer (some ⟨b, 0, none⟩)] h [(b, hatO lv 0 s)]
    (fun v A => ∃ vf vs vl fs ss l Sf Ss Sp, v = .tuple #[.agg #[vf, vs], vl] ∧ (Os t_Floor Fl.row vf fs Sf ∧ Os t_Strike St.row vs ss Ss ∧ Os t_Berth Be.row vl l Sp) ∧ (ckPlant fs ss = 0 ∧ ckPlan fs ss l = 0 ∧ ss.length ≤ 3 ∧ ∀ t ∈ ss, t.wa ≤ 1) ∧ Sb (Sp ++ (Sf ++ Ss)) A) := by
  refine Fnc.of_body at_law_tiny rfl (by show 1 ≤ 11; decide) [(0, .pointer (some ⟨b, 0, none⟩))] ⟨rfl, trivial⟩ ?_
  refine W.seq ?_
  refine W.region rfl ?_
  refine Ops.new (fun β2 => ?_)
  refine oq (y_assign rfl rfl) rfl wn rfl rfl ?_
  refine Ops.nil ?_
  refine thn_n ?_
  refine W.seq ?_
  refine W.region rfl ?_
  refine oq (y_move rfl rfl) rfl wn rfl rfl ?_
  refine cg (A := [(b, _)]) (.tail .head) (fun h' hE hL => PlantOf_fn _ h' nums lv b s 3 1 (hl.ext hE) (by decide) (by decide)) (fun v A' hv => ?_)
  obtain ⟨vf, vs, fs, ss, Sf, Ss, k1, s1, rfl, ⟨hOf, hOs⟩, ⟨hck, hn4, hw⟩, hk100, hsb⟩ := hv
  refine Ops.sb (F' := (β2, .cells #[.slice none 0 0, .slice none 0 0] t_Plant (0, 0)) :: (b, hatO lv k1 s1) :: (Sf ++ Ss)) (.cons (hsb.trans (Sb.right .refl .nil))) ?_
  obtain ⟨a, cap, rfl⟩ := hOf.isSl
  obtain ⟨a', cap', rfl⟩ := hOs.isSl
  refine Ops.new (fun β4 => ?_)
  first | refine Ops.stoW ?_ | refine Ops.stoA ?_
  refine Ops.nil ?_
  refine thn_n ?_
  refine W.seq ?_
  refine W.drawP1 (n := 6) rfl ?_
  first | refine aq (i := 0) (yldW rfl rfl) rfl an rfl rfl ?_ | refine aq (i := 0) (yldA rfl rfl) rfl an rfl rfl ?_
  refine aq (i := 1) (y_move rfl rfl) rfl an rfl rfl ?_
  first | refine aq (i := 2) (yldW rfl rfl) rfl an rfl rfl ?_ | refine aq (i := 2) (yldA rfl rfl) rfl an rfl rfl ?_
  refine ae (i := 3) rfl an rfl rfl (e_call (A := [(b, _)]) (args := [_, _]) rfl rfl (.tail (.tail .head)) (fun h' hE hL => BerthsOf_fn _ h' nums lv b k1 s1 fs ss _ _ (hl.ext hE) (hOf.sl fun c o hb => hL c o (.tail _ (.tail _ (List.mem_append_right [] (List.mem_append_left _ hb))))) (hOs.sl fun c o hb => hL c o (.tail _ (.tail _ (List.mem_append_right [] (List.mem_append_right _ hb))))) hck (by omega)) (fun v A' hv => ?_))
  refine ⟨.inr (Keeps.one (.head _) Keeps.nil), ?_⟩
  obtain ⟨l, Sp, k2, s2, hOp, hcp, hk2, hsb2⟩ := hv
  obtain ⟨al, lc, rfl⟩ := hOp.isSl
  refine Any.sb (F' := (β4, .cells #[.slice a fs.length cap, .slice a' ss.length cap'] t_Plant (0, 0)) :: (β2, .cells #[.slice none 0 0, .slice none 0 0] t_Plant (0, 0)) :: (Sp ++ (Sf ++ Ss))) (.cons (.cons (.trans (.skip rfl .refl) (hsb2.app .refl)))) ?_
  first | refine ae (i := 4) rfl an rfl rfl (eSW rfl rfl rfl ?_) | refine ae (i := 4) rfl an rfl rfl (eSA rfl rfl rfl ?_)
  refine ⟨.inr (by first | exact Keeps.refl | exact Keeps.nil | ((repeat (first | exact fun _ h => h | apply Keeps.cons | apply Keeps.app)) <;> fail) | (repeat (first | exact Keeps.nil | refine Keeps.one (by repeat (first | exact List.Mem.head _ | apply List.Mem.tail)) ?_))), ?_⟩
  refine aq (i := 5) (y_assign rfl rfl) rfl an rfl rfl ?_
  refine az ?_
  refine thn_n ?_
  refine W.ret ?_
  refine lvc (hv := rAgg (rTmp rNil)) ⟨_, _, _, fs, ss, l, Sf, Ss, Sp, rfl, ⟨hOf, hOs, hOp⟩, ⟨hck, hcp, hn4, hw⟩, .skip rfl (.skip rfl .refl)⟩

/-- A berth a day later. -/
def shB (b : Be) : Be := if 0 ≤ b.fl then ⟨b.fl, b.day + 1⟩ else b
theorem later_fn (main : Side) (h : Hp) (l l' : List Be) (v v' : Value) (hl : Sl h Be.row v l) (hl' : Sl h Be.row v' l') (he : l' = l.map shB) (hd : ∀ b ∈ l, 0 ≤ b.day ∧ b.day ≤ 1000) (hn : l.length ≤ 1000) : Pu prog main n_law_later #[v, v'] h (.bool true) := by
  have hlen : l'.length = l.length := by rw [he, List.length_map]
  obtain ⟨a, cap, rfl⟩ := hl.isSl
  obtain ⟨a', cap', rfl⟩ := hl'.isSl
  refine Fnc.of_body at_law_later rfl (by show 2 ≤ 35; decide) [(0, .slice a l.length cap), (1, .slice a' l'.length cap')] ⟨rfl, rfl, trivial⟩ ?_
  refine W.seq ?_
  refine W.region rfl ?_
  refine oq (y_assign rfl rfl) rfl wn rfl rfl ?_
  refine Ops.nil ?_
  refine thn_n ?_
  refine W.seq ?_
  refine W.seq ?_
  refine W.region rfl ?_
  refine oq (y_move rfl rfl) rfl wn rfl rfl ?_
  refine oq (y_len rfl rfl) rfl wn rfl rfl ?_
  refine oq (y_move rfl rfl) rfl wn rfl rfl ?_
  refine oq (y_len rfl rfl) rfl wn rfl rfl ?_
  --abs F
  refine oq ((y_neq rfl rfl rfl).eq (u := .bool false) (congrArg Value.bool (decide_eq_false (by omega)))) rfl wn rfl rfl ?_
  refine Ops.nil ?_
  refine thn_n ?_
  refine W.condF ?_
  refine W.skip ?_
  refine thn_n ?_
  refine W.seq ?_
  refine W.seq ?_
  refine W.region rfl ?_
  refine oq (y_assign rfl rfl) rfl wn rfl rfl ?_
  refine Ops.nil ?_
  refine thn_n ?_
  refine W.block ?_
  refine W.loop (σ := Nat) (fun k => k ≤ l.length) (fun k => [(5, I k), (0, .slice a l.length cap), (1, .slice a' l'.length cap')]) (fun _ => []) (fun k => l.length - k) 0 (Nat.zero_le _) ⟨rfl, rfl, rfl, trivial⟩ sbA ?_
  rintro k hk
  refine W.seq ?_
  refine W.seq ?_
  refine W.region rfl ?_
  refine oq (y_move rfl rfl) rfl wn rfl rfl ?_
  refine oq (y_move rfl rfl) rfl wn rfl rfl ?_
  refine oq (y_len rfl rfl) rfl wn rfl rfl ?_
  refine oq (y_lss rfl rfl rfl) rfl wn rfl rfl ?_
  refine Ops.nil ?_
  refine thn_n ?_
  refine W.condp rfl (fun c15 => ?_) (fun c15 => ?_)
  · have hk1 : k < l.length := by omega
    obtain ⟨p, hp, -⟩ := has hk1
    have hq : l'[k]? = some (shB p) := by rw [he, List.getElem?_map, hp]; rfl
    have hpd := hd p (List.mem_of_getElem? hp)
    obtain ⟨b, off, c, E, fz, rfl, hb, hx1, hy1, hz1⟩ := hl.at hp
    have hx2 : c.extract (off + k * 2) (off + k * 2 + 2) = #[I p.fl, I p.day] := hx1
    clear hx1 hz1
    obtain ⟨b', off', c', E', fz', rfl, hb', hx1, hy2, hz1⟩ := hl'.at hq
    have hx3 : c'.extract (off' + k * 2) (off' + k * 2 + 2) = #[I (shB p).fl, I (shB p).day] := hx1
    clear hx1 hz1
    refine W.skip ?_
    refine thn_n ?_
    refine W.seq ?_
    refine W.block ?_
    refine W.seq ?_
    refine W.region rfl ?_
    refine oq (y_move rfl rfl) rfl wn rfl rfl ?_
    refine oq (y_move rfl rfl) rfl wn rfl rfl ?_
    first | refine oq (yix rfl rfl rfl) rfl wn rfl rfl ?_ | refine oq (yixI rfl rfl rfl) rfl wn rfl rfl ?_
    first | refine oq (yldW rfl rfl) rfl wn rfl rfl ?_ | refine oq (yldA rfl rfl) rfl wn rfl rfl ?_
    refine Ops.new (fun β6 => ?_)
    first | refine Ops.stoW ?_ | refine Ops.stoA ?_
    refine Ops.nil ?_
    refine thn_n ?_
    refine W.seq ?_
    refine W.seq ?_
    refine W.region rfl ?_
    refine oq (y_fieldAddr rfl rfl) rfl wn rfl rfl ?_
    refine oq (yld rfl rfl) rfl wn rfl rfl ?_
    refine oq (y_geq rfl rfl rfl) rfl wn rfl rfl ?_
    refine Ops.nil ?_
    refine thn_n ?_
    refine W.condp rfl (fun c24 => ?_) (fun c24 => ?_)
    · have hsh : shB p = ⟨p.fl, p.day + 1⟩ := if_pos c24
      refine W.region rfl ?_
      refine oq (y_fieldAddr rfl rfl) rfl wn rfl rfl ?_
      refine oq (yld rfl rfl) rfl wn rfl rfl ?_
      first | refine oq (yadd rfl rfl rfl) rfl wn rfl rfl ?_ | refine oq (y_addw rfl rfl rfl) rfl wn rfl rfl ?_
      refine oq (y_fieldAddr rfl rfl) rfl wn rfl rfl ?_
      refine Ops.sto ?_
      refine Ops.nil ?_
      refine thn_n ?_
      refine W.seq ?_
      refine W.drawF (n := 6) rfl ?_
      refine aq (i := 0) (y_move rfl rfl) rfl an rfl rfl ?_
      refine aq (i := 1) (y_move rfl rfl) rfl an rfl rfl ?_
      first | refine aq (i := 2) (yix rfl rfl rfl) rfl an rfl rfl ?_ | refine aq (i := 2) (yixI rfl rfl rfl) rfl an rfl rfl ?_
      first | refine aq (i := 3) (yldW rfl rfl) rfl an rfl rfl ?_ | refine aq (i := 3) (yldA rfl rfl) rfl an rfl rfl ?_
      first | refine aq (i := 4) (yldW rfl rfl) rfl an rfl rfl ?_ | refine aq (i := 4) (yldA rfl rfl) rfl an rfl rfl ?_
      --abs F
      first
      | refine aq (i := 5) (Yv.eq (u := .bool false) (y_neA [(shB p).fl, (shB p).day] [p.fl, p.day + 1] rfl rfl rfl rfl rfl rfl rfl) (congrArg Value.bool (by rw [hsh]; simp))) rfl an rfl rfl ?_
      | refine aq (i := 5) (Yv.eq (u := .bool false) (y_neA [(shB p).fl, (shB p).day] [p.fl, p.day] rfl rfl rfl rfl rfl rfl rfl) (congrArg Value.bool (by rw [hsh]; simp))) rfl an rfl rfl ?_
      refine az ?_
      refine thn_n ?_
      refine W.condF ?_
      refine W.skip ?_
      refine blk_n ?_
      refine thn_n ?_
      refine W.region rfl ?_
      refine oq (y_move rfl rfl) rfl wn rfl rfl ?_
      first | refine oq (yadd rfl rfl rfl) rfl wn rfl rfl ?_ | refine oq (y_addw rfl rfl rfl) rfl wn rfl rfl ?_
      refine oq (y_assign rfl rfl) rfl wn rfl rfl ?_
      refine Ops.nil ?_
      refine thn_n ?_
      exact ⟨rfl, k + 1, by omega, by omega, ⟨rfl, rfl, rfl, trivial⟩, .skip rfl .refl⟩
    · have hsh : shB p = ⟨p.fl, p.day⟩ := if_neg c24
      refine W.skip ?_
      refine thn_n ?_
      refine W.seq ?_
      refine W.drawF (n := 6) rfl ?_
      refine aq (i := 0) (y_move rfl rfl) rfl an rfl rfl ?_
      refine aq (i := 1) (y_move rfl rfl) rfl an rfl rfl ?_
      first | refine aq (i := 2) (yix rfl rfl rfl) rfl an rfl rfl ?_ | refine aq (i := 2) (yixI rfl rfl rfl) rfl an rfl rfl ?_
      first | refine aq (i := 3) (yldW rfl rfl) rfl an rfl rfl ?_ | refine aq (i := 3) (yldA rfl rfl) rfl an rfl rfl ?_
      first | refine aq (i := 4) (yldW rfl rfl) rfl an rfl rfl ?_ | refine aq (i := 4) (yldA rfl rfl) rfl an rfl rfl ?_
      --abs F
      first
      | refine aq (i := 5) (Yv.eq (u := .bool false) (y_neA [(shB p).fl, (shB p).day] [p.fl, p.day + 1] rfl rfl rfl rfl rfl rfl rfl) (congrArg Value.bool (by rw [hsh]; simp))) rfl an rfl rfl ?_
      | refine aq (i := 5) (Yv.eq (u := .bool false) (y_neA [(shB p).fl, (shB p).day] [p.fl, p.day] rfl rfl rfl rfl rfl rfl rfl) (congrArg Value.bool (by rw [hsh]; simp))) rfl an rfl rfl ?_
      refine az ?_
      refine thn_n ?_
      refine W.condF ?_
      refine W.skip ?_
      refine blk_n ?_
      refine thn_n ?_
      refine W.region rfl ?_
      refine oq (y_move rfl rfl) rfl wn rfl rfl ?_
      first | refine oq (yadd rfl rfl rfl) rfl wn rfl rfl ?_ | refine oq (y_addw rfl rfl rfl) rfl wn rfl rfl ?_
      refine oq (y_assign rfl rfl) rfl wn rfl rfl ?_
      refine Ops.nil ?_
      refine thn_n ?_
      exact ⟨rfl, k + 1, by omega, by omega, ⟨rfl, rfl, rfl, trivial⟩, .skip rfl .refl⟩
  · refine W.exit ?_
    refine thn_x ?_
    refine thn_x ?_
    refine blk_x ?_
    refine thn_n ?_
    refine W.seq ?_
    refine W.region rfl ?_
    refine oq (y_assign rfl rfl) rfl wn rfl rfl ?_
    refine Ops.nil ?_
    refine thn_n ?_
    refine W.ret ?_
    exact lvp rfl
end Go.Mus

/- All strikes a day later. Conditions: none. -/
namespace Go.Mus

theorem fm_congr {α β : Type} {f g : α → List β} : ∀ {l : List α}, (∀ a ∈ l, f a = g a) → l.flatMap f = l.flatMap g
  | [], _ => rfl
  | a :: l, h => by
    rw [List.flatMap_cons, List.flatMap_cons, h a (List.mem_cons_self ..), fm_congr fun b hb => h b (List.mem_cons_of_mem _ hb)]
def shS (s : St) : St := ⟨s.day + 1, s.co, s.wa⟩
def shP (p : List Be) : List Be := p.map shB
theorem shB_none : shB bnone = bnone := rfl
theorem shP_at {p : List Be} {i : Nat} : beAt (shP p) i = shB (beAt p i) := by
  simp only [beAt, shP, List.getD, List.getElem?_map]
  cases p[i]? with
  | none => rfl
  | some b => rfl
theorem shB_fl {b : Be} : (shB b).fl = b.fl := by unfold shB; split <;> rfl
theorem shB_day {b : Be} (h : 0 ≤ b.fl) : (shB b).day = b.day + 1 := by unfold shB; rw [if_pos h]
theorem shS_at {ss : List St} {i : Nat} (h : i < ss.length) : stAt (ss.map shS) i = shS (stAt ss i) := by
  obtain ⟨s, hs, -⟩ := has h
  simp [stAt, List.getD, hs]
theorem shS_co {ss : List St} {i : Nat} : (stAt (ss.map shS) i).co = (stAt ss i).co := by
  rcases Nat.lt_or_ge i ss.length with h | h
  · rw [shS_at h]; rfl
  · simp [stAt, List.getD, List.getElem?_eq_none h]
section
variable {fs : List Fl} {ss : List St}
/-- No cone stands on a floor any more on the last day. -/
theorem last_0 {p : List Be} (hall : HallOK fs ss) {f : Int} (h0 : 0 ≤ f) (h1 : f < fs.length) (hd : ∀ i, 0 ≤ (beAt p i).fl → (beAt p i).day ≤ 14) : hiAt fs ss p f 21 = 0 := by
  have hfl := fl_ok hall h0 h1
  have : hiAt fs ss p f 21 = sumK (fun _ => 0) 4 := sumK_congr fun i _ => by
    simp only [hiG]
    rw [if_neg]
    rintro ⟨a1, a2, a3⟩
    have := hd i (by omega)
    omega
  rw [this, sumK_0]
theorem sh_hi {p : List Be} {f d : Int} (h0 : 0 ≤ f) : hiAt fs (ss.map shS) (shP p) f (d + 1) = hiAt fs ss p f d := sumK_congr fun i _ => by
  simp only [hiG, shP_at, shB_fl, shS_co]
  by_cases h : (beAt p i).fl = f
  · rw [shB_day (by omega)]
    congr 1
    exact propext ⟨fun ⟨a, b, c⟩ => ⟨a, by omega, by omega⟩, fun ⟨a, b, c⟩ => ⟨a, by omega, by omega⟩⟩
  · rw [if_neg fun hh => h hh.1, if_neg fun hh => h hh.1]
theorem sh_lo {p : List Be} {f d : Int} (h0 : 0 ≤ f) : loAt fs (ss.map shS) (shP p) f (d + 1) = loAt fs ss p f d := sumK_congr fun i _ => by
  simp only [loG, shP_at, shB_fl, shS_co]
  by_cases h : (beAt p i).fl = f
  · rw [shB_day (by omega)]
    congr 1
    exact propext ⟨fun ⟨a, b, c⟩ => ⟨a, by omega, by omega⟩, fun ⟨a, b, c⟩ => ⟨a, by omega, by omega⟩⟩
  · rw [if_neg fun hh => h hh.1, if_neg fun hh => h hh.1]
theorem sh_on {p : List Be} {f a : Int} (h0 : 0 ≤ f) : OnDay (shP p) f (a + 1) ↔ OnDay p f a := by
  simp only [OnDay, shP_at, shB_fl]
  refine exists_congr fun i => and_congr_right fun _ => and_congr_right fun h => ?_
  rw [shB_day (by omega)]; omega
theorem sh_bad {p : List Be} (hall : HallOK fs ss) (hp : PlOK p) {f n : Int} (h0 : 0 ≤ f) (h1 : f < fs.length) (hd : ∀ i, 0 ≤ (beAt p i).fl → (beAt p i).day ≤ 14) : Bad fs (ss.map shS) (shP p) f n ↔ Bad fs ss p f (n - 1) := by
  have hfl := fl_ok hall h0 h1
  have hhi : hiAt fs (ss.map shS) (shP p) f n = hiAt fs ss p f (n - 1) := by
    have := sh_hi (fs := fs) (ss := ss) (p := p) (f := f) (d := n - 1) h0
    rwa [show n - 1 + 1 = n by omega] at this
  have hon : ∀ a, OnDay (shP p) f a ↔ OnDay p f (a - 1) := fun a => by
    have := sh_on (p := p) (f := f) (a := a - 1) h0
    rwa [show a - 1 + 1 = a by omega] at this
  refine or_congr ?_ ?_
  · simp only [Full, hhi]
    constructor
    · rintro ⟨a1, a2, a3⟩
      by_cases e : n = 0
      · subst e
        exfalso
        have : hiAt fs ss p f (0 - 1) = sumK (fun _ => 0) 4 := sumK_congr fun i _ => by
          simp only [hiG]
          rw [if_neg]
          rintro ⟨b1, b2, b3⟩
          have := (beAt_day hp i).1
          omega
        rw [this, sumK_0] at a3
        omega
      · exact ⟨by omega, by omega, a3⟩
    · rintro ⟨a1, a2, a3⟩
      refine ⟨by omega, ?_, a3⟩
      by_cases e : n = 22
      · subst e
        rw [show (22 : Int) - 1 = 21 from rfl, last_0 hall h0 h1 hd] at a3
        omega
      · omega
  · constructor
    · rintro ⟨a, ha, rfl, ⟨b, hb, hlt⟩, hno⟩
      refine ⟨a - 1, (hon a).1 ha, by omega, ⟨b - 1, (hon b).1 hb, by omega⟩, fun c hc => ?_⟩
      have := hno (c + 1) ((hon (c + 1)).2 (by rw [show c + 1 - 1 = c by omega]; exact hc))
      omega
    · rintro ⟨a, ha, hn, ⟨b, hb, hlt⟩, hno⟩
      refine ⟨a + 1, (hon (a + 1)).2 (by rw [show a + 1 - 1 = a by omega]; exact ha), by omega, ⟨b + 1, (hon (b + 1)).2 (by rw [show b + 1 - 1 = b by omega]; exact hb), by omega⟩, fun c hc => ?_⟩
      have := hno (c - 1) ((hon c).1 hc)
      omega
theorem sh_insp {p : List Be} (hall : HallOK fs ss) (hall' : HallOK fs (ss.map shS)) (hp : PlOK p) (hp' : PlOK (shP p)) (hd : ∀ i, 0 ≤ (beAt p i).fl → (beAt p i).day ≤ 14) : inspF fs (ss.map shS) (shP p) = none ↔ inspF fs ss p = none := by
  rw [insp_none hall' hp', insp_none hall hp]
  constructor
  · intro h f h0 h1 n hb
    exact h f h0 h1 (n + 1) ((sh_bad hall hp h0 h1 hd).2 (by rw [show n + 1 - 1 = n by omega]; exact hb))
  · intro h f h0 h1 n hb
    exact h f h0 h1 (n - 1) ((sh_bad hall hp h0 h1 hd).1 hb)
/-- What is wrong shows a day later. -/
theorem sh_wrong {p : List Be} (hall : HallOK fs ss) (hall' : HallOK fs (ss.map shS)) (hp : PlOK p) (hp' : PlOK (shP p)) (hd : ∀ i, 0 ≤ (beAt p i).fl → (beAt p i).day ≤ 14) : (inspF fs ss p = none ∧ inspF fs (ss.map shS) (shP p) = none) ∨ ∃ c c' n f, inspF fs ss p = some ((c, n), f) ∧ inspF fs (ss.map shS) (shP p) = some ((c', n + 1), f) ∧ 0 ≤ f := by
  have hi := sh_insp hall hall' hp hp' hd
  cases h1 : inspF fs ss p with
  | none => exact .inl ⟨rfl, hi.2 h1⟩
  | some w =>
    obtain ⟨⟨c, n⟩, f⟩ := w
    cases h2 : inspF fs (ss.map shS) (shP p) with
    | none => rw [hi.1 h2] at h1; cases h1
    | some w' =>
      obtain ⟨⟨c', n'⟩, f'⟩ := w'
      obtain ⟨a0, a1, a2, a3⟩ := insp_some hall hp h1
      obtain ⟨b0, b1, b2, b3⟩ := insp_some hall' hp' h2
      have x1 := a3 f' (n' - 1) b0 b1 ((sh_bad hall hp b0 b1 hd).1 b2)
      have x2 := b3 f (n + 1) a0 a1 ((sh_bad hall hp a0 a1 hd).2 (by rw [show n + 1 - 1 = n by omega]; exact a2))
      have e1 : n' = n + 1 := by omega
      have e2 : f' = f := by omega
      subst e1 e2
      exact .inr ⟨c, c', n, f', rfl, rfl, a0⟩

/-! The searches -/
theorem sh_days {f : Int} (hf : 0 ≤ f) : ∀ (m : Nat) (d : Int), daysFrom f (d + 1) m = (daysFrom f d m).map shB
  | 0, _ => rfl
  | m + 1, d => by
    rw [daysFrom, daysFrom, List.map_cons, sh_days hf m (d + 1)]
    congr 1
    unfold shB; rw [if_pos hf]
theorem sh_floors {s : St} : ∀ (m : Nat) (f : Int), 0 ≤ f → floorsFrom (shS s) f m = (floorsFrom s f m).map shB
  | 0, _, _ => rfl
  | m + 1, f, hf => by
    rw [floorsFrom, floorsFrom, List.map_append, sh_floors m (f + 1) (by omega), ← sh_days hf]
    rfl
theorem sh_berths {may : May} {k : Nat} (hk : k < ss.length) : berthsK fs (ss.map shS) may k = (berthsK fs ss may k).map shB := by
  rw [berthsK, berthsK, List.map_append, shS_at hk, sh_floors _ _ (Int.le_refl 0)]
  split <;> split <;> rfl
theorem sh_over {p : List Be} (hall : HallOK fs ss) (hall' : HallOK fs (ss.map shS)) (hp : PlOK p) (hp' : PlOK (shP p)) (hd : ∀ i, 0 ≤ (beAt p i).fl → (beAt p i).day ≤ 14) {b : Be} (hb : b.fl < fs.length) : prune fs (ss.map shS) (shP p) (shB b) = prune fs ss p b := by
  unfold prune
  rw [shB_fl]
  split
  · rename_i h0
    have hfl := fl_ok hall h0 hb
    refine Bool.eq_iff_iff.2 ?_
    rw [over_iff, over_iff]
    constructor
    · rintro ⟨i, s, hs, hlt⟩
      have hi : i < 22 := by
        rcases Nat.lt_or_ge i 22 with h' | h'
        · exact h'
        · rw [List.getElem?_eq_none (by rw [standsD_len]; exact h')] at hs; cases hs
      rw [standsD_at hall' hp' h0 hb hi] at hs
      cases hs
      have := (sh_bad hall hp h0 hb hd (n := i)).1 (.inl ⟨by omega, by omega, hlt⟩)
      rcases Nat.eq_zero_or_pos i with rfl | hpos
      · exfalso
        simp only at hlt
        have e := sh_hi (fs := fs) (ss := ss) (p := p) (f := b.fl) (d := -1) h0
        rw [show (-1 : Int) + 1 = ((0 : Nat) : Int) from rfl] at e
        have e2 : hiAt fs ss p b.fl (-1) = sumK (fun _ => 0) 4 := sumK_congr fun i _ => by
          simp only [hiG]
          rw [if_neg]
          rintro ⟨b1, b2, b3⟩
          have := (beAt_day hp i).1
          omega
        rw [e, e2, sumK_0] at hlt
        omega
      · refine ⟨i - 1, _, standsD_at hall hp h0 hb (by omega), ?_⟩
        have e := sh_hi (fs := fs) (ss := ss) (p := p) (f := b.fl) (d := ((i - 1 : Nat) : Int)) h0
        rw [show ((i - 1 : Nat) : Int) + 1 = (i : Int) by omega] at e
        simp only at hlt ⊢
        rw [← e]; exact hlt
    · rintro ⟨i, s, hs, hlt⟩
      have hi : i < 22 := by
        rcases Nat.lt_or_ge i 22 with h' | h'
        · exact h'
        · rw [List.getElem?_eq_none (by rw [standsD_len]; exact h')] at hs; cases hs
      rw [standsD_at hall hp h0 hb hi] at hs
      cases hs
      by_cases e21 : i = 21
      · subst e21
        simp only at hlt
        rw [show ((21 : Nat) : Int) = 21 from rfl, last_0 hall h0 hb hd] at hlt
        omega
      · refine ⟨i + 1, _, standsD_at hall' hp' h0 hb (by omega), ?_⟩
        have e := sh_hi (fs := fs) (ss := ss) (p := p) (f := b.fl) (d := (i : Int)) h0
        simp only at hlt ⊢
        rw [show ((i + 1 : Nat) : Int) = (i : Int) + 1 by omega, e]; exact hlt
  · rfl
theorem shP_set {p : List Be} {k : Nat} {b : Be} : shP (p.set k b) = (shP p).set k (shB b) := by simp only [shP, List.map_set]
theorem sh_planof {p : List Be} (hp : PlanOf fs ss p) (hd : ∀ i, 0 ≤ (beAt p i).fl → (beAt p i).day ≤ 14) : PlanOf fs (ss.map shS) (shP p) := by
  refine ⟨⟨by simp [shP, hp.ok.len], fun b hb => ?_⟩, fun b hb => ?_, fun i hi => ?_⟩
  · obtain ⟨i, hi, rfl⟩ := List.mem_iff_getElem.1 hb
    have e : (shP p)[i] = beAt (shP p) i := by simp [beAt, List.getD, List.getElem?_eq_getElem hi]
    rw [e, shP_at]
    have h4 : i < 4 := by simpa [shP, hp.ok.len] using hi
    have := (beAt_some hp.ok h4).2
    by_cases h0 : 0 ≤ (beAt p i).fl
    · rw [shB_fl, shB_day h0]
      have := hd i h0
      omega
    · have e2 : shB (beAt p i) = beAt p i := if_neg h0
      rw [e2]; exact this
  · obtain ⟨c, hc, rfl⟩ := List.mem_map.1 hb
    rw [shB_fl]; exact hp.fl c hc
  · rw [List.length_map] at hi
    rw [shP_at, shB_fl]; exact hp.pad i hi
theorem sh_rights {may : May} (hall : HallOK fs ss) (hall' : HallOK fs (ss.map shS)) (h11 : ∀ s ∈ ss, s.day + s.wa ≤ 14) : ∀ (m k : Nat) (q : List Be), k + m = ss.length → PlanOf fs ss q → (∀ i, 0 ≤ (beAt q i).fl → (beAt q i).day ≤ 14) → rights fs (ss.map shS) may m k (shP q) = (rights fs ss may m k q).map shP
  | 0, k, q, _, hq, hd => by
    have hi := sh_insp hall hall' hq.ok (sh_planof hq hd).ok hd
    rw [rights, rights]
    cases h : inspF fs ss q with
    | none => rw [hi.2 h]; rfl
    | some w =>
      cases h2 : inspF fs (ss.map shS) (shP q) with
      | none => rw [hi.1 h2] at h; cases h
      | some w' => rfl
  | m + 1, k, q, hk, hq, hd => by
    rw [rights, rights, sh_berths (by omega), List.flatMap_map, List.map_flatMap]
    refine fm_congr fun b hb => ?_
    have hbo := berth_ok hall (by omega) hb
    have hset := plan_set (k := k) hq (by omega) hbo
    have hk4 : k < q.length := by have := hall.ns; have := hq.ok.len; omega
    have hd2 : ∀ i, 0 ≤ (beAt (q.set k b) i).fl → (beAt (q.set k b) i).day ≤ 14 := fun i hi => by
      rw [beAt_set hk4] at hi ⊢
      split at hi
      · rename_i e
        rw [if_pos e]
        rw [mem_berths] at hb
        rcases hb with ⟨_, rfl⟩ | ⟨_, _, _, _, h5⟩
        · simp [bnone] at hi
        · have hs : stAt ss k ∈ ss := by simp [stAt, List.getD, List.getElem?_eq_getElem (show k < ss.length by omega)]
          have := h11 _ hs
          have := hall.st _ hs
          omega
      · rename_i e; rw [if_neg e]; exact hd i hi
    rw [← shP_set, sh_over hall hall' hset.ok (sh_planof hset hd2).ok hd2 hbo.2.2.1]
    split
    · rfl
    · exact sh_rights hall hall' h11 m (k + 1) _ (by omega) hset hd2
theorem sh_allF (hall : HallOK fs ss) (hall' : HallOK fs (ss.map shS)) (h11 : ∀ s ∈ ss, s.day + s.wa ≤ 14) {may : May} : allF fs (ss.map shS) may = (allF fs ss may).map shP := by
  have hn : ∀ i, 0 ≤ (beAt (padB []) i).fl → (beAt (padB []) i).day ≤ 14 := fun i h => by rw [beAt_nil] at h; simp [bnone] at h
  have hl : (ss.map shS).length = ss.length := List.length_map ..
  unfold allF
  rw [hl]
  split
  · rename_i h0
    rw [rightsOf, rightsOf, hl]
    exact sh_rights hall hall' h11 _ _ _ (by simp) (pad_nil hall.nf.1) hn
  · rename_i h0
    rw [sh_berths (by omega), List.flatMap_map, List.map_flatMap]
    refine fm_congr fun b hb => ?_
    have hbo := berth_ok hall (by omega) hb
    have hset := plan_set (k := 0) (pad_nil (fs := fs) (ss := ss) hall.nf.1) (by omega) hbo
    rw [rightsOf, rightsOf, hl, List.length_singleton, List.length_singleton, pad_one, pad_one]
    have e : (padB []).set 0 (shB b) = shP ((padB []).set 0 b) := by rw [shP_set]; rfl
    rw [e]
    refine sh_rights hall hall' h11 _ _ _ (by omega) hset fun i hi => ?_
    rw [beAt_set (by decide)] at hi ⊢
    split at hi
    · rename_i e
      rw [if_pos e]
      rw [mem_berths] at hb
      rcases hb with ⟨_, rfl⟩ | ⟨_, _, _, _, h5⟩
      · simp [bnone] at hi
      · have hs : stAt ss 0 ∈ ss := by simp [stAt, List.getD, List.getElem?_eq_getElem (show 0 < ss.length by omega)]
        have := h11 _ hs
        have := hall.st _ hs
        omega
    · rw [beAt_nil] at hi; simp [bnone] at hi
end
end Go.Mus

/- All strikes a day later: the same answers, a day later. Conditions: none. -/
namespace Go.Mus
section
variable {fs : List Fl} {ss : List St}
theorem sh_ck (h : ckPlant fs ss = 0) (h11 : ∀ s ∈ ss, s.day ≤ 11) : ckPlant fs (ss.map shS) = 0 := by
  obtain ⟨h1, h2, h3, h4, h5⟩ := ckPlant0 h
  refine ckPlant_mk (by omega) h2 h4 (by simpa using h3) ?_
  have key : ∀ (l : List St) (b b' : Int), ckStrikes b l = 0 → (∀ s ∈ l, s.day ≤ 11) → b' ≤ b + 1 → ckStrikes b' (l.map shS) = 0 := by
    intro l
    induction l with
    | nil => intro b b' _ _ _; rfl
    | cons s l ih =>
      intro b b' hb hl hle
      simp only [List.map_cons, ckStrikes] at hb ⊢
      split at hb
      · rename_i hc
        have hs := ckStrike0 hc
        have hd := hl s (List.mem_cons_self ..)
        have hc' : ckStrike b' (shS s) = 0 := by
          unfold ckStrike shS outs
          rw [if_neg (by simp only; omega), if_neg (by simp only; omega)]
        rw [if_pos hc']
        exact ih _ _ hb (fun t ht => hl t (List.mem_cons_of_mem _ ht)) (Int.le_refl _)
      · rename_i hc; exact absurd hb hc
  exact key ss 0 0 h5 h11 (by decide)
theorem sh_bound (h : ckPlant fs ss = 0) (h11 : ∀ s ∈ ss, s.day ≤ 11) : ∀ s ∈ ss, s.day + s.wa ≤ 14 := fun s hs => by
  obtain ⟨k, hk, rfl⟩ := List.mem_iff_getElem.1 hs
  have := strike_ok h (List.getElem?_eq_getElem hk)
  have := h11 _ hs
  omega
theorem sh_loaves {p : List Be} (hall : HallOK fs ss) (hall' : HallOK fs (ss.map shS)) : loavesF (ss.map shS) (shP p) = loavesF ss p := by
  rw [loavesF_eq hall, loavesF_eq hall', List.length_map]
  exact sumK_congr fun i _ => by simp only [coG, shP_at, shB_fl, shS_co]
variable (hck : ckPlant fs ss = 0) (h11 : ∀ s ∈ ss, s.day ≤ 11)
include hck h11
theorem sh_top : (bestF fs (ss.map shS)).1 = (bestF fs ss).1 := by
  have hall := hall_ck hck
  have hall' := hall_ck (sh_ck hck h11)
  have ha := sh_allF hall hall' (sh_bound hck h11) (may := freeM)
  obtain ⟨⟨q, hq, hq2⟩, htop, -⟩ := best_spec hall
  obtain ⟨⟨q', hq', hq2'⟩, htop', -⟩ := best_spec hall'
  rw [ha] at hq' htop'
  obtain ⟨r, hr, rfl⟩ := List.mem_map.1 hq'
  have e1 := htop r hr
  rw [sh_loaves hall hall'] at hq2'
  have e2 := htop' (shP q) (List.mem_map.2 ⟨q, hq, rfl⟩)
  rw [sh_loaves hall hall'] at e2
  omega
theorem sh_best : (bestF fs (ss.map shS)).2 = (bestF fs ss).2.map shP := by
  have hall := hall_ck hck
  have hall' := hall_ck (sh_ck hck h11)
  rw [(best_spec hall').2.2, (best_spec hall).2.2, sh_top hck h11, sh_allF hall hall' (sh_bound hck h11), List.filter_map]
  congr 1
  refine List.filter_congr fun p _ => ?_
  show decide (loavesF _ (shP p) = _) = _
  rw [sh_loaves hall hall']
theorem sh_count : (bestF fs (ss.map shS)).2.length = (bestF fs ss).2.length := by rw [sh_best hck h11, List.length_map]
theorem sh_verd (s : Nat) : verdF fs (ss.map shS) s = verdF fs ss s := by
  have : cntF s (bestF fs (ss.map shS)).2 = cntF s (bestF fs ss).2 := by
    rw [sh_best hck h11, cntF, List.countP_map, cntF]
    refine List.countP_congr fun p _ => ?_
    simp only [Function.comp_apply, shP_at, shB_fl]
  rw [verdF, verdF, this, sh_count hck h11]
theorem sh_late : lateF fs (ss.map shS) = lateF fs ss := by
  have hall := hall_ck hck
  have hall' := hall_ck (sh_ck hck h11)
  have hs : ∀ may, someR fs (ss.map shS) may = someR fs ss may := fun may => by
    have e : rightsOf fs (ss.map shS) may [] = (rightsOf fs ss may []).map shP := by
      rw [rightsOf, rightsOf, List.length_map]
      exact sh_rights hall hall' (sh_bound hck h11) _ _ _ (by simp) (pad_nil hall.nf.1) fun i h => by rw [beAt_nil] at h; simp [bnone] at h
    rw [someR, someR, e]
    cases rightsOf fs ss may [] <;> rfl
  have key : ∀ m n, lateFrom fs (ss.map shS) m n = lateFrom fs ss m n := by
    intro m
    induction m with
    | zero => intro n; rfl
    | succ m ih => intro n; rw [lateFrom, lateFrom, hs, ih]
  rw [lateF, lateF, List.length_map, key]
theorem sh_bestB : (bestB fs (ss.map shS)).1 = (bestB fs ss).1.map shB := by
  have hall := hall_ck hck
  have e1 : (bestB fs ss).1 = ((bestF fs ss).2.headD []).take ss.length := by simp only [bestB]; rw [if_neg (by simp [hck])]
  have e2 : (bestB fs (ss.map shS)).1 = ((bestF fs (ss.map shS)).2.headD []).take ss.length := by simp only [bestB]; rw [if_neg (by simp [sh_ck hck h11]), List.length_map]
  rw [e1, e2, sh_best hck h11]
  cases h : (bestF fs ss).2 with
  | nil => simp
  | cons p r => simp [shP]
end
/-! A plan a day later -/
theorem sh_pad {l : List Be} : padB (l.map shB) = shP (padB l) := by
  simp only [padB, shP, List.map_append, List.length_map, List.map_replicate]
  rfl
theorem sh_ckp {nf : Int} : ∀ {ss : List St} {l : List Be}, ckBerths nf ss l = 0 → ckBerths nf (ss.map shS) (l.map shB) = 0
  | [], l, _ => by cases l <;> rfl
  | s :: ss, [], _ => rfl
  | s :: ss, b :: l, h => by
    simp only [List.map_cons, ckBerths] at h ⊢
    split at h
    · rename_i hc
      obtain ⟨a1, a2, a3, a4⟩ := ckBerth0 hc
      have hc' : ckBerth nf (shS s) (shB b) = 0 := by
        unfold ckBerth
        rw [shB_fl]
        by_cases h0 : 0 ≤ b.fl
        · have := a4 h0
          rw [if_neg (by unfold outs; omega), if_neg (by omega), if_neg]
          rw [shB_day h0]; unfold outs shS; simp only; omega
        · rw [if_neg (by unfold outs; omega), if_neg, if_neg (by omega)]
          have e : shB b = b := if_neg h0
          rw [e]; have := a3 (by omega); omega
      rw [if_pos hc']
      exact sh_ckp h
    · rename_i hc; exact absurd h hc
theorem sh_ckPlan {fs : List Fl} {ss : List St} {l : List Be} (hck : ckPlant fs ss = 0) (h11 : ∀ s ∈ ss, s.day ≤ 11) (h : ckPlan fs ss l = 0) : ckPlan fs (ss.map shS) (l.map shB) = 0 := by
  obtain ⟨h1, h2, h3⟩ := ckPlan0 h
  unfold ckPlan
  rw [if_neg (by simp [sh_ck hck h11]), if_neg (by simp; omega), if_neg (by simp; omega)]
  exact sh_ckp h3
theorem sh_days_ok {fs : List Fl} {ss : List St} {l : List Be} (hck : ckPlant fs ss = 0) (h11 : ∀ s ∈ ss, s.day ≤ 11) (h : ckPlan fs ss l = 0) : ∀ i, 0 ≤ (beAt (padB l) i).fl → (beAt (padB l) i).day ≤ 14 := fun i hi => by
  obtain ⟨h1, h2, h3⟩ := ckPlan0 h
  have hn := (hall_ck hck).ns
  by_cases hil : i < l.length
  · obtain ⟨b, hb, -⟩ := has hil
    obtain ⟨s, hs, -⟩ := has (show i < ss.length by omega)
    have e : beAt (padB l) i = b := by
      simp only [beAt, padB, List.getD]
      rw [List.getElem?_append_left hil, hb]; rfl
    rw [e] at hi ⊢
    have := (ckBerth0 (ckBerths_at h3 hs hb)).2.2.2 hi
    have := sh_bound hck h11 s (List.mem_of_getElem? hs)
    omega
  · have e : beAt (padB l) i = bnone := by
      simp only [beAt, padB, List.getD]
      rw [List.getElem?_append_right (by omega)]
      cases hx : (List.replicate (4 - l.length) bnone)[i - l.length]? with
      | none => rfl
      | some b => rw [List.eq_of_mem_replicate (List.mem_of_getElem? hx)]; rfl
    rw [e] at hi; simp [bnone] at hi
theorem ask_ok {fs : List Fl} {ss : List St} {l : List Be} {ns : List Int} (h : ckPlan fs ss l = 0) (hb : badF fs.length ns = false) : askE fs ss l ns = 0 := by
  unfold askE; rw [if_neg (by simp [h]), if_neg (by simp [hb])]
/-- ████ WRONG, a day later. -/
theorem sh_wrongV {fs : List Fl} {ss : List St} {l : List Be} (hck : ckPlant fs ss = 0) (h11 : ∀ s ∈ ss, s.day ≤ 11) (h : ckPlan fs ss l = 0) : (wrongV fs ss l = (-1, -1, 0) ∧ wrongV fs (ss.map shS) (l.map shB) = (-1, -1, 0)) ∨ ∃ f d, 0 ≤ f ∧ wrongV fs ss l = (f, d, 0) ∧ wrongV fs (ss.map shS) (l.map shB) = (f, d + 1, 0) := by
  have h' := sh_ckPlan hck h11 h
  obtain ⟨hall, hp, -⟩ := plan_ck h
  obtain ⟨hall', hp', -⟩ := plan_ck h'
  rw [sh_pad] at hp'
  have e1 : wrongV fs ss l = errW (inspF fs ss (padB l)) := by rw [wrongV, if_neg (by rw [ask_ok h rfl]; decide)]
  have e2 : wrongV fs (ss.map shS) (l.map shB) = errW (inspF fs (ss.map shS) (shP (padB l))) := by rw [wrongV, if_neg (by rw [ask_ok h' rfl]; decide), sh_pad]
  rw [e1, e2]
  rcases sh_wrong hall hall' hp.ok hp'.ok (sh_days_ok hck h11 h) with ⟨a1, a2⟩ | ⟨c, c', n, f, a1, a2, a3⟩
  · rw [a1, a2]; exact .inl ⟨rfl, rfl⟩
  · rw [a1, a2]; exact .inr ⟨f, n, a3, rfl, rfl⟩
/-- ████ WHAT STANDS, a day later. -/
theorem sh_standsV {fs : List Fl} {ss : List St} {l : List Be} {d : Nat} (hck : ckPlant fs ss = 0) (h11 : ∀ s ∈ ss, s.day ≤ 11) (h : ckPlan fs ss l = 0) (hd : d < 21) : (standsV fs ss l 0 d).2 = 0 ∧ standsV fs (ss.map shS) (l.map shB) 0 (d + 1) = standsV fs ss l 0 d := by
  have h' := sh_ckPlan hck h11 h
  obtain ⟨hall, hp, -⟩ := plan_ck h
  obtain ⟨hall', hp', -⟩ := plan_ck h'
  have hnf := hall.nf
  have hbf : badF fs.length [0] = false := by simp [badF, outs]; omega
  have e1 : standsV fs ss l 0 d = (⟨loAt fs ss (padB l) 0 d, hiAt fs ss (padB l) 0 d⟩, 0) := by
    rw [standsV, if_neg (by rw [ask_ok h hbf]; decide), if_neg (by unfold outs; omega), Int.toNat_natCast, List.getD, standsD_at hall hp.ok (Int.le_refl 0) (by omega) (by omega)]
    rfl
  have e2 : standsV fs (ss.map shS) (l.map shB) 0 (d + 1) = (⟨loAt fs (ss.map shS) (padB (l.map shB)) 0 (d + 1), hiAt fs (ss.map shS) (padB (l.map shB)) 0 (d + 1)⟩, 0) := by
    rw [standsV, if_neg (by rw [ask_ok h' hbf]; decide), if_neg (by unfold outs; omega), show ((d : Int) + 1).toNat = d + 1 by omega, List.getD, standsD_at hall' hp'.ok (Int.le_refl 0) (by omega) (by omega)]
    rfl
  rw [e1, e2, sh_pad, sh_hi (Int.le_refl 0), sh_lo (Int.le_refl 0)]
  exact ⟨rfl, rfl⟩
end Go.Mus
