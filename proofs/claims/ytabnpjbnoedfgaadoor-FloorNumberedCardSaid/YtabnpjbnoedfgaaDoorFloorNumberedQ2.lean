/- Plants whose plans answer to each other; floors with other numbers. Conditions: none. (And 2 texts more.) -/
import Derived.Test.YtabnpjbnoedfgaaDoorFloorNumberedQ1
import Derived.Test.YtabnpjbnoedfgaaDoorP13
set_option linter.unusedVariables false
set_option linter.unusedSimpArgs false

/- Plants whose plans answer to each other; floors with other numbers. Conditions: none. -/
namespace Go.Mus

theorem perm_of_mem {α : Type} [DecidableEq α] {l l' : List α} (h : l.Nodup) (h' : l'.Nodup) (hm : ∀ a, a ∈ l ↔ a ∈ l') : l.Perm l' := by
  rw [List.perm_iff_count]
  intro a
  by_cases ha : a ∈ l
  · have h1 := List.count_pos_iff.2 ha
    have h2 := List.count_pos_iff.2 ((hm a).1 ha)
    have h3 := List.nodup_iff_count.1 h a
    have h4 := List.nodup_iff_count.1 h' a
    omega
  · rw [List.count_eq_zero.2 ha, List.count_eq_zero.2 fun h => ha ((hm a).2 h)]

theorem valid_free {fs : List Fl} {ss : List St} {may : May} {p : List Be} (h : Valid fs ss may p) : Valid fs ss freeM p := by
  refine ⟨h.len, fun i hi => ?_, h.out⟩
  have := h.at_ i hi
  rw [mem_berths] at this ⊢
  rcases this with ⟨_, h1⟩ | ⟨_, h1⟩
  · exact .inl ⟨rfl, h1⟩
  · exact .inr ⟨rfl, h1⟩
/-- Each right plan of the one answers to one of the other. -/
structure Sym (fs fs' : List Fl) (ss ss' : List St) (σ τ : List Be → List Be) : Prop where
  hall : HallOK fs ss
  hall' : HallOK fs' ss'
  len : ss'.length = ss.length
  val : ∀ may p, Valid fs ss may p → Valid fs' ss' may (σ p)
  val' : ∀ may p, Valid fs' ss' may p → Valid fs ss may (τ p)
  rgt : ∀ p, Valid fs ss freeM p → inspF fs ss p = none → inspF fs' ss' (σ p) = none
  rgt' : ∀ p, Valid fs' ss' freeM p → inspF fs' ss' p = none → inspF fs ss (τ p) = none
  inv : ∀ p, Valid fs ss freeM p → τ (σ p) = p
  inv' : ∀ p, Valid fs' ss' freeM p → σ (τ p) = p
  lo : ∀ p, Valid fs ss freeM p → loavesF ss' (σ p) = loavesF ss p
  on : ∀ p i, Valid fs ss freeM p → (0 ≤ (beAt (σ p) i).fl ↔ 0 ≤ (beAt p i).fl)
section
variable {fs fs' : List Fl} {ss ss' : List St} {σ τ : List Be → List Be} (Y : Sym fs fs' ss ss' σ τ)
include Y
theorem Sym.lo' {p : List Be} (h : Valid fs' ss' freeM p) : loavesF ss (τ p) = loavesF ss' p := by
  rw [← Y.lo _ (Y.val' _ _ h), Y.inv' p h]
theorem Sym.top : (bestF fs' ss').1 = (bestF fs ss).1 := by
  have h1 := best_le Y.hall Y.hall' fun p hv hi => ⟨σ p, Y.val _ _ hv, Y.rgt p hv hi, by rw [Y.lo p hv]; exact Int.le_refl _⟩
  have h2 := best_le Y.hall' Y.hall fun p hv hi => ⟨τ p, Y.val' _ _ hv, Y.rgt' p hv hi, by rw [Y.lo' hv]; exact Int.le_refl _⟩
  omega
theorem Sym.all : (allF fs' ss' freeM).Perm ((allF fs ss freeM).map σ) := by
  refine perm_of_mem (allF_nodup Y.hall') ?_ fun p => ?_
  · rw [List.Nodup, List.pairwise_map]
    refine (allF_nodup Y.hall).imp_of_mem fun {a b} ha hb hab e => hab ?_
    rw [← Y.inv a ((mem_allF Y.hall).1 ha).1, e, Y.inv b ((mem_allF Y.hall).1 hb).1]
  · rw [mem_allF Y.hall', List.mem_map]
    constructor
    · rintro ⟨h1, h2⟩
      exact ⟨τ p, (mem_allF Y.hall).2 ⟨Y.val' _ _ h1, Y.rgt' p h1 h2⟩, Y.inv' p h1⟩
    · rintro ⟨q, hq, rfl⟩
      obtain ⟨h1, h2⟩ := (mem_allF Y.hall).1 hq
      exact ⟨Y.val _ _ h1, Y.rgt q h1 h2⟩
theorem Sym.best : (bestF fs' ss').2.Perm ((bestF fs ss).2.map σ) := by
  rw [(best_spec Y.hall').2.2, (best_spec Y.hall).2.2, Y.top]
  refine (Y.all.filter _).trans (.of_eq ?_)
  rw [List.filter_map]
  congr 1
  refine List.filter_congr fun p hp => ?_
  show decide (loavesF ss' (σ p) = _) = _
  rw [Y.lo p ((mem_allF Y.hall).1 hp).1]
theorem Sym.count : (bestF fs' ss').2.length = (bestF fs ss).2.length := by rw [Y.best.length_eq, List.length_map]
theorem Sym.cnt (s : Nat) : cntF s (bestF fs' ss').2 = cntF s (bestF fs ss).2 := by
  rw [cntF, Y.best.countP_eq, List.countP_map, cntF]
  refine List.countP_congr fun p hp => ?_
  have hv := ((mem_allF Y.hall).1 (bestF_mem hp)).1
  simp only [Function.comp_apply, decide_eq_true_eq]
  exact Y.on p s hv
theorem Sym.verd (s : Nat) : verdF fs' ss' s = verdF fs ss s := by rw [verdF, verdF, Y.cnt, Y.count]
theorem Sym.someR (may : May) : someR fs' ss' may = Go.Mus.someR fs ss may := by
  refine Bool.eq_iff_iff.2 ?_
  rw [some_iff Y.hall', some_iff Y.hall]
  constructor
  · rintro ⟨p, h1, h2⟩; exact ⟨τ p, Y.val' _ _ h1, Y.rgt' p (valid_free h1) h2⟩
  · rintro ⟨p, h1, h2⟩; exact ⟨σ p, Y.val _ _ h1, Y.rgt p (valid_free h1) h2⟩
theorem Sym.late : lateF fs' ss' = lateF fs ss := by
  have key : ∀ m n, lateFrom fs' ss' m n = lateFrom fs ss m n := by
    intro m
    induction m with
    | zero => intro n; rfl
    | succ m ih => intro n; rw [lateFrom, lateFrom, Y.someR, ih]
  rw [lateF, lateF, Y.len, key]
end

/-! Floors with other numbers -/
def swB (nf : Int) (b : Be) : Be := if b.fl < 0 then b else ⟨nf - 1 - b.fl, b.day⟩
def swP (nf : Int) (p : List Be) : List Be := p.map (swB nf)
theorem swP_at {nf : Int} {p : List Be} {i : Nat} : beAt (swP nf p) i = swB nf (beAt p i) := by
  simp only [beAt, swP, List.getD, List.getElem?_map]
  cases p[i]? with
  | none => simp [swB, bnone]
  | some b => rfl
theorem flAt_rev {fs : List Fl} {f : Int} (h0 : 0 ≤ f) (h1 : f < fs.length) : flAt fs.reverse f = flAt fs (fs.length - 1 - f) := by
  simp only [flAt, List.getD]
  rw [List.getElem?_reverse (by omega)]
  congr 3
  omega
theorem ckFloors_all : ∀ {fs : List Fl}, ckFloors fs = 0 ↔ ∀ f ∈ fs, ckFloor f = 0
  | [] => by simp [ckFloors]
  | f :: fs => by
    simp only [ckFloors, List.mem_cons, forall_eq_or_imp]
    split
    · rename_i h; rw [ckFloors_all (fs := fs)]; exact ⟨fun h2 => ⟨h, h2⟩, fun h2 => h2.2⟩
    · rename_i h; exact ⟨fun h2 => absurd h2 h, fun h2 => absurd h2.1 h⟩
theorem ckPlant_rev {fs : List Fl} {ss : List St} (h : ckPlant fs ss = 0) : ckPlant fs.reverse ss = 0 := by
  obtain ⟨h1, h2, h3, h4, h5⟩ := ckPlant0 h
  refine ckPlant_mk (by simp; omega) (by simpa using h2) ?_ h3 h5
  rw [ckFloors_all] at h4 ⊢
  exact fun f hf => h4 f (List.mem_reverse.1 hf)
theorem sw_fl {nf : Int} {b : Be} {f : Int} (h0 : 0 ≤ f) (h1 : f < nf) : (swB nf b).fl = f ↔ b.fl = nf - 1 - f := by
  unfold swB; split
  · omega
  · simp only; omega
theorem sw_day {nf : Int} {b : Be} : (swB nf b).day = b.day := by unfold swB; split <;> rfl
theorem sw_bad {fs : List Fl} {ss : List St} {p : List Be} {f n : Int} (h0 : 0 ≤ f) (h1 : f < fs.length) : Bad fs.reverse ss (swP fs.length p) f n ↔ Bad fs ss p (fs.length - 1 - f) n := by
  have e := flAt_rev h0 h1
  have hon : ∀ a, OnDay (swP fs.length p) f a ↔ OnDay p (fs.length - 1 - f) a := fun a => by
    simp only [OnDay, swP_at, sw_fl h0 h1, sw_day]
  have hhi : hiAt fs.reverse ss (swP fs.length p) f n = hiAt fs ss p (fs.length - 1 - f) n := sumK_congr fun i _ => by
    simp only [hiG, swP_at, sw_fl h0 h1, sw_day, e]
  simp only [Bad, Full, Cold, hon, hhi, e]
theorem sw_right {fs : List Fl} {ss : List St} {p : List Be} (hall : HallOK fs ss) (hall' : HallOK fs.reverse ss) (hp : PlOK p) (hp' : PlOK (swP fs.length p)) (h : inspF fs ss p = none) : inspF fs.reverse ss (swP fs.length p) = none := by
  rw [insp_none hall hp] at h
  rw [insp_none hall' hp']
  intro f h0 h1 n hb
  rw [List.length_reverse] at h1
  exact h _ (by omega) (by omega) n ((sw_bad h0 h1).1 hb)
theorem sw_valid {fs : List Fl} {ss : List St} {may : May} {p : List Be} (h : Valid fs ss may p) : Valid fs.reverse ss may (swP fs.length p) := by
  refine ⟨by simp [swP, h.len], fun i hi => ?_, fun i hi => ?_⟩
  · have := h.at_ i hi
    rw [swP_at, mem_berths]
    rw [mem_berths] at this
    rcases this with ⟨a1, a2⟩ | ⟨a1, a2, a3, a4, a5⟩
    · exact .inl ⟨a1, by rw [a2]; rfl⟩
    · refine .inr ⟨a1, ?_⟩
      rw [List.length_reverse, sw_day]
      unfold swB
      rw [if_neg (by omega)]
      simp only; omega
  · rw [swP_at, h.out i hi]; rfl
theorem swB_inv {nf : Int} {b : Be} (h : b.fl < nf) : swB nf (swB nf b) = b := by
  by_cases h1 : b.fl < 0
  · have e : swB nf b = b := if_pos h1
    rw [e, e]
  · have e : swB nf b = ⟨nf - 1 - b.fl, b.day⟩ := if_neg h1
    have e2 : swB nf ⟨nf - 1 - b.fl, b.day⟩ = ⟨nf - 1 - (nf - 1 - b.fl), b.day⟩ := if_neg (by simp only; omega)
    rw [e, e2, show nf - 1 - (nf - 1 - b.fl) = b.fl by omega]
theorem sw_inv {fs : List Fl} {ss : List St} {p : List Be} (hall : HallOK fs ss) (h : Valid fs ss freeM p) : swP fs.length (swP fs.length p) = p := by
  have hp := valid_plan hall h
  rw [swP, swP, List.map_map]
  conv => rhs; rw [← List.map_id p]
  refine List.map_congr_left fun b hb => ?_
  have := hp.fl b hb
  exact swB_inv this
theorem sw_sym {fs : List Fl} {ss : List St} (hck : ckPlant fs ss = 0) : Sym fs fs.reverse ss ss (swP fs.length) (swP fs.length) := by
  have hall := hall_ck hck
  have hall' := hall_ck (ckPlant_rev hck)
  have hback : ∀ may p, Valid fs.reverse ss may p → Valid fs ss may (swP fs.length p) := fun may p h => by
    have := sw_valid h
    rwa [List.length_reverse, List.reverse_reverse] at this
  refine ⟨hall, hall', rfl, fun may p h => sw_valid h, hback, fun p h hi => sw_right hall hall' (valid_plan hall h).ok (valid_plan hall' (sw_valid h)).ok hi, fun p h hi => ?_, fun p h => sw_inv hall h, fun p h => ?_, fun p h => ?_, fun p i h => ?_⟩
  · have := sw_right (fs := fs.reverse) (ss := ss) (p := p) hall' (by rw [List.reverse_reverse]; exact hall) (valid_plan hall' h).ok (by rw [List.length_reverse]; exact (valid_plan hall (hback _ _ h)).ok) hi
    rwa [List.length_reverse, List.reverse_reverse] at this
  · have := sw_inv hall' h
    rwa [List.length_reverse] at this
  · rw [loavesF_eq hall, loavesF_eq hall]
    refine sumK_congr fun i hi => ?_
    have hb := h.at_ i hi
    rw [mem_berths] at hb
    simp only [coG, swP_at]
    congr 1
    refine propext ?_
    rcases hb with ⟨_, a2⟩ | ⟨_, a2, a3, _⟩
    · rw [a2]; rfl
    · unfold swB; rw [if_neg (by omega)]; simp only; omega
  · rw [swP_at]
    rcases Nat.lt_or_ge i ss.length with hi | hi
    · have hb := h.at_ i hi
      rw [mem_berths] at hb
      rcases hb with ⟨_, a2⟩ | ⟨_, a2, a3, _⟩
      · rw [a2]; rfl
      · unfold swB; rw [if_neg (by omega)]; simp only; omega
    · rw [h.out i hi]; rfl
end Go.Mus

/- Floors with other numbers. Conditions: none; over the given program. -/
namespace Go.Mus
set_option maxRecDepth 100000
set_option maxHeartbeats 4000000

/-- The first k turned round. -/
def mixK {α : Type} (l : List α) (k : Nat) : List α := l.reverse.take k ++ l.drop k
theorem mixK_len {α : Type} {l : List α} {k : Nat} (h : k ≤ l.length) : (mixK l k).length = l.length := by simp [mixK]; omega
theorem mixK_step {α : Type} {l : List α} {k : Nat} {y : α} (hk : k < l.length) (hy : l[l.length - 1 - k]? = some y) : (mixK l k).set k y = mixK l (k + 1) := by
  have hr : l.reverse[k]? = some y := by rw [List.getElem?_reverse hk]; exact hy
  have hl : (l.reverse.take k).length = k := by simp; omega
  rw [mixK, mixK, ← List.getElem_cons_drop hk, List.take_add_one, hr]
  have := List.set_append_right (s := l.reverse.take k) (t := l[k] :: l.drop (k + 1)) k y (by omega)
  rw [this, hl, Nat.sub_self, List.set_cons_zero, List.append_assoc]
  rfl
theorem mixK_end {α : Type} {l : List α} : mixK l l.length = l.reverse := by
  rw [mixK, List.drop_length, List.append_nil]
  exact List.take_of_length_le (by simp)
theorem Part.setF {c : Array Value} {l : List Fl} {j : Nat} {x y : Fl} (h : Part c 0 (flat Fl.row l)) (hj : l[j]? = some x) : Part (putAll c (0 + j * 4) [I y.pl, I y.lo, I y.hi, I y.co]) 0 (flat Fl.row (l.set j y)) := by
  have h1 := h.setR (⟨y.pl, x.lo, x.hi, x.co⟩ : Fl) 0 (I y.pl) (by decide) hj rfl
  have e1 : (l.set j (⟨y.pl, x.lo, x.hi, x.co⟩ : Fl))[j]? = some ⟨y.pl, x.lo, x.hi, x.co⟩ := List.getElem?_set_self (lt_of_get hj)
  have h2 := h1.setR (⟨y.pl, y.lo, x.hi, x.co⟩ : Fl) 1 (I y.lo) (by decide) e1 rfl
  rw [List.set_set] at h2
  have e2 : (l.set j (⟨y.pl, y.lo, x.hi, x.co⟩ : Fl))[j]? = some ⟨y.pl, y.lo, x.hi, x.co⟩ := List.getElem?_set_self (lt_of_get hj)
  have h3 := h2.setR (⟨y.pl, y.lo, y.hi, x.co⟩ : Fl) 2 (I y.hi) (by decide) e2 rfl
  rw [List.set_set] at h3
  have e3 : (l.set j (⟨y.pl, y.lo, y.hi, x.co⟩ : Fl))[j]? = some ⟨y.pl, y.lo, y.hi, x.co⟩ := List.getElem?_set_self (lt_of_get hj)
  have h4 := h3.setR y 3 (I y.co) (by decide) e3 rfl
  rw [List.set_set] at h4
  simpa [putAll, Nat.add_assoc] using h4

theorem FloorNumbered_top (main : Side) (hS : ∀ S, main.ok S → ∃ Fin, S = Mn prog Fin) (hmb : main.b = true) (h : Hp) (nums : List Int) (lv : Value) (Eg : TypeId) (zg : Nat × Nat) (hl : Sl h rowI lv nums) (hg : h 0 = some (.cells #[rtV t_error] Eg zg)) (z0 : h.z 0) : TopV prog main n_law_FloorNumbered #[lv] h (.bool true) := by
  refine TopV.of_body at_law_FloorNumbered rfl (by show 1 ≤ 63; decide) [(0, lv)] ⟨rfl, trivial⟩ ?_
  refine W.seq ?_
  refine W.region rfl ?_
  refine oq (y_assign rfl rfl) rfl wn rfl rfl ?_
  refine Ops.nil ?_
  refine thn_n ?_
  refine W.seq ?_
  refine W.region rfl ?_
  refine oq (y_move rfl rfl) rfl wn rfl rfl ?_
  refine c0 (fun h' hE hL => NewHat_fn _ h' nums lv (hl.ext hE)) (fun v A' hv => ?_)
  obtain ⟨bh, s0, rfl, rfl⟩ := hv
  refine cg (A := [(bh, _)]) .head (fun h' hE hL => PlantOf_fn _ h' nums lv bh s0 3 2 (hl.ext hE) (by decide) (by decide)) (fun v A' hv => ?_)
  obtain ⟨vf, vs, fs, ss, Sf, Ss, k1, s1, rfl, ⟨hOf, hOs⟩, ⟨hck, hn4, hw⟩, hk100, hsb⟩ := hv
  refine Ops.sb (F' := Sf ++ Ss) ((Sb.skip rfl .refl).trans (hsb.trans (Sb.right .refl .nil))) ?_
  obtain ⟨a, cap, rfl⟩ := hOf.isSl
  obtain ⟨a', cap', rfl⟩ := hOs.isSl
  have hnf := (hall_ck hck).nf
  refine Ops.new (fun β3 => ?_)
  first | refine Ops.stoW ?_ | refine Ops.stoA ?_
  refine Ops.nil ?_
  refine thn_n ?_
  refine W.sb (F' := Sf ++ (Ss ++ [(β3, .cells #[.slice a fs.length cap, .slice a' ss.length cap'] t_Plant (0, 0))])) (.of_perm (by rw [← List.append_assoc]; exact List.perm_append_singleton _ _)) ?_
  refine freezeOs hOf (fun hx hEx hslf hzf => ?_)
  refine freezeOs hOs (fun hy hEy hsls hzs => ?_)
  refine W.seq ?_
  refine W.region rfl ?_
  first | refine oq (yldW rfl rfl) rfl wn rfl rfl ?_ | refine oq (yldA rfl rfl) rfl wn rfl rfl ?_
  refine c0 (fun h' hE hL => DupPlant_fn _ h' fs ss _ _ (hslf.ext (hEy.trans hE)) (hsls.ext hE) (by omega)) (fun v A' hv => ?_)
  obtain ⟨vf2, vs2, Sf2, Ss2, rfl, ⟨hOf2, hOs2⟩, hsb3⟩ := hv
  refine Ops.sb (F' := (β3, .cells #[.slice a fs.length cap, .slice a' ss.length cap'] t_Plant (0, 0)) :: (Ss2 ++ Sf2)) (.trans (.of_perm (.trans (List.Perm.cons _ List.perm_append_comm) (List.perm_append_singleton _ _).symm)) (hsb3.app .refl)) ?_
  obtain ⟨a2, cap2, rfl⟩ := hOf2.isSl
  obtain ⟨a3, cap3, rfl⟩ := hOs2.isSl
  refine Ops.new (fun β4 => ?_)
  first | refine Ops.stoW ?_ | refine Ops.stoA ?_
  refine Ops.nil ?_
  refine thn_n ?_
  refine W.seq ?_
  refine W.seq ?_
  refine W.region rfl ?_
  refine oq (y_assign rfl rfl) rfl wn rfl rfl ?_
  refine Ops.nil ?_
  refine thn_n ?_
  refine W.block ?_
  have hO0 : Os t_Floor Fl.row (.slice a2 fs.length cap2) (mixK fs 0) Sf2 := by simpa [mixK] using hOf2
  refine W.loop2 (fun (k : Nat) (S' : Frag) => k ≤ fs.length ∧ Os t_Floor Fl.row (.slice a2 fs.length cap2) (mixK fs k) S') (fun k S' => [(5, I k), (4, .pointer (some ⟨β4, 0, none⟩)), (3, .pointer (some ⟨β3, 0, none⟩))]) (fun k S' => (β4, .cells #[.slice a2 fs.length cap2, .slice a3 ss.length cap3] t_Plant (0, 0)) :: (β3, .cells #[.slice a fs.length cap, .slice a' ss.length cap'] t_Plant (0, 0)) :: (Ss2 ++ S')) (fun k _ => fs.length - k) 0 Sf2 ⟨Nat.zero_le _, hO0⟩ ⟨rfl, rfl, rfl, trivial⟩ .refl ?_
  rintro k S' ⟨hk, hO'⟩
  refine W.seq ?_
  refine W.seq ?_
  refine W.region rfl ?_
  refine oq (y_move rfl rfl) rfl wn rfl rfl ?_
  refine oq (y_fieldAddr rfl rfl) rfl wn rfl rfl ?_
  refine oq (yld rfl rfl) rfl wn rfl rfl ?_
  refine oq (y_len rfl rfl) rfl wn rfl rfl ?_
  refine oq (y_lss rfl rfl rfl) rfl wn rfl rfl ?_
  refine Ops.nil ?_
  refine thn_n ?_
  refine W.condp rfl (fun c19 => ?_) (fun c19 => ?_)
  · have hk1 : k < fs.length := by omega
    obtain ⟨y, hy0, -⟩ := has (show fs.length - 1 - k < fs.length by omega)
    obtain ⟨bf, off, c, E, fz, rfl, hb, hx1, hy1, hz1⟩ := hslf.at hy0
    have hb' := hEy.1 _ _ hb
    have hx2 : c.extract (off + (fs.length - 1 - k) * 4) (off + (fs.length - 1 - k) * 4 + 4) = #[I y.pl, I y.lo, I y.hi, I y.co] := hx1
    clear hx1 hz1
    have hml := mixK_len (l := fs) (k := k) hk
    obtain ⟨x0, hx0, -⟩ := has (show k < (mixK fs k).length by omega)
    rcases hO' with ⟨hnil, _, _⟩ | ⟨β, c2, cp, J, hv, rfl, hc1, hc2, hP, hJ⟩
    · rw [hnil] at hml; simp at hml; omega
    obtain ⟨rfl, rfl⟩ : a2 = some ⟨β, 0, none⟩ ∧ cap2 = cp := by injection hv with e1 e2 e3; exact ⟨e1, e3⟩
    have hP2 := hP.setF (y := y) hx0
    rw [mixK_step hk1 hy0] at hP2
    have hsz := (hP.rowE hx0).2
    refine W.skip ?_
    refine thn_n ?_
    refine W.seq ?_
    refine W.block ?_
    refine W.drawP2 (n := 15) rfl ?_
    refine aq (i := 0) (y_fieldAddr rfl rfl) rfl an rfl rfl ?_
    refine aq (i := 1) (yld rfl rfl) rfl an rfl rfl ?_
    refine aq (i := 2) (y_move rfl rfl) rfl an rfl rfl ?_
    refine aq (i := 3) (y_fieldAddr rfl rfl) rfl an rfl rfl ?_
    refine aq (i := 4) (yld rfl rfl) rfl an rfl rfl ?_
    refine aq (i := 5) (y_fieldAddr rfl rfl) rfl an rfl rfl ?_
    refine aq (i := 6) (yld rfl rfl) rfl an rfl rfl ?_
    refine aq (i := 7) (y_len rfl rfl) rfl an rfl rfl ?_
    first | refine aq (i := 8) (ysub rfl rfl rfl) rfl an rfl rfl ?_ | refine aq (i := 8) (y_subw rfl rfl rfl) rfl an rfl rfl ?_
    refine aq (i := 9) (y_move rfl rfl) rfl an rfl rfl ?_
    refine aq (i := 10) (Yv.eq (u := I ((fs.length - 1 - k : Nat) : Int)) (ysub rfl rfl rfl) (show I _ = I _ by congr 1; omega)) rfl an rfl rfl ?_
    first | refine aq (i := 11) (yix rfl rfl rfl) rfl an rfl rfl ?_ | refine aq (i := 11) (yixI rfl rfl rfl) rfl an rfl rfl ?_
    first | refine aq (i := 12) (yldW rfl rfl) rfl an rfl rfl ?_ | refine aq (i := 12) (yldA rfl rfl) rfl an rfl rfl ?_
    first | refine aq (i := 13) (yix rfl rfl rfl) rfl an rfl rfl ?_ | refine aq (i := 13) (yixI rfl rfl rfl) rfl an rfl rfl ?_
    first | refine ae (i := 14) rfl an rfl rfl (eSW rfl rfl rfl ?_) | refine ae (i := 14) rfl an rfl rfl (eSA rfl rfl rfl ?_)
    refine ⟨.inl (by kernel_rfl), ?_⟩
    refine az ?_
    refine blk_n ?_
    refine thn_n ?_
    refine W.region rfl ?_
    refine oq (y_move rfl rfl) rfl wn rfl rfl ?_
    first | refine oq (yadd rfl rfl rfl) rfl wn rfl rfl ?_ | refine oq (y_addw rfl rfl rfl) rfl wn rfl rfl ?_
    refine oq (y_assign rfl rfl) rfl wn rfl rfl ?_
    refine Ops.nil ?_
    refine thn_n ?_
    exact ⟨rfl, k + 1, (β, _) :: J, ⟨by omega, .inr ⟨β, _, cap2, J, by rw [mixK_len (by omega)], rfl, by rw [putAll_size]; exact hc1, by rw [mixK_len (by omega)]; rw [hml] at hc2; exact hc2, hP2, hJ⟩⟩, by omega, ⟨rfl, rfl, rfl, trivial⟩, .refl⟩
  · have hkl : k = fs.length := by omega
    subst hkl
    rw [mixK_end] at hO'
    have Y := sw_sym hck
    have hckr := ckPlant_rev hck
    have hlr : fs.reverse.length = fs.length := List.length_reverse
    refine W.exit ?_
    refine thn_x ?_
    refine thn_x ?_
    refine blk_x ?_
    refine thn_n ?_
    refine W.sb (F' := Ss2 ++ (S' ++ [(β4, .cells #[.slice a2 fs.length cap2, .slice a3 ss.length cap3] t_Plant (0, 0)), (β3, .cells #[.slice a fs.length cap, .slice a' ss.length cap'] t_Plant (0, 0))])) (.of_perm (by rw [← List.append_assoc]; exact List.perm_append_comm (l₂ := [_, _]))) ?_
    refine freezeOs hOs2 (fun hx2 hEx2 hsls2 hzs2 => ?_)
    refine freezeOs hO' (fun hy2 hEy2 hslf2 hzf2 => ?_)
    have hEall := ((hEx.trans hEy).trans hEx2).trans hEy2
    have hE3 := (hEy.trans hEx2).trans hEy2
    have hE4 := hEx2.trans hEy2
    refine W.seq ?_
    refine W.region rfl ?_
    first | refine oq (yldW rfl rfl) rfl wn rfl rfl ?_ | refine oq (yldA rfl rfl) rfl wn rfl rfl ?_
    refine cp (fun h' hE hL => lawloaves_fn main hS hmb h' fs ss _ _ Eg zg (hslf.ext (hE3.trans hE)) (hsls.ext (hE4.trans hE)) (hzf.ext (hE3.trans hE)) (hzs.ext (hE4.trans hE)) hck ((hEall.trans hE).1 _ _ hg) ((hEall.trans hE).2 _ z0)) ?_
    refine oq (y_move rfl rfl) rfl wn rfl rfl ?_
    refine oq (y_extract rfl rfl rfl) rfl wn rfl rfl ?_
    refine oq (y_extract rfl rfl rfl) rfl wn rfl rfl ?_
    refine oq (y_assign rfl rfl) rfl wn rfl rfl ?_
    refine oq (y_assign rfl rfl) rfl wn rfl rfl ?_
    refine Ops.nil ?_
    refine thn_n ?_
    refine W.seq ?_
    refine W.region rfl ?_
    first | refine oq (yldW rfl rfl) rfl wn rfl rfl ?_ | refine oq (yldA rfl rfl) rfl wn rfl rfl ?_
    refine cp (fun h' hE hL => lawloaves_fn main hS hmb h' fs.reverse ss _ _ Eg zg (hslf2.ext hE) (hsls2.ext (hEy2.trans hE)) (hzf2.ext hE) (hzs2.ext (hEy2.trans hE)) hckr ((hEall.trans hE).1 _ _ hg) ((hEall.trans hE).2 _ z0)) ?_
    refine oq (y_move rfl rfl) rfl wn rfl rfl ?_
    refine oq (y_extract rfl rfl rfl) rfl wn rfl rfl ?_
    refine oq (y_extract rfl rfl rfl) rfl wn rfl rfl ?_
    refine oq (y_assign rfl rfl) rfl wn rfl rfl ?_
    refine oq (y_assign rfl rfl) rfl wn rfl rfl ?_
    refine Ops.nil ?_
    refine thn_n ?_
    refine W.seq ?_
    refine W.region rfl ?_
    --abs T
    refine oq ((y_move rfl rfl).eq (u := .bool true) rfl) rfl wn rfl rfl ?_
    refine oq (y_move rfl rfl) rfl wn rfl rfl ?_
    --abs T
    refine oq ((y_move rfl rfl).eq (u := .bool true) rfl) rfl (want_some rfl rfl rfl) rfl rfl ?_
    refine oq (y_pickT rfl rfl rfl) rfl wn rfl rfl ?_
    refine oq (y_move rfl rfl) rfl wn rfl rfl ?_
    refine oq (y_move rfl rfl) rfl (want_some rfl rfl rfl) rfl rfl ?_
    refine oq (y_move rfl rfl) rfl (want_some rfl rfl rfl) rfl rfl ?_
    --abs T
    refine oq ((y_eql rfl rfl rfl).eq (u := .bool true) (congrArg Value.bool (decide_eq_true Y.top.symm))) rfl (want_some rfl rfl rfl) rfl rfl ?_
    refine oq (y_pickT rfl rfl rfl) rfl wn rfl rfl ?_
    refine oq (y_move rfl rfl) rfl wn rfl rfl ?_
    first | refine oq (yldW rfl rfl) rfl (want_some rfl rfl rfl) rfl rfl ?_ | refine oq (yldA rfl rfl) rfl (want_some rfl rfl rfl) rfl rfl ?_
    first | refine oq (yldW rfl rfl) rfl (want_some rfl rfl rfl) rfl rfl ?_ | refine oq (yldA rfl rfl) rfl (want_some rfl rfl rfl) rfl rfl ?_
    --abs T
    refine cp (fun h' hE hL => same_fn main hS hmb h' fs fs.reverse ss ss _ _ _ _ Eg zg (hslf.ext (hE3.trans hE)) (hsls.ext (hE4.trans hE)) (hzf.ext (hE3.trans hE)) (hzs.ext (hE4.trans hE)) (hslf2.ext hE) (hsls2.ext (hEy2.trans hE)) (hzf2.ext hE) (hzs2.ext (hEy2.trans hE)) hck hckr rfl Y.count Y.late (fun i _ => Y.verd i) ((hEall.trans hE).1 _ _ hg) ((hEall.trans hE).2 _ z0)) ?_ (hw := want_some rfl rfl rfl)
    refine oq (y_pickT rfl rfl rfl) rfl wn rfl rfl ?_
    refine oq (y_move rfl rfl) rfl wn rfl rfl ?_
    --abs T
    refine cp (fun h' hE hL => exs_fn _ hS hmb h' Eg zg ((hEall.trans hE).1 _ _ hg) ((hEall.trans hE).2 _ z0)) ?_ (hw := want_some rfl rfl rfl)
    refine oq (y_pickT rfl rfl rfl) rfl wn rfl rfl ?_
    refine oq (y_assign rfl rfl) rfl wn rfl rfl ?_
    refine Ops.nil ?_
    refine thn_n ?_
    refine W.ret ?_
    exact lvq rfl
end Go.Mus

/- FloorNumbered's card. Conditions: as the card says; over the given program. -/
namespace Go.Proofs.YtabnpjbnoedfgaaDoor
open Go Go.Mus
set_option maxRecDepth 100000
set_option maxHeartbeats 4000000

theorem floorNumbered_row : Rows.FloorNumberedSaid :=
  OpenClaim.holds_of_wide_leaving n_law_FloorNumbered F_law_FloorNumbered rfl rfl rfl rfl rfl rfl rfl ⟨rfl, rfl, rfl, rfl, rfl⟩ rfl rfl rfl rfl rfl (by kernel_rfl) at_law_FloorNumbered (by kernel_rfl)
    (of_decide_eq_true (by kernel_rfl)) (by unfold Func.isWrapper; first | (rw [if_pos (by decide +kernel)]; kernel_rfl) | (rw [if_neg (by decide +kernel)]; exact ⟨rfl, rfl⟩))
    (fun os started H enc _ => lift1 (s := Rows.floorNumberedSpec) os started H enc at_law_FloorNumbered (by kernel_rfl) (by kernel_rfl) (by kernel_rfl) (by kernel_rfl) (by kernel_rfl) rfl (fun _ => rfl)
      (ChangeSpec.witness_at (enc := enc) (C := Tryd.checked) (os := os) (X := fun w _ => laidMetH prog laid0 w) false (laidWorld os) #[.slice none 0 0] 8 rfl (by kernel_rfl) (by kernel_rfl) (by kernel_rfl) (by kernel_rfl) (by kernel_rfl) (laidWorld_met os _))
      (fun main hS hmb h nums lv Eg zg hl hg z0 => FloorNumbered_top main hS hmb h nums lv Eg zg hl hg z0))

theorem FloorNumbered_card : Rows.FloorNumberedCardSaid :=
  tied_goes .later [] [.handle] true (true, "2e2133920f864db8286a366f85eb0bf56b29bab96a3561a4e902e110205c3504") true
    floorNumbered_row (fun _ h => by cases h) (by kernel_rfl) (fun _ h => by cases h) floorNumbered_row_tie rfl ⟨rfl, rfl⟩ (by kernel_rfl) rfl
    (fun f fn hf hfn => by
      obtain rfl : f = n_law_FloorNumbered := (Option.some.inj ((show prog.funcNamed Rows.floorNumberedRow.func = some n_law_FloorNumbered by kernel_rfl).symm.trans hf)).symm
      obtain rfl : fn = F_law_FloorNumbered := (Option.some.inj (at_law_FloorNumbered.symm.trans hfn)).symm
      exact ⟨by kernel_rfl, fun j t ht => by
        rw [show (F_law_FloorNumbered).params = #[t_sl_int] by kernel_rfl] at ht
        have h3 : t = t_sl_int := by
          rcases j with _ | j
          · simpa using ht.symm
          · simp at ht
        subst h3
        exact (show prog.wantsStandIn t_sl_int = false by kernel_rfl)⟩)
    (by kernel_rfl)
#print axioms FloorNumbered_card
end Go.Proofs.YtabnpjbnoedfgaaDoor
