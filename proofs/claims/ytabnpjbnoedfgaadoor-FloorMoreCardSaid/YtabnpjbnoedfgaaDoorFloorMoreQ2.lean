/- Plants whose plans answer to each other; floors with other numbers. Conditions: none. (And 3 texts more.) -/
import Derived.Test.YtabnpjbnoedfgaaDoorFloorMoreQ1
import Derived.Test.YtabnpjbnoedfgaaDoorP08
set_option linter.unusedVariables false
set_option linter.unusedSimpArgs false

/- Plants whose plans answer to each other; floors with other numbers. Conditions: none. -/
namespace Go.Mus

theorem perm_of_mem {α : Type} [DecidableEq α] {l l' : List α} (h : l.Nodup) (h' : l'.Nodup) (hm : ∀ a, a ∈ l ↔ a ∈ l') : l.Perm l' := by
  rw [List.perm_iff_count]
  intro a
  by_cases ha : a ∈ l
  · have h1 := List.count_pos_iff.2 ha
    have h2 := List.count_pos_iff.2 ((hm a).1 ha)
    have h3 := List.nodup_iff_count.1 h a
    have h4 := List.nodup_iff_count.1 h' a
    omega
  · rw [List.count_eq_zero.2 ha, List.count_eq_zero.2 fun h => ha ((hm a).2 h)]

theorem valid_free {fs : List Fl} {ss : List St} {may : May} {p : List Be} (h : Valid fs ss may p) : Valid fs ss freeM p := by
  refine ⟨h.len, fun i hi => ?_, h.out⟩
  have := h.at_ i hi
  rw [mem_berths] at this ⊢
  rcases this with ⟨_, h1⟩ | ⟨_, h1⟩
  · exact .inl ⟨rfl, h1⟩
  · exact .inr ⟨rfl, h1⟩
/-- Each right plan of the one answers to one of the other. -/
structure Sym (fs fs' : List Fl) (ss ss' : List St) (σ τ : List Be → List Be) : Prop where
  hall : HallOK fs ss
  hall' : HallOK fs' ss'
  len : ss'.length = ss.length
  val : ∀ may p, Valid fs ss may p → Valid fs' ss' may (σ p)
  val' : ∀ may p, Valid fs' ss' may p → Valid fs ss may (τ p)
  rgt : ∀ p, Valid fs ss freeM p → inspF fs ss p = none → inspF fs' ss' (σ p) = none
  rgt' : ∀ p, Valid fs' ss' freeM p → inspF fs' ss' p = none → inspF fs ss (τ p) = none
  inv : ∀ p, Valid fs ss freeM p → τ (σ p) = p
  inv' : ∀ p, Valid fs' ss' freeM p → σ (τ p) = p
  lo : ∀ p, Valid fs ss freeM p → loavesF ss' (σ p) = loavesF ss p
  on : ∀ p i, Valid fs ss freeM p → (0 ≤ (beAt (σ p) i).fl ↔ 0 ≤ (beAt p i).fl)
section
variable {fs fs' : List Fl} {ss ss' : List St} {σ τ : List Be → List Be} (Y : Sym fs fs' ss ss' σ τ)
include Y
theorem Sym.lo' {p : List Be} (h : Valid fs' ss' freeM p) : loavesF ss (τ p) = loavesF ss' p := by
  rw [← Y.lo _ (Y.val' _ _ h), Y.inv' p h]
theorem Sym.top : (bestF fs' ss').1 = (bestF fs ss).1 := by
  have h1 := best_le Y.hall Y.hall' fun p hv hi => ⟨σ p, Y.val _ _ hv, Y.rgt p hv hi, by rw [Y.lo p hv]; exact Int.le_refl _⟩
  have h2 := best_le Y.hall' Y.hall fun p hv hi => ⟨τ p, Y.val' _ _ hv, Y.rgt' p hv hi, by rw [Y.lo' hv]; exact Int.le_refl _⟩
  omega
theorem Sym.all : (allF fs' ss' freeM).Perm ((allF fs ss freeM).map σ) := by
  refine perm_of_mem (allF_nodup Y.hall') ?_ fun p => ?_
  · rw [List.Nodup, List.pairwise_map]
    refine (allF_nodup Y.hall).imp_of_mem fun {a b} ha hb hab e => hab ?_
    rw [← Y.inv a ((mem_allF Y.hall).1 ha).1, e, Y.inv b ((mem_allF Y.hall).1 hb).1]
  · rw [mem_allF Y.hall', List.mem_map]
    constructor
    · rintro ⟨h1, h2⟩
      exact ⟨τ p, (mem_allF Y.hall).2 ⟨Y.val' _ _ h1, Y.rgt' p h1 h2⟩, Y.inv' p h1⟩
    · rintro ⟨q, hq, rfl⟩
      obtain ⟨h1, h2⟩ := (mem_allF Y.hall).1 hq
      exact ⟨Y.val _ _ h1, Y.rgt q h1 h2⟩
theorem Sym.best : (bestF fs' ss').2.Perm ((bestF fs ss).2.map σ) := by
  rw [(best_spec Y.hall').2.2, (best_spec Y.hall).2.2, Y.top]
  refine (Y.all.filter _).trans (.of_eq ?_)
  rw [List.filter_map]
  congr 1
  refine List.filter_congr fun p hp => ?_
  show decide (loavesF ss' (σ p) = _) = _
  rw [Y.lo p ((mem_allF Y.hall).1 hp).1]
theorem Sym.count : (bestF fs' ss').2.length = (bestF fs ss).2.length := by rw [Y.best.length_eq, List.length_map]
theorem Sym.cnt (s : Nat) : cntF s (bestF fs' ss').2 = cntF s (bestF fs ss).2 := by
  rw [cntF, Y.best.countP_eq, List.countP_map, cntF]
  refine List.countP_congr fun p hp => ?_
  have hv := ((mem_allF Y.hall).1 (bestF_mem hp)).1
  simp only [Function.comp_apply, decide_eq_true_eq]
  exact Y.on p s hv
theorem Sym.verd (s : Nat) : verdF fs' ss' s = verdF fs ss s := by rw [verdF, verdF, Y.cnt, Y.count]
theorem Sym.someR (may : May) : someR fs' ss' may = Go.Mus.someR fs ss may := by
  refine Bool.eq_iff_iff.2 ?_
  rw [some_iff Y.hall', some_iff Y.hall]
  constructor
  · rintro ⟨p, h1, h2⟩; exact ⟨τ p, Y.val' _ _ h1, Y.rgt' p (valid_free h1) h2⟩
  · rintro ⟨p, h1, h2⟩; exact ⟨σ p, Y.val _ _ h1, Y.rgt p (valid_free h1) h2⟩
theorem Sym.late : lateF fs' ss' = lateF fs ss := by
  have key : ∀ m n, lateFrom fs' ss' m n = lateFrom fs ss m n := by
    intro m
    induction m with
    | zero => intro n; rfl
    | succ m ih => intro n; rw [lateFrom, lateFrom, Y.someR, ih]
  rw [lateF, lateF, Y.len, key]
end

/-! Floors with other numbers -/
def swB (nf : Int) (b : Be) : Be := if b.fl < 0 then b else ⟨nf - 1 - b.fl, b.day⟩
def swP (nf : Int) (p : List Be) : List Be := p.map (swB nf)
theorem swP_at {nf : Int} {p : List Be} {i : Nat} : beAt (swP nf p) i = swB nf (beAt p i) := by
  simp only [beAt, swP, List.getD, List.getElem?_map]
  cases p[i]? with
  | none => simp [swB, bnone]
  | some b => rfl
theorem flAt_rev {fs : List Fl} {f : Int} (h0 : 0 ≤ f) (h1 : f < fs.length) : flAt fs.reverse f = flAt fs (fs.length - 1 - f) := by
  simp only [flAt, List.getD]
  rw [List.getElem?_reverse (by omega)]
  congr 3
  omega
theorem ckFloors_all : ∀ {fs : List Fl}, ckFloors fs = 0 ↔ ∀ f ∈ fs, ckFloor f = 0
  | [] => by simp [ckFloors]
  | f :: fs => by
    simp only [ckFloors, List.mem_cons, forall_eq_or_imp]
    split
    · rename_i h; rw [ckFloors_all (fs := fs)]; exact ⟨fun h2 => ⟨h, h2⟩, fun h2 => h2.2⟩
    · rename_i h; exact ⟨fun h2 => absurd h2 h, fun h2 => absurd h2.1 h⟩
theorem ckPlant_rev {fs : List Fl} {ss : List St} (h : ckPlant fs ss = 0) : ckPlant fs.reverse ss = 0 := by
  obtain ⟨h1, h2, h3, h4, h5⟩ := ckPlant0 h
  refine ckPlant_mk (by simp; omega) (by simpa using h2) ?_ h3 h5
  rw [ckFloors_all] at h4 ⊢
  exact fun f hf => h4 f (List.mem_reverse.1 hf)
theorem sw_fl {nf : Int} {b : Be} {f : Int} (h0 : 0 ≤ f) (h1 : f < nf) : (swB nf b).fl = f ↔ b.fl = nf - 1 - f := by
  unfold swB; split
  · omega
  · simp only; omega
theorem sw_day {nf : Int} {b : Be} : (swB nf b).day = b.day := by unfold swB; split <;> rfl
theorem sw_bad {fs : List Fl} {ss : List St} {p : List Be} {f n : Int} (h0 : 0 ≤ f) (h1 : f < fs.length) : Bad fs.reverse ss (swP fs.length p) f n ↔ Bad fs ss p (fs.length - 1 - f) n := by
  have e := flAt_rev h0 h1
  have hon : ∀ a, OnDay (swP fs.length p) f a ↔ OnDay p (fs.length - 1 - f) a := fun a => by
    simp only [OnDay, swP_at, sw_fl h0 h1, sw_day]
  have hhi : hiAt fs.reverse ss (swP fs.length p) f n = hiAt fs ss p (fs.length - 1 - f) n := sumK_congr fun i _ => by
    simp only [hiG, swP_at, sw_fl h0 h1, sw_day, e]
  simp only [Bad, Full, Cold, hon, hhi, e]
theorem sw_right {fs : List Fl} {ss : List St} {p : List Be} (hall : HallOK fs ss) (hall' : HallOK fs.reverse ss) (hp : PlOK p) (hp' : PlOK (swP fs.length p)) (h : inspF fs ss p = none) : inspF fs.reverse ss (swP fs.length p) = none := by
  rw [insp_none hall hp] at h
  rw [insp_none hall' hp']
  intro f h0 h1 n hb
  rw [List.length_reverse] at h1
  exact h _ (by omega) (by omega) n ((sw_bad h0 h1).1 hb)
theorem sw_valid {fs : List Fl} {ss : List St} {may : May} {p : List Be} (h : Valid fs ss may p) : Valid fs.reverse ss may (swP fs.length p) := by
  refine ⟨by simp [swP, h.len], fun i hi => ?_, fun i hi => ?_⟩
  · have := h.at_ i hi
    rw [swP_at, mem_berths]
    rw [mem_berths] at this
    rcases this with ⟨a1, a2⟩ | ⟨a1, a2, a3, a4, a5⟩
    · exact .inl ⟨a1, by rw [a2]; rfl⟩
    · refine .inr ⟨a1, ?_⟩
      rw [List.length_reverse, sw_day]
      unfold swB
      rw [if_neg (by omega)]
      simp only; omega
  · rw [swP_at, h.out i hi]; rfl
theorem swB_inv {nf : Int} {b : Be} (h : b.fl < nf) : swB nf (swB nf b) = b := by
  by_cases h1 : b.fl < 0
  · have e : swB nf b = b := if_pos h1
    rw [e, e]
  · have e : swB nf b = ⟨nf - 1 - b.fl, b.day⟩ := if_neg h1
    have e2 : swB nf ⟨nf - 1 - b.fl, b.day⟩ = ⟨nf - 1 - (nf - 1 - b.fl), b.day⟩ := if_neg (by simp only; omega)
    rw [e, e2, show nf - 1 - (nf - 1 - b.fl) = b.fl by omega]
theorem sw_inv {fs : List Fl} {ss : List St} {p : List Be} (hall : HallOK fs ss) (h : Valid fs ss freeM p) : swP fs.length (swP fs.length p) = p := by
  have hp := valid_plan hall h
  rw [swP, swP, List.map_map]
  conv => rhs; rw [← List.map_id p]
  refine List.map_congr_left fun b hb => ?_
  have := hp.fl b hb
  exact swB_inv this
theorem sw_sym {fs : List Fl} {ss : List St} (hck : ckPlant fs ss = 0) : Sym fs fs.reverse ss ss (swP fs.length) (swP fs.length) := by
  have hall := hall_ck hck
  have hall' := hall_ck (ckPlant_rev hck)
  have hback : ∀ may p, Valid fs.reverse ss may p → Valid fs ss may (swP fs.length p) := fun may p h => by
    have := sw_valid h
    rwa [List.length_reverse, List.reverse_reverse] at this
  refine ⟨hall, hall', rfl, fun may p h => sw_valid h, hback, fun p h hi => sw_right hall hall' (valid_plan hall h).ok (valid_plan hall' (sw_valid h)).ok hi, fun p h hi => ?_, fun p h => sw_inv hall h, fun p h => ?_, fun p h => ?_, fun p i h => ?_⟩
  · have := sw_right (fs := fs.reverse) (ss := ss) (p := p) hall' (by rw [List.reverse_reverse]; exact hall) (valid_plan hall' h).ok (by rw [List.length_reverse]; exact (valid_plan hall (hback _ _ h)).ok) hi
    rwa [List.length_reverse, List.reverse_reverse] at this
  · have := sw_inv hall' h
    rwa [List.length_reverse] at this
  · rw [loavesF_eq hall, loavesF_eq hall]
    refine sumK_congr fun i hi => ?_
    have hb := h.at_ i hi
    rw [mem_berths] at hb
    simp only [coG, swP_at]
    congr 1
    refine propext ?_
    rcases hb with ⟨_, a2⟩ | ⟨_, a2, a3, _⟩
    · rw [a2]; rfl
    · unfold swB; rw [if_neg (by omega)]; simp only; omega
  · rw [swP_at]
    rcases Nat.lt_or_ge i ss.length with hi | hi
    · have hb := h.at_ i hi
      rw [mem_berths] at hb
      rcases hb with ⟨_, a2⟩ | ⟨_, a2, a3, _⟩
      · rw [a2]; rfl
      · unfold swB; rw [if_neg (by omega)]; simp only; omega
    · rw [h.out i hi]; rfl
end Go.Mus

/- Floors with other numbers. Conditions: none; over the given program. -/
namespace Go.Mus
set_option maxRecDepth 100000
set_option maxHeartbeats 4000000

/-- The first k turned round. -/
def mixK {α : Type} (l : List α) (k : Nat) : List α := l.reverse.take k ++ l.drop k
theorem mixK_len {α : Type} {l : List α} {k : Nat} (h : k ≤ l.length) : (mixK l k).length = l.length := by simp [mixK]; omega
theorem mixK_step {α : Type} {l : List α} {k : Nat} {y : α} (hk : k < l.length) (hy : l[l.length - 1 - k]? = some y) : (mixK l k).set k y = mixK l (k + 1) := by
  have hr : l.reverse[k]? = some y := by rw [List.getElem?_reverse hk]; exact hy
  have hl : (l.reverse.take k).length = k := by simp; omega
  rw [mixK, mixK, ← List.getElem_cons_drop hk, List.take_add_one, hr]
  have := List.set_append_right (s := l.reverse.take k) (t := l[k] :: l.drop (k + 1)) k y (by omega)
  rw [this, hl, Nat.sub_self, List.set_cons_zero, List.append_assoc]
  rfl
theorem mixK_end {α : Type} {l : List α} : mixK l l.length = l.reverse := by
  rw [mixK, List.drop_length, List.append_nil]
  exact List.take_of_length_le (by simp)
theorem Part.setF {c : Array Value} {l : List Fl} {j : Nat} {x y : Fl} (h : Part c 0 (flat Fl.row l)) (hj : l[j]? = some x) : Part (putAll c (0 + j * 4) [I y.pl, I y.lo, I y.hi, I y.co]) 0 (flat Fl.row (l.set j y)) := by
  have h1 := h.setR (⟨y.pl, x.lo, x.hi, x.co⟩ : Fl) 0 (I y.pl) (by decide) hj rfl
  have e1 : (l.set j (⟨y.pl, x.lo, x.hi, x.co⟩ : Fl))[j]? = some ⟨y.pl, x.lo, x.hi, x.co⟩ := List.getElem?_set_self (lt_of_get hj)
  have h2 := h1.setR (⟨y.pl, y.lo, x.hi, x.co⟩ : Fl) 1 (I y.lo) (by decide) e1 rfl
  rw [List.set_set] at h2
  have e2 : (l.set j (⟨y.pl, y.lo, x.hi, x.co⟩ : Fl))[j]? = some ⟨y.pl, y.lo, x.hi, x.co⟩ := List.getElem?_set_self (lt_of_get hj)
  have h3 := h2.setR (⟨y.pl, y.lo, y.hi, x.co⟩ : Fl) 2 (I y.hi) (by decide) e2 rfl
  rw [List.set_set] at h3
  have e3 : (l.set j (⟨y.pl, y.lo, y.hi, x.co⟩ : Fl))[j]? = some ⟨y.pl, y.lo, y.hi, x.co⟩ := List.getElem?_set_self (lt_of_get hj)
  have h4 := h3.setR y 3 (I y.co) (by decide) e3 rfl
  rw [List.set_set] at h4
  simpa [putAll, Nat.add_assoc] using h4

theorem FloorNumbered_top (main : Side) (hS : ∀ S, main.ok S → ∃ Fin, S = Mn prog Fin) (hmb : main.b = true) (h : Hp) (nums : List Int) (lv : Value) (Eg : TypeId) (zg : Nat × Nat) (hl : Sl h rowI lv nums) (hg : h 0 = some (.cells #[rtV t_error] Eg zg)) (z0 : h.z 0) : TopV prog main n_law_FloorNumbered #[lv] h (.bool true) := by
  refine TopV.of_body at_law_FloorNumbered rfl (by show 1 ≤ 63; decide) [(0, lv)] ⟨rfl, trivial⟩ ?_
  refine W.seq ?_
  refine W.region rfl ?_
  refine oq (y_assign rfl rfl) rfl wn rfl rfl ?_
  refine Ops.nil ?_
  refine thn_n ?_
  refine W.seq ?_
  refine W.region rfl ?_
  refine oq (y_move rfl rfl) rfl wn rfl rfl ?_
  refine c0 (fun h' hE hL => NewHat_fn _ h' nums lv (hl.ext hE)) (fun v A' hv => ?_)
  obtain ⟨bh, s0, rfl, rfl⟩ := hv
  refine cg (A := [(bh, _)]) .head (fun h' hE hL => PlantOf_fn _ h' nums lv bh s0 3 2 (hl.ext hE) (by decide) (by decide)) (fun v A' hv => ?_)
  obtain ⟨vf, vs, fs, ss, Sf, Ss, k1, s1, rfl, ⟨hOf, hOs⟩, ⟨hck, hn4, hw⟩, hk100, hsb⟩ := hv
  refine Ops.sb (F' := Sf ++ Ss) ((Sb.skip rfl .refl).trans (hsb.trans (Sb.right .refl .nil))) ?_
  obtain ⟨a, cap, rfl⟩ := hOf.isSl
  obtain ⟨a', cap', rfl⟩ := hOs.isSl
  have hnf := (hall_ck hck).nf
  refine Ops.new (fun β3 => ?_)
  first | refine Ops.stoW ?_ | refine Ops.stoA ?_
  refine Ops.nil ?_
  refine thn_n ?_
  refine W.sb (F' := Sf ++ (Ss ++ [(β3, .cells #[.slice a fs.length cap, .slice a' ss.length cap'] t_Plant (0, 0))])) (.of_perm (by rw [← List.append_assoc]; exact List.perm_append_singleton _ _)) ?_
  refine freezeOs hOf (fun hx hEx hslf hzf => ?_)
  refine freezeOs hOs (fun hy hEy hsls hzs => ?_)
  refine W.seq ?_
  refine W.region rfl ?_
  first | refine oq (yldW rfl rfl) rfl wn rfl rfl ?_ | refine oq (yldA rfl rfl) rfl wn rfl rfl ?_
  refine c0 (fun h' hE hL => DupPlant_fn _ h' fs ss _ _ (hslf.ext (hEy.trans hE)) (hsls.ext hE) (by omega)) (fun v A' hv => ?_)
  obtain ⟨vf2, vs2, Sf2, Ss2, rfl, ⟨hOf2, hOs2⟩, hsb3⟩ := hv
  refine Ops.sb (F' := (β3, .cells #[.slice a fs.length cap, .slice a' ss.length cap'] t_Plant (0, 0)) :: (Ss2 ++ Sf2)) (.trans (.of_perm (.trans (List.Perm.cons _ List.perm_append_comm) (List.perm_append_singleton _ _).symm)) (hsb3.app .refl)) ?_
  obtain ⟨a2, cap2, rfl⟩ := hOf2.isSl
  obtain ⟨a3, cap3, rfl⟩ := hOs2.isSl
  refine Ops.new (fun β4 => ?_)
  first | refine Ops.stoW ?_ | refine Ops.stoA ?_
  refine Ops.nil ?_
  refine thn_n ?_
  refine W.seq ?_
  refine W.seq ?_
  refine W.region rfl ?_
  refine oq (y_assign rfl rfl) rfl wn rfl rfl ?_
  refine Ops.nil ?_
  refine thn_n ?_
  refine W.block ?_
  have hO0 : Os t_Floor Fl.row (.slice a2 fs.length cap2) (mixK fs 0) Sf2 := by simpa [mixK] using hOf2
  refine W.loop2 (fun (k : Nat) (S' : Frag) => k ≤ fs.length ∧ Os t_Floor Fl.row (.slice a2 fs.length cap2) (mixK fs k) S') (fun k S' => [(5, I k), (4, .pointer (some ⟨β4, 0, none⟩)), (3, .pointer (some ⟨β3, 0, none⟩))]) (fun k S' => (β4, .cells #[.slice a2 fs.length cap2, .slice a3 ss.length cap3] t_Plant (0, 0)) :: (β3, .cells #[.slice a fs.length cap, .slice a' ss.length cap'] t_Plant (0, 0)) :: (Ss2 ++ S')) (fun k _ => fs.length - k) 0 Sf2 ⟨Nat.zero_le _, hO0⟩ ⟨rfl, rfl, rfl, trivial⟩ .refl ?_
  rintro k S' ⟨hk, hO'⟩
  refine W.seq ?_
  refine W.seq ?_
  refine W.region rfl ?_
  refine oq (y_move rfl rfl) rfl wn rfl rfl ?_
  refine oq (y_fieldAddr rfl rfl) rfl wn rfl rfl ?_
  refine oq (yld rfl rfl) rfl wn rfl rfl ?_
  refine oq (y_len rfl rfl) rfl wn rfl rfl ?_
  refine oq (y_lss rfl rfl rfl) rfl wn rfl rfl ?_
  refine Ops.nil ?_
  refine thn_n ?_
  refine W.condp rfl (fun c19 => ?_) (fun c19 => ?_)
  · have hk1 : k < fs.length := by omega
    obtain ⟨y, hy0, -⟩ := has (show fs.length - 1 - k < fs.length by omega)
    obtain ⟨bf, off, c, E, fz, rfl, hb, hx1, hy1, hz1⟩ := hslf.at hy0
    have hb' := hEy.1 _ _ hb
    have hx2 : c.extract (off + (fs.length - 1 - k) * 4) (off + (fs.length - 1 - k) * 4 + 4) = #[I y.pl, I y.lo, I y.hi, I y.co] := hx1
    clear hx1 hz1
    have hml := mixK_len (l := fs) (k := k) hk
    obtain ⟨x0, hx0, -⟩ := has (show k < (mixK fs k).length by omega)
    rcases hO' with ⟨hnil, _, _⟩ | ⟨β, c2, cp, J, hv, rfl, hc1, hc2, hP, hJ⟩
    · rw [hnil] at hml; simp at hml; omega
    obtain ⟨rfl, rfl⟩ : a2 = some ⟨β, 0, none⟩ ∧ cap2 = cp := by injection hv with e1 e2 e3; exact ⟨e1, e3⟩
    have hP2 := hP.setF (y := y) hx0
    rw [mixK_step hk1 hy0] at hP2
    have hsz := (hP.rowE hx0).2
    refine W.skip ?_
    refine thn_n ?_
    refine W.seq ?_
    refine W.block ?_
    refine W.drawP2 (n := 15) rfl ?_
    refine aq (i := 0) (y_fieldAddr rfl rfl) rfl an rfl rfl ?_
    refine aq (i := 1) (yld rfl rfl) rfl an rfl rfl ?_
    refine aq (i := 2) (y_move rfl rfl) rfl an rfl rfl ?_
    refine aq (i := 3) (y_fieldAddr rfl rfl) rfl an rfl rfl ?_
    refine aq (i := 4) (yld rfl rfl) rfl an rfl rfl ?_
    refine aq (i := 5) (y_fieldAddr rfl rfl) rfl an rfl rfl ?_
    refine aq (i := 6) (yld rfl rfl) rfl an rfl rfl ?_
    refine aq (i := 7) (y_len rfl rfl) rfl an rfl rfl ?_
    first | refine aq (i := 8) (ysub rfl rfl rfl) rfl an rfl rfl ?_ | refine aq (i := 8) (y_subw rfl rfl rfl) rfl an rfl rfl ?_
    refine aq (i := 9) (y_move rfl rfl) rfl an rfl rfl ?_
    refine aq (i := 10) (Yv.eq (u := I ((fs.length - 1 - k : Nat) : Int)) (ysub rfl rfl rfl) (show I _ = I _ by congr 1; omega)) rfl an rfl rfl ?_
    first | refine aq (i := 11) (yix rfl rfl rfl) rfl an rfl rfl ?_ | refine aq (i := 11) (yixI rfl rfl rfl) rfl an rfl rfl ?_
    first | refine aq (i := 12) (yldW rfl rfl) rfl an rfl rfl ?_ | refine aq (i := 12) (yldA rfl rfl) rfl an rfl rfl ?_
    first | refine aq (i := 13) (yix rfl rfl rfl) rfl an rfl rfl ?_ | refine aq (i := 13) (yixI rfl rfl rfl) rfl an rfl rfl ?_
    first | refine ae (i := 14) rfl an rfl rfl (eSW rfl rfl rfl ?_) | refine ae (i := 14) rfl an rfl rfl (eSA rfl rfl rfl ?_)
    refine ⟨.inl (by kernel_rfl), ?_⟩
    refine az ?_
    refine blk_n ?_
    refine thn_n ?_
    refine W.region rfl ?_
    refine oq (y_move rfl rfl) rfl wn rfl rfl ?_
    first | refine oq (yadd rfl rfl rfl) rfl wn rfl rfl ?_ | refine oq (y_addw rfl rfl rfl) rfl wn rfl rfl ?_
    refine oq (y_assign rfl rfl) rfl wn rfl rfl ?_
    refine Ops.nil ?_
    refine thn_n ?_
    exact ⟨rfl, k + 1, (β, _) :: J, ⟨by omega, .inr ⟨β, _, cap2, J, by rw [mixK_len (by omega)], rfl, by rw [putAll_size]; exact hc1, by rw [mixK_len (by omega)]; rw [hml] at hc2; exact hc2, hP2, hJ⟩⟩, by omega, ⟨rfl, rfl, rfl, trivial⟩, .refl⟩
  · have hkl : k = fs.length := by omega
    subst hkl
    rw [mixK_end] at hO'
    have Y := sw_sym hck
    have hckr := ckPlant_rev hck
    have hlr : fs.reverse.length = fs.length := List.length_reverse
    refine W.exit ?_
    refine thn_x ?_
    refine thn_x ?_
    refine blk_x ?_
    refine thn_n ?_
    refine W.sb (F' := Ss2 ++ (S' ++ [(β4, .cells #[.slice a2 fs.length cap2, .slice a3 ss.length cap3] t_Plant (0, 0)), (β3, .cells #[.slice a fs.length cap, .slice a' ss.length cap'] t_Plant (0, 0))])) (.of_perm (by rw [← List.append_assoc]; exact List.perm_append_comm (l₂ := [_, _]))) ?_
    refine freezeOs hOs2 (fun hx2 hEx2 hsls2 hzs2 => ?_)
    refine freezeOs hO' (fun hy2 hEy2 hslf2 hzf2 => ?_)
    have hEall := ((hEx.trans hEy).trans hEx2).trans hEy2
    have hE3 := (hEy.trans hEx2).trans hEy2
    have hE4 := hEx2.trans hEy2
    refine W.seq ?_
    refine W.region rfl ?_
    first | refine oq (yldW rfl rfl) rfl wn rfl rfl ?_ | refine oq (yldA rfl rfl) rfl wn rfl rfl ?_
    refine cp (fun h' hE hL => lawloaves_fn main hS hmb h' fs ss _ _ Eg zg (hslf.ext (hE3.trans hE)) (hsls.ext (hE4.trans hE)) (hzf.ext (hE3.trans hE)) (hzs.ext (hE4.trans hE)) hck ((hEall.trans hE).1 _ _ hg) ((hEall.trans hE).2 _ z0)) ?_
    refine oq (y_move rfl rfl) rfl wn rfl rfl ?_
    refine oq (y_extract rfl rfl rfl) rfl wn rfl rfl ?_
    refine oq (y_extract rfl rfl rfl) rfl wn rfl rfl ?_
    refine oq (y_assign rfl rfl) rfl wn rfl rfl ?_
    refine oq (y_assign rfl rfl) rfl wn rfl rfl ?_
    refine Ops.nil ?_
    refine thn_n ?_
    refine W.seq ?_
    refine W.region rfl ?_
    first | refine oq (yldW rfl rfl) rfl wn rfl rfl ?_ | refine oq (yldA rfl rfl) rfl wn rfl rfl ?_
    refine cp (fun h' hE hL => lawloaves_fn main hS hmb h' fs.reverse ss _ _ Eg zg (hslf2.ext hE) (hsls2.ext (hEy2.trans hE)) (hzf2.ext hE) (hzs2.ext (hEy2.trans hE)) hckr ((hEall.trans hE).1 _ _ hg) ((hEall.trans hE).2 _ z0)) ?_
    refine oq (y_move rfl rfl) rfl wn rfl rfl ?_
    refine oq (y_extract rfl rfl rfl) rfl wn rfl rfl ?_
    refine oq (y_extract rfl rfl rfl) rfl wn rfl rfl ?_
    refine oq (y_assign rfl rfl) rfl wn rfl rfl ?_
    refine oq (y_assign rfl rfl) rfl wn rfl rfl ?_
    refine Ops.nil ?_
    refine thn_n ?_
    refine W.seq ?_
    refine W.region rfl ?_
    --abs T
    refine oq ((y_move rfl rfl).eq (u := .bool true) rfl) rfl wn rfl rfl ?_
    refine oq (y_move rfl rfl) rfl wn rfl rfl ?_
    --abs T
    refine oq ((y_move rfl rfl).eq (u := .bool true) rfl) rfl (want_some rfl rfl rfl) rfl rfl ?_
    refine oq (y_pickT rfl rfl rfl) rfl wn rfl rfl ?_
    refine oq (y_move rfl rfl) rfl wn rfl rfl ?_
    refine oq (y_move rfl rfl) rfl (want_some rfl rfl rfl) rfl rfl ?_
    refine oq (y_move rfl rfl) rfl (want_some rfl rfl rfl) rfl rfl ?_
    --abs T
    refine oq ((y_eql rfl rfl rfl).eq (u := .bool true) (congrArg Value.bool (decide_eq_true Y.top.symm))) rfl (want_some rfl rfl rfl) rfl rfl ?_
    refine oq (y_pickT rfl rfl rfl) rfl wn rfl rfl ?_
    refine oq (y_move rfl rfl) rfl wn rfl rfl ?_
    first | refine oq (yldW rfl rfl) rfl (want_some rfl rfl rfl) rfl rfl ?_ | refine oq (yldA rfl rfl) rfl (want_some rfl rfl rfl) rfl rfl ?_
    first | refine oq (yldW rfl rfl) rfl (want_some rfl rfl rfl) rfl rfl ?_ | refine oq (yldA rfl rfl) rfl (want_some rfl rfl rfl) rfl rfl ?_
    --abs T
    refine cp (fun h' hE hL => same_fn main hS hmb h' fs fs.reverse ss ss _ _ _ _ Eg zg (hslf.ext (hE3.trans hE)) (hsls.ext (hE4.trans hE)) (hzf.ext (hE3.trans hE)) (hzs.ext (hE4.trans hE)) (hslf2.ext hE) (hsls2.ext (hEy2.trans hE)) (hzf2.ext hE) (hzs2.ext (hEy2.trans hE)) hck hckr rfl Y.count Y.late (fun i _ => Y.verd i) ((hEall.trans hE).1 _ _ hg) ((hEall.trans hE).2 _ z0)) ?_ (hw := want_some rfl rfl rfl)
    refine oq (y_pickT rfl rfl rfl) rfl wn rfl rfl ?_
    refine oq (y_move rfl rfl) rfl wn rfl rfl ?_
    --abs T
    refine cp (fun h' hE hL => exs_fn _ hS hmb h' Eg zg ((hEall.trans hE).1 _ _ hg) ((hEall.trans hE).2 _ z0)) ?_ (hw := want_some rfl rfl rfl)
    refine oq (y_pickT rfl rfl rfl) rfl wn rfl rfl ?_
    refine oq (y_assign rfl rfl) rfl wn rfl rfl ?_
    refine Ops.nil ?_
    refine thn_n ?_
    refine W.ret ?_
    exact lvq rfl
end Go.Mus

/- Operations that come up in any order and only add to what is owned. Conditions: none; over any program. -/
namespace Go.Mus

/-- What is said of one that adds: its number, its slot, what it bears with what it adds. -/
abbrev Spc := Nat × Nat × (Value → Frag → Prop)
def waits (ops : Array Oper) : Nat → Nat → Nat → Bool
  | 0, _, _ => false
  | n + 1, k, b => match ops[k]? with | some o => o.after.any fun e => bindsTo e && (Nat.beq e.on b || waits ops n e.on b) | none => false
def bagT (ops : Array Oper) (listed : Nat) (B : List Nat) : Bool :=
  closedT ops listed && (List.range ops.size).all (fun k => (match ops[k]? with | some o => o.after.all fun e => !bindsTo e || Nat.blt e.on k | none => true) && (listed.testBit k || B.any (Nat.beq k) || B.all fun b => waits ops 6 k b)) && B.all (fun b => Nat.blt b ops.size && !listed.testBit b)

theorem waits_spec {ops : Array Oper} {listed : Nat} (hc : Closed ops listed) : ∀ (n k b : Nat) (o : Oper), ops[k]? = some o → (∀ e ∈ o.after, bindsTo e = true → listed.testBit e.on = true) → waits ops n k b = true → listed.testBit b = true
  | 0, k, b, o, _, _, h => by simp [waits] at h
  | n + 1, k, b, o, ho, hall, h => by
    simp only [waits, ho, Array.any_eq_true, Bool.and_eq_true, Bool.or_eq_true] at h
    obtain ⟨i, hi, h1, h2⟩ := h
    have h3 := hall _ (Array.getElem_mem hi) h1
    rcases h2 with h2 | h2
    · rw [← Nat.eq_of_beq_eq_true h2]; exact h3
    · cases ho' : ops[o.after[i].on]? with
      | none => cases n with
        | zero => simp [waits] at h2
        | succ n => simp [waits, ho'] at h2
      | some o' => exact waits_spec hc n _ b o' ho' (fun e he hb => hc _ o' ho' h3 e he hb) h2

structure BagI (ops : Array Oper) (listed : Nat) (B : List Nat) : Prop where
  cl : Closed ops listed
  low : ∀ k o, ops[k]? = some o → ∀ e ∈ o.after, bindsTo e = true → e.on < k
  or : ∀ k, k < ops.size → listed.testBit k = false → k ∈ B ∨ ∀ b ∈ B, waits ops 6 k b = true
  un : ∀ b ∈ B, b < ops.size ∧ listed.testBit b = false
  nd : B.Nodup

theorem bagT_spec {ops : Array Oper} {listed : Nat} {B : List Nat} (h : bagT ops listed B = true) (hn : B.Nodup) : BagI ops listed B := by
  simp only [bagT, Bool.and_eq_true, List.all_eq_true, List.mem_range, Bool.or_eq_true, Bool.not_eq_true'] at h
  obtain ⟨⟨h1, h2⟩, h3⟩ := h
  refine ⟨closedT_spec h1, fun k o hk e he hb => ?_, fun k hk hl => ?_, fun b hb => ⟨?_, (h3 b hb).2⟩, hn⟩
  · have hlt : k < ops.size := by
      rcases Nat.lt_or_ge k ops.size with h' | h'
      · exact h'
      · rw [Array.getElem?_eq_none h'] at hk; cases hk
    have := (h2 k hlt).1
    simp only [hk, Array.all_eq_true_iff_forall_mem, Bool.or_eq_true, Bool.not_eq_true'] at this
    rcases this e he with h' | h'
    · rw [hb] at h'; cases h'
    · exact Nat.le_of_ble_eq_true h'
  · rcases (h2 k hk).2 with (h' | h') | h'
    · rw [hl] at h'; cases h'
    · obtain ⟨b, hb, e⟩ := List.any_eq_true.1 h'
      rw [Nat.eq_of_beq_eq_true e]; exact .inl hb
    · exact .inr fun b hb => h' b hb
  · exact Nat.le_of_ble_eq_true (h3 b hb).1

theorem BagI.some {ops : Array Oper} {listed : Nat} {B : List Nat} (h : BagI ops listed B) {b : Nat} (hb : b ∈ B) : rdys ops listed ≠ [] := by
  have key : ∀ (n k : Nat), k < n → k < ops.size → listed.testBit k = false → ∃ i, rdy ops listed i = true := by
    intro n
    induction n with
    | zero => intro k hk; omega
    | succ n ih =>
      intro k hk hlt hl
      by_cases hr : rdy ops listed k = true
      · exact ⟨k, hr⟩
      · simp only [rdy, Array.getElem?_eq_getElem hlt, hl, Bool.not_false, Bool.true_and, Array.all_eq_true_iff_forall_mem, Bool.or_eq_true, Bool.not_eq_true'] at hr
        have : ∃ e ∈ (ops[k]).after, bindsTo e = true ∧ listed.testBit e.on = false := by
          refine Classical.byContradiction fun hn => hr fun e he => ?_
          cases hbe : bindsTo e with
          | false => exact .inl rfl
          | true =>
            cases ht : listed.testBit e.on with
            | true => exact .inr rfl
            | false => exact absurd ⟨e, he, hbe, ht⟩ hn
        obtain ⟨e, he, h1, h2⟩ := this
        have := h.low k _ (Array.getElem?_eq_getElem hlt) e he h1
        exact ih e.on (by omega) (by omega) h2
  obtain ⟨i, hi⟩ := key (b + 1) b (by omega) (h.un b hb).1 (h.un b hb).2
  intro e
  have := mem_rdys.2 hi
  rw [e] at this
  cases this

theorem BagI.inB {ops : Array Oper} {listed : Nat} {B : List Nat} (h : BagI ops listed B) {b j : Nat} (hb : b ∈ B) (hj : rdy ops listed j = true) : j ∈ B := by
  obtain ⟨oj, hoj, hun, hall⟩ := rdy_op hj
  rcases h.or j (rdy_lt hj) hun with h' | h'
  · exact h'
  · have := waits_spec h.cl 6 j b oj hoj hall (h' b hb)
    rw [(h.un b hb).2] at this
    cases this

theorem BagI.step {ops : Array Oper} {listed j : Nat} {B1 B2 : List Nat} (h : BagI ops listed (B1 ++ j :: B2)) (hj : rdy ops listed j = true) : BagI ops (listed ||| 2 ^ j) (B1 ++ B2) := by
  have hnd : j ∉ B1 ++ B2 := by
    have := (List.perm_middle (a := j) (l₁ := B1) (l₂ := B2)).nodup_iff.1 h.nd
    exact (List.nodup_cons.1 this).1
  refine ⟨h.cl.step hj, h.low, fun k hk hl => ?_, fun b hb => ?_, ?_⟩
  · rw [testBit_or, Bool.or_eq_false_iff] at hl
    have hne : j ≠ k := by simpa using hl.2
    rcases h.or k hk hl.1 with h' | h'
    · left
      rcases List.mem_append.1 h' with h' | h'
      · exact List.mem_append_left _ h'
      · rcases List.mem_cons.1 h' with h' | h'
        · exact absurd h'.symm hne
        · exact List.mem_append_right _ h'
    · right
      intro b hb
      refine h' b ?_
      rcases List.mem_append.1 hb with hb | hb
      · exact List.mem_append_left _ hb
      · exact List.mem_append_right _ (List.mem_cons_of_mem _ hb)
  · have hb' : b ∈ B1 ++ j :: B2 := by
      rcases List.mem_append.1 hb with hb | hb
      · exact List.mem_append_left _ hb
      · exact List.mem_append_right _ (List.mem_cons_of_mem _ hb)
    refine ⟨(h.un b hb').1, ?_⟩
    rw [testBit_or, (h.un b hb').2, Bool.false_or, decide_eq_false_iff_not]
    rintro rfl
    exact hnd hb
  · have := (List.perm_middle (a := j) (l₁ := B1) (l₂ := B2)).nodup_iff.1 h.nd
    exact (List.nodup_cons.1 this).2

/-- All of them have come up, with whatever they bear. -/
def bagK : List Spc → (Ev → Frag → Prop) → Ev → Frag → Prop
  | [], K, ε, F => K ε F
  | (_, d, P) :: r, K, ε, F => ∀ v A, P v A → bagK r K (upd ε (some d) v) (A ++ F)
theorem bagK_perm {K : Ev → Frag → Prop} (hK : ∀ ε F F', F'.Perm F → K ε F' → K ε F) : ∀ {B : List Spc} {ε : Ev} {F F' : Frag}, F'.Perm F → bagK B K ε F' → bagK B K ε F
  | [], ε, F, F', p, h => hK ε F F' p h
  | (_, d, P) :: r, ε, F, F', p, h => fun v A hv => bagK_perm hK (p.append_left A) (h v A hv)
theorem bagK_pull {K : Ev → Frag → Prop} (hK : ∀ ε F F', F'.Perm F → K ε F' → K ε F) {j d : Nat} {P : Value → Frag → Prop} : ∀ {B1 B2 : List Spc} {ε : Ev} {F : Frag}, (∀ s ∈ B1, s.2.1 ≠ d) → bagK (B1 ++ (j, d, P) :: B2) K ε F → ∀ v A, P v A → bagK (B1 ++ B2) K (upd ε (some d) v) (A ++ F)
  | [], B2, ε, F, _, h, v, A, hv => h v A hv
  | (i, d', P') :: B1, B2, ε, F, hn, h, v, A, hv => fun w C hw => by
    have hne : d' ≠ d := hn _ (List.mem_cons_self ..)
    have := bagK_pull hK (fun s hs => hn s (List.mem_cons_of_mem _ hs)) (h w C hw) v A hv
    rw [upd_comm hne] at this
    refine bagK_perm hK ?_ this
    rw [← List.append_assoc, ← List.append_assoc]
    exact List.perm_append_comm.append_right F

/-- One that adds. -/
def Adds (x : Cx) (ops : Array Oper) (ε : Ev) (s : Spc) : Prop :=
  ∃ o, ops[s.1]? = some o ∧ o.dst = some s.2.1 ∧ slotOK o.dst x.n = true ∧ (∀ c, o.op ≠ .defer c) ∧ o.guard = none ∧ ∀ e, Cons ε e → ∀ F, Run1 x o e F fun v F' => ∃ A F'', F''.Perm F' ∧ s.2.2 v A ∧ F'' = A ++ F

theorem Cons.back {ε : Ev} {d : Nat} {v : Value} {e : Operand → Value} (h : Cons (upd ε (some d) v) e) (hd : ε d = none) : Cons ε e := fun y u hy => h y u (by
  cases y with
  | tmp t =>
    simp only [evε, upd] at hy ⊢
    cases hb : Nat.beq t d with
    | true => rw [Nat.eq_of_beq_eq_true hb, hd] at hy; cases hy
    | false => exact hy
  | _ => exact hy)

theorem anyT_bag {x : Cx} {ops : Array Oper} {L : Frag} {K : Ev → Frag → Prop} (hK : ∀ ε F F', F'.Perm F → K ε F' → K ε F) {fin : Nat} {fuel : Nat} : ∀ (m : Nat) (B : List Spc) (listed : Nat) (ε : Ev) (F : Frag), B.length = m → BagI ops listed (B.map (·.1)) →
    (∀ s ∈ B, Adds x ops ε s) → (∀ s ∈ B, ε s.2.1 = none) → (B.map (·.2.1)).Nodup → (∀ k, fin.testBit k = (listed.testBit k || decide (k ∈ B.map (·.1)))) → Keeps L F →
    bagK B (anyT x ops (Keeps L) K fuel fin) ε F → anyT x ops (Keeps L) K (fuel + m) listed ε F := by
  intro m
  induction m with
  | zero =>
    intro B listed ε F hm hI hA hd hnd hfin hS H
    obtain rfl := List.length_eq_zero_iff.1 hm
    have : fin = listed := Nat.eq_of_testBit_eq fun k => by simpa using hfin k
    subst this
    exact H
  | succ m ih =>
    intro B listed ε F hm hI hA hd hnd hfin hS H
    obtain ⟨b, hb⟩ : ∃ b, b ∈ B.map (·.1) := by
      cases B with
      | nil => simp at hm
      | cons s r => exact ⟨s.1, by simp⟩
    refine ⟨fun h => absurd h (hI.some hb), fun i hi => ?_⟩
    obtain ⟨⟨i', d, P⟩, hs, rfl⟩ := List.mem_map.1 (hI.inB hb hi)
    obtain ⟨B1, B2, rfl⟩ := List.append_of_mem hs
    obtain ⟨o, h1, h2, h3, h4, h5, h6⟩ := hA _ hs
    simp only at h1 h2 h6 hi
    have hmap : (B1 ++ (i', d, P) :: B2).map (·.1) = B1.map (·.1) ++ i' :: B2.map (·.1) := by simp
    have hmap2 : (B1 ++ (i', d, P) :: B2).map (·.2.1) = B1.map (·.2.1) ++ d :: B2.map (·.2.1) := by simp
    rw [hmap] at hI
    rw [hmap2] at hnd
    have hnd2 := (List.perm_middle (a := d) (l₁ := B1.map (·.2.1)) (l₂ := B2.map (·.2.1))).nodup_iff.1 hnd
    have hdn : ∀ s ∈ B1 ++ B2, s.2.1 ≠ d := fun s hs' e => (List.nodup_cons.1 hnd2).1 (by rw [← List.map_append]; exact List.mem_map.2 ⟨s, hs', e⟩)
    have hsub : ∀ s ∈ B1 ++ B2, s ∈ B1 ++ (i', d, P) :: B2 := fun s hs' => by
      rcases List.mem_append.1 hs' with h' | h'
      · exact List.mem_append_left _ h'
      · exact List.mem_append_right _ (List.mem_cons_of_mem _ h')
    refine ⟨o, h1, h3, h4, .inl ⟨by unfold wantε; rw [h5], fun e he => ?_⟩⟩
    have hKp : ∀ ε F F', F'.Perm F → anyT x ops (Keeps L) K fuel fin ε F' → anyT x ops (Keeps L) K fuel fin ε F := fun ε F F' p => anyT_perm (fun _ _ p => Keeps.perm p) hK fuel fin ε F F' p
    refine (h6 e he F).mono fun v F' ⟨A, F'', hp, hv, hF⟩ => ?_
    subst hF
    have hS' : Keeps L F' := Keeps.perm hp fun q hq => List.mem_append_right _ (hS q hq)
    refine ⟨.inr hS', ?_⟩
    rw [h2]
    refine anyT_perm (fun _ _ p => Keeps.perm p) hK _ _ _ _ _ hp ?_
    refine ih (B1 ++ B2) _ _ _ (by simp at hm ⊢; omega) (by rw [List.map_append]; exact hI.step hi) (fun s hs' => ?_) (fun s hs' => ?_) (by rw [List.map_append]; exact (List.nodup_cons.1 hnd2).2) (fun k => ?_) (fun q hq => List.mem_append_right _ (hS q hq)) (bagK_pull hKp (fun s hs' => hdn s (List.mem_append_left _ hs')) H v A hv)
    · obtain ⟨o', a1, a2, a3, a4, a5, a6⟩ := hA s (hsub s hs')
      exact ⟨o', a1, a2, a3, a4, a5, fun e he F => a6 e (he.back (hd _ hs)) F⟩
    · have hne := hdn s hs'
      have hb : Nat.beq s.2.1 d = false := by cases hb : Nat.beq s.2.1 d with | false => rfl | true => exact absurd (Nat.eq_of_beq_eq_true hb) hne
      simp only [upd, hb, cond_false]
      exact hd s (hsub s hs')
    · rw [hfin k, testBit_or, hmap, List.map_append]
      by_cases e : i' = k
      · subst e; simp
      · have : k ≠ i' := fun h => e h.symm
        rw [decide_eq_false e, Bool.or_false]
        congr 1
        exact decide_eq_decide.2 (by simp only [List.mem_append, List.mem_cons, this, false_or])

section rules
variable {x : Cx} {Q : Post} {ρ : Env} {ds : List Deferred} {F : Frag} {ops : Array Oper} {L : Frag} {fuel listed : Nat}
def bagA : List Spc → (Env → Frag → Prop) → Env → Frag → Prop
  | [], K, ρ, F => K ρ F
  | (_, d, P) :: r, K, ρ, F => ∀ v A, P v A → bagA r K ((d, v) :: ρ) (A ++ F)
theorem bagA_K {K : Ev → Frag → Prop} : ∀ {B : List Spc} {ρ : Env} {F : Frag}, bagA B (fun ρ F => K (look ρ) F) ρ F → bagK B K (look ρ) F
  | [], _, _, h => h
  | (_, d, P) :: r, ρ, F, h => fun v A hv => by
    have := bagA_K (h v A hv)
    rw [upd_look]
    exact this
def bitsB : List Spc → Nat → Nat
  | [], n => n
  | s :: r, n => bitsB r (n ||| 2 ^ s.1)
theorem bitsB_spec : ∀ {B : List Spc} {n k : Nat}, (bitsB B n).testBit k = (n.testBit k || decide (k ∈ B.map (·.1)))
  | [], n, k => by simp [bitsB]
  | s :: r, n, k => by
    rw [bitsB, bitsB_spec, testBit_or]
    by_cases e : s.1 = k
    · subst e; simp
    · have : k ≠ s.1 := fun h => e h.symm
      rw [decide_eq_false e, Bool.or_false]
      congr 1
      exact decide_eq_decide.2 (by simp only [List.map_cons, List.mem_cons, this, false_or])
/-- ████ Operations that only add, in whatever order. -/
theorem Any.bag {B : List Spc} {m : Nat} (hA : ∀ s ∈ B, Adds x ops (look ρ) s) (H : bagA B (fun ρ F => Any x ops L fuel (bitsB B listed) Q ρ ds F) ρ F) (hS : Keeps L F) (hm : B.length = m) (hd : ∀ s ∈ B, look ρ s.2.1 = none) (hT : bagT ops listed (B.map (·.1)) = true) (hn : (B.map (·.1)).Nodup) (hn2 : (B.map (·.2.1)).Nodup) : Any x ops L (fuel + m) listed Q ρ ds F := by
  unfold Any at H ⊢
  exact anyT_bag (fun _ _ _ p ⟨ρ, F', h1, h2, h3⟩ => ⟨ρ, F', h1, h2.trans (.of_perm p), h3⟩) m B listed _ F hm (bagT_spec hT hn) hA hd hn2 (fun k => bitsB_spec) hS (bagA_K H)

theorem Adds.of {i d : Nat} {P : Value → Frag → Prop} {op : Op} {ty : TypeId} {pos : String} {aft : Array Edge} (ho : nthO ops.toList i = some ⟨some d, op, ty, pos, aft, none⟩) (hd : Nat.blt d x.n = true) (hn : noDefer op = true) (H : ∀ F, Ef x ρ ⟨some d, op, ty, pos, aft, none⟩ F fun v F' => ∃ A, P v A ∧ F' = A ++ F) : Adds x ops (look ρ) (i, d, P) :=
  ⟨_, nthO_get ho, rfl, hd, noDefer_spec hn, rfl, fun e he F => (H F e fun y v hy => he y v (by rw [ev_look]; exact hy)).mono fun v F' ⟨F'', p, A, hv, e⟩ => ⟨A, F'', p, hv, e⟩⟩
theorem Adds.call {i d f : Nat} {P : Value → Frag → Prop} {args : List Operand} {ts : Array TypeId} {vs : List Value} {ty : TypeId} {pos : String} {aft : Array Edge} (H : ∀ h', Ext x.h h' → Fnc x.P x.main f vs.toArray h' [] P) (ho : nthO ops.toList i = some ⟨some d, .call ⟨.value (.func f), args.toArray, ts⟩, ty, pos, aft, none⟩ := by rfl) [FB x.P f] (hv : evs ρ args = some vs := by rfl) (hd : Nat.blt d x.n = true := by rfl) : Adds x ops (look ρ) (i, d, P) :=
  .of ho hd rfl fun F => e_call0 rfl hv (fun h' hE _ => H h' hE) fun v A' hv => ⟨A', hv, rfl⟩
def NewP (t : TypeId) (zc : Array Value) (v : Value) (A : Frag) : Prop := ∃ β, v = .pointer (some ⟨β, 0, none⟩) ∧ A = [(β, .cells zc t (0, 0))]
theorem Adds.new {i d t s b : Nat} {z : Value} {zc : Array Value} {ty : TypeId} {pos : String} {aft : Array Edge} (ho : nthO ops.toList i = some ⟨some d, .alloc t, ty, pos, aft, none⟩ := by rfl) [TI x.P t s b z zc] (hd : Nat.blt d x.n = true := by rfl) : Adds x ops (look ρ) (i, d, NewP t zc) :=
  .of ho hd rfl fun F => e_alloc rfl fun β _ _ => ⟨_, ⟨β, rfl, rfl⟩, rfl⟩
end rules
end Go.Mus
namespace Go.Mus
section
variable {α : Type} {row : α → List Value} {w : Nat} [rw' : Rw row w]
theorem tr_appendOver {P : Program} {h : Hp} {t t' ty E E' by' : Nat} {z : Value} {zc : Array Value} [TD P t (.slice E)] [TD P t' (.slice E')] [TI P E w by' z zc] {β cap s : Nat} {l : List α} {A : Frag} {Q : Value → Frag → Prop}
    (hs : Os E row (.slice (some ⟨β, 0, none⟩) l.length cap) l A) (hk : s < l.length)
    (K : ∀ A', Os E row (.slice (some ⟨β, 0, none⟩) (l.length - 1) cap) (l.take s ++ l.drop (s + 1)) A' → Q (.slice (some ⟨β, 0, none⟩) (l.length - 1) cap) A') :
    tr P h (Builtin.append_ #[t, t'] ty #[.slice (some ⟨β, 0, none⟩) s cap, .slice (if cap = s + 1 then some ⟨β, 0, none⟩ else (some (⟨β, 0, none⟩ : Addr)).map (·.add ((s + 1) * w))) (l.length - (s + 1)) (cap - (s + 1))]) A Q := by
  rcases hs with ⟨hl, _, _⟩ | ⟨β', c, cap', J, he, rfl, h1, h2, h3, hsh⟩
  · rw [hl] at hk; simp at hk
  obtain ⟨rfl, rfl⟩ : β = β' ∧ cap = cap' := by injection he with e1 e2 e3; injection e1 with e1; injection e1 with e1; exact ⟨e1, e3⟩
  generalize hb : (if cap = s + 1 then some ⟨β, 0, none⟩ else (some (⟨β, 0, none⟩ : Addr)).map (·.add ((s + 1) * w)) : Option Addr) = b
  have e1 : (#[t, t'] : Array TypeId)[0]? = some t := rfl
  have e2 : (#[t, t'] : Array TypeId)[1]? = some t' := rfl
  have e3 : (#[Value.slice (some ⟨β, 0, none⟩) s cap, Value.slice b (l.length - (s + 1)) (cap - (s + 1))] : Array Value)[0]? = some (.slice (some ⟨β, 0, none⟩) s cap) := rfl
  have e4 : (#[Value.slice (some ⟨β, 0, none⟩) s cap, Value.slice b (l.length - (s + 1)) (cap - (s + 1))] : Array Value)[1]? = some (.slice b (l.length - (s + 1)) (cap - (s + 1))) := rfl
  have hc : s + (l.length - (s + 1)) ≤ cap := by omega
  have hd : (l.drop (s + 1)).length = l.length - (s + 1) := List.length_drop ..
  have hfl := flat_len (row := row) (l.drop (s + 1))
  have hft := flat_len (row := row) (l.take s)
  have hft' : (l.take s).length = s := by simp; omega
  have hsp : flat row l = flat row (l.take (s + 1)) ++ flat row (l.drop (s + 1)) := by rw [← flat_app, List.take_append_drop]
  have hfs := flat_len (row := row) (l.take (s + 1))
  have hfs' : (l.take (s + 1)).length = s + 1 := by simp; omega
  rw [hd] at hfl
  rw [hft'] at hft
  rw [hfs'] at hfs
  have hcw : l.length * w ≤ c.size := by rw [h1]; exact Nat.mul_le_mul_right _ h2
  have hmul : (s + 1) * w + (l.length - (s + 1)) * w = l.length * w := by rw [← Nat.add_mul]; congr 1; omega
  have hmul2 : s * w + (l.length - (s + 1)) * w ≤ l.length * w := by rw [← Nat.add_mul]; exact Nat.mul_le_mul_right _ (by omega)
  simp only [Builtin.append_, e1, e2, e3, e4, bind_eq, pure_eq, bind_assoc, bind_pure, trb_underlying, trb_sizeOf, Bool.false_eq_true, if_false, Builtin.lenOf, Bool.not_false, if_true]
  rw [if_pos hc]
  have hread : ∀ {Q' : Array Value → Frag → Prop}, Q' (flat row (l.drop (s + 1))).toArray ((β, .cells c E (0, 0)) :: J) → tr P h (Builtin.firstCells w (l.length - (s + 1)) (.slice b (l.length - (s + 1)) (cap - (s + 1)))) ((β, .cells c E (0, 0)) :: J) Q' := by
    intro Q' H
    by_cases h0 : l.length - (s + 1) = 0
    · have hnil : flat row (l.drop (s + 1)) = [] := List.eq_nil_of_length_eq_zero (by rw [hfl, h0, Nat.zero_mul])
      rw [hnil] at H
      rw [h0]
      cases b with
      | none => exact H
      | some b => simp only [Builtin.firstCells, Nat.zero_mul, loadCells, loadCellsFrom]; exact H
    · have hbe : b = some ⟨β, (s + 1) * w, none⟩ := by
        rw [← hb, if_neg (by omega)]
        simp [add_spot]
      subst hbe
      have hp := h3
      rw [hsp] at hp
      have hp2 : Part c (0 + (flat row (l.take (s + 1))).length) (flat row (l.drop (s + 1))) := by
        have : Part c 0 (flat row (l.take (s + 1)) ++ (flat row (l.drop (s + 1)) ++ [])) := by rw [List.append_nil]; exact hp
        exact this.sub
      rw [hfs, Nat.zero_add] at hp2
      have h7 := hp2.extract
      rw [hfl] at h7
      simp only [Builtin.firstCells, loadCells]
      refine tr_loadCellsFrom (.inr (List.mem_cons_self ..)) _ 0 #[] (by omega) ?_
      simp only [Nat.add_zero, Array.empty_append]
      rw [h7]; exact H
  refine tr_bind (hread ?_)
  have ea : (⟨β, 0, none⟩ : Addr).add (s * w) = ⟨β, s * w, none⟩ := by rw [add_spot rfl]; simp
  simp only [ea]
  refine tr_bind (tr_storeCells (flat row (l.drop (s + 1))) 0 c (flat_ones _) At.head (by rw [hfl]; simp; omega) ?_)
  have hlen : s + (l.length - (s + 1)) = l.length - 1 := by omega
  rw [hlen]
  refine K _ (.inr ⟨β, putAll c (s * w) (flat row (l.drop (s + 1))), cap, J, by rw [List.length_append, hft', hd, hlen], by simp, by rw [putAll_size, h1], by rw [List.length_append, hft', hd]; omega, ?_, hsh⟩)
  rw [flat_app, ← hft]
  have hp : Part c 0 (flat row (l.take s)) := by
    have h4 := h3
    rw [show flat row l = flat row (l.take s) ++ flat row (l.drop s) by rw [← flat_app, List.take_append_drop]] at h4
    have h5 : Part c 0 ([] ++ (flat row (l.take s) ++ flat row (l.drop s))) := h4
    exact h5.sub
  have := putAll_part (flat row (l.drop (s + 1))) c hp (by rw [hft, hfl]; omega)
  exact this
section
variable {x : Cx} {ρ : Env} {F : Frag} {o : Oper} {R : Value → Frag → Prop}
theorem e_appendOver {t t' E E' by' : Nat} {z : Value} {zc : Array Value} {y yx : Operand} {β cap s : Nat} {l : List α} {A : Frag} {U : Frag → Frag} (ho : o.op = .call ⟨.builtin .append, #[y, yx], #[t, t']⟩) [TD x.P t (.slice E)] [TD x.P t' (.slice E')] [TI x.P E w by' z zc]
    (hy : ev ρ y = some (.slice (some ⟨β, 0, none⟩) s cap)) (hx : ev ρ yx = some (.slice (if cap = s + 1 then some ⟨β, 0, none⟩ else (some (⟨β, 0, none⟩ : Addr)).map (·.add ((s + 1) * w))) (l.length - (s + 1)) (cap - (s + 1)))) (hs : Os E row (.slice (some ⟨β, 0, none⟩) l.length cap) l A) (hk : s < l.length) (hg : Seg A F U)
    (K : ∀ A', Os E row (.slice (some ⟨β, 0, none⟩) (l.length - 1) cap) (l.take s ++ l.drop (s + 1)) A' → R (.slice (some ⟨β, 0, none⟩) (l.length - 1) cap) (U A')) : Ef x ρ o F R := fun e he =>
  ⟨A, U [], hg.perm.1, fun h' e1 e2 => by
    simp only [execOp, ho, resolve, invoke, builtin, List.map_toArray, List.map_cons, List.map_nil, he y _ hy, he yx _ hx, bind_eq, pure_eq, bind_pure]
    exact tr_bind (tr_appendOver hs hk fun A' H => ⟨U A', hg.perm.2 A', K A' H⟩)⟩
end
end
section
variable {x : Cx} {S : Frag → Prop} {ρ : Env} {o : Oper}
/-- The rest of a slice. -/
theorem y_sliceLo {t E s by' : Nat} {z : Value} {zc : Array Value} {y lo : Operand} {a : Option Addr} {k : IntKind} {l cap m : Nat} (ho : o.op = .slice t y (some lo) none none) [TD x.P t (.slice E)] [TI x.P E s by' z zc] (hy : ev ρ y = some (.slice a l cap)) (hh : ev ρ lo = some (.int k (m : Int))) (hm : m ≤ l := by omega) : Yv x S ρ o (.slice (if cap = m then a else a.map (·.add (m * s))) (l - m) (cap - m)) := fun e he F hF h' hE => by
  have e1 : (0 : Int) ≤ m ∧ (m : Int) ≤ l := by omega
  simp only [execOp, ho, he y _ hy, he lo _ hh, Instr.sliceAt, Instr.slice, Instr.sliceBounds, Instr.sliceBound, asIntOf, bind_eq, pure_eq, bind_assoc, bind_pure, Option.map_none, Option.map_some, trb_underlying, trb_sizeOf, if_pos e1, Int.toNat_natCast]
  exact ⟨rfl, rfl⟩
end
end Go.Mus
namespace Go.Mus
section
variable {x : Cx} {Q : Post} {ρ : Env} {ds : List Deferred} {ops : Array Oper} {G : Frag} {y₁ y₂ y₃ y₄ y₅ y₆ : Nat × Obj} {id n : Nat}
theorem W.drawP4 (hn : ops.size = n) (H : Any x ops [y₁, y₂, y₃, y₄] n 0 Q ρ ds (y₁ :: y₂ :: y₃ :: y₄ :: G)) [MO x.P] : W x (.region id ops true) Q ρ ds (y₁ :: y₂ :: y₃ :: y₄ :: G) := W.drawL _ hn H
theorem W.drawP5 (hn : ops.size = n) (H : Any x ops [y₁, y₂, y₃, y₄, y₅] n 0 Q ρ ds (y₁ :: y₂ :: y₃ :: y₄ :: y₅ :: G)) [MO x.P] : W x (.region id ops true) Q ρ ds (y₁ :: y₂ :: y₃ :: y₄ :: y₅ :: G) := W.drawL _ hn H
theorem W.drawP6 (hn : ops.size = n) (H : Any x ops [y₁, y₂, y₃, y₄, y₅, y₆] n 0 Q ρ ds (y₁ :: y₂ :: y₃ :: y₄ :: y₅ :: y₆ :: G)) [MO x.P] : W x (.region id ops true) Q ρ ds (y₁ :: y₂ :: y₃ :: y₄ :: y₅ :: y₆ :: G) := W.drawL _ hn H
end
/-- The same, in another order. -/
theorem perm_cnt {α : Type} {l l' : List α} (h : ∀ [DecidableEq α] (a : α), l.count a = l'.count a) : l.Perm l' := by
  classical
  exact List.perm_iff_count.2 fun a => h a
end Go.Mus
namespace Go.Mus
/-- A slice of one's own is put by, wherever it stands. -/
theorem freezeAt {x : Cx} {c : Code} {Q : Post} {ρ : Env} {ds : List Deferred} {A F : Frag} {U : Frag → Frag} {α : Type} {row : α → List Value} {w : Nat} [Rw row w] {E : TypeId} {v : Value} {l : List α} (hs : Os E row v l A) (hg : Seg A F U)
    (H : ∀ h', Ext x.h h' → Sl h' row v l → Zs h' v → W { x with h := h' } c Q ρ ds (U [])) : W x c Q ρ ds F :=
  W.perm hg.perm.1 (freezeOs hs H)
theorem Sb.app1 {A G : Frag} {y : Nat × Obj} (h : Sb [y] A) : Sb (y :: G) (A ++ G) := h.app .refl
theorem Os.open {α : Type} {row : α → List Value} {w : Nat} [Rw row w] {E : TypeId} {a : Option Addr} {n cap : Nat} {l : List α} {A : Frag} (h : Os E row (.slice a n cap) l A) (hne : 0 < l.length) : ∃ β c J, a = some ⟨β, 0, none⟩ ∧ A = (β, .cells c E (0, 0)) :: J ∧ n = l.length ∧ c.size = cap * w ∧ l.length ≤ cap ∧ Part c 0 (flat row l) ∧ Shut J := by
  rcases h with ⟨rfl, _, _⟩ | ⟨β, c, cp, J, hv, rfl, h1, h2, h3, h4⟩
  · simp at hne
  · injection hv with e1 e2 e3
    subst e1 e2 e3
    exact ⟨β, c, J, rfl, rfl, rfl, h1, h2, h3, h4⟩
end Go.Mus

/- Plants a little changed. Conditions: none. -/
namespace Go.Mus

theorem ckStrikes_low : ∀ {ss : List St} {b b' : Int}, ckStrikes b ss = 0 → b' ≤ b → ckStrikes b' ss = 0
  | [], _, _, _, _ => rfl
  | s :: r, b, b', h, hle => by
    simp only [ckStrikes] at h ⊢
    split at h
    · rename_i hc
      have hs := ckStrike0 hc
      have hc' : ckStrike b' s = 0 := by
        unfold ckStrike outs
        rw [if_neg (by omega), if_neg (by omega)]
      rw [if_pos hc']; exact h
    · rename_i hc; exact absurd h hc
theorem ckStrikes_del : ∀ {ss : List St} {b : Int} {s : Nat}, ckStrikes b ss = 0 → ckStrikes b (ss.take s ++ ss.drop (s + 1)) = 0
  | [], b, s, _ => by simp [ckStrikes]
  | t :: r, b, 0, h => by
    simp only [ckStrikes] at h
    split at h
    · rename_i hc
      have hs := ckStrike0 hc
      exact ckStrikes_low (by simpa using h) (by omega)
    · rename_i hc; exact absurd h hc
  | t :: r, b, s + 1, h => by
    simp only [List.take_succ_cons, List.drop_succ_cons, List.cons_append, ckStrikes] at h ⊢
    split at h
    · rename_i hc; rw [if_pos hc]; exact ckStrikes_del h
    · rename_i hc; exact absurd h hc
theorem ckPlant_del {fs : List Fl} {ss : List St} {s : Nat} (h : ckPlant fs ss = 0) : ckPlant fs (delS ss s) = 0 := by
  obtain ⟨h1, h2, h3, h4, h5⟩ := ckPlant0 h
  exact ckPlant_mk (by omega) h2 h4 (by simp [delS]; omega) (ckStrikes_del h5)
theorem ckStrikes_wait : ∀ {ss : List St} {b : Int} {s : Nat} {t : St} {w : Int}, ckStrikes b ss = 0 → ss[s]? = some t → 0 ≤ w → w ≤ 3 → ckStrikes b (ss.set s ⟨t.day, t.co, w⟩) = 0
  | [], b, s, t, w, _, h, _, _ => by simp at h
  | u :: r, b, 0, t, w, h, ht, h0, h3 => by
    obtain rfl : u = t := by simpa using ht
    simp only [List.set_cons_zero, ckStrikes] at h ⊢
    split at h
    · rename_i hc
      have hs := ckStrike0 hc
      have hc' : ckStrike b ⟨u.day, u.co, w⟩ = 0 := by
        unfold ckStrike outs
        rw [if_neg (by simp only; omega), if_neg (by simp only; omega)]
      rw [if_pos hc']; exact h
    · rename_i hc; exact absurd h hc
  | u :: r, b, s + 1, t, w, h, ht, h0, h3 => by
    simp only [List.set_cons_succ, ckStrikes] at h ⊢
    split at h
    · rename_i hc; rw [if_pos hc]; exact ckStrikes_wait h (by simpa using ht) h0 h3
    · rename_i hc; exact absurd h hc
theorem ckPlant_wt {fs : List Fl} {ss : List St} {s : Nat} {t : St} {w : Int} (h : ckPlant fs ss = 0) (ht : ss[s]? = some t) (h0 : 0 ≤ w) (h3 : w ≤ 3) : ckPlant fs (ss.set s ⟨t.day, t.co, w⟩) = 0 := by
  obtain ⟨h1, h2, h3', h4, h5⟩ := ckPlant0 h
  exact ckPlant_mk (by omega) h2 h4 (by simpa using h3') (ckStrikes_wait h5 ht h0 h3)
/-- A strike that may wait a day more. -/
theorem more_wait {fs : List Fl} {ss : List St} {s : Nat} {t : St} {w : Int} (h : ckPlant fs ss = 0) (ht : ss[s]? = some t) (h0 : t.wa ≤ w) (h3 : w ≤ 3) : ckPlant fs (ss.set s ⟨t.day, t.co, w⟩) = 0 ∧ (bestF fs ss).1 ≤ (bestF fs (ss.set s ⟨t.day, t.co, w⟩)).1 := by
  have hs := strike_ok h ht
  have hck := ckPlant_wt h ht (by omega) h3
  refine ⟨hck, best_wait (hall_ck h) (hall_ck hck) (by simp) fun i => ?_⟩
  have hlt := lt_of_get ht
  by_cases e : i = s
  · subst e
    have e1 : stAt ss i = t := by simp [stAt, List.getD, ht]
    have e2 : stAt (ss.set i ⟨t.day, t.co, w⟩) i = ⟨t.day, t.co, w⟩ := by simp [stAt, List.getD, List.getElem?_set_self hlt]
    rw [e1, e2]
    exact ⟨rfl, rfl, h0⟩
  · have e2 : stAt (ss.set s ⟨t.day, t.co, w⟩) i = stAt ss i := by simp [stAt, List.getD, List.getElem?_set_ne (Ne.symm e)]
    rw [e2]
    exact ⟨rfl, rfl, Int.le_refl _⟩
theorem ckFloor_at {fs : List Fl} {ss : List St} {i : Nat} {x : Fl} (h : ckPlant fs ss = 0) (hx : fs[i]? = some x) : 1 ≤ x.pl ∧ x.pl ≤ 9 ∧ 1 ≤ x.lo ∧ x.lo ≤ x.hi ∧ x.hi ≤ 6 ∧ 0 ≤ x.co ∧ x.co ≤ 9 := (hall_ck h).fl x (List.mem_of_getElem? hx)
/-- A floor on which more is right. -/
theorem more_floor {fs : List Fl} {ss : List St} {i : Nat} {g x : Fl} (h : ckPlant fs ss = 0) (hx : fs[i]? = some x) (hg : 1 ≤ g.pl ∧ g.pl ≤ 9 ∧ 1 ≤ g.lo ∧ g.lo ≤ g.hi ∧ g.hi ≤ 6 ∧ 0 ≤ g.co ∧ g.co ≤ 9) (h1 : x.pl ≤ g.pl) (h2 : g.hi ≤ x.hi) (h3 : x.lo + x.co ≤ g.lo + g.co) : ckPlant (fs.set i g) ss = 0 ∧ (bestF fs ss).1 ≤ (bestF (fs.set i g) ss).1 := by
  have hck : ckPlant (fs.set i g) ss = 0 := ckPlant_fl h (ckFloor_ok (by omega) (by omega) (by omega) (by omega))
  exact ⟨hck, best_easier (hall_ck h) (hall_ck hck) (easier_set hx h1 h2 h3)⟩
theorem less_best {fs : List Fl} {ss : List St} {s : Nat} (h : ckPlant fs ss = 0) (hs : s < ss.length) : ckPlant fs (delS ss s) = 0 ∧ (bestF fs (delS ss s)).1 ≤ (bestF fs ss).1 :=
  ⟨ckPlant_del h, best_less (hall_ck h) (hall_ck (ckPlant_del h)) hs⟩
end Go.Mus
