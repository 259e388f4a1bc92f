/- Slices of structs of numbers, as they are handed in. Conditions: none; over any program. (And 5 texts more.) -/
import Derived.Test.YtnffnndmilpnoaaGreatDoorFloorNeedsQ1
import Derived.Test.YtnffnndmilpnoaaGreatDoorR06
import Derived.Test.YtnffnndmilpnoaaGreatDoorFloorNeedsQ2
set_option linter.unusedVariables false
set_option linter.unusedSimpArgs false
set_option linter.unusedSectionVars false

/- Slices of structs of numbers, as they are handed in. Conditions: none; over any program. -/
namespace Go.Mus
/-- A type whose reading is w numbers. -/
def RowT (P : Program) (t : TypeId) (w : Nat) : Prop := P.cellsOf t = w ∧ ∀ {H : Type} {enc : TypeId × Value → H} {W : World} {base : Nat} {spare : Nat → Bool} {held : Bool} {fuel : Nat} {cs : List Value} {x : DataW H × List MemPlace}, DataW.trod enc P W base spare held fuel t cs = some x → ∃ ns : List Int, cs = ns.map nI ∧ ns.length = w
theorem RowT.int {P : Program} {t : TypeId} (ht : P.underlying t = some (.int .i64)) (hc : P.cellsOf t = 1) : RowT P t 1 := ⟨hc, fun h => by
 obtain ⟨n, rfl, -, -⟩ := DataW.trod_int ht h
 exact ⟨[n], rfl, rfl⟩⟩
def LayR (P : Program) : List Field → List Nat → Nat → Prop
 | [], [], _ => True
 | f :: fs, w :: ws, o => f.offset = o ∧ RowT P f.type w ∧ LayR P fs ws (o + w)
 | _, _, _ => False
theorem layR_run {P : Program} {H : Type} {enc : TypeId × Value → H} {W : World} {base : Nat} {spare : Nat → Bool} {held : Bool} {n : Nat} {cs : List Value} : ∀ (fs : List Field) (ws : List Nat) (o : Nat), LayR P fs ws o → (∀ f ∈ fs, ∃ x, DataW.trod enc P W base spare held n f.type ((cs.drop f.offset).take (P.cellsOf f.type)) = some x) → o + ws.sum = cs.length → ∃ ns : List Int, cs.drop o = ns.map nI ∧ ns.length = ws.sum
 | [], [], o, _, _, hl => ⟨[], by simp at hl; simp; omega, rfl⟩
 | f :: fs, w :: ws, o, ⟨ho, ⟨hc, hr⟩, hrest⟩, hx, hl => by
  obtain ⟨x, h1⟩ := hx f (List.mem_cons_self ..)
  obtain ⟨ns, h2, h3⟩ := hr h1
  rw [List.sum_cons] at hl
  obtain ⟨ms, h4, h5⟩ := layR_run fs ws (o + w) hrest (fun g hg => hx g (List.mem_cons_of_mem _ hg)) (by omega)
  subst ho
  rw [hc] at h2
  refine ⟨ns ++ ms, ?_, by rw [List.length_append, h3, h5, List.sum_cons]⟩
  rw [List.map_append, ← h2, ← h4, ← List.drop_drop, List.take_append_drop]
 | [], _ :: _, _, h, _, _ => h.elim
 | _ :: _, [], _, h, _, _ => h.elim
theorem RowT.struct {P : Program} {t : TypeId} {fs : Array Field} {ws : List Nat} (ht : P.underlying t = some (.struct fs)) (hl : LayR P fs.toList ws 0) (hc : P.cellsOf t = ws.sum) : RowT P t ws.sum := ⟨hc, fun {H enc W base spare held fuel cs x} h => by
 obtain ⟨xs, n, -, -, h1, h2, h3⟩ := DataW.trod_struct ht h
 have := layR_run (cs := cs) fs.toList ws 0 hl (fun f hf => by
  obtain ⟨i, hi⟩ := List.mem_iff_getElem?.1 hf
  have hi' : fs[i]? = some f := by simpa using hi
  have hlt : i < xs.length := by
   rw [h2]
   rcases Nat.lt_or_ge i fs.size with h | h
   ·exact h
   ·rw [Array.getElem?_eq_none h] at hi'; cases hi'
  exact ⟨xs[i], by rw [h3 i f hi', List.getElem?_eq_getElem hlt]⟩) (by omega)
 simpa using this⟩
/-- A value of such a type. -/
theorem RowT.val {P : Program} {t w : Nat} (R : RowT P t w) {H : Type} {enc : TypeId × Value → H} {W : World} {base : Nat} {spare : Nat → Bool} {held : Bool} {v : Value} {d : DataW H} {ps : List MemPlace} (h : DataW.Trod enc P W base spare held t v d ps) : ∃ ns : List Int, v.cells.toList = ns.map nI ∧ ns.length = w := by
 obtain ⟨fuel, h⟩ := h
 exact R.2 h

theorem cells_some {W : World} {base n : Nat} {a : Addr} {cs : List Value} (h : W.cells? base a n = some cs) : cs.length = n ∧ ∀ i, i < n → W.cell? (a.add i) = cs[i]? := by
 unfold World.cells? at h
 split at h
 ·have h1 := mapM_some_length h
  rw [List.length_range] at h1
  exact ⟨h1, fun i hi => mapM_some_get h i i (by simp [hi])⟩
 ·cases h
/-- ████ A SLICE OF SUCH A TYPE. -/
theorem RowT.slice {P : Program} {e t w : Nat} (R : RowT P e w) (hw : 0 < w) {α : Type} {row : α → List Value} [Rw row w] (mk : ∀ ns : List Int, ns.length = w → ∃ p : α, row p = ns.map nI) (ht : P.underlying t = some (.slice e)) {H : Type} {enc : TypeId × Value → H} {W : World} {base : Nat} {spare : Nat → Bool} {held : Bool} {v : Value} {fuel : Nat} {x : DataW H × List MemPlace} (hf : DataW.trod enc P W base spare held fuel t [v] = some x) : ∃ l : List α, Sl (atStart W) row v l := by
 rcases DataW.trod_slice ht hf with ⟨hcs, -⟩ | ⟨a, len, cap, elems, rest, n, -, hcs, -, hb, hle, hm, hlen, hel, -, -⟩
 ·obtain rfl : v = .slice none 0 0 := by simpa using hcs
  exact ⟨[], .nil⟩
 ·obtain rfl : v = .slice (some a) len cap := by simpa using hcs
  rw [R.1] at hel
  have each : ∀ i, i < len → ∃ p : α, ∀ j, j < w → W.cell? ((a.add (i * w)).add j) = (row p)[j]? := fun i hi => by
   have h1 := hel i hi
   rw [List.getElem?_eq_getElem (by omega), Option.bind_eq_some_iff] at h1
   obtain ⟨cs, h2, h3⟩ := h1
   obtain ⟨ns, rfl, h4⟩ := R.2 h3
   obtain ⟨p, hp⟩ := mk ns h4
   refine ⟨p, fun j hj => ?_⟩
   rw [(cells_some h2).2 j hj, hp]
  have all : ∀ m, m ≤ len → ∃ l : List α, l.length = m ∧ ∀ i p, l[i]? = some p → ∀ j, j < w → W.cell? ((a.add (i * w)).add j) = (row p)[j]? := by
   intro m
   induction m with
   | zero => intro _; exact ⟨[], rfl, fun i p hp => by simp at hp⟩
   | succ m ih =>
    intro hm
    obtain ⟨l, h1, h2⟩ := ih (by omega)
    obtain ⟨p, hp⟩ := each m (by omega)
    refine ⟨l ++ [p], by simp [h1], fun i q hq => ?_⟩
    rcases Nat.lt_or_ge i l.length with h | h
    ·rw [List.getElem?_append_left h] at hq; exact h2 i q hq
    ·have hlt := lt_of_get hq
     simp at hlt
     have : i = m := by omega
     subst this
     rw [List.getElem?_append_right h, show i - l.length = 0 by omega] at hq
     simp at hq
     subst hq
     exact hp
  obtain ⟨l, hl, hc⟩ := all len (Nat.le_refl _)
  refine ⟨l, some a, cap, by rw [hl], fun hne => ?_⟩
  have hpos : 0 < len := by
   rcases Nat.eq_zero_or_pos len with h | h
   ·subst h; exact absurd (List.eq_nil_of_length_eq_zero hl) hne
   ·exact h
  obtain ⟨b, off, spot⟩ := a
  have hsp : spot = none := by
   obtain ⟨p, hp, -⟩ := has (show 0 < l.length by omega)
   have h0 := hc 0 p hp 0 hw
   have hrw : (row p).length = w := Rw.len p
   rw [List.getElem?_eq_getElem (by omega)] at h0
   cases hs : spot with
   | none => rfl
   | some s =>
    subst hs
    exfalso
    simp only [Nat.zero_mul, World.cell?, Addr.add, if_true] at h0
    split at h0
    ·simp at h0
    ·cases h0
  subst hsp
  have cell : ∀ k, k < (flat row l).length → ∃ c E fz, W.heap[b]? = some (.cells c E fz) ∧ c[off + k]? = (flat row l)[k]? := fun k hk => by
   rw [flat_len] at hk
   have hi : k / w < l.length := Nat.div_lt_of_lt_mul (by rw [Nat.mul_comm]; exact hk)
   have hj : k % w < w := Nat.mod_lt _ hw
   obtain ⟨p, hp, -⟩ := has hi
   have h1 := hc _ p hp _ hj
   have hrw : (row p).length = w := Rw.len p
   have e1 : k / w * w + k % w = k := Nat.div_add_mod' k w
   have h2 : (flat row l)[k]? = (row p)[k % w]? := by
    have hP : Part (flat row l).toArray 0 (flat row l) := Part.all _
    have h3 := hP.rowG hp (k % w) hj
    rw [Nat.zero_add, e1] at h3
    simpa using h3
   have ea : ((⟨b, off, none⟩ : Addr).add (k / w * w)).add (k % w) = ⟨b, off + k, none⟩ := by
    have e2 : (⟨b, off, none⟩ : Addr).add (k / w * w) = ⟨b, off + k / w * w, none⟩ := add_spot rfl _
    rw [e2, add_spot rfl]
    simp only [Addr.mk.injEq, true_and, and_true]
    omega
   rw [ea] at h1
   rw [h2]
   rw [List.getElem?_eq_getElem (show k % w < (row p).length by omega)] at h1 ⊢
   simp only [World.cell?] at h1
   split at h1
   ·rename_i c E fz hb
    exact ⟨c, E, fz, hb, by simpa using h1⟩
   ·cases h1
  have hfl := flat_len (row := row) l
  have hpos2 : 0 < (flat row l).length := by rw [hfl]; exact Nat.mul_pos (by omega) hw
  obtain ⟨c, E, fz, hb', h0⟩ := cell 0 hpos2
  refine ⟨b, off, c, E, fz, rfl, atStart_some.2 ⟨hb', rfl⟩, Part.of_get (fun j hj => ?_) (fun e => by rw [e] at hpos2; simp at hpos2)⟩
  obtain ⟨c', E', fz', hb2, hj'⟩ := cell j hj
  rw [hb'] at hb2
  cases hb2
  exact hj'
end Go.Mus

/- From a law of plants, floors, strikes, plans and numbers that answers true to its card. Conditions: as the cards say; over the given program. -/
namespace Go.Mus
open Go.Proofs.YtnffnndmilpnoaaGreatDoor
set_option maxRecDepth 100000
set_option maxHeartbeats 4000000
section
open Go.ChangeShapes Go.WideShapes Go.RowKit
theorem rT_int : RowT prog t_int 1 := RowT.int under_int cells_int
theorem rT_span : RowT prog t_Span 2 := RowT.struct (ws := [1, 1]) (TD.out (t := t_Span)) ⟨rfl, rT_int, rfl, rT_int, trivial⟩ (by kernel_rfl)
theorem rT_floor : RowT prog t_Floor 4 := RowT.struct (ws := [1, 2, 1]) (TD.out (t := t_Floor)) ⟨rfl, rT_int, rfl, rT_span, rfl, rT_int, trivial⟩ (by kernel_rfl)
theorem rT_strike : RowT prog t_Strike 3 := RowT.struct (ws := [1, 1, 1]) (TD.out (t := t_Strike)) ⟨rfl, rT_int, rfl, rT_int, rfl, rT_int, trivial⟩ (by kernel_rfl)
theorem rT_berth : RowT prog t_Berth 2 := RowT.struct (ws := [1, 1]) (TD.out (t := t_Berth)) ⟨rfl, rT_int, rfl, rT_int, trivial⟩ (by kernel_rfl)
theorem mkFl : ∀ ns : List Int, ns.length = 4 → ∃ p : Fl, p.row = ns.map nI
 | [a, b, c, d], _ => ⟨⟨a, b, c, d⟩, rfl⟩
theorem mkSt : ∀ ns : List Int, ns.length = 3 → ∃ p : St, p.row = ns.map nI
 | [a, b, c], _ => ⟨⟨a, b, c⟩, rfl⟩
theorem mkBe : ∀ ns : List Int, ns.length = 2 → ∃ p : Be, p.row = ns.map nI
 | [a, b], _ => ⟨⟨a, b⟩, rfl⟩
theorem mkI : ∀ ns : List Int, ns.length = 1 → ∃ p : Int, rowI p = ns.map nI
 | [a], _ => ⟨a, rfl⟩

/-- What an argument is. -/
structure ArgOK (h : Hp) (t : TypeId) (v : Value) : Prop where
 plant : t = t_Plant → ∃ vf vs fs ss, v = .agg #[vf, vs] ∧ Sl h Fl.row vf fs ∧ Sl h St.row vs ss
 floor : t = t_Floor → ∃ f : Fl, v = f.val
 strike : t = t_Strike → ∃ s : St, v = s.val
 plan : t = t_sl_Berth → ∃ l, Sl h Be.row v l
 int : t = t_int → ∃ n, v = I n
 ints : t = t_sl_int → ∃ l, Sl h rowI v l
def ArgsOK (h : Hp) : List TypeId → List Value → Prop
 | [], [] => True
 | t :: ts, v :: vs => ArgOK h t v ∧ ArgsOK h ts vs
 | _, _ => False
theorem arg_ok {H : Type} {enc : TypeId × Value → H} {W : World} {n : Nat} {t : TypeId} {v : Value} {d : DataW H} {ps : List MemPlace} (hv : Value.okWide prog W .any n t v) (h : DataW.Trod enc prog W 0 (fun _ => true) true t v d ps) : ArgOK (atStart W) t v := by
 refine ⟨?_, ?_, ?_, ?_, ?_, ?_⟩
 ·rintro rfl
  obtain ⟨cs, rfl, hc⟩ := okWide_struct (TD.out (t := t_Plant)) hv
  obtain ⟨fuel, h⟩ := h
  obtain ⟨y0, y1, m, -, hl, h0, h1⟩ := trod_struct2 (TD.out (t := t_Plant)) h
  have hc2 : cs.size = 2 := by rw [hc]; kernel_rfl
  obtain ⟨l⟩ := cs
  match l, hc2 with
  | [vf, vs], _ =>
   have h0' : DataW.trod enc prog W 0 (fun _ => true) true m t_sl_Floor [vf] = some y0 := h0
   have h1' : DataW.trod enc prog W 0 (fun _ => true) true m t_sl_Strike [vs] = some y1 := h1
   obtain ⟨fs, hf⟩ := rT_floor.slice (row := Fl.row) (by decide) mkFl (TD.out (t := t_sl_Floor)) h0'
   obtain ⟨ss, hs⟩ := rT_strike.slice (row := St.row) (by decide) mkSt (TD.out (t := t_sl_Strike)) h1'
   exact ⟨vf, vs, fs, ss, rfl, hf, hs⟩
 ·rintro rfl
  obtain ⟨cs, rfl, hc⟩ := okWide_struct (TD.out (t := t_Floor)) hv
  obtain ⟨ns, h1, h2⟩ := rT_floor.val h
  obtain ⟨p, hp⟩ := mkFl ns h2
  refine ⟨p, ?_⟩
  have : cs.toList = p.row := by rw [hp]; exact h1
  rw [show cs = p.row.toArray by rw [← this]]
  rfl
 ·rintro rfl
  obtain ⟨cs, rfl, hc⟩ := okWide_struct (TD.out (t := t_Strike)) hv
  obtain ⟨ns, h1, h2⟩ := rT_strike.val h
  obtain ⟨p, hp⟩ := mkSt ns h2
  refine ⟨p, ?_⟩
  have : cs.toList = p.row := by rw [hp]; exact h1
  rw [show cs = p.row.toArray by rw [← this]]
  rfl
 ·rintro rfl
  obtain ⟨a, len, cap, rfl⟩ := okWide_slice (TD.out (t := t_sl_Berth)) hv
  obtain ⟨fuel, h⟩ := h
  exact rT_berth.slice (row := Be.row) (by decide) mkBe (TD.out (t := t_sl_Berth)) h
 ·rintro rfl
  obtain ⟨ns, h1, h2⟩ := rT_int.val h
  obtain ⟨n, rfl⟩ := okWide_int under_int hv
  exact ⟨n, rfl⟩
 ·rintro rfl
  obtain ⟨a, len, cap, rfl⟩ := okWide_slice under_sl_int hv
  obtain ⟨fuel, h⟩ := h
  exact rT_int.slice (row := rowI) (by decide) mkI under_sl_int h
theorem args_ok {H : Type} {enc : TypeId × Value → H} {W : World} {n : Nat} : ∀ {ts : List TypeId} {vs : List Value} {ds : List (DataW H)} {ps : List MemPlace}, (∀ (j : Nat) t v, ts[j]? = some t → vs[j]? = some v → Value.okWide prog W .any n t v) → DataW.TrodAll enc prog W 0 (fun _ => true) true ts vs ds ps → ArgsOK (atStart W) ts vs ∧ ds.length = ts.length
 | [], [], ds, ps, _, h => by
  cases ds with
  | nil => exact ⟨trivial, rfl⟩
  | cons d ds => exact h.elim
 | [], _ :: _, _, _, _, h => h.elim
 | _ :: _, [], _, _, _, h => h.elim
 | t :: ts, v :: vs, [], _, _, h => h.elim
 | t :: ts, v :: vs, d :: ds, ps, hv, h => by
  obtain ⟨p, q, h1, h2, -⟩ := h
  obtain ⟨h3, h4⟩ := args_ok (fun j t v a b => hv (j + 1) t v (by simpa using a) (by simpa using b)) h2
  exact ⟨⟨arg_ok (hv 0 t v rfl rfl) h1, h3⟩, by simp [h4]⟩
theorem args_stay {H : Type} {enc : TypeId × Value → H} {W W' : World} (hb : Below W.heap.size W W') : ∀ {ts : List TypeId} {vs : List Value} {ds : List (DataW H)} {ps : List MemPlace}, (∀ t ∈ ts, prog.readableRec t = true ∧ t < prog.types.size) → DataW.TrodAll enc prog W 0 (fun _ => true) true ts vs ds ps → (∀ x ∈ ps, x.block < W.heap.size) → DataW.TrodAll enc prog W' 0 (fun b => decide (b < W.heap.size)) true ts vs ds ps
 | [], [], ds, ps, _, h, _ => by
  cases ds with
  | nil => exact h
  | cons d ds => exact h.elim
 | [], _ :: _, _, _, _, h, _ => h.elim
 | _ :: _, [], _, _, _, h, _ => h.elim
 | t :: ts, v :: vs, [], _, _, h, _ => h.elim
 | t :: ts, v :: vs, d :: ds, ps, ht, h, hlt => by
  obtain ⟨p, q, h1, h2, rfl⟩ := h
  exact ⟨p, q, Below.trod laidOut0 (ht t (List.mem_cons_self ..)).1 (ht t (List.mem_cons_self ..)).2 h1 hb (fun x hx => hlt x (List.mem_append_left _ hx)), args_stay hb (fun t h => ht t (List.mem_cons_of_mem _ h)) h2 (fun x hx => hlt x (List.mem_append_right _ hx)), rfl⟩
/-- ████ A LAW OF SUCH ARGUMENTS. -/
theorem liftN {s : ChangeSpec} {f : FuncId} {fn : Func} (os : Go.Os) (started : os.Started) (H : Type) (enc : TypeId × Value → H) (hfn : prog.funcs[f]? = some fn) (hinit : prog.inits.idxOf? f = none) (ts : List TypeId) (hp : fn.params.toList = ts) (hts : ∀ t ∈ ts, prog.readableRec t = true ∧ t < prog.types.size) (hr : fn.resultTypes.toList = [t_bool]) (hrs : fn.resultTypes.size = 1) (hv : s.vars = [])
  (hs : ∀ ds : List (DataW H), ds.length = ts.length → s.fn H ds = { results := [.lit (.bool true)], args := ds })
  (witness : ∃ (w : World) (tape : Tape) (i : Input), w.os = os ∧ (w.forCall tape i).Shaped prog ∧ i.vars = [] ∧ Input.okWide prog (w.forCall tape i) .any w.heap.size f i ∧
   ((s.pre enc prog fn [] false (w.forCall tape i).memory i.args ∧ laidMetH prog laid0 (w.forCall tape i).memory) ∧ sizedMet enc prog fn (OpenSpec.ofChange s) false (w.forCall tape i).memory i.args) ∧ ({} : Assume).holds prog (lone (Frame.enter prog f i.args .normal) [] (w.forCall tape i)))
  (T : ∀ (main : Side) (_ : ∀ S, main.ok S → ∃ Fin, S = Mn prog Fin) (_ : main.b = true) (h : Hp) (args : List Value) (_ : ArgsOK h ts args) (Eg : TypeId) (zg : Nat × Nat) (_ : h 0 = some (.cells #[rtV t_error] Eg zg)) (_ : h.z 0), TopV prog main f args.toArray h (.bool true)) :
  ReturnsInLeavingWide {} Go.Proofs.Tryz.checked os f .any (fun w args => (s.pre enc prog fn [] false w args ∧ laidMetH prog laid0 w) ∧ sizedMet enc prog fn (OpenSpec.ofChange s) false w args) (s.post enc prog fn false true false false) := by
 refine returnsInLeavingWide_of_good (C := Go.Proofs.Tryz.checked) own0 started witness ?_
 intro w tape i _ _ _ hok hpre _
 obtain ⟨_, _, _, fn', hfn', _, _, _, _, hval0⟩ := hok
 have e : fn' = fn := Option.some.inj (hfn'.symm.trans hfn)
 subst e
 obtain ⟨⟨⟨ds, gs, before, hw, -⟩, hx⟩, -⟩ := hpre
 have hW := DataW.Whole.of_heap (w' := w.forCall tape i) (by rfl) hw
 have hL : laidMetH prog laid0 (w.forCall tape i) := laidMetH_heap (by rfl) hx
 generalize w.forCall tape i = W at *
 have hval : ∀ (j : Nat) t v, fn'.params[j]? = some t → i.args[j]? = some v → Value.okWide prog W .any w.heap.size t v := hval0
 have hW' := hW
 obtain ⟨p, q, hA0, hV, rfl, _, _⟩ := hW
 have hA : DataW.TrodAll enc prog W 0 (fun _ => true) true fn'.params.toList i.args.toList ds p := hA0
 rw [hp] at hA
 obtain ⟨hao, hdl⟩ := args_ok (n := w.heap.size) (fun j t v a b => hval j t v (by rw [← Array.getElem?_toList, hp]; exact a) (by rw [← Array.getElem?_toList]; exact b)) hA
 rw [hv] at hV
 obtain ⟨rfl, rfl⟩ := trodVars_none hV
 simp only [List.append_nil] at hW'
 have hlt : ∀ x ∈ p, x.block < W.heap.size := fun x hx => by simpa using hW'.lt x hx
 obtain ⟨E, z, hg⟩ := handle0 hL
 have hgs : atStart W 0 = some (.cells #[rtV t_error] E z) := atStart_some.2 ⟨hg, rfl⟩
 obtain ⟨M, last, o, w', t', h1, h2, h3, h4⟩ := TopV.run hinit (T (mainS prog (FinOK prog fun v _ => v = .bool true)) (fun S h => ⟨_, h⟩) rfl (atStart W) i.args.toList hao E z hgs ⟨_, hg, rfl⟩)
 refine ⟨M, last, o, w', t', h1, h2, h3, h4.mono fun v hF => ?_⟩
 obtain ⟨rfl, hk⟩ := hF
 have hb := hk.below
 refine ChangeSpec.post_blind ⟨ds, [], p, [], p, [], hW', ?_, ?_, ?_, hb.frame _, fun h => by cases h⟩
 ·have hrl : Value.resultList fn'.resultTypes.size (.bool true) = [.bool true] := by rw [hrs]; rfl
  rw [List.append_nil, hs ds hdl, hrl, hr]; exact trodAll_mk1 (shut_bool under_bool true)
 ·rw [List.append_nil, hs ds hdl, hp]
  exact args_stay hb hts hA hlt
 ·rw [List.append_nil, hs ds hdl, hv]; rfl
end
end Go.Mus

/- The document's answers of layer 5: checks, what stands. Conditions: none; over the given program. -/
namespace Go.Mus
set_option maxRecDepth 100000
set_option maxHeartbeats 40000000
theorem among_fn (main : Side) (h : Hp) (n lo hi : Int) : Pu prog main n_ref_among #[I n, I lo, I hi] h (.bool (!decide (outs n lo hi))) := by
  refine Fnc.of_body at_ref_among rfl (by show 3 ≤ 15; decide) [(0, I n), (1, I lo), (2, I hi)] ⟨rfl, rfl, rfl, trivial⟩ ?_
  refine W.seq <| W.region rfl <| qs rfl rfl rfl <| nn <| W.seq <| W.region rfl <| qm rfl rfl rfl <| qm rfl rfl rfl ?_
  refine o1 (y_geq rfl rfl rfl) rfl ?_
  refine qm rfl rfl rfl ?_
  refine Ops.ask (fun a1_4 => ?_) (fun a1_4 => ?_)
  · refine oq (y_move rfl rfl) rfl (want_some rfl rfl rfl) rfl rfl ?_
    refine oq (y_move rfl rfl) rfl (want_some rfl rfl rfl) rfl rfl ?_
    refine oq (y_leq rfl rfl rfl) rfl (want_some rfl rfl rfl) rfl rfl ?_
    refine o1 (y_pickT rfl rfl rfl) rfl ?_
    refine qs rfl rfl rfl <| nn <| W.ret ?_
    refine lvp ?_
    refine congrArg Value.bool ?_
    first
    | (rw [decide_eq_true (show outs n lo hi from .inl (by omega))]; rfl)
    | (by_cases h1 : n ≤ hi
       · rw [decide_eq_false (show ¬ outs n lo hi from fun h => h.elim (by omega) (by omega))]; exact decide_eq_true h1
       · rw [decide_eq_true (show outs n lo hi from .inr (by omega))]; exact decide_eq_false h1)
  · refine Ops.no ?_
    refine Ops.no ?_
    refine Ops.no ?_
    refine o1 (y_pickF rfl rfl rfl) rfl ?_
    refine qs rfl rfl rfl <| nn <| W.ret ?_
    refine lvp ?_
    refine congrArg Value.bool ?_
    first
    | (rw [decide_eq_true (show outs n lo hi from .inl (by omega))]; rfl)
    | (by_cases h1 : n ≤ hi
       · rw [decide_eq_false (show ¬ outs n lo hi from fun h => h.elim (by omega) (by omega))]; exact decide_eq_true h1
       · rw [decide_eq_true (show outs n lo hi from .inr (by omega))]; exact decide_eq_false h1)
theorem rcheckFloor_fn (main : Side) (h : Hp) (f : Fl) : Pu prog main n_ref_checkFloor #[f.val] h (I (ckFloor f)) := by
  refine Fnc.of_body at_ref_checkFloor rfl (by show 1 ≤ 32; decide) [(0, f.val)] ⟨rfl, trivial⟩ ?_
  refine W.seq <| W.region rfl ?_
  refine Ops.box (cs := #[I f.pl, I f.lo, I f.hi, I f.co]) (fun β1 => ?_) rfl rfl rfl
  refine qs rfl rfl rfl <| nn <| W.seq <| W.seq <| W.region rfl ?_
  refine fq rfl ?_
  refine dq rfl ?_
  refine cp (fun h' hE hL => among_fn _ h' _ _ _) ?_
  refine o1 (y_not rfl rfl) rfl ?_
  refine qm rfl rfl rfl ?_
  refine Ops.askB (fun a1_5 => ?_) (fun a1_5 => ?_)
  · refine Ops.no ?_
    refine Ops.no ?_
    refine Ops.no ?_
    refine Ops.no ?_
    refine Ops.no ?_
    refine o1 (y_pickT rfl rfl rfl) rfl ?_
    refine qm rfl rfl rfl ?_
    refine Ops.no ?_
    refine Ops.no ?_
    refine Ops.no ?_
    refine Ops.no ?_
    refine Ops.no ?_
    refine o1 (y_pickT rfl rfl rfl) rfl ?_
    refine nn ?_
    refine W.condT ?_
    refine W.seq <| W.region rfl <| qs rfl rfl rfl <| nn <| W.ret <| thn_r ?_
    refine lvp (hs := .cons rfl .nil) ?_
    simp_all [ckFloor, pack]
  · refine oq (y_fieldAddr rfl rfl) rfl (want_some rfl rfl rfl) rfl rfl ?_
    refine oq (y_fieldAddr rfl rfl) rfl (want_some rfl rfl rfl) rfl rfl ?_
    refine oq (yld rfl rfl) rfl (want_some rfl rfl rfl) rfl rfl ?_
    refine cp (fun h' hE hL => among_fn _ h' _ _ _) ?_
    refine oq (y_not rfl rfl) rfl (want_some rfl rfl rfl) rfl rfl ?_
    refine o1 (y_pickF rfl rfl rfl) rfl ?_
    refine qm rfl rfl rfl ?_
    refine Ops.askB (fun a1_12 => ?_) (fun a1_12 => ?_)
    · refine Ops.no ?_
      refine Ops.no ?_
      refine Ops.no ?_
      refine Ops.no ?_
      refine Ops.no ?_
      refine o1 (y_pickT rfl rfl rfl) rfl ?_
      refine nn ?_
      refine W.condT ?_
      refine W.seq <| W.region rfl <| qs rfl rfl rfl <| nn <| W.ret <| thn_r ?_
      refine lvp (hs := .cons rfl .nil) ?_
      simp_all [ckFloor, pack]
    · refine oq (y_fieldAddr rfl rfl) rfl (want_some rfl rfl rfl) rfl rfl ?_
      refine oq (y_fieldAddr rfl rfl) rfl (want_some rfl rfl rfl) rfl rfl ?_
      refine oq (yld rfl rfl) rfl (want_some rfl rfl rfl) rfl rfl ?_
      refine cp (fun h' hE hL => among_fn _ h' _ _ _) ?_
      refine oq (y_not rfl rfl) rfl (want_some rfl rfl rfl) rfl rfl ?_
      refine o1 (y_pickF rfl rfl rfl) rfl ?_
      refine nn ?_
      refine W.cond rfl (fun c20 => ?_) (fun c20 => ?_)
      · refine W.seq <| W.region rfl <| qs rfl rfl rfl <| nn <| W.ret <| thn_r ?_
        refine lvp (hs := .cons rfl .nil) ?_
        simp_all [ckFloor, pack]
      · refine W.skip <| thn_n <| W.seq <| W.seq <| W.region rfl ?_
        refine fq rfl ?_
        refine fq rfl ?_
        refine dq rfl ?_
        refine fq rfl ?_
        refine fq rfl ?_
        refine dq rfl ?_
        refine o1 (y_gtr rfl rfl rfl) rfl ?_
        refine nn ?_
        refine W.condp rfl (fun c27 => ?_) (fun c27 => ?_)
        · refine W.seq <| W.region rfl <| qs rfl rfl rfl <| nn <| W.ret <| thn_r ?_
          refine lvp (hs := .cons rfl .nil) ?_
          simp_all [ckFloor, pack]
        · refine W.skip <| thn_n <| W.seq <| W.seq <| W.region rfl ?_
          refine fq rfl ?_
          refine dq rfl ?_
          refine cp (fun h' hE hL => among_fn _ h' _ _ _) ?_
          refine o1 (y_not rfl rfl) rfl ?_
          refine nn ?_
          refine W.cond rfl (fun c31 => ?_) (fun c31 => ?_)
          · refine W.seq <| W.region rfl <| qs rfl rfl rfl <| nn <| W.ret <| thn_r ?_
            refine lvp (hs := .cons rfl .nil) ?_
            simp_all [ckFloor, pack]
          · refine W.skip <| thn_n <| W.seq <| W.region rfl <| qs rfl rfl rfl <| nn <| W.ret ?_
            refine lvp (hs := .cons rfl .nil) ?_
            simp_all [ckFloor, pack]

def befD (ss : List St) (k : Nat) : Int := if k = 0 then 0 else (stAt ss (k - 1)).day
theorem RCheck_fn (main : Side) (h : Hp) (fs : List Fl) (ss : List St) (vf vs : Value) (hf : Sl h Fl.row vf fs) (hs : Sl h St.row vs ss) : Pu prog main n_ref_Check #[.agg #[vf, vs]] h (I (ckPlant fs ss)) := by
  obtain ⟨a, cap, rfl⟩ := hf.isSl
  obtain ⟨a', cap', rfl⟩ := hs.isSl
  refine Fnc.of_body at_ref_Check rfl (by show 1 ≤ 77; decide) [(0, .agg #[.slice a fs.length cap, .slice a' ss.length cap'])] ⟨rfl, trivial⟩ ?_
  refine W.seq <| W.region rfl ?_
  refine Ops.box (cs := #[.slice a fs.length cap, .slice a' ss.length cap']) (fun β1 => ?_) rfl rfl rfl
  refine qs rfl rfl rfl <| nn <| W.seq <| W.seq <| W.region rfl ?_
  refine fq rfl ?_
  refine dq rfl ?_
  refine o1 (y_len rfl rfl) rfl ?_
  refine o1 (y_eql rfl rfl rfl) rfl ?_
  refine nn ?_
  refine W.condp rfl (fun c10 => ?_) (fun c10 => ?_)
  · refine W.seq <| W.region rfl <| qs rfl rfl rfl <| nn <| W.ret <| thn_r ?_
    refine lvp (hs := .cons rfl .nil) ?_
    show I _ = I _; congr 1; simp only [ckPlant]; rw [if_pos (by omega)]
  · refine W.skip <| thn_n <| W.seq <| W.seq <| W.region rfl ?_
    refine fq rfl ?_
    refine dq rfl ?_
    refine o1 (y_len rfl rfl) rfl ?_
    refine o1 (y_gtr rfl rfl rfl) rfl ?_
    refine nn ?_
    refine W.condp rfl (fun c14 => ?_) (fun c14 => ?_)
    · refine W.seq <| W.region rfl <| qs rfl rfl rfl <| nn <| W.ret <| thn_r ?_
      refine lvp (hs := .cons rfl .nil) ?_
      show I _ = I _; congr 1; simp only [ckPlant]; rw [if_neg (by omega), if_pos (by omega)]
    · refine W.skip <| thn_n <| W.seq <| W.seq <| W.region rfl <| qs rfl rfl rfl <| nn <| W.block ?_
      refine W.loop (σ := Nat) (fun k => k ≤ fs.length ∧ ckFloors fs = ckFloors (fs.drop k)) (fun k => [(3, I k), (1, .pointer (some ⟨β1, 0, none⟩))]) (fun _ => [(β1, .cells #[.slice a fs.length cap, .slice a' ss.length cap'] t_Plant (0, 0))]) (fun k => fs.length - k) 0 ⟨Nat.zero_le _, rfl⟩ ⟨rfl, rfl, trivial⟩ .refl ?_
      rintro k ⟨hk, hd⟩
      refine W.seq <| W.seq <| W.region rfl <| qm rfl rfl rfl ?_
      refine fq rfl ?_
      refine dq rfl ?_
      refine o1 (y_len rfl rfl) rfl ?_
      refine o1 (y_lss rfl rfl rfl) rfl ?_
      refine nn ?_
      refine W.condp rfl (fun c19 => ?_) (fun c19 => ?_)
      · obtain ⟨p, hp, hdr⟩ := has (show k < fs.length by omega)
        rw [hdr] at hd
        obtain ⟨b, off, c, E, fz, rfl, hb, hx, hy, hz⟩ := hf.at hp
        have hx' : c.extract (off + k * 4) (off + k * 4 + 4) = #[I p.pl, I p.lo, I p.hi, I p.co] := hx
        clear hx hz
        refine W.skip <| thn_n <| W.seq <| W.block <| W.seq <| W.region rfl ?_
        refine fq rfl ?_
        refine dq rfl ?_
        refine qm rfl rfl rfl ?_
        refine xq rfl ?_
        refine lq rfl ?_
        refine cp (fun h' hE hL => rcheckFloor_fn _ h' _) ?_
        refine qs rfl rfl rfl <| nn <| W.seq <| W.region rfl <| qm rfl rfl rfl ?_
        refine o1 (y_neq rfl rfl rfl) rfl ?_
        refine nn ?_
        refine W.condp rfl (fun c29 => ?_) (fun c29 => ?_)
        · refine W.seq <| W.region rfl <| qm rfl rfl rfl <| qs rfl rfl rfl <| nn <| W.ret <| blk_r <| thn_r <| thn_r ?_
          refine blk_r <| thn_r ?_
          refine lvp (hs := .cons rfl .nil) ?_
          show I _ = I _; congr 1; simp only [ckPlant]; simp only [ckFloors] at hd; simp_all; omega
        · refine W.skip <| blk_n <| thn_n <| W.region rfl <| qm rfl rfl rfl ?_
          refine pq rfl ?_
          refine qs rfl rfl rfl <| nn ?_
          exact ⟨rfl, k + 1, ⟨by omega, by simp only [ckFloors] at hd; simp_all⟩, by omega, ⟨rfl, rfl, trivial⟩, .refl⟩
      · have : k = fs.length := by omega
        subst this
        have hz : ckFloors fs = 0 := by rw [hd]; simp [ckFloors]
        clear hd
        refine W.exit <| thn_x <| thn_x <| blk_x <| thn_n <| W.seq <| W.seq <| W.region rfl ?_
        refine fq rfl ?_
        refine dq rfl ?_
        refine o1 (y_len rfl rfl) rfl ?_
        refine o1 (y_gtr rfl rfl rfl) rfl ?_
        refine nn ?_
        refine W.condp rfl (fun c34 => ?_) (fun c34 => ?_)
        · refine W.seq <| W.region rfl <| qs rfl rfl rfl <| nn <| W.ret <| thn_r ?_
          refine lvp (hs := .cons rfl .nil) ?_
          show I _ = I _; congr 1; simp only [ckPlant]; rw [if_neg (by omega), if_neg (by omega), if_neg (by omega), if_pos (by omega)]
        · refine W.skip <| thn_n <| W.seq <| W.seq <| W.region rfl <| qs rfl rfl rfl <| nn <| W.block ?_
          refine W.loop (σ := Nat) (fun k => k ≤ ss.length ∧ ckStrikes 0 ss = ckStrikes (befD ss k) (ss.drop k)) (fun k => [(5, I k), (1, .pointer (some ⟨β1, 0, none⟩))]) (fun _ => [(β1, .cells #[.slice a fs.length cap, .slice a' ss.length cap'] t_Plant (0, 0))]) (fun k => ss.length - k) 0 ⟨Nat.zero_le _, rfl⟩ ⟨rfl, rfl, trivial⟩ .refl ?_
          rintro k ⟨hk', hd'⟩
          refine W.seq <| W.seq <| W.region rfl <| qm rfl rfl rfl ?_
          refine fq rfl ?_
          refine dq rfl ?_
          refine o1 (y_len rfl rfl) rfl ?_
          refine o1 (y_lss rfl rfl rfl) rfl ?_
          refine nn ?_
          refine W.condp rfl (fun c39 => ?_) (fun c39 => ?_)
          · have hk1 : k < ss.length := by omega
            obtain ⟨p, hp, hdr⟩ := has hk1
            have hnx : befD ss (k + 1) = p.day := by simp [befD, stAt, List.getD, hp]
            rw [hdr] at hd'
            obtain ⟨b, off, c, E, fz, rfl, hb, hx, hy, hz⟩ := hs.at hp
            have hx' : c.extract (off + k * 3) (off + k * 3 + 3) = #[I p.day, I p.co, I p.wa] := hx
            clear hx hz
            refine W.skip <| thn_n <| W.seq <| W.block <| W.seq <| W.region rfl ?_
            refine fq rfl ?_
            refine dq rfl ?_
            refine qm rfl rfl rfl ?_
            refine xq rfl ?_
            refine lq rfl ?_
            refine Ops.new (fun β6 => ?_)
            first | refine Ops.stoW ?_ | refine Ops.stoA ?_
            refine nn <| W.seq <| W.seq <| W.region rfl ?_
            refine fq rfl ?_
            refine dq rfl ?_
            refine cp (fun h' hE hL => among_fn _ h' _ _ _) ?_
            refine o1 (y_not rfl rfl) rfl ?_
            refine qm rfl rfl rfl ?_
            refine Ops.askB (fun a17_5 => ?_) (fun a17_5 => ?_)
            · refine Ops.no ?_
              refine Ops.no ?_
              refine Ops.no ?_
              refine Ops.no ?_
              refine o1 (y_pickT rfl rfl rfl) rfl ?_
              refine qm rfl rfl rfl ?_
              refine Ops.no ?_
              refine Ops.no ?_
              refine Ops.no ?_
              refine Ops.no ?_
              refine o1 (y_pickT rfl rfl rfl) rfl ?_
              refine nn ?_
              refine W.condT ?_
              refine W.seq <| W.region rfl <| qs rfl rfl rfl <| nn <| W.ret <| thn_r <| blk_r <| thn_r <| thn_r ?_
              refine blk_r <| thn_r ?_
              refine lvp (hs := .cons rfl (.cons rfl .nil)) ?_
              have hc : ckStrike (befD ss k) p = 1 := by simp only [ckStrike]; rw [if_pos]; simp_all
              show I _ = I _; congr 1; simp only [ckPlant]; simp only [ckStrikes, hc] at hd'; rw [if_neg (by omega), if_neg (by omega), if_neg (by omega), if_neg (by omega), hd']; rfl
            · refine oq (y_fieldAddr rfl rfl) rfl (want_some rfl rfl rfl) rfl rfl ?_
              refine oq (yld rfl rfl) rfl (want_some rfl rfl rfl) rfl rfl ?_
              refine cp (fun h' hE hL => among_fn _ h' _ _ _) ?_
              refine oq (y_not rfl rfl) rfl (want_some rfl rfl rfl) rfl rfl ?_
              refine o1 (y_pickF rfl rfl rfl) rfl ?_
              refine qm rfl rfl rfl ?_
              refine Ops.askB (fun a17_11 => ?_) (fun a17_11 => ?_)
              · refine Ops.no ?_
                refine Ops.no ?_
                refine Ops.no ?_
                refine Ops.no ?_
                refine o1 (y_pickT rfl rfl rfl) rfl ?_
                refine nn ?_
                refine W.condT ?_
                refine W.seq <| W.region rfl <| qs rfl rfl rfl <| nn <| W.ret <| thn_r <| blk_r <| thn_r <| thn_r ?_
                refine blk_r <| thn_r ?_
                refine lvp (hs := .cons rfl (.cons rfl .nil)) ?_
                have hc : ckStrike (befD ss k) p = 1 := by simp only [ckStrike]; rw [if_pos]; simp_all
                show I _ = I _; congr 1; simp only [ckPlant]; simp only [ckStrikes, hc] at hd'; rw [if_neg (by omega), if_neg (by omega), if_neg (by omega), if_neg (by omega), hd']; rfl
              · refine oq (y_fieldAddr rfl rfl) rfl (want_some rfl rfl rfl) rfl rfl ?_
                refine oq (yld rfl rfl) rfl (want_some rfl rfl rfl) rfl rfl ?_
                refine cp (fun h' hE hL => among_fn _ h' _ _ _) ?_
                refine oq (y_not rfl rfl) rfl (want_some rfl rfl rfl) rfl rfl ?_
                refine o1 (y_pickF rfl rfl rfl) rfl ?_
                refine nn ?_
                refine W.cond rfl (fun c62 => ?_) (fun c62 => ?_)
                · refine W.seq <| W.region rfl <| qs rfl rfl rfl <| nn <| W.ret <| thn_r <| blk_r <| thn_r <| thn_r ?_
                  refine blk_r <| thn_r ?_
                  refine lvp (hs := .cons rfl (.cons rfl .nil)) ?_
                  have hc : ckStrike (befD ss k) p = 1 := by simp only [ckStrike]; rw [if_pos]; simp_all
                  show I _ = I _; congr 1; simp only [ckPlant]; simp only [ckStrikes, hc] at hd'; rw [if_neg (by omega), if_neg (by omega), if_neg (by omega), if_neg (by omega), hd']; rfl
                · refine W.skip <| thn_n <| W.seq ?_
                  refine W.drawF (n := 14) rfl ?_
                  have ho : ¬ (outs p.day 0 12 ∨ outs p.co 1 6 ∨ outs p.wa 0 3) := by simp_all
                  refine a1 0 (y_move rfl rfl) rfl ?_
                  refine a1 1 (y_gtr rfl rfl rfl) rfl ?_
                  refine a1 2 (y_move rfl rfl) rfl ?_
                  refine Any.ask (d' := 65) (fun a19_3 => ?_) (fun a19_3 => ?_)
                  · obtain ⟨j, rfl⟩ : ∃ j, k = j + 1 := ⟨k - 1, by omega⟩
                    obtain ⟨q, hq, -⟩ := has (show j < ss.length by omega)
                    have hbq : befD ss (j + 1) = q.day := by simp [befD, stAt, List.getD, hq]
                    obtain ⟨b2, off2, c2, E2, fz2, hae, hb2, -, hy2, hz2⟩ := hs.at hq
                    cases hae
                    have hq0 : c2[off + j * 3 + 0]? = some (I q.day) := hz2 0 (by decide)
                    clear hz2
                    rw [hb] at hb2
                    cases hb2
                    refine aq (i := 3) (y_fieldAddr rfl rfl) rfl (wantε_some rfl rfl rfl rfl) rfl rfl ?_
                    refine aq (i := 4) (yld rfl rfl) rfl (wantε_some rfl rfl rfl rfl) rfl rfl ?_
                    refine aq (i := 5) (y_fieldAddr rfl rfl) rfl (wantε_some rfl rfl rfl rfl) rfl rfl ?_
                    refine aq (i := 6) (yld rfl rfl) rfl (wantε_some rfl rfl rfl rfl) rfl rfl ?_
                    refine aq (i := 7) (y_move rfl rfl) rfl (wantε_some rfl rfl rfl rfl) rfl rfl ?_
                    refine aq (i := 8) ((ysub rfl rfl rfl).eq (u := I j) (congrArg I (by omega))) rfl (wantε_some rfl rfl rfl rfl) rfl rfl ?_
                    first | refine aq (i := 9) (yix rfl rfl rfl) rfl (wantε_some rfl rfl rfl rfl) rfl rfl ?_ | refine aq (i := 9) (yixI rfl rfl rfl) rfl (wantε_some rfl rfl rfl rfl) rfl rfl ?_
                    refine aq (i := 10) (y_fieldAddr rfl rfl) rfl (wantε_some rfl rfl rfl rfl) rfl rfl ?_
                    refine aq (i := 11) (yld rfl rfl) rfl (wantε_some rfl rfl rfl rfl) rfl rfl ?_
                    refine aq (i := 12) (y_lss rfl rfl rfl) rfl (wantε_some rfl rfl rfl rfl) rfl rfl ?_
                    refine a1 13 (y_pickT rfl rfl rfl) rfl ?_
                    refine az ?_
                    refine thn_n ?_
                    refine W.condp rfl (fun c76 => ?_) (fun c76 => ?_)
                    · refine W.seq <| W.region rfl <| qs rfl rfl rfl <| nn <| W.ret <| blk_r <| thn_r <| thn_r <| blk_r ?_
                      refine thn_r ?_
                      refine lvp (hs := .cons rfl (.cons rfl .nil)) ?_
                      have hc : ckStrike (befD ss (j + 1)) p = 5 := by
                        simp only [ckStrike]; rw [if_neg ho, if_pos (by omega)]
                      show I _ = I _; congr 1; simp only [ckPlant]; simp only [ckStrikes, hc] at hd'; rw [if_neg (by omega), if_neg (by omega), if_neg (by omega), if_neg (by omega), hd']; rfl
                    · refine W.skip <| blk_n <| thn_n <| W.region rfl <| qm rfl rfl rfl ?_
                      refine pq rfl ?_
                      refine qs rfl rfl rfl <| nn ?_
                      first
                      | (have hc : ckStrike (befD ss (j + 1)) p = 0 := by
                           simp only [ckStrike]; rw [if_neg ho, if_neg (by omega)]
                         exact ⟨rfl, j + 1 + 1, ⟨by omega, by rw [hnx, hd']; simp only [ckStrikes, hc]; rfl⟩, by omega, ⟨rfl, rfl, trivial⟩, .skip rfl .refl⟩)
                      | (have hk0 : k = 0 := by omega
                         subst hk0
                         have ho2 := ho
                         simp only [outs, not_or] at ho2
                         have hc : ckStrike (befD ss 0) p = 0 := by
                           simp only [ckStrike]; rw [if_neg ho, if_neg (by simp only [befD, if_true]; omega)]
                         exact ⟨rfl, 0 + 1, ⟨by omega, by rw [hnx, hd']; simp only [ckStrikes, hc]; rfl⟩, by omega, ⟨rfl, rfl, trivial⟩, .skip rfl .refl⟩)
                  · refine ap (i := 3) rfl rfl rfl rfl rfl rfl ?_
                    refine ap (i := 4) rfl rfl rfl rfl rfl rfl ?_
                    refine ap (i := 5) rfl rfl rfl rfl rfl rfl ?_
                    refine ap (i := 6) rfl rfl rfl rfl rfl rfl ?_
                    refine ap (i := 7) rfl rfl rfl rfl rfl rfl ?_
                    refine ap (i := 8) rfl rfl rfl rfl rfl rfl ?_
                    refine ap (i := 9) rfl rfl rfl rfl rfl rfl ?_
                    refine ap (i := 10) rfl rfl rfl rfl rfl rfl ?_
                    refine ap (i := 11) rfl rfl rfl rfl rfl rfl ?_
                    refine ap (i := 12) rfl rfl rfl rfl rfl rfl ?_
                    refine a1 13 (y_pickF rfl rfl rfl) rfl ?_
                    refine az ?_
                    refine thn_n ?_
                    refine W.condF ?_
                    refine W.skip <| blk_n <| thn_n <| W.region rfl <| qm rfl rfl rfl ?_
                    refine pq rfl ?_
                    refine qs rfl rfl rfl <| nn ?_
                    first
                    | (have hc : ckStrike (befD ss (j + 1)) p = 0 := by
                         simp only [ckStrike]; rw [if_neg ho, if_neg (by omega)]
                       exact ⟨rfl, j + 1 + 1, ⟨by omega, by rw [hnx, hd']; simp only [ckStrikes, hc]; rfl⟩, by omega, ⟨rfl, rfl, trivial⟩, .skip rfl .refl⟩)
                    | (have hk0 : k = 0 := by omega
                       subst hk0
                       have ho2 := ho
                       simp only [outs, not_or] at ho2
                       have hc : ckStrike (befD ss 0) p = 0 := by
                         simp only [ckStrike]; rw [if_neg ho, if_neg (by simp only [befD, if_true]; omega)]
                       exact ⟨rfl, 0 + 1, ⟨by omega, by rw [hnx, hd']; simp only [ckStrikes, hc]; rfl⟩, by omega, ⟨rfl, rfl, trivial⟩, .skip rfl .refl⟩)
          · have : k = ss.length := by omega
            subst this
            refine W.exit <| thn_x <| thn_x <| blk_x <| thn_n <| W.seq <| W.region rfl <| qs rfl rfl rfl <| nn ?_
            refine W.ret ?_
            refine lvp (hs := .cons rfl .nil) ?_
            show I _ = I _; congr 1; simp only [ckPlant]; rw [if_neg (by omega), if_neg (by omega), if_neg (by omega), if_neg (by omega), hd']; simp [ckStrikes]

theorem sums_le {fs : List Fl} {ss : List St} {l : List Be} {f d : Int} (hall : HallOK fs ss) (h0 : 0 ≤ f) (hf : f < fs.length) : ∀ k, 0 ≤ sumK (loG fs ss l f d) k ∧ sumK (loG fs ss l f d) k ≤ sumK (hiG fs ss l f d) k ∧ sumK (hiG fs ss l f d) k ≤ 6 * k
  | 0 => ⟨Int.le_refl _, Int.le_refl _, Int.le_refl _⟩
  | k + 1 => by
    have ih := sums_le (l := l) (d := d) hall h0 hf k
    have hc := co_ok hall k
    have hfo := fl_ok hall h0 hf
    have : 0 ≤ loG fs ss l f d k ∧ loG fs ss l f d k ≤ hiG fs ss l f d k ∧ hiG fs ss l f d k ≤ 6 := by
      simp only [loG, hiG]
      split
      · rw [if_pos (by omega)]; omega
      · split <;> omega
    simp only [sumK]; omega
theorem Rstandsp_fn (main : Side) (h : Hp) (fs : List Fl) (ss : List St) (l : List Be) (f d : Int) (vf vs vl : Value) (hf : Sl h Fl.row vf fs) (hs : Sl h St.row vs ss) (hl : Sl h Be.row vl l) (hall : HallOK fs ss) (hpl : PlanOf fs ss (padB l)) (hn : l.length ≤ ss.length) (hf0 : 0 ≤ f ∧ f < fs.length) : Pu prog main n_ref_stands #[.agg #[vf, vs], vl, I f, I d] h (.agg #[I (sumK (loG fs ss l f d) l.length), I (sumK (hiG fs ss l f d) l.length)]) := by
  have hns := hall.ns
  have hfo := fl_ok hall hf0.1 hf0.2
  have hx0 := flAt_some hf0.1 hf0.2
  obtain ⟨⟨pl, lo, hi', co⟩, hfa⟩ : ∃ x, flAt fs f = x := ⟨_, rfl⟩
  rw [hfa] at hx0 hfo
  dsimp only at hfo
  obtain ⟨a', cap', rfl⟩ := hs.isSl
  obtain ⟨a2, cap2, rfl⟩ := hl.isSl
  obtain ⟨a, cap, rfl⟩ := hf.isSl
  obtain ⟨bf, off, c, E, fz, rfl, hbk, hx1, hy1, hz1⟩ := hf.at hx0
  have hx2 := ext2 hx1
  clear hx1 hz1
  refine Fnc.of_body at_ref_stands rfl (by show 4 ≤ 81; decide) [(0, .agg #[.slice (some ⟨bf, off, none⟩) fs.length cap, .slice a' ss.length cap']), (1, .slice a2 l.length cap2), (2, I f), (3, I d)] ⟨rfl, rfl, rfl, rfl, trivial⟩ ?_
  refine W.seq <| W.region rfl ?_
  refine Ops.box (cs := #[.slice (some ⟨bf, off, none⟩) fs.length cap, .slice a' ss.length cap']) (fun β4 => ?_) rfl rfl rfl
  refine Ops.new (fun β8 => ?_)
  refine nn <| W.seq <| W.region rfl ?_
  refine Ops.new (fun β9 => ?_)
  refine nn <| W.seq <| W.region rfl ?_
  refine fq rfl ?_
  refine dq rfl ?_
  refine qm rfl rfl rfl ?_
  refine xq rfl ?_
  refine fq rfl ?_
  refine lq rfl ?_
  refine Ops.new (fun β10 => ?_)
  first | refine Ops.stoW ?_ | refine Ops.stoA ?_
  refine nn <| W.seq <| W.seq <| W.region rfl <| qs rfl rfl rfl <| nn <| W.block ?_
  refine W.loop (σ := Nat) (fun k => k ≤ l.length) (fun k => [(11, I k), (10, .pointer (some ⟨β10, 0, none⟩)), (9, .pointer (some ⟨β9, 0, none⟩)), (8, .pointer (some ⟨β8, 0, none⟩)), (4, .pointer (some ⟨β4, 0, none⟩)), (1, .slice a2 l.length cap2), (2, I f), (3, I d)]) (fun k => [(β10, .cells #[I lo, I hi'] t_Span (0, 0)), (β9, .cells #[I (sumK (loG fs ss l f d) k), I (sumK (hiG fs ss l f d) k)] t_Span (0, 0)), (β8, .cells #[I 0, I 0] t_Span (0, 0)), (β4, .cells #[.slice (some ⟨bf, off, none⟩) fs.length cap, .slice a' ss.length cap'] t_Plant (0, 0))]) (fun k => l.length - k) 0 (Nat.zero_le _) ⟨rfl, rfl, rfl, rfl, rfl, rfl, rfl, rfl, trivial⟩ .refl ?_
  rintro k hk
  refine W.seq <| W.seq <| W.region rfl <| qm rfl rfl rfl <| qm rfl rfl rfl ?_
  refine o1 (y_len rfl rfl) rfl ?_
  refine o1 (y_lss rfl rfl rfl) rfl ?_
  refine nn ?_
  refine W.condp rfl (fun c21 => ?_) (fun c21 => ?_)
  · have hk1 : k < l.length := by omega
    have hb0 : l[k]? = some (beAt l k) := by simp [beAt, List.getD, List.getElem?_eq_getElem hk1]
    have hpo := hpl.ok.ok _ (List.mem_append_left _ (List.mem_of_getElem? hb0))
    obtain ⟨s, hs0, -⟩ := has (show k < ss.length by omega)
    have hsa : stAt ss k = s := by simp [stAt, List.getD, hs0]
    have hco := co_ok hall k
    rw [hsa] at hco
    have hsum := sums_le (l := l) (d := d) hall hf0.1 hf0.2 k
    have hlg : loG fs ss l f d k = if (beAt l k).fl = f ∧ (beAt l k).day ≤ d ∧ d < (beAt l k).day + lo then s.co else 0 := by rw [loG, hfa, hsa]
    have hhg : hiG fs ss l f d k = if (beAt l k).fl = f ∧ (beAt l k).day ≤ d ∧ d < (beAt l k).day + hi' then s.co else 0 := by rw [hiG, hfa, hsa]
    have hs1 : sumK (loG fs ss l f d) (k + 1) = sumK (loG fs ss l f d) k + loG fs ss l f d k := rfl
    have hs2 : sumK (hiG fs ss l f d) (k + 1) = sumK (hiG fs ss l f d) k + hiG fs ss l f d k := rfl
    rw [hlg] at hs1
    rw [hhg] at hs2
    generalize sumK (loG fs ss l f d) k = x1 at *
    generalize sumK (hiG fs ss l f d) k = x2 at *
    obtain ⟨bl, offl, cl, El, fzl, rfl, hbl, -, hyl, hzl⟩ := hl.at hb0
    have hfl0 : cl[offl + k * 2 + 0]? = some (I (beAt l k).fl) := hzl 0 (by decide)
    have hfl1 : cl[offl + k * 2 + 1]? = some (I (beAt l k).day) := hzl 1 (by decide)
    clear hzl
    obtain ⟨bs, offs, cs, Es, fzs, rfl, hbs, -, hys, hzs⟩ := hs.at hs0
    have hfs : cs[offs + k * 3 + 1]? = some (I s.co) := hzs 1 (by decide)
    clear hzs
    generalize beAt l k = b at *
    refine W.skip <| thn_n <| W.seq <| W.block <| W.seq <| W.seq <| W.region rfl <| qm rfl rfl rfl <| qm rfl rfl rfl ?_
    refine xq rfl ?_
    refine fq rfl ?_
    refine dq rfl ?_
    refine qm rfl rfl rfl ?_
    refine o1 (y_neq rfl rfl rfl) rfl ?_
    refine qm rfl rfl rfl ?_
    refine Ops.ask (fun a6_8 => ?_) (fun a6_8 => ?_)
    · refine Ops.no ?_
      refine Ops.no ?_
      refine Ops.no ?_
      refine Ops.no ?_
      refine Ops.no ?_
      refine Ops.no ?_
      refine Ops.no ?_
      refine o1 (y_pickT rfl rfl rfl) rfl ?_
      refine nn ?_
      refine W.condT ?_
      refine W.exit <| thn_x <| blk_x <| thn_n <| W.region rfl <| qm rfl rfl rfl ?_
      refine pq rfl ?_
      refine qs rfl rfl rfl <| nn ?_
      refine ⟨rfl, k + 1, by omega, by omega, ⟨rfl, rfl, rfl, rfl, rfl, rfl, rfl, rfl, trivial⟩, ?_⟩
      rw [hs1, hs2]
      first
      | (exfalso; omega)
      | (rw [if_neg (by omega), if_neg (by omega), Int.add_zero, Int.add_zero]; exact .refl)
      | (rw [if_neg (by omega), if_pos (by omega), Int.add_zero]; exact .refl)
      | (rw [if_pos (by omega), if_pos (by omega)]; exact .refl)
    · refine oq (y_move rfl rfl) rfl (want_some rfl rfl rfl) rfl rfl ?_
      refine oq (y_move rfl rfl) rfl (want_some rfl rfl rfl) rfl rfl ?_
      refine oq (y_move rfl rfl) rfl (want_some rfl rfl rfl) rfl rfl ?_
      first | refine oq (yix rfl rfl rfl) rfl (want_some rfl rfl rfl) rfl rfl ?_ | refine oq (yixI rfl rfl rfl) rfl (want_some rfl rfl rfl) rfl rfl ?_
      refine oq (y_fieldAddr rfl rfl) rfl (want_some rfl rfl rfl) rfl rfl ?_
      refine oq (yld rfl rfl) rfl (want_some rfl rfl rfl) rfl rfl ?_
      refine oq (y_lss rfl rfl rfl) rfl (want_some rfl rfl rfl) rfl rfl ?_
      refine o1 (y_pickF rfl rfl rfl) rfl ?_
      refine nn ?_
      refine W.condp rfl (fun c39 => ?_) (fun c39 => ?_)
      · refine W.exit <| thn_x <| blk_x <| thn_n <| W.region rfl <| qm rfl rfl rfl ?_
        refine pq rfl ?_
        refine qs rfl rfl rfl <| nn ?_
        refine ⟨rfl, k + 1, by omega, by omega, ⟨rfl, rfl, rfl, rfl, rfl, rfl, rfl, rfl, trivial⟩, ?_⟩
        rw [hs1, hs2]
        first
        | (exfalso; omega)
        | (rw [if_neg (by omega), if_neg (by omega), Int.add_zero, Int.add_zero]; exact .refl)
        | (rw [if_neg (by omega), if_pos (by omega), Int.add_zero]; exact .refl)
        | (rw [if_pos (by omega), if_pos (by omega)]; exact .refl)
      · refine W.skip <| thn_n <| W.seq <| W.seq ?_
        refine W.drawP4 (n := 10) rfl ?_
        refine a1 0 (y_move rfl rfl) rfl ?_
        refine a1 1 (y_move rfl rfl) rfl ?_
        refine a1 2 (y_move rfl rfl) rfl ?_
        first | refine a1 3 (yix rfl rfl rfl) rfl ?_ | refine a1 3 (yixI rfl rfl rfl) rfl ?_
        refine a1 4 (y_fieldAddr rfl rfl) rfl ?_
        refine a1 5 (yld rfl rfl) rfl ?_
        refine a1 6 (y_fieldAddr rfl rfl) rfl ?_
        refine a1 7 (yld rfl rfl) rfl ?_
        first | refine a1 8 (yadd rfl rfl rfl) rfl ?_ | refine a1 8 (y_addw rfl rfl rfl) rfl ?_
        refine a1 9 (y_lss rfl rfl rfl) rfl ?_
        refine az ?_
        refine thn_n ?_
        refine W.condp rfl (fun c49 => ?_) (fun c49 => ?_)
        · refine W.drawP4 (n := 11) rfl ?_
          refine a1 0 (y_fieldAddr rfl rfl) rfl ?_
          refine a1 1 (yld rfl rfl) rfl ?_
          refine a1 2 (y_fieldAddr rfl rfl) rfl ?_
          refine a1 3 (yld rfl rfl) rfl ?_
          refine a1 4 (y_move rfl rfl) rfl ?_
          first | refine a1 5 (yix rfl rfl rfl) rfl ?_ | refine a1 5 (yixI rfl rfl rfl) rfl ?_
          refine a1 6 (y_fieldAddr rfl rfl) rfl ?_
          refine a1 7 (yld rfl rfl) rfl ?_
          first | refine a1 8 (yadd rfl rfl rfl) rfl ?_ | refine a1 8 (y_addw rfl rfl rfl) rfl ?_
          refine a1 9 (y_fieldAddr rfl rfl) rfl ?_
          refine ae (i := 10) rfl an rfl rfl (eS rfl rfl rfl ?_)
          refine ⟨.inl (by kernel_rfl), ?_⟩
          refine az ?_
          refine thn_n <| W.seq ?_
          refine W.drawP4 (n := 10) rfl ?_
          refine a1 0 (y_move rfl rfl) rfl ?_
          refine a1 1 (y_move rfl rfl) rfl ?_
          refine a1 2 (y_move rfl rfl) rfl ?_
          first | refine a1 3 (yix rfl rfl rfl) rfl ?_ | refine a1 3 (yixI rfl rfl rfl) rfl ?_
          refine a1 4 (y_fieldAddr rfl rfl) rfl ?_
          refine a1 5 (yld rfl rfl) rfl ?_
          refine a1 6 (y_fieldAddr rfl rfl) rfl ?_
          refine a1 7 (yld rfl rfl) rfl ?_
          first | refine a1 8 (yadd rfl rfl rfl) rfl ?_ | refine a1 8 (y_addw rfl rfl rfl) rfl ?_
          refine a1 9 (y_lss rfl rfl rfl) rfl ?_
          refine az ?_
          refine thn_n ?_
          refine W.condp rfl (fun c69 => ?_) (fun c69 => ?_)
          · refine W.drawP4 (n := 11) rfl ?_
            refine a1 0 (y_fieldAddr rfl rfl) rfl ?_
            refine a1 1 (yld rfl rfl) rfl ?_
            refine a1 2 (y_fieldAddr rfl rfl) rfl ?_
            refine a1 3 (yld rfl rfl) rfl ?_
            refine a1 4 (y_move rfl rfl) rfl ?_
            first | refine a1 5 (yix rfl rfl rfl) rfl ?_ | refine a1 5 (yixI rfl rfl rfl) rfl ?_
            refine a1 6 (y_fieldAddr rfl rfl) rfl ?_
            refine a1 7 (yld rfl rfl) rfl ?_
            first | refine a1 8 (yadd rfl rfl rfl) rfl ?_ | refine a1 8 (y_addw rfl rfl rfl) rfl ?_
            refine a1 9 (y_fieldAddr rfl rfl) rfl ?_
            refine ae (i := 10) rfl an rfl rfl (eS rfl rfl rfl ?_)
            refine ⟨.inl (by kernel_rfl), ?_⟩
            refine az ?_
            refine blk_n <| thn_n <| W.region rfl <| qm rfl rfl rfl ?_
            refine pq rfl ?_
            refine qs rfl rfl rfl <| nn ?_
            refine ⟨rfl, k + 1, by omega, by omega, ⟨rfl, rfl, rfl, rfl, rfl, rfl, rfl, rfl, trivial⟩, ?_⟩
            rw [hs1, hs2]
            first
            | (exfalso; omega)
            | (rw [if_neg (by omega), if_neg (by omega), Int.add_zero, Int.add_zero]; exact .refl)
            | (rw [if_neg (by omega), if_pos (by omega), Int.add_zero]; exact .refl)
            | (rw [if_pos (by omega), if_pos (by omega)]; exact .refl)
          · refine W.skip <| blk_n <| thn_n <| W.region rfl <| qm rfl rfl rfl ?_
            refine pq rfl ?_
            refine qs rfl rfl rfl <| nn ?_
            refine ⟨rfl, k + 1, by omega, by omega, ⟨rfl, rfl, rfl, rfl, rfl, rfl, rfl, rfl, trivial⟩, ?_⟩
            rw [hs1, hs2]
            first
            | (exfalso; omega)
            | (rw [if_neg (by omega), if_neg (by omega), Int.add_zero, Int.add_zero]; exact .refl)
            | (rw [if_neg (by omega), if_pos (by omega), Int.add_zero]; exact .refl)
            | (rw [if_pos (by omega), if_pos (by omega)]; exact .refl)
        · refine W.skip <| thn_n <| W.seq ?_
          refine W.drawP4 (n := 10) rfl ?_
          refine a1 0 (y_move rfl rfl) rfl ?_
          refine a1 1 (y_move rfl rfl) rfl ?_
          refine a1 2 (y_move rfl rfl) rfl ?_
          first | refine a1 3 (yix rfl rfl rfl) rfl ?_ | refine a1 3 (yixI rfl rfl rfl) rfl ?_
          refine a1 4 (y_fieldAddr rfl rfl) rfl ?_
          refine a1 5 (yld rfl rfl) rfl ?_
          refine a1 6 (y_fieldAddr rfl rfl) rfl ?_
          refine a1 7 (yld rfl rfl) rfl ?_
          first | refine a1 8 (yadd rfl rfl rfl) rfl ?_ | refine a1 8 (y_addw rfl rfl rfl) rfl ?_
          refine a1 9 (y_lss rfl rfl rfl) rfl ?_
          refine az ?_
          refine thn_n ?_
          refine W.condp rfl (fun c69 => ?_) (fun c69 => ?_)
          · refine W.drawP4 (n := 11) rfl ?_
            refine a1 0 (y_fieldAddr rfl rfl) rfl ?_
            refine a1 1 (yld rfl rfl) rfl ?_
            refine a1 2 (y_fieldAddr rfl rfl) rfl ?_
            refine a1 3 (yld rfl rfl) rfl ?_
            refine a1 4 (y_move rfl rfl) rfl ?_
            first | refine a1 5 (yix rfl rfl rfl) rfl ?_ | refine a1 5 (yixI rfl rfl rfl) rfl ?_
            refine a1 6 (y_fieldAddr rfl rfl) rfl ?_
            refine a1 7 (yld rfl rfl) rfl ?_
            first | refine a1 8 (yadd rfl rfl rfl) rfl ?_ | refine a1 8 (y_addw rfl rfl rfl) rfl ?_
            refine a1 9 (y_fieldAddr rfl rfl) rfl ?_
            refine ae (i := 10) rfl an rfl rfl (eS rfl rfl rfl ?_)
            refine ⟨.inl (by kernel_rfl), ?_⟩
            refine az ?_
            refine blk_n <| thn_n <| W.region rfl <| qm rfl rfl rfl ?_
            refine pq rfl ?_
            refine qs rfl rfl rfl <| nn ?_
            refine ⟨rfl, k + 1, by omega, by omega, ⟨rfl, rfl, rfl, rfl, rfl, rfl, rfl, rfl, trivial⟩, ?_⟩
            rw [hs1, hs2]
            first
            | (exfalso; omega)
            | (rw [if_neg (by omega), if_neg (by omega), Int.add_zero, Int.add_zero]; exact .refl)
            | (rw [if_neg (by omega), if_pos (by omega), Int.add_zero]; exact .refl)
            | (rw [if_pos (by omega), if_pos (by omega)]; exact .refl)
          · refine W.skip <| blk_n <| thn_n <| W.region rfl <| qm rfl rfl rfl ?_
            refine pq rfl ?_
            refine qs rfl rfl rfl <| nn ?_
            refine ⟨rfl, k + 1, by omega, by omega, ⟨rfl, rfl, rfl, rfl, rfl, rfl, rfl, rfl, trivial⟩, ?_⟩
            rw [hs1, hs2]
            first
            | (exfalso; omega)
            | (rw [if_neg (by omega), if_neg (by omega), Int.add_zero, Int.add_zero]; exact .refl)
            | (rw [if_neg (by omega), if_pos (by omega), Int.add_zero]; exact .refl)
            | (rw [if_pos (by omega), if_pos (by omega)]; exact .refl)
  · have hke : k = l.length := by omega
    subst hke
    refine W.exit <| thn_x <| thn_x <| blk_x <| thn_n <| W.seq <| W.region rfl ?_
    refine lq rfl ?_
    first | refine Ops.stoW ?_ | refine Ops.stoA ?_
    refine nn <| W.ret ?_
    exact lvc (hv := rAgg rNil) ⟨rfl, by repeat (first | exact Shut.nil | refine Shut.cons rfl ?_)⟩
end Go.Mus

/- Plants beside each other; whether plants are equal, or vast; three plants. Conditions: none; over the given program. -/
namespace Go.Mus
set_option maxRecDepth 100000
set_option maxHeartbeats 40000000
theorem vast_fn (main : Side) (h : Hp) (fs : List Fl) (ss : List St) (vf vs : Value) (hf : Sl h Fl.row vf fs) (hs : Sl h St.row vs ss) : Pu prog main n_law_vast #[.agg #[vf, vs]] h (.bool (decide (20 < fs.length) || decide (20 < ss.length))) := by
 obtain ⟨a, cap, rfl⟩ := hf.isSl
 obtain ⟨a', cap', rfl⟩ := hs.isSl
 refine Fnc.of_body at_law_vast rfl (by show 1 ≤ 13; decide) [(0, .agg #[.slice a fs.length cap, .slice a' ss.length cap'])] ⟨rfl, trivial⟩ ?_
 refine W.seq <| W.region rfl ?_
 refine Ops.box (cs := #[.slice a fs.length cap, .slice a' ss.length cap']) (fun β1 => ?_) rfl rfl rfl
 refine qs rfl rfl rfl <| nn <| W.seq <| W.region rfl ?_
 refine fq rfl ?_
 refine dq rfl ?_
 refine o1 (y_len rfl rfl) rfl ?_
 refine o1 (y_gtr rfl rfl rfl) rfl ?_
 refine qm rfl rfl rfl ?_
 refine Ops.ask (fun a1_5 => ?_) (fun a1_5 => ?_)
 ·refine Ops.no ?_
  refine Ops.no ?_
  refine Ops.no ?_
  refine Ops.no ?_
  refine o1 (y_pickT rfl rfl rfl) rfl ?_
  refine qs rfl rfl rfl <| nn <| W.ret ?_
  refine lvp (hs := .cons rfl .nil) ?_
  first
  | (have e : decide (20 < fs.length) = true := decide_eq_true (by omega); rw [e]; rfl)
  | (have e : decide (20 < fs.length) = false := decide_eq_false (by omega); rw [e, Bool.false_or]; exact congrArg Value.bool (decide_eq_decide.2 (by omega)))
 ·refine oq (y_fieldAddr rfl rfl) rfl (want_some rfl rfl rfl) rfl rfl ?_
  refine oq (yld rfl rfl) rfl (want_some rfl rfl rfl) rfl rfl ?_
  refine oq (y_len rfl rfl) rfl (want_some rfl rfl rfl) rfl rfl ?_
  refine oq (y_gtr rfl rfl rfl) rfl (want_some rfl rfl rfl) rfl rfl ?_
  refine o1 (y_pickF rfl rfl rfl) rfl ?_
  refine qs rfl rfl rfl <| nn <| W.ret ?_
  refine lvp (hs := .cons rfl .nil) ?_
  first
  | (have e : decide (20 < fs.length) = true := decide_eq_true (by omega); rw [e]; rfl)
  | (have e : decide (20 < fs.length) = false := decide_eq_false (by omega); rw [e, Bool.false_or]; exact congrArg Value.bool (decide_eq_decide.2 (by omega)))

theorem EqPlants_fn (main : Side) (h : Hp) (fs : List Fl) (ss : List St) (vf vs vf' vs' : Value) (hf : Sl h Fl.row vf fs) (hs : Sl h St.row vs ss) (hf' : Sl h Fl.row vf' fs) (hs' : Sl h St.row vs' ss) (hn : fs.length ≤ 100000 ∧ ss.length ≤ 100000) : Pu prog main n_kit_EqPlants #[.agg #[vf, vs], .agg #[vf', vs']] h (.bool true) := by
 obtain ⟨a, cap, rfl⟩ := hf.isSl
 obtain ⟨a', cap', rfl⟩ := hs.isSl
 obtain ⟨a2, cap2, rfl⟩ := hf'.isSl
 obtain ⟨a3, cap3, rfl⟩ := hs'.isSl
 refine Fnc.of_body at_kit_EqPlants rfl (by show 2 ≤ 59; decide) [(0, .agg #[.slice a fs.length cap, .slice a' ss.length cap']), (1, .agg #[.slice a2 fs.length cap2, .slice a3 ss.length cap3])] ⟨rfl, rfl, trivial⟩ ?_
 refine W.seq <| W.region rfl ?_
 refine Ops.box (cs := #[.slice a fs.length cap, .slice a' ss.length cap']) (fun β2 => ?_) rfl rfl rfl
 refine Ops.box (cs := #[.slice a2 fs.length cap2, .slice a3 ss.length cap3]) (fun β3 => ?_) rfl rfl rfl
 refine qs rfl rfl rfl <| nn <| W.seq <| W.seq <| W.region rfl ?_
 refine fq rfl ?_
 refine dq rfl ?_
 refine o1 (y_len rfl rfl) rfl ?_
 refine fq rfl ?_
 refine dq rfl ?_
 refine o1 (y_len rfl rfl) rfl ?_
 refine o1 ((y_neq rfl rfl rfl).eq (u := .bool false) (by simp)) rfl ?_
 refine qm rfl rfl rfl ?_
 refine oq (y_fieldAddr rfl rfl) rfl (want_some rfl rfl rfl) rfl rfl ?_
 refine oq (yld rfl rfl) rfl (want_some rfl rfl rfl) rfl rfl ?_
 refine oq (y_len rfl rfl) rfl (want_some rfl rfl rfl) rfl rfl ?_
 refine oq (y_fieldAddr rfl rfl) rfl (want_some rfl rfl rfl) rfl rfl ?_
 refine oq (yld rfl rfl) rfl (want_some rfl rfl rfl) rfl rfl ?_
 refine oq (y_len rfl rfl) rfl (want_some rfl rfl rfl) rfl rfl ?_
 refine oq ((y_neq rfl rfl rfl).eq (u := .bool false) (by simp)) rfl (want_some rfl rfl rfl) rfl rfl ?_
 refine o1 (y_pickF rfl rfl rfl) rfl ?_
 refine nn ?_
 refine W.condF ?_
 refine W.skip <| thn_n <| W.seq <| W.seq <| W.region rfl <| qs rfl rfl rfl <| nn <| W.block ?_
 refine W.loop (σ := Nat) (fun k => k ≤ fs.length) (fun k => [(5, I k), (3, .pointer (some ⟨β3, 0, none⟩)), (2, .pointer (some ⟨β2, 0, none⟩))]) (fun _ => [(β3, .cells #[.slice a2 fs.length cap2, .slice a3 ss.length cap3] t_Plant (0, 0)), (β2, .cells #[.slice a fs.length cap, .slice a' ss.length cap'] t_Plant (0, 0))]) (fun k => fs.length - k) 0 (Nat.zero_le _) ⟨rfl, rfl, rfl, trivial⟩ .refl ?_
 rintro k hk
 refine W.seq <| W.seq <| W.region rfl <| qm rfl rfl rfl ?_
 refine fq rfl ?_
 refine dq rfl ?_
 refine o1 (y_len rfl rfl) rfl ?_
 refine o1 (y_lss rfl rfl rfl) rfl ?_
 refine nn ?_
 refine W.condp rfl (fun c27 => ?_) (fun c27 => ?_)
 ·obtain ⟨p, hp, -⟩ := has (show k < fs.length by omega)
  obtain ⟨b, off, c, E, fz, rfl, hb, hx, hy, hz⟩ := hf.at hp
  have hx1 : c.extract (off + k * 4) (off + k * 4 + 4) = #[I p.pl, I p.lo, I p.hi, I p.co] := hx
  clear hx hz
  obtain ⟨b', off', c', E', fz', rfl, hb', hx, hy', hz⟩ := hf'.at hp
  have hx2 : c'.extract (off' + k * 4) (off' + k * 4 + 4) = #[I p.pl, I p.lo, I p.hi, I p.co] := hx
  clear hx hz
  refine W.skip <| thn_n <| W.seq <| W.block <| W.seq ?_
  refine W.drawP2 (n := 11) rfl ?_
  refine a1 0 (y_fieldAddr rfl rfl) rfl ?_
  refine a1 1 (yld rfl rfl) rfl ?_
  refine a1 2 (y_move rfl rfl) rfl ?_
  first | refine a1 3 (yix rfl rfl rfl) rfl ?_ | refine a1 3 (yixI rfl rfl rfl) rfl ?_
  first | refine a1 4 (yldW rfl rfl) rfl ?_ | refine a1 4 (yldA rfl rfl) rfl ?_
  refine a1 5 (y_fieldAddr rfl rfl) rfl ?_
  refine a1 6 (yld rfl rfl) rfl ?_
  refine a1 7 (y_move rfl rfl) rfl ?_
  first | refine a1 8 (yix rfl rfl rfl) rfl ?_ | refine a1 8 (yixI rfl rfl rfl) rfl ?_
  first | refine a1 9 (yldW rfl rfl) rfl ?_ | refine a1 9 (yldA rfl rfl) rfl ?_
  refine a1 10 (Yv.eq (u := .bool false) (y_neA [p.pl, p.lo, p.hi, p.co] [p.pl, p.lo, p.hi, p.co] rfl rfl rfl rfl rfl rfl rfl) (by simp)) rfl ?_
  refine az ?_
  refine thn_n ?_
  refine W.condF ?_
  refine W.skip <| blk_n <| thn_n <| W.region rfl <| qm rfl rfl rfl ?_
  refine pq rfl ?_
  refine qs rfl rfl rfl <| nn ?_
  exact ⟨rfl, k + 1, by omega, by omega, ⟨rfl, rfl, rfl, trivial⟩, .refl⟩
 ·refine W.exit <| thn_x <| thn_x <| blk_x <| thn_n <| W.seq <| W.seq <| W.region rfl <| qs rfl rfl rfl <| Ops.nil ?_
  refine thn_n <| W.block ?_
  refine W.loop (σ := Nat) (fun k => k ≤ ss.length) (fun k => [(6, I k), (3, .pointer (some ⟨β3, 0, none⟩)), (2, .pointer (some ⟨β2, 0, none⟩))]) (fun _ => [(β3, .cells #[.slice a2 fs.length cap2, .slice a3 ss.length cap3] t_Plant (0, 0)), (β2, .cells #[.slice a fs.length cap, .slice a' ss.length cap'] t_Plant (0, 0))]) (fun k => ss.length - k) 0 (Nat.zero_le _) ⟨rfl, rfl, rfl, trivial⟩ .refl ?_
  rintro m hm
  refine W.seq <| W.seq <| W.region rfl <| qm rfl rfl rfl ?_
  refine fq rfl ?_
  refine dq rfl ?_
  refine o1 (y_len rfl rfl) rfl ?_
  refine o1 (y_lss rfl rfl rfl) rfl ?_
  refine nn ?_
  refine W.condp rfl (fun c45 => ?_) (fun c45 => ?_)
  ·obtain ⟨p, hp, -⟩ := has (show m < ss.length by omega)
   obtain ⟨b, off, c, E, fz, rfl, hb, hx, hy, hz⟩ := hs.at hp
   have hx1 : c.extract (off + m * 3) (off + m * 3 + 3) = #[I p.day, I p.co, I p.wa] := hx
   clear hx hz
   obtain ⟨b', off', c', E', fz', rfl, hb', hx, hy', hz⟩ := hs'.at hp
   have hx2 : c'.extract (off' + m * 3) (off' + m * 3 + 3) = #[I p.day, I p.co, I p.wa] := hx
   clear hx hz
   refine W.skip <| thn_n <| W.seq <| W.block <| W.seq ?_
   refine W.drawP2 (n := 11) rfl ?_
   refine a1 0 (y_fieldAddr rfl rfl) rfl ?_
   refine a1 1 (yld rfl rfl) rfl ?_
   refine a1 2 (y_move rfl rfl) rfl ?_
   first | refine a1 3 (yix rfl rfl rfl) rfl ?_ | refine a1 3 (yixI rfl rfl rfl) rfl ?_
   first | refine a1 4 (yldW rfl rfl) rfl ?_ | refine a1 4 (yldA rfl rfl) rfl ?_
   refine a1 5 (y_fieldAddr rfl rfl) rfl ?_
   refine a1 6 (yld rfl rfl) rfl ?_
   refine a1 7 (y_move rfl rfl) rfl ?_
   first | refine a1 8 (yix rfl rfl rfl) rfl ?_ | refine a1 8 (yixI rfl rfl rfl) rfl ?_
   first | refine a1 9 (yldW rfl rfl) rfl ?_ | refine a1 9 (yldA rfl rfl) rfl ?_
   refine a1 10 (Yv.eq (u := .bool false) (y_neA [p.day, p.co, p.wa] [p.day, p.co, p.wa] rfl rfl rfl rfl rfl rfl rfl) (by simp)) rfl ?_
   refine az ?_
   refine thn_n ?_
   refine W.condF ?_
   refine W.skip <| blk_n <| thn_n <| W.region rfl <| qm rfl rfl rfl ?_
   refine pq rfl ?_
   refine qs rfl rfl rfl <| nn ?_
   exact ⟨rfl, m + 1, by omega, by omega, ⟨rfl, rfl, rfl, trivial⟩, .refl⟩
  ·refine W.exit <| thn_x <| thn_x <| blk_x <| thn_n <| W.seq <| W.region rfl <| qs rfl rfl rfl <| nn ?_
   refine W.ret ?_
   exact lvp (hs := .cons rfl (.cons rfl .nil)) rfl

/-- A plant as an element. -/
structure Pl where
 f : Sv
 s : Sv
def Pl.row (p : Pl) : List Value := [.slice p.f.a p.f.n p.f.cap, .slice p.s.a p.s.n p.s.cap]
instance : Rw Pl.row 2 := ⟨fun _ => rfl, fun _ => rfl⟩
theorem set3 {c : Array Value} {l : List St} {j : Nat} {p : St} (q : St) (h : Part c 0 (flat St.row l)) (hj : l[j]? = some p) : Part (((c.setIfInBounds (j * 3 + 0) (I q.day)).setIfInBounds (j * 3 + 1) (I q.co)).setIfInBounds (j * 3 + 2) (I q.wa)) 0 (flat St.row (l.set j q)) := by
 have hlt := lt_of_get hj
 have h1 := h.setR ⟨q.day, p.co, p.wa⟩ 0 (I q.day) (by decide) hj rfl
 have h2 := h1.setR ⟨q.day, q.co, p.wa⟩ 1 (I q.co) (by decide) (List.getElem?_set_self hlt) rfl
 have h3 := h2.setR q 2 (I q.wa) (by decide) (List.getElem?_set_self (by simpa using hlt)) rfl
 rwa [List.set_set, List.set_set] at h3
theorem set4 {c : Array Value} {l : List Fl} {j : Nat} {p : Fl} (q : Fl) (h : Part c 0 (flat Fl.row l)) (hj : l[j]? = some p) : Part ((((c.setIfInBounds (j * 4 + 0) (I q.pl)).setIfInBounds (j * 4 + 1) (I q.lo)).setIfInBounds (j * 4 + 2) (I q.hi)).setIfInBounds (j * 4 + 3) (I q.co)) 0 (flat Fl.row (l.set j q)) := by
 have hlt := lt_of_get hj
 have h1 := h.setR ⟨q.pl, p.lo, p.hi, p.co⟩ 0 (I q.pl) (by decide) hj rfl
 have h2 := h1.setR ⟨q.pl, q.lo, p.hi, p.co⟩ 1 (I q.lo) (by decide) (List.getElem?_set_self hlt) rfl
 have h3 := h2.setR ⟨q.pl, q.lo, q.hi, p.co⟩ 2 (I q.hi) (by decide) (List.getElem?_set_self (by simpa using hlt)) rfl
 have h4 := h3.setR q 3 (I q.co) (by decide) (List.getElem?_set_self (by simpa using hlt)) rfl
 rwa [List.set_set, List.set_set, List.set_set] at h4

theorem several_fn (main : Side) (h : Hp) (nums : List Int) (lv : Value) (b : Nat) (s0 : Int) (fs : List Fl) (ss : List St) (f : Fl) (st : St) (vf vs : Value) (hl : Sl h rowI lv nums) (hf : Sl h Fl.row vf fs) (hs : Sl h St.row vs ss) : Fnc prog main n_law_several #[.agg #[vf, vs], f.val, st.val, .pointer (some ⟨b, 0, none⟩)] h [(b, hatO lv 0 s0)]
  (fun v A => ∃ (β : Nat) (p0 p1 p2 : Pl) (fs1 : List Fl) (ss1 : List St) (fs2 : List Fl) (ss2 : List St) (Sf1 Ss1 Sf2 Ss2 : Frag) (k : Nat) (s' : Int), v = .slice (some ⟨β, 0, none⟩) 3 3 ∧ (vf = p0.f.val ∧ vs = p0.s.val) ∧ (Os t_Floor Fl.row p1.f.val fs1 Sf1 ∧ Os t_Strike St.row p1.s.val ss1 Ss1) ∧ (Os t_Floor Fl.row p2.f.val fs2 Sf2 ∧ Os t_Strike St.row p2.s.val ss2 Ss2) ∧ (ckPlant fs1 ss1 = 0 ∧ ss1.length ≤ 3 ∧ fs2.length = fs1.length ∧ ss2.length = ss1.length) ∧ k ≤ 200 ∧ Sb ((β, .cells (flat Pl.row [p0, p1, p2]).toArray t_Plant (0, 0)) :: (b, hatO lv k s') :: (Sf1 ++ (Ss1 ++ (Sf2 ++ Ss2)))) A) := by
 obtain ⟨a, cap, rfl⟩ := hf.isSl
 obtain ⟨a', cap', rfl⟩ := hs.isSl
 refine Fnc.of_body at_law_several rfl (by show 4 ≤ 39; decide) [(0, .agg #[.slice a fs.length cap, .slice a' ss.length cap']), (1, f.val), (2, st.val), (3, .pointer (some ⟨b, 0, none⟩))] ⟨rfl, rfl, rfl, rfl, trivial⟩ ?_
 refine W.seq <| W.region rfl ?_
 refine Ops.box (cs := #[.slice a fs.length cap, .slice a' ss.length cap']) (fun β4 => ?_) rfl rfl rfl
 refine Ops.box (cs := #[I f.pl, I f.lo, I f.hi, I f.co]) (fun β5 => ?_) rfl rfl rfl
 refine Ops.box (cs := #[I st.day, I st.co, I st.wa]) (fun β6 => ?_) rfl rfl rfl
 refine qs rfl rfl rfl <| nn <| W.seq <| W.region rfl <| qm rfl rfl rfl ?_
 refine cg (A := [(b, _)]) (.tail (.tail (.tail .head))) (fun h' hE hL => PlantOf_fn _ h' nums lv b s0 3 2 (hl.ext hE) (by decide) (by decide)) (fun v A' hv => ?_)
 obtain ⟨vf1, vs1, fs1, ss1, Sf1, Ss1, k1, s1, rfl, ⟨hOf1, hOs1⟩, ⟨hck, hn3, -⟩, hk1, hsb⟩ := hv
 have hnf := (hall_ck hck).nf
 obtain ⟨a1, cap1, rfl⟩ := hOf1.isSl
 obtain ⟨c1, dap1, rfl⟩ := hOs1.isSl
 refine Ops.sb (F' := (β6, .cells #[I st.day, I st.co, I st.wa] t_Strike (0, 0)) :: (β5, .cells #[I f.pl, I f.lo, I f.hi, I f.co] t_Floor (0, 0)) :: (β4, .cells #[.slice a fs.length cap, .slice a' ss.length cap'] t_Plant (0, 0)) :: ((b, hatO lv k1 s1) :: (Sf1 ++ Ss1))) (.cons (.cons (.cons (hsb.trans (Sb.right .refl .nil))))) ?_
 refine Ops.new (fun β9 => ?_)
 first | refine Ops.stoW ?_ | refine Ops.stoA ?_
 refine nn <| W.seq <| W.region rfl ?_
 refine lq rfl ?_
 refine c0 (fun h' hE hL => DupPlant_fn _ h' fs1 ss1 _ _ (hOf1.sl fun b' o hb => hL b' o (.tail _ (.tail _ (.tail _ (.tail _ (.tail _ (List.mem_append_left _ hb))))))) (hOs1.sl fun b' o hb => hL b' o (.tail _ (.tail _ (.tail _ (.tail _ (.tail _ (List.mem_append_right _ hb))))))) (by omega)) (fun v A' hv => ?_)
 obtain ⟨vf2, vs2, Sf2, Ss2, rfl, ⟨hOf2, hOs2⟩, hsb2⟩ := hv
 obtain ⟨a2, cap2, rfl⟩ := hOf2.isSl
 obtain ⟨c2, dap2, rfl⟩ := hOs2.isSl
 refine Ops.sb (F' := Ss2 ++ (Sf2 ++ ((β9, .cells #[.slice a1 fs1.length cap1, .slice c1 ss1.length dap1] t_Plant (0, 0)) :: (β6, .cells #[I st.day, I st.co, I st.wa] t_Strike (0, 0)) :: (β5, .cells #[I f.pl, I f.lo, I f.hi, I f.co] t_Floor (0, 0)) :: (β4, .cells #[.slice a fs.length cap, .slice a' ss.length cap'] t_Plant (0, 0)) :: ((b, hatO lv k1 s1) :: (Sf1 ++ Ss1))))) (.trans (.of_perm (by rw [← List.append_assoc]; exact (List.perm_append_comm).append_right _)) (hsb2.app .refl)) ?_
 refine Ops.new (fun β10 => ?_)
 first | refine Ops.stoW ?_ | refine Ops.stoA ?_
 refine nn <| W.seq ?_
 refine W.sb (F' := (β10, .cells #[.slice a2 fs1.length cap2, .slice c2 ss1.length dap2] t_Plant (0, 0)) :: (β9, .cells #[.slice a1 fs1.length cap1, .slice c1 ss1.length dap1] t_Plant (0, 0)) :: (β6, .cells #[I st.day, I st.co, I st.wa] t_Strike (0, 0)) :: (β5, .cells #[I f.pl, I f.lo, I f.hi, I f.co] t_Floor (0, 0)) :: (β4, .cells #[.slice a fs.length cap, .slice a' ss.length cap'] t_Plant (0, 0)) :: (b, hatO lv k1 s1) :: (Ss2 ++ (Sf2 ++ (Sf1 ++ Ss1)))) (.of_perm (show List.Perm _ ((β10, .cells #[.slice a2 fs1.length cap2, .slice c2 ss1.length dap2] t_Plant (0, 0)) :: (Ss2 ++ (Sf2 ++ ((β9, .cells #[.slice a1 fs1.length cap1, .slice c1 ss1.length dap1] t_Plant (0, 0)) :: (β6, .cells #[I st.day, I st.co, I st.wa] t_Strike (0, 0)) :: (β5, .cells #[I f.pl, I f.lo, I f.hi, I f.co] t_Floor (0, 0)) :: (β4, .cells #[.slice a fs.length cap, .slice a' ss.length cap'] t_Plant (0, 0)) :: (b, hatO lv k1 s1) :: (Sf1 ++ Ss1))))) from perm_cnt fun y => by simp only [List.count_append, List.count_cons, List.count_nil]; omega)) ?_
 refine W.seq <| W.region rfl ?_
 refine fq rfl ?_
 refine dq rfl ?_
 refine o1 (y_len rfl rfl) rfl ?_
 refine qs rfl rfl rfl <| nn <| W.seq <| W.region rfl <| qm rfl rfl rfl ?_
 refine o1 (y_gtr rfl rfl rfl) rfl ?_
 refine qm rfl rfl rfl ?_
 refine Ops.ask (fun a4_3 => ?_) (fun a4_3 => ?_)
 ·refine oq (y_move rfl rfl) rfl (want_some rfl rfl rfl) rfl rfl ?_
  refine cg (A := [(b, _)]) (.tail (.tail (.tail (.tail (.tail .head))))) (fun h' hE hL => Seldom_fn _ h' nums lv b k1 s1 2 (hl.ext hE) (by omega) (by decide)) (fun v A' hv => ?_) (hw := want_some rfl rfl rfl)
  obtain ⟨r, s2, rfl, hsb3⟩ := hv
  refine Ops.sb (F' := (β10, .cells #[.slice a2 fs1.length cap2, .slice c2 ss1.length dap2] t_Plant (0, 0)) :: (β9, .cells #[.slice a1 fs1.length cap1, .slice c1 ss1.length dap1] t_Plant (0, 0)) :: (β6, .cells #[I st.day, I st.co, I st.wa] t_Strike (0, 0)) :: (β5, .cells #[I f.pl, I f.lo, I f.hi, I f.co] t_Floor (0, 0)) :: (β4, .cells #[.slice a fs.length cap, .slice a' ss.length cap'] t_Plant (0, 0)) :: (b, hatO lv (k1 + 1) s2) :: (Ss2 ++ (Sf2 ++ (Sf1 ++ Ss1)))) (.cons (.cons (.cons (.cons (.cons (hsb3.app .refl)))))) ?_
  refine o1 (y_pickT rfl rfl rfl) rfl ?_
  refine nn ?_
  refine W.cond rfl (fun c24 => ?_) (fun c24 => ?_)
  ·obtain ⟨βs, cs2, Js, hsa, hSse, -, hcz, hcl, hPs, hJs⟩ := hOs2.open (by omega)
   subst hsa hSse
   obtain ⟨j, hj⟩ : ∃ j, ss1.length = j + 1 := ⟨ss1.length - 1, by omega⟩
   obtain ⟨p, hp, -⟩ := has (show j < ss1.length by omega)
   have hPs2 := set3 st hPs hp
   have hsz : 0 + j * 3 + 3 ≤ cs2.size := by omega
   generalize hhat : hatO lv (k1 + 1) s2 = ho
   have hho : ∃ k s, k ≤ 200 ∧ ho = hatO lv k s := ⟨k1 + 1, s2, by omega, hhat.symm⟩
   refine W.region rfl ?_
   refine fq rfl ?_
   refine dq rfl ?_
   refine qm rfl rfl rfl ?_
   refine o1 ((ysub rfl rfl rfl).eq (u := I j) (congrArg I (by omega))) rfl ?_
   refine lq rfl ?_
   refine xq rfl ?_
   refine Ops.stoA (vs := #[I st.day, I st.co, I st.wa]) (n := 3) (hl := .tail (.tail (.tail (.tail (.tail (.tail .head)))))) (hn := rfl) (hc := hsz) ?_
   refine nn <| W.seq <| W.region rfl ?_
   refine lq rfl ?_
   refine lq rfl ?_
   refine lq rfl ?_
   first
   | refine Ops.bsl (cs := (flat Pl.row [⟨⟨a, fs.length, cap⟩, ⟨a', ss.length, cap'⟩⟩, ⟨⟨a1, fs1.length, cap1⟩, ⟨c1, ss1.length, dap1⟩⟩, ⟨⟨a2, fs1.length, cap2⟩, ⟨some ⟨βs, 0, none⟩, ss1.length, dap2⟩⟩]).toArray) (fun β38 => ?_) rfl (hf := by kernel_rfl)
   | refine Ops.bsl (cs := (flat Pl.row [⟨⟨a, fs.length, cap⟩, ⟨a', ss.length, cap'⟩⟩, ⟨⟨a1, fs1.length, cap1⟩, ⟨c1, ss1.length, dap1⟩⟩, ⟨⟨some ⟨βf, 0, none⟩, fs1.length, cap2⟩, ⟨c2, ss1.length, dap2⟩⟩]).toArray) (fun β38 => ?_) rfl (hf := by kernel_rfl)
   refine qs rfl rfl rfl <| nn <| W.ret ?_
   obtain ⟨k2, s3, hk2, rfl⟩ := hho
   exact lvt (vs := [_]) ⟨β38, ⟨⟨a, fs.length, cap⟩, ⟨a', ss.length, cap'⟩⟩, ⟨⟨a1, fs1.length, cap1⟩, ⟨c1, ss1.length, dap1⟩⟩, ⟨⟨a2, fs1.length, cap2⟩, ⟨some ⟨βs, 0, none⟩, ss1.length, dap2⟩⟩, fs1, ss1, fs1, ss1.set j st, Sf1, Ss1, Sf2, (βs, .cells (putAll cs2 (0 + j * 3) [I st.day, I st.co, I st.wa]) t_Strike (0, 0)) :: Js, k2, s3, rfl, ⟨rfl, rfl⟩, ⟨hOf1, hOs1⟩, ⟨hOf2, .inr ⟨βs, _, dap2, Js, by rw [List.length_set], rfl, by rw [putAll_size]; exact hcz, by rw [List.length_set]; exact hcl, by rw [Nat.zero_add]; exact hPs2, hJs⟩⟩, ⟨hck, hn3, rfl, by simp⟩, hk2, Sb.cons ⟨[(β10, .cells #[.slice a2 fs1.length cap2, .slice (some ⟨βs, 0, none⟩) ss1.length dap2] t_Plant (0, 0)), (β9, .cells #[.slice a1 fs1.length cap1, .slice c1 ss1.length dap1] t_Plant (0, 0)), (β6, .cells #[I st.day, I st.co, I st.wa] t_Strike (0, 0)), (β5, .cells #[I f.pl, I f.lo, I f.hi, I f.co] t_Floor (0, 0)), (β4, .cells #[.slice a fs.length cap, .slice a' ss.length cap'] t_Plant (0, 0))], perm_cnt fun y => by simp only [List.count_append, List.count_cons, List.count_nil, List.cons_append, List.append_eq]; omega, .cons rfl (.cons rfl (.cons rfl (.cons rfl (.cons rfl .nil))))⟩⟩
  ·first
   | generalize hhat : hatO lv (k1 + 1) s2 = ho
   | generalize hhat : hatO lv k1 s1 = ho
   have hho : ∃ k s, k ≤ 200 ∧ ho = hatO lv k s := by first | exact ⟨k1 + 1, s2, by omega, hhat.symm⟩ | exact ⟨k1, s1, by omega, hhat.symm⟩
   obtain ⟨βf, cf2, Jf, hfa, hSfe, -, hcz, hcl, hPf, hJf⟩ := hOf2.open (by omega)
   subst hfa hSfe
   obtain ⟨p, hp, -⟩ := has (show 0 < fs1.length by omega)
   have hPf2 := set4 f hPf hp
   have hsz : 0 + Int.toNat 0 * 4 + 4 ≤ cf2.size := by simp; omega
   refine W.region rfl ?_
   refine fq rfl ?_
   refine dq rfl ?_
   refine lq rfl ?_
   refine xq rfl ?_
   refine Ops.stoA (vs := #[I f.pl, I f.lo, I f.hi, I f.co]) (n := 4) (hl := .tail (.tail (.tail (.tail (.tail (.tail (.app .head))))))) (hn := rfl) (hc := hsz) ?_
   refine nn <| W.seq <| W.region rfl ?_
   refine lq rfl ?_
   refine lq rfl ?_
   refine lq rfl ?_
   first
   | refine Ops.bsl (cs := (flat Pl.row [⟨⟨a, fs.length, cap⟩, ⟨a', ss.length, cap'⟩⟩, ⟨⟨a1, fs1.length, cap1⟩, ⟨c1, ss1.length, dap1⟩⟩, ⟨⟨a2, fs1.length, cap2⟩, ⟨some ⟨βs, 0, none⟩, ss1.length, dap2⟩⟩]).toArray) (fun β38 => ?_) rfl (hf := by kernel_rfl)
   | refine Ops.bsl (cs := (flat Pl.row [⟨⟨a, fs.length, cap⟩, ⟨a', ss.length, cap'⟩⟩, ⟨⟨a1, fs1.length, cap1⟩, ⟨c1, ss1.length, dap1⟩⟩, ⟨⟨some ⟨βf, 0, none⟩, fs1.length, cap2⟩, ⟨c2, ss1.length, dap2⟩⟩]).toArray) (fun β38 => ?_) rfl (hf := by kernel_rfl)
   refine qs rfl rfl rfl <| nn <| W.ret ?_
   obtain ⟨k2, s3, hk2, rfl⟩ := hho
   exact lvt (vs := [_]) ⟨β38, ⟨⟨a, fs.length, cap⟩, ⟨a', ss.length, cap'⟩⟩, ⟨⟨a1, fs1.length, cap1⟩, ⟨c1, ss1.length, dap1⟩⟩, ⟨⟨some ⟨βf, 0, none⟩, fs1.length, cap2⟩, ⟨c2, ss1.length, dap2⟩⟩, fs1, ss1, fs1.set 0 f, ss1, Sf1, Ss1, (βf, .cells (putAll cf2 (0 + Int.toNat 0 * 4) [I f.pl, I f.lo, I f.hi, I f.co]) t_Floor (0, 0)) :: Jf, Ss2, k2, s3, rfl, ⟨rfl, rfl⟩, ⟨hOf1, hOs1⟩, ⟨.inr ⟨βf, _, cap2, Jf, by rw [List.length_set], rfl, by rw [putAll_size]; exact hcz, by rw [List.length_set]; exact hcl, hPf2, hJf⟩, hOs2⟩, ⟨hck, hn3, by simp, rfl⟩, hk2, Sb.cons ⟨[(β10, .cells #[.slice (some ⟨βf, 0, none⟩) fs1.length cap2, .slice c2 ss1.length dap2] t_Plant (0, 0)), (β9, .cells #[.slice a1 fs1.length cap1, .slice c1 ss1.length dap1] t_Plant (0, 0)), (β6, .cells #[I st.day, I st.co, I st.wa] t_Strike (0, 0)), (β5, .cells #[I f.pl, I f.lo, I f.hi, I f.co] t_Floor (0, 0)), (β4, .cells #[.slice a fs.length cap, .slice a' ss.length cap'] t_Plant (0, 0))], perm_cnt fun y => by simp only [List.count_append, List.count_cons, List.count_nil, List.cons_append, List.append_eq]; omega, .cons rfl (.cons rfl (.cons rfl (.cons rfl (.cons rfl .nil))))⟩⟩
 ·refine Ops.no ?_
  refine Ops.no ?_
  refine o1 (y_pickF rfl rfl rfl) rfl ?_
  refine nn ?_
  refine W.condF ?_
  first
  | generalize hhat : hatO lv (k1 + 1) s2 = ho
  | generalize hhat : hatO lv k1 s1 = ho
  have hho : ∃ k s, k ≤ 200 ∧ ho = hatO lv k s := by first | exact ⟨k1 + 1, s2, by omega, hhat.symm⟩ | exact ⟨k1, s1, by omega, hhat.symm⟩
  obtain ⟨βf, cf2, Jf, hfa, hSfe, -, hcz, hcl, hPf, hJf⟩ := hOf2.open (by omega)
  subst hfa hSfe
  obtain ⟨p, hp, -⟩ := has (show 0 < fs1.length by omega)
  have hPf2 := set4 f hPf hp
  have hsz : 0 + Int.toNat 0 * 4 + 4 ≤ cf2.size := by simp; omega
  refine W.region rfl ?_
  refine fq rfl ?_
  refine dq rfl ?_
  refine lq rfl ?_
  refine xq rfl ?_
  refine Ops.stoA (vs := #[I f.pl, I f.lo, I f.hi, I f.co]) (n := 4) (hl := .tail (.tail (.tail (.tail (.tail (.tail (.app .head))))))) (hn := rfl) (hc := hsz) ?_
  refine nn <| W.seq <| W.region rfl ?_
  refine lq rfl ?_
  refine lq rfl ?_
  refine lq rfl ?_
  first
  | refine Ops.bsl (cs := (flat Pl.row [⟨⟨a, fs.length, cap⟩, ⟨a', ss.length, cap'⟩⟩, ⟨⟨a1, fs1.length, cap1⟩, ⟨c1, ss1.length, dap1⟩⟩, ⟨⟨a2, fs1.length, cap2⟩, ⟨some ⟨βs, 0, none⟩, ss1.length, dap2⟩⟩]).toArray) (fun β38 => ?_) rfl (hf := by kernel_rfl)
  | refine Ops.bsl (cs := (flat Pl.row [⟨⟨a, fs.length, cap⟩, ⟨a', ss.length, cap'⟩⟩, ⟨⟨a1, fs1.length, cap1⟩, ⟨c1, ss1.length, dap1⟩⟩, ⟨⟨some ⟨βf, 0, none⟩, fs1.length, cap2⟩, ⟨c2, ss1.length, dap2⟩⟩]).toArray) (fun β38 => ?_) rfl (hf := by kernel_rfl)
  refine qs rfl rfl rfl <| nn <| W.ret ?_
  obtain ⟨k2, s3, hk2, rfl⟩ := hho
  exact lvt (vs := [_]) ⟨β38, ⟨⟨a, fs.length, cap⟩, ⟨a', ss.length, cap'⟩⟩, ⟨⟨a1, fs1.length, cap1⟩, ⟨c1, ss1.length, dap1⟩⟩, ⟨⟨some ⟨βf, 0, none⟩, fs1.length, cap2⟩, ⟨c2, ss1.length, dap2⟩⟩, fs1, ss1, fs1.set 0 f, ss1, Sf1, Ss1, (βf, .cells (putAll cf2 (0 + Int.toNat 0 * 4) [I f.pl, I f.lo, I f.hi, I f.co]) t_Floor (0, 0)) :: Jf, Ss2, k2, s3, rfl, ⟨rfl, rfl⟩, ⟨hOf1, hOs1⟩, ⟨.inr ⟨βf, _, cap2, Jf, by rw [List.length_set], rfl, by rw [putAll_size]; exact hcz, by rw [List.length_set]; exact hcl, hPf2, hJf⟩, hOs2⟩, ⟨hck, hn3, by simp, rfl⟩, hk2, Sb.cons ⟨[(β10, .cells #[.slice (some ⟨βf, 0, none⟩) fs1.length cap2, .slice c2 ss1.length dap2] t_Plant (0, 0)), (β9, .cells #[.slice a1 fs1.length cap1, .slice c1 ss1.length dap1] t_Plant (0, 0)), (β6, .cells #[I st.day, I st.co, I st.wa] t_Strike (0, 0)), (β5, .cells #[I f.pl, I f.lo, I f.hi, I f.co] t_Floor (0, 0)), (β4, .cells #[.slice a fs.length cap, .slice a' ss.length cap'] t_Plant (0, 0))], perm_cnt fun y => by simp only [List.count_append, List.count_cons, List.count_nil, List.cons_append, List.append_eq]; omega, .cons rfl (.cons rfl (.cons rfl (.cons rfl (.cons rfl .nil))))⟩⟩
end Go.Mus

/- Plants and plans, cones that stand, floors that are empty. Conditions: none; over the given program. -/
namespace Go.Mus
set_option maxRecDepth 100000
set_option maxHeartbeats 40000000
/-- Blocks that are never written again. -/
structure Kn (h0 h : Hp) (L : Frag) : Prop where
 ext : Ext h0 h
 all : ∀ p ∈ L, h p.1 = some p.2 ∧ h.z p.1
theorem Kn.nil {h : Hp} : Kn h h [] := ⟨⟨fun _ _ q => q, fun _ q => q⟩, fun p hp => by cases hp⟩
theorem freezeK {x : Cx} {c : Code} {Q : Post} {ρ : Env} {ds : List Deferred} {F : Frag} {U : Frag → Frag} {b : Nat} {o : Obj} {h0 : Hp} {L : Frag} (hK : Kn h0 x.h L) (ho : opn o = false) (hg : Seg [(b, o)] F U) (H : ∀ h', Kn h0 h' ((b, o) :: L) → W { x with h := h' } c Q ρ ds (U [])) : W x c Q ρ ds F :=
 W.perm hg.perm.1 (W.freeze ho fun h' hE hb hz => H h' ⟨hK.ext.trans hE, fun p hp => by
  rcases List.mem_cons.1 hp with rfl | hp
  ·exact ⟨hb, hz⟩
  ·exact ⟨hE.1 _ _ (hK.all p hp).1, hE.2 _ (hK.all p hp).2⟩⟩)
theorem Kn.sl {h0 h : Hp} {L : Frag} {α : Type} {row : α → List Value} {w : Nat} [Rw row w] {b n cap : Nat} {E : TypeId} {z : Nat × Nat} {l : List α} (hK : Kn h0 h L) (i : Nat) (hi : L[i]? = some (b, .cells (flat row l).toArray E z)) (hn : n = l.length) : Sl h row (.slice (some ⟨b, 0, none⟩) n cap) l ∧ Zs h (.slice (some ⟨b, 0, none⟩) n cap) :=
 ⟨exSl (hK.all _ (List.mem_of_getElem? hi)).1 hn, exZ (hK.all _ (List.mem_of_getElem? hi)).2⟩
end Go.Mus

/- The document's way to say what is wrong, and what shows in all heats. Conditions: none. -/
namespace Go.Mus
/-- The heat in which all drips are least. -/
def hLo (fs : List Fl) (l : List Be) : List Int := l.map fun b => (spanOf fs b).1
def RB (fs : List Fl) (ss : List St) (l : List Be) (f d : Nat) : Prop := (flAt fs f).pl < hiAt fs ss (padB l) f d ∨ (flAt fs f).co < idleN ss l (hLo fs l) f (d + 1)
section
variable {fs : List Fl} {ss : List St} {l : List Be} (hall : HallOK fs ss) (hp : PlanOf fs ss (padB l)) (hn : l.length = ss.length)
include hall hp hn
theorem cones_lo {f d : Int} (h0 : 0 ≤ f) : conesF ss l (hLo fs l) f d = sumK (loG fs ss l f d) l.length :=
 sumK_congr fun i hi => by
  simp only [heG, loG, hLo, map_at hall hp hn hi, spanOf]
  by_cases c : (beAt l i).fl = f
  ·rw [c, if_pos h0]
  ·rw [if_neg (fun x => c x.1), if_neg (fun x => c x.1)]
theorem hLo_heat : IsHeat fs l (hLo fs l) := isHeat_map hall hp hn (g := fun b => (spanOf fs b).1) fun b hb => ⟨Int.le_refl _, span_ok hall hp hn hb⟩
theorem idle_mono {h : List Int} (hh : IsHeat fs l h) {f : Int} (h0 : 0 ≤ f) : ∀ d, idleN ss l h f d ≤ idleN ss l (hLo fs l) f d
 | 0 => Int.le_refl _
 | d + 1 => by
  have ih := idle_mono hh h0 d
  have h2 := idle_nn (ss := ss) (l := l) (h := hLo fs l) (f := f) (d + 1)
  rw [idleN]
  split
  ·rename_i hI
   have : Idl ss l (hLo fs l) f d := by
    refine ⟨?_, hI.2⟩
    have h3 := cones_ge hall hp hn hh (f := f) (d := (d : Int)) h0
    rw [lo_sum hall hn h0] at h3
    have h4 := sumK_nn (k := l.length) (cones_nn hall hp hn (h := hLo fs l) (f := f) (d := (d : Int)))
    have h5 := cones_lo hall hp hn (f := f) (d := (d : Int)) h0
    have h6 := hI.1
    unfold conesF at h4 h5 h6 ⊢
    unfold conesF at h3
    omega
   rw [idleN, if_pos this]; omega
  ·omega
theorem rb_iff {f d : Nat} : (∃ h ∈ heatsF fs l, Shw fs ss l h f d) ↔ d < 22 ∧ f < fs.length ∧ RB fs ss l f d := by
 constructor
 ·rintro ⟨h, hh, h1, h2, h3⟩
  have hh' := mem_heats.1 hh
  refine ⟨h1, h2, ?_⟩
  rcases h3 with h3 | h3
  ·exact .inl (by have := cones_le hall hp hn hh' (f := (f : Int)) (d := (d : Int)) (by omega); omega)
  ·exact .inr (by have := idle_mono hall hp hn hh' (f := (f : Int)) (by omega) (d + 1); omega)
 ·rintro ⟨h1, h2, h3 | h3⟩
  ·obtain ⟨-, h, hh, hs⟩ := bad_shw hall hp hn (n := (d : Int)) h2 (.inl ⟨by omega, by omega, h3⟩)
   exact ⟨h, mem_heats.2 hh, by simpa using hs⟩
  ·exact ⟨_, mem_heats.2 (hLo_heat hall hp hn), h1, h2, .inr h3⟩
end
section
variable {fs : List Fl} {ss : List St} {l : List Be} (hall : HallOK fs ss) (hp : PlanOf fs ss (padB l)) (hn : l.length = ss.length)
include hall hp hn
theorem set_dayP {i : Nat} (hi : i < l.length) : 0 ≤ (beAt l i).day ∧ (beAt l i).day ≤ 17 := by
 have h4 := hall.ns
 have h3 := beAt_some hp.ok (show i < 4 by omega)
 rw [be_pad] at h3
 omega
theorem rb_lateP {f d : Nat} (hf : f < fs.length) (hd : 22 ≤ d) (h : RB fs ss l f d) : RB fs ss l f 21 := by
 have hfo := fl_ok hall (f := (f : Int)) (by omega) (by omega)
 rcases h with h1 | h1
 ·refine .inl ?_
  rw [hi_sum hall hp hn (by omega)] at h1 ⊢
  refine Int.lt_of_lt_of_le h1 (sumK_le fun i hi => ?_)
  have := set_dayP hall hp hn hi
  have hc := co_ok hall i
  simp only [hiG]
  split
  ·rw [if_pos (by omega)]; exact Int.le_refl _
  ·split <;> omega
 ·rw [idleN, if_neg fun hx => ?_] at h1
  ·omega
  ·obtain ⟨-, -, i, hi, h1, h2⟩ := hx
   have := set_dayP hall hp hn hi
   omega
/-- Whether anything is wrong. -/
theorem wrong_isR {a b : Int} (hM : MinS (fun f d => f < fs.length ∧ RB fs ss l f d) a b) : a < 0 ↔ isR fs ss l = true := by
 have hx : (∃ f d, f < fs.length ∧ RB fs ss l f d) ↔ isR fs ss l = false := by
  constructor
  ·rintro ⟨f, d, hf, hr⟩
   obtain ⟨d', hd, hr'⟩ : ∃ d', d' < 22 ∧ RB fs ss l f d' := by
    rcases Nat.lt_or_ge d 22 with h | h
    ·exact ⟨d, h, hr⟩
    ·exact ⟨21, by omega, rb_lateP hall hp hn hf h hr⟩
   obtain ⟨q, hq, hs⟩ := (rb_iff hall hp hn).2 ⟨hd, hf, hr'⟩
   obtain ⟨n, -, hb⟩ := shw_bad hall hp hn (mem_heats.1 hq) hs
   cases he : inspF fs ss (padB l) with
   | none => exact absurd hb ((insp_none hall hp.ok).1 he f (by omega) (by omega) n)
   | some w => simp [isR, he]
  ·intro h
   refine Classical.byContradiction fun hc => ?_
   have : inspF fs ss (padB l) = none := (insp_none hall hp.ok).2 fun f h0 h1 n hb => by
    obtain ⟨k, rfl⟩ : ∃ k : Nat, f = k := ⟨f.toNat, by omega⟩
    obtain ⟨-, q, hq, hs⟩ := bad_shw hall hp hn (by omega) hb
    obtain ⟨-, h2, h3⟩ := (rb_iff hall hp hn).1 ⟨q, mem_heats.2 hq, hs⟩
    exact hc ⟨k, _, h2, h3⟩
   simp [isR, this] at h
 rcases hM with ⟨rfl, rfl, h⟩ | ⟨f, d, rfl, rfl, h, -⟩
 ·refine ⟨fun _ => ?_, fun _ => by omega⟩
  cases hr : isR fs ss l with
  | true => rfl
  | false => obtain ⟨f, d, hfd⟩ := hx.2 hr; exact absurd hfd (h f d)
 ·refine ⟨fun h' => by omega, fun h' => ?_⟩
  rw [hx.1 ⟨f, d, h⟩] at h'; cases h'
end
theorem set_day {fs : List Fl} {ss : List St} {l : List Be} (h : ckPlan fs ss l = 0) {i : Nat} (hi : i < l.length) (h0 : 0 ≤ (beAt l i).fl) : 0 ≤ (beAt l i).day ∧ (beAt l i).day ≤ 15 := by
 obtain ⟨hall, hp, hn⟩ := plan_ck h
 obtain ⟨h1, h2, h3⟩ := ckPlan0 h
 obtain ⟨s, hs, -⟩ := has (show i < ss.length by omega)
 have := (ckBerth0 (ckBerths_at h3 hs (be_some hall hp hn hi))).2.2.2 h0
 have hso := strike_ok h1 hs
 omega
theorem rb_late {fs : List Fl} {ss : List St} {l : List Be} (h : ckPlan fs ss l = 0) {f d : Nat} (hf : f < fs.length) (hd : 22 ≤ d) : ¬ RB fs ss l f d := by
 obtain ⟨hall, hp, hn⟩ := plan_ck h
 have hfo := fl_ok hall (f := (f : Int)) (by omega) (by omega)
 have hz : hiAt fs ss (padB l) f d = 0 := by
  rw [hi_sum hall hp hn (by omega)]
  have : sumK (hiG fs ss l f d) l.length = sumK (fun _ => 0) l.length := sumK_congr fun i hi => by
   simp only [hiG]
   refine if_neg fun hx => ?_
   have := set_day h hi (by omega)
   omega
  rw [this, sumK_0]
 have hi0 : idleN ss l (hLo fs l) f (d + 1) = 0 := by
  rw [idleN]
  refine if_neg fun hx => ?_
  obtain ⟨-, -, i, hi, h1, h2⟩ := hx
  have := set_day h hi (by omega)
  omega
 rintro (h1 | h1)
 ·omega
 ·omega
/-- ████ What is wrong, as the document says it. -/
theorem wrong_rb {fs : List Fl} {ss : List St} {l : List Be} (h : ckPlan fs ss l = 0) : ∃ f d, wrongV fs ss l = (f, d, 0) ∧ MinS (fun f d => f < fs.length ∧ RB fs ss l f d) f d := by
 obtain ⟨hall, hp, hn⟩ := plan_ck h
 obtain ⟨f, d, h1, h2⟩ := wrong_min h
 refine ⟨f, d, h1, ?_⟩
 have e : (fun f d => ∃ h ∈ heatsF fs l, Shw fs ss l h f d) = fun f d => f < fs.length ∧ RB fs ss l f d := by
  funext f d
  refine propext ((rb_iff hall hp hn).trans ⟨fun hx => hx.2, fun hx => ⟨?_, hx⟩⟩)
  rcases Nat.lt_or_ge d 22 with h' | h'
  ·exact h'
  ·exact absurd hx.2 (rb_late h hx.1 h')
 rw [e] at h2
 exact h2
end Go.Mus
