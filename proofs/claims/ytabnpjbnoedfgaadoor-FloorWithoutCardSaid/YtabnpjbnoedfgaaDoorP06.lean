/- A sender, from its body; starting one; sending. Conditions: none; over any program. (And 3 texts more.) -/
import Derived.Test.YtabnpjbnoedfgaaDoorP05
import Derived.Test.YtabnpjbnoedfgaaDoorProg
import Derived.Test.YtabnpjbnoedfgaaDoorP03
import Derived.KernelRfl

/- A sender, from its body; starting one; sending. Conditions: none; over any program. -/
namespace Go.Mus
open Go.Conc (rcase scase QuitsIn)

section
variable {P : Program} {ds : List Deferred} {ops : Array Oper} {i : Nat} {rest : List Nat} {o : Oper}

/-- The step of a send. -/
theorem st_send {b : Frame} {t : Array Value} {k : List Item} {cs : List Frame} {c : Nat} {v : Value} {ch y : Operand} (ho : ops[i]? = some o) (hop : o.op = .send ch y) (hw : Region.wanted o (yielded ops t) = true) (hk : (b.kind == CallKind.early) = false)
    (hc : (fat b t ds (.inRegion ops (i :: rest) :: k)).eval ch = .chan (some c)) (hv : (fat b t ds (.inRegion ops (i :: rest) :: k)).eval y = v) (w : World) :
    stepG P false (G (fat b t ds (.inRegion ops (i :: rest) :: k)) cs) w = .comm (G (fat b t ds (.inRegion ops (i :: rest) :: k)) cs) #[scase c v (.tuple #[])] true .send w #[] := by
  have e := st_oper (P := P) (main := kidS P c) (cs := cs) (w := w) (ds := ds) (k := k) (b := b) (rest := rest) ho hw (fun c => by rw [hop]; simp)
  rw [show (kidS P c).b = false from rfl] at e
  rw [e]
  refine apply_comm ?_ hk
  simp only [execOp, hop, hc, hv, bind_eq, pure_eq]
  rfl

/-- The step of a go statement. -/
theorem st_go {b : Frame} {t : Array Value} {k : List Item} {cs : List Frame} {f : Fn} {fi ca vs : Array Value} {y : Operand} {args : Array Operand} {ts : Array TypeId} (ho : ops[i]? = some o) (hop : o.op = .go ⟨.value y, args, ts⟩) (hw : Region.wanted o (yielded ops t) = true) (hk : (b.kind == CallKind.early) = false)
    (hc : (fat b t ds (.inRegion ops (i :: rest) :: k)).eval y = .func f fi ca) (hv : args.map (fat b t ds (.inRegion ops (i :: rest) :: k)).eval = vs) (w : World) :
    stepG P true (G (fat b t ds (.inRegion ops (i :: rest) :: k)) cs) w = .spawn (G ((fat b t ds (.inRegion ops (i :: rest) :: k)).finish undef) cs) (childG P { target := .fn f ca, args := fi ++ vs }) w #[] := by
  have e := st_oper (P := P) (main := mainS P fun _ _ _ => False) (cs := cs) (w := w) (ds := ds) (k := k) (b := b) (rest := rest) ho hw (fun c => by rw [hop]; simp)
  rw [show (mainS P fun _ _ _ => False).b = true from rfl] at e
  rw [e]
  refine apply_spawn ?_ hk
  simp only [execOp, hop, resolve, Deferred.ofValue, hc, hv, bind_eq, pure_eq]
  rfl

/-- Where a sender's outermost frame is. -/
def rootF (P : Program) : Frame := { (default : Frame) with fn := P.funcs.size, defers := [], mode := .panicking [goexitEntry] }

theorem st_child {f : FuncId} [FB P f] {ca args : Array Value} (w : World) : stepG P false (childG P { target := .fn (.func f) ca, args }) w = .go (G (Frame.enter P f (args ++ ca) .deferred) [rootF P]) w #[] := by
  obtain ⟨fn, h1, h2, h3⟩ := FB.out (inferInstance : FB P f)
  have r : (invoke (.fn (.func f) ca) args).runT P w #[] = (.ok (.enter f (args ++ ca)) w, #[]) := by
    show (callFunc f (args ++ ca)).runT P w #[] = _
    simp only [callFunc, program, bind_eq, pure_eq, Sem.bind, Sem.runT, h1, h2, h3, Bool.false_eq_true, if_false]
  have e : stepG P false (childG P { target := .fn (.func f) ca, args }) w = callDeferred P (rootF P) [] none { target := .fn (.func f) ca, args } w := rfl
  rw [e]
  unfold callDeferred
  simp only [r, seen_nil]
  rfl

theorem quits_root : QuitsIn P 1 (G (rootF P) []) := by
  refine .inr ⟨rfl, { frame := rootF P, callers := [], status := .finished, dying := none }, fun w => ?_, rfl⟩
  have ht : (rootF P).todo = [] := rfl
  have hc : (rootF P).catches P = false := by
    unfold Frame.catches
    rw [ht]
    split <;> first | rfl | (rename_i h; cases h)
  have e : stepG P false (G (rootF P) []) w = unwind P false (rootF P) [] none w := rfl
  rw [e]
  unfold unwind
  have h1 : (rootF P).defers = [] := rfl
  have h2 : (rootF P).mode = .panicking [goexitEntry] := rfl
  simp only [h1, h2, hc, Bool.false_eq_true, if_false]
  rfl

/-- The step that closes a channel on the way out. -/
theorem st_close {b : Frame} {t : Array Value} {cs : List Frame} {c s r : Nat} {tys : Array TypeId} {ty : TypeId} {cons : Array Bool} {ds : List Deferred} {todo : List Item} {w : World} (ho : w.heap[c]? = some (.chan 0 #[] false s r false)) :
    stepG P false (G (lvg b t ({ target := .builtin .close tys ty cons, args := #[.chan (some c)] } :: ds) todo) cs) w = .go (G (lvg b t ds todo) cs) (w.shut c s r false) (closeEs c) := by
  have run : (invoke (.builtin .close tys ty cons) #[.chan (some c)]).runT P w #[] = (.ok (.value (.tuple #[])) (w.shut c s r false), closeEs c) := by
    have hlt := some_lt ho
    have e1 : (invoke (.builtin .close tys ty cons) #[.chan (some c)]) = Sem.getObj c fun o => (match o with
        | .chan room buf closed sent received timer => (do
          if closed then runtimePanic (.plain "close of closed channel")
          setObj c (.chan room buf true sent received timer)
          pure (.tuple #[]) : Sem Value)
        | _ => stuck "close: no channel in this block").bind fun v => .pure (Next.value v) := rfl
    rw [e1]
    simp only [Sem.runT, ho, Bool.false_eq_true, if_false, setObj, bind_eq, pure_eq, Sem.bind]
    rfl
  have e : stepG P false (G (lvg b t ({ target := .builtin .close tys ty cons, args := #[.chan (some c)] } :: ds) todo) cs) w = callDeferred P (lvg b t ds todo) cs none { target := .builtin .close tys ty cons, args := #[.chan (some c)] } w := rfl
  rw [e]
  unfold callDeferred
  have hs : seen P b.fn (closeEs c) = closeEs c := by simp [seen, closeEs]
  have hf : (lvg b t ds todo).fn = b.fn := rfl
  simp only [run, hf, hs]
  rfl

theorem st_doneK {b : Frame} {fn : Func} {t : Array Value} {todo : List Item} {w : World} (hf : P.funcs[b.fn]? = some fn) (hr : fn.results = #[]) (hk : b.kind = .deferred) : stepG P false (G (lvg b t [] todo) [rootF P]) w = .go (G (rootF P) []) w #[] := by
  have e : stepG P false (G (lvg b t [] todo) [rootF P]) w = unwind P false (lvg b t [] todo) [rootF P] none w := rfl
  have r : (results fn t).runT P w #[] = (.ok (.tuple #[]) w, #[]) := by
    unfold results
    rw [hr, show (#[] : Array ResultVar) = ([] : List ResultVar).toArray from rfl, List.mapM_toArray]
    rfl
  rw [e]
  unfold unwind
  have h1 : (lvg b t [] todo).defers = [] := rfl
  have h2 : (lvg b t [] todo).mode = .returning := rfl
  have h3 : (lvg b t [] todo).fn = b.fn := rfl
  have h4 : (lvg b t [] todo).tmps = t := rfl
  have h5 : (lvg b t [] todo).kind = .deferred := hk
  simp only [h1, h2, h3, h4, hf, r, doReturn, h5]
  rfl

/-- The way out of a sender's function: marks of loops, then the close. -/
def UnwC (P : Program) (c : Nat) (h : Hp) : List Deferred → Frag → Prop
  | [], _ => False
  | d :: ds, F =>
    match d.target with
    | .collected r => tr P h (Instr.takeDeferred r) F fun l F' => l = [] ∧ UnwC P c h ds F'
    | .builtin .close _ _ _ => ds = [] ∧ d.args = #[.chan (some c)] ∧ (c, gch []) ∈ F
    | _ => False

theorem unwC_goes {b : Frame} {fn : Func} {t : Array Value} {c : Nat} {h : Hp} (hf : P.funcs[b.fn]? = some fn) (hr : fn.results = #[]) (hkd : b.kind = .deferred) : ∀ {ds : List Deferred} {F : Frag} {hk : Hp} {M : Nat → Prop} (todo : List Item), Sat h F hk M → UnwC P c h ds F →
    Gos P false (Ch P c) (G (lvg b t ds todo) [rootF P]) hk M := by
  intro ds
  induction ds with
  | nil => exact fun _ _ hu => hu.elim
  | cons d ds ih =>
    intro F hk M todo S hu
    obtain ⟨target, dargs⟩ := d
    unfold UnwC at hu
    split at hu
    · rename_i r heq
      simp only at heq
      subst heq
      refine .of_stp ⟨rfl, fun w hw hM => ?_⟩
      obtain ⟨l, F', w', es, r1, r2, r3, r4, rfl, r5⟩ := tr_sound _ #[] hu S hw hM
      rw [Array.empty_append] at r1
      exact ⟨G (lvg b t ds todo) [rootF P], w', seen P b.fn es, st_collected (main := kidS P c) r1, r2.mem fun _ => mem_seen, ih todo r3 r5⟩
    · rename_i tys ty cons heq
      simp only at heq
      obtain ⟨rfl, hargs, hm⟩ := hu
      simp only at hargs
      subst heq hargs
      refine .stop (.close rfl (S.own _ _ hm).1 rfl rfl (fun w s r ho => st_close ho) (n := 2) ?_)
      exact .inr ⟨rfl, _, fun w => st_doneK hf hr hkd, quits_root⟩
    · exact hu.elim

/-- ████ A SENDER, BY ITS FUNCTION's BODY. -/
theorem Ch.start {f : FuncId} {fn : Func} {body : Code} [FB P f] (hf : P.funcs[f]? = some fn) (hb : fn.body = some body) (hr : fn.results = #[]) {ca args : Array Value} (ha : (args ++ ca).size ≤ fn.ntmps) (ρ : Env) (hρ : Argu ρ (args ++ ca)) {c : Nat} {l : List Value} {h kc : Hp} {M : Nat → Prop} (S : Sat h [(c, gch l)] kc M)
    (H : W ⟨P, kidS P c, f, fn.ntmps, none, h⟩ body (fun e _ ds F => (e = .ret ∨ e = .normal) ∧ UnwC P c h ds F) ρ [] [(c, gch l)]) : Ch P c (childG P { target := .fn (.func f) ca, args }) kc M := by
  refine Ch.absorb (.idle rfl st_child ?_)
  have e : Frame.enter P f (args ++ ca) .deferred = fat { (default : Frame) with fn := f, kind := .deferred } (args ++ ca ++ Array.replicate (fn.ntmps - (args ++ ca).size) undef) [] [.code body] := by
    simp [Frame.enter, fat, hf, hb]; rfl
  rw [e]
  refine H _ [] [rootF P] ⟨Ch P c, rfl, Ch.eased⟩ _ kc M rfl rfl (by simp) hρ.ok (by simp at ha ⊢; omega) S fun ex ρ' ds' F' tmps' hk' M' q a1 a2 a3 a4 => ?_
  obtain ⟨hex, hu⟩ := q
  have go : ∀ todo, Gos P false (Ch P c) (G (lvg { (default : Frame) with fn := f, kind := .deferred } tmps' ds' todo) [rootF P]) hk' M' := fun todo => unwC_goes (fn := fn) hf hr rfl todo a3 hu
  rcases hex with rfl | rfl
  · exact fun k' => .idle rfl (fun _ => st_ret (main := kidS P c) rfl) (go _)
  · exact .idle rfl (fun _ => st_end (main := kidS P c) rfl) (go _)
end

section rules
variable {x : Cx} {Q : Post} {ρ : Env} {ds : List Deferred} {F : Frag} {ops : Array Oper} {i : Nat} {rest : List Nat} {o : Oper}

/-- ████ A SEND. -/
theorem Ops.send {c : Nat} {v : Value} {ch y : Operand} {l : List Value} {U : Obj → Frag} (hS : ∀ S, x.main.ok S → S = Ch x.P c) (hb : x.main.b = false) (ho : ops[i]? = some o) (hop : o.op = .send ch y) (hw : want ops ρ o) (hd : o.dst = none)
    (hch : ev ρ ch = some (.chan (some c))) (hy : ev ρ y = some v) (hl : At c (gch (v :: l)) F U) (H : Ops x ops rest Q ρ ds (U (gch l))) : Ops x ops (i :: rest) Q ρ ds F := by
  intro b k cs Stop tmps hk M h1 h0 h2 h3 h4 h5 hc
  have hk' : (b.kind == CallKind.early) = false := by simpa using h2
  obtain ⟨e1, e2, S', f'⟩ := h5.ghost (o' := gch l) hl ⟨rfl, rfl⟩
  have eS := hS _ Stop.2.1
  have := H b k cs Stop _ _ _ h1 h0 h2 h3 h4 S' fun e ρ' ds' G tmps' hk' M' q a1 a2 a3 a4 => hc e ρ' ds' G tmps' hk' M' q a1 a2 a3 (f'.trans a4)
  refine .stop ?_
  unfold Gs at this
  rw [eS, hb] at this
  rw [eS]
  refine .send rfl e1 (st_send ho hop (hw.wanted h3) hk' (h3.ev hch) (h3.ev hy)) ?_
  have hf := finish_fat (b := b) (t := tmps) (ds := ds) (k := k) (cs := cs) (rest := rest) ho undef
  have := Ch.absorb this
  rw [hd] at hf
  simp only at hf
  rw [← hf] at this
  exact this

/-- What a sender is told: its channel, and what is never written again. -/
noncomputable def told (h : Hp) (c : Nat) (l : List Value) : Hp := by
  classical exact ⟨fun b => if b = c then some (gch l) else if h.z b ∧ isC (h b) = false then h b else none, fun _ => False⟩
noncomputable def toldR (h : Hp) (c : Nat) : Hp := by
  classical exact ⟨fun b => if b = c then none else if h.z b ∧ isC (h b) = false then h b else none, fun _ => False⟩

theorem toldR_at {h : Hp} {c b : Nat} {o : Obj} (hn : h c = none) (hz : h.z b) (hb : h b = some o) (ho : o.isChan = false) : toldR h c b = some o := by
  have e : b ≠ c := by rintro rfl; rw [hn] at hb; cases hb
  simp [toldR, e, hz, hb, isC, ho]
/-- ████ A go STATEMENT that starts a sender. -/
theorem Ops.spawn {c : Nat} {l : List Value} {y : Operand} {args : List Operand} {ts : Array TypeId} {f : FuncId} {fi ca : Array Value} {vs : List Value} {U : Obj → Frag} (hS : ∀ S, x.main.ok S → ∃ Fin, S = Mn x.P Fin) (hb : x.main.b = true) (ho : ops[i]? = some o) (hop : o.op = .go ⟨.value y, args.toArray, ts⟩) (hw : want ops ρ o) (hd : slotOK o.dst x.n = true)
    (hy : ev ρ y = some (.func (.func f) fi ca)) (hv : evs ρ args = some vs) (hl : At c gnew F U)
    (hc : x.h c = none → ∀ kc, Sat (toldR x.h c) [(c, gch l)] kc (· = c) → Ch x.P c (childG x.P { target := .fn (.func f) ca, args := fi ++ vs.toArray }) kc (· = c))
    (H : Ops x ops rest Q (put ρ o.dst undef) ds (U (gch l))) : Ops x ops (i :: rest) Q ρ ds F := by
  classical
  intro b k cs Stop tmps hk M h1 h0 h2 h3 h4 h5 hcont
  have hk' : (b.kind == CallKind.early) = false := by simpa using h2
  obtain ⟨e1, e2, S', f'⟩ := h5.ghost (o' := gch l) hl ⟨rfl, rfl⟩
  have hnone : x.h c = none := by
    obtain ⟨F1, F2, hF, _⟩ := hl.split
    exact (h5.own c gnew (by rw [hF]; simp)).2.2
  obtain ⟨Fin, eS⟩ := hS _ Stop.2.1
  obtain ⟨p1, p2⟩ := h3.put' h4 hd undef
  have := H b k cs Stop _ _ _ h1 h0 h2 p1 p2 S' fun e ρ' ds' G tmps' hk' M' q a1 a2 a3 a4 => hcont e ρ' ds' G tmps' hk' M' q a1 a2 a3 (f'.trans a4)
  refine .stop ?_
  unfold Gs at this
  rw [eS, hb] at this
  rw [eS]
  have hne : ∀ b, b ≠ c → told x.h c l b = if x.h.z b ∧ isC (x.h b) = false then x.h b else none := fun b hb => by simp [told, hb]
  have hsub : ∀ b o, b ≠ c → told x.h c l b = some o → x.h.z b ∧ x.h b = some o ∧ o.isChan = false := by
    intro b o hb ho
    rw [hne b hb] at ho
    split at ho
    · rename_i h
      refine ⟨h.1, ho, ?_⟩
      rw [ho] at h
      exact h.2
    · cases ho
  refine Mn.spawn (c := c) (l := l) (kc := told x.h c l) (M' := M) rfl rfl rfl (st_go ho hop (hw.wanted h3) hk' (h3.ev hy) (by rw [List.map_toArray, evs_map (fun _ _ h => h3.ev h) hv])) e1 e2 (by simp [told]) (fun b o hb ho => ⟨h5.sub b o (hsub b o hb ho).2.1, (hsub b o hb ho).2.2⟩) (hc hnone _ ⟨fun b o hb => ?_, fun b o hb => ?_, by simp, fun b o hm hko hop => ?_, fun b hb => hb.elim⟩) ⟨fun _ h => h, fun b o hm hn => absurd hm hn⟩ e2 (fun b hb hs hm => ?_) ?_
  · by_cases e : b = c
    · subst e; simp [toldR] at hb
    · rw [hne b e]
      simpa [toldR, e] using hb
  · obtain ⟨rfl, rfl⟩ := Prod.mk.inj (List.mem_singleton.1 hb)
    exact ⟨by simp [told], rfl, by simp [toldR]⟩
  · left
    subst hm
    have : told x.h b l b = some (gch l) := by simp [told]
    rw [this] at hko
    cases hko
    exact List.mem_cons_self ..
  · obtain ⟨o, ho⟩ := Option.isSome_iff_exists.1 hs
    exact (h5.froz b (hsub b o hb ho).1).1 hm
  · have hf := finish_fat (b := b) (t := tmps) (ds := ds) (k := k) (cs := cs) (rest := rest) ho undef
    have := Mn.absorb this
    rw [← hf] at this
    exact this
end rules
end Go.Mus

/- New channels, deferred calls, and the outermost function: from a law's body to the run of the machine. Conditions: none; over any program. -/
namespace Go.Mus
open Go.Conc (solo solo_eq_crowd)

section rules
variable {x : Cx} {Q : Post} {ρ : Env} {ds : List Deferred} {F : Frag} {ops : Array Oper} {i : Nat} {rest : List Nat} {o : Oper} {R : Value → Frag → Prop}

/-- A new channel without a buffer. -/
theorem e_makeChan {t el s b : Nat} {dir : ChanDir} {z : Value} {zc : Array Value} {y : Operand} (ho : o.op = .makeChan t y) [TD x.P t (.chan dir el)] [TI x.P el s b z zc] (hy : ev ρ y = some (.int .i64 0))
    (H : ∀ β, x.h β = none → (∀ o, (β, o) ∉ F) → R (.chan (some β)) ((β, gnew) :: F)) : Ef x ρ o F R :=
  Ef.of_tr fun e he h' hE => by
    obtain ⟨j, h1, h2, h3, h4, hz⟩ := TI.out (inferInstance : TI x.P el s b z zc)
    have hd := (inferInstance : TD x.P t (.chan dir el)).out
    have hb : ¬ ((0 : Int) < 0 ∨ (0 : Int) > IntKind.i64.max ∨ (j.bytes : Int) * 0 > 2 ^ 48 - 112) := by rintro (h | h | h) <;> revert h <;> simp <;> decide
    simp only [execOp, ho, he y _ hy, Instr.makeChan, asInt, asIntOf, underlying, typeInfo, program, bind_eq, pure_eq, Sem.bind, tr, hd, h1, hb, if_false, newObj]
    exact ⟨fun _ => rfl, fun r h5 h6 => ⟨_, .inl rfl, H r (hE.none h5) h6⟩⟩

/-- The step of a defer statement. -/
theorem apply_defer {P : Program} {fr : Frame} {cs : List Frame} {s : Sem Next} {w : World} {d : Deferred} (r : s.runT P w #[] = (.ok (.defer d) w, #[])) (hk : (fr.kind == CallKind.early) = false) :
    stepG.apply P true fr cs none s w = .go (G ({ fr with defers := d :: fr.defers }.finish undef) cs) w #[] := by
  unfold stepG.apply
  simp only [r, hk, if_true, Bool.false_eq_true, if_false]
  rw [seen_nil]
  rfl

theorem st_defer {b : Frame} {t : Array Value} {k : List Item} {cs : List Frame} {w : World} {c : Call} {d : Deferred} (ho : ops[i]? = some o) (hop : o.op = .defer c) (hw : Region.wanted o (yielded ops t) = true) (hr : b.roundOf = none) (hk : (b.kind == CallKind.early) = false)
    (hd : resolve (fat b t ds (.inRegion ops (i :: rest) :: k)).eval c o.type = .pure d) :
    stepG x.P x.main.b (G (fat b t ds (.inRegion ops (i :: rest) :: k)) cs) w = .go (G ((fat b t (d :: ds) (.inRegion ops (i :: rest) :: k)).finish undef) cs) w #[] := by
  obtain ⟨dst, op, type, pos, aft, guard⟩ := o
  simp only at hop hd
  subst hop
  have e : stepG x.P x.main.b (G (fat b t ds (.inRegion ops (i :: rest) :: k)) cs) w = stepG.apply x.P true (fat b t ds (.inRegion ops (i :: rest) :: k)) cs none (execOp (fat b t ds (.inRegion ops (i :: rest) :: k)).eval ⟨dst, .defer c, type, pos, aft, guard⟩) w := by
    simp only [Conc.G, stepG, stepG.exec, stepG.oper, Frame.oper?, fat, ho, hw, hr, Option.map_some, Option.getD_some, if_true]
  rw [e]
  refine apply_defer (fr := fat b t ds (.inRegion ops (i :: rest) :: k)) ?_ hk
  simp only [execOp, hd, bind_eq, pure_eq, Sem.bind, Sem.runT]

/-- ████ A defer STATEMENT (in no round). -/
theorem Ops.defer {c : Call} {d : Deferred} (hro : x.ro = none) (ho : ops[i]? = some o) (hop : o.op = .defer c) (hw : want ops ρ o) (hd : o.dst = none)
    (hr : ∀ e : Operand → Value, (∀ y v, ev ρ y = some v → e y = v) → resolve e c o.type = .pure d) (H : Ops x ops rest Q ρ (d :: ds) F) : Ops x ops (i :: rest) Q ρ ds F := by
  intro b k cs Stop tmps hk M h1 h0 h2 h3 h4 h5 hc
  have hk' : (b.kind == CallKind.early) = false := by simpa using h2
  refine .idle rfl (fun w => st_defer ho hop (hw.wanted h3) (h0.trans hro) hk' (hr _ fun _ _ hx => h3.ev hx)) ?_
  have hf := finish_fat (b := b) (t := tmps) (ds := d :: ds) (k := k) (cs := cs) (rest := rest) ho undef
  rw [hf, hd]
  exact H b k cs Stop tmps hk M h1 h0 h2 h3 h4 h5 hc
end rules

section top
variable {P : Program} {Post : Value → World → Prop}

theorem FinOK.eased : Eased (FinOK P Post) := by
  intro g k M M' hl ⟨h1, h2, h3⟩
  refine ⟨h1, fun c o hm hk => ?_, fun w ha hd => ?_⟩
  · rcases Classical.em (M' c) with h | h
    · exact h2 c o h hk
    · exact hl.2 c o hm h hk
  · obtain ⟨v, w', es, e, gu, hp⟩ := h3 w ha (hl.dom hd)
    exact ⟨v, w', es, e, hl.guar gu, hp⟩

theorem st_top {b : Frame} {fn : Func} {t : Array Value} {todo : List Item} {w w' : World} {v : Value} {es : Array Event} (hf : P.funcs[b.fn]? = some fn) (hi : P.inits.idxOf? b.fn = none) (r : (results fn t).runT P w #[] = (.ok v w', es)) (hk : b.kind = .normal) :
    stepG P true (G (lvg b t [] todo) []) w = .ended (.done v) w' (seen P b.fn es) := by
  have e : stepG P true (G (lvg b t [] todo) []) w = unwind P true (lvg b t [] todo) [] none w := rfl
  rw [e]
  unfold unwind
  have h1 : (lvg b t [] todo).defers = [] := rfl
  have h2 : (lvg b t [] todo).mode = .returning := rfl
  have h3 : (lvg b t [] todo).fn = b.fn := rfl
  have h4 : (lvg b t [] todo).tmps = t := rfl
  have h5 : (lvg b t [] todo).kind = .normal := hk
  simp only [h1, h2, h3, h4, hf, r, doReturn, h5, hi, Bool.not_true, Bool.false_eq_true, if_false]
  rfl

/-- ████ THE OUTERMOST FUNCTION, BY ITS BODY. -/
theorem Mn.top {f : FuncId} {fn : Func} {body : Code} (hf : P.funcs[f]? = some fn) (hb : fn.body = some body) (hi : P.inits.idxOf? f = none) {args : Array Value} (ha : args.size ≤ fn.ntmps) (ρ : Env) (hρ : Argu ρ args) {h k : Hp} {M : Nat → Prop} (S : Sat h [] k M) (hno : ∀ b o, h b = some o → o.isChan = false)
    {R : Value → Prop} (hpost : ∀ v w, R v → (∀ b o, h b = some o → w.heap[b]? = some o) → Post v w)
    (H : W ⟨P, mainS P (FinOK P Post), f, fn.ntmps, none, h⟩ body (fun e ρ ds F => ds = [] ∧ Shut F ∧ leave P (mainS P (FinOK P Post)) fn h (fun v _ => R v) e ρ [] F) ρ [] []) : Mn P (FinOK P Post) (G (Frame.enter P f args .normal) []) k M := by
  refine Mn.absorb ?_
  have e : Frame.enter P f args .normal = fat { (default : Frame) with fn := f, kind := .normal } (args ++ Array.replicate (fn.ntmps - args.size) undef) [] [.code body] := by
    simp [Frame.enter, fat, hf, hb]; rfl
  rw [e]
  refine H _ [] [] ⟨Mn P (FinOK P Post), rfl, Mn.eased FinOK.eased⟩ _ k M rfl rfl (by simp) hρ.ok (by simp; omega) S fun ex ρ' ds' F' tmps' hk' M' q a1 a2 a3 a4 => ?_
  obtain ⟨rfl, hsh, hex, hu⟩ := q
  have hu' : tr P h (results fn tmps') F' (fun v _ => R v) := hu tmps' a1
  have go : ∀ todo, Gos P true (Mn P (FinOK P Post)) (G (lvg { (default : Frame) with fn := f, kind := .normal } tmps' [] todo) []) hk' M' := fun todo => by
    refine .stop (.fin ⟨rfl, fun c o hm hk => ?_, fun w hw hM => ?_⟩)
    · cases ho : opn o with
      | false => rfl
      | true =>
        rcases a3.all c o hm hk ho with h1 | h1
        · rw [hsh _ h1] at ho; cases ho
        · rw [opn_of (hno c o h1)] at ho; cases ho
    · obtain ⟨v, F'', w', es, r1, r2, r3, r4, r5⟩ := tr_sound _ #[] hu' a3 hw hM
      rw [Array.empty_append] at r1
      refine ⟨v, w', _, st_top hf hi r1 rfl, r2.mem fun _ => mem_seen, hpost v w' r5 fun b o hb => ?_⟩
      exact (agr_snap hw r2).get (r3.sub b o hb) (hno b o hb)
  rcases hex with rfl | rfl
  · exact fun k' => .idle rfl (fun _ => st_ret (main := mainS P (FinOK P Post)) rfl) (go _)
  · exact .idle rfl (fun _ => st_end (main := mainS P (FinOK P Post)) rfl) (go _)

/-- What is known at the start: every block that is no channel; none will be written again. -/
noncomputable def atStart (W : World) : Hp := ⟨fun b => match W.heap[b]? with | some o => if o.isChan then none else some o | none => none, fun b => ∃ o, W.heap[b]? = some o ∧ o.isChan = false⟩
theorem atStart_some {W : World} {b : Nat} {o : Obj} : atStart W b = some o ↔ W.heap[b]? = some o ∧ o.isChan = false := by
  simp only [atStart]
  cases e : W.heap[b]? with
  | none => simp
  | some o' =>
    cases hc : o'.isChan with
    | true =>
      simp only [hc, if_true]
      constructor
      · intro h; cases h
      · rintro ⟨h, h'⟩; cases h; rw [hc] at h'; cases h'
    | false =>
      simp only [hc, Bool.false_eq_true, if_false]
      constructor
      · intro h; cases h; exact ⟨rfl, hc⟩
      · rintro ⟨h, _⟩; exact h
theorem atStart_sat {W : World} : Sat (atStart W) [] (atStart W) fun _ => False :=
  ⟨(fun _ _ h => h), (fun _ _ h => by cases h), (by simp), (fun _ _ h => h.elim), (fun b ⟨o, h1, h2⟩ => ⟨fun h => h, by rw [atStart_some.2 ⟨h1, h2⟩]; rfl⟩)⟩

/-- ████ THE RUN. -/
theorem Mn.run {W : World} {g : Goroutine} (H : Mn P (FinOK P Post) g (atStart W) fun _ => False) :
    ∃ M last o w' t', runNT P (M + 1) (solo g W) #[] = (.ended o w', t') ∧ runN P M (solo g W) = .next last ∧ Go.step P last = .ended o w' ∧ Conc.Good P (fun v w' => Post v w' ∧ Kept W w') last o w' t' := by
  letI : Base := ⟨W⟩
  obtain ⟨hs, h⟩ := H.ends (fun _ _ _ h => h)
  have I : MInv P #[g] W #[] (atStart W) (fun _ => False) [] :=
    ⟨rfl, (fun b o hb => ⟨o, (atStart_some.1 hb).1, .inl rfl⟩), (fun b hb => hb.elim), TOK.empty, (fun b hb => hb.elim), (fun b _ _ i a hi => by rw [show Conc.touchAt #[] i = none by simp [Conc.touchAt, Trace.act?]] at hi; cases hi), (fun i c x hi => by simp at hi), (fun i j c c' x x' _ hi => by simp at hi), (fun c hc => absurd (atStart_some.1 hc).2 (by simp [gnew, Obj.isChan])), (fun c l hc => absurd (atStart_some.1 hc).2 (by simp [gch, Obj.isChan])), Kept.refl W, fun _ h => h.elim, fun i c x k M hi => by simp at hi⟩
  have := h [] (fun p hp => by cases hp) #[g] g W #[] none I rfl (.inl ⟨⟨rfl, rfl, rfl⟩, hs⟩)
  rw [solo_eq_crowd]
  exact this
end top
end Go.Mus

/- The types and functions of the program, as facts. Conditions: none. -/
namespace Go.Proofs.YtabnpjbnoedfgaaDoor
open Go Go.Mus
set_option maxRecDepth 100000
instance : TD Go.Proofs.Tryd.prog 2 (.int .i64) := ⟨Go.Proofs.Tryd.underlying2⟩
instance : SC Go.Proofs.Tryd.prog 2 := ⟨by kernel_rfl⟩
instance : TI Go.Proofs.Tryd.prog 2 1 8 (.int .i64 0) #[(.int .i64 0)] := ⟨by kernel_rfl, rfl⟩
instance : TD Go.Proofs.Tryd.prog 3 (.int .i64) := ⟨Go.Proofs.Tryd.underlying3⟩
instance : SC Go.Proofs.Tryd.prog 3 := ⟨by kernel_rfl⟩
instance : TI Go.Proofs.Tryd.prog 3 1 8 (.int .i64 0) #[(.int .i64 0)] := ⟨by kernel_rfl, rfl⟩
instance : TD Go.Proofs.Tryd.prog 4 .bool := ⟨Go.Proofs.Tryd.underlying4⟩
instance : SC Go.Proofs.Tryd.prog 4 := ⟨by kernel_rfl⟩
instance : TI Go.Proofs.Tryd.prog 4 1 1 (.bool false) #[(.bool false)] := ⟨by kernel_rfl, rfl⟩
instance : TD Go.Proofs.Tryd.prog 5 (.int .u8) := ⟨Go.Proofs.Tryd.underlying5⟩
instance : SC Go.Proofs.Tryd.prog 5 := ⟨by kernel_rfl⟩
instance : TI Go.Proofs.Tryd.prog 5 1 1 (.int .u8 0) #[(.int .u8 0)] := ⟨by kernel_rfl, rfl⟩
instance : TD Go.Proofs.Tryd.prog 6 (.int .u8) := ⟨Go.Proofs.Tryd.underlying6⟩
instance : SC Go.Proofs.Tryd.prog 6 := ⟨by kernel_rfl⟩
instance : TI Go.Proofs.Tryd.prog 6 1 1 (.int .u8 0) #[(.int .u8 0)] := ⟨by kernel_rfl, rfl⟩
instance : AG Go.Proofs.Tryd.prog 7 4 := ⟨by kernel_rfl, by kernel_rfl⟩
instance : TI Go.Proofs.Tryd.prog 7 4 24 (.agg #[(.int .i64 0), (.int .i64 0), (.bool false), (.int .u8 0)]) #[(.int .i64 0), (.int .i64 0), (.bool false), (.int .u8 0)] := ⟨by kernel_rfl, rfl⟩
instance : FA Go.Proofs.Tryd.prog 7 0 0 2 := ⟨0, by kernel_rfl⟩
instance : FA Go.Proofs.Tryd.prog 7 1 1 3 := ⟨0, by kernel_rfl⟩
instance : FA Go.Proofs.Tryd.prog 7 2 2 4 := ⟨0, by kernel_rfl⟩
instance : FA Go.Proofs.Tryd.prog 7 3 3 6 := ⟨0, by kernel_rfl⟩
instance : BP Go.Proofs.Tryd.prog 7 [(0, 1), (1, 1), (2, 1), (3, 1)] := ⟨by kernel_rfl⟩
instance : AG Go.Proofs.Tryd.prog 8 4 := ⟨by kernel_rfl, by kernel_rfl⟩
instance : TI Go.Proofs.Tryd.prog 8 4 24 (.agg #[(.int .i64 0), (.int .i64 0), (.bool false), (.int .u8 0)]) #[(.int .i64 0), (.int .i64 0), (.bool false), (.int .u8 0)] := ⟨by kernel_rfl, rfl⟩
instance : FA Go.Proofs.Tryd.prog 8 0 0 2 := ⟨0, by kernel_rfl⟩
instance : FA Go.Proofs.Tryd.prog 8 1 1 3 := ⟨0, by kernel_rfl⟩
instance : FA Go.Proofs.Tryd.prog 8 2 2 4 := ⟨0, by kernel_rfl⟩
instance : FA Go.Proofs.Tryd.prog 8 3 3 6 := ⟨0, by kernel_rfl⟩
instance : BP Go.Proofs.Tryd.prog 8 [(0, 1), (1, 1), (2, 1), (3, 1)] := ⟨by kernel_rfl⟩
instance : TD Go.Proofs.Tryd.prog 9 .string := ⟨Go.Proofs.Tryd.underlying9⟩
instance : SC Go.Proofs.Tryd.prog 9 := ⟨by kernel_rfl⟩
instance : TI Go.Proofs.Tryd.prog 9 1 16 (.string ⟨#[]⟩) #[(.string ⟨#[]⟩)] := ⟨by kernel_rfl, rfl⟩
instance : TD Go.Proofs.Tryd.prog 10 .string := ⟨Go.Proofs.Tryd.underlying10⟩
instance : SC Go.Proofs.Tryd.prog 10 := ⟨by kernel_rfl⟩
instance : TI Go.Proofs.Tryd.prog 10 1 16 (.string ⟨#[]⟩) #[(.string ⟨#[]⟩)] := ⟨by kernel_rfl, rfl⟩
instance : TD Go.Proofs.Tryd.prog 11 .string := ⟨Go.Proofs.Tryd.underlying11⟩
instance : SC Go.Proofs.Tryd.prog 11 := ⟨by kernel_rfl⟩
instance : TI Go.Proofs.Tryd.prog 11 1 16 (.string ⟨#[]⟩) #[(.string ⟨#[]⟩)] := ⟨by kernel_rfl, rfl⟩
instance : TD Go.Proofs.Tryd.prog 12 (.int .u64) := ⟨Go.Proofs.Tryd.underlying12⟩
instance : SC Go.Proofs.Tryd.prog 12 := ⟨by kernel_rfl⟩
instance : TI Go.Proofs.Tryd.prog 12 1 8 (.int .u64 0) #[(.int .u64 0)] := ⟨by kernel_rfl, rfl⟩
instance : AG Go.Proofs.Tryd.prog 13 2 := ⟨by kernel_rfl, by kernel_rfl⟩
instance : TI Go.Proofs.Tryd.prog 13 2 24 (.agg #[(.string ⟨#[]⟩), (.int .u64 0)]) #[(.string ⟨#[]⟩), (.int .u64 0)] := ⟨by kernel_rfl, rfl⟩
instance : FA Go.Proofs.Tryd.prog 13 0 0 9 := ⟨0, by kernel_rfl⟩
instance : FA Go.Proofs.Tryd.prog 13 1 1 12 := ⟨0, by kernel_rfl⟩
instance : BP Go.Proofs.Tryd.prog 13 [(0, 1), (1, 1)] := ⟨by kernel_rfl⟩
instance : AG Go.Proofs.Tryd.prog 14 2 := ⟨by kernel_rfl, by kernel_rfl⟩
instance : TI Go.Proofs.Tryd.prog 14 2 24 (.agg #[(.string ⟨#[]⟩), (.int .u64 0)]) #[(.string ⟨#[]⟩), (.int .u64 0)] := ⟨by kernel_rfl, rfl⟩
instance : FA Go.Proofs.Tryd.prog 14 0 0 9 := ⟨0, by kernel_rfl⟩
instance : FA Go.Proofs.Tryd.prog 14 1 1 12 := ⟨0, by kernel_rfl⟩
instance : BP Go.Proofs.Tryd.prog 14 [(0, 1), (1, 1)] := ⟨by kernel_rfl⟩
instance : TD Go.Proofs.Tryd.prog 15 (.pointer 194) := ⟨Go.Proofs.Tryd.underlying15⟩
instance : SC Go.Proofs.Tryd.prog 15 := ⟨by kernel_rfl⟩
instance : TI Go.Proofs.Tryd.prog 15 1 8 (.pointer none) #[(.pointer none)] := ⟨by kernel_rfl, rfl⟩
instance : TD Go.Proofs.Tryd.prog 16 (.pointer 197) := ⟨Go.Proofs.Tryd.underlying16⟩
instance : SC Go.Proofs.Tryd.prog 16 := ⟨by kernel_rfl⟩
instance : TI Go.Proofs.Tryd.prog 16 1 8 (.pointer none) #[(.pointer none)] := ⟨by kernel_rfl, rfl⟩
instance : TD Go.Proofs.Tryd.prog 17 (.pointer 206) := ⟨Go.Proofs.Tryd.underlying17⟩
instance : SC Go.Proofs.Tryd.prog 17 := ⟨by kernel_rfl⟩
instance : TI Go.Proofs.Tryd.prog 17 1 8 (.pointer none) #[(.pointer none)] := ⟨by kernel_rfl, rfl⟩
instance : AG Go.Proofs.Tryd.prog 18 1 := ⟨by kernel_rfl, by kernel_rfl⟩
instance : TI Go.Proofs.Tryd.prog 18 1 8 (.agg #[(.pointer none)]) #[(.pointer none)] := ⟨by kernel_rfl, rfl⟩
instance : FA Go.Proofs.Tryd.prog 18 0 0 17 := ⟨0, by kernel_rfl⟩
instance : BP Go.Proofs.Tryd.prog 18 [(0, 1)] := ⟨by kernel_rfl⟩
instance : AG Go.Proofs.Tryd.prog 19 1 := ⟨by kernel_rfl, by kernel_rfl⟩
instance : TI Go.Proofs.Tryd.prog 19 1 8 (.agg #[(.pointer none)]) #[(.pointer none)] := ⟨by kernel_rfl, rfl⟩
instance : FA Go.Proofs.Tryd.prog 19 0 0 17 := ⟨0, by kernel_rfl⟩
instance : BP Go.Proofs.Tryd.prog 19 [(0, 1)] := ⟨by kernel_rfl⟩
instance : TD Go.Proofs.Tryd.prog 20 (.interface #[]) := ⟨Go.Proofs.Tryd.underlying20⟩
instance : SC Go.Proofs.Tryd.prog 20 := ⟨by kernel_rfl⟩
instance : TI Go.Proofs.Tryd.prog 20 1 16 .nilIface #[.nilIface] := ⟨by kernel_rfl, rfl⟩
instance : TD Go.Proofs.Tryd.prog 21 (.int .i32) := ⟨Go.Proofs.Tryd.underlying21⟩
instance : SC Go.Proofs.Tryd.prog 21 := ⟨by kernel_rfl⟩
instance : TI Go.Proofs.Tryd.prog 21 1 4 (.int .i32 0) #[(.int .i32 0)] := ⟨by kernel_rfl, rfl⟩
instance : TD Go.Proofs.Tryd.prog 22 (.slice 3) := ⟨Go.Proofs.Tryd.underlying22⟩
instance : SC Go.Proofs.Tryd.prog 22 := ⟨by kernel_rfl⟩
instance : TI Go.Proofs.Tryd.prog 22 1 24 (.slice none 0 0) #[(.slice none 0 0)] := ⟨by kernel_rfl, rfl⟩
instance : TD Go.Proofs.Tryd.prog 23 (.slice 44) := ⟨Go.Proofs.Tryd.underlying23⟩
instance : SC Go.Proofs.Tryd.prog 23 := ⟨by kernel_rfl⟩
instance : TI Go.Proofs.Tryd.prog 23 1 24 (.slice none 0 0) #[(.slice none 0 0)] := ⟨by kernel_rfl, rfl⟩
instance : TD Go.Proofs.Tryd.prog 24 (.slice 47) := ⟨Go.Proofs.Tryd.underlying24⟩
instance : SC Go.Proofs.Tryd.prog 24 := ⟨by kernel_rfl⟩
instance : TI Go.Proofs.Tryd.prog 24 1 24 (.slice none 0 0) #[(.slice none 0 0)] := ⟨by kernel_rfl, rfl⟩
instance : AG Go.Proofs.Tryd.prog 25 2 := ⟨by kernel_rfl, by kernel_rfl⟩
instance : TI Go.Proofs.Tryd.prog 25 2 48 (.agg #[(.slice none 0 0), (.slice none 0 0)]) #[(.slice none 0 0), (.slice none 0 0)] := ⟨by kernel_rfl, rfl⟩
instance : FA Go.Proofs.Tryd.prog 25 0 0 23 := ⟨0, by kernel_rfl⟩
instance : FA Go.Proofs.Tryd.prog 25 1 1 24 := ⟨0, by kernel_rfl⟩
instance : BP Go.Proofs.Tryd.prog 25 [(0, 1), (1, 1)] := ⟨by kernel_rfl⟩
instance : AG Go.Proofs.Tryd.prog 26 2 := ⟨by kernel_rfl, by kernel_rfl⟩
instance : TI Go.Proofs.Tryd.prog 26 2 48 (.agg #[(.slice none 0 0), (.slice none 0 0)]) #[(.slice none 0 0), (.slice none 0 0)] := ⟨by kernel_rfl, rfl⟩
instance : FA Go.Proofs.Tryd.prog 26 0 0 23 := ⟨0, by kernel_rfl⟩
instance : FA Go.Proofs.Tryd.prog 26 1 1 24 := ⟨0, by kernel_rfl⟩
instance : BP Go.Proofs.Tryd.prog 26 [(0, 1), (1, 1)] := ⟨by kernel_rfl⟩
instance : TD Go.Proofs.Tryd.prog 28 (.pointer 88) := ⟨Go.Proofs.Tryd.underlying28⟩
instance : SC Go.Proofs.Tryd.prog 28 := ⟨by kernel_rfl⟩
instance : TI Go.Proofs.Tryd.prog 28 1 8 (.pointer none) #[(.pointer none)] := ⟨by kernel_rfl, rfl⟩
instance : TD Go.Proofs.Tryd.prog 32 (.int .i64) := ⟨Go.Proofs.Tryd.underlying32⟩
instance : SC Go.Proofs.Tryd.prog 32 := ⟨by kernel_rfl⟩
instance : TI Go.Proofs.Tryd.prog 32 1 8 (.int .i64 0) #[(.int .i64 0)] := ⟨by kernel_rfl, rfl⟩
instance : AG Go.Proofs.Tryd.prog 41 2 := ⟨by kernel_rfl, by kernel_rfl⟩
instance : TI Go.Proofs.Tryd.prog 41 2 16 (.agg #[(.int .i64 0), (.int .i64 0)]) #[(.int .i64 0), (.int .i64 0)] := ⟨by kernel_rfl, rfl⟩
instance : FA Go.Proofs.Tryd.prog 41 0 0 3 := ⟨0, by kernel_rfl⟩
instance : FA Go.Proofs.Tryd.prog 41 1 1 3 := ⟨0, by kernel_rfl⟩
instance : BP Go.Proofs.Tryd.prog 41 [(0, 1), (1, 1)] := ⟨by kernel_rfl⟩
instance : AG Go.Proofs.Tryd.prog 42 2 := ⟨by kernel_rfl, by kernel_rfl⟩
instance : TI Go.Proofs.Tryd.prog 42 2 16 (.agg #[(.int .i64 0), (.int .i64 0)]) #[(.int .i64 0), (.int .i64 0)] := ⟨by kernel_rfl, rfl⟩
instance : FA Go.Proofs.Tryd.prog 42 0 0 3 := ⟨0, by kernel_rfl⟩
instance : FA Go.Proofs.Tryd.prog 42 1 1 3 := ⟨0, by kernel_rfl⟩
instance : BP Go.Proofs.Tryd.prog 42 [(0, 1), (1, 1)] := ⟨by kernel_rfl⟩
instance : AG Go.Proofs.Tryd.prog 43 4 := ⟨by kernel_rfl, by kernel_rfl⟩
instance : TI Go.Proofs.Tryd.prog 43 4 32 (.agg #[(.int .i64 0), (.int .i64 0), (.int .i64 0), (.int .i64 0)]) #[(.int .i64 0), (.int .i64 0), (.int .i64 0), (.int .i64 0)] := ⟨by kernel_rfl, rfl⟩
instance : FA Go.Proofs.Tryd.prog 43 0 0 3 := ⟨0, by kernel_rfl⟩
instance : FA Go.Proofs.Tryd.prog 43 1 1 42 := ⟨1, by kernel_rfl⟩
instance : FA Go.Proofs.Tryd.prog 43 2 3 3 := ⟨0, by kernel_rfl⟩
instance : BP Go.Proofs.Tryd.prog 43 [(0, 1), (1, 2), (3, 1)] := ⟨by kernel_rfl⟩
instance : AG Go.Proofs.Tryd.prog 44 4 := ⟨by kernel_rfl, by kernel_rfl⟩
instance : TI Go.Proofs.Tryd.prog 44 4 32 (.agg #[(.int .i64 0), (.int .i64 0), (.int .i64 0), (.int .i64 0)]) #[(.int .i64 0), (.int .i64 0), (.int .i64 0), (.int .i64 0)] := ⟨by kernel_rfl, rfl⟩
instance : FA Go.Proofs.Tryd.prog 44 0 0 3 := ⟨0, by kernel_rfl⟩
instance : FA Go.Proofs.Tryd.prog 44 1 1 42 := ⟨1, by kernel_rfl⟩
instance : FA Go.Proofs.Tryd.prog 44 2 3 3 := ⟨0, by kernel_rfl⟩
instance : BP Go.Proofs.Tryd.prog 44 [(0, 1), (1, 2), (3, 1)] := ⟨by kernel_rfl⟩
instance : AG Go.Proofs.Tryd.prog 46 3 := ⟨by kernel_rfl, by kernel_rfl⟩
instance : TI Go.Proofs.Tryd.prog 46 3 24 (.agg #[(.int .i64 0), (.int .i64 0), (.int .i64 0)]) #[(.int .i64 0), (.int .i64 0), (.int .i64 0)] := ⟨by kernel_rfl, rfl⟩
instance : FA Go.Proofs.Tryd.prog 46 0 0 3 := ⟨0, by kernel_rfl⟩
instance : FA Go.Proofs.Tryd.prog 46 1 1 3 := ⟨0, by kernel_rfl⟩
instance : FA Go.Proofs.Tryd.prog 46 2 2 3 := ⟨0, by kernel_rfl⟩
instance : BP Go.Proofs.Tryd.prog 46 [(0, 1), (1, 1), (2, 1)] := ⟨by kernel_rfl⟩
instance : AG Go.Proofs.Tryd.prog 47 3 := ⟨by kernel_rfl, by kernel_rfl⟩
instance : TI Go.Proofs.Tryd.prog 47 3 24 (.agg #[(.int .i64 0), (.int .i64 0), (.int .i64 0)]) #[(.int .i64 0), (.int .i64 0), (.int .i64 0)] := ⟨by kernel_rfl, rfl⟩
instance : FA Go.Proofs.Tryd.prog 47 0 0 3 := ⟨0, by kernel_rfl⟩
instance : FA Go.Proofs.Tryd.prog 47 1 1 3 := ⟨0, by kernel_rfl⟩
instance : FA Go.Proofs.Tryd.prog 47 2 2 3 := ⟨0, by kernel_rfl⟩
instance : BP Go.Proofs.Tryd.prog 47 [(0, 1), (1, 1), (2, 1)] := ⟨by kernel_rfl⟩
instance : TD Go.Proofs.Tryd.prog 50 (.slice 26) := ⟨Go.Proofs.Tryd.underlying50⟩
instance : SC Go.Proofs.Tryd.prog 50 := ⟨by kernel_rfl⟩
instance : TI Go.Proofs.Tryd.prog 50 1 24 (.slice none 0 0) #[(.slice none 0 0)] := ⟨by kernel_rfl, rfl⟩
instance : TD Go.Proofs.Tryd.prog 51 (.slice 62) := ⟨Go.Proofs.Tryd.underlying51⟩
instance : SC Go.Proofs.Tryd.prog 51 := ⟨by kernel_rfl⟩
instance : TI Go.Proofs.Tryd.prog 51 1 24 (.slice none 0 0) #[(.slice none 0 0)] := ⟨by kernel_rfl, rfl⟩
instance : TD Go.Proofs.Tryd.prog 56 (.slice 51) := ⟨Go.Proofs.Tryd.underlying56⟩
instance : SC Go.Proofs.Tryd.prog 56 := ⟨by kernel_rfl⟩
instance : TI Go.Proofs.Tryd.prog 56 1 24 (.slice none 0 0) #[(.slice none 0 0)] := ⟨by kernel_rfl, rfl⟩
instance : AG Go.Proofs.Tryd.prog 61 2 := ⟨by kernel_rfl, by kernel_rfl⟩
instance : TI Go.Proofs.Tryd.prog 61 2 16 (.agg #[(.int .i64 0), (.int .i64 0)]) #[(.int .i64 0), (.int .i64 0)] := ⟨by kernel_rfl, rfl⟩
instance : FA Go.Proofs.Tryd.prog 61 0 0 3 := ⟨0, by kernel_rfl⟩
instance : FA Go.Proofs.Tryd.prog 61 1 1 3 := ⟨0, by kernel_rfl⟩
instance : BP Go.Proofs.Tryd.prog 61 [(0, 1), (1, 1)] := ⟨by kernel_rfl⟩
instance : AG Go.Proofs.Tryd.prog 62 2 := ⟨by kernel_rfl, by kernel_rfl⟩
instance : TI Go.Proofs.Tryd.prog 62 2 16 (.agg #[(.int .i64 0), (.int .i64 0)]) #[(.int .i64 0), (.int .i64 0)] := ⟨by kernel_rfl, rfl⟩
instance : FA Go.Proofs.Tryd.prog 62 0 0 3 := ⟨0, by kernel_rfl⟩
instance : FA Go.Proofs.Tryd.prog 62 1 1 3 := ⟨0, by kernel_rfl⟩
instance : BP Go.Proofs.Tryd.prog 62 [(0, 1), (1, 1)] := ⟨by kernel_rfl⟩
instance : TD Go.Proofs.Tryd.prog 68 (.slice 22) := ⟨Go.Proofs.Tryd.underlying68⟩
instance : SC Go.Proofs.Tryd.prog 68 := ⟨by kernel_rfl⟩
instance : TI Go.Proofs.Tryd.prog 68 1 24 (.slice none 0 0) #[(.slice none 0 0)] := ⟨by kernel_rfl, rfl⟩
instance : TD Go.Proofs.Tryd.prog 86 (.int .u64) := ⟨Go.Proofs.Tryd.underlying86⟩
instance : SC Go.Proofs.Tryd.prog 86 := ⟨by kernel_rfl⟩
instance : TI Go.Proofs.Tryd.prog 86 1 8 (.int .u64 0) #[(.int .u64 0)] := ⟨by kernel_rfl, rfl⟩
instance : AG Go.Proofs.Tryd.prog 87 3 := ⟨by kernel_rfl, by kernel_rfl⟩
instance : TI Go.Proofs.Tryd.prog 87 3 40 (.agg #[(.slice none 0 0), (.int .i64 0), (.int .u64 0)]) #[(.slice none 0 0), (.int .i64 0), (.int .u64 0)] := ⟨by kernel_rfl, rfl⟩
instance : FA Go.Proofs.Tryd.prog 87 0 0 22 := ⟨0, by kernel_rfl⟩
instance : FA Go.Proofs.Tryd.prog 87 1 1 3 := ⟨0, by kernel_rfl⟩
instance : FA Go.Proofs.Tryd.prog 87 2 2 86 := ⟨0, by kernel_rfl⟩
instance : BP Go.Proofs.Tryd.prog 87 [(0, 1), (1, 1), (2, 1)] := ⟨by kernel_rfl⟩
instance : AG Go.Proofs.Tryd.prog 88 3 := ⟨by kernel_rfl, by kernel_rfl⟩
instance : TI Go.Proofs.Tryd.prog 88 3 40 (.agg #[(.slice none 0 0), (.int .i64 0), (.int .u64 0)]) #[(.slice none 0 0), (.int .i64 0), (.int .u64 0)] := ⟨by kernel_rfl, rfl⟩
instance : FA Go.Proofs.Tryd.prog 88 0 0 22 := ⟨0, by kernel_rfl⟩
instance : FA Go.Proofs.Tryd.prog 88 1 1 3 := ⟨0, by kernel_rfl⟩
instance : FA Go.Proofs.Tryd.prog 88 2 2 86 := ⟨0, by kernel_rfl⟩
instance : BP Go.Proofs.Tryd.prog 88 [(0, 1), (1, 1), (2, 1)] := ⟨by kernel_rfl⟩
instance : AG Go.Proofs.Tryd.prog 89 2 := ⟨by kernel_rfl, by kernel_rfl⟩
instance : TI Go.Proofs.Tryd.prog 89 2 48 (.agg #[(.slice none 0 0), (.slice none 0 0)]) #[(.slice none 0 0), (.slice none 0 0)] := ⟨by kernel_rfl, rfl⟩
instance : FA Go.Proofs.Tryd.prog 89 0 0 26 := ⟨1, by kernel_rfl⟩
instance : BP Go.Proofs.Tryd.prog 89 [(0, 2)] := ⟨by kernel_rfl⟩
instance : AG Go.Proofs.Tryd.prog 90 2 := ⟨by kernel_rfl, by kernel_rfl⟩
instance : TI Go.Proofs.Tryd.prog 90 2 48 (.agg #[(.slice none 0 0), (.slice none 0 0)]) #[(.slice none 0 0), (.slice none 0 0)] := ⟨by kernel_rfl, rfl⟩
instance : FA Go.Proofs.Tryd.prog 90 0 0 26 := ⟨1, by kernel_rfl⟩
instance : BP Go.Proofs.Tryd.prog 90 [(0, 2)] := ⟨by kernel_rfl⟩
instance : AG Go.Proofs.Tryd.prog 92 3 := ⟨by kernel_rfl, by kernel_rfl⟩
instance : TI Go.Proofs.Tryd.prog 92 3 56 (.agg #[(.slice none 0 0), (.slice none 0 0), .nilFunc]) #[(.slice none 0 0), (.slice none 0 0), .nilFunc] := ⟨by kernel_rfl, rfl⟩
instance : FA Go.Proofs.Tryd.prog 92 0 0 90 := ⟨1, by kernel_rfl⟩
instance : FA Go.Proofs.Tryd.prog 92 1 2 91 := ⟨0, by kernel_rfl⟩
instance : BP Go.Proofs.Tryd.prog 92 [(0, 2), (2, 1)] := ⟨by kernel_rfl⟩
instance : AG Go.Proofs.Tryd.prog 93 3 := ⟨by kernel_rfl, by kernel_rfl⟩
instance : TI Go.Proofs.Tryd.prog 93 3 56 (.agg #[(.slice none 0 0), (.slice none 0 0), .nilFunc]) #[(.slice none 0 0), (.slice none 0 0), .nilFunc] := ⟨by kernel_rfl, rfl⟩
instance : FA Go.Proofs.Tryd.prog 93 0 0 90 := ⟨1, by kernel_rfl⟩
instance : FA Go.Proofs.Tryd.prog 93 1 2 91 := ⟨0, by kernel_rfl⟩
instance : BP Go.Proofs.Tryd.prog 93 [(0, 2), (2, 1)] := ⟨by kernel_rfl⟩
instance : TD Go.Proofs.Tryd.prog 104 (.pointer 44) := ⟨Go.Proofs.Tryd.underlying104⟩
instance : SC Go.Proofs.Tryd.prog 104 := ⟨by kernel_rfl⟩
instance : TI Go.Proofs.Tryd.prog 104 1 8 (.pointer none) #[(.pointer none)] := ⟨by kernel_rfl, rfl⟩
instance : TD Go.Proofs.Tryd.prog 106 (.slice 114) := ⟨Go.Proofs.Tryd.underlying106⟩
instance : SC Go.Proofs.Tryd.prog 106 := ⟨by kernel_rfl⟩
instance : TI Go.Proofs.Tryd.prog 106 1 24 (.slice none 0 0) #[(.slice none 0 0)] := ⟨by kernel_rfl, rfl⟩
instance : AG Go.Proofs.Tryd.prog 107 2 := ⟨by kernel_rfl, by kernel_rfl⟩
instance : TI Go.Proofs.Tryd.prog 107 2 32 (.agg #[(.int .i64 0), (.slice none 0 0)]) #[(.int .i64 0), (.slice none 0 0)] := ⟨by kernel_rfl, rfl⟩
instance : FA Go.Proofs.Tryd.prog 107 0 0 3 := ⟨0, by kernel_rfl⟩
instance : FA Go.Proofs.Tryd.prog 107 1 1 106 := ⟨0, by kernel_rfl⟩
instance : BP Go.Proofs.Tryd.prog 107 [(0, 1), (1, 1)] := ⟨by kernel_rfl⟩
instance : AG Go.Proofs.Tryd.prog 108 2 := ⟨by kernel_rfl, by kernel_rfl⟩
instance : TI Go.Proofs.Tryd.prog 108 2 32 (.agg #[(.int .i64 0), (.slice none 0 0)]) #[(.int .i64 0), (.slice none 0 0)] := ⟨by kernel_rfl, rfl⟩
instance : FA Go.Proofs.Tryd.prog 108 0 0 3 := ⟨0, by kernel_rfl⟩
instance : FA Go.Proofs.Tryd.prog 108 1 1 106 := ⟨0, by kernel_rfl⟩
instance : BP Go.Proofs.Tryd.prog 108 [(0, 1), (1, 1)] := ⟨by kernel_rfl⟩
instance : TD Go.Proofs.Tryd.prog 113 (.array 4 62) := ⟨Go.Proofs.Tryd.underlying113⟩
instance : AG Go.Proofs.Tryd.prog 113 8 := ⟨by kernel_rfl, by kernel_rfl⟩
instance : TI Go.Proofs.Tryd.prog 113 8 64 (.agg #[(.int .i64 0), (.int .i64 0), (.int .i64 0), (.int .i64 0), (.int .i64 0), (.int .i64 0), (.int .i64 0), (.int .i64 0)]) #[(.int .i64 0), (.int .i64 0), (.int .i64 0), (.int .i64 0), (.int .i64 0), (.int .i64 0), (.int .i64 0), (.int .i64 0)] := ⟨by kernel_rfl, rfl⟩
instance : TD Go.Proofs.Tryd.prog 114 (.array 4 62) := ⟨Go.Proofs.Tryd.underlying114⟩
instance : AG Go.Proofs.Tryd.prog 114 8 := ⟨by kernel_rfl, by kernel_rfl⟩
instance : TI Go.Proofs.Tryd.prog 114 8 64 (.agg #[(.int .i64 0), (.int .i64 0), (.int .i64 0), (.int .i64 0), (.int .i64 0), (.int .i64 0), (.int .i64 0), (.int .i64 0)]) #[(.int .i64 0), (.int .i64 0), (.int .i64 0), (.int .i64 0), (.int .i64 0), (.int .i64 0), (.int .i64 0), (.int .i64 0)] := ⟨by kernel_rfl, rfl⟩
instance : TD Go.Proofs.Tryd.prog 117 (.interface #[("muscovado/floor.day", 126)]) := ⟨Go.Proofs.Tryd.underlying117⟩
instance : SC Go.Proofs.Tryd.prog 117 := ⟨by kernel_rfl⟩
instance : TI Go.Proofs.Tryd.prog 117 1 16 .nilIface #[.nilIface] := ⟨by kernel_rfl, rfl⟩
instance : TD Go.Proofs.Tryd.prog 118 (.interface #[("muscovado/floor.day", 126)]) := ⟨Go.Proofs.Tryd.underlying118⟩
instance : SC Go.Proofs.Tryd.prog 118 := ⟨by kernel_rfl⟩
instance : TI Go.Proofs.Tryd.prog 118 1 16 .nilIface #[.nilIface] := ⟨by kernel_rfl, rfl⟩
instance : AG Go.Proofs.Tryd.prog 119 2 := ⟨by kernel_rfl, by kernel_rfl⟩
instance : TI Go.Proofs.Tryd.prog 119 2 24 (.agg #[.nilIface, (.int .i64 0)]) #[.nilIface, (.int .i64 0)] := ⟨by kernel_rfl, rfl⟩
instance : FA Go.Proofs.Tryd.prog 119 0 0 118 := ⟨0, by kernel_rfl⟩
instance : FA Go.Proofs.Tryd.prog 119 1 1 3 := ⟨0, by kernel_rfl⟩
instance : BP Go.Proofs.Tryd.prog 119 [(0, 1), (1, 1)] := ⟨by kernel_rfl⟩
instance : AG Go.Proofs.Tryd.prog 120 2 := ⟨by kernel_rfl, by kernel_rfl⟩
instance : TI Go.Proofs.Tryd.prog 120 2 24 (.agg #[.nilIface, (.int .i64 0)]) #[.nilIface, (.int .i64 0)] := ⟨by kernel_rfl, rfl⟩
instance : FA Go.Proofs.Tryd.prog 120 0 0 118 := ⟨0, by kernel_rfl⟩
instance : FA Go.Proofs.Tryd.prog 120 1 1 3 := ⟨0, by kernel_rfl⟩
instance : BP Go.Proofs.Tryd.prog 120 [(0, 1), (1, 1)] := ⟨by kernel_rfl⟩
instance : TD Go.Proofs.Tryd.prog 122 (.interface #[("Error", 192)]) := ⟨Go.Proofs.Tryd.underlying122⟩
instance : SC Go.Proofs.Tryd.prog 122 := ⟨by kernel_rfl⟩
instance : TI Go.Proofs.Tryd.prog 122 1 16 .nilIface #[.nilIface] := ⟨by kernel_rfl, rfl⟩
instance : TD Go.Proofs.Tryd.prog 123 (.interface #[("Error", 192)]) := ⟨Go.Proofs.Tryd.underlying123⟩
instance : SC Go.Proofs.Tryd.prog 123 := ⟨by kernel_rfl⟩
instance : TI Go.Proofs.Tryd.prog 123 1 16 .nilIface #[.nilIface] := ⟨by kernel_rfl, rfl⟩
instance : TD Go.Proofs.Tryd.prog 125 (.pointer 120) := ⟨Go.Proofs.Tryd.underlying125⟩
instance : SC Go.Proofs.Tryd.prog 125 := ⟨by kernel_rfl⟩
instance : TI Go.Proofs.Tryd.prog 125 1 8 (.pointer none) #[(.pointer none)] := ⟨by kernel_rfl, rfl⟩
instance : TD Go.Proofs.Tryd.prog 128 (.array 22 42) := ⟨Go.Proofs.Tryd.underlying128⟩
instance : AG Go.Proofs.Tryd.prog 128 44 := ⟨by kernel_rfl, by kernel_rfl⟩
instance : TI Go.Proofs.Tryd.prog 128 44 352 (.agg #[(.int .i64 0), (.int .i64 0), (.int .i64 0), (.int .i64 0), (.int .i64 0), (.int .i64 0), (.int .i64 0), (.int .i64 0), (.int .i64 0), (.int .i64 0), (.int .i64 0), (.int .i64 0), (.int .i64 0), (.int .i64 0), (.int .i64 0), (.int .i64 0), (.int .i64 0), (.int .i64 0), (.int .i64 0), (.int .i64 0), (.int .i64 0), (.int .i64 0), (.int .i64 0), (.int .i64 0), (.int .i64 0), (.int .i64 0), (.int .i64 0), (.int .i64 0), (.int .i64 0), (.int .i64 0), (.int .i64 0), (.int .i64 0), (.int .i64 0), (.int .i64 0), (.int .i64 0), (.int .i64 0), (.int .i64 0), (.int .i64 0), (.int .i64 0), (.int .i64 0), (.int .i64 0), (.int .i64 0), (.int .i64 0), (.int .i64 0)]) #[(.int .i64 0), (.int .i64 0), (.int .i64 0), (.int .i64 0), (.int .i64 0), (.int .i64 0), (.int .i64 0), (.int .i64 0), (.int .i64 0), (.int .i64 0), (.int .i64 0), (.int .i64 0), (.int .i64 0), (.int .i64 0), (.int .i64 0), (.int .i64 0), (.int .i64 0), (.int .i64 0), (.int .i64 0), (.int .i64 0), (.int .i64 0), (.int .i64 0), (.int .i64 0), (.int .i64 0), (.int .i64 0), (.int .i64 0), (.int .i64 0), (.int .i64 0), (.int .i64 0), (.int .i64 0), (.int .i64 0), (.int .i64 0), (.int .i64 0), (.int .i64 0), (.int .i64 0), (.int .i64 0), (.int .i64 0), (.int .i64 0), (.int .i64 0), (.int .i64 0), (.int .i64 0), (.int .i64 0), (.int .i64 0), (.int .i64 0)] := ⟨by kernel_rfl, rfl⟩
instance : TD Go.Proofs.Tryd.prog 129 (.array 22 42) := ⟨Go.Proofs.Tryd.underlying129⟩
instance : AG Go.Proofs.Tryd.prog 129 44 := ⟨by kernel_rfl, by kernel_rfl⟩
instance : TI Go.Proofs.Tryd.prog 129 44 352 (.agg #[(.int .i64 0), (.int .i64 0), (.int .i64 0), (.int .i64 0), (.int .i64 0), (.int .i64 0), (.int .i64 0), (.int .i64 0), (.int .i64 0), (.int .i64 0), (.int .i64 0), (.int .i64 0), (.int .i64 0), (.int .i64 0), (.int .i64 0), (.int .i64 0), (.int .i64 0), (.int .i64 0), (.int .i64 0), (.int .i64 0), (.int .i64 0), (.int .i64 0), (.int .i64 0), (.int .i64 0), (.int .i64 0), (.int .i64 0), (.int .i64 0), (.int .i64 0), (.int .i64 0), (.int .i64 0), (.int .i64 0), (.int .i64 0), (.int .i64 0), (.int .i64 0), (.int .i64 0), (.int .i64 0), (.int .i64 0), (.int .i64 0), (.int .i64 0), (.int .i64 0), (.int .i64 0), (.int .i64 0), (.int .i64 0), (.int .i64 0)]) #[(.int .i64 0), (.int .i64 0), (.int .i64 0), (.int .i64 0), (.int .i64 0), (.int .i64 0), (.int .i64 0), (.int .i64 0), (.int .i64 0), (.int .i64 0), (.int .i64 0), (.int .i64 0), (.int .i64 0), (.int .i64 0), (.int .i64 0), (.int .i64 0), (.int .i64 0), (.int .i64 0), (.int .i64 0), (.int .i64 0), (.int .i64 0), (.int .i64 0), (.int .i64 0), (.int .i64 0), (.int .i64 0), (.int .i64 0), (.int .i64 0), (.int .i64 0), (.int .i64 0), (.int .i64 0), (.int .i64 0), (.int .i64 0), (.int .i64 0), (.int .i64 0), (.int .i64 0), (.int .i64 0), (.int .i64 0), (.int .i64 0), (.int .i64 0), (.int .i64 0), (.int .i64 0), (.int .i64 0), (.int .i64 0), (.int .i64 0)] := ⟨by kernel_rfl, rfl⟩
instance : TD Go.Proofs.Tryd.prog 140 (.pointer 114) := ⟨Go.Proofs.Tryd.underlying140⟩
instance : SC Go.Proofs.Tryd.prog 140 := ⟨by kernel_rfl⟩
instance : TI Go.Proofs.Tryd.prog 140 1 8 (.pointer none) #[(.pointer none)] := ⟨by kernel_rfl, rfl⟩
instance : TD Go.Proofs.Tryd.prog 142 (.int .u64) := ⟨Go.Proofs.Tryd.underlying142⟩
instance : SC Go.Proofs.Tryd.prog 142 := ⟨by kernel_rfl⟩
instance : TI Go.Proofs.Tryd.prog 142 1 8 (.int .u64 0) #[(.int .u64 0)] := ⟨by kernel_rfl, rfl⟩
instance : TD Go.Proofs.Tryd.prog 145 (.map 114 4) := ⟨Go.Proofs.Tryd.underlying145⟩
instance : SC Go.Proofs.Tryd.prog 145 := ⟨by kernel_rfl⟩
instance : TI Go.Proofs.Tryd.prog 145 1 8 (.map none) #[(.map none)] := ⟨by kernel_rfl, rfl⟩
instance : SC Go.Proofs.Tryd.prog 148 := ⟨by kernel_rfl⟩
instance : TI Go.Proofs.Tryd.prog 148 1 8 (.pointer none) #[(.pointer none)] := ⟨by kernel_rfl, rfl⟩
instance : TD Go.Proofs.Tryd.prog 149 (.int .u64) := ⟨Go.Proofs.Tryd.underlying149⟩
instance : SC Go.Proofs.Tryd.prog 149 := ⟨by kernel_rfl⟩
instance : TI Go.Proofs.Tryd.prog 149 1 8 (.int .u64 0) #[(.int .u64 0)] := ⟨by kernel_rfl, rfl⟩
instance : AG Go.Proofs.Tryd.prog 150 3 := ⟨by kernel_rfl, by kernel_rfl⟩
instance : TI Go.Proofs.Tryd.prog 150 3 24 (.agg #[(.pointer none), (.pointer none), (.int .u64 0)]) #[(.pointer none), (.pointer none), (.int .u64 0)] := ⟨by kernel_rfl, rfl⟩
instance : FA Go.Proofs.Tryd.prog 150 0 0 17 := ⟨0, by kernel_rfl⟩
instance : FA Go.Proofs.Tryd.prog 150 1 1 148 := ⟨0, by kernel_rfl⟩
instance : FA Go.Proofs.Tryd.prog 150 2 2 149 := ⟨0, by kernel_rfl⟩
instance : BP Go.Proofs.Tryd.prog 150 [(0, 1), (1, 1), (2, 1)] := ⟨by kernel_rfl⟩
instance : AG Go.Proofs.Tryd.prog 151 3 := ⟨by kernel_rfl, by kernel_rfl⟩
instance : TI Go.Proofs.Tryd.prog 151 3 24 (.agg #[(.pointer none), (.pointer none), (.int .u64 0)]) #[(.pointer none), (.pointer none), (.int .u64 0)] := ⟨by kernel_rfl, rfl⟩
instance : FA Go.Proofs.Tryd.prog 151 0 0 17 := ⟨0, by kernel_rfl⟩
instance : FA Go.Proofs.Tryd.prog 151 1 1 148 := ⟨0, by kernel_rfl⟩
instance : FA Go.Proofs.Tryd.prog 151 2 2 149 := ⟨0, by kernel_rfl⟩
instance : BP Go.Proofs.Tryd.prog 151 [(0, 1), (1, 1), (2, 1)] := ⟨by kernel_rfl⟩
instance : TD Go.Proofs.Tryd.prog 153 (.interface #[("AssignableTo", 158), ("Comparable", 30), ("Elem", 155), ("Implements", 158), ("Kind", 157), ("Name", 192), ("PkgPath", 192), ("Size", 207), ("String", 192), ("internal/reflectlite.common", 198), ("internal/reflectlite.uncommon", 208)]) := ⟨Go.Proofs.Tryd.underlying153⟩
instance : SC Go.Proofs.Tryd.prog 153 := ⟨by kernel_rfl⟩
instance : TI Go.Proofs.Tryd.prog 153 1 16 .nilIface #[.nilIface] := ⟨by kernel_rfl, rfl⟩
instance : TD Go.Proofs.Tryd.prog 154 (.interface #[("AssignableTo", 158), ("Comparable", 30), ("Elem", 155), ("Implements", 158), ("Kind", 157), ("Name", 192), ("PkgPath", 192), ("Size", 207), ("String", 192), ("internal/reflectlite.common", 198), ("internal/reflectlite.uncommon", 208)]) := ⟨Go.Proofs.Tryd.underlying154⟩
instance : SC Go.Proofs.Tryd.prog 154 := ⟨by kernel_rfl⟩
instance : TI Go.Proofs.Tryd.prog 154 1 16 .nilIface #[.nilIface] := ⟨by kernel_rfl, rfl⟩
instance : TD Go.Proofs.Tryd.prog 156 (.int .u8) := ⟨Go.Proofs.Tryd.underlying156⟩
instance : SC Go.Proofs.Tryd.prog 156 := ⟨by kernel_rfl⟩
instance : TI Go.Proofs.Tryd.prog 156 1 1 (.int .u8 0) #[(.int .u8 0)] := ⟨by kernel_rfl, rfl⟩
instance : TD Go.Proofs.Tryd.prog 165 (.pointer 108) := ⟨Go.Proofs.Tryd.underlying165⟩
instance : SC Go.Proofs.Tryd.prog 165 := ⟨by kernel_rfl⟩
instance : TI Go.Proofs.Tryd.prog 165 1 8 (.pointer none) #[(.pointer none)] := ⟨by kernel_rfl, rfl⟩
instance : TD Go.Proofs.Tryd.prog 167 (.slice 168) := ⟨Go.Proofs.Tryd.underlying167⟩
instance : SC Go.Proofs.Tryd.prog 167 := ⟨by kernel_rfl⟩
instance : TI Go.Proofs.Tryd.prog 167 1 24 (.slice none 0 0) #[(.slice none 0 0)] := ⟨by kernel_rfl, rfl⟩
instance : TD Go.Proofs.Tryd.prog 168 (.chan .both 114) := ⟨Go.Proofs.Tryd.underlying168⟩
instance : SC Go.Proofs.Tryd.prog 168 := ⟨by kernel_rfl⟩
instance : TI Go.Proofs.Tryd.prog 168 1 8 (.chan none) #[(.chan none)] := ⟨by kernel_rfl, rfl⟩
instance : AG Go.Proofs.Tryd.prog 170 1 := ⟨by kernel_rfl, by kernel_rfl⟩
instance : TI Go.Proofs.Tryd.prog 170 1 8 (.agg #[(.pointer none)]) #[(.pointer none)] := ⟨by kernel_rfl, rfl⟩
instance : FA Go.Proofs.Tryd.prog 170 0 0 17 := ⟨0, by kernel_rfl⟩
instance : BP Go.Proofs.Tryd.prog 170 [(0, 1)] := ⟨by kernel_rfl⟩
instance : AG Go.Proofs.Tryd.prog 171 1 := ⟨by kernel_rfl, by kernel_rfl⟩
instance : TI Go.Proofs.Tryd.prog 171 1 8 (.agg #[(.pointer none)]) #[(.pointer none)] := ⟨by kernel_rfl, rfl⟩
instance : FA Go.Proofs.Tryd.prog 171 0 0 17 := ⟨0, by kernel_rfl⟩
instance : BP Go.Proofs.Tryd.prog 171 [(0, 1)] := ⟨by kernel_rfl⟩
instance : TD Go.Proofs.Tryd.prog 172 (.pointer 210) := ⟨Go.Proofs.Tryd.underlying172⟩
instance : SC Go.Proofs.Tryd.prog 172 := ⟨by kernel_rfl⟩
instance : TI Go.Proofs.Tryd.prog 172 1 8 (.pointer none) #[(.pointer none)] := ⟨by kernel_rfl, rfl⟩
instance : TD Go.Proofs.Tryd.prog 176 (.interface #[("As", 178)]) := ⟨Go.Proofs.Tryd.underlying176⟩
instance : SC Go.Proofs.Tryd.prog 176 := ⟨by kernel_rfl⟩
instance : TI Go.Proofs.Tryd.prog 176 1 16 .nilIface #[.nilIface] := ⟨by kernel_rfl, rfl⟩
instance : TD Go.Proofs.Tryd.prog 179 (.interface #[("Unwrap", 180)]) := ⟨Go.Proofs.Tryd.underlying179⟩
instance : SC Go.Proofs.Tryd.prog 179 := ⟨by kernel_rfl⟩
instance : TI Go.Proofs.Tryd.prog 179 1 16 .nilIface #[.nilIface] := ⟨by kernel_rfl, rfl⟩
instance : TD Go.Proofs.Tryd.prog 181 (.interface #[("Unwrap", 183)]) := ⟨Go.Proofs.Tryd.underlying181⟩
instance : SC Go.Proofs.Tryd.prog 181 := ⟨by kernel_rfl⟩
instance : TI Go.Proofs.Tryd.prog 181 1 16 .nilIface #[.nilIface] := ⟨by kernel_rfl, rfl⟩
instance : TD Go.Proofs.Tryd.prog 182 (.slice 123) := ⟨Go.Proofs.Tryd.underlying182⟩
instance : SC Go.Proofs.Tryd.prog 182 := ⟨by kernel_rfl⟩
instance : TI Go.Proofs.Tryd.prog 182 1 24 (.slice none 0 0) #[(.slice none 0 0)] := ⟨by kernel_rfl, rfl⟩
instance : AG Go.Proofs.Tryd.prog 184 1 := ⟨by kernel_rfl, by kernel_rfl⟩
instance : TI Go.Proofs.Tryd.prog 184 1 8 (.agg #[(.int .i64 0)]) #[(.int .i64 0)] := ⟨by kernel_rfl, rfl⟩
instance : FA Go.Proofs.Tryd.prog 184 0 0 3 := ⟨0, by kernel_rfl⟩
instance : BP Go.Proofs.Tryd.prog 184 [(0, 1)] := ⟨by kernel_rfl⟩
instance : AG Go.Proofs.Tryd.prog 185 1 := ⟨by kernel_rfl, by kernel_rfl⟩
instance : TI Go.Proofs.Tryd.prog 185 1 8 (.agg #[(.int .i64 0)]) #[(.int .i64 0)] := ⟨by kernel_rfl, rfl⟩
instance : FA Go.Proofs.Tryd.prog 185 0 0 3 := ⟨0, by kernel_rfl⟩
instance : BP Go.Proofs.Tryd.prog 185 [(0, 1)] := ⟨by kernel_rfl⟩
instance : AG Go.Proofs.Tryd.prog 186 1 := ⟨by kernel_rfl, by kernel_rfl⟩
instance : TI Go.Proofs.Tryd.prog 186 1 8 (.agg #[(.int .i64 0)]) #[(.int .i64 0)] := ⟨by kernel_rfl, rfl⟩
instance : FA Go.Proofs.Tryd.prog 186 0 0 3 := ⟨0, by kernel_rfl⟩
instance : BP Go.Proofs.Tryd.prog 186 [(0, 1)] := ⟨by kernel_rfl⟩
instance : AG Go.Proofs.Tryd.prog 193 4 := ⟨by kernel_rfl, by kernel_rfl⟩
instance : TI Go.Proofs.Tryd.prog 193 4 40 (.agg #[(.pointer none), (.pointer none), (.pointer none), (.string ⟨#[]⟩)]) #[(.pointer none), (.pointer none), (.pointer none), (.string ⟨#[]⟩)] := ⟨by kernel_rfl, rfl⟩
instance : FA Go.Proofs.Tryd.prog 193 0 0 17 := ⟨0, by kernel_rfl⟩
instance : FA Go.Proofs.Tryd.prog 193 1 1 17 := ⟨0, by kernel_rfl⟩
instance : FA Go.Proofs.Tryd.prog 193 2 2 17 := ⟨0, by kernel_rfl⟩
instance : FA Go.Proofs.Tryd.prog 193 3 3 9 := ⟨0, by kernel_rfl⟩
instance : BP Go.Proofs.Tryd.prog 193 [(0, 1), (1, 1), (2, 1), (3, 1)] := ⟨by kernel_rfl⟩
instance : AG Go.Proofs.Tryd.prog 194 4 := ⟨by kernel_rfl, by kernel_rfl⟩
instance : TI Go.Proofs.Tryd.prog 194 4 40 (.agg #[(.pointer none), (.pointer none), (.pointer none), (.string ⟨#[]⟩)]) #[(.pointer none), (.pointer none), (.pointer none), (.string ⟨#[]⟩)] := ⟨by kernel_rfl, rfl⟩
instance : FA Go.Proofs.Tryd.prog 194 0 0 17 := ⟨0, by kernel_rfl⟩
instance : FA Go.Proofs.Tryd.prog 194 1 1 17 := ⟨0, by kernel_rfl⟩
instance : FA Go.Proofs.Tryd.prog 194 2 2 17 := ⟨0, by kernel_rfl⟩
instance : FA Go.Proofs.Tryd.prog 194 3 3 9 := ⟨0, by kernel_rfl⟩
instance : BP Go.Proofs.Tryd.prog 194 [(0, 1), (1, 1), (2, 1), (3, 1)] := ⟨by kernel_rfl⟩
instance : TD Go.Proofs.Tryd.prog 195 (.array 0 16) := ⟨Go.Proofs.Tryd.underlying195⟩
instance : AG Go.Proofs.Tryd.prog 195 0 := ⟨by kernel_rfl, by kernel_rfl⟩
instance : TI Go.Proofs.Tryd.prog 195 0 0 (.agg #[]) #[] := ⟨by kernel_rfl, rfl⟩
instance : AG Go.Proofs.Tryd.prog 196 0 := ⟨by kernel_rfl, by kernel_rfl⟩
instance : TI Go.Proofs.Tryd.prog 196 0 0 (.agg #[]) #[] := ⟨by kernel_rfl, rfl⟩
instance : BP Go.Proofs.Tryd.prog 196 [(0, 0)] := ⟨by kernel_rfl⟩
instance : AG Go.Proofs.Tryd.prog 197 0 := ⟨by kernel_rfl, by kernel_rfl⟩
instance : TI Go.Proofs.Tryd.prog 197 0 0 (.agg #[]) #[] := ⟨by kernel_rfl, rfl⟩
instance : BP Go.Proofs.Tryd.prog 197 [(0, 0)] := ⟨by kernel_rfl⟩
instance : TD Go.Proofs.Tryd.prog 199 (.int .u32) := ⟨Go.Proofs.Tryd.underlying199⟩
instance : SC Go.Proofs.Tryd.prog 199 := ⟨by kernel_rfl⟩
instance : TI Go.Proofs.Tryd.prog 199 1 4 (.int .u32 0) #[(.int .u32 0)] := ⟨by kernel_rfl, rfl⟩
instance : TD Go.Proofs.Tryd.prog 200 (.int .u8) := ⟨Go.Proofs.Tryd.underlying200⟩
instance : SC Go.Proofs.Tryd.prog 200 := ⟨by kernel_rfl⟩
instance : TI Go.Proofs.Tryd.prog 200 1 1 (.int .u8 0) #[(.int .u8 0)] := ⟨by kernel_rfl, rfl⟩
instance : TD Go.Proofs.Tryd.prog 202 (.pointer 5) := ⟨Go.Proofs.Tryd.underlying202⟩
instance : SC Go.Proofs.Tryd.prog 202 := ⟨by kernel_rfl⟩
instance : TI Go.Proofs.Tryd.prog 202 1 8 (.pointer none) #[(.pointer none)] := ⟨by kernel_rfl, rfl⟩
instance : TD Go.Proofs.Tryd.prog 203 (.int .i32) := ⟨Go.Proofs.Tryd.underlying203⟩
instance : SC Go.Proofs.Tryd.prog 203 := ⟨by kernel_rfl⟩
instance : TI Go.Proofs.Tryd.prog 203 1 4 (.int .i32 0) #[(.int .i32 0)] := ⟨by kernel_rfl, rfl⟩
instance : TD Go.Proofs.Tryd.prog 204 (.int .i32) := ⟨Go.Proofs.Tryd.underlying204⟩
instance : SC Go.Proofs.Tryd.prog 204 := ⟨by kernel_rfl⟩
instance : TI Go.Proofs.Tryd.prog 204 1 4 (.int .i32 0) #[(.int .i32 0)] := ⟨by kernel_rfl, rfl⟩
instance : AG Go.Proofs.Tryd.prog 205 11 := ⟨by kernel_rfl, by kernel_rfl⟩
instance : TI Go.Proofs.Tryd.prog 205 11 48 (.agg #[(.int .u64 0), (.int .u64 0), (.int .u32 0), (.int .u8 0), (.int .u8 0), (.int .u8 0), (.int .u8 0), .nilFunc, (.pointer none), (.int .i32 0), (.int .i32 0)]) #[(.int .u64 0), (.int .u64 0), (.int .u32 0), (.int .u8 0), (.int .u8 0), (.int .u8 0), (.int .u8 0), .nilFunc, (.pointer none), (.int .i32 0), (.int .i32 0)] := ⟨by kernel_rfl, rfl⟩
instance : FA Go.Proofs.Tryd.prog 205 0 0 12 := ⟨0, by kernel_rfl⟩
instance : FA Go.Proofs.Tryd.prog 205 1 1 12 := ⟨0, by kernel_rfl⟩
instance : FA Go.Proofs.Tryd.prog 205 2 2 199 := ⟨0, by kernel_rfl⟩
instance : FA Go.Proofs.Tryd.prog 205 3 3 200 := ⟨0, by kernel_rfl⟩
instance : FA Go.Proofs.Tryd.prog 205 4 4 5 := ⟨0, by kernel_rfl⟩
instance : FA Go.Proofs.Tryd.prog 205 5 5 5 := ⟨0, by kernel_rfl⟩
instance : FA Go.Proofs.Tryd.prog 205 6 6 156 := ⟨0, by kernel_rfl⟩
instance : FA Go.Proofs.Tryd.prog 205 7 7 201 := ⟨0, by kernel_rfl⟩
instance : FA Go.Proofs.Tryd.prog 205 8 8 202 := ⟨0, by kernel_rfl⟩
instance : FA Go.Proofs.Tryd.prog 205 9 9 203 := ⟨0, by kernel_rfl⟩
instance : FA Go.Proofs.Tryd.prog 205 10 10 204 := ⟨0, by kernel_rfl⟩
instance : BP Go.Proofs.Tryd.prog 205 [(0, 1), (1, 1), (2, 1), (3, 1), (4, 1), (5, 1), (6, 1), (7, 1), (8, 1), (9, 1), (10, 1)] := ⟨by kernel_rfl⟩
instance : AG Go.Proofs.Tryd.prog 206 11 := ⟨by kernel_rfl, by kernel_rfl⟩
instance : TI Go.Proofs.Tryd.prog 206 11 48 (.agg #[(.int .u64 0), (.int .u64 0), (.int .u32 0), (.int .u8 0), (.int .u8 0), (.int .u8 0), (.int .u8 0), .nilFunc, (.pointer none), (.int .i32 0), (.int .i32 0)]) #[(.int .u64 0), (.int .u64 0), (.int .u32 0), (.int .u8 0), (.int .u8 0), (.int .u8 0), (.int .u8 0), .nilFunc, (.pointer none), (.int .i32 0), (.int .i32 0)] := ⟨by kernel_rfl, rfl⟩
instance : FA Go.Proofs.Tryd.prog 206 0 0 12 := ⟨0, by kernel_rfl⟩
instance : FA Go.Proofs.Tryd.prog 206 1 1 12 := ⟨0, by kernel_rfl⟩
instance : FA Go.Proofs.Tryd.prog 206 2 2 199 := ⟨0, by kernel_rfl⟩
instance : FA Go.Proofs.Tryd.prog 206 3 3 200 := ⟨0, by kernel_rfl⟩
instance : FA Go.Proofs.Tryd.prog 206 4 4 5 := ⟨0, by kernel_rfl⟩
instance : FA Go.Proofs.Tryd.prog 206 5 5 5 := ⟨0, by kernel_rfl⟩
instance : FA Go.Proofs.Tryd.prog 206 6 6 156 := ⟨0, by kernel_rfl⟩
instance : FA Go.Proofs.Tryd.prog 206 7 7 201 := ⟨0, by kernel_rfl⟩
instance : FA Go.Proofs.Tryd.prog 206 8 8 202 := ⟨0, by kernel_rfl⟩
instance : FA Go.Proofs.Tryd.prog 206 9 9 203 := ⟨0, by kernel_rfl⟩
instance : FA Go.Proofs.Tryd.prog 206 10 10 204 := ⟨0, by kernel_rfl⟩
instance : BP Go.Proofs.Tryd.prog 206 [(0, 1), (1, 1), (2, 1), (3, 1), (4, 1), (5, 1), (6, 1), (7, 1), (8, 1), (9, 1), (10, 1)] := ⟨by kernel_rfl⟩
instance : AG Go.Proofs.Tryd.prog 209 2 := ⟨by kernel_rfl, by kernel_rfl⟩
instance : TI Go.Proofs.Tryd.prog 209 2 24 (.agg #[(.string ⟨#[]⟩), (.int .u8 0)]) #[(.string ⟨#[]⟩), (.int .u8 0)] := ⟨by kernel_rfl, rfl⟩
instance : FA Go.Proofs.Tryd.prog 209 0 0 9 := ⟨0, by kernel_rfl⟩
instance : FA Go.Proofs.Tryd.prog 209 1 1 156 := ⟨0, by kernel_rfl⟩
instance : BP Go.Proofs.Tryd.prog 209 [(0, 1), (1, 1)] := ⟨by kernel_rfl⟩
instance : AG Go.Proofs.Tryd.prog 210 2 := ⟨by kernel_rfl, by kernel_rfl⟩
instance : TI Go.Proofs.Tryd.prog 210 2 24 (.agg #[(.string ⟨#[]⟩), (.int .u8 0)]) #[(.string ⟨#[]⟩), (.int .u8 0)] := ⟨by kernel_rfl, rfl⟩
instance : FA Go.Proofs.Tryd.prog 210 0 0 9 := ⟨0, by kernel_rfl⟩
instance : FA Go.Proofs.Tryd.prog 210 1 1 156 := ⟨0, by kernel_rfl⟩
instance : BP Go.Proofs.Tryd.prog 210 [(0, 1), (1, 1)] := ⟨by kernel_rfl⟩
instance : TD Go.Proofs.Tryd.prog 211 (.pointer 215) := ⟨Go.Proofs.Tryd.underlying211⟩
instance : SC Go.Proofs.Tryd.prog 211 := ⟨by kernel_rfl⟩
instance : TI Go.Proofs.Tryd.prog 211 1 8 (.pointer none) #[(.pointer none)] := ⟨by kernel_rfl, rfl⟩
instance : TD Go.Proofs.Tryd.prog 213 (.int .u16) := ⟨Go.Proofs.Tryd.underlying213⟩
instance : SC Go.Proofs.Tryd.prog 213 := ⟨by kernel_rfl⟩
instance : TI Go.Proofs.Tryd.prog 213 1 2 (.int .u16 0) #[(.int .u16 0)] := ⟨by kernel_rfl, rfl⟩
instance : AG Go.Proofs.Tryd.prog 214 5 := ⟨by kernel_rfl, by kernel_rfl⟩
instance : TI Go.Proofs.Tryd.prog 214 5 16 (.agg #[(.int .i32 0), (.int .u16 0), (.int .u16 0), (.int .u32 0), (.int .u32 0)]) #[(.int .i32 0), (.int .u16 0), (.int .u16 0), (.int .u32 0), (.int .u32 0)] := ⟨by kernel_rfl, rfl⟩
instance : FA Go.Proofs.Tryd.prog 214 0 0 203 := ⟨0, by kernel_rfl⟩
instance : FA Go.Proofs.Tryd.prog 214 1 1 213 := ⟨0, by kernel_rfl⟩
instance : FA Go.Proofs.Tryd.prog 214 2 2 213 := ⟨0, by kernel_rfl⟩
instance : FA Go.Proofs.Tryd.prog 214 3 3 199 := ⟨0, by kernel_rfl⟩
instance : FA Go.Proofs.Tryd.prog 214 4 4 199 := ⟨0, by kernel_rfl⟩
instance : BP Go.Proofs.Tryd.prog 214 [(0, 1), (1, 1), (2, 1), (3, 1), (4, 1)] := ⟨by kernel_rfl⟩
instance : AG Go.Proofs.Tryd.prog 215 5 := ⟨by kernel_rfl, by kernel_rfl⟩
instance : TI Go.Proofs.Tryd.prog 215 5 16 (.agg #[(.int .i32 0), (.int .u16 0), (.int .u16 0), (.int .u32 0), (.int .u32 0)]) #[(.int .i32 0), (.int .u16 0), (.int .u16 0), (.int .u32 0), (.int .u32 0)] := ⟨by kernel_rfl, rfl⟩
instance : FA Go.Proofs.Tryd.prog 215 0 0 203 := ⟨0, by kernel_rfl⟩
instance : FA Go.Proofs.Tryd.prog 215 1 1 213 := ⟨0, by kernel_rfl⟩
instance : FA Go.Proofs.Tryd.prog 215 2 2 213 := ⟨0, by kernel_rfl⟩
instance : FA Go.Proofs.Tryd.prog 215 3 3 199 := ⟨0, by kernel_rfl⟩
instance : FA Go.Proofs.Tryd.prog 215 4 4 199 := ⟨0, by kernel_rfl⟩
instance : BP Go.Proofs.Tryd.prog 215 [(0, 1), (1, 1), (2, 1), (3, 1), (4, 1)] := ⟨by kernel_rfl⟩
instance : TD Go.Proofs.Tryd.prog 216 (.slice 219) := ⟨Go.Proofs.Tryd.underlying216⟩
instance : SC Go.Proofs.Tryd.prog 216 := ⟨by kernel_rfl⟩
instance : TI Go.Proofs.Tryd.prog 216 1 24 (.slice none 0 0) #[(.slice none 0 0)] := ⟨by kernel_rfl, rfl⟩
instance : TD Go.Proofs.Tryd.prog 217 (.int .i32) := ⟨Go.Proofs.Tryd.underlying217⟩
instance : SC Go.Proofs.Tryd.prog 217 := ⟨by kernel_rfl⟩
instance : TI Go.Proofs.Tryd.prog 217 1 4 (.int .i32 0) #[(.int .i32 0)] := ⟨by kernel_rfl, rfl⟩
instance : AG Go.Proofs.Tryd.prog 218 4 := ⟨by kernel_rfl, by kernel_rfl⟩
instance : TI Go.Proofs.Tryd.prog 218 4 16 (.agg #[(.int .i32 0), (.int .i32 0), (.int .i32 0), (.int .i32 0)]) #[(.int .i32 0), (.int .i32 0), (.int .i32 0), (.int .i32 0)] := ⟨by kernel_rfl, rfl⟩
instance : FA Go.Proofs.Tryd.prog 218 0 0 203 := ⟨0, by kernel_rfl⟩
instance : FA Go.Proofs.Tryd.prog 218 1 1 204 := ⟨0, by kernel_rfl⟩
instance : FA Go.Proofs.Tryd.prog 218 2 2 217 := ⟨0, by kernel_rfl⟩
instance : FA Go.Proofs.Tryd.prog 218 3 3 217 := ⟨0, by kernel_rfl⟩
instance : BP Go.Proofs.Tryd.prog 218 [(0, 1), (1, 1), (2, 1), (3, 1)] := ⟨by kernel_rfl⟩
instance : AG Go.Proofs.Tryd.prog 219 4 := ⟨by kernel_rfl, by kernel_rfl⟩
instance : TI Go.Proofs.Tryd.prog 219 4 16 (.agg #[(.int .i32 0), (.int .i32 0), (.int .i32 0), (.int .i32 0)]) #[(.int .i32 0), (.int .i32 0), (.int .i32 0), (.int .i32 0)] := ⟨by kernel_rfl, rfl⟩
instance : FA Go.Proofs.Tryd.prog 219 0 0 203 := ⟨0, by kernel_rfl⟩
instance : FA Go.Proofs.Tryd.prog 219 1 1 204 := ⟨0, by kernel_rfl⟩
instance : FA Go.Proofs.Tryd.prog 219 2 2 217 := ⟨0, by kernel_rfl⟩
instance : FA Go.Proofs.Tryd.prog 219 3 3 217 := ⟨0, by kernel_rfl⟩
instance : BP Go.Proofs.Tryd.prog 219 [(0, 1), (1, 1), (2, 1), (3, 1)] := ⟨by kernel_rfl⟩
instance : TD Go.Proofs.Tryd.prog 220 (.pointer 123) := ⟨Go.Proofs.Tryd.underlying220⟩
instance : SC Go.Proofs.Tryd.prog 220 := ⟨by kernel_rfl⟩
instance : TI Go.Proofs.Tryd.prog 220 1 8 (.pointer none) #[(.pointer none)] := ⟨by kernel_rfl, rfl⟩
instance : FB Go.Proofs.Tryd.prog 2 := ⟨by kernel_rfl⟩
instance : FB Go.Proofs.Tryd.prog 3 := ⟨by kernel_rfl⟩
instance : FB Go.Proofs.Tryd.prog 4 := ⟨by kernel_rfl⟩
instance : FB Go.Proofs.Tryd.prog 5 := ⟨by kernel_rfl⟩
instance : FB Go.Proofs.Tryd.prog 6 := ⟨by kernel_rfl⟩
instance : FB Go.Proofs.Tryd.prog 7 := ⟨by kernel_rfl⟩
instance : FB Go.Proofs.Tryd.prog 8 := ⟨by kernel_rfl⟩
instance : FB Go.Proofs.Tryd.prog 9 := ⟨by kernel_rfl⟩
instance : FB Go.Proofs.Tryd.prog 10 := ⟨by kernel_rfl⟩
instance : FB Go.Proofs.Tryd.prog 11 := ⟨by kernel_rfl⟩
instance : FB Go.Proofs.Tryd.prog 12 := ⟨by kernel_rfl⟩
instance : FB Go.Proofs.Tryd.prog 13 := ⟨by kernel_rfl⟩
instance : FB Go.Proofs.Tryd.prog 14 := ⟨by kernel_rfl⟩
instance : FB Go.Proofs.Tryd.prog 15 := ⟨by kernel_rfl⟩
instance : FB Go.Proofs.Tryd.prog 16 := ⟨by kernel_rfl⟩
instance : FB Go.Proofs.Tryd.prog 17 := ⟨by kernel_rfl⟩
instance : FB Go.Proofs.Tryd.prog 18 := ⟨by kernel_rfl⟩
instance : FB Go.Proofs.Tryd.prog 19 := ⟨by kernel_rfl⟩
instance : FB Go.Proofs.Tryd.prog 20 := ⟨by kernel_rfl⟩
instance : FB Go.Proofs.Tryd.prog 21 := ⟨by kernel_rfl⟩
instance : FB Go.Proofs.Tryd.prog 22 := ⟨by kernel_rfl⟩
instance : FB Go.Proofs.Tryd.prog 23 := ⟨by kernel_rfl⟩
instance : FB Go.Proofs.Tryd.prog 24 := ⟨by kernel_rfl⟩
instance : FB Go.Proofs.Tryd.prog 25 := ⟨by kernel_rfl⟩
instance : FB Go.Proofs.Tryd.prog 26 := ⟨by kernel_rfl⟩
instance : FB Go.Proofs.Tryd.prog 27 := ⟨by kernel_rfl⟩
instance : FB Go.Proofs.Tryd.prog 28 := ⟨by kernel_rfl⟩
instance : FB Go.Proofs.Tryd.prog 29 := ⟨by kernel_rfl⟩
instance : FB Go.Proofs.Tryd.prog 30 := ⟨by kernel_rfl⟩
instance : FB Go.Proofs.Tryd.prog 31 := ⟨by kernel_rfl⟩
instance : FB Go.Proofs.Tryd.prog 32 := ⟨by kernel_rfl⟩
instance : FB Go.Proofs.Tryd.prog 33 := ⟨by kernel_rfl⟩
instance : FB Go.Proofs.Tryd.prog 34 := ⟨by kernel_rfl⟩
instance : FB Go.Proofs.Tryd.prog 35 := ⟨by kernel_rfl⟩
instance : FB Go.Proofs.Tryd.prog 36 := ⟨by kernel_rfl⟩
instance : FB Go.Proofs.Tryd.prog 37 := ⟨by kernel_rfl⟩
instance : FB Go.Proofs.Tryd.prog 38 := ⟨by kernel_rfl⟩
instance : FB Go.Proofs.Tryd.prog 39 := ⟨by kernel_rfl⟩
instance : FB Go.Proofs.Tryd.prog 40 := ⟨by kernel_rfl⟩
instance : FB Go.Proofs.Tryd.prog 41 := ⟨by kernel_rfl⟩
instance : FB Go.Proofs.Tryd.prog 42 := ⟨by kernel_rfl⟩
instance : FB Go.Proofs.Tryd.prog 43 := ⟨by kernel_rfl⟩
instance : FB Go.Proofs.Tryd.prog 44 := ⟨by kernel_rfl⟩
instance : FB Go.Proofs.Tryd.prog 45 := ⟨by kernel_rfl⟩
instance : FB Go.Proofs.Tryd.prog 46 := ⟨by kernel_rfl⟩
instance : FB Go.Proofs.Tryd.prog 47 := ⟨by kernel_rfl⟩
instance : FB Go.Proofs.Tryd.prog 48 := ⟨by kernel_rfl⟩
instance : FB Go.Proofs.Tryd.prog 49 := ⟨by kernel_rfl⟩
instance : FB Go.Proofs.Tryd.prog 50 := ⟨by kernel_rfl⟩
instance : FB Go.Proofs.Tryd.prog 51 := ⟨by kernel_rfl⟩
instance : FB Go.Proofs.Tryd.prog 52 := ⟨by kernel_rfl⟩
instance : FB Go.Proofs.Tryd.prog 53 := ⟨by kernel_rfl⟩
instance : FB Go.Proofs.Tryd.prog 54 := ⟨by kernel_rfl⟩
instance : FB Go.Proofs.Tryd.prog 55 := ⟨by kernel_rfl⟩
instance : FB Go.Proofs.Tryd.prog 56 := ⟨by kernel_rfl⟩
instance : FB Go.Proofs.Tryd.prog 57 := ⟨by kernel_rfl⟩
instance : FB Go.Proofs.Tryd.prog 58 := ⟨by kernel_rfl⟩
instance : FB Go.Proofs.Tryd.prog 59 := ⟨by kernel_rfl⟩
instance : FB Go.Proofs.Tryd.prog 60 := ⟨by kernel_rfl⟩
instance : FB Go.Proofs.Tryd.prog 61 := ⟨by kernel_rfl⟩
instance : FB Go.Proofs.Tryd.prog 62 := ⟨by kernel_rfl⟩
instance : FB Go.Proofs.Tryd.prog 63 := ⟨by kernel_rfl⟩
instance : FB Go.Proofs.Tryd.prog 64 := ⟨by kernel_rfl⟩
instance : FB Go.Proofs.Tryd.prog 65 := ⟨by kernel_rfl⟩
instance : FB Go.Proofs.Tryd.prog 66 := ⟨by kernel_rfl⟩
instance : FB Go.Proofs.Tryd.prog 67 := ⟨by kernel_rfl⟩
instance : FB Go.Proofs.Tryd.prog 68 := ⟨by kernel_rfl⟩
instance : FB Go.Proofs.Tryd.prog 69 := ⟨by kernel_rfl⟩
instance : FB Go.Proofs.Tryd.prog 70 := ⟨by kernel_rfl⟩
instance : FB Go.Proofs.Tryd.prog 71 := ⟨by kernel_rfl⟩
instance : FB Go.Proofs.Tryd.prog 72 := ⟨by kernel_rfl⟩
instance : FB Go.Proofs.Tryd.prog 73 := ⟨by kernel_rfl⟩
instance : FB Go.Proofs.Tryd.prog 74 := ⟨by kernel_rfl⟩
instance : FB Go.Proofs.Tryd.prog 75 := ⟨by kernel_rfl⟩
instance : FB Go.Proofs.Tryd.prog 76 := ⟨by kernel_rfl⟩
instance : FB Go.Proofs.Tryd.prog 77 := ⟨by kernel_rfl⟩
instance : FB Go.Proofs.Tryd.prog 78 := ⟨by kernel_rfl⟩
instance : FB Go.Proofs.Tryd.prog 79 := ⟨by kernel_rfl⟩
instance : FB Go.Proofs.Tryd.prog 80 := ⟨by kernel_rfl⟩
instance : FB Go.Proofs.Tryd.prog 81 := ⟨by kernel_rfl⟩
instance : FB Go.Proofs.Tryd.prog 82 := ⟨by kernel_rfl⟩
instance : FB Go.Proofs.Tryd.prog 83 := ⟨by kernel_rfl⟩
instance : FB Go.Proofs.Tryd.prog 84 := ⟨by kernel_rfl⟩
instance : FB Go.Proofs.Tryd.prog 85 := ⟨by kernel_rfl⟩
instance : FB Go.Proofs.Tryd.prog 86 := ⟨by kernel_rfl⟩
instance : FB Go.Proofs.Tryd.prog 87 := ⟨by kernel_rfl⟩
instance : FB Go.Proofs.Tryd.prog 88 := ⟨by kernel_rfl⟩
instance : FB Go.Proofs.Tryd.prog 89 := ⟨by kernel_rfl⟩
instance : FB Go.Proofs.Tryd.prog 90 := ⟨by kernel_rfl⟩
instance : FB Go.Proofs.Tryd.prog 91 := ⟨by kernel_rfl⟩
instance : FB Go.Proofs.Tryd.prog 92 := ⟨by kernel_rfl⟩
instance : FB Go.Proofs.Tryd.prog 93 := ⟨by kernel_rfl⟩
instance : FB Go.Proofs.Tryd.prog 94 := ⟨by kernel_rfl⟩
instance : FB Go.Proofs.Tryd.prog 95 := ⟨by kernel_rfl⟩
instance : FB Go.Proofs.Tryd.prog 99 := ⟨by kernel_rfl⟩
instance : FB Go.Proofs.Tryd.prog 100 := ⟨by kernel_rfl⟩
instance : FB Go.Proofs.Tryd.prog 101 := ⟨by kernel_rfl⟩
instance : FB Go.Proofs.Tryd.prog 102 := ⟨by kernel_rfl⟩
instance : FB Go.Proofs.Tryd.prog 103 := ⟨by kernel_rfl⟩
instance : FB Go.Proofs.Tryd.prog 104 := ⟨by kernel_rfl⟩
instance : FB Go.Proofs.Tryd.prog 105 := ⟨by kernel_rfl⟩
instance : FB Go.Proofs.Tryd.prog 109 := ⟨by kernel_rfl⟩
instance : FB Go.Proofs.Tryd.prog 110 := ⟨by kernel_rfl⟩
instance : FB Go.Proofs.Tryd.prog 111 := ⟨by kernel_rfl⟩
instance : FB Go.Proofs.Tryd.prog 112 := ⟨by kernel_rfl⟩
instance : FB Go.Proofs.Tryd.prog 113 := ⟨by kernel_rfl⟩
instance : FB Go.Proofs.Tryd.prog 114 := ⟨by kernel_rfl⟩
instance : FB Go.Proofs.Tryd.prog 115 := ⟨by kernel_rfl⟩
instance : FB Go.Proofs.Tryd.prog 116 := ⟨by kernel_rfl⟩
instance : FB Go.Proofs.Tryd.prog 117 := ⟨by kernel_rfl⟩
instance : FB Go.Proofs.Tryd.prog 151 := ⟨by kernel_rfl⟩
instance : FB Go.Proofs.Tryd.prog 152 := ⟨by kernel_rfl⟩
instance : FB Go.Proofs.Tryd.prog 157 := ⟨by kernel_rfl⟩
end Go.Proofs.YtabnpjbnoedfgaaDoor

/- Short forms for walks: results, calls of functions that only answer. Conditions: none; over any program. -/
namespace Go.Mus

/-- What the results are, where they lie in temporaries. -/
def resT (ρ : Env) : List ResultVar → Option (List Value)
  | [] => some []
  | .tmp t :: r => match look ρ t, resT ρ r with
    | some v, some vs => some (v :: vs)
    | _, _ => none
  | .cell _ _ :: _ => none
theorem resT_ok {P : Program} {h : Hp} {F : Frag} {ρ : Env} : ∀ {rs : List ResultVar} {vs : List Value}, resT ρ rs = some vs → resOK P h F rs ρ vs
  | [], vs, e => by simp only [resT, Option.some.injEq] at e; exact e.symm
  | .tmp t :: r, vs, e => by
    simp only [resT] at e
    split at e
    · rename_i v vs' h1 h2
      cases e
      exact ⟨v, vs', rfl, h1, resT_ok h2⟩
    · cases e
  | .cell _ _ :: _, vs, e => by cases e

/-- A function that answers, and keeps nothing. -/
abbrev Pu (P : Program) (main : Side) (f : FuncId) (args : Array Value) (h : Hp) (u : Value) : Prop := Fnc P main f args h [] (fun v A => v = u ∧ Shut A)

section
variable {P : Program} {main : Side} {fn : Func} {h : Hp} {R : Value → Frag → Prop} {e : Exit} {ρ : Env} {F : Frag} {ds : List Deferred}
theorem lvt {vs : List Value} (hR : R (pack vs) F) (he : e = .ret ∨ e = .normal := by first | exact .inl rfl | exact .inr rfl) (hv : resT ρ fn.results.toList = some vs := by rfl) : leave P main fn h R e ρ [] F :=
  leave_of he (by simp) (resT_ok hv) hR
/-- .. for one that answers. -/
theorem lvp {u : Value} {vs : List Value} (hu : pack vs = u) (he : e = .ret ∨ e = .normal := by first | exact .inl rfl | exact .inr rfl) (hv : resT ρ fn.results.toList = some vs := by rfl) (hs : Shut F := by repeat (first | exact Shut.nil | assumption | refine Shut.cons rfl ?_ | refine Shut.app ?_ ?_)) : leave P main fn h (fun v A => v = u ∧ Shut A) e ρ [] F :=
  lvt ⟨hu, hs⟩ he hv

/-- Marks of loops are taken off. -/
theorem Unw.marked {d : Nat} {K : Frag → Prop} {U : Obj → Frag} (hl : At d (.deferred (some [])) F U) (H : Unw P main h ds (U (.deferred none)) K) : Unw P main h (mark d :: ds) F K := by
  obtain ⟨F1, F2, e1, e2⟩ := hl.split
  show tr P h (Instr.takeDeferred d) F fun l F' => l = [] ∧ Unw P main h ds F' K
  simp only [Instr.takeDeferred, bind_eq, pure_eq]
  refine ⟨.deferred (some []), .inr (e1 ▸ by simp), (fun _ _ _ => by simp), rfl, ?_⟩
  refine ⟨.deferred (some []), F1, F2, e1, (fun _ _ _ => by simp), rfl, rfl, ?_⟩
  rw [e2] at H
  exact H
theorem lvm {d : Nat} {U : Obj → Frag} (H : leave P main fn h R e ρ ds (U (.deferred none))) (hl : At d (.deferred (some [])) F U := by repeat (first | exact At.head | apply At.tail | apply At.app)) : leave P main fn h R e ρ (mark d :: ds) F :=
  ⟨H.1, Unw.marked hl H.2⟩
end

section
variable {x : Cx} {Q : Post} {ρ : Env} {ds : List Deferred} {F : Frag} {ops : Array Oper} {i : Nat} {rest : List Nat} {d : Tmp} {ty : TypeId} {pos : String} {aft : Array Edge} {g : Option (Nat × Bool)} {L : Frag}
variable {f : FuncId} {args : List Operand} {ts : Array TypeId} {vs : List Value}

/-- A call of a function that answers. -/
theorem cp {u : Value} (H : ∀ h', Ext x.h h' → Lent F h' → Pu x.P x.main f vs.toArray h' u) (K : Ops x ops rest Q ((d, u) :: ρ) ds F) (ho : nthO ops.toList i = some ⟨some d, .call ⟨.value (.func f), args.toArray, ts⟩, ty, pos, aft, g⟩ := by rfl) [FB x.P f] (hv : evs ρ args = some vs := by rfl)
    (hw : want ops ρ ⟨some d, .call ⟨.value (.func f), args.toArray, ts⟩, ty, pos, aft, g⟩ := by first | exact wn | exact want_some rfl rfl rfl) (hd : Nat.blt d x.n = true := by rfl) : Ops x ops (i :: rest) Q ρ ds F :=
  Ops.eff (o := ⟨some d, .call ⟨.value (.func f), args.toArray, ts⟩, ty, pos, aft, g⟩) (e_call0 rfl hv H fun v A' hv => by
    obtain ⟨rfl, hs⟩ := hv
    exact Ops.sb (Sb.left .refl hs) K) (nthO_get ho) hw hd rfl
/-- A call that is handed nothing. -/
theorem c0 {R' : Value → Frag → Prop} (H : ∀ h', Ext x.h h' → Lent F h' → Fnc x.P x.main f vs.toArray h' [] R') (K : ∀ v A', R' v A' → Ops x ops rest Q ((d, v) :: ρ) ds (A' ++ F)) (ho : nthO ops.toList i = some ⟨some d, .call ⟨.value (.func f), args.toArray, ts⟩, ty, pos, aft, g⟩ := by rfl) [FB x.P f] (hv : evs ρ args = some vs := by rfl)
    (hw : want ops ρ ⟨some d, .call ⟨.value (.func f), args.toArray, ts⟩, ty, pos, aft, g⟩ := by first | exact wn | exact want_some rfl rfl rfl) (hd : Nat.blt d x.n = true := by rfl) : Ops x ops (i :: rest) Q ρ ds F :=
  Ops.eff (o := ⟨some d, .call ⟨.value (.func f), args.toArray, ts⟩, ty, pos, aft, g⟩) (e_call0 rfl hv H fun v A' hv => K v A' hv) (nthO_get ho) hw hd rfl
/-- A call that is handed a part. -/
theorem cg {A : Frag} {U : Frag → Frag} {R' : Value → Frag → Prop} (hs : Seg A F U) (H : ∀ h', Ext x.h h' → Lent (U []) h' → Fnc x.P x.main f vs.toArray h' A R') (K : ∀ v A', R' v A' → Ops x ops rest Q ((d, v) :: ρ) ds (U A')) (ho : nthO ops.toList i = some ⟨some d, .call ⟨.value (.func f), args.toArray, ts⟩, ty, pos, aft, g⟩ := by rfl) [FB x.P f] (hv : evs ρ args = some vs := by rfl)
    (hw : want ops ρ ⟨some d, .call ⟨.value (.func f), args.toArray, ts⟩, ty, pos, aft, g⟩ := by first | exact wn | exact want_some rfl rfl rfl) (hd : Nat.blt d x.n = true := by rfl) : Ops x ops (i :: rest) Q ρ ds F :=
  Ops.eff (o := ⟨some d, .call ⟨.value (.func f), args.toArray, ts⟩, ty, pos, aft, g⟩) (e_call rfl hv hs H fun v A' hv => K v A' hv) (nthO_get ho) hw hd rfl
/-- .. without a result. -/
theorem cgn {A : Frag} {U : Frag → Frag} {R' : Value → Frag → Prop} (hs : Seg A F U) (H : ∀ h', Ext x.h h' → Lent (U []) h' → Fnc x.P x.main f vs.toArray h' A R') (K : ∀ v A', R' v A' → Ops x ops rest Q ρ ds (U A')) (ho : nthO ops.toList i = some ⟨none, .call ⟨.value (.func f), args.toArray, ts⟩, ty, pos, aft, g⟩ := by rfl) [FB x.P f] (hv : evs ρ args = some vs := by rfl)
    (hw : want ops ρ ⟨none, .call ⟨.value (.func f), args.toArray, ts⟩, ty, pos, aft, g⟩ := by first | exact wn | exact want_some rfl rfl rfl) : Ops x ops (i :: rest) Q ρ ds F :=
  Ops.eff (o := ⟨none, .call ⟨.value (.func f), args.toArray, ts⟩, ty, pos, aft, g⟩) (e_call rfl hv hs H fun v A' hv => K v A' hv) (nthO_get ho) hw rfl rfl
end

section
variable {x : Cx} {Q : Post} {ρ : Env} {ds : List Deferred} {F : Frag} {ops : Array Oper} {i : Nat} {rest : List Nat} {d : Tmp} {op : Op} {ty : TypeId} {pos : String} {aft : Array Edge} {g : Option (Nat × Bool)} {L : Frag}
theorem look_again {d : Nat} {v : Value} (h : look ρ d = some v) : look ((d, v) :: ρ) = look ρ := by
  funext t
  show (bif Nat.beq t d then some v else look ρ t) = look ρ t
  cases e : Nat.beq t d with
  | true => rw [Nat.eq_of_beq_eq_true e, h]; rfl
  | false => rfl
/-- A guard's outcome, in an open order. -/
theorem Any.ask {fuel listed d' : Nat} {p : Prop} [Decidable p] (ht : p → Any x ops L fuel listed Q ((d', .bool true) :: ρ) ds F) (hf : ¬ p → Any x ops L fuel listed Q ((d', .bool false) :: ρ) ds F) (hv : look ρ d' = some (.bool (decide p)) := by rfl) : Any x ops L fuel listed Q ρ ds F := by
  by_cases hp : p
  · have := ht hp
    have e : look ρ d' = some (.bool true) := by rw [hv]; simp [hp]
    unfold Any at this ⊢
    rwa [look_again e] at this
  · have := hf hp
    have e : look ρ d' = some (.bool false) := by rw [hv]; simp [hp]
    unfold Any at this ⊢
    rwa [look_again e] at this
theorem Any.askB {fuel listed d' : Nat} {b : Bool} (ht : b = true → Any x ops L fuel listed Q ((d', .bool true) :: ρ) ds F) (hf : b = false → Any x ops L fuel listed Q ((d', .bool false) :: ρ) ds F) (hv : look ρ d' = some (.bool b) := by rfl) : Any x ops L fuel listed Q ρ ds F := by
  cases b with
  | true => have := ht rfl; unfold Any at this ⊢; rwa [look_again hv] at this
  | false => have := hf rfl; unfold Any at this ⊢; rwa [look_again hv] at this
theorem Ops.askB {j d' : Nat} {w b : Bool} {D : Option Tmp} (ht : b = true → Ops x ops (i :: rest) Q ((d', .bool true) :: ρ) ds F) (hf : b = false → Ops x ops (i :: rest) Q ((d', .bool false) :: ρ) ds F) (ho : nthO ops.toList i = some ⟨D, op, ty, pos, aft, some (j, w)⟩ := by rfl) (hj : (nthO ops.toList j).bind (·.dst) = some d' := by rfl) (hv : look ρ d' = some (.bool b) := by rfl) : Ops x ops (i :: rest) Q ρ ds F := by
  have key : ∀ u : Bool, b = u → Ops x ops (i :: rest) Q ((d', .bool u) :: ρ) ds F → Ops x ops (i :: rest) Q ρ ds F := by
    intro u hu H b' k cs Stop tmps hk M h1 h0 h2 h3 h4 h5 hc
    refine H b' k cs Stop tmps hk M h1 h0 h2 (fun t y hy => ?_) h4 h5 hc
    rw [look_again (hu ▸ hv)] at hy
    exact h3 t y hy
  cases b with
  | true => exact key true rfl (ht rfl)
  | false => exact key false rfl (hf rfl)
variable {f : FuncId} {args : List Operand} {ts : Array TypeId} {vs : List Value}
/-- A call of a function that answers, in an open order, where it alone may come up. -/
theorem acp {fuel listed : Nat} {u : Value} (H : ∀ h', Ext x.h h' → Lent F h' → Pu x.P x.main f vs.toArray h' u) (K : Any x ops L fuel (listed ||| 2 ^ i) Q ((d, u) :: ρ) ds F) (hS : lastT ops i = true ∨ Keeps L F := by first | exact .inr (by repeat (first | exact fun _ h => h | apply Keeps.cons | apply Keeps.app)) | exact .inl (by kernel_rfl))
    (ho : nthO ops.toList i = some ⟨some d, .call ⟨.value (.func f), args.toArray, ts⟩, ty, pos, aft, g⟩ := by rfl) [FB x.P f] (hv : evs ρ args = some vs := by rfl)
    (hw : wantε ops (look ρ) ⟨some d, .call ⟨.value (.func f), args.toArray, ts⟩, ty, pos, aft, g⟩ true := by first | exact an | exact wantε_some rfl rfl rfl rfl) (hd : Nat.blt d x.n = true := by rfl) (hr : rdys ops listed = [i] := by kernel_rfl) : Any x ops L (fuel + 1) listed Q ρ ds F :=
  Any.eff (o := ⟨some d, .call ⟨.value (.func f), args.toArray, ts⟩, ty, pos, aft, g⟩) (e_call0 rfl hv H fun v A' hv => by
    obtain ⟨rfl, hs⟩ := hv
    exact ⟨hS.imp id fun k p hp => List.mem_append_right _ (k p hp), Any.sb (Sb.left .refl hs) K⟩) hr (nthO_get ho) hw hd rfl
end

section
variable {x : Cx} {Q Q' : Post} {ρ : Env} {ds : List Deferred} {F : Frag}
theorem thn_mono {K K' : Env → List Deferred → Frag → Prop} {e : Exit} {ρ : Env} {ds : List Deferred} {F : Frag} (h : thn K Q e ρ ds F) (hk : ∀ ρ ds F, K ρ ds F → K' ρ ds F) : thn K' Q e ρ ds F := by
  cases e <;> first | exact hk _ _ _ h | exact h
/-- Loops with a state of several parts. -/
theorem W.loop2 {σ τ : Type} {c : Code} (C : σ → τ → Prop) (E : σ → τ → Env) (D : σ → τ → Frag) (μ : σ → τ → Nat) (s₀ : σ) (t₀ : τ) (h₀ : C s₀ t₀) (he : Sub (E s₀ t₀) ρ) (hF : Sb (D s₀ t₀) F)
    (round : ∀ s t, C s t → W x c (thn (fun ρ' ds' F' => ds' = ds ∧ ∃ s' t', C s' t' ∧ μ s' t' < μ s t ∧ Sub (E s' t') ρ' ∧ Sb (D s' t') F') Q) (E s t) ds (D s t)) : W x (.loop c) Q ρ ds F :=
  W.loop (σ := σ × τ) (fun p => C p.1 p.2) (fun p => E p.1 p.2) (fun p => D p.1 p.2) (fun p => μ p.1 p.2) (s₀, t₀) h₀ he hF fun p h => (round p.1 p.2 h).mono fun _ _ _ _ q => thn_mono q fun _ _ _ ⟨e, s', t', h1⟩ => ⟨e, (s', t'), h1⟩
theorem W.loop3 {σ τ υ : Type} {c : Code} (C : σ → τ → υ → Prop) (E : σ → τ → υ → Env) (D : σ → τ → υ → Frag) (μ : σ → τ → υ → Nat) (s₀ : σ) (t₀ : τ) (u₀ : υ) (h₀ : C s₀ t₀ u₀) (he : Sub (E s₀ t₀ u₀) ρ) (hF : Sb (D s₀ t₀ u₀) F)
    (round : ∀ s t u, C s t u → W x c (thn (fun ρ' ds' F' => ds' = ds ∧ ∃ s' t' u', C s' t' u' ∧ μ s' t' u' < μ s t u ∧ Sub (E s' t' u') ρ' ∧ Sb (D s' t' u') F') Q) (E s t u) ds (D s t u)) : W x (.loop c) Q ρ ds F :=
  W.loop (σ := σ × τ × υ) (fun p => C p.1 p.2.1 p.2.2) (fun p => E p.1 p.2.1 p.2.2) (fun p => D p.1 p.2.1 p.2.2) (fun p => μ p.1 p.2.1 p.2.2) (s₀, t₀, u₀) h₀ he hF fun p h => (round p.1 p.2.1 p.2.2 h).mono fun _ _ _ _ q => thn_mono q fun _ _ _ ⟨e, s', t', u', h1⟩ => ⟨e, (s', t', u'), h1⟩
end

/-- The cells of a row. -/
theorem Part.rowG {α : Type} {row : α → List Value} {w : Nat} [Rw row w] {c : Array Value} {off i : Nat} {l : List α} {p : α} (h : Part c off (flat row l)) (hi : l[i]? = some p) (k : Nat) (hk : k < w) : c[off + i * w + k]? = (row p)[k]? :=
  (h.rowP hi).get (by rw [Rw.len]; exact hk)

/-- An element of what is read. -/
theorem Sl.at {α : Type} {row : α → List Value} {w : Nat} [Rw row w] {h : Hp} {a : Option Addr} {n cap : Nat} {l : List α} {i : Nat} {p : α} (H : Sl h row (.slice a n cap) l) (hi : l[i]? = some p) :
    ∃ b off c E fz, a = some ⟨b, off, none⟩ ∧ h b = some (.cells c E fz) ∧ c.extract (off + i * w) (off + i * w + w) = (row p).toArray ∧ off + i * w + w ≤ c.size ∧ ∀ k, k < w → c[off + i * w + k]? = (row p)[k]? := by
  have hne : l ≠ [] := by rintro rfl; simp at hi
  obtain ⟨a', cap', e, hx⟩ := H
  cases e
  obtain ⟨b, off, c, E, fz, rfl, hb, hp⟩ := hx hne
  obtain ⟨h1, h2⟩ := hp.rowE hi
  exact ⟨b, off, c, E, fz, rfl, hb, h1, h2, fun k hk => hp.rowG hi k hk⟩
theorem has {α : Type} {l : List α} {i : Nat} (h : i < l.length) : ∃ p, l[i]? = some p ∧ l.drop i = p :: l.drop (i + 1) := ⟨l[i], List.getElem?_eq_getElem h, (List.getElem_cons_drop ..).symm⟩
theorem Sl.isSl {α : Type} {row : α → List Value} {w : Nat} [Rw row w] {h : Hp} {v : Value} {l : List α} (H : Sl h row v l) : ∃ a cap, v = .slice a l.length cap := by
  obtain ⟨a, cap, e, _⟩ := H
  exact ⟨a, cap, e⟩

/-- What is dropped: by itself. -/
theorem sbA {A B : Frag} (h : Sb A B := by repeat (first | exact Sb.refl | apply Sb.cons | refine Sb.skip rfl ?_ | exact Sb.nil (by assumption))) : Sb A B := h
end Go.Mus
