/- Operations, calls and returns. Conditions: none; over any program. (And 1 texts more.) -/
import Derived.Test.YtabnpjbnoedfgaaDoorP01
import Derived.Orders
set_option linter.unusedVariables false
set_option linter.unusedSimpArgs false

/- Operations, calls and returns. Conditions: none; over any program. -/
namespace Go.Mus

/-- A slot is written. -/
def put (ρ : Env) (d : Option Tmp) (v : Value) : Env := match d with | some d => (d, v) :: ρ | none => ρ
def slotOK (d : Option Tmp) (n : Nat) : Bool := match d with | some d => Nat.blt d n | none => true

/-- A function that returns, called in a heap. -/
def Fnc (P : Program) (main : Side) (f : FuncId) (args : Array Value) (h : Hp) (F : Frag) (R : Value → Frag → Prop) : Prop :=
  ∀ (c : Frame) (cs : List Frame) (Stop : Stops main) (hk : Hp) (M : Nat → Prop), Sat h F hk M →
    (∀ v F' hk' M', R v F' → Sat h F' hk' M' → Fr M F M' F' → Gs P main Stop (G (c.finish v) cs) hk' M') →
    Gs P main Stop (G (Frame.enter P f args .normal) (c :: cs)) hk M

/-- .. called as a deferred call. -/
def FnD (P : Program) (main : Side) (f : FuncId) (args : Array Value) (h : Hp) (F : Frag) (R : Frag → Prop) : Prop :=
  ∀ (c : Frame) (cs : List Frame) (Stop : Stops main) (hk : Hp) (M : Nat → Prop), c.mode = .returning → Sat h F hk M →
    (∀ F' hk' M', R F' → Sat h F' hk' M' → Fr M F M' F' → Gs P main Stop (G c cs) hk' M') →
    Gs P main Stop (G (Frame.enter P f args .deferred) (c :: cs)) hk M

/-- The body of a loop over a function, called as a round. -/
def Rnd (P : Program) (main : Side) (l : Nat) (f : FuncId) (tmps : Array Value) (assign body : Code) (h : Hp) (F : Frag) (R : Value → Frag → Prop) : Prop :=
  ∀ (c : Frame) (cs : List Frame) (Stop : Stops main) (hk : Hp) (M : Nat → Prop), Sat h F hk M →
    (∀ v F' hk' M', R v F' → Sat h F' hk' M' → Fr M F M' F' → Gs P main Stop (G (c.finish v) cs) hk' M') →
    Gs P main Stop (G (Frame.round l f tmps assign body .normal) (c :: cs)) hk M

/-- What becomes of a call. -/
def nextOK (P : Program) (main : Side) (h : Hp) (R : Value → Frag → Prop) : Next → Frag → Prop
  | .value v, F => R v F
  | .skip, F => R undef F
  | .enter f args, F => Fnc P main f args h F R
  | .round l f tmps assign body, F => Rnd P main l f tmps assign body h F R
  | _, _ => False

/-- A call of a target. -/
def Inv (P : Program) (main : Side) (t : Target) (args : Array Value) (h : Hp) (F : Frag) (R : Value → Frag → Prop) : Prop := tr P h (invoke t args) F (nextOK P main h R)

section
variable {P : Program} {main : Side} {h : Hp} {F : Frag}

theorem Fnc.mono {f : FuncId} {args : Array Value} {R R' : Value → Frag → Prop} (H : Fnc P main f args h F R) (hr : ∀ v F, R v F → R' v F) : Fnc P main f args h F R' :=
  fun c cs Stop hk M S hc => H c cs Stop hk M S fun v F' hk' M' r => hc v F' hk' M' (hr _ _ r)
theorem Rnd.mono {l : Nat} {f : FuncId} {tmps : Array Value} {a b : Code} {R R' : Value → Frag → Prop} (H : Rnd P main l f tmps a b h F R) (hr : ∀ v F, R v F → R' v F) : Rnd P main l f tmps a b h F R' :=
  fun c cs Stop hk M S hc => H c cs Stop hk M S fun v F' hk' M' r => hc v F' hk' M' (hr _ _ r)
theorem FnD.mono {f : FuncId} {args : Array Value} {R R' : Frag → Prop} (H : FnD P main f args h F R) (hr : ∀ F, R F → R' F) : FnD P main f args h F R' :=
  fun c cs Stop hk M m S hc => H c cs Stop hk M m S fun F' hk' M' r => hc F' hk' M' (hr _ r)
theorem nextOK.mono {R R' : Value → Frag → Prop} {nx : Next} (H : nextOK P main h R nx F) (hr : ∀ v F, R v F → R' v F) : nextOK P main h R' nx F := by
  cases nx <;> first | exact hr _ _ H | exact Fnc.mono H hr | exact Rnd.mono H hr | exact H.elim
theorem Inv.mono {t : Target} {args : Array Value} {R R' : Value → Frag → Prop} (H : Inv P main t args h F R) (hr : ∀ v F, R v F → R' v F) : Inv P main t args h F R' := tr_mono H fun _ _ x => x.mono hr
end

/-- Heaps: more is known. -/
def Ext (h h' : Hp) : Prop := (∀ b o, h b = some o → h' b = some o) ∧ ∀ b, h.z b → h'.z b
/-- What is lent: it is read, not owned. -/
def Lent (Fr : Frag) (h' : Hp) : Prop := ∀ b o, (b, o) ∈ Fr → h' b = some o

/-- What is owned and not handed on is lent. -/
def lend (h : Hp) (F : Frag) : Hp := ⟨fun b => match h b with | some o => some o | none => F.lookup b, h.z⟩

theorem lookup_of_mem : ∀ {F : Frag} {b : Nat} {o : Obj}, (F.map (·.1)).Nodup → (b, o) ∈ F → F.lookup b = some o
  | [], _, _, _, hm => by cases hm
  | (c, x) :: F, b, o, hn, hm => by
    simp only [List.map_cons, List.nodup_cons] at hn
    rcases List.mem_cons.1 hm with e | hm
    · cases e; simp [List.lookup]
    · have hne : b ≠ c := fun e => hn.1 (e ▸ List.mem_map.2 ⟨_, hm, rfl⟩)
      have : (b == c) = false := by simpa using hne
      simp only [List.lookup, this]
      exact lookup_of_mem hn.2 hm

theorem mem_of_lookup : ∀ {F : Frag} {b : Nat} {o : Obj}, F.lookup b = some o → (b, o) ∈ F
  | [], _, _, h => by cases h
  | (c, x) :: F, b, o, h => by
    simp only [List.lookup] at h
    split at h
    · rename_i e; cases h; rw [show b = c by simpa using e]; simp
    · exact List.mem_cons_of_mem _ (mem_of_lookup h)

theorem Sat.lend {h : Hp} {A B : Frag} {k : Hp} {M : Nat → Prop} (S : Sat h (A ++ B) k M) : Sat (lend h B) A k M ∧ Ext h (lend h B) ∧ Lent B (lend h B) := by
  have hnd := S.nodup
  rw [List.map_append, List.nodup_append] at hnd
  have e1 : Ext h (Mus.lend h B) := ⟨fun b o hb => by simp [Mus.lend, hb], fun _ z => z⟩
  have e2 : Lent B (Mus.lend h B) := fun b o hb => by
    have := (S.own b o (List.mem_append_right _ hb)).2.2
    simp only [Mus.lend, this]
    exact lookup_of_mem hnd.2.1 hb
  refine ⟨⟨fun b o hb => ?_, fun b o hb => ?_, hnd.1, fun b o h1 h2 h3 => ?_, S.froz⟩, e1, e2⟩
  · simp only [Mus.lend] at hb
    split at hb
    · rename_i x hx; cases hb; exact S.sub b _ hx
    · exact (S.own b o (List.mem_append_right _ (mem_of_lookup hb))).1
  · have := S.own b o (List.mem_append_left _ hb)
    refine ⟨this.1, this.2.1, ?_⟩
    simp only [Mus.lend, this.2.2]
    cases hl : B.lookup b with
    | none => rfl
    | some x => exact absurd rfl (hnd.2.2 b (List.mem_map.2 ⟨_, hb, rfl⟩) b (List.mem_map.2 ⟨_, mem_of_lookup hl, rfl⟩))
  · rcases S.all b o h1 h2 h3 with h4 | h4
    · rcases List.mem_append.1 h4 with h4 | h4
      · exact .inl h4
      · exact .inr (e2 b o h4)
    · exact .inr (e1.1 b o h4)

theorem Sat.back {h : Hp} {A B A' : Frag} {k k' : Hp} {M M' : Nat → Prop} (S : Sat h (A ++ B) k M) (S' : Sat (Mus.lend h B) A' k' M') (f : Fr M A M' A') : Sat h (A' ++ B) k' M' ∧ Fr M (A ++ B) M' (A' ++ B) := by
  obtain ⟨_, e1, e2⟩ := S.lend
  have hnd := S.nodup
  rw [List.map_append, List.nodup_append] at hnd
  have hB : ∀ b o, (b, o) ∈ B → M' b ∧ ∀ o', (b, o') ∉ A' := fun b o hb => f b (S.own b o (List.mem_append_right _ hb)).2.1 fun o' ho' => hnd.2.2 b (List.mem_map.2 ⟨_, ho', rfl⟩) b (List.mem_map.2 ⟨_, hb, rfl⟩) rfl
  refine ⟨⟨fun b o hb => S'.sub b o (e1.1 b o hb), fun b o hb => ?_, ?_, fun b o h1 h2 h3 => ?_, S'.froz⟩, fun b hb hF => ?_⟩
  · rcases List.mem_append.1 hb with hb | hb
    · have := S'.own b o hb
      refine ⟨this.1, this.2.1, ?_⟩
      cases hh : h b with
      | none => rfl
      | some x => have := e1.1 b x hh; rw [(S'.own b o hb).2.2] at this; cases this
    · exact ⟨S'.sub b o (e2 b o hb), (hB b o hb).1, (S.own b o (List.mem_append_right _ hb)).2.2⟩
  · rw [List.map_append, List.nodup_append]
    refine ⟨S'.nodup, hnd.2.1, fun b hb c hc e => ?_⟩
    subst e
    obtain ⟨⟨x, o⟩, hx, rfl⟩ := List.mem_map.1 hb
    obtain ⟨⟨y, o'⟩, hy, hyx⟩ := List.mem_map.1 hc
    simp only at hyx
    subst hyx
    exact (hB _ _ hy).2 _ hx
  · rcases S'.all b o h1 h2 h3 with h4 | h4
    · exact .inl (List.mem_append_left _ h4)
    · simp only [Mus.lend] at h4
      split at h4
      · rename_i x hx; cases h4; exact .inr hx
      · exact .inl (List.mem_append_right _ (mem_of_lookup h4))
  · have := f b hb fun o ho => hF o (List.mem_append_left _ ho)
    exact ⟨this.1, fun o ho => by
      rcases List.mem_append.1 ho with ho | ho
      · exact this.2 o ho
      · exact hF o (List.mem_append_right _ ho)⟩

/-- A CALL, FRAMED: what is not handed on is lent, and comes back. -/
theorem Fnc.frame {P : Program} {main : Side} {f : FuncId} {args : Array Value} {h : Hp} {A B : Frag} {R : Value → Frag → Prop} (H : ∀ h', Ext h h' → Lent B h' → Fnc P main f args h' A R) :
    Fnc P main f args h (A ++ B) fun v F' => ∃ A', R v A' ∧ F' = A' ++ B := by
  intro c cs Stop hk M S hc
  obtain ⟨S1, e1, e2⟩ := S.lend
  refine H _ e1 e2 c cs Stop hk M S1 fun v A' hk' M' r S' f => ?_
  obtain ⟨a, b⟩ := S.back S' f
  exact hc v _ hk' M' ⟨A', r, rfl⟩ a b

theorem Fnc.perm {P : Program} {main : Side} {f : FuncId} {args : Array Value} {h : Hp} {A B : Frag} {R : Value → Frag → Prop} (p : A.Perm B) (H : Fnc P main f args h A R) : Fnc P main f args h B R :=
  fun c cs Stop hk M S hc => H c cs Stop hk M (S.perm p) fun v F' hk' M' r S' f => hc v F' hk' M' r S' (f.sub fun _ x => p.subset x)

theorem Fnc.sb {P : Program} {main : Side} {f : FuncId} {args : Array Value} {h : Hp} {A B : Frag} {R : Value → Frag → Prop} (p : Sb A B) (H : Fnc P main f args h A R) : Fnc P main f args h B R :=
  fun c cs Stop hk M S hc => H c cs Stop hk M (S.sb p) fun v F' hk' M' r S' f => hc v F' hk' M' r S' (f.sub fun _ x => p.mem _ x)

section rules
variable {x : Cx} {P : Program} {main : Side} {n : Nat} {Q : Post} {ρ : Env} {ds : List Deferred} {F : Frag} {ops : Array Oper} {i : Nat} {rest : List Nat}

/-- An operation is carried out: it bears no guard, or its guard is met. -/
def want (ops : Array Oper) (ρ : Env) (o : Oper) : Prop :=
  match o.guard with
  | none => True
  | some (j, w) => ∃ d, (ops[j]?).bind (·.dst) = some d ∧ look ρ d = some (.bool w)

theorem want.wanted {o : Oper} {tmps : Array Value} (hw : want ops ρ o) (he : EnvOK ρ tmps) : Region.wanted o (yielded ops tmps) = true := by
  unfold want at hw
  unfold Region.wanted
  cases hg : o.guard with
  | none => rfl
  | some jw =>
    obtain ⟨j, w⟩ := jw
    rw [hg] at hw
    obtain ⟨d, h1, h2⟩ := hw
    simp [yielded, h1, he d _ h2]

theorem eval_fat {b : Frame} {t : Array Value} {ds : List Deferred} {k k' : List Item} : (fat b t ds k).eval = (fat b t ds k').eval := by
  funext x; cases x <;> rfl

theorem finish_fat {b : Frame} {t : Array Value} {ds : List Deferred} {k : List Item} {cs : List Frame} {o : Oper} (ho : ops[i]? = some o) (v : Value) :
    (fat b t ds (.inRegion ops (i :: rest) :: k)).finish v = fat b (match o.dst with | some d => t.setIfInBounds d v | none => t) ds (.inRegion ops rest :: k) := by
  simp only [Frame.finish, fat, ho, Option.bind_some]
  cases o.dst <;> rfl

/-- The step of an operation that defers nothing. -/
theorem st_oper {b : Frame} {t : Array Value} {k : List Item} {cs : List Frame} {w : World} {o : Oper} (ho : ops[i]? = some o) (hw : Region.wanted o (yielded ops t) = true) (hd : ∀ c, o.op ≠ .defer c) :
    stepG P main.b (G (fat b t ds (.inRegion ops (i :: rest) :: k)) cs) w = stepG.apply P true (fat b t ds (.inRegion ops (i :: rest) :: k)) cs none (execOp (fat b t ds (.inRegion ops (i :: rest) :: k)).eval o) w := by
  obtain ⟨dst, op, type, pos, aft, guard⟩ := o
  simp only at hd
  simp only [Conc.G, stepG, stepG.exec, stepG.oper, Frame.oper?, fat, ho, hw, Option.map_some, Option.getD_some, if_true]
  split
  · exact absurd rfl (hd _)
  · rfl

theorem apply_value {fr : Frame} {cs : List Frame} {s : Sem Next} {w w' : World} {v : Value} {es : Array Event} (r : s.runT P w #[] = (.ok (.value v) w', es)) (hk : (fr.kind == CallKind.early) = false) :
    stepG.apply P true fr cs none s w = .go (G (fr.finish v) cs) w' (seen P fr.fn es) := by
  unfold stepG.apply
  simp only [r, hk, if_true]
  rfl
theorem apply_skip {fr : Frame} {cs : List Frame} {s : Sem Next} {w w' : World} {es : Array Event} (r : s.runT P w #[] = (.ok .skip w', es)) (hk : (fr.kind == CallKind.early) = false) :
    stepG.apply P true fr cs none s w = .go (G (fr.finish undef) cs) w' (seen P fr.fn es) := by
  unfold stepG.apply
  simp only [r, hk, if_true]
  rfl
theorem apply_enter {fr : Frame} {cs : List Frame} {s : Sem Next} {w w' : World} {f : FuncId} {args : Array Value} {es : Array Event} (r : s.runT P w #[] = (.ok (.enter f args) w', es)) (hk : (fr.kind == CallKind.early) = false)
    (ht : ∃ ops l k, fr.todo = .inRegion ops l :: k) : stepG.apply P true fr cs none s w = .go (G (Frame.enter P f args .normal) (fr :: cs)) w' (seen P fr.fn es) := by
  obtain ⟨ops, l, k, ht⟩ := ht
  unfold stepG.apply
  simp only [r, hk, if_true, ht]
  rfl
theorem apply_round {fr : Frame} {cs : List Frame} {s : Sem Next} {w w' : World} {l : Nat} {f : FuncId} {tm : Array Value} {us bd : Code} {es : Array Event} (r : s.runT P w #[] = (.ok (.round l f tm us bd) w', es)) (hk : (fr.kind == CallKind.early) = false) :
    stepG.apply P true fr cs none s w = .go (G (Frame.round l f tm us bd .normal) (fr :: cs)) w' (seen P fr.fn es) := by
  unfold stepG.apply
  simp only [r, hk, if_true]
  rfl

theorem st_unwanted {b : Frame} {t : Array Value} {k : List Item} {cs : List Frame} {w : World} {o : Oper} (ho : ops[i]? = some o) (hw : Region.wanted o (yielded ops t) = false) :
    stepG P main.b (G (fat b t ds (.inRegion ops (i :: rest) :: k)) cs) w = .go (G ((fat b t ds (.inRegion ops (i :: rest) :: k)).finish undef) cs) w := by
  simp [Conc.G, stepG, stepG.exec, fat, ho, hw]

theorem mem_seen {fn : FuncId} {es : Array Event} {e : Event} (hm : e ∈ seen P fn es) : e ∈ es := Conc.mem_seen hm

theorem EnvOK.put' {o : Oper} {tmps : Array Value} (h3 : EnvOK ρ tmps) (h4 : tmps.size = n) (hd : slotOK o.dst n = true) (v : Value) :
    EnvOK (Mus.put ρ o.dst v) (match o.dst with | some d => tmps.setIfInBounds d v | none => tmps) ∧ (match o.dst with | some d => tmps.setIfInBounds d v | none => tmps).size = n := by
  cases hds : o.dst with
  | none => exact ⟨by simpa [Mus.put] using h3, by simpa using h4⟩
  | some d =>
    rw [hds] at hd
    have : d < tmps.size := by rw [h4]; exact Nat.le_of_ble_eq_true hd
    exact ⟨by simpa [Mus.put] using h3.put this v, by simpa using h4⟩

/-- One operation, carried out: of what is owned a part is handed to it, the rest is lent. -/
def Run1 (x : Cx) (o : Oper) (e : Operand → Value) (F : Frag) (R : Value → Frag → Prop) : Prop :=
  ∃ A B, (A ++ B).Perm F ∧ ∀ h', Ext x.h h' → Lent B h' → tr x.P h' (execOp e o) A (nextOK x.P x.main h' fun v A' => R v (A' ++ B))

theorem Run1.mono {o : Oper} {e : Operand → Value} {R R' : Value → Frag → Prop} (H : Run1 x o e F R) (hr : ∀ v F, R v F → R' v F) : Run1 x o e F R' := by
  obtain ⟨A, B, h1, h2⟩ := H
  exact ⟨A, B, h1, fun h' e1 e2 => tr_mono (h2 h' e1 e2) fun _ _ y => y.mono fun v F => hr v _⟩

/-- ████ ONE OPERATION. 'e': what the operands are, as far as it is known. -/
theorem Ops.op {o : Oper} (ho : ops[i]? = some o) (hw : want ops ρ o) (hd : slotOK o.dst x.n = true) (hdf : ∀ c, o.op ≠ .defer c)
    (H : ∀ e : Operand → Value, (∀ y v, ev ρ y = some v → e y = v) → Run1 x o e F fun v F' => Ops x ops rest Q (put ρ o.dst v) ds F') :
    Ops x ops (i :: rest) Q ρ ds F := by
  intro b k cs Stop tmps hk M h1 h0 h2 h3 h4 h5 hc
  refine .of_stp ⟨rfl, fun w hw' hM => ?_⟩
  obtain ⟨A, B, hp, H'⟩ := H (fat b tmps ds (.inRegion ops (i :: rest) :: k)).eval fun _ _ hx => h3.ev hx
  have S0 := h5.perm hp
  obtain ⟨S1, e1, e2⟩ := S0.lend
  obtain ⟨nx, F', w', es, r1, r2, r3, r4, r5⟩ := tr_sound _ #[] (H' _ e1 e2) S1 hw' hM
  rw [Array.empty_append] at r1
  have hk' : (b.kind == CallKind.early) = false := by simpa using h2
  have hgo : Guar hk M w w' (seen x.P b.fn es) := r2.mem fun _ => mem_seen
  rw [st_oper ho (hw.wanted h3) hdf]
  -- what follows, once a value is there
  have on : ∀ v G (hk₂ : Hp) (M₂ : Nat → Prop), Ops x ops rest Q (put ρ o.dst v) ds (G ++ B) → Sat (lend x.h B) G hk₂ M₂ → Fr M A M₂ G → Gs x.P x.main Stop (Mus.G ((fat b tmps ds (.inRegion ops (i :: rest) :: k)).finish v) cs) hk₂ M₂ := by
    intro v G hk₂ M₂ r S₂ f₂
    obtain ⟨p1, p2⟩ := h3.put' h4 hd v
    obtain ⟨S₃, f₃⟩ := S0.back S₂ f₂
    rw [finish_fat (cs := cs) ho v]
    exact r b k cs Stop _ _ _ h1 h0 h2 p1 p2 S₃ fun e ρ' ds' G tmps' hk' M' q a1 a2 a3 a4 => hc e ρ' ds' G tmps' hk' M' q a1 a2 a3 ((f₃.sub fun _ y => hp.subset y).trans a4)
  cases nx with
  | value v => exact ⟨_, w', _, apply_value r1 hk', hgo, on v F' _ _ r5 r3 r4⟩
  | skip => exact ⟨_, w', _, apply_skip r1 hk', hgo, on undef F' _ _ r5 r3 r4⟩
  | enter f args => exact ⟨_, w', _, apply_enter r1 hk' ⟨_, _, _, rfl⟩, hgo, r5 _ cs Stop _ _ r3 fun v G hk₂ M₂ r S₂ f₂ => on v G hk₂ M₂ r S₂ (r4.trans f₂)⟩
  | round l f tm us bd => exact ⟨_, w', _, apply_round r1 hk', hgo, r5 _ cs Stop _ _ r3 fun v G hk₂ M₂ r S₂ f₂ => on v G hk₂ M₂ r S₂ (r4.trans f₂)⟩
  | _ => exact r5.elim

/-- An operation that is not wanted is passed over. -/
theorem Ops.unwanted {o : Oper} {j d : Nat} {w v : Bool} (ho : ops[i]? = some o) (hg : o.guard = some (j, w)) (hj : (ops[j]?).bind (·.dst) = some d) (hv : look ρ d = some (.bool v)) (hne : (v == w) = false) (hd : slotOK o.dst x.n = true)
    (H : Ops x ops rest Q (put ρ o.dst undef) ds F) : Ops x ops (i :: rest) Q ρ ds F := by
  intro b k cs Stop tmps hk M h1 h0 h2 h3 h4 h5 hc
  have hw : Region.wanted o (yielded ops tmps) = false := by
    simp only [Region.wanted, hg, yielded, hj, Option.bind_some, h3 d _ hv]
    cases v <;> cases w <;> simp_all
  obtain ⟨p1, p2⟩ := h3.put' h4 hd undef
  refine .idle rfl (fun _ => st_unwanted ho hw) ?_
  rw [finish_fat (cs := cs) ho undef]
  exact H b k cs Stop _ _ _ h1 h0 h2 p1 p2 h5 hc

/-- The outcome of a guard is asked. -/
theorem Ops.split {d : Nat} {v : Bool} (_hv : look ρ d = some (.bool v)) (ht : v = true → Ops x ops (i :: rest) Q ρ ds F) (hf : v = false → Ops x ops (i :: rest) Q ρ ds F) : Ops x ops (i :: rest) Q ρ ds F := by
  cases v with
  | true => exact ht rfl
  | false => exact hf rfl

end rules

/-! ### Returns -/

/-- A frame on its way out. -/
def lvg (b : Frame) (tmps : Array Value) (ds : List Deferred) (todo : List Item) : Frame := { fat b tmps ds todo with mode := .returning }

/-- The deferred calls of a frame that returns, one by one. -/
def Unw (P : Program) (main : Side) (h : Hp) : List Deferred → Frag → (Frag → Prop) → Prop
  | [], F, K => K F
  | d :: ds, F, K =>
    match d.target with
    | .collected r => tr P h (Instr.takeDeferred r) F fun l F' => l = [] ∧ Unw P main h ds F' K
    | .fn (.func f) cap => tr P h (callFunc f (d.args ++ cap)) F fun nx F₁ => ∃ g args, nx = .enter g args ∧ ∃ A B, (A ++ B).Perm F₁ ∧ ∀ h', Ext h h' → Lent B h' → FnD P main g args h' A fun A' => Unw P main h ds (A' ++ B) K
    | _ => False

/-- What a function's ways out owe: its deferred calls, then its results. -/
def leave (P : Program) (main : Side) (fn : Func) (h : Hp) (R : Value → Frag → Prop) : Post := fun e ρ ds F =>
  (e = .ret ∨ e = .normal) ∧ Unw P main h ds F fun F' => ∀ tmps, EnvOK ρ tmps → tr P h (results fn tmps) F' R

section returns
variable {P : Program} {main : Side} {h : Hp} {b : Frame} {t : Array Value} {ds : List Deferred} {k : List Item} {cs : List Frame} {w : World}

theorem st_ret (hr : b.roundOf = none) : stepG P main.b (G (fat b t ds (.code .ret :: k)) cs) w = .go (G (lvg b t ds (.code .ret :: k)) cs) w := by simp [Conc.G, stepG, stepG.exec, fat, lvg, hr]
theorem st_end (hr : b.roundOf = none) : stepG P main.b (G (fat b t ds []) cs) w = .go (G (lvg b t ds []) cs) w := by simp [Conc.G, stepG, stepG.exec, fat, lvg, hr]

theorem st_done {fn : Func} {c : Frame} {cs : List Frame} {v : Value} {w' : World} {es : Array Event} {todo : List Item} (hf : P.funcs[b.fn]? = some fn) (r : (results fn t).runT P w #[] = (.ok v w', es)) (hk : b.kind = .normal) :
    stepG P main.b (G (lvg b t [] todo) (c :: cs)) w = .go (G (c.finish v) cs) w' (seen P b.fn es) := by
  have e : stepG P main.b (G (lvg b t [] todo) (c :: cs)) w = unwind P main.b (lvg b t [] todo) (c :: cs) none w := rfl
  rw [e]
  unfold unwind
  have h1 : (lvg b t [] todo).defers = [] := rfl
  have h2 : (lvg b t [] todo).mode = .returning := rfl
  have h3 : (lvg b t [] todo).fn = b.fn := rfl
  have h4 : (lvg b t [] todo).tmps = t := rfl
  have h5 : (lvg b t [] todo).kind = .normal := hk
  simp only [h1, h2, h3, h4, hf, r, doReturn, h5]
  rfl
theorem st_doneD {fn : Func} {c : Frame} {cs : List Frame} {v : Value} {w' : World} {es : Array Event} {todo : List Item} (hf : P.funcs[b.fn]? = some fn) (r : (results fn t).runT P w #[] = (.ok v w', es)) (hk : b.kind = .deferred) (hm : c.mode = .returning) :
    stepG P main.b (G (lvg b t [] todo) (c :: cs)) w = .go (G c cs) w' (seen P b.fn es) := by
  have e : stepG P main.b (G (lvg b t [] todo) (c :: cs)) w = unwind P main.b (lvg b t [] todo) (c :: cs) none w := rfl
  rw [e]
  unfold unwind
  have h1 : (lvg b t [] todo).defers = [] := rfl
  have h2 : (lvg b t [] todo).mode = .returning := rfl
  have h3 : (lvg b t [] todo).fn = b.fn := rfl
  have h4 : (lvg b t [] todo).tmps = t := rfl
  have h5 : (lvg b t [] todo).kind = .deferred := hk
  simp only [h1, h2, h3, h4, hf, r, doReturn, h5, hm]
  rfl
theorem st_collected {r : Nat} {dargs : Array Value} {ds : List Deferred} {w' : World} {es : Array Event} {todo : List Item} (hr : (Instr.takeDeferred r).runT P w #[] = (.ok [] w', es)) :
    stepG P main.b (G (lvg b t ({ target := .collected r, args := dargs } :: ds) todo) cs) w = .go (G (lvg b t ds todo) cs) w' (seen P b.fn es) := by
  have e : stepG P main.b (G (lvg b t ({ target := .collected r, args := dargs } :: ds) todo) cs) w = unwind P main.b (lvg b t ({ target := .collected r, args := dargs } :: ds) todo) cs none w := rfl
  rw [e]
  unfold unwind
  have h1 : (lvg b t ({ target := .collected r, args := dargs } :: ds) todo).defers = { target := .collected r, args := dargs } :: ds := rfl
  have h3 : (lvg b t ({ target := .collected r, args := dargs } :: ds) todo).fn = b.fn := rfl
  simp only [h1, h3, hr]
  rfl
theorem st_deferred {f g : FuncId} {cap dargs args : Array Value} {ds : List Deferred} {w' : World} {es : Array Event} {todo : List Item} (hr : (callFunc f (dargs ++ cap)).runT P w #[] = (.ok (.enter g args) w', es)) :
    stepG P main.b (G (lvg b t ({ target := .fn (.func f) cap, args := dargs } :: ds) todo) cs) w = .go (G (Frame.enter P g args .deferred) (lvg b t ds todo :: cs)) w' (seen P b.fn es) := by
  have e : stepG P main.b (G (lvg b t ({ target := .fn (.func f) cap, args := dargs } :: ds) todo) cs) w = unwind P main.b (lvg b t ({ target := .fn (.func f) cap, args := dargs } :: ds) todo) cs none w := rfl
  rw [e]
  unfold unwind
  have h1 : (lvg b t ({ target := .fn (.func f) cap, args := dargs } :: ds) todo).defers = { target := .fn (.func f) cap, args := dargs } :: ds := rfl
  have h2 : (invoke (.fn (.func f) cap) dargs).runT P w #[] = (.ok (.enter g args) w', es) := hr
  simp only [h1, callDeferred, h2]
  rfl

/-- A frame that is on its way out gets there. -/
theorem unwind_goes {fn : Func} {R : Value → Frag → Prop} {Stop : Stops main} (hf : P.funcs[b.fn]? = some fn) {ρ : Env} : ∀ {ds : List Deferred} {F : Frag} {hk : Hp} {M : Nat → Prop} (todo : List Item), Sat h F hk M → EnvOK ρ t →
    Unw P main h ds F (fun F' => ∀ tmps, EnvOK ρ tmps → tr P h (results fn tmps) F' R) →
    (∀ v F' hk' M', R v F' → Sat h F' hk' M' → Fr M F M' F' → (b.kind = .normal → ∃ c cs', cs = c :: cs' ∧ Gs P main Stop (G (c.finish v) cs') hk' M') ∧ (b.kind = .deferred → ∃ c cs', cs = c :: cs' ∧ c.mode = .returning ∧ Gs P main Stop (G c cs') hk' M')) →
    (b.kind = .normal ∨ b.kind = .deferred) →
    Gs P main Stop (G (lvg b t ds todo) cs) hk M := by
  intro ds
  induction ds with
  | nil =>
    intro F hk M todo S he hu hc hkd
    refine .of_stp ⟨rfl, fun w hw hM => ?_⟩
    obtain ⟨v, F', w', es, r1, r2, r3, r4, r5⟩ := tr_sound _ #[] (hu t he) S hw hM
    rw [Array.empty_append] at r1
    have hg : Guar hk M w w' (seen P b.fn es) := r2.mem fun _ => mem_seen
    obtain ⟨c1, c2⟩ := hc v F' _ _ r5 r3 r4
    rcases hkd with hkd | hkd
    · obtain ⟨c, cs', rfl, g⟩ := c1 hkd
      refine ⟨G (c.finish v) cs', w', seen P b.fn es, ?_, hg, g⟩
      exact st_done hf r1 hkd
    · obtain ⟨c, cs', rfl, hm, g⟩ := c2 hkd
      refine ⟨G c cs', w', seen P b.fn es, ?_, hg, g⟩
      exact st_doneD hf r1 hkd hm
  | cons d ds ih =>
    intro F hk M todo S he hu hc hkd
    obtain ⟨target, dargs⟩ := d
    unfold Unw at hu
    refine .of_stp ⟨rfl, fun w hw hM => ?_⟩
    split at hu
    · rename_i r heq
      simp only at heq
      subst heq
      obtain ⟨l, F', w', es, r1, r2, r3, r4, rfl, r5⟩ := tr_sound _ #[] hu S hw hM
      rw [Array.empty_append] at r1
      have hg : Guar hk M w w' (seen P b.fn es) := r2.mem fun _ => mem_seen
      refine ⟨G (lvg b t ds todo) cs, w', seen P b.fn es, ?_, hg, ih todo r3 he r5 (fun v F'' hk'' M'' q a1 a2 => hc v F'' hk'' M'' q a1 (r4.trans a2)) hkd⟩
      exact st_collected r1
    · rename_i f cap heq
      simp only at heq
      subst heq
      obtain ⟨nx, F', w', es, r1, r2, r3, r4, g, args, rfl, A, B, hp, hfn⟩ := tr_sound _ #[] hu S hw hM
      rw [Array.empty_append] at r1
      have hg : Guar hk M w w' (seen P b.fn es) := r2.mem fun _ => mem_seen
      refine ⟨G (Frame.enter P g args .deferred) (lvg b t ds todo :: cs), w', seen P b.fn es, ?_, hg, ?_⟩
      · exact st_deferred r1
      · have r3' := r3.perm hp
        obtain ⟨S1, e1, e2⟩ := r3'.lend
        refine hfn _ e1 e2 (lvg b t ds todo) cs Stop _ _ rfl S1 fun A' hk' M' q S' f' => ?_
        obtain ⟨a, a'⟩ := r3'.back S' f'
        exact ih todo a he q (fun v F'' hk'' M'' q a1 a2 => hc v F'' hk'' M'' q a1 ((r4.trans (a'.sub fun _ x => hp.subset x)).trans a2)) hkd
    · exact hu.elim

/-- What is known of the arguments. -/
def Argu : Env → Array Value → Prop
  | [], _ => True
  | (t, v) :: r, args => args[t]? = some v ∧ Argu r args

theorem Argu.ok {args : Array Value} {m : Nat} : ∀ {ρ : Env}, Argu ρ args → EnvOK ρ (args ++ Array.replicate m undef)
  | [], _, t, v, h => by cases h
  | (s, x) :: r, ⟨h1, h2⟩, t, v, h => by
    unfold Mus.look at h
    cases e : Nat.beq t s with
    | true =>
      rw [e] at h
      simp only [cond_true, Option.some.injEq] at h
      subst h
      rw [Nat.eq_of_beq_eq_true e]
      have hlt : s < args.size := by
        rcases Nat.lt_or_ge s args.size with h' | h'
        · exact h'
        · rw [Array.getElem?_eq_none h'] at h1; cases h1
      rw [Array.getElem?_append_left hlt]
      exact h1
    | false => rw [e] at h; exact Argu.ok h2 t v h

/-- ████ A FUNCTION, BY ITS BODY. -/
theorem Fnc.of_body {f : FuncId} {fn : Func} {c : Code} {args : Array Value} {F : Frag} {R : Value → Frag → Prop} (hf : P.funcs[f]? = some fn) (hb : fn.body = some c) (ha : args.size ≤ fn.ntmps) (ρ : Env) (hρ : Argu ρ args)
    (H : W ⟨P, main, f, fn.ntmps, none, h⟩ c (leave P main fn h R) ρ [] F) : Fnc P main f args h F R := by
  intro c' cs Stop hk M S hc
  have e : Frame.enter P f args .normal = fat { (default : Frame) with fn := f, kind := .normal } (args ++ Array.replicate (fn.ntmps - args.size) undef) [] [.code c] := by
    simp [Frame.enter, fat, hf, hb]; rfl
  rw [e]
  refine H _ [] (c' :: cs) Stop _ hk M rfl rfl (by simp) hρ.ok (by simp; omega) S fun ex ρ' ds' F' tmps' hk' M' q a1 a2 a3 a4 => ?_
  obtain ⟨hex, hu⟩ := q
  have go : ∀ todo, Gs P main Stop (G (lvg { (default : Frame) with fn := f, kind := .normal } tmps' ds' todo) (c' :: cs)) hk' M' := fun todo =>
    unwind_goes (ρ := ρ') (fn := fn) hf todo a3 a1 hu (fun v F'' hk'' M'' r b1 b2 => ⟨fun _ => ⟨c', cs, rfl, hc v F'' hk'' M'' r b1 (a4.trans b2)⟩, (fun hh => (by cases hh))⟩) (.inl rfl)
  rcases hex with rfl | rfl
  · exact fun k' => .idle rfl (fun _ => st_ret rfl) (go _)
  · exact .idle rfl (fun _ => st_end rfl) (go _)

theorem FnD.of_body {f : FuncId} {fn : Func} {c : Code} {args : Array Value} {F : Frag} {R : Frag → Prop} (hf : P.funcs[f]? = some fn) (hb : fn.body = some c) (ha : args.size ≤ fn.ntmps) (ρ : Env) (hρ : Argu ρ args)
    (H : W ⟨P, main, f, fn.ntmps, none, h⟩ c (leave P main fn h fun _ F => R F) ρ [] F) : FnD P main f args h F R := by
  intro c' cs Stop hk M hm S hc
  have e : Frame.enter P f args .deferred = fat { (default : Frame) with fn := f, kind := .deferred } (args ++ Array.replicate (fn.ntmps - args.size) undef) [] [.code c] := by
    simp [Frame.enter, fat, hf, hb]; rfl
  rw [e]
  refine H _ [] (c' :: cs) Stop _ hk M rfl rfl (by simp) hρ.ok (by simp; omega) S fun ex ρ' ds' F' tmps' hk' M' q a1 a2 a3 a4 => ?_
  obtain ⟨hex, hu⟩ := q
  have go : ∀ todo, Gs P main Stop (G (lvg { (default : Frame) with fn := f, kind := .deferred } tmps' ds' todo) (c' :: cs)) hk' M' := fun todo =>
    unwind_goes (ρ := ρ') (fn := fn) hf todo a3 a1 hu (fun v F'' hk'' M'' r b1 b2 => ⟨(fun hh => (by cases hh)), fun _ => ⟨c', cs, rfl, hm, hc F'' hk'' M'' r b1 (a4.trans b2)⟩⟩) (.inr rfl)
  rcases hex with rfl | rfl
  · exact fun k' => .idle rfl (fun _ => st_ret rfl) (go _)
  · exact .idle rfl (fun _ => st_end rfl) (go _)
end returns

/-! ### Rounds: the body of a loop over a function -/

/-- By which way out a round's body is left, as the loop keeps it. -/
def jumpOf : Exit → Option (Option Code)
  | .normal => some none
  | .exit id => some (some (.exit id))
  | .goto l => some (some (.goto l))
  | .ret => some (some .ret)
  | _ => none

section rounds
variable {P : Program} {main : Side} {h : Hp} {b : Frame} {t : Array Value} {k : List Item} {c : Frame} {cs : List Frame} {w w' : World} {l : Nat}

theorem st_beginRound {es : Array Event} (hr : b.roundOf = some l) (hk : (b.kind == CallKind.early) = false) (hb : (Sem.bind (Instr.beginRound l) fun _ => .pure Next.skip).runT P w #[] = (.ok .skip w', es)) :
    stepG P main.b (G (fat b t [] (.beginRound :: k)) cs) w = .go (G (fat b t [] k) cs) w' (seen P b.fn es) := by
  have e : stepG P main.b (G (fat b t [] (.beginRound :: k)) cs) w = stepG.apply P true (fat b t [] (.beginRound :: k)) cs none (Sem.bind ((fat b t [] (.beginRound :: k)).roundOf.elim (stuck "beginRound: no round") Instr.beginRound) fun _ => .pure Next.skip) w := rfl
  rw [e]
  have e2 : (fat b t [] (.beginRound :: k)).roundOf = some l := hr
  rw [e2]
  exact apply_skip (fr := fat b t [] (.beginRound :: k)) hb hk

theorem st_endRound {e : Exit} {j : Option Code} {es : Array Event} {v : Value} (hr : b.roundOf = some l) (hk : b.kind = .normal) (hj : jumpOf e = some j) (hb : (Instr.endRound l j).runT P w #[] = (.ok v w', es)) :
    (e = .normal → stepG P main.b (G (fat b t [] []) (c :: cs)) w = .go (G (c.finish v) cs) w' (seen P b.fn es)) ∧
    (∀ id k', e = .exit id → exitTo id k' = none → stepG P main.b (G (fat b t [] (.code (.exit id) :: k')) (c :: cs)) w = .go (G (c.finish v) cs) w' (seen P b.fn es)) ∧
    (∀ id k', e = .goto id → gotoIn id k' = none → stepG P main.b (G (fat b t [] (.code (.goto id) :: k')) (c :: cs)) w = .go (G (c.finish v) cs) w' (seen P b.fn es)) ∧
    (∀ k', e = .ret → stepG P main.b (G (fat b t [] (.code .ret :: k')) (c :: cs)) w = .go (G (c.finish v) cs) w' (seen P b.fn es)) := by
  refine ⟨?_, ?_, ?_, ?_⟩
  · rintro rfl
    cases hj
    simp only [Conc.G, stepG, stepG.exec, fat, hr, hb, doReturn, hk]
    rfl
  · rintro id k' rfl hx
    cases hj
    simp only [Conc.G, stepG, stepG.exec, fat, hr, hx, Option.elim, hb, doReturn, hk]
    rfl
  · rintro id k' rfl hx
    cases hj
    simp only [Conc.G, stepG, stepG.exec, fat, hr, hx, Option.elim, hb, doReturn, hk]
    rfl
  · rintro k' rfl
    cases hj
    simp only [Conc.G, stepG, stepG.exec, fat, hr, hb, doReturn, hk]
    rfl

/-- ████ A ROUND, BY ITS BODY. -/
theorem Rnd.of_body {f : FuncId} {tmps : Array Value} {us bd : Code} {F : Frag} {R : Value → Frag → Prop} (ρ : Env) (hρ : EnvOK ρ tmps)
    (H : W ⟨P, main, f, tmps.size, some l, h⟩ us (fun e ρ₁ ds₁ F₁ => e = .normal ∧ ds₁ = [] ∧ tr P h (Instr.beginRound l) F₁ fun _ F₂ =>
      W ⟨P, main, f, tmps.size, some l, h⟩ bd (fun e _ ds₂ F₃ => ds₂ = [] ∧ ∃ j, jumpOf e = some j ∧ tr P h (Instr.endRound l j) F₃ R) ρ₁ [] F₂) ρ [] F) : Rnd P main l f tmps us bd h F R := by
  intro c cs Stop hk M S hc
  have e : Frame.round l f tmps us bd .normal = fat { (default : Frame) with fn := f, kind := .normal, roundOf := some l } tmps [] [.code us, .beginRound, .code bd] := rfl
  rw [e]
  refine H _ [.beginRound, .code bd] (c :: cs) Stop _ hk M rfl rfl (by simp) hρ rfl S fun ex ρ' ds' F' tmps' hk' M' q a1 a2 a3 a4 => ?_
  obtain ⟨rfl, rfl, q⟩ := q
  refine .of_stp ⟨rfl, fun w hw hM => ?_⟩
  obtain ⟨v, F₂, w', es, r1, r2, r3, r4, rfl, r5⟩ := tr_sound _ #[] (tr_bind (f := fun _ => .pure Next.skip) (Q := fun nx F₂ => nx = .skip ∧ W ⟨P, main, f, tmps.size, some l, h⟩ bd (fun e _ ds₂ F₃ => ds₂ = [] ∧ ∃ j, jumpOf e = some j ∧ tr P h (Instr.endRound l j) F₃ R) ρ' [] F₂) (tr_mono q fun _ _ x => ⟨rfl, x⟩)) a3 hw hM
  rw [Array.empty_append] at r1
  refine ⟨_, w', _, st_beginRound rfl rfl r1, r2.mem fun _ => mem_seen, ?_⟩
  refine r5 _ [] (c :: cs) Stop _ _ _ rfl rfl (by simp) a1 a2 r3 fun ex ρ₃ ds₃ F₃ tmps₃ hk₃ M₃ q₃ b1 b2 b3 b4 => ?_
  obtain ⟨rfl, j, hj, q₃⟩ := q₃
  have key : ∀ g : Goroutine, g.status = .running → (∀ (w w' : World) (v : Value) (es : Array Event), (Instr.endRound l j).runT P w #[] = (.ok v w', es) → stepG P main.b g w = .go (G (c.finish v) cs) w' (seen P f es)) → Stp P main.b (Gs P main Stop) g hk₃ M₃ := by
    intro g hs hg
    refine ⟨hs, fun w hw hM => ?_⟩
    obtain ⟨v, F₄, w', es, r1, s2, s3, s4, s5⟩ := tr_sound _ #[] q₃ b3 hw hM
    rw [Array.empty_append] at r1
    exact ⟨_, w', _, hg _ _ _ _ r1, s2.mem fun _ => mem_seen, hc v F₄ _ _ s5 s3 (((a4.trans r4).trans b4).trans s4)⟩
  cases ex with
  | normal => exact .of_stp (key _ rfl fun w w' v es hr => (st_endRound rfl rfl hj hr).1 rfl)
  | exit id => exact .inr ⟨rfl, fun k' hk' => key _ rfl fun w w' v es hr => (st_endRound rfl rfl hj hr).2.1 id k' rfl hk'⟩
  | goto id => exact .inr ⟨rfl, fun k' hk' => key _ rfl fun w w' v es hr => (st_endRound rfl rfl hj hr).2.2.1 id k' rfl hk'⟩
  | ret => exact fun k' => key _ rfl fun w w' v es hr => (st_endRound rfl rfl hj hr).2.2.2 k' rfl
  | panic ch => cases hj
  | outgrown => cases hj
end rounds

end Go.Mus

/- Regions whose order is open: each order that the edges allow. Conditions: none; over any program. -/
namespace Go.Mus

/-- What is known of the temporaries, as a function. -/
abbrev Ev := Nat → Option Value
def upd (ε : Ev) (d : Option Tmp) (v : Value) : Ev := match d with | some d => fun s => bif Nat.beq s d then some v else ε s | none => ε
def evε (ε : Ev) : Operand → Option Value
  | .tmp t => ε t
  | .const v => some v
  | .global g => some (.pointer (some ⟨g, 0, none⟩))
  | .func f => some (.func (.func f) #[] #[])
/-- A reading of the operands that fits what is known. -/
def Cons (ε : Ev) (e : Operand → Value) : Prop := ∀ y v, evε ε y = some v → e y = v
def wantε (ops : Array Oper) (ε : Ev) (o : Oper) (w : Bool) : Prop :=
  match o.guard with
  | none => w = true
  | some (j, g) => ∃ d v, (ops[j]?).bind (·.dst) = some d ∧ ε d = some (.bool v) ∧ (v == g) = w

theorem upd_look (ρ : Env) (d : Option Tmp) (v : Value) : upd (look ρ) d v = look (put ρ d v) := by
  cases d with
  | none => rfl
  | some d => rfl
theorem ev_look (ρ : Env) : evε (look ρ) = ev ρ := by funext x; cases x <;> rfl

/-- One operation, carried out or passed over; what follows. -/
def opT (x : Cx) (ops : Array Oper) (i : Nat) (K : Ev → Frag → Prop) (ε : Ev) (F : Frag) : Prop :=
  ∃ o, ops[i]? = some o ∧ slotOK o.dst x.n = true ∧ (∀ c, o.op ≠ .defer c) ∧
    ((wantε ops ε o true ∧ ∀ e, Cons ε e → Run1 x o e F fun v F' => K (upd ε o.dst v) F') ∨
     (wantε ops ε o false ∧ K (upd ε o.dst undef) F))

theorem opT_mono {x : Cx} {ops : Array Oper} {i : Nat} {K K' : Ev → Frag → Prop} {ε : Ev} {F : Frag} (H : opT x ops i K ε F) (hk : ∀ ε F, K ε F → K' ε F) : opT x ops i K' ε F := by
  obtain ⟨o, h1, h2, h3, h4⟩ := H
  exact ⟨o, h1, h2, h3, h4.imp (fun ⟨a, b⟩ => ⟨a, fun e he => (b e he).mono fun v F => hk _ _⟩) (fun ⟨a, b⟩ => ⟨a, hk _ _ b⟩)⟩

/-- The operations that may come up. 'listed': as a number's bits. -/
def bindsTo (e : Edge) : Bool := Region.binds .any e
def rdy (ops : Array Oper) (listed : Nat) (i : Nat) : Bool := match ops[i]? with | some o => !listed.testBit i && o.after.all fun e => !bindsTo e || listed.testBit e.on | none => false
def rdys (ops : Array Oper) (listed : Nat) : List Nat := (List.range ops.size).filter fun i => rdy ops listed i

/-- An operation that waits for all others. -/
def lastT (ops : Array Oper) (i : Nat) : Bool := match ops[i]? with
  | some o => (List.range ops.size).all fun j => Nat.beq j i || (o.after.any fun e => bindsTo e && Nat.beq e.on j) || (o.after.any fun e => bindsTo e && (match ops[e.on]? with | some o' => o'.after.any fun e' => bindsTo e' && Nat.beq e'.on j | none => false))
  | none => false
/-- What has come up, has come up behind what it waits for. -/
def closedT (ops : Array Oper) (listed : Nat) : Bool := (List.range ops.size).all fun k => !listed.testBit k || (match ops[k]? with | some o => o.after.all fun e => !bindsTo e || listed.testBit e.on | none => true)
def Closed (ops : Array Oper) (listed : Nat) : Prop := ∀ k o, ops[k]? = some o → listed.testBit k = true → ∀ e ∈ o.after, bindsTo e = true → listed.testBit e.on = true

/-- Whichever order is picked. -/
def anyT (x : Cx) (ops : Array Oper) (S : Frag → Prop) (K : Ev → Frag → Prop) : Nat → Nat → Ev → Frag → Prop
  | 0, listed, ε, F => rdys ops listed = [] ∧ K ε F
  | n + 1, listed, ε, F => (rdys ops listed = [] → K ε F) ∧ ∀ i, rdy ops listed i = true → opT x ops i (fun ε' F' => (lastT ops i = true ∨ S F') ∧ anyT x ops S K n (listed ||| 2 ^ i) ε' F') ε F

theorem testBit_or {n i j : Nat} : (n ||| 2 ^ i).testBit j = (n.testBit j || decide (i = j)) := by
  rw [Nat.testBit_or, Nat.testBit_two_pow]

theorem rdy_lt {ops : Array Oper} {listed i : Nat} (h : rdy ops listed i = true) : i < ops.size := by
  unfold rdy at h
  split at h
  · rename_i o ho
    rcases Nat.lt_or_ge i ops.size with h' | h'
    · exact h'
    · rw [Array.getElem?_eq_none h'] at ho; cases ho
  · cases h

theorem mem_rdys {ops : Array Oper} {listed i : Nat} : i ∈ rdys ops listed ↔ rdy ops listed i = true := by
  simp only [rdys, List.mem_filter, List.mem_range]
  exact ⟨fun h => h.2, fun h => ⟨rdy_lt h, h⟩⟩

theorem rdy_mono {ops : Array Oper} {listed i j : Nat} (h : rdy ops listed i = true) (hij : j ≠ i) : rdy ops (listed ||| 2 ^ j) i = true := by
  unfold rdy at h ⊢
  split at h
  · rename_i o ho
    simp only [Bool.and_eq_true, Bool.not_eq_true', Array.all_eq_true_iff_forall_mem, Bool.or_eq_true] at h ⊢
    simp only [ho, testBit_or, Bool.and_eq_true, Bool.not_eq_true', Bool.or_eq_false_iff, decide_eq_false_iff_not, Array.all_eq_true_iff_forall_mem, Bool.or_eq_true]
    exact ⟨⟨h.1, hij⟩, fun e he => (h.2 e he).imp id .inl⟩
  · cases h

/-- 'o' bears a value, whatever is owned beside what 'S' says. -/
def Yield (x : Cx) (ops : Array Oper) (S : Frag → Prop) (o : Oper) (v : Value) (ε : Ev) : Prop :=
  (wantε ops ε o true ∧ ∀ e, Cons ε e → ∀ F, S F → ∀ h', Ext x.h h' → tr x.P h' (execOp e o) F fun nx F' => nx = .value v ∧ F' = F) ∨ (wantε ops ε o false ∧ v = undef)

theorem Cons.drop {ε : Ev} {d : Nat} {v : Value} {e : Operand → Value} (h : Cons ε e) : Cons (upd ε (some d) v) (fun y => match y with | .tmp t => bif Nat.beq t d then v else e (.tmp t) | y => e y) := by
  intro y u hy
  cases y with
  | tmp t =>
    simp only [evε, upd] at hy
    cases hb : Nat.beq t d with
    | true => rw [hb] at hy; simp only [cond_true, Option.some.injEq] at hy; simpa [hb] using hy
    | false => rw [hb] at hy; simp only [cond_false] at hy; simpa [hb] using h (.tmp t) u hy
  | const c => exact h _ _ hy
  | global g => exact h _ _ hy
  | func f => exact h _ _ hy

theorem wantε_upd {ops : Array Oper} {ε : Ev} {o : Oper} {w : Bool} {d : Nat} {v : Value} (h : d ∉ o.looksAt ops) : wantε ops (upd ε (some d) v) o w ↔ wantε ops ε o w := by
  unfold wantε
  cases hg : o.guard with
  | none => rfl
  | some jg =>
    obtain ⟨j, g⟩ := jg
    constructor
    · rintro ⟨t, u, h1, h2, h3⟩
      refine ⟨t, u, h1, ?_, h3⟩
      have hne : t ≠ d := fun e => h (by subst e; simp [Oper.looksAt, hg, h1])
      have : Nat.beq t d = false := by cases hb : Nat.beq t d with | false => rfl | true => exact absurd (Nat.eq_of_beq_eq_true hb) hne
      simpa [upd, this] using h2
    · rintro ⟨t, u, h1, h2, h3⟩
      refine ⟨t, u, h1, ?_, h3⟩
      have hne : t ≠ d := fun e => h (by subst e; simp [Oper.looksAt, hg, h1])
      have : Nat.beq t d = false := by cases hb : Nat.beq t d with | false => rfl | true => exact absurd (Nat.eq_of_beq_eq_true hb) hne
      simpa [upd, this] using h2

theorem execOp_drop {o : Oper} {ops : Array Oper} (hs : ∀ cs b, o.op ≠ .select cs b) {d : Nat} {v : Value} {e : Operand → Value} (h : d ∉ o.looksAt ops) :
    execOp (fun y => match y with | .tmp t => bif Nat.beq t d then v else e (.tmp t) | y => e y) o = execOp e o :=
  execOp_congr o hs fun y hy => by
    cases y with
    | tmp t =>
      have hne : t ≠ d := fun e => h (by subst e; exact List.mem_append_left _ (List.mem_filterMap.2 ⟨.tmp t, by simpa using hy, rfl⟩))
      have : Nat.beq t d = false := by cases hb : Nat.beq t d with | false => rfl | true => exact absurd (Nat.eq_of_beq_eq_true hb) hne
      simp [this]
    | _ => rfl

theorem upd_comm {ε : Ev} {d d' : Nat} {v u : Value} (h : d ≠ d') : upd (upd ε (some d) v) (some d') u = upd (upd ε (some d') u) (some d) v := by
  funext t
  simp only [upd]
  cases h1 : Nat.beq t d <;> cases h2 : Nat.beq t d' <;> try rfl
  exact absurd ((Nat.eq_of_beq_eq_true h1).symm.trans (Nat.eq_of_beq_eq_true h2)) h

/-- One operation 'oj', apart from 'oi': whether 'oi''s value is already known makes no difference to it. -/
theorem opT_put {x : Cx} {ops : Array Oper} {S : Frag → Prop} {j : Nat} {oi oj : Oper} {v : Value} (hj : ops[j]? = some oj) (hap : oi.apart ops oj = true) (hsi : ∀ cs b, oi.op ≠ .select cs b) (hsj : ∀ cs b, oj.op ≠ .select cs b)
    {K : Ev → Frag → Prop} {ε : Ev} {F : Frag} (hy : Yield x ops S oi v ε) (H : opT x ops j K (upd ε oi.dst v) F) : opT x ops j (fun ε' F' => Yield x ops S oi v ε' ∧ K (upd ε' oi.dst v) F') ε F := by
  obtain ⟨h1, h2, h3⟩ := Oper.apart_spec hap
  obtain ⟨o, e, a1, a2, a3⟩ := H
  obtain rfl : oj = o := Option.some.inj (hj.symm.trans e)
  have keep : ∀ ε, Yield x ops S oi v ε → ∀ u, Yield x ops S oi v (upd ε oj.dst u) := by
    intro ε hy u
    cases hd : oj.dst with
    | none => exact hy
    | some d =>
      have hn := h3 d hd
      refine hy.imp (fun ⟨y1, y2⟩ => ⟨(wantε_upd hn).2 y1, fun e he F hS h' hE => ?_⟩) (fun ⟨y1, y2⟩ => ⟨(wantε_upd hn).2 y1, y2⟩)
      have hc : Cons ε (fun y => match y with | .tmp t => bif Nat.beq t d then (ε t).getD (e (.tmp t)) else e (.tmp t) | y => e y) := by
        intro y w hw
        cases y with
        | tmp t =>
          simp only [evε] at hw
          cases hb : Nat.beq t d with
          | true => simp [hb, hw]
          | false => simpa [hb] using he (.tmp t) w (by simpa [evε, upd, hb] using hw)
        | const c => exact he _ _ hw
        | global g => exact he _ _ hw
        | func f => exact he _ _ hw
      have := y2 _ hc F hS h' hE
      have e1 : execOp (fun y => match y with | .tmp t => bif Nat.beq t d then (ε t).getD (e (.tmp t)) else e (.tmp t) | y => e y) oi = execOp e oi :=
        execOp_congr oi hsi fun y hy' => by
          cases y with
          | tmp t =>
            have hne : t ≠ d := fun e => hn (by subst e; exact List.mem_append_left _ (List.mem_filterMap.2 ⟨.tmp t, by simpa using hy', rfl⟩))
            have : Nat.beq t d = false := by cases hb : Nat.beq t d with | false => rfl | true => exact absurd (Nat.eq_of_beq_eq_true hb) hne
            simp [this]
          | _ => rfl
      rwa [e1] at this
  refine ⟨oj, hj, a1, a2, ?_⟩
  cases hdi : oi.dst with
  | none =>
    rw [hdi] at a3
    rcases a3 with ⟨b1, b2⟩ | ⟨b1, b2⟩
    · exact .inl ⟨b1, fun e he => (b2 e he).mono fun u F k => ⟨keep ε hy u, k⟩⟩
    · exact .inr ⟨b1, keep ε hy _, b2⟩
  | some d =>
    rw [hdi] at a3
    have hn := h1 d hdi
    have comm : ∀ u, upd (upd ε (some d) v) oj.dst u = upd (upd ε oj.dst u) (some d) v := by
      intro u
      cases hdj : oj.dst with
      | none => rfl
      | some d' => exact upd_comm fun e => h2 d hdi (by rw [hdj, e])
    rcases a3 with ⟨b1, b2⟩ | ⟨b1, b2⟩
    · refine .inl ⟨(wantε_upd hn).1 b1, fun e he => ?_⟩
      have := b2 _ he.drop
      unfold Run1 at this
      rw [execOp_drop hsj hn] at this
      exact Run1.mono this fun u F k => ⟨keep ε hy u, by rw [← comm]; exact k⟩
    · exact .inr ⟨(wantε_upd hn).1 b1, keep ε hy _, by rw [← comm]; exact b2⟩

theorem Yield.opT {x : Cx} {ops : Array Oper} {S : Frag → Prop} {i : Nat} {o : Oper} {v : Value} {ε : Ev} {F : Frag} {K : Ev → Frag → Prop} (hi : ops[i]? = some o) (hd : slotOK o.dst x.n = true) (hdf : ∀ c, o.op ≠ .defer c) (hy : Yield x ops S o v ε) (hS : S F) (H : K (upd ε o.dst v) F) :
    opT x ops i K ε F := by
  refine ⟨o, hi, hd, hdf, ?_⟩
  rcases hy with ⟨a, b⟩ | ⟨a, rfl⟩
  · exact .inl ⟨a, fun e he => ⟨F, [], by simp, fun h' e1 _ => tr_mono (b e he F hS h' e1) fun nx F' ⟨e1, e2⟩ => by subst e1 e2; simpa [nextOK] using H⟩⟩
  · exact .inr ⟨a, H⟩

/-- Nobody who may come before it touches its slots. -/
def freeT (ops : Array Oper) (listed i : Nat) : Bool :=
  closedT ops listed && match ops[i]? with
  | none => false
  | some oi => (List.range ops.size).all fun j => Nat.beq j i || listed.testBit j || (match ops[j]? with | some oj => (oj.after.any fun e => bindsTo e && Nat.beq e.on i) || oi.apart ops oj | none => true)

theorem freeT_spec {ops : Array Oper} {listed i : Nat} {oi : Oper} (hi : ops[i]? = some oi) (h : freeT ops listed i = true) : ∀ j oj, ops[j]? = some oj → j ≠ i → listed.testBit j = false → (∀ e ∈ oj.after, bindsTo e = true → e.on ≠ i) → oi.apart ops oj = true := by
  intro j oj hj hji hl he
  simp only [freeT, Bool.and_eq_true, hi, List.all_eq_true, List.mem_range] at h
  replace h := h.2
  have hlt : j < ops.size := by
    rcases Nat.lt_or_ge j ops.size with h' | h'
    · exact h'
    · rw [Array.getElem?_eq_none h'] at hj; cases hj
  have := h j hlt
  have hb : Nat.beq j i = false := by cases hb : Nat.beq j i with | false => rfl | true => exact absurd (Nat.eq_of_beq_eq_true hb) hji
  simp only [hb, hl, hj, Bool.false_or, Bool.or_eq_true, Array.any_eq_true, Bool.and_eq_true] at this
  rcases this with ⟨k, hk, h1, h2⟩ | h2
  · exact absurd (Nat.eq_of_beq_eq_true h2) (he _ (Array.getElem_mem hk) h1)
  · exact h2

theorem closedT_spec {ops : Array Oper} {listed : Nat} (h : closedT ops listed = true) : Closed ops listed := by
  intro k o hk hl e he hb
  have hlt : k < ops.size := by
    rcases Nat.lt_or_ge k ops.size with h' | h'
    · exact h'
    · rw [Array.getElem?_eq_none h'] at hk; cases hk
  simp only [closedT, List.all_eq_true, List.mem_range] at h
  have := h k hlt
  simp only [hl, Bool.not_true, Bool.false_or, hk, Array.all_eq_true_iff_forall_mem] at this
  have := this e he
  simpa [hb] using this
theorem freeT_closed {ops : Array Oper} {listed i : Nat} (h : freeT ops listed i = true) : Closed ops listed := by
  simp only [freeT, Bool.and_eq_true] at h
  exact closedT_spec h.1
theorem rdy_op {ops : Array Oper} {listed j : Nat} (h : rdy ops listed j = true) : ∃ oj, ops[j]? = some oj ∧ listed.testBit j = false ∧ ∀ e ∈ oj.after, bindsTo e = true → listed.testBit e.on = true := by
  unfold rdy at h
  split at h
  · rename_i o ho
    simp only [Bool.and_eq_true, Bool.not_eq_true', Array.all_eq_true_iff_forall_mem, Bool.or_eq_true] at h
    exact ⟨o, ho, h.1, fun e he hb => (h.2 e he).resolve_left (by rw [hb]; simp)⟩
  · cases h

theorem lastT_spec {ops : Array Oper} {listed i j : Nat} (hc : Closed ops listed) (hl : lastT ops j = true) (hj : rdy ops listed j = true) (hi : rdy ops listed i = true) : i = j := by
  have hlt := rdy_lt hi
  obtain ⟨oi, hoi, hiun, _⟩ := rdy_op hi
  obtain ⟨oj, hoj, _, hja⟩ := rdy_op hj
  unfold lastT at hl
  simp only [hoj, List.all_eq_true, List.mem_range, Bool.or_eq_true] at hl
  rcases hl i hlt with (h1 | h1) | h1
  · exact Nat.eq_of_beq_eq_true h1
  · simp only [Array.any_eq_true, Bool.and_eq_true] at h1
    obtain ⟨k, hk, h2, h3⟩ := h1
    have h4 := hja _ (Array.getElem_mem hk) h2
    rw [Nat.eq_of_beq_eq_true h3, hiun] at h4
    cases h4
  · simp only [Array.any_eq_true, Bool.and_eq_true] at h1
    obtain ⟨k, hk, h2, h3⟩ := h1
    have h4 := hja _ (Array.getElem_mem hk) h2
    cases ho : ops[oj.after[k].on]? with
    | none => rw [ho] at h3; cases h3
    | some o' =>
      rw [ho] at h3
      simp only [Array.any_eq_true, Bool.and_eq_true] at h3
      obtain ⟨k', hk', h5, h6⟩ := h3
      have h7 := hc _ o' ho h4 _ (Array.getElem_mem hk') h5
      rw [Nat.eq_of_beq_eq_true h6, hiun] at h7
      cases h7
theorem Closed.step {ops : Array Oper} {listed j : Nat} (hc : Closed ops listed) (hj : rdy ops listed j = true) : Closed ops (listed ||| 2 ^ j) := by
  intro k o hk hl e he hb
  rw [testBit_or] at hl ⊢
  rw [Bool.or_eq_true] at hl ⊢
  left
  rcases hl with hl | hl
  · exact hc k o hk hl e he hb
  · have : j = k := by simpa using hl
    subst this
    obtain ⟨oj, hoj, _, hja⟩ := rdy_op hj
    rw [hk] at hoj
    cases hoj
    exact hja e he hb

/-- **An operation that may come up now may be taken first.** -/
theorem anyT_first {x : Cx} {ops : Array Oper} {S : Frag → Prop} {K : Ev → Frag → Prop} {i : Nat} {oi : Oper} {v : Value} (hi : ops[i]? = some oi) (hsel : ∀ (j : Nat) (o : Oper) cs b, ops[j]? = some o → o.op ≠ .select cs b)
    (hd : slotOK oi.dst x.n = true) (hdf : ∀ c, oi.op ≠ .defer c) :
    ∀ (fuel listed : Nat) (ε : Ev) (F : Frag), Closed ops listed →
      (∀ j oj, ops[j]? = some oj → j ≠ i → listed.testBit j = false → (∀ e ∈ oj.after, bindsTo e = true → e.on ≠ i) → oi.apart ops oj = true) →
      rdy ops listed i = true → Yield x ops S oi v ε → S F →
      anyT x ops S K fuel (listed ||| 2 ^ i) (upd ε oi.dst v) F → anyT x ops S K (fuel + 1) listed ε F := by
  intro fuel
  induction fuel with
  | zero =>
    intro listed ε F hcl _ hr hy hS H
    refine ⟨fun h => absurd (mem_rdys.2 hr) (by rw [h]; simp), fun j hj => ?_⟩
    by_cases hji : j = i
    · subst hji; exact hy.opT hi hd hdf hS ⟨.inr hS, H⟩
    · have := mem_rdys.2 (rdy_mono hj (Ne.symm hji))
      rw [H.1] at this
      cases this
  | succ fuel ih =>
    intro listed ε F hcl hfree hr hy hS H
    refine ⟨fun h => absurd (mem_rdys.2 hr) (by rw [h]; simp), fun j hj => ?_⟩
    by_cases hji : j = i
    · subst hji; exact hy.opT hi hd hdf hS ⟨.inr hS, H⟩
    · have h1 := H.2 j (rdy_mono hj (Ne.symm hji))
      obtain ⟨oj, hoj, hjun, hall⟩ := rdy_op hj
      obtain ⟨oi', hoi', hiun, _⟩ := rdy_op hr
      have hnot : ∀ e ∈ oj.after, bindsTo e = true → e.on ≠ i := fun e he hb heq => by
        have h1 := hall e he hb
        rw [heq, hiun] at h1
        cases h1
      have h2 := opT_put hoj (hfree j oj hoj hji hjun hnot) (fun cs b => hsel i oi cs b hi) (fun cs b => hsel j oj cs b hoj) hy h1
      have hfree' : ∀ k ok, ops[k]? = some ok → k ≠ i → (listed ||| 2 ^ j).testBit k = false → (∀ e ∈ ok.after, bindsTo e = true → e.on ≠ i) → oi.apart ops ok = true := fun k ok hk hki hun hno => by
        rw [testBit_or, Bool.or_eq_false_iff] at hun
        exact hfree k ok hk hki hun.1 hno
      refine opT_mono h2 fun ε' F' ⟨h3, h4, h5⟩ => ?_
      have hS' : S F' := h4.resolve_left fun hl => hji (lastT_spec hcl hl hj hr).symm
      refine ⟨.inr hS', ih _ _ _ (hcl.step hj) hfree' (rdy_mono hr hji) h3 hS' ?_⟩
      have e : listed ||| 2 ^ j ||| 2 ^ i = listed ||| 2 ^ i ||| 2 ^ j := by rw [Nat.or_assoc, Nat.or_comm (2 ^ j), ← Nat.or_assoc]
      rw [e]
      exact h5

/-! ### From the orders to the machine -/

def noSel (ops : Array Oper) : Bool := ops.all fun o => match o.op with | .select .. => false | _ => true

theorem noSel_spec {ops : Array Oper} (h : noSel ops = true) : ∀ (j : Nat) (o : Oper) cs b, ops[j]? = some o → o.op ≠ .select cs b := by
  intro j o cs b ho he
  have := Array.all_eq_true_iff_forall_mem.1 h o (Array.mem_of_getElem? ho)
  simp [he] at this

/-- The bits of an array of marks. -/
def bitsOf (l : Array Bool) (n : Nat) : Prop := ∀ i, n.testBit i = l.getD i false

theorem rdys_eq {ops : Array Oper} {l : Array Bool} {n : Nat} (hl : l.size = ops.size) (h : bitsOf l n) : Region.ready .any ops l = rdys ops n := by
  unfold Region.ready rdys
  apply List.filter_congr
  intro i hi
  have hlt : i < ops.size := List.mem_range.1 hi
  have e1 : l.getD i true = n.testBit i := by rw [h i]; simp [Array.getD, hl, hlt]
  unfold rdy
  rw [Array.getElem?_eq_getElem hlt]
  simp only [Option.map_some, Option.getD_some, e1]
  congr 1
  congr 1
  funext e
  simp only [bindsTo, h e.on]

theorem anyT_sound {x : Cx} {ops : Array Oper} {S : Frag → Prop} {K : Ev → Frag → Prop} {Q : Post} {ds : List Deferred}
    (hK : ∀ (ε : Ev) F, K ε F → ∃ ρ F', (∀ t v, look ρ t = some v → ε t = some v) ∧ Sb F' F ∧ Q .normal ρ ds F') :
    ∀ (fuel t n : Nat) (l : Array Bool) (ρ : Env) (F : Frag), l.size = ops.size → bitsOf l n → anyT x ops S K fuel n (look ρ) F → Ops x ops (Region.linearise.go .any ops fuel t l []) Q ρ ds F := by
  have fin : ∀ (ρ : Env) (F : Frag), K (look ρ) F → Ops x ops [] Q ρ ds F := fun ρ F k => by
    obtain ⟨ρ', F', h1, hp, h2⟩ := hK _ _ k
    intro b k cs Stop tmps hk M a1 a0 a2 a3 a4 a5 hc
    exact .idle rfl (fun _ => st_region_end) (hc .normal ρ' ds F' tmps hk M h2 (fun t v h => a3 t v (h1 t v h)) a4 (a5.sb hp) (.sub (fun _ y => hp.mem _ y) .refl))
  intro fuel
  induction fuel with
  | zero => intro t n l ρ F hl hb H; simpa [Region.linearise.go] using fin ρ F H.2
  | succ fuel ih =>
    intro t n l ρ F hl hb H
    simp only [Region.linearise.go]
    change Ops x ops (match (Region.ready .any ops l)[t % (Region.ready .any ops l).length]? with
      | some i => Region.linearise.go .any ops fuel (t / (Region.ready .any ops l).length) (l.setIfInBounds i true) [i]
      | none => [].reverse) Q ρ ds F
    rw [rdys_eq hl hb]
    cases hi : (rdys ops n)[t % (rdys ops n).length]? with
    | none =>
      have hnil : rdys ops n = [] := by
        cases hr : rdys ops n with
        | nil => rfl
        | cons y ys =>
          rw [hr] at hi
          have hlt : t % (y :: ys).length < (y :: ys).length := Nat.mod_lt _ (by simp)
          simp at hi
          simp at hlt
          omega
      exact fin ρ F (H.1 hnil)
    | some i =>
      simp only []
      rw [linearise_go_acc, List.reverse_singleton, List.singleton_append]
      have hr := mem_rdys.1 (List.mem_of_getElem? hi)
      have hlt := rdy_lt hr
      obtain ⟨o, h1, h2, h3, h4⟩ := H.2 i hr
      have hb' : bitsOf (l.setIfInBounds i true) (n ||| 2 ^ i) := by
        intro j
        rw [testBit_or, hb j]
        by_cases hij : i = j
        · subst hij; simp [Array.getD, hl, hlt]
        · simp [Array.getD_eq_getD_getElem?, Array.getElem?_setIfInBounds_ne hij, hij]
      have go : ∀ v F', anyT x ops S K fuel (n ||| 2 ^ i) (upd (look ρ) o.dst v) F' → Ops x ops (Region.linearise.go .any ops fuel (t / (rdys ops n).length) (l.setIfInBounds i true) []) Q (put ρ o.dst v) ds F' := fun v F' h => by
        rw [upd_look] at h
        exact ih _ _ _ _ _ (by simpa using hl) hb' h
      rcases h4 with ⟨h4, h5⟩ | ⟨h4, h5⟩
      · refine Ops.op h1 ?_ h2 h3 fun e he => (h5 e fun y v hy => he y v (by rwa [ev_look] at hy)).mono fun v F' h => go v F' h.2
        unfold want
        unfold wantε at h4
        split at h4
        · rename_i hg; simp [hg]
        · rename_i j g hg
          obtain ⟨d, v, b1, b2, b3⟩ := h4
          try simp only [hg]
          exact ⟨d, b1, by rw [b2]; simpa using b3⟩
      · unfold wantε at h4
        split at h4
        · cases h4
        · rename_i j g hg
          obtain ⟨d, v, b1, b2, b3⟩ := h4
          exact Ops.unwanted h1 hg b1 b2 b3 h2 (go _ _ h5.2)

/-- What is owned, in another order. -/
theorem Run1.perm {x : Cx} {o : Oper} {e : Operand → Value} {F F' : Frag} {R : Value → Frag → Prop} (p : F'.Perm F) (H : Run1 x o e F' R) : Run1 x o e F R := by
  obtain ⟨A, B, h1, h2⟩ := H
  exact ⟨A, B, h1.trans p, h2⟩

theorem anyT_perm {x : Cx} {ops : Array Oper} {S : Frag → Prop} {K : Ev → Frag → Prop} (hS : ∀ F F', F'.Perm F → S F' → S F) (hK : ∀ ε F F', F'.Perm F → K ε F' → K ε F) : ∀ (fuel n : Nat) (ε : Ev) (F F' : Frag), F'.Perm F → anyT x ops S K fuel n ε F' → anyT x ops S K fuel n ε F := by
  intro fuel
  induction fuel with
  | zero => exact fun n ε F F' p H => ⟨H.1, hK _ _ _ p H.2⟩
  | succ fuel ih =>
    intro n ε F F' p H
    refine ⟨fun h => hK _ _ _ p (H.1 h), fun i hi => ?_⟩
    obtain ⟨o, h1, h2, h3, h4⟩ := H.2 i hi
    exact ⟨o, h1, h2, h3, h4.imp (fun ⟨a, b⟩ => ⟨a, fun e he => (b e he).perm p⟩) (fun ⟨a, b, c⟩ => ⟨a, b.imp id (hS _ _ p), ih _ _ _ _ p c⟩)⟩

/-- What is kept of what is owned while a region runs. -/
def Keeps (L : Frag) (F : Frag) : Prop := ∀ p ∈ L, p ∈ F

/-- What is asked once all have come up. -/
def fin (Q : Post) (ds : List Deferred) (ε : Ev) (F : Frag) : Prop := ∃ ρ F', (∀ t v, look ρ t = some v → ε t = some v) ∧ Sb F' F ∧ Q .normal ρ ds F'

/-- ████ The judgement on a region whose order is open: what is still to come, whatever the order. -/
def Any (x : Cx) (ops : Array Oper) (L : Frag) (fuel listed : Nat) (Q : Post) (ρ : Env) (ds : List Deferred) (F : Frag) : Prop :=
  anyT x ops (Keeps L) (fin Q ds) fuel listed (look ρ) F

section rules
variable {x : Cx} {Q : Post} {ρ : Env} {ds : List Deferred} {F : Frag} {ops : Array Oper} {L : Frag} {fuel listed : Nat}

theorem st_region_draw {P : Program} {main : Bool} {b : Frame} {t : Array Value} {k : List Item} {cs : List Frame} {w : World} {id : Nat} (hm : P.follows .mixedOrders = true) :
    stepG P main (G (fat b t ds (.code (.region id ops true) :: k)) cs) w = .go (G (fat b t ds (.inRegion ops (Region.linearise.go .any ops ops.size (w.tape w.drawn (.order b.fn id)) (Array.replicate ops.size false) []) :: k)) cs) { w with drawn := w.drawn + 1 } #[] := by
  simp [Conc.G, stepG, stepG.exec, fat, choose, Sem.run, Question.forced, Question.cut, Region.schedule, hm, Region.linearise]

theorem W.draw {id : Nat} (hm : x.P.follows .mixedOrders = true) (L : Frag) (H : Any x ops L ops.size 0 Q ρ ds F) : W x (.region id ops true) Q ρ ds F := by
  intro b k cs Stop tmps hk M h1 h0 h2 h3 h4 h5 hc
  refine .of_stp ⟨rfl, fun w hw hM => ⟨_, _, _, st_region_draw hm, Guar.heap rfl rfl rfl rfl, ?_⟩⟩
  have e1 : snap hk w { w with drawn := w.drawn + 1 } = hk := snap_self hw
  have e2 : grown M w { w with drawn := w.drawn + 1 } = M := grown_self
  rw [e1, e2]
  exact anyT_sound (fun _ _ h => h) ops.size _ 0 _ ρ F (by simp) (fun i => by simp [Array.getD]) H b k cs Stop tmps hk M h1 h0 h2 h3 h4 h5 hc

theorem Keeps.perm {L F F' : Frag} (p : F'.Perm F) (h : Keeps L F') : Keeps L F := fun q hq => p.subset (h q hq)

theorem Any.perm {F' : Frag} (p : F'.Perm F) (H : Any x ops L fuel listed Q ρ ds F') : Any x ops L fuel listed Q ρ ds F :=
  anyT_perm (fun _ _ p => Keeps.perm p) (fun _ _ _ p ⟨ρ, F', h1, h2, h3⟩ => ⟨ρ, F', h1, h2.trans (.of_perm p), h3⟩) _ _ _ _ _ p H

/-- Something shut is put by. -/
theorem anyT_more {x : Cx} {ops : Array Oper} {S : Frag → Prop} {K : Ev → Frag → Prop} (hS : ∀ F F', Sb F' F → S F' → S F) (hK : ∀ ε F F', Sb F' F → K ε F' → K ε F) : ∀ (fuel n : Nat) (ε : Ev) (F F' : Frag), Sb F' F → anyT x ops S K fuel n ε F' → anyT x ops S K fuel n ε F := by
  intro fuel
  induction fuel with
  | zero => exact fun n ε F F' p H => ⟨H.1, hK _ _ _ p H.2⟩
  | succ fuel ih =>
    intro n ε F F' p H
    refine ⟨fun h => hK _ _ _ p (H.1 h), fun i hi => ?_⟩
    obtain ⟨o, h1, h2, h3, h4⟩ := H.2 i hi
    refine ⟨o, h1, h2, h3, h4.imp (fun ⟨a, b⟩ => ⟨a, fun e he => ?_⟩) (fun ⟨a, b, c⟩ => ⟨a, b.imp id (hS _ _ p), ih _ _ _ _ p c⟩)⟩
    obtain ⟨A, B, q1, q2⟩ := b e he
    obtain ⟨C, p1, p2⟩ := p
    refine ⟨A, B ++ C, ?_, fun h' e1 e2 => tr_mono (q2 h' e1 fun b o hb => e2 b o (List.mem_append_left _ hb)) fun _ _ y => y.mono fun v A' r => ?_⟩
    · rw [← List.append_assoc]; exact (q1.append_right C).trans p1
    · have hsb : Sb (A' ++ B) (A' ++ (B ++ C)) := by rw [← List.append_assoc]; exact ⟨C, .refl _, p2⟩
      exact ⟨r.1.imp id (hS _ _ hsb), ih _ _ _ _ hsb r.2⟩
theorem Any.sb {F' : Frag} (p : Sb F' F) (H : Any x ops L fuel listed Q ρ ds F') : Any x ops L fuel listed Q ρ ds F :=
  anyT_more (fun _ _ p h q hq => p.mem _ (h q hq)) (fun _ _ _ p ⟨ρ, F', h1, h2, h3⟩ => ⟨ρ, F', h1, h2.trans p, h3⟩) _ _ _ _ _ p H


/-- All have come up. -/
theorem Any.done (hr : rdys ops listed = []) (H : Q .normal ρ ds F) : Any x ops L fuel listed Q ρ ds F := by
  have k : fin Q ds (look ρ) F := ⟨ρ, F, fun _ _ h => h, .refl, H⟩
  cases fuel with
  | zero => exact ⟨hr, k⟩
  | succ n => exact ⟨fun _ => k, fun i hi => absurd (mem_rdys.2 hi) (by rw [hr]; simp)⟩

/-- Number i is taken first. -/
theorem Any.take {i : Nat} {o : Oper} {v : Value} (hi : ops[i]? = some o) (hs : noSel ops = true) (hf : freeT ops listed i = true) (hr : rdy ops listed i = true) (hd : slotOK o.dst x.n = true) (hdf : ∀ c, o.op ≠ .defer c) (hS : Keeps L F)
    (hy : Yield x ops (Keeps L) o v (look ρ)) (H : Any x ops L fuel (listed ||| 2 ^ i) Q (put ρ o.dst v) ds F) : Any x ops L (fuel + 1) listed Q ρ ds F := by
  unfold Any at H ⊢
  rw [← upd_look] at H
  exact anyT_first hi (noSel_spec hs) hd hdf fuel listed _ F (freeT_closed hf) (freeT_spec hi hf) hr hy hS H

/-- One alone may come up, and is carried out. -/
theorem Any.one {i : Nat} {o : Oper} (hr : rdys ops listed = [i]) (hi : ops[i]? = some o) (hw : wantε ops (look ρ) o true) (hd : slotOK o.dst x.n = true) (hdf : ∀ c, o.op ≠ .defer c)
    (H : ∀ e : Operand → Value, (∀ y v, ev ρ y = some v → e y = v) → Run1 x o e F fun v F' => (lastT ops i = true ∨ Keeps L F') ∧ Any x ops L fuel (listed ||| 2 ^ i) Q (put ρ o.dst v) ds F') : Any x ops L (fuel + 1) listed Q ρ ds F := by
  refine ⟨(fun h => by rw [h] at hr; cases hr), fun j hj => ?_⟩
  have := mem_rdys.2 hj
  rw [hr] at this
  obtain rfl : j = i := by simpa using this
  refine ⟨o, hi, hd, hdf, .inl ⟨hw, fun e he => ?_⟩⟩
  refine (H e fun y v hy => he y v (by rwa [ev_look])).mono fun v F' h => ⟨h.1, ?_⟩
  rw [upd_look]
  exact h.2

/-- Two may come up. -/
theorem Any.two {i j : Nat} (hr : rdys ops listed = [i, j]) (Hi : opT x ops i (fun ε' F' => (lastT ops i = true ∨ Keeps L F') ∧ anyT x ops (Keeps L) (fin Q ds) fuel (listed ||| 2 ^ i) ε' F') (look ρ) F)
    (Hj : opT x ops j (fun ε' F' => (lastT ops j = true ∨ Keeps L F') ∧ anyT x ops (Keeps L) (fin Q ds) fuel (listed ||| 2 ^ j) ε' F') (look ρ) F) : Any x ops L (fuel + 1) listed Q ρ ds F := by
  refine ⟨(fun h => by rw [h] at hr; cases hr), fun k hk => ?_⟩
  have := mem_rdys.2 hk
  rw [hr] at this
  rcases (by simpa using this : k = i ∨ k = j) with rfl | rfl
  · exact Hi
  · exact Hj

/-- .. each of them carried out. -/
theorem opT.op {i : Nat} {o : Oper} (hi : ops[i]? = some o) (hw : wantε ops (look ρ) o true) (hd : slotOK o.dst x.n = true) (hdf : ∀ c, o.op ≠ .defer c)
    (H : ∀ e : Operand → Value, (∀ y v, ev ρ y = some v → e y = v) → Run1 x o e F fun v F' => (lastT ops i = true ∨ Keeps L F') ∧ Any x ops L fuel (listed ||| 2 ^ i) Q (put ρ o.dst v) ds F') :
    opT x ops i (fun ε' F' => (lastT ops i = true ∨ Keeps L F') ∧ anyT x ops (Keeps L) (fin Q ds) fuel (listed ||| 2 ^ i) ε' F') (look ρ) F := by
  refine ⟨o, hi, hd, hdf, .inl ⟨hw, fun e he => ?_⟩⟩
  refine (H e fun y v hy => he y v (by rwa [ev_look])).mono fun v F' h => ⟨h.1, ?_⟩
  rw [upd_look]
  exact h.2
end rules

end Go.Mus
