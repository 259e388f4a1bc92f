/- Regions whose order is open: each order that the edges allow. Conditions: none; over any program. (And 5 texts more.) -/
import Derived.Test.YtnffnndmilpnoaaGreatDoorR01
import Derived.Orders
import Derived.IntWalk
import Derived.KernelRfl
set_option linter.unusedVariables false
set_option linter.unusedSimpArgs false
set_option linter.unusedSectionVars false

/- Regions whose order is open: each order that the edges allow. Conditions: none; over any program. -/
namespace Go.Mus
/-- What is known of the temporaries, as a function. -/
abbrev Ev := Nat → Option Value
def upd (ε : Ev) (d : Option Tmp) (v : Value) : Ev := match d with | some d => fun s => bif Nat.beq s d then some v else ε s | none => ε
def evε (ε : Ev) : Operand → Option Value
 | .tmp t => ε t
 | .const v => some v
 | .global g => some (.pointer (some ⟨g, 0, none⟩))
 | .func f => some (.func (.func f) #[] #[])
/-- A reading of the operands that fits what is known. -/
def Cons (ε : Ev) (e : Operand → Value) : Prop := ∀ y v, evε ε y = some v → e y = v
def wantε (ops : Array Oper) (ε : Ev) (o : Oper) (w : Bool) : Prop :=
 match o.guard with
 | none => w = true
 | some (j, g) => ∃ d v, (ops[j]?).bind (·.dst) = some d ∧ ε d = some (.bool v) ∧ (v == g) = w

theorem upd_look (ρ : Env) (d : Option Tmp) (v : Value) : upd (look ρ) d v = look (put ρ d v) := by
 cases d with
 | none => rfl
 | some d => rfl
theorem ev_look (ρ : Env) : evε (look ρ) = ev ρ := by funext x; cases x <;> rfl

/-- One operation, carried out or passed over; what follows. -/
def opT (x : Cx) (ops : Array Oper) (i : Nat) (K : Ev → Frag → Prop) (ε : Ev) (F : Frag) : Prop :=
 ∃ o, ops[i]? = some o ∧ slotOK o.dst x.n = true ∧ (∀ c, o.op ≠ .defer c) ∧
  ((wantε ops ε o true ∧ ∀ e, Cons ε e → Run1 x o e F fun v F' => K (upd ε o.dst v) F') ∨
   (wantε ops ε o false ∧ K (upd ε o.dst undef) F))

theorem opT_mono {x : Cx} {ops : Array Oper} {i : Nat} {K K' : Ev → Frag → Prop} {ε : Ev} {F : Frag} (H : opT x ops i K ε F) (hk : ∀ ε F, K ε F → K' ε F) : opT x ops i K' ε F := by
 obtain ⟨o, h1, h2, h3, h4⟩ := H
 exact ⟨o, h1, h2, h3, h4.imp (fun ⟨a, b⟩ => ⟨a, fun e he => (b e he).mono fun v F => hk _ _⟩) (fun ⟨a, b⟩ => ⟨a, hk _ _ b⟩)⟩

/-- The operations that may come up. 'listed': as a number's bits. -/
def bindsTo (e : Edge) : Bool := Region.binds .any e
def rdy (ops : Array Oper) (listed : Nat) (i : Nat) : Bool := match ops[i]? with | some o => !listed.testBit i && o.after.all fun e => !bindsTo e || listed.testBit e.on | none => false
def rdys (ops : Array Oper) (listed : Nat) : List Nat := (List.range ops.size).filter fun i => rdy ops listed i

/-- An operation that waits for all others. -/
def lastT (ops : Array Oper) (i : Nat) : Bool := match ops[i]? with
 | some o => (List.range ops.size).all fun j => Nat.beq j i || (o.after.any fun e => bindsTo e && Nat.beq e.on j) || (o.after.any fun e => bindsTo e && (match ops[e.on]? with | some o' => o'.after.any fun e' => bindsTo e' && Nat.beq e'.on j | none => false))
 | none => false
/-- What has come up, has come up behind what it waits for. -/
def closedT (ops : Array Oper) (listed : Nat) : Bool := (List.range ops.size).all fun k => !listed.testBit k || (match ops[k]? with | some o => o.after.all fun e => !bindsTo e || listed.testBit e.on | none => true)
def Closed (ops : Array Oper) (listed : Nat) : Prop := ∀ k o, ops[k]? = some o → listed.testBit k = true → ∀ e ∈ o.after, bindsTo e = true → listed.testBit e.on = true

/-- Whichever order is picked. -/
def anyT (x : Cx) (ops : Array Oper) (S : Frag → Prop) (K : Ev → Frag → Prop) : Nat → Nat → Ev → Frag → Prop
 | 0, listed, ε, F => rdys ops listed = [] ∧ K ε F
 | n + 1, listed, ε, F => (rdys ops listed = [] → K ε F) ∧ ∀ i, rdy ops listed i = true → opT x ops i (fun ε' F' => (lastT ops i = true ∨ S F') ∧ anyT x ops S K n (listed ||| 2 ^ i) ε' F') ε F

theorem testBit_or {n i j : Nat} : (n ||| 2 ^ i).testBit j = (n.testBit j || decide (i = j)) := by
 rw [Nat.testBit_or, Nat.testBit_two_pow]

theorem rdy_lt {ops : Array Oper} {listed i : Nat} (h : rdy ops listed i = true) : i < ops.size := by
 unfold rdy at h
 split at h
 ·rename_i o ho
  rcases Nat.lt_or_ge i ops.size with h' | h'
  ·exact h'
  ·rw [Array.getElem?_eq_none h'] at ho; cases ho
 ·cases h

theorem mem_rdys {ops : Array Oper} {listed i : Nat} : i ∈ rdys ops listed ↔ rdy ops listed i = true := by
 simp only [rdys, List.mem_filter, List.mem_range]
 exact ⟨fun h => h.2, fun h => ⟨rdy_lt h, h⟩⟩

theorem rdy_mono {ops : Array Oper} {listed i j : Nat} (h : rdy ops listed i = true) (hij : j ≠ i) : rdy ops (listed ||| 2 ^ j) i = true := by
 unfold rdy at h ⊢
 split at h
 ·rename_i o ho
  simp only [Bool.and_eq_true, Bool.not_eq_true', Array.all_eq_true_iff_forall_mem, Bool.or_eq_true] at h ⊢
  simp only [ho, testBit_or, Bool.and_eq_true, Bool.not_eq_true', Bool.or_eq_false_iff, decide_eq_false_iff_not, Array.all_eq_true_iff_forall_mem, Bool.or_eq_true]
  exact ⟨⟨h.1, hij⟩, fun e he => (h.2 e he).imp id .inl⟩
 ·cases h

/-- 'o' bears a value, whatever is owned beside what 'S' says. -/
def Yield (x : Cx) (ops : Array Oper) (S : Frag → Prop) (o : Oper) (v : Value) (ε : Ev) : Prop :=
 (wantε ops ε o true ∧ ∀ e, Cons ε e → ∀ F, S F → ∀ h', Ext x.h h' → tr x.P h' (execOp e o) F fun nx F' => nx = .value v ∧ F' = F) ∨ (wantε ops ε o false ∧ v = undef)

theorem Cons.drop {ε : Ev} {d : Nat} {v : Value} {e : Operand → Value} (h : Cons ε e) : Cons (upd ε (some d) v) (fun y => match y with | .tmp t => bif Nat.beq t d then v else e (.tmp t) | y => e y) := by
 intro y u hy
 cases y with
 | tmp t =>
  simp only [evε, upd] at hy
  cases hb : Nat.beq t d with
  | true => rw [hb] at hy; simp only [cond_true, Option.some.injEq] at hy; simpa [hb] using hy
  | false => rw [hb] at hy; simp only [cond_false] at hy; simpa [hb] using h (.tmp t) u hy
 | const c => exact h _ _ hy
 | global g => exact h _ _ hy
 | func f => exact h _ _ hy

theorem wantε_upd {ops : Array Oper} {ε : Ev} {o : Oper} {w : Bool} {d : Nat} {v : Value} (h : d ∉ o.looksAt ops) : wantε ops (upd ε (some d) v) o w ↔ wantε ops ε o w := by
 unfold wantε
 cases hg : o.guard with
 | none => rfl
 | some jg =>
  obtain ⟨j, g⟩ := jg
  constructor
  ·rintro ⟨t, u, h1, h2, h3⟩
   refine ⟨t, u, h1, ?_, h3⟩
   have hne : t ≠ d := fun e => h (by subst e; simp [Oper.looksAt, hg, h1])
   have : Nat.beq t d = false := by cases hb : Nat.beq t d with | false => rfl | true => exact absurd (Nat.eq_of_beq_eq_true hb) hne
   simpa [upd, this] using h2
  ·rintro ⟨t, u, h1, h2, h3⟩
   refine ⟨t, u, h1, ?_, h3⟩
   have hne : t ≠ d := fun e => h (by subst e; simp [Oper.looksAt, hg, h1])
   have : Nat.beq t d = false := by cases hb : Nat.beq t d with | false => rfl | true => exact absurd (Nat.eq_of_beq_eq_true hb) hne
   simpa [upd, this] using h2

theorem execOp_drop {o : Oper} {ops : Array Oper} (hs : ∀ cs b, o.op ≠ .select cs b) {d : Nat} {v : Value} {e : Operand → Value} (h : d ∉ o.looksAt ops) :
  execOp (fun y => match y with | .tmp t => bif Nat.beq t d then v else e (.tmp t) | y => e y) o = execOp e o :=
 execOp_congr o hs fun y hy => by
  cases y with
  | tmp t =>
   have hne : t ≠ d := fun e => h (by subst e; exact List.mem_append_left _ (List.mem_filterMap.2 ⟨.tmp t, by simpa using hy, rfl⟩))
   have : Nat.beq t d = false := by cases hb : Nat.beq t d with | false => rfl | true => exact absurd (Nat.eq_of_beq_eq_true hb) hne
   simp [this]
  | _ => rfl

theorem upd_comm {ε : Ev} {d d' : Nat} {v u : Value} (h : d ≠ d') : upd (upd ε (some d) v) (some d') u = upd (upd ε (some d') u) (some d) v := by
 funext t
 simp only [upd]
 cases h1 : Nat.beq t d <;> cases h2 : Nat.beq t d' <;> try rfl
 exact absurd ((Nat.eq_of_beq_eq_true h1).symm.trans (Nat.eq_of_beq_eq_true h2)) h

/-- One operation 'oj', apart from 'oi': whether 'oi''s value is already known makes no difference to it. -/
theorem opT_put {x : Cx} {ops : Array Oper} {S : Frag → Prop} {j : Nat} {oi oj : Oper} {v : Value} (hj : ops[j]? = some oj) (hap : oi.apart ops oj = true) (hsi : ∀ cs b, oi.op ≠ .select cs b) (hsj : ∀ cs b, oj.op ≠ .select cs b)
  {K : Ev → Frag → Prop} {ε : Ev} {F : Frag} (hy : Yield x ops S oi v ε) (H : opT x ops j K (upd ε oi.dst v) F) : opT x ops j (fun ε' F' => Yield x ops S oi v ε' ∧ K (upd ε' oi.dst v) F') ε F := by
 obtain ⟨h1, h2, h3⟩ := Oper.apart_spec hap
 obtain ⟨o, e, a1, a2, a3⟩ := H
 obtain rfl : oj = o := Option.some.inj (hj.symm.trans e)
 have keep : ∀ ε, Yield x ops S oi v ε → ∀ u, Yield x ops S oi v (upd ε oj.dst u) := by
  intro ε hy u
  cases hd : oj.dst with
  | none => exact hy
  | some d =>
   have hn := h3 d hd
   refine hy.imp (fun ⟨y1, y2⟩ => ⟨(wantε_upd hn).2 y1, fun e he F hS h' hE => ?_⟩) (fun ⟨y1, y2⟩ => ⟨(wantε_upd hn).2 y1, y2⟩)
   have hc : Cons ε (fun y => match y with | .tmp t => bif Nat.beq t d then (ε t).getD (e (.tmp t)) else e (.tmp t) | y => e y) := by
    intro y w hw
    cases y with
    | tmp t =>
     simp only [evε] at hw
     cases hb : Nat.beq t d with
     | true => simp [hb, hw]
     | false => simpa [hb] using he (.tmp t) w (by simpa [evε, upd, hb] using hw)
    | const c => exact he _ _ hw
    | global g => exact he _ _ hw
    | func f => exact he _ _ hw
   have := y2 _ hc F hS h' hE
   have e1 : execOp (fun y => match y with | .tmp t => bif Nat.beq t d then (ε t).getD (e (.tmp t)) else e (.tmp t) | y => e y) oi = execOp e oi :=
    execOp_congr oi hsi fun y hy' => by
     cases y with
     | tmp t =>
      have hne : t ≠ d := fun e => hn (by subst e; exact List.mem_append_left _ (List.mem_filterMap.2 ⟨.tmp t, by simpa using hy', rfl⟩))
      have : Nat.beq t d = false := by cases hb : Nat.beq t d with | false => rfl | true => exact absurd (Nat.eq_of_beq_eq_true hb) hne
      simp [this]
     | _ => rfl
   rwa [e1] at this
 refine ⟨oj, hj, a1, a2, ?_⟩
 cases hdi : oi.dst with
 | none =>
  rw [hdi] at a3
  rcases a3 with ⟨b1, b2⟩ | ⟨b1, b2⟩
  ·exact .inl ⟨b1, fun e he => (b2 e he).mono fun u F k => ⟨keep ε hy u, k⟩⟩
  ·exact .inr ⟨b1, keep ε hy _, b2⟩
 | some d =>
  rw [hdi] at a3
  have hn := h1 d hdi
  have comm : ∀ u, upd (upd ε (some d) v) oj.dst u = upd (upd ε oj.dst u) (some d) v := by
   intro u
   cases hdj : oj.dst with
   | none => rfl
   | some d' => exact upd_comm fun e => h2 d hdi (by rw [hdj, e])
  rcases a3 with ⟨b1, b2⟩ | ⟨b1, b2⟩
  ·refine .inl ⟨(wantε_upd hn).1 b1, fun e he => ?_⟩
   have := b2 _ he.drop
   unfold Run1 at this
   rw [execOp_drop hsj hn] at this
   exact Run1.mono this fun u F k => ⟨keep ε hy u, by rw [← comm]; exact k⟩
  ·exact .inr ⟨(wantε_upd hn).1 b1, keep ε hy _, by rw [← comm]; exact b2⟩

theorem Yield.opT {x : Cx} {ops : Array Oper} {S : Frag → Prop} {i : Nat} {o : Oper} {v : Value} {ε : Ev} {F : Frag} {K : Ev → Frag → Prop} (hi : ops[i]? = some o) (hd : slotOK o.dst x.n = true) (hdf : ∀ c, o.op ≠ .defer c) (hy : Yield x ops S o v ε) (hS : S F) (H : K (upd ε o.dst v) F) :
  opT x ops i K ε F := by
 refine ⟨o, hi, hd, hdf, ?_⟩
 rcases hy with ⟨a, b⟩ | ⟨a, rfl⟩
 ·exact .inl ⟨a, fun e he => ⟨F, [], by simp, fun h' e1 _ => tr_mono (b e he F hS h' e1) fun nx F' ⟨e1, e2⟩ => by subst e1 e2; simpa [nextOK] using H⟩⟩
 ·exact .inr ⟨a, H⟩

/-- Nobody who may come before it touches its slots. -/
def freeT (ops : Array Oper) (listed i : Nat) : Bool :=
 closedT ops listed && match ops[i]? with
 | none => false
 | some oi => (List.range ops.size).all fun j => Nat.beq j i || listed.testBit j || (match ops[j]? with | some oj => (oj.after.any fun e => bindsTo e && Nat.beq e.on i) || oi.apart ops oj | none => true)

theorem freeT_spec {ops : Array Oper} {listed i : Nat} {oi : Oper} (hi : ops[i]? = some oi) (h : freeT ops listed i = true) : ∀ j oj, ops[j]? = some oj → j ≠ i → listed.testBit j = false → (∀ e ∈ oj.after, bindsTo e = true → e.on ≠ i) → oi.apart ops oj = true := by
 intro j oj hj hji hl he
 simp only [freeT, Bool.and_eq_true, hi, List.all_eq_true, List.mem_range] at h
 replace h := h.2
 have hlt : j < ops.size := by
  rcases Nat.lt_or_ge j ops.size with h' | h'
  ·exact h'
  ·rw [Array.getElem?_eq_none h'] at hj; cases hj
 have := h j hlt
 have hb : Nat.beq j i = false := by cases hb : Nat.beq j i with | false => rfl | true => exact absurd (Nat.eq_of_beq_eq_true hb) hji
 simp only [hb, hl, hj, Bool.false_or, Bool.or_eq_true, Array.any_eq_true, Bool.and_eq_true] at this
 rcases this with ⟨k, hk, h1, h2⟩ | h2
 ·exact absurd (Nat.eq_of_beq_eq_true h2) (he _ (Array.getElem_mem hk) h1)
 ·exact h2

theorem closedT_spec {ops : Array Oper} {listed : Nat} (h : closedT ops listed = true) : Closed ops listed := by
 intro k o hk hl e he hb
 have hlt : k < ops.size := by
  rcases Nat.lt_or_ge k ops.size with h' | h'
  ·exact h'
  ·rw [Array.getElem?_eq_none h'] at hk; cases hk
 simp only [closedT, List.all_eq_true, List.mem_range] at h
 have := h k hlt
 simp only [hl, Bool.not_true, Bool.false_or, hk, Array.all_eq_true_iff_forall_mem] at this
 have := this e he
 simpa [hb] using this
theorem freeT_closed {ops : Array Oper} {listed i : Nat} (h : freeT ops listed i = true) : Closed ops listed := by
 simp only [freeT, Bool.and_eq_true] at h
 exact closedT_spec h.1
theorem rdy_op {ops : Array Oper} {listed j : Nat} (h : rdy ops listed j = true) : ∃ oj, ops[j]? = some oj ∧ listed.testBit j = false ∧ ∀ e ∈ oj.after, bindsTo e = true → listed.testBit e.on = true := by
 unfold rdy at h
 split at h
 ·rename_i o ho
  simp only [Bool.and_eq_true, Bool.not_eq_true', Array.all_eq_true_iff_forall_mem, Bool.or_eq_true] at h
  exact ⟨o, ho, h.1, fun e he hb => (h.2 e he).resolve_left (by rw [hb]; simp)⟩
 ·cases h

theorem lastT_spec {ops : Array Oper} {listed i j : Nat} (hc : Closed ops listed) (hl : lastT ops j = true) (hj : rdy ops listed j = true) (hi : rdy ops listed i = true) : i = j := by
 have hlt := rdy_lt hi
 obtain ⟨oi, hoi, hiun, _⟩ := rdy_op hi
 obtain ⟨oj, hoj, _, hja⟩ := rdy_op hj
 unfold lastT at hl
 simp only [hoj, List.all_eq_true, List.mem_range, Bool.or_eq_true] at hl
 rcases hl i hlt with (h1 | h1) | h1
 ·exact Nat.eq_of_beq_eq_true h1
 ·simp only [Array.any_eq_true, Bool.and_eq_true] at h1
  obtain ⟨k, hk, h2, h3⟩ := h1
  have h4 := hja _ (Array.getElem_mem hk) h2
  rw [Nat.eq_of_beq_eq_true h3, hiun] at h4
  cases h4
 ·simp only [Array.any_eq_true, Bool.and_eq_true] at h1
  obtain ⟨k, hk, h2, h3⟩ := h1
  have h4 := hja _ (Array.getElem_mem hk) h2
  cases ho : ops[oj.after[k].on]? with
  | none => rw [ho] at h3; cases h3
  | some o' =>
   rw [ho] at h3
   simp only [Array.any_eq_true, Bool.and_eq_true] at h3
   obtain ⟨k', hk', h5, h6⟩ := h3
   have h7 := hc _ o' ho h4 _ (Array.getElem_mem hk') h5
   rw [Nat.eq_of_beq_eq_true h6, hiun] at h7
   cases h7
theorem Closed.step {ops : Array Oper} {listed j : Nat} (hc : Closed ops listed) (hj : rdy ops listed j = true) : Closed ops (listed ||| 2 ^ j) := by
 intro k o hk hl e he hb
 rw [testBit_or] at hl ⊢
 rw [Bool.or_eq_true] at hl ⊢
 left
 rcases hl with hl | hl
 ·exact hc k o hk hl e he hb
 ·have : j = k := by simpa using hl
  subst this
  obtain ⟨oj, hoj, _, hja⟩ := rdy_op hj
  rw [hk] at hoj
  cases hoj
  exact hja e he hb

/-- **An operation that may come up now may be taken first.** -/
theorem anyT_first {x : Cx} {ops : Array Oper} {S : Frag → Prop} {K : Ev → Frag → Prop} {i : Nat} {oi : Oper} {v : Value} (hi : ops[i]? = some oi) (hsel : ∀ (j : Nat) (o : Oper) cs b, ops[j]? = some o → o.op ≠ .select cs b)
  (hd : slotOK oi.dst x.n = true) (hdf : ∀ c, oi.op ≠ .defer c) :
  ∀ (fuel listed : Nat) (ε : Ev) (F : Frag), Closed ops listed →
   (∀ j oj, ops[j]? = some oj → j ≠ i → listed.testBit j = false → (∀ e ∈ oj.after, bindsTo e = true → e.on ≠ i) → oi.apart ops oj = true) →
   rdy ops listed i = true → Yield x ops S oi v ε → S F →
   anyT x ops S K fuel (listed ||| 2 ^ i) (upd ε oi.dst v) F → anyT x ops S K (fuel + 1) listed ε F := by
 intro fuel
 induction fuel with
 | zero =>
  intro listed ε F hcl _ hr hy hS H
  refine ⟨fun h => absurd (mem_rdys.2 hr) (by rw [h]; simp), fun j hj => ?_⟩
  by_cases hji : j = i
  ·subst hji; exact hy.opT hi hd hdf hS ⟨.inr hS, H⟩
  ·have := mem_rdys.2 (rdy_mono hj (Ne.symm hji))
   rw [H.1] at this
   cases this
 | succ fuel ih =>
  intro listed ε F hcl hfree hr hy hS H
  refine ⟨fun h => absurd (mem_rdys.2 hr) (by rw [h]; simp), fun j hj => ?_⟩
  by_cases hji : j = i
  ·subst hji; exact hy.opT hi hd hdf hS ⟨.inr hS, H⟩
  ·have h1 := H.2 j (rdy_mono hj (Ne.symm hji))
   obtain ⟨oj, hoj, hjun, hall⟩ := rdy_op hj
   obtain ⟨oi', hoi', hiun, _⟩ := rdy_op hr
   have hnot : ∀ e ∈ oj.after, bindsTo e = true → e.on ≠ i := fun e he hb heq => by
    have h1 := hall e he hb
    rw [heq, hiun] at h1
    cases h1
   have h2 := opT_put hoj (hfree j oj hoj hji hjun hnot) (fun cs b => hsel i oi cs b hi) (fun cs b => hsel j oj cs b hoj) hy h1
   have hfree' : ∀ k ok, ops[k]? = some ok → k ≠ i → (listed ||| 2 ^ j).testBit k = false → (∀ e ∈ ok.after, bindsTo e = true → e.on ≠ i) → oi.apart ops ok = true := fun k ok hk hki hun hno => by
    rw [testBit_or, Bool.or_eq_false_iff] at hun
    exact hfree k ok hk hki hun.1 hno
   refine opT_mono h2 fun ε' F' ⟨h3, h4, h5⟩ => ?_
   have hS' : S F' := h4.resolve_left fun hl => hji (lastT_spec hcl hl hj hr).symm
   refine ⟨.inr hS', ih _ _ _ (hcl.step hj) hfree' (rdy_mono hr hji) h3 hS' ?_⟩
   have e : listed ||| 2 ^ j ||| 2 ^ i = listed ||| 2 ^ i ||| 2 ^ j := by rw [Nat.or_assoc, Nat.or_comm (2 ^ j), ← Nat.or_assoc]
   rw [e]
   exact h5

/-! ### From the orders to the machine -/
def noSel (ops : Array Oper) : Bool := ops.all fun o => match o.op with | .select .. => false | _ => true

theorem noSel_spec {ops : Array Oper} (h : noSel ops = true) : ∀ (j : Nat) (o : Oper) cs b, ops[j]? = some o → o.op ≠ .select cs b := by
 intro j o cs b ho he
 have := Array.all_eq_true_iff_forall_mem.1 h o (Array.mem_of_getElem? ho)
 simp [he] at this

/-- The bits of an array of marks. -/
def bitsOf (l : Array Bool) (n : Nat) : Prop := ∀ i, n.testBit i = l.getD i false

theorem rdys_eq {ops : Array Oper} {l : Array Bool} {n : Nat} (hl : l.size = ops.size) (h : bitsOf l n) : Region.ready .any ops l = rdys ops n := by
 unfold Region.ready rdys
 apply List.filter_congr
 intro i hi
 have hlt : i < ops.size := List.mem_range.1 hi
 have e1 : l.getD i true = n.testBit i := by rw [h i]; simp [Array.getD, hl, hlt]
 unfold rdy
 rw [Array.getElem?_eq_getElem hlt]
 simp only [Option.map_some, Option.getD_some, e1]
 congr 1
 congr 1
 funext e
 simp only [bindsTo, h e.on]

theorem anyT_sound {x : Cx} {ops : Array Oper} {S : Frag → Prop} {K : Ev → Frag → Prop} {Q : Post} {ds : List Deferred}
  (hK : ∀ (ε : Ev) F, K ε F → ∃ ρ F', (∀ t v, look ρ t = some v → ε t = some v) ∧ Sb F' F ∧ Q .normal ρ ds F') :
  ∀ (fuel t n : Nat) (l : Array Bool) (ρ : Env) (F : Frag), l.size = ops.size → bitsOf l n → anyT x ops S K fuel n (look ρ) F → Ops x ops (Region.linearise.go .any ops fuel t l []) Q ρ ds F := by
 have fin : ∀ (ρ : Env) (F : Frag), K (look ρ) F → Ops x ops [] Q ρ ds F := fun ρ F k => by
  obtain ⟨ρ', F', h1, hp, h2⟩ := hK _ _ k
  intro b k cs Stop tmps hk M a1 a0 a2 a3 a4 a5 hc
  exact .idle rfl (fun _ => st_region_end) (hc .normal ρ' ds F' tmps hk M h2 (fun t v h => a3 t v (h1 t v h)) a4 (a5.sb hp) (.sub (fun _ y => hp.mem _ y) .refl))
 intro fuel
 induction fuel with
 | zero => intro t n l ρ F hl hb H; simpa [Region.linearise.go] using fin ρ F H.2
 | succ fuel ih =>
  intro t n l ρ F hl hb H
  simp only [Region.linearise.go]
  change Ops x ops (match (Region.ready .any ops l)[t % (Region.ready .any ops l).length]? with
   | some i => Region.linearise.go .any ops fuel (t / (Region.ready .any ops l).length) (l.setIfInBounds i true) [i]
   | none => [].reverse) Q ρ ds F
  rw [rdys_eq hl hb]
  cases hi : (rdys ops n)[t % (rdys ops n).length]? with
  | none =>
   have hnil : rdys ops n = [] := by
    cases hr : rdys ops n with
    | nil => rfl
    | cons y ys =>
     rw [hr] at hi
     have hlt : t % (y :: ys).length < (y :: ys).length := Nat.mod_lt _ (by simp)
     simp at hi
     simp at hlt
     omega
   exact fin ρ F (H.1 hnil)
  | some i =>
   simp only []
   rw [linearise_go_acc, List.reverse_singleton, List.singleton_append]
   have hr := mem_rdys.1 (List.mem_of_getElem? hi)
   have hlt := rdy_lt hr
   obtain ⟨o, h1, h2, h3, h4⟩ := H.2 i hr
   have hb' : bitsOf (l.setIfInBounds i true) (n ||| 2 ^ i) := by
    intro j
    rw [testBit_or, hb j]
    by_cases hij : i = j
    ·subst hij; simp [Array.getD, hl, hlt]
    ·simp [Array.getD_eq_getD_getElem?, Array.getElem?_setIfInBounds_ne hij, hij]
   have go : ∀ v F', anyT x ops S K fuel (n ||| 2 ^ i) (upd (look ρ) o.dst v) F' → Ops x ops (Region.linearise.go .any ops fuel (t / (rdys ops n).length) (l.setIfInBounds i true) []) Q (put ρ o.dst v) ds F' := fun v F' h => by
    rw [upd_look] at h
    exact ih _ _ _ _ _ (by simpa using hl) hb' h
   rcases h4 with ⟨h4, h5⟩ | ⟨h4, h5⟩
   ·refine Ops.op h1 ?_ h2 h3 fun e he => (h5 e fun y v hy => he y v (by rwa [ev_look] at hy)).mono fun v F' h => go v F' h.2
    unfold want
    unfold wantε at h4
    split at h4
    ·rename_i hg; simp [hg]
    ·rename_i j g hg
     obtain ⟨d, v, b1, b2, b3⟩ := h4
     try simp only [hg]
     exact ⟨d, b1, by rw [b2]; simpa using b3⟩
   ·unfold wantε at h4
    split at h4
    ·cases h4
    ·rename_i j g hg
     obtain ⟨d, v, b1, b2, b3⟩ := h4
     exact Ops.unwanted h1 hg b1 b2 b3 h2 (go _ _ h5.2)

/-- What is owned, in another order. -/
theorem Run1.perm {x : Cx} {o : Oper} {e : Operand → Value} {F F' : Frag} {R : Value → Frag → Prop} (p : F'.Perm F) (H : Run1 x o e F' R) : Run1 x o e F R := by
 obtain ⟨A, B, h1, h2⟩ := H
 exact ⟨A, B, h1.trans p, h2⟩

theorem anyT_perm {x : Cx} {ops : Array Oper} {S : Frag → Prop} {K : Ev → Frag → Prop} (hS : ∀ F F', F'.Perm F → S F' → S F) (hK : ∀ ε F F', F'.Perm F → K ε F' → K ε F) : ∀ (fuel n : Nat) (ε : Ev) (F F' : Frag), F'.Perm F → anyT x ops S K fuel n ε F' → anyT x ops S K fuel n ε F := by
 intro fuel
 induction fuel with
 | zero => exact fun n ε F F' p H => ⟨H.1, hK _ _ _ p H.2⟩
 | succ fuel ih =>
  intro n ε F F' p H
  refine ⟨fun h => hK _ _ _ p (H.1 h), fun i hi => ?_⟩
  obtain ⟨o, h1, h2, h3, h4⟩ := H.2 i hi
  exact ⟨o, h1, h2, h3, h4.imp (fun ⟨a, b⟩ => ⟨a, fun e he => (b e he).perm p⟩) (fun ⟨a, b, c⟩ => ⟨a, b.imp id (hS _ _ p), ih _ _ _ _ p c⟩)⟩

/-- What is kept of what is owned while a region runs. -/
def Keeps (L : Frag) (F : Frag) : Prop := ∀ p ∈ L, p ∈ F

/-- What is asked once all have come up. -/
def fin (Q : Post) (ds : List Deferred) (ε : Ev) (F : Frag) : Prop := ∃ ρ F', (∀ t v, look ρ t = some v → ε t = some v) ∧ Sb F' F ∧ Q .normal ρ ds F'

/-- ████ The judgement on a region whose order is open: what is still to come, whatever the order. -/
def Any (x : Cx) (ops : Array Oper) (L : Frag) (fuel listed : Nat) (Q : Post) (ρ : Env) (ds : List Deferred) (F : Frag) : Prop :=
 anyT x ops (Keeps L) (fin Q ds) fuel listed (look ρ) F

section rules
variable {x : Cx} {Q : Post} {ρ : Env} {ds : List Deferred} {F : Frag} {ops : Array Oper} {L : Frag} {fuel listed : Nat}
theorem st_region_draw {P : Program} {main : Bool} {b : Frame} {t : Array Value} {k : List Item} {cs : List Frame} {w : World} {id : Nat} (hm : P.follows .mixedOrders = true) :
  stepG P main (G (fat b t ds (.code (.region id ops true) :: k)) cs) w = .go (G (fat b t ds (.inRegion ops (Region.linearise.go .any ops ops.size (w.tape w.drawn (.order b.fn id)) (Array.replicate ops.size false) []) :: k)) cs) { w with drawn := w.drawn + 1 } #[] := by
 simp [Conc.G, stepG, stepG.exec, fat, choose, Sem.run, Question.forced, Question.cut, Region.schedule, hm, Region.linearise]

theorem W.draw {id : Nat} (hm : x.P.follows .mixedOrders = true) (L : Frag) (H : Any x ops L ops.size 0 Q ρ ds F) : W x (.region id ops true) Q ρ ds F := by
 intro b k cs Stop tmps hk M h1 h0 h2 h3 h4 h5 hc
 refine .of_stp ⟨rfl, fun w hw hM => ⟨_, _, _, st_region_draw hm, Guar.heap rfl rfl rfl rfl, ?_⟩⟩
 have e1 : snap hk w { w with drawn := w.drawn + 1 } = hk := snap_self hw
 have e2 : grown M w { w with drawn := w.drawn + 1 } = M := grown_self
 rw [e1, e2]
 exact anyT_sound (fun _ _ h => h) ops.size _ 0 _ ρ F (by simp) (fun i => by simp [Array.getD]) H b k cs Stop tmps hk M h1 h0 h2 h3 h4 h5 hc

theorem Keeps.perm {L F F' : Frag} (p : F'.Perm F) (h : Keeps L F') : Keeps L F := fun q hq => p.subset (h q hq)

theorem Any.perm {F' : Frag} (p : F'.Perm F) (H : Any x ops L fuel listed Q ρ ds F') : Any x ops L fuel listed Q ρ ds F :=
 anyT_perm (fun _ _ p => Keeps.perm p) (fun _ _ _ p ⟨ρ, F', h1, h2, h3⟩ => ⟨ρ, F', h1, h2.trans (.of_perm p), h3⟩) _ _ _ _ _ p H

/-- Something shut is put by. -/
theorem anyT_more {x : Cx} {ops : Array Oper} {S : Frag → Prop} {K : Ev → Frag → Prop} (hS : ∀ F F', Sb F' F → S F' → S F) (hK : ∀ ε F F', Sb F' F → K ε F' → K ε F) : ∀ (fuel n : Nat) (ε : Ev) (F F' : Frag), Sb F' F → anyT x ops S K fuel n ε F' → anyT x ops S K fuel n ε F := by
 intro fuel
 induction fuel with
 | zero => exact fun n ε F F' p H => ⟨H.1, hK _ _ _ p H.2⟩
 | succ fuel ih =>
  intro n ε F F' p H
  refine ⟨fun h => hK _ _ _ p (H.1 h), fun i hi => ?_⟩
  obtain ⟨o, h1, h2, h3, h4⟩ := H.2 i hi
  refine ⟨o, h1, h2, h3, h4.imp (fun ⟨a, b⟩ => ⟨a, fun e he => ?_⟩) (fun ⟨a, b, c⟩ => ⟨a, b.imp id (hS _ _ p), ih _ _ _ _ p c⟩)⟩
  obtain ⟨A, B, q1, q2⟩ := b e he
  obtain ⟨C, p1, p2⟩ := p
  refine ⟨A, B ++ C, ?_, fun h' e1 e2 => tr_mono (q2 h' e1 fun b o hb => e2 b o (List.mem_append_left _ hb)) fun _ _ y => y.mono fun v A' r => ?_⟩
  ·rw [← List.append_assoc]; exact (q1.append_right C).trans p1
  ·have hsb : Sb (A' ++ B) (A' ++ (B ++ C)) := by rw [← List.append_assoc]; exact ⟨C, .refl _, p2⟩
   exact ⟨r.1.imp id (hS _ _ hsb), ih _ _ _ _ hsb r.2⟩
theorem Any.sb {F' : Frag} (p : Sb F' F) (H : Any x ops L fuel listed Q ρ ds F') : Any x ops L fuel listed Q ρ ds F :=
 anyT_more (fun _ _ p h q hq => p.mem _ (h q hq)) (fun _ _ _ p ⟨ρ, F', h1, h2, h3⟩ => ⟨ρ, F', h1, h2.trans p, h3⟩) _ _ _ _ _ p H


/-- All have come up. -/
theorem Any.done (hr : rdys ops listed = []) (H : Q .normal ρ ds F) : Any x ops L fuel listed Q ρ ds F := by
 have k : fin Q ds (look ρ) F := ⟨ρ, F, fun _ _ h => h, .refl, H⟩
 cases fuel with
 | zero => exact ⟨hr, k⟩
 | succ n => exact ⟨fun _ => k, fun i hi => absurd (mem_rdys.2 hi) (by rw [hr]; simp)⟩

/-- Number i is taken first. -/
theorem Any.take {i : Nat} {o : Oper} {v : Value} (hi : ops[i]? = some o) (hs : noSel ops = true) (hf : freeT ops listed i = true) (hr : rdy ops listed i = true) (hd : slotOK o.dst x.n = true) (hdf : ∀ c, o.op ≠ .defer c) (hS : Keeps L F)
  (hy : Yield x ops (Keeps L) o v (look ρ)) (H : Any x ops L fuel (listed ||| 2 ^ i) Q (put ρ o.dst v) ds F) : Any x ops L (fuel + 1) listed Q ρ ds F := by
 unfold Any at H ⊢
 rw [← upd_look] at H
 exact anyT_first hi (noSel_spec hs) hd hdf fuel listed _ F (freeT_closed hf) (freeT_spec hi hf) hr hy hS H

/-- One alone may come up, and is carried out. -/
theorem Any.one {i : Nat} {o : Oper} (hr : rdys ops listed = [i]) (hi : ops[i]? = some o) (hw : wantε ops (look ρ) o true) (hd : slotOK o.dst x.n = true) (hdf : ∀ c, o.op ≠ .defer c)
  (H : ∀ e : Operand → Value, (∀ y v, ev ρ y = some v → e y = v) → Run1 x o e F fun v F' => (lastT ops i = true ∨ Keeps L F') ∧ Any x ops L fuel (listed ||| 2 ^ i) Q (put ρ o.dst v) ds F') : Any x ops L (fuel + 1) listed Q ρ ds F := by
 refine ⟨(fun h => by rw [h] at hr; cases hr), fun j hj => ?_⟩
 have := mem_rdys.2 hj
 rw [hr] at this
 obtain rfl : j = i := by simpa using this
 refine ⟨o, hi, hd, hdf, .inl ⟨hw, fun e he => ?_⟩⟩
 refine (H e fun y v hy => he y v (by rwa [ev_look])).mono fun v F' h => ⟨h.1, ?_⟩
 rw [upd_look]
 exact h.2

/-- Two may come up. -/
theorem Any.two {i j : Nat} (hr : rdys ops listed = [i, j]) (Hi : opT x ops i (fun ε' F' => (lastT ops i = true ∨ Keeps L F') ∧ anyT x ops (Keeps L) (fin Q ds) fuel (listed ||| 2 ^ i) ε' F') (look ρ) F)
  (Hj : opT x ops j (fun ε' F' => (lastT ops j = true ∨ Keeps L F') ∧ anyT x ops (Keeps L) (fin Q ds) fuel (listed ||| 2 ^ j) ε' F') (look ρ) F) : Any x ops L (fuel + 1) listed Q ρ ds F := by
 refine ⟨(fun h => by rw [h] at hr; cases hr), fun k hk => ?_⟩
 have := mem_rdys.2 hk
 rw [hr] at this
 rcases (by simpa using this : k = i ∨ k = j) with rfl | rfl
 ·exact Hi
 ·exact Hj

/-- .. each of them carried out. -/
theorem opT.op {i : Nat} {o : Oper} (hi : ops[i]? = some o) (hw : wantε ops (look ρ) o true) (hd : slotOK o.dst x.n = true) (hdf : ∀ c, o.op ≠ .defer c)
  (H : ∀ e : Operand → Value, (∀ y v, ev ρ y = some v → e y = v) → Run1 x o e F fun v F' => (lastT ops i = true ∨ Keeps L F') ∧ Any x ops L fuel (listed ||| 2 ^ i) Q (put ρ o.dst v) ds F') :
  opT x ops i (fun ε' F' => (lastT ops i = true ∨ Keeps L F') ∧ anyT x ops (Keeps L) (fin Q ds) fuel (listed ||| 2 ^ i) ε' F') (look ρ) F := by
 refine ⟨o, hi, hd, hdf, .inl ⟨hw, fun e he => ?_⟩⟩
 refine (H e fun y v hy => he y v (by rwa [ev_look])).mono fun v F' h => ⟨h.1, ?_⟩
 rw [upd_look]
 exact h.2
end rules
end Go.Mus

/- Laws of the single operations that own nothing new. Conditions: none; over any program. -/
namespace Go.Mus
class TD (P : Program) (t : TypeId) (d : outParam TypeDesc) : Prop where
  out : P.underlying t = some d
/-- A type's size, bytes, zero value and its cells. -/
class TI (P : Program) (t : TypeId) (size bytes : outParam Nat) (zero : outParam Value) (zc : outParam (Array Value)) : Prop where
  eq : (P.info? t).map (fun i => (i.size, i.bytes, i.zero)) = some (size, bytes, some zero)
  cells : zero.cells = zc
theorem TI.out {P : Program} {t s b : Nat} {z : Value} {zc : Array Value} (i : TI P t s b z zc) : ∃ j, P.info? t = some j ∧ j.size = s ∧ j.bytes = b ∧ j.zero = some z ∧ z.cells = zc := by
  obtain ⟨j, h1, h2⟩ := Option.map_eq_some_iff.1 i.eq
  simp only [Prod.mk.injEq] at h2
  exact ⟨j, h1, h2.1, h2.2.1, h2.2.2, i.cells⟩
def aggDesc : TypeDesc → Bool
  | .struct _ | .array _ _ => true
  | _ => false
/-- A type of one cell; a type of several. -/
class SC (P : Program) (t : TypeId) : Prop where
  eq : (P.underlying t).map aggDesc = some false
theorem SC.out {P : Program} {t : TypeId} (i : SC P t) : ∃ d, P.underlying t = some d ∧ (∀ fs, d ≠ .struct fs) ∧ (∀ n e, d ≠ .array n e) := by
  obtain ⟨d, h1, h2⟩ := Option.map_eq_some_iff.1 i.eq
  exact ⟨d, h1, (fun fs e => by subst e; cases h2), (fun n e e' => by subst e'; cases h2)⟩
class AG (P : Program) (t : TypeId) (n : outParam Nat) : Prop where
  eq : (P.underlying t).map aggDesc = some true
  size : (P.info? t).map (·.size) = some n
theorem AG.out {P : Program} {t n : Nat} (i : AG P t n) : ∃ d j, P.underlying t = some d ∧ ((∃ fs, d = .struct fs) ∨ ∃ m e, d = .array m e) ∧ P.info? t = some j ∧ j.size = n := by
  obtain ⟨d, h1, h2⟩ := Option.map_eq_some_iff.1 i.eq
  obtain ⟨j, h3, h4⟩ := Option.map_eq_some_iff.1 i.size
  refine ⟨d, j, h1, ?_, h3, h4⟩
  cases d <;> first | exact .inl ⟨_, rfl⟩ | exact .inr ⟨_, _, rfl⟩ | cases h2
def fieldOf (P : Program) (f : Nat) : TypeDesc → Option (Nat × TypeId × Option Nat)
  | .struct fs => (fs[f]?).map fun fl => (fl.offset, fl.type, (P.info? fl.type).map (·.size))
  | _ => none
/-- A field of a struct: its offset, its type and its size, which is not 0. -/
class FA (P : Program) (s f : Nat) (off : outParam Nat) (ft : outParam TypeId) : Prop where
  eq : ∃ n, (P.underlying s).bind (fieldOf P f) = some (off, ft, some (n + 1))
theorem FA.out {P : Program} {s f off ft : Nat} (i : FA P s f off ft) : ∃ fs fl j, P.underlying s = some (.struct fs) ∧ fs[f]? = some fl ∧ fl.offset = off ∧ fl.type = ft ∧ P.info? ft = some j ∧ j.size ≠ 0 := by
  obtain ⟨n, h⟩ := i.eq
  obtain ⟨d, h1, h2⟩ := Option.bind_eq_some_iff.1 h
  cases d with
  | struct fs =>
    obtain ⟨fl, h3, h4⟩ := Option.map_eq_some_iff.1 h2
    simp only [Prod.mk.injEq] at h4
    obtain ⟨j, h5, h6⟩ := Option.map_eq_some_iff.1 h4.2.2
    exact ⟨fs, fl, j, h1, h3, h4.1, h4.2.1, h4.2.1 ▸ h5, by omega⟩
  | _ => cases h2
/-- A function that has a body. -/
class FB (P : Program) (f : FuncId) : Prop where
  eq : (P.funcs[f]?).map (fun fn => (fn.name == "runtime.NumGoroutine", fn.body.isNone)) = some (false, false)
theorem FB.out {P : Program} {f : FuncId} (i : FB P f) : ∃ fn, P.funcs[f]? = some fn ∧ (fn.name == "runtime.NumGoroutine") = false ∧ fn.body.isNone = false := by
  obtain ⟨fn, h1, h2⟩ := Option.map_eq_some_iff.1 i.eq
  simp only [Prod.mk.injEq] at h2
  exact ⟨fn, h1, h2.1, h2.2⟩

/-- A block holds this in every heap that meets S. -/
def LookS (h : Hp) (S : Frag → Prop) (b : Nat) (o : Obj) : Prop := h b = some o ∨ ∀ F, S F → (b, o) ∈ F
theorem LookS.look {h h' : Hp} {S : Frag → Prop} {b : Nat} {o : Obj} (H : LookS h S b o) {F : Frag} (hS : S F) (hE : Ext h h') : Look h' F b o := H.imp (hE.1 b o) fun x => x F hS

/-- An operation that yields a value and turns nothing. -/
def Yv (x : Cx) (S : Frag → Prop) (ρ : Env) (o : Oper) (v : Value) : Prop :=
  ∀ e : Operand → Value, (∀ y v, ev ρ y = some v → e y = v) → ∀ F, S F → ∀ h', Ext x.h h' → tr x.P h' (execOp e o) F fun nx F' => nx = .value v ∧ F' = F

def noDefer (o : Op) : Bool := match o with | .defer _ => false | _ => true
theorem noDefer_spec {o : Op} (h : noDefer o = true) : ∀ c, o ≠ .defer c := by rintro c rfl; cases h

section rules
variable {x : Cx} {Q : Post} {ρ : Env} {ds : List Deferred} {F : Frag} {ops : Array Oper} {S : Frag → Prop} {i : Nat} {rest : List Nat} {o : Oper} {v : Value}
theorem Ops.quiet (H : Ops x ops rest Q (put ρ o.dst v) ds F) (ho : ops[i]? = some o) (hw : want ops ρ o) (hd : slotOK o.dst x.n = true) (hn : noDefer o.op = true) (hy : Yv x (· = F) ρ o v) : Ops x ops (i :: rest) Q ρ ds F :=
  Ops.op ho hw hd (noDefer_spec hn) fun e he => ⟨F, [], by simp, fun h' hE _ => tr_mono (hy e he F rfl h' hE) fun nx F' ⟨e1, e2⟩ => by subst e1 e2; simpa [nextOK] using H⟩

theorem Any.quiet {fuel listed : Nat} {L : Frag} (H : Any x ops L fuel (listed ||| 2 ^ i) Q (put ρ o.dst v) ds F) (hr : rdy ops listed i = true) (hf : freeT ops listed i = true) (hi : ops[i]? = some o) (hs : noSel ops = true) (hw : wantε ops (look ρ) o true)
    (hd : slotOK o.dst x.n = true) (hn : noDefer o.op = true) (hS : Keeps L F) (hy : Yv x (Keeps L) ρ o v) : Any x ops L (fuel + 1) listed Q ρ ds F :=
  Any.take hi hs hf hr hd (noDefer_spec hn) hS (.inl ⟨hw, fun e he F hF h' hE => hy e (fun y v hv => he y v (by rwa [ev_look])) F hF h' hE⟩) H

theorem Any.pass {fuel listed : Nat} {L : Frag} (H : Any x ops L fuel (listed ||| 2 ^ i) Q (put ρ o.dst undef) ds F) (hr : rdy ops listed i = true) (hf : freeT ops listed i = true) (hi : ops[i]? = some o) (hs : noSel ops = true) (hw : wantε ops (look ρ) o false)
    (hd : slotOK o.dst x.n = true) (hn : noDefer o.op = true) (hS : Keeps L F) : Any x ops L (fuel + 1) listed Q ρ ds F :=
  Any.take hi hs hf hr hd (noDefer_spec hn) hS (.inr ⟨hw, rfl⟩) H

/-! ### Values -/
theorem y_move {y : Operand} (ho : o.op = .move y) (hy : ev ρ y = some v) : Yv x S ρ o v := fun e he F _ h' hE => by
  simp only [execOp, ho, he y v hy]; exact ⟨rfl, rfl⟩
theorem y_assign {y : Operand} (ho : o.op = .assign y) (hy : ev ρ y = some v) : Yv x S ρ o v := fun e he F _ h' hE => by
  simp only [execOp, ho, he y v hy]; exact ⟨rfl, rfl⟩
theorem y_pickT {c a b : Operand} (ho : o.op = .pick c a b) (hc : ev ρ c = some (.bool true)) (hy : ev ρ a = some v) : Yv x S ρ o v := fun e he F _ h' hE => by
  simp only [execOp, ho, he c _ hc, he a v hy]; exact ⟨rfl, rfl⟩
theorem y_pickF {c a b : Operand} (ho : o.op = .pick c a b) (hc : ev ρ c = some (.bool false)) (hy : ev ρ b = some v) : Yv x S ρ o v := fun e he F _ h' hE => by
  simp only [execOp, ho, he c _ hc, he b v hy]; exact ⟨rfl, rfl⟩

theorem y_nilCheck {y : Operand} {a : Addr} (ho : o.op = .nilCheck y) (hy : ev ρ y = some (.pointer (some a))) : Yv x S ρ o (.pointer (some a)) := fun e he F _ h' hE => by
  simp only [execOp, ho, he y _ hy]; exact ⟨rfl, rfl⟩
theorem y_nilCheckF {y : Operand} {f : FuncId} {a b : Array Value} (ho : o.op = .nilCheck y) (hy : ev ρ y = some (.func (.func f) a b)) : Yv x S ρ o (.func (.func f) a b) := fun e he F _ h' hE => by
  simp only [execOp, ho, he y _ hy]; exact ⟨rfl, rfl⟩

/-! #### memory -/
theorem bind_eq {α β : Type} (s : Sem α) (f : α → Sem β) : (s >>= f) = s.bind f := rfl
theorem pure_eq {α : Type} (a : α) : (pure a : Sem α) = .pure a := rfl
theorem bind_pure {α β : Type} (a : α) (f : α → Sem β) : (Sem.pure a).bind f = f a := rfl
theorem bind_assoc {α β γ : Type} (s : Sem α) (f : α → Sem β) (g : β → Sem γ) : (s.bind f).bind g = s.bind fun a => (f a).bind g := by
  induction s with
  | pure a => rfl
  | load m a k ih => simp only [Sem.bind, ih]
  | store m a v k ih => simp only [Sem.bind, ih]
  | new o k ih => simp only [Sem.bind, ih]
  | shape r k ih => simp only [Sem.bind, ih]
  | freeze a n k ih => simp only [Sem.bind, ih]
  | frozen a k ih => simp only [Sem.bind, ih]
  | getObj r k ih => simp only [Sem.bind, ih]
  | setObj r o k ih => simp only [Sem.bind, ih]
  | choose q k ih => simp only [Sem.bind, ih]
  | sys c k ih => simp only [Sem.bind, ih]
  | program k ih => simp only [Sem.bind, ih]
  | mark m k ih => simp only [Sem.bind, ih]
  | halt h => rfl

section eqs
variable {P : Program} {h : Hp} {β : Type}
theorem trb_program {f : Program → Sem β} {Q : β → Frag → Prop} : tr P h (program.bind f) F Q = tr P h (f P) F Q := rfl
theorem trb_underlying {t : TypeId} {d : TypeDesc} [i : TD P t d] {f : TypeDesc → Sem β} {Q : β → Frag → Prop} : tr P h ((underlying t).bind f) F Q = tr P h (f d) F Q := by
  simp only [underlying, program, bind_eq, pure_eq, Sem.bind, tr, i.out]
theorem trb_typeInfo {t : TypeId} {j : TypeInfo} (hj : P.info? t = some j) {f : TypeInfo → Sem β} {Q : β → Frag → Prop} : tr P h ((typeInfo t).bind f) F Q = tr P h (f j) F Q := by
  simp only [typeInfo, program, bind_eq, pure_eq, Sem.bind, tr, hj]
theorem trb_sizeOf {t s b : Nat} {z : Value} {zc : Array Value} [i : TI P t s b z zc] {f : Nat → Sem β} {Q : β → Frag → Prop} : tr P h ((sizeOf t).bind f) F Q = tr P h (f s) F Q := by
  obtain ⟨j, h1, h2, _⟩ := i.out
  simp only [sizeOf, bind_eq, pure_eq, bind_assoc, trb_typeInfo h1, bind_pure, h2]
theorem trb_zeroValue {t s b : Nat} {z : Value} {zc : Array Value} [i : TI P t s b z zc] {f : Value → Sem β} {Q : β → Frag → Prop} : tr P h ((zeroValue t).bind f) F Q = tr P h (f z) F Q := by
  obtain ⟨j, h1, _, _, h2, _⟩ := i.out
  simp only [zeroValue, bind_eq, pure_eq, bind_assoc, trb_typeInfo h1, bind_pure, h2]
theorem trb_sizeOfA {t n : Nat} [i : AG P t n] {f : Nat → Sem β} {Q : β → Frag → Prop} : tr P h ((sizeOf t).bind f) F Q = tr P h (f n) F Q := by
  obtain ⟨d, j, _, _, h1, h2⟩ := i.out
  simp only [sizeOf, bind_eq, pure_eq, bind_assoc, trb_typeInfo h1, bind_pure, h2]
theorem trb_isAgg {t n : Nat} [i : AG P t n] {f : Bool → Sem β} {Q : β → Frag → Prop} : tr P h ((isAgg t).bind f) F Q = tr P h (f true) F Q := by
  obtain ⟨d, j, h1, h2, _⟩ := i.out
  have : TD P t d := ⟨h1⟩
  simp only [isAgg, bind_eq, pure_eq, bind_assoc, trb_underlying]
  rcases h2 with ⟨fs, rfl⟩ | ⟨m, e, rfl⟩ <;> rfl
theorem trb_isSc {t : TypeId} [i : SC P t] {f : Bool → Sem β} {Q : β → Frag → Prop} : tr P h ((isAgg t).bind f) F Q = tr P h (f false) F Q := by
  obtain ⟨d, h1, h2, h3⟩ := i.out
  have : TD P t d := ⟨h1⟩
  simp only [isAgg, bind_eq, pure_eq, bind_assoc, trb_underlying]
  cases d <;> first | rfl | exact absurd rfl (h2 _) | exact absurd rfl (h3 _ _)
end eqs
theorem add_spot {a : Addr} (h : a.spot = none) (n : Nat) : a.add n = ⟨a.block, a.off + n, none⟩ := by
  obtain ⟨b, o, s⟩ := a
  simp only at h
  subst h
  unfold Addr.add
  split <;> simp_all

theorem tr_load {P : Program} {h : Hp} {b off : Nat} {c : Array Value} {E : TypeId} {fz : Nat × Nat} {u : Value} {Q : Value → Frag → Prop} (hl : Look h F b (.cells c E fz)) (hc : c[off]? = some u) (H : Q u F) : tr P h (load ⟨b, off, none⟩) F Q :=
  ⟨rfl, rfl, c, E, fz, u, hl, hc, H⟩

theorem tr_loadCellsFrom {P : Program} {h : Hp} {b off : Nat} {c : Array Value} {E : TypeId} {fz : Nat × Nat} (hl : Look h F b (.cells c E fz)) : ∀ (n i : Nat) (acc : Array Value) {Q : Array Value → Frag → Prop}, off + i + n ≤ c.size → Q (acc ++ c.extract (off + i) (off + i + n)) F → tr P h (loadCellsFrom ⟨b, off, none⟩ i n acc) F Q
  | 0, i, acc, Q, _, H => by
    have e : c.extract (off + i) (off + i + 0) = #[] := by simp; omega
    rw [e, Array.append_empty] at H
    exact H
  | n + 1, i, acc, Q, hn, H => by
    have hlt : off + i < c.size := by omega
    simp only [loadCellsFrom, add_spot, bind_eq]
    refine tr_bind (tr_load hl (Array.getElem?_eq_getElem hlt) ?_)
    refine tr_loadCellsFrom hl n (i + 1) _ (by omega) ?_
    have e : acc.push c[off + i] ++ c.extract (off + (i + 1)) (off + (i + 1) + n) = acc ++ c.extract (off + i) (off + i + (n + 1)) := by
      apply Array.ext
      · simp; omega
      · intro j h1 h2
        simp only [Array.getElem_append, Array.size_push, Array.getElem_extract, Array.getElem_push]
        by_cases ha : j < acc.size
        · have hb : j < acc.size + 1 := by omega
          simp only [ha, hb, dif_pos]
        · by_cases hb : j < acc.size + 1
          · have : j = acc.size := by omega
            subst this
            simp
          · simp only [ha, hb, dif_neg, not_false_eq_true]
            congr 1; omega
    rw [e]
    exact H

theorem y_load {t : TypeId} {a : Operand} {b off : Nat} {c : Array Value} {E : TypeId} {fz : Nat × Nat} (ho : o.op = .load t a) [SC x.P t] (ha : ev ρ a = some (.pointer (some ⟨b, off, none⟩))) (hl : LookS x.h S b (.cells c E fz)) (hc : c[off]? = some v) : Yv x S ρ o v := fun e he F hF h' hE => by
  simp only [execOp, ho, he a _ ha, Instr.loadAt, Instr.sureAddr, loadVar, bind_eq, pure_eq, bind_assoc, bind_pure, trb_isSc, Bool.false_eq_true, if_false]
  exact tr_bind (tr_load (hl.look hF hE) hc ⟨rfl, rfl⟩)

theorem y_loadA {t n : Nat} {a : Operand} {b off : Nat} {c vs : Array Value} {E : TypeId} {fz : Nat × Nat} (ho : o.op = .load t a) [AG x.P t n] (ha : ev ρ a = some (.pointer (some ⟨b, off, none⟩))) (hl : LookS x.h S b (.cells c E fz)) (hn : off + n ≤ c.size) (hv : c.extract off (off + n) = vs) : Yv x S ρ o (.agg vs) := fun e he F hF h' hE => by
  simp only [execOp, ho, he a _ ha, Instr.loadAt, Instr.sureAddr, loadVar, bind_eq, pure_eq, bind_assoc, bind_pure, trb_isAgg, if_true, trb_sizeOfA, loadCells]
  refine tr_bind (tr_loadCellsFrom (hl.look hF hE) n 0 #[] (by omega) ?_)
  simp [tr, hv]

theorem y_fieldAddr {s f off' ft : Nat} {a : Operand} {b off : Nat} (ho : o.op = .fieldAddr s a f) [i : FA x.P s f off' ft] (ha : ev ρ a = some (.pointer (some ⟨b, off, none⟩))) : Yv x S ρ o (.pointer (some ⟨b, off + off', none⟩)) := fun e he F hF h' hE => by
  obtain ⟨fs, fl, j, h1, h2, h3, h4, h5, h6⟩ := i.out
  have hu : TD x.P s (.struct fs) := ⟨h1⟩
  subst h4
  simp only [execOp, ho, he a _ ha, Instr.fieldAt, Instr.sureAddr, fieldPlace, sizeOf, bind_eq, pure_eq, bind_assoc, bind_pure, trb_underlying, h2, trb_typeInfo h5, if_neg h6, add_spot, h3]
  exact ⟨rfl, rfl⟩

theorem y_indexAddr {t E s by' : Nat} {z : Value} {zc : Array Value} {a ix : Operand} {b off len cap : Nat} {k : IntKind} {n : Int} (ho : o.op = .indexAddr t a ix) [TD x.P t (.slice E)] [TI x.P E s by' z zc] (ha : ev ρ a = some (.slice (some ⟨b, off, none⟩) len cap)) (hi : ev ρ ix = some (.int k n)) (h0 : 0 ≤ n) (h1 : n < len) :
    Yv x S ρ o (.pointer (some ⟨b, off + n.toNat * s, none⟩)) := fun e he F hF h' hE => by
  simp only [execOp, ho, he a _ ha, he ix _ hi, Instr.indexAt, asIntOf, bind_eq, pure_eq, bind_assoc, bind_pure, trb_underlying, h0, h1, and_self, if_true, trb_sizeOf, add_spot]
  exact ⟨rfl, rfl⟩
/-- .. at a natural number. -/
theorem y_indexAddrN {t E s by' : Nat} {z : Value} {zc : Array Value} {a ix : Operand} {b off len cap : Nat} {k : IntKind} {n : Nat} (ho : o.op = .indexAddr t a ix) [TD x.P t (.slice E)] [TI x.P E s by' z zc] (ha : ev ρ a = some (.slice (some ⟨b, off, none⟩) len cap)) (hi : ev ρ ix = some (.int k (n : Int))) (h1 : n < len) :
    Yv x S ρ o (.pointer (some ⟨b, off + n * s, none⟩)) := y_indexAddr ho ha hi (by omega) (by omega)
/-- .. of an array, by its address. -/
theorem y_indexAddrA {t E s by' m : Nat} {z : Value} {zc : Array Value} {a ix : Operand} {b off : Nat} {k : IntKind} {n : Int} (ho : o.op = .indexAddr t a ix) [TD x.P t (.array m E)] [TI x.P E s by' z zc] (ha : ev ρ a = some (.pointer (some ⟨b, off, none⟩))) (hi : ev ρ ix = some (.int k n)) (h0 : 0 ≤ n) (h1 : n < m) :
    Yv x S ρ o (.pointer (some ⟨b, off + n.toNat * s, none⟩)) := fun e he F hF h' hE => by
  simp only [execOp, ho, he a _ ha, he ix _ hi, Instr.indexAt, Instr.sureAddr, asIntOf, bind_eq, pure_eq, bind_assoc, bind_pure, trb_underlying, h0, h1, and_self, if_true, trb_sizeOf, add_spot]
  exact ⟨rfl, rfl⟩

theorem y_indexAddrAN {t E s by' m : Nat} {z : Value} {zc : Array Value} {a ix : Operand} {b off : Nat} {k : IntKind} {n : Nat} (ho : o.op = .indexAddr t a ix) [TD x.P t (.array m E)] [TI x.P E s by' z zc] (ha : ev ρ a = some (.pointer (some ⟨b, off, none⟩))) (hi : ev ρ ix = some (.int k (n : Int))) (h1 : n < m) :
    Yv x S ρ o (.pointer (some ⟨b, off + n * s, none⟩)) := y_indexAddrA ho ha hi (by omega) (by omega)

theorem tr_part_sc {P : Program} {h : Hp} {t : TypeId} [SC P t] {cs : Array Value} {off : Nat} {u : Value} {β : Type} {f : Value → Sem β} {Q : β → Frag → Prop} (hc : cs[off]? = some u) : tr P h ((part t cs off).bind f) F Q = tr P h (f u) F Q := by
  simp only [part, bind_eq, pure_eq, bind_assoc, trb_isSc, Bool.false_eq_true, if_false, hc, bind_pure]
theorem tr_part_ag {P : Program} {h : Hp} {t n : Nat} [AG P t n] {cs : Array Value} {off : Nat} {β : Type} {f : Value → Sem β} {Q : β → Frag → Prop} : tr P h ((part t cs off).bind f) F Q = tr P h (f (.agg (cs.extract off (off + n)))) F Q := by
  simp only [part, bind_eq, pure_eq, bind_assoc, trb_isAgg, if_true, trb_sizeOfA, bind_pure]

theorem y_field {t f off ft : Nat} {a : Operand} {cs : Array Value} (ho : o.op = .field t a f) [i : FA x.P t f off ft] [SC x.P ft] (ha : ev ρ a = some (.agg cs)) (hc : cs[off]? = some v) : Yv x S ρ o v := fun e he F hF h' hE => by
  obtain ⟨fs, fl, j, h1, h2, h3, h4, h5, h6⟩ := i.out
  have hu : TD x.P t (.struct fs) := ⟨h1⟩
  subst h4
  simp only [execOp, ho, he a _ ha, Instr.field, asAgg, bind_eq, pure_eq, bind_assoc, bind_pure, trb_underlying, h2, h3, tr_part_sc hc]
  exact ⟨rfl, rfl⟩
theorem y_fieldA {t f off ft n : Nat} {a : Operand} {cs vs : Array Value} (ho : o.op = .field t a f) [i : FA x.P t f off ft] [AG x.P ft n] (ha : ev ρ a = some (.agg cs)) (hc : cs.extract off (off + n) = vs) : Yv x S ρ o (.agg vs) := fun e he F hF h' hE => by
  obtain ⟨fs, fl, j, h1, h2, h3, h4, h5, h6⟩ := i.out
  have hu : TD x.P t (.struct fs) := ⟨h1⟩
  subst h4
  simp only [execOp, ho, he a _ ha, Instr.field, asAgg, bind_eq, pure_eq, bind_assoc, bind_pure, trb_underlying, h2, h3, tr_part_ag, hc]
  exact ⟨rfl, rfl⟩
theorem y_index {t E s by' m : Nat} {z : Value} {zc : Array Value} {a ix : Operand} {cs : Array Value} {k : IntKind} {n : Int} (ho : o.op = .index t a ix) [TD x.P t (.array m E)] [TI x.P E s by' z zc] [SC x.P E] (ha : ev ρ a = some (.agg cs)) (hi : ev ρ ix = some (.int k n)) (h0 : 0 ≤ n) (h1 : n < m) (hc : cs[n.toNat * s]? = some v) : Yv x S ρ o v := fun e he F hF h' hE => by
  simp only [execOp, ho, he a _ ha, he ix _ hi, Instr.index, asIntOf, bind_eq, pure_eq, bind_assoc, bind_pure, trb_underlying, h0, h1, and_self, if_true, trb_sizeOf, tr_part_sc hc]
  exact ⟨rfl, rfl⟩
theorem y_indexA {t E s by' m n' : Nat} {z : Value} {zc : Array Value} {a ix : Operand} {cs vs : Array Value} {k : IntKind} {n : Int} (ho : o.op = .index t a ix) [TD x.P t (.array m E)] [TI x.P E s by' z zc] [AG x.P E n'] (ha : ev ρ a = some (.agg cs)) (hi : ev ρ ix = some (.int k n)) (h0 : 0 ≤ n) (h1 : n < m) (hc : cs.extract (n.toNat * s) (n.toNat * s + n') = vs) : Yv x S ρ o (.agg vs) := fun e he F hF h' hE => by
  simp only [execOp, ho, he a _ ha, he ix _ hi, Instr.index, asIntOf, bind_eq, pure_eq, bind_assoc, bind_pure, trb_underlying, h0, h1, and_self, if_true, trb_sizeOf, tr_part_ag, hc]
  exact ⟨rfl, rfl⟩

/-! #### numbers -/
theorem y_bin {op : BinOp} {t t' : TypeId} {y z : Operand} {k k' : IntKind} {a b : Int} {u : Value} (ho : o.op = .binOp op t y z t') (hy : ev ρ y = some (.int k a)) (hz : ev ρ z = some (.int k' b)) (h : binOp op t (.int k a) (.int k' b) = .pure u) : Yv x S ρ o u := fun e he F hF h' hE => by
  have hg : eqGuard op t y z (.int k a) (.int k' b) = .pure () := by
    unfold eqGuard
    split <;> rfl
  simp only [execOp, ho, he y _ hy, he z _ hz, hg, bind_eq, pure_eq, bind_assoc, bind_pure, h]
  exact ⟨rfl, rfl⟩

theorem wrap_id {n : Int} (h0 : -9223372036854775808 ≤ n) (h1 : n ≤ 9223372036854775807) : IntKind.i64.wrap n = n := IntWalk.i64_in n ⟨h0, h1⟩

theorem y_add {t t' : TypeId} {y z : Operand} {a b : Int} (ho : o.op = .binOp .add t y z t') (hy : ev ρ y = some (.int .i64 a)) (hz : ev ρ z = some (.int .i64 b)) (h0 : -9223372036854775808 ≤ a + b) (h1 : a + b ≤ 9223372036854775807) : Yv x S ρ o (.int .i64 (a + b)) :=
  y_bin ho hy hz (by show Sem.pure _ = _; rw [wrap_id h0 h1])
theorem y_sub {t t' : TypeId} {y z : Operand} {a b : Int} (ho : o.op = .binOp .sub t y z t') (hy : ev ρ y = some (.int .i64 a)) (hz : ev ρ z = some (.int .i64 b)) (h0 : -9223372036854775808 ≤ a - b) (h1 : a - b ≤ 9223372036854775807) : Yv x S ρ o (.int .i64 (a - b)) :=
  y_bin ho hy hz (by show Sem.pure _ = _; rw [wrap_id h0 h1])
theorem y_mul {t t' : TypeId} {y z : Operand} {a b : Int} (ho : o.op = .binOp .mul t y z t') (hy : ev ρ y = some (.int .i64 a)) (hz : ev ρ z = some (.int .i64 b)) (h0 : -9223372036854775808 ≤ a * b) (h1 : a * b ≤ 9223372036854775807) : Yv x S ρ o (.int .i64 (a * b)) :=
  y_bin ho hy hz (by show Sem.pure _ = _; rw [wrap_id h0 h1])
theorem y_addw {t t' : TypeId} {y z : Operand} {k : IntKind} {a b : Int} (ho : o.op = .binOp .add t y z t') (hy : ev ρ y = some (.int k a)) (hz : ev ρ z = some (.int k b)) : Yv x S ρ o (.int k (k.wrap (a + b))) :=
  y_bin ho hy hz (by cases k <;> rfl)
theorem y_subw {t t' : TypeId} {y z : Operand} {k : IntKind} {a b : Int} (ho : o.op = .binOp .sub t y z t') (hy : ev ρ y = some (.int k a)) (hz : ev ρ z = some (.int k b)) : Yv x S ρ o (.int k (k.wrap (a - b))) :=
  y_bin ho hy hz (by cases k <;> rfl)
theorem y_mulw {t t' : TypeId} {y z : Operand} {k : IntKind} {a b : Int} (ho : o.op = .binOp .mul t y z t') (hy : ev ρ y = some (.int k a)) (hz : ev ρ z = some (.int k b)) : Yv x S ρ o (.int k (k.wrap (a * b))) :=
  y_bin ho hy hz (by cases k <;> rfl)
theorem y_lss {t t' : TypeId} {y z : Operand} {k : IntKind} {a b : Int} (ho : o.op = .binOp .lss t y z t') (hy : ev ρ y = some (.int k a)) (hz : ev ρ z = some (.int k b)) : Yv x S ρ o (.bool (decide (a < b))) :=
  y_bin ho hy hz (by cases k <;> rfl)
theorem y_leq {t t' : TypeId} {y z : Operand} {k : IntKind} {a b : Int} (ho : o.op = .binOp .leq t y z t') (hy : ev ρ y = some (.int k a)) (hz : ev ρ z = some (.int k b)) : Yv x S ρ o (.bool (decide (a ≤ b))) :=
  y_bin ho hy hz (by cases k <;> rfl)
theorem y_gtr {t t' : TypeId} {y z : Operand} {k : IntKind} {a b : Int} (ho : o.op = .binOp .gtr t y z t') (hy : ev ρ y = some (.int k a)) (hz : ev ρ z = some (.int k b)) : Yv x S ρ o (.bool (decide (b < a))) :=
  y_bin ho hy hz (by cases k <;> rfl)
theorem y_geq {t t' : TypeId} {y z : Operand} {k : IntKind} {a b : Int} (ho : o.op = .binOp .geq t y z t') (hy : ev ρ y = some (.int k a)) (hz : ev ρ z = some (.int k b)) : Yv x S ρ o (.bool (decide (b ≤ a))) :=
  y_bin ho hy hz (by cases k <;> rfl)
theorem beq_dec (a b : Int) : (a == b) = decide (a = b) := by by_cases h : a = b <;> simp [h]
theorem y_eql {t t' : TypeId} {y z : Operand} {k : IntKind} {a b : Int} (ho : o.op = .binOp .eql t y z t') (hy : ev ρ y = some (.int k a)) (hz : ev ρ z = some (.int k b)) : Yv x S ρ o (.bool (decide (a = b))) :=
  y_bin ho hy hz (by rw [← beq_dec]; cases k <;> rfl)
theorem y_neq {t t' : TypeId} {y z : Operand} {k : IntKind} {a b : Int} (ho : o.op = .binOp .neq t y z t') (hy : ev ρ y = some (.int k a)) (hz : ev ρ z = some (.int k b)) : Yv x S ρ o (.bool (decide (a ≠ b))) :=
  y_bin ho hy hz (by
    have : decide (a ≠ b) = (a != b) := by by_cases h : a = b <;> simp [h]
    rw [this]; cases k <;> rfl)
theorem y_rem {t t' : TypeId} {y z : Operand} {k : IntKind} {a b : Int} (ho : o.op = .binOp .rem t y z t') (hy : ev ρ y = some (.int k a)) (hz : ev ρ z = some (.int k b)) (hb : b ≠ 0) : Yv x S ρ o (.int k (a.tmod b)) :=
  y_bin ho hy hz (by simp only [binOp, Op.intDiv, if_neg hb]; cases k <;> rfl)
theorem y_quo {t t' : TypeId} {y z : Operand} {k : IntKind} {a b : Int} (ho : o.op = .binOp .quo t y z t') (hy : ev ρ y = some (.int k a)) (hz : ev ρ z = some (.int k b)) (hb : b ≠ 0) : Yv x S ρ o (.int k (k.wrap (a.tdiv b))) :=
  y_bin ho hy hz (by simp only [binOp, Op.intDiv, if_neg hb]; cases k <;> rfl)
theorem y_shl {t t' : TypeId} {y z : Operand} {k k' : IntKind} {a b : Int} (ho : o.op = .binOp .shl t y z t') (hy : ev ρ y = some (.int k a)) (hz : ev ρ z = some (.int k' b)) (hb : 0 ≤ b) : Yv x S ρ o (.int k (k.wrap (a * 2 ^ (min b.toNat k.bits)))) :=
  y_bin ho hy hz (by have : ¬ b < 0 := by omega
                     simp only [binOp, Op.shift, if_neg this]; rfl)
theorem y_shr {t t' : TypeId} {y z : Operand} {k k' : IntKind} {a b : Int} (ho : o.op = .binOp .shr t y z t') (hy : ev ρ y = some (.int k a)) (hz : ev ρ z = some (.int k' b)) (hb : 0 ≤ b) : Yv x S ρ o (.int k (a.fdiv (2 ^ (min b.toNat k.bits)))) :=
  y_bin ho hy hz (by have : ¬ b < 0 := by omega
                     simp only [binOp, Op.shift, if_neg this]; rfl)
/-- &, |, ^, &^ -/
def bits (op : BinOp) (k : IntKind) (a b : Int) : Int :=
  let x := BitVec.ofInt k.bits a
  let y := BitVec.ofInt k.bits b
  match op with
  | .and => k.wrap (x &&& y).toNat
  | .or => k.wrap (x ||| y).toNat
  | .xor => k.wrap (x ^^^ y).toNat
  | _ => k.wrap (x &&& ~~~y).toNat
theorem y_and {t t' : TypeId} {y z : Operand} {k : IntKind} {a b : Int} (ho : o.op = .binOp .and t y z t') (hy : ev ρ y = some (.int k a)) (hz : ev ρ z = some (.int k b)) : Yv x S ρ o (.int k (bits .and k a b)) := y_bin ho hy hz (by cases k <;> rfl)
theorem y_or {t t' : TypeId} {y z : Operand} {k : IntKind} {a b : Int} (ho : o.op = .binOp .or t y z t') (hy : ev ρ y = some (.int k a)) (hz : ev ρ z = some (.int k b)) : Yv x S ρ o (.int k (bits .or k a b)) := y_bin ho hy hz (by cases k <;> rfl)
theorem y_xor {t t' : TypeId} {y z : Operand} {k : IntKind} {a b : Int} (ho : o.op = .binOp .xor t y z t') (hy : ev ρ y = some (.int k a)) (hz : ev ρ z = some (.int k b)) : Yv x S ρ o (.int k (bits .xor k a b)) := y_bin ho hy hz (by cases k <;> rfl)
theorem y_andNot {t t' : TypeId} {y z : Operand} {k : IntKind} {a b : Int} (ho : o.op = .binOp .andNot t y z t') (hy : ev ρ y = some (.int k a)) (hz : ev ρ z = some (.int k b)) : Yv x S ρ o (.int k (bits .andNot k a b)) := y_bin ho hy hz (by cases k <;> rfl)

theorem y_not {t : TypeId} {y : Operand} {b : Bool} (ho : o.op = .unOp .not t y) (hy : ev ρ y = some (.bool b)) : Yv x S ρ o (.bool (!b)) := fun e he F hF h' hE => by
  simp only [execOp, ho, he y _ hy]; exact ⟨rfl, rfl⟩
theorem y_neg {t : TypeId} {y : Operand} {n : Int} (ho : o.op = .unOp .neg t y) (hy : ev ρ y = some (.int .i64 n)) (h0 : -9223372036854775807 ≤ n) (h1 : n ≤ 9223372036854775807) : Yv x S ρ o (.int .i64 (-n)) := fun e he F hF h' hE => by
  have : IntKind.i64.wrap (0 - n) = -n := by rw [wrap_id (by omega) (by omega)]; omega
  simp only [execOp, ho, he y _ hy, Op.unary, Op.intArith, this]; exact ⟨rfl, rfl⟩
theorem y_conv {t t' : TypeId} {d : TypeDesc} {y : Operand} {k k' : IntKind} {n : Int} (ho : o.op = .convert t t' y) [TD x.P t d] [TD x.P t' (.int k')] (hy : ev ρ y = some (.int k n)) : Yv x S ρ o (.int k' (k'.wrap n)) := fun e he F hF h' hE => by
  simp only [execOp, ho, he y _ hy, convert, Conv.intToInt, bind_eq, pure_eq, bind_assoc, bind_pure, trb_underlying]
  cases d <;> exact ⟨rfl, rfl⟩

/-! #### interfaces, functions, tuples -/
theorem y_iface {t : TypeId} {d : TypeDesc} {y : Operand} {u : Value} (ho : o.op = .makeInterface t y) [TD x.P t d] (hd : ∀ ms, d ≠ .interface ms) (hy : ev ρ y = some u) : Yv x S ρ o (.iface t u) := fun e he F hF h' hE => by
  simp only [execOp, ho, he y _ hy, Instr.makeInterface, bind_eq, pure_eq, bind_assoc, bind_pure, trb_underlying]
  cases d <;> first | exact ⟨rfl, rfl⟩ | exact absurd rfl (hd _)
/-- The operands of a list. -/
def evs (ρ : Env) : List Operand → Option (List Value)
  | [] => some []
  | y :: r => match ev ρ y, evs ρ r with | some v, some vs => some (v :: vs) | _, _ => none
theorem evs_map {e : Operand → Value} (he : ∀ y v, ev ρ y = some v → e y = v) : ∀ {l : List Operand} {vs : List Value}, evs ρ l = some vs → l.map e = vs
  | [], vs, h => by cases h; rfl
  | y :: r, vs, h => by
    unfold evs at h
    split at h
    · rename_i v vs' h1 h2; cases h; simp [he y v h1, evs_map he h2]
    · cases h
theorem y_func {f : Go.Fn} {fi ca : List Operand} {vs us : List Value} (ho : o.op = .makeFunc f fi.toArray ca.toArray) (h1 : evs ρ fi = some vs) (h2 : evs ρ ca = some us) : Yv x S ρ o (.func f vs.toArray us.toArray) := fun e he F hF h' hE => by
  simp only [execOp, ho, Instr.makeFunc, List.map_toArray, evs_map he h1, evs_map he h2]; exact ⟨rfl, rfl⟩
theorem y_extract {y : Operand} {n : Nat} {vs : Array Value} (ho : o.op = .extract y n) (hy : ev ρ y = some (.tuple vs)) (hv : vs[n]? = some v) : Yv x S ρ o v := fun e he F hF h' hE => by
  simp only [execOp, ho, he y _ hy, Instr.extract, hv]; exact ⟨rfl, rfl⟩

/-! #### builtins -/
theorem y_len {y : Operand} {t E : TypeId} {a : Option Addr} {n c : Nat} (ho : o.op = .call ⟨.builtin .len, #[y], #[t]⟩) [TD x.P t (.slice E)] (hy : ev ρ y = some (.slice a n c)) : Yv x S ρ o (.int .i64 n) := fun e he F hF h' hE => by
  simp only [execOp, ho, resolve, invoke, builtin, Builtin.len_, List.map_toArray, List.map_cons, List.map_nil, he y _ hy, List.getElem?_toArray, List.getElem?_cons_zero, bind_eq, pure_eq, bind_assoc, bind_pure, trb_underlying]
  exact ⟨rfl, rfl⟩
theorem y_cap {y : Operand} {t E : TypeId} {a : Option Addr} {n c : Nat} (ho : o.op = .call ⟨.builtin .cap, #[y], #[t]⟩) [TD x.P t (.slice E)] (hy : ev ρ y = some (.slice a n c)) : Yv x S ρ o (.int .i64 c) := fun e he F hF h' hE => by
  simp only [execOp, ho, resolve, invoke, builtin, Builtin.cap_, List.map_toArray, List.map_cons, List.map_nil, he y _ hy, List.getElem?_toArray, List.getElem?_cons_zero, bind_eq, pure_eq, bind_assoc, bind_pure, trb_underlying]
  exact ⟨rfl, rfl⟩
theorem y_min {y z : Operand} {ts : Array TypeId} {k : IntKind} {a b : Int} (ho : o.op = .call ⟨.builtin .min, #[y, z], ts⟩) (hy : ev ρ y = some (.int k a)) (hz : ev ρ z = some (.int k b)) : Yv x S ρ o (.int k (min a b)) := fun e he F hF h' hE => by
  have : min a b = if b < a then b else a := by split <;> omega
  rw [this]
  simp only [execOp, ho, resolve, invoke, builtin, Builtin.min_, List.map_toArray, List.map_cons, List.map_nil, he y _ hy, he z _ hz]
  exact ⟨rfl, rfl⟩
theorem y_max {y z : Operand} {ts : Array TypeId} {k : IntKind} {a b : Int} (ho : o.op = .call ⟨.builtin .max, #[y, z], ts⟩) (hy : ev ρ y = some (.int k a)) (hz : ev ρ z = some (.int k b)) : Yv x S ρ o (.int k (max a b)) := fun e he F hF h' hE => by
  have : max a b = if b > a then b else a := by split <;> omega
  rw [this]
  simp only [execOp, ho, resolve, invoke, builtin, Builtin.max_, List.map_toArray, List.map_cons, List.map_nil, he y _ hy, he z _ hz]
  exact ⟨rfl, rfl⟩
end rules
end Go.Mus

/- Laws of the operations that make memory, write it, or call. Conditions: none; over any program. -/
namespace Go.Mus
/-- A part of what is owned, and what it becomes. -/
inductive Seg (A : Frag) : Frag → (Frag → Frag) → Prop
 | head {G : Frag} : Seg A (A ++ G) (fun A' => A' ++ G)
 | tail {y : Nat × Obj} {F : Frag} {U : Frag → Frag} (h : Seg A F U) : Seg A (y :: F) (fun A' => y :: U A')
 | app {B : Frag} {F : Frag} {U : Frag → Frag} (h : Seg A F U) : Seg A (B ++ F) (fun A' => B ++ U A')
 | all : Seg A A (fun A' => A')

theorem Seg.perm {A F : Frag} {U : Frag → Frag} (h : Seg A F U) : (A ++ U []).Perm F ∧ ∀ A', (U A').Perm (A' ++ U []) := by
 induction h with
 | head => exact ⟨by simp, fun A' => by simp⟩
 | @tail y F U h ih => exact ⟨(List.perm_middle).trans (ih.1.cons y), fun A' => ((ih.2 A').cons y).trans List.perm_middle.symm⟩
 | @app B F U h ih =>
  have e : ∀ X : Frag, (X ++ (B ++ U [])).Perm (B ++ (X ++ U [])) := fun X => by
   rw [← List.append_assoc, ← List.append_assoc]
   exact List.perm_append_comm.append_right _
  exact ⟨(e A).trans (ih.1.append_left B), fun A' => ((ih.2 A').append_left B).trans (e A').symm⟩
 | all => exact ⟨by simp, fun A' => by simp⟩

/-- One block of what is owned. -/
inductive At (b : Nat) (o : Obj) : Frag → (Obj → Frag) → Prop
 | head {G : Frag} : At b o ((b, o) :: G) (fun o' => (b, o') :: G)
 | tail {y : Nat × Obj} {F : Frag} {U : Obj → Frag} (h : At b o F U) : At b o (y :: F) (fun o' => y :: U o')
 | app {B : Frag} {F : Frag} {U : Obj → Frag} (h : At b o F U) : At b o (B ++ F) (fun o' => B ++ U o')

theorem At.split {b : Nat} {o : Obj} {F : Frag} {U : Obj → Frag} (h : At b o F U) : ∃ F1 F2, F = F1 ++ (b, o) :: F2 ∧ ∀ o', U o' = F1 ++ (b, o') :: F2 := by
 induction h with
 | @head G => exact ⟨[], G, rfl, fun _ => rfl⟩
 | @tail y F U h ih => obtain ⟨F1, F2, h1, h2⟩ := ih; exact ⟨y :: F1, F2, by rw [h1]; rfl, fun o' => by show y :: U o' = _; rw [h2 o']; rfl⟩
 | @app B F U h ih => obtain ⟨F1, F2, h1, h2⟩ := ih; exact ⟨B ++ F1, F2, by rw [h1, List.append_assoc], fun o' => by show B ++ U o' = _; rw [h2 o', List.append_assoc]⟩

/-- An operation that has an effect: what it yields and leaves, in some order. -/
def Ef (x : Cx) (ρ : Env) (o : Oper) (F : Frag) (R : Value → Frag → Prop) : Prop :=
 ∀ e : Operand → Value, (∀ y v, ev ρ y = some v → e y = v) → Run1 x o e F fun v F' => ∃ F'', F''.Perm F' ∧ R v F''

section rules
variable {x : Cx} {Q : Post} {ρ : Env} {ds : List Deferred} {F : Frag} {ops : Array Oper} {L : Frag} {i : Nat} {rest : List Nat} {o : Oper} {v : Value} {R : Value → Frag → Prop}
theorem Ops.eff (H : Ef x ρ o F fun v F' => Ops x ops rest Q (put ρ o.dst v) ds F') (ho : ops[i]? = some o) (hw : want ops ρ o) (hd : slotOK o.dst x.n = true) (hn : noDefer o.op = true) : Ops x ops (i :: rest) Q ρ ds F :=
 Ops.op ho hw hd (noDefer_spec hn) fun e he => (H e he).mono fun v F' ⟨F'', p, h⟩ => Ops.perm p h

theorem Any.eff {fuel listed : Nat} (H : Ef x ρ o F fun v F' => (lastT ops i = true ∨ Keeps L F') ∧ Any x ops L fuel (listed ||| 2 ^ i) Q (put ρ o.dst v) ds F') (hr : rdys ops listed = [i]) (hi : ops[i]? = some o) (hw : wantε ops (look ρ) o true) (hd : slotOK o.dst x.n = true) (hn : noDefer o.op = true) :
  Any x ops L (fuel + 1) listed Q ρ ds F :=
 Any.one hr hi hw hd (noDefer_spec hn) fun e he => (H e he).mono fun v F' ⟨F'', p, h1, h2⟩ => ⟨h1.imp id (Keeps.perm p), Any.perm p h2⟩

/-- Two may come up, both with an effect. -/
theorem Any.eff2 {fuel listed i j : Nat} {o o' : Oper} (hr : rdys ops listed = [i, j]) (hi : ops[i]? = some o) (hj : ops[j]? = some o') (hw : wantε ops (look ρ) o true) (hw' : wantε ops (look ρ) o' true) (hd : slotOK o.dst x.n = true) (hd' : slotOK o'.dst x.n = true) (hn : noDefer o.op = true) (hn' : noDefer o'.op = true)
  (H : Ef x ρ o F fun v F' => (lastT ops i = true ∨ Keeps L F') ∧ Any x ops L fuel (listed ||| 2 ^ i) Q (put ρ o.dst v) ds F')
  (H' : Ef x ρ o' F fun v F' => (lastT ops j = true ∨ Keeps L F') ∧ Any x ops L fuel (listed ||| 2 ^ j) Q (put ρ o'.dst v) ds F') : Any x ops L (fuel + 1) listed Q ρ ds F :=
 Any.two hr (opT.op hi hw hd (noDefer_spec hn) fun e he => (H e he).mono fun v F' ⟨F'', p, h1, h2⟩ => ⟨h1.imp id (Keeps.perm p), Any.perm p h2⟩)
  (opT.op hj hw' hd' (noDefer_spec hn') fun e he => (H' e he).mono fun v F' ⟨F'', p, h1, h2⟩ => ⟨h1.imp id (Keeps.perm p), Any.perm p h2⟩)

/-- From a law on the heap, which asks nothing to be lent. -/
theorem Ef.of_tr (H : ∀ e : Operand → Value, (∀ y v, ev ρ y = some v → e y = v) → ∀ h', Ext x.h h' → tr x.P h' (execOp e o) F fun nx F' => ∃ v, (nx = .value v ∨ nx = .skip ∧ v = undef) ∧ R v F') : Ef x ρ o F R := fun e he =>
 ⟨F, [], by simp, fun h' hE _ => tr_mono (H e he h' hE) fun nx F' ⟨v, h1, h2⟩ => by
  rcases h1 with rfl | ⟨rfl, rfl⟩ <;> exact ⟨F', by simp, h2⟩⟩

theorem Ext.none {h h' : Hp} (e : Ext h h') {b : Nat} (hb : h' b = none) : h b = none := by
 cases hh : h b with
 | none => rfl
 | some o => rw [e.1 b o hh] at hb; cases hb

/-- A new block. -/
theorem tr_new {P : Program} {h : Hp} {β : Type} {ob : Obj} {f : Nat → Sem β} {Q : β → Frag → Prop} (H : ∀ r, h r = none → (∀ o, (r, o) ∉ F) → tr P h (f r) ((r, ob) :: F) Q) (hn : ob.isChan = false := by rfl) : tr P h ((newObj ob).bind f) F Q := ⟨fun e => (by rw [hn] at e; cases e), H⟩

theorem e_alloc {t s b : Nat} {z : Value} {zc : Array Value} (ho : o.op = .alloc t) [TI x.P t s b z zc] (H : ∀ β, x.h β = none → (∀ o, (β, o) ∉ F) → R (.pointer (some ⟨β, 0, none⟩)) ((β, .cells zc t (0, 0)) :: F)) : Ef x ρ o F R :=
 Ef.of_tr fun e he h' hE => by
  obtain ⟨j, _, _, _, _, hz⟩ := TI.out (inferInstance : TI x.P t s b z zc)
  simp only [execOp, ho, Instr.alloc, newVar, newRow, bind_eq, pure_eq, bind_assoc, bind_pure, trb_zeroValue, hz]
  exact tr_new fun r h1 h2 => ⟨_, .inl rfl, H r (hE.none h1) h2⟩

theorem e_box {t : TypeId} {y : Operand} {u : Value} {cs : Array Value} (ho : o.op = .box t y) (hy : ev ρ y = some u) (hc : u.cells = cs) (H : ∀ β, x.h β = none → (∀ o, (β, o) ∉ F) → R (.pointer (some ⟨β, 0, none⟩)) ((β, .cells cs t (0, 0)) :: F)) : Ef x ρ o F R :=
 Ef.of_tr fun e he h' hE => by
  simp only [execOp, ho, he y _ hy, Instr.box, newVar, newRow, bind_eq, pure_eq, bind_assoc, bind_pure, hc]
  exact tr_new fun r h1 h2 => ⟨_, .inl rfl, H r (hE.none h1) h2⟩
theorem tr_store {P : Program} {h : Hp} {b off : Nat} {c : Array Value} {E : TypeId} {U : Obj → Frag} {u : Value} {Q : Unit → Frag → Prop} (h1 : one u = true) (hl : At b (.cells c E (0, 0)) F U) (hc : off < c.size) (H : Q () (U (.cells (c.setIfInBounds off u) E (0, 0)))) : tr P h (store ⟨b, off, none⟩ u) F Q := by
 obtain ⟨F1, F2, e1, e2⟩ := hl.split
 refine ⟨rfl, rfl, h1, c, E, 0, 0, F1, F2, e1, hc, by simp, ?_⟩
 rw [e2] at H
 exact H

theorem one_size {u : Value} (h : one u = true) : u.cells = #[u] := by cases u <;> first | rfl | cases h

theorem e_store {t s b' : Nat} {z : Value} {zc : Array Value} {a y : Operand} {b off : Nat} {c : Array Value} {E : TypeId} {U : Obj → Frag} {u : Value} (ho : o.op = .store t a y) [TI x.P t 1 b' z zc] (ha : ev ρ a = some (.pointer (some ⟨b, off, none⟩))) (hy : ev ρ y = some u) (h1 : one u = true) (hl : At b (.cells c E (0, 0)) F U) (hc : off < c.size)
  (H : R undef (U (.cells (c.setIfInBounds off u) E (0, 0)))) : Ef x ρ o F R :=
 Ef.of_tr fun e he h' hE => by
  simp only [execOp, ho, he a _ ha, he y _ hy, Instr.storeAt, Instr.sureAddr, storeVar, bind_eq, pure_eq, bind_assoc, bind_pure, trb_sizeOf, one_size h1, List.size_toArray, List.length_cons, List.length_nil, Nat.zero_add, ne_eq, not_true_eq_false, if_false, storeCells, add_spot, Nat.add_zero]
  exact tr_bind (tr_store h1 hl hc ⟨_, .inr ⟨rfl, rfl⟩, H⟩)

/-- Several cells are written. -/
def putAll (c : Array Value) (off : Nat) : List Value → Array Value
 | [] => c
 | u :: r => putAll (c.setIfInBounds off u) (off + 1) r
def ones : List Value → Bool
 | [] => true
 | u :: r => one u && ones r

theorem putAll_size : ∀ (vs : List Value) (c : Array Value) (off : Nat), (putAll c off vs).size = c.size
 | [], c, off => rfl
 | u :: r, c, off => by simp [putAll, putAll_size r]

theorem putAll_get : ∀ (vs : List Value) (c : Array Value) (off j : Nat), off + vs.length ≤ c.size → (putAll c off vs)[j]? = if off ≤ j ∧ j < off + vs.length then vs[j - off]? else c[j]?
 | [], c, off, j, h => by
  have h1 : ¬ (off ≤ j ∧ j < off + 0) := by omega
  simp only [putAll, List.length_nil, h1, if_false]
 | u :: r, c, off, j, h => by
  simp only [List.length_cons] at h ⊢
  rw [putAll, putAll_get r _ _ _ (by simp; omega), Array.getElem?_setIfInBounds]
  by_cases h1 : off + 1 ≤ j ∧ j < off + 1 + r.length
  ·have h2 : off ≤ j ∧ j < off + (r.length + 1) := by omega
   simp only [h1, h2, and_self, if_true]
   have : j - off = (j - (off + 1)) + 1 := by omega
   rw [this, List.getElem?_cons_succ]
  ·simp only [h1, if_false]
   by_cases h3 : off = j
   ·subst h3
    have h2 : off ≤ off ∧ off < off + (r.length + 1) := by omega
    have h4 : off < c.size := by omega
    simp [h2, h4]
   ·have h2 : ¬ (off ≤ j ∧ j < off + (r.length + 1)) := by omega
    simp only [h2, if_false, h3]

theorem putAll_all {c : Array Value} {vs : List Value} (h : vs.length = c.size) : putAll c 0 vs = vs.toArray := by
 apply Array.ext_getElem?
 intro j
 rw [putAll_get _ _ _ _ (by omega)]
 by_cases hj : j < vs.length
 ·simp [hj]
 ·have h1 : ¬ (0 ≤ j ∧ j < 0 + vs.length) := by omega
  rw [if_neg h1, Array.getElem?_eq_none (by omega), List.getElem?_toArray, List.getElem?_eq_none (by omega)]

theorem tr_storeCells {P : Program} {h : Hp} {b off : Nat} {E : TypeId} : ∀ (vs : List Value) (i : Nat) (c : Array Value) {F : Frag} {U : Obj → Frag} {Q : Unit → Frag → Prop}, ones vs = true → At b (.cells c E (0, 0)) F U → off + i + vs.length ≤ c.size → Q () (U (.cells (putAll c (off + i) vs) E (0, 0))) → tr P h (storeCells ⟨b, off, none⟩ vs i) F Q
 | [], i, c, F, U, Q, _, hl, _, H => by
  obtain ⟨F1, F2, e1, e2⟩ := hl.split
  rw [putAll, e2, ← e1] at H
  exact H
 | u :: r, i, c, F, U, Q, hu, hl, hc, H => by
  simp only [ones, Bool.and_eq_true] at hu
  simp only [List.length_cons] at hc
  obtain ⟨F1, F2, e1, e2⟩ := hl.split
  simp only [storeCells, add_spot, bind_eq]
  refine tr_bind (tr_store hu.1 hl (by omega) ?_)
  have hl' : At b (.cells (c.setIfInBounds (off + i) u) E (0, 0)) (U (.cells (c.setIfInBounds (off + i) u) E (0, 0))) (fun o' => F1 ++ (b, o') :: F2) := by
   rw [e2]; exact .app .head
  refine tr_storeCells r (i + 1) _ hu.2 hl' (by simp; omega) ?_
  rw [e2] at H
  exact H

theorem e_storeA {t n : Nat} {a y : Operand} {b off : Nat} {c vs : Array Value} {E : TypeId} {U : Obj → Frag} (ho : o.op = .store t a y) [AG x.P t n] (ha : ev ρ a = some (.pointer (some ⟨b, off, none⟩))) (hy : ev ρ y = some (.agg vs)) (hn : vs.size = n) (h1 : ones vs.toList = true) (hl : At b (.cells c E (0, 0)) F U) (hc : off + n ≤ c.size)
  (H : R undef (U (.cells (putAll c off vs.toList) E (0, 0)))) : Ef x ρ o F R :=
 Ef.of_tr fun e he h' hE => by
  have hs : (Value.agg vs).cells = vs := rfl
  simp only [execOp, ho, he a _ ha, he y _ hy, Instr.storeAt, Instr.sureAddr, storeVar, bind_eq, pure_eq, bind_assoc, bind_pure, trb_sizeOfA, hs, hn, ne_eq, not_true_eq_false, if_false]
  refine tr_bind (tr_storeCells vs.toList 0 c h1 hl (by simp; omega) ⟨_, .inr ⟨rfl, rfl⟩, by simpa using H⟩)
/-- .. a whole variable. -/
theorem e_storeW {t n : Nat} {a y : Operand} {b : Nat} {c vs : Array Value} {E : TypeId} {U : Obj → Frag} (ho : o.op = .store t a y) [AG x.P t n] (ha : ev ρ a = some (.pointer (some ⟨b, 0, none⟩))) (hy : ev ρ y = some (.agg vs)) (hn : vs.size = n) (h1 : ones vs.toList = true) (hl : At b (.cells c E (0, 0)) F U) (hc : c.size = n)
  (H : R undef (U (.cells vs E (0, 0)))) : Ef x ρ o F R :=
 e_storeA ho ha hy hn h1 hl (by omega) (by rw [putAll_all (by simp; omega)]; simpa using H)

/-! #### built values -/
def placesOf (P : Program) : TypeDesc → Option (List (Nat × Option Nat))
 | .struct fs => some (fs.toList.map fun fl => (fl.offset, (P.info? fl.type).map (·.size)))
 | _ => none
/-- Where the parts of a type lie. -/
class BP (P : Program) (t : TypeId) (pl : outParam (List (Nat × Nat))) : Prop where
 eq : (P.underlying t).bind (placesOf P) = some (pl.map fun p => (p.1, some p.2))
theorem tr_places {P : Program} {h : Hp} {F : Frag} : ∀ {fs : List Field} {pl : List (Nat × Nat)} {Q : List (Nat × Nat) → Frag → Prop}, fs.map (fun fl => (fl.offset, (P.info? fl.type).map (·.size))) = pl.map (fun p => (p.1, some p.2)) → Q pl F → tr P h (fs.mapM (m := Sem) fun f => do pure (f.offset, ← sizeOf f.type)) F Q
 | [], pl, Q, hp, H => by
  have : pl = [] := by cases pl <;> simp_all
  subst this
  exact H
 | f :: fs, [], Q, hp, H => by simp at hp
 | f :: fs, p :: pl, Q, hp, H => by
  simp only [List.map_cons, List.cons.injEq, Prod.mk.injEq] at hp
  obtain ⟨⟨h1, h2⟩, h3⟩ := hp
  obtain ⟨j, h4, h5⟩ := Option.map_eq_some_iff.1 h2
  have ih := tr_places (P := P) (h := h) (F := F) (Q := fun l F' => Q (p :: l) F') h3 H
  rw [List.mapM_cons]
  have e1 : ∀ {β : Type} (g : Nat × Nat → Sem β) (Q' : β → Frag → Prop), tr P h (g p) F Q' → tr P h ((do pure (f.offset, ← sizeOf f.type) : Sem (Nat × Nat)).bind g) F Q' := by
   intro β g Q' hg
   simp only [sizeOf, bind_eq, pure_eq, bind_assoc, bind_pure, trb_typeInfo h4, h1, h5]
   exact hg
  exact e1 _ _ (tr_bind ih)
theorem BP.out {P : Program} {t : TypeId} {pl : List (Nat × Nat)} (i : BP P t pl) : ∃ fs, P.underlying t = some (.struct fs) ∧ ∀ (h : Hp) (F : Frag) (Q : Array (Nat × Nat) → Frag → Prop), Q pl.toArray F → tr P h (fs.mapM fun f => do pure (f.offset, ← sizeOf f.type)) F Q := by
 obtain ⟨d, h1, h2⟩ := Option.bind_eq_some_iff.1 i.eq
 cases d with
 | struct fs =>
  refine ⟨fs, h1, fun h F Q H => ?_⟩
  have e : fs = fs.toList.toArray := by simp
  rw [e, List.mapM_toArray]
  simp only [map_eq_pure_bind, bind_eq, pure_eq]
  simp only [placesOf, Option.some.injEq] at h2
  exact tr_bind (tr_places h2 H)
 | _ => cases h2

theorem y_build {t s b : Nat} {z : Value} {zc : Array Value} {pl : List (Nat × Nat)} {parts : List (Nat × Operand)} {vs : List Value} {cs : Array Value} {S : Frag → Prop} (ho : o.op = .build t parts.toArray) [bp : BP x.P t pl] [TI x.P t s b z zc] (hv : evs ρ (parts.map (·.2)) = some vs)
  (hf : Instr.fill (fun i : Nat => pl[i]?) zc ((parts.map (·.1)).zip vs) = some cs) : Yv x S ρ o (.agg cs) := fun e he F hF h' hE => by
 obtain ⟨fs, hu, hm⟩ := BP.out bp
 have : TD x.P t (.struct fs) := ⟨hu⟩
 obtain ⟨j, _, _, _, _, hz⟩ := TI.out (inferInstance : TI x.P t s b z zc)
 have hp : parts.map (fun (p : Nat × Operand) => (p.1, e p.2)) = (parts.map (·.1)).zip vs := by
  rw [← evs_map he hv, List.map_map]
  clear hf hv ho
  induction parts with
  | nil => rfl
  | cons p r ih => simp [ih]
 simp only [execOp, ho, Instr.build, List.map_toArray, bind_eq, pure_eq, bind_assoc, bind_pure, trb_zeroValue, trb_underlying, hz]
 refine tr_bind (hm h' F _ ?_)
 have e1 : (fun i : Nat => (pl.toArray)[i]?) = fun i : Nat => pl[i]? := by funext i; simp
 have hp' : (parts.map fun x => match x with | (i, y) => (i, e y)) = (parts.map (·.1)).zip vs := hp
 simp only [hp', e1, hf]
 exact ⟨rfl, rfl⟩

/-- A slice of a new row. -/
theorem e_buildSlice {t E s b len : Nat} {z : Value} {zc : Array Value} {parts : List (Nat × Operand)} {vs : List Value} {cs : Array Value} (ho : o.op = .buildSlice t len parts.toArray) [TD x.P t (.slice E)] [TI x.P E s b z zc] (hv : evs ρ (parts.map (·.2)) = some vs) (hls : 0 < len * s) (hl : len * s ≤ 2 ^ 24)
  (hf : Instr.fill (fun i => some (i * s, s)) ((Array.range (len * s)).map (zc[· % zc.size]!)) ((parts.map (·.1)).zip vs) = some cs)
  (H : ∀ β, x.h β = none → (∀ o, (β, o) ∉ F) → R (.slice (some ⟨β, 0, none⟩) len len) ((β, .cells cs E (0, 0)) :: F)) : Ef x ρ o F R :=
 Ef.of_tr fun e he h' hE => by
  obtain ⟨j, _, _, _, _, hz⟩ := TI.out (inferInstance : TI x.P E s b z zc)
  have hp : (parts.map fun x => match x with | (i, y) => (i, e y)) = (parts.map (·.1)).zip vs := by
   rw [← evs_map he hv, List.map_map]
   clear hf hv ho
   induction parts with
   | nil => rfl
   | cons p r ih => simp [ih]
  have h1 : ¬ len * s > 2 ^ 24 := by omega
  have h2 : ¬ len * s = 0 := by omega
  simp only [execOp, ho, Instr.buildSlice, newRow, List.map_toArray, bind_eq, pure_eq, bind_assoc, bind_pure, trb_zeroValue, trb_underlying, trb_sizeOf, hz, if_neg h1, if_neg h2, hp, hf]
  exact tr_new fun r h1 h2 => ⟨_, .inl rfl, H r (hE.none h1) h2⟩
theorem e_buildSlice0 {t E s b : Nat} {z : Value} {zc : Array Value} (ho : o.op = .buildSlice t 0 #[]) [TD x.P t (.slice E)] [TI x.P E s b z zc]
  (H : ∀ β, x.h β = none → (∀ o, (β, o) ∉ F) → R (.slice (some ⟨β, 0, none⟩) 0 0) ((β, .cells #[] E (0, 0)) :: F)) : Ef x ρ o F R :=
 Ef.of_tr fun e he h' hE => by
  have h1 : ¬ 0 * s > 2 ^ 24 := by omega
  have h2 : 0 * s = 0 := by omega
  simp only [execOp, ho, Instr.buildSlice, newRow, bind_eq, pure_eq, bind_assoc, bind_pure, trb_underlying, trb_sizeOf, if_neg h1, if_pos h2, Array.map_empty, Instr.fill]
  refine tr_new fun r h1 h2 => ⟨_, .inl rfl, ?_⟩
  have e : (Array.range (0 * s)).map ((#[] : Array Value)[· % (#[] : Array Value).size]!) = #[] := by simp
  rw [e]
  exact H r (hE.none h1) h2

end rules
end Go.Mus

/- Calls, results, append, and loops over functions. Conditions: none; over any program. -/
namespace Go.Mus
section calls
variable {x : Cx} {ρ : Env} {F : Frag} {o : Oper} {R : Value → Frag → Prop}
theorem tr_callFunc {P : Program} {main : Side} {h : Hp} {f : FuncId} [FB P f] {args : Array Value} {R : Value → Frag → Prop} (H : Fnc P main f args h F R) : tr P h (callFunc f args) F (nextOK P main h R) := by
 obtain ⟨fn, h1, h2, h3⟩ := FB.out (inferInstance : FB P f)
 simp only [callFunc, bind_eq, pure_eq, trb_program, h1, h2, h3, Bool.false_eq_true, if_false]
 exact H

/-- A call of a function by its name. -/
theorem e_call {f : FuncId} {args : List Operand} {ts : Array TypeId} {vs : List Value} {A : Frag} {U : Frag → Frag} {R' : Value → Frag → Prop} (ho : o.op = .call ⟨.value (.func f), args.toArray, ts⟩) [FB x.P f] (hv : evs ρ args = some vs) (hs : Seg A F U)
  (H : ∀ h', Ext x.h h' → Lent (U []) h' → Fnc x.P x.main f vs.toArray h' A R') (K : ∀ v A', R' v A' → R v (U A')) : Ef x ρ o F R := fun e he =>
 ⟨A, U [], hs.perm.1, fun h' e1 e2 => by
  have e3 : e (.func f) = .func (.func f) #[] #[] := he _ _ rfl
  simp only [execOp, ho, resolve, Deferred.ofValue, e3, bind_eq, pure_eq, bind_pure, invoke, List.map_toArray, evs_map he hv, List.append_toArray, List.nil_append, List.append_nil]
  exact tr_callFunc (Fnc.mono (H h' e1 e2) fun v A' r => ⟨U A', hs.perm.2 A', K v A' r⟩)⟩

/-- .. that is handed nothing. -/
theorem e_call0 {f : FuncId} {args : List Operand} {ts : Array TypeId} {vs : List Value} {R' : Value → Frag → Prop} (ho : o.op = .call ⟨.value (.func f), args.toArray, ts⟩) [FB x.P f] (hv : evs ρ args = some vs)
  (H : ∀ h', Ext x.h h' → Lent F h' → Fnc x.P x.main f vs.toArray h' [] R') (K : ∀ v A', R' v A' → R v (A' ++ F)) : Ef x ρ o F R :=
 e_call ho hv (Seg.head (A := []) (G := F)) H K

/-- A function value is called. -/
def CallV (P : Program) (main : Side) (fv : Value) (args : List Value) (h : Hp) (F : Frag) (R : Value → Frag → Prop) : Prop :=
 ∃ fn fi ca, fv = .func fn fi ca ∧ tr P h (invoke (.fn fn ca) (fi ++ args.toArray)) F (nextOK P main h R)

theorem CallV.mono {P : Program} {main : Side} {fv : Value} {args : List Value} {h : Hp} {R R' : Value → Frag → Prop} (H : CallV P main fv args h F R) (hr : ∀ v F, R v F → R' v F) : CallV P main fv args h F R' := by
 obtain ⟨fn, fi, ca, h1, h2⟩ := H
 exact ⟨fn, fi, ca, h1, tr_mono h2 fun _ _ y => y.mono hr⟩

theorem CallV.of_fn {P : Program} {main : Side} {f : FuncId} [FB P f] {fi ca : List Value} {args : List Value} {h : Hp} {R : Value → Frag → Prop} (H : Fnc P main f (fi ++ args ++ ca).toArray h F R) : CallV P main (.func (.func f) fi.toArray ca.toArray) args h F R := by
 refine ⟨_, _, _, rfl, ?_⟩
 simp only [invoke, List.append_toArray]
 exact tr_callFunc H

theorem e_callV {y : Operand} {fv : Value} {args : List Operand} {ts : Array TypeId} {vs : List Value} {A : Frag} {U : Frag → Frag} {R' : Value → Frag → Prop} (ho : o.op = .call ⟨.value y, args.toArray, ts⟩) (hy : ev ρ y = some fv) (hv : evs ρ args = some vs) (hs : Seg A F U)
  (H : ∀ h', Ext x.h h' → Lent (U []) h' → CallV x.P x.main fv vs h' A R') (K : ∀ v A', R' v A' → R v (U A')) : Ef x ρ o F R := fun e he =>
 ⟨A, U [], hs.perm.1, fun h' e1 e2 => by
  obtain ⟨fn, fi, ca, rfl, H'⟩ := H h' e1 e2
  simp only [execOp, ho, resolve, Deferred.ofValue, he y _ hy, bind_eq, pure_eq, bind_pure, List.map_toArray, evs_map he hv]
  exact tr_mono H' fun _ _ z => z.mono fun v A' r => ⟨U A', hs.perm.2 A', K v A' r⟩⟩

/-- A method of an interface value, found in the type's row, by value. -/
class MV (P : Program) (t : TypeId) (name : String) (f : outParam FuncId) : Prop where
 out : ∀ (h : Hp) (F : Frag) (v : Value) (Q : FuncId × Value → Frag → Prop), Q (f, v) F → tr P h (method (P.types.size + Made.depth) t v name) F Q

theorem e_invoke {y : Operand} {name : String} {t : TypeId} {u : Value} {f : FuncId} {args : List Operand} {ts : Array TypeId} {vs : List Value} {A : Frag} {U : Frag → Frag} {R' : Value → Frag → Prop} (ho : o.op = .call ⟨.invoke y name, args.toArray, ts⟩) (hy : ev ρ y = some (.iface t u)) [mv : MV x.P t name f] [FB x.P f] (hv : evs ρ args = some vs) (hs : Seg A F U)
  (H : ∀ h', Ext x.h h' → Lent (U []) h' → Fnc x.P x.main f (u :: vs).toArray h' A R') (K : ∀ v A', R' v A' → R v (U A')) : Ef x ρ o F R := fun e he =>
 ⟨A, U [], hs.perm.1, fun h' e1 e2 => by
  have e3 : ((#[Value.iface t u] ++ vs.toArray)[0]? : Option Value) = some (.iface t u) := by simp
  have e4 : (#[Value.iface t u] ++ vs.toArray).extract 1 (#[Value.iface t u] ++ vs.toArray).size = vs.toArray := by
   apply Array.ext'
   simp
  simp only [execOp, ho, resolve, he y _ hy, bind_eq, pure_eq, bind_pure, List.map_toArray, evs_map he hv, invoke, e3, e4, callMethod, trb_program]
  refine tr_bind (mv.out h' A u _ ?_)
  have e5 : #[u] ++ vs.toArray = (u :: vs).toArray := by simp
  simp only [e5]
  exact tr_callFunc (Fnc.mono (H h' e1 e2) fun v A' r => ⟨U A', hs.perm.2 A', K v A' r⟩)⟩
end calls
/-! ### Results -/
def resOK (P : Program) (h : Hp) (F : Frag) : List ResultVar → Env → List Value → Prop
 | [], _, vs => vs = []
 | .tmp t :: r, ρ, vs => ∃ v vs', vs = v :: vs' ∧ look ρ t = some v ∧ resOK P h F r ρ vs'
 | .cell a t :: r, ρ, vs => ∃ v vs' b off c E fz, vs = v :: vs' ∧ look ρ a = some (.pointer (some ⟨b, off, none⟩)) ∧ Look h F b (.cells c E fz) ∧
   ((SC P t ∧ c[off]? = some v) ∨ (∃ n, AG P t n ∧ off + n ≤ c.size ∧ v = .agg (c.extract off (off + n)))) ∧ resOK P h F r ρ vs'

def pack : List Value → Value
 | [v] => v
 | vs => .tuple vs.toArray

theorem tr_loadVar_sc {P : Program} {h : Hp} {F : Frag} {t : TypeId} [SC P t] {b off : Nat} {c : Array Value} {E : TypeId} {fz : Nat × Nat} {u : Value} {Q : Value → Frag → Prop} (hl : Look h F b (.cells c E fz)) (hc : c[off]? = some u) (H : Q u F) : tr P h (loadVar t ⟨b, off, none⟩) F Q := by
 simp only [loadVar, bind_eq, pure_eq, trb_isSc, Bool.false_eq_true, if_false]
 exact tr_load hl hc H
theorem tr_loadVar_ag {P : Program} {h : Hp} {F : Frag} {t n : Nat} [AG P t n] {b off : Nat} {c : Array Value} {E : TypeId} {fz : Nat × Nat} {Q : Value → Frag → Prop} (hl : Look h F b (.cells c E fz)) (hn : off + n ≤ c.size) (H : Q (.agg (c.extract off (off + n))) F) : tr P h (loadVar t ⟨b, off, none⟩) F Q := by
 simp only [loadVar, bind_eq, pure_eq, trb_isAgg, if_true, trb_sizeOfA, loadCells]
 refine tr_bind (tr_loadCellsFrom hl n 0 #[] (by omega) ?_)
 simpa [tr] using H

/-- A result is read. -/
def rd (tmps : Array Value) : ResultVar → Sem Value
 | .tmp t => .pure (tmps.getD t undef)
 | .cell a t => (asAddr (tmps.getD a undef)).bind fun p => loadVar t p
def packS (vs : Array Value) : Value := if h : vs.size = 1 then vs[0] else .tuple vs

theorem results_eq (fn : Func) (tmps : Array Value) : results fn tmps = (fn.results.mapM (m := Sem) (rd tmps)).bind fun vs => .pure (packS vs) := by
 unfold results
 have : (fun x => match x with | ResultVar.tmp t => pure (tmps.getD t undef) | ResultVar.cell a t => do let p ← asAddr (tmps.getD a undef); loadVar t p) = rd tmps := by
  funext r; cases r <;> rfl
 rw [← this]
 rfl

theorem tr_rds {P : Program} {h : Hp} {F : Frag} {ρ : Env} {tmps : Array Value} (he : EnvOK ρ tmps) : ∀ {rs : List ResultVar} {vs : List Value} {Q : List Value → Frag → Prop}, resOK P h F rs ρ vs → Q vs F → tr P h (rs.mapM (m := Sem) (rd tmps)) F Q
 | [], vs, Q, h1, h2 => by simp only [resOK] at h1; subst h1; exact h2
 | .tmp t :: rs, vs, Q, h1, h2 => by
  obtain ⟨v, vs', rfl, h3, h4⟩ := h1
  have e1 : tmps.getD t undef = v := by simp [he t v h3]
  simp only [List.mapM_cons, bind_eq, rd, e1, bind_pure]
  exact tr_bind (tr_rds he h4 (by simpa [tr, pure_eq] using h2))
 | .cell a t :: rs, vs, Q, h1, h2 => by
  obtain ⟨v, vs', b, off, c, E, fz, rfl, h3, h5, h6, h4⟩ := h1
  have e1 : tmps.getD a undef = .pointer (some ⟨b, off, none⟩) := by simp [he a _ h3]
  simp only [List.mapM_cons, bind_eq, rd, e1, asAddr, pure_eq, bind_pure]
  refine tr_bind ?_
  rcases h6 with ⟨i1, i2⟩ | ⟨n, i1, i2, rfl⟩
  ·exact tr_loadVar_sc h5 i2 (tr_bind (tr_rds he h4 (by simpa [tr] using h2)))
  ·exact tr_loadVar_ag h5 i2 (tr_bind (tr_rds he h4 (by simpa [tr] using h2)))

theorem packS_eq (vs : List Value) : packS vs.toArray = pack vs := by
 match vs with
 | [] => rfl
 | [v] => rfl
 | u :: v :: r =>
  have : ¬ ((u :: v :: r).toArray.size = 1) := by simp
  simp only [packS, this, dif_neg, not_false_eq_true]
  rfl

theorem tr_results {P : Program} {h : Hp} {F : Frag} {fn : Func} {rs : List ResultVar} {ρ : Env} {vs : List Value} {R : Value → Frag → Prop} (hr : fn.results = rs.toArray) (H : resOK P h F rs ρ vs) (hR : R (pack vs) F) : ∀ tmps, EnvOK ρ tmps → tr P h (results fn tmps) F R := by
 intro tmps he
 rw [results_eq, hr, List.mapM_toArray]
 simp only [map_eq_pure_bind, bind_eq, pure_eq, bind_assoc, bind_pure]
 refine tr_bind (tr_rds he H ?_)
 rw [packS_eq]
 exact hR

/-- A way out of a function that has nothing deferred. -/
theorem leave_of {P : Program} {main : Side} {fn : Func} {h : Hp} {R : Value → Frag → Prop} {e : Exit} {ρ : Env} {F : Frag} (he : e = .ret ∨ e = .normal) {rs : List ResultVar} (hr : fn.results = rs.toArray) {vs : List Value} (H : resOK P h F rs ρ vs) (hR : R (pack vs) F) : leave P main fn h R e ρ [] F :=
 ⟨he, tr_results hr H hR⟩

end Go.Mus

/- The laws with their small premises filled in by themselves. Conditions: none; over any program. -/
namespace Go.Mus
/-- The operation at a place. -/
def nthO : List Oper → Nat → Option Oper
 | [], _ => none
 | o :: _, 0 => some o
 | _ :: l, i + 1 => nthO l i
theorem nthO_eq : ∀ (l : List Oper) (i : Nat), nthO l i = l[i]?
 | [], i => by simp [nthO]
 | o :: l, 0 => rfl
 | o :: l, i + 1 => by simp [nthO, nthO_eq l i]
theorem nthO_get {ops : Array Oper} {i : Nat} {o : Oper} (h : nthO ops.toList i = some o) : ops[i]? = some o := by
 rw [nthO_eq] at h
 simpa using h

class MO (P : Program) : Prop where
 out : P.follows .mixedOrders = true

section rules
variable {x : Cx} {Q : Post} {ρ : Env} {ds : List Deferred} {F : Frag} {ops : Array Oper} {L : Frag} {i : Nat} {rest : List Nat} {o : Oper} {v : Value} {R : Value → Frag → Prop} {d : Tmp} {op : Op} {ty : TypeId} {pos : String} {aft : Array Edge} {g : Option (Nat × Bool)} {K : Env → List Deferred → Frag → Prop}
theorem thn_n (H : K ρ ds F) : thn K Q .normal ρ ds F := H
theorem thn_x {id : Nat} (H : Q (.exit id) ρ ds F) : thn K Q (.exit id) ρ ds F := H
theorem thn_r (H : Q .ret ρ ds F) : thn K Q .ret ρ ds F := H
theorem thn_g {l : Nat} (H : Q (.goto l) ρ ds F) : thn K Q (.goto l) ρ ds F := H
theorem blk_n {id : Nat} (H : Q .normal ρ ds F) : blk id Q .normal ρ ds F := H
theorem blk_r {id : Nat} (H : Q .ret ρ ds F) : blk id Q .ret ρ ds F := H
theorem blk_g {id l : Nat} (H : Q (.goto l) ρ ds F) : blk id Q (.goto l) ρ ds F := H
theorem blk_x {id id' : Nat} (H : Q .normal ρ ds F) (h : Nat.beq id' id = true := by rfl) : blk id Q (.exit id') ρ ds F := by simp only [blk, h, cond_true]; exact H
theorem blk_o {id id' : Nat} (H : Q (.exit id') ρ ds F) (h : Nat.beq id' id = false := by rfl) : blk id Q (.exit id') ρ ds F := by simp only [blk, h, cond_false]; exact H

theorem W.condT {c : Operand} {y z : Code} (H : W x y Q ρ ds F) (h : ev ρ c = some (.bool true) := by rfl) : W x (.cond c y z) Q ρ ds F := W.cond h (fun _ => H) (fun e => by cases e)
theorem W.condF {c : Operand} {y z : Code} (H : W x z Q ρ ds F) (h : ev ρ c = some (.bool false) := by rfl) : W x (.cond c y z) Q ρ ds F := W.cond h (fun e => by cases e) (fun _ => H)

theorem want_none {o : Oper} (h : o.guard = none) : want ops ρ o := by simp [want, h]
theorem want_some {o : Oper} {j d : Nat} {w : Bool} (h : o.guard = some (j, w)) (hj : (ops[j]?).bind (·.dst) = some d) (hd : look ρ d = some (.bool w)) : want ops ρ o := by simp only [want, h]; exact ⟨d, hj, hd⟩
theorem wantε_some {o : Oper} {j d : Nat} {w v u : Bool} (h : o.guard = some (j, w)) (hj : (ops[j]?).bind (·.dst) = some d) (hd : look ρ d = some (.bool v)) (hu : (v == w) = u) : wantε ops (look ρ) o u := by simp only [wantε, h]; exact ⟨d, v, hj, hd, hu⟩

/-- A quiet operation, in the order of the text. -/
theorem Ops.st (H : Ops x ops rest Q ((d, v) :: ρ) ds F) (ho : nthO ops.toList i = some ⟨some d, op, ty, pos, aft, g⟩ := by rfl) (hw : want ops ρ ⟨some d, op, ty, pos, aft, g⟩ := by first | exact want_none rfl | exact want_some rfl rfl rfl) (hd : Nat.blt d x.n = true := by rfl) (hn : noDefer op = true := by rfl)
  (hy : Yv x (· = F) ρ ⟨some d, op, ty, pos, aft, g⟩ v := by
   first
   | exact y_move rfl rfl
   | exact y_assign rfl rfl
   | exact y_fieldAddr rfl rfl
   | exact y_load rfl rfl (by first | exact .inl (by assumption) | exact .inr (fun _ e => by subst e; first | exact .head _ | exact .tail _ (.head _) | exact .tail _ (.tail _ (.head _)) | (repeat (first | exact List.Mem.head _ | apply List.Mem.tail)))) (by first | assumption | rfl)
   | exact y_loadA rfl rfl (by first | exact .inl (by assumption) | exact .inr (fun _ e => by subst e; first | exact .head _ | exact .tail _ (.head _) | exact .tail _ (.tail _ (.head _)) | (repeat (first | exact List.Mem.head _ | apply List.Mem.tail)))) (by first | assumption | decide | omega) (by first | assumption | rfl)
   | exact y_indexAddrN rfl rfl rfl (by first | assumption | omega)
   | exact y_indexAddrAN rfl rfl rfl (by first | assumption | omega)
   | exact y_indexAddr rfl rfl rfl (by first | assumption | omega) (by first | assumption | omega)
   | exact y_indexAddrA rfl rfl rfl (by first | assumption | omega) (by first | assumption | omega)
   | exact y_len rfl rfl
   | exact y_lss rfl rfl rfl | exact y_leq rfl rfl rfl | exact y_gtr rfl rfl rfl | exact y_geq rfl rfl rfl | exact y_eql rfl rfl rfl | exact y_neq rfl rfl rfl
   | exact y_add rfl rfl rfl (by omega) (by omega) | exact y_sub rfl rfl rfl (by omega) (by omega) | exact y_addw rfl rfl rfl | exact y_subw rfl rfl rfl | exact y_mulw rfl rfl rfl
   | exact y_extract rfl rfl rfl | exact y_not rfl rfl | exact y_pickT rfl rfl rfl | exact y_pickF rfl rfl rfl | exact y_nilCheck rfl rfl | exact y_nilCheckF rfl rfl
   | exact y_func rfl rfl rfl | exact y_iface rfl (by intro _ h; cases h) rfl | exact y_build rfl rfl rfl | exact y_field rfl rfl rfl | exact y_fieldA rfl rfl rfl
   | exact y_index rfl rfl rfl (by omega) (by omega) (by first | assumption | rfl) | exact y_indexA rfl rfl rfl (by omega) (by omega) (by first | assumption | rfl)
   | exact y_min rfl rfl rfl | exact y_max rfl rfl rfl | exact y_cap rfl rfl | exact y_conv rfl rfl | exact y_neg rfl rfl (by omega) (by omega)
   | exact y_or rfl rfl rfl | exact y_and rfl rfl rfl | exact y_xor rfl rfl rfl | exact y_andNot rfl rfl rfl | exact y_shl rfl rfl rfl (by omega) | exact y_shr rfl rfl rfl (by omega) | exact y_rem rfl rfl rfl (by omega) | exact y_quo rfl rfl rfl (by omega)) : Ops x ops (i :: rest) Q ρ ds F :=
 Ops.quiet (o := ⟨some d, op, ty, pos, aft, g⟩) H (nthO_get ho) hw hd hn hy

/-- .. passed over. -/
theorem Ops.no {j d' : Nat} {w v : Bool} (H : Ops x ops rest Q ((d, undef) :: ρ) ds F) (ho : nthO ops.toList i = some ⟨some d, op, ty, pos, aft, some (j, w)⟩ := by rfl) (hj : (nthO ops.toList j).bind (·.dst) = some d' := by rfl) (hv : look ρ d' = some (.bool v) := by rfl) (hne : (v == w) = false := by rfl) (hd : Nat.blt d x.n = true := by rfl) : Ops x ops (i :: rest) Q ρ ds F :=
 Ops.unwanted (nthO_get ho) rfl (by rw [nthO_eq] at hj; simpa using hj) hv hne hd H

/-- A guard's outcome is a proposition's. -/
theorem Ops.ask {j d' : Nat} {w : Bool} {p : Prop} [Decidable p] {D : Option Tmp} (ht : p → Ops x ops (i :: rest) Q ((d', .bool true) :: ρ) ds F) (hf : ¬ p → Ops x ops (i :: rest) Q ((d', .bool false) :: ρ) ds F) (ho : nthO ops.toList i = some ⟨D, op, ty, pos, aft, some (j, w)⟩ := by rfl) (hj : (nthO ops.toList j).bind (·.dst) = some d' := by rfl) (hv : look ρ d' = some (.bool (decide p)) := by rfl) : Ops x ops (i :: rest) Q ρ ds F := by
 have key : ∀ u : Bool, decide p = u → Ops x ops (i :: rest) Q ((d', .bool u) :: ρ) ds F → Ops x ops (i :: rest) Q ρ ds F := by
  intro u hu H b k cs Stop tmps hk M h1 h0 h2 h3 h4 h5 hc
  refine H b k cs Stop tmps hk M h1 h0 h2 (fun t y hy => ?_) h4 h5 hc
  unfold look at hy
  cases e : Nat.beq t d' with
  | true =>
   rw [e] at hy
   simp only [cond_true, Option.some.injEq] at hy
   subst hy
   rw [Nat.eq_of_beq_eq_true e]
   rw [← hu]
   exact h3 d' _ hv
  | false => rw [e] at hy; exact h3 t y hy
 by_cases hp : p
 ·exact key true (by simp [hp]) (ht hp)
 ·exact key false (by simp [hp]) (hf hp)

/-- A new variable. -/
theorem Ops.new {t s b : Nat} {z : Value} {zc : Array Value} (H : ∀ β, Ops x ops rest Q ((d, .pointer (some ⟨β, 0, none⟩)) :: ρ) ds ((β, .cells zc t (0, 0)) :: F)) (ho : nthO ops.toList i = some ⟨some d, .alloc t, ty, pos, aft, g⟩ := by rfl) [TI x.P t s b z zc] (hw : want ops ρ ⟨some d, .alloc t, ty, pos, aft, g⟩ := by first | exact want_none rfl | exact want_some rfl rfl rfl) (hd : Nat.blt d x.n = true := by rfl) : Ops x ops (i :: rest) Q ρ ds F :=
 Ops.eff (o := ⟨some d, .alloc t, ty, pos, aft, g⟩) (e_alloc rfl fun β _ _ => H β) (nthO_get ho) hw hd rfl
theorem Ops.box {t : TypeId} {y : Operand} {u : Value} {cs : Array Value} (H : ∀ β, Ops x ops rest Q ((d, .pointer (some ⟨β, 0, none⟩)) :: ρ) ds ((β, .cells cs t (0, 0)) :: F)) (ho : nthO ops.toList i = some ⟨some d, .box t y, ty, pos, aft, g⟩ := by rfl) (hy : ev ρ y = some u := by rfl) (hc : u.cells = cs := by rfl) (hw : want ops ρ ⟨some d, .box t y, ty, pos, aft, g⟩ := by first | exact want_none rfl | exact want_some rfl rfl rfl) (hd : Nat.blt d x.n = true := by rfl) : Ops x ops (i :: rest) Q ρ ds F :=
 Ops.eff (o := ⟨some d, .box t y, ty, pos, aft, g⟩) (e_box rfl hy hc fun β _ _ => H β) (nthO_get ho) hw hd rfl
/-- A store. -/
theorem Ops.sto {t b' : Nat} {z : Value} {zc : Array Value} {a y : Operand} {b off : Nat} {c : Array Value} {E : TypeId} {U : Obj → Frag} {u : Value} (H : Ops x ops rest Q ρ ds (U (.cells (c.setIfInBounds off u) E (0, 0)))) (ho : nthO ops.toList i = some ⟨none, .store t a y, ty, pos, aft, g⟩ := by rfl) [TI x.P t 1 b' z zc]
  (ha : ev ρ a = some (.pointer (some ⟨b, off, none⟩)) := by rfl) (hy : ev ρ y = some u := by rfl) (h1 : one u = true := by rfl) (hl : At b (.cells c E (0, 0)) F U := by repeat (first | exact At.head | apply At.tail | apply At.app)) (hc : off < c.size := by first | assumption | decide | omega | (simp; done)) (hw : want ops ρ ⟨none, .store t a y, ty, pos, aft, g⟩ := by first | exact want_none rfl | exact want_some rfl rfl rfl) : Ops x ops (i :: rest) Q ρ ds F :=
 Ops.eff (o := ⟨none, .store t a y, ty, pos, aft, g⟩) (e_store (s := 1) rfl ha hy h1 hl hc H) (nthO_get ho) hw rfl rfl
theorem Ops.stoW {t n : Nat} {a y : Operand} {b : Nat} {c vs : Array Value} {E : TypeId} {U : Obj → Frag} (H : Ops x ops rest Q ρ ds (U (.cells vs E (0, 0)))) (ho : nthO ops.toList i = some ⟨none, .store t a y, ty, pos, aft, g⟩ := by rfl) [AG x.P t n]
  (ha : ev ρ a = some (.pointer (some ⟨b, 0, none⟩)) := by rfl) (hy : ev ρ y = some (.agg vs) := by rfl) (hn : vs.size = n := by first | assumption | rfl) (h1 : ones vs.toList = true := by first | assumption | rfl) (hl : At b (.cells c E (0, 0)) F U := by repeat (first | exact At.head | apply At.tail | apply At.app)) (hc : c.size = n := by first | assumption | rfl) (hw : want ops ρ ⟨none, .store t a y, ty, pos, aft, g⟩ := by first | exact want_none rfl | exact want_some rfl rfl rfl) : Ops x ops (i :: rest) Q ρ ds F :=
 Ops.eff (o := ⟨none, .store t a y, ty, pos, aft, g⟩) (e_storeW rfl ha hy hn h1 hl hc H) (nthO_get ho) hw rfl rfl
theorem Ops.stoA {t n : Nat} {a y : Operand} {b off : Nat} {c vs : Array Value} {E : TypeId} {U : Obj → Frag} (H : Ops x ops rest Q ρ ds (U (.cells (putAll c off vs.toList) E (0, 0)))) (ho : nthO ops.toList i = some ⟨none, .store t a y, ty, pos, aft, g⟩ := by rfl) [AG x.P t n]
  (ha : ev ρ a = some (.pointer (some ⟨b, off, none⟩)) := by rfl) (hy : ev ρ y = some (.agg vs) := by rfl) (hn : vs.size = n := by first | assumption | rfl) (h1 : ones vs.toList = true := by first | assumption | rfl) (hl : At b (.cells c E (0, 0)) F U := by repeat (first | exact At.head | apply At.tail | apply At.app)) (hc : off + n ≤ c.size := by first | assumption | decide | omega) (hw : want ops ρ ⟨none, .store t a y, ty, pos, aft, g⟩ := by first | exact want_none rfl | exact want_some rfl rfl rfl) : Ops x ops (i :: rest) Q ρ ds F :=
 Ops.eff (o := ⟨none, .store t a y, ty, pos, aft, g⟩) (e_storeA rfl ha hy hn h1 hl hc H) (nthO_get ho) hw rfl rfl

/-- One step of a walk, where nothing is to be decided. -/
theorem go {A B : Prop} (b : B) (h : B → A := by
  first
  | exact Ops.st
  | exact Ops.nil
  | exact thn_n | exact blk_n
  | exact W.seq
  | exact W.region rfl
  | exact Ops.sto | exact Ops.stoW | exact Ops.stoA
  | exact Ops.no
  | exact W.block
  | exact W.condT | exact W.condF
  | exact W.skip | exact W.exit | exact W.ret | exact thn_x | exact thn_r | exact blk_r | exact blk_x | exact blk_o | exact thn_g | exact blk_g | exact W.goto | exact W.label) : A := h b
end rules
end Go.Mus

/- Short forms of the laws, for scripts. Conditions: none; over any program. -/
namespace Go.Mus
section rules
variable {x : Cx} {Q : Post} {ρ : Env} {ds : List Deferred} {F : Frag} {ops : Array Oper} {S : Frag → Prop} {L : Frag} {i : Nat} {rest : List Nat} {o : Oper} {v : Value} {R : Value → Frag → Prop} {d : Tmp} {op : Op} {ty : TypeId} {pos : String} {aft : Array Edge} {g : Option (Nat × Bool)} {K : Env → List Deferred → Frag → Prop}
theorem wn {D : Option Tmp} : want ops ρ ⟨D, op, ty, pos, aft, none⟩ := trivial
theorem an {D : Option Tmp} : wantε ops (look ρ) ⟨D, op, ty, pos, aft, none⟩ true := rfl

theorem Keeps.refl : Keeps F F := fun _ h => h
theorem Keeps.nil : Keeps [] F := fun _ h => absurd h List.not_mem_nil
theorem Keeps.one {y : Nat × Obj} (hy : y ∈ F) (h : Keeps L F) : Keeps (y :: L) F := fun p hp => by
 rcases List.mem_cons.1 hp with rfl | hp
 ·exact hy
 ·exact h p hp
theorem Keeps.cons {y : Nat × Obj} (h : Keeps L F) : Keeps L (y :: F) := fun p hp => List.mem_cons_of_mem _ (h p hp)
theorem Keeps.app {A : Frag} (h : Keeps L F) : Keeps L (A ++ F) := fun p hp => List.mem_append_right _ (h p hp)

/-- A quiet operation, in the order of the text. -/
theorem oq (hy : Yv x (· = F) ρ ⟨some d, op, ty, pos, aft, g⟩ v) (ho : nthO ops.toList i = some ⟨some d, op, ty, pos, aft, g⟩) (hw : want ops ρ ⟨some d, op, ty, pos, aft, g⟩) (hd : Nat.blt d x.n = true) (hn : noDefer op = true) (H : Ops x ops rest Q ((d, v) :: ρ) ds F) : Ops x ops (i :: rest) Q ρ ds F :=
 Ops.quiet (o := ⟨some d, op, ty, pos, aft, g⟩) H (nthO_get ho) hw hd hn hy
/-- .. in an open order. -/
theorem aq {fuel listed : Nat} (hy : Yv x (Keeps L) ρ ⟨some d, op, ty, pos, aft, g⟩ v) (ho : nthO ops.toList i = some ⟨some d, op, ty, pos, aft, g⟩) (hw : wantε ops (look ρ) ⟨some d, op, ty, pos, aft, g⟩ true) (hd : Nat.blt d x.n = true) (hn : noDefer op = true) (H : Any x ops L fuel (listed ||| 2 ^ i) Q ((d, v) :: ρ) ds F) (hr : (rdy ops listed i && freeT ops listed i && noSel ops) = true := by kernel_rfl) (hS : Keeps L F := by first | exact fun _ h => h | exact fun _ h => absurd h List.not_mem_nil | ((repeat (first | exact fun _ h => h | apply Keeps.cons | apply Keeps.app)) <;> fail) | (repeat (first | exact Keeps.nil | refine Keeps.one (by repeat (first | exact List.Mem.head _ | apply List.Mem.tail)) ?_))) : Any x ops L (fuel + 1) listed Q ρ ds F := by
 simp only [Bool.and_eq_true] at hr
 exact Any.quiet (o := ⟨some d, op, ty, pos, aft, g⟩) H hr.1.1 hr.1.2 (nthO_get ho) hr.2 hw hd hn hS hy
/-- .. passed over. -/
theorem ap {fuel listed j d' : Nat} {w u : Bool} (ho : nthO ops.toList i = some ⟨some d, op, ty, pos, aft, some (j, w)⟩) (hj : (nthO ops.toList j).bind (·.dst) = some d') (hv : look ρ d' = some (.bool u)) (hne : (u == w) = false) (hd : Nat.blt d x.n = true) (hn : noDefer op = true) (H : Any x ops L fuel (listed ||| 2 ^ i) Q ((d, undef) :: ρ) ds F) (hr : (rdy ops listed i && freeT ops listed i && noSel ops) = true := by kernel_rfl) (hS : Keeps L F := by first | exact fun _ h => h | exact fun _ h => absurd h List.not_mem_nil | ((repeat (first | exact fun _ h => h | apply Keeps.cons | apply Keeps.app)) <;> fail) | (repeat (first | exact Keeps.nil | refine Keeps.one (by repeat (first | exact List.Mem.head _ | apply List.Mem.tail)) ?_))) : Any x ops L (fuel + 1) listed Q ρ ds F := by
 simp only [Bool.and_eq_true] at hr
 exact Any.pass (o := ⟨some d, op, ty, pos, aft, some (j, w)⟩) H hr.1.1 hr.1.2 (nthO_get ho) hr.2 (wantε_some rfl (by rw [nthO_eq] at hj; simpa using hj) hv hne) hd hn hS
/-- An operation with an effect, in the order of the text. -/
theorem oe {D : Option Tmp} (ho : nthO ops.toList i = some ⟨D, op, ty, pos, aft, g⟩) (hw : want ops ρ ⟨D, op, ty, pos, aft, g⟩) (hd : slotOK D x.n = true) (hn : noDefer op = true) (H : Ef x ρ ⟨D, op, ty, pos, aft, g⟩ F fun v F' => Ops x ops rest Q (put ρ D v) ds F') : Ops x ops (i :: rest) Q ρ ds F :=
 Ops.eff (o := ⟨D, op, ty, pos, aft, g⟩) H (nthO_get ho) hw hd hn
/-- .. in an open order, where it alone may come up. -/
theorem ae {fuel listed : Nat} {D : Option Tmp} (ho : nthO ops.toList i = some ⟨D, op, ty, pos, aft, g⟩) (hw : wantε ops (look ρ) ⟨D, op, ty, pos, aft, g⟩ true) (hd : slotOK D x.n = true) (hn : noDefer op = true) (H : Ef x ρ ⟨D, op, ty, pos, aft, g⟩ F fun v F' => (lastT ops i = true ∨ Keeps L F') ∧ Any x ops L fuel (listed ||| 2 ^ i) Q (put ρ D v) ds F') (hr : rdys ops listed = [i] := by kernel_rfl) :
  Any x ops L (fuel + 1) listed Q ρ ds F := Any.eff (o := ⟨D, op, ty, pos, aft, g⟩) H hr (nthO_get ho) hw hd hn
theorem az {fuel listed : Nat} (H : Q .normal ρ ds F) (hr : rdys ops listed = [] := by kernel_rfl) : Any x ops L fuel listed Q ρ ds F := Any.done hr H
theorem W.drawF {id n : Nat} (hn : ops.size = n) (H : Any x ops F n 0 Q ρ ds F) [MO x.P] : W x (.region id ops true) Q ρ ds F := W.draw MO.out F (hn ▸ H)
theorem W.drawL {id n : Nat} (L : Frag) (hn : ops.size = n) (H : Any x ops L n 0 Q ρ ds F) [MO x.P] : W x (.region id ops true) Q ρ ds F := W.draw MO.out L (hn ▸ H)

/-- One step of control. -/
theorem gs {A B : Prop} (b : B) (h : B → A := by
  first
  | exact thn_n | exact blk_n
  | exact W.seq
  | exact Ops.nil | exact az
  | exact W.block
  | exact W.skip | exact W.exit | exact W.ret | exact thn_x | exact thn_r | exact blk_r | exact blk_x | exact blk_o | exact thn_g | exact blk_g | exact W.goto | exact W.label) : A := h b

/-- What holds in a place: behind an equation of values. -/
theorem lk {t : Nat} {u : Value} (h : look ρ t = some v) (e : v = u) : look ρ t = some u := e ▸ h

/-! ### Short forms of the laws that want a look at memory or a reckoning -/
theorem yld {t : TypeId} {a : Operand} {b off : Nat} {c : Array Value} {E : TypeId} {fz : Nat × Nat} (ho : o.op = .load t a) [SC x.P t] (ha : ev ρ a = some (.pointer (some ⟨b, off, none⟩)))
  (hl : LookS x.h S b (.cells c E fz) := by first | exact .inl (by assumption) | exact .inr (fun _ e => by subst e; first | exact .head _ | exact .tail _ (.head _) | exact .tail _ (.tail _ (.head _)) | (repeat (first | exact List.Mem.head _ | apply List.Mem.tail))) | exact .inr (fun _ e => e _ (by first | exact .head _ | exact .tail _ (.head _) | exact .tail _ (.tail _ (.head _)) | (repeat (first | exact List.Mem.head _ | apply List.Mem.tail)))))
  (hc : c[off]? = some v := by first | assumption | rfl) : Yv x S ρ o v := y_load ho ha hl hc
theorem yldA {t n : Nat} {a : Operand} {b off : Nat} {c vs : Array Value} {E : TypeId} {fz : Nat × Nat} (ho : o.op = .load t a) [AG x.P t n] (ha : ev ρ a = some (.pointer (some ⟨b, off, none⟩)))
  (hl : LookS x.h S b (.cells c E fz) := by first | exact .inl (by assumption) | exact .inr (fun _ e => by subst e; first | exact .head _ | exact .tail _ (.head _) | exact .tail _ (.tail _ (.head _)) | (repeat (first | exact List.Mem.head _ | apply List.Mem.tail))) | exact .inr (fun _ e => e _ (by first | exact .head _ | exact .tail _ (.head _) | exact .tail _ (.tail _ (.head _)) | (repeat (first | exact List.Mem.head _ | apply List.Mem.tail)))))
  (hn : off + n ≤ c.size := by first | assumption | decide | omega) (hv : c.extract off (off + n) = vs := by first | assumption | rfl) : Yv x S ρ o (.agg vs) := y_loadA ho ha hl hn hv
/-- A whole variable. -/
theorem yldW {t n : Nat} {a : Operand} {b : Nat} {c : Array Value} {E : TypeId} {fz : Nat × Nat} (ho : o.op = .load t a) [AG x.P t n] (ha : ev ρ a = some (.pointer (some ⟨b, 0, none⟩)))
  (hl : LookS x.h S b (.cells c E fz) := by first | exact .inl (by assumption) | exact .inr (fun _ e => by subst e; first | exact .head _ | exact .tail _ (.head _) | exact .tail _ (.tail _ (.head _)) | (repeat (first | exact List.Mem.head _ | apply List.Mem.tail))) | exact .inr (fun _ e => e _ (by first | exact .head _ | exact .tail _ (.head _) | exact .tail _ (.tail _ (.head _)) | (repeat (first | exact List.Mem.head _ | apply List.Mem.tail)))))
  (hn : c.size = n := by first | assumption | rfl) : Yv x S ρ o (.agg c) := y_loadA ho ha hl (by omega) (by apply Array.ext'; simp [← hn])
theorem yix {t E s by' : Nat} {z : Value} {zc : Array Value} {a ix : Operand} {b off len cap : Nat} {k : IntKind} {n : Nat} (ho : o.op = .indexAddr t a ix) [TD x.P t (.slice E)] [TI x.P E s by' z zc] (ha : ev ρ a = some (.slice (some ⟨b, off, none⟩) len cap)) (hi : ev ρ ix = some (.int k (n : Int))) (h1 : n < len := by first | assumption | omega) :
  Yv x S ρ o (.pointer (some ⟨b, off + n * s, none⟩)) := y_indexAddrN ho ha hi h1
theorem yixA {t E s by' m : Nat} {z : Value} {zc : Array Value} {a ix : Operand} {b off : Nat} {k : IntKind} {n : Nat} (ho : o.op = .indexAddr t a ix) [TD x.P t (.array m E)] [TI x.P E s by' z zc] (ha : ev ρ a = some (.pointer (some ⟨b, off, none⟩))) (hi : ev ρ ix = some (.int k (n : Int))) (h1 : n < m := by first | assumption | omega) :
  Yv x S ρ o (.pointer (some ⟨b, off + n * s, none⟩)) := y_indexAddrAN ho ha hi h1
theorem yixI {t E s by' : Nat} {z : Value} {zc : Array Value} {a ix : Operand} {b off len cap : Nat} {k : IntKind} {n : Int} (ho : o.op = .indexAddr t a ix) [TD x.P t (.slice E)] [TI x.P E s by' z zc] (ha : ev ρ a = some (.slice (some ⟨b, off, none⟩) len cap)) (hi : ev ρ ix = some (.int k n)) (h0 : 0 ≤ n := by first | assumption | omega) (h1 : n < len := by first | assumption | omega) :
  Yv x S ρ o (.pointer (some ⟨b, off + n.toNat * s, none⟩)) := y_indexAddr ho ha hi h0 h1
theorem yixAI {t E s by' m : Nat} {z : Value} {zc : Array Value} {a ix : Operand} {b off : Nat} {k : IntKind} {n : Int} (ho : o.op = .indexAddr t a ix) [TD x.P t (.array m E)] [TI x.P E s by' z zc] (ha : ev ρ a = some (.pointer (some ⟨b, off, none⟩))) (hi : ev ρ ix = some (.int k n)) (h0 : 0 ≤ n := by first | assumption | omega) (h1 : n < m := by first | assumption | omega) :
  Yv x S ρ o (.pointer (some ⟨b, off + n.toNat * s, none⟩)) := y_indexAddrA ho ha hi h0 h1
theorem yadd {t t' : TypeId} {y z : Operand} {a b : Int} (ho : o.op = .binOp .add t y z t') (hy : ev ρ y = some (.int .i64 a)) (hz : ev ρ z = some (.int .i64 b)) (h0 : -9223372036854775808 ≤ a + b := by omega) (h1 : a + b ≤ 9223372036854775807 := by omega) : Yv x S ρ o (.int .i64 (a + b)) := y_add ho hy hz h0 h1
theorem ysub {t t' : TypeId} {y z : Operand} {a b : Int} (ho : o.op = .binOp .sub t y z t') (hy : ev ρ y = some (.int .i64 a)) (hz : ev ρ z = some (.int .i64 b)) (h0 : -9223372036854775808 ≤ a - b := by omega) (h1 : a - b ≤ 9223372036854775807 := by omega) : Yv x S ρ o (.int .i64 (a - b)) := y_sub ho hy hz h0 h1
theorem ymul {t t' : TypeId} {y z : Operand} {a b : Int} (ho : o.op = .binOp .mul t y z t') (hy : ev ρ y = some (.int .i64 a)) (hz : ev ρ z = some (.int .i64 b)) (h0 : -9223372036854775808 ≤ a * b := by first | assumption | omega) (h1 : a * b ≤ 9223372036854775807 := by first | assumption | omega) : Yv x S ρ o (.int .i64 (a * b)) := y_mul ho hy hz h0 h1
theorem yfc {t : TypeId} {d : TypeDesc} {y : Operand} {u : Value} (ho : o.op = .makeInterface t y) [TD x.P t d] (hy : ev ρ y = some u) (hd : ∀ ms, d ≠ .interface ms := by intro _ h; cases h) : Yv x S ρ o (.iface t u) := y_iface ho hd hy

/-- Stores. -/
theorem eS {t b' : Nat} {z : Value} {zc : Array Value} {a y : Operand} {b off : Nat} {c : Array Value} {E : TypeId} {U : Obj → Frag} {u : Value} (ho : o.op = .store t a y) [TI x.P t 1 b' z zc] (ha : ev ρ a = some (.pointer (some ⟨b, off, none⟩))) (hy : ev ρ y = some u)
  (H : R undef (U (.cells (c.setIfInBounds off u) E (0, 0)))) (h1 : one u = true := by first | rfl | assumption) (hl : At b (.cells c E (0, 0)) F U := by repeat (first | exact At.head | apply At.tail | apply At.app)) (hc : off < c.size := by first | assumption | decide | omega | (simp; done)) : Ef x ρ o F R := e_store (s := 1) ho ha hy h1 hl hc H
theorem eSA {t n : Nat} {a y : Operand} {b off : Nat} {c vs : Array Value} {E : TypeId} {U : Obj → Frag} (ho : o.op = .store t a y) [AG x.P t n] (ha : ev ρ a = some (.pointer (some ⟨b, off, none⟩))) (hy : ev ρ y = some (.agg vs))
  (H : R undef (U (.cells (putAll c off vs.toList) E (0, 0)))) (hn : vs.size = n := by first | assumption | rfl) (h1 : ones vs.toList = true := by first | assumption | rfl) (hl : At b (.cells c E (0, 0)) F U := by repeat (first | exact At.head | apply At.tail | apply At.app)) (hc : off + n ≤ c.size := by first | assumption | decide | omega) : Ef x ρ o F R := e_storeA ho ha hy hn h1 hl hc H
theorem eSW {t n : Nat} {a y : Operand} {b : Nat} {c vs : Array Value} {E : TypeId} {U : Obj → Frag} (ho : o.op = .store t a y) [AG x.P t n] (ha : ev ρ a = some (.pointer (some ⟨b, 0, none⟩))) (hy : ev ρ y = some (.agg vs))
  (H : R undef (U (.cells vs E (0, 0)))) (hn : vs.size = n := by first | assumption | rfl) (h1 : ones vs.toList = true := by first | assumption | rfl) (hl : At b (.cells c E (0, 0)) F U := by repeat (first | exact At.head | apply At.tail | apply At.app)) (hc : c.size = n := by first | assumption | rfl) : Ef x ρ o F R := e_storeW ho ha hy hn h1 hl hc H
theorem eN {t s b : Nat} {z : Value} {zc : Array Value} (ho : o.op = .alloc t) [TI x.P t s b z zc] (H : ∀ β, R (.pointer (some ⟨β, 0, none⟩)) ((β, .cells zc t (0, 0)) :: F)) : Ef x ρ o F R := e_alloc ho fun β _ _ => H β
end rules
end Go.Mus
