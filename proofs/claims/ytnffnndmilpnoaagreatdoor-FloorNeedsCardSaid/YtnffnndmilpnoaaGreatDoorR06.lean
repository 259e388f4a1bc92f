/- Methods by their rows; nil interfaces. Conditions: none; over any program. (And 11 texts more.) -/
import Derived.Test.YtnffnndmilpnoaaGreatDoorR05
set_option linter.unusedVariables false
set_option linter.unusedSimpArgs false
set_option linter.unusedSectionVars false

/- Methods by their rows; nil interfaces. Conditions: none; over any program. -/
namespace Go.Mus
theorem MV.row {P : Program} {t : TypeId} {name : String} {f : FuncId} (hm : ((P.info? t).bind fun i => i.methods.find? (·.name == name)).map (fun m => (m.path.toList.isEmpty, m.func)) = some (true, some (f, false)))
  (hd : (P.underlying t).map (fun d => match d with | .pointer _ => false | _ => true) = some true) : MV P t name f := ⟨fun h F v Q H => by
 obtain ⟨m, h1, h2⟩ := Option.map_eq_some_iff.1 hm
 obtain ⟨i, h3, h4⟩ := Option.bind_eq_some_iff.1 h1
 obtain ⟨d, h5, h6⟩ := Option.map_eq_some_iff.1 hd
 simp only [Prod.mk.injEq] at h2
 have hp : m.path.toList = [] := by simpa using h2.1
 have : TD P t d := ⟨h5⟩
 rw [show P.types.size + Made.depth = (P.types.size + 99) + 1 from rfl]
 generalize P.types.size + 99 = n
 simp only [method, bind_eq, pure_eq, bind_assoc, trb_typeInfo h3, h4, hp, follow, bind_pure, h2.2, receiverAt, trb_underlying]
 cases d <;> first | (simp at h6; done) | (simp only [Place.get, pure_eq, bind_pure]; exact H)⟩

def isNI : TypeDesc → Bool
 | .interface _ => false
 | _ => true
/-- A type that is no interface. -/
class NI (P : Program) (t : TypeId) : Prop where
 out : (P.underlying t).map isNI = some true
theorem yfcN {x : Cx} {ρ : Env} {S : Frag → Prop} {o : Oper} {t : TypeId} {y : Operand} {u : Value} (ho : o.op = .makeInterface t y) [i : NI x.P t] (hy : ev ρ y = some u) : Yv x S ρ o (.iface t u) := by
 obtain ⟨d, h1, h2⟩ := Option.map_eq_some_iff.1 i.out
 have : TD x.P t d := ⟨h1⟩
 exact y_iface ho (fun ms e => by subst e; cases h2) hy
/-- Interface values beside nil. -/
theorem eq_nil {P : Program} {t : TypeId} {ms : Array (String × TypeId)} [TD P t (.interface ms)] {h : Hp} {F : Frag} {β : Type} {f : Bool → Sem β} {Q : β → Frag → Prop} (d : Nat) : tr P h ((Op.equalIn (d + 1) t .nilIface .nilIface).bind f) F Q = tr P h (f true) F Q := by
 simp only [Op.equalIn, bind_eq, pure_eq, bind_assoc, bind_pure, trb_underlying]
theorem eq_nil' {P : Program} {t t₁ : TypeId} {u : Value} {ms : Array (String × TypeId)} [TD P t (.interface ms)] {h : Hp} {F : Frag} {β : Type} {f : Bool → Sem β} {Q : β → Frag → Prop} (d : Nat) : tr P h ((Op.equalIn (d + 1) t (.iface t₁ u) .nilIface).bind f) F Q = tr P h (f false) F Q := by
 simp only [Op.equalIn, bind_eq, pure_eq, bind_assoc, bind_pure, trb_underlying]
theorem equal_succ (t : TypeId) (a b : Value) : ∃ d, Op.equal t a b = Op.equalIn (d + 1) t a b := ⟨9999, rfl⟩

section
variable {x : Cx} {Q : Post} {ρ : Env} {ds : List Deferred} {F : Frag} {ops : Array Oper} {S : Frag → Prop} {i : Nat} {rest : List Nat} {o : Oper} {v : Value} {d : Tmp} {ty : TypeId} {pos : String} {aft : Array Edge} {g : Option (Nat × Bool)} {L : Frag}
theorem y_nilT {t t' : TypeId} {ms : Array (String × TypeId)} {y : Operand} (ho : o.op = .binOp .eql t y (.const .nilIface) t') [TD x.P t (.interface ms)] (hy : ev ρ y = some .nilIface) : Yv x S ρ o (.bool true) := fun e he F hF h' hE => by
 have hc : e (.const .nilIface) = .nilIface := he _ _ rfl
 have hg : eqGuard .eql t y (.const .nilIface) .nilIface .nilIface = .pure () := by
  simp [eqGuard, pure_eq]
 obtain ⟨dd, hdd⟩ := equal_succ t .nilIface .nilIface
 simp only [execOp, ho, he y _ hy, hc, hg, binOp, hdd, bind_eq, pure_eq, bind_assoc, bind_pure, eq_nil]
 exact ⟨rfl, rfl⟩
theorem y_nilF {t t' t₁ : TypeId} {u : Value} {ms : Array (String × TypeId)} {y : Operand} (ho : o.op = .binOp .eql t y (.const .nilIface) t') [TD x.P t (.interface ms)] (hy : ev ρ y = some (.iface t₁ u)) : Yv x S ρ o (.bool false) := fun e he F hF h' hE => by
 have hc : e (.const .nilIface) = .nilIface := he _ _ rfl
 have hg : eqGuard .eql t y (.const .nilIface) (.iface t₁ u) .nilIface = .pure () := by
  simp [eqGuard, pure_eq]
 obtain ⟨dd, hdd⟩ := equal_succ t (.iface t₁ u) .nilIface
 simp only [execOp, ho, he y _ hy, hc, hg, binOp, hdd, bind_eq, pure_eq, bind_assoc, bind_pure, eq_nil']
 exact ⟨rfl, rfl⟩
theorem y_nnilT {t t' t₁ : TypeId} {u : Value} {ms : Array (String × TypeId)} {y : Operand} (ho : o.op = .binOp .neq t y (.const .nilIface) t') [TD x.P t (.interface ms)] (hy : ev ρ y = some (.iface t₁ u)) : Yv x S ρ o (.bool true) := fun e he F hF h' hE => by
 have hc : e (.const .nilIface) = .nilIface := he _ _ rfl
 have hg : eqGuard .neq t y (.const .nilIface) (.iface t₁ u) .nilIface = .pure () := by
  simp [eqGuard, pure_eq]
 obtain ⟨dd, hdd⟩ := equal_succ t (.iface t₁ u) .nilIface
 simp only [execOp, ho, he y _ hy, hc, hg, binOp, hdd, bind_eq, pure_eq, bind_assoc, bind_pure, eq_nil']
 exact ⟨rfl, rfl⟩
theorem y_nnilF {t t' : TypeId} {ms : Array (String × TypeId)} {y : Operand} (ho : o.op = .binOp .neq t y (.const .nilIface) t') [TD x.P t (.interface ms)] (hy : ev ρ y = some .nilIface) : Yv x S ρ o (.bool false) := fun e he F hF h' hE => by
 have hc : e (.const .nilIface) = .nilIface := he _ _ rfl
 have hg : eqGuard .neq t y (.const .nilIface) .nilIface .nilIface = .pure () := by
  simp [eqGuard, pure_eq]
 obtain ⟨dd, hdd⟩ := equal_succ t .nilIface .nilIface
 simp only [execOp, ho, he y _ hy, hc, hg, binOp, hdd, bind_eq, pure_eq, bind_assoc, bind_pure, eq_nil]
 exact ⟨rfl, rfl⟩

variable {args : List Operand} {ts : Array TypeId} {vs : List Value} {y : Operand} {name : String} {t : TypeId} {u r : Value} {f : FuncId}
theorem e_invoke0 {R : Value → Frag → Prop} (ho : o.op = .call ⟨.invoke y name, args.toArray, ts⟩) (hy : ev ρ y = some (.iface t u)) [mv : MV x.P t name f] [FB x.P f] (hv : evs ρ args = some vs) (H : ∀ h', Ext x.h h' → Lent F h' → Pu x.P x.main f (u :: vs).toArray h' r) (K : ∀ A, Shut A → R r (A ++ F)) : Ef x ρ o F R :=
 e_invoke ho hy hv (Seg.head (A := []) (G := F)) H fun v A' hv => by
  obtain ⟨rfl, hs⟩ := hv
  exact K A' hs
/-- A method of an interface value answers. -/
theorem ci (H : ∀ h', Ext x.h h' → Lent F h' → Pu x.P x.main f (u :: vs).toArray h' r) (K : Ops x ops rest Q ((d, r) :: ρ) ds F) (ho : nthO ops.toList i = some ⟨some d, .call ⟨.invoke y name, args.toArray, ts⟩, ty, pos, aft, g⟩ := by rfl) (hy : ev ρ y = some (.iface t u) := by rfl) [mv : MV x.P t name f] [FB x.P f] (hv : evs ρ args = some vs := by rfl)
  (hw : want ops ρ ⟨some d, .call ⟨.invoke y name, args.toArray, ts⟩, ty, pos, aft, g⟩ := by first | exact wn | exact want_some rfl rfl rfl) (hd : Nat.blt d x.n = true := by rfl) : Ops x ops (i :: rest) Q ρ ds F :=
 Ops.eff (o := ⟨some d, .call ⟨.invoke y name, args.toArray, ts⟩, ty, pos, aft, g⟩) (e_invoke0 rfl hy hv H fun A hs => Ops.sb (Sb.left .refl hs) K) (nthO_get ho) hw hd rfl
theorem aci {fuel listed : Nat} (H : ∀ h', Ext x.h h' → Lent F h' → Pu x.P x.main f (u :: vs).toArray h' r) (K : Any x ops L fuel (listed ||| 2 ^ i) Q ((d, r) :: ρ) ds F) (hS : lastT ops i = true ∨ Keeps L F := by first | exact .inr (by repeat (first | exact fun _ h => h | exact fun _ h => absurd h List.not_mem_nil | apply Keeps.cons | apply Keeps.app)) | exact .inl (by kernel_rfl))
  (ho : nthO ops.toList i = some ⟨some d, .call ⟨.invoke y name, args.toArray, ts⟩, ty, pos, aft, g⟩ := by rfl) (hy : ev ρ y = some (.iface t u) := by rfl) [mv : MV x.P t name f] [FB x.P f] (hv : evs ρ args = some vs := by rfl)
  (hw : wantε ops (look ρ) ⟨some d, .call ⟨.invoke y name, args.toArray, ts⟩, ty, pos, aft, g⟩ true := by first | exact an | exact wantε_some rfl rfl rfl rfl) (hd : Nat.blt d x.n = true := by rfl) (hr : rdys ops listed = [i] := by kernel_rfl) : Any x ops L (fuel + 1) listed Q ρ ds F :=
 Any.eff (o := ⟨some d, .call ⟨.invoke y name, args.toArray, ts⟩, ty, pos, aft, g⟩) (e_invoke0 rfl hy hv H fun A hs => ⟨hS.imp id fun k p hp => List.mem_append_right _ (k p hp), Any.sb (Sb.left .refl hs) K⟩) hr (nthO_get ho) hw hd rfl
end
end Go.Mus

/- Functions of the library without a body: asked of the program's tables. Conditions: none; over any program. -/
namespace Go.Mus
/-- What a computation comes to that only looks at the program. -/
def pev {α : Type} (P : Program) : Sem α → Option α
 | .pure a => some a
 | .program k => pev P (k P)
 | _ => none
theorem pev_tr {α : Type} {P : Program} {h : Hp} : ∀ {s : Sem α} {a : α} {F : Frag} {Q : α → Frag → Prop}, pev P s = some a → Q a F → tr P h s F Q
 | .pure b, a, F, Q, e, H => by simp only [pev, Option.some.injEq] at e; subst e; exact H
 | .program k, a, F, Q, e, H => pev_tr (s := k P) e H
 | .load .., _, _, _, e, _ => by cases e
 | .store .., _, _, _, e, _ => by cases e
 | .new .., _, _, _, e, _ => by cases e
 | .shape .., _, _, _, e, _ => by cases e
 | .freeze .., _, _, _, e, _ => by cases e
 | .frozen .., _, _, _, e, _ => by cases e
 | .getObj .., _, _, _, e, _ => by cases e
 | .setObj .., _, _, _, e, _ => by cases e
 | .choose .., _, _, _, e, _ => by cases e
 | .sys .., _, _, _, e, _ => by cases e
 | .mark .., _, _, _, e, _ => by cases e
 | .halt _, _, _, _, e, _ => by cases e

/-- A function without a body, and what it does. -/
class XF (P : Program) (f : FuncId) (e : outParam (Array Value → Sem Value)) : Prop where
 out : ∃ fn, P.funcs[f]? = some fn ∧ (fn.name == "runtime.NumGoroutine") = false ∧ fn.body.isNone = true ∧ (Extern.findNext fn).isNone = true ∧ Extern.find fn = some e

theorem tr_callX {P : Program} {main : Side} {h : Hp} {F : Frag} {f : FuncId} {e : Array Value → Sem Value} [i : XF P f e] {args : Array Value} {R : Value → Frag → Prop} (H : tr P h (e args) F R) : tr P h (callFunc f args) F (nextOK P main h R) := by
 obtain ⟨fn, h1, h2, h3, h4, h5⟩ := i.out
 have h4' : Extern.findNext fn = none := by simpa using h4
 simp only [callFunc, bind_eq, pure_eq, trb_program, h1, h2, h3, h4', h5, Bool.false_eq_true, if_false, if_true]
 refine ⟨rfl, ?_⟩
 show tr P h ((e args).bind fun v => .pure (Next.value v)) F (nextOK P main h R)
 exact tr_bind (tr_mono H fun v F' r => r)

section
variable {x : Cx} {Q : Post} {ρ : Env} {ds : List Deferred} {F : Frag} {ops : Array Oper} {i : Nat} {rest : List Nat} {d : Tmp} {ty : TypeId} {pos : String} {aft : Array Edge} {g : Option (Nat × Bool)}
variable {args : List Operand} {ts : Array TypeId} {vs : List Value} {f : FuncId} {e : Array Value → Sem Value} {y : Operand} {name : String} {t : TypeId} {u r u' : Value}
/-- A call of one. -/
theorem cx {R : Value → Frag → Prop} (H : ∀ h', Ext x.h h' → tr x.P h' (e vs.toArray) F R) (K : ∀ v F', R v F' → Ops x ops rest Q ((d, v) :: ρ) ds F') (ho : nthO ops.toList i = some ⟨some d, .call ⟨.value (.func f), args.toArray, ts⟩, ty, pos, aft, g⟩ := by rfl) [XF x.P f e] (hv : evs ρ args = some vs := by rfl)
  (hw : want ops ρ ⟨some d, .call ⟨.value (.func f), args.toArray, ts⟩, ty, pos, aft, g⟩ := by first | exact wn | exact want_some rfl rfl rfl) (hd : Nat.blt d x.n = true := by rfl) : Ops x ops (i :: rest) Q ρ ds F :=
 Ops.eff (o := ⟨some d, .call ⟨.value (.func f), args.toArray, ts⟩, ty, pos, aft, g⟩) (fun ee he => ⟨F, [], by simp, fun h' e1 e2 => by
  have e3 : ee (.func f) = .func (.func f) #[] #[] := he _ _ rfl
  simp only [execOp, resolve, Deferred.ofValue, e3, bind_eq, pure_eq, bind_pure, invoke, List.map_toArray, evs_map he hv, List.append_toArray, List.nil_append, List.append_nil]
  exact tr_callX (tr_mono (H h' e1) fun v F' q => ⟨F', by simp, K v F' q⟩)⟩) (nthO_get ho) hw hd rfl
theorem cxp (hp : pev x.P (e vs.toArray) = some r) (K : Ops x ops rest Q ((d, r) :: ρ) ds F) (ho : nthO ops.toList i = some ⟨some d, .call ⟨.value (.func f), args.toArray, ts⟩, ty, pos, aft, g⟩ := by rfl) [XF x.P f e] (hv : evs ρ args = some vs := by rfl)
  (hw : want ops ρ ⟨some d, .call ⟨.value (.func f), args.toArray, ts⟩, ty, pos, aft, g⟩ := by first | exact wn | exact want_some rfl rfl rfl) (hd : Nat.blt d x.n = true := by rfl) : Ops x ops (i :: rest) Q ρ ds F :=
 cx (R := fun v F' => v = r ∧ F' = F) (fun h' _ => pev_tr hp ⟨rfl, rfl⟩) (fun v F' ⟨h1, h2⟩ => by subst h1 h2; exact K) ho hv hw hd
/-- A method of an interface value that has no body. -/
theorem cix (hm : pev x.P (method (x.P.types.size + Made.depth) t u name) = some (f, u')) (hp : pev x.P (e (u' :: vs).toArray) = some r) (K : Ops x ops rest Q ((d, r) :: ρ) ds F) (ho : nthO ops.toList i = some ⟨some d, .call ⟨.invoke y name, args.toArray, ts⟩, ty, pos, aft, g⟩ := by rfl) [XF x.P f e] (hy : ev ρ y = some (.iface t u) := by rfl) (hv : evs ρ args = some vs := by rfl)
  (hw : want ops ρ ⟨some d, .call ⟨.invoke y name, args.toArray, ts⟩, ty, pos, aft, g⟩ := by first | exact wn | exact want_some rfl rfl rfl) (hd : Nat.blt d x.n = true := by rfl) : Ops x ops (i :: rest) Q ρ ds F :=
 Ops.eff (o := ⟨some d, .call ⟨.invoke y name, args.toArray, ts⟩, ty, pos, aft, g⟩) (fun ee he => ⟨F, [], by simp, fun h' e1 e2 => by
  have e3 : ((#[Value.iface t u] ++ vs.toArray)[0]? : Option Value) = some (.iface t u) := by simp
  have e4 : (#[Value.iface t u] ++ vs.toArray).extract 1 (#[Value.iface t u] ++ vs.toArray).size = vs.toArray := by
   apply Array.ext'
   simp
  simp only [execOp, resolve, he y _ hy, bind_eq, pure_eq, bind_pure, List.map_toArray, evs_map he hv, invoke, e3, e4, callMethod, trb_program]
  refine tr_bind (pev_tr hm ?_)
  have e5 : #[u'] ++ vs.toArray = (u' :: vs).toArray := by simp
  simp only [e5]
  exact tr_callX (pev_tr hp ⟨F, by simp, K⟩)⟩) (nthO_get ho) hw hd rfl
end
end Go.Mus

/- Two answering operations in an open order. Conditions: none; over any program. -/
namespace Go.Mus
section
variable {x : Cx} {Q : Post} {ρ : Env} {ds : List Deferred} {F : Frag} {ops : Array Oper} {d : Tmp} {ty : TypeId} {pos : String} {aft : Array Edge} {g : Option (Nat × Bool)}
variable {args : List Operand} {ts : Array TypeId} {vs : List Value} {y : Operand} {name : String} {t : TypeId} {u r : Value} {f : FuncId}
/-- An operation that answers, whatever is done with it. -/
def An (x : Cx) (ρ : Env) (o : Oper) (F : Frag) (u : Value) : Prop := ∀ R : Value → Frag → Prop, (∀ A, Shut A → R u (A ++ F)) → Ef x ρ o F R
theorem An.oy {o : Oper} {u : Value} (hy : Yv x (· = F) ρ o u) : An x ρ o F u := fun R H => Ef.of_y hy (by simpa using H [] .nil)
theorem An.oi {o : Oper} (ho : o.op = .call ⟨.invoke y name, args.toArray, ts⟩) (hy : ev ρ y = some (.iface t u)) [mv : MV x.P t name f] [FB x.P f] (hv : evs ρ args = some vs) (H : ∀ h', Ext x.h h' → Lent F h' → Pu x.P x.main f (u :: vs).toArray h' r) : An x ρ o F r := fun R K => e_invoke0 ho hy hv H K
/-- Two that may come up in either order, both answering. -/
theorem a2g {fuel listed i j d d' : Nat} {op op' : Op} {ty' : TypeId} {pos' : String} {aft' : Array Edge} {g' : Option (Nat × Bool)} {v w : Value} (ho : nthO ops.toList i = some ⟨some d, op, ty, pos, aft, g⟩) (ho' : nthO ops.toList j = some ⟨some d', op', ty', pos', aft', g'⟩)
  (hy : An x ρ ⟨some d, op, ty, pos, aft, g⟩ F v) (hy2 : An x ((d', w) :: ρ) ⟨some d, op, ty, pos, aft, g⟩ F v) (hy' : An x ρ ⟨some d', op', ty', pos', aft', g'⟩ F w) (hy2' : An x ((d, v) :: ρ) ⟨some d', op', ty', pos', aft', g'⟩ F w)
  (hw : wantε ops (look ρ) ⟨some d, op, ty, pos, aft, g⟩ true) (hw2 : wantε ops (look ((d', w) :: ρ)) ⟨some d, op, ty, pos, aft, g⟩ true) (hw' : wantε ops (look ρ) ⟨some d', op', ty', pos', aft', g'⟩ true) (hw2' : wantε ops (look ((d, v) :: ρ)) ⟨some d', op', ty', pos', aft', g'⟩ true)
  (hd : Nat.blt d x.n = true) (hd' : Nat.blt d' x.n = true) (hn : noDefer op = true) (hn' : noDefer op' = true)
  (H : Any x ops [] fuel ((listed ||| 2 ^ i) ||| 2 ^ j) Q ((d', w) :: (d, v) :: ρ) ds F) (hne : Nat.beq d d' = false := by rfl)
  (hr : rdys ops listed = [i, j] := by kernel_rfl) (hr1 : rdys ops (listed ||| 2 ^ i) = [j] := by kernel_rfl) (hr2 : rdys ops (listed ||| 2 ^ j) = [i] := by kernel_rfl) : Any x ops [] (fuel + 2) listed Q ρ ds F := by
 have hk : ∀ F : Frag, Keeps [] F := fun _ p hp => by cases hp
 refine Any.eff2 (o := ⟨some d, op, ty, pos, aft, g⟩) (o' := ⟨some d', op', ty', pos', aft', g'⟩) hr (nthO_get ho) (nthO_get ho') hw hw' hd hd' hn hn' (hy _ fun A hA => ⟨.inr (hk _), Any.sb (Sb.left .refl hA) ?_⟩) (hy' _ fun A hA => ⟨.inr (hk _), Any.sb (Sb.left .refl hA) ?_⟩)
 ·exact Any.eff (o := ⟨some d', op', ty', pos', aft', g'⟩) (hy2' _ fun A hA => ⟨.inr (hk _), Any.sb (Sb.left .refl hA) H⟩) hr1 (nthO_get ho') hw2' hd' hn'
 ·refine Any.eff (o := ⟨some d, op, ty, pos, aft, g⟩) (hy2 _ fun A hA => ⟨.inr (hk _), Any.sb (Sb.left .refl hA) ?_⟩) hr2 (nthO_get ho) hw2 hd hn
  have e1 : (listed ||| 2 ^ j) ||| 2 ^ i = (listed ||| 2 ^ i) ||| 2 ^ j := by rw [Nat.or_assoc, Nat.or_comm (2 ^ j), ← Nat.or_assoc]
  have e2 : look ((d, v) :: (d', w) :: ρ) = look ((d', w) :: (d, v) :: ρ) := by
   funext t
   show (bif Nat.beq t d then some v else bif Nat.beq t d' then some w else look ρ t) = (bif Nat.beq t d' then some w else bif Nat.beq t d then some v else look ρ t)
   cases h1 : Nat.beq t d with
   | false => rfl
   | true =>
    have : t = d := Nat.eq_of_beq_eq_true h1
    subst this
    rw [hne]; rfl
  rw [e1]
  unfold Any at H ⊢
  show anyT _ _ _ _ _ _ (look ((d, v) :: (d', w) :: ρ)) _
  rw [e2]
  exact H
end
end Go.Mus

/- A loop over a function that may be left: what is owned then is told apart. Conditions: none; over any program. -/
namespace Go.Mus
/-- ████ A LOOP OVER A FUNCTION, in a frame that is no round. -/
theorem W.rangeN {x : Cx} {Q : Post} {ρ : Env} {ds : List Deferred} {F : Frag} {f : Operand} {t : Tmp} {us bd : Code} {fv : Value} {X σ : Type} {enc : X → Value} {xs : List X} (hf : ev ρ f = some fv) (hro : x.ro = none) (ht : Nat.blt t x.n = true)
  (st : σ → X → σ) (ex : σ → X → Option Exit) (nx : X → σ → Prop) (D X' : σ → Frag → Prop) (s₀ : σ) {A₀ : Frag} {U₀ : Frag → Frag} (hs : Seg A₀ F U₀) (h0 : D s₀ A₀)
  (hi : ∀ h', Ext x.h h' → Lent (U₀ []) h' → Iter x.P x.main fv enc xs h')
  (hex : ∀ s p e, ex s p = some e → (jumpC e).isSome = true)
  (hnx : ∀ pre p post s', xs = pre ++ p :: post → runs (rstep st ex) (s₀, none) pre = ((s', none), true) → nx p s')
  (body : ∀ s p A, nx p s → D s A → ∀ l h', Ext x.h h' → Lent (U₀ []) h' → W { x with ro := some l, h := h' } us (fun e ρ₁ ds₁ F₁ => e = .normal ∧ ds₁ = [] ∧ ∀ h', Ext x.h h' → Lent (U₀ []) h' →
   W { x with ro := some l, h := h' } bd (fun e _ ds₂ F₂ => ds₂ = [] ∧ e = wayOut (ex s p) ∧ ∃ B, (match ex s p with | none => D (st s p) B | some _ => X' (st s p) B) ∧ Sb B F₂) ρ₁ [] F₁) ((t, enc p) :: ρ) [] A)
  (after : ∀ s e A, (runs (rstep st ex) (s₀, none) xs).1 = (s, e) → (match e with | none => D s A | some _ => X' s A) → ∀ d, Q (wayOut e) ρ (mark d :: ds) ((d, .deferred (some [])) :: U₀ A)) : W x (.rangeFunc f #[t] us bd) Q ρ ds F := by
 refine W.rangeFunc hf hro fun tmps hρ hsz l d => ?_
 let L (s : LoopState) (pd : Option Code) : Obj := .loop { state := s, pending := pd, fn := x.fn, tmps, params := #[t], assign := us, body := bd, defers := d }
 let J : σ × Option Exit → Frag → Prop := fun s A => s.2 = none ∧ ∃ B, D s.1 B ∧ A = B ++ [(l, L .ready none)]
 let K : σ × Option Exit → Frag → Prop := fun s A => ∃ B c, X' s.1 B ∧ s.2.bind jumpC = some c ∧ A = B ++ [(l, L .done (some c))]
 -- the frame: the loop's state, the loop's block, the rest
 refine ⟨A₀ ++ [(l, L .ready none)], (d, .deferred (some [])) :: U₀ [], fun _ A' => Out J K (runs (rstep st ex) (s₀, none) xs) A', ?_, ?_, ?_⟩
 ·refine (List.perm_append_comm.append_right _).trans ?_
  refine List.Perm.cons _ ?_
  exact List.perm_middle.trans (hs.perm.1.cons _)
 ·intro h' e1 e2
  have e3 : Lent (U₀ []) h' := fun b o hb => e2 b o (List.mem_cons_of_mem _ hb)
  refine hi h' e1 e3 h' ⟨fun _ _ z => z, fun _ z => z⟩ _ rfl (σ × Option Exit) (fun p s => s.2 = none → nx p s.1) (rstep st ex) J K ?_ (s₀, none) _ (fun pre p post s' e hr hn => hnx pre p post s'.1 e (by rw [hr, ← hn])) ⟨rfl, A₀, h0, rfl⟩
  -- a round
  rintro h'' e4 ⟨s, e⟩ p A hp ⟨rfl, B, hB, rfl⟩
  have hE : Ext x.h h'' := e1.trans e4
  have hL : Lent (U₀ []) h'' := fun b o hb => e4.1 _ _ (e3 b o hb)
  refine ⟨_, _, _, rfl, ?_⟩
  simp only [invoke, Instr.yield, Instr.getLoop, bind_eq, pure_eq, bind_assoc]
  refine ⟨L .ready none, .inr (List.mem_append_right _ (List.mem_cons_self ..)), (fun _ _ _ => by simp [L]), rfl, ?_⟩
  have ez : Array.foldl (fun (tmps : Array Value) (x : Tmp × Value) => tmps.setIfInBounds x.1 x.2) tmps (#[t].zip #[enc p]) = tmps.setIfInBounds t (enc p) := by simp
  show nextOK x.P x.main h'' _ (.round l x.fn (Array.foldl (fun (tmps : Array Value) (x : Tmp × Value) => tmps.setIfInBounds x.1 x.2) tmps (#[t].zip #[enc p])) us bd) _
  rw [ez]
  have hlt : t < tmps.size := by rw [hsz]; exact Nat.le_of_ble_eq_true ht
  have hρ' : EnvOK ((t, enc p) :: ρ) (tmps.setIfInBounds t (enc p)) := hρ.put hlt _
  have hsz' : (tmps.setIfInBounds t (enc p)).size = x.n := by simpa using hsz
  show Rnd x.P x.main l x.fn (tmps.setIfInBounds t (enc p)) us bd h'' _ _
  refine Rnd.of_body _ hρ' ?_
  rw [hsz']
  -- the assignment; the loop's block is lent meanwhile
  refine (W.frame (x := { x with ro := some l, h := h'' }) fun h₃ e5 _ => body s p B (hp rfl) hB l h₃ (hE.trans e5) (fun b o hb => e5.1 _ _ (hL b o hb))).mono ?_
  rintro e ρ₁ ds₁ F₁ ⟨A', ⟨rfl, rfl, hbd⟩, rfl⟩
  refine ⟨rfl, rfl, ?_⟩
  simp only [Instr.beginRound, Instr.getLoop, bind_eq, pure_eq, bind_assoc]
  refine ⟨L .ready none, .inr (List.mem_append_right _ (List.mem_cons_self ..)), (fun _ _ _ => by simp [L]), rfl, ?_⟩
  refine ⟨L .ready none, A', [], rfl, (fun _ _ _ => by simp [L]), rfl, ?_⟩
  show W _ _ _ _ _ (A' ++ [(l, L .busy none)])
  -- the body; the block is lent again
  refine (W.frame (x := { x with ro := some l, h := h'' }) fun h₃ e5 _ => hbd h₃ (hE.trans e5) (fun b o hb => e5.1 _ _ (hL b o hb))).mono ?_
  rintro e ρ₂ ds₂ F₂ ⟨A₂, ⟨rfl, rfl, B₂, hB₂, hsb⟩, rfl⟩
  refine ⟨rfl, (ex s p).bind jumpC, jumpOf_wayOut fun e he => hex s p e he, ?_⟩
  simp only [Instr.endRound, Instr.getLoop, bind_eq, pure_eq, bind_assoc]
  refine ⟨L .busy none, .inr (List.mem_append_right _ (List.mem_cons_self ..)), (fun _ _ _ => by simp [L]), rfl, ?_⟩
  refine ⟨L .busy none, A₂, [], rfl, (fun _ _ _ => by simp [L]), rfl, ?_⟩
  cases he : ex s p with
  | none =>
   simp only [he] at hB₂
   refine ⟨by simp [rstep, he], B₂ ++ [(l, L .ready none)], hsb.app .refl, ?_⟩
   simp only [rstep, he]
   exact ⟨rfl, B₂, hB₂, rfl⟩
  | some e =>
   simp only [he] at hB₂
   obtain ⟨c, hc⟩ := Option.isSome_iff_exists.1 (hex s p e he)
   have hj : (some e : Option Exit).bind jumpC = some c := hc
   refine ⟨by simp [rstep, he, hc], B₂ ++ [(l, L .done (some c))], ?_, ?_⟩
   ·rw [hj]; exact hsb.app .refl
   ·simp only [rstep, he]
    exact ⟨B₂, c, hB₂, hj, rfl⟩
 ·rintro _ A' ⟨B, hsub, hB⟩
  refine ⟨B, hsub, ?_⟩
  generalize hr : runs (rstep st ex) (s₀, none) xs = r at hB
  obtain ⟨⟨s, e⟩, b⟩ := r
  have hrs := runs_rstep hr
  have haft := fun A hA => after s e A (by rw [hr]) hA d
  simp only [Instr.endLoop, Instr.getLoop, bind_eq, pure_eq, bind_assoc]
  cases b with
  | true =>
   obtain ⟨he, A, hA, rfl⟩ := hB
   simp only at he
   subst he
   refine ⟨L .ready none, .inr (List.mem_append_left _ (List.mem_append_right _ (List.mem_cons_self ..))), (fun _ _ _ => by simp [L]), rfl, ?_⟩
   refine ⟨L .ready none, A, (d, .deferred (some [])) :: U₀ [], by simp, (fun _ _ _ => by simp [L]), rfl, ?_⟩
   refine ⟨(d, .deferred (some [])) :: U₀ A, ?_, haft A hA⟩
   refine Sb.trans (Sb.of_perm ((hs.perm.2 A).cons _)) ?_
   refine (Sb.of_perm List.perm_middle.symm).trans (Sb.app .refl (Sb.skip rfl .refl))
  | false =>
   obtain ⟨A, c, hA, hc, rfl⟩ := hB
   simp only at hc
   obtain ⟨e, rfl, he⟩ := Option.bind_eq_some_iff.1 hc
   refine ⟨L .done (some c), .inr (List.mem_append_left _ (List.mem_append_right _ (List.mem_cons_self ..))), (fun _ _ _ => by simp [L]), rfl, ?_⟩
   refine ⟨L .done (some c), A, (d, .deferred (some [])) :: U₀ [], by simp, (fun _ _ _ => by simp [L]), rfl, ?_⟩
   show W x c Q ρ (mark d :: ds) _
   refine W.sb (F' := (d, .deferred (some [])) :: U₀ A) ?_ ?_
   ·refine Sb.trans (Sb.of_perm ((hs.perm.2 A).cons _)) ?_
    refine (Sb.of_perm List.perm_middle.symm).trans (Sb.app .refl (Sb.skip rfl .refl))
   ·have q := haft A hA
    cases e <;> simp only [jumpC, Option.some.injEq] at he <;> first | (cases he; done) | subst he
    ·exact W.exit q
    ·exact W.goto q
    ·exact W.ret q

/-- .. whichever element may come. -/
theorem W.rangeX {x : Cx} {Q : Post} {ρ : Env} {ds : List Deferred} {F : Frag} {f : Operand} {t : Tmp} {us bd : Code} {fv : Value} {X σ : Type} {enc : X → Value} {xs : List X} (hf : ev ρ f = some fv) (hro : x.ro = none) (ht : Nat.blt t x.n = true)
  (st : σ → X → σ) (ex : σ → X → Option Exit) (D X' : σ → Frag → Prop) (s₀ : σ) {A₀ : Frag} {U₀ : Frag → Frag} (hs : Seg A₀ F U₀) (h0 : D s₀ A₀)
  (hi : ∀ h', Ext x.h h' → Lent (U₀ []) h' → Iter x.P x.main fv enc xs h')
  (hex : ∀ s p e, ex s p = some e → (jumpC e).isSome = true)
  (body : ∀ s p A, p ∈ xs → D s A → ∀ l h', Ext x.h h' → Lent (U₀ []) h' → W { x with ro := some l, h := h' } us (fun e ρ₁ ds₁ F₁ => e = .normal ∧ ds₁ = [] ∧ ∀ h', Ext x.h h' → Lent (U₀ []) h' →
   W { x with ro := some l, h := h' } bd (fun e _ ds₂ F₂ => ds₂ = [] ∧ e = wayOut (ex s p) ∧ ∃ B, (match ex s p with | none => D (st s p) B | some _ => X' (st s p) B) ∧ Sb B F₂) ρ₁ [] F₁) ((t, enc p) :: ρ) [] A)
  (after : ∀ s e A, (runs (rstep st ex) (s₀, none) xs).1 = (s, e) → (match e with | none => D s A | some _ => X' s A) → ∀ d, Q (wayOut e) ρ (mark d :: ds) ((d, .deferred (some [])) :: U₀ A)) : W x (.rangeFunc f #[t] us bd) Q ρ ds F :=
 W.rangeN hf hro ht st ex (fun p _ => p ∈ xs) D X' s₀ hs h0 hi hex (fun pre p post s' e _ => by rw [e]; simp) body after

/-- A deferred call of a closure. -/
theorem Unw.fn {P : Program} {main : Side} {h : Hp} {ds : List Deferred} {F A : Frag} {U : Frag → Frag} {K R : Frag → Prop} {f : FuncId} [FB P f] {cap : Array Value} (hs : Seg A F U) (H : ∀ h', Ext h h' → Lent (U []) h' → FnD P main f cap h' A R) (k : ∀ A', R A' → Unw P main h ds (A' ++ U []) K) : Unw P main h ({ target := .fn (.func f) cap, args := #[] } :: ds) F K := by
 obtain ⟨fn, h1, h2, h3⟩ := FB.out (inferInstance : FB P f)
 show tr P h (callFunc f (#[] ++ cap)) F _
 simp only [callFunc, bind_eq, pure_eq, trb_program, h1, h2, h3, Bool.false_eq_true, if_false, Array.empty_append]
 exact ⟨f, cap, rfl, A, U [], hs.perm.1, fun h' e1 e2 => (H h' e1 e2).mono fun A' r => k A' r⟩
theorem leave_fn {P : Program} {main : Side} {fn : Func} {h : Hp} {R' : Value → Frag → Prop} {e : Exit} {ρ : Env} {ds : List Deferred} {F A : Frag} {U : Frag → Frag} {R : Frag → Prop} {f : FuncId} [FB P f] {cap : Array Value} (hs : Seg A F U) (H : ∀ h', Ext h h' → Lent (U []) h' → FnD P main f cap h' A R) (k : ∀ A', R A' → leave P main fn h R' e ρ ds (A' ++ U [])) (he : e = .ret ∨ e = .normal := by first | exact .inl rfl | exact .inr rfl) : leave P main fn h R' e ρ ({ target := .fn (.func f) cap, args := #[] } :: ds) F :=
 ⟨he, Unw.fn hs H fun A' r => (k A' r).2⟩
end Go.Mus

/- Scopes of labels; slices beside nil. Conditions: none; over any program. -/
namespace Go.Mus
theorem W.scope {x : Cx} {Q : Post} {ρ : Env} {ds : List Deferred} {F : Frag} {c : Code} (hg : ∀ l ρ ds F, ¬ Q (.goto l) ρ ds F) (H : W x c Q ρ ds F) : W x (.scope c) Q ρ ds F := by
 intro b k cs Stop tmps hk M h1 h0 h2 h3 h4 h5 hc
 refine .idle rfl (fun _ => st_scope) (H b (.inScope c :: k) cs Stop tmps hk M h1 h0 h2 h3 h4 h5 fun e ρ' ds' F' tmps' hk' M' q a1 a2 a3 a4 => ?_)
 cases e with
 | normal => exact .idle rfl (fun _ => st_inScope) (hc .normal _ _ _ _ _ _ q a1 a2 a3 a4)
 | exit id =>
  have e1 : exitTo id (.inScope c :: k) = exitTo id k := by simp [exitTo]
  have := hc (.exit id) _ _ _ _ _ _ q a1 a2 a3 a4
  simp only [After, e1] at this ⊢
  exact this
 | goto l => exact absurd q (hg _ _ _ _)
 | ret => exact hc .ret _ _ _ _ _ _ q a1 a2 a3 a4
 | panic ch => exact hc (.panic ch) _ _ _ _ _ _ q a1 a2 a3 a4
 | outgrown => exact hc .outgrown _ _ _ _ _ _ q a1 a2 a3 a4

theorem eq_sl {P : Program} {t E : TypeId} [TD P t (.slice E)] {h : Hp} {F : Frag} {β : Type} {f : Bool → Sem β} {Q : β → Frag → Prop} {a : Option Addr} {n c : Nat} (d : Nat) : tr P h ((Op.equalIn (d + 1) t (.slice a n c) (.slice none 0 0)).bind f) F Q = tr P h (f a.isNone) F Q := by
 cases a with
 | none => simp only [Op.equalIn, bind_eq, pure_eq, bind_assoc, bind_pure, trb_underlying]
 | some a => simp only [Op.equalIn, bind_eq, pure_eq, bind_assoc, bind_pure, trb_underlying]; rfl
theorem y_slNil {x : Cx} {ρ : Env} {S : Frag → Prop} {o : Oper} {t t' E : TypeId} {y : Operand} {a : Option Addr} {n c : Nat} (ho : o.op = .binOp .eql t y (.const (.slice none 0 0)) t') [TD x.P t (.slice E)] (hy : ev ρ y = some (.slice a n c)) : Yv x S ρ o (.bool a.isNone) := fun e he F hF h' hE => by
 have hc : e (.const (.slice none 0 0)) = .slice none 0 0 := he _ _ rfl
 have hg : eqGuard .eql t y (.const (.slice none 0 0)) (.slice a n c) (.slice none 0 0) = .pure () := by
  simp [eqGuard, pure_eq]
 obtain ⟨dd, hdd⟩ := equal_succ t (.slice a n c) (.slice none 0 0)
 simp only [execOp, ho, he y _ hy, hc, hg, binOp, hdd, bind_eq, pure_eq, bind_assoc, bind_pure, eq_sl]
 exact ⟨rfl, rfl⟩
/-- A loop in which marks are laid: what holds at each round's head, for a ghost 's'; a measure that every round lowers. -/
theorem W.loopD {x : Cx} {Q : Post} {ρ : Env} {F : Frag} {σ : Type} {c : Code} (Ds : σ → List Deferred) (C : σ → Prop) (E : σ → Env) (D : σ → Frag) (μ : σ → Nat) (s₀ : σ) (h₀ : C s₀) (he : Sub (E s₀) ρ) (hF : Sb (D s₀) F)
  (round : ∀ s, C s → W x c (thn (fun ρ' ds' F' => ∃ s', ds' = Ds s' ∧ C s' ∧ μ s' < μ s ∧ Sub (E s') ρ' ∧ Sb (D s') F') Q) (E s) (Ds s) (D s)) : W x (.loop c) Q ρ (Ds s₀) F := by
 refine W.env he (W.sb hF ?_)
 intro b k cs Stop tmps hk M h1 h0 h2 h3 h4 h5 hc
 refine .idle rfl (fun _ => st_loop) ?_
 have key : ∀ N s, μ s = N → C s → ∀ tmps hk M, EnvOK (E s) tmps → tmps.size = x.n → Sat x.h (D s) hk M → (∀ e ρ' ds' F' tmps' hk' M', Q e ρ' ds' F' → EnvOK ρ' tmps' → tmps'.size = x.n → Sat x.h F' hk' M' → Fr M (D s) M' F' → After x.P x.main Stop b k cs e tmps' ds' hk' M') →
   Gs x.P x.main Stop (G (fat b tmps (Ds s) (.code c :: .inLoop c :: k)) cs) hk M := by
  intro N
  induction N using Nat.strongRecOn with
  | _ N ih =>
   intro s hN hs tmps hk M h3 h4 h5 hc
   refine round s hs b (.inLoop c :: k) cs Stop tmps hk M h1 h0 h2 h3 h4 h5 fun e ρ' ds' F' tmps' hk' M' q a1 a2 a3 a4 => ?_
   cases e with
   | normal =>
    obtain ⟨s', rfl, c1, c2, c3, c4⟩ := q
    exact .idle rfl (fun _ => st_inLoop) (ih (μ s') (hN ▸ c2) s' rfl c1 tmps' hk' M' (a1.sub c3) a2 (a3.sb c4) fun e ρ₂ ds₂ F₂ tmps₂ hk₂ M₂ q₂ e1 e2 e3 e4 => hc e ρ₂ ds₂ F₂ tmps₂ hk₂ M₂ q₂ e1 e2 e3 (a4.trans (e4.sub fun _ y => c4.mem _ y)))
   | exit id => exact (hc _ _ _ _ _ _ _ q a1 a2 a3 a4).push rfl (by simp)
   | goto l => exact (hc _ _ _ _ _ _ _ q a1 a2 a3 a4).push rfl (by simp)
   | ret => exact (hc _ _ _ _ _ _ _ q a1 a2 a3 a4).push (x := .inLoop c) rfl (by simp)
   | panic ch => exact hc _ _ _ _ _ _ _ q a1 a2 a3 a4
   | outgrown => exact hc _ _ _ _ _ _ _ q a1 a2 a3 a4
 exact key _ s₀ rfl h₀ tmps hk M h3 h4 h5 hc


/-- Marks of loops over functions. -/
def marksD (l : List Nat) : List Deferred := l.map mark
def marksF (l : List Nat) : Frag := l.map fun d => (d, .deferred (some []))
theorem leave_marks' {P : Program} {main : Side} {fn : Func} {h : Hp} {R : Value → Frag → Prop} {e : Exit} {ρ : Env} {F : Frag} (H : ∀ Z, Shut Z → leave P main fn h R e ρ [] (Z ++ F)) : ∀ {l : List Nat} {Z : Frag}, Shut Z → leave P main fn h R e ρ (marksD l) (Z ++ (marksF l ++ F))
 | [], Z, hZ => H Z hZ
 | d :: l, Z, hZ => by
  refine lvm (U := fun o => Z ++ ((d, o) :: (marksF l ++ F))) (hl := .app .head) ?_
  have := leave_marks' H (l := l) (Z := Z ++ [(d, .deferred none)]) (hZ.app (.cons rfl .nil))
  rw [List.append_assoc] at this
  exact this
theorem leave_marksZ {P : Program} {main : Side} {fn : Func} {h : Hp} {R : Value → Frag → Prop} {e : Exit} {ρ : Env} (Z : Frag) {l : List Nat} (hZ : Shut Z) (H : ∀ Z, Shut Z → leave P main fn h R e ρ [] Z) : leave P main fn h R e ρ (marksD l) (Z ++ marksF l) := by
 have := leave_marks' (F := []) (l := l) (fun Z hZ => by rw [List.append_nil]; exact H Z hZ) hZ
 rwa [List.append_nil] at this
end Go.Mus

/- Short forms for senders. Conditions: none; over any program. -/
namespace Go.Mus
section
variable {x : Cx} {Q : Post} {ρ : Env} {ds : List Deferred} {F : Frag} {ops : Array Oper} {i : Nat} {rest : List Nat} {ty : TypeId} {pos : String} {aft : Array Edge} {g : Option (Nat × Bool)}
theorem Ops.deferClose {y : Operand} {c : Nat} {tys : Array TypeId} (H : Ops x ops rest Q ρ ({ target := .builtin .close tys ty (#[y].map fun | .const _ => true | _ => false), args := #[.chan (some c)] } :: ds) F) (hro : x.ro = none := by rfl) (ho : nthO ops.toList i = some ⟨none, .defer ⟨.builtin .close, #[y], tys⟩, ty, pos, aft, g⟩ := by rfl) (hy : ev ρ y = some (.chan (some c)) := by rfl)
  (hw : want ops ρ ⟨none, .defer ⟨.builtin .close, #[y], tys⟩, ty, pos, aft, g⟩ := by first | exact wn | exact want_some rfl rfl rfl) : Ops x ops (i :: rest) Q ρ ds F :=
 Ops.defer (o := ⟨none, .defer ⟨.builtin .close, #[y], tys⟩, ty, pos, aft, g⟩) hro (nthO_get ho) rfl hw rfl (fun e he => by have e3 : e y = _ := he y _ hy; simp only [resolve, List.map_toArray, List.map_cons, List.map_nil, e3, pure_eq]; rfl) H
end
theorem UnwC.marked {P : Program} {c d : Nat} {h : Hp} {ds : List Deferred} {F : Frag} {U : Obj → Frag} (hl : At d (.deferred (some [])) F U) (H : UnwC P c h ds (U (.deferred none))) : UnwC P c h (mark d :: ds) F := by
 obtain ⟨F1, F2, e1, e2⟩ := hl.split
 show tr P h (Instr.takeDeferred d) F fun l F' => l = [] ∧ UnwC P c h ds F'
 simp only [Instr.takeDeferred, bind_eq, pure_eq]
 refine ⟨.deferred (some []), .inr (e1 ▸ by simp), (fun _ _ _ => by simp), rfl, ?_⟩
 refine ⟨.deferred (some []), F1, F2, e1, (fun _ _ _ => by simp), rfl, rfl, ?_⟩
 rw [e2] at H
 exact H

theorem runs_tail {X : Type} : ∀ (pre xs : List X), runs (rstep (fun (s : List X) (_ : X) => s.tail) fun _ _ => none) (xs, none) pre = ((xs.drop pre.length, none), true)
 | [], xs => rfl
 | p :: pre, xs => by
  have h : runs (rstep (fun (s : List X) (_ : X) => s.tail) fun _ _ => none) (xs, none) (p :: pre) = runs (rstep (fun (s : List X) (_ : X) => s.tail) fun _ _ => none) (xs.tail, none) pre := by simp only [runs, rstep, Option.isNone_none]
  rw [h, runs_tail pre]
  cases xs <;> simp

/-- A slice that nobody writes any more. -/
def Zs (h : Hp) (v : Value) : Prop := ∀ b off n cap, v = .slice (some ⟨b, off, none⟩) n cap → h.z b
theorem Sl.told {α : Type} {row : α → List Value} {w : Nat} [Rw row w] {h : Hp} {c : Nat} {v : Value} {l : List α} (H : Sl h row v l) (hz : Zs h v) (hn : h c = none) : Sl (toldR h c) row v l := by
 obtain ⟨a, cap, rfl, hx⟩ := H
 refine ⟨a, cap, rfl, fun hne => ?_⟩
 obtain ⟨b, off, cc, E, fz, rfl, hb, hp⟩ := hx hne
 exact ⟨b, off, cc, E, fz, rfl, toldR_at hn (hz _ _ _ _ rfl) hb rfl, hp⟩
theorem Zs.ext {h h' : Hp} {v : Value} (H : Zs h v) (e : Ext h h') : Zs h' v := fun b off n cap hv => e.2 b (H b off n cap hv)

/-- A list's elements, each with what is still to come over it. -/
def chF (cs : List (Nat × List Value)) : Frag := cs.map fun c => (c.1, gch c.2)
def rowC (c : Nat) : List Value := [.chan (some c)]
instance : Rw rowC 1 := ⟨fun _ => rfl, fun _ => rfl⟩

theorem freezeOs {x : Cx} {c : Code} {Q : Post} {ρ : Env} {ds : List Deferred} {A F : Frag} {α : Type} {row : α → List Value} {w : Nat} [Rw row w] {E : TypeId} {v : Value} {l : List α} (hs : Os E row v l A)
  (H : ∀ h', Ext x.h h' → Sl h' row v l → Zs h' v → W { x with h := h' } c Q ρ ds F) : W x c Q ρ ds (A ++ F) := by
 rcases hs with ⟨rfl, rfl, hsh⟩ | ⟨β, cc, cap, J, rfl, rfl, h1, h2, h3, hsh⟩
 ·exact W.sb (Sb.left .refl hsh) (H x.h ⟨fun _ _ q => q, fun _ q => q⟩ .nil (fun b off n cap e => by cases e))
 ·refine W.freeze (b := β) rfl fun h' hE hb hz => ?_
  refine W.sb (F' := F) (Sb.left .refl hsh) (H h' hE (.mk hb rfl h3) (fun b off n cap e => by cases e; exact hz))
theorem Zs.nil {h : Hp} : Zs h (.slice none 0 0) := fun b off n cap e => by cases e

/-- What a receive answers: the next value, or the zero when all have come. -/
def rcO : List Value → Obj
 | [] => gshut
 | _ :: l => gch l
section rules
variable {x : Cx} {Q : Post} {ρ : Env} {ds : List Deferred} {F : Frag} {ops : Array Oper} {i : Nat} {rest : List Nat} {d : Tmp} {ty : TypeId} {pos : String} {aft : Array Edge} {g : Option (Nat × Bool)}
theorem Ops.recvL {ct el s' b' c : Nat} {dir : ChanDir} {z : Value} {zc : Array Value} {ch : Operand} {l : List Value} {u : Value} {U : Obj → Frag} (hS : ∀ S, x.main.ok S → ∃ Fin, S = Mn x.P Fin) (hb : x.main.b = true) [TD x.P ct (.chan dir el)] [TI x.P el s' b' z zc] (hu : l.headD z = u) (hl : At c (gch l) F U)
  (H : Ops x ops rest Q ((d, .tuple #[u, .bool (!l.isEmpty)]) :: ρ) ds (U (rcO l))) (ho : nthO ops.toList i = some ⟨some d, .recv ct ch true, ty, pos, aft, g⟩ := by rfl)
  (hw : want ops ρ ⟨some d, .recv ct ch true, ty, pos, aft, g⟩ := by first | exact wn | exact want_some rfl rfl rfl) (hd : Nat.blt d x.n = true := by rfl) (hch : ev ρ ch = some (.chan (some c)) := by rfl) : Ops x ops (i :: rest) Q ρ ds F := by
 subst hu
 cases l with
 | nil => exact Ops.recvDone (o := ⟨some d, .recv ct ch true, ty, pos, aft, g⟩) hS hb (nthO_get ho) rfl hw hd hch hl H
 | cons v l => exact Ops.recv (o := ⟨some d, .recv ct ch true, ty, pos, aft, g⟩) hS hb (nthO_get ho) rfl hw hd hch hl H
end rules
section
variable {x : Cx} {Q : Post} {ρ : Env} {ds : List Deferred} {ops : Array Oper} {id n : Nat} {y₁ y₂ y₃ : Nat × Obj} {G : Frag}
/-- An open order in which the first ones are read. -/
theorem W.drawP1 (hn : ops.size = n) (H : Any x ops [y₁] n 0 Q ρ ds (y₁ :: G)) [MO x.P] : W x (.region id ops true) Q ρ ds (y₁ :: G) := W.drawL _ hn H
theorem W.drawP2 (hn : ops.size = n) (H : Any x ops [y₁, y₂] n 0 Q ρ ds (y₁ :: y₂ :: G)) [MO x.P] : W x (.region id ops true) Q ρ ds (y₁ :: y₂ :: G) := W.drawL _ hn H
end
section
variable {x : Cx} {Q : Post} {ρ : Env} {ds : List Deferred} {F : Frag} {ops : Array Oper} {i : Nat} {d : Tmp} {ty : TypeId} {pos : String} {aft : Array Edge} {g : Option (Nat × Bool)} {L : Frag} {vs : List Value}
/-- A new slice of some values, in an open order. -/
theorem abl {fuel listed t E s b len : Nat} {z : Value} {zc : Array Value} {parts : List (Nat × Operand)} {cs : Array Value} (H : ∀ β, Any x ops L fuel (listed ||| 2 ^ i) Q ((d, .slice (some ⟨β, 0, none⟩) len len) :: ρ) ds ((β, .cells cs E (0, 0)) :: F))
  (ho : nthO ops.toList i = some ⟨some d, .buildSlice t len parts.toArray, ty, pos, aft, g⟩ := by rfl) (hk : Keeps L F := by first | exact fun _ h => h | (repeat (first | exact Keeps.nil | refine Keeps.one (by repeat (first | exact List.Mem.head _ | apply List.Mem.tail)) ?_))) [TD x.P t (.slice E)] [TI x.P E s b z zc] (hv : evs ρ (parts.map (·.2)) = some vs := by rfl) (hls : 0 < len * s := by decide) (hl : len * s ≤ 2 ^ 24 := by decide)
  (hf : Instr.fill (fun i => some (i * s, s)) ((List.range (len * s)).map (fun i => zc[i % zc.size]!)).toArray ((parts.map (·.1)).zip vs) = some cs := by rfl)
  (hw : wantε ops (look ρ) ⟨some d, .buildSlice t len parts.toArray, ty, pos, aft, g⟩ true := by first | exact an | exact wantε_some rfl rfl rfl rfl) (hd : Nat.blt d x.n = true := by rfl) (hr : rdys ops listed = [i] := by kernel_rfl) : Any x ops L (fuel + 1) listed Q ρ ds F :=
 Any.eff (o := ⟨some d, .buildSlice t len parts.toArray, ty, pos, aft, g⟩) (e_buildSlice rfl hv hls hl (by rw [show (Array.range (len * s)).map (zc[· % zc.size]!) = ((List.range (len * s)).map (fun i => zc[i % zc.size]!)).toArray by apply Array.ext'; simp]; exact hf) fun β _ _ => ⟨.inr fun p hp => List.mem_cons_of_mem _ (hk p hp), H β⟩) hr (nthO_get ho) hw hd rfl
end
end Go.Mus

/- Structs and arrays of numbers beside each other; maps whose keys are of these. Conditions: none; over any program. -/
namespace Go.Mus
/-- What no comparison of two values of this type stops at. -/
class NS (P : Program) (t : TypeId) : Prop where
 stood : P.stoodInHeld t = false
 guard : P.eqGuardType P.depth t = false

abbrev nI (n : Int) : Value := .int .i64 n
def EqAt (P : Program) (t : TypeId) (w K : Nat) : Prop := ∀ {h : Hp} {F : Frag} {β : Type} {f : Bool → Sem β} {Q : β → Frag → Prop} (d : Nat) {xs ys : Array Value} {off : Nat} {us bs : List Int}, us.length = w → bs.length = w → Part xs off (us.map nI) → Part ys off (bs.map nI) →
 tr P h ((part t xs off).bind fun x => (part t ys off).bind fun y => (Op.equalIn (d + K) t x y).bind f) F Q = tr P h (f (decide (us = bs))) F Q
/-- Such a type, as a value by itself. -/
def EqV (P : Program) (t : TypeId) (w K : Nat) : Prop := ∀ {h : Hp} {F : Frag} {β : Type} {f : Bool → Sem β} {Q : β → Frag → Prop} (d : Nat) {us bs : List Int}, us.length = w → bs.length = w →
 tr P h ((Op.equalIn (d + K) t (.agg (us.map nI).toArray) (.agg (bs.map nI).toArray)).bind f) F Q = tr P h (f (decide (us = bs))) F Q

theorem EqAt.le {P : Program} {t w K K' : Nat} (H : EqAt P t w K) (h : K ≤ K') : EqAt P t w K' := by
 intro hp F β f Q d xs ys off us bs h1 h2 h3 h4
 have := @H hp F β f Q (d + (K' - K)) xs ys off us bs h1 h2 h3 h4
 rwa [show d + (K' - K) + K = d + K' by omega] at this
theorem EqAt.int {P : Program} {t : TypeId} [TD P t (.int .i64)] [SC P t] : EqAt P t 1 1 := by
 intro hp F β f Q d xs ys off us bs h1 h2 h3 h4
 obtain ⟨a, rfl⟩ := List.length_eq_one_iff.1 h1
 obtain ⟨b, rfl⟩ := List.length_eq_one_iff.1 h2
 have e1 : xs[off]? = some (nI a) := h3.get (j := 0) (by simp)
 have e2 : ys[off]? = some (nI b) := h4.get (j := 0) (by simp)
 rw [tr_part_sc e1, tr_part_sc e2]
 simp only [Op.equalIn, bind_eq, pure_eq, bind_assoc, bind_pure, trb_underlying, if_true]
 congr 2
 rw [beq_dec]
 by_cases h : a = b <;> simp [h]
theorem EqV.at {P : Program} {t w K : Nat} (H : EqV P t w K) [AG P t w] : EqAt P t w K := by
 intro hp F β f Q d xs ys off us bs h1 h2 h3 h4
 have e1 := h3.extract
 have e2 := h4.extract
 rw [List.length_map, h1] at e1
 rw [List.length_map, h2] at e2
 rw [tr_part_ag, tr_part_ag, e1, e2]
 exact H d h1 h2

theorem take_drop_eq {us bs : List Int} {w : Nat} (h : us.take w = bs.take w) (h' : us.drop w = bs.drop w) : us = bs := by
 rw [← List.take_append_drop w us, ← List.take_append_drop w bs, h, h']
theorem Part.two {xs : Array Value} {off w : Nat} {us : List Int} (h : Part xs off (us.map nI)) (hw : w ≤ us.length) : Part xs off ((us.take w).map nI) ∧ Part xs (off + w) ((us.drop w).map nI) := by
 have e : us.map nI = [] ++ ((us.take w).map nI ++ (us.drop w).map nI) := by rw [List.nil_append, ← List.map_append, List.take_append_drop]
 constructor
 ·rw [e] at h; exact h.sub
 ·have e' : us.map nI = (us.take w).map nI ++ ((us.drop w).map nI ++ []) := by rw [List.append_nil, ← List.map_append, List.take_append_drop]
  rw [e'] at h
  have := h.sub
  rwa [List.length_map, List.length_take, Nat.min_eq_left hw] at this

/-- How the fields lie. -/
def Lay (P : Program) (K : Nat) : List Field → List Nat → Nat → Prop
 | [], [], _ => True
 | f :: fs, w :: ws, o => f.name ≠ "_" ∧ f.offset = o ∧ EqAt P f.type w K ∧ Lay P K fs ws (o + w)
 | _, _, _ => False

theorem Lay.nil {P : Program} {K o : Nat} : Lay P K [] [] o := trivial
theorem Lay.cons {P : Program} {K o w : Nat} {f : Field} {fs : List Field} {ws : List Nat} (hn : f.name ≠ "_") (ho : f.offset = o) (he : EqAt P f.type w K) (hl : Lay P K fs ws (o + w)) : Lay P K (f :: fs) (w :: ws) o := ⟨hn, ho, he, hl⟩
theorem eq_fields {P : Program} {K : Nat} {xs ys : Array Value} {hp : Hp} {F : Frag} {β : Type} {Q : β → Frag → Prop} (d : Nat) {g : Option Bool × Unit → Sem β} : ∀ (fs : List Field) (ws : List Nat) (o : Nat) (us bs : List Int), Lay P K fs ws o → us.length = ws.sum → bs.length = ws.sum → Part xs o (us.map nI) → Part ys o (bs.map nI) →
  tr P hp ((forIn fs ((none, ()) : Option Bool × Unit) fun f __s =>
         if f.name ≠ "_" then
          (part f.type xs f.offset).bind fun __do_lift =>
           (part f.type ys f.offset).bind fun __do_lift_1 =>
            (Op.equalIn (d + K) f.type __do_lift __do_lift_1).bind fun __do_lift =>
             if (!__do_lift) = true then Sem.pure (ForInStep.done (some false, ()))
             else Sem.pure (ForInStep.yield (none, ()))
         else Sem.pure (ForInStep.yield (none, ()))).bind g) F Q = tr P hp (g (if us = bs then (none, ()) else (some false, ()))) F Q
 | [], [], o, us, bs, _, h1, h2, h3, h4 => by
  have e1 : us = [] := List.length_eq_zero_iff.1 (by simpa using h1)
  have e2 : bs = [] := List.length_eq_zero_iff.1 (by simpa using h2)
  subst e1 e2
  simp only [List.forIn_nil, pure_eq, bind_pure, if_true]
 | f :: fs, w :: ws, o, us, bs, hl, h1, h2, h3, h4 => by
  obtain ⟨hn, ho, he, hl⟩ := hl
  simp only [List.sum_cons] at h1 h2
  obtain ⟨p1, p2⟩ := h3.two (w := w) (by omega)
  obtain ⟨q1, q2⟩ := h4.two (w := w) (by omega)
  have e1 : (us.take w).length = w := by simp; omega
  have e2 : (bs.take w).length = w := by simp; omega
  subst ho
  simp only [List.forIn_cons, bind_eq, if_pos hn, bind_assoc]
  rw [he d e1 e2 p1 q1]
  by_cases hc : us.take w = bs.take w
  ·simp only [hc, decide_true, Bool.not_true, Bool.false_eq_true, if_false, bind_pure]
   rw [eq_fields d fs ws _ (us.drop w) (bs.drop w) hl (by simp; omega) (by simp; omega) p2 q2]
   by_cases hd : us.drop w = bs.drop w
   ·rw [if_pos hd, if_pos (take_drop_eq hc hd)]
   ·rw [if_neg hd, if_neg (fun h => hd (by rw [h]))]
  ·simp only [hc, decide_false, Bool.not_false, if_true, bind_pure]
   rw [if_neg (fun h => hc (by rw [h]))]
   simp only [pure_eq, bind_pure]
 | [], _ :: _, _, _, _, hl, _, _, _, _ => hl.elim
 | _ :: _, [], _, _, _, hl, _, _, _, _ => hl.elim

theorem EqV.struct {P : Program} {t : TypeId} {fs : Array Field} {ws : List Nat} {K : Nat} [TD P t (.struct fs)] [n : NS P t] (hl : Lay P K fs.toList ws 0) : EqV P t ws.sum (K + 1) := by
 intro hp F β f Q d us bs h1 h2
 have hs := n.stood
 show tr P hp ((Op.equalIn (d + K + 1) t _ _).bind f) F Q = _
 simp only [Op.equalIn, bind_eq, pure_eq, bind_assoc, bind_pure, trb_underlying, program, Sem.bind, tr, hs, Bool.false_eq_true, if_false]
 rw [← Array.forIn_toList, eq_fields d fs.toList ws 0 us bs hl h1 h2 (Part.all _) (Part.all _)]
 by_cases h : us = bs <;> simp [h, bind_pure]

theorem eq_elems {P : Program} {E w K : Nat} {xs ys : Array Value} {hp : Hp} {F : Frag} {β : Type} {Q : β → Frag → Prop} (he : EqAt P E w K) (d : Nat) {g : Option Bool × Unit → Sem β} : ∀ (n i : Nat) (us bs : List Int), us.length = n * w → bs.length = n * w → Part xs (i * w) (us.map nI) → Part ys (i * w) (bs.map nI) →
  tr P hp ((forIn (List.range' i n) ((none, ()) : Option Bool × Unit) fun i __s =>
      (part E xs (i * w)).bind fun __do_lift =>
       (part E ys (i * w)).bind fun __do_lift_1 =>
        (Op.equalIn (d + K) E __do_lift __do_lift_1).bind fun __do_lift =>
         if (!__do_lift) = true then Sem.pure (ForInStep.done (some false, ()))
         else Sem.pure (ForInStep.yield (none, ()))).bind g) F Q = tr P hp (g (if us = bs then (none, ()) else (some false, ()))) F Q
 | 0, i, us, bs, h1, h2, h3, h4 => by
  have e1 : us = [] := List.length_eq_zero_iff.1 (by simpa using h1)
  have e2 : bs = [] := List.length_eq_zero_iff.1 (by simpa using h2)
  subst e1 e2
  simp only [List.range'_zero, List.forIn_nil, pure_eq, bind_pure, if_true]
 | n + 1, i, us, bs, h1, h2, h3, h4 => by
  rw [Nat.succ_mul] at h1 h2
  obtain ⟨p1, p2⟩ := h3.two (w := w) (by omega)
  obtain ⟨q1, q2⟩ := h4.two (w := w) (by omega)
  have e1 : (us.take w).length = w := by simp; omega
  have e2 : (bs.take w).length = w := by simp; omega
  have e3 : i * w + w = (i + 1) * w := by rw [Nat.succ_mul]
  rw [e3] at p2 q2
  simp only [List.range'_succ, List.forIn_cons, bind_eq, bind_assoc]
  rw [he d e1 e2 p1 q1]
  by_cases hc : us.take w = bs.take w
  ·simp only [hc, decide_true, Bool.not_true, Bool.false_eq_true, if_false, bind_pure]
   rw [eq_elems he d n (i + 1) (us.drop w) (bs.drop w) (by simp; omega) (by simp; omega) p2 q2]
   by_cases hd : us.drop w = bs.drop w
   ·rw [if_pos hd, if_pos (take_drop_eq hc hd)]
   ·rw [if_neg hd, if_neg (fun h => hd (by rw [h]))]
  ·simp only [hc, decide_false, Bool.not_false, if_true, bind_pure]
   rw [if_neg (fun h => hc (by rw [h]))]
   simp only [pure_eq, bind_pure]

theorem EqV.array {P : Program} {t n E w K : Nat} {s : Nat} {z : Value} {zc : Array Value} [TD P t (.array n E)] [TI P E w s z zc] (he : EqAt P E w K) : EqV P t (n * w) (K + 1) := by
 intro hp F β f Q d us bs h1 h2
 show tr P hp ((Op.equalIn (d + K + 1) t _ _).bind f) F Q = _
 simp only [Op.equalIn, bind_eq, pure_eq, bind_assoc, bind_pure, trb_underlying, trb_sizeOf]
 rw [Std.Legacy.Range.forIn_eq_forIn_range']
 have e : (Std.Legacy.Range.size [:n]) = n := by simp [Std.Legacy.Range.size]
 rw [e]
 refine (eq_elems he d n 0 us bs h1 h2 (by rw [Nat.zero_mul]; exact Part.all _) (by rw [Nat.zero_mul]; exact Part.all _)).trans ?_
 by_cases h : us = bs <;> simp [h, bind_pure]

/-- A type of numbers alone. -/
class EV (P : Program) (t : TypeId) (w : outParam Nat) : Prop where
 out : EqV P t w 9
theorem EqV.le {P : Program} {t w K K' : Nat} (H : EqV P t w K) (h : K ≤ K') : EqV P t w K' := by
 intro hp F β f Q d us bs h1 h2
 have := @H hp F β f Q (d + (K' - K)) us bs h1 h2
 rwa [show d + (K' - K) + K = d + K' by omega] at this

section rules
variable {x : Cx} {ρ : Env} {F : Frag} {S : Frag → Prop} {o : Oper} {R : Value → Frag → Prop}
theorem tr_equal {P : Program} {t w : Nat} [v : EV P t w] {h : Hp} {F : Frag} {β : Type} {f : Bool → Sem β} {Q : β → Frag → Prop} {us bs : List Int} (h1 : us.length = w) (h2 : bs.length = w) : tr P h ((Op.equal t (.agg (us.map nI).toArray) (.agg (bs.map nI).toArray)).bind f) F Q = tr P h (f (decide (us = bs))) F Q := by
 have e : Op.equal t (.agg (us.map nI).toArray) (.agg (bs.map nI).toArray) = Op.equalIn (9991 + 9) t (.agg (us.map nI).toArray) (.agg (bs.map nI).toArray) := rfl
 rw [e]
 exact v.out 9991 h1 h2
theorem y_eqA {t t' w : Nat} {y z : Operand} {u v : Value} (us bs : List Int) (ho : o.op = .binOp .eql t y z t') [EV x.P t w] [n : NS x.P t] (hy : ev ρ y = some u) (hz : ev ρ z = some v) (hu : u = .agg (us.map nI).toArray) (hv : v = .agg (bs.map nI).toArray) (h1 : us.length = w) (h2 : bs.length = w) : Yv x S ρ o (.bool (decide (us = bs))) := fun e he F hF h' hE => by
 subst hu hv
 have hg : ∀ {β : Type} {f : Unit → Sem β} {Q : β → Frag → Prop}, tr x.P h' ((eqGuard .eql t y z (.agg (us.map nI).toArray) (.agg (bs.map nI).toArray)).bind f) F Q = tr x.P h' (f ()) F Q := by
  intro β f Q
  simp only [eqGuard, bind_eq, pure_eq, bind_assoc, trb_program, n.guard, Bool.not_false, if_true, bind_pure, Bool.not_true, Bool.false_eq_true, if_false]
 simp only [execOp, ho, he y _ hy, he z _ hz, bind_eq, pure_eq, bind_assoc, hg, binOp, tr_equal h1 h2]
 exact ⟨rfl, rfl⟩
theorem y_neA {t t' w : Nat} {y z : Operand} {u v : Value} (us bs : List Int) (ho : o.op = .binOp .neq t y z t') [EV x.P t w] [n : NS x.P t] (hy : ev ρ y = some u) (hz : ev ρ z = some v) (hu : u = .agg (us.map nI).toArray) (hv : v = .agg (bs.map nI).toArray) (h1 : us.length = w) (h2 : bs.length = w) : Yv x S ρ o (.bool (!decide (us = bs))) := fun e he F hF h' hE => by
 subst hu hv
 have hg : ∀ {β : Type} {f : Unit → Sem β} {Q : β → Frag → Prop}, tr x.P h' ((eqGuard .neq t y z (.agg (us.map nI).toArray) (.agg (bs.map nI).toArray)).bind f) F Q = tr x.P h' (f ()) F Q := by
  intro β f Q
  simp only [eqGuard, bind_eq, pure_eq, bind_assoc, trb_program, n.guard, Bool.not_false, if_true, bind_pure, Bool.not_true, Bool.false_eq_true, if_false]
 simp only [execOp, ho, he y _ hy, he z _ hz, bind_eq, pure_eq, bind_assoc, hg, binOp, tr_equal h1 h2]
 exact ⟨rfl, rfl⟩
end rules
end Go.Mus

/- Maps whose keys are of numbers alone. Conditions: none; over any program. -/
namespace Go.Mus
def CkAt (P : Program) (t : TypeId) (w K : Nat) : Prop := ∀ {h : Hp} {F : Frag} {β : Type} {f : Unit → Sem β} {Q : β → Frag → Prop} (em : Bool) (d : Nat) {xs : Array Value} {off : Nat} {us : List Int}, us.length = w → Part xs off (us.map nI) →
 tr P h ((part t xs off).bind fun x => (Instr.checkKey em (d + K) t x).bind f) F Q = tr P h (f ()) F Q
def CkV (P : Program) (t : TypeId) (w K : Nat) : Prop := ∀ {h : Hp} {F : Frag} {β : Type} {f : Unit → Sem β} {Q : β → Frag → Prop} (em : Bool) (d : Nat) {us : List Int}, us.length = w →
 tr P h ((Instr.checkKey em (d + K) t (.agg (us.map nI).toArray)).bind f) F Q = tr P h (f ()) F Q
theorem CkAt.int {P : Program} {t : TypeId} [TD P t (.int .i64)] [SC P t] : CkAt P t 1 1 := by
 intro hp F β f Q em d xs off us h1 h3
 obtain ⟨a, rfl⟩ := List.length_eq_one_iff.1 h1
 have e1 : xs[off]? = some (nI a) := h3.get (j := 0) (by simp)
 rw [tr_part_sc e1]
 simp only [Instr.checkKey, bind_eq, pure_eq, bind_assoc, bind_pure, trb_underlying]
theorem CkV.at {P : Program} {t w K : Nat} (H : CkV P t w K) [AG P t w] : CkAt P t w K := by
 intro hp F β f Q em d xs off us h1 h3
 have e1 := h3.extract
 rw [List.length_map, h1] at e1
 rw [tr_part_ag, e1]
 exact H em d h1
theorem CkV.le {P : Program} {t w K K' : Nat} (H : CkV P t w K) (h : K ≤ K') : CkV P t w K' := by
 intro hp F β f Q em d us h1
 have := @H hp F β f Q em (d + (K' - K)) us h1
 rwa [show d + (K' - K) + K = d + K' by omega] at this

def LayC (P : Program) (K : Nat) : List Field → List Nat → Nat → Prop
 | [], [], _ => True
 | f :: fs, w :: ws, o => f.name ≠ "_" ∧ f.offset = o ∧ CkAt P f.type w K ∧ LayC P K fs ws (o + w)
 | _, _, _ => False
theorem LayC.nil {P : Program} {K o : Nat} : LayC P K [] [] o := trivial
theorem LayC.cons {P : Program} {K o w : Nat} {f : Field} {fs : List Field} {ws : List Nat} (hn : f.name ≠ "_") (ho : f.offset = o) (he : CkAt P f.type w K) (hl : LayC P K fs ws (o + w)) : LayC P K (f :: fs) (w :: ws) o := ⟨hn, ho, he, hl⟩
theorem ck_fields {P : Program} {K : Nat} {xs : Array Value} {hp : Hp} {F : Frag} {β : Type} {Q : β → Frag → Prop} (em : Bool) (d : Nat) {g : PUnit → Sem β} : ∀ (fs : List Field) (ws : List Nat) (o : Nat) (us : List Int), LayC P K fs ws o → us.length = ws.sum → Part xs o (us.map nI) →
  tr P hp ((forIn fs PUnit.unit fun f __s =>
     if f.name ≠ "_" then
      (part f.type xs f.offset).bind fun __do_lift =>
       (Instr.checkKey em (d + K) f.type __do_lift).bind fun r => Sem.pure (ForInStep.yield PUnit.unit)
     else Sem.pure (ForInStep.yield PUnit.unit)).bind g) F Q = tr P hp (g PUnit.unit) F Q
 | [], [], o, us, _, h1, h3 => by
  simp only [List.forIn_nil, pure_eq, bind_pure]
 | f :: fs, w :: ws, o, us, hl, h1, h3 => by
  obtain ⟨hn, ho, he, hl⟩ := hl
  simp only [List.sum_cons] at h1
  obtain ⟨p1, p2⟩ := h3.two (w := w) (by omega)
  have e1 : (us.take w).length = w := by simp; omega
  subst ho
  simp only [List.forIn_cons, bind_eq, if_pos hn, bind_assoc]
  rw [he em d e1 p1]
  simp only [bind_pure]
  exact ck_fields em d fs ws _ (us.drop w) hl (by simp; omega) p2
 | [], _ :: _, _, _, hl, _, _ => hl.elim
 | _ :: _, [], _, _, hl, _, _ => hl.elim
theorem CkV.struct {P : Program} {t : TypeId} {fs : Array Field} {ws : List Nat} {K : Nat} [TD P t (.struct fs)] (hl : LayC P K fs.toList ws 0) : CkV P t ws.sum (K + 1) := by
 intro hp F β f Q em d us h1
 show tr P hp ((Instr.checkKey em (d + K + 1) t _).bind f) F Q = _
 simp only [Instr.checkKey, bind_eq, pure_eq, bind_assoc, bind_pure, trb_underlying]
 rw [← Array.forIn_toList]
 exact ck_fields em d fs.toList ws 0 us hl h1 (Part.all _)
theorem ck_elems {P : Program} {E w K : Nat} {s : Nat} {z : Value} {zc : Array Value} [TI P E w s z zc] {xs : Array Value} {hp : Hp} {F : Frag} {β : Type} {Q : β → Frag → Prop} (he : CkAt P E w K) (em : Bool) (d : Nat) {g : PUnit → Sem β} : ∀ (n i : Nat) (us : List Int), us.length = n * w → Part xs (i * w) (us.map nI) →
  tr P hp ((forIn (List.range' i n) PUnit.unit fun i __s =>
     (sizeOf E).bind fun __do_lift =>
      (part E xs (i * __do_lift)).bind fun __do_lift =>
       (Instr.checkKey em (d + K) E __do_lift).bind fun r => Sem.pure (ForInStep.yield PUnit.unit)).bind g) F Q = tr P hp (g PUnit.unit) F Q
 | 0, i, us, h1, h3 => by
  simp only [List.range'_zero, List.forIn_nil, pure_eq, bind_pure]
 | n + 1, i, us, h1, h3 => by
  rw [Nat.succ_mul] at h1
  obtain ⟨p1, p2⟩ := h3.two (w := w) (by omega)
  have e1 : (us.take w).length = w := by simp; omega
  have e3 : i * w + w = (i + 1) * w := by rw [Nat.succ_mul]
  rw [e3] at p2
  simp only [List.range'_succ, List.forIn_cons, bind_eq, bind_assoc, trb_sizeOf]
  rw [he em d e1 p1]
  simp only [bind_pure]
  exact ck_elems he em d n (i + 1) (us.drop w) (by simp; omega) p2
theorem CkV.array {P : Program} {t n E w K : Nat} {s : Nat} {z : Value} {zc : Array Value} [TD P t (.array n E)] [TI P E w s z zc] (he : CkAt P E w K) : CkV P t (n * w) (K + 1) := by
 intro hp F β f Q em d us h1
 show tr P hp ((Instr.checkKey em (d + K + 1) t _).bind f) F Q = _
 simp only [Instr.checkKey, bind_eq, pure_eq, bind_assoc, bind_pure, trb_underlying]
 rw [Std.Legacy.Range.forIn_eq_forIn_range']
 have e : (Std.Legacy.Range.size [:n]) = n := by simp [Std.Legacy.Range.size]
 rw [e]
 exact ck_elems he em d n 0 us h1 (by rw [Nat.zero_mul]; exact Part.all _)

/-- A type of keys: numbers alone, in an array or a struct. -/
class KV (P : Program) (t : TypeId) (w : outParam Nat) : Prop where
 eq : EV P t w
 ck : CkV P t w 9
 ag : ∃ d, P.underlying t = some d ∧ ((∃ fs, d = .struct fs) ∨ ∃ n e, d = .array n e)

/-- The keys of a map to true. -/
def MapT (es : Array MapEntry) (ks : List (List Int)) : Prop := es.toList.map (fun e => (e.key, e.val)) = ks.map fun a => (Value.agg (a.map nI).toArray, Value.bool true)

section
variable {P : Program} {h : Hp} {F : Frag} {β : Type} {Q : β → Frag → Prop} {t w : Nat}
theorem tr_checkKey [k : KV P t w] {f : Unit → Sem β} {em : Bool} {us : List Int} (h1 : us.length = w) : tr P h ((Instr.checkKey em 10000 t (.agg (us.map nI).toArray)).bind f) F Q = tr P h (f ()) F Q := by
 have e : (10000 : Nat) = 9991 + 9 := rfl
 rw [e]
 exact k.ck em 9991 h1

/-- Where a key is. -/
def keyAt (k : List Int) : List (List Int) → Nat → Option (Nat × Value)
 | [], _ => none
 | a :: ks, i => if k = a then some (i, .bool true) else keyAt k ks (i + 1)
theorem keyAt_some {k : List Int} : ∀ {ks : List (List Int)} {i : Nat} {r : Nat × Value}, keyAt k ks i = some r → r.2 = .bool true ∧ k ∈ ks ∧ ∃ j, r.1 = i + j ∧ ks[j]? = some k
 | [], _, _, h => by cases h
 | a :: ks, i, r, h => by
  simp only [keyAt] at h
  split at h
  ·rename_i e
   cases h
   subst e
   exact ⟨rfl, List.mem_cons_self .., 0, rfl, rfl⟩
  ·obtain ⟨h1, h2, j, h3, h4⟩ := keyAt_some h
   exact ⟨h1, List.mem_cons_of_mem _ h2, j + 1, by rw [h3]; omega, by simpa using h4⟩
theorem keyAt_none {k : List Int} : ∀ {ks : List (List Int)} {i : Nat}, keyAt k ks i = none → k ∉ ks
 | [], _, _ => by simp
 | a :: ks, i, h => by
  simp only [keyAt] at h
  split at h
  ·cases h
  ·rename_i e
   simp [e, keyAt_none h]

theorem tr_findAsking [k : KV P t w] {f : Option (Nat × Value) → Sem β} {a : List Int} (h1 : a.length = w) : ∀ {ks : List (List Int)} {l : List MapEntry} {i : Nat}, (∀ b ∈ ks, b.length = w) → l.map (fun e => (e.key, e.val)) = ks.map (fun a => (Value.agg (a.map nI).toArray, Value.bool true)) →
  tr P h ((Instr.findAsking t (.agg (a.map nI).toArray) l i).bind f) F Q = tr P h (f (keyAt a ks i)) F Q
 | [], l, i, hw, hm => by
  have : l = [] := by simpa using hm
  subst this
  simp only [Instr.findAsking, pure_eq, bind_pure, keyAt]
 | b :: ks, [], i, hw, hm => by cases hm
 | b :: ks, e :: l, i, hw, hm => by
  simp only [List.map_cons, List.cons.injEq, Prod.mk.injEq] at hm
  obtain ⟨⟨hk, hv⟩, hm⟩ := hm
  have := k.eq
  simp only [Instr.findAsking, bind_eq, pure_eq, bind_assoc, hk, tr_equal h1 (hw b (List.mem_cons_self ..))]
  by_cases hab : a = b
  ·simp only [hab, decide_true, if_true, bind_pure, keyAt, hv]
  ·simp only [hab, decide_false, Bool.false_eq_true, if_false, keyAt]
   exact tr_findAsking h1 (fun c hc => hw c (List.mem_cons_of_mem _ hc)) hm
theorem tr_findKey [k : KV P t w] {f : Option (Nat × Value) → Sem β} {a : List Int} (h1 : a.length = w) {ks : List (List Int)} {es : Array MapEntry} (hw : ∀ b ∈ ks, b.length = w) (hm : MapT es ks) :
  tr P h ((Instr.findKey t (.agg (a.map nI).toArray) es.toList).bind f) F Q = tr P h (f (keyAt a ks 0)) F Q := by
 obtain ⟨d, hd, hda⟩ := k.ag
 have : TD P t d := ⟨hd⟩
 simp only [Instr.findKey, bind_eq, pure_eq, bind_assoc, trb_underlying]
 have hm' := hm
 unfold MapT at hm'
 cases hl : es.toList with
 | nil =>
  rw [hl] at hm'
  have : ks = [] := by simpa using hm'.symm
  subst this
  simp only [Instr.findNow, bind_pure, keyAt]
 | cons e l =>
  have hn : Instr.findNow d (.agg (a.map nI).toArray) (e :: l) 0 = none := by
   have : Instr.sameNow d (.agg (a.map nI).toArray) e.key = none := by
    rcases hda with ⟨fs, rfl⟩ | ⟨n, el, rfl⟩ <;> rfl
   simp only [Instr.findNow, this]
  simp only [hn]
  rw [← hl]
  exact tr_findAsking h1 hw hm'
end
theorem sameBits_nums : ∀ (n : Nat) (us : List Int), Instr.sameBits (n + 2) (.agg (us.map nI).toArray) (.agg (us.map nI).toArray) = true := by
 intro n us
 simp only [Instr.sameBits, beq_self_eq_true, Bool.true_and, List.all_eq_true]
 intro p hp
 have key : ∀ (l : List Value) (p : Value × Value), p ∈ l.zip l → p.1 = p.2 ∧ p.1 ∈ l := by
  intro l
  induction l with
  | nil => intro p hp; cases hp
  | cons a l ih =>
   intro p hp
   rcases List.mem_cons.1 hp with rfl | hp
   ·exact ⟨rfl, List.mem_cons_self ..⟩
   ·obtain ⟨h1, h2⟩ := ih p hp
    exact ⟨h1, List.mem_cons_of_mem _ h2⟩
 obtain ⟨h1, h2⟩ := key _ p hp
 obtain ⟨a, _, ha⟩ := List.mem_map.1 h2
 obtain ⟨u, v⟩ := p
 simp only at h1 ha
 subst h1 ha
 simp [Instr.sameBits]

theorem modify_map {α β : Type} {g : α → β} {f : α → α} : ∀ {l : List α} {i : Nat}, (∀ x, l[i]? = some x → g (f x) = g x) → (l.modify i f).map g = l.map g
 | [], i, _ => by cases i <;> rfl
 | a :: l, 0, h => by
  show g (f a) :: l.map g = _
  rw [h a rfl]; rfl
 | a :: l, i + 1, h => by
  have := modify_map (l := l) (i := i) (f := f) (g := g) fun x hx => h x (by simpa using hx)
  rw [List.modify_succ_cons, List.map_cons, this, List.map_cons]

section rules
variable {x : Cx} {ρ : Env} {F : Frag} {S : Frag → Prop} {o : Oper} {R : Value → Frag → Prop}
theorem e_makeMap {t : Nat} (ho : o.op = .makeMap t none) (H : ∀ β, x.h β = none → (∀ o, (β, o) ∉ F) → R (.map (some β)) ((β, .map #[] 0) :: F)) : Ef x ρ o F R :=
 Ef.of_tr fun e he h' hE => by
  simp only [execOp, ho, Instr.makeMap, Option.map_none, bind_eq, pure_eq, bind_assoc, bind_pure]
  exact ⟨(fun h => by cases h), fun r h5 h6 => ⟨_, .inl rfl, H r (hE.none h5) h6⟩⟩
/-- A lookup of a key among keys to true. -/
theorem e_lookup {t kt vt w s b : Nat} {y k : Operand} {β clock : Nat} {es : Array MapEntry} {ks : List (List Int)} {a : List Int} {u : Value} {U : Obj → Frag} (ho : o.op = .lookup t y k false) [TD x.P t (.map kt vt)] [KV x.P kt w] [TI x.P vt s b (.bool false) #[.bool false]] (hy : ev ρ y = some (.map (some β))) (hk : ev ρ k = some u) (hu : u = .agg (a.map nI).toArray) (h1 : a.length = w) (hl : At β (.map es clock) F U) (hm : MapT es ks) (hw : ∀ b ∈ ks, b.length = w)
  (H : R (.bool (decide (a ∈ ks))) F) : Ef x ρ o F R :=
 Ef.of_tr fun e he h' hE => by
  subst hu
  obtain ⟨F1, F2, e1, e2⟩ := hl.split
  simp only [execOp, ho, he y _ hy, he k _ hk, Instr.lookup, bind_eq, pure_eq, bind_assoc, bind_pure, trb_underlying, Bool.false_eq_true, if_false]
  refine ⟨.map es clock, .inr (by rw [e1]; simp), (fun _ _ _ => by simp), rfl, ?_⟩
  simp only [pure_eq, bind_pure, bind_assoc]
  rw [tr_checkKey h1, tr_findKey h1 hw hm]
  cases hf : keyAt a ks 0 with
  | none =>
   have hn := keyAt_none hf
   simp only [hn, decide_false] at H
   simp only [bind_assoc]
   rw [trb_zeroValue (P := x.P) (t := vt)]
   simp only [bind_pure]
   exact ⟨_, .inl rfl, H⟩
  | some r =>
   obtain ⟨i, v⟩ := r
   obtain ⟨h5, h6, _⟩ := keyAt_some hf
   simp only at h5
   subst h5
   simp only [h6, decide_true] at H
   simp only [bind_pure]
   exact ⟨_, .inl rfl, H⟩
/-- A key is put to true. -/
theorem e_mapUpdate {t kt vt w : Nat} {y k v : Operand} {β clock : Nat} {es : Array MapEntry} {ks : List (List Int)} {a : List Int} {u : Value} {U : Obj → Frag} (ho : o.op = .mapUpdate t y k v) [TD x.P t (.map kt vt)] [KV x.P kt w] (hy : ev ρ y = some (.map (some β))) (hk : ev ρ k = some u) (hu : u = .agg (a.map nI).toArray) (hv : ev ρ v = some (.bool true)) (h1 : a.length = w) (hl : At β (.map es clock) F U) (hm : MapT es ks) (hw : ∀ b ∈ ks, b.length = w)
  (H : ∀ es' clock', MapT es' (if a ∈ ks then ks else ks ++ [a]) → R undef (U (.map es' clock'))) : Ef x ρ o F R :=
 Ef.of_tr fun e he h' hE => by
  subst hu
  obtain ⟨F1, F2, e1, e2⟩ := hl.split
  simp only [execOp, ho, he y _ hy, he k _ hk, he v _ hv, Instr.mapUpdate, bind_eq, pure_eq, bind_assoc, bind_pure, trb_underlying]
  refine ⟨.map es clock, .inr (by rw [e1]; simp), (fun _ _ _ => by simp), rfl, ?_⟩
  simp only [pure_eq, bind_pure, bind_assoc]
  rw [tr_checkKey h1, tr_findKey h1 hw hm]
  cases hf : keyAt a ks 0 with
  | none =>
   have hn := keyAt_none hf
   simp only [hn, if_false] at H
   refine ⟨.map es clock, F1, F2, e1, (fun _ _ _ => by simp), rfl, ?_⟩
   have := H (es.push { key := .agg (a.map nI).toArray, val := .bool true, born := clock }) (clock + 1) (by
    unfold MapT at hm ⊢
    simp [hm])
   rw [e2] at this
   exact ⟨_, .inr ⟨rfl, rfl⟩, this⟩
  | some r =>
   obtain ⟨i, v'⟩ := r
   obtain ⟨h5, h6, j, h7, h8⟩ := keyAt_some hf
   simp only [Nat.zero_add] at h7
   subst h7
   simp only [h6, if_true] at H
   have hes : ∃ me, es.toList[i]? = some me ∧ me.key = .agg (a.map nI).toArray ∧ me.val = .bool true := by
    have h9 := congrArg (·[i]?) hm
    simp only [List.getElem?_map, h8, Option.map_some] at h9
    obtain ⟨me, h10, h11⟩ := Option.map_eq_some_iff.1 h9
    simp only [Prod.mk.injEq] at h11
    exact ⟨me, h10, h11.1, h11.2⟩
   obtain ⟨me, hme, hmk, hmv⟩ := hes
   have hes2 : es[i]? = some me := by rw [← Array.getElem?_toList]; exact hme
   simp only [hes2, Option.map_some, Option.getD_some, hmk, Instr.keyThatStays, bind_eq, pure_eq]
   rw [if_pos (sameBits_nums 9998 a)]
   simp only [bind_pure, bind_assoc]
   refine ⟨.map es clock, F1, F2, e1, (fun _ _ _ => by simp), rfl, ?_⟩
   have := H (es.modify i fun e => { e with key := .agg (a.map nI).toArray, val := .bool true }) clock (by
    unfold MapT at hm ⊢
    rw [Array.toList_modify, modify_map, hm]
    intro y hy
    rw [hme] at hy
    cases hy
    simp [hmk, hmv])
   rw [e2] at this
   exact ⟨_, .inr ⟨rfl, rfl⟩, this⟩
end rules
end Go.Mus

/- The checks of floors, strikes, plants. Conditions: none; over the given program. -/
namespace Go.Mus
set_option maxRecDepth 100000
set_option maxHeartbeats 4000000
theorem outside_fn (main : Side) (h : Hp) (n lo hi : Int) : Pu prog main n_floor_outside #[I n, I lo, I hi] h (.bool (decide (outs n lo hi))) := by
 refine Fnc.of_body at_floor_outside rfl (by show 3 ≤ 15; decide) [(0, I n), (1, I lo), (2, I hi)] ⟨rfl, rfl, rfl, trivial⟩ ?_
 refine W.seq <| W.region rfl <| qs rfl rfl rfl <| nn <| W.seq <| W.region rfl <| qm rfl rfl rfl <| qm rfl rfl rfl ?_
 refine o1 (y_lss rfl rfl rfl) rfl ?_
 refine qm rfl rfl rfl ?_
 refine Ops.ask (fun a1_4 => ?_) (fun a1_4 => ?_)
 ·refine Ops.no ?_
  refine Ops.no ?_
  refine Ops.no ?_
  refine o1 (y_pickT rfl rfl rfl) rfl ?_
  refine qs rfl rfl rfl <| nn <| W.ret ?_
  refine lvp ?_
  first | exact congrArg Value.bool (decide_eq_true (Or.inl ‹_›)).symm | exact congrArg Value.bool (decide_eq_decide.2 ⟨.inr, fun h => h.resolve_left ‹_›⟩)
 ·refine oq (y_move rfl rfl) rfl (want_some rfl rfl rfl) rfl rfl ?_
  refine oq (y_move rfl rfl) rfl (want_some rfl rfl rfl) rfl rfl ?_
  refine oq (y_gtr rfl rfl rfl) rfl (want_some rfl rfl rfl) rfl rfl ?_
  refine o1 (y_pickF rfl rfl rfl) rfl ?_
  refine qs rfl rfl rfl <| nn <| W.ret ?_
  refine lvp ?_
  first | exact congrArg Value.bool (decide_eq_true (Or.inl ‹_›)).symm | exact congrArg Value.bool (decide_eq_decide.2 ⟨.inr, fun h => h.resolve_left ‹_›⟩)

theorem checkFloor_fn (main : Side) (h : Hp) (f : Fl) : Pu prog main n_floor_checkFloor #[f.val] h (I (ckFloor f)) := by
 refine Fnc.of_body at_floor_checkFloor rfl (by show 1 ≤ 31; decide) [(0, f.val)] ⟨rfl, trivial⟩ ?_
 refine W.seq <| W.region rfl ?_
 refine Ops.box (fun β1 => ?_)
 refine qs rfl rfl rfl <| nn <| W.seq <| W.block <| W.seq <| W.region rfl ?_
 refine fq rfl ?_
 refine dq rfl ?_
 refine cp (fun h' hE hL => outside_fn _ h' _ _ _) ?_
 refine qm rfl rfl rfl ?_
 refine Ops.ask (fun a1_4 => ?_) (fun a1_4 => ?_)
 ·refine Ops.no ?_
  refine Ops.no ?_
  refine Ops.no ?_
  refine Ops.no ?_
  refine o1 (y_pickT rfl rfl rfl) rfl ?_
  refine qm rfl rfl rfl ?_
  refine Ops.no ?_
  refine Ops.no ?_
  refine Ops.no ?_
  refine Ops.no ?_
  refine o1 (y_pickT rfl rfl rfl) rfl ?_
  refine qs rfl rfl rfl <| nn ?_
  refine W.condT ?_
  refine W.seq <| W.region rfl <| qs rfl rfl rfl <| nn <| W.ret <| blk_r <| thn_r ?_
  refine lvp ?_
  simp_all [ckFloor, pack]
 ·refine oq (y_fieldAddr rfl rfl) rfl (want_some rfl rfl rfl) rfl rfl ?_
  refine oq (y_fieldAddr rfl rfl) rfl (want_some rfl rfl rfl) rfl rfl ?_
  refine oq (yld rfl rfl) rfl (want_some rfl rfl rfl) rfl rfl ?_
  refine cp (fun h' hE hL => outside_fn _ h' _ _ _) ?_
  refine o1 (y_pickF rfl rfl rfl) rfl ?_
  refine qm rfl rfl rfl ?_
  refine Ops.ask (fun a1_10 => ?_) (fun a1_10 => ?_)
  ·refine Ops.no ?_
   refine Ops.no ?_
   refine Ops.no ?_
   refine Ops.no ?_
   refine o1 (y_pickT rfl rfl rfl) rfl ?_
   refine qs rfl rfl rfl <| nn ?_
   refine W.condT ?_
   refine W.seq <| W.region rfl <| qs rfl rfl rfl <| nn <| W.ret <| blk_r <| thn_r ?_
   refine lvp ?_
   simp_all [ckFloor, pack]
  ·refine oq (y_fieldAddr rfl rfl) rfl (want_some rfl rfl rfl) rfl rfl ?_
   refine oq (y_fieldAddr rfl rfl) rfl (want_some rfl rfl rfl) rfl rfl ?_
   refine oq (yld rfl rfl) rfl (want_some rfl rfl rfl) rfl rfl ?_
   refine cp (fun h' hE hL => outside_fn _ h' _ _ _) ?_
   refine o1 (y_pickF rfl rfl rfl) rfl ?_
   refine qs rfl rfl rfl <| nn ?_
   refine W.condp rfl (fun c3 => ?_) (fun c3 => ?_)
   ·refine W.seq <| W.region rfl <| qs rfl rfl rfl <| nn <| W.ret <| blk_r <| thn_r ?_
    refine lvp ?_
    simp_all [ckFloor, pack]
   ·refine W.seq <| W.region rfl ?_
    refine fq rfl ?_
    refine fq rfl ?_
    refine dq rfl ?_
    refine fq rfl ?_
    refine fq rfl ?_
    refine dq rfl ?_
    refine o1 (y_gtr rfl rfl rfl) rfl ?_
    refine qs rfl rfl rfl <| nn ?_
    refine W.condp rfl (fun c19 => ?_) (fun c19 => ?_)
    ·refine W.seq <| W.region rfl <| qs rfl rfl rfl <| nn <| W.ret <| blk_r <| thn_r ?_
     refine lvp ?_
     simp_all [ckFloor, pack]
    ·refine W.seq <| W.region rfl ?_
     refine fq rfl ?_
     refine dq rfl ?_
     refine cp (fun h' hE hL => outside_fn _ h' _ _ _) ?_
     refine qs rfl rfl rfl <| nn ?_
     refine W.condp rfl (fun c27 => ?_) (fun c27 => ?_)
     ·refine W.seq <| W.region rfl <| qs rfl rfl rfl <| nn <| W.ret <| blk_r <| thn_r ?_
      refine lvp ?_
      simp_all [ckFloor, pack]
     ·refine W.skip <| blk_n <| thn_n <| W.seq <| W.region rfl <| qs rfl rfl rfl <| nn <| W.ret ?_
      refine lvp ?_
      simp_all [ckFloor, pack]

theorem Check_fn (main : Side) (h : Hp) (fs : List Fl) (ss : List St) (vf vs : Value) (hf : Sl h Fl.row vf fs) (hs : Sl h St.row vs ss) : Pu prog main n_floor_Check #[.agg #[vf, vs]] h (I (ckPlant fs ss)) := by
 obtain ⟨a, cap, rfl⟩ := hf.isSl
 obtain ⟨a', cap', rfl⟩ := hs.isSl
 refine Fnc.of_body at_floor_Check rfl (by show 1 ≤ 61; decide) [(0, .agg #[.slice a fs.length cap, .slice a' ss.length cap'])] ⟨rfl, trivial⟩ ?_
 refine W.seq <| W.region rfl ?_
 refine Ops.box (fun β1 => ?_)
 refine qs rfl rfl rfl <| nn <| W.seq <| W.seq <| W.region rfl ?_
 refine fq rfl ?_
 refine dq rfl ?_
 refine o1 (y_len rfl rfl) rfl ?_
 refine o1 (y_eql rfl rfl rfl) rfl ?_
 refine nn ?_
 refine W.condp rfl (fun c12 => ?_) (fun c12 => ?_)
 ·refine W.seq <| W.region rfl <| qs rfl rfl rfl <| nn <| W.ret <| thn_r ?_
  refine lvp ?_
  show I _ = I _; congr 1; simp only [ckPlant]; rw [if_pos (by omega)]
 ·refine W.skip <| thn_n <| W.seq <| W.seq <| W.region rfl ?_
  refine fq rfl ?_
  refine dq rfl ?_
  refine o1 (y_len rfl rfl) rfl ?_
  refine o1 (y_gtr rfl rfl rfl) rfl ?_
  refine nn ?_
  refine W.condp rfl (fun c16 => ?_) (fun c16 => ?_)
  ·refine W.seq <| W.region rfl <| qs rfl rfl rfl <| nn <| W.ret <| thn_r ?_
   refine lvp ?_
   show I _ = I _; congr 1; simp only [ckPlant]; rw [if_neg (by omega), if_pos (by omega)]
  ·refine W.skip <| thn_n <| W.seq <| W.seq <| W.region rfl ?_
   refine fq rfl ?_
   refine dq rfl ?_
   refine o1 (y_len rfl rfl) rfl ?_
   refine qm rfl rfl rfl <| nn <| W.block ?_
   refine W.loop (σ := Nat) (fun k => k ≤ fs.length ∧ ckFloors fs = ckFloors (fs.drop k)) (fun k => [(20, I k), (19, I fs.length), (18, .slice a fs.length cap), (1, .pointer (some ⟨β1, 0, none⟩))]) (fun _ => [(β1, .cells #[.slice a fs.length cap, .slice a' ss.length cap'] t_Plant (0, 0))]) (fun k => fs.length - k) 0 ⟨Nat.zero_le _, rfl⟩ ⟨rfl, rfl, rfl, rfl, trivial⟩ sbA ?_
   rintro k ⟨hk, hd⟩
   refine W.seq <| W.region rfl ?_
   refine o1 (y_lss rfl rfl rfl) rfl ?_
   refine nn <| W.seq ?_
   refine W.condp rfl (fun c21 => ?_) (fun c21 => ?_)
   ·obtain ⟨p, hp, hdr⟩ := has (show k < fs.length by omega)
    rw [hdr] at hd
    obtain ⟨b, off, c, E, fz, rfl, hb, hx, hy, hz⟩ := hf.at hp
    have hx' : c.extract (off + k * 4) (off + k * 4 + 4) = #[I p.pl, I p.lo, I p.hi, I p.co] := hx
    clear hx hz
    refine W.skip <| thn_n <| W.seq <| W.block <| W.seq <| W.region rfl ?_
    refine xq rfl ?_
    refine lq rfl ?_
    refine Ops.new (fun β4 => ?_)
    first | refine Ops.stoW ?_ | refine Ops.stoA ?_
    refine nn <| W.seq <| W.region rfl ?_
    refine lq rfl ?_
    refine cp (fun h' hE hL => checkFloor_fn _ h' _) ?_
    refine qs rfl rfl rfl <| nn <| W.seq <| W.region rfl <| qm rfl rfl rfl ?_
    refine o1 (y_neq rfl rfl rfl) rfl ?_
    refine nn ?_
    refine W.condp rfl (fun c27 => ?_) (fun c27 => ?_)
    ·refine W.seq <| W.region rfl <| qm rfl rfl rfl <| qs rfl rfl rfl <| nn <| W.ret <| blk_r <| thn_r <| thn_r ?_
     refine blk_r <| thn_r ?_
     refine lvp ?_
     show I _ = I _; congr 1; simp only [ckPlant]; simp only [ckFloors] at hd; simp_all; omega
    ·refine W.skip <| blk_n <| thn_n <| W.region rfl ?_
     refine pq rfl ?_
     refine qm rfl rfl rfl <| nn ?_
     exact ⟨rfl, k + 1, ⟨by omega, by simp only [ckFloors] at hd; simp_all⟩, by omega, ⟨rfl, rfl, rfl, rfl, trivial⟩, sbA⟩
   ·have : k = fs.length := by omega
    subst this
    have hz : ckFloors fs = 0 := by rw [hd]; simp [ckFloors]
    clear hd
    refine W.exit <| thn_x <| thn_x <| blk_x <| thn_n <| W.seq <| W.seq <| W.region rfl ?_
    refine fq rfl ?_
    refine dq rfl ?_
    refine o1 (y_len rfl rfl) rfl ?_
    refine o1 (y_gtr rfl rfl rfl) rfl ?_
    refine nn ?_
    refine W.condp rfl (fun c33 => ?_) (fun c33 => ?_)
    ·refine W.seq <| W.region rfl <| qs rfl rfl rfl <| nn <| W.ret <| thn_r ?_
     refine lvp ?_
     show I _ = I _; congr 1; simp only [ckPlant]; rw [if_neg (by omega), if_neg (by omega), if_neg (by omega), if_pos (by omega)]
    ·refine W.skip <| thn_n <| W.seq <| W.region rfl <| qs rfl rfl rfl <| nn <| W.seq <| W.seq <| W.region rfl ?_
     refine fq rfl ?_
     refine dq rfl ?_
     refine o1 (y_len rfl rfl) rfl ?_
     refine qm rfl rfl rfl <| nn <| W.block ?_
     refine W.loop (σ := Nat × Int) (fun s => s.1 ≤ ss.length ∧ ckStrikes 0 ss = ckStrikes s.2 (ss.drop s.1)) (fun s => [(37, I s.1), (36, I ss.length), (35, .slice a' ss.length cap'), (6, I s.2)]) (fun _ => []) (fun s => ss.length - s.1) (0, 0) ⟨Nat.zero_le _, rfl⟩ ⟨rfl, rfl, rfl, rfl, trivial⟩ sbA ?_
     rintro ⟨k, bef⟩ ⟨hk', hd'⟩
     simp only at hk' hd'
     refine W.seq <| W.region rfl ?_
     refine o1 (y_lss rfl rfl rfl) rfl ?_
     refine nn <| W.seq ?_
     refine W.condp rfl (fun c38 => ?_) (fun c38 => ?_)
     ·obtain ⟨p, hp, hdr⟩ := has (show k < ss.length by simp only at c38; omega)
      rw [hdr] at hd'
      obtain ⟨b, off, c, E, fz, rfl, hb, hx, hy, hz⟩ := hs.at hp
      have hx' : c.extract (off + k * 3) (off + k * 3 + 3) = #[I p.day, I p.co, I p.wa] := hx
      clear hx hz
      refine W.skip <| thn_n <| W.seq <| W.block <| W.seq <| W.region rfl ?_
      refine xq rfl ?_
      refine lq rfl ?_
      refine Ops.new (fun β8 => ?_)
      first | refine Ops.stoW ?_ | refine Ops.stoA ?_
      refine nn <| W.seq <| W.seq <| W.region rfl ?_
      refine fq rfl ?_
      refine dq rfl ?_
      refine cp (fun h' hE hL => outside_fn _ h' _ _ _) ?_
      refine qm rfl rfl rfl ?_
      refine Ops.ask (fun a18_4 => ?_) (fun a18_4 => ?_)
      ·refine Ops.no ?_
       refine Ops.no ?_
       refine Ops.no ?_
       refine o1 (y_pickT rfl rfl rfl) rfl ?_
       refine qm rfl rfl rfl ?_
       refine Ops.no ?_
       refine Ops.no ?_
       refine Ops.no ?_
       refine o1 (y_pickT rfl rfl rfl) rfl ?_
       refine nn ?_
       refine W.condT ?_
       refine W.seq <| W.region rfl <| qs rfl rfl rfl <| nn <| W.ret <| thn_r <| blk_r <| thn_r <| thn_r ?_
       refine blk_r <| thn_r ?_
       refine lvp ?_
       have hc : ckStrike bef p = 1 := by simp only [ckStrike]; rw [if_pos]; first | exact .inl ‹_› | exact .inr (.inl ‹_›) | exact .inr (.inr ‹_›)
       show I _ = I _; congr 1; simp only [ckPlant]; simp only [ckStrikes, hc] at hd'; rw [if_neg (by omega), if_neg (by omega), if_neg (by omega), if_neg (by omega), hd']; rfl
      ·refine oq (y_fieldAddr rfl rfl) rfl (want_some rfl rfl rfl) rfl rfl ?_
       refine oq (yld rfl rfl) rfl (want_some rfl rfl rfl) rfl rfl ?_
       refine cp (fun h' hE hL => outside_fn _ h' _ _ _) ?_
       refine o1 (y_pickF rfl rfl rfl) rfl ?_
       refine qm rfl rfl rfl ?_
       refine Ops.ask (fun a18_9 => ?_) (fun a18_9 => ?_)
       ·refine Ops.no ?_
        refine Ops.no ?_
        refine Ops.no ?_
        refine o1 (y_pickT rfl rfl rfl) rfl ?_
        refine nn ?_
        refine W.condT ?_
        refine W.seq <| W.region rfl <| qs rfl rfl rfl <| nn <| W.ret <| thn_r <| blk_r <| thn_r <| thn_r ?_
        refine blk_r <| thn_r ?_
        refine lvp ?_
        have hc : ckStrike bef p = 1 := by simp only [ckStrike]; rw [if_pos]; first | exact .inl ‹_› | exact .inr (.inl ‹_›) | exact .inr (.inr ‹_›)
        show I _ = I _; congr 1; simp only [ckPlant]; simp only [ckStrikes, hc] at hd'; rw [if_neg (by omega), if_neg (by omega), if_neg (by omega), if_neg (by omega), hd']; rfl
       ·refine oq (y_fieldAddr rfl rfl) rfl (want_some rfl rfl rfl) rfl rfl ?_
        refine oq (yld rfl rfl) rfl (want_some rfl rfl rfl) rfl rfl ?_
        refine cp (fun h' hE hL => outside_fn _ h' _ _ _) ?_
        refine o1 (y_pickF rfl rfl rfl) rfl ?_
        refine nn ?_
        refine W.condp rfl (fun c53 => ?_) (fun c53 => ?_)
        ·refine W.seq <| W.region rfl <| qs rfl rfl rfl <| nn <| W.ret <| thn_r <| blk_r <| thn_r <| thn_r ?_
         refine blk_r <| thn_r ?_
         refine lvp ?_
         have hc : ckStrike bef p = 1 := by simp only [ckStrike]; rw [if_pos]; first | exact .inl ‹_› | exact .inr (.inl ‹_›) | exact .inr (.inr ‹_›)
         show I _ = I _; congr 1; simp only [ckPlant]; simp only [ckStrikes, hc] at hd'; rw [if_neg (by omega), if_neg (by omega), if_neg (by omega), if_neg (by omega), hd']; rfl
        ·refine W.skip <| thn_n <| W.seq <| W.seq <| W.region rfl ?_
         refine fq rfl ?_
         refine dq rfl ?_
         refine qm rfl rfl rfl ?_
         refine o1 (y_lss rfl rfl rfl) rfl ?_
         refine nn ?_
         refine W.condp rfl (fun c57 => ?_) (fun c57 => ?_)
         ·refine W.seq <| W.region rfl <| qs rfl rfl rfl <| nn <| W.ret <| thn_r <| blk_r <| thn_r <| thn_r ?_
          refine blk_r <| thn_r ?_
          refine lvp ?_
          show I _ = I _; congr 1; simp only [ckPlant]; simp only [ckStrikes] at hd'; rw [if_neg (by omega), if_neg (by omega), if_neg (by omega), if_neg (by omega), hd']; simp_all [ckStrike]
         ·refine W.skip <| thn_n <| W.region rfl ?_
          refine fq rfl ?_
          refine dq rfl ?_
          refine qs rfl rfl rfl <| Ops.nil <| blk_n <| thn_n <| W.region rfl ?_
          refine pq rfl ?_
          refine qm rfl rfl rfl <| nn ?_
          exact ⟨rfl, (k + 1, p.day), ⟨by simp only at c38 ⊢; omega, by simp only [ckStrikes] at hd'; rw [hd']; simp_all [ckStrike]⟩, by simp only at c38 ⊢; omega, ⟨rfl, rfl, rfl, rfl, trivial⟩, sbA⟩
     ·have : k = ss.length := by simp only at c38; omega
      subst this
      refine W.exit <| thn_x <| thn_x <| blk_x <| thn_n <| W.seq <| W.region rfl <| qs rfl rfl rfl <| nn ?_
      refine W.ret ?_
      refine lvp ?_
      show I _ = I _; congr 1; simp only [ckPlant]; rw [if_neg (by omega), if_neg (by omega), if_neg (by omega), if_neg (by omega), hd']; simp [ckStrikes]
end Go.Mus

/- The checks of plans. Conditions: none; over the given program. -/
namespace Go.Mus
set_option maxRecDepth 100000
set_option maxHeartbeats 4000000
theorem ckPlant0 {fs : List Fl} {ss : List St} (h : ckPlant fs ss = 0) : fs.length ≠ 0 ∧ fs.length ≤ 2 ∧ ss.length ≤ 4 ∧ ckFloors fs = 0 ∧ ckStrikes 0 ss = 0 := by
 unfold ckPlant at h
 split at h
 ·cases h
 split at h
 ·cases h
 split at h
 ·rename_i h1; exact absurd h h1
 split at h
 ·cases h
 ·rename_i h1 h2 h3 h4
  exact ⟨h1, by omega, by omega, Decidable.byContradiction h3, h⟩
theorem ckStrikes_at : ∀ {ss : List St} {b : Int} {k : Nat} {s : St}, ckStrikes b ss = 0 → ss[k]? = some s → ∃ b', ckStrike b' s = 0
 | [], _, _, _, _, h => by simp at h
 | s :: ss, b, k, t, h, hk => by
  simp only [ckStrikes] at h
  split at h
  ·rename_i h1
   cases k with
   | zero => simp at hk; subst hk; exact ⟨b, h1⟩
   | succ k => simp at hk; exact ckStrikes_at h hk
  ·rename_i h1; exact absurd h h1
theorem ckStrike0 {b : Int} {s : St} (h : ckStrike b s = 0) : 0 ≤ s.day ∧ s.day ≤ 12 ∧ 1 ≤ s.co ∧ s.co ≤ 6 ∧ 0 ≤ s.wa ∧ s.wa ≤ 3 ∧ b ≤ s.day := by
 unfold ckStrike at h
 split at h
 ·cases h
 ·split at h
  ·cases h
  ·rename_i h1 h2
   simp only [outs] at h1
   omega
theorem strike_ok {fs : List Fl} {ss : List St} {k : Nat} {s : St} (h : ckPlant fs ss = 0) (hk : ss[k]? = some s) : 0 ≤ s.day ∧ s.day ≤ 12 ∧ 1 ≤ s.co ∧ s.co ≤ 6 ∧ 0 ≤ s.wa ∧ s.wa ≤ 3 := by
 obtain ⟨b, hb⟩ := ckStrikes_at (ckPlant0 h).2.2.2.2 hk
 have := ckStrike0 hb
 omega

theorem CheckPlan_fn (main : Side) (h : Hp) (fs : List Fl) (ss : List St) (l : List Be) (vf vs vl : Value) (hf : Sl h Fl.row vf fs) (hs : Sl h St.row vs ss) (hl : Sl h Be.row vl l) : Pu prog main n_floor_CheckPlan #[.agg #[vf, vs], vl] h (I (ckPlan fs ss l)) := by
 obtain ⟨a, cap, rfl⟩ := hf.isSl
 obtain ⟨a', cap', rfl⟩ := hs.isSl
 obtain ⟨a2, cap2, rfl⟩ := hl.isSl
 refine Fnc.of_body at_floor_CheckPlan rfl (by show 2 ≤ 72; decide) [(0, .agg #[.slice a fs.length cap, .slice a' ss.length cap']), (1, .slice a2 l.length cap2)] ⟨rfl, rfl, trivial⟩ ?_
 refine W.seq <| W.region rfl ?_
 refine Ops.box (fun β2 => ?_)
 refine qs rfl rfl rfl <| nn <| W.seq <| W.seq <| W.region rfl ?_
 refine lq rfl ?_
 refine cp (fun h' hE hL => Check_fn _ h' _ _ _ _ (hf.ext hE) (hs.ext hE)) ?_
 refine qs rfl rfl rfl <| nn <| W.seq <| W.region rfl <| qm rfl rfl rfl ?_
 refine o1 (y_neq rfl rfl rfl) rfl ?_
 refine nn ?_
 refine W.condp rfl (fun c12 => ?_) (fun c12 => ?_)
 ·refine W.seq <| W.region rfl <| qm rfl rfl rfl <| qs rfl rfl rfl <| nn <| W.ret <| thn_r ?_
  refine lvp ?_
  show I _ = I _; congr 1; simp only [ckPlan]; rw [if_pos c12]
 ·have h0 : ckPlant fs ss = 0 := by simpa using c12
  obtain ⟨hf0, hf2, hs4, _, _⟩ := ckPlant0 h0
  have e0 : ckPlan fs ss l = if l.length < ss.length then 7 else if ss.length < l.length then 6 else ckBerths fs.length ss l := by simp only [ckPlan]; rw [if_neg c12]
  refine W.skip <| thn_n <| W.seq <| W.seq <| W.region rfl <| qm rfl rfl rfl ?_
  refine o1 (y_len rfl rfl) rfl ?_
  refine fq rfl ?_
  refine dq rfl ?_
  refine o1 (y_len rfl rfl) rfl ?_
  refine o1 (y_lss rfl rfl rfl) rfl ?_
  refine nn ?_
  refine W.condp rfl (fun c19 => ?_) (fun c19 => ?_)
  ·refine W.seq <| W.region rfl <| qs rfl rfl rfl <| nn <| W.ret <| thn_r ?_
   refine lvp ?_
   show I _ = I _; congr 1; rw [e0, if_pos (by omega)]
  ·refine W.skip <| thn_n <| W.seq <| W.seq <| W.region rfl <| qm rfl rfl rfl ?_
   refine o1 (y_len rfl rfl) rfl ?_
   refine fq rfl ?_
   refine dq rfl ?_
   refine o1 (y_len rfl rfl) rfl ?_
   refine o1 (y_gtr rfl rfl rfl) rfl ?_
   refine nn ?_
   refine W.condp rfl (fun c25 => ?_) (fun c25 => ?_)
   ·refine W.seq <| W.region rfl <| qs rfl rfl rfl <| nn <| W.ret <| thn_r ?_
    refine lvp ?_
    show I _ = I _; congr 1; rw [e0, if_neg (by omega), if_pos (by omega)]
   ·have hll : l.length = ss.length := by omega
    have e1 : ckPlan fs ss l = ckBerths fs.length ss l := by rw [e0, if_neg (by omega), if_neg (by omega)]
    refine W.skip <| thn_n <| W.seq <| W.seq <| W.region rfl <| qm rfl rfl rfl ?_
    refine o1 (y_len rfl rfl) rfl ?_
    refine qm rfl rfl rfl <| nn <| W.block ?_
    refine W.loop (σ := Nat) (fun k => k ≤ l.length ∧ ckPlan fs ss l = ckBerths fs.length (ss.drop k) (l.drop k)) (fun k => [(28, I k), (27, I l.length), (26, .slice a2 l.length cap2), (2, .pointer (some ⟨β2, 0, none⟩))]) (fun _ => [(β2, .cells #[.slice a fs.length cap, .slice a' ss.length cap'] t_Plant (0, 0))]) (fun k => l.length - k) 0 ⟨Nat.zero_le _, e1⟩ ⟨rfl, rfl, rfl, rfl, trivial⟩ sbA ?_
    rintro k ⟨hk, hd⟩
    refine W.seq <| W.region rfl ?_
    refine o1 (y_lss rfl rfl rfl) rfl ?_
    refine nn <| W.seq ?_
    refine W.condp rfl (fun c29 => ?_) (fun c29 => ?_)
    ·obtain ⟨p, hp, hdr⟩ := has (show k < l.length by omega)
     obtain ⟨s, hsk, hdr'⟩ := has (show k < ss.length by omega)
     rw [hdr, hdr'] at hd
     obtain ⟨b, off, c, E, fz, rfl, hb, hx, hy, hz⟩ := hl.at hp
     have hx' : c.extract (off + k * 2) (off + k * 2 + 2) = #[I p.fl, I p.day] := hx
     clear hx hz
     obtain ⟨b', off', c', E', fz', rfl, hb', hx, hy', hz⟩ := hs.at hsk
     have hx2 : c'.extract (off' + k * 3) (off' + k * 3 + 3) = #[I s.day, I s.co, I s.wa] := hx
     clear hx hz
     have hso := strike_ok h0 hsk
     refine W.skip <| thn_n <| W.seq <| W.block <| W.seq <| W.region rfl <| qm rfl rfl rfl ?_
     refine xq rfl ?_
     refine lq rfl ?_
     refine Ops.new (fun β7 => ?_)
     refine qs rfl rfl rfl ?_
     first | refine Ops.stoW ?_ | refine Ops.stoA ?_
     refine nn <| W.seq <| W.region rfl ?_
     refine fq rfl ?_
     refine dq rfl ?_
     refine qm rfl rfl rfl ?_
     refine xq rfl ?_
     refine lq rfl ?_
     refine Ops.new (fun β8 => ?_)
     first | refine Ops.stoW ?_ | refine Ops.stoA ?_
     refine nn <| W.block <| W.seq <| W.region rfl ?_
     refine fq rfl ?_
     refine dq rfl ?_
     refine fq rfl ?_
     refine dq rfl ?_
     refine o1 (y_len rfl rfl) rfl ?_
     refine mq rfl ?_
     refine cp (fun h' hE hL => outside_fn _ h' _ _ _) ?_
     refine qs rfl rfl rfl <| nn ?_
     refine W.condp rfl (fun c38 => ?_) (fun c38 => ?_)
     ·refine W.seq <| W.region rfl <| qs rfl rfl rfl <| nn <| W.ret <| blk_r <| blk_r <| thn_r <| thn_r ?_
      refine blk_r <| thn_r ?_
      refine lvp ?_
      have hc : ckBerth fs.length s p = 3 := by simp only [ckBerth]; rw [if_pos c38]
      show I _ = I _; congr 1; rw [hd]; simp only [ckBerths, hc]; rfl
     ·refine W.seq <| W.region rfl ?_
      refine fq rfl ?_
      refine dq rfl ?_
      refine o1 (y_lss rfl rfl rfl) rfl ?_
      refine qm rfl rfl rfl ?_
      refine Ops.ask (fun a14_4 => ?_) (fun a14_4 => ?_)
      ·refine oq (y_fieldAddr rfl rfl) rfl (want_some rfl rfl rfl) rfl rfl ?_
       refine oq (yld rfl rfl) rfl (want_some rfl rfl rfl) rfl rfl ?_
       refine oq (y_neq rfl rfl rfl) rfl (want_some rfl rfl rfl) rfl rfl ?_
       refine o1 (y_pickT rfl rfl rfl) rfl ?_
       refine qs rfl rfl rfl <| nn ?_
       refine W.condp rfl (fun c46 => ?_) (fun c46 => ?_)
       ·refine W.seq <| W.region rfl <| qs rfl rfl rfl <| nn <| W.ret <| blk_r <| blk_r <| thn_r <| thn_r ?_
        refine blk_r <| thn_r ?_
        refine lvp ?_
        have hc : ckBerth fs.length s p = 8 := by simp only [ckBerth]; rw [if_neg c38, if_pos ⟨by assumption, c46⟩]
        show I _ = I _; congr 1; rw [hd]; simp only [ckBerths, hc]; rfl
       ·refine W.seq <| W.region rfl ?_
        refine fq rfl ?_
        refine dq rfl ?_
        refine o1 (y_geq rfl rfl rfl) rfl ?_
        refine qm rfl rfl rfl ?_
        refine Ops.ask (fun a16_4 => ?_) (fun a16_4 => ?_)
        ·refine oq (y_fieldAddr rfl rfl) rfl (want_some rfl rfl rfl) rfl rfl ?_
         refine oq (yld rfl rfl) rfl (want_some rfl rfl rfl) rfl rfl ?_
         refine oq (y_fieldAddr rfl rfl) rfl (want_some rfl rfl rfl) rfl rfl ?_
         refine oq (yld rfl rfl) rfl (want_some rfl rfl rfl) rfl rfl ?_
         refine oq (y_fieldAddr rfl rfl) rfl (want_some rfl rfl rfl) rfl rfl ?_
         refine oq (yld rfl rfl) rfl (want_some rfl rfl rfl) rfl rfl ?_
         refine oq (y_fieldAddr rfl rfl) rfl (want_some rfl rfl rfl) rfl rfl ?_
         refine oq (yld rfl rfl) rfl (want_some rfl rfl rfl) rfl rfl ?_
         first | refine oq (yadd rfl rfl rfl) rfl (want_some rfl rfl rfl) rfl rfl ?_ | refine oq (y_addw rfl rfl rfl) rfl (want_some rfl rfl rfl) rfl rfl ?_
         refine cp (fun h' hE hL => outside_fn _ h' _ _ _) ?_
         refine o1 (y_pickT rfl rfl rfl) rfl ?_
         refine qs rfl rfl rfl <| nn ?_
         refine W.condp rfl (fun c55 => ?_) (fun c55 => ?_)
         ·refine W.seq <| W.region rfl <| qs rfl rfl rfl <| nn <| W.ret <| blk_r <| blk_r <| thn_r <| thn_r ?_
          refine blk_r <| thn_r ?_
          refine lvp ?_
          have hc : ckBerth fs.length s p = 12 := by simp only [ckBerth]; rw [if_neg c38, if_neg (by omega), if_pos ⟨by assumption, c55⟩]
          show I _ = I _; congr 1; rw [hd]; simp only [ckBerths, hc]; rfl
         ·refine W.skip <| blk_n <| blk_n <| thn_n <| W.region rfl ?_
          refine pq rfl ?_
          refine qm rfl rfl rfl <| nn ?_
          have hc : ckBerth fs.length s p = 0 := by simp only [ckBerth]; rw [if_neg c38, if_neg (by omega), if_neg (by first | exact fun hh => c55 hh.2 | omega)]
          exact ⟨rfl, k + 1, ⟨by omega, by rw [hd]; simp only [ckBerths, hc]; rfl⟩, by omega, ⟨rfl, rfl, rfl, rfl, trivial⟩, sbA⟩
        ·refine Ops.no ?_
         refine Ops.no ?_
         refine Ops.no ?_
         refine Ops.no ?_
         refine Ops.no ?_
         refine Ops.no ?_
         refine Ops.no ?_
         refine Ops.no ?_
         refine Ops.no ?_
         refine Ops.no ?_
         refine o1 (y_pickF rfl rfl rfl) rfl ?_
         refine qs rfl rfl rfl <| nn ?_
         refine W.condF ?_
         refine W.skip <| blk_n <| blk_n <| thn_n <| W.region rfl ?_
         refine pq rfl ?_
         refine qm rfl rfl rfl <| nn ?_
         have hc : ckBerth fs.length s p = 0 := by simp only [ckBerth]; rw [if_neg c38, if_neg (by omega), if_neg (by first | exact fun hh => c55 hh.2 | omega)]
         exact ⟨rfl, k + 1, ⟨by omega, by rw [hd]; simp only [ckBerths, hc]; rfl⟩, by omega, ⟨rfl, rfl, rfl, rfl, trivial⟩, sbA⟩
      ·refine Ops.no ?_
       refine Ops.no ?_
       refine Ops.no ?_
       refine o1 (y_pickF rfl rfl rfl) rfl ?_
       refine qs rfl rfl rfl <| nn ?_
       refine W.condF ?_
       refine W.seq <| W.region rfl ?_
       refine fq rfl ?_
       refine dq rfl ?_
       refine o1 (y_geq rfl rfl rfl) rfl ?_
       refine qm rfl rfl rfl ?_
       refine Ops.ask (fun a16_4 => ?_) (fun a16_4 => ?_)
       ·refine oq (y_fieldAddr rfl rfl) rfl (want_some rfl rfl rfl) rfl rfl ?_
        refine oq (yld rfl rfl) rfl (want_some rfl rfl rfl) rfl rfl ?_
        refine oq (y_fieldAddr rfl rfl) rfl (want_some rfl rfl rfl) rfl rfl ?_
        refine oq (yld rfl rfl) rfl (want_some rfl rfl rfl) rfl rfl ?_
        refine oq (y_fieldAddr rfl rfl) rfl (want_some rfl rfl rfl) rfl rfl ?_
        refine oq (yld rfl rfl) rfl (want_some rfl rfl rfl) rfl rfl ?_
        refine oq (y_fieldAddr rfl rfl) rfl (want_some rfl rfl rfl) rfl rfl ?_
        refine oq (yld rfl rfl) rfl (want_some rfl rfl rfl) rfl rfl ?_
        first | refine oq (yadd rfl rfl rfl) rfl (want_some rfl rfl rfl) rfl rfl ?_ | refine oq (y_addw rfl rfl rfl) rfl (want_some rfl rfl rfl) rfl rfl ?_
        refine cp (fun h' hE hL => outside_fn _ h' _ _ _) ?_
        refine o1 (y_pickT rfl rfl rfl) rfl ?_
        refine qs rfl rfl rfl <| nn ?_
        refine W.condp rfl (fun c55 => ?_) (fun c55 => ?_)
        ·refine W.seq <| W.region rfl <| qs rfl rfl rfl <| nn <| W.ret <| blk_r <| blk_r <| thn_r <| thn_r ?_
         refine blk_r <| thn_r ?_
         refine lvp ?_
         have hc : ckBerth fs.length s p = 12 := by simp only [ckBerth]; rw [if_neg c38, if_neg (by omega), if_pos ⟨by assumption, c55⟩]
         show I _ = I _; congr 1; rw [hd]; simp only [ckBerths, hc]; rfl
        ·refine W.skip <| blk_n <| blk_n <| thn_n <| W.region rfl ?_
         refine pq rfl ?_
         refine qm rfl rfl rfl <| nn ?_
         have hc : ckBerth fs.length s p = 0 := by simp only [ckBerth]; rw [if_neg c38, if_neg (by omega), if_neg (by first | exact fun hh => c55 hh.2 | omega)]
         exact ⟨rfl, k + 1, ⟨by omega, by rw [hd]; simp only [ckBerths, hc]; rfl⟩, by omega, ⟨rfl, rfl, rfl, rfl, trivial⟩, sbA⟩
       ·refine Ops.no ?_
        refine Ops.no ?_
        refine Ops.no ?_
        refine Ops.no ?_
        refine Ops.no ?_
        refine Ops.no ?_
        refine Ops.no ?_
        refine Ops.no ?_
        refine Ops.no ?_
        refine Ops.no ?_
        refine o1 (y_pickF rfl rfl rfl) rfl ?_
        refine qs rfl rfl rfl <| nn ?_
        refine W.condF ?_
        refine W.skip <| blk_n <| blk_n <| thn_n <| W.region rfl ?_
        refine pq rfl ?_
        refine qm rfl rfl rfl <| nn ?_
        have hc : ckBerth fs.length s p = 0 := by simp only [ckBerth]; rw [if_neg c38, if_neg (by omega), if_neg (by first | exact fun hh => c55 hh.2 | omega)]
        exact ⟨rfl, k + 1, ⟨by omega, by rw [hd]; simp only [ckBerths, hc]; rfl⟩, by omega, ⟨rfl, rfl, rfl, rfl, trivial⟩, sbA⟩
    ·refine W.exit <| thn_x <| thn_x <| blk_x <| thn_n <| W.seq <| W.region rfl <| qs rfl rfl rfl <| nn ?_
     refine W.ret ?_
     refine lvp ?_
     show I _ = I _; congr 1; rw [hd, show k = l.length by omega]; simp [ckBerths]

theorem planOf_fn (main : Side) (h : Hp) (l : List Be) (vl : Value) (hl : Sl h Be.row vl l) (h4 : l.length ≤ 4) : Pu prog main n_floor_planOf #[vl] h (planV (padB l)) := by
 refine Fnc.of_body at_floor_planOf rfl (by show 1 ≤ 16; decide) [(0, vl)] ⟨rfl, trivial⟩ ?_
 refine W.seq <| W.region rfl ?_
 refine Ops.new (fun β2 => ?_)
 refine nn <| W.seq <| W.region rfl ?_
 refine Ops.new (fun β3 => ?_)
 refine nn <| W.seq <| W.seq <| W.region rfl <| qm rfl rfl rfl <| nn <| W.block ?_
 refine W.loop (σ := Nat) (fun k => k ≤ 4) (fun k => [(5, I k), (3, .pointer (some ⟨β3, 0, none⟩)), (2, .pointer (some ⟨β2, 0, none⟩)), (0, vl)]) (fun k => [(β3, .cells (fillP k) t_plan (0, 0)), (β2, .cells (fillP 0) t_plan (0, 0))]) (fun k => 4 - k) 0 (by decide) ⟨rfl, rfl, rfl, rfl, trivial⟩ sbA ?_
 rintro k hk
 refine W.seq <| W.region rfl ?_
 refine o1 (y_lss rfl rfl rfl) rfl ?_
 refine nn <| W.seq ?_
 refine W.condp rfl (fun c6 => ?_) (fun c6 => ?_)
 ·have h8 : (fillP k).size = 8 := by simp [fillP, flat_len]; omega
  refine W.skip <| thn_n <| W.seq <| W.block <| W.seq <| W.region rfl <| qm rfl rfl rfl <| qs rfl rfl rfl <| nn ?_
  refine W.region rfl <| qm rfl rfl rfl ?_
  first | refine o1 (yixA rfl rfl rfl) rfl ?_ | refine o1 (yixAI rfl rfl rfl) rfl ?_
  refine fq rfl ?_
  refine Ops.sto ?_
  refine Ops.nil <| blk_n <| thn_n <| W.region rfl ?_
  refine pq rfl ?_
  refine qm rfl rfl rfl <| nn ?_
  refine ⟨rfl, k + 1, by omega, by omega, ⟨rfl, rfl, rfl, rfl, trivial⟩, ?_⟩
  rcases (by omega : k = 0 ∨ k = 1 ∨ k = 2 ∨ k = 3) with rfl | rfl | rfl | rfl <;> exact sbA
 ·have : k = 4 := by omega
  subst this
  refine W.exit <| thn_x <| thn_x <| blk_x <| thn_n <| W.seq <| W.region rfl ?_
  refine o1 (y_sliceArr rfl rfl) rfl ?_
  refine qm rfl rfl rfl ?_
  refine oe rfl wn rfl rfl (e_copy (row := Be.row) rfl rfl rfl hl (by omega) (by repeat (first | exact At.head | apply At.tail)) (by simp [fillP, flat_len]; omega) ?_)
  rw [fillP_put h4]
  refine nn <| W.seq <| W.region rfl ?_
  have h8 : (flat Be.row (padB l)).toArray.size = 8 := by simp [flat_len, padB_len h4]
  have h1 : ones (flat Be.row (padB l)).toArray.toList = true := by simpa using flat_ones _
  refine lq rfl ?_
  first | refine Ops.stoW ?_ | refine Ops.stoA ?_
  refine nn <| W.ret ?_
  exact lvc (hv := rAgg rNil) ⟨rfl, Shut.cons rfl (Shut.cons rfl .nil)⟩
end Go.Mus

/- What is asked of a plan. Conditions: none; over the given program. -/
namespace Go.Mus
set_option maxRecDepth 100000
set_option maxHeartbeats 4000000
theorem ckPlan0 {fs : List Fl} {ss : List St} {l : List Be} (h : ckPlan fs ss l = 0) : ckPlant fs ss = 0 ∧ l.length = ss.length ∧ ckBerths fs.length ss l = 0 := by
 unfold ckPlan at h
 split at h
 ·rename_i h1; exact absurd h h1
 split at h
 ·cases h
 split at h
 ·cases h
 ·rename_i h1 h2 h3
  exact ⟨Decidable.byContradiction h1, by omega, h⟩

theorem asked_fn (main : Side) (h : Hp) (fs : List Fl) (ss : List St) (l : List Be) (ns : List Int) (vf vs vl vn : Value) (hf : Sl h Fl.row vf fs) (hs : Sl h St.row vs ss) (hl : Sl h Be.row vl l) (hn : Sl h rowI vn ns) (hnl : ns.length ≤ 1000) : Pu prog main n_floor_asked #[.agg #[vf, vs], vl, vn] h (askV vf vs fs ss l ns) := by
 obtain ⟨a, cap, rfl⟩ := hf.isSl
 obtain ⟨a', cap', rfl⟩ := hs.isSl
 obtain ⟨a2, cap2, rfl⟩ := hl.isSl
 obtain ⟨a3, cap3, rfl⟩ := hn.isSl
 refine Fnc.of_body at_floor_asked rfl (by show 3 ≤ 39; decide) [(0, .agg #[.slice a fs.length cap, .slice a' ss.length cap']), (1, .slice a2 l.length cap2), (2, .slice a3 ns.length cap3)] ⟨rfl, rfl, rfl, trivial⟩ ?_
 refine W.seq <| W.region rfl ?_
 refine Ops.box (fun β3 => ?_)
 refine Ops.new (fun β6 => ?_)
 refine Ops.new (fun β7 => ?_)
 refine qs rfl rfl rfl <| nn <| W.seq <| W.seq <| W.region rfl ?_
 refine lq rfl ?_
 refine qm rfl rfl rfl ?_
 refine cp (fun h' hE hL => CheckPlan_fn _ h' _ _ _ _ _ _ (hf.ext hE) (hs.ext hE) (hl.ext hE)) ?_
 refine qs rfl rfl rfl <| nn <| W.seq <| W.region rfl <| qm rfl rfl rfl ?_
 refine o1 (y_neq rfl rfl rfl) rfl ?_
 refine nn ?_
 refine W.condp rfl (fun c16 => ?_) (fun c16 => ?_)
 ·refine W.seq <| W.region rfl ?_
  refine o1 (y_build rfl rfl rfl) rfl ?_
  refine o1 (y_build0 rfl) rfl ?_
  refine qm rfl rfl rfl ?_
  first | refine Ops.stoW ?_ | refine Ops.stoA ?_
  first | refine Ops.stoW ?_ | refine Ops.stoA ?_
  refine qs rfl rfl rfl <| nn <| W.ret <| thn_r ?_
  refine lvc (hv := rAgg (rAgg (rTmp rNil))) ⟨?_, by repeat (first | exact Shut.nil | refine Shut.cons rfl ?_)⟩
  have e : askE fs ss l ns = ckPlan fs ss l := by simp only [askE]; rw [if_pos c16]
  simp only [askV, e]; rw [if_neg c16]; rfl
 ·have h0 : ckPlan fs ss l = 0 := by simpa using c16
  have hf2 : fs.length ≤ 2 := (ckPlant0 (ckPlan0 h0).1).2.1
  have hl4 : l.length ≤ 4 := by have := ckPlan0 h0; have := (ckPlant0 this.1).2.2.1; omega
  refine W.skip <| thn_n <| W.seq <| W.seq <| W.region rfl <| qm rfl rfl rfl ?_
  refine o1 (y_len rfl rfl) rfl ?_
  refine qm rfl rfl rfl <| nn <| W.block ?_
  refine W.loop (σ := Nat) (fun k => k ≤ ns.length ∧ badF fs.length ns = badF fs.length (ns.drop k)) (fun k => [(22, I k), (21, I ns.length), (20, .slice a3 ns.length cap3), (3, .pointer (some ⟨β3, 0, none⟩)), (6, .pointer (some ⟨β6, 0, none⟩)), (7, .pointer (some ⟨β7, 0, none⟩)), (1, .slice a2 l.length cap2)]) (fun _ => [(β7, .cells #[I 0, I 0, I 0, I 0, I 0, I 0, I 0, I 0] t_plan (0, 0)), (β6, .cells #[.slice none 0 0, .slice none 0 0] t_hall (0, 0)), (β3, .cells #[.slice a fs.length cap, .slice a' ss.length cap'] t_Plant (0, 0))]) (fun k => ns.length - k) 0 ⟨Nat.zero_le _, rfl⟩ ⟨rfl, rfl, rfl, rfl, rfl, rfl, rfl, trivial⟩ sbA ?_
  rintro k ⟨hk, hd⟩
  refine W.seq <| W.region rfl ?_
  refine o1 (y_lss rfl rfl rfl) rfl ?_
  refine nn <| W.seq ?_
  refine W.condp rfl (fun c23 => ?_) (fun c23 => ?_)
  ·obtain ⟨p, hp, hdr⟩ := has (show k < ns.length by omega)
   rw [hdr] at hd
   obtain ⟨b, off, c, E, fz, rfl, hb, hx, hy, hz⟩ := hn.at hp
   have hz0 : c[off + k * 1]? = some (I p) := hz 0 (by decide)
   clear hx hz
   refine W.skip <| thn_n <| W.seq <| W.block <| W.seq <| W.region rfl ?_
   refine xq rfl ?_
   refine dq rfl ?_
   refine qs rfl rfl rfl <| nn <| W.seq <| W.region rfl <| qm rfl rfl rfl ?_
   refine fq rfl ?_
   refine dq rfl ?_
   refine o1 (y_len rfl rfl) rfl ?_
   refine mq rfl ?_
   refine cp (fun h' hE hL => outside_fn _ h' _ _ _) ?_
   refine nn ?_
   refine W.condp rfl (fun c31 => ?_) (fun c31 => ?_)
   ·refine W.seq <| W.region rfl ?_
    refine o1 (y_build rfl rfl rfl) rfl ?_
    refine o1 (y_build0 rfl) rfl ?_
    first | refine Ops.stoW ?_ | refine Ops.stoA ?_
    first | refine Ops.stoW ?_ | refine Ops.stoA ?_
    refine qs rfl rfl rfl <| nn <| W.ret <| blk_r <| thn_r <| thn_r <| blk_r <| thn_r ?_
    refine lvc (hv := rAgg (rAgg (rTmp rNil))) ⟨?_, by repeat (first | exact Shut.nil | refine Shut.cons rfl ?_)⟩
    have e : askE fs ss l ns = 3 := by simp only [askE]; rw [if_neg c16, hd, if_pos]; simp only [badF]; rw [if_pos c31]
    simp only [askV, e]; rfl
   ·refine W.skip <| blk_n <| thn_n <| W.region rfl ?_
    refine pq rfl ?_
    refine qm rfl rfl rfl <| nn ?_
    exact ⟨rfl, k + 1, ⟨by omega, by rw [hd]; simp only [badF]; rw [if_neg c31]⟩, by omega, ⟨rfl, rfl, rfl, rfl, rfl, rfl, rfl, trivial⟩, sbA⟩
  ·refine W.exit <| thn_x <| thn_x <| blk_x <| thn_n <| W.seq ?_
   have h8 : (flat Be.row (padB l)).toArray.size = 8 := by simp [flat_len, padB_len hl4]
   have h1 : ones (flat Be.row (padB l)).toArray.toList = true := by simpa using flat_ones _
   refine W.drawL [(β3, .cells #[.slice a fs.length cap, .slice a' ss.length cap'] t_Plant (0, 0))] (n := 7) rfl ?_
   first | refine a1 0 (yldW rfl rfl) rfl ?_ | refine a1 0 (yldA rfl rfl) rfl ?_
   refine a1 1 (y_build rfl rfl rfl) rfl ?_
   refine a1 2 (y_move rfl rfl) rfl ?_
   refine acp (i := 3) (fun h' hE hL => planOf_fn _ h' _ _ (hl.ext hE) hl4) ?_
   first | refine ae (i := 4) rfl an rfl rfl (eSW rfl rfl rfl ?_) | refine ae (i := 4) rfl an rfl rfl (eSA rfl rfl rfl ?_)
   refine ⟨.inr (by first | exact Keeps.refl | exact Keeps.nil | ((repeat (first | exact fun _ h => h | apply Keeps.cons | apply Keeps.app)) <;> fail) | (repeat (first | exact Keeps.nil | refine Keeps.one (by repeat (first | exact List.Mem.head _ | apply List.Mem.tail)) ?_))), ?_⟩
   first | refine ae (i := 5) rfl an rfl rfl (eSW rfl rfl rfl ?_) | refine ae (i := 5) rfl an rfl rfl (eSA rfl rfl rfl ?_)
   refine ⟨.inr (by first | exact Keeps.refl | exact Keeps.nil | ((repeat (first | exact fun _ h => h | apply Keeps.cons | apply Keeps.app)) <;> fail) | (repeat (first | exact Keeps.nil | refine Keeps.one (by repeat (first | exact List.Mem.head _ | apply List.Mem.tail)) ?_))), ?_⟩
   refine a1 6 (y_assign rfl rfl) rfl ?_
   refine az ?_
   refine thn_n <| W.ret ?_
   refine lvc (hv := rAgg (rAgg (rTmp rNil))) ⟨?_, by repeat (first | exact Shut.nil | refine Shut.cons rfl ?_)⟩
   have e : askE fs ss l ns = 0 := by simp only [askE]; rw [if_neg c16, hd, show k = ns.length by omega]; simp [badF]
   simp only [askV, e]; rfl
end Go.Mus

/- Sorting, by insertion. Conditions: none; over the given program. -/
namespace Go.Mus
set_option maxRecDepth 100000
set_option maxHeartbeats 4000000
theorem insSort_fn (main : Side) (h : Hp) (key : Int → Int) (xs : List Int) (v cmp : Value) (A : Frag) (hA : Os t_int rowI v xs A) (hn : xs.length ≤ 1000)
    (hc : ∀ h', Ext h h' → ∀ a b, a ∈ xs → b ∈ xs → PuV prog main cmp [I a, I b] h' (I (key a - key b))) :
    Fnc prog main n_slices_insertionSortCmpFunc_int #[v, I 0, I xs.length, cmp] h A (fun _ A' => ∃ B, Os t_int rowI v (isort key xs) B ∧ Sb B A') := by
  rcases hA with ⟨rfl, rfl, hsh⟩ | ⟨β, c, cap, J, rfl, rfl, h1, h2, h3, hsh⟩
  · refine Fnc.of_body at_slices_insertionSortCmpFunc_int rfl (by show 4 ≤ 53; decide) [(0, .slice none 0 0), (1, I 0), (2, I 0), (3, cmp)] ⟨rfl, rfl, rfl, rfl, trivial⟩ ?_
    refine W.seq <| W.region rfl <| qm rfl rfl rfl ?_
    refine pq rfl ?_
    refine qs rfl rfl rfl <| nn <| W.block ?_
    refine W.loop (σ := Unit) (fun _ => True) (fun _ => [(8, I 1), (2, I 0)]) (fun _ => A) (fun _ => 0) () trivial ⟨rfl, rfl, trivial⟩ .refl ?_
    rintro ⟨⟩ -
    refine W.seq <| W.seq <| W.region rfl <| qm rfl rfl rfl <| qm rfl rfl rfl ?_
    refine o1 (y_lss rfl rfl rfl) rfl ?_
    refine nn ?_
    refine W.condp rfl (fun c14 => ?_) (fun c14 => ?_)
    · exact absurd c14 (by decide)
    · refine W.exit <| thn_x <| thn_x <| blk_x ?_
      exact lvt ⟨A, .inl ⟨rfl, rfl, hsh⟩, .refl⟩
  · refine Fnc.of_body at_slices_insertionSortCmpFunc_int rfl (by show 4 ≤ 53; decide) [(0, .slice (some ⟨β, 0, none⟩) xs.length cap), (1, I 0), (2, I xs.length), (3, cmp)] ⟨rfl, rfl, rfl, rfl, trivial⟩ ?_
    refine W.seq <| W.region rfl <| qm rfl rfl rfl ?_
    refine pq rfl ?_
    refine qs rfl rfl rfl <| nn <| W.block ?_
    refine W.loop2 (fun (i : Nat) (c1 : Array Value) => 1 ≤ i ∧ (i ≤ xs.length ∨ i = 1) ∧ Part c1 0 (flat rowI (isortN key xs (i - 1))) ∧ c1.size = cap * 1) (fun i c1 => [(8, I i), (0, .slice (some ⟨β, 0, none⟩) xs.length cap), (1, I 0), (2, I xs.length), (3, cmp)]) (fun i c1 => (β, .cells c1 t_int (0, 0)) :: J) (fun i _ => xs.length - i) 1 c ⟨Nat.le_refl _, .inr rfl, h3, h1⟩ ⟨rfl, rfl, rfl, rfl, rfl, trivial⟩ .refl ?_
    rintro i c1 ⟨hi1, hi2, hp, hs⟩
    refine W.seq <| W.seq <| W.region rfl <| qm rfl rfl rfl <| qm rfl rfl rfl ?_
    refine o1 (y_lss rfl rfl rfl) rfl ?_
    refine nn ?_
    refine W.condp rfl (fun c14 => ?_) (fun c14 => ?_)
    · refine W.skip <| thn_n <| W.seq <| W.block <| W.seq <| W.region rfl <| qm rfl rfl rfl <| qs rfl rfl rfl <| nn ?_
      refine W.block ?_
      refine W.loop3 (fun (j : Nat) (c2 : Array Value) (ys : List Int) => j ≤ i ∧ ys.Perm xs ∧ sink key j ys = isortN key xs i ∧ Part c2 0 (flat rowI ys) ∧ c2.size = cap * 1) (fun j c2 ys => [(9, I j), (8, I i), (0, .slice (some ⟨β, 0, none⟩) xs.length cap), (1, I 0), (2, I xs.length), (3, cmp)]) (fun j c2 ys => (β, .cells c2 t_int (0, 0)) :: J) (fun j _ _ => j) i c1 (isortN key xs (i - 1)) ⟨Nat.le_refl _, isortN_perm _ _ _, (isortN_succ key xs hi1).symm, hp, hs⟩ ⟨rfl, rfl, rfl, rfl, rfl, rfl, trivial⟩ .refl ?_
      rintro j c2 ys ⟨hj, hper, hsk, hp2, hs2⟩
      have hlen : ys.length = xs.length := hper.length_eq
      refine W.seq <| W.seq ?_
      refine W.drawF (n := 17) rfl ?_
      refine a1 0 (y_move rfl rfl) rfl ?_
      refine a1 1 (y_move rfl rfl) rfl ?_
      refine a1 2 (y_gtr rfl rfl rfl) rfl ?_
      refine a1 3 (y_move rfl rfl) rfl ?_
      refine Any.ask (d' := 21) (fun a4_4 => ?_) (fun a4_4 => ?_)
      · obtain ⟨m, rfl⟩ : ∃ m, j = m + 1 := ⟨j - 1, by omega⟩
        obtain ⟨a, ha, -⟩ := has (show m < ys.length by omega)
        obtain ⟨b, hb, -⟩ := has (show m + 1 < ys.length by omega)
        have hca := hp2.getI ha
        have hcb := hp2.getI hb
        have hma : a ∈ xs := hper.subset (List.mem_of_getElem? ha)
        have hmb : b ∈ xs := hper.subset (List.mem_of_getElem? hb)
        refine aq (i := 4) (y_move rfl rfl) rfl (wantε_some rfl rfl rfl rfl) rfl rfl ?_
        refine aq (i := 5) (y_move rfl rfl) rfl (wantε_some rfl rfl rfl rfl) rfl rfl ?_
        refine aq (i := 6) (y_move rfl rfl) rfl (wantε_some rfl rfl rfl rfl) rfl rfl ?_
        first | refine aq (i := 7) (yix rfl rfl rfl) rfl (wantε_some rfl rfl rfl rfl) rfl rfl ?_ | refine aq (i := 7) (yixI rfl rfl rfl) rfl (wantε_some rfl rfl rfl rfl) rfl rfl ?_
        refine aq (i := 8) (yld rfl rfl) rfl (wantε_some rfl rfl rfl rfl) rfl rfl ?_
        refine aq (i := 9) (y_move rfl rfl) rfl (wantε_some rfl rfl rfl rfl) rfl rfl ?_
        refine aq (i := 10) (y_move rfl rfl) rfl (wantε_some rfl rfl rfl rfl) rfl rfl ?_
        refine aq (i := 11) (Yv.eq (ysub rfl rfl rfl) (show I _ = I ((m : Nat) : Int) by congr 1; omega)) rfl (wantε_some rfl rfl rfl rfl) rfl rfl ?_
        first | refine aq (i := 12) (yix rfl rfl rfl) rfl (wantε_some rfl rfl rfl rfl) rfl rfl ?_ | refine aq (i := 12) (yixI rfl rfl rfl) rfl (wantε_some rfl rfl rfl rfl) rfl rfl ?_
        refine aq (i := 13) (yld rfl rfl) rfl (wantε_some rfl rfl rfl rfl) rfl rfl ?_
        refine acv (i := 14) (fun h' hE _ => hc h' hE b a hmb hma) ?_
        refine aq (i := 15) (y_lss rfl rfl rfl) rfl (wantε_some rfl rfl rfl rfl) rfl rfl ?_
        refine a1 16 (y_pickT rfl rfl rfl) rfl ?_
        refine az ?_
        refine thn_n ?_
        refine W.condp rfl (fun c34 => ?_) (fun c34 => ?_)
        · refine W.skip <| thn_n <| W.seq <| W.block ?_
          refine W.drawL [] (n := 18) rfl ?_
          refine a1 0 (y_move rfl rfl) rfl ?_
          refine a1 1 (y_move rfl rfl) rfl ?_
          refine a1 2 (y_move rfl rfl) rfl ?_
          refine a1 3 (y_move rfl rfl) rfl ?_
          refine a1 4 (Yv.eq (ysub rfl rfl rfl) (show I _ = I ((m : Nat) : Int) by congr 1; omega)) rfl ?_
          refine a1 5 (y_move rfl rfl) rfl ?_
          refine a1 6 (y_move rfl rfl) rfl ?_
          refine a1 7 (Yv.eq (ysub rfl rfl rfl) (show I _ = I ((m : Nat) : Int) by congr 1; omega)) rfl ?_
          refine a1 8 (yix rfl rfl rfl) rfl ?_
          refine a1 10 (y_move rfl rfl) rfl ?_
          refine a1 11 (y_move rfl rfl) rfl ?_
          refine a1 12 (yix rfl rfl rfl) rfl ?_
          refine a2 (i := 9) (j := 13) rfl rfl (yld rfl rfl) (yld rfl rfl) (yld rfl rfl) (yld rfl rfl) an an an an rfl rfl rfl rfl ?_
          refine a1 14 (yix rfl rfl rfl) rfl ?_
          refine ae (i := 15) rfl an rfl rfl (eS rfl rfl rfl ?_)
          refine ⟨.inr (fun _ h => by cases h), ?_⟩
          refine a1 16 (yix rfl rfl rfl) rfl ?_
          refine ae (i := 17) rfl an rfl rfl (eS rfl rfl rfl ?_ (hc := by rw [Array.size_setIfInBounds]; omega))
          refine ⟨.inr (fun _ h => by cases h), ?_⟩
          refine az ?_
          refine blk_n <| thn_n <| W.region rfl <| qm rfl rfl rfl ?_
          refine mq rfl ?_
          refine qs rfl rfl rfl <| nn ?_
          refine ⟨rfl, m, _, swp ys m a b, ⟨by omega, (swp_perm ha hb).trans hper, ?_, (hp2.setI (j := m + 1) (a := a) (by omega)).setI (j := m) (a := b) (by simp; omega), by simpa using hs2⟩, by omega, ⟨lk rfl (show I _ = I ((m : Nat) : Int) by congr 1; omega), rfl, rfl, rfl, rfl, rfl, trivial⟩, .of_perm (by simp)⟩
          rw [← hsk]; simp only [sink, ha, hb]; rw [if_pos c34]
        · refine W.exit <| thn_x <| thn_x <| blk_x <| blk_n <| thn_n <| W.region rfl <| qm rfl rfl rfl ?_
          refine pq rfl ?_
          refine qs rfl rfl rfl <| nn ?_
          have hys : ys = isortN key xs i := by
            rw [← hsk]
            first
            | (have : j = 0 := by omega
               subst this; rfl)
            | (simp only [sink, ha, hb]; rw [if_neg c34])
          subst hys
          exact ⟨rfl, i + 1, c2, ⟨by omega, .inl (by omega), hp2, hs2⟩, by omega, ⟨rfl, rfl, rfl, rfl, rfl, trivial⟩, .refl⟩
      · refine ap (i := 4) rfl rfl rfl rfl rfl rfl ?_
        refine ap (i := 5) rfl rfl rfl rfl rfl rfl ?_
        refine ap (i := 6) rfl rfl rfl rfl rfl rfl ?_
        refine ap (i := 7) rfl rfl rfl rfl rfl rfl ?_
        refine ap (i := 8) rfl rfl rfl rfl rfl rfl ?_
        refine ap (i := 9) rfl rfl rfl rfl rfl rfl ?_
        refine ap (i := 10) rfl rfl rfl rfl rfl rfl ?_
        refine ap (i := 11) rfl rfl rfl rfl rfl rfl ?_
        refine ap (i := 12) rfl rfl rfl rfl rfl rfl ?_
        refine ap (i := 13) rfl rfl rfl rfl rfl rfl ?_
        refine ap (i := 14) rfl rfl rfl rfl rfl rfl ?_
        refine ap (i := 15) rfl rfl rfl rfl rfl rfl ?_
        refine a1 16 (y_pickF rfl rfl rfl) rfl ?_
        refine az ?_
        refine thn_n ?_
        refine W.condF ?_
        refine W.exit <| thn_x <| thn_x <| blk_x <| blk_n <| thn_n <| W.region rfl <| qm rfl rfl rfl ?_
        refine pq rfl ?_
        refine qs rfl rfl rfl <| nn ?_
        have hys : ys = isortN key xs i := by
          rw [← hsk]
          first
          | (have : j = 0 := by omega
             subst this; rfl)
          | (simp only [sink, ha, hb]; rw [if_neg c34])
        subst hys
        exact ⟨rfl, i + 1, c2, ⟨by omega, .inl (by omega), hp2, hs2⟩, by omega, ⟨rfl, rfl, rfl, rfl, rfl, trivial⟩, .refl⟩
    · refine W.exit <| thn_x <| thn_x <| blk_x ?_
      refine lvt ⟨_, .inr ⟨β, c1, cap, J, ?_, rfl, hs, ?_, ?_, hsh⟩, .refl⟩
      · rw [isort, isortN_len]
      · rw [isort, isortN_len]; exact h2
      · have : i - 1 = xs.length - 1 := by omega
        rw [this] at hp
        exact hp
end Go.Mus
