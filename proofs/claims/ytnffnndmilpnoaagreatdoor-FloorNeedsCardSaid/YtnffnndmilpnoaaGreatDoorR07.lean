/- The strikes of a floor, in the order of their days. Conditions: none; over the given program. (And 5 texts more.) -/
import Derived.Test.YtnffnndmilpnoaaGreatDoorR06
import Derived.Test.YtnffnndmilpnoaaGreatDoorR05
set_option linter.unusedVariables false
set_option linter.unusedSimpArgs false
set_option linter.unusedSectionVars false

/- The strikes of a floor, in the order of their days. Conditions: none; over the given program. -/
namespace Go.Mus
set_option maxRecDepth 100000
set_option maxHeartbeats 4000000
theorem stable_fn (main : Side) (h : Hp) (key : Int → Int) (xs : List Int) (v cmp : Value) (A : Frag) (hA : Os t_int rowI v xs A) (hn : xs.length ≤ 19)
  (hc : ∀ h', Ext h h' → ∀ a b, a ∈ xs → b ∈ xs → PuV prog main cmp [I a, I b] h' (I (key a - key b))) :
  Fnc prog main n_slices_stableCmpFunc_int #[v, I xs.length, cmp] h A (fun _ A' => ∃ B, Os t_int rowI v (isort key xs) B ∧ Sb B A') := by
 refine Fnc.of_body at_slices_stableCmpFunc_int rfl (by show 3 ≤ 63; decide) [(0, v), (1, I xs.length), (2, cmp)] ⟨rfl, rfl, rfl, trivial⟩ ?_
 refine W.seq <| W.region rfl <| qs rfl rfl rfl <| nn <| W.seq <| W.region rfl <| qm rfl rfl rfl <| qs rfl rfl rfl <| qs rfl rfl rfl ?_
 refine nn <| W.seq <| W.block ?_
 refine W.loop (σ := Unit) (fun _ => True) (fun _ => [(8, I 20), (7, I 0), (6, I 20), (0, v), (1, I xs.length), (2, cmp)]) (fun _ => A) (fun _ => 0) () trivial ⟨rfl, rfl, rfl, rfl, rfl, rfl, trivial⟩ .refl ?_
 rintro ⟨⟩ -
 refine W.seq <| W.seq <| W.region rfl <| qm rfl rfl rfl <| qm rfl rfl rfl ?_
 refine o1 (y_leq rfl rfl rfl) rfl ?_
 refine nn ?_
 refine W.condp rfl (fun c13 => ?_) (fun c13 => ?_)
 ·exact absurd c13 (by omega)
 ·refine W.exit <| thn_x <| thn_x <| blk_x <| thn_n <| W.seq <| W.region rfl <| qm rfl rfl rfl <| qm rfl rfl rfl <| qm rfl rfl rfl ?_
  refine qm rfl rfl rfl ?_
  refine cga (fun h' hE => insSort_fn _ h' key xs v cmp A hA (by omega) fun h2 e => hc h2 (hE.trans e)) (fun _ A' hv => ?_)
  refine nn <| W.block ?_
  refine W.loop (σ := Unit) (fun _ => True) (fun _ => [(6, I 20), (1, I xs.length)]) (fun _ => A') (fun _ => 0) () trivial ⟨rfl, rfl, trivial⟩ .refl ?_
  rintro ⟨⟩ -
  refine W.seq <| W.seq <| W.region rfl <| qm rfl rfl rfl <| qm rfl rfl rfl ?_
  refine o1 (y_lss rfl rfl rfl) rfl ?_
  refine nn ?_
  refine W.condp rfl (fun c30 => ?_) (fun c30 => ?_)
  ·exact absurd c30 (by omega)
  ·refine W.exit <| thn_x <| thn_x <| blk_x ?_
   exact lvt hv

theorem sortStable_fn (main : Side) (h : Hp) (key : Int → Int) (xs : List Int) (v cmp : Value) (A : Frag) (hA : Os t_int rowI v xs A) (hn : xs.length ≤ 19)
  (hc : ∀ h', Ext h h' → ∀ a b, a ∈ xs → b ∈ xs → PuV prog main cmp [I a, I b] h' (I (key a - key b))) :
  Fnc prog main n_slices_SortStableFunc_int #[v, cmp] h A (fun _ A' => ∃ B, Os t_int rowI v (isort key xs) B ∧ Sb B A') := by
 obtain ⟨a, cap, rfl⟩ := hA.isSl
 refine Fnc.of_body at_slices_SortStableFunc_int rfl (by show 2 ≤ 9; decide) [(0, .slice a xs.length cap), (1, cmp)] ⟨rfl, rfl, trivial⟩ ?_
 refine W.region rfl <| qm rfl rfl rfl <| qm rfl rfl rfl ?_
 refine o1 (y_len rfl rfl) rfl ?_
 refine qm rfl rfl rfl ?_
 refine cga (fun h' hE => stable_fn _ h' key xs _ cmp A hA hn fun h2 e => hc h2 (hE.trans e)) (fun _ A' hv => ?_)
 refine Ops.nil ?_
 exact lvt hv

theorem cmp_fn (main : Side) (h : Hp) (p : List Be) (hp : PlOK p) (bp : Nat) (E : TypeId) (fz : Nat × Nat) (hb : h bp = some (.cells (flat Be.row p).toArray E fz)) (a b : Int) (ha : 0 ≤ a ∧ a < 4) (hb' : 0 ≤ b ∧ b < 4) :
  PuV prog main (.func (.func n_floor_hall_set_1_1) #[] #[.pointer (some ⟨bp, 0, none⟩)]) [I a, I b] h (I (dayOf p a - dayOf p b)) := by
 refine CallV.of_fn (f := n_floor_hall_set_1_1) (fi := []) (ca := [.pointer (some ⟨bp, 0, none⟩)]) ?_
 have h8 : (flat Be.row p).toArray.size = 8 := by simp [flat_len, hp.len]
 have pa := beAt_some hp (i := a.toNat) (by omega)
 have pb := beAt_some hp (i := b.toNat) (by omega)
 have hP : Part (flat Be.row p).toArray 0 (flat Be.row p) := Part.all _
 have la : (flat Be.row p).toArray[0 + a.toNat * 2 + 1]? = some (I (dayOf p a)) := by have := hP.rowG pa.1 1 (by decide); simpa [Be.row, dayOf] using this
 have lb : (flat Be.row p).toArray[0 + b.toNat * 2 + 1]? = some (I (dayOf p b)) := by have := hP.rowG pb.1 1 (by decide); simpa [Be.row, dayOf] using this
 have da : 0 ≤ dayOf p a ∧ dayOf p a ≤ 17 := pa.2.2.2
 have db : 0 ≤ dayOf p b ∧ dayOf p b ≤ 17 := pb.2.2.2
 refine Fnc.of_body at_floor_hall_set_1_1 rfl (by show 3 ≤ 15; decide) [(0, I a), (1, I b), (2, .pointer (some ⟨bp, 0, none⟩))] ⟨rfl, rfl, rfl, trivial⟩ ?_
 refine W.seq <| W.region rfl <| qs rfl rfl rfl <| nn <| W.seq ?_
 refine W.drawF (n := 10) rfl ?_
 refine a1 0 (y_move rfl rfl) rfl ?_
 first | refine a1 1 (yixA rfl rfl rfl) rfl ?_ | refine a1 1 (yixAI rfl rfl rfl) rfl ?_
 refine a1 2 (y_fieldAddr rfl rfl) rfl ?_
 refine a1 3 (yld rfl rfl) rfl ?_
 refine a1 4 (y_move rfl rfl) rfl ?_
 first | refine a1 5 (yixA rfl rfl rfl) rfl ?_ | refine a1 5 (yixAI rfl rfl rfl) rfl ?_
 refine a1 6 (y_fieldAddr rfl rfl) rfl ?_
 refine a1 7 (yld rfl rfl) rfl ?_
 first | refine a1 8 (ysub rfl rfl rfl) rfl ?_ | refine a1 8 (y_subw rfl rfl rfl) rfl ?_
 refine a1 9 (y_assign rfl rfl) rfl ?_
 refine az ?_
 refine thn_n <| W.ret ?_
 refine lvp rfl

/-- 'set' of a plan and a floor, as a function value. -/
abbrev setV (b4 b5 : Nat) : Value := .func (.func n_floor_hall_set_1) #[] #[.pointer (some ⟨b4, 0, none⟩), .pointer (some ⟨b5, 0, none⟩)]
theorem set1_iter (main : Side) (h : Hp) (p : List Be) (hp : PlOK p) (f : Int) (b4 b5 : Nat) (E4 E5 : TypeId) (z4 z5 : Nat × Nat) (h4 : h b4 = some (.cells (flat Be.row p).toArray E4 z4)) (h5 : h b5 = some (.cells #[I f] E5 z5)) : Iter prog main (setV b4 b5) I (setL p f) h := by
 intro h' hE0 yv hy1 σ nx step J K hy s A hal hJ
 have h4' := hE0.1 _ _ h4
 have h5' := hE0.1 _ _ h5
 have hsz := plan_sz hp
 refine CallV.of_fn (f := n_floor_hall_set_1) (fi := []) (ca := [.pointer (some ⟨b4, 0, none⟩), .pointer (some ⟨b5, 0, none⟩)]) ?_
 refine Fnc.of_body at_floor_hall_set_1 rfl (by show 3 ≤ 37; decide) [(0, yv), (1, .pointer (some ⟨b4, 0, none⟩)), (2, .pointer (some ⟨b5, 0, none⟩))] ⟨rfl, rfl, rfl, trivial⟩ ?_
 refine W.seq <| W.region rfl <| qs rfl rfl rfl <| nn <| W.seq <| W.seq <| W.region rfl ?_
 refine lq rfl ?_
 refine qm rfl rfl rfl <| nn <| W.block ?_
 refine W.loop3 (fun (k : Nat) (v : Value) (S : Frag) => k ≤ 4 ∧ Os t_int rowI v (onFk p f k) S) (fun k v S => [(10, I k), (9, planV p), (4, v), (0, yv), (1, .pointer (some ⟨b4, 0, none⟩)), (2, .pointer (some ⟨b5, 0, none⟩))]) (fun k v S => S ++ A) (fun k _ _ => 4 - k) 0 (.slice none 0 0) [] ⟨Nat.zero_le _, .nil .nil⟩ ⟨rfl, rfl, rfl, rfl, rfl, rfl, trivial⟩ .refl ?_
 rintro k v S ⟨hk, hS⟩
 refine W.seq <| W.region rfl ?_
 refine o1 (y_lss rfl rfl rfl) rfl ?_
 refine nn <| W.seq ?_
 refine W.condp rfl (fun c11 => ?_) (fun c11 => ?_)
 ·have hk4 : k < 4 := by omega
  have hx : (flat Be.row p).toArray.extract ((k : Int).toNat * 2) ((k : Int).toNat * 2 + 2) = #[I (beAt p k).fl, I (beAt p k).day] := plan_ex hp hk4
  refine W.skip <| thn_n <| W.seq <| W.block <| W.seq <| W.region rfl <| qm rfl rfl rfl ?_
  first | refine o1 (y_index rfl rfl rfl (by omega) (by omega) (by first | assumption | rfl)) rfl ?_ | refine o1 (y_indexA rfl rfl rfl (by omega) (by omega) (by first | assumption | rfl)) rfl ?_
  refine Ops.new (fun β6 => ?_)
  refine qs rfl rfl rfl ?_
  first | refine Ops.stoW ?_ | refine Ops.stoA ?_
  refine nn <| W.seq <| W.region rfl ?_
  refine fq rfl ?_
  refine dq rfl ?_
  refine dq rfl ?_
  refine o1 (y_eql rfl rfl rfl) rfl ?_
  refine nn ?_
  refine W.condp rfl (fun c17 => ?_) (fun c17 => ?_)
  ·refine W.region rfl <| qm rfl rfl rfl <| qm rfl rfl rfl ?_
   refine Ops.bsl (cs := #[I k]) (fun β20 => ?_) rfl
   refine oe rfl wn rfl rfl (e_append (row := rowI) (l' := [(k : Int)]) rfl rfl rfl hS (.tail (.tail .head)) (fun h2 _ hl => Sl.mk (hl β20 _ (.head _)) rfl (Part.all [I k])) (by have := onFk_len (p := p) (f := f) k; simp; omega) (by decide) rfl (fun v' S' hS' => ?_))
   refine qs rfl rfl rfl <| Ops.nil <| blk_n <| thn_n <| W.region rfl ?_
   refine pq rfl ?_
   refine qm rfl rfl rfl <| nn ?_
   first
   | exact ⟨rfl, k + 1, v', S', ⟨by omega, by simp only [onFk]; rw [if_pos c17]; exact hS'⟩, by omega, ⟨rfl, rfl, rfl, rfl, rfl, rfl, trivial⟩, sbA⟩
   | exact ⟨rfl, k + 1, v, S, ⟨by omega, by simp only [onFk]; rw [if_neg c17]; exact hS⟩, by omega, ⟨rfl, rfl, rfl, rfl, rfl, rfl, trivial⟩, sbA⟩
  ·refine W.skip <| blk_n <| thn_n <| W.region rfl ?_
   refine pq rfl ?_
   refine qm rfl rfl rfl <| nn ?_
   first
   | exact ⟨rfl, k + 1, v', S', ⟨by omega, by simp only [onFk]; rw [if_pos c17]; exact hS'⟩, by omega, ⟨rfl, rfl, rfl, rfl, rfl, rfl, trivial⟩, sbA⟩
   | exact ⟨rfl, k + 1, v, S, ⟨by omega, by simp only [onFk]; rw [if_neg c17]; exact hS⟩, by omega, ⟨rfl, rfl, rfl, rfl, rfl, rfl, trivial⟩, sbA⟩
 ·have : k = 4 := by omega
  subst this
  refine W.exit <| thn_x <| thn_x <| blk_x <| thn_n <| W.seq <| W.region rfl <| qm rfl rfl rfl ?_
  refine o1 (y_func rfl rfl rfl) rfl ?_
  refine cg .head (fun h2 hE hL => sortStable_fn _ h2 (dayOf p) _ v _ S hS (by have := onFk_len (p := p) (f := f) 4; omega) fun h3 e a b ha hb => cmp_fn _ h3 p hp b4 E4 z4 (e.1 _ _ (hE.1 _ _ h4')) a b (onFk_lt ha) (onFk_lt hb)) (fun _ S1 hS1 => ?_)
  obtain ⟨S2, hS2, hsb⟩ := hS1
  refine Ops.sb (hsb.app .refl) ?_
  have hlen := setL_len (p := p) (f := f)
  obtain ⟨a2, cap2, rfl⟩ := hS2.isSl
  change Os t_int rowI _ (setL p f) S2 at hS2
  refine nn <| W.seq <| W.region rfl <| qm rfl rfl rfl ?_
  refine o1 (y_len rfl rfl) rfl ?_
  refine qm rfl rfl rfl <| nn <| W.block ?_
  refine W.loop3 (fun (k : Nat) (t : σ) (B : Frag) => k ≤ (setL p f).length ∧ J t B ∧ Far step s (setL p f) t ((setL p f).drop k)) (fun k t B => [(28, I k), (27, I (setL p f).length), (26, .slice a2 (setL p f).length cap2), (0, yv)]) (fun k t B => B ++ S2) (fun k _ _ => (setL p f).length - k) 0 s A ⟨Nat.zero_le _, hJ, .zero⟩ ⟨rfl, rfl, rfl, rfl, trivial⟩ (.of_perm List.perm_append_comm) ?_
  rintro k t B ⟨hk, hB, hr⟩
  refine W.seq <| W.region rfl ?_
  refine o1 (y_lss rfl rfl rfl) rfl ?_
  refine nn <| W.seq ?_
  refine W.condp rfl (fun c29 => ?_) (fun c29 => ?_)
  ·obtain ⟨a, ha, hdr⟩ := has (show k < (setL p f).length by omega)
   rw [hdr] at hr
   rcases id hS2 with ⟨hnil, _, _⟩ | ⟨β, c, cap, J2, hv2, rfl, hc1, hc2, hP, hJ2⟩
   ·rw [hnil] at ha; simp at ha
   obtain ⟨rfl, -⟩ : a2 = some ⟨β, 0, none⟩ ∧ True := by cases hv2; exact ⟨rfl, trivial⟩
   have hca := hP.getI ha
   refine W.skip <| thn_n <| W.seq <| W.block <| W.seq <| W.region rfl ?_
   refine xq rfl ?_
   refine o1 (yld rfl rfl (.inr fun _ e => by subst e; simp; exact .inr (.inl ⟨rfl, rfl⟩)) hca) rfl ?_
   refine qs rfl rfl rfl <| nn <| W.seq <| W.region rfl <| qm rfl rfl rfl <| qm rfl rfl rfl ?_
   refine cgv .head (fun h2 hE hL => hy h2 hE t a B (hal.far hr) hB) (fun r B1 hr1 => ?_)
   obtain ⟨rfl, B2, hsb2, hB2⟩ := hr1
   refine Ops.sb (hsb2.app .refl) ?_
   refine o1 (y_not rfl rfl) rfl ?_
   refine nn ?_
   refine W.cond rfl (fun c35 => ?_) (fun c35 => ?_)
   ·refine W.ret <| blk_r <| thn_r <| thn_r <| blk_r ?_
    have e : (step t a).2 = false := by simpa using c35
    obtain ⟨t', ht⟩ : ∃ t', step t a = (t', false) := ⟨(step t a).1, by rw [← e]⟩
    rw [ht] at hB2
    refine lvt ⟨B2, .right .refl hS2.shut, ?_⟩
    rw [hr.eq]
    simp only [runs, ht]
    exact hB2
   ·refine W.skip <| blk_n <| thn_n <| W.region rfl ?_
    refine pq rfl ?_
    refine qm rfl rfl rfl <| nn ?_
    have e : (step t a).2 = true := by simpa using c35
    obtain ⟨t', ht⟩ : ∃ t', step t a = (t', true) := ⟨(step t a).1, by rw [← e]⟩
    rw [ht] at hB2
    exact ⟨rfl, k + 1, t', B2, ⟨by omega, hB2, hr.next ht⟩, by omega, ⟨rfl, rfl, rfl, rfl, trivial⟩, .refl⟩
  ·refine W.exit <| thn_x <| thn_x <| blk_x ?_
   refine lvt ⟨B, .right .refl hS2.shut, ?_⟩
   rw [hr.eq, show k = (setL p f).length by omega, List.drop_length]
   exact hB

theorem set_fn (main : Side) (h : Hp) (p : List Be) (f : Int) (vf vs : Value) (h1 : one vf = true) (h2 : one vs = true) : Fnc prog main n_floor_hall_set #[.agg #[vf, vs], planV p, I f] h [] (fun v A => ∃ b4 b5 b3, v = setV b4 b5 ∧ A = [(b5, .cells #[I f] t_int (0, 0)), (b4, .cells (flat Be.row p).toArray t_plan (0, 0)), (b3, .cells #[vf, vs] t_hall (0, 0))]) := by
 refine Fnc.of_body at_floor_hall_set rfl (by show 3 ≤ 8; decide) [(0, .agg #[vf, vs]), (1, planV p), (2, I f)] ⟨rfl, rfl, rfl, trivial⟩ ?_
 refine W.seq <| W.region rfl ?_
 refine Ops.box (fun β3 => ?_)
 refine Ops.box (fun β4 => ?_)
 refine Ops.box (fun β5 => ?_)
 refine qs rfl rfl rfl <| nn <| W.seq <| W.region rfl ?_
 refine o1 (y_func rfl rfl rfl) rfl ?_
 refine qs rfl rfl rfl <| nn <| W.ret ?_
 exact lvt ⟨_, _, _, rfl, rfl⟩
end Go.Mus

/- What stands on a floor. Conditions: none; over the given program. -/
namespace Go.Mus
set_option maxRecDepth 100000
set_option maxHeartbeats 4000000
instance tiDays : TI prog t_days 44 352 (.agg (flat Sp.row days0).toArray) (flat Sp.row days0).toArray := ⟨by kernel_rfl, rfl⟩

theorem stands_fn (main : Side) (h : Hp) (fs : List Fl) (ss : List St) (p : List Be) (f : Int) (vf vs : Value) (hf : Sl h Fl.row vf fs) (hs : Sl h St.row vs ss) (hall : HallOK fs ss) (hp : PlanOf fs ss p) (hf0 : 0 ≤ f) (hf1 : f < fs.length) : Pu prog main n_floor_hall_stands #[.agg #[vf, vs], planV p, I f] h (daysV (standsD fs ss p f)) := by
 obtain ⟨a, cap, rfl⟩ := hf.isSl
 obtain ⟨a', cap', rfl⟩ := hs.isSl
 obtain ⟨fl, hfl, -⟩ := has (show f.toNat < fs.length by omega)
 have hfe : flAt fs f = fl := by simp [flAt, List.getD, hfl]
 have hflo := hall.fl fl (List.mem_of_getElem? hfl)
 obtain ⟨b, off, c, E, fz, rfl, hb, hx, hy, hz⟩ := hf.at hfl
 have hz1 : c[off + f.toNat * 4 + 1]? = some (I fl.lo) := hz 1 (by decide)
 have hz2 : c[off + f.toNat * 4 + 2]? = some (I fl.hi) := hz 2 (by decide)
 have hsp : c.extract (off + f.toNat * 4 + 1) (off + f.toNat * 4 + 1 + 2) = #[I fl.lo, I fl.hi] := by
  apply Array.ext
  ·simp; omega
  ·intro i h1 h2
   simp at h2
   have : c[off + f.toNat * 4 + 1 + i]? = #[I fl.lo, I fl.hi][i]? := by
    rcases (by omega : i = 0 ∨ i = 1) with rfl | rfl
    ·simpa using hz1
    ·simpa using hz2
   rw [← Option.some_inj, ← Array.getElem?_eq_getElem, ← Array.getElem?_eq_getElem, ← this, Array.getElem?_extract]
   simp; omega
 have hsz := plan_sz hp.ok
 refine Fnc.of_body at_floor_hall_stands rfl (by show 3 ≤ 71; decide) [(0, .agg #[.slice (some ⟨b, off, none⟩) fs.length cap, .slice a' ss.length cap']), (1, planV p), (2, I f)] ⟨rfl, rfl, rfl, trivial⟩ ?_
 refine W.seq <| W.region rfl ?_
 refine Ops.box (fun β3 => ?_)
 refine Ops.box (fun β4 => ?_)
 refine Ops.new (fun β6 => ?_)
 refine nn <| W.seq <| W.region rfl ?_
 refine Ops.new (fun β7 => ?_)
 refine nn <| W.seq <| W.region rfl ?_
 refine fq rfl ?_
 refine fq rfl ?_
 refine dq rfl ?_
 refine qm rfl rfl rfl ?_
 refine xq rfl ?_
 refine fq rfl ?_
 refine o1 (yldA rfl rfl (.inl hb) (by omega) hsp) rfl ?_
 refine Ops.new (fun β8 => ?_)
 first | refine Ops.stoW ?_ | refine Ops.stoA ?_
 refine nn <| W.seq <| W.seq <| W.region rfl ?_
 refine lq rfl ?_
 refine lq rfl ?_
 refine qm rfl rfl rfl ?_
 refine c0 (fun h' hE hL => set_fn _ h' p f _ _ rfl rfl) (fun v A' hv => ?_)
 obtain ⟨b4, b5, b3, rfl, rfl⟩ := hv
 refine nn <| W.block ?_
 refine W.range (σ := List Sp) (X := Int) (enc := I) (xs := setL p f) rfl rfl rfl (fun d i => addSt (dayOf p i) fl.lo (coOf ss i) fl.hi.toNat 0 d) (fun _ _ => none) (fun d A => d.length = 22 ∧ A = [(β7, .cells (flat Sp.row d).toArray t_days (0, 0))]) days0 (.tail (.tail (.tail (.tail .head)))) ⟨rfl, rfl⟩ (fun h' hE hL => set1_iter _ h' p hp.ok f b4 b5 _ _ _ _ (hL b4 _ (by repeat (first | exact List.Mem.head _ | apply List.Mem.tail))) (hL b5 _ (by repeat (first | exact List.Mem.head _ | apply List.Mem.tail)))) (fun _ _ _ e => by cases e) ?_ ?_
 ·rintro d i A hi ⟨hd, rfl⟩ l h1 hE1 hL1
  refine W.region rfl <| qs rfl rfl rfl <| Ops.nil ?_
  refine ⟨rfl, rfl, fun h0 hE0 hL0 => ?_⟩
  have h8 : h0 β8 = some (.cells #[I fl.lo, I fl.hi] t_Span (0, 0)) := hL0 _ _ (by repeat (first | exact List.Mem.head _ | apply List.Mem.tail))
  have h4 : h0 β4 = some (.cells (flat Be.row p).toArray t_plan (0, 0)) := hL0 _ _ (by repeat (first | exact List.Mem.head _ | apply List.Mem.tail))
  have h3 : h0 β3 = some (.cells #[.slice (some ⟨b, off, none⟩) fs.length cap, .slice a' ss.length cap'] t_hall (0, 0)) := hL0 _ _ (by repeat (first | exact List.Mem.head _ | apply List.Mem.tail))
  have hi4 := setL_lt hi
  obtain ⟨s, hsi, -⟩ := has (setL_st hp hf0 hi)
  have hco : coOf ss i = s.co := by simp [coOf, List.getD, hsi]
  obtain ⟨b2, off2, c2, E2, fz2, rfl, hb2, hx2, hy2, hw2⟩ := (hs.ext hE0).at hsi
  have hwc : c2[off2 + i.toNat * 3 + 1]? = some (I s.co) := hw2 1 (by decide)
  have hday : (flat Be.row p).toArray[0 + i.toNat * 2 + 1]? = some (I (dayOf p i)) := by have := (plan_at hp.ok (i := i.toNat) (by omega)).2; simpa [dayOf] using this
  have hilt : i < ss.length := by have := setL_st hp hf0 hi; omega
  have hd17 : 0 ≤ dayOf p i ∧ dayOf p i ≤ 17 := (beAt_some hp.ok (i := i.toNat) (by omega)).2.2.2
  refine W.block <| W.seq <| W.region rfl ?_
  refine fq rfl ?_
  refine dq rfl ?_
  refine qm rfl rfl rfl <| nn <| W.block ?_
  refine W.loop2 (fun (n : Nat) (d' : List Sp) => n ≤ fl.hi.toNat ∧ d'.length = 22 ∧ addSt (dayOf p i) fl.lo (coOf ss i) (fl.hi.toNat - n) n d' = addSt (dayOf p i) fl.lo (coOf ss i) fl.hi.toNat 0 d) (fun n d' => [(26, I n), (25, I fl.hi), (9, I i), (8, .pointer (some ⟨β8, 0, none⟩)), (7, .pointer (some ⟨β7, 0, none⟩)), (4, .pointer (some ⟨β4, 0, none⟩)), (3, .pointer (some ⟨β3, 0, none⟩))]) (fun n d' => [(β7, .cells (flat Sp.row d').toArray t_days (0, 0))]) (fun n _ => fl.hi.toNat - n) 0 d ⟨Nat.zero_le _, hd, rfl⟩ ⟨rfl, rfl, rfl, rfl, rfl, rfl, rfl, trivial⟩ .refl ?_
  rintro n d' ⟨hn, hd', hadd⟩
  refine W.seq <| W.region rfl ?_
  refine o1 (y_lss rfl rfl rfl) rfl ?_
  refine nn <| W.seq ?_
  refine W.condp rfl (fun c27 => ?_) (fun c27 => ?_)
  ·have hsz' := days_sz hd'
   obtain ⟨m, hm⟩ : ∃ m, fl.hi.toNat - n = m + 1 := ⟨fl.hi.toNat - n - 1, by omega⟩
   rw [hm] at hadd
   refine W.skip <| thn_n <| W.seq <| W.block <| W.seq <| W.region rfl <| qm rfl rfl rfl <| qs rfl rfl rfl <| nn ?_
   refine W.seq <| W.region rfl <| qm rfl rfl rfl ?_
   first | refine o1 (yixA rfl rfl rfl) rfl ?_ | refine o1 (yixAI rfl rfl rfl) rfl ?_
   refine fq rfl ?_
   refine dq rfl ?_
   refine qm rfl rfl rfl ?_
   refine pq rfl ?_
   refine qs rfl rfl rfl <| nn <| W.seq <| W.seq <| W.region rfl <| qm rfl rfl rfl ?_
   refine o1 (y_gtr rfl rfl rfl) rfl ?_
   refine nn ?_
   refine W.condp rfl (fun c36 => ?_) (fun c36 => ?_)
   ·refine W.exit <| thn_x <| blk_o <| thn_x <| thn_x <| blk_x <| blk_n ?_
    have e : addSt (dayOf p i) fl.lo (coOf ss i) fl.hi.toNat 0 d = d' := by
     rw [← hadd]
     first
     | (simp only [addSt]; rw [if_pos c36])
     | (rw [show fl.hi.toNat - n = 0 by omega]; rfl)
    refine ⟨rfl, rfl, _, ⟨(addSt_len _ _ _).trans hd, rfl⟩, ?_⟩
    rw [e]
    exact .refl
   ·obtain ⟨x, hx', -⟩ := has (show (dayOf p i + n).toNat < d'.length by omega)
    have hxa := days_at hx'
    have hxl := hxa.1
    have hxh := hxa.2
    refine W.skip <| thn_n <| W.seq ?_
    refine W.drawL [] (n := 15) rfl ?_
    refine a1 0 (y_move rfl rfl) rfl ?_
    first | refine a1 1 (yixA rfl rfl rfl) rfl ?_ | refine a1 1 (yixAI rfl rfl rfl) rfl ?_
    refine a1 2 (y_fieldAddr rfl rfl) rfl ?_
    refine a1 4 (y_fieldAddr rfl rfl) rfl ?_
    refine a1 5 (y_fieldAddr rfl rfl) rfl ?_
    refine a1 6 (yld rfl rfl) rfl ?_
    refine a1 7 (y_move rfl rfl) rfl ?_
    first | refine a1 8 (yix rfl rfl rfl) rfl ?_ | refine a1 8 (yixI rfl rfl rfl) rfl ?_
    refine a1 9 (y_fieldAddr rfl rfl) rfl ?_
    refine a1 10 (yld rfl rfl) rfl ?_
    refine ae (i := 3) rfl an rfl rfl (Ef.of_y (yld rfl rfl) ?_)
    refine ⟨.inr (by first | exact Keeps.refl | exact Keeps.nil | ((repeat (first | exact fun _ h => h | apply Keeps.cons | apply Keeps.app)) <;> fail) | (repeat (first | exact Keeps.nil | refine Keeps.one (by repeat (first | exact List.Mem.head _ | apply List.Mem.tail)) ?_))), ?_⟩
    first | refine a1 11 (yadd rfl rfl rfl) rfl ?_ | refine a1 11 (y_addw rfl rfl rfl) rfl ?_
    first | refine a1 12 (yixA rfl rfl rfl) rfl ?_ | refine a1 12 (yixAI rfl rfl rfl) rfl ?_
    refine a1 13 (y_fieldAddr rfl rfl) rfl ?_
    refine ae (i := 14) rfl an rfl rfl (eS rfl rfl rfl ?_)
    refine ⟨.inl (by kernel_rfl), ?_⟩
    refine az ?_
    refine thn_n <| W.seq ?_
    rw [flat_hi hx']
    refine W.region rfl <| qm rfl rfl rfl ?_
    refine fq rfl ?_
    refine dq rfl ?_
    refine o1 (y_lss rfl rfl rfl) rfl ?_
    refine nn ?_
    refine W.condp rfl (fun c54 => ?_) (fun c54 => ?_)
    ·have hx3 : (d'.set (dayOf p i + n).toNat ⟨x.lo, IntKind.i64.wrap (x.hi + s.co)⟩)[(dayOf p i + n).toNat]? = some ⟨x.lo, IntKind.i64.wrap (x.hi + s.co)⟩ := by rw [List.getElem?_set_self (by omega)]
     have hsz3 := days_sz (d := d'.set (dayOf p i + n).toNat ⟨x.lo, IntKind.i64.wrap (x.hi + s.co)⟩) (by simpa using hd')
     have hxl3 := (days_at hx3).1
     refine W.drawL [] (n := 15) rfl ?_
     refine a1 0 (y_move rfl rfl) rfl ?_
     first | refine a1 1 (yixA rfl rfl rfl) rfl ?_ | refine a1 1 (yixAI rfl rfl rfl) rfl ?_
     refine a1 2 (y_fieldAddr rfl rfl) rfl ?_
     refine a1 4 (y_fieldAddr rfl rfl) rfl ?_
     refine a1 5 (y_fieldAddr rfl rfl) rfl ?_
     refine a1 6 (yld rfl rfl) rfl ?_
     refine a1 7 (y_move rfl rfl) rfl ?_
     first | refine a1 8 (yix rfl rfl rfl) rfl ?_ | refine a1 8 (yixI rfl rfl rfl) rfl ?_
     refine a1 9 (y_fieldAddr rfl rfl) rfl ?_
     refine a1 10 (yld rfl rfl) rfl ?_
     refine ae (i := 3) rfl an rfl rfl (Ef.of_y (yld rfl rfl) ?_)
     refine ⟨.inr (by first | exact Keeps.refl | exact Keeps.nil | ((repeat (first | exact fun _ h => h | apply Keeps.cons | apply Keeps.app)) <;> fail) | (repeat (first | exact Keeps.nil | refine Keeps.one (by repeat (first | exact List.Mem.head _ | apply List.Mem.tail)) ?_))), ?_⟩
     first | refine a1 11 (yadd rfl rfl rfl) rfl ?_ | refine a1 11 (y_addw rfl rfl rfl) rfl ?_
     first | refine a1 12 (yixA rfl rfl rfl) rfl ?_ | refine a1 12 (yixAI rfl rfl rfl) rfl ?_
     refine a1 13 (y_fieldAddr rfl rfl) rfl ?_
     refine ae (i := 14) rfl an rfl rfl (eS rfl rfl rfl ?_)
     refine ⟨.inl (by kernel_rfl), ?_⟩
     refine az ?_
     refine blk_n <| thn_n ?_
     try rw [flat_lo hx3]
     refine W.region rfl ?_
     refine pq rfl ?_
     refine qm rfl rfl rfl <| nn ?_
     have hb : addSt (dayOf p i) fl.lo (coOf ss i) m (n + 1) (bump d' (dayOf p i + n).toNat (decide ((n : Int) < fl.lo)) (coOf ss i)) = addSt (dayOf p i) fl.lo (coOf ss i) fl.hi.toNat 0 d := by
      rw [← hadd]; simp only [addSt]; rw [if_neg c36]
     have hm' : fl.hi.toNat - (n + 1) = m := by omega
     refine ⟨rfl, n + 1, bump d' (dayOf p i + n).toNat (decide ((n : Int) < fl.lo)) (coOf ss i), ⟨by omega, by rw [bump_len]; exact hd', by rw [hm']; exact hb⟩, by omega, ⟨rfl, rfl, rfl, rfl, rfl, rfl, rfl, trivial⟩, .of_perm ?_⟩
     simp only [bump, hx', hco, c54, decide_true, decide_false, if_true, Bool.false_eq_true, if_false, List.set_set]
     exact .refl _
    ·refine W.skip <| blk_n <| thn_n ?_
     try rw [flat_lo hx3]
     refine W.region rfl ?_
     refine pq rfl ?_
     refine qm rfl rfl rfl <| nn ?_
     have hb : addSt (dayOf p i) fl.lo (coOf ss i) m (n + 1) (bump d' (dayOf p i + n).toNat (decide ((n : Int) < fl.lo)) (coOf ss i)) = addSt (dayOf p i) fl.lo (coOf ss i) fl.hi.toNat 0 d := by
      rw [← hadd]; simp only [addSt]; rw [if_neg c36]
     have hm' : fl.hi.toNat - (n + 1) = m := by omega
     refine ⟨rfl, n + 1, bump d' (dayOf p i + n).toNat (decide ((n : Int) < fl.lo)) (coOf ss i), ⟨by omega, by rw [bump_len]; exact hd', by rw [hm']; exact hb⟩, by omega, ⟨rfl, rfl, rfl, rfl, rfl, rfl, rfl, trivial⟩, .of_perm ?_⟩
     simp only [bump, hx', hco, c54, decide_true, decide_false, if_true, Bool.false_eq_true, if_false, List.set_set]
     exact .refl _
  ·refine W.exit <| thn_x <| thn_x <| blk_x <| blk_n ?_
   have e : addSt (dayOf p i) fl.lo (coOf ss i) fl.hi.toNat 0 d = d' := by
    rw [← hadd]
    first
    | (simp only [addSt]; rw [if_pos c36])
    | (rw [show fl.hi.toNat - n = 0 by omega]; rfl)
   refine ⟨rfl, rfl, _, ⟨(addSt_len _ _ _).trans hd, rfl⟩, ?_⟩
   rw [e]
   exact .refl
 ·intro d e A he hA dd
  rw [runs_all] at he
  cases he
  obtain ⟨hd, rfl⟩ := hA
  refine blk_n <| thn_n <| W.seq ?_
  have hsz9 := days_sz hd
  have hon : ones (flat Sp.row (List.foldl (fun d i => addSt (dayOf p i) fl.lo (coOf ss i) fl.hi.toNat 0 d) days0 (setL p f))).toArray.toList = true := by simpa using flat_ones _
  refine W.region rfl ?_
  refine lq rfl ?_
  first | refine Ops.stoW ?_ | refine Ops.stoA ?_
  refine nn <| W.ret ?_
  refine lvm (hl := At.head) (lvc (hv := rAgg rNil) ⟨?_, by repeat (first | exact Shut.nil | refine Shut.cons rfl ?_)⟩)
  simp only [standsD, hfe]
  rfl
end Go.Mus

/- What is wrong on a floor. Conditions: none; over the given program. -/
namespace Go.Mus
set_option maxRecDepth 100000
set_option maxHeartbeats 4000000
instance mvFull : MV prog t_full "muscovado/floor.day" n_floor_full_day := MV.row (by kernel_rfl) (by kernel_rfl)
instance mvCold : MV prog t_cold "muscovado/floor.day" n_floor_cold_day := MV.row (by kernel_rfl) (by kernel_rfl)
instance : NI prog t_full := ⟨by kernel_rfl⟩
instance : NI prog t_cold := ⟨by kernel_rfl⟩
def faultV : Fault → Value
  | none => .nilIface
  | some (true, n) => .iface t_cold (.agg #[I n])
  | some (false, n) => .iface t_full (.agg #[I n])
theorem faultV_one (f : Fault) : one (faultV f) = true := by
  rcases f with _ | ⟨_ | _, n⟩ <;> rfl

theorem fullDay_fn (main : Side) (h : Hp) (n : Int) : Pu prog main n_floor_full_day #[.agg #[I n]] h (I n) := by
  refine Fnc.of_body at_floor_full_day rfl (by show 1 ≤ 5; decide) [(0, .agg #[I n])] ⟨rfl, trivial⟩ ?_
  refine W.seq <| W.region rfl ?_
  refine Ops.box (fun β1 => ?_)
  refine qs rfl rfl rfl <| nn <| W.seq <| W.region rfl ?_
  refine fq rfl ?_
  refine dq rfl ?_
  refine qs rfl rfl rfl <| nn <| W.ret ?_
  exact lvp rfl
theorem coldDay_fn (main : Side) (h : Hp) (n : Int) : Pu prog main n_floor_cold_day #[.agg #[I n]] h (I n) := by
  refine Fnc.of_body at_floor_cold_day rfl (by show 1 ≤ 5; decide) [(0, .agg #[I n])] ⟨rfl, trivial⟩ ?_
  refine W.seq <| W.region rfl ?_
  refine Ops.box (fun β1 => ?_)
  refine qs rfl rfl rfl <| nn <| W.seq <| W.region rfl ?_
  refine fq rfl ?_
  refine dq rfl ?_
  refine qs rfl rfl rfl <| nn <| W.ret ?_
  exact lvp rfl
section
variable {main : Side} {fn : FuncId} {m : Nat} {ro : Option Nat} {h : Hp} {Q : Post} {ρ : Env} {ds : List Deferred} {F : Frag} {ops : Array Oper} {i : Nat} {rest : List Nat} {d : Tmp} {ty : TypeId} {pos : String} {aft : Array Edge} {g : Option (Nat × Bool)} {L : Frag} {y : Operand} {c : Bool} {n : Int} {ts : Array TypeId}
theorem cday (K : Ops ⟨prog, main, fn, m, ro, h⟩ ops rest Q ((d, I n) :: ρ) ds F) (ho : nthO ops.toList i = some ⟨some d, .call ⟨.invoke y "muscovado/floor.day", #[], ts⟩, ty, pos, aft, g⟩ := by rfl) (hy : ev ρ y = some (faultV (some (c, n))) := by rfl) (hw : want ops ρ ⟨some d, .call ⟨.invoke y "muscovado/floor.day", #[], ts⟩, ty, pos, aft, g⟩ := by first | exact wn | exact want_some rfl rfl rfl) (hd : Nat.blt d m = true := by rfl) : Ops ⟨prog, main, fn, m, ro, h⟩ ops (i :: rest) Q ρ ds F := by
  cases c with
  | true => exact ci (args := []) (vs := []) (fun h' _ _ => coldDay_fn _ h' n) K ho hy rfl hw hd
  | false => exact ci (args := []) (vs := []) (fun h' _ _ => fullDay_fn _ h' n) K ho hy rfl hw hd
theorem acday {fuel listed : Nat} (K : Any ⟨prog, main, fn, m, ro, h⟩ ops L fuel (listed ||| 2 ^ i) Q ((d, I n) :: ρ) ds F) (hS : lastT ops i = true ∨ Keeps L F) (ho : nthO ops.toList i = some ⟨some d, .call ⟨.invoke y "muscovado/floor.day", #[], ts⟩, ty, pos, aft, g⟩ := by rfl) (hy : ev ρ y = some (faultV (some (c, n))) := by rfl)
    (hw : wantε ops (look ρ) ⟨some d, .call ⟨.invoke y "muscovado/floor.day", #[], ts⟩, ty, pos, aft, g⟩ true := by first | exact an | exact wantε_some rfl rfl rfl rfl) (hd : Nat.blt d m = true := by rfl) (hr : rdys ops listed = [i] := by kernel_rfl) : Any ⟨prog, main, fn, m, ro, h⟩ ops L (fuel + 1) listed Q ρ ds F := by
  cases c with
  | true => exact aci (args := []) (vs := []) (fun h' _ _ => coldDay_fn _ h' n) K hS ho hy rfl hw hd hr
  | false => exact aci (args := []) (vs := []) (fun h' _ _ => fullDay_fn _ h' n) K hS ho hy rfl hw hd hr
theorem y_nilB {x : Cx} {S : Frag → Prop} {o : Oper} {t t' : TypeId} {ms : Array (String × TypeId)} {y : Operand} {fd : Fault} (ho : o.op = .binOp .eql t y (.const .nilIface) t') [TD x.P t (.interface ms)] (hy : ev ρ y = some (faultV fd)) : Yv x S ρ o (.bool fd.isNone) := by
  rcases fd with _ | ⟨_ | _, n⟩
  · exact y_nilT ho hy
  · exact y_nilF ho hy
  · exact y_nilF ho hy
end
theorem fullF_drop {pl : Int} : ∀ {d : List Sp} {k j : Nat}, k ≤ d.length → (∀ i, i < k → ∀ s, d[i]? = some s → ¬ pl < s.hi) → fullF pl d j = fullF pl (d.drop k) (j + k)
  | d, 0, j, _, _ => rfl
  | [], k + 1, j, h, _ => by simp at h
  | s :: d, k + 1, j, h, hn => by
    have h0 := hn 0 (by omega) s rfl
    simp only [fullF, if_neg h0, List.drop_succ_cons]
    rw [fullF_drop (k := k) (j := j + 1) (by simpa using h) fun i hi s hs => hn (i + 1) (by omega) s (by simpa using hs)]
    congr 1; omega

theorem look_fn (main : Side) (h : Hp) (fs : List Fl) (ss : List St) (p : List Be) (f : Int) (vf vs : Value) (hf : Sl h Fl.row vf fs) (hs : Sl h St.row vs ss) (hall : HallOK fs ss) (hp : PlanOf fs ss p) (hf0 : 0 ≤ f) (hf1 : f < fs.length) : Pu prog main n_floor_hall_look #[.agg #[vf, vs], planV p, I f] h (faultV (lookF fs ss p f)) := by
  obtain ⟨a, cap, rfl⟩ := hf.isSl
  obtain ⟨a', cap', rfl⟩ := hs.isSl
  obtain ⟨fl, hfl, -⟩ := has (show f.toNat < fs.length by omega)
  have hfe : flAt fs f = fl := by simp [flAt, List.getD, hfl]
  have hflo := hall.fl fl (List.mem_of_getElem? hfl)
  obtain ⟨b, off, c, E, fz, rfl, hb, hx, hy, hz⟩ := hf.at hfl
  have hz0 : c[off + f.toNat * 4 + 0]? = some (I fl.pl) := hz 0 (by decide)
  have hz1 : c[off + f.toNat * 4 + 1 + 0]? = some (I fl.lo) := hz 1 (by decide)
  have hz3 : c[off + f.toNat * 4 + 3]? = some (I fl.co) := hz 3 (by decide)
  have hsz := plan_sz hp.ok
  obtain ⟨D, hD⟩ : ∃ D, D = standsD fs ss p f := ⟨_, rfl⟩
  have hDl : D.length = 22 := by rw [hD]; exact standsD_len
  have hDs := days_sz hDl
  have hDo : ones (flat Sp.row D).toArray.toList = true := by simpa using flat_ones _
  refine Fnc.of_body at_floor_hall_look rfl (by show 3 ≤ 90; decide) [(0, .agg #[.slice (some ⟨b, off, none⟩) fs.length cap, .slice a' ss.length cap']), (1, planV p), (2, I f)] ⟨rfl, rfl, rfl, trivial⟩ ?_
  refine W.seq <| W.region rfl ?_
  refine Ops.box (fun β3 => ?_)
  refine Ops.box (fun β4 => ?_)
  refine Ops.box (fun β5 => ?_)
  refine qs rfl rfl rfl <| nn <| W.seq <| W.region rfl ?_
  refine lq rfl ?_
  refine lq rfl ?_
  refine dq rfl ?_
  refine cp (fun h' hE hL => stands_fn _ h' fs ss p f _ _ (hf.ext hE) (hs.ext hE) hall hp hf0 hf1) ?_
  rw [← hD]
  refine Ops.new (fun β7 => ?_)
  first | refine Ops.stoW ?_ | refine Ops.stoA ?_
  refine nn <| W.seq <| W.region rfl ?_
  refine Ops.new (fun β8 => ?_)
  refine nn <| W.seq <| W.seq <| W.region rfl ?_
  refine lq rfl ?_
  refine qm rfl rfl rfl <| nn <| W.block ?_
  refine W.loop (σ := Nat) (fun k => k ≤ 22 ∧ ∀ i, i < k → ∀ s, D[i]? = some s → ¬ fl.pl < s.hi) (fun k => [(19, I k), (18, daysV D), (8, .pointer (some ⟨β8, 0, none⟩)), (7, .pointer (some ⟨β7, 0, none⟩)), (5, .pointer (some ⟨β5, 0, none⟩)), (4, .pointer (some ⟨β4, 0, none⟩)), (3, .pointer (some ⟨β3, 0, none⟩))]) (fun _ => [(β8, .cells #[.nilIface] t_fault (0, 0)), (β7, .cells (flat Sp.row D).toArray t_days (0, 0)), (β5, .cells #[I f] t_int (0, 0)), (β4, .cells (flat Be.row p).toArray t_plan (0, 0)), (β3, .cells #[.slice (some ⟨b, off, none⟩) fs.length cap, .slice a' ss.length cap'] t_hall (0, 0))]) (fun k => 22 - k) 0 ⟨Nat.zero_le _, fun i hi => absurd hi (Nat.not_lt_zero _)⟩ ⟨rfl, rfl, rfl, rfl, rfl, rfl, rfl, trivial⟩ sbA ?_
  rintro k ⟨hk, hn⟩
  refine W.seq <| W.region rfl ?_
  refine o1 (y_lss rfl rfl rfl) rfl ?_
  refine nn <| W.seq ?_
  refine W.condp rfl (fun c20 => ?_) (fun c20 => ?_)
  · obtain ⟨s, hsk, hdr⟩ := has (show k < D.length by omega)
    have hex : (flat Sp.row D).toArray.extract ((k : Int).toNat * 2) ((k : Int).toNat * 2 + 2) = #[I s.lo, I s.hi] := days_ex hsk
    refine W.skip <| thn_n <| W.seq <| W.block <| W.seq <| W.region rfl <| qm rfl rfl rfl ?_
    first | refine o1 (y_index rfl rfl rfl (by omega) (by omega) (by first | assumption | rfl)) rfl ?_ | refine o1 (y_indexA rfl rfl rfl (by omega) (by omega) (by first | assumption | rfl)) rfl ?_
    refine Ops.new (fun β10 => ?_)
    refine qs rfl rfl rfl ?_
    first | refine Ops.stoW ?_ | refine Ops.stoA ?_
    refine nn <| W.seq ?_
    refine W.drawF (n := 10) rfl ?_
    refine a1 0 (y_fieldAddr rfl rfl) rfl ?_
    refine a1 1 (yld rfl rfl) rfl ?_
    refine a1 2 (y_fieldAddr rfl rfl) rfl ?_
    refine a1 3 (y_fieldAddr rfl rfl) rfl ?_
    refine a1 4 (yld rfl rfl) rfl ?_
    refine a1 5 (yld rfl rfl) rfl ?_
    first | refine a1 6 (yix rfl rfl rfl) rfl ?_ | refine a1 6 (yixI rfl rfl rfl) rfl ?_
    refine a1 7 (y_fieldAddr rfl rfl) rfl ?_
    refine a1 8 (yld rfl rfl) rfl ?_
    refine a1 9 (y_gtr rfl rfl rfl) rfl ?_
    refine az ?_
    refine thn_n ?_
    refine W.condp rfl (fun c32 => ?_) (fun c32 => ?_)
    · refine W.seq <| W.region rfl <| qm rfl rfl rfl ?_
      refine o1 (y_build rfl rfl rfl) rfl ?_
      first | refine o1 (yfcN rfl rfl) rfl ?_ | refine o1 (yfc rfl rfl) rfl ?_
      refine Ops.sto ?_
      refine nn <| W.exit <| blk_o <| thn_x <| thn_x <| blk_x <| thn_n <| W.seq ?_
      have hff : ∃ fd, fullF fl.pl D 0 = fd := ⟨_, rfl⟩
      obtain ⟨fd, hff⟩ := hff
      refine W.sb (F' := [(β8, .cells #[faultV fd] t_fault (0, 0)), (β5, .cells #[I f] t_int (0, 0)), (β4, .cells (flat Be.row p).toArray t_plan (0, 0)), (β3, .cells #[.slice (some ⟨b, off, none⟩) fs.length cap, .slice a' ss.length cap'] t_hall (0, 0))]) ?_ ?_
      · first
        | (have e : fd = some (false, (k : Int)) := by
             rw [← hff, fullF_drop (k := k) (by omega) hn, hdr]; simp only [fullF]; rw [if_pos c32]; simp
           rw [e]; exact sbA)
        | (have e : fd = none := by
             rw [← hff, fullF_drop (k := k) (by omega) hn, show k = D.length by omega]; simp [fullF]
           rw [e]; exact sbA)
      refine W.region rfl ?_
      refine Ops.new (fun β11 => ?_)
      refine Ops.sto ?_
      refine nn <| W.seq <| W.seq <| W.region rfl ?_
      refine lq rfl ?_
      refine lq rfl ?_
      refine dq rfl ?_
      refine c0 (fun h' hE hL => set_fn _ h' p f _ _ rfl rfl) (fun v A' hv => ?_)
      obtain ⟨b4, b5, b3, rfl, rfl⟩ := hv
      refine nn <| W.block ?_
      refine W.range (σ := Fault × Int) (X := Int) (enc := I) (xs := setL p f) rfl rfl rfl (fun s i => lookS fl.co fl.lo (dayOf p i) s) (fun _ _ => none) (fun s A => A = [(β11, .cells #[I s.2] t_int (0, 0)), (β8, .cells #[faultV s.1] t_fault (0, 0))]) (fd, -1) (A₀ := [(β11, .cells #[I (-1)] t_int (0, 0)), (β8, .cells #[faultV fd] t_fault (0, 0))]) (.tail (.tail (.tail .head))) rfl (fun h' hE hL => set1_iter _ h' p hp.ok f b4 b5 _ _ _ _ (hL b4 _ (by repeat (first | exact List.Mem.head _ | apply List.Mem.tail))) (hL b5 _ (by repeat (first | exact List.Mem.head _ | apply List.Mem.tail)))) (fun _ _ _ e => by cases e) ?_ ?_
      · rintro ⟨fd1, u⟩ i A hi rfl l h1 - -
        dsimp only
        refine W.region rfl <| qs rfl rfl rfl <| Ops.nil ?_
        refine ⟨rfl, rfl, fun h1 hE1 hL1 => ?_⟩
        have h5' : h1 β5 = some (.cells #[I f] t_int (0, 0)) := hL1 _ _ (by repeat (first | exact List.Mem.head _ | apply List.Mem.tail))
        have h4' : h1 β4 = some (.cells (flat Be.row p).toArray t_plan (0, 0)) := hL1 _ _ (by repeat (first | exact List.Mem.head _ | apply List.Mem.tail))
        have h3' : h1 β3 = some (.cells #[.slice (some ⟨b, off, none⟩) fs.length cap, .slice a' ss.length cap'] t_hall (0, 0)) := hL1 _ _ (by repeat (first | exact List.Mem.head _ | apply List.Mem.tail))
        have hb' : h1 b = some (.cells c E fz) := hE1.1 _ _ hb
        clear hL1 hE1
        have hi4 := setL_lt hi
        have hday : (flat Be.row p).toArray[0 + i.toNat * 2 + 1]? = some (I (dayOf p i)) := by have := (plan_at hp.ok (i := i.toNat) (by omega)).2; simpa [dayOf] using this
        have hd17 : 0 ≤ dayOf p i ∧ dayOf p i ≤ 17 := (beAt_some hp.ok (i := i.toNat) (by omega)).2.2.2
        refine W.block <| W.seq <| W.seq ?_
        refine W.drawF (n := 10) rfl ?_
        refine a1 0 (yld rfl rfl) rfl ?_
        refine a1 1 (y_fieldAddr rfl rfl) rfl ?_
        refine a1 2 (y_fieldAddr rfl rfl) rfl ?_
        refine a1 3 (yld rfl rfl) rfl ?_
        refine a1 4 (yld rfl rfl) rfl ?_
        first | refine a1 5 (yix rfl rfl rfl) rfl ?_ | refine a1 5 (yixI rfl rfl rfl) rfl ?_
        refine a1 6 (y_fieldAddr rfl rfl) rfl ?_
        refine a1 7 (yld rfl rfl) rfl ?_
        first | refine a1 8 (yadd rfl rfl rfl) rfl ?_ | refine a1 8 (y_addw rfl rfl rfl) rfl ?_
        refine a1 9 (y_assign rfl rfl) rfl ?_
        refine az ?_
        refine thn_n <| W.seq <| W.region rfl ?_
        refine dq rfl ?_
        refine o1 (y_geq rfl rfl rfl) rfl ?_
        refine qm rfl rfl rfl ?_
        refine Ops.ask (fun a13_3 => ?_) (fun a13_3 => ?_)
        · refine oq (y_move rfl rfl) rfl (want_some rfl rfl rfl) rfl rfl ?_
          first | refine oq (yixA rfl rfl rfl) rfl (want_some rfl rfl rfl) rfl rfl ?_ | refine oq (yixAI rfl rfl rfl) rfl (want_some rfl rfl rfl) rfl rfl ?_
          refine oq (y_fieldAddr rfl rfl) rfl (want_some rfl rfl rfl) rfl rfl ?_
          refine oq (yld rfl rfl) rfl (want_some rfl rfl rfl) rfl rfl ?_
          refine oq (y_move rfl rfl) rfl (want_some rfl rfl rfl) rfl rfl ?_
          refine oq (y_gtr rfl rfl rfl) rfl (want_some rfl rfl rfl) rfl rfl ?_
          refine o1 (y_pickT rfl rfl rfl) rfl ?_
          refine qm rfl rfl rfl ?_
          refine Ops.ask (fun a13_11 => ?_) (fun a13_11 => ?_)
          · refine oq (yld rfl rfl) rfl (want_some rfl rfl rfl) rfl rfl ?_
            refine oq (y_nilB rfl rfl) rfl (want_some rfl rfl rfl) rfl rfl ?_
            refine oq (y_move rfl rfl) rfl (want_some rfl rfl rfl) rfl rfl ?_
            refine Ops.askB (fun a13_14 => ?_) (fun a13_14 => ?_)
            · refine Ops.no ?_
              refine Ops.no ?_
              refine Ops.no ?_
              refine Ops.no ?_
              refine oq (y_pickT rfl rfl rfl) rfl (want_some rfl rfl rfl) rfl rfl ?_
              refine o1 (y_pickT rfl rfl rfl) rfl ?_
              refine nn ?_
              refine W.condT ?_
              first
              | have hea : early (wadd u fl.co) fd1 = true := early_none a13_14
              | have hea : early (wadd u fl.co) (some (cc, n1)) = true := early_some c70
              refine W.region rfl <| qm rfl rfl rfl ?_
              refine o1 (y_build rfl rfl rfl) rfl ?_
              first | refine o1 (yfcN rfl rfl) rfl ?_ | refine o1 (yfc rfl rfl) rfl ?_
              refine Ops.sto ?_
              refine nn ?_
              refine W.drawF (n := 16) rfl ?_
              refine a1 0 (yld rfl rfl) rfl ?_
              refine a1 1 (y_move rfl rfl) rfl ?_
              first | refine a1 2 (yixA rfl rfl rfl) rfl ?_ | refine a1 2 (yixAI rfl rfl rfl) rfl ?_
              refine a1 3 (y_fieldAddr rfl rfl) rfl ?_
              refine a1 4 (yld rfl rfl) rfl ?_
              refine a1 5 (y_fieldAddr rfl rfl) rfl ?_
              refine a1 6 (y_fieldAddr rfl rfl) rfl ?_
              refine a1 7 (yld rfl rfl) rfl ?_
              refine a1 8 (yld rfl rfl) rfl ?_
              first | refine a1 9 (yix rfl rfl rfl) rfl ?_ | refine a1 9 (yixI rfl rfl rfl) rfl ?_
              refine a1 10 (y_fieldAddr rfl rfl) rfl ?_
              refine a1 11 (y_fieldAddr rfl rfl) rfl ?_
              refine a1 12 (yld rfl rfl) rfl ?_
              first | refine a1 13 (yadd rfl rfl rfl) rfl ?_ | refine a1 13 (y_addw rfl rfl rfl) rfl ?_
              refine a1 14 (y_max rfl rfl rfl) rfl ?_
              refine ae (i := 15) rfl an rfl rfl (eS rfl rfl rfl ?_)
              refine ⟨.inl (by kernel_rfl), ?_⟩
              refine az ?_
              refine blk_n ?_
              refine ⟨rfl, rfl, _, rfl, ?_⟩
              have e := lookS_pos (lo := fl.lo) a13_3 a13_11 hea
              rw [e]; exact sbA
            · obtain ⟨⟨cc, n1⟩, rfl⟩ : ∃ q, fd1 = some q := by
                cases fd1 with
                | none => simp at a13_14
                | some q => exact ⟨q, rfl⟩
              refine oq (y_move rfl rfl) rfl (want_some rfl rfl rfl) rfl rfl ?_
              refine oq (yld rfl rfl) rfl (want_some rfl rfl rfl) rfl rfl ?_
              refine cday ?_
              refine oq (y_lss rfl rfl rfl) rfl (want_some rfl rfl rfl) rfl rfl ?_
              refine oq (y_pickF rfl rfl rfl) rfl (want_some rfl rfl rfl) rfl rfl ?_
              refine o1 (y_pickT rfl rfl rfl) rfl ?_
              refine nn ?_
              refine W.condp rfl (fun c70 => ?_) (fun c70 => ?_)
              · first
                | have hea : early (wadd u fl.co) fd1 = true := early_none a13_14
                | have hea : early (wadd u fl.co) (some (cc, n1)) = true := early_some c70
                refine W.region rfl <| qm rfl rfl rfl ?_
                refine o1 (y_build rfl rfl rfl) rfl ?_
                first | refine o1 (yfcN rfl rfl) rfl ?_ | refine o1 (yfc rfl rfl) rfl ?_
                refine Ops.sto ?_
                refine nn ?_
                refine W.drawF (n := 16) rfl ?_
                refine a1 0 (yld rfl rfl) rfl ?_
                refine a1 1 (y_move rfl rfl) rfl ?_
                first | refine a1 2 (yixA rfl rfl rfl) rfl ?_ | refine a1 2 (yixAI rfl rfl rfl) rfl ?_
                refine a1 3 (y_fieldAddr rfl rfl) rfl ?_
                refine a1 4 (yld rfl rfl) rfl ?_
                refine a1 5 (y_fieldAddr rfl rfl) rfl ?_
                refine a1 6 (y_fieldAddr rfl rfl) rfl ?_
                refine a1 7 (yld rfl rfl) rfl ?_
                refine a1 8 (yld rfl rfl) rfl ?_
                first | refine a1 9 (yix rfl rfl rfl) rfl ?_ | refine a1 9 (yixI rfl rfl rfl) rfl ?_
                refine a1 10 (y_fieldAddr rfl rfl) rfl ?_
                refine a1 11 (y_fieldAddr rfl rfl) rfl ?_
                refine a1 12 (yld rfl rfl) rfl ?_
                first | refine a1 13 (yadd rfl rfl rfl) rfl ?_ | refine a1 13 (y_addw rfl rfl rfl) rfl ?_
                refine a1 14 (y_max rfl rfl rfl) rfl ?_
                refine ae (i := 15) rfl an rfl rfl (eS rfl rfl rfl ?_)
                refine ⟨.inl (by kernel_rfl), ?_⟩
                refine az ?_
                refine blk_n ?_
                refine ⟨rfl, rfl, _, rfl, ?_⟩
                have e := lookS_pos (lo := fl.lo) a13_3 a13_11 hea
                rw [e]; exact sbA
              · refine W.skip <| thn_n ?_
                refine W.drawF (n := 16) rfl ?_
                refine a1 0 (yld rfl rfl) rfl ?_
                refine a1 1 (y_move rfl rfl) rfl ?_
                first | refine a1 2 (yixA rfl rfl rfl) rfl ?_ | refine a1 2 (yixAI rfl rfl rfl) rfl ?_
                refine a1 3 (y_fieldAddr rfl rfl) rfl ?_
                refine a1 4 (yld rfl rfl) rfl ?_
                refine a1 5 (y_fieldAddr rfl rfl) rfl ?_
                refine a1 6 (y_fieldAddr rfl rfl) rfl ?_
                refine a1 7 (yld rfl rfl) rfl ?_
                refine a1 8 (yld rfl rfl) rfl ?_
                first | refine a1 9 (yix rfl rfl rfl) rfl ?_ | refine a1 9 (yixI rfl rfl rfl) rfl ?_
                refine a1 10 (y_fieldAddr rfl rfl) rfl ?_
                refine a1 11 (y_fieldAddr rfl rfl) rfl ?_
                refine a1 12 (yld rfl rfl) rfl ?_
                first | refine a1 13 (yadd rfl rfl rfl) rfl ?_ | refine a1 13 (y_addw rfl rfl rfl) rfl ?_
                refine a1 14 (y_max rfl rfl rfl) rfl ?_
                refine ae (i := 15) rfl an rfl rfl (eS rfl rfl rfl ?_)
                refine ⟨.inl (by kernel_rfl), ?_⟩
                refine az ?_
                refine blk_n ?_
                refine ⟨rfl, rfl, _, rfl, ?_⟩
                first
                | (have e := lookS_neg1 (co := fl.co) (lo := fl.lo) (day := dayOf p i) (fd := fd1) a13_3
                   rw [e]; exact sbA)
                | (have e := lookS_neg2 (lo := fl.lo) (fd := fd1) a13_11
                   rw [e]; exact sbA)
                | (have e := lookS_neg3 (lo := fl.lo) (day := dayOf p i) (c := cc) c70
                   rw [e]; exact sbA)
          · refine Ops.no ?_
            refine Ops.no ?_
            refine Ops.no ?_
            refine Ops.noU ?_
            refine Ops.noU ?_
            refine Ops.noU ?_
            refine Ops.noU ?_
            refine Ops.no ?_
            refine o1 (y_pickF rfl rfl rfl) rfl ?_
            refine nn ?_
            refine W.condF ?_
            refine W.skip <| thn_n ?_
            refine W.drawF (n := 16) rfl ?_
            refine a1 0 (yld rfl rfl) rfl ?_
            refine a1 1 (y_move rfl rfl) rfl ?_
            first | refine a1 2 (yixA rfl rfl rfl) rfl ?_ | refine a1 2 (yixAI rfl rfl rfl) rfl ?_
            refine a1 3 (y_fieldAddr rfl rfl) rfl ?_
            refine a1 4 (yld rfl rfl) rfl ?_
            refine a1 5 (y_fieldAddr rfl rfl) rfl ?_
            refine a1 6 (y_fieldAddr rfl rfl) rfl ?_
            refine a1 7 (yld rfl rfl) rfl ?_
            refine a1 8 (yld rfl rfl) rfl ?_
            first | refine a1 9 (yix rfl rfl rfl) rfl ?_ | refine a1 9 (yixI rfl rfl rfl) rfl ?_
            refine a1 10 (y_fieldAddr rfl rfl) rfl ?_
            refine a1 11 (y_fieldAddr rfl rfl) rfl ?_
            refine a1 12 (yld rfl rfl) rfl ?_
            first | refine a1 13 (yadd rfl rfl rfl) rfl ?_ | refine a1 13 (y_addw rfl rfl rfl) rfl ?_
            refine a1 14 (y_max rfl rfl rfl) rfl ?_
            refine ae (i := 15) rfl an rfl rfl (eS rfl rfl rfl ?_)
            refine ⟨.inl (by kernel_rfl), ?_⟩
            refine az ?_
            refine blk_n ?_
            refine ⟨rfl, rfl, _, rfl, ?_⟩
            first
            | (have e := lookS_neg1 (co := fl.co) (lo := fl.lo) (day := dayOf p i) (fd := fd1) a13_3
               rw [e]; exact sbA)
            | (have e := lookS_neg2 (lo := fl.lo) (fd := fd1) a13_11
               rw [e]; exact sbA)
            | (have e := lookS_neg3 (lo := fl.lo) (day := dayOf p i) (c := cc) c70
               rw [e]; exact sbA)
        · refine Ops.no ?_
          refine Ops.no ?_
          refine Ops.no ?_
          refine Ops.no ?_
          refine Ops.no ?_
          refine Ops.no ?_
          refine o1 (y_pickF rfl rfl rfl) rfl ?_
          refine qm rfl rfl rfl ?_
          refine Ops.no ?_
          refine Ops.no ?_
          refine Ops.no ?_
          refine Ops.noU ?_
          refine Ops.noU ?_
          refine Ops.noU ?_
          refine Ops.noU ?_
          refine Ops.no ?_
          refine o1 (y_pickF rfl rfl rfl) rfl ?_
          refine nn ?_
          refine W.condF ?_
          refine W.skip <| thn_n ?_
          refine W.drawF (n := 16) rfl ?_
          refine a1 0 (yld rfl rfl) rfl ?_
          refine a1 1 (y_move rfl rfl) rfl ?_
          first | refine a1 2 (yixA rfl rfl rfl) rfl ?_ | refine a1 2 (yixAI rfl rfl rfl) rfl ?_
          refine a1 3 (y_fieldAddr rfl rfl) rfl ?_
          refine a1 4 (yld rfl rfl) rfl ?_
          refine a1 5 (y_fieldAddr rfl rfl) rfl ?_
          refine a1 6 (y_fieldAddr rfl rfl) rfl ?_
          refine a1 7 (yld rfl rfl) rfl ?_
          refine a1 8 (yld rfl rfl) rfl ?_
          first | refine a1 9 (yix rfl rfl rfl) rfl ?_ | refine a1 9 (yixI rfl rfl rfl) rfl ?_
          refine a1 10 (y_fieldAddr rfl rfl) rfl ?_
          refine a1 11 (y_fieldAddr rfl rfl) rfl ?_
          refine a1 12 (yld rfl rfl) rfl ?_
          first | refine a1 13 (yadd rfl rfl rfl) rfl ?_ | refine a1 13 (y_addw rfl rfl rfl) rfl ?_
          refine a1 14 (y_max rfl rfl rfl) rfl ?_
          refine ae (i := 15) rfl an rfl rfl (eS rfl rfl rfl ?_)
          refine ⟨.inl (by kernel_rfl), ?_⟩
          refine az ?_
          refine blk_n ?_
          refine ⟨rfl, rfl, _, rfl, ?_⟩
          first
          | (have e := lookS_neg1 (co := fl.co) (lo := fl.lo) (day := dayOf p i) (fd := fd1) a13_3
             rw [e]; exact sbA)
          | (have e := lookS_neg2 (lo := fl.lo) (fd := fd1) a13_11
             rw [e]; exact sbA)
          | (have e := lookS_neg3 (lo := fl.lo) (day := dayOf p i) (c := cc) c70
             rw [e]; exact sbA)
      · intro s e A he hA dd
        rw [runs_all] at he
        cases he
        subst hA
        refine blk_n <| thn_n <| W.seq <| W.region rfl ?_
        refine dq rfl ?_
        refine qs rfl rfl rfl <| nn <| W.ret ?_
        refine lvm (hl := At.head) (lvp ?_)
        simp only [lookF, hfe, ← hD, hff]
        rfl
    · refine W.skip <| blk_n <| thn_n <| W.region rfl ?_
      refine pq rfl ?_
      refine qm rfl rfl rfl <| nn ?_
      refine ⟨rfl, k + 1, ⟨by omega, fun i hi s' hs' => ?_⟩, by omega, ⟨rfl, rfl, rfl, rfl, rfl, rfl, rfl, trivial⟩, sbA⟩
      rcases (by omega : i < k ∨ i = k) with hi | rfl
      · exact hn i hi s' hs'
      · rw [hsk] at hs'; cases hs'; exact c32
  · refine W.exit <| thn_x <| thn_x <| blk_x <| thn_n <| W.seq ?_
    have hff : ∃ fd, fullF fl.pl D 0 = fd := ⟨_, rfl⟩
    obtain ⟨fd, hff⟩ := hff
    refine W.sb (F' := [(β8, .cells #[faultV fd] t_fault (0, 0)), (β5, .cells #[I f] t_int (0, 0)), (β4, .cells (flat Be.row p).toArray t_plan (0, 0)), (β3, .cells #[.slice (some ⟨b, off, none⟩) fs.length cap, .slice a' ss.length cap'] t_hall (0, 0))]) ?_ ?_
    · first
      | (have e : fd = some (false, (k : Int)) := by
           rw [← hff, fullF_drop (k := k) (by omega) hn, hdr]; simp only [fullF]; rw [if_pos c32]; simp
         rw [e]; exact sbA)
      | (have e : fd = none := by
           rw [← hff, fullF_drop (k := k) (by omega) hn, show k = D.length by omega]; simp [fullF]
         rw [e]; exact sbA)
    refine W.region rfl ?_
    refine Ops.new (fun β11 => ?_)
    refine Ops.sto ?_
    refine nn <| W.seq <| W.seq <| W.region rfl ?_
    refine lq rfl ?_
    refine lq rfl ?_
    refine dq rfl ?_
    refine c0 (fun h' hE hL => set_fn _ h' p f _ _ rfl rfl) (fun v A' hv => ?_)
    obtain ⟨b4, b5, b3, rfl, rfl⟩ := hv
    refine nn <| W.block ?_
    refine W.range (σ := Fault × Int) (X := Int) (enc := I) (xs := setL p f) rfl rfl rfl (fun s i => lookS fl.co fl.lo (dayOf p i) s) (fun _ _ => none) (fun s A => A = [(β11, .cells #[I s.2] t_int (0, 0)), (β8, .cells #[faultV s.1] t_fault (0, 0))]) (fd, -1) (A₀ := [(β11, .cells #[I (-1)] t_int (0, 0)), (β8, .cells #[faultV fd] t_fault (0, 0))]) (.tail (.tail (.tail .head))) rfl (fun h' hE hL => set1_iter _ h' p hp.ok f b4 b5 _ _ _ _ (hL b4 _ (by repeat (first | exact List.Mem.head _ | apply List.Mem.tail))) (hL b5 _ (by repeat (first | exact List.Mem.head _ | apply List.Mem.tail)))) (fun _ _ _ e => by cases e) ?_ ?_
    · rintro ⟨fd1, u⟩ i A hi rfl l h1 - -
      dsimp only
      refine W.region rfl <| qs rfl rfl rfl <| Ops.nil ?_
      refine ⟨rfl, rfl, fun h1 hE1 hL1 => ?_⟩
      have h5' : h1 β5 = some (.cells #[I f] t_int (0, 0)) := hL1 _ _ (by repeat (first | exact List.Mem.head _ | apply List.Mem.tail))
      have h4' : h1 β4 = some (.cells (flat Be.row p).toArray t_plan (0, 0)) := hL1 _ _ (by repeat (first | exact List.Mem.head _ | apply List.Mem.tail))
      have h3' : h1 β3 = some (.cells #[.slice (some ⟨b, off, none⟩) fs.length cap, .slice a' ss.length cap'] t_hall (0, 0)) := hL1 _ _ (by repeat (first | exact List.Mem.head _ | apply List.Mem.tail))
      have hb' : h1 b = some (.cells c E fz) := hE1.1 _ _ hb
      clear hL1 hE1
      have hi4 := setL_lt hi
      have hday : (flat Be.row p).toArray[0 + i.toNat * 2 + 1]? = some (I (dayOf p i)) := by have := (plan_at hp.ok (i := i.toNat) (by omega)).2; simpa [dayOf] using this
      have hd17 : 0 ≤ dayOf p i ∧ dayOf p i ≤ 17 := (beAt_some hp.ok (i := i.toNat) (by omega)).2.2.2
      refine W.block <| W.seq <| W.seq ?_
      refine W.drawF (n := 10) rfl ?_
      refine a1 0 (yld rfl rfl) rfl ?_
      refine a1 1 (y_fieldAddr rfl rfl) rfl ?_
      refine a1 2 (y_fieldAddr rfl rfl) rfl ?_
      refine a1 3 (yld rfl rfl) rfl ?_
      refine a1 4 (yld rfl rfl) rfl ?_
      first | refine a1 5 (yix rfl rfl rfl) rfl ?_ | refine a1 5 (yixI rfl rfl rfl) rfl ?_
      refine a1 6 (y_fieldAddr rfl rfl) rfl ?_
      refine a1 7 (yld rfl rfl) rfl ?_
      first | refine a1 8 (yadd rfl rfl rfl) rfl ?_ | refine a1 8 (y_addw rfl rfl rfl) rfl ?_
      refine a1 9 (y_assign rfl rfl) rfl ?_
      refine az ?_
      refine thn_n <| W.seq <| W.region rfl ?_
      refine dq rfl ?_
      refine o1 (y_geq rfl rfl rfl) rfl ?_
      refine qm rfl rfl rfl ?_
      refine Ops.ask (fun a13_3 => ?_) (fun a13_3 => ?_)
      · refine oq (y_move rfl rfl) rfl (want_some rfl rfl rfl) rfl rfl ?_
        first | refine oq (yixA rfl rfl rfl) rfl (want_some rfl rfl rfl) rfl rfl ?_ | refine oq (yixAI rfl rfl rfl) rfl (want_some rfl rfl rfl) rfl rfl ?_
        refine oq (y_fieldAddr rfl rfl) rfl (want_some rfl rfl rfl) rfl rfl ?_
        refine oq (yld rfl rfl) rfl (want_some rfl rfl rfl) rfl rfl ?_
        refine oq (y_move rfl rfl) rfl (want_some rfl rfl rfl) rfl rfl ?_
        refine oq (y_gtr rfl rfl rfl) rfl (want_some rfl rfl rfl) rfl rfl ?_
        refine o1 (y_pickT rfl rfl rfl) rfl ?_
        refine qm rfl rfl rfl ?_
        refine Ops.ask (fun a13_11 => ?_) (fun a13_11 => ?_)
        · refine oq (yld rfl rfl) rfl (want_some rfl rfl rfl) rfl rfl ?_
          refine oq (y_nilB rfl rfl) rfl (want_some rfl rfl rfl) rfl rfl ?_
          refine oq (y_move rfl rfl) rfl (want_some rfl rfl rfl) rfl rfl ?_
          refine Ops.askB (fun a13_14 => ?_) (fun a13_14 => ?_)
          · refine Ops.no ?_
            refine Ops.no ?_
            refine Ops.no ?_
            refine Ops.no ?_
            refine oq (y_pickT rfl rfl rfl) rfl (want_some rfl rfl rfl) rfl rfl ?_
            refine o1 (y_pickT rfl rfl rfl) rfl ?_
            refine nn ?_
            refine W.condT ?_
            first
            | have hea : early (wadd u fl.co) fd1 = true := early_none a13_14
            | have hea : early (wadd u fl.co) (some (cc, n1)) = true := early_some c70
            refine W.region rfl <| qm rfl rfl rfl ?_
            refine o1 (y_build rfl rfl rfl) rfl ?_
            first | refine o1 (yfcN rfl rfl) rfl ?_ | refine o1 (yfc rfl rfl) rfl ?_
            refine Ops.sto ?_
            refine nn ?_
            refine W.drawF (n := 16) rfl ?_
            refine a1 0 (yld rfl rfl) rfl ?_
            refine a1 1 (y_move rfl rfl) rfl ?_
            first | refine a1 2 (yixA rfl rfl rfl) rfl ?_ | refine a1 2 (yixAI rfl rfl rfl) rfl ?_
            refine a1 3 (y_fieldAddr rfl rfl) rfl ?_
            refine a1 4 (yld rfl rfl) rfl ?_
            refine a1 5 (y_fieldAddr rfl rfl) rfl ?_
            refine a1 6 (y_fieldAddr rfl rfl) rfl ?_
            refine a1 7 (yld rfl rfl) rfl ?_
            refine a1 8 (yld rfl rfl) rfl ?_
            first | refine a1 9 (yix rfl rfl rfl) rfl ?_ | refine a1 9 (yixI rfl rfl rfl) rfl ?_
            refine a1 10 (y_fieldAddr rfl rfl) rfl ?_
            refine a1 11 (y_fieldAddr rfl rfl) rfl ?_
            refine a1 12 (yld rfl rfl) rfl ?_
            first | refine a1 13 (yadd rfl rfl rfl) rfl ?_ | refine a1 13 (y_addw rfl rfl rfl) rfl ?_
            refine a1 14 (y_max rfl rfl rfl) rfl ?_
            refine ae (i := 15) rfl an rfl rfl (eS rfl rfl rfl ?_)
            refine ⟨.inl (by kernel_rfl), ?_⟩
            refine az ?_
            refine blk_n ?_
            refine ⟨rfl, rfl, _, rfl, ?_⟩
            have e := lookS_pos (lo := fl.lo) a13_3 a13_11 hea
            rw [e]; exact sbA
          · obtain ⟨⟨cc, n1⟩, rfl⟩ : ∃ q, fd1 = some q := by
              cases fd1 with
              | none => simp at a13_14
              | some q => exact ⟨q, rfl⟩
            refine oq (y_move rfl rfl) rfl (want_some rfl rfl rfl) rfl rfl ?_
            refine oq (yld rfl rfl) rfl (want_some rfl rfl rfl) rfl rfl ?_
            refine cday ?_
            refine oq (y_lss rfl rfl rfl) rfl (want_some rfl rfl rfl) rfl rfl ?_
            refine oq (y_pickF rfl rfl rfl) rfl (want_some rfl rfl rfl) rfl rfl ?_
            refine o1 (y_pickT rfl rfl rfl) rfl ?_
            refine nn ?_
            refine W.condp rfl (fun c70 => ?_) (fun c70 => ?_)
            · first
              | have hea : early (wadd u fl.co) fd1 = true := early_none a13_14
              | have hea : early (wadd u fl.co) (some (cc, n1)) = true := early_some c70
              refine W.region rfl <| qm rfl rfl rfl ?_
              refine o1 (y_build rfl rfl rfl) rfl ?_
              first | refine o1 (yfcN rfl rfl) rfl ?_ | refine o1 (yfc rfl rfl) rfl ?_
              refine Ops.sto ?_
              refine nn ?_
              refine W.drawF (n := 16) rfl ?_
              refine a1 0 (yld rfl rfl) rfl ?_
              refine a1 1 (y_move rfl rfl) rfl ?_
              first | refine a1 2 (yixA rfl rfl rfl) rfl ?_ | refine a1 2 (yixAI rfl rfl rfl) rfl ?_
              refine a1 3 (y_fieldAddr rfl rfl) rfl ?_
              refine a1 4 (yld rfl rfl) rfl ?_
              refine a1 5 (y_fieldAddr rfl rfl) rfl ?_
              refine a1 6 (y_fieldAddr rfl rfl) rfl ?_
              refine a1 7 (yld rfl rfl) rfl ?_
              refine a1 8 (yld rfl rfl) rfl ?_
              first | refine a1 9 (yix rfl rfl rfl) rfl ?_ | refine a1 9 (yixI rfl rfl rfl) rfl ?_
              refine a1 10 (y_fieldAddr rfl rfl) rfl ?_
              refine a1 11 (y_fieldAddr rfl rfl) rfl ?_
              refine a1 12 (yld rfl rfl) rfl ?_
              first | refine a1 13 (yadd rfl rfl rfl) rfl ?_ | refine a1 13 (y_addw rfl rfl rfl) rfl ?_
              refine a1 14 (y_max rfl rfl rfl) rfl ?_
              refine ae (i := 15) rfl an rfl rfl (eS rfl rfl rfl ?_)
              refine ⟨.inl (by kernel_rfl), ?_⟩
              refine az ?_
              refine blk_n ?_
              refine ⟨rfl, rfl, _, rfl, ?_⟩
              have e := lookS_pos (lo := fl.lo) a13_3 a13_11 hea
              rw [e]; exact sbA
            · refine W.skip <| thn_n ?_
              refine W.drawF (n := 16) rfl ?_
              refine a1 0 (yld rfl rfl) rfl ?_
              refine a1 1 (y_move rfl rfl) rfl ?_
              first | refine a1 2 (yixA rfl rfl rfl) rfl ?_ | refine a1 2 (yixAI rfl rfl rfl) rfl ?_
              refine a1 3 (y_fieldAddr rfl rfl) rfl ?_
              refine a1 4 (yld rfl rfl) rfl ?_
              refine a1 5 (y_fieldAddr rfl rfl) rfl ?_
              refine a1 6 (y_fieldAddr rfl rfl) rfl ?_
              refine a1 7 (yld rfl rfl) rfl ?_
              refine a1 8 (yld rfl rfl) rfl ?_
              first | refine a1 9 (yix rfl rfl rfl) rfl ?_ | refine a1 9 (yixI rfl rfl rfl) rfl ?_
              refine a1 10 (y_fieldAddr rfl rfl) rfl ?_
              refine a1 11 (y_fieldAddr rfl rfl) rfl ?_
              refine a1 12 (yld rfl rfl) rfl ?_
              first | refine a1 13 (yadd rfl rfl rfl) rfl ?_ | refine a1 13 (y_addw rfl rfl rfl) rfl ?_
              refine a1 14 (y_max rfl rfl rfl) rfl ?_
              refine ae (i := 15) rfl an rfl rfl (eS rfl rfl rfl ?_)
              refine ⟨.inl (by kernel_rfl), ?_⟩
              refine az ?_
              refine blk_n ?_
              refine ⟨rfl, rfl, _, rfl, ?_⟩
              first
              | (have e := lookS_neg1 (co := fl.co) (lo := fl.lo) (day := dayOf p i) (fd := fd1) a13_3
                 rw [e]; exact sbA)
              | (have e := lookS_neg2 (lo := fl.lo) (fd := fd1) a13_11
                 rw [e]; exact sbA)
              | (have e := lookS_neg3 (lo := fl.lo) (day := dayOf p i) (c := cc) c70
                 rw [e]; exact sbA)
        · refine Ops.no ?_
          refine Ops.no ?_
          refine Ops.no ?_
          refine Ops.noU ?_
          refine Ops.noU ?_
          refine Ops.noU ?_
          refine Ops.noU ?_
          refine Ops.no ?_
          refine o1 (y_pickF rfl rfl rfl) rfl ?_
          refine nn ?_
          refine W.condF ?_
          refine W.skip <| thn_n ?_
          refine W.drawF (n := 16) rfl ?_
          refine a1 0 (yld rfl rfl) rfl ?_
          refine a1 1 (y_move rfl rfl) rfl ?_
          first | refine a1 2 (yixA rfl rfl rfl) rfl ?_ | refine a1 2 (yixAI rfl rfl rfl) rfl ?_
          refine a1 3 (y_fieldAddr rfl rfl) rfl ?_
          refine a1 4 (yld rfl rfl) rfl ?_
          refine a1 5 (y_fieldAddr rfl rfl) rfl ?_
          refine a1 6 (y_fieldAddr rfl rfl) rfl ?_
          refine a1 7 (yld rfl rfl) rfl ?_
          refine a1 8 (yld rfl rfl) rfl ?_
          first | refine a1 9 (yix rfl rfl rfl) rfl ?_ | refine a1 9 (yixI rfl rfl rfl) rfl ?_
          refine a1 10 (y_fieldAddr rfl rfl) rfl ?_
          refine a1 11 (y_fieldAddr rfl rfl) rfl ?_
          refine a1 12 (yld rfl rfl) rfl ?_
          first | refine a1 13 (yadd rfl rfl rfl) rfl ?_ | refine a1 13 (y_addw rfl rfl rfl) rfl ?_
          refine a1 14 (y_max rfl rfl rfl) rfl ?_
          refine ae (i := 15) rfl an rfl rfl (eS rfl rfl rfl ?_)
          refine ⟨.inl (by kernel_rfl), ?_⟩
          refine az ?_
          refine blk_n ?_
          refine ⟨rfl, rfl, _, rfl, ?_⟩
          first
          | (have e := lookS_neg1 (co := fl.co) (lo := fl.lo) (day := dayOf p i) (fd := fd1) a13_3
             rw [e]; exact sbA)
          | (have e := lookS_neg2 (lo := fl.lo) (fd := fd1) a13_11
             rw [e]; exact sbA)
          | (have e := lookS_neg3 (lo := fl.lo) (day := dayOf p i) (c := cc) c70
             rw [e]; exact sbA)
      · refine Ops.no ?_
        refine Ops.no ?_
        refine Ops.no ?_
        refine Ops.no ?_
        refine Ops.no ?_
        refine Ops.no ?_
        refine o1 (y_pickF rfl rfl rfl) rfl ?_
        refine qm rfl rfl rfl ?_
        refine Ops.no ?_
        refine Ops.no ?_
        refine Ops.no ?_
        refine Ops.noU ?_
        refine Ops.noU ?_
        refine Ops.noU ?_
        refine Ops.noU ?_
        refine Ops.no ?_
        refine o1 (y_pickF rfl rfl rfl) rfl ?_
        refine nn ?_
        refine W.condF ?_
        refine W.skip <| thn_n ?_
        refine W.drawF (n := 16) rfl ?_
        refine a1 0 (yld rfl rfl) rfl ?_
        refine a1 1 (y_move rfl rfl) rfl ?_
        first | refine a1 2 (yixA rfl rfl rfl) rfl ?_ | refine a1 2 (yixAI rfl rfl rfl) rfl ?_
        refine a1 3 (y_fieldAddr rfl rfl) rfl ?_
        refine a1 4 (yld rfl rfl) rfl ?_
        refine a1 5 (y_fieldAddr rfl rfl) rfl ?_
        refine a1 6 (y_fieldAddr rfl rfl) rfl ?_
        refine a1 7 (yld rfl rfl) rfl ?_
        refine a1 8 (yld rfl rfl) rfl ?_
        first | refine a1 9 (yix rfl rfl rfl) rfl ?_ | refine a1 9 (yixI rfl rfl rfl) rfl ?_
        refine a1 10 (y_fieldAddr rfl rfl) rfl ?_
        refine a1 11 (y_fieldAddr rfl rfl) rfl ?_
        refine a1 12 (yld rfl rfl) rfl ?_
        first | refine a1 13 (yadd rfl rfl rfl) rfl ?_ | refine a1 13 (y_addw rfl rfl rfl) rfl ?_
        refine a1 14 (y_max rfl rfl rfl) rfl ?_
        refine ae (i := 15) rfl an rfl rfl (eS rfl rfl rfl ?_)
        refine ⟨.inl (by kernel_rfl), ?_⟩
        refine az ?_
        refine blk_n ?_
        refine ⟨rfl, rfl, _, rfl, ?_⟩
        first
        | (have e := lookS_neg1 (co := fl.co) (lo := fl.lo) (day := dayOf p i) (fd := fd1) a13_3
           rw [e]; exact sbA)
        | (have e := lookS_neg2 (lo := fl.lo) (fd := fd1) a13_11
           rw [e]; exact sbA)
        | (have e := lookS_neg3 (lo := fl.lo) (day := dayOf p i) (c := cc) c70
           rw [e]; exact sbA)
    · intro s e A he hA dd
      rw [runs_all] at he
      cases he
      subst hA
      refine blk_n <| thn_n <| W.seq <| W.region rfl ?_
      refine dq rfl ?_
      refine qs rfl rfl rfl <| nn <| W.ret ?_
      refine lvm (hl := At.head) (lvp ?_)
      simp only [lookF, hfe, ← hD, hff]
      rfl
end Go.Mus

/- errors.As, at the package's own error. Conditions: none; over the given program. -/
namespace Go.Mus
set_option maxRecDepth 100000
set_option maxHeartbeats 4000000
open Go.Extern
abbrev xValueOf : Array Value → Sem Value := fun args => ReflectliteValue.unpack (args.getD 0 (.tuple #[]))
abbrev xType : Array Value → Sem Value := ReflectliteValue.methodAny (ReflectliteValue.valueError "reflectlite.Value.Type" 0) fun t _ _ _ => ReflectliteType.toType t
abbrev xIsNil : Array Value → Sem Value := ReflectliteValue.method (ReflectliteValue.valueError "reflectlite.Value.IsNil" 0) ReflectliteValue.isNil
abbrev xElemV : Array Value → Sem Value := ReflectliteValue.method (ReflectliteValue.valueError "reflectlite.Value.Elem" 0) ReflectliteValue.elem
abbrev xKind : Array Value → Sem Value := ReflectliteType.abiMethod fun t => do pure (.int .u8 (← Rtype.kind t))
instance : XF prog n_reflectlite_ValueOf xValueOf := ⟨F_reflectlite_ValueOf, at_reflectlite_ValueOf, by kernel_rfl, by kernel_rfl, by kernel_rfl, by kernel_rfl⟩
instance : XF prog n_reflectlite_Value_Type xType := ⟨F_reflectlite_Value_Type, at_reflectlite_Value_Type, by kernel_rfl, by kernel_rfl, by kernel_rfl, by kernel_rfl⟩
instance : XF prog n_reflectlite_Value_IsNil xIsNil := ⟨F_reflectlite_Value_IsNil, at_reflectlite_Value_IsNil, by kernel_rfl, by kernel_rfl, by kernel_rfl, by kernel_rfl⟩
instance : XF prog n_reflectlite_Value_Elem xElemV := ⟨F_reflectlite_Value_Elem, at_reflectlite_Value_Elem, by kernel_rfl, by kernel_rfl, by kernel_rfl, by kernel_rfl⟩
instance : XF prog n_reflectlite_Value_Set ReflectliteValue.set := ⟨F_reflectlite_Value_Set, at_reflectlite_Value_Set, by kernel_rfl, by kernel_rfl, by kernel_rfl, by kernel_rfl⟩
instance : XF prog n_reflectlite_TypeOf ReflectliteType.typeOf := ⟨F_reflectlite_TypeOf, at_reflectlite_TypeOf, by kernel_rfl, by kernel_rfl, by kernel_rfl, by kernel_rfl⟩
instance : XF prog n_reflectlite_rtype_Elem (ReflectliteType.method ReflectliteType.elem) := ⟨F_reflectlite_rtype_Elem, at_reflectlite_rtype_Elem, by kernel_rfl, by kernel_rfl, by kernel_rfl, by kernel_rfl⟩
instance : XF prog n_reflectlite_rtype_Implements (ReflectliteType.relation "Implements" ReflectliteType.implements_) := ⟨F_reflectlite_rtype_Implements, at_reflectlite_rtype_Implements, by kernel_rfl, by kernel_rfl, by kernel_rfl, by kernel_rfl⟩
instance : XF prog n_reflectlite_rtype_AssignableTo (ReflectliteType.relation "AssignableTo" ReflectliteType.assignableTo) := ⟨F_reflectlite_rtype_AssignableTo, at_reflectlite_rtype_AssignableTo, by kernel_rfl, by kernel_rfl, by kernel_rfl, by kernel_rfl⟩
instance : XF prog n_abi_Type_Kind xKind := ⟨F_abi_Type_Kind, at_abi_Type_Kind, by kernel_rfl, by kernel_rfl, by kernel_rfl, by kernel_rfl⟩

/-- A type, as a value; what is known of a variable. -/
noncomputable abbrev rtV (t : TypeId) : Value := .iface t_reflectlite_rtype (.agg #[typeHandle prog t])
noncomputable abbrev rvV (t : TypeId) (a : Addr) (n : Int) : Value := .agg #[typeHandle prog t, .pointer (some a), .int .u64 n]

theorem tr_unpack {h : Hp} {F : Frag} {t : TypeId} {v : Value} {cs : Array Value} {n : Int} (hc : v.cells = cs) (hm : ∀ a, pev prog (ReflectliteValue.mk t a 0) = some (rvV t a n)) : tr prog h (xValueOf #[.iface t v]) F (fun r F' => ∃ β, r = rvV t ⟨β, 0, none⟩ n ∧ F' = (β, .cells cs t (0, 0)) :: F) := by
 show tr prog h (Sem.bind (newVar t v) fun a => ReflectliteValue.mk t a 0) F _
 simp only [newVar, newRow, bind_eq, pure_eq, bind_assoc, bind_pure, hc]
 exact tr_new fun r _ _ => pev_tr (hm _) ⟨r, rfl, rfl⟩
theorem tr_isNil {h : Hp} {F : Frag} {β b : Nat} {c : Array Value} {E : TypeId} {fz : Nat × Nat} (hl : Look h F β (.cells c E fz)) (hc : c[0]? = some (.pointer (some ⟨b, 0, none⟩))) : tr prog h (xIsNil #[rvV t_p_wrong ⟨β, 0, none⟩ 150]) F (fun r F' => r = .bool false ∧ F' = F) := by
 show tr prog h (Sem.bind (ReflectliteValue.parts (rvV t_p_wrong ⟨β, 0, none⟩ 150)) _) F _
 refine tr_bind (pev_tr (a := some (t_p_wrong, ⟨β, 0, none⟩, 150)) (by kernel_rfl) ?_)
 show tr prog h (Sem.bind (loadVar t_p_wrong ⟨β, 0, none⟩) _) F _
 exact tr_bind (tr_loadVar_sc hl hc ⟨rfl, rfl⟩)
theorem tr_elemV {h : Hp} {F : Frag} {β b : Nat} {c : Array Value} {E : TypeId} {fz : Nat × Nat} (hl : Look h F β (.cells c E fz)) (hc : c[0]? = some (.pointer (some ⟨b, 0, none⟩))) : tr prog h (xElemV #[rvV t_p_wrong ⟨β, 0, none⟩ 150]) F (fun r F' => r = rvV t_wrong ⟨b, 0, none⟩ 409 ∧ F' = F) := by
 show tr prog h (Sem.bind (ReflectliteValue.parts (rvV t_p_wrong ⟨β, 0, none⟩ 150)) _) F _
 refine tr_bind (pev_tr (a := some (t_p_wrong, ⟨β, 0, none⟩, 150)) (by kernel_rfl) ?_)
 show tr prog h (Sem.bind (loadVar t_p_wrong ⟨β, 0, none⟩) fun v => Sem.bind (Rtype.elem? t_p_wrong) fun e => _) F _
 refine tr_bind (tr_loadVar_sc hl hc ?_)
 refine tr_bind (pev_tr (a := some t_wrong) (by kernel_rfl) ?_)
 exact pev_tr (a := rvV t_wrong ⟨b, 0, none⟩ 409) (by kernel_rfl) ⟨rfl, rfl⟩
theorem tr_set {h : Hp} {F : Frag} {b β : Nat} {c vs : Array Value} {E E' : TypeId} {fz : Nat × Nat} {U : Obj → Frag} (hl : At b (.cells c E (0, 0)) F U) (hc : c.size = 2) (hs : Look h F β (.cells vs E' fz)) (hn : vs.size = 2) (h1 : ones vs.toList = true) : tr prog h (ReflectliteValue.set #[rvV t_wrong ⟨b, 0, none⟩ 409, rvV t_wrong ⟨β, 0, none⟩ 153]) F (fun r F' => r = .tuple #[] ∧ F' = U (.cells vs E (0, 0))) := by
 show tr prog h (Sem.bind (ReflectliteValue.parts (rvV t_wrong ⟨b, 0, none⟩ 409)) fun p => Sem.bind (ReflectliteValue.parts (rvV t_wrong ⟨β, 0, none⟩ 153)) fun q => _) F _
 refine tr_bind (pev_tr (a := some (t_wrong, ⟨b, 0, none⟩, 409)) (by kernel_rfl) ?_)
 refine tr_bind (pev_tr (a := some (t_wrong, ⟨β, 0, none⟩, 153)) (by kernel_rfl) ?_)
 show tr prog h (Sem.bind (loadVar t_wrong ⟨β, 0, none⟩) fun val => Sem.bind (Rtype.directlyAssignable t_wrong t_wrong) fun d => _) F _
 refine tr_bind (tr_loadVar_ag (n := 2) hs (by omega) ?_)
 refine tr_bind (pev_tr (a := true) (by kernel_rfl) ?_)
 show tr prog h (Sem.bind (storeVar t_wrong ⟨b, 0, none⟩ _) fun _ => .pure (Value.tuple #[])) F _
 have e : vs.extract 0 (0 + 2) = vs := by apply Array.ext'; simp [← hn]
 have hcs : (Value.agg vs).cells = vs := rfl
 rw [e]
 simp only [storeVar, bind_eq, pure_eq, bind_assoc, bind_pure, trb_sizeOfA, hcs, hn, ne_eq, not_true_eq_false, if_false]
 refine tr_bind (tr_storeCells vs.toList 0 c h1 hl (by simp; omega) ⟨rfl, ?_⟩)
 rw [Nat.add_zero, putAll_all (by simp; omega)]

/-- errors.as, at the package's own error. -/
theorem as_fn (main : Side) (h : Hp) (fd : Fault) (fl : Int) (β b1 : Nat) (c c1 : Array Value) (E1 : TypeId) (z1 : Nat × Nat) (hc : c.size = 2) (h1 : h b1 = some (.cells c1 E1 z1)) (hc1 : c1[0]? = some (.pointer (some ⟨β, 0, none⟩))) :
  Fnc prog main n_errors_as #[.iface t_wrong (.agg #[faultV fd, I fl]), .iface t_p_wrong (.pointer (some ⟨β, 0, none⟩)), rvV t_p_wrong ⟨b1, 0, none⟩ 150, rtV t_wrong] h [(β, .cells c t_wrong (0, 0))] (fun v A => v = .bool true ∧ Sb [(β, .cells #[faultV fd, I fl] t_wrong (0, 0))] A) := by
 have hone := faultV_one fd
 refine Fnc.of_body at_errors_as rfl (by show 4 ≤ 62; decide) [(0, .iface t_wrong (.agg #[faultV fd, I fl])), (1, .iface t_p_wrong (.pointer (some ⟨β, 0, none⟩))), (2, rvV t_p_wrong ⟨b1, 0, none⟩ 150), (3, rtV t_wrong)] ⟨rfl, rfl, rfl, rfl, trivial⟩ ?_
 refine W.seq <| W.region rfl ?_
 refine Ops.box (fun β6 => ?_)
 refine qs rfl rfl rfl <| nn <| W.block ?_
 refine W.loop (σ := Unit) (fun _ => True) (fun _ => [(8, .bool false), (6, .pointer (some ⟨β6, 0, none⟩)), (0, .iface t_wrong (.agg #[faultV fd, I fl])), (1, .iface t_p_wrong (.pointer (some ⟨β, 0, none⟩))), (3, rtV t_wrong)]) (fun _ => [(β6, .cells #[typeHandle prog t_p_wrong, .pointer (some ⟨b1, 0, none⟩), .int .u64 150] t_reflectlite_Value (0, 0)), (β, .cells c t_wrong (0, 0))]) (fun _ => 0) () trivial ⟨rfl, rfl, rfl, rfl, rfl, trivial⟩ .refl ?_
 rintro ⟨⟩ -
 refine W.block <| W.seq <| W.seq <| W.region rfl <| qm rfl rfl rfl ?_
 refine cxp (r := rtV t_wrong) (by kernel_rfl) ?_
 refine qm rfl rfl rfl ?_
 refine cix (f := n_reflectlite_rtype_AssignableTo) (u' := .agg #[typeHandle prog t_wrong]) (r := .bool true) (by kernel_rfl) (by kernel_rfl) ?_
 refine nn ?_
 refine W.condT ?_
 refine W.seq <| W.region rfl ?_
 refine lq rfl ?_
 refine cx (fun h' hE => tr_elemV (.inl (hE.1 _ _ h1)) hc1) (fun v F' hv => ?_)
 obtain ⟨rfl, rfl⟩ := hv
 refine qm rfl rfl rfl ?_
 refine cx (fun h' hE => tr_unpack (n := 153) rfl (fun a => by kernel_rfl)) (fun v F' hv => ?_)
 obtain ⟨β2, rfl, rfl⟩ := hv
 refine cx (fun h' hE => tr_set (b := β) (β := β2) (.tail (.tail .head)) hc (.inr (.head _)) rfl (show (one (faultV fd) && (one (I fl) && true)) = true by rw [hone]; rfl)) (fun v F' hv => ?_)
 obtain ⟨rfl, rfl⟩ := hv
 refine nn <| W.seq <| W.region rfl <| qs rfl rfl rfl <| nn <| W.ret <| thn_r <| blk_r ?_
 refine thn_r <| blk_r ?_
 exact lvt ⟨rfl, sbA⟩

/-- errors.As, at the package's own error, and at none. -/
theorem As_fn (main : Side) (h : Hp) (fd : Fault) (fl : Int) (β : Nat) (c : Array Value) (Eg : TypeId) (zg : Nat × Nat) (hc : c.size = 2) (hg : h 0 = some (.cells #[rtV t_error] Eg zg)) :
  Fnc prog main n_errors_As #[.iface t_wrong (.agg #[faultV fd, I fl]), .iface t_p_wrong (.pointer (some ⟨β, 0, none⟩))] h [(β, .cells c t_wrong (0, 0))] (fun v A => v = .bool true ∧ Sb [(β, .cells #[faultV fd, I fl] t_wrong (0, 0))] A) := by
 refine Fnc.of_body at_errors_As rfl (by show 2 ≤ 42; decide) [(0, .iface t_wrong (.agg #[faultV fd, I fl])), (1, .iface t_p_wrong (.pointer (some ⟨β, 0, none⟩)))] ⟨rfl, rfl, trivial⟩ ?_
 refine W.seq <| W.region rfl <| qs rfl rfl rfl <| nn <| W.seq <| W.seq <| W.region rfl <| qm rfl rfl rfl ?_
 refine o1 (y_nilF rfl rfl) rfl ?_
 refine nn ?_
 refine W.condF ?_
 refine W.skip <| thn_n <| W.seq <| W.seq <| W.region rfl <| qm rfl rfl rfl ?_
 refine o1 (y_nilF rfl rfl) rfl ?_
 refine nn ?_
 refine W.condF ?_
 refine W.skip <| thn_n <| W.seq <| W.region rfl <| qm rfl rfl rfl ?_
 refine cx (fun h' hE => tr_unpack (n := 150) rfl (fun a => by kernel_rfl)) (fun v F' hv => ?_)
 obtain ⟨β1, rfl, rfl⟩ := hv
 refine Ops.new (fun β5 => ?_)
 first | refine Ops.stoW ?_ | refine Ops.stoA ?_
 refine nn <| W.seq <| W.region rfl ?_
 refine lq rfl ?_
 refine cxp (r := rtV t_p_wrong) (by kernel_rfl) ?_
 refine qs rfl rfl rfl <| nn <| W.seq <| W.seq <| W.region rfl <| qm rfl rfl rfl ?_
 refine cix (f := n_abi_Type_Kind) (u' := typeHandle prog t_p_wrong) (r := .int .u8 22) (by kernel_rfl) (by kernel_rfl) ?_
 refine o1 (Yv.eq (y_neq rfl rfl rfl) (show Value.bool (decide ((22 : Int) ≠ 22)) = .bool false from rfl)) rfl ?_
 refine qm rfl rfl rfl ?_
 first | refine oq (yldW rfl rfl) rfl (want_some rfl rfl rfl) rfl rfl ?_ | refine oq (yldA rfl rfl) rfl (want_some rfl rfl rfl) rfl rfl ?_
 refine cx (fun h' hE => tr_isNil (β := β1) (b := β) (.inr (by repeat (first | exact List.Mem.head _ | apply List.Mem.tail))) rfl) (fun v F' hv => ?_)
 obtain ⟨rfl, rfl⟩ := hv
 refine o1 (y_pickF rfl rfl rfl) rfl ?_
 refine nn ?_
 refine W.condF ?_
 refine W.skip <| thn_n <| W.seq <| W.region rfl <| qm rfl rfl rfl ?_
 refine cix (f := n_reflectlite_rtype_Elem) (u' := .agg #[typeHandle prog t_p_wrong]) (r := rtV t_wrong) (by kernel_rfl) (by kernel_rfl) ?_
 refine qs rfl rfl rfl <| nn <| W.seq <| W.seq <| W.region rfl <| qm rfl rfl rfl ?_
 refine cix (f := n_abi_Type_Kind) (u' := typeHandle prog t_wrong) (r := .int .u8 25) (by kernel_rfl) (by kernel_rfl) ?_
 refine o1 (Yv.eq (y_neq rfl rfl rfl) (show Value.bool (decide ((25 : Int) ≠ 20)) = .bool true from rfl)) rfl ?_
 refine qm rfl rfl rfl ?_
 refine oq (y_move rfl rfl) rfl (want_some rfl rfl rfl) rfl rfl ?_
 refine oq (yld rfl rfl (.inl hg) rfl) rfl (want_some rfl rfl rfl) rfl rfl ?_
 refine cix (f := n_reflectlite_rtype_Implements) (u' := .agg #[typeHandle prog t_wrong]) (r := .bool true) (by kernel_rfl) (by kernel_rfl) ?_
 refine oq (y_not rfl rfl) rfl (want_some rfl rfl rfl) rfl rfl ?_
 refine o1 (y_pickT rfl rfl rfl) rfl ?_
 refine nn ?_
 refine W.condF ?_
 refine W.skip <| thn_n <| W.seq <| W.region rfl <| qm rfl rfl rfl <| qm rfl rfl rfl ?_
 refine lq rfl ?_
 refine qm rfl rfl rfl ?_
 refine cg (A := [(β, .cells c t_wrong (0, 0))]) (.tail (.tail .head)) (fun h' hE hL => as_fn _ h' fd fl β β1 c _ _ _ hc (hL β1 _ (by repeat (first | exact List.Mem.head _ | apply List.Mem.tail))) rfl) (fun v A' hv => ?_)
 obtain ⟨rfl, hsb⟩ := hv
 refine qs rfl rfl rfl <| nn <| W.ret ?_
 refine lvt ⟨rfl, ?_⟩
 exact .skip rfl (.skip rfl (hsb.trans (.right .refl .nil)))
theorem AsNil_fn (main : Side) (h : Hp) (tv : Value) : Pu prog main n_errors_As #[.nilIface, tv] h (.bool false) := by
 refine Fnc.of_body at_errors_As rfl (by show 2 ≤ 42; decide) [(0, .nilIface), (1, tv)] ⟨rfl, rfl, trivial⟩ ?_
 refine W.seq <| W.region rfl <| qs rfl rfl rfl <| nn <| W.seq <| W.seq <| W.region rfl <| qm rfl rfl rfl ?_
 refine o1 (y_nilT rfl rfl) rfl ?_
 refine nn ?_
 refine W.condT ?_
 refine W.seq <| W.region rfl <| qs rfl rfl rfl <| nn <| W.ret <| thn_r ?_
 exact lvp rfl
end Go.Mus

/- The first fault of a plan. Conditions: none; over the given program. -/
namespace Go.Mus
set_option maxRecDepth 100000
set_option maxHeartbeats 4000000
instance : NI prog t_p_wrong := ⟨by kernel_rfl⟩
instance : NI prog t_wrong := ⟨by kernel_rfl⟩
def errV : Err → Value
 | none => .nilIface
 | some (q, f) => .iface t_wrong (.agg #[faultV (some q), I f])
theorem An.fault {main : Side} {fn : FuncId} {m : Nat} {ro : Option Nat} {h : Hp} {ρ : Env} {F : Frag} {o : Oper} {y : Operand} {c : Bool} {n : Int} {ts : Array TypeId} (ho : o.op = .call ⟨.invoke y "muscovado/floor.day", #[], ts⟩) (hy : ev ρ y = some (faultV (some (c, n)))) : An ⟨prog, main, fn, m, ro, h⟩ ρ o F (I n) := by
 cases c with
 | true => exact An.oi (args := []) (vs := []) ho hy rfl (fun h' _ _ => coldDay_fn _ h' n)
 | false => exact An.oi (args := []) (vs := []) ho hy rfl (fun h' _ _ => fullDay_fn _ h' n)
theorem y_nerrB {x : Cx} {ρ : Env} {S : Frag → Prop} {o : Oper} {t t' : TypeId} {ms : Array (String × TypeId)} {y : Operand} {e : Err} (ho : o.op = .binOp .neq t y (.const .nilIface) t') [TD x.P t (.interface ms)] (hy : ev ρ y = some (errV e)) : Yv x S ρ o (.bool e.isSome) := by
 rcases e with _ | ⟨q, f⟩
 ·exact y_nnilF ho hy
 ·exact y_nnilT ho hy

theorem inspect_fn (main : Side) (h : Hp) (fs : List Fl) (ss : List St) (p : List Be) (vf vs : Value) (Eg : TypeId) (zg : Nat × Nat) (hf : Sl h Fl.row vf fs) (hs : Sl h St.row vs ss) (hall : HallOK fs ss) (hp : PlanOf fs ss p) (hg : h 0 = some (.cells #[rtV t_error] Eg zg)) : Pu prog main n_floor_hall_inspect #[.agg #[vf, vs], planV p] h (errV (inspF fs ss p)) := by
 obtain ⟨a, cap, rfl⟩ := hf.isSl
 obtain ⟨a', cap', rfl⟩ := hs.isSl
 have hsz := plan_sz hp.ok
 have hn2 := hall.nf
 refine Fnc.of_body at_floor_hall_inspect rfl (by show 2 ≤ 40; decide) [(0, .agg #[.slice a fs.length cap, .slice a' ss.length cap']), (1, planV p)] ⟨rfl, rfl, trivial⟩ ?_
 refine W.seq <| W.region rfl ?_
 refine Ops.box (fun β2 => ?_)
 refine Ops.box (fun β3 => ?_)
 refine qs rfl rfl rfl <| nn <| W.seq <| W.region rfl <| qs rfl rfl rfl <| nn <| W.seq <| W.seq ?_
 refine W.region rfl ?_
 refine fq rfl ?_
 refine fq rfl ?_
 refine dq rfl ?_
 refine o1 (y_len rfl rfl) rfl ?_
 refine qm rfl rfl rfl <| nn <| W.block ?_
 refine W.loop (σ := Nat) (fun k => k ≤ fs.length) (fun k => [(13, I k), (12, I fs.length), (5, errV (inspN fs ss p k)), (3, .pointer (some ⟨β3, 0, none⟩)), (2, .pointer (some ⟨β2, 0, none⟩))]) (fun _ => [(β3, .cells (flat Be.row p).toArray t_plan (0, 0)), (β2, .cells #[.slice a fs.length cap, .slice a' ss.length cap'] t_hall (0, 0))]) (fun k => fs.length - k) 0 (Nat.zero_le _) ⟨rfl, rfl, rfl, rfl, rfl, trivial⟩ sbA ?_
 intro k hk
 refine W.seq <| W.region rfl ?_
 refine o1 (y_lss rfl rfl rfl) rfl ?_
 refine nn <| W.seq ?_
 refine W.condp rfl (fun c14 => ?_) (fun c14 => ?_)
 ·refine W.skip <| thn_n <| W.seq <| W.block <| W.seq <| W.region rfl <| qm rfl rfl rfl <| qs rfl rfl rfl <| nn ?_
  refine W.seq <| W.region rfl ?_
  refine lq rfl ?_
  refine lq rfl ?_
  refine qm rfl rfl rfl ?_
  refine cp (fun h' hE hL => look_fn _ h' fs ss p k _ _ (hf.ext hE) (hs.ext hE) hall hp (by omega) (by omega)) ?_
  obtain ⟨q, hq⟩ : ∃ q, lookF fs ss p k = q := ⟨_, rfl⟩
  rw [hq]
  refine qs rfl rfl rfl <| nn <| W.seq <| W.seq <| W.region rfl <| qm rfl rfl rfl ?_
  refine o1 (y_nilB rfl rfl) rfl ?_
  refine nn ?_
  refine W.cond rfl (fun c21 => ?_) (fun c21 => ?_)
  ·refine W.exit <| thn_x <| blk_x <| thn_n <| W.region rfl ?_
   refine pq rfl ?_
   refine qm rfl rfl rfl <| nn ?_
   have e : inspN fs ss p (k + 1) = inspN fs ss p k := by
    cases q with
    | none => simp only [inspN, hq, inspS]
    | some z => cases c21
   refine ⟨rfl, k + 1, by omega, by omega, ⟨rfl, rfl, ?_, rfl, rfl, trivial⟩, sbA⟩
   rw [e]; rfl
  ·obtain ⟨⟨cc, n⟩, rfl⟩ : ∃ z, q = some z := by
    cases q with
    | none => simp at c21
    | some z => exact ⟨z, rfl⟩
   refine W.skip <| thn_n <| W.seq <| W.region rfl ?_
   refine Ops.new (fun β8 => ?_)
   refine nn <| W.seq ?_
   obtain ⟨acc, hacc⟩ : ∃ acc, inspN fs ss p k = acc := ⟨_, rfl⟩
   rw [hacc]
   refine W.mono (Q := fun e ρ' ds' F' => e = .normal ∧ ds' = [] ∧ Sub [(33, .bool (inspB acc n)), (7, faultV (some (cc, n))), (6, I k), (13, I k), (12, I fs.length), (5, errV acc), (3, .pointer (some ⟨β3, 0, none⟩)), (2, .pointer (some ⟨β2, 0, none⟩))] ρ' ∧ Sb [(β3, .cells (flat Be.row p).toArray t_plan (0, 0)), (β2, .cells #[.slice a fs.length cap, .slice a' ss.length cap'] t_hall (0, 0))] F') ?_ ?_
   ·refine W.drawL [] (n := 12) rfl ?_
    rcases acc with _ | ⟨⟨c0, n0⟩, f0⟩
    ·refine a1 0 (y_move rfl rfl) rfl ?_
     refine a1 1 (yfcN rfl rfl) rfl ?_
     refine acp (i := 2) (fun h' hE hL => AsNil_fn _ h' _) ?_
     refine a1 3 (y_not rfl rfl) rfl ?_
     refine a1 4 (y_move rfl rfl) rfl ?_
     refine ap (i := 5) rfl rfl rfl rfl rfl rfl ?_
     refine ap (i := 6) rfl rfl rfl rfl rfl rfl ?_
     refine ap (i := 7) rfl rfl rfl rfl rfl rfl ?_
     refine ap (i := 8) rfl rfl rfl rfl rfl rfl ?_
     refine ap (i := 9) rfl rfl rfl rfl rfl rfl ?_
     refine ap (i := 10) rfl rfl rfl rfl rfl rfl ?_
     refine a1 11 (y_pickT rfl rfl rfl) rfl ?_
     refine az ?_
     exact ⟨rfl, rfl, ⟨rfl, rfl, rfl, rfl, rfl, rfl, rfl, rfl, trivial⟩, sbA⟩
    ·refine a1 0 (y_move rfl rfl) rfl ?_
     refine a1 1 (yfcN rfl rfl) rfl ?_
     refine ae (i := 2) rfl an rfl rfl (e_call (f := n_errors_As) (args := [_, _]) (A := [(β8, _)]) rfl rfl .head (fun h' hE hL => As_fn _ h' (some (c0, n0)) f0 β8 _ Eg zg rfl (hE.1 _ _ hg)) (fun v A' hv => ?_))
     obtain ⟨rfl, hsb⟩ := hv
     refine ⟨.inr (fun _ h => absurd h List.not_mem_nil), Any.sb (hsb.app .refl) ?_⟩
     refine a1 3 (y_not rfl rfl) rfl ?_
     refine a1 4 (y_move rfl rfl) rfl ?_
     refine aq (i := 5) (y_move rfl rfl) rfl (wantε_some rfl rfl rfl rfl) rfl rfl ?_
     refine aq (i := 7) (y_fieldAddr rfl rfl) rfl (wantε_some rfl rfl rfl rfl) rfl rfl ?_
     refine a2g (i := 6) (j := 8) rfl rfl (An.fault rfl rfl) (An.fault rfl rfl) (An.oy (yld rfl rfl)) (An.oy (yld rfl rfl)) (wantε_some rfl rfl rfl rfl) (wantε_some rfl rfl rfl rfl) (wantε_some rfl rfl rfl rfl) (wantε_some rfl rfl rfl rfl) rfl rfl rfl rfl ?_
     refine acday (i := 9) ?_ (.inr (fun _ h => absurd h List.not_mem_nil))
     refine aq (i := 10) (y_lss rfl rfl rfl) rfl (wantε_some rfl rfl rfl rfl) rfl rfl ?_
     refine a1 11 (y_pickF rfl rfl rfl) rfl ?_
     refine az ?_
     exact ⟨rfl, rfl, ⟨rfl, rfl, rfl, rfl, rfl, rfl, rfl, rfl, trivial⟩, sbA⟩
   rintro e ρ' ds' F' ⟨rfl, rfl, hE, hD⟩
   refine thn_n (W.env hE (W.sb hD ?_))
   refine W.cond rfl (fun c33 => ?_) (fun c33 => ?_)
   ·refine W.region rfl <| qm rfl rfl rfl <| qm rfl rfl rfl ?_
    refine o1 (y_build (cs := #[faultV (some (cc, n)), I k]) rfl rfl (by cases cc <;> rfl)) rfl ?_
    first | refine o1 (yfcN rfl rfl) rfl ?_ | refine o1 (yfc rfl rfl) rfl ?_
    refine qs rfl rfl rfl <| Ops.nil <| blk_n <| thn_n <| W.region rfl ?_
    refine pq rfl ?_
    refine qm rfl rfl rfl <| nn ?_
    have e : inspN fs ss p (k + 1) = some ((cc, n), (k : Int)) := by simp only [inspN, hacc, hq, inspS]; rw [if_pos c33]
    refine ⟨rfl, k + 1, by omega, by omega, ⟨rfl, rfl, ?_, rfl, rfl, trivial⟩, sbA⟩
    rw [e]; rfl
   ·refine W.skip <| blk_n <| thn_n <| W.region rfl ?_
    refine pq rfl ?_
    refine qm rfl rfl rfl <| nn ?_
    have e : inspN fs ss p (k + 1) = acc := by simp only [inspN, hacc, hq, inspS]; rw [if_neg (by rw [c33]; exact Bool.false_ne_true)]
    refine ⟨rfl, k + 1, by omega, by omega, ⟨rfl, rfl, ?_, rfl, rfl, trivial⟩, sbA⟩
    rw [e]; rfl
 ·refine W.exit <| thn_x <| thn_x <| blk_x <| thn_n <| W.seq <| W.region rfl <| qm rfl rfl rfl <| qs rfl rfl rfl <| Ops.nil ?_
  refine thn_n <| W.ret ?_
  refine lvp ?_
  rw [inspF, show fs.length = k by omega]; rfl
end Go.Mus

/- A strike is set while something is done. Conditions: none; over the given program. -/
namespace Go.Mus
set_option maxRecDepth 100000
set_option maxHeartbeats 4000000
theorem flat_plan_put {p : List Be} {k : Nat} {b : Be} (hk : k < p.length) : putAll (flat Be.row p).toArray (0 + k * 2) [I b.fl, I b.day] = (flat Be.row (p.set k b)).toArray := by
 induction p generalizing k with
 | nil => simp at hk
 | cons a p ih =>
  cases k with
  | zero => simp [flat_cons, Be.row, putAll]
  | succ k =>
   have := ih (k := k) (by simpa using hk)
   simp only [List.set_cons_succ, flat_cons]
   apply Array.ext'
   have h2 := congrArg Array.toList this
   simp only [putAll, Array.toList_setIfInBounds, Nat.zero_add] at h2 ⊢
   have e1 : (k + 1) * 2 = k * 2 + 2 := by omega
   rw [e1, ← h2]
   simp [Be.row]

/-- The strike is set back. -/
theorem withBack_fn (main : Side) (h : Hp) (p : List Be) (k : Nat) (b : Be) (bp b11 b6 b7 : Nat) (E1 E6 E7 : TypeId) (z1 z6 z7 : Nat × Nat) (hk : k < 4) (hp : p.length = 4)
  (h1 : h b11 = some (.cells #[I b.fl, I b.day] E1 z1)) (h6 : h b6 = some (.cells #[.pointer (some ⟨bp, 0, none⟩)] E6 z6)) (h7 : h b7 = some (.cells #[I k] E7 z7)) :
  FnD prog main n_floor_search_with_1 #[.pointer (some ⟨b11, 0, none⟩), .pointer (some ⟨b6, 0, none⟩), .pointer (some ⟨b7, 0, none⟩)] h [(bp, .cells (flat Be.row p).toArray t_plan (0, 0))] (fun A => A = [(bp, .cells (flat Be.row (p.set k b)).toArray t_plan (0, 0))]) := by
 have hsz : (flat Be.row p).toArray.size = 8 := by simp [flat_len, hp]
 have hex : #[I b.fl, I b.day].extract 0 (0 + 2) = #[I b.fl, I b.day] := rfl
 refine FnD.of_body at_floor_search_with_1 rfl (by show 3 ≤ 8; decide) [(0, .pointer (some ⟨b11, 0, none⟩)), (1, .pointer (some ⟨b6, 0, none⟩)), (2, .pointer (some ⟨b7, 0, none⟩))] ⟨rfl, rfl, rfl, trivial⟩ ?_
 refine W.drawL [] (n := 6) rfl ?_
 refine a1 0 (yld rfl rfl) rfl ?_
 refine a1 1 (yld rfl rfl) rfl ?_
 first | refine a1 2 (yldW rfl rfl) rfl ?_ | refine a1 2 (yldA rfl rfl) rfl ?_
 first | refine a1 3 (y_nilCheck rfl rfl) rfl ?_ | refine a1 3 (y_nilCheckF rfl rfl) rfl ?_
 first | refine a1 4 (yixA rfl rfl rfl) rfl ?_ | refine a1 4 (yixAI rfl rfl rfl) rfl ?_
 first | refine ae (i := 5) rfl an rfl rfl (eSW rfl rfl rfl ?_) | refine ae (i := 5) rfl an rfl rfl (eSA rfl rfl rfl ?_)
 refine ⟨.inl (by kernel_rfl), ?_⟩
 refine az ?_
 rw [flat_plan_put (by omega)]
 exact lvt rfl

/-- The search's value. -/
abbrev srchV (vf vs mv : Value) : Value := .agg #[vf, vs, mv]

/-- 'with': what 'do' does to what is owned, the strike being set meanwhile. -/
theorem with_fn (main : Side) (h : Hp) (fs : List Fl) (ss : List St) (p : List Be) (k : Nat) (b : Be) (vf vs mv dov : Value) (bp : Nat) (A : Frag) (hm1 : one mv = true) (hf : Sl h Fl.row vf fs) (hs : Sl h St.row vs ss) (hall : HallOK fs ss) (hp : PlanOf fs ss p) (hk : k < ss.length)
  (hb : -1 ≤ b.fl ∧ b.fl ≤ 1 ∧ b.fl < fs.length ∧ 0 ≤ b.day ∧ b.day ≤ 17) (P : Value → Frag → Prop) (hprune : prune fs ss (p.set k b) b = true → P (.bool true) A)
  (hdo : prune fs ss (p.set k b) b = false → ∀ h', Ext h h' → CallV prog main dov [] h' (A ++ [(bp, .cells (flat Be.row (p.set k b)).toArray t_plan (0, 0))]) (fun v A1 => ∃ r, v = .bool r ∧ ∃ B, P (.bool r) B ∧ Sb (B ++ [(bp, .cells (flat Be.row (p.set k b)).toArray t_plan (0, 0))]) A1)) :
  Fnc prog main n_floor_search_with #[srchV vf vs mv, .pointer (some ⟨bp, 0, none⟩), I k, b.val, dov] h (A ++ [(bp, .cells (flat Be.row p).toArray t_plan (0, 0))]) (fun v A' => ∃ B, P v B ∧ Sb (B ++ [(bp, .cells (flat Be.row p).toArray t_plan (0, 0))]) A') := by
 obtain ⟨a, cap, rfl⟩ := hf.isSl
 obtain ⟨a', cap', rfl⟩ := hs.isSl
 have hlen := hp.ok.len
 have hk4 : k < 4 := by have := hall.ns; omega
 have hsz := plan_sz hp.ok
 have hp' := plan_set hp hk hb
 have hsz' := plan_sz hp'.ok
 have hold : (flat Be.row p).toArray.extract (0 + k * 2) (0 + k * 2 + 2) = #[I (beAt p k).fl, I (beAt p k).day] := by rw [Nat.zero_add]; exact plan_ex hp.ok hk4
 have hback : (p.set k b).set k (beAt p k) = p := by
  rw [List.set_set]
  apply List.ext_getElem?
  intro j
  rw [List.getElem?_set]
  split
  ·rename_i e; subst e
   have := (beAt_some hp.ok hk4).1
   rw [this]; simp [hlen, hk4]
  ·rfl
 refine Fnc.perm (A := (bp, .cells (flat Be.row p).toArray t_plan (0, 0)) :: A) (List.perm_append_comm (l₁ := [_])) ?_
 refine Fnc.of_body at_floor_search_with rfl (by show 5 ≤ 54; decide) [(0, srchV (.slice a fs.length cap) (.slice a' ss.length cap') mv), (1, .pointer (some ⟨bp, 0, none⟩)), (2, I k), (3, b.val), (4, dov)] ⟨rfl, rfl, rfl, rfl, rfl, trivial⟩ ?_
 refine W.seq <| W.region rfl ?_
 refine Ops.box (fun β5 => ?_)
 refine Ops.box (fun β6 => ?_)
 refine Ops.box (fun β7 => ?_)
 refine Ops.box (fun β8 => ?_)
 refine qs rfl rfl rfl <| nn <| W.seq ?_
 refine W.drawF (n := 7) rfl ?_
 refine a1 0 (yld rfl rfl) rfl ?_
 refine a1 1 (yld rfl rfl) rfl ?_
 first | refine a1 2 (y_nilCheck rfl rfl) rfl ?_ | refine a1 2 (y_nilCheckF rfl rfl) rfl ?_
 first | refine a1 3 (yixA rfl rfl rfl) rfl ?_ | refine a1 3 (yixAI rfl rfl rfl) rfl ?_
 first | refine a1 4 (yldW rfl rfl) rfl ?_ | refine a1 4 (yldA rfl rfl) rfl ?_
 refine ae (i := 5) rfl an rfl rfl (eN rfl (fun β11 => ?_))
 refine ⟨.inr (by first | exact Keeps.refl | exact Keeps.nil | ((repeat (first | exact fun _ h => h | apply Keeps.cons | apply Keeps.app)) <;> fail) | (repeat (first | exact Keeps.nil | refine Keeps.one (by repeat (first | exact List.Mem.head _ | apply List.Mem.tail)) ?_))), ?_⟩
 first | refine ae (i := 6) rfl an rfl rfl (eSW rfl rfl rfl ?_) | refine ae (i := 6) rfl an rfl rfl (eSA rfl rfl rfl ?_)
 refine ⟨.inl (by kernel_rfl), ?_⟩
 refine az ?_
 refine thn_n <| W.seq ?_
 refine W.drawL [(β8, .cells #[I b.fl, I b.day] t_Berth (0, 0)), (β7, .cells #[I k] t_int (0, 0)), (β6, .cells #[.pointer (some ⟨bp, 0, none⟩)] t_p_plan (0, 0))] (n := 6) rfl ?_
 refine a1 0 (yld rfl rfl) rfl ?_
 refine a1 1 (yld rfl rfl) rfl ?_
 first | refine a1 2 (yldW rfl rfl) rfl ?_ | refine a1 2 (yldA rfl rfl) rfl ?_
 first | refine a1 3 (y_nilCheck rfl rfl) rfl ?_ | refine a1 3 (y_nilCheckF rfl rfl) rfl ?_
 first | refine a1 4 (yixA rfl rfl rfl) rfl ?_ | refine a1 4 (yixAI rfl rfl rfl) rfl ?_
 first | refine ae (i := 5) rfl an rfl rfl (eSW rfl rfl rfl ?_) | refine ae (i := 5) rfl an rfl rfl (eSA rfl rfl rfl ?_)
 refine ⟨.inl (by kernel_rfl), ?_⟩
 refine az ?_
 refine thn_n <| W.seq ?_
 rw [flat_plan_put (by omega)]
 refine W.region rfl ?_
 refine o1 (y_func rfl rfl rfl) rfl ?_
 refine Ops.defer (d := { target := .fn (.func n_floor_search_with_1) #[.pointer (some ⟨β11, 0, none⟩), .pointer (some ⟨β6, 0, none⟩), .pointer (some ⟨β7, 0, none⟩)], args := #[] }) rfl (nthO_get rfl) rfl wn rfl (fun e he => ?_) ?_
 ·have e3 : e (.tmp 24) = .func (.func n_floor_search_with_1) #[] #[.pointer (some ⟨β11, 0, none⟩), .pointer (some ⟨β6, 0, none⟩), .pointer (some ⟨β7, 0, none⟩)] := he _ _ rfl
  simp [resolve, Deferred.ofValue, e3, pure_eq]
 refine nn <| W.seq <| W.seq <| W.region rfl ?_
 refine fq rfl ?_
 refine dq rfl ?_
 refine o1 (y_geq rfl rfl rfl) rfl ?_
 refine nn ?_
 refine W.condp rfl (fun c27 => ?_) (fun c27 => ?_)
 ·obtain ⟨fl, hfl, -⟩ := has (show b.fl.toNat < fs.length by omega)
  have hfe : flAt fs b.fl = fl := by simp [flAt, List.getD, hfl]
  obtain ⟨b0, off, c, E, fz, rfl, hb0, hx, hy, hz⟩ := hf.at hfl
  have hz0 : c[off + b.fl.toNat * 4 + 0]? = some (I fl.pl) := hz 0 (by decide)
  have hfllt : b.fl < fs.length := hb.2.2.1
  refine W.seq ?_
  refine W.drawF (n := 9) rfl ?_
  refine a1 0 (y_fieldAddr rfl rfl) rfl ?_
  refine a1 1 (yldA (vs := #[.slice (some ⟨b0, off, none⟩) fs.length cap, .slice a' ss.length cap']) rfl rfl (hn := by show 0 + 2 ≤ 3; decide) (hv := by rfl)) rfl ?_
  refine a1 2 (yld rfl rfl) rfl ?_
  first | refine a1 3 (y_nilCheck rfl rfl) rfl ?_ | refine a1 3 (y_nilCheckF rfl rfl) rfl ?_
  first | refine a1 4 (yldW rfl rfl) rfl ?_ | refine a1 4 (yldA rfl rfl) rfl ?_
  refine a1 5 (y_fieldAddr rfl rfl) rfl ?_
  refine a1 6 (yld rfl rfl) rfl ?_
  refine a1 8 (y_move rfl rfl) rfl ?_
  refine acp (i := 7) (fun h' hE hL => stands_fn _ h' fs ss (p.set k b) b.fl _ _ (hf.ext hE) (hs.ext hE) hall hp' c27 hb.2.2.1) ?_
  refine az ?_
  refine thn_n <| W.block ?_
  obtain ⟨D, hD⟩ : ∃ D, standsD fs ss (p.set k b) b.fl = D := ⟨_, rfl⟩
  have hDl : D.length = 22 := by rw [← hD]; exact standsD_len
  have hDs := days_sz hDl
  rw [hD]
  have hpr : prune fs ss (p.set k b) b = over fl.pl D := by simp only [prune]; rw [if_pos c27, hfe, hD]
  refine W.loop (σ := Nat) (fun j => j ≤ 22 ∧ ∀ i, i < j → ∀ s, D[i]? = some s → ¬ fl.pl < s.hi) (fun j => [(36, I j), (35, daysV D), (5, .pointer (some ⟨β5, 0, none⟩)), (8, .pointer (some ⟨β8, 0, none⟩)), (4, dov)]) (fun _ => (β11, .cells #[I (beAt p k).fl, I (beAt p k).day] t_Berth (0, 0)) :: (β8, .cells #[I b.fl, I b.day] t_Berth (0, 0)) :: (β7, .cells #[I k] t_int (0, 0)) :: (β6, .cells #[.pointer (some ⟨bp, 0, none⟩)] t_p_plan (0, 0)) :: (β5, .cells #[.slice (some ⟨b0, off, none⟩) fs.length cap, .slice a' ss.length cap', mv] t_search (0, 0)) ::  (bp, .cells (flat Be.row (p.set k b)).toArray t_plan (0, 0)) :: A) (fun j => 22 - j) 0 ⟨Nat.zero_le _, fun i hi => absurd hi (Nat.not_lt_zero _)⟩ ⟨rfl, rfl, rfl, rfl, rfl, trivial⟩ .refl ?_
  rintro j ⟨hj, hn⟩
  refine W.seq <| W.region rfl ?_
  refine o1 (y_lss rfl rfl rfl) rfl ?_
  refine nn <| W.seq ?_
  refine W.condp rfl (fun c37 => ?_) (fun c37 => ?_)
  ·obtain ⟨s, hsk, hdr⟩ := has (show j < D.length by omega)
   have hex : (flat Sp.row D).toArray.extract ((j : Int).toNat * 2) ((j : Int).toNat * 2 + 2) = #[I s.lo, I s.hi] := days_ex hsk
   refine W.skip <| thn_n <| W.seq <| W.block <| W.seq <| W.region rfl ?_
   first | refine o1 (y_index rfl rfl rfl (by omega) (by omega) (by first | assumption | rfl)) rfl ?_ | refine o1 (y_indexA rfl rfl rfl (by omega) (by omega) (by first | assumption | rfl)) rfl ?_
   refine Ops.new (fun β13 => ?_)
   first | refine Ops.stoW ?_ | refine Ops.stoA ?_
   refine nn <| W.seq ?_
   refine W.drawF (n := 12) rfl ?_
   refine a1 0 (y_fieldAddr rfl rfl) rfl ?_
   refine a1 1 (yld rfl rfl) rfl ?_
   refine a1 2 (y_fieldAddr rfl rfl) rfl ?_
   refine a1 3 (y_fieldAddr rfl rfl) rfl ?_
   refine a1 4 (y_fieldAddr rfl rfl) rfl ?_
   refine a1 5 (yld rfl rfl) rfl ?_
   refine a1 6 (y_fieldAddr rfl rfl) rfl ?_
   refine a1 7 (yld rfl rfl) rfl ?_
   first | refine a1 8 (yix rfl rfl rfl) rfl ?_ | refine a1 8 (yixI rfl rfl rfl) rfl ?_
   refine a1 9 (y_fieldAddr rfl rfl) rfl ?_
   refine a1 10 (yld rfl rfl) rfl ?_
   refine a1 11 (y_gtr rfl rfl rfl) rfl ?_
   refine az ?_
   refine thn_n ?_
   refine W.condp rfl (fun c50 => ?_) (fun c50 => ?_)
   ·refine W.seq <| W.region rfl <| qs rfl rfl rfl <| nn <| W.ret <| blk_r <| thn_r <| thn_r <| blk_r ?_
    refine thn_r ?_
    have hpt : prune fs ss (p.set k b) b = true := by rw [hpr, over_drop hn, hdr]; simp only [over]; rw [if_pos c50]
    refine leave_fn (A := [(bp, .cells (flat Be.row (p.set k b)).toArray t_plan (0, 0))]) (.tail (.tail (.tail (.tail (.tail (.tail .head)))))) (fun h' hE hL => withBack_fn _ h' (p.set k b) k (beAt p k) bp β11 β6 β7 _ _ _ _ _ _ hk4 hp'.ok.len (hL _ _ (.tail _ (.head _))) (hL _ _ (.tail _ (.tail _ (.tail _ (.tail _ (.head _)))))) (hL _ _ (.tail _ (.tail _ (.tail _ (.head _)))))) (fun A' hA' => ?_)
    subst hA'
    rw [hback]
    refine lvt (vs := [.bool true]) ⟨A, hprune hpt, ?_⟩
    refine (Sb.of_perm List.perm_append_comm).trans ?_
    exact .cons (.skip rfl (.skip rfl (.skip rfl (.skip rfl (.skip rfl (.skip rfl .refl))))))
   ·refine W.skip <| blk_n <| thn_n <| W.region rfl ?_
    refine pq rfl ?_
    refine qm rfl rfl rfl <| nn ?_
    refine ⟨rfl, j + 1, ⟨by omega, fun i hi s' hs' => ?_⟩, by omega, ⟨rfl, rfl, rfl, rfl, rfl, trivial⟩, .skip rfl .refl⟩
    rcases (by omega : i < j ∨ i = j) with hi | rfl
    ·exact hn i hi s' hs'
    ·rw [hsk] at hs'; cases hs'; exact c50
  ·refine W.exit <| thn_x <| thn_x <| blk_x <| thn_n <| W.seq ?_
   have hpf : prune fs ss (p.set k b) b = false := by
    first
    | (rw [hpr, over_drop hn, show j = D.length by omega]; simp [over])
    | (simp only [prune]; rw [if_neg c27])
   refine W.region rfl <| qm rfl rfl rfl ?_
   refine Ops.perm (F' := (A ++ [(bp, .cells (flat Be.row (p.set k b)).toArray t_plan (0, 0))]) ++ _) (List.perm_append_comm.trans ((List.perm_append_comm (l₁ := A) (l₂ := [_])).append_left [_, _, _, _, _])) ?_
   refine cgv .head (fun h' hE hL => hdo hpf h' hE) (fun v A1 hv => ?_)
   obtain ⟨r, rfl, B, hPB, hsb⟩ := hv
   refine Ops.sb (F' := [(bp, .cells (flat Be.row (p.set k b)).toArray t_plan (0, 0))] ++ (B ++ _)) (((Sb.of_perm List.perm_append_comm).trans hsb).app .refl |> Sb.trans (.of_perm (by rw [List.append_assoc]))) ?_
   refine qs rfl rfl rfl <| nn <| W.ret ?_
   refine leave_fn (A := [(bp, .cells (flat Be.row (p.set k b)).toArray t_plan (0, 0))]) .head (fun h' hE hL => withBack_fn _ h' (p.set k b) k (beAt p k) bp β11 β6 β7 _ _ _ _ _ _ hk4 hp'.ok.len (hL _ _ (List.mem_append_right [] (List.mem_append_right _ (by repeat (first | exact List.Mem.head _ | apply List.Mem.tail))))) (hL _ _ (List.mem_append_right [] (List.mem_append_right _ (by repeat (first | exact List.Mem.head _ | apply List.Mem.tail))))) (hL _ _ (List.mem_append_right [] (List.mem_append_right _ (by repeat (first | exact List.Mem.head _ | apply List.Mem.tail)))))) (fun A' hA' => ?_)
   subst hA'
   rw [hback]
   refine lvt (vs := [.bool r]) ⟨B, hPB, ?_⟩
   refine (Sb.of_perm List.perm_append_comm).trans (.app .refl ?_)
   exact (show Sb B (B ++ [_, _, _, _, _]) from .right .refl (.cons rfl (.cons rfl (.cons rfl (.cons rfl (.cons rfl .nil))))))
 ·refine W.skip <| thn_n <| W.seq ?_
  have hpf : prune fs ss (p.set k b) b = false := by
   first
   | (rw [hpr, over_drop hn, show j = D.length by omega]; simp [over])
   | (simp only [prune]; rw [if_neg c27])
  refine W.region rfl <| qm rfl rfl rfl ?_
  refine Ops.perm (F' := (A ++ [(bp, .cells (flat Be.row (p.set k b)).toArray t_plan (0, 0))]) ++ _) (List.perm_append_comm.trans ((List.perm_append_comm (l₁ := A) (l₂ := [_])).append_left [_, _, _, _, _])) ?_
  refine cgv .head (fun h' hE hL => hdo hpf h' hE) (fun v A1 hv => ?_)
  obtain ⟨r, rfl, B, hPB, hsb⟩ := hv
  refine Ops.sb (F' := [(bp, .cells (flat Be.row (p.set k b)).toArray t_plan (0, 0))] ++ (B ++ _)) (((Sb.of_perm List.perm_append_comm).trans hsb).app .refl |> Sb.trans (.of_perm (by rw [List.append_assoc]))) ?_
  refine qs rfl rfl rfl <| nn <| W.ret ?_
  refine leave_fn (A := [(bp, .cells (flat Be.row (p.set k b)).toArray t_plan (0, 0))]) .head (fun h' hE hL => withBack_fn _ h' (p.set k b) k (beAt p k) bp β11 β6 β7 _ _ _ _ _ _ hk4 hp'.ok.len (hL _ _ (List.mem_append_right [] (List.mem_append_right _ (by repeat (first | exact List.Mem.head _ | apply List.Mem.tail))))) (hL _ _ (List.mem_append_right [] (List.mem_append_right _ (by repeat (first | exact List.Mem.head _ | apply List.Mem.tail))))) (hL _ _ (List.mem_append_right [] (List.mem_append_right _ (by repeat (first | exact List.Mem.head _ | apply List.Mem.tail)))))) (fun A' hA' => ?_)
  subst hA'
  rw [hback]
  refine lvt (vs := [.bool r]) ⟨B, hPB, ?_⟩
  refine (Sb.of_perm List.perm_append_comm).trans (.app .refl ?_)
  exact (show Sb B (B ++ [_, _, _, _, _]) from .right .refl (.cons rfl (.cons rfl (.cons rfl (.cons rfl (.cons rfl .nil))))))
end Go.Mus
