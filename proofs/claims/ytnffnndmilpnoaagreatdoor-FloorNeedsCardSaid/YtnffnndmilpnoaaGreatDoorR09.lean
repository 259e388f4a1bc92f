/- All right plans, looked for at the same time. Conditions: none; over the given program. (And 8 texts more.) -/
import Derived.Test.YtnffnndmilpnoaaGreatDoorR08
import Derived.Test.YtnffnndmilpnoaaGreatDoorR06
set_option linter.unusedVariables false
set_option linter.unusedSimpArgs false
set_option linter.unusedSectionVars false

/- All right plans, looked for at the same time. Conditions: none; over the given program. -/
namespace Go.Mus
set_option maxRecDepth 100000
set_option maxHeartbeats 4000000
def contB (fs : List Fl) (ss : List St) (may : May) (b : Be) : List Value := (rightsOf fs ss may [b]).map planV
def allF (fs : List Fl) (ss : List St) (may : May) : List (List Be) := if ss.length = 0 then rightsOf fs ss may [] else (berthsK fs ss may 0).flatMap fun b => rightsOf fs ss may [b]
theorem pad_one {b : Be} : padB [b] = (padB []).set 0 b := rfl
theorem rightsOf_le {fs : List Fl} {ss : List St} {may : May} {l : List Be} (hall : HallOK fs ss) (hl : l.length ≤ ss.length) : (rightsOf fs ss may l).length ≤ 13 ^ (ss.length - l.length) := rights_le hall (by omega)
theorem plans_bound {fs : List Fl} {ss : List St} {may : May} (hall : HallOK fs ss) (hs : 1 ≤ ss.length) : ∀ (l : List Be), (l.flatMap fun b => rightsOf fs ss may [b]).length ≤ l.length * 2197
 | l => flatMap_le fun b _ => by
  have h1 := rightsOf_le (may := may) (l := [b]) hall hs
  have h2 : ss.length - [b].length ≤ 3 := by have := hall.ns; simp; omega
  have h3 : 13 ^ (ss.length - [b].length) ≤ 13 ^ 3 := Nat.pow_le_pow_right (by decide) h2
  omega
theorem rights4 {fs : List Fl} {ss : List St} {may : May} {l : List Be} (hl : l.length ≤ 4) {p : List Be} (h : p ∈ rightsOf fs ss may l) : p.length = 4 := (rights_len h).trans (padB_len hl)
theorem take_next {α : Type} {l : List α} {i : Nat} {p : α} (h : l[i]? = some p) : l.take (i + 1) = l.take i ++ [p] := by
 rw [List.take_add_one, h]; rfl
theorem chF_drop {cs : List (Nat × List Value)} {i : Nat} {c : Nat × List Value} (h : cs[i]? = some c) : chF (cs.drop i) = (c.1, gch c.2) :: chF (cs.drop (i + 1)) := by
 obtain ⟨p, h1, h2⟩ := has (show i < cs.length by
  rcases Nat.lt_or_ge i cs.length with h' | h'
  ·exact h'
  ·rw [List.getElem?_eq_none h'] at h; cases h)
 rw [h] at h1
 cases h1
 rw [h2]; rfl
theorem chF_app {cs : List (Nat × List Value)} {c : Nat × List Value} : chF (cs ++ [c]) = chF cs ++ [(c.1, gch c.2)] := by simp [chF]
/-- What comes out of a channel at last. -/
def recvP (l : List (List Be)) : List Be := l.headD [⟨0, 0⟩, ⟨0, 0⟩, ⟨0, 0⟩, ⟨0, 0⟩]
theorem recvP_eq (l : List (List Be)) : (l.map planV).headD plan0 = planV (recvP l) := by cases l <;> rfl

theorem all_fn (main : Side) (hS : ∀ S, main.ok S → ∃ Fin, S = Mn prog Fin) (hmb : main.b = true) (h : Hp) (fs : List Fl) (ss : List St) (may : May) (vf vs mv : Value) (Eg : TypeId) (zg : Nat × Nat) (hf : Sl h Fl.row vf fs) (hs : Sl h St.row vs ss) (zf : Zs h vf) (zs : Zs h vs) (hm1 : one mv = true) (hall : HallOK fs ss) (hm : ∀ main h, MayV main mv may h)
  (hg : h 0 = some (.cells #[rtV t_error] Eg zg)) (z0 : h.z 0) : Fnc prog main n_floor_search_all #[srchV vf vs mv] h [] (fun v A => ∃ S, Os t_plan rowP v (allF fs ss may) S ∧ Sb S A) := by
 obtain ⟨a, cap, rfl⟩ := hf.isSl
 obtain ⟨a', cap', rfl⟩ := hs.isSl
 refine Fnc.of_body at_floor_search_all rfl (by show 1 ≤ 48; decide) [(0, srchV (.slice a fs.length cap) (.slice a' ss.length cap') mv)] ⟨rfl, trivial⟩ ?_
 refine W.seq <| W.region rfl ?_
 refine Ops.box (fun β1 => ?_)
 refine qs rfl rfl rfl <| nn <| W.seq <| W.seq <| W.region rfl ?_
 refine fq rfl ?_
 refine fq rfl ?_
 refine fq rfl ?_
 refine dq rfl ?_
 refine o1 (y_len rfl rfl) rfl ?_
 refine o1 (y_eql rfl rfl rfl) rfl ?_
 refine nn ?_
 refine W.condp rfl (fun c16 => ?_) (fun c16 => ?_)
 ·have hn0 : ss.length = 0 := by omega
  refine W.seq <| W.region rfl ?_
  refine lq rfl ?_
  refine c0 (fun h' hE hL => right_fn _ h' (.slice a fs.length cap) (.slice a' ss.length cap') mv (.slice none 0 0) rfl rfl hm1 rfl) (fun v A' hv => ?_)
  obtain ⟨bb, bs, rfl, rfl⟩ := hv
  refine c0 (fun h' hE hL => collect_fn _ h' (rightsOf fs ss may []) _ rfl (right_iter _ h' fs ss may [] (.slice a fs.length cap) (.slice a' ss.length cap') mv (.slice none 0 0) bb bs _ _ Eg _ _ zg (hf.ext hE) (hs.ext hE) .nil hm1 hall (Nat.zero_le _) (pad_nil hall.nf.1) (hm _ h') (hL _ _ (.head _)) (hL _ _ (.tail _ (.head _))) (hE.1 _ _ hg)) (fun p hp => rights4 (Nat.zero_le _) hp) (by
   have h1 := rightsOf_le (may := may) (l := []) hall (Nat.zero_le _)
   rw [hn0] at h1
   exact Nat.le_trans h1 (by decide))) (fun v A' hv => ?_)
  obtain ⟨S, hS, hsb⟩ := hv
  refine qs rfl rfl rfl <| nn <| W.ret <| thn_r ?_
  refine lvt (vs := [v]) ⟨S, ?_, ?_⟩
  ·rw [allF, if_pos hn0]; exact hS
  ·exact hsb.right (by repeat (first | exact Shut.nil | refine Shut.cons rfl ?_))
 ·refine W.skip <| thn_n ?_
  have hn0 : ¬ ss.length = 0 := by omega
  refine W.freeze (b := β1) rfl (fun hz hEz hbz hzz => ?_)
  have hf1 := hf.ext hEz
  have hs1 := hs.ext hEz
  have hg1 := hEz.1 _ _ hg
  refine W.seq <| W.region rfl ?_
  refine Ops.new (fun β3 => ?_)
  refine nn <| W.seq <| W.seq <| W.region rfl ?_
  refine lq rfl ?_
  refine c0 (fun h' hE hL => berths_fn _ h' _ _ mv 0 rfl rfl hm1) (fun v A' hv => ?_)
  obtain ⟨b2, b3, rfl, rfl⟩ := hv
  refine nn <| W.block ?_
  refine W.rangeN (σ := List Be) (X := Be) (enc := Be.val) (xs := berthsK fs ss may 0) rfl rfl rfl (fun s b => s ++ [b]) (fun _ _ => none) (fun b s => ∃ post, berthsK fs ss may 0 = s ++ b :: post)
   (fun s A => ∃ v S cs, A = (β3, .cells #[v] t_sl_chan_plan (0, 0)) :: (S ++ chF cs) ∧ Os t_chan_plan rowC v (cs.map (·.1)) S ∧ cs.map (·.2) = s.map (contB fs ss may)) (fun _ _ => False) [] (.tail (.tail .all)) ⟨_, [], [], rfl, .nil .nil, rfl⟩
   (fun h' hE hL => berths_iter _ h' fs ss may 0 _ _ mv b2 b3 _ _ _ _ (hf1.ext hE) (hs1.ext hE) hall (by omega) (hm _ h') (hL _ _ (.tail _ (.head _))) (hL _ _ (.head _))) (fun s p' e he => by cases he) (fun pre p post s' e hr => ?_) ?_ ?_
  ·rw [runs_snoc (berthsK fs ss may 0)] at hr
   injection hr with hr _
   injection hr with hr _
   exact ⟨post, by rw [← hr]; simpa using e⟩
  ·rintro s b A1 ⟨post, hpost⟩ ⟨v, S, cs, rfl, hO, hcs⟩ l h1 - -
   have hbm : b ∈ berthsK fs ss may 0 := by rw [hpost]; simp
   have hcl : cs.length = s.length := by simpa using congrArg List.length hcs
   have hsl : s.length + 1 ≤ 13 := by
    have := berthsK_len (may := may) hall (show 0 < ss.length by omega)
    rw [hpost] at this
    simp at this
    omega
   refine W.region rfl ?_
   refine Ops.new (fun β4 => ?_)
   first | refine Ops.stoW ?_ | refine Ops.stoA ?_
   refine Ops.nil ?_
   refine ⟨rfl, rfl, fun h0 hE0 hL0 => ?_⟩
   refine W.block <| W.seq <| W.region rfl ?_
   refine oe rfl wn rfl rfl (e_makeChan rfl rfl fun β23 hn23 _ => ?_)
   refine Ops.new (fun β5 => ?_)
   refine Ops.sto ?_
   refine nn <| W.seq <| W.region rfl ?_
   refine dq rfl ?_
   refine dq rfl ?_
   refine Ops.bsl (cs := #[.chan (some β23)]) (fun β26 => ?_) rfl
   refine oe rfl wn rfl rfl (e_append (row := rowC) (l' := [β23]) rfl rfl rfl hO (.tail (.tail (.tail (.tail (.tail .head))))) (fun h2 _ hl => Sl.mk (hl β26 _ (.head _)) rfl (Part.all [.chan (some β23)])) (by simp; omega) (by decide) rfl (fun v' S' hO' => ?_))
   obtain ⟨an, capn, rfl⟩ := hO'.isSl
   refine Ops.sto ?_
   refine nn ?_
   refine W.sb (F' := (β5, .cells #[.chan (some β23)] t_chan_plan (0, 0)) :: (β4, .cells #[I b.fl, I b.day] t_Berth (0, 0)) :: (β23, gnew) :: (β3, .cells #[.slice an (cs.map (·.1) ++ [β23]).length capn] t_sl_chan_plan (0, 0)) :: (S' ++ chF cs)) (.skip rfl (.cons (Sb.of_perm (List.Perm.swap _ _ _)))) ?_
   refine W.freeze (b := β5) rfl (fun h5 hE5 hb5 hz5 => ?_)
   refine W.freeze (b := β4) rfl (fun h4 hE4 hb4 hz4 => ?_)
   refine W.region rfl ?_
   refine o1 (y_func rfl rfl rfl) rfl ?_
   refine Ops.spawn (c := β23) (l := contB fs ss may b) (args := []) (vs := []) hS hmb (nthO_get rfl) rfl wn rfl rfl rfl .head (fun hn kc hsat => ?_) ?_
   ·have hEh : Ext hz h4 := (hE0.trans hE5).trans hE4
    have hlt : 0 < ss.length := by omega
    exact sender (toldR h4 β23) fs ss may b (.slice a fs.length cap) (.slice a' ss.length cap') mv β23 β5 β1 β4 t_chan_plan t_search t_Berth Eg (0, 0) (0, 0) (0, 0) zg kc ((hf1.ext hEh).told ((zf.ext hEz).ext hEh) hn) ((hs1.ext hEh).told ((zs.ext hEz).ext hEh) hn) hm1 hall hlt (by rw [pad_one]; exact plan_set (pad_nil hall.nf.1) hlt (berth_ok hall hlt hbm)) hm
     (toldR_at hn (hE4.2 _ hz5) (hE4.1 _ _ hb5) rfl) (toldR_at hn (hEh.2 _ hzz) (hEh.1 _ _ hbz) rfl) (toldR_at hn hz4 hb4 rfl) (toldR_at hn (hEh.2 _ (hEz.2 _ z0)) (hEh.1 _ _ hg1) rfl) hsat
   refine Ops.nil <| blk_n ?_
   refine ⟨rfl, rfl, (β3, .cells #[.slice an (cs.map (·.1) ++ [β23]).length capn] t_sl_chan_plan (0, 0)) :: (S' ++ chF (cs ++ [(β23, contB fs ss may b)])), ⟨_, S', cs ++ [(β23, contB fs ss may b)], rfl, by rw [List.map_append]; exact hO', by rw [List.map_append, List.map_append, hcs]; rfl⟩, Sb.of_perm ?_⟩
   rw [chF_app]
   refine List.Perm.trans (.cons _ ?_) (List.Perm.swap _ _ _)
   rw [← List.append_assoc]
   exact List.perm_append_comm
  ·intro s e A he hA d
   rw [runs_snoc (berthsK fs ss may 0), List.nil_append] at he
   cases he
   obtain ⟨v, S, cs, rfl, hO, hcs⟩ := hA
   have hcl : cs.length = (berthsK fs ss may 0).length := by simpa using congrArg List.length hcs
   obtain ⟨chs, hch⟩ : ∃ l, cs.map (·.1) = l := ⟨_, rfl⟩
   have hchl : chs.length = cs.length := by rw [← hch]; simp
   have hcs13 : cs.length ≤ 13 := by rw [hcl]; exact berthsK_len hall (by omega)
   rw [hch] at hO
   obtain ⟨ac, capc, rfl⟩ := hO.isSl
   refine blk_n <| thn_n ?_
   refine W.sb (F' := S ++ ((d, .deferred (some [])) :: (β3, .cells #[.slice ac chs.length capc] t_sl_chan_plan (0, 0)) :: chF cs)) ?_ ?_
   ·refine Sb.trans (Sb.of_perm ?_) (.cons (.skip rfl (.skip rfl .refl)))
    exact List.perm_middle.trans (.cons _ List.perm_middle)
   refine freezeOs hO (fun hx hEx hsl _ => ?_)
   refine W.seq <| W.region rfl <| qs rfl rfl rfl <| nn <| W.seq <| W.seq <| W.region rfl ?_
   refine dq rfl ?_
   refine o1 (y_len rfl rfl) rfl ?_
   refine qm rfl rfl rfl <| nn <| W.block ?_
   refine W.loop3 (fun (i : Nat) (o : Value) (O : Frag) => i ≤ cs.length ∧ Os t_plan rowP o (((berthsK fs ss may 0).take i).flatMap fun b => rightsOf fs ss may [b]) O) (fun i o O => [(31, I i), (30, I chs.length), (29, .slice ac chs.length capc), (6, o)]) (fun i o O => (d, .deferred (some [])) :: (O ++ chF (cs.drop i))) (fun i _ _ => cs.length - i) 0 (.slice none 0 0) [] ⟨Nat.zero_le _, .nil .nil⟩ ⟨rfl, rfl, rfl, rfl, trivial⟩ (.cons (.skip rfl .refl)) ?_
   rintro i o O ⟨hi, hOo⟩
   refine W.seq <| W.region rfl ?_
   refine o1 (y_lss rfl rfl rfl) rfl ?_
   refine nn <| W.seq ?_
   refine W.condp rfl (fun c32 => ?_) (fun c32 => ?_)
   ·obtain ⟨⟨c, cl⟩, hc, -⟩ := has (show i < cs.length by omega)
    obtain ⟨b, hb, -⟩ := has (show i < (berthsK fs ss may 0).length by omega)
    have hcc : chs[i]? = some c := by rw [← hch, List.getElem?_map, hc]; rfl
    have hcb : cl = contB fs ss may b := by
     have := congrArg (·[i]?) hcs
     simp only [List.getElem?_map, hc, hb] at this
     simpa using this
    obtain ⟨bb, off, cc, EE, fz, rfl, hbb, hx1, hy1, hz1⟩ := hsl.at hcc
    have hz0 : cc[off + i * 1]? = some (.chan (some c)) := hz1 0 (by decide)
    clear hx1 hz1
    have hlen : ((((berthsK fs ss may 0).take i).flatMap fun b => rightsOf fs ss may [b]) ++ rightsOf fs ss may [b]).length ≤ 14 * 2197 := by
     have h1 := plans_bound (may := may) hall (by omega) ((berthsK fs ss may 0).take i)
     have h2 := plans_bound (may := may) hall (by omega) [b]
     have h3 : ((berthsK fs ss may 0).take i).length ≤ 13 := by rw [List.length_take]; omega
     have h4 : ((berthsK fs ss may 0).take i).length * 2197 ≤ 13 * 2197 := Nat.mul_le_mul_right _ h3
     rw [List.flatMap_cons, List.flatMap_nil, List.append_nil] at h2
     simp only [List.length_append, List.length_cons, List.length_nil] at h2 ⊢
     omega
    refine W.skip <| thn_n <| W.seq <| W.block <| W.seq <| W.region rfl ?_
    refine xq rfl ?_
    refine dq rfl ?_
    refine qs rfl rfl rfl <| nn <| W.block ?_
    refine W.loop3 (fun (rem : List (List Be)) (o : Value) (O : Frag) => ∃ done, done ++ rem = rightsOf fs ss may [b] ∧ Os t_plan rowP o ((((berthsK fs ss may 0).take i).flatMap fun b => rightsOf fs ss may [b]) ++ done) O) (fun rem o O => [(8, .chan (some c)), (31, I i), (30, I chs.length), (29, .slice (some ⟨bb, off, none⟩) chs.length capc), (6, o)]) (fun rem o O => (c, gch (rem.map planV)) :: (d, .deferred (some [])) :: (O ++ chF (cs.drop (i + 1)))) (fun rem _ _ => rem.length) (rightsOf fs ss may [b]) o O ⟨[], rfl, by simpa using hOo⟩ ⟨rfl, rfl, rfl, rfl, rfl, trivial⟩ (Sb.of_perm ?_) ?_
    ·rw [chF_drop hc, hcb]
     refine (List.Perm.swap _ _ _).trans (.cons _ ?_)
     exact List.perm_middle.symm
    clear hOo
    rintro rem o O ⟨done, hdn, hOo⟩
    have hp4 : (recvP rem).length = 4 := by
     cases rem with
     | nil => rfl
     | cons p r => exact rights4 (l := [b]) (by simp) (by rw [← hdn]; simp [recvP])
    have hsz : (flat Be.row (recvP rem)).toArray.size = 8 := by simp [flat_len, hp4]
    have hon : ones (flat Be.row (recvP rem)).toArray.toList = true := plan_ones
    refine W.block <| W.seq <| W.region rfl <| qm rfl rfl rfl ?_
    refine Ops.recvL (c := c) (u := planV (recvP rem)) hS hmb (recvP_eq rem) .head ?_
    refine qm rfl rfl rfl <| oq (y_extract rfl rfl rfl) rfl wn rfl rfl <| oq (y_extract rfl rfl rfl) rfl wn rfl rfl ?_
    refine Ops.new (fun β9 => ?_)
    first | refine Ops.stoW ?_ | refine Ops.stoA ?_
    refine qs rfl rfl rfl <| nn <| W.seq <| W.seq <| W.region rfl <| qm rfl rfl rfl ?_
    refine o1 (y_not rfl rfl) rfl ?_
    refine nn ?_
    refine W.cond rfl (fun c41 => ?_) (fun c41 => ?_)
    ·have hr0 : rem = [] := by
      cases rem with
      | nil => rfl
      | cons p r => cases c41
     subst hr0
     refine W.exit <| thn_x <| blk_o <| thn_x <| blk_x <| blk_n <| thn_n <| W.region rfl ?_
     refine pq rfl ?_
     refine qm rfl rfl rfl <| nn ?_
     refine ⟨rfl, i + 1, o, O, ⟨by omega, ?_⟩, by omega, ⟨rfl, rfl, rfl, rfl, trivial⟩, .skip rfl (.skip rfl .refl)⟩
     rw [List.append_nil] at hdn
     rw [take_next hb, List.flatMap_append]
     simpa [hdn] using hOo
    ·obtain ⟨p, r, rfl⟩ : ∃ p r, rem = p :: r := by
      cases rem with
      | nil => cases c41
      | cons p r => exact ⟨p, r, rfl⟩
     have hll : ((((berthsK fs ss may 0).take i).flatMap fun b => rightsOf fs ss may [b]) ++ done).length + 1 ≤ 14 * 2197 := by
      rw [← hdn] at hlen
      simp only [List.length_append, List.length_cons] at hlen ⊢
      omega
     refine W.skip <| thn_n <| W.region rfl <| qm rfl rfl rfl ?_
     refine lq rfl ?_
     refine Ops.bsl (cs := (flat Be.row p).toArray) (fun β44 => ?_) rfl (hf := by exact plan_fill hp4)
     refine oe rfl wn rfl rfl (e_append (row := rowP) (l' := [p]) rfl rfl rfl hOo (.tail (.tail (.tail (.tail .head)))) (fun h2 _ hl => Sl.mk (hl β44 _ (.head _)) rfl (rowP_part hp4)) (by simp at hll ⊢; omega) (by decide) rfl (fun v' S' hO' => ?_))
     obtain ⟨an, capn, rfl⟩ := hO'.isSl
     refine qs rfl rfl rfl <| Ops.nil <| blk_n <| thn_n ?_
     exact ⟨rfl, r, _, S', ⟨done ++ [p], by rw [← hdn]; simp, by rw [← List.append_assoc]; exact hO'⟩, by simp, ⟨rfl, rfl, rfl, rfl, rfl, trivial⟩, .skip rfl (.skip rfl .refl)⟩
   ·have hie : i = cs.length := by omega
    subst hie
    refine W.exit <| thn_x <| thn_x <| blk_x <| thn_n <| W.seq <| W.region rfl <| qm rfl rfl rfl <| qs rfl rfl rfl <| Ops.nil ?_
    refine thn_n <| W.ret ?_
    refine lvm (hl := At.head) (lvt (vs := [o]) ⟨O, ?_, ?_⟩)
    ·rw [allF, if_neg hn0]
     rw [hcl, List.take_length] at hOo
     exact hOo
    ·simpa [chF] using Sb.skip rfl .refl
end Go.Mus

/- Comparing numbers in structs and arrays; plans as keys. Conditions: none; over the given program. -/
namespace Go.Mus
set_option maxRecDepth 100000
set_option maxHeartbeats 4000000
instance : NS prog t_Span := ⟨by kernel_rfl, by kernel_rfl⟩
instance : NS prog t_Berth := ⟨by kernel_rfl, by kernel_rfl⟩
instance : NS prog t_Strike := ⟨by kernel_rfl, by kernel_rfl⟩
instance : NS prog t_Floor := ⟨by kernel_rfl, by kernel_rfl⟩
theorem ei : EqAt prog t_int 1 1 := EqAt.int
theorem ckI : CkAt prog t_int 1 1 := CkAt.int
theorem eqv_span : EqV prog t_Span 2 2 := by
 refine EqV.struct (ws := [1, 1]) (K := 1) ?_
 exact (Lay.cons (by decide) rfl ei (Lay.cons (by decide) rfl ei Lay.nil))
theorem eqv_berth : EqV prog t_Berth 2 2 := by
 refine EqV.struct (ws := [1, 1]) (K := 1) ?_
 exact (Lay.cons (by decide) rfl ei (Lay.cons (by decide) rfl ei Lay.nil))
theorem eqv_strike : EqV prog t_Strike 3 2 := by
 refine EqV.struct (ws := [1, 1, 1]) (K := 1) ?_
 exact (Lay.cons (by decide) rfl ei (Lay.cons (by decide) rfl ei (Lay.cons (by decide) rfl ei Lay.nil)))
theorem eqv_floor : EqV prog t_Floor 4 3 := by
 refine EqV.struct (ws := [1, 2, 1]) (K := 2) ?_
 exact (Lay.cons (by decide) rfl (ei.le (by decide)) (Lay.cons (by decide) rfl eqv_span.at (Lay.cons (by decide) rfl (ei.le (by decide)) Lay.nil)))
theorem eqv_plan : EqV prog t_plan 8 3 := EqV.array (n := 4) (w := 2) (K := 2) eqv_berth.at
instance : EV prog t_Span 2 := ⟨eqv_span.le (by decide)⟩
instance : EV prog t_Berth 2 := ⟨eqv_berth.le (by decide)⟩
instance : EV prog t_Strike 3 := ⟨eqv_strike.le (by decide)⟩
instance : EV prog t_Floor 4 := ⟨eqv_floor.le (by decide)⟩
instance : EV prog t_plan 8 := ⟨eqv_plan.le (by decide)⟩
theorem ckv_berth : CkV prog t_Berth 2 2 := by
 refine CkV.struct (ws := [1, 1]) (K := 1) ?_
 exact (LayC.cons (by decide) rfl ckI (LayC.cons (by decide) rfl ckI LayC.nil))
theorem ckv_plan : CkV prog t_plan 8 3 := CkV.array (n := 4) (w := 2) (K := 2) ckv_berth.at
instance : KV prog t_plan 8 := ⟨inferInstance, ckv_plan.le (by decide), _, TD.out, .inr ⟨_, _, rfl⟩⟩

def keyP (p : List Be) : List Int := p.flatMap fun b => [b.fl, b.day]
theorem keyP_eq (p : List Be) : planV p = .agg ((keyP p).map nI).toArray := by
 have e : flat Be.row p = (keyP p).map nI := by
  induction p with
  | nil => rfl
  | cons b p ih => rw [flat_cons, ih]; rfl
 rw [planV, e]
theorem keyP_len {p : List Be} (h : p.length = 4) : (keyP p).length = 8 := by
 obtain ⟨a, b, c, d, rfl⟩ := four h; rfl
theorem keyP_inj : ∀ {p q : List Be}, p.length = q.length → keyP p = keyP q → p = q
 | [], [], _, _ => rfl
 | a :: p, b :: q, h, e => by
  simp only [keyP, List.flatMap_cons, List.cons_append, List.nil_append, List.cons.injEq] at e
  obtain ⟨e1, e2, e3⟩ := e
  rw [keyP_inj (by simpa using h) e3]
  obtain ⟨x, y⟩ := a
  obtain ⟨z, w⟩ := b
  cases e1; cases e2; rfl

/-! Loaves, and the best plans -/
def loavesK (ss : List St) (p : List Be) : Nat → Int
 | 0 => 0
 | k + 1 => if 0 ≤ (beAt p k).fl then wadd (loavesK ss p k) (stAt ss k).co else loavesK ss p k
def loavesF (ss : List St) (p : List Be) : Int := loavesK ss p ss.length
theorem loaves_fn (main : Side) (h : Hp) (fs : List Fl) (ss : List St) (p : List Be) (vf vs : Value) (hf : Sl h Fl.row vf fs) (hs : Sl h St.row vs ss) (hp : PlOK p) (hn : ss.length ≤ 4) : Pu prog main n_floor_hall_loaves #[.agg #[vf, vs], planV p] h (I (loavesF ss p)) := by
 obtain ⟨a, cap, rfl⟩ := hf.isSl
 obtain ⟨a', cap', rfl⟩ := hs.isSl
 have hsz := plan_sz hp
 refine Fnc.of_body at_floor_hall_loaves rfl (by show 2 ≤ 28; decide) [(0, .agg #[.slice a fs.length cap, .slice a' ss.length cap']), (1, planV p)] ⟨rfl, rfl, trivial⟩ ?_
 refine W.seq <| W.region rfl ?_
 refine Ops.box (fun β2 => ?_)
 refine Ops.box (fun β3 => ?_)
 refine qs rfl rfl rfl <| nn <| W.seq <| W.region rfl <| qs rfl rfl rfl <| nn <| W.seq <| W.seq ?_
 refine W.region rfl ?_
 refine fq rfl ?_
 refine fq rfl ?_
 refine dq rfl ?_
 refine o1 (y_len rfl rfl) rfl ?_
 refine qm rfl rfl rfl <| nn <| W.block ?_
 refine W.loop (σ := Nat) (fun k => k ≤ ss.length) (fun k => [(12, I k), (11, I ss.length), (10, .slice a' ss.length cap'), (5, I (loavesK ss p k)), (3, .pointer (some ⟨β3, 0, none⟩))]) (fun _ => [(β3, .cells (flat Be.row p).toArray t_plan (0, 0))]) (fun k => ss.length - k) 0 (Nat.zero_le _) ⟨rfl, rfl, rfl, rfl, rfl, trivial⟩ sbA ?_
 rintro k hk
 refine W.seq <| W.region rfl ?_
 refine o1 (y_lss rfl rfl rfl) rfl ?_
 refine nn <| W.seq ?_
 refine W.condp rfl (fun c13 => ?_) (fun c13 => ?_)
 ·obtain ⟨x, hx, -⟩ := has (show k < ss.length by omega)
  have hxe : stAt ss k = x := by simp [stAt, List.getD, hx]
  obtain ⟨b, off, c, E, fz, rfl, hb, hx1, hy1, hz1⟩ := hs.at hx
  have hx2 : c.extract (off + k * 3) (off + k * 3 + 3) = #[I x.day, I x.co, I x.wa] := hx1
  clear hx1 hz1
  have hk4 : k < 4 := by omega
  have hpa : (flat Be.row p).toArray[0 + k * 2 + 0]? = some (I (beAt p k).fl) := by simpa using (plan_at hp hk4).1
  refine W.skip <| thn_n <| W.seq <| W.block <| W.seq <| W.region rfl <| qm rfl rfl rfl ?_
  refine xq rfl ?_
  refine lq rfl ?_
  refine Ops.new (fun β7 => ?_)
  refine qs rfl rfl rfl ?_
  first | refine Ops.stoW ?_ | refine Ops.stoA ?_
  refine nn <| W.seq <| W.region rfl <| qm rfl rfl rfl ?_
  first | refine o1 (yixA rfl rfl rfl) rfl ?_ | refine o1 (yixAI rfl rfl rfl) rfl ?_
  refine fq rfl ?_
  refine dq rfl ?_
  refine o1 (y_geq rfl rfl rfl) rfl ?_
  refine nn ?_
  refine W.condp rfl (fun c21 => ?_) (fun c21 => ?_)
  ·refine W.region rfl <| qm rfl rfl rfl ?_
   refine fq rfl ?_
   refine dq rfl ?_
   refine pq rfl ?_
   refine qs rfl rfl rfl <| Ops.nil <| blk_n <| thn_n <| W.region rfl ?_
   refine pq rfl ?_
   refine qm rfl rfl rfl <| nn ?_
   first
   | exact ⟨rfl, k + 1, by omega, by omega, ⟨rfl, rfl, rfl, lk rfl (show I _ = I _ by congr 1; simp only [loavesK]; rw [if_pos c21, hxe]), rfl, trivial⟩, sbA⟩
   | exact ⟨rfl, k + 1, by omega, by omega, ⟨rfl, rfl, rfl, lk rfl (show I _ = I _ by congr 1; simp only [loavesK]; rw [if_neg c21]), rfl, trivial⟩, sbA⟩
  ·refine W.skip <| blk_n <| thn_n <| W.region rfl ?_
   refine pq rfl ?_
   refine qm rfl rfl rfl <| nn ?_
   first
   | exact ⟨rfl, k + 1, by omega, by omega, ⟨rfl, rfl, rfl, lk rfl (show I _ = I _ by congr 1; simp only [loavesK]; rw [if_pos c21, hxe]), rfl, trivial⟩, sbA⟩
   | exact ⟨rfl, k + 1, by omega, by omega, ⟨rfl, rfl, rfl, lk rfl (show I _ = I _ by congr 1; simp only [loavesK]; rw [if_neg c21]), rfl, trivial⟩, sbA⟩
 ·refine W.exit <| thn_x <| thn_x <| blk_x <| thn_n <| W.seq <| W.region rfl <| qm rfl rfl rfl <| qs rfl rfl rfl <| Ops.nil ?_
  refine thn_n <| W.ret ?_
  refine lvp ?_
  rw [loavesF, show ss.length = k by omega]; rfl
end Go.Mus

/- The best plans. Conditions: none; over the given program. -/
namespace Go.Mus
set_option maxRecDepth 100000
set_option maxHeartbeats 4000000
/-- Those that count most, and how much. -/
def addM (s : Int × List (List Be)) (p : List Be) (n : Int) : Int × List (List Be) :=
  let s' := if s.2 = [] ∨ s.1 < n then (n, []) else s
  if n = s'.1 then (s'.1, s'.2 ++ [p]) else s'

theorem add_fn (main : Side) (h : Hp) (bm : Nat) (c n : Int) (v : Value) (l : List (List Be)) (p : List Be) (S : Frag) (hO : Os t_plan rowP v l S) (hl : l.length ≤ 100000) (hp4 : p.length = 4) : Fnc prog main n_floor_most_add #[.pointer (some ⟨bm, 0, none⟩), planV p, I n] h ((bm, .cells #[I c, v] t_most (0, 0)) :: S) (fun _ A' => ∃ v' S', Os t_plan rowP v' (addM (c, l) p n).2 S' ∧ Sb ((bm, .cells #[I (addM (c, l) p n).1, v'] t_most (0, 0)) :: S') A') := by
  obtain ⟨a, cap, rfl⟩ := hO.isSl
  have hsz : (flat Be.row p).toArray.size = 8 := by simp [flat_len, hp4]
  have hon : ones (flat Be.row p).toArray.toList = true := plan_ones
  refine Fnc.of_body at_floor_most_add rfl (by show 3 ≤ 43; decide) [(0, .pointer (some ⟨bm, 0, none⟩)), (1, planV p), (2, I n)] ⟨rfl, rfl, rfl, trivial⟩ ?_
  refine W.seq <| W.region rfl ?_
  refine Ops.box (fun β4 => ?_)
  refine nn <| W.seq <| W.seq <| W.region rfl <| qm rfl rfl rfl ?_
  refine nq rfl ?_
  refine fq rfl ?_
  refine dq rfl ?_
  refine o1 (y_len rfl rfl) rfl ?_
  refine o1 (y_eql rfl rfl rfl) rfl ?_
  refine qm rfl rfl rfl ?_
  refine Ops.ask (fun a1_7 => ?_) (fun a1_7 => ?_)
  · refine Ops.no ?_
    refine Ops.no ?_
    refine Ops.no ?_
    refine Ops.no ?_
    refine Ops.no ?_
    refine Ops.no ?_
    refine o1 (y_pickT rfl rfl rfl) rfl ?_
    refine nn ?_
    refine W.condT ?_
    refine W.region rfl <| qm rfl rfl rfl <| qm rfl rfl rfl <| qm rfl rfl rfl ?_
    refine nq rfl ?_
    refine fq rfl ?_
    refine Ops.sto ?_
    refine nq rfl ?_
    refine fq rfl ?_
    refine Ops.sto ?_
    refine nn <| W.seq <| W.region rfl <| qm rfl rfl rfl <| qm rfl rfl rfl ?_
    refine nq rfl ?_
    refine fq rfl ?_
    refine dq rfl ?_
    refine o1 (y_eql rfl rfl rfl) rfl ?_
    refine nn ?_
    refine W.condp rfl (fun c32 => ?_) (fun c32 => ?_)
    · refine W.drawP2 (n := 11) rfl ?_
      refine a1 0 (y_move rfl rfl) rfl ?_
      refine a1 1 (y_move rfl rfl) rfl ?_
      first | refine a1 2 (y_nilCheck rfl rfl) rfl ?_ | refine a1 2 (y_nilCheckF rfl rfl) rfl ?_
      refine a1 3 (y_fieldAddr rfl rfl) rfl ?_
      refine a1 4 (yld rfl rfl) rfl ?_
      first | refine a1 5 (yldW rfl rfl) rfl ?_ | refine a1 5 (yldA rfl rfl) rfl ?_
      refine abl (i := 6) (cs := (flat Be.row p).toArray) (fun β39 => ?_) rfl (hf := by exact plan_fill hp4)
      first
      | refine ae (i := 7) rfl an rfl rfl (e_append (row := rowP) (l := []) (l' := [p]) rfl rfl rfl (Os.nil hO.shut) (.tail (.tail (.tail .all))) (fun h2 _ hl => Sl.mk (hl β39 _ (.head _)) rfl (rowP_part hp4)) (by simp) (by decide) rfl (fun v' S' hO' => ?_))
      | refine ae (i := 7) rfl an rfl rfl (e_append (row := rowP) (l' := [p]) rfl rfl rfl hO (.tail (.tail (.tail .all))) (fun h2 _ hl => Sl.mk (hl β39 _ (.head _)) rfl (rowP_part hp4)) (by simp; omega) (by decide) rfl (fun v' S' hO' => ?_))
      refine ⟨.inr (fun q hq => ?_), ?_⟩
      · rcases List.mem_cons.1 hq with rfl | hq
        · exact .tail _ (.head _)
        · rcases List.mem_cons.1 hq with rfl | hq
          · exact .tail _ (.tail _ (.head _))
          · cases hq
      obtain ⟨asl, csl, rfl⟩ := hO'.isSl
      first | refine a1 8 (y_nilCheck rfl rfl) rfl ?_ | refine a1 8 (y_nilCheckF rfl rfl) rfl ?_
      refine a1 9 (y_fieldAddr rfl rfl) rfl ?_
      refine ae (i := 10) rfl an rfl rfl (eS rfl rfl rfl ?_)
      refine ⟨.inl (by kernel_rfl), ?_⟩
      refine az ?_
      refine lvt (vs := []) ?_
      first
      | (have hl0 : l = [] := List.length_eq_zero_iff.1 (by omega)
         subst hl0
         have e : addM (c, []) p n = (n, [p]) := by simp [addM]
         rw [e]
         exact ⟨_, S', hO', .skip rfl (.skip rfl .refl)⟩)
      | (have hl0 : l ≠ [] := by rintro rfl; simp at a1_7
         have e : addM (c, l) p n = (n, [p]) := by simp [addM, c19]
         rw [e]
         exact ⟨_, S', hO', .skip rfl (.skip rfl .refl)⟩)
      | (have hl0 : l ≠ [] := by rintro rfl; simp at a1_7
         have e : addM (c, l) p n = (c, l ++ [p]) := by simp [addM, hl0, c19, c32]
         rw [e]
         exact ⟨_, S', hO', .skip rfl (.skip rfl .refl)⟩)
      | (have hl0 : l ≠ [] := by rintro rfl; simp at a1_7
         have e : addM (c, l) p n = (c, l) := by simp [addM, hl0, c19, c32]
         rw [e]
         exact ⟨_, S, hO, .skip rfl .refl⟩)
      | exact absurd rfl c32
    · refine W.skip ?_
      refine lvt (vs := []) ?_
      first
      | (have hl0 : l = [] := List.length_eq_zero_iff.1 (by omega)
         subst hl0
         have e : addM (c, []) p n = (n, [p]) := by simp [addM]
         rw [e]
         exact ⟨_, S', hO', .skip rfl (.skip rfl .refl)⟩)
      | (have hl0 : l ≠ [] := by rintro rfl; simp at a1_7
         have e : addM (c, l) p n = (n, [p]) := by simp [addM, c19]
         rw [e]
         exact ⟨_, S', hO', .skip rfl (.skip rfl .refl)⟩)
      | (have hl0 : l ≠ [] := by rintro rfl; simp at a1_7
         have e : addM (c, l) p n = (c, l ++ [p]) := by simp [addM, hl0, c19, c32]
         rw [e]
         exact ⟨_, S', hO', .skip rfl (.skip rfl .refl)⟩)
      | (have hl0 : l ≠ [] := by rintro rfl; simp at a1_7
         have e : addM (c, l) p n = (c, l) := by simp [addM, hl0, c19, c32]
         rw [e]
         exact ⟨_, S, hO, .skip rfl .refl⟩)
      | exact absurd rfl c32
  · refine oq (y_move rfl rfl) rfl (want_some rfl rfl rfl) rfl rfl ?_
    refine oq (y_move rfl rfl) rfl (want_some rfl rfl rfl) rfl rfl ?_
    first | refine oq (y_nilCheck rfl rfl) rfl (want_some rfl rfl rfl) rfl rfl ?_ | refine oq (y_nilCheckF rfl rfl) rfl (want_some rfl rfl rfl) rfl rfl ?_
    refine oq (y_fieldAddr rfl rfl) rfl (want_some rfl rfl rfl) rfl rfl ?_
    refine oq (yld rfl rfl) rfl (want_some rfl rfl rfl) rfl rfl ?_
    refine oq (y_gtr rfl rfl rfl) rfl (want_some rfl rfl rfl) rfl rfl ?_
    refine o1 (y_pickF rfl rfl rfl) rfl ?_
    refine nn ?_
    refine W.condp rfl (fun c19 => ?_) (fun c19 => ?_)
    · refine W.region rfl <| qm rfl rfl rfl <| qm rfl rfl rfl <| qm rfl rfl rfl ?_
      refine nq rfl ?_
      refine fq rfl ?_
      refine Ops.sto ?_
      refine nq rfl ?_
      refine fq rfl ?_
      refine Ops.sto ?_
      refine nn <| W.seq <| W.region rfl <| qm rfl rfl rfl <| qm rfl rfl rfl ?_
      refine nq rfl ?_
      refine fq rfl ?_
      refine dq rfl ?_
      refine o1 (y_eql rfl rfl rfl) rfl ?_
      refine nn ?_
      refine W.condp rfl (fun c32 => ?_) (fun c32 => ?_)
      · refine W.drawP2 (n := 11) rfl ?_
        refine a1 0 (y_move rfl rfl) rfl ?_
        refine a1 1 (y_move rfl rfl) rfl ?_
        first | refine a1 2 (y_nilCheck rfl rfl) rfl ?_ | refine a1 2 (y_nilCheckF rfl rfl) rfl ?_
        refine a1 3 (y_fieldAddr rfl rfl) rfl ?_
        refine a1 4 (yld rfl rfl) rfl ?_
        first | refine a1 5 (yldW rfl rfl) rfl ?_ | refine a1 5 (yldA rfl rfl) rfl ?_
        refine abl (i := 6) (cs := (flat Be.row p).toArray) (fun β39 => ?_) rfl (hf := by exact plan_fill hp4)
        first
        | refine ae (i := 7) rfl an rfl rfl (e_append (row := rowP) (l := []) (l' := [p]) rfl rfl rfl (Os.nil hO.shut) (.tail (.tail (.tail .all))) (fun h2 _ hl => Sl.mk (hl β39 _ (.head _)) rfl (rowP_part hp4)) (by simp) (by decide) rfl (fun v' S' hO' => ?_))
        | refine ae (i := 7) rfl an rfl rfl (e_append (row := rowP) (l' := [p]) rfl rfl rfl hO (.tail (.tail (.tail .all))) (fun h2 _ hl => Sl.mk (hl β39 _ (.head _)) rfl (rowP_part hp4)) (by simp; omega) (by decide) rfl (fun v' S' hO' => ?_))
        refine ⟨.inr (fun q hq => ?_), ?_⟩
        · rcases List.mem_cons.1 hq with rfl | hq
          · exact .tail _ (.head _)
          · rcases List.mem_cons.1 hq with rfl | hq
            · exact .tail _ (.tail _ (.head _))
            · cases hq
        obtain ⟨asl, csl, rfl⟩ := hO'.isSl
        first | refine a1 8 (y_nilCheck rfl rfl) rfl ?_ | refine a1 8 (y_nilCheckF rfl rfl) rfl ?_
        refine a1 9 (y_fieldAddr rfl rfl) rfl ?_
        refine ae (i := 10) rfl an rfl rfl (eS rfl rfl rfl ?_)
        refine ⟨.inl (by kernel_rfl), ?_⟩
        refine az ?_
        refine lvt (vs := []) ?_
        first
        | (have hl0 : l = [] := List.length_eq_zero_iff.1 (by omega)
           subst hl0
           have e : addM (c, []) p n = (n, [p]) := by simp [addM]
           rw [e]
           exact ⟨_, S', hO', .skip rfl (.skip rfl .refl)⟩)
        | (have hl0 : l ≠ [] := by rintro rfl; simp at a1_7
           have e : addM (c, l) p n = (n, [p]) := by simp [addM, c19]
           rw [e]
           exact ⟨_, S', hO', .skip rfl (.skip rfl .refl)⟩)
        | (have hl0 : l ≠ [] := by rintro rfl; simp at a1_7
           have e : addM (c, l) p n = (c, l ++ [p]) := by simp [addM, hl0, c19, c32]
           rw [e]
           exact ⟨_, S', hO', .skip rfl (.skip rfl .refl)⟩)
        | (have hl0 : l ≠ [] := by rintro rfl; simp at a1_7
           have e : addM (c, l) p n = (c, l) := by simp [addM, hl0, c19, c32]
           rw [e]
           exact ⟨_, S, hO, .skip rfl .refl⟩)
        | exact absurd rfl c32
      · refine W.skip ?_
        refine lvt (vs := []) ?_
        first
        | (have hl0 : l = [] := List.length_eq_zero_iff.1 (by omega)
           subst hl0
           have e : addM (c, []) p n = (n, [p]) := by simp [addM]
           rw [e]
           exact ⟨_, S', hO', .skip rfl (.skip rfl .refl)⟩)
        | (have hl0 : l ≠ [] := by rintro rfl; simp at a1_7
           have e : addM (c, l) p n = (n, [p]) := by simp [addM, c19]
           rw [e]
           exact ⟨_, S', hO', .skip rfl (.skip rfl .refl)⟩)
        | (have hl0 : l ≠ [] := by rintro rfl; simp at a1_7
           have e : addM (c, l) p n = (c, l ++ [p]) := by simp [addM, hl0, c19, c32]
           rw [e]
           exact ⟨_, S', hO', .skip rfl (.skip rfl .refl)⟩)
        | (have hl0 : l ≠ [] := by rintro rfl; simp at a1_7
           have e : addM (c, l) p n = (c, l) := by simp [addM, hl0, c19, c32]
           rw [e]
           exact ⟨_, S, hO, .skip rfl .refl⟩)
        | exact absurd rfl c32
    · refine W.skip <| thn_n <| W.seq <| W.region rfl <| qm rfl rfl rfl <| qm rfl rfl rfl ?_
      refine nq rfl ?_
      refine fq rfl ?_
      refine dq rfl ?_
      refine o1 (y_eql rfl rfl rfl) rfl ?_
      refine nn ?_
      refine W.condp rfl (fun c32 => ?_) (fun c32 => ?_)
      · refine W.drawP2 (n := 11) rfl ?_
        refine a1 0 (y_move rfl rfl) rfl ?_
        refine a1 1 (y_move rfl rfl) rfl ?_
        first | refine a1 2 (y_nilCheck rfl rfl) rfl ?_ | refine a1 2 (y_nilCheckF rfl rfl) rfl ?_
        refine a1 3 (y_fieldAddr rfl rfl) rfl ?_
        refine a1 4 (yld rfl rfl) rfl ?_
        first | refine a1 5 (yldW rfl rfl) rfl ?_ | refine a1 5 (yldA rfl rfl) rfl ?_
        refine abl (i := 6) (cs := (flat Be.row p).toArray) (fun β39 => ?_) rfl (hf := by exact plan_fill hp4)
        first
        | refine ae (i := 7) rfl an rfl rfl (e_append (row := rowP) (l := []) (l' := [p]) rfl rfl rfl (Os.nil hO.shut) (.tail (.tail (.tail .all))) (fun h2 _ hl => Sl.mk (hl β39 _ (.head _)) rfl (rowP_part hp4)) (by simp) (by decide) rfl (fun v' S' hO' => ?_))
        | refine ae (i := 7) rfl an rfl rfl (e_append (row := rowP) (l' := [p]) rfl rfl rfl hO (.tail (.tail (.tail .all))) (fun h2 _ hl => Sl.mk (hl β39 _ (.head _)) rfl (rowP_part hp4)) (by simp; omega) (by decide) rfl (fun v' S' hO' => ?_))
        refine ⟨.inr (fun q hq => ?_), ?_⟩
        · rcases List.mem_cons.1 hq with rfl | hq
          · exact .tail _ (.head _)
          · rcases List.mem_cons.1 hq with rfl | hq
            · exact .tail _ (.tail _ (.head _))
            · cases hq
        obtain ⟨asl, csl, rfl⟩ := hO'.isSl
        first | refine a1 8 (y_nilCheck rfl rfl) rfl ?_ | refine a1 8 (y_nilCheckF rfl rfl) rfl ?_
        refine a1 9 (y_fieldAddr rfl rfl) rfl ?_
        refine ae (i := 10) rfl an rfl rfl (eS rfl rfl rfl ?_)
        refine ⟨.inl (by kernel_rfl), ?_⟩
        refine az ?_
        refine lvt (vs := []) ?_
        first
        | (have hl0 : l = [] := List.length_eq_zero_iff.1 (by omega)
           subst hl0
           have e : addM (c, []) p n = (n, [p]) := by simp [addM]
           rw [e]
           exact ⟨_, S', hO', .skip rfl (.skip rfl .refl)⟩)
        | (have hl0 : l ≠ [] := by rintro rfl; simp at a1_7
           have e : addM (c, l) p n = (n, [p]) := by simp [addM, c19]
           rw [e]
           exact ⟨_, S', hO', .skip rfl (.skip rfl .refl)⟩)
        | (have hl0 : l ≠ [] := by rintro rfl; simp at a1_7
           have e : addM (c, l) p n = (c, l ++ [p]) := by simp [addM, hl0, c19, c32]
           rw [e]
           exact ⟨_, S', hO', .skip rfl (.skip rfl .refl)⟩)
        | (have hl0 : l ≠ [] := by rintro rfl; simp at a1_7
           have e : addM (c, l) p n = (c, l) := by simp [addM, hl0, c19, c32]
           rw [e]
           exact ⟨_, S, hO, .skip rfl .refl⟩)
        | exact absurd rfl c32
      · refine W.skip ?_
        refine lvt (vs := []) ?_
        first
        | (have hl0 : l = [] := List.length_eq_zero_iff.1 (by omega)
           subst hl0
           have e : addM (c, []) p n = (n, [p]) := by simp [addM]
           rw [e]
           exact ⟨_, S', hO', .skip rfl (.skip rfl .refl)⟩)
        | (have hl0 : l ≠ [] := by rintro rfl; simp at a1_7
           have e : addM (c, l) p n = (n, [p]) := by simp [addM, c19]
           rw [e]
           exact ⟨_, S', hO', .skip rfl (.skip rfl .refl)⟩)
        | (have hl0 : l ≠ [] := by rintro rfl; simp at a1_7
           have e : addM (c, l) p n = (c, l ++ [p]) := by simp [addM, hl0, c19, c32]
           rw [e]
           exact ⟨_, S', hO', .skip rfl (.skip rfl .refl)⟩)
        | (have hl0 : l ≠ [] := by rintro rfl; simp at a1_7
           have e : addM (c, l) p n = (c, l) := by simp [addM, hl0, c19, c32]
           rw [e]
           exact ⟨_, S, hO, .skip rfl .refl⟩)
        | exact absurd rfl c32
end Go.Mus

/- The best plans of a hall. Conditions: none; over the given program. -/
namespace Go.Mus
set_option maxRecDepth 100000
set_option maxHeartbeats 4000000
def bstep (ss : List St) (s : (Int × List (List Be)) × List (List Be)) (p : List Be) : (Int × List (List Be)) × List (List Be) :=
 if p ∈ s.2 then s else (addM s.1 p (loavesF ss p), s.2 ++ [p])
def bestSt (ss : List St) (l : List (List Be)) : (Int × List (List Be)) × List (List Be) := l.foldl (bstep ss) ((0, []), [])
def bestF (fs : List Fl) (ss : List St) : Int × List (List Be) := (bestSt ss (allF fs ss freeM)).1
theorem bestSt_next {ss : List St} {l : List (List Be)} {i : Nat} {p : List Be} (h : l[i]? = some p) : bestSt ss (l.take (i + 1)) = bstep ss (bestSt ss (l.take i)) p := by
 simp only [bestSt, take_next h, List.foldl_append, List.foldl_cons, List.foldl_nil]
theorem addM_len {s : Int × List (List Be)} {p : List Be} {n : Int} : (addM s p n).2.length ≤ s.2.length + 1 := by
 simp only [addM]
 split <;> split <;> simp
theorem bestSt_sub {ss : List St} : ∀ {l : List (List Be)} {i : Nat}, i ≤ l.length → (bestSt ss (l.take i)).1.2.length ≤ i ∧ ∀ p ∈ (bestSt ss (l.take i)).2, p ∈ l
 | l, 0, _ => by simp [bestSt]
 | l, i + 1, h => by
  obtain ⟨p, hp, -⟩ := has (show i < l.length by omega)
  rw [bestSt_next hp]
  obtain ⟨h1, h2⟩ := bestSt_sub (ss := ss) (l := l) (i := i) (by omega)
  simp only [bstep]
  split
  ·exact ⟨by omega, h2⟩
  ·refine ⟨Nat.le_trans addM_len (by simpa using h1), fun q hq => ?_⟩
   rcases List.mem_append.1 hq with hq | hq
   ·exact h2 q hq
   ·have : q = p := by simpa using hq
    subst this
    exact List.mem_of_getElem? hp
theorem allF4 {fs : List Fl} {ss : List St} {may : May} {p : List Be} (h : p ∈ allF fs ss may) : p.length = 4 := by
 unfold allF at h
 split at h
 ·exact rights4 (Nat.zero_le _) h
 ·obtain ⟨b, _, hb⟩ := List.mem_flatMap.1 h
  exact rights4 (l := [b]) (by simp) hb
theorem allF_len {fs : List Fl} {ss : List St} {may : May} (hall : HallOK fs ss) : (allF fs ss may).length ≤ 28561 := by
 unfold allF
 split
 ·rename_i h
  have h1 := rightsOf_le (may := may) (l := []) hall (Nat.zero_le _)
  rw [h] at h1
  exact Nat.le_trans h1 (by decide)
 ·have h1 := plans_bound (may := may) hall (by omega) (berthsK fs ss may 0)
  have h2 := berthsK_len (may := may) hall (show 0 < ss.length by omega)
  have h3 : (berthsK fs ss may 0).length * 2197 ≤ 13 * 2197 := Nat.mul_le_mul_right _ h2
  omega
theorem mem_keys {p : List Be} {met : List (List Be)} (hp : p.length = 4) (hm : ∀ q ∈ met, q.length = 4) : keyP p ∈ met.map keyP ↔ p ∈ met := by
 constructor
 ·intro h
  obtain ⟨q, hq, e⟩ := List.mem_map.1 h
  rw [← keyP_inj ((hm q hq).trans hp.symm) e]
  exact hq
 ·exact fun h => List.mem_map.2 ⟨p, h, rfl⟩
/-- In the right plans all is in order. -/
theorem rights_PlanOf {fs : List Fl} {ss : List St} {may : May} (hall : HallOK fs ss) : ∀ {m k : Nat} {q p : List Be}, k + m ≤ ss.length → PlanOf fs ss q → p ∈ rights fs ss may m k q → PlanOf fs ss p
 | 0, k, q, p, _, hq, h => by
  simp only [rights] at h
  split at h
  ·have : p = q := by simpa using h
   subst this; exact hq
  ·cases h
 | m + 1, k, q, p, hk, hq, h => by
  simp only [rights, List.mem_flatMap] at h
  obtain ⟨b, hb, h⟩ := h
  split at h
  ·cases h
  ·exact rights_PlanOf hall (by omega) (plan_set hq (by omega) (berth_ok hall (by omega) hb)) h
theorem allF_PlanOf {fs : List Fl} {ss : List St} {may : May} {p : List Be} (hall : HallOK fs ss) (h : p ∈ allF fs ss may) : PlanOf fs ss p := by
 unfold allF at h
 split at h
 ·exact rights_PlanOf hall (by simp) (pad_nil hall.nf.1) h
 ·rename_i hn
  obtain ⟨b, hb, h⟩ := List.mem_flatMap.1 h
  refine rights_PlanOf hall (by simp; omega) ?_ h
  rw [pad_one]
  exact plan_set (pad_nil hall.nf.1) (by omega) (berth_ok hall (by omega) hb)

theorem best_fn (main : Side) (hS : ∀ S, main.ok S → ∃ Fin, S = Mn prog Fin) (hmb : main.b = true) (h : Hp) (fs : List Fl) (ss : List St) (vf vs : Value) (Eg : TypeId) (zg : Nat × Nat) (hf : Sl h Fl.row vf fs) (hs : Sl h St.row vs ss) (zf : Zs h vf) (zs : Zs h vs) (hall : HallOK fs ss)
  (hg : h 0 = some (.cells #[rtV t_error] Eg zg)) (z0 : h.z 0) : Fnc prog main n_floor_hall_best #[.agg #[vf, vs]] h [] (fun v A => ∃ u S, v = .agg #[I (bestF fs ss).1, u] ∧ Os t_plan rowP u (bestF fs ss).2 S ∧ Sb S A) := by
 obtain ⟨a, cap, rfl⟩ := hf.isSl
 obtain ⟨a', cap', rfl⟩ := hs.isSl
 have hns := hall.ns
 obtain ⟨ps, hps⟩ : ∃ ps, allF fs ss freeM = ps := ⟨_, rfl⟩
 have hpl : ps.length ≤ 28561 := by rw [← hps]; exact allF_len hall
 have hp4 : ∀ p ∈ ps, p.length = 4 := fun p hp => allF4 (hps ▸ hp)
 have hpo : ∀ p ∈ ps, PlanOf fs ss p := fun p hp => allF_PlanOf hall (hps ▸ hp)
 refine Fnc.of_body at_floor_hall_best rfl (by show 1 ≤ 32; decide) [(0, .agg #[.slice a fs.length cap, .slice a' ss.length cap'])] ⟨rfl, trivial⟩ ?_
 refine W.seq <| W.region rfl ?_
 refine Ops.box (fun β1 => ?_)
 refine Ops.new (fun β2 => ?_)
 refine nn <| W.seq <| W.region rfl ?_
 refine Ops.new (fun β3 => ?_)
 refine nn <| W.seq <| W.region rfl ?_
 refine o1 (y_func rfl rfl rfl) rfl ?_
 refine qs rfl rfl rfl <| nn <| W.seq <| W.region rfl ?_
 refine oe rfl wn rfl rfl (e_makeMap rfl fun β9 _ _ => ?_)
 refine qs rfl rfl rfl <| nn <| W.seq <| W.seq <| W.region rfl ?_
 refine lq rfl ?_
 refine o1 (y_build rfl rfl rfl) rfl ?_
 refine c0 (fun h' hE hL => all_fn _ hS hmb h' fs ss freeM (.slice a fs.length cap) (.slice a' ss.length cap') (.func (.func n_floor_free) #[] #[]) Eg zg (hf.ext hE) (hs.ext hE) (zf.ext hE) (zs.ext hE) rfl hall free_may (hE.1 _ _ hg) (hE.2 _ z0)) (fun v A' hv => ?_)
 rw [hps] at hv
 obtain ⟨S, hS', hsb⟩ := hv
 obtain ⟨sa, sc, rfl⟩ := hS'.isSl
 refine o1 (y_len rfl rfl) rfl ?_
 refine qm rfl rfl rfl <| nn <| W.block ?_
 refine W.sb (F' := S ++ ((β9, .map #[] 0) :: (β3, .cells #[I 0, .slice none 0 0] t_most (0, 0)) :: (β2, .cells #[I 0, .slice none 0 0] t_most (0, 0)) :: [(β1, .cells #[.slice a fs.length cap, .slice a' ss.length cap'] t_hall (0, 0))])) (hsb.app .refl) ?_
 refine freezeOs hS' (fun hx hEx hsl _ => ?_)
 refine W.loop3 (fun (i : Nat) (u : Value) (T : Frag × Array MapEntry × Nat) => i ≤ ps.length ∧ Os t_plan rowP u (bestSt ss (ps.take i)).1.2 T.1 ∧ MapT T.2.1 ((bestSt ss (ps.take i)).2.map keyP)) (fun i _ _ => [(14, I i), (13, I ps.length), (12, .slice sa ps.length sc), (5, .map (some β9)), (4, .func (.func n_floor_most_add) #[.pointer (some ⟨β3, 0, none⟩)] #[]), (3, .pointer (some ⟨β3, 0, none⟩)), (2, .pointer (some ⟨β2, 0, none⟩)), (1, .pointer (some ⟨β1, 0, none⟩))])
  (fun i u T => (β9, .map T.2.1 T.2.2) :: (β2, .cells #[I 0, .slice none 0 0] t_most (0, 0)) :: (β1, .cells #[.slice a fs.length cap, .slice a' ss.length cap'] t_hall (0, 0)) :: (β3, .cells #[I (bestSt ss (ps.take i)).1.1, u] t_most (0, 0)) :: T.1) (fun i _ _ => ps.length - i) 0 (.slice none 0 0) ([], #[], 0) ⟨Nat.zero_le _, .nil .nil, rfl⟩ ⟨rfl, rfl, rfl, rfl, rfl, rfl, rfl, rfl, trivial⟩ (Sb.of_perm ?_) ?_
 ·refine (List.Perm.cons _ ?_)
  exact List.perm_append_comm (l₁ := [_, _]) (l₂ := [_])
 rintro i u ⟨Sm, es, cl⟩ ⟨hi, hO, hM⟩
 simp only at hO hM
 obtain ⟨ua, uc, rfl⟩ := hO.isSl
 refine W.seq <| W.region rfl ?_
 refine o1 (y_lss rfl rfl rfl) rfl ?_
 refine nn <| W.seq ?_
 refine W.condp rfl (fun c15 => ?_) (fun c15 => ?_)
 ·obtain ⟨p, hp, -⟩ := has (show i < ps.length by omega)
  have hpm := List.mem_of_getElem? hp
  have hp4' := hp4 p hpm
  have hok := (hpo p hpm).ok
  have hnx := bestSt_next (ss := ss) hp
  obtain ⟨hbl, hbm⟩ := bestSt_sub (ss := ss) hi
  obtain ⟨⟨cc, ll⟩, met, hst⟩ : ∃ c m, bestSt ss (ps.take i) = (c, m) := ⟨_, _, rfl⟩
  rw [hst] at hO hM hbl hbm hnx ⊢
  have hm4 : ∀ q ∈ met, q.length = 4 := fun q hq => hp4 q (hbm q hq)
  obtain ⟨b, off, c, E, fz, rfl, hb, hx1, hy1, hz1⟩ := hsl.at hp
  have hx2 : c.extract (off + i * 8) (off + i * 8 + 8) = (flat Be.row p).toArray := by rw [hx1, rowP_eq hp4']
  clear hx1 hz1
  have hsz := plan_sz hok
  have hon : ones (flat Be.row p).toArray.toList = true := plan_ones
  refine W.skip <| thn_n <| W.seq <| W.block <| W.seq <| W.region rfl ?_
  refine xq rfl ?_
  refine lq rfl ?_
  refine Ops.new (fun β7 => ?_)
  first | refine Ops.stoW ?_ | refine Ops.stoA ?_
  refine nn <| W.seq <| W.seq <| W.region rfl <| qm rfl rfl rfl ?_
  refine lq rfl ?_
  refine oe rfl wn rfl rfl (e_lookup (a := keyP p) rfl rfl rfl (keyP_eq p) (keyP_len hp4') (.tail .head) hM (fun q hq => by obtain ⟨q', h1, rfl⟩ := List.mem_map.1 hq; exact keyP_len (hm4 _ h1)) ?_)
  refine o1 (y_not rfl rfl) rfl ?_
  refine nn ?_
  refine W.cond rfl (fun c21 => ?_) (fun c21 => ?_)
  ·refine W.drawL [(β7, .cells (flat Be.row p).toArray t_plan (0, 0)), (β1, .cells #[.slice a fs.length cap, .slice a' ss.length cap'] t_hall (0, 0))] (n := 6) rfl ?_
   refine a1 0 (y_move rfl rfl) rfl ?_
   first | refine a1 1 (yldW rfl rfl) rfl ?_ | refine a1 1 (yldA rfl rfl) rfl ?_
   first | refine a1 2 (yldW rfl rfl) rfl ?_ | refine a1 2 (yldA rfl rfl) rfl ?_
   first | refine a1 3 (yldW rfl rfl) rfl ?_ | refine a1 3 (yldA rfl rfl) rfl ?_
   refine acp (i := 4) (fun h' hE hL => loaves_fn _ h' fs ss p _ _ ((hf.ext hEx).ext hE) ((hs.ext hEx).ext hE) hok hns) ?_ (hS := .inr (fun q hq => ?_))
   rotate_left
   ·rcases List.mem_cons.1 hq with rfl | hq
    ·exact .head _
    ·rcases List.mem_cons.1 hq with rfl | hq
     ·exact .tail _ (.tail _ (.tail _ (.head _)))
     ·cases hq
   refine ae (i := 5) rfl an rfl rfl (e_callV (args := [_, _]) rfl rfl rfl (.tail (.tail (.tail (.tail .all)))) (fun h' hE hL => CallV.of_fn (fi := [_]) (args := [_, _]) (ca := []) (add_fn _ h' β3 cc (loavesF ss p) (.slice ua ll.length uc) ll p Sm hO (by have : ll.length ≤ i := hbl; omega) hp4')) (fun v A2 hv => ?_))
   refine ⟨.inl (by kernel_rfl), ?_⟩
   obtain ⟨v', S2, hO2, hsb2⟩ := hv
   obtain ⟨va, vc, rfl⟩ := hO2.isSl
   refine Any.sb (.cons (.cons (.cons (.cons hsb2)))) ?_
   refine az ?_
   refine thn_n <| W.region rfl <| qm rfl rfl rfl ?_
   refine lq rfl ?_
   refine oe rfl wn rfl rfl (e_mapUpdate (a := keyP p) rfl rfl rfl (keyP_eq p) rfl (keyP_len hp4') (.tail .head) hM (fun q hq => by obtain ⟨q', h1, rfl⟩ := List.mem_map.1 hq; exact keyP_len (hm4 _ h1)) (fun es' cl' hM' => ?_))
   refine Ops.nil <| blk_n <| thn_n <| W.region rfl ?_
   refine pq rfl ?_
   refine qm rfl rfl rfl <| nn ?_
   have hn : p ∉ met := by
    intro hin
    have := (mem_keys hp4' hm4).2 hin
    simp [this] at c21
   have hk : ¬ keyP p ∈ met.map keyP := fun hin => hn ((mem_keys hp4' hm4).1 hin)
   have hb2 : bestSt ss (ps.take (i + 1)) = (addM (cc, ll) p (loavesF ss p), met ++ [p]) := by rw [hnx]; simp only [bstep]; rw [if_neg hn]
   have hM2 : MapT es' ((met ++ [p]).map keyP) := by
    rw [List.map_append]
    simpa [hk] using hM'
   refine ⟨rfl, i + 1, _, (S2, es', cl'), ⟨by omega, by simp only [hb2]; exact hO2, by simp only [hb2]; exact hM2⟩, by omega, ⟨rfl, rfl, rfl, rfl, rfl, rfl, rfl, rfl, trivial⟩, ?_⟩
   simp only [hb2]
   exact .skip rfl .refl
  ·refine W.skip <| thn_n <| W.region rfl <| qm rfl rfl rfl ?_
   refine lq rfl ?_
   refine oe rfl wn rfl rfl (e_mapUpdate (a := keyP p) rfl rfl rfl (keyP_eq p) rfl (keyP_len hp4') (.tail .head) hM (fun q hq => by obtain ⟨q', h1, rfl⟩ := List.mem_map.1 hq; exact keyP_len (hm4 _ h1)) (fun es' cl' hM' => ?_))
   refine Ops.nil <| blk_n <| thn_n <| W.region rfl ?_
   refine pq rfl ?_
   refine qm rfl rfl rfl <| nn ?_
   have hk : keyP p ∈ met.map keyP := by simpa using c21
   have hn : p ∈ met := (mem_keys hp4' hm4).1 hk
   have hb2 : bestSt ss (ps.take (i + 1)) = ((cc, ll), met) := by rw [hnx]; simp only [bstep]; rw [if_pos hn]
   have hM2 : MapT es' (met.map keyP) := by simpa [hk] using hM'
   refine ⟨rfl, i + 1, _, (Sm, es', cl'), ⟨by omega, by simp only [hb2]; exact hO, by simp only [hb2]; exact hM2⟩, by omega, ⟨rfl, rfl, rfl, rfl, rfl, rfl, rfl, rfl, trivial⟩, ?_⟩
   simp only [hb2]
   exact .skip rfl .refl
 ·have hie : i = ps.length := by omega
  subst hie
  rw [List.take_length] at hO ⊢
  refine W.exit <| thn_x <| thn_x <| blk_x <| thn_n <| W.seq <| W.region rfl ?_
  refine lq rfl ?_
  first | refine Ops.stoW ?_ | refine Ops.stoA ?_
  refine nn <| W.ret ?_
  refine lvc (hv := rAgg rNil) ⟨.slice ua (bestSt ss ps).1.2.length uc, Sm, ?_, ?_, ?_⟩
  ·rw [bestF, hps]; rfl
  ·rw [bestF, hps]; exact hO
  ·exact .skip rfl (.skip rfl (.skip rfl (.skip rfl .refl)))
end Go.Mus

/- That nothing is set is right. Conditions: none; over the given program's numbers. -/
namespace Go.Mus
theorem beAt_p0 (k : Nat) : beAt (padB []) k = bnone := by
 simp only [beAt, padB, List.getD]
 rcases Nat.lt_or_ge k 4 with h | h
 ·rcases (by omega : k = 0 ∨ k = 1 ∨ k = 2 ∨ k = 3) with rfl | rfl | rfl | rfl <;> rfl
 ·simp [h]
theorem p0_set (k : Nat) : (padB []).set k bnone = padB [] := by
 rcases Nat.lt_or_ge k 4 with h | h
 ·rcases (by omega : k = 0 ∨ k = 1 ∨ k = 2 ∨ k = 3) with rfl | rfl | rfl | rfl <;> rfl
 ·exact List.set_eq_of_length_le (by simpa [padB] using h)
theorem onFk_p0 {f : Int} (hf : 0 ≤ f) : ∀ k, onFk (padB []) f k = []
 | 0 => rfl
 | k + 1 => by
  simp only [onFk, beAt_p0]
  rw [if_neg (by simp [bnone]; omega)]
  exact onFk_p0 hf k
theorem setL_p0 {f : Int} (hf : 0 ≤ f) : setL (padB []) f = [] := by
 rw [setL, onFk_p0 hf]; rfl
theorem fullF_0 {pl : Int} (hp : 0 ≤ pl) : ∀ (m k : Nat), fullF pl (List.replicate m ⟨0, 0⟩) k = none
 | 0, _ => rfl
 | m + 1, k => by
  rw [List.replicate_succ, fullF, if_neg (by simp; omega)]
  exact fullF_0 hp m (k + 1)
theorem lookF_p0 {fs : List Fl} {ss : List St} {f : Int} (hf : 0 ≤ f) (hp : 0 ≤ (flAt fs f).pl) : lookF fs ss (padB []) f = none := by
 simp only [lookF, standsD, setL_p0 hf, List.foldl_nil, days0]
 exact fullF_0 hp 22 0
theorem inspN_p0 {fs : List Fl} {ss : List St} (hall : HallOK fs ss) : ∀ k, k ≤ fs.length → inspN fs ss (padB []) k = none
 | 0, _ => rfl
 | k + 1, h => by
  obtain ⟨x, hx, -⟩ := has (show k < fs.length by omega)
  have hxe : flAt fs (k : Int) = x := by simp [flAt, List.getD, hx]
  have hpl := (hall.fl x (List.mem_of_getElem? hx)).1
  rw [inspN, inspN_p0 hall k (by omega), lookF_p0 (by omega) (by rw [hxe]; omega)]
  rfl
theorem rights_p0 {fs : List Fl} {ss : List St} (hall : HallOK fs ss) : ∀ m k, padB [] ∈ rights fs ss freeM m k (padB [])
 | 0, k => by
  rw [rights, inspF, inspN_p0 hall _ (Nat.le_refl _)]
  simp
 | m + 1, k => by
  rw [rights, List.mem_flatMap]
  refine ⟨bnone, ?_, ?_⟩
  ·simp [berthsK, freeM]
  ·rw [p0_set, if_neg (by simp [prune, bnone])]
   exact rights_p0 hall m (k + 1)
theorem allF_p0 {fs : List Fl} {ss : List St} (hall : HallOK fs ss) : padB [] ∈ allF fs ss freeM := by
 unfold allF
 split
 ·exact rights_p0 hall _ _
 ·exact List.mem_flatMap.2 ⟨bnone, by simp [berthsK, freeM], rights_p0 hall _ _⟩
theorem addM_ne {s : Int × List (List Be)} {p : List Be} {n : Int} : (addM s p n).2 ≠ [] := by
 obtain ⟨c, l⟩ := s
 simp only [addM]
 by_cases h : l = [] ∨ c < n
 ·simp [h]
 ·simp only [h, if_false]
  rw [not_or] at h
  split
  ·simp
  ·exact h.1
theorem bestSt_foldl_ne {ss : List St} : ∀ (l : List (List Be)) (s : (Int × List (List Be)) × List (List Be)), s.1.2 ≠ [] → (l.foldl (bstep ss) s).1.2 ≠ []
 | [], s, h => h
 | p :: l, s, h => by
  rw [List.foldl_cons]
  refine bestSt_foldl_ne l _ ?_
  simp only [bstep]
  split
  ·exact h
  ·exact addM_ne
theorem bestF_ne {fs : List Fl} {ss : List St} (hall : HallOK fs ss) : (bestF fs ss).2 ≠ [] := by
 have h := allF_p0 hall
 rw [bestF, bestSt]
 cases hl : allF fs ss freeM with
 | nil => rw [hl] at h; cases h
 | cons p l =>
  rw [List.foldl_cons]
  refine bestSt_foldl_ne l _ ?_
  simp only [bstep, List.not_mem_nil, if_false]
  exact addM_ne
theorem addM_mem {s : Int × List (List Be)} {p q : List Be} {n : Int} (h : q ∈ (addM s p n).2) : q = p ∨ q ∈ s.2 := by
 obtain ⟨c, l⟩ := s
 simp only [addM] at h
 split at h <;> split at h <;> simp at h <;> first | exact .inl h | exact .inr h | exact h.symm
theorem bestSt_mem {ss : List St} : ∀ (l : List (List Be)) (s : (Int × List (List Be)) × List (List Be)) {q : List Be}, q ∈ (l.foldl (bstep ss) s).1.2 → q ∈ s.1.2 ∨ q ∈ l
 | [], s, q, h => .inl h
 | p :: l, s, q, h => by
  rw [List.foldl_cons] at h
  rcases bestSt_mem l _ h with h | h
  ·simp only [bstep] at h
   split at h
   ·exact .inl h
   ·rcases addM_mem h with rfl | h
    ·exact .inr (List.mem_cons_self ..)
    ·exact .inl h
  ·exact .inr (List.mem_cons_of_mem _ h)
theorem bestF_mem {fs : List Fl} {ss : List St} {q : List Be} (h : q ∈ (bestF fs ss).2) : q ∈ allF fs ss freeM := by
 rcases bestSt_mem _ _ h with h | h
 ·cases h
 ·exact h
end Go.Mus

/- The best plan, and how many are as good. Conditions: none; over the given program. -/
namespace Go.Mus
set_option maxRecDepth 100000
set_option maxHeartbeats 4000000
theorem cloneB_fn (main : Side) (h : Hp) (l : List Be) (vl : Value) (hs : Sl h Be.row vl l) (hn : l.length ≤ 1000) : Fnc prog main n_slices_Clone_Berth #[vl] h [] (fun v A => ∃ S, Os t_Berth Be.row v l S ∧ Sb S A) := by
 obtain ⟨a, cap, rfl⟩ := hs.isSl
 refine Fnc.of_body at_slices_Clone_Berth rfl (by show 1 ≤ 8; decide) [(0, .slice a l.length cap)] ⟨rfl, trivial⟩ ?_
 refine W.seq <| W.region rfl <| qs rfl rfl rfl <| nn <| W.seq <| W.seq <| W.region rfl <| qm rfl rfl rfl ?_
 refine o1 (y_slNil rfl rfl) rfl ?_
 refine nn ?_
 refine W.cond rfl (fun c4 => ?_) (fun c4 => ?_)
 ·refine W.seq <| W.region rfl <| qs rfl rfl rfl <| nn <| W.ret <| thn_r ?_
  have : l = [] := by
   cases a with
   | some a => cases c4
   | none =>
    rcases hss : l with _ | ⟨x, r⟩
    ·rfl
    ·obtain ⟨b, off, c, E, fz, e, _⟩ := hs.at (i := 0) (p := x) (by rw [hss]; rfl)
     cases e
  subst this
  exact lvt (vs := [.slice none 0 0]) ⟨[], .nil .nil, .refl⟩
 ·refine W.skip <| thn_n <| W.seq <| W.region rfl ?_
  refine Ops.bsl0 (fun β5 => ?_) rfl
  refine qm rfl rfl rfl ?_
  have hO : Os t_Berth Be.row (.slice (some ⟨β5, 0, none⟩) 0 0) ([] : List Be) [(β5, .cells #[] t_Berth (0, 0))] := .inr ⟨β5, #[], 0, [], rfl, rfl, rfl, Nat.le_refl _, Part.all [], .nil⟩
  refine oe rfl wn rfl rfl (e_append (row := Be.row) (l := []) (l' := l) rfl rfl rfl hO .all (fun h2 hE hl => hs.ext hE) (by simp; omega) (by decide) rfl (fun v' S' hS' => ?_))
  rw [List.nil_append] at hS'
  refine qs rfl rfl rfl <| nn <| W.ret ?_
  exact lvt (vs := [v']) ⟨S', hS', .refl⟩

theorem told_fn (main : Side) (h : Hp) (ss : List St) (p : List Be) (vf vs : Value) (hf1 : one vf = true) (hs : Sl h St.row vs ss) (hp4 : p.length = 4) (hn : ss.length ≤ 4) : Fnc prog main n_floor_hall_told #[.agg #[vf, vs], planV p] h [] (fun v A => ∃ S, Os t_Berth Be.row v (p.take ss.length) S ∧ Sb S A) := by
 obtain ⟨a', cap', rfl⟩ := hs.isSl
 have hsz : (flat Be.row p).toArray.size = 8 := by simp [flat_len, hp4]
 have hon : ones (flat Be.row p).toArray.toList = true := plan_ones
 refine Fnc.of_body at_floor_hall_told rfl (by show 2 ≤ 11; decide) [(0, .agg #[vf, .slice a' ss.length cap']), (1, planV p)] ⟨rfl, rfl, trivial⟩ ?_
 refine W.seq <| W.region rfl ?_
 refine Ops.box (fun β2 => ?_)
 refine Ops.box (fun β3 => ?_)
 refine qs rfl rfl rfl <| nn <| W.seq <| W.region rfl ?_
 refine fq rfl ?_
 refine fq rfl ?_
 refine dq rfl ?_
 refine o1 (y_len rfl rfl) rfl ?_
 refine o1 (y_sliceArrHi rfl rfl rfl) rfl ?_
 refine c0 (fun h' hE hL => cloneB_fn _ h' (p.take ss.length) (.slice (some ⟨β3, 0, none⟩) ss.length 4) (Sl.mk (hL β3 _ (.head _)) (by rw [List.length_take]; omega) ?_) (by rw [List.length_take]; omega)) (fun v A' hv => ?_)
 ·refine ⟨[], flat Be.row (p.drop ss.length), ?_, rfl⟩
  rw [List.nil_append, ← flat_app, List.take_append_drop]
  rfl
 obtain ⟨S, hS, hsb⟩ := hv
 refine qs rfl rfl rfl <| nn <| W.ret ?_
 exact lvt (vs := [v]) ⟨S, hS, hsb.right (.cons rfl (.cons rfl .nil))⟩

def bestB (fs : List Fl) (ss : List St) : List Be × Int × Int := if ckPlant fs ss ≠ 0 then ([], 0, ckPlant fs ss) else (((bestF fs ss).2.headD []).take ss.length, (bestF fs ss).1, 0)
theorem Best_fn (main : Side) (hS : ∀ S, main.ok S → ∃ Fin, S = Mn prog Fin) (hmb : main.b = true) (h : Hp) (fs : List Fl) (ss : List St) (vf vs : Value) (Eg : TypeId) (zg : Nat × Nat) (hf : Sl h Fl.row vf fs) (hs : Sl h St.row vs ss) (zf : Zs h vf) (zs : Zs h vs)
  (hg : h 0 = some (.cells #[rtV t_error] Eg zg)) (z0 : h.z 0) : Fnc prog main n_floor_Best #[.agg #[vf, vs]] h [] (fun v A => ∃ u S, v = .tuple #[u, I (bestB fs ss).2.1, I (bestB fs ss).2.2] ∧ Os t_Berth Be.row u (bestB fs ss).1 S ∧ Sb S A) := by
 obtain ⟨a, cap, rfl⟩ := hf.isSl
 obtain ⟨a', cap', rfl⟩ := hs.isSl
 refine Fnc.of_body at_floor_Best rfl (by show 1 ≤ 24; decide) [(0, .agg #[.slice a fs.length cap, .slice a' ss.length cap'])] ⟨rfl, trivial⟩ ?_
 refine W.seq <| W.region rfl ?_
 refine Ops.box (fun β1 => ?_)
 refine qs rfl rfl rfl <| qs rfl rfl rfl <| qs rfl rfl rfl <| nn <| W.seq <| W.seq <| W.region rfl ?_
 refine lq rfl ?_
 refine cp (fun h' hE hL => Check_fn _ h' _ _ _ _ (hf.ext hE) (hs.ext hE)) ?_
 refine qs rfl rfl rfl <| nn <| W.seq <| W.region rfl <| qm rfl rfl rfl ?_
 refine o1 (y_neq rfl rfl rfl) rfl ?_
 refine nn ?_
 refine W.condp rfl (fun c10 => ?_) (fun c10 => ?_)
 ·refine W.seq <| W.region rfl <| qm rfl rfl rfl <| qs rfl rfl rfl <| qs rfl rfl rfl <| qs rfl rfl rfl <| nn <| W.ret <| thn_r ?_
  refine lvt (vs := [_, _, _]) ⟨.slice none 0 0, [], ?_, ?_, .nil (.cons rfl .nil)⟩
  ·simp only [bestB]; rw [if_pos c10]; rfl
  ·simp only [bestB]; rw [if_pos c10]; exact .nil .nil
 ·have h0 : ckPlant fs ss = 0 := by simpa using c10
  have hall := hall_ck h0
  have hn4 := hall.ns
  obtain ⟨p, r, hpr⟩ : ∃ p r, (bestF fs ss).2 = p :: r := by
   cases h : (bestF fs ss).2 with
   | nil => exact absurd h (bestF_ne hall)
   | cons p r => exact ⟨p, r, rfl⟩
  have hp4 : p.length = 4 := allF4 (bestF_mem (hpr ▸ List.mem_cons_self ..))
  have hbB : bestB fs ss = (p.take ss.length, (bestF fs ss).1, 0) := by simp only [bestB]; rw [if_neg c10, hpr]; rfl
  refine W.skip <| thn_n <| W.seq <| W.region rfl ?_
  refine lq rfl ?_
  refine o1 (y_build (cs := #[.slice a fs.length cap, .slice a' ss.length cap']) rfl rfl rfl) rfl ?_
  refine c0 (fun h' hE hL => best_fn _ hS hmb h' fs ss (.slice a fs.length cap) (.slice a' ss.length cap') Eg zg (hf.ext hE) (hs.ext hE) (zf.ext hE) (zs.ext hE) hall (hE.1 _ _ hg) (hE.2 _ z0)) (fun v A' hv => ?_)
  obtain ⟨u, S, rfl, hO, hsb⟩ := hv
  obtain ⟨ua, uc, rfl⟩ := hO.isSl
  refine Ops.new (fun β6 => ?_)
  first | refine Ops.stoW ?_ | refine Ops.stoA ?_
  refine nn ?_
  refine W.sb (F' := S ++ ((β6, .cells #[I (bestF fs ss).1, .slice ua (bestF fs ss).2.length uc] t_most (0, 0)) :: [(β1, .cells #[.slice a fs.length cap, .slice a' ss.length cap'] t_Plant (0, 0))])) ?_ ?_
  ·refine Sb.trans (Sb.of_perm List.perm_middle) (.cons (hsb.app .refl))
  refine freezeOs hO (fun hx hEx hsl _ => ?_)
  rw [hpr] at hsl ⊢
  have hlen : 0 < (p :: r).length := Nat.succ_pos _
  obtain ⟨b, off, c, E, fz, rfl, hb, hx1, hy1, hz1⟩ := hsl.at (i := 0) (p := p) rfl
  have hx2 : c.extract (off + 0 * 8) (off + 0 * 8 + 8) = (flat Be.row p).toArray := by rw [hx1, rowP_eq hp4]
  clear hx1 hz1
  refine W.seq ?_
  refine W.drawP2 (n := 12) rfl ?_
  first | refine a1 0 (yldW rfl rfl) rfl ?_ | refine a1 0 (yldA rfl rfl) rfl ?_
  refine a1 1 (y_build rfl rfl rfl) rfl ?_
  refine a1 2 (y_fieldAddr rfl rfl) rfl ?_
  refine a1 3 (yld rfl rfl) rfl ?_
  first | refine a1 4 (yix rfl rfl rfl) rfl ?_ | refine a1 4 (yixI rfl rfl rfl) rfl ?_
  first | refine a1 5 (yldW rfl rfl) rfl ?_ | refine a1 5 (yldA rfl rfl) rfl ?_
  refine a1 7 (y_fieldAddr rfl rfl) rfl ?_
  refine a1 8 (yld rfl rfl) rfl ?_
  refine ae (i := 6) rfl an rfl rfl (e_call0 (args := [_, _]) rfl rfl (fun h' hE hL => told_fn _ h' ss p (.slice a fs.length cap) (.slice a' ss.length cap') rfl ((hs.ext hEx).ext hE) hp4 hn4) (fun v A2 hv => ?_))
  refine ⟨.inr (fun q hq => List.mem_append_right _ hq), ?_⟩
  obtain ⟨S2, hO2, hsb2⟩ := hv
  refine a1 9 (y_assign rfl rfl) rfl ?_
  refine a1 10 (y_assign rfl rfl) rfl ?_
  refine a1 11 (y_assign rfl rfl) rfl ?_
  refine az ?_
  refine thn_n <| W.ret ?_
  refine lvt (vs := [_, _, _]) ⟨v, S2, ?_, ?_, ?_⟩
  ·rw [hbB]; rfl
  ·rw [hbB]; exact hO2
  ·exact hsb2.right (.cons rfl (.cons rfl .nil))
end Go.Mus

/- A valid plan is in order; what 'asked' answers, in parts. Conditions: none. -/
namespace Go.Mus
theorem ckBerths_at {nf : Int} : ∀ {ss : List St} {l : List Be}, ckBerths nf ss l = 0 → ∀ {i : Nat} {s : St} {b : Be}, ss[i]? = some s → l[i]? = some b → ckBerth nf s b = 0
 | [], l, _, i, s, b, h1, _ => by simp at h1
 | s :: ss, [], _, i, _, b, _, h2 => by simp at h2
 | s :: ss, b :: l, h, i, s', b', h1, h2 => by
  simp only [ckBerths] at h
  split at h
  ·rename_i h0
   cases i with
   | zero => simp at h1 h2; subst h1 h2; exact h0
   | succ i => exact ckBerths_at h (by simpa using h1) (by simpa using h2)
  ·rename_i h0; exact absurd h h0
theorem ckBerth0 {nf : Int} {s : St} {b : Be} (h : ckBerth nf s b = 0) : -1 ≤ b.fl ∧ b.fl < nf ∧ (b.fl < 0 → b.day = 0) ∧ (0 ≤ b.fl → s.day ≤ b.day ∧ b.day ≤ s.day + s.wa) := by
 unfold ckBerth at h
 split at h
 ·cases h
 rename_i h1
 split at h
 ·cases h
 rename_i h2
 split at h
 ·cases h
 rename_i h3
 simp only [outs, not_or, not_and] at h1 h2 h3
 refine ⟨by omega, by omega, fun hf => ?_, fun hf => ?_⟩
 ·exact Decidable.byContradiction fun hd => h2 hf hd
 ·have := h3 hf; omega
theorem plan_ck {fs : List Fl} {ss : List St} {l : List Be} (h : ckPlan fs ss l = 0) : HallOK fs ss ∧ PlanOf fs ss (padB l) ∧ l.length = ss.length := by
 obtain ⟨h1, h2, h3⟩ := ckPlan0 h
 have hall := hall_ck h1
 have hn := hall.ns
 have hf := hall.nf
 have hmem : ∀ b ∈ l, -1 ≤ b.fl ∧ b.fl < fs.length ∧ 0 ≤ b.day ∧ b.day ≤ 17 := by
  intro b hb
  obtain ⟨i, hi⟩ := List.mem_iff_getElem?.1 hb
  obtain ⟨s, hs, -⟩ := has (show i < ss.length by
   rcases Nat.lt_or_ge i l.length with h' | h'
   ·omega
   ·rw [List.getElem?_eq_none h'] at hi; cases hi)
  have hso := hall.st s (List.mem_of_getElem? hs)
  obtain ⟨q1, q2, q3, q4⟩ := ckBerth0 (ckBerths_at h3 hs hi)
  refine ⟨q1, q2, ?_, ?_⟩
  ·rcases Int.lt_or_le b.fl 0 with hl | hl
   ·rw [q3 hl]; omega
   ·have := q4 hl; omega
  ·rcases Int.lt_or_le b.fl 0 with hl | hl
   ·rw [q3 hl]; omega
   ·have := q4 hl; omega
 have hpad : ∀ b ∈ padB l, b ∈ l ∨ b = bnone := by
  intro b hb
  rcases List.mem_append.1 hb with hb | hb
  ·exact .inl hb
  ·exact .inr (List.eq_of_mem_replicate hb)
 refine ⟨hall, ⟨⟨padB_len (by omega), fun b hb => ?_⟩, fun b hb => ?_, fun i hi => ?_⟩, h2⟩
 ·rcases hpad b hb with hb | rfl
  ·have := hmem b hb; omega
  ·simp [bnone]
 ·rcases hpad b hb with hb | rfl
  ·exact (hmem b hb).2.1
  ·simp [bnone]; omega
 ·have : beAt (padB l) i = bnone := by
   simp only [beAt, padB, List.getD]
   rw [List.getElem?_append_right (by omega)]
   cases hx : (List.replicate (4 - l.length) bnone)[i - l.length]? with
   | none => rfl
   | some b => rw [List.eq_of_mem_replicate (List.mem_of_getElem? hx)]; rfl
  rw [this]; simp [bnone]

theorem askE0 {fs : List Fl} {ss : List St} {l : List Be} {ns : List Int} (h : askE fs ss l ns = 0) : ckPlan fs ss l = 0 ∧ badF fs.length ns = false := by
 unfold askE at h
 split at h
 ·rename_i h1; exact absurd h h1
 ·rename_i h1
  split at h
  ·cases h
  ·rename_i h2; exact ⟨Decidable.byContradiction h1, by simpa using h2⟩
theorem badF1 {nf n : Int} (h : badF nf [n] = false) : 0 ≤ n ∧ n < nf := by
 simp only [badF] at h
 split at h
 ·cases h
 ·rename_i h1; simp only [outs, not_or] at h1; omega
theorem askV_shape (vf vs : Value) (fs : List Fl) (ss : List St) (l : List Be) (ns : List Int) (h1 : one vf = true) (h2 : one vs = true) : ∃ va vb pp, askV vf vs fs ss l ns = .tuple #[.agg #[va, vb], planV pp, I (askE fs ss l ns)] ∧ one va = true ∧ one vb = true ∧ pp.length = 4 ∧ (askE fs ss l ns = 0 → va = vf ∧ vb = vs ∧ pp = padB l) := by
 unfold askV
 split
 ·rename_i h
  rw [h]
  obtain ⟨-, hp, -⟩ := plan_ck (askE0 h).1
  exact ⟨vf, vs, padB l, rfl, h1, h2, hp.ok.len, fun _ => ⟨rfl, rfl, rfl⟩⟩
 ·rename_i h
  exact ⟨.slice none 0 0, .slice none 0 0, [⟨0, 0⟩, ⟨0, 0⟩, ⟨0, 0⟩, ⟨0, 0⟩], rfl, rfl, rfl, rfl, fun h' => absurd h' h⟩
end Go.Mus

/- How many are as good; what stands; what is wrong. Conditions: none; over the given program. -/
namespace Go.Mus
set_option maxRecDepth 100000
set_option maxHeartbeats 4000000
def countB (fs : List Fl) (ss : List St) : Int × Int := if ckPlant fs ss ≠ 0 then (0, ckPlant fs ss) else ((bestF fs ss).2.length, 0)
theorem Count_fn (main : Side) (hS : ∀ S, main.ok S → ∃ Fin, S = Mn prog Fin) (hmb : main.b = true) (h : Hp) (fs : List Fl) (ss : List St) (vf vs : Value) (Eg : TypeId) (zg : Nat × Nat) (hf : Sl h Fl.row vf fs) (hs : Sl h St.row vs ss) (zf : Zs h vf) (zs : Zs h vs)
  (hg : h 0 = some (.cells #[rtV t_error] Eg zg)) (z0 : h.z 0) : Pu prog main n_floor_Count #[.agg #[vf, vs]] h (.tuple #[I (countB fs ss).1, I (countB fs ss).2]) := by
 obtain ⟨a, cap, rfl⟩ := hf.isSl
 obtain ⟨a', cap', rfl⟩ := hs.isSl
 refine Fnc.of_body at_floor_Count rfl (by show 1 ≤ 15; decide) [(0, .agg #[.slice a fs.length cap, .slice a' ss.length cap'])] ⟨rfl, trivial⟩ ?_
 refine W.seq <| W.region rfl ?_
 refine Ops.box (fun β1 => ?_)
 refine qs rfl rfl rfl <| qs rfl rfl rfl <| nn <| W.seq <| W.seq <| W.region rfl ?_
 refine lq rfl ?_
 refine cp (fun h' hE hL => Check_fn _ h' _ _ _ _ (hf.ext hE) (hs.ext hE)) ?_
 refine qs rfl rfl rfl <| nn <| W.seq <| W.region rfl <| qm rfl rfl rfl ?_
 refine o1 (y_neq rfl rfl rfl) rfl ?_
 refine nn ?_
 refine W.condp rfl (fun c8 => ?_) (fun c8 => ?_)
 ·refine W.seq <| W.region rfl <| qm rfl rfl rfl <| qs rfl rfl rfl <| qs rfl rfl rfl <| nn <| W.ret <| thn_r ?_
  refine lvp ?_
  simp only [countB]; rw [if_pos c8]; rfl
 ·have h0 : ckPlant fs ss = 0 := by simpa using c8
  have hall := hall_ck h0
  refine W.skip <| thn_n <| W.seq <| W.region rfl ?_
  refine lq rfl ?_
  refine o1 (y_build (cs := #[.slice a fs.length cap, .slice a' ss.length cap']) rfl rfl rfl) rfl ?_
  refine c0 (fun h' hE hL => best_fn _ hS hmb h' fs ss (.slice a fs.length cap) (.slice a' ss.length cap') Eg zg (hf.ext hE) (hs.ext hE) (zf.ext hE) (zs.ext hE) hall (hE.1 _ _ hg) (hE.2 _ z0)) (fun v A' hv => ?_)
  obtain ⟨u, S, rfl, hO, hsb⟩ := hv
  obtain ⟨ua, uc, rfl⟩ := hO.isSl
  have hsh : Shut A' := by
   obtain ⟨X, p, x⟩ := hsb
   intro q hq
   rcases List.mem_append.1 (p.symm.subset hq) with h | h
   ·exact hO.shut q h
   ·exact x q h
  first | refine o1 (y_field rfl rfl rfl) rfl ?_ | refine o1 (y_fieldA rfl rfl rfl) rfl ?_
  refine o1 (y_len rfl rfl) rfl ?_
  refine qs rfl rfl rfl <| qs rfl rfl rfl <| nn <| W.ret ?_
  refine lvp ?_ (hs := hsh.app (.cons rfl .nil))
  simp only [countB]; rw [if_neg c8]; rfl

def Sp.val (s : Sp) : Value := .agg #[I s.lo, I s.hi]
def standsV (fs : List Fl) (ss : List St) (l : List Be) (f d : Int) : Sp × Int :=
 if askE fs ss l [f] ≠ 0 then (⟨0, 0⟩, askE fs ss l [f]) else if outs d 0 21 then (⟨0, 0⟩, 1) else ((standsD fs ss (padB l) f).getD d.toNat ⟨0, 0⟩, 0)
theorem Stands_fn (main : Side) (h : Hp) (fs : List Fl) (ss : List St) (l : List Be) (f d : Int) (vf vs vl : Value) (hf : Sl h Fl.row vf fs) (hs : Sl h St.row vs ss) (hl : Sl h Be.row vl l) : Pu prog main n_floor_Stands #[.agg #[vf, vs], vl, I f, I d] h (.tuple #[(standsV fs ss l f d).1.val, I (standsV fs ss l f d).2]) := by
 obtain ⟨a, cap, rfl⟩ := hf.isSl
 obtain ⟨a', cap', rfl⟩ := hs.isSl
 obtain ⟨a2, cap2, rfl⟩ := hl.isSl
 obtain ⟨va, vb, pp, hsh, h1a, h1b, hpp, hok⟩ := askV_shape (.slice a fs.length cap) (.slice a' ss.length cap') fs ss l [f] rfl rfl
 have hsz : (flat Be.row pp).toArray.size = 8 := by simp [flat_len, hpp]
 have hon : ones (flat Be.row pp).toArray.toList = true := plan_ones
 have hon2 : ones (#[va, vb] : Array Value).toList = true := by simp [ones, h1a, h1b]
 refine Fnc.of_body at_floor_Stands rfl (by show 4 ≤ 35; decide) [(0, .agg #[.slice a fs.length cap, .slice a' ss.length cap']), (1, .slice a2 l.length cap2), (2, I f), (3, I d)] ⟨rfl, rfl, rfl, rfl, trivial⟩ ?_
 refine W.seq <| W.region rfl ?_
 refine Ops.box (fun β4 => ?_)
 refine Ops.new (fun β8 => ?_)
 refine qs rfl rfl rfl <| nn <| W.seq <| W.region rfl ?_
 refine lq rfl ?_
 refine qm rfl rfl rfl <| qm rfl rfl rfl ?_
 refine Ops.bsl (cs := #[I f]) (fun β17 => ?_) rfl
 refine cp (u := .tuple #[.agg #[va, vb], planV pp, I (askE fs ss l [f])]) (fun h' hE hL => by rw [← hsh]; exact asked_fn _ h' fs ss l [f] _ _ _ (.slice (some ⟨β17, 0, none⟩) 1 1) (hf.ext hE) (hs.ext hE) (hl.ext hE) (Sl.mk (hL β17 _ (.head _)) rfl (Part.all [I f])) (by simp)) ?_
 refine qm rfl rfl rfl <| oq (y_extract rfl rfl rfl) rfl wn rfl rfl <| oq (y_extract rfl rfl rfl) rfl wn rfl rfl <| oq (y_extract rfl rfl rfl) rfl wn rfl rfl ?_
 refine Ops.new (fun β10 => ?_)
 refine Ops.new (fun β11 => ?_)
 first | refine Ops.stoW ?_ | refine Ops.stoA ?_
 first | refine Ops.stoW ?_ | refine Ops.stoA ?_
 refine qs rfl rfl rfl <| nn <| W.seq <| W.seq <| W.region rfl <| qm rfl rfl rfl ?_
 refine o1 (y_neq rfl rfl rfl) rfl ?_
 refine nn ?_
 refine W.condp rfl (fun c23 => ?_) (fun c23 => ?_)
 ·refine W.seq <| W.region rfl ?_
  refine o1 (y_build rfl rfl rfl) rfl ?_
  refine qm rfl rfl rfl ?_
  first | refine Ops.stoW ?_ | refine Ops.stoA ?_
  refine qs rfl rfl rfl <| nn <| W.ret <| thn_r ?_
  refine lvc (hv := rAgg (rTmp rNil)) ⟨?_, by repeat (first | exact Shut.nil | refine Shut.cons rfl ?_)⟩
  simp only [standsV]; rw [if_pos c23]; rfl
 ·have h0 : askE fs ss l [f] = 0 := by simpa using c23
  obtain ⟨rfl, rfl, rfl⟩ := hok h0
  obtain ⟨hck, hbf⟩ := askE0 h0
  obtain ⟨hall, hp, hll⟩ := plan_ck hck
  obtain ⟨hf0, hf1⟩ := badF1 hbf
  refine W.skip <| thn_n <| W.seq <| W.seq <| W.region rfl <| qm rfl rfl rfl ?_
  refine cp (fun h' hE hL => outside_fn _ h' _ _ _) ?_
  refine nn ?_
  refine W.condp rfl (fun c27 => ?_) (fun c27 => ?_)
  ·refine W.seq <| W.region rfl ?_
   refine o1 (y_build rfl rfl rfl) rfl ?_
   first | refine Ops.stoW ?_ | refine Ops.stoA ?_
   refine qs rfl rfl rfl <| nn <| W.ret <| thn_r ?_
   refine lvc (hv := rAgg (rTmp rNil)) ⟨?_, by repeat (first | exact Shut.nil | refine Shut.cons rfl ?_)⟩
   simp only [standsV]; rw [if_neg c23, if_pos c27]; rfl
  ·have hd : 0 ≤ d ∧ d < 22 := by simp only [outs, not_or] at c27; omega
   obtain ⟨D, hD⟩ : ∃ D, standsD fs ss (padB l) f = D := ⟨_, rfl⟩
   have hDl : D.length = 22 := by rw [← hD]; exact standsD_len
   obtain ⟨s, hsk, -⟩ := has (show d.toNat < D.length by omega)
   have hex : (flat Sp.row D).toArray.extract (d.toNat * 2) (d.toNat * 2 + 2) = #[I s.lo, I s.hi] := days_ex hsk
   refine W.skip <| thn_n <| W.seq <| W.region rfl ?_
   refine lq rfl ?_
   refine lq rfl ?_
   refine qm rfl rfl rfl ?_
   refine cp (u := daysV D) (fun h' hE hL => by rw [← hD]; exact stands_fn _ h' fs ss (padB l) f _ _ (hf.ext hE) (hs.ext hE) hall hp hf0 hf1) ?_
   refine qm rfl rfl rfl ?_
   first | refine o1 (y_index rfl rfl rfl (by omega) (by omega) (by first | assumption | rfl)) rfl ?_ | refine o1 (y_indexA rfl rfl rfl (by omega) (by omega) (by first | assumption | rfl)) rfl ?_
   first | refine Ops.stoW ?_ | refine Ops.stoA ?_
   refine qs rfl rfl rfl <| nn <| W.ret ?_
   refine lvc (hv := rAgg (rTmp rNil)) ⟨?_, by repeat (first | exact Shut.nil | refine Shut.cons rfl ?_)⟩
   simp only [standsV]; rw [if_neg c23, if_neg c27, hD, List.getD, hsk]; rfl
end Go.Mus

/- What is wrong with a plan. Conditions: none; over the given program. -/
namespace Go.Mus
set_option maxRecDepth 100000
set_option maxHeartbeats 4000000
def wcell (c : Array Value) : Err → Array Value
 | none => c
 | some (q, f) => #[faultV (some q), I f]
theorem As2_fn (main : Side) (h : Hp) (e : Err) (β : Nat) (c : Array Value) (Eg : TypeId) (zg : Nat × Nat) (hc : c.size = 2) (hg : h 0 = some (.cells #[rtV t_error] Eg zg)) :
  Fnc prog main n_errors_As #[errV e, .iface t_p_wrong (.pointer (some ⟨β, 0, none⟩))] h [(β, .cells c t_wrong (0, 0))] (fun v A => v = .bool e.isSome ∧ Sb [(β, .cells (wcell c e) t_wrong (0, 0))] A) := by
 rcases e with _ | ⟨q, f⟩
 ·refine (Fnc.frame (A := []) (B := [(β, .cells c t_wrong (0, 0))]) fun h' _ _ => AsNil_fn main h' (.iface t_p_wrong (.pointer (some ⟨β, 0, none⟩)))).mono ?_
  rintro v F ⟨A', ⟨rfl, hA⟩, rfl⟩
  exact ⟨rfl, Sb.left .refl hA⟩
 ·exact As_fn main h (some q) f β c Eg zg hc hg

def errW : Err → Int × Int × Int
 | none => (-1, -1, 0)
 | some ((_, n), f) => (f, n, 0)
def wrongV (fs : List Fl) (ss : List St) (l : List Be) : Int × Int × Int :=
 if askE fs ss l [] ≠ 0 then (0, 0, askE fs ss l []) else errW (inspF fs ss (padB l))
theorem Wrong_fn (main : Side) (h : Hp) (fs : List Fl) (ss : List St) (l : List Be) (vf vs vl : Value) (Eg : TypeId) (zg : Nat × Nat) (hf : Sl h Fl.row vf fs) (hs : Sl h St.row vs ss) (hl : Sl h Be.row vl l) (hg : h 0 = some (.cells #[rtV t_error] Eg zg)) : Pu prog main n_floor_Wrong #[.agg #[vf, vs], vl] h (.tuple #[I (wrongV fs ss l).1, I (wrongV fs ss l).2.1, I (wrongV fs ss l).2.2]) := by
 obtain ⟨a, cap, rfl⟩ := hf.isSl
 obtain ⟨a', cap', rfl⟩ := hs.isSl
 obtain ⟨a2, cap2, rfl⟩ := hl.isSl
 obtain ⟨va, vb, pp, hsh, h1a, h1b, hpp, hok⟩ := askV_shape (.slice a fs.length cap) (.slice a' ss.length cap') fs ss l [] rfl rfl
 have hsz : (flat Be.row pp).toArray.size = 8 := by simp [flat_len, hpp]
 have hon : ones (flat Be.row pp).toArray.toList = true := plan_ones
 have hon2 : ones (#[va, vb] : Array Value).toList = true := by simp [ones, h1a, h1b]
 refine Fnc.of_body at_floor_Wrong rfl (by show 2 ≤ 30; decide) [(0, .agg #[.slice a fs.length cap, .slice a' ss.length cap']), (1, .slice a2 l.length cap2)] ⟨rfl, rfl, trivial⟩ ?_
 refine W.seq <| W.region rfl ?_
 refine Ops.box (fun β2 => ?_)
 refine qs rfl rfl rfl <| qs rfl rfl rfl <| qs rfl rfl rfl <| nn <| W.seq <| W.region rfl ?_
 refine lq rfl ?_
 refine qm rfl rfl rfl ?_
 refine cp (u := .tuple #[.agg #[va, vb], planV pp, I (askE fs ss l [])]) (fun h' hE hL => by rw [← hsh]; exact asked_fn _ h' fs ss l [] _ _ _ (.slice none 0 0) (hf.ext hE) (hs.ext hE) (hl.ext hE) .nil (by simp)) ?_
 refine qm rfl rfl rfl <| oq (y_extract rfl rfl rfl) rfl wn rfl rfl <| oq (y_extract rfl rfl rfl) rfl wn rfl rfl <| oq (y_extract rfl rfl rfl) rfl wn rfl rfl ?_
 refine Ops.new (fun β7 => ?_)
 refine Ops.new (fun β8 => ?_)
 first | refine Ops.stoW ?_ | refine Ops.stoA ?_
 first | refine Ops.stoW ?_ | refine Ops.stoA ?_
 refine qs rfl rfl rfl <| nn <| W.seq <| W.seq <| W.region rfl <| qm rfl rfl rfl ?_
 refine o1 (y_neq rfl rfl rfl) rfl ?_
 refine nn ?_
 refine W.condp rfl (fun c18 => ?_) (fun c18 => ?_)
 ·refine W.seq <| W.region rfl <| qm rfl rfl rfl <| qs rfl rfl rfl <| qs rfl rfl rfl <| qs rfl rfl rfl <| nn <| W.ret <| thn_r ?_
  refine lvp ?_
  simp only [wrongV]; rw [if_pos c18]; rfl
 ·have h0 : askE fs ss l [] = 0 := by simpa using c18
  obtain ⟨rfl, rfl, rfl⟩ := hok h0
  obtain ⟨hall, hp, hll⟩ := plan_ck (askE0 h0).1
  obtain ⟨e, he⟩ : ∃ e, inspF fs ss (padB l) = e := ⟨_, rfl⟩
  have hw : wrongV fs ss l = errW e := by simp only [wrongV]; rw [if_neg c18, he]
  rw [hw]
  refine W.skip <| thn_n <| W.seq <| W.region rfl ?_
  refine Ops.new (fun β9 => ?_)
  refine nn <| W.seq <| W.seq <| W.region rfl ?_
  refine lq rfl ?_
  refine lq rfl ?_
  refine cp (u := errV e) (fun h' hE hL => by rw [← he]; exact inspect_fn _ h' fs ss (padB l) _ _ Eg zg (hf.ext hE) (hs.ext hE) hall hp (hE.1 _ _ hg)) ?_
  first | refine o1 (yfcN rfl rfl) rfl ?_ | refine o1 (yfc rfl rfl) rfl ?_
  refine cg (A := [(β9, _)]) .head (fun h' hE hL => As2_fn _ h' e β9 _ Eg zg rfl (hE.1 _ _ hg)) (fun v A' hv => ?_)
  obtain ⟨rfl, hsb⟩ := hv
  refine Ops.sb (hsb.app .refl) ?_
  refine nn ?_
  refine W.cond rfl (fun c24 => ?_) (fun c24 => ?_)
  ·obtain ⟨⟨cc, n⟩, f, rfl⟩ : ∃ z f, e = some (z, f) := by
    cases e with
    | none => cases c24
    | some z => exact ⟨z.1, z.2, rfl⟩
   refine W.seq ?_
   refine W.drawP1 (n := 8) rfl ?_
   refine a1 0 (y_fieldAddr rfl rfl) rfl ?_
   refine a1 1 (yld rfl rfl) rfl ?_
   refine a1 2 (y_fieldAddr rfl rfl) rfl ?_
   refine a1 3 (yld rfl rfl) rfl ?_
   refine acday (i := 4) ?_ (.inr (Keeps.one (.head _) Keeps.nil))
   refine a1 5 (y_assign rfl rfl) rfl ?_
   refine a1 6 (y_assign rfl rfl) rfl ?_
   refine a1 7 (y_assign rfl rfl) rfl ?_
   refine az ?_
   refine thn_n <| W.ret <| thn_r ?_
   exact lvp rfl
  ·have hen : e = none := by
    cases e with
    | none => rfl
    | some z => cases c24
   subst hen
   refine W.skip <| thn_n <| W.seq <| W.region rfl <| qs rfl rfl rfl <| qs rfl rfl rfl <| qs rfl rfl rfl <| nn <| W.ret ?_
   exact lvp rfl
end Go.Mus
