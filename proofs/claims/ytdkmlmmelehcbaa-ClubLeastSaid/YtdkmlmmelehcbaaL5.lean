/- A part of a program logic over the kit's walk rules, and contracts of functions in it. Conditions: as each theorem says. -/
import Derived.Test.YtdkmlmmelehcbaaL4
set_option linter.all false
namespace Go.XL
open Go.Proofs
set_option linter.unusedSimpArgs false
set_option linter.unusedVariables false
set_option maxRecDepth 100000
set_option maxHeartbeats 4000000
theorem take_succ_eq2 {α : Type} {l m : List α} {i : Nat} (h : l.take i = m.take i) (hl : i < l.length) (hm : i < m.length) (e : l[i] = m[i]) : l.take (i + 1) = m.take (i + 1) := by
  rw [List.take_succ_eq_append_getElem hl, List.take_succ_eq_append_getElem hm, h, e]
theorem eq_of_take {α : Type} {l m : List α} {i : Nat} (h : l.take i = m.take i) (hl : l.length ≤ i) (hm : m.length ≤ i) : l = m := by
  rwa [List.take_of_length_le hl, List.take_of_length_le hm] at h
theorem ints_pc (l : List Int) (h : l.length ≤ 2147483647) : PC Try.prog 51 [ints l] (.own false 3 1 (l.map cI)) := by
  refine DC.of_run Try.func51 rfl Try.ntmps51 Try.results51 (by simp) (fun _ => ?_); simp only [argV_cons, argV_nil, go_sem, Nat.zero_add, Nat.reduceAdd]
  repeat' (first | with_reducible (refine DS.nilOwn (t := 2) yU (by first | exact .inl rfl | exact .inr rfl) yE ?_) | (with_reducible refine DS.mv (t := 2) yU (by first | exact .inl rfl | exact .inr rfl) yE ?_; simp only [strip_tmp, strip_const, lookV_cons, Nat.reduceEqDiff, ↓reduceIte, stripO_own, stripO_lst, stripO_v, stripO_plc, stripO_agg, stripO_fn, stripO_ifc]) | (with_reducible first | refine DS.fltS yU yU yE ?_ | refine DS.opsNil ?_ | refine DS.seq ?_ | refine DS.regionL ?_) | (refine DS.append (mm := false) yU yE yE yU (by decide) yE (by first | exact .inl rfl | exact .inr ⟨rfl, rfl⟩) yE yX0 (by first | exact len_map cI_len _ | exact len_map cR_len _ | exact len_map Member.len _ | exact len_map Sitting.len _ | exact len_map Ruling.len _ | (simp only [List.mem_cons, List.not_mem_nil, or_false, forall_eq]; rfl) | simp) ⟨by (try simp only [List.length_map, List.length_cons, List.length_nil, List.length_append, List.length_take, List.length_drop]); omega, by decide⟩ ?_; simp only [strip_tmp, strip_const, lookV_cons, Nat.reduceEqDiff, ↓reduceIte, stripO_own, stripO_lst, stripO_v, stripO_plc, stripO_agg, stripO_fn, stripO_ifc]) | refine DS.retT [] yE trivial ?_ | fail)
  rfl
theorem sameInts_pc (a b : List Int) : PC Try.prog 62 [ints a, ints b] (Bo (decide (a = b))) := by
  refine DC.of_run Try.func62 rfl Try.ntmps62 Try.results62 (by simp) (fun _ => ?_); simp only [argV_cons, argV_nil, go_sem, Nat.zero_add, Nat.reduceAdd]
  refine DS.bnd (t := 0) yG (.inl rfl) (fun hb0 => ?_); simp only [List.length_map] at hb0
  repeat' (first | (with_reducible first | refine DS.fltS yU yU yE ?_ | refine DS.opsNil ?_ | refine DS.seq ?_ | refine DS.regionL ?_ | (refine DS.cE yE ?_; refine CG.np (fun _ => ?_) (fun _ => ?_)) | refine DS.block ?_ | refine DS.skip ?_) | refine DS.retT [] yE trivial ?_ | fail)
  · rename_i h; have : a ≠ b := fun e => by subst e; exact h rfl
    simp [tupV, this]
  refine DS.loopK [0, 1] (by (simp only [go_sem, Nat.reduceEqDiff, ↓reduceIte]; exact rfl)) (fun (i : Nat) => [(5, I i)]) (fun (i : Nat) => i ≤ a.length ∧ a.take i = b.take i) (fun (i : Nat) => a.length - i) 0 yS (by simp) (fun i B hI hB => ?_); try dsimp only at hI hB; simp only [app_cons', app_nil']
  repeat' (first | (with_reducible first | refine DS.fltS yU yU yE ?_ | refine DS.opsNil ?_ | refine DS.seq ?_ | refine DS.regionL ?_ | (refine DS.cE yE ?_; first | refine CG.np (fun _ => ?_) (fun _ => ?_) | refine CG.p (fun _ => ?_) (fun _ => ?_)) | refine DS.blk ?_ | refine DS.block ?_ | refine DS.exit yU ?_ | refine DS.skip ?_) | refine DS.drawL (id := 6) [0, 1, 2, 3, 4, 5, 6, 7] 8 (by kernel_rfl) mixed (by simp only [pickL_cons, pickL_nil, get_zero', get_cons', pickO_some]; exact rfl) (by simp only [drop_zero', drop_cons', List.drop_nil]; exact rfl) ?_ | (with_reducible first | refine DD.fltS yU yU yU yE ?_ | refine DD.nil0 ?_) | refine DS.retT [] yE trivial ?_ | fail)
  · rename_i h1 h2
    have : a ≠ b := fun e => h2 (by subst e; rfl)
    simp [tupV, this]
  · rename_i h1 h2
    exact DS.back (hB (i + 1) _ _ (by omega) (⟨by omega, take_succ_eq2 hI.2 (by omega) (by omega) h2⟩) yS yS (fun b o e => by first | exact e | (simp only [lookS_cons]; split <;> simp_all)))
  · rename_i h1
    have := eq_of_take hI.2 (by omega) (by omega)
    simp [tupV, this]
theorem SameLists_pc (a b : List (List Int)) : PC Try.prog 61 [rows a, rows b] (Bo (decide (a = b))) := by
  refine DC.of_run Try.func61 rfl Try.ntmps61 Try.results61 (by simp) (fun _ => ?_); simp only [argV_cons, argV_nil, go_sem, Nat.zero_add, Nat.reduceAdd]
  refine DS.bnd (t := 0) yG (.inl rfl) (fun hb0 => ?_); simp only [List.length_map] at hb0
  repeat' (first | (with_reducible first | refine DS.fltS yU yU yE ?_ | refine DS.opsNil ?_ | refine DS.seq ?_ | refine DS.regionL ?_ | (refine DS.cE yE ?_; refine CG.np (fun _ => ?_) (fun _ => ?_)) | refine DS.block ?_ | refine DS.skip ?_) | refine DS.retT [] yE trivial ?_ | fail)
  · rename_i h; have : a ≠ b := fun e => by subst e; exact h rfl
    simp [tupV, this]
  refine DS.loopK [0, 1] (by (simp only [go_sem, Nat.reduceEqDiff, ↓reduceIte]; exact rfl)) (fun (i : Nat) => [(5, I i)]) (fun (i : Nat) => i ≤ a.length ∧ a.take i = b.take i) (fun (i : Nat) => a.length - i) 0 yS (by simp) (fun i B hI hB => ?_); try dsimp only at hI hB; simp only [app_cons', app_nil']
  repeat' (first | (with_reducible first | refine DS.fltS yU yU yE ?_ | refine DS.opsNil ?_ | refine DS.seq ?_ | refine DS.regionL ?_ | (refine DS.cE yE ?_; first | refine CG.np (fun _ => ?_) (fun _ => ?_) | refine CG.p (fun _ => ?_) (fun _ => ?_)) | refine DS.blk ?_ | refine DS.block ?_ | refine DS.exit yU ?_ | refine DS.skip ?_) | refine DS.pcS inferInstance (sameInts_pc _ _) yR yT ?_ | refine DS.drawL (id := 6) [0, 1, 2, 3, 4, 5, 6, 7] 8 (by kernel_rfl) mixed (by simp only [pickL_cons, pickL_nil, get_zero', get_cons', pickO_some]; exact rfl) (by simp only [drop_zero', drop_cons', List.drop_nil]; exact rfl) ?_ | (with_reducible first | refine DD.fltS yU yU yU yE ?_ | refine DD.nil0 ?_) | refine DS.retT [] yE trivial ?_ | fail)
  · rename_i h1 h2
    have : a ≠ b := fun e => h2 (by subst e; rfl)
    simp [tupV, this]
  · rename_i h1 h2
    exact DS.back (hB (i + 1) _ _ (by omega) (⟨by omega, take_succ_eq2 hI.2 (by omega) (by omega) h2⟩) yS yS (fun b o e => by first | exact e | (simp only [lookS_cons]; split <;> simp_all)))
  · rename_i h1
    have := eq_of_take hI.2 (by omega) (by omega)
    simp [tupV, this]
theorem SameTables_pc (a b : List (List Int)) : PC Try.prog 20 [rows a, rows b] (Bo (decide (a = b))) := by
  refine DC.of_run Try.func20 rfl Try.ntmps20 Try.results20 (by simp) (fun _ => ?_); simp only [argV_cons, argV_nil, go_sem, Nat.zero_add, Nat.reduceAdd]
  repeat' (first | (with_reducible first | refine DS.fltS yU yU yE ?_ | refine DS.opsNil ?_ | refine DS.seq ?_ | refine DS.regionL ?_) | refine DS.pcS inferInstance (SameLists_pc _ _) yR yT ?_ | refine DS.retT [] yE trivial ?_ | fail)
  rfl
theorem kitIn_pc (l : List Int) (x : Int) : PC Try.prog 101 [ints l, I x] (Bo (decide (x ∈ l))) := by
  refine DC.of_run Try.func101 rfl Try.ntmps101 Try.results101 (by simp) (fun _ => ?_); simp only [argV_cons, argV_nil, go_sem, Nat.zero_add, Nat.reduceAdd]
  refine DS.bnd (t := 0) yG (.inl rfl) (fun hb0 => ?_); simp only [List.length_map] at hb0
  repeat' (first | (with_reducible first | refine DS.fltS yU yU yE ?_ | refine DS.opsNil ?_ | refine DS.seq ?_ | refine DS.regionL ?_ | refine DS.block ?_) | fail)
  refine DS.loopK [0, 1] (by (simp only [go_sem, Nat.reduceEqDiff, ↓reduceIte]; exact rfl)) (fun (i : Nat) => [(5, I i)]) (fun (i : Nat) => i ≤ l.length ∧ decide (x ∈ l) = decide (x ∈ l.drop i)) (fun (i : Nat) => l.length - i) 0 yS (by simp) (fun i B hI hB => ?_); try dsimp only at hI hB; simp only [app_cons', app_nil']
  repeat' (first | (with_reducible first | refine DS.fltS yU yU yE ?_ | refine DS.opsNil ?_ | refine DS.seq ?_ | refine DS.regionL ?_ | (refine DS.cE yE ?_; refine CG.p (fun _ => ?_) (fun _ => ?_)) | refine DS.blk ?_ | refine DS.block ?_ | refine DS.exit yU ?_ | refine DS.skip ?_) | refine DS.retT [] yE trivial ?_ | fail)
  · rename_i h1 h2
    obtain ⟨_, r, dr1, rfl, dr3⟩ := drop_at (l := l) (i := i) (by omega); rw [dr1] at hI
    rw [hI.2]; simp [tupV, h2]
  · rename_i h1 h2
    obtain ⟨_, r, dr1, rfl, dr3⟩ := drop_at (l := l) (i := i) (by omega); rw [dr1] at hI
    exact DS.back (hB (i + 1) _ _ (by omega) (⟨by omega, by rw [hI.2, dr3]; simp [Ne.symm h2]⟩) yS yS (fun b o e => by first | exact e | (simp only [lookS_cons]; split <;> simp_all)))
  · have de1 := drop_end (l := l) (i := i) (by omega); rw [de1] at hI
    rw [hI.2]; simp [tupV]
end Go.XL
namespace Go.XL
open Go.Proofs
set_option linter.unusedSimpArgs false
set_option linter.unusedVariables false
set_option maxRecDepth 100000
set_option maxHeartbeats 4000000
theorem take_all {α β : Type} (f : α → β) (l : List α) : (l.map f).take l.length = l.map f := List.take_of_length_le (by simp)
theorem drop_mapS {α β : Type} (f : α → β) (l : List α) (n : Nat) : (l.map f).drop n = (l.drop n).map f := by rw [List.map_drop]
theorem moreLL_at {st : List Int → Int → Bool} {f : List Int → List Int → List (List Int)} {t l : List Int} {i : Nat} (h : i < l.length) : moreLL st f t (l.drop i) = (if st t l[i] = true then (f (t ++ [l[i]]) (l.drop (i + 1))).map (l[i] :: ·) else []) ++ moreLL st f t (l.drop (i + 1)) := by
  rw [List.drop_eq_getElem_cons h, moreLL]
theorem moreL_mem (st : List Int → Int → Bool) : ∀ (n : Nat) (t ids : List Int), ∀ x ∈ moreL st n t ids, x.length = n ∧ ∀ a ∈ x, a ∈ ids
  | 0, t, ids, x, h => by simp only [moreL, List.mem_singleton] at h; subst h; simp
  | n + 1, t, ids, x, h => by
    have key : ∀ l : List Int, ∀ x ∈ moreLL st (moreL st n) t l, x.length = n + 1 ∧ ∀ a ∈ x, a ∈ l := by
      intro l
      induction l with
      | nil => intro x h; simp [moreLL] at h
      | cons id r ih =>
        intro x h
        simp only [moreLL, List.mem_append] at h
        rcases h with h | h
        · split at h
          · obtain ⟨y, hy, rfl⟩ := List.mem_map.1 h
            obtain ⟨h1, h2⟩ := moreL_mem st n _ _ y hy
            refine ⟨by simp [h1], fun a ha => ?_⟩
            rcases List.mem_cons.1 ha with rfl | ha
            · exact List.mem_cons_self ..
            · exact List.mem_cons_of_mem _ (h2 a ha)
          · simp at h
        · obtain ⟨h1, h2⟩ := ih x h
          exact ⟨h1, fun a ha => List.mem_cons_of_mem _ (h2 a ha)⟩
    exact key ids x h
theorem yX7 {p : Prop} (h : p := by (simp (disch := omega) only [go_sem, dopV, Option.map_some, Option.map_none, Option.bind_some, Option.bind_none, ↓reduceIte, Nat.reduceEqDiff, Nat.reduceLT, Nat.reduceLeDiff, Nat.reduceAdd, Nat.reduceMul, Nat.reduceSub, Nat.zero_add, Nat.add_zero, Nat.zero_le, Nat.zero_mul, Nat.mul_one, Nat.one_mul, Int.natCast_zero, Int.toNat_zero, Int.reduceToNat, Int.reduceLT, Int.reduceLE, Int.reduceEq, decide_true, decide_false, true_and, and_true, Bool.and_self, Bool.and_true, Bool.true_and, Bool.not_true, Bool.not_false, IntWalk.toNatUp, IntWalk.iteOmega, IntWalk.i64_in, Option.isSome_some, not_true_eq_false, not_false_eq_true, Option.getD_some, Option.getD_none, Int.toNat_natCast, List.length_map, List.getElem?_map, List.getElem?_eq_getElem, V.flat, V.one, List.all_cons, List.all_nil, *, List.forall_mem_map, implies_true, take_all]; exact rfl)) : p := h
theorem more_rc (S : Sto) {bx bp R : Nat} {c : Club} {rs : List (List Int)} {bs : List Nat} {budget steps : Int} {met : Int → Int → Bool} (hs : c.Small)
    (hx : lookS S bx = some (.cells (sC c rs bp R (.own false 134 1 (bs.map (rowC c.members.length))) budget steps) 102)) (hm : MetR S bs c met) :
    ∀ (n : Nat) (t ids : List Int), n ≤ 4 → ids.length ≤ 40 → t.length ≤ 100 - n → (∀ a ∈ t, ¬ findS c a < 0) → (∀ a ∈ ids, ¬ findS c a < 0) →
    RC Try.prog 99 [.v (.pointer (some ⟨bx, 0, none⟩)), ints t, ints ids, I n] S (.own false 22 1 ((moreL (strangerS met) n t ids).map cR))
  | 0, t, ids, hn, hl, htl, ht, hi => by
    show RC Try.prog 99 [.v (.pointer (some ⟨bx, 0, none⟩)), ints t, ints ids, I 0] S _
    refine DC.of_run Try.func99 rfl Try.ntmps99 Try.results99 (by simp) (fun _ => ?_); simp only [argV_cons, argV_nil, go_sem, Nat.zero_add, Nat.reduceAdd]
    repeat' (first | with_reducible (refine DS.nilOwn (t := 8) yU (by first | exact .inl rfl | exact .inr rfl) yE ?_) | (with_reducible refine DS.mv (t := 8) yU (by first | exact .inl rfl | exact .inr rfl) yE ?_; simp only [strip_tmp, strip_const, lookV_cons, Nat.reduceEqDiff, ↓reduceIte, stripO_own, stripO_lst, stripO_v, stripO_plc, stripO_agg, stripO_fn, stripO_ifc]) | (with_reducible first | refine DS.fltS yU yU yE ?_ | refine DS.opsNil ?_ | refine DS.seq ?_ | refine DS.regionL ?_ | (refine DS.cE yE ?_; refine CG.yes ?_)) | (refine DS.bsl yU yE yE ?_; simp only [go_sem, Nat.zero_add, Nat.reduceAdd]) | fail)
    refine DS.nrm (t := 8) yG ?_
    refine DS.retA yG ⟨?_, rfl⟩
    rfl
  | n + 1, t, ids, hn, hl, htl, ht, hi => by
    have ih := more_rc S hs hx hm n
    have hlen : (moreL (strangerS met) (n + 1) t ids).length ≤ 41 ^ 4 := Nat.le_trans (moreL_len _ _ _ _) (Nat.le_trans (Nat.pow_le_pow_left (show ids.length + 1 ≤ 41 by omega) _) (Nat.pow_le_pow_right (by omega) hn))
    have hne : ¬ (((n + 1 : Nat) : Int) = 0) := by omega
    have hsub : ((n + 1 : Nat) : Int) - 1 = n := by omega
    refine DC.of_run Try.func99 rfl Try.ntmps99 Try.results99 (by simp) (fun _ => ?_); simp only [argV_cons, argV_nil, go_sem, Nat.zero_add, Nat.reduceAdd]
    repeat' (first | (with_reducible first | (refine DS.nilOwn (t := 8) yU (by first | exact .inl rfl | exact .inr rfl) yE ?_) | (refine DS.nilOwn (t := 9) yU (by first | exact .inl rfl | exact .inr rfl) yE ?_) | refine DS.fltS yU yU yE ?_ | refine DS.opsNil ?_ | refine DS.seq ?_ | refine DS.regionL ?_ | (refine DS.cE yE ?_; refine CG.no ?_) | refine DS.block ?_ | refine DS.skip ?_) | fail)
    refine DS.loopK [0, 1, 2, 3] (by (simp only [go_sem, Nat.reduceEqDiff, ↓reduceIte]; exact rfl)) (fun (i : Nat × List (List Int)) => [(9, .own false 22 1 (i.2.map cR)), (10, I i.1)]) (fun (i : Nat × List (List Int)) => i.1 ≤ ids.length ∧ i.2 ++ moreLL (strangerS met) (moreL (strangerS met) n) t (ids.drop i.1) = moreL (strangerS met) (n + 1) t ids) (fun (i : Nat × List (List Int)) => ids.length - i.1) (0, []) yS (by simp [moreL]) (fun i B hI hB => ?_); try dsimp only at hI hB; simp only [app_cons', app_nil']
    repeat' (first | (with_reducible refine DS.mv (t := 8) yU (by first | exact .inl rfl | exact .inr rfl) yE ?_; simp only [strip_tmp, strip_const, lookV_cons, Nat.reduceEqDiff, ↓reduceIte, stripO_own, stripO_lst, stripO_v, stripO_plc, stripO_agg, stripO_fn, stripO_ifc]) | (with_reducible refine DS.mv (t := 64) yU (by first | exact .inl rfl | exact .inr rfl) yE ?_; simp only [strip_tmp, strip_const, lookV_cons, Nat.reduceEqDiff, ↓reduceIte, stripO_own, stripO_lst, stripO_v, stripO_plc, stripO_agg, stripO_fn, stripO_ifc]) | (with_reducible first | refine DS.fltS yU yU yE ?_ | refine DS.opsNil ?_ | refine DS.seq ?_ | refine DS.regionL ?_ | (refine DS.cE yE ?_; first | refine CG.p (fun _ => ?_) (fun _ => ?_) | refine CG.b (fun _ => ?_) (fun _ => ?_)) | refine DS.blk ?_ | refine DS.block ?_ | refine DS.exit yU ?_ | refine DS.skip ?_) | refine DS.rcS inferInstance (fair_rc S hs hx hm t (ids[i.1]'(by omega)) ht (hi _ (List.getElem_mem (by omega)))) yR yT ?_ | refine DS.drawL (id := 8) [0, 1, 2, 3, 4, 5, 6, 7, 8, 9, 10, 11, 12, 13, 14] 15 (by kernel_rfl) mixed (by simp only [pickL_cons, pickL_nil, get_zero', get_cons', pickO_some]; exact rfl) (by simp only [drop_zero', drop_cons', List.drop_nil]; exact rfl) ?_ | with_reducible refine DD.fltS yU yU yU yE ?_ | refine DD.pcS inferInstance (ints_pc t (by omega)) yU yT ?_; simp only [delV_cons', delV_nil', Nat.reduceEqDiff, ↓reduceIte] | (refine DD.bslS yU yE yE ?_; simp only [go_sem, Nat.zero_add, Nat.reduceAdd]; simp only [delV_cons', delV_nil', Nat.reduceEqDiff, ↓reduceIte]) | (refine DD.append (mm := false) yU yE yE yU (by decide) yE (by first | exact .inl rfl | exact .inr ⟨rfl, rfl⟩) yE yX0 (by first | exact len_map cI_len _ | exact len_map cR_len _ | exact len_map Member.len _ | exact len_map Sitting.len _ | exact len_map Ruling.len _ | (simp only [List.mem_cons, List.not_mem_nil, or_false, forall_eq]; rfl) | simp) ⟨by (try simp only [List.length_map, List.length_cons, List.length_nil, List.length_append, List.length_take, List.length_drop]); omega, by decide⟩ ?_; simp only [strip_tmp, strip_const, lookV_cons, Nat.reduceEqDiff, ↓reduceIte, stripO_own, stripO_lst, stripO_v, stripO_plc, stripO_agg, stripO_fn, stripO_ifc]; simp only [delV_cons', delV_nil', Nat.reduceEqDiff, ↓reduceIte]) | refine DS.retA yE ⟨?_, rfl⟩ | fail)
    · have hlr : (ids.drop (i.1 + 1)).length ≤ 40 := by simp; omega
      have htr : ∀ a ∈ t ++ [ids[i.1]'(by omega)], ¬ findS c a < 0 := fun a ha => by
        rcases List.mem_append.1 ha with ha | ha
        · exact ht a ha
        · rw [List.mem_singleton.1 ha]; exact hi _ (List.getElem_mem (by omega))
      have H := And.intro (ih (t ++ [ids[i.1]'(by omega)]) (ids.drop (i.1 + 1)) (by omega) hlr (by simp; omega) htr (fun a ha => hi a (List.mem_of_mem_drop ha))) hlen
      clear ih htr hlen hlr
      repeat' (first | (with_reducible first | refine DD.fltS yU yU yU yX7 ?_ | refine DD.nil0 ?_) | fail)
      · refine DS.rcS inferInstance H.1 yR (by simp (disch := omega) only [go_sem, dopV, Option.map_some, Option.map_none, Option.bind_some, Option.bind_none, ↓reduceIte, Nat.reduceEqDiff, Nat.reduceLT, Nat.reduceLeDiff, Nat.reduceAdd, Nat.reduceMul, Nat.reduceSub, Nat.zero_add, Nat.add_zero, Nat.zero_le, Nat.zero_mul, Nat.mul_one, Nat.one_mul, Int.natCast_zero, Int.toNat_zero, Int.reduceToNat, Int.reduceLT, Int.reduceLE, Int.reduceEq, decide_true, decide_false, true_and, and_true, Bool.and_self, Bool.and_true, Bool.true_and, Bool.not_true, Bool.not_false, IntWalk.toNatUp, IntWalk.iteOmega, IntWalk.i64_in, Option.isSome_some, not_true_eq_false, not_false_eq_true, Option.getD_some, Option.getD_none, Int.toNat_natCast, List.length_map, List.getElem?_map, List.getElem?_eq_getElem, V.flat, V.one, List.all_cons, List.all_nil, *, drop_mapS, List.map_append, ints]) ?_
        repeat' (first | (with_reducible first | refine DS.fltS yU yU yE ?_ | refine DS.opsNil ?_ | refine DS.seq ?_ | refine DS.regionL ?_ | refine DS.block ?_) | fail)
        rename_i hst
        have hB0 := hB
        have hI1 := hI.1
        have hI2 := hI.2
        rw [moreLL_at (by omega), if_pos hst] at hI2
        have hmem : ∀ x ∈ moreL (strangerS met) n (t ++ [ids[i.1]'(by omega)]) (ids.drop (i.1 + 1)), x.length = n := fun x hx => (moreL_mem _ _ _ _ x hx).1
        have hlen := H.2
        rw [← hI2] at hlen
        clear hB H hI
        generalize moreL (strangerS met) n (t ++ [ids[i.1]'(by omega)]) (ids.drop (i.1 + 1)) = X at *
        simp only [List.length_append, List.length_map] at hlen
        refine DS.loopK [0, 1, 2, 3, 10, 11] (by (simp only [go_sem, Nat.reduceEqDiff, ↓reduceIte]; exact rfl)) (fun (k : Nat × List (List Int)) => [(9, .own false 22 1 (k.2.map cR)), (12, I k.1)]) (fun (k : Nat × List (List Int)) => k.1 ≤ X.length ∧ i.2 ++ (X.take k.1).map (ids[i.1]'(by omega) :: ·) = k.2 ∧ k.2.length = i.2.length + k.1) (fun (k : Nat × List (List Int)) => X.length - k.1) (0, i.2) yS (by simp) (fun k B hI hB => ?_); try dsimp only at hI hB; simp only [app_cons', app_nil']
        have hI3 := hI.2.1
        have hI4 := hI.2.2
        have hI5 := hI.1
        clear hI
        have H := And.intro hI2 hI3
        clear hI2 hI3
        by_cases hk : k.1 < X.length
        · have hkl := hmem _ (List.getElem_mem hk)
          repeat' (first | (with_reducible refine DS.mv (t := 9) yU (by first | exact .inl rfl | exact .inr rfl) yE ?_; simp only [strip_tmp, strip_const, lookV_cons, Nat.reduceEqDiff, ↓reduceIte, stripO_own, stripO_lst, stripO_v, stripO_plc, stripO_agg, stripO_fn, stripO_ifc]) | (with_reducible first | refine DS.fltS yU yU yE ?_ | refine DS.opsNil ?_ | refine DS.seq ?_ | refine DS.regionL ?_ | (refine DS.cE yE ?_; refine CG.p (fun _ => ?_) (fun _ => ?_)) | refine DS.blk ?_ | refine DS.block ?_ | refine DS.exit yU ?_ | refine DS.skip ?_) | (refine DS.append (mm := false) yU yE yE yU (by decide) yE (by first | exact .inl rfl | exact .inr ⟨rfl, rfl⟩) yE yX0 (by first | exact len_map cI_len _ | exact len_map cR_len _ | exact len_map Member.len _ | exact len_map Sitting.len _ | exact len_map Ruling.len _ | (simp only [List.mem_cons, List.not_mem_nil, or_false, forall_eq]; rfl) | simp) ⟨by (try simp only [List.length_map, List.length_cons, List.length_nil, List.length_append, List.length_take, List.length_drop]); omega, by decide⟩ ?_; simp only [strip_tmp, strip_const, lookV_cons, Nat.reduceEqDiff, ↓reduceIte, stripO_own, stripO_lst, stripO_v, stripO_plc, stripO_agg, stripO_fn, stripO_ifc]) | refine DS.drawL (id := 12) [0, 1, 2, 3, 4, 6, 7, 8, 9, 5, 10, 11] 12 (by kernel_rfl) mixed (by simp only [pickL_cons, pickL_nil, get_zero', get_cons', pickO_some]; exact rfl) (by simp only [drop_zero', drop_cons', List.drop_nil]; exact rfl) ?_ | (with_reducible refine DD.mvS (t := 51) yU (by first | exact .inl rfl | exact .inr rfl) yE ?_; simp only [strip_tmp, strip_const, lookV_cons, Nat.reduceEqDiff, ↓reduceIte, stripO_own, stripO_lst, stripO_v, stripO_plc, stripO_agg, stripO_fn, stripO_ifc]; simp only [delV_cons', delV_nil', Nat.reduceEqDiff, ↓reduceIte]) | (with_reducible first | refine DD.fltS yU yU yU yE ?_ | refine DD.nil0 ?_) | (refine DD.bslS yU yE yE ?_; simp only [go_sem, Nat.zero_add, Nat.reduceAdd]; simp only [delV_cons', delV_nil', Nat.reduceEqDiff, ↓reduceIte]) | (refine DD.append (mm := false) yU yE yE yU (by decide) yE (by first | exact .inl rfl | exact .inr ⟨rfl, rfl⟩) yE yX0 (by first | exact len_map cI_len _ | exact len_map cR_len _ | exact len_map Member.len _ | exact len_map Sitting.len _ | exact len_map Ruling.len _ | (simp only [List.mem_cons, List.not_mem_nil, or_false, forall_eq]; rfl) | simp) ⟨by (try simp only [List.length_map, List.length_cons, List.length_nil, List.length_append, List.length_take, List.length_drop]); omega, by decide⟩ ?_; simp only [strip_tmp, strip_const, lookV_cons, Nat.reduceEqDiff, ↓reduceIte, stripO_own, stripO_lst, stripO_v, stripO_plc, stripO_agg, stripO_fn, stripO_ifc]; simp only [delV_cons', delV_nil', Nat.reduceEqDiff, ↓reduceIte]) | fail)
          all_goals first | (exfalso; omega) | skip
          exact DS.back (hB (k.1 + 1, k.2 ++ [ids[i.1]'(by omega) :: X[k.1]]) _ _ (by simp; omega) (⟨by simp; omega, by rw [List.take_succ_eq_append_getElem hk, List.map_append, ← H.2]; simp, by simp; omega⟩) yS yS (fun b o e => by first | exact e | (simp only [lookS_cons]; split <;> simp_all)))
        · repeat' (first | (with_reducible first | refine DS.fltS yU yU yE ?_ | refine DS.opsNil ?_ | refine DS.seq ?_ | refine DS.regionL ?_ | (refine DS.cE yE ?_; refine CG.p (fun _ => ?_) (fun _ => ?_)) | refine DS.blk ?_ | refine DS.block ?_ | refine DS.exit yU ?_ | refine DS.skip ?_) | refine DS.drawL (id := 12) [0, 1, 2, 3, 4, 6, 7, 8, 9, 5, 10, 11] 12 (by kernel_rfl) mixed (by simp only [pickL_cons, pickL_nil, get_zero', get_cons', pickO_some]; exact rfl) (by simp only [drop_zero', drop_cons', List.drop_nil]; exact rfl) ?_ | (with_reducible refine DD.mvS (t := 51) yU (by first | exact .inl rfl | exact .inr rfl) yE ?_; simp only [strip_tmp, strip_const, lookV_cons, Nat.reduceEqDiff, ↓reduceIte, stripO_own, stripO_lst, stripO_v, stripO_plc, stripO_agg, stripO_fn, stripO_ifc]; simp only [delV_cons', delV_nil', Nat.reduceEqDiff, ↓reduceIte]) | with_reducible refine DD.fltS yU yU yU yE ?_ | fail)
          all_goals first | (exfalso; omega) | skip
          refine DS.back (hB0 (i.1 + 1, k.2) _ _ (by simp; omega) ⟨by simp; omega, ?_⟩ yS yS (fun b o e => by exact e))
          rw [← H.1, ← H.2, List.take_of_length_le (by omega), List.append_assoc]
    · rename_i hst
      exact DS.back (hB (i.1 + 1, i.2) _ _ (by simp; omega) (⟨by simp; omega, by have e := hI.2; rw [moreLL_at (i := i.1) (by omega), if_neg (by simp [hst]), List.nil_append] at e; exact e⟩) yS yS (fun b o e => by first | exact e | (simp only [lookS_cons]; split <;> simp_all)))
    · have de1 := drop_end (l := ids) (i := i.1) (by omega); rw [de1] at hI
      simp [tupV, ← hI.2, moreLL]
end Go.XL
namespace Go.XL
open Go.Proofs
set_option linter.unusedSimpArgs false
set_option linter.unusedVariables false
set_option maxRecDepth 100000
set_option maxHeartbeats 4000000
theorem DS.drawLS {P : Program} {n : Nat} {r : Rr} {Q : VEnv → Sto → Prop} {k : List Fr} {E : VEnv} {S : Sto} {id : Nat} {os l1 l2 : List Oper} (S0 S1 : Sto) (ord : List Nat) (m : Nat) (hok : drawOk os.toArray ord m = true) (hm : P.follows .mixedOrders = true) (h1 : pickL os ord = l1) (h2 : os.drop m = l2)
    (h0 : ∀ b o, lookS S0 b = some o → lookS S b = some o ∧ lookS S1 b = none) (h3 : ∀ b o, lookS S1 b = some o → lookS S b = some o)
    (q : DD P n r Q os S0 [] l1 (.ops os l2 :: k) E E S1) : DS P n r Q (.code (.region id os.toArray true) :: k) E S :=
  DS.draw S0 S1 [] MpOk.nil ord m hok hm h0 h3 (by rw [pickL_eq, h1]; simpa [h2] using q)
abbrev TS : Nat := 102
abbrev mtV (bs : List Nat) (n : Nat) : V := .own false 134 1 (bs.map (rowC n))
structure SearchR (S : Sto) (bx bp : Nat) (c : Club) (rs : List (List Int)) (bs : List Nat) (budget steps : Int) (met : Int → Int → Bool) (ps : List PRow) : Prop where
  obj : lookS S bx = some (.cells (sC c rs bp ps.length (mtV bs c.members.length) budget steps) TS)
  mat : MetR S bs c met
  pln : lookS S bp = some (.cells (ps.map PRow.cell) 35)
  row : ∀ (i : Nat) (h : i < ps.length), ps[i].Ok S
  xp : bx ≠ bp
  xb : ¬ bx ∈ bs
  pb : ¬ bp ∈ bs
  nd : bs.Nodup
  rx : ∀ (i : Nat) (h : i < ps.length) (b cap : Nat) (j : List V), ps[i].blk = some (b, cap, j) → b ≠ bx ∧ b ≠ bp ∧ ¬ b ∈ bs
  rr : ∀ (i k : Nat) (hi : i < ps.length) (hk : k < ps.length) (b cap cap' : Nat) (j j' : List V), ps[i].blk = some (b, cap, j) → ps[k].blk = some (b, cap', j') → i = k
theorem PRow.Ok.of {S S' : Sto} {p : PRow} (h : p.Ok S) (e : ∀ b cap j, p.blk = some (b, cap, j) → lookS S' b = lookS S b) : p.Ok S' := by
  obtain ⟨T, blk⟩ := p
  cases blk with
  | none => exact h
  | some x =>
    obtain ⟨b, cap, j⟩ := x
    obtain ⟨h1, h2⟩ := h
    exact ⟨by rw [e b cap j rfl]; exact h1, h2⟩
theorem MetR.of {S S' : Sto} {bs : List Nat} {c : Club} {met : Int → Int → Bool} (m : MetR S bs c met) (e : ∀ b, b ∈ bs → lookS S' b = lookS S b) : MetR S' bs c met :=
  ⟨m.len, fun i h h' => by rw [e _ (List.getElem_mem h)]; exact m.row i h h'⟩
theorem SearchR.steps {S : Sto} {bx bp : Nat} {c : Club} {rs : List (List Int)} {bs : List Nat} {budget steps : Int} {met : Int → Int → Bool} {ps : List PRow} (s : SearchR S bx bp c rs bs budget steps met ps) (n : Int) {l : List V} (hl : l = sC c rs bp ps.length (mtV bs c.members.length) budget n) :
    SearchR (setS bx (.cells l TS) S) bx bp c rs bs budget n met ps := by
  subst hl
  have e : ∀ b, b ≠ bx → lookS (setS bx (.cells (sC c rs bp ps.length (mtV bs c.members.length) budget n) TS) S) b = lookS S b := fun b hb => by rw [lookS_set s.obj, if_neg hb]
  refine ⟨by rw [lookS_set s.obj, if_pos rfl], s.mat.of fun b hb => e b (fun h => s.xb (h ▸ hb)), by rw [e _ s.xp.symm]; exact s.pln, fun i h => (s.row i h).of fun b cap j hb => e b (s.rx i h b cap j hb).1, s.xp, s.xb, s.pb, s.nd, s.rx, s.rr⟩
theorem SearchR.marked {S S' : Sto} {bx bp : Nat} {c : Club} {rs : List (List Int)} {bs : List Nat} {budget steps : Int} {met met' : Int → Int → Bool} {ps : List PRow} (s : SearchR S bx bp c rs bs budget steps met ps) (m : MetR S' bs c met') (e : ∀ b, ¬ b ∈ bs → lookS S' b = lookS S b) :
    SearchR S' bx bp c rs bs budget steps met' ps :=
  ⟨by rw [e _ s.xb]; exact s.obj, m, by rw [e _ s.pb]; exact s.pln, fun i h => (s.row i h).of fun b cap j hb => e b (s.rx i h b cap j hb).2.2, s.xp, s.xb, s.pb, s.nd, s.rx, s.rr⟩
theorem SearchR.turn {S S' : Sto} {bx bp : Nat} {c : Club} {rs : List (List Int)} {bs : List Nat} {budget steps : Int} {met : Int → Int → Bool} {ps : List PRow} (s : SearchR S bx bp c rs bs budget steps met ps) {r : Nat} (hr : r < ps.length) {T : List (List Int)} {b' cap' : Nat} {junk : List V}
    (hb : (∃ cap j, ps[r].blk = some (b', cap, j)) ∨ lookS S b' = none) (hok : PRow.Ok S' ⟨T, some (b', cap', junk)⟩) (hp : lookS S' bp = some (.cells ((ps.map PRow.cell).set r (.v (.slice (some ⟨b', 0, none⟩) T.length cap'))) 35))
    (e : ∀ b, b ≠ bp → b ≠ b' → (∀ cap j, ps[r].blk ≠ some (b, cap, j)) → lookS S' b = lookS S b) :
    SearchR S' bx bp c rs bs budget steps met (ps.set r ⟨T, some (b', cap', junk)⟩) := by
  have n1 : b' ≠ bx ∧ b' ≠ bp ∧ ¬ b' ∈ bs := by
    rcases hb with ⟨cap, j, h⟩ | h
    · exact s.rx r hr b' cap j h
    · refine ⟨?_, ?_, ?_⟩
      · intro h'; rw [h', s.obj] at h; cases h
      · intro h'; rw [h', s.pln] at h; cases h
      · intro h'
        obtain ⟨i, hi, rfl⟩ := List.getElem_of_mem h'
        rw [s.mat.row i hi (s.mat.len ▸ hi)] at h; cases h
  have nb : ∀ (i : Nat) (h : i < ps.length) (cap : Nat) (j : List V), ps[i].blk = some (b', cap, j) → i = r := fun i h cap j hi => by
    rcases hb with ⟨cap2, j2, h2⟩ | h2
    · exact s.rr i r h hr b' cap cap2 j j2 hi h2
    · have h3 := s.row i h
      generalize ps[i] = p at hi h3
      obtain ⟨T', blk⟩ := p
      dsimp only at hi
      subst hi
      rw [h3.1] at h2; cases h2
  have eb : ∀ (i : Nat) (h : i < ps.length) (b cap : Nat) (j : List V), i ≠ r → ps[i].blk = some (b, cap, j) → lookS S' b = lookS S b := fun i h b cap j hir hi => by
    refine e b (s.rx i h b cap j hi).2.1 (fun hbb => ?_) fun cap2 j2 h2 => hir (s.rr i r h hr b cap cap2 j j2 hi h2)
    subst hbb; exact hir (nb i h cap j hi)
  have ex : ∀ b, b ≠ bp → b ≠ b' → (b = bx ∨ b ∈ bs) → lookS S' b = lookS S b := fun b h1 h2 h3 => e b h1 h2 fun cap j h4 => by
    have := s.rx r hr b cap j h4
    rcases h3 with h3 | h3
    · exact this.1 h3
    · exact this.2.2 h3
  have gs : ∀ (i : Nat) (h : i < (ps.set r ⟨T, some (b', cap', junk)⟩).length), (ps.set r ⟨T, some (b', cap', junk)⟩)[i] = if r = i then ⟨T, some (b', cap', junk)⟩ else ps[i]'(by simpa using h) := fun i h => by rw [List.getElem_set]
  refine ⟨?_, s.mat.of fun b hb' => ex b (fun h => s.pb (h ▸ hb')) (fun h => n1.2.2 (h ▸ hb')) (.inr hb'), ?_, fun i h => ?_, s.xp, s.xb, s.pb, s.nd, fun i h b cap j hi => ?_, fun i k hi hk b cap cap2 j j2 h1 h2 => ?_⟩
  · rw [ex bx s.xp n1.1.symm (.inl rfl), s.obj, List.length_set]
  · rw [hp, List.map_set]; rfl
  · rw [gs]
    have h' : i < ps.length := by simpa using h
    by_cases hir : r = i
    · rw [if_pos hir]; exact hok
    · rw [if_neg hir]; exact (s.row i h').of fun b cap j hi => eb i h' b cap j (Ne.symm hir) hi
  · rw [gs] at hi
    have h' : i < ps.length := by simpa using h
    by_cases hir : r = i
    · rw [if_pos hir] at hi; cases hi; exact n1
    · rw [if_neg hir] at hi; exact s.rx i h' b cap j hi
  · rw [gs] at h1 h2
    have hi' : i < ps.length := by simpa using hi
    have hk' : k < ps.length := by simpa using hk
    by_cases hir : r = i
    · rw [if_pos hir] at h1
      by_cases hkr : r = k
      · omega
      · rw [if_neg hkr] at h2
        simp only [Option.some.injEq, Prod.mk.injEq] at h1
        obtain ⟨rfl, _⟩ := h1
        exact hir ▸ (nb k hk' cap2 j2 h2).symm
    · rw [if_neg hir] at h1
      by_cases hkr : r = k
      · rw [if_pos hkr] at h2
        simp only [Option.some.injEq, Prod.mk.injEq] at h2
        obtain ⟨rfl, _⟩ := h2
        exact hkr ▸ nb i hi' cap j h1
      · rw [if_neg hkr] at h2
        exact s.rr i k hi' hk' b cap cap2 j j2 h1 h2
end Go.XL
namespace Go.XL
open Go.Proofs
set_option linter.unusedSimpArgs false
set_option linter.unusedVariables false
set_option maxRecDepth 100000
set_option maxHeartbeats 4000000
structure Box (p : Prop) : Prop where
  out : p
theorem PRow.split {S : Sto} {p : PRow} (h : p.Ok S) : ∃ S0 S1, (∀ b o, lookS S0 b = some o → lookS S b = some o ∧ lookS S1 b = none) ∧ (∀ b o, lookS S1 b = some o → lookS S b = some o) ∧ p.Ok S1 ∧
    ∀ b, (∀ cap j, p.blk ≠ some (b, cap, j)) → lookS S0 b = lookS S b ∧ lookS S1 b = none := by
  obtain ⟨T, blk⟩ := p
  cases blk with
  | none => exact ⟨S, [], fun _ _ e => ⟨e, rfl⟩, (fun _ _ e => by cases e), h, fun _ _ => ⟨rfl, rfl⟩⟩
  | some x =>
    obtain ⟨b0, cap, j⟩ := x
    obtain ⟨h1, h2⟩ := h
    refine ⟨delS b0 S, [(b0, .cells ((T.map fun t => ints t) ++ j) 22)], fun b o e => ?_, fun b o e => ?_, ⟨by simp [lookS], h2⟩, fun b hb => ?_⟩
    · rw [lookS_del] at e
      split at e
      · cases e
      · rename_i hne
        exact ⟨e, by simp only [lookS]; rw [if_neg (fun h => hne h.symm)]⟩
    · simp only [lookS] at e
      split at e
      · rename_i hbb; subst hbb; rw [h1]; exact e
      · cases e
    · have hne : ¬ b0 = b := fun h => hb cap j (by rw [h])
      exact ⟨by rw [lookS_del, if_neg (fun h => hne h.symm)], by simp only [lookS]; rw [if_neg hne]⟩
theorem PRow.cell_copy (p : PRow) : p.cell.copy = p.cell := by
  obtain ⟨T, blk⟩ := p
  cases blk <;> rfl
theorem PRow.cell_some (T : List (List Int)) (b cap : Nat) (j : List V) : PRow.cell ⟨T, some (b, cap, j)⟩ = .v (.slice (some ⟨b, 0, none⟩) T.length cap) := rfl
theorem SearchR.appended {S S0 Sr S4 : Sto} {bx bp : Nat} {c : Club} {rs : List (List Int)} {bs : List Nat} {budget steps : Int} {met : Int → Int → Bool} {ps : List PRow} (s : SearchR S bx bp c rs bs budget steps met ps) {r : Nat} (hr : r < ps.length) {p : PRow} (hp : p = ps[r])
    (k3 : ∀ b, (∀ cap j, p.blk ≠ some (b, cap, j)) → lookS S0 b = lookS S b ∧ lookS Sr b = none) (hdis : ∀ b o, lookS S0 b = some o → lookS S4 b = none) {T : List (List Int)} {b' cap' : Nat} {junk : List V} (m1 : PRow.Ok S4 ⟨T, some (b', cap', junk)⟩)
    (m2 : (∃ cap j, p.blk = some (b', cap, j)) ∨ lookS Sr b' = none) (m3 : ∀ b, b ≠ b' → (∀ cap j, p.blk ≠ some (b, cap, j)) → lookS S4 b = lookS Sr b) :
    lookS (S4 ++ S0) bp = some (.cells (ps.map PRow.cell) 35) ∧
    SearchR (setS bp (.cells ((ps.map PRow.cell).set r (.v (.slice (some ⟨b', 0, none⟩) T.length cap'))) 35) (S4 ++ S0)) bx bp c rs bs budget steps met (ps.set r ⟨T, some (b', cap', junk)⟩) := by
  subst hp
  have hbp := k3 bp fun cap j h => (s.rx r hr bp cap j h).2.1 rfl
  have h0 : lookS S0 bp = some (.cells (ps.map PRow.cell) 35) := hbp.1.trans s.pln
  have h1 : lookS (S4 ++ S0) bp = some (.cells (ps.map PRow.cell) 35) := by rw [lookS_app, hdis bp _ h0]; exact h0
  have h2 : ∃ cap j, lookS S4 b' = some (.cells ((T.map fun t => ints t) ++ j) cap) := ⟨_, _, m1.1⟩
  have h3 : b' ≠ bp := fun h => by
    obtain ⟨_, _, h2⟩ := h2
    rw [h, hdis bp _ h0] at h2; cases h2
  refine ⟨h1, s.turn hr ?_ (m1.of fun b cap j h => ?_) ?_ fun b e1 e2 e3 => ?_⟩
  · by_cases hold : ∃ cap j, ps[r].blk = some (b', cap, j)
    · exact .inl hold
    · right
      have hk := k3 b' fun cap j h => hold ⟨cap, j, h⟩
      rw [← hk.1]
      cases hh : lookS S0 b' with
      | none => rfl
      | some o =>
        obtain ⟨_, _, h2⟩ := h2
        rw [hdis b' o hh] at h2; cases h2
  · simp only [Option.some.injEq, Prod.mk.injEq] at h
    obtain ⟨rfl, _⟩ := h
    rw [lookS_set h1, if_neg h3, lookS_app, m1.1]
  · rw [lookS_set h1, if_pos rfl]
  · rw [lookS_set h1, if_neg e1, lookS_app, m3 b e2 e3, (k3 b e3).2]
    exact (k3 b e3).1
theorem freeS_append (ids : List Int) (T : List (List Int)) (t : List Int) : freeS ids (T ++ [t]) = (freeS ids T).filter fun id => !decide (id ∈ t) := by
  simp only [freeS, List.filter_filter]
  apply List.filter_congr
  intro x _
  simp [Bool.and_comm]
theorem rows_free (T : List (List Int)) {j : List V} (h : ∀ v ∈ j, v.free = true) : ∀ v ∈ (T.map fun t => ints t) ++ j, v.free = true := fun v hv => by
  rcases List.mem_append.1 hv with h1 | h1
  · obtain ⟨t, _, rfl⟩ := List.mem_map.1 h1; rfl
  · exact h v h1
section
variable {v0 : VH} {P : Program} {n : Nat} {E : VEnv} {S : Sto} {dst : Option Tmp} {ty : TypeId} {pos : String} {af : Array Edge}
theorem OpS.appRow {p : PRow} {T t by_ : Nat} {z : Value} {sx x : Operand} {vx : V} {tab : List Int} (hd : dst = some t) (ht : tel P T = some (22, 1, by_)) (hz : tzero P 22 = some z) (hzs : z.cells.size = 1) (hzo : onesB z.cells.toList = true)
    (hs : evV E sx = some p.cell) (hok : p.Ok S) (hx : evV E x = some vx) (hxl : sliceL vx = some [[ints tab]]) (hfit : p.rows.length + 1 ≤ 2147483648 ∧ by_ ≤ 65536) :
    OpS v0 P n ⟨dst, .call { callee := .builtin .append, args := #[sx, x], argTypes := #[T, T] }, ty, pos, af, none⟩ E S
      (fun u E' S' => E' = E ∧ ∃ b' cap' junk, u = PRow.cell ⟨p.rows ++ [tab], some (b', cap', junk)⟩ ∧ PRow.Ok S' ⟨p.rows ++ [tab], some (b', cap', junk)⟩ ∧ ((∃ cap j, p.blk = some (b', cap, j)) ∨ lookS S b' = none) ∧
        ∀ b, b ≠ b' → (∀ cap j, p.blk ≠ some (b, cap, j)) → lookS S' b = lookS S b) := by
  obtain ⟨R, blk⟩ := p
  intro K D hv hold env a w hfl ha s
  cases blk with
  | none =>
    simp only [PRow.Ok] at hok
    subst hok
    refine (OpS.appN hd ht hz hzs hzo (by decide) hs hx hxl (by simp) (by simp) (by simpa [Fits] using hfit) K D hv hold env a w hfl ha s).mono ?_
    rintro y w' ⟨hsame, u, E2, S2, hv2, hold2, q1, q2, h1, b', cap', junk, h2, h3, h4, h5, h6, h7, h8⟩
    refine ⟨hsame, u, E2, S2, hv2, hold2, q1, q2, h1, b', cap', junk, ?_, ?_, ?_, ?_⟩
    · rw [h2]; simp [PRow.cell]
    · subst h3
      refine ⟨by simp [lookS, V.copy], by simpa using h5, h7, h8⟩
    · exact .inr (h4.resolve_left (by simp))
    · intro b hb _
      subst h3
      simp only [lookS, delB]
      rw [if_neg (fun h => hb h.symm)]
  | some x =>
    obtain ⟨b0, cap0, j0⟩ := x
    obtain ⟨k1, k2, k3, k4⟩ := hok
    refine (OpS.appC hd ht hz hzs hzo (by decide) hs k1 (by simpa using k2) (by omega) k3 (rows_free R k4) hx hxl (by simp) (by simp) (by simpa [Fits] using hfit) K D hv hold env a w hfl ha s).mono ?_
    rintro y w' ⟨hsame, u, E2, S2, hv2, hold2, q1, q2, h1, b', cap', junk, h2, h3, h4, h5, h6, h7, h8⟩
    refine ⟨hsame, u, E2, S2, hv2, hold2, q1, q2, h1, b', cap', junk, ?_, ?_, ?_, ?_⟩
    · rw [h2]; simp [PRow.cell]
    · subst h3
      refine ⟨?_, by simpa using h5, h7, h8⟩
      simp only [lookS, if_true, Option.some.injEq, Ob.cells.injEq, and_true]
      simp [V.copy]
    · rcases h4 with h4 | h4
      · cases h4; exact .inl ⟨_, _, rfl⟩
      · exact .inr h4
    · intro b hb hnb
      subst h3
      simp only [lookS, delB]
      rw [if_neg (fun h => hb h.symm), lookS_del, if_neg]
      intro h; subst h; exact hnb _ _ rfl
end
end Go.XL
namespace Go.XL
open Go.Proofs
set_option linter.unusedSimpArgs false
set_option linter.unusedVariables false
set_option maxRecDepth 100000
set_option maxHeartbeats 8000000
abbrev ptr (b : Nat) : V := .v (.pointer (some ⟨b, 0, none⟩))
theorem below_sc (bs : Nat) (x n : Int) (hn : n ≤ 1000000000000) : SC Try.prog 27 [ptr bs, I n] bs x (I (belowX x n)) (stepX x) := by
  unfold SC
  refine DC.of_run Try.func27 rfl Try.ntmps27 Try.results27 (by simp) (fun _ => ?_); simp only [argV_cons, argV_nil, go_sem, Nat.zero_add, Nat.reduceAdd]
  repeat' (first | (with_reducible first | refine DS.fltS yU yU yE ?_ | refine DS.opsNil ?_ | refine DS.seq ?_ | refine DS.regionL ?_ | (refine DS.cE yE ?_; refine CG.p (fun _ => ?_) (fun _ => ?_)) | refine DS.skip ?_) | (refine DS.store yR yE yE yE yE yU (by exact ⟨by with_unfolding_all rfl, by (try simp only [List.length_map, List.length_append, List.length_set, List.length_replicate, List.length_cons, List.length_nil]); omega⟩) ?_; simp only [putV_none, setAll_cons, setAll_nil, scells_v, scells_own, scells_lst, scells_agg]; try simp only [strip_tmp, strip_const, lookV_cons, Nat.reduceEqDiff, ↓reduceIte, stripO_own, stripO_lst, stripO_v, stripO_plc, stripO_agg, stripO_fn, stripO_ifc]) | refine DS.drawL (id := 4) [0, 1, 2, 3, 4, 5, 6, 7, 8, 9, 10, 11, 12] 13 (by kernel_rfl) mixed (by simp only [pickL_cons, pickL_nil, get_zero', get_cons', pickO_some]; exact rfl) (by simp only [drop_zero', drop_cons', List.drop_nil]; exact rfl) ?_ | (with_reducible first | refine DD.fltS yU yU yU yE ?_ | refine DD.nil0 ?_) | fail)
  · rename_i e1
    refine DS.retA yG ⟨?_, ?_⟩
    · rw [belowX, if_pos (by omega)]; rfl
    · simp only [setS, if_true, set_zero']; rfl
  · rename_i e1
    have hw : IntKind.u64.wrap n = n := wrapU_id ⟨by omega, by omega⟩
    repeat' (first | (with_reducible first | refine DS.fltS yU yU yE ?_ | refine DS.opsNil ?_) | fail)
    refine DS.retA yG ⟨?_, ?_⟩
    · rw [belowX, if_neg e1]
      show I (IntKind.i64.wrap ((mixX (stepX x)).tmod n)) = _
      have h1 := mixX_bd (stepX x)
      have h2 := Int.emod_nonneg (mixX (stepX x)) (show n ≠ 0 by omega)
      have h3 := Int.emod_lt_of_pos (mixX (stepX x)) (show 0 < n by omega)
      rw [Int.tmod_eq_emod_of_nonneg h1.1]
      have h4 := w64_id (n := mixX (stepX x) % n) (by omega)
      unfold w64 at h4
      rw [h4]
    · simp only [setS, if_true, set_zero']; rfl
theorem odds_sc (bs : Nat) (x n : Int) (hn : n ≤ 1000000000000) : SC Try.prog 48 [ptr bs, I n] bs x (Bo (oddsX x n)) (stepX x) := by
  unfold SC
  refine DC.of_run Try.func48 rfl Try.ntmps48 Try.results48 (by simp) (fun _ => ?_); simp only [argV_cons, argV_nil, go_sem, Nat.zero_add, Nat.reduceAdd]
  repeat' (first | (with_reducible first | refine DS.fltS yU yU yE ?_ | refine DS.opsNil ?_ | refine DS.seq ?_ | refine DS.regionL ?_) | (refine DS.scS inferInstance (below_sc bs x n hn) yR yT yT ?_; (try simp only [delS_cons, delS_nil, ↓reduceIte, *])) | fail)
  refine DS.retA yG ⟨rfl, rfl⟩
theorem range_sc (bs : Nat) (x lo hi : Int) (hn : -1000 ≤ lo ∧ lo ≤ 1000 ∧ -1000 ≤ hi ∧ hi ≤ 1000) : SC Try.prog 82 [ptr bs, I lo, I hi] bs x (I (rangeX x lo hi)) (stepX x) := by
  have hb := belowX_bd x (hi - lo + 1)
  obtain ⟨h1, h2, h3⟩ := hb
  obtain ⟨n1, n2, n3, n4⟩ := hn
  have h4 : belowX x (hi - lo + 1) ≤ 3000 := by
    rcases Int.lt_or_le (hi - lo + 1) 1 with h | h
    · rw [h3 h]; omega
    · have := h2 h; omega
  clear h2 h3
  unfold SC
  refine DC.of_run Try.func82 rfl Try.ntmps82 Try.results82 (by simp) (fun _ => ?_); simp only [argV_cons, argV_nil, go_sem, Nat.zero_add, Nat.reduceAdd]
  repeat' (first | (with_reducible first | refine DS.fltS yU yU yE ?_ | refine DS.opsNil ?_ | refine DS.seq ?_ | refine DS.regionL ?_) | (refine DS.scS inferInstance (below_sc bs x (hi - lo + 1) (by omega)) yR yT yT ?_; (try simp only [delS_cons, delS_nil, ↓reduceIte, *])) | fail)
  refine DS.retA yG ⟨rfl, rfl⟩
theorem yX8 {p : Prop} (h : p := by (simp (disch := omega) only [go_sem, dopV, Option.map_some, Option.map_none, Option.bind_some, Option.bind_none, ↓reduceIte, Nat.reduceEqDiff, Nat.reduceLT, Nat.reduceLeDiff, Nat.reduceAdd, Nat.reduceMul, Nat.reduceSub, Nat.zero_add, Nat.add_zero, Nat.zero_le, Nat.zero_mul, Nat.mul_one, Nat.one_mul, Int.natCast_zero, Int.toNat_zero, Int.reduceToNat, Int.reduceLT, Int.reduceLE, Int.reduceEq, decide_true, decide_false, true_and, and_true, Bool.and_self, Bool.and_true, Bool.true_and, Bool.not_true, Bool.not_false, IntWalk.toNatUp, IntWalk.iteOmega, IntWalk.i64_in, Option.isSome_some, not_true_eq_false, not_false_eq_true, Option.getD_some, Option.getD_none, Int.toNat_natCast, List.length_map, List.getElem?_map, List.getElem?_eq_getElem, V.flat, V.one, List.all_cons, List.all_nil, *, Value.oneCell']; exact rfl)) : p := h
theorem newSource_dc (l : List Int) : DC Try.prog 26 [ints l] [] (fun u S' => ∃ bs, u = ptr bs ∧ S' = [(bs, srcO (newX l))]) := by
  refine DC.of_run Try.func26 rfl Try.ntmps26 Try.results26 (by simp) (fun _ => ?_); simp only [argV_cons, argV_nil, go_sem, Nat.zero_add, Nat.reduceAdd]
  refine DS.bnd (t := 0) yG (.inl rfl) (fun hb0 => ?_); simp only [List.length_map] at hb0
  repeat' (first | (with_reducible first | refine DS.fltS yU yU yX8 ?_ | refine DS.opsNil ?_ | refine DS.seq ?_ | refine DS.regionL ?_ | refine DS.block ?_) | (with_reducible refine DS.boxS yU yX8 yU (fun _ hfr => ?_); have hfr := fresh_of hfr; simp only [freshS_cons, freshS_nil, and_true] at hfr; simp only [cells_agg, cells_v, cells_lst, cells_fn, map_nil'', map_cons'', copy_own, copy_lst, copy_v, copy_at, copy_agg, copy_fn, copy_ifc, copy_tup]) | fail)
  rename_i bs hbs
  refine DS.loopS [0, 3] (by (simp only [go_sem, Nat.reduceEqDiff, ↓reduceIte]; exact rfl)) (fun (y : Nat × Int) => [(4, I y.1)]) (fun (y : Nat × Int) => [(bs, srcO y.2)]) (fun (y : Nat × Int) => y.1 ≤ l.length ∧ newX l = seedX (l.drop y.1) y.2) (fun (y : Nat × Int) => l.length - y.1) (0, 2685821657736338717) yS (fun b o e => by exact e) ⟨Nat.zero_le _, rfl⟩ (fun y B hI hB => ?_); try dsimp only at hI hB; simp only [app_cons', app_nil']
  obtain ⟨i, x⟩ := y
  dsimp only at hI hB
  obtain ⟨g1, g2⟩ := hI
  have H := Box.mk g2
  clear g2
  repeat' (first | (with_reducible first | refine DS.fltS yU yU yE ?_ | refine DS.opsNil ?_ | refine DS.seq ?_ | refine DS.regionL ?_ | (refine DS.cE yE ?_; refine CG.p (fun _ => ?_) (fun _ => ?_)) | refine DS.blk ?_ | refine DS.block ?_ | refine DS.exit yU ?_ | refine DS.skip ?_) | (refine DS.store yR yE yE yE yE yU (by exact ⟨by with_unfolding_all rfl, by (try simp only [List.length_map, List.length_append, List.length_set, List.length_replicate, List.length_cons, List.length_nil]); omega⟩) ?_; simp only [putV_none, setAll_cons, setAll_nil, scells_v, scells_own, scells_lst, scells_agg]; try simp only [strip_tmp, strip_const, lookV_cons, Nat.reduceEqDiff, ↓reduceIte, stripO_own, stripO_lst, stripO_v, stripO_plc, stripO_agg, stripO_fn, stripO_ifc]) | refine DS.drawL (id := 5) [0, 1, 2, 3, 4, 5, 6, 7, 8, 9, 10, 11] 12 (by kernel_rfl) mixed (by simp only [pickL_cons, pickL_nil, get_zero', get_cons', pickO_some]; exact rfl) (by simp only [drop_zero', drop_cons', List.drop_nil]; exact rfl) ?_ | refine DS.drawL (id := 6) [0, 1, 2, 3, 4, 5, 6, 7, 8, 9, 10] 11 (by kernel_rfl) mixed (by simp only [pickL_cons, pickL_nil, get_zero', get_cons', pickO_some]; exact rfl) (by simp only [drop_zero', drop_cons', List.drop_nil]; exact rfl) ?_ | (with_reducible first | refine DD.fltS yU yU yU yE ?_ | refine DD.nil0 ?_) | fail)
  · rename_i e1
    have hi : i < l.length := by omega
    refine DS.back (hB (i + 1, xorI .u64 (IntKind.u64.wrap (xorI .u64 x (IntKind.u64.wrap l[i]) * 11400714819323198485)) ((IntKind.u64.wrap (xorI .u64 x (IntKind.u64.wrap l[i]) * 11400714819323198485)).fdiv 536870912)) _ _ (by dsimp only; omega) ⟨by dsimp only; omega, by rw [H.out, List.drop_eq_getElem_cons hi, seedX]⟩ yS yS (fun b o e => ?_))
    simp only [setS, if_true, set_zero']
    exact e
  · rename_i e1
    have h := H.out
    rw [List.drop_eq_nil_of_le (by omega)] at h
    refine DS.retA yG ⟨bs, rfl, ?_⟩
    rw [h]; rfl
end Go.XL
namespace Go.XL
open Go.Proofs
set_option linter.unusedSimpArgs false
set_option linter.unusedVariables false
theorem indexFuncM_pc (l : List Member) {g : FuncId} {fs cs : List V} {fn : Func} (p : Member → Bool) (hf : FnOk Try.prog g fn) (h : ∀ m, PC Try.prog g (fs ++ [m.val] ++ cs) (Bo (p m))) :
    PC Try.prog 94 [.lst (l.map Member.cells), .fn g fs cs] (I (idxF p l 0)) := by
  refine DC.of_run Try.func94 rfl Try.ntmps94 Try.results94 (by simp) (fun _ => ?_); simp only [argV_cons, argV_nil, go_sem, Nat.zero_add, Nat.reduceAdd]
  refine DS.bnd (t := 0) yG (.inl rfl) (fun hb0 => ?_); simp only [List.length_map] at hb0
  repeat' (first | (with_reducible first | refine DS.fltS yU yU yE ?_ | refine DS.opsNil ?_ | refine DS.seq ?_ | refine DS.regionL ?_ | refine DS.block ?_) | fail)
  refine DS.loopG (fun (i : Nat) => [(0, .lst (l.map Member.cells)), (1, .fn g fs cs), (7, I l.length), (8, I i)]) (fun (i : Nat) => []) (fun (i : Nat) => i ≤ l.length ∧ idxF p l 0 = idxF p (l.drop i) i) (fun (i : Nat) => l.length - i) 0 yS yS (by simp) (fun i B hI hB => ?_); try dsimp only at hI hB ⊢
  repeat' (first | (with_reducible first | refine DS.fltS yU yU yE ?_ | refine DS.opsNil ?_ | refine DS.seq ?_ | refine DS.regionL ?_ | (refine DS.cE yE ?_; refine CG.p (fun _ => ?_) (fun _ => ?_)) | refine DS.block ?_ | refine DS.exit yU ?_ | refine DS.skip ?_) | refine DS.retT [] yE trivial ?_ | fail)
  · refine DS.pcVS hf (by simp (disch := omega) only [go_sem, dopV, Option.map_some, Option.map_none, Option.bind_some, Option.bind_none, ↓reduceIte, Nat.reduceEqDiff, Nat.reduceLT, Nat.reduceLeDiff, Nat.reduceAdd, Nat.reduceMul, Nat.reduceSub, Nat.zero_add, Nat.add_zero, Nat.zero_le, Nat.zero_mul, Nat.mul_one, Nat.one_mul, Int.natCast_zero, Int.toNat_zero, Int.reduceToNat, Int.reduceLT, Int.reduceLE, Int.reduceEq, decide_true, decide_false, true_and, and_true, Bool.and_self, Bool.and_true, Bool.true_and, Bool.not_true, Bool.not_false, IntWalk.toNatUp, IntWalk.iteOmega, IntWalk.i64_in, Option.isSome_some, not_true_eq_false, not_false_eq_true, Option.getD_some, Option.getD_none, Int.toNat_natCast, List.length_map, List.getElem?_map, List.getElem?_eq_getElem, V.flat, V.one, List.all_cons, List.all_nil]) (h l[i]) yR yG ?_
    repeat' (first | (with_reducible first | refine DS.fltS yU yU yE ?_ | refine DS.opsNil ?_ | refine DS.seq ?_ | refine DS.regionL ?_ | (refine DS.cE yE ?_; refine CG.b (fun _ => ?_) (fun _ => ?_)) | refine DS.blk ?_ | refine DS.skip ?_) | refine DS.retT [] yE trivial ?_ | fail)
    · rename_i h1 h2
      have := idxF_hit (p := p) (l := l) (i := i) (by omega) h2
      simp only [tupV]; rw [hI.2, this]
    · rename_i h1 h2
      exact DS.back (hB (i + 1) _ _ (by omega) ⟨by omega, by rw [hI.2, idxF_miss (by omega) h2]⟩ yS yS)
  · have := idxF_end (p := p) (l := l) (i := i) (by omega)
    simp only [tupV]; rw [hI.2, this]
theorem findC_pc (m : Member) (id : Int) : PC Try.prog 95 [m.val, .plc [I id]] (Bo (decide (m.id = id))) := by
  refine DC.of_run Try.func95 rfl Try.ntmps95 Try.results95 (by simp) (fun _ => ?_); simp only [argV_cons, argV_nil, go_sem, Nat.zero_add, Nat.reduceAdd]
  repeat' (first | (with_reducible first | refine DS.fltS yU yU yE ?_ | refine DS.opsNil ?_ | refine DS.seq ?_ | refine DS.regionL ?_) | (refine DS.boxF (t := 2) yU yE yU ?_; simp only [cells_agg, cells_v, cells_lst, cells_fn, map_nil'', map_cons'', copy_own, copy_lst, copy_v, copy_at, copy_agg, copy_fn, copy_ifc, copy_tup]) | refine DS.retT [] yE trivial ?_ | fail)
  all_goals first | (simp_all [tupV]; done)
theorem find_pc (c : Club) (id : Int) : PC Try.prog 54 [c.val, I id] (I (idxF (fun m => decide (m.id = id)) c.members 0)) := by
  refine DC.of_run Try.func54 rfl Try.ntmps54 Try.results54 (by simp) (fun _ => ?_); simp only [argV_cons, argV_nil, go_sem, Nat.zero_add, Nat.reduceAdd]
  repeat (first | refine DS.seq ?_ | refine DS.block ?_ | refine DS.scope ?_ | refine DS.region ?_ | refine DS.opsNil ?_ | refine DS.blk ?_ | refine DS.label ?_ | refine DS.skip ?_ | refine DS.exit yR ?_ | refine DS.fltS yR yR yG ?_ | refine DS.cT yG yR ?_ | refine DS.cF yG yR ?_ | refine DS.gT yG yR ?_ | refine DS.gF yG yR yR ?_ | refine DS.gU yG yR yR ?_ )
  refine DS.boxS yR yG yR (fun b hb => ?_); have hb := fresh_of hb; simp only [freshS_cons, freshS_nil, and_true, cells_agg, cells_v, cells_lst, cells_fn, map_nil'', map_cons'', copy_own, copy_lst, copy_v, copy_at, copy_agg, copy_fn, copy_ifc, copy_tup, ite_eq_right_iff, reduceCtorEq, imp_false] at hb ⊢
  refine DS.boxS yR yG yR (fun d hd => ?_); have hd := fresh_of hd; simp only [freshS_cons, freshS_nil, and_true, cells_agg, cells_v, cells_lst, cells_fn, map_nil'', map_cons'', copy_own, copy_lst, copy_v, copy_at, copy_agg, copy_fn, copy_ifc, copy_tup, ite_eq_right_iff, reduceCtorEq, imp_false] at hd ⊢
  refine DS.freezeP (t := 3) yE yE ?_; simp only [delS_cons, delS_nil, ↓reduceIte, *, map_nil'', map_cons'', copy_own, copy_lst, copy_v, copy_at, copy_agg, copy_fn]
  repeat' (first | (with_reducible first | refine DS.fltS yU yU yE ?_ | refine DS.opsNil ?_ | refine DS.seq ?_ | refine DS.regionL ?_) | refine DS.pcS inferInstance (indexFuncM_pc c.members (fun m => decide (m.id = id)) inferInstance (fun m => findC_pc m id)) yR yT ?_ | refine DS.retT [] yE trivial ?_ | fail)
  all_goals first | (simp_all [tupV]; done)
end Go.XL
namespace Go.XL
open Go.Proofs
set_option linter.unusedSimpArgs false
set_option linter.unusedVariables false
theorem totalGo_in {most : Int} {l : List Int} {i : Nat} {w : Int} (hi : i < l.length) (h : -most ≤ l[i] ∧ l[i] ≤ most) : totalGo most (l.drop i) w = totalGo most (l.drop (i + 1)) (w - l[i]) := by
  rw [List.drop_eq_getElem_cons hi, totalGo, if_pos h]
theorem totalGo_out {most : Int} {l : List Int} {i : Nat} {w : Int} (hi : i < l.length) (h : ¬ (-most ≤ l[i] ∧ l[i] ≤ most)) : totalGo most (l.drop i) w = 2 := by
  rw [List.drop_eq_getElem_cons hi, totalGo, if_neg h]
theorem totalGo_end {most : Int} {l : List Int} {i : Nat} {w : Int} (hi : l.length ≤ i) : totalGo most (l.drop i) w = if w = 0 then 0 else 12 := by
  rw [List.drop_eq_nil_of_le hi, totalGo]
theorem total_pc (c : Club) (l : List Int) (most want : Int) (h1 : c.size ≤ 4) (h2 : 0 ≤ most ∧ most ≤ 1099511627776) (h3 : -1099511627776 ≤ want ∧ want ≤ 1099511627776) : PC Try.prog 90 [c.val, ints l, I most, I want] (I (totalS c.size l most want)) := by
  refine DC.of_run Try.func90 rfl Try.ntmps90 Try.results90 (by simp) (fun _ => ?_); simp only [argV_cons, argV_nil, go_sem, Nat.zero_add, Nat.reduceAdd]
  refine DS.bnd (t := 1) yG (.inl rfl) (fun hb1 => ?_); simp only [List.length_map] at hb1
  repeat' (first | (with_reducible first | refine DS.fltS yU yU yE ?_ | refine DS.opsNil ?_ | refine DS.seq ?_ | refine DS.regionL ?_ | (refine DS.cE yE ?_; refine CG.np (fun _ => ?_) (fun _ => ?_)) | refine DS.block ?_ | refine DS.skip ?_) | (refine DS.boxF (t := 4) yU yE yU ?_; simp only [cells_agg, cells_v, cells_lst, cells_fn, map_nil'', map_cons'', copy_own, copy_lst, copy_v, copy_at, copy_agg, copy_fn, copy_ifc, copy_tup]) | refine DS.retT [] yE trivial ?_ | fail)
  · simp [tupV, totalS, *]
  refine DS.loopG (fun (i : Nat × Int) => [(1, ints l), (2, I most), (3, I i.2), (16, ints l), (17, I l.length), (18, I i.1)]) (fun (i : Nat × Int) => []) (fun (i : Nat × Int) => i.1 ≤ l.length ∧ totalGo most l want = totalGo most (l.drop i.1) i.2 ∧ -1099511627776 * (i.1 + 1) ≤ i.2 ∧ i.2 ≤ 1099511627776 * (i.1 + 1)) (fun (i : Nat × Int) => l.length - i.1) (0, want) yS yS (by simp; omega) (fun i B hI hB => ?_); try dsimp only at hI hB ⊢
  repeat' (first | (with_reducible first | refine DS.fltS yU yU yE ?_ | refine DS.opsNil ?_ | refine DS.seq ?_ | refine DS.regionL ?_ | (refine DS.cE yE ?_; first | refine CG.np (fun _ => ?_) (fun _ => ?_) | refine CG.p (fun _ => ?_) (fun _ => ?_)) | refine DS.blk ?_ | refine DS.block ?_ | refine DS.exit yU ?_ | refine DS.skip ?_) | refine DS.pcS inferInstance (from_pc _ _ _) yR yT ?_ | refine DS.retT [] yE trivial ?_ | fail)
  · rename_i q1 q2
    have hs : (l.length : Int) = c.size := by omega
    rw [tupV_one, totalS, if_pos hs, hI.2.1, totalGo_out (by omega) (by simpa using q2)]
  · rename_i q1 q2
    have q3 : -most ≤ l[i.1] ∧ l[i.1] ≤ most := by simpa using q2
    exact DS.back (hB (i.1 + 1, i.2 - l[i.1]) _ _ (by simp; omega) ⟨by simp; omega, by rw [hI.2.1, totalGo_in (by omega) q3], by simp; omega, by simp; omega⟩ yS yS)
  · rename_i q1 q2
    have hs : (l.length : Int) = c.size := by omega
    rw [tupV_one, totalS, if_pos hs, hI.2.1, totalGo_end (by omega), if_neg (by simpa using q2)]
  · rename_i q1 q2
    have hs : (l.length : Int) = c.size := by omega
    rw [tupV_one, totalS, if_pos hs, hI.2.1, totalGo_end (by omega), if_pos (by simpa using q2)]
end Go.XL
namespace Go.XL
open Go.Proofs
set_option linter.unusedSimpArgs false
set_option linter.unusedVariables false
set_option maxRecDepth 100000
set_option maxHeartbeats 4000000
theorem members_pc (l : List Member) : PC Try.prog 91 [.lst (l.map Member.cells)] (I (membersS l)) := by
  refine DC.of_run Try.func91 rfl Try.ntmps91 Try.results91 (by simp) (fun _ => ?_); simp only [argV_cons, argV_nil, go_sem, Nat.zero_add, Nat.reduceAdd]
  refine DS.bnd (t := 0) yG (.inl rfl) (fun hb0 => ?_); simp only [List.length_map] at hb0
  repeat' (first | (with_reducible first | refine DS.fltS yU yU yE ?_ | refine DS.opsNil ?_ | refine DS.seq ?_ | refine DS.regionL ?_ | (refine DS.cE yE ?_; refine CG.p (fun _ => ?_) (fun _ => ?_)) | refine DS.block ?_ | refine DS.skip ?_) | refine DS.retT [] yE trivial ?_ | fail)
  · rename_i q; rw [membersS, if_pos (by omega)]; rfl
  refine DS.loopK [9, 10] (by (simp only [go_sem, Nat.reduceEqDiff, ↓reduceIte]; exact rfl)) (fun (i : Nat × Int) => [(3, I i.2), (11, I i.1)]) (fun (i : Nat × Int) => i.1 ≤ l.length ∧ membersS l = membersGo (l.drop i.1) i.2) (fun (i : Nat × Int) => l.length - i.1) (0, 0) yS (by simp [membersS]; omega) (fun i B hI hB => ?_); try dsimp only at hI hB; simp only [app_cons', app_nil']
  repeat' (first | (with_reducible first | refine DS.fltS yU yU yE ?_ | refine DS.opsNil ?_ | refine DS.seq ?_ | refine DS.regionL ?_ | (refine DS.cE yE ?_; first | refine CG.np (fun _ => ?_) (fun _ => ?_) | refine CG.p (fun _ => ?_) (fun _ => ?_) | refine CG.yes ?_ | refine CG.no ?_) | (refine DS.gE yU yE ?_; first | refine GG.sU ?_ | refine GG.npT (fun _ => ?_) (fun _ => ?_) | refine GG.npF (fun _ => ?_) (fun _ => ?_) | refine GG.run ?_ | refine GG.sF ?_ | refine GG.sT ?_) | refine DS.blk ?_ | refine DS.block ?_ | refine DS.exit yU ?_ | refine DS.skip ?_) | (refine DS.letF (t := 5) yU yE yU (fun _ => by (simp (disch := omega) only [go_sem, dopV, Option.map_some, Option.map_none, Option.bind_some, Option.bind_none, ↓reduceIte, Nat.reduceEqDiff, Nat.reduceLT, Nat.reduceLeDiff, Nat.reduceAdd, Nat.reduceMul, Nat.reduceSub, Nat.zero_add, Nat.add_zero, Nat.zero_le, Nat.zero_mul, Nat.mul_one, Nat.one_mul, Int.natCast_zero, Int.toNat_zero, Int.reduceToNat, Int.reduceLT, Int.reduceLE, Int.reduceEq, decide_true, decide_false, true_and, and_true, Bool.and_self, Bool.and_true, Bool.true_and, Bool.not_true, Bool.not_false, IntWalk.toNatUp, IntWalk.iteOmega, IntWalk.i64_in, Option.isSome_some, not_true_eq_false, not_false_eq_true, Option.getD_some, Option.getD_none, Int.toNat_natCast, List.length_map, List.getElem?_map, List.getElem?_eq_getElem, V.flat, V.one, List.all_cons, List.all_nil, *]; exact rfl)) yE yU (by exact ⟨by with_unfolding_all rfl, by with_unfolding_all decide⟩) (fun _ => by simp only [go_sem, Nat.reduceEqDiff, ↓reduceIte]) ?_; simp only [go_sem]) | refine DS.pcS inferInstance (from_pc _ _ _) yR yT ?_ | refine DS.retT [] yE trivial ?_ | fail)
  all_goals try first | (clear hB; obtain ⟨_, r, dr1, rfl, dr3⟩ := drop_at (l := l) (i := i.1) (by omega); rw [dr1] at hI; rw [hI.2]; simp [tupV, membersGo, *]; done) | (clear hB; have de1 := drop_end (l := l) (i := i.1) (by omega); rw [de1] at hI; rw [hI.2]; simp [tupV, membersGo, *]; done)
  · obtain ⟨_, r, dr1, rfl, dr3⟩ := drop_at (l := l) (i := i.1) (by omega); rw [dr1] at hI
    exact DS.back (hB (i.1 + 1, l[i.1].id) _ _ (by simp; omega) (⟨by simp; omega, by rw [hI.2, dr3]; simp [membersGo, *]⟩) yS yS (fun b o e => by first | exact e | (simp only [lookS_cons]; split <;> simp_all)))
  · obtain ⟨_, r, dr1, rfl, dr3⟩ := drop_at (l := l) (i := i.1) (by omega); rw [dr1] at hI
    exact DS.back (hB (i.1 + 1, l[i.1].id) _ _ (by simp; omega) (⟨by simp; omega, by rw [hI.2, dr3]; simp [membersGo, *]⟩) yS yS (fun b o e => by first | exact e | (simp only [lookS_cons]; split <;> simp_all)))
theorem played_pc (c : Club) (hs : c.Small) (a b : Int) : PC Try.prog 74 [c.val, I a, I b] (Bo (playedS c a b)) := by
  have h1 := hs.rounds
  by_cases ha : 0 ≤ a ∧ a ≤ (c.rounds.length : Int) - 1
  · obtain ⟨i, rfl⟩ := Int.eq_ofNat_of_zero_le ha.1
    have hi : i < c.rounds.length := by omega
    have h2 := (hs.at hi).points
    rw [playedS_at hi]
    refine DC.of_run Try.func74 rfl Try.ntmps74 Try.results74 (by simp) (fun _ => ?_); simp only [argV_cons, argV_nil, go_sem, Nat.zero_add, Nat.reduceAdd]
    repeat' (first | (with_reducible first | refine DS.fltS yU yU yE ?_ | refine DS.opsNil ?_ | refine DS.seq ?_ | refine DS.regionL ?_ | (refine DS.gE yU yE ?_; first | refine GG.pT (fun _ => ?_) (fun _ => ?_) | refine GG.run ?_ | refine GG.sF ?_)) | refine DS.pcS inferInstance (from_pc _ _ _) yR yT ?_ | (refine DS.boxF (t := 3) yU yE yU ?_; simp only [cells_agg, cells_v, cells_lst, cells_fn, map_nil'', map_cons'', copy_own, copy_lst, copy_v, copy_at, copy_agg, copy_fn, copy_ifc, copy_tup]) | refine DS.retT [] yE trivial ?_ | fail)
    · rename_i q1 q2
      have : b.toNat < c.rounds[i].points.length := by omega
      simp [tupV, List.getD_eq_getElem?_getD, *]
    · simp [tupV, *]
  · rw [playedS_out ha]
    refine DC.of_run Try.func74 rfl Try.ntmps74 Try.results74 (by simp) (fun _ => ?_); simp only [argV_cons, argV_nil, go_sem, Nat.zero_add, Nat.reduceAdd]
    repeat' (first | (with_reducible first | refine DS.fltS yU yU yE ?_ | refine DS.opsNil ?_ | refine DS.seq ?_ | refine DS.regionL ?_ | (refine DS.gE yU yE ?_; refine GG.sF ?_)) | refine DS.pcS inferInstance (from_pc _ _ _) yR yT ?_ | (refine DS.boxF (t := 3) yU yE yU ?_; simp only [cells_agg, cells_v, cells_lst, cells_fn, map_nil'', map_cons'', copy_own, copy_lst, copy_v, copy_at, copy_agg, copy_fn, copy_ifc, copy_tup]) | refine DS.retT [] yE trivial ?_ | fail)
    all_goals first | rfl | omega
theorem right_pcP (c : Club) (l : List Int) (h1 : c.size ≤ 4) (h2 : 0 ≤ c.size) (h3 : 0 ≤ c.start ∧ c.start ≤ 1000000) : PC Try.prog 118 [c.val, ints l] (I (rightS c l)) := by
  have h4 : 0 ≤ c.size * c.start := Int.mul_nonneg h2 h3.1
  have h5 : c.size * c.start ≤ 4 * 1000000 := Int.mul_le_mul h1 h3.2 h3.1 (by decide)
  rw [rightS]
  refine DC.of_run Try.func118 rfl Try.ntmps118 Try.results118 (by simp) (fun _ => ?_); simp only [argV_cons, argV_nil, go_sem, Nat.zero_add, Nat.reduceAdd]
  repeat' (first | (with_reducible first | refine DS.fltS yU yU yE ?_ | refine DS.opsNil ?_ | refine DS.seq ?_ | refine DS.regionL ?_) | refine DS.pcS inferInstance (total_pc c l 1099511627776 (c.size * c.start) h1 (by decide) ⟨by omega, by omega⟩) yR yT ?_ | (refine DS.boxF (t := 2) yU yE yU ?_; simp only [cells_agg, cells_v, cells_lst, cells_fn, map_nil'', map_cons'', copy_own, copy_lst, copy_v, copy_at, copy_agg, copy_fn, copy_ifc, copy_tup]) | refine DS.retT [] yE trivial ?_ | fail)
  rfl
theorem index_pc (l : List Int) (n : Int) : PC Try.prog 108 [ints l, I n] (I (idxF (fun x => decide (x = n)) l 0)) := by
  refine DC.of_run Try.func108 rfl Try.ntmps108 Try.results108 (by simp) (fun _ => ?_); simp only [argV_cons, argV_nil, go_sem, Nat.zero_add, Nat.reduceAdd]
  refine DS.bnd (t := 0) yG (.inl rfl) (fun hb0 => ?_); simp only [List.length_map] at hb0
  repeat' (first | (with_reducible first | refine DS.fltS yU yU yE ?_ | refine DS.opsNil ?_ | refine DS.seq ?_ | refine DS.regionL ?_ | refine DS.block ?_) | fail)
  refine DS.loopK [0, 1, 7] (by (simp only [go_sem, Nat.reduceEqDiff, ↓reduceIte]; exact rfl)) (fun (i : Nat) => [(8, I i)]) (fun (i : Nat) => i ≤ l.length ∧ idxF (fun x => decide (x = n)) l 0 = idxF (fun x => decide (x = n)) (l.drop i) i) (fun (i : Nat) => l.length - i) 0 yS (by simp) (fun i B hI hB => ?_); try dsimp only at hI hB; simp only [app_cons', app_nil']
  repeat' (first | (with_reducible first | refine DS.fltS yU yU yE ?_ | refine DS.opsNil ?_ | refine DS.seq ?_ | refine DS.regionL ?_ | (refine DS.cE yE ?_; refine CG.p (fun _ => ?_) (fun _ => ?_)) | refine DS.blk ?_ | refine DS.block ?_ | refine DS.exit yU ?_ | refine DS.skip ?_) | refine DS.retT [] yE trivial ?_ | fail)
  · rename_i q1 q2
    rw [hI.2, idxF_hit (p := fun x => decide (x = n)) (l := l) (i := i) (by omega) (decide_eq_true q2.symm)]; rfl
  · rename_i q1 q2
    exact DS.back (hB (i + 1) _ _ (by omega) (⟨by omega, by rw [hI.2, idxF_miss (p := fun x => decide (x = n)) (l := l) (i := i) (by omega) (by simpa using fun h => q2 h.symm)]⟩) yS yS (fun b o e => by first | exact e | (simp only [lookS_cons]; split <;> simp_all)))
  · rename_i q1
    rw [hI.2, idxF_end (p := fun x => decide (x = n)) (l := l) (i := i) (by omega)]; rfl
theorem idxF_any {α : Type} (p : α → Bool) (l : List α) : decide (0 ≤ idxF p l 0) = l.any p := by
  have key : ∀ (l : List α) (i : Nat), (0 ≤ idxF p l i) ↔ l.any p = true := by
    intro l
    induction l with
    | nil => intro i; simp [idxF]
    | cons x r ih =>
      intro i
      simp only [idxF, List.any_cons]
      by_cases h : p x = true
      · simp only [h, if_true, Bool.true_or, iff_true]; omega
      · rw [if_neg h, ih (i + 1)]; simp [h]
  cases h : l.any p with
  | true => exact decide_eq_true ((key l 0).2 h)
  | false => exact decide_eq_false (fun h' => by rw [(key l 0).1 h'] at h; cases h)
theorem contains_pc (l : List Int) (n : Int) : PC Try.prog 117 [ints l, I n] (Bo (decide (n ∈ l))) := by
  refine DC.of_run Try.func117 rfl Try.ntmps117 Try.results117 (by simp) (fun _ => ?_); simp only [argV_cons, argV_nil, go_sem, Nat.zero_add, Nat.reduceAdd]
  repeat' (first | (with_reducible first | refine DS.fltS yU yU yE ?_ | refine DS.opsNil ?_ | refine DS.seq ?_ | refine DS.regionL ?_) | refine DS.pcS inferInstance (index_pc l n) yR yT ?_ | refine DS.retT [] yE trivial ?_ | fail)
  rw [tupV_one, idxF_any]
  simp [List.any_eq]
theorem restS_A {c : Club} {r e : Int} (h : pointsS c r = e) (h2 : e ≠ 0) : restS c r = e := by rw [restS, if_pos (by rw [h]; exact h2), h]
theorem restS_B {c : Club} {r : Int} (h : pointsS c r = 0) : restS c r = rulingsS c r := by rw [restS, if_neg (by rw [h]; decide)]
theorem rest_pc (c : Club) (hs : c.Small) (h1 : c.size ≤ 4) (h2 : 0 ≤ c.size) (h3 : 0 ≤ c.start ∧ c.start ≤ 1000000) (h4 : 0 ≤ c.window ∧ c.window ≤ 20) {i : Nat} (hi : i < c.rounds.length) (h5 : c.rounds.length ≤ 20) : PC Try.prog 93 [c.val, I i] (I (restS c i)) := by
  have q1 := hs.rounds
  have q2 := hs.at hi
  have q3 := q2.points
  have q4 := q2.tables
  have q5 := q2.rulings
  refine DC.of_run Try.func93 rfl Try.ntmps93 Try.results93 (by simp) (fun _ => ?_); simp only [argV_cons, argV_nil, go_sem, Nat.zero_add, Nat.reduceAdd]
  repeat' (first | (with_reducible first | refine DS.fltS yU yU yE ?_ | refine DS.opsNil ?_ | refine DS.seq ?_ | refine DS.regionL ?_ | (refine DS.cE yE ?_; refine CG.np (fun _ => ?_) (fun _ => ?_)) | refine DS.block ?_ | refine DS.skip ?_) | (refine DS.letF (t := 5) yU yE yU (fun _ => by (simp (disch := omega) only [go_sem, dopV, Option.map_some, Option.map_none, Option.bind_some, Option.bind_none, ↓reduceIte, Nat.reduceEqDiff, Nat.reduceLT, Nat.reduceLeDiff, Nat.reduceAdd, Nat.reduceMul, Nat.reduceSub, Nat.zero_add, Nat.add_zero, Nat.zero_le, Nat.zero_mul, Nat.mul_one, Nat.one_mul, Int.natCast_zero, Int.toNat_zero, Int.reduceToNat, Int.reduceLT, Int.reduceLE, Int.reduceEq, decide_true, decide_false, true_and, and_true, Bool.and_self, Bool.and_true, Bool.true_and, Bool.not_true, Bool.not_false, IntWalk.toNatUp, IntWalk.iteOmega, IntWalk.i64_in, Option.isSome_some, not_true_eq_false, not_false_eq_true, Option.getD_some, Option.getD_none, Int.toNat_natCast, List.length_map, List.getElem?_map, List.getElem?_eq_getElem, V.flat, V.one, List.all_cons, List.all_nil, *]; exact rfl)) yE yU (by exact ⟨by with_unfolding_all rfl, by with_unfolding_all decide⟩) (fun _ => by simp only [go_sem, Nat.reduceEqDiff, ↓reduceIte]) ?_; simp only [go_sem]) | (refine DS.boxF (t := 2) yU yE yU ?_; simp only [cells_agg, cells_v, cells_lst, cells_fn, map_nil'', map_cons'', copy_own, copy_lst, copy_v, copy_at, copy_agg, copy_fn, copy_ifc, copy_tup]) | refine DS.retT [] yE trivial ?_ | fail)
  · rename_i q
    rw [restS_A (e := 3) (by rw [pointsS, c.round_at hi, if_pos (by omega)]) (by decide)]; rfl
  rename_i q
  have hps : pointsS c i = pointsGo c c.rounds[i].points := by rw [pointsS, c.round_at hi, if_neg (by omega)]
  have hrs : c.rounds[i].rulings.length ≤ 20 → rulingsS c i = rulingsGo c i c.rounds[i].rulings := fun h => by rw [rulingsS, c.round_at hi, if_neg (by omega)]
  refine DS.loopK [1, 2, 5, 25, 26] (by (simp only [go_sem, Nat.reduceEqDiff, ↓reduceIte]; exact rfl)) (fun (k : Nat) => [(27, I k)]) (fun (k : Nat) => k ≤ c.rounds[i].points.length ∧ pointsGo c c.rounds[i].points = pointsGo c (c.rounds[i].points.drop k)) (fun (k : Nat) => c.rounds[i].points.length - k) 0 yS ⟨Nat.zero_le _, rfl⟩ (fun k B hI hB => ?_); try dsimp only at hI hB; simp only [app_cons', app_nil']
  repeat' (first | (with_reducible first | refine DS.fltS yU yU yE ?_ | refine DS.opsNil ?_ | refine DS.seq ?_ | refine DS.regionL ?_ | (refine DS.cE yE ?_; first | refine CG.np (fun _ => ?_) (fun _ => ?_) | refine CG.p (fun _ => ?_) (fun _ => ?_) | refine CG.no ?_) | (refine DS.gE yU yE ?_; first | refine GG.pT (fun _ => ?_) (fun _ => ?_) | refine GG.run ?_ | refine GG.sF ?_) | refine DS.blk ?_ | refine DS.block ?_ | refine DS.exit yU ?_ | refine DS.skip ?_) | refine DS.pcS inferInstance (right_pcP c _ h1 h2 h3) yR yT ?_ | refine DS.retT [] yE trivial ?_ | fail)
  · rename_i e1 e2 e3
    obtain ⟨_, r, dr1, rfl, dr3⟩ := drop_at (l := c.rounds[i].points) (i := k) (by omega); rw [dr1] at hI
    rw [restS_A (hps.trans (hI.2.trans (by rw [pointsGo, if_neg (by omega), if_pos e3]))) e3]; rfl
  · rename_i e1 e2 e3
    obtain ⟨_, r, dr1, rfl, dr3⟩ := drop_at (l := c.rounds[i].points) (i := k) (by omega); rw [dr1] at hI
    exact DS.back (hB (k + 1) _ _ (by omega) (⟨by omega, by rw [hI.2, dr3, pointsGo, if_neg (by omega), if_neg (by omega)]⟩) yS yS (fun b o e => by first | exact e | (simp only [lookS_cons]; split <;> simp_all)))
  · rename_i e1 e2
    obtain ⟨_, r, dr1, rfl, dr3⟩ := drop_at (l := c.rounds[i].points) (i := k) (by omega); rw [dr1] at hI
    exact DS.back (hB (k + 1) _ _ (by omega) (⟨by omega, by rw [hI.2, dr3, pointsGo, if_pos (by omega)]⟩) yS yS (fun b o e => by first | exact e | (simp only [lookS_cons]; split <;> simp_all)))
  · rename_i e1 e2
    have de1 := drop_end (l := c.rounds[i].points) (i := k) (by omega); rw [de1] at hI
    rw [restS_B (hps.trans hI.2), rulingsS, c.round_at hi, if_pos (by omega)]; rfl
  · rename_i e1 e2
    have de1 := drop_end (l := c.rounds[i].points) (i := k) (by omega); rw [de1] at hI
    have hr := (restS_B (hps.trans hI.2)).trans (hrs (by omega))
    clear hps hrs hI hB
    rw [hr]
    clear hr
    refine DS.loopK [1, 2, 48, 49] (by (simp only [go_sem, Nat.reduceEqDiff, ↓reduceIte]; exact rfl)) (fun (k : Nat) => [(50, I k)]) (fun (k : Nat) => k ≤ c.rounds[i].rulings.length ∧ rulingsGo c i c.rounds[i].rulings = rulingsGo c i (c.rounds[i].rulings.drop k)) (fun (k : Nat) => c.rounds[i].rulings.length - k) 0 yS ⟨Nat.zero_le _, rfl⟩ (fun k B hI hB => ?_); try dsimp only at hI hB; simp only [app_cons', app_nil']
    repeat' (first | (with_reducible first | refine DS.fltS yU yU yE ?_ | refine DS.opsNil ?_ | refine DS.seq ?_ | refine DS.regionL ?_ | (refine DS.cE yE ?_; first | refine CG.np (fun _ => ?_) (fun _ => ?_) | refine CG.p (fun _ => ?_) (fun _ => ?_) | refine CG.nb (fun _ => ?_) (fun _ => ?_)) | refine DS.blk ?_ | refine DS.block ?_ | refine DS.exit yU ?_ | refine DS.skip ?_) | (refine DS.letF (t := 10) yU yE yU (fun _ => by (simp (disch := omega) only [go_sem, dopV, Option.map_some, Option.map_none, Option.bind_some, Option.bind_none, ↓reduceIte, Nat.reduceEqDiff, Nat.reduceLT, Nat.reduceLeDiff, Nat.reduceAdd, Nat.reduceMul, Nat.reduceSub, Nat.zero_add, Nat.add_zero, Nat.zero_le, Nat.zero_mul, Nat.mul_one, Nat.one_mul, Int.natCast_zero, Int.toNat_zero, Int.reduceToNat, Int.reduceLT, Int.reduceLE, Int.reduceEq, decide_true, decide_false, true_and, and_true, Bool.and_self, Bool.and_true, Bool.true_and, Bool.not_true, Bool.not_false, IntWalk.toNatUp, IntWalk.iteOmega, IntWalk.i64_in, Option.isSome_some, not_true_eq_false, not_false_eq_true, Option.getD_some, Option.getD_none, Int.toNat_natCast, List.length_map, List.getElem?_map, List.getElem?_eq_getElem, V.flat, V.one, List.all_cons, List.all_nil, *]; exact rfl)) yE yU (by exact ⟨by with_unfolding_all rfl, by with_unfolding_all decide⟩) (fun _ => by simp only [go_sem, Nat.reduceEqDiff, ↓reduceIte]) ?_; simp only [go_sem]) | refine DS.pcS inferInstance (from_pc _ _ _) yR yT ?_ | refine DS.pcS inferInstance (right_pcP c _ h1 h2 h3) yR yT ?_ | refine DS.pcS inferInstance (played_pc c hs _ _) yR yT ?_ | refine DS.retT [] yE trivial ?_ | fail)
    · rename_i e1 e2 e3
      obtain ⟨_, r, dr1, rfl, dr3⟩ := drop_at (l := c.rounds[i].rulings) (i := k) (by omega); rw [dr1] at hI
      rw [hI.2, rulingsGo, if_pos (by omega)]; rfl
    · rename_i e1 e2 e3 e4
      obtain ⟨_, r, dr1, rfl, dr3⟩ := drop_at (l := c.rounds[i].rulings) (i := k) (by omega); rw [dr1] at hI
      rw [hI.2, rulingsGo, if_neg (by omega), if_pos e4]; rfl
    · rename_i e1 e2 e3 e4 e5
      obtain ⟨_, r, dr1, rfl, dr3⟩ := drop_at (l := c.rounds[i].rulings) (i := k) (by omega); rw [dr1] at hI
      rw [hI.2, rulingsGo, if_neg (by omega), if_neg (by simp [e4]), if_pos e5]; rfl
    · rename_i e1 e2 e3 e4 e5
      obtain ⟨_, r, dr1, rfl, dr3⟩ := drop_at (l := c.rounds[i].rulings) (i := k) (by omega); rw [dr1] at hI
      exact DS.back (hB (k + 1) _ _ (by omega) (⟨by omega, by rw [hI.2, dr3, rulingsGo, if_neg (by omega), if_neg (by simp [e4]), if_neg (by omega)]⟩) yS yS (fun b o e => by first | exact e | (simp only [lookS_cons]; split <;> simp_all)))
    · rename_i e1 e2
      have de1 := drop_end (l := c.rounds[i].rulings) (i := k) (by omega); rw [de1] at hI
      rw [hI.2]; rfl
theorem indexFuncI_rc (S : Sto) (l : List Int) {g : FuncId} {fs cs : List V} {fn : Func} (p : Int → Bool) (hf : FnOk Try.prog g fn) (h : ∀ x, RC Try.prog g (fs ++ [I x] ++ cs) S (Bo (p x))) :
    RC Try.prog 135 [ints l, .fn g fs cs] S (I (idxF p l 0)) := by
  refine DC.of_run Try.func135 rfl Try.ntmps135 Try.results135 (by simp) (fun _ => ?_); simp only [argV_cons, argV_nil, go_sem, Nat.zero_add, Nat.reduceAdd]
  refine DS.bnd (t := 0) yG (.inl rfl) (fun hb0 => ?_); simp only [List.length_map] at hb0
  repeat' (first | (with_reducible first | refine DS.fltS yU yU yE ?_ | refine DS.opsNil ?_ | refine DS.seq ?_ | refine DS.regionL ?_ | refine DS.block ?_) | fail)
  refine DS.loopK [0, 1, 7] (by (simp only [go_sem, Nat.reduceEqDiff, ↓reduceIte]; exact rfl)) (fun (i : Nat) => [(8, I i)]) (fun (i : Nat) => i ≤ l.length ∧ idxF p l 0 = idxF p (l.drop i) i) (fun (i : Nat) => l.length - i) 0 yS ⟨Nat.zero_le _, rfl⟩ (fun i B hI hB => ?_); try dsimp only at hI hB; simp only [app_cons', app_nil']
  repeat' (first | (with_reducible first | refine DS.fltS yU yU yE ?_ | refine DS.opsNil ?_ | refine DS.seq ?_ | refine DS.regionL ?_ | (refine DS.cE yE ?_; refine CG.p (fun _ => ?_) (fun _ => ?_)) | refine DS.block ?_ | refine DS.exit yU ?_ | refine DS.skip ?_) | refine DS.retA yE ⟨?_, rfl⟩ | fail)
  · refine DS.rcVS hf (by simp (disch := omega) only [go_sem, dopV, Option.map_some, Option.map_none, Option.bind_some, Option.bind_none, ↓reduceIte, Nat.reduceEqDiff, Nat.reduceLT, Nat.reduceLeDiff, Nat.reduceAdd, Nat.reduceMul, Nat.reduceSub, Nat.zero_add, Nat.add_zero, Nat.zero_le, Nat.zero_mul, Nat.mul_one, Nat.one_mul, Int.natCast_zero, Int.toNat_zero, Int.reduceToNat, Int.reduceLT, Int.reduceLE, Int.reduceEq, decide_true, decide_false, true_and, and_true, Bool.and_self, Bool.and_true, Bool.true_and, Bool.not_true, Bool.not_false, IntWalk.toNatUp, IntWalk.iteOmega, IntWalk.i64_in, Option.isSome_some, not_true_eq_false, not_false_eq_true, Option.getD_some, Option.getD_none, Int.toNat_natCast, List.length_map, List.getElem?_map, List.getElem?_eq_getElem, V.flat, V.one, List.all_cons, List.all_nil]) (h l[i]) yR yH ?_
    repeat' (first | (with_reducible first | refine DS.fltS yU yU yE ?_ | refine DS.opsNil ?_ | refine DS.seq ?_ | refine DS.regionL ?_ | (refine DS.cE yE ?_; refine CG.b (fun _ => ?_) (fun _ => ?_)) | refine DS.blk ?_ | refine DS.skip ?_) | refine DS.retA yE ⟨?_, rfl⟩ | fail)
    · rename_i h1 h2
      rw [hI.2, idxF_hit (p := p) (l := l) (i := i) (by omega) h2]; rfl
    · rename_i h1 h2
      exact DS.back (hB (i + 1) _ _ (by omega) (⟨by omega, by rw [hI.2, idxF_miss (by omega) h2]⟩) yS yS (fun b o e => by first | exact e | (simp only [lookS_cons]; split <;> simp_all)))
  · rw [hI.2, idxF_end (p := p) (l := l) (i := i) (by omega)]; rfl
theorem containsFunc_rc (S : Sto) (l : List Int) {g : FuncId} {fs cs : List V} {fn : Func} (p : Int → Bool) (hf : FnOk Try.prog g fn) (h : ∀ x, RC Try.prog g (fs ++ [I x] ++ cs) S (Bo (p x))) :
    RC Try.prog 115 [ints l, .fn g fs cs] S (Bo (l.any p)) := by
  refine DC.of_run Try.func115 rfl Try.ntmps115 Try.results115 (by simp) (fun _ => ?_); simp only [argV_cons, argV_nil, go_sem, Nat.zero_add, Nat.reduceAdd]
  repeat' (first | (with_reducible first | refine DS.fltS yU yU yE ?_ | refine DS.opsNil ?_ | refine DS.seq ?_ | refine DS.regionL ?_) | refine DS.rcS inferInstance (indexFuncI_rc S l p hf h) yR yT ?_ | refine DS.retA yE ⟨?_, rfl⟩ | fail)
  rw [tupV_one, idxF_any]
abbrev GR.Int (g : GR) (l : List Int) : Prop := g.l = l.map cI
theorem flatten_cI : ∀ l : List Int, (l.map cI).flatten = l.map fun x => I x
  | [] => rfl
  | x :: r => by rw [List.map_cons, List.flatten_cons, flatten_cI r]; rfl
theorem yX9 {p : Prop} (h : p := by (simp (disch := omega) only [go_sem, dopV, Option.map_some, Option.map_none, Option.bind_some, Option.bind_none, ↓reduceIte, Nat.reduceEqDiff, Nat.reduceLT, Nat.reduceLeDiff, Nat.reduceAdd, Nat.reduceMul, Nat.reduceSub, Nat.zero_add, Nat.add_zero, Nat.zero_le, Nat.zero_mul, Nat.mul_one, Nat.one_mul, Int.natCast_zero, Int.toNat_zero, Int.reduceToNat, Int.reduceLT, Int.reduceLE, Int.reduceEq, decide_true, decide_false, true_and, and_true, Bool.and_self, Bool.and_true, Bool.true_and, Bool.not_true, Bool.not_false, IntWalk.toNatUp, IntWalk.iteOmega, IntWalk.i64_in, Option.isSome_some, not_true_eq_false, not_false_eq_true, Option.getD_some, Option.getD_none, Int.toNat_natCast, List.length_map, List.getElem?_map, List.getElem?_eq_getElem, V.flat, V.one, List.all_cons, List.all_nil, *, map_app_at]; exact rfl)) : p := h
theorem index_rc (S : Sto) (g : GR) (l : List Int) (n : Int) (ok : g.Ok 3 1 S) (hg : g.l = l.map cI) : RC Try.prog 108 [g.cell.peek, I n] S (I (idxF (fun x => decide (x = n)) l 0)) := by
  obtain ⟨gl, blk⟩ := g
  dsimp only at hg
  subst hg
  cases blk with
  | none =>
    simp only [GR.Ok, List.map_eq_nil_iff] at ok
    subst ok
    simp only [GR.cell, peek_nil]
    refine DC.of_run Try.func108 rfl Try.ntmps108 Try.results108 (by simp) (fun _ => ?_); simp only [argV_cons, argV_nil, go_sem, Nat.zero_add, Nat.reduceAdd]
    repeat' (first | (with_reducible first | refine DS.fltS yU yU yE ?_ | refine DS.opsNil ?_ | refine DS.seq ?_ | refine DS.regionL ?_ | refine DS.block ?_) | fail)
    refine DS.loopK [0, 1, 7] (by (simp only [go_sem, Nat.reduceEqDiff, ↓reduceIte]; exact rfl)) (fun (i : Nat) => [(8, I 0)]) (fun (i : Nat) => True) (fun (i : Nat) => i) 0 yS trivial (fun i B hI hB => ?_); try dsimp only at hI hB; simp only [app_cons', app_nil']
    repeat' (first | (with_reducible first | refine DS.fltS yU yU yE ?_ | refine DS.opsNil ?_ | refine DS.seq ?_ | refine DS.regionL ?_ | (refine DS.cE yE ?_; refine CG.no ?_) | refine DS.exit yU ?_) | refine DS.retA yE ⟨?_, rfl⟩ | fail)
    rfl
  | some x =>
    obtain ⟨b, cap, j⟩ := x
    have k1 := ok.look
    have k2 := ok.le
    have k3 := ok.cap
    have hfl := flatten_cI l
    rw [hfl] at k1
    clear hfl ok
    simp only [List.length_map] at k2
    simp only [maxLen] at k3
    simp only [GR.cell, peek_slice, List.length_map]
    refine DC.of_run Try.func108 rfl Try.ntmps108 Try.results108 (by simp) (fun _ => ?_); simp only [argV_cons, argV_nil, go_sem, Nat.zero_add, Nat.reduceAdd]
    repeat' (first | (with_reducible first | refine DS.fltS yU yU yE ?_ | refine DS.opsNil ?_ | refine DS.seq ?_ | refine DS.regionL ?_ | refine DS.block ?_) | fail)
    refine DS.loopK [0, 1, 7] (by (simp only [go_sem, Nat.reduceEqDiff, ↓reduceIte]; exact rfl)) (fun (i : Nat) => [(8, I i)]) (fun (i : Nat) => i ≤ l.length ∧ idxF (fun x => decide (x = n)) l 0 = idxF (fun x => decide (x = n)) (l.drop i) i) (fun (i : Nat) => l.length - i) 0 yS ⟨Nat.zero_le _, rfl⟩ (fun i B hI hB => ?_); try dsimp only at hI hB; simp only [app_cons', app_nil']
    repeat' (first | (with_reducible first | refine DS.fltS yU yU yX9 ?_ | refine DS.opsNil ?_ | refine DS.seq ?_ | refine DS.regionL ?_) | (with_reducible refine DS.cE yX9 ?_; with_reducible refine CG.p (fun _ => ?_) (fun _ => ?_)) | (with_reducible first | refine DS.blk ?_ | refine DS.block ?_ | refine DS.exit yU ?_ | refine DS.skip ?_) | refine DS.retA yX9 ⟨?_, rfl⟩ | fail)
    · rename_i q1 q2
      rw [hI.2, idxF_hit (p := fun x => decide (x = n)) (l := l) (i := i) (by omega) (decide_eq_true q2.symm)]; rfl
    · rename_i q1 q2
      exact DS.back (hB (i + 1) _ _ (by omega) (⟨by omega, by rw [hI.2, idxF_miss (p := fun x => decide (x = n)) (l := l) (i := i) (by omega) (by simpa using fun h => q2 h.symm)]⟩) yS yS (fun b o e => by first | exact e | (simp only [lookS_cons]; split <;> simp_all)))
    · rename_i q1
      rw [hI.2, idxF_end (p := fun x => decide (x = n)) (l := l) (i := i) (by omega)]; rfl
theorem contains_rc (S : Sto) (g : GR) (l : List Int) (n : Int) (ok : g.Ok 3 1 S) (hg : g.l = l.map cI) : RC Try.prog 117 [g.cell.peek, I n] S (Bo (decide (n ∈ l))) := by
  have h := index_rc S g l n ok hg
  clear ok hg
  obtain ⟨gl, blk⟩ := g
  cases blk with
  | none =>
    simp only [GR.cell, peek_nil] at h ⊢
    refine DC.of_run Try.func117 rfl Try.ntmps117 Try.results117 (by simp) (fun _ => ?_); simp only [argV_cons, argV_nil, go_sem, Nat.zero_add, Nat.reduceAdd]
    repeat' (first | (with_reducible first | refine DS.fltS yU yU yE ?_ | refine DS.opsNil ?_ | refine DS.seq ?_ | refine DS.regionL ?_) | refine DS.rcS inferInstance (h) yR yT ?_ | refine DS.retA yE ⟨?_, rfl⟩ | fail)
    rw [tupV_one, idxF_any]
    simp [List.any_eq]
  | some x =>
    obtain ⟨b, cap, j⟩ := x
    simp only [GR.cell, peek_slice] at h ⊢
    refine DC.of_run Try.func117 rfl Try.ntmps117 Try.results117 (by simp) (fun _ => ?_); simp only [argV_cons, argV_nil, go_sem, Nat.zero_add, Nat.reduceAdd]
    repeat' (first | (with_reducible first | refine DS.fltS yU yU yE ?_ | refine DS.opsNil ?_ | refine DS.seq ?_ | refine DS.regionL ?_) | refine DS.rcS inferInstance (h) yR yT ?_ | refine DS.retA yE ⟨?_, rfl⟩ | fail)
    rw [tupV_one, idxF_any]
    simp [List.any_eq]
end Go.XL
namespace Go.XL
open Go.Proofs
set_option linter.unusedSimpArgs false
set_option linter.unusedVariables false
set_option maxRecDepth 100000
set_option maxHeartbeats 8000000
theorem cI_ne (l : List Int) : ∀ c ∈ l.map cI, c ≠ [] := fun c hc => by
  obtain ⟨x, _, rfl⟩ := List.mem_map.1 hc; simp [cI]
theorem cloneI_pc (l : List Int) (hl : l.length ≤ 2147483647) : PC Try.prog 102 [ints l] (.own false 3 1 (l.map cI)) := by
  refine DC.of_run Try.func102 rfl Try.ntmps102 Try.results102 (by simp) (fun _ => ?_); simp only [argV_cons, argV_nil, go_sem, Nat.zero_add, Nat.reduceAdd]
  repeat' (first | (with_reducible first | (refine DS.nilOwn (t := 2) yU (by first | exact .inl rfl | exact .inr rfl) yE ?_) | refine DS.fltS yU yU yE ?_ | refine DS.opsNil ?_ | refine DS.seq ?_ | refine DS.regionL ?_) | fail)
  refine DS.eqNil yR yU yG yR (cI_ne l) (fun b hb => ?_)
  cases b with
  | true =>
    have hb := hb rfl
    simp only [List.map_eq_nil_iff] at hb
    subst hb
    repeat' (first | (with_reducible first | (refine DS.nilOwn (t := 2) yU (by first | exact .inl rfl | exact .inr rfl) yE ?_) | refine DS.opsNil ?_ | refine DS.seq ?_ | refine DS.regionL ?_ | (refine DS.cE yE ?_; refine CG.yes ?_)) | refine DS.retT [] yE trivial ?_ | fail)
    rfl
  | false =>
    clear hb
    repeat' (first | (with_reducible refine DS.mv (t := 2) yU (by first | exact .inl rfl | exact .inr rfl) yE ?_; simp only [strip_tmp, strip_const, lookV_cons, Nat.reduceEqDiff, ↓reduceIte, stripO_own, stripO_lst, stripO_v, stripO_plc, stripO_agg, stripO_fn, stripO_ifc]) | (with_reducible first | refine DS.fltS yU yU yE ?_ | refine DS.opsNil ?_ | refine DS.seq ?_ | refine DS.regionL ?_ | (refine DS.cE yE ?_; refine CG.no ?_) | refine DS.skip ?_) | (refine DS.bsl yU yE yE ?_; simp only [go_sem, Nat.zero_add, Nat.reduceAdd]) | (refine DS.append (mm := false) yU yE yE yU (by decide) yE (by first | exact .inl rfl | exact .inr ⟨rfl, rfl⟩) yE yX0 (by first | exact len_map cI_len _ | exact len_map cR_len _ | exact len_map Member.len _ | exact len_map Sitting.len _ | exact len_map Ruling.len _ | (simp only [List.mem_cons, List.not_mem_nil, or_false, forall_eq]; rfl) | simp) ⟨by (try simp only [List.length_map, List.length_cons, List.length_nil, List.length_append, List.length_take, List.length_drop]); omega, by decide⟩ ?_; simp only [strip_tmp, strip_const, lookV_cons, Nat.reduceEqDiff, ↓reduceIte, stripO_own, stripO_lst, stripO_v, stripO_plc, stripO_agg, stripO_fn, stripO_ifc]) | refine DS.retT [] yE trivial ?_ | fail)
    rfl
theorem cloneI_dc (l : List Int) (hl : l.length ≤ 2147483647) (hl0 : l ≠ []) : DC Try.prog 102 [ints l] [] (fun u S' => ∃ g : GR, u = g.cell ∧ g.Ok 3 1 S' ∧ g.l = l.map cI) := by
  refine DC.of_run Try.func102 rfl Try.ntmps102 Try.results102 (by simp) (fun _ => ?_); simp only [argV_cons, argV_nil, go_sem, Nat.zero_add, Nat.reduceAdd]
  repeat' (first | (with_reducible first | refine DS.fltS yU yU yE ?_ | refine DS.opsNil ?_ | refine DS.seq ?_ | refine DS.regionL ?_) | fail)
  refine DS.eqNil yR yU yG yR (cI_ne l) (fun b hb => ?_)
  cases b with
  | true =>
    have hb := hb rfl
    simp only [List.map_eq_nil_iff] at hb
    exact absurd hb hl0
  | false =>
    clear hb
    repeat' (first | (with_reducible first | refine DS.opsNil ?_ | refine DS.seq ?_ | refine DS.regionL ?_ | (refine DS.cE yE ?_; refine CG.no ?_) | refine DS.skip ?_) | fail)
    refine DS.bslO yR yG yG (fun b hb => ?_)
    repeat' (first | with_reducible refine DS.fltS yU yU yE ?_ | fail)
    have G : GR.Ok 3 1 [(b, .cells [] 3)] ⟨[], some (b, 0, [])⟩ := ⟨by simp [lookS], rfl, Nat.le_refl _, Nat.zero_le _, by simp, by simp, by simp⟩
    have hlp : 0 < l.length := List.length_pos_iff.2 hl0
    refine DS.step rfl rfl yR (OpS.appG (g := ⟨[], some (b, 0, [])⟩) (ml := l.map cI) rfl yH yH yR yR (by decide) yH G yH yH (by rw [List.length_map]; omega) (by intro x hx; obtain ⟨y, -, rfl⟩ := List.mem_map.1 hx; rfl) ⟨by simp only [List.length_map, List.length_nil]; omega, by decide⟩) (fun u2 E' S4 hu2 => ?_)
    obtain ⟨rfl, b', cap', junk', rfl, m1, m2, m3⟩ := hu2
    simp only [GR.cell_some, putV_some]
    repeat' (first | (with_reducible first | refine DS.fltS yU yU yE ?_ | refine DS.opsNil ?_) | fail)
    refine DS.retA yG ⟨⟨l.map cI, some (b', cap', junk')⟩, by simp [GR.cell, tupV], ?_, rfl⟩
    have hml : [] ++ (l.map cI).map (·.map V.copy) = l.map cI := by rw [List.nil_append, List.map_map]; rfl
    rw [hml] at m1
    exact m1
theorem indexFuncG_rc (S : Sto) (l : List Int) {b cap : Nat} {j : List V} {T : TypeId} (hS : lookS S b = some (.cells ((l.map fun x => I x) ++ j) T)) (hc : l.length ≤ cap ∧ cap ≤ maxLen) {g : FuncId} {fs cs : List V} {fn : Func} (p : Int → Bool) (hf : FnOk Try.prog g fn) (h : ∀ x ∈ l, PC Try.prog g (fs ++ [I x] ++ cs) (Bo (p x))) :
    RC Try.prog 135 [.v (.slice (some ⟨b, 0, none⟩) l.length cap), .fn g fs cs] S (I (idxF p l 0)) := by
  have k3 := hc.2
  have k2 := hc.1
  simp only [maxLen] at k3
  clear hc
  refine DC.of_run Try.func135 rfl Try.ntmps135 Try.results135 (by simp) (fun _ => ?_); simp only [argV_cons, argV_nil, go_sem, Nat.zero_add, Nat.reduceAdd]
  repeat' (first | (with_reducible first | refine DS.fltS yU yU yE ?_ | refine DS.opsNil ?_ | refine DS.seq ?_ | refine DS.regionL ?_ | refine DS.block ?_) | fail)
  refine DS.loopK [0, 1, 7] (by (simp only [go_sem, Nat.reduceEqDiff, ↓reduceIte]; exact rfl)) (fun (i : Nat) => [(8, I i)]) (fun (i : Nat) => i ≤ l.length ∧ idxF p l 0 = idxF p (l.drop i) i) (fun (i : Nat) => l.length - i) 0 yS ⟨Nat.zero_le _, rfl⟩ (fun i B hI hB => ?_); try dsimp only at hI hB; simp only [app_cons', app_nil']
  repeat' (first | (with_reducible first | refine DS.fltS yU yU yX9 ?_ | refine DS.opsNil ?_ | refine DS.seq ?_ | refine DS.regionL ?_) | (with_reducible refine DS.cE yX9 ?_; with_reducible refine CG.p (fun _ => ?_) (fun _ => ?_)) | (with_reducible first | refine DS.block ?_ | refine DS.exit yU ?_ | refine DS.skip ?_) | refine DS.retA yX9 ⟨?_, rfl⟩ | fail)
  · refine DS.pcVS hf (by simp (disch := omega) only [go_sem, dopV, Option.map_some, Option.map_none, Option.bind_some, Option.bind_none, ↓reduceIte, Nat.reduceEqDiff, Nat.reduceLT, Nat.reduceLeDiff, Nat.reduceAdd, Nat.reduceMul, Nat.reduceSub, Nat.zero_add, Nat.add_zero, Nat.zero_le, Nat.zero_mul, Nat.mul_one, Nat.one_mul, Int.natCast_zero, Int.toNat_zero, Int.reduceToNat, Int.reduceLT, Int.reduceLE, Int.reduceEq, decide_true, decide_false, true_and, and_true, Bool.and_self, Bool.and_true, Bool.true_and, Bool.not_true, Bool.not_false, IntWalk.toNatUp, IntWalk.iteOmega, IntWalk.i64_in, Option.isSome_some, not_true_eq_false, not_false_eq_true, Option.getD_some, Option.getD_none, Int.toNat_natCast, List.length_map, List.getElem?_map, List.getElem?_eq_getElem, V.flat, V.one, List.all_cons, List.all_nil]) (h l[i] (List.getElem_mem _)) yR yH ?_
    repeat' (first | (with_reducible first | refine DS.fltS yU yU yE ?_ | refine DS.opsNil ?_ | refine DS.seq ?_ | refine DS.regionL ?_ | (refine DS.cE yE ?_; refine CG.b (fun _ => ?_) (fun _ => ?_)) | refine DS.blk ?_ | refine DS.skip ?_) | refine DS.retA yE ⟨?_, rfl⟩ | fail)
    · rename_i h1 h2
      rw [hI.2, idxF_hit (p := p) (l := l) (i := i) (by omega) h2]; rfl
    · rename_i h1 h2
      exact DS.back (hB (i + 1) _ _ (by omega) (⟨by omega, by rw [hI.2, idxF_miss (by omega) h2]⟩) yS yS (fun b o e => by first | exact e | (simp only [lookS_cons]; split <;> simp_all)))
  · rw [hI.2, idxF_end (p := p) (l := l) (i := i) (by omega)]; rfl
theorem idxF_pre {p : Int → Bool} : ∀ (l : List Int) (s : Nat), (idxF p l s = -1 ∧ l.filter (fun x => !p x) = l) ∨ ∃ i : Nat, idxF p l s = (s + i : Nat) ∧ i < l.length ∧ l.take i = (l.take (i + 1)).filter (fun x => !p x)
  | [], s => .inl ⟨rfl, rfl⟩
  | x :: r, s => by
    simp only [idxF]
    by_cases hx : p x = true
    · rw [if_pos hx]
      exact .inr ⟨0, by simp, by simp, by simp [hx]⟩
    · rw [if_neg hx]
      rcases idxF_pre r (s + 1) with ⟨h1, h2⟩ | ⟨i, h1, h2, h3⟩
      · exact .inl ⟨h1, by simp [hx, h2]⟩
      · refine .inr ⟨i + 1, by rw [h1]; congr 1; omega, by simp; omega, ?_⟩
        rw [List.take_succ_cons, List.take_succ_cons, List.filter_cons, if_pos (by simpa using hx), ← h3]
structure DelI (p : Int → Bool) (l m : List Int) (i j : Nat) : Prop where
  ij : i < j
  jl : j ≤ l.length
  len : m.length = l.length
  keep : m.take i = (l.take j).filter (fun x => !p x)
  rest : m.drop j = l.drop j
theorem chunk_one (l : List Int) (k : Nat) (r : List V) (hk : k ≤ l.length) : chunk 1 k ((l.map fun x => I x) ++ r) = (l.take k).map cI := by
  induction k generalizing l with
  | zero => simp [chunk]
  | succ k ih =>
    cases l with
    | nil => simp at hk
    | cons x l =>
      simp only [List.length_cons] at hk
      simp only [chunk, List.map_cons, List.cons_append, List.take_succ_cons, List.take_zero, List.drop_succ_cons, List.drop_zero, ih l (by omega)]
      rfl
theorem deleteFunc_dc (l : List Int) (gr : GR) (S : Sto) (ok : gr.Ok 3 1 S) (hl0 : l ≠ []) (hg : gr.l = l.map cI) {g : FuncId} {fs cs : List V} {fn : Func} (p : Int → Bool) (hf : FnOk Try.prog g fn) (h : ∀ x ∈ l, PC Try.prog g (fs ++ [I x] ++ cs) (Bo (p x))) :
    DC Try.prog 121 [gr.cell.peek, .fn g fs cs] S (fun u S' => u = ints (l.filter fun x => !p x)) := by
  obtain ⟨gl, blk⟩ := gr
  dsimp only at hg
  subst hg
  cases blk with
  | none =>
    simp only [GR.Ok, List.map_eq_nil_iff] at ok
    exact absurd ok hl0
  | some x =>
    obtain ⟨b, cap, j⟩ := x
    have k1 := ok.look
    have k2 := ok.le
    have k3 := ok.cap
    have k4 := ok.len
    have hfl := flatten_cI l
    rw [hfl] at k1
    clear hfl ok
    simp only [List.length_map, Nat.mul_one] at k2 k4
    simp only [GR.cell, peek_slice, List.length_map]
    have hix := indexFuncG_rc S l k1 ⟨k2, k3⟩ p hf h
    simp only [maxLen] at k3
    have hpre := idxF_pre (p := p) l 0
    rcases hpre with ⟨e1, e2⟩ | ⟨i0, e1, e2, e3⟩
    · rw [e1] at hix
      rw [e2]
      clear e1 e2
      refine DC.of_run Try.func121 rfl Try.ntmps121 Try.results121 (by simp) (fun _ => ?_); simp only [argV_cons, argV_nil, go_sem, Nat.zero_add, Nat.reduceAdd]
      repeat' (first | (with_reducible first | refine DS.fltS yU yU yE ?_ | refine DS.opsNil ?_ | refine DS.seq ?_ | refine DS.regionL ?_ | (refine DS.cE yE ?_; refine CG.yes ?_)) | refine DS.rcS inferInstance (hix) yR yT ?_ | fail)
      refine DS.freeze (t := 4) (sz := 1) yR k1 (by simp) ⟨k2, by simp only [maxLen]; exact k3⟩ ?_
      refine DS.retT [] yG trivial ?_
      rw [tupV_one, List.map_append, List.map_map, show (V.copy ∘ fun x => I x) = (fun x => I x) from rfl, chunk_one l _ _ (Nat.le_refl _), List.take_length]
    · rw [Nat.zero_add] at e1
      rw [e1] at hix
      have D0 : DelI p l l i0 (i0 + 1) := ⟨by omega, by omega, rfl, e3, rfl⟩
      clear e1 e3
      refine DC.of_run Try.func121 rfl Try.ntmps121 Try.results121 (by simp) (fun _ => ?_); simp only [argV_cons, argV_nil, go_sem, Nat.zero_add, Nat.reduceAdd]
      repeat' (first | (with_reducible first | refine DS.fltS yU yU yE ?_ | refine DS.opsNil ?_ | refine DS.seq ?_ | refine DS.regionL ?_ | (refine DS.cE yE ?_; refine CG.p (fun _ => ?_) (fun _ => ?_)) | refine DS.block ?_ | refine DS.skip ?_) | refine DS.rcS inferInstance (hix) yR yT ?_ | fail)
      all_goals first | (exfalso; omega) | skip
      rename_i e4
      clear hix
      refine DS.loopS [0, 1] (by (simp only [go_sem, Nat.reduceEqDiff, ↓reduceIte]; exact rfl)) (fun (x : Nat × Nat × List Int × Sto) => [(5, I x.1), (6, I x.2.1)]) (fun (x : Nat × Nat × List Int × Sto) => x.2.2.2) (fun (x : Nat × Nat × List Int × Sto) => DelI p l x.2.2.1 x.1 x.2.1 ∧ lookS x.2.2.2 b = some (.cells ((x.2.2.1.map fun x => I x) ++ j) 3)) (fun (x : Nat × Nat × List Int × Sto) => l.length - x.2.1) (i0, i0 + 1, l, S) yS (fun b o e => by exact e) ⟨D0, k1⟩ (fun x B hI hB => ?_); try dsimp only at hI hB; simp only [app_cons', app_nil']
      obtain ⟨a, c, m, S1⟩ := x
      dsimp only at hI hB
      obtain ⟨D, g2⟩ := hI
      have d1 := D.ij
      have d2 := D.jl
      have d3 := D.len
      have hcc : c < l.length → ∃ h1 : c < m.length, ∃ h2 : c < l.length, m[c] = l[c] := fun hc => by
        have h1 : c < m.length := by omega
        refine ⟨h1, hc, ?_⟩
        have := D.rest
        rw [List.drop_eq_getElem_cons h1, List.drop_eq_getElem_cons hc] at this
        exact (List.cons.inj this).1
      repeat' (first | (with_reducible first | refine DS.fltS yU yU yX9 ?_ | refine DS.opsNil ?_ | refine DS.seq ?_ | refine DS.regionL ?_) | (with_reducible refine DS.cE yX9 ?_; with_reducible refine CG.p (fun _ => ?_) (fun _ => ?_)) | (with_reducible first | refine DS.block ?_ | refine DS.exit yU ?_ | refine DS.skip ?_) | fail)
      · rename_i e5
        obtain ⟨h1, h2, h3⟩ := hcc (by omega)
        have hpx := h l[c] (List.getElem_mem h2)
        rw [← h3] at hpx
        refine DS.pcVS hf (by simp (disch := omega) only [go_sem, dopV, Option.map_some, Option.map_none, Option.bind_some, Option.bind_none, ↓reduceIte, Nat.reduceEqDiff, Nat.reduceLT, Nat.reduceLeDiff, Nat.reduceAdd, Nat.reduceMul, Nat.reduceSub, Nat.zero_add, Nat.add_zero, Nat.zero_le, Nat.zero_mul, Nat.mul_one, Nat.one_mul, Int.natCast_zero, Int.toNat_zero, Int.reduceToNat, Int.reduceLT, Int.reduceLE, Int.reduceEq, decide_true, decide_false, true_and, and_true, Bool.and_self, Bool.and_true, Bool.true_and, Bool.not_true, Bool.not_false, IntWalk.toNatUp, IntWalk.iteOmega, IntWalk.i64_in, Option.isSome_some, not_true_eq_false, not_false_eq_true, Option.getD_some, Option.getD_none, Int.toNat_natCast, List.length_map, List.getElem?_map, List.getElem?_eq_getElem, V.flat, V.one, List.all_cons, List.all_nil]) hpx yR yH ?_
        repeat' (first | (with_reducible first | refine DS.fltS yU yU yE ?_ | refine DS.opsNil ?_ | refine DS.seq ?_ | refine DS.regionL ?_ | (refine DS.cE yE ?_; refine CG.nb (fun _ => ?_) (fun _ => ?_)) | refine DS.blk ?_ | refine DS.skip ?_) | (refine DS.store yR yE yE yE yE yU (by exact ⟨by with_unfolding_all rfl, by (try simp only [List.length_map, List.length_append, List.length_set, List.length_replicate, List.length_cons, List.length_nil]); omega⟩) ?_; simp only [putV_none, setAll_cons, setAll_nil, scells_v, scells_own, scells_lst, scells_agg]; try simp only [strip_tmp, strip_const, lookV_cons, Nat.reduceEqDiff, ↓reduceIte, stripO_own, stripO_lst, stripO_v, stripO_plc, stripO_agg, stripO_fn, stripO_ifc]) | fail)
        · rename_i e6
          have hai : a < m.length := by omega
          have hset : ((m.map fun x => I x) ++ j).set a (.v (.int .i64 l[c])) = ((m.set a l[c]).map fun x => I x) ++ j := by
            rw [List.set_append_left _ _ (by simpa using hai), List.map_set]
          refine DS.reS (S' := setS b (.cells (((m.set a l[c]).map fun x => I x) ++ j) 3) S1) (fun b' o e => by rw [← hset] at e; exact e) ?_
          have g3 : lookS (setS b (.cells (((m.set a l[c]).map fun x => I x) ++ j) 3) S1) b = some (.cells (((m.set a l[c]).map fun x => I x) ++ j) 3) := by rw [lookS_set g2, if_pos rfl]
          have D2 : DelI p l (m.set a l[c]) (a + 1) (c + 1) := by
            refine ⟨by omega, by omega, by rw [List.length_set]; exact D.len, ?_, ?_⟩
            · rw [List.take_succ_eq_append_getElem (by rw [List.length_set]; omega), List.take_set_of_le (Nat.le_refl _), D.keep, List.getElem_set_self, List.take_succ_eq_append_getElem h2, List.filter_append]
              simp [e6]
            · rw [List.drop_set_of_lt (by omega)]
              have := D.rest
              rw [List.drop_eq_getElem_cons h1, List.drop_eq_getElem_cons h2] at this
              exact (List.cons.inj this).2
          generalize setS b (.cells (((m.set a l[c]).map fun x => I x) ++ j) 3) S1 = S2 at *
          clear hset hcc
          skip
          refine DS.back (hB (a + 1, c + 1, m.set a l[c], S2) _ _ (by dsimp only; omega) ⟨D2, g3⟩ yS yS (fun b o e => by exact e))
        · rename_i e6
          have D2 : DelI p l m a (c + 1) := by
            refine ⟨by omega, by omega, D.len, ?_, ?_⟩
            · rw [List.take_succ_eq_append_getElem h2, List.filter_append, ← D.keep]
              simp [e6]
            · have := D.rest
              rw [List.drop_eq_getElem_cons h1, List.drop_eq_getElem_cons h2] at this
              exact (List.cons.inj this).2
          clear hcc
          skip
          refine DS.back (hB (a, c + 1, m, S1) _ _ (by dsimp only; omega) ⟨D2, g2⟩ yS yS (fun b o e => by exact e))
      · rename_i e5
        have hc : c = m.length := by omega
        have hkeep := D.keep
        rw [List.take_of_length_le (l := l) (by omega)] at hkeep
        rw [← hkeep]
        clear hcc hkeep
        refine DS.clear (z := .int .i64 0) yU yU yR yR (m := l.length - a) (by omega) yG g2 (by simp only [List.length_append, List.length_map]; omega) ?_
        have hset : setAll ((m.map fun x => I x) ++ j) a (List.replicate (l.length - a) (.v (.int .i64 0))) = ((m.take a).map fun x => I x) ++ (List.replicate (l.length - a) (.v (.int .i64 0)) ++ j) := by
          apply List.ext_getElem?
          intro i
          rw [setAll_get' _ _ _ _ (by simp; omega), List.length_replicate]
          by_cases h1 : i < a
          · rw [if_neg (by omega), List.getElem?_append_left (by simp; omega), List.getElem?_append_left (by simp; omega), List.map_take, List.getElem?_take_of_lt h1]
          · rw [List.getElem?_append_right (l₁ := (m.take a).map fun x => I x) (by simp; omega), List.length_map, List.length_take, Nat.min_eq_left (by omega)]
            by_cases h2 : i < l.length
            · rw [if_pos (by omega), List.getElem?_append_left (by simp; omega)]
            · rw [if_neg (by omega), List.getElem?_append_right (by simp; omega), List.getElem?_append_right (by simp; omega), List.length_map, List.length_replicate]
              congr 1; omega
        refine DS.reS (S' := setS b (.cells (((m.take a).map fun x => I x) ++ (List.replicate (l.length - a) (.v (.int .i64 0)) ++ j)) 3) S1) (fun b' o e => by rw [← hset] at e; exact e) ?_
        have g3 : lookS (setS b (.cells (((m.take a).map fun x => I x) ++ (List.replicate (l.length - a) (.v (.int .i64 0)) ++ j)) 3) S1) b = some (.cells (((m.take a).map fun x => I x) ++ (List.replicate (l.length - a) (.v (.int .i64 0)) ++ j)) 3) := by rw [lookS_set g2, if_pos rfl]
        generalize setS b (.cells (((m.take a).map fun x => I x) ++ (List.replicate (l.length - a) (.v (.int .i64 0)) ++ j)) 3) S1 = S2 at *
        repeat' (first | (with_reducible first | refine DS.fltS yU yU yE ?_ | refine DS.opsNil ?_ | refine DS.seq ?_ | refine DS.regionL ?_) | fail)
        refine DS.freeze (t := 4) (sz := 1) yR g3 (by simp; omega) ⟨by omega, by simp only [maxLen]; exact k3⟩ ?_
        refine DS.retT [] yG trivial ?_
        rw [tupV_one, List.map_append, List.map_map, show (V.copy ∘ fun x => I x) = (fun x => I x) from rfl, chunk_one _ _ _ (by simp; omega), Nat.sub_zero, List.take_take, Nat.min_self]
end Go.XL
namespace Go.XL
open Go.Proofs
set_option linter.unusedSimpArgs false
set_option linter.unusedVariables false
set_option maxRecDepth 100000
set_option maxHeartbeats 8000000
theorem take_mapS {α β : Type} (f : α → β) (l : List α) (n : Nat) : (l.map f).take n = (l.take n).map f := by rw [List.map_take]
theorem yX10 {p : Prop} (h : p := by (simp (disch := omega) only [go_sem, dopV, Option.map_some, Option.map_none, Option.bind_some, Option.bind_none, ↓reduceIte, Nat.reduceEqDiff, Nat.reduceLT, Nat.reduceLeDiff, Nat.reduceAdd, Nat.reduceMul, Nat.reduceSub, Nat.zero_add, Nat.add_zero, Nat.zero_le, Nat.zero_mul, Nat.mul_one, Nat.one_mul, Int.natCast_zero, Int.toNat_zero, Int.reduceToNat, Int.reduceLT, Int.reduceLE, Int.reduceEq, decide_true, decide_false, true_and, and_true, Bool.and_self, Bool.and_true, Bool.true_and, Bool.not_true, Bool.not_false, IntWalk.toNatUp, IntWalk.iteOmega, IntWalk.i64_in, Option.isSome_some, not_true_eq_false, not_false_eq_true, Option.getD_some, Option.getD_none, Int.toNat_natCast, List.length_map, List.getElem?_map, List.getElem?_eq_getElem, V.flat, V.one, List.all_cons, List.all_nil, *, List.forall_mem_map, implies_true, take_all, cI_len, drop_mapS, take_mapS, List.take_length]; exact rfl)) : p := h
theorem yX11 {p : Prop} (h : p := by first | exact rfl | (simp (disch := omega) only [go_sem, dopV, Option.map_some, Option.map_none, Option.bind_some, Option.bind_none, ↓reduceIte, Nat.reduceEqDiff, Nat.reduceLT, Nat.reduceLeDiff, Nat.reduceAdd, Nat.reduceMul, Nat.reduceSub, Nat.zero_add, Nat.add_zero, Nat.zero_le, Nat.zero_mul, Nat.mul_one, Nat.one_mul, Int.natCast_zero, Int.toNat_zero, Int.reduceToNat, Int.reduceLT, Int.reduceLE, Int.reduceEq, decide_true, decide_false, true_and, and_true, Bool.and_self, Bool.and_true, Bool.true_and, Bool.not_true, Bool.not_false, IntWalk.toNatUp, IntWalk.iteOmega, IntWalk.i64_in, Option.isSome_some, not_true_eq_false, not_false_eq_true, Option.getD_some, Option.getD_none, Int.toNat_natCast, List.length_map, List.getElem?_map, List.getElem?_eq_getElem, V.flat, V.one, List.all_cons, List.all_nil, *, List.forall_mem_map, implies_true, take_all, cI_len, drop_mapS, take_mapS, List.take_length]; exact rfl)) : p := h
theorem yX12 {p : Prop} (h : p := by (simp (disch := omega) only [go_sem, dopV, Option.map_some, Option.map_none, Option.bind_some, Option.bind_none, ↓reduceIte, Nat.reduceEqDiff, Nat.reduceLT, Nat.reduceLeDiff, Nat.reduceAdd, Nat.reduceMul, Nat.reduceSub, Nat.zero_add, Nat.add_zero, Nat.zero_le, Nat.zero_mul, Nat.mul_one, Nat.one_mul, Int.natCast_zero, Int.toNat_zero, Int.reduceToNat, Int.reduceLT, Int.reduceLE, Int.reduceEq, decide_true, decide_false, true_and, and_true, Bool.and_self, Bool.and_true, Bool.true_and, Bool.not_true, Bool.not_false, IntWalk.toNatUp, IntWalk.iteOmega, IntWalk.i64_in, Option.isSome_some, not_true_eq_false, not_false_eq_true, Option.getD_some, Option.getD_none, Int.toNat_natCast, List.length_map, List.getElem?_map, List.getElem?_eq_getElem, V.flat, V.one, List.all_cons, List.all_nil, *, List.forall_mem_map, implies_true, take_all, cI_len, drop_mapS, take_mapS, List.take_length]; try exact rfl)) : p := h
theorem multiple_sc (bs : Nat) (x : Int) (l : List Int) (size : Int) (hs : 3 ≤ size ∧ size ≤ 4) (hl : l.length ≤ 1000000) : SC Try.prog 15 [ptr bs, ints l, I size] bs x (.own false 3 1 ((multipleS size x l).1.map cI)) (multipleS size x l).2 := by
  unfold SC
  obtain ⟨hs1, hs2⟩ := hs
  refine DC.of_run Try.func15 rfl Try.ntmps15 Try.results15 (by simp) (fun _ => ?_); simp only [argV_cons, argV_nil, go_sem, Nat.zero_add, Nat.reduceAdd]
  repeat' (first | with_reducible (refine DS.nilOwn (t := 6) yU (by first | exact .inl rfl | exact .inr rfl) yE ?_) | (with_reducible refine DS.mv (t := 7) yU (by first | exact .inl rfl | exact .inr rfl) yE ?_; simp only [strip_tmp, strip_const, lookV_cons, Nat.reduceEqDiff, ↓reduceIte, stripO_own, stripO_lst, stripO_v, stripO_plc, stripO_agg, stripO_fn, stripO_ifc]) | (with_reducible first | refine DS.fltS yU yU yE ?_ | refine DS.opsNil ?_ | refine DS.seq ?_ | refine DS.regionL ?_ | refine DS.block ?_) | (refine DS.bsl yU yE yE ?_; simp only [go_sem, Nat.zero_add, Nat.reduceAdd]) | (refine DS.append (mm := false) yU yE yE yU (by decide) yE (by first | exact .inl rfl | exact .inr ⟨rfl, rfl⟩) yE yX0 (by first | exact len_map cI_len _ | exact len_map cR_len _ | exact len_map Member.len _ | exact len_map Sitting.len _ | exact len_map Ruling.len _ | (simp only [List.mem_cons, List.not_mem_nil, or_false, forall_eq]; rfl) | simp) ⟨by (try simp only [List.length_map, List.length_cons, List.length_nil, List.length_append, List.length_take, List.length_drop]); omega, by decide⟩ ?_; simp only [strip_tmp, strip_const, lookV_cons, Nat.reduceEqDiff, ↓reduceIte, stripO_own, stripO_lst, stripO_v, stripO_plc, stripO_agg, stripO_fn, stripO_ifc]) | fail)
  refine DS.loopS [0, 2] (by (simp only [go_sem, Nat.reduceEqDiff, ↓reduceIte]; exact rfl)) (fun (y : Nat × Int × List Int) => [(7, .own false 3 1 (y.2.2.map cI))]) (fun (y : Nat × Int × List Int) => [(bs, srcO y.2.1)]) (fun (y : Nat × Int × List Int) => y.2.2.length < y.1 ∧ y.2.2.length ≤ l.length ∧ multipleS size x l = multG size y.1 y.2.1 y.2.2) (fun (y : Nat × Int × List Int) => y.2.2.length) (l.length + 1, x, l) yS (fun b o e => by exact e) ⟨Nat.lt_succ_self _, Nat.le_refl _, rfl⟩ (fun y B hI hB => ?_); try dsimp only at hI hB; simp only [app_cons', app_nil']
  obtain ⟨n, x1, l1⟩ := y
  dsimp only at hI hB
  obtain ⟨g1, g2, g3⟩ := hI
  have H := Box.mk g3
  clear g3
  obtain ⟨n, rfl⟩ : ∃ n', n = n' + 1 := ⟨n - 1, by omega⟩
  have hb1 := belowX_bd x1 l1.length
  have hb2 := belowX_bd (stepX x1) l1.length
  obtain ⟨b1, b2, b3⟩ := hb1
  obtain ⟨b4, b5, b6⟩ := hb2
  by_cases h0 : l1.length = 0
  · have hl0 : l1 = [] := List.eq_nil_of_length_eq_zero h0
    subst hl0
    clear b2 b3 b5 b6
    repeat' (first | (with_reducible refine DS.mv (t := 6) yU (by first | exact .inl rfl | exact .inr rfl) yE ?_; simp only [strip_tmp, strip_const, lookV_cons, Nat.reduceEqDiff, ↓reduceIte, stripO_own, stripO_lst, stripO_v, stripO_plc, stripO_agg, stripO_fn, stripO_ifc]) | (with_reducible refine DS.mv (t := 40) yU (by first | exact .inl rfl | exact .inr rfl) yE ?_; simp only [strip_tmp, strip_const, lookV_cons, Nat.reduceEqDiff, ↓reduceIte, stripO_own, stripO_lst, stripO_v, stripO_plc, stripO_agg, stripO_fn, stripO_ifc]) | (with_reducible first | refine DS.fltS yU yU yE ?_ | refine DS.opsNil ?_ | refine DS.seq ?_ | refine DS.regionL ?_ | (refine DS.cE yE ?_; refine CG.no ?_) | (refine DS.gE yU yE ?_; first | refine GG.sU ?_ | refine GG.sF ?_) | refine DS.exit yU ?_) | fail)
    have h := H.out
    simp only [multG, List.length_nil, if_true] at h
    refine DS.retA yG ⟨by rw [h]; rfl, by rw [h]⟩
  · have c2 := b2 (by omega)
    have c5 := b5 (by omega)
    clear b2 b3 b5 b6
    have hmod : ((l1.length : Int)).tmod size = (l1.length : Int) % size := Int.tmod_eq_emod_of_nonneg (by omega)
    have hbl1 := below_sc bs x1 l1.length (by omega)
    have hbl2 := below_sc bs (stepX x1) l1.length (by omega)
    have hmg : multG size (n + 1) x1 l1 = if (l1.length : Int) % size ≠ 0 then multG size n (stepX x1) (l1.take (belowX x1 l1.length).toNat ++ l1.drop ((belowX x1 l1.length).toNat + 1)) else if oddsX x1 9 = true then multG size n (stepX (stepX x1)) (l1.take (belowX (stepX x1) l1.length).toNat ++ l1.drop ((belowX (stepX x1) l1.length).toNat + 1)) else (l1, stepX x1) := by
      rw [multG, if_neg h0]
    have H2 := Box.mk (And.intro hmg (And.intro hbl1 hbl2))
    clear hmg hbl1 hbl2
    obtain ⟨i1, hi1⟩ : ∃ i1 : Nat, belowX x1 l1.length = i1 := ⟨(belowX x1 l1.length).toNat, by omega⟩
    obtain ⟨i2, hi2⟩ : ∃ i2 : Nat, belowX (stepX x1) l1.length = i2 := ⟨(belowX (stepX x1) l1.length).toNat, by omega⟩
    repeat' (first | (with_reducible refine DS.mv (t := 6) yU (by first | exact .inl rfl | exact .inr rfl) yE ?_; simp only [strip_tmp, strip_const, lookV_cons, Nat.reduceEqDiff, ↓reduceIte, stripO_own, stripO_lst, stripO_v, stripO_plc, stripO_agg, stripO_fn, stripO_ifc]) | (with_reducible refine DS.mv (t := 40) yU (by first | exact .inl rfl | exact .inr rfl) yE ?_; simp only [strip_tmp, strip_const, lookV_cons, Nat.reduceEqDiff, ↓reduceIte, stripO_own, stripO_lst, stripO_v, stripO_plc, stripO_agg, stripO_fn, stripO_ifc]) | (with_reducible first | refine DS.fltS yU yU yE ?_ | refine DS.opsNil ?_ | refine DS.seq ?_ | refine DS.regionL ?_ | (refine DS.cE yE ?_; first | refine CG.yes ?_ | refine CG.no ?_ | refine CG.b (fun _ => ?_) (fun _ => ?_)) | (refine DS.gE yU yE ?_; first | refine GG.sU ?_ | refine GG.npF (fun _ => ?_) (fun _ => ?_) | refine GG.pT (fun _ => ?_) (fun _ => ?_) | refine GG.run ?_ | refine GG.sF ?_ | refine GG.sT ?_) | refine DS.block ?_ | refine DS.exit yU ?_ | refine DS.skip ?_) | (refine DS.scS inferInstance (odds_sc bs x1 9 (by omega)) yR yT yT ?_; (try simp only [delS_cons, delS_nil, ↓reduceIte, *])) | fail)
    · rename_i e1 e2 e3
      have hb := H2.out.2.2
      rw [hi2] at hb
      repeat' (first | (with_reducible refine DS.mv (t := 7) yU (by first | exact .inl rfl | exact .inr rfl) yX10 ?_; simp only [strip_tmp, strip_const, lookV_cons, Nat.reduceEqDiff, ↓reduceIte, stripO_own, stripO_lst, stripO_v, stripO_plc, stripO_agg, stripO_fn, stripO_ifc]) | (with_reducible first | refine DS.fltS yU yU yX10 ?_ | refine DS.opsNil ?_ | refine DS.blk ?_) | (refine DS.append (mm := false) yU yX10 yX10 yU (by decide) yX10 (by first | exact .inl rfl | exact .inr ⟨rfl, rfl⟩) yX10 yX11 (by first | exact len_map cI_len _ | exact len_map cR_len _ | exact len_map Member.len _ | exact len_map Sitting.len _ | exact len_map Ruling.len _ | (simp only [List.mem_cons, List.not_mem_nil, or_false, forall_eq]; rfl) | simp) ⟨by (try simp only [List.length_map, List.length_cons, List.length_nil, List.length_append, List.length_take, List.length_drop]); omega, by decide⟩ ?_; simp only [strip_tmp, strip_const, lookV_cons, Nat.reduceEqDiff, ↓reduceIte, stripO_own, stripO_lst, stripO_v, stripO_plc, stripO_agg, stripO_fn, stripO_ifc]) | (refine DS.scS inferInstance (hb) yR yX12 yX12 ?_; (try simp only [delS_cons, delS_nil, ↓reduceIte, *])) | refine DS.drawL (id := 4) [1, 2, 3, 0, 4, 5, 6, 7, 8] 9 (by kernel_rfl) mixed (by simp only [pickL_cons, pickL_nil, get_zero', get_cons', pickO_some]; exact rfl) (by simp only [drop_zero', drop_cons', List.drop_nil]; exact rfl) ?_ | (with_reducible first | refine DD.fltS yU yU yU yX10 ?_ | refine DD.nil0 ?_) | (refine DD.bslS yU yX10 yX10 ?_; simp only [go_sem, Nat.zero_add, Nat.reduceAdd]; simp only [delV_cons', delV_nil', Nat.reduceEqDiff, ↓reduceIte]) | (refine DD.append (mm := false) yU yX10 yX10 yU (by decide) yX10 (by first | exact .inl rfl | exact .inr ⟨rfl, rfl⟩) yX10 yX11 (by first | exact len_map cI_len _ | exact len_map cR_len _ | exact len_map Member.len _ | exact len_map Sitting.len _ | exact len_map Ruling.len _ | (simp only [List.mem_cons, List.not_mem_nil, or_false, forall_eq]; rfl) | simp) ⟨by (try simp only [List.length_map, List.length_cons, List.length_nil, List.length_append, List.length_take, List.length_drop]); omega, by decide⟩ ?_; simp only [strip_tmp, strip_const, lookV_cons, Nat.reduceEqDiff, ↓reduceIte, stripO_own, stripO_lst, stripO_v, stripO_plc, stripO_agg, stripO_fn, stripO_ifc]; simp only [delV_cons', delV_nil', Nat.reduceEqDiff, ↓reduceIte]) | fail)
      have h := H.out
      rw [H2.out.1, if_neg (by omega), if_pos (by assumption), hi2] at h
      refine DS.back (hB (n, stepX (stepX x1), l1.take i2 ++ l1.drop (i2 + 1)) _ _ (by simp; omega) ⟨by simp; omega, by simp; omega, by rw [h]; rfl⟩ yS yS (fun b o e => by exact e))
    · rename_i e1 e2 e3
      have h := H.out
      rw [H2.out.1, if_neg (by omega), if_neg (by simp [*])] at h
      refine DS.retA yG ⟨by rw [h]; rfl, by rw [h]⟩
    · rename_i e1 e2
      have hb := H2.out.2.1
      rw [hi1] at hb
      repeat' (first | (with_reducible refine DS.mv (t := 7) yU (by first | exact .inl rfl | exact .inr rfl) yX10 ?_; simp only [strip_tmp, strip_const, lookV_cons, Nat.reduceEqDiff, ↓reduceIte, stripO_own, stripO_lst, stripO_v, stripO_plc, stripO_agg, stripO_fn, stripO_ifc]) | (with_reducible first | refine DS.fltS yU yU yX10 ?_ | refine DS.opsNil ?_ | refine DS.blk ?_) | (refine DS.append (mm := false) yU yX10 yX10 yU (by decide) yX10 (by first | exact .inl rfl | exact .inr ⟨rfl, rfl⟩) yX10 yX11 (by first | exact len_map cI_len _ | exact len_map cR_len _ | exact len_map Member.len _ | exact len_map Sitting.len _ | exact len_map Ruling.len _ | (simp only [List.mem_cons, List.not_mem_nil, or_false, forall_eq]; rfl) | simp) ⟨by (try simp only [List.length_map, List.length_cons, List.length_nil, List.length_append, List.length_take, List.length_drop]); omega, by decide⟩ ?_; simp only [strip_tmp, strip_const, lookV_cons, Nat.reduceEqDiff, ↓reduceIte, stripO_own, stripO_lst, stripO_v, stripO_plc, stripO_agg, stripO_fn, stripO_ifc]) | (refine DS.scS inferInstance (hb) yR yX12 yX12 ?_; (try simp only [delS_cons, delS_nil, ↓reduceIte, *])) | refine DS.drawL (id := 4) [1, 2, 3, 0, 4, 5, 6, 7, 8] 9 (by kernel_rfl) mixed (by simp only [pickL_cons, pickL_nil, get_zero', get_cons', pickO_some]; exact rfl) (by simp only [drop_zero', drop_cons', List.drop_nil]; exact rfl) ?_ | (with_reducible first | refine DD.fltS yU yU yU yX10 ?_ | refine DD.nil0 ?_) | (refine DD.bslS yU yX10 yX10 ?_; simp only [go_sem, Nat.zero_add, Nat.reduceAdd]; simp only [delV_cons', delV_nil', Nat.reduceEqDiff, ↓reduceIte]) | (refine DD.append (mm := false) yU yX10 yX10 yU (by decide) yX10 (by first | exact .inl rfl | exact .inr ⟨rfl, rfl⟩) yX10 yX11 (by first | exact len_map cI_len _ | exact len_map cR_len _ | exact len_map Member.len _ | exact len_map Sitting.len _ | exact len_map Ruling.len _ | (simp only [List.mem_cons, List.not_mem_nil, or_false, forall_eq]; rfl) | simp) ⟨by (try simp only [List.length_map, List.length_cons, List.length_nil, List.length_append, List.length_take, List.length_drop]); omega, by decide⟩ ?_; simp only [strip_tmp, strip_const, lookV_cons, Nat.reduceEqDiff, ↓reduceIte, stripO_own, stripO_lst, stripO_v, stripO_plc, stripO_agg, stripO_fn, stripO_ifc]; simp only [delV_cons', delV_nil', Nat.reduceEqDiff, ↓reduceIte]) | fail)
      have h := H.out
      rw [H2.out.1, if_pos (by omega), hi1] at h
      refine DS.back (hB (n, stepX x1, l1.take i1 ++ l1.drop (i1 + 1)) _ _ (by simp; omega) ⟨by simp; omega, by simp; omega, by rw [h]; rfl⟩ yS yS (fun b o e => by exact e))
    · exfalso; omega
end Go.XL
namespace Go.XL
open Go.Proofs
set_option linter.unusedSimpArgs false
set_option linter.unusedVariables false
set_option maxRecDepth 100000
set_option maxHeartbeats 8000000
theorem slotS_le (n : Int) (out : List Int) : ∀ a, slotS n out a ≤ a
  | 0 => Nat.le_refl _
  | a + 1 => by
    have := slotS_le n out a
    simp only [slotS]; split <;> omega
theorem rising_pc (l : List Int) (hl : l.length ≤ 1000000) : PC Try.prog 30 [ints l] (.own false 3 1 ((risingS l).map cI)) := by
  refine DC.of_run Try.func30 rfl Try.ntmps30 Try.results30 (by simp) (fun _ => ?_); simp only [argV_cons, argV_nil, go_sem, Nat.zero_add, Nat.reduceAdd]
  repeat' (first | (with_reducible first | (refine DS.nilOwn (t := 2) yU (by first | exact .inl rfl | exact .inr rfl) yE ?_) | (refine DS.nilOwn (t := 3) yU (by first | exact .inl rfl | exact .inr rfl) yE ?_) | refine DS.fltS yU yU yE ?_ | refine DS.opsNil ?_ | refine DS.seq ?_ | refine DS.regionL ?_ | refine DS.block ?_) | fail)
  refine DS.loopK [0] (by (simp only [go_sem, Nat.reduceEqDiff, ↓reduceIte]; exact rfl)) (fun (y : Nat × List Int) => [(3, .own false 3 1 (y.2.map cI)), (4, I y.1)]) (fun (y : Nat × List Int) => y.1 ≤ l.length ∧ y.2.length = y.1 ∧ risingS l = (l.drop y.1).foldl insS y.2) (fun (y : Nat × List Int) => l.length - y.1) (0, []) yS (by simp [risingS]) (fun y B hI hB => ?_); try dsimp only at hI hB; simp only [app_cons', app_nil']
  obtain ⟨i, out⟩ := y
  dsimp only at hI hB
  obtain ⟨g1, g2, g3⟩ := hI
  have H := Box.mk g3
  clear g3
  repeat' (first | (with_reducible refine DS.mv (t := 2) yU (by first | exact .inl rfl | exact .inr rfl) yE ?_; simp only [strip_tmp, strip_const, lookV_cons, Nat.reduceEqDiff, ↓reduceIte, stripO_own, stripO_lst, stripO_v, stripO_plc, stripO_agg, stripO_fn, stripO_ifc]) | (with_reducible refine DS.mv (t := 45) yU (by first | exact .inl rfl | exact .inr rfl) yE ?_; simp only [strip_tmp, strip_const, lookV_cons, Nat.reduceEqDiff, ↓reduceIte, stripO_own, stripO_lst, stripO_v, stripO_plc, stripO_agg, stripO_fn, stripO_ifc]) | (with_reducible first | refine DS.fltS yU yU yE ?_ | refine DS.opsNil ?_ | refine DS.seq ?_ | refine DS.regionL ?_ | (refine DS.cE yE ?_; refine CG.p (fun _ => ?_) (fun _ => ?_)) | refine DS.block ?_ | refine DS.exit yU ?_ | refine DS.skip ?_) | refine DS.retT [] yE trivial ?_ | fail)
  · rename_i e1
    have hi : i < l.length := by omega
    have hto : List.take i out = out := by rw [← g2]; exact List.take_length
    have hB0 := hB
    clear hB
    refine DS.loopK [0, 3, 4] (by (simp only [go_sem, Nat.reduceEqDiff, ↓reduceIte]; exact rfl)) (fun (a : Nat) => [(5, I a)]) (fun (a : Nat) => a ≤ out.length ∧ slotS l[i] out out.length = slotS l[i] out a) (fun (a : Nat) => a) out.length yS ⟨Nat.le_refl _, rfl⟩ (fun a B hI hB => ?_); try dsimp only at hI hB; simp only [app_cons', app_nil']
    obtain ⟨a1, a2⟩ := hI
    have H2 := Box.mk a2
    clear a2
    have hend : slotS l[i] out out.length = a → ∀ E' : VEnv, subV [(3, .own false 3 1 (List.map cI (List.take a out) ++ [[V.v (Value.int IntKind.i64 l[i])]] ++ List.map cI (List.drop a out))), (4, I ((i : Int) + 1))] E' → subV [(3, .own false 3 1 ((insS out l[i]).map cI)), (4, I ((i + 1 : Nat) : Int))] E' := fun h E' hE => by
      have h1 : (insS out l[i]).map cI = List.map cI (List.take a out) ++ [[V.v (Value.int IntKind.i64 l[i])]] ++ List.map cI (List.drop a out) := by
        rw [insS, h, List.map_append, List.map_cons, List.append_assoc]; rfl
      rw [h1]
      exact hE
    have hil : (insS out l[i]).length = i + 1 := by
      rw [insS, List.length_append, List.length_cons, List.length_take, List.length_drop]
      have := slotS_le l[i] out out.length
      omega
    have hir : risingS l = (l.drop (i + 1)).foldl insS (insS out l[i]) := by rw [H.out, List.drop_eq_getElem_cons hi, List.foldl_cons]
    have H3 := Box.mk (And.intro hend (And.intro hil hir))
    clear hend hil hir
    repeat' (first | (with_reducible refine DS.mv (t := 3) yU (by first | exact .inl rfl | exact .inr rfl) yX10 ?_; simp only [strip_tmp, strip_const, lookV_cons, Nat.reduceEqDiff, ↓reduceIte, stripO_own, stripO_lst, stripO_v, stripO_plc, stripO_agg, stripO_fn, stripO_ifc]) | (with_reducible first | refine DS.fltS yU yU yX10 ?_ | refine DS.opsNil ?_ | refine DS.seq ?_ | refine DS.regionL ?_) | (with_reducible refine DS.cE yX10 ?_; first | with_reducible refine CG.p (fun _ => ?_) (fun _ => ?_) | with_reducible refine CG.no ?_) | (with_reducible refine DS.gE yU yX10 ?_; first | with_reducible refine GG.run ?_ | with_reducible refine GG.sF ?_) | (with_reducible first | refine DS.blk ?_ | refine DS.block ?_ | refine DS.exit yU ?_ | refine DS.skip ?_) | (refine DS.append (mm := false) yU yX10 yX10 yU (by decide) yX10 (by first | exact .inl rfl | exact .inr ⟨rfl, rfl⟩) yX10 yX11 (by first | exact len_map cI_len _ | exact len_map cR_len _ | exact len_map Member.len _ | exact len_map Sitting.len _ | exact len_map Ruling.len _ | (simp only [List.mem_cons, List.not_mem_nil, or_false, forall_eq]; rfl) | simp) ⟨by (try simp only [List.length_map, List.length_cons, List.length_nil, List.length_append, List.length_take, List.length_drop]); omega, by decide⟩ ?_; simp only [strip_tmp, strip_const, lookV_cons, Nat.reduceEqDiff, ↓reduceIte, stripO_own, stripO_lst, stripO_v, stripO_plc, stripO_agg, stripO_fn, stripO_ifc]) | refine DS.drawL (id := 6) [0, 1, 2, 3, 4, 5, 6, 7, 8, 9, 10, 11] 12 (by kernel_rfl) mixed (by simp only [pickL_cons, pickL_nil, get_zero', get_cons', pickO_some]; exact rfl) (by simp only [drop_zero', drop_cons', List.drop_nil]; exact rfl) ?_ | refine DS.drawL (id := 8) [1, 2, 3, 0, 4, 5, 6, 7, 8, 9, 10, 11, 12, 13] 14 (by kernel_rfl) mixed (by simp only [pickL_cons, pickL_nil, get_zero', get_cons', pickO_some]; exact rfl) (by simp only [drop_zero', drop_cons', List.drop_nil]; exact rfl) ?_ | with_reducible refine DD.fltS yU yU yU yX10 ?_ | (with_reducible refine DD.gE yU yX10 ?_; first | with_reducible refine DGG.pT (fun _ => ?_) (fun _ => ?_) | with_reducible refine DGG.run ?_ | with_reducible refine DGG.sF ?_) | with_reducible refine DD.nil0 ?_ | (refine DD.bslS yU yX10 yX10 ?_; simp only [go_sem, Nat.zero_add, Nat.reduceAdd]; simp only [delV_cons', delV_nil', Nat.reduceEqDiff, ↓reduceIte]) | (refine DD.append (mm := false) yU yX10 yX10 yU (by decide) yX10 (by first | exact .inl rfl | exact .inr ⟨rfl, rfl⟩) yX10 yX11 (by first | exact len_map cI_len _ | exact len_map cR_len _ | exact len_map Member.len _ | exact len_map Sitting.len _ | exact len_map Ruling.len _ | (simp only [List.mem_cons, List.not_mem_nil, or_false, forall_eq]; rfl) | simp) ⟨by (try simp only [List.length_map, List.length_cons, List.length_nil, List.length_append, List.length_take, List.length_drop]); omega, by decide⟩ ?_; simp only [strip_tmp, strip_const, lookV_cons, Nat.reduceEqDiff, ↓reduceIte, stripO_own, stripO_lst, stripO_v, stripO_plc, stripO_agg, stripO_fn, stripO_ifc]; simp only [delV_cons', delV_nil', Nat.reduceEqDiff, ↓reduceIte]) | fail)
    · rename_i e2 e3
      obtain ⟨a', rfl⟩ : ∃ a', a = a' + 1 := ⟨a - 1, by omega⟩
      refine DS.back (hB a' _ _ (by omega) ⟨by omega, by rw [H2.out, slotS, if_pos (by rw [List.getD_eq_getElem?_getD, List.getElem?_eq_getElem (by omega)]; simpa using e3)]⟩ ⟨?_, trivial⟩ yS (fun b o e => by exact e))
      have e9 : ((a' : Int) + 1 - 1) = a' := by omega
      simp only [lookV, if_true, Int.natCast_add, Int.natCast_one, e9]
    · rename_i e2 e3
      obtain ⟨a', rfl⟩ : ∃ a', a = a' + 1 := ⟨a - 1, by omega⟩
      have h : slotS l[i] out out.length = a' + 1 := by rw [H2.out, slotS, if_neg (by rw [List.getD_eq_getElem?_getD, List.getElem?_eq_getElem (by omega)]; simpa using e3)]
      refine DS.back (hB0 (i + 1, insS out l[i]) _ _ (by dsimp only; omega) ⟨by dsimp only; omega, H3.out.2.1, H3.out.2.2⟩ (H3.out.1 h _ yS) yS (fun b o e => by exact e))
    · rename_i e2
      have : a = 0 := by omega
      subst this
      have h : slotS l[i] out out.length = 0 := by rw [H2.out]; rfl
      refine DS.back (hB0 (i + 1, insS out l[i]) _ _ (by dsimp only; omega) ⟨by dsimp only; omega, H3.out.2.1, H3.out.2.2⟩ (H3.out.1 h _ yS) yS (fun b o e => by exact e))
  · have h := H.out
    rw [List.drop_eq_nil_of_le (by omega)] at h
    rw [h]; rfl
end Go.XL
namespace Go.XL
open Go.Proofs
set_option linter.unusedSimpArgs false
set_option linter.unusedVariables false
set_option maxRecDepth 100000
set_option maxHeartbeats 8000000
theorem evenG_len (start : Int) : ∀ (n : Nat) (x : Int) (acc : List Int), (evenG start n x acc).1.length = acc.length + n
  | 0, x, acc => rfl
  | n + 1, x, acc => by rw [evenG, evenG_len]; simp; omega
theorem evenS_len (size start x : Int) (h : 1 ≤ size) : ((evenS size start x).1.length : Int) = size := by
  simp only [evenS, List.length_cons, evenG_len, List.length_nil]; omega
def evC (sz : Nat) (acc : List Int) : List V := I 0 :: (acc.map fun a => I a) ++ List.replicate (sz - 1 - acc.length) (I 0)
theorem evC_len {sz : Nat} {acc : List Int} (h : acc.length + 1 ≤ sz) : (evC sz acc).length = sz := by simp [evC]; omega
theorem evC_set {sz : Nat} {acc : List Int} (h : acc.length + 1 < sz) (a : Int) : (evC sz acc).set (acc.length + 1) (I a) = evC sz (acc ++ [a]) := by
  apply List.ext_getElem?
  intro i
  obtain ⟨m, hm⟩ : ∃ m, sz - 1 - acc.length = m + 1 := ⟨sz - 1 - acc.length - 1, by omega⟩
  have hm2 : sz - 1 - (acc ++ [a]).length = m := by simp; omega
  have e1 : evC sz acc = (I 0 :: acc.map fun a => I a) ++ I 0 :: List.replicate m (I 0) := by rw [evC, hm, List.replicate_succ]
  have e2 : evC sz (acc ++ [a]) = (I 0 :: acc.map fun a => I a) ++ I a :: List.replicate m (I 0) := by rw [evC, hm2]; simp
  have hl : (I 0 :: acc.map fun a => I a).length = acc.length + 1 := by simp
  rw [e1, e2, List.set_append_right _ _ (by omega), hl, Nat.sub_self, List.set_cons_zero]
theorem evC_get {sz : Nat} {acc : List Int} (h : acc.length + 1 < sz) (a : Int) : (evC sz (acc ++ [a]))[acc.length + 1]? = some (I a) := by
  rw [← evC_set h, List.getElem?_set_self (by have := evC_len (sz := sz) (acc := acc) (by omega); omega)]
theorem even_sc (bs : Nat) (x : Int) (sz : Nat) (start : Int) (hs : 3 ≤ sz ∧ sz ≤ 4) (h0 : 0 ≤ start ∧ start ≤ 1000000) : SC Try.prog 84 [ptr bs, I sz, I start] bs x (ints (evenS sz start x).1) (evenS sz start x).2 := by
  obtain ⟨hs1, hs2⟩ := hs
  obtain ⟨h01, h02⟩ := h0
  have hmul : 0 ≤ (sz : Int) * start ∧ (sz : Int) * start ≤ 4000000 := by
    rcases (show sz = 3 ∨ sz = 4 by omega) with rfl | rfl <;> omega
  obtain ⟨hm1, hm2⟩ := hmul
  unfold SC
  refine DC.of_run Try.func84 rfl Try.ntmps84 Try.results84 (by simp) (fun _ => ?_); simp only [argV_cons, argV_nil, go_sem, Nat.zero_add, Nat.reduceAdd]
  repeat' (first | (with_reducible first | refine DS.fltS yU yU yE ?_ | refine DS.opsNil ?_ | refine DS.seq ?_ | refine DS.regionL ?_ | refine DS.block ?_) | (refine DS.mkS yU yE yE yE yE yU yU ⟨by omega, by omega, by decide, by omega⟩ (fun _ hfr => ?_)) | fail)
  rename_i b
  have nb : ¬ bs = b := fun e => by rw [lookS_cons, if_pos e] at hfr; cases hfr
  have nb' : ¬ b = bs := fun e => nb e.symm
  clear hfr
  have hz : (zerosV (Value.int IntKind.i64 0) ((sz : Int)).toNat) = evC sz [] := by
    rw [Int.toNat_natCast, zerosV_int]
    obtain ⟨m, rfl⟩ : ∃ m, sz = m + 1 := ⟨sz - 1, by omega⟩
    rfl
  rw [hz]
  clear hz
  refine DS.loopS [0, 1, 2, 7] (by (simp only [go_sem, Nat.reduceEqDiff, ↓reduceIte]; exact rfl)) (fun (y : Int × List Int × Int × Nat) => [(8, I y.2.2.1), (9, I y.2.2.2)]) (fun (y : Int × List Int × Int × Nat) => [(b, .cells (evC sz y.2.1) 3), (bs, srcO y.1)]) (fun (y : Int × List Int × Int × Nat) => y.2.2.2 = y.2.1.length + 1 ∧ y.2.2.2 ≤ sz ∧ y.2.2.1 = (sz : Int) * start - y.2.1.sum ∧ evenG start (sz - 1) x [] = evenG start (sz - y.2.2.2) y.1 y.2.1 ∧ -(y.2.2.2 : Int) * 2000000 ≤ y.2.1.sum ∧ y.2.1.sum ≤ (y.2.2.2 : Int) * 2000000) (fun (y : Int × List Int × Int × Nat) => sz - y.2.2.2) (x, [], sz * start, 1) yS (fun b o e => by exact e) ⟨rfl, by dsimp only; omega, by simp, rfl, by simp, by simp⟩ (fun y B hI hB => ?_); try dsimp only at hI hB; simp only [app_cons', app_nil']
  obtain ⟨x1, acc, rest, k⟩ := y
  dsimp only at hI hB
  obtain ⟨g1, g2, g3, g4, g5, g6⟩ := hI
  have g7 : -8000000 ≤ rest ∧ rest ≤ 12000000 := by omega
  obtain ⟨g7, g8⟩ := g7
  have H := Box.mk (And.intro g1 (And.intro g3 g4))
  obtain ⟨b1, b2, -⟩ := belowX_bd x1 7
  have b3 := b2 (by omega)
  clear b2
  have hlen := evC_len (sz := sz) (acc := acc) (by omega)
  have hgen : ∀ a, k < sz → (evC sz acc).set k (I a) = evC sz (acc ++ [a]) := fun a h => by rw [g1]; exact evC_set (by omega) a
  have hge2 : k < sz → (evC sz (acc ++ [start + (belowX x1 7 - 3) * 10]))[k]? = some (I (start + (belowX x1 7 - 3) * 10)) := fun h => by rw [g1]; exact evC_get (by omega) _
  have hgl : k < sz → (evC sz (acc ++ [start + (belowX x1 7 - 3) * 10])).length = sz := fun h => evC_len (by simp; omega)
  have H2 := Box.mk (And.intro hgen (And.intro hge2 hgl))
  clear hgen hge2 hgl g1 g3 g4
  repeat' (first | (with_reducible first | refine DS.fltS yU yU yE ?_ | refine DS.opsNil ?_ | refine DS.seq ?_ | refine DS.regionL ?_ | (refine DS.cE yE ?_; refine CG.p (fun _ => ?_) (fun _ => ?_)) | refine DS.block ?_ | refine DS.exit yU ?_ | refine DS.skip ?_) | (refine DS.scS inferInstance (below_sc bs x1 7 (by omega)) yR yT yT ?_; (try simp only [delS_cons, delS_nil, ↓reduceIte, *])) | (refine DS.store yR yE yE yE yE yU (by exact ⟨by with_unfolding_all rfl, by (try simp only [List.length_map, List.length_append, List.length_set, List.length_replicate, List.length_cons, List.length_nil]); omega⟩) ?_; simp only [putV_none, setAll_cons, setAll_nil, scells_v, scells_own, scells_lst, scells_agg]; try simp only [strip_tmp, strip_const, lookV_cons, Nat.reduceEqDiff, ↓reduceIte, stripO_own, stripO_lst, stripO_v, stripO_plc, stripO_agg, stripO_fn, stripO_ifc]) | fail)
  · rename_i e1
    have hk : k < sz := by omega
    have h2 := H2.out.2.1 hk
    have h3 := H2.out.2.2 hk
    refine DS.reS (S' := [(b, .cells (evC sz (acc ++ [start + (belowX x1 7 - 3) * 10])) 3), (bs, srcO (stepX x1))]) (fun b' o e => ?_) ?_
    · rw [← H2.out.1 _ hk] at e
      simp only [setS, lookS, nb, nb', ↓reduceIte] at e ⊢
      by_cases h4 : b = b'
      · subst h4
        simp only [nb, ↓reduceIte] at e ⊢; exact e
      · simp only [h4, ↓reduceIte] at e ⊢; exact e
    repeat' (first | (with_reducible first | refine DS.fltS yU yU yE ?_ | refine DS.opsNil ?_ | refine DS.regionL ?_ | refine DS.blk ?_) | fail)
    obtain ⟨q1, q3, q4⟩ := H.out
    refine DS.back (hB (stepX x1, acc ++ [start + (belowX x1 7 - 3) * 10], rest - (start + (belowX x1 7 - 3) * 10), k + 1) _ _ (by dsimp only; omega) ⟨by simp; omega, by dsimp only; omega, by simp [q3]; omega, ?_, by simp; omega, by simp; omega⟩ yS yS (fun b o e => by exact e))
    obtain ⟨m, hm⟩ : ∃ m, sz - k = m + 1 := ⟨sz - k - 1, by omega⟩
    dsimp only
    rw [q4, hm, evenG, show sz - (k + 1) = m by omega]
  · rename_i e1
    obtain ⟨q1, q3, q4⟩ := H.out
    have hk : k = sz := by omega
    have hcells : (evC sz acc).set 0 (I rest) = (rest :: acc).map fun a => I a := by
      rw [evC, show sz - 1 - acc.length = 0 by omega]; simp
    refine DS.reS (S' := [(b, .cells ((rest :: acc).map fun a => I a) 3), (bs, srcO x1)]) (fun b' o e => ?_) ?_
    · rw [← hcells] at e
      simp only [setS, ↓reduceIte] at e ⊢
      exact e
    refine DS.freeze (t := 6) (b := b) (sz := 1) (l := (rest :: acc).map fun a => I a) (T := 3) yR (by simp only [lookS_cons, ↓reduceIte]) (by simp; omega) ⟨Nat.le_refl _, by simp only [maxLen]; omega⟩ ?_
    simp only [delS_cons, delS_nil, nb, ↓reduceIte]
    refine DS.retA yG ⟨?_, ?_⟩
    · have h := chunk_one (rest :: acc) sz [] (by simp; omega)
      rw [List.append_nil] at h
      rw [tupV_one, List.map_map, show (V.copy ∘ fun a => I a) = (fun x => I x) from rfl]
      rw [List.take_of_length_le (by simp; omega)] at h
      refine (congrArg V.lst h).trans ?_
      simp only [evenS, Int.toNat_natCast, q4, hk, Nat.sub_self, evenG]
      rw [q3]
    · simp only [evenS, Int.toNat_natCast, q4, hk, Nat.sub_self, evenG]
end Go.XL
namespace Go.XL
open Go.Proofs
set_option linter.unusedSimpArgs false
set_option linter.unusedVariables false
set_option maxRecDepth 100000
set_option maxHeartbeats 8000000
theorem tabG_len (size : Int) : ∀ (n : Nat) (x : Int) (t rest : List Int), (t.length : Int) ≤ size → size ≤ (t.length : Int) + n → ((tabG size n x t rest).1.length : Int) = size
  | 0, x, t, rest, h1, h2 => by
    show (t.length : Int) = size
    omega
  | n + 1, x, t, rest, h1, h2 => by
    simp only [tabG]
    split
    · exact tabG_len size n _ _ _ (by simp; omega) (by simp; omega)
    · show (t.length : Int) = size
      omega
theorem tabG_stop (size : Int) : ∀ (n : Nat) (x : Int) (t rest : List Int), ¬ (t.length : Int) < size → tabG size n x t rest = (t, rest, x)
  | 0, x, t, rest, h => rfl
  | n + 1, x, t, rest, h => by rw [tabG, if_neg h]
theorem yX13 {p : Prop} (h : p := by (simp (disch := omega) only [go_sem, dopV, Option.map_some, Option.map_none, Option.bind_some, Option.bind_none, ↓reduceIte, Nat.reduceEqDiff, Nat.reduceLT, Nat.reduceLeDiff, Nat.reduceAdd, Nat.reduceMul, Nat.reduceSub, Nat.zero_add, Nat.add_zero, Nat.zero_le, Nat.zero_mul, Nat.mul_one, Nat.one_mul, Int.natCast_zero, Int.toNat_zero, Int.reduceToNat, Int.reduceLT, Int.reduceLE, Int.reduceEq, decide_true, decide_false, true_and, and_true, Bool.and_self, Bool.and_true, Bool.true_and, Bool.not_true, Bool.not_false, IntWalk.toNatUp, IntWalk.iteOmega, IntWalk.i64_in, Option.isSome_some, not_true_eq_false, not_false_eq_true, Option.getD_some, Option.getD_none, Int.toNat_natCast, List.length_map, List.getElem?_map, List.getElem?_eq_getElem, V.flat, V.one, List.all_cons, List.all_nil, *, List.forall_mem_cons, List.forall_mem_map, implies_true, take_all, cI_len, drop_mapS, take_mapS, List.take_length, List.length_singleton, and_self]; exact rfl)) : p := h
theorem tablesOf_sc (bs : Nat) (x : Int) (l : List Int) (size : Int) (hs : 3 ≤ size ∧ size ≤ 4) (hl : l.length ≤ 1000000) : SC Try.prog 36 [ptr bs, ints l, I size] bs x (.own false 22 1 ((tablesOfS size x l).1.map cR)) (tablesOfS size x l).2 := by
  unfold SC
  obtain ⟨hs1, hs2⟩ := hs
  refine DC.of_run Try.func36 rfl Try.ntmps36 Try.results36 (by simp) (fun _ => ?_); simp only [argV_cons, argV_nil, go_sem, Nat.zero_add, Nat.reduceAdd]
  repeat' (first | (with_reducible first | (refine DS.nilOwn (t := 6) yU (by first | exact .inl rfl | exact .inr rfl) yE ?_) | (refine DS.nilOwn (t := 8) yU (by first | exact .inl rfl | exact .inr rfl) yE ?_) | refine DS.fltS yU yU yE ?_ | refine DS.opsNil ?_ | refine DS.seq ?_ | refine DS.regionL ?_ | refine DS.block ?_) | (refine DS.bsl yU yE yE ?_; simp only [go_sem, Nat.zero_add, Nat.reduceAdd]) | (refine DS.append (mm := false) yU yE yE yU (by decide) yE (by first | exact .inl rfl | exact .inr ⟨rfl, rfl⟩) yE yX0 (by first | exact len_map cI_len _ | exact len_map cR_len _ | exact len_map Member.len _ | exact len_map Sitting.len _ | exact len_map Ruling.len _ | (simp only [List.mem_cons, List.not_mem_nil, or_false, forall_eq]; rfl) | simp) ⟨by (try simp only [List.length_map, List.length_cons, List.length_nil, List.length_append, List.length_take, List.length_drop]); omega, by decide⟩ ?_; simp only [strip_tmp, strip_const, lookV_cons, Nat.reduceEqDiff, ↓reduceIte, stripO_own, stripO_lst, stripO_v, stripO_plc, stripO_agg, stripO_fn, stripO_ifc]) | fail)
  refine DS.loopS [0, 2] (by (simp only [go_sem, Nat.reduceEqDiff, ↓reduceIte]; exact rfl)) (fun (y : Nat × Int × List Int × List (List Int)) => [(7, ints y.2.2.1), (8, .own false 22 1 (y.2.2.2.map cR))]) (fun (y : Nat × Int × List Int × List (List Int)) => [(bs, srcO y.2.1)]) (fun (y : Nat × Int × List Int × List (List Int)) => y.2.2.1.length < y.1 ∧ y.2.2.1.length + y.2.2.2.length ≤ l.length ∧ tablesOfS size x l = tabsG size y.1 y.2.1 y.2.2.1 y.2.2.2) (fun (y : Nat × Int × List Int × List (List Int)) => y.2.2.1.length) (l.length + 1, x, l, []) yS (fun b o e => by exact e) ⟨Nat.lt_succ_self _, Nat.le_refl _, rfl⟩ (fun y B hI hB => ?_); try dsimp only at hI hB; simp only [app_cons', app_nil']
  obtain ⟨n, x1, rest, out⟩ := y
  dsimp only at hI hB
  obtain ⟨g1, g2, g3⟩ := hI
  have H := Box.mk g3
  clear g3
  obtain ⟨n, rfl⟩ : ∃ n', n = n' + 1 := ⟨n - 1, by omega⟩
  have hB0 := hB
  clear hB
  by_cases h0 : size ≤ (rest.length : Int)
  · obtain ⟨a, r, rfl⟩ : ∃ a r, rest = a :: r := by
      cases rest with
      | nil => simp at h0; omega
      | cons a r => exact ⟨a, r, rfl⟩
    have h0 : size ≤ ((r.length : Int) + 1) := by simpa using h0
    have g1 : r.length + 1 < n + 1 := by simpa using g1
    have g2 : r.length + 1 + out.length ≤ l.length := by simpa using g2
    repeat' (first | (with_reducible refine DS.mv (t := 6) yU (by first | exact .inl rfl | exact .inr rfl) yX13 ?_; simp only [strip_tmp, strip_const, lookV_cons, Nat.reduceEqDiff, ↓reduceIte, stripO_own, stripO_lst, stripO_v, stripO_plc, stripO_agg, stripO_fn, stripO_ifc]) | (with_reducible refine DS.mv (t := 9) yU (by first | exact .inl rfl | exact .inr rfl) yX13 ?_; simp only [strip_tmp, strip_const, lookV_cons, Nat.reduceEqDiff, ↓reduceIte, stripO_own, stripO_lst, stripO_v, stripO_plc, stripO_agg, stripO_fn, stripO_ifc]) | (with_reducible refine DS.mv (t := 54) yU (by first | exact .inl rfl | exact .inr rfl) yX13 ?_; simp only [strip_tmp, strip_const, lookV_cons, Nat.reduceEqDiff, ↓reduceIte, stripO_own, stripO_lst, stripO_v, stripO_plc, stripO_agg, stripO_fn, stripO_ifc]) | (with_reducible first | refine DS.fltS yU yU yX13 ?_ | refine DS.opsNil ?_ | refine DS.seq ?_ | refine DS.regionL ?_) | (with_reducible refine DS.cE yX13 ?_; with_reducible refine CG.p (fun _ => ?_) (fun _ => ?_)) | (with_reducible first | refine DS.block ?_ | refine DS.exit yU ?_ | refine DS.skip ?_) | (refine DS.bsl yU yX13 yX13 ?_; simp only [go_sem, Nat.zero_add, Nat.reduceAdd]) | fail)
    all_goals first | (exfalso; omega) | skip
    refine DS.loopS [0, 2, 8] (by (simp only [go_sem, Nat.reduceEqDiff, ↓reduceIte]; exact rfl)) (fun (z : Nat × Int × List Int × List Int) => [(7, ints z.2.2.2), (9, .own false 3 1 (z.2.2.1.map cI))]) (fun (z : Nat × Int × List Int × List Int) => [(bs, srcO z.2.1)]) (fun (z : Nat × Int × List Int × List Int) => (z.2.2.1.length : Int) ≤ size ∧ size ≤ (z.2.2.1.length : Int) + z.1 ∧ size ≤ (z.2.2.1.length : Int) + z.2.2.2.length ∧ z.2.2.1.length + z.2.2.2.length = r.length + 1 ∧ tabG size size.toNat x1 [a] r = tabG size z.1 z.2.1 z.2.2.1 z.2.2.2) (fun (z : Nat × Int × List Int × List Int) => z.2.2.2.length) (size.toNat, x1, [a], r) yS (fun b o e => by exact e) ⟨by simp; omega, by simp; omega, by simp; omega, by simp; omega, rfl⟩ (fun z B hI hB => ?_); try dsimp only at hI hB; simp only [app_cons', app_nil']
    obtain ⟨m, x2, t, rest⟩ := z
    dsimp only at hI hB
    obtain ⟨k1, k2, k3, k4, k5⟩ := hI
    have K := Box.mk k5
    clear k5
    by_cases ht : (t.length : Int) < size
    · obtain ⟨b1, b2, -⟩ := belowX_bd x2 rest.length
      have b3 := b2 (by omega)
      obtain ⟨i, hi⟩ : ∃ i : Nat, belowX x2 rest.length = i := ⟨(belowX x2 rest.length).toNat, by omega⟩
      have hbl := below_sc bs x2 rest.length (by omega)
      have hdi := hi
      rw [hi] at b3 hbl
      have K2 := Box.mk hi
      clear hi b1 b2 hdi
      have hir : i < rest.length := by omega
      repeat' (first | (with_reducible refine DS.mv (t := 9) yU (by first | exact .inl rfl | exact .inr rfl) yX10 ?_; simp only [strip_tmp, strip_const, lookV_cons, Nat.reduceEqDiff, ↓reduceIte, stripO_own, stripO_lst, stripO_v, stripO_plc, stripO_agg, stripO_fn, stripO_ifc]) | (with_reducible refine DS.mv (t := 32) yU (by first | exact .inl rfl | exact .inr rfl) yX10 ?_; simp only [strip_tmp, strip_const, lookV_cons, Nat.reduceEqDiff, ↓reduceIte, stripO_own, stripO_lst, stripO_v, stripO_plc, stripO_agg, stripO_fn, stripO_ifc]) | (with_reducible first | refine DS.fltS yU yU yX10 ?_ | refine DS.opsNil ?_ | refine DS.seq ?_ | refine DS.regionL ?_) | (with_reducible refine DS.cE yX10 ?_; with_reducible refine CG.yes ?_) | (with_reducible first | refine DS.blk ?_ | refine DS.block ?_ | refine DS.skip ?_) | (refine DS.bsl yU yX10 yX10 ?_; simp only [go_sem, Nat.zero_add, Nat.reduceAdd]) | (refine DS.append (mm := false) yU yX10 yX10 yU (by decide) yX10 (by first | exact .inl rfl | exact .inr ⟨rfl, rfl⟩) yX10 yX11 (by first | exact len_map cI_len _ | exact len_map cR_len _ | exact len_map Member.len _ | exact len_map Sitting.len _ | exact len_map Ruling.len _ | (simp only [List.mem_cons, List.not_mem_nil, or_false, forall_eq]; rfl) | simp) ⟨by (try simp only [List.length_map, List.length_cons, List.length_nil, List.length_append, List.length_take, List.length_drop]); omega, by decide⟩ ?_; simp only [strip_tmp, strip_const, lookV_cons, Nat.reduceEqDiff, ↓reduceIte, stripO_own, stripO_lst, stripO_v, stripO_plc, stripO_agg, stripO_fn, stripO_ifc]) | (refine DS.scS inferInstance (hbl) yR yX12 yX12 ?_; (try simp only [delS_cons, delS_nil, ↓reduceIte, *])) | refine DS.drawL (id := 9) [1, 2, 3, 0, 4, 5, 6, 7, 8] 9 (by kernel_rfl) mixed (by simp only [pickL_cons, pickL_nil, get_zero', get_cons', pickO_some]; exact rfl) (by simp only [drop_zero', drop_cons', List.drop_nil]; exact rfl) ?_ | (with_reducible first | refine DD.fltS yU yU yU yX10 ?_ | refine DD.nil0 ?_) | (refine DD.bslS yU yX10 yX10 ?_; simp only [go_sem, Nat.zero_add, Nat.reduceAdd]; simp only [delV_cons', delV_nil', Nat.reduceEqDiff, ↓reduceIte]) | (refine DD.append (mm := false) yU yX10 yX10 yU (by decide) yX10 (by first | exact .inl rfl | exact .inr ⟨rfl, rfl⟩) yX10 yX11 (by first | exact len_map cI_len _ | exact len_map cR_len _ | exact len_map Member.len _ | exact len_map Sitting.len _ | exact len_map Ruling.len _ | (simp only [List.mem_cons, List.not_mem_nil, or_false, forall_eq]; rfl) | simp) ⟨by (try simp only [List.length_map, List.length_cons, List.length_nil, List.length_append, List.length_take, List.length_drop]); omega, by decide⟩ ?_; simp only [strip_tmp, strip_const, lookV_cons, Nat.reduceEqDiff, ↓reduceIte, stripO_own, stripO_lst, stripO_v, stripO_plc, stripO_agg, stripO_fn, stripO_ifc]; simp only [delV_cons', delV_nil', Nat.reduceEqDiff, ↓reduceIte]) | fail)
      all_goals first | (exfalso; omega) | skip
      obtain ⟨m, rfl⟩ : ∃ m', m = m' + 1 := ⟨m - 1, by omega⟩
      have hk := K.out
      rw [tabG, if_pos ht, K2.out, Int.toNat_natCast, List.getD_eq_getElem?_getD, List.getElem?_eq_getElem hir, Option.getD_some] at hk
      refine DS.back (hB (m, stepX x2, t ++ [rest[i]], rest.take i ++ rest.drop (i + 1)) _ _ (by simp; omega) ⟨by simp; omega, by simp; omega, by simp; omega, by simp; omega, hk⟩ yS yS (fun b o e => by exact e))
    · repeat' (first | (with_reducible refine DS.mv (t := 8) yU (by first | exact .inl rfl | exact .inr rfl) yX10 ?_; simp only [strip_tmp, strip_const, lookV_cons, Nat.reduceEqDiff, ↓reduceIte, stripO_own, stripO_lst, stripO_v, stripO_plc, stripO_agg, stripO_fn, stripO_ifc]) | (with_reducible refine DS.mv (t := 49) yU (by first | exact .inl rfl | exact .inr rfl) yX10 ?_; simp only [strip_tmp, strip_const, lookV_cons, Nat.reduceEqDiff, ↓reduceIte, stripO_own, stripO_lst, stripO_v, stripO_plc, stripO_agg, stripO_fn, stripO_ifc]) | (with_reducible first | refine DS.fltS yU yU yX10 ?_ | refine DS.opsNil ?_ | refine DS.seq ?_ | refine DS.regionL ?_) | (with_reducible refine DS.cE yX10 ?_; with_reducible refine CG.no ?_) | (with_reducible first | refine DS.blk ?_ | refine DS.exit yU ?_) | (refine DS.bsl yU yX10 yX10 ?_; simp only [go_sem, Nat.zero_add, Nat.reduceAdd]) | (refine DS.append (mm := false) yU yX10 yX10 yU (by decide) yX10 (by first | exact .inl rfl | exact .inr ⟨rfl, rfl⟩) yX10 yX11 (by first | exact len_map cI_len _ | exact len_map cR_len _ | exact len_map Member.len _ | exact len_map Sitting.len _ | exact len_map Ruling.len _ | (simp only [List.mem_cons, List.not_mem_nil, or_false, forall_eq]; rfl) | simp) ⟨by (try simp only [List.length_map, List.length_cons, List.length_nil, List.length_append, List.length_take, List.length_drop]); omega, by decide⟩ ?_; simp only [strip_tmp, strip_const, lookV_cons, Nat.reduceEqDiff, ↓reduceIte, stripO_own, stripO_lst, stripO_v, stripO_plc, stripO_agg, stripO_fn, stripO_ifc]) | refine DS.pcS inferInstance (rising_pc t (by omega)) yR yX12 ?_ | fail)
      all_goals first | (exfalso; omega) | skip
      have hk := K.out
      rw [tabG_stop size m x2 t rest ht] at hk
      have h := H.out
      rw [tabsG, if_pos (by simpa using h0), List.headD_cons, List.drop_succ_cons, List.drop_zero, hk] at h
      refine DS.back (hB0 (n, x2, rest, out ++ [risingS t]) _ _ (by simp; omega) ⟨by simp; omega, by simp; omega, h⟩ yS yS (fun b o e => by exact e))
  · repeat' (first | (with_reducible refine DS.mv (t := 6) yU (by first | exact .inl rfl | exact .inr rfl) yE ?_; simp only [strip_tmp, strip_const, lookV_cons, Nat.reduceEqDiff, ↓reduceIte, stripO_own, stripO_lst, stripO_v, stripO_plc, stripO_agg, stripO_fn, stripO_ifc]) | (with_reducible refine DS.mv (t := 54) yU (by first | exact .inl rfl | exact .inr rfl) yE ?_; simp only [strip_tmp, strip_const, lookV_cons, Nat.reduceEqDiff, ↓reduceIte, stripO_own, stripO_lst, stripO_v, stripO_plc, stripO_agg, stripO_fn, stripO_ifc]) | (with_reducible first | refine DS.fltS yU yU yE ?_ | refine DS.opsNil ?_ | refine DS.seq ?_ | refine DS.regionL ?_ | (refine DS.cE yE ?_; refine CG.no ?_) | refine DS.exit yU ?_) | fail)
    all_goals first | (exfalso; omega) | skip
    have h := H.out
    rw [tabsG, if_neg h0] at h
    refine DS.retA yG ⟨by rw [h]; rfl, by rw [h]⟩
end Go.XL
namespace Go.XL
def ptsG (size start : Int) : Nat → Int → List (List Int) → List (List Int) × Int
  | 0, x, out => (out, x)
  | n + 1, x, out => if 0 < belowX x 5 then ptsG size start n (evenS size start (stepX x)).2 (out ++ [(evenS size start (stepX x)).1]) else ptsG size start n (stepX x) (out ++ [[]])
def roundIds (c : Club) (x : Int) : List Int × Int := multipleS c.size x (playingX c c.rounds.length)
def roundTabs (c : Club) (x : Int) : List (List Int) × Int :=
  if (roundIds c x).1.length ≤ 12 then
    (if 0 < belowX (tablesOfS c.size (roundIds c x).2 (roundIds c x).1).2 3 ∧ (nextS c (roundIds c x).1).2 = 0 then (nextS c (roundIds c x).1).1 else (tablesOfS c.size (roundIds c x).2 (roundIds c x).1).1, stepX (tablesOfS c.size (roundIds c x).2 (roundIds c x).1).2)
  else tablesOfS c.size (roundIds c x).2 (roundIds c x).1
def roundPts (c : Club) (x : Int) : List (List Int) × Int := ptsG c.size c.start (roundTabs c x).1.length (roundTabs c x).2 []
theorem tryL_len {budget : Int} {round n : Nat} {rec : List Int → Int → Int × Int × List (Nat × List Int)} (h : ∀ t s, (rec t s).2.2.length ≤ n) : ∀ (l : List (List Int)) (s : Int), (tryL budget round rec l s).2.2.length ≤ n + 1
  | [], s => by simp [tryL]
  | t :: r, s => by
    simp only [tryL]
    split
    · simp
    split
    · exact tryL_len h r _
    · simp only [List.length_cons]; have := h t (w64 (s + 1)); omega
theorem srch_len {size : Nat} {budget : Int} {rounds : List (List Int)} : ∀ (n : Nat) (met : Int → Int → Bool) (round : Nat) (ids : List Int) (s : Int), (srch size budget rounds n met round ids s).2.2.length ≤ n
  | 0, met, round, ids, s => by simp [srch]
  | n + 1, met, round, [], s => by
    rw [srch]
    split
    · simp
    · exact Nat.le_succ_of_le (srch_len n met _ _ _)
  | n + 1, met, round, f :: fr, s => by
    rw [srch]
    exact tryL_len (fun t s => srch_len n _ _ _ _) _ _
theorem nextS_len (c : Club) (ids : List Int) : (nextS c ids).1.length ≤ ids.length + 2 := by
  unfold nextS
  repeat' split
  all_goals first | (simp; done) | skip
  simp only [List.length_map, runS]
  have := srch_len (size := c.size.toNat) (budget := -1) (rounds := [ids]) (fuelS [ids]) (met0 c) 0 ([ids].headD []) 0
  simp [fuelS] at this ⊢
  omega
theorem tabsG_len (size : Int) : ∀ (n : Nat) (x : Int) (rest : List Int) (out : List (List Int)), (tabsG size n x rest out).1.length ≤ out.length + n
  | 0, x, rest, out => by simp [tabsG]
  | n + 1, x, rest, out => by
    simp only [tabsG]
    split
    · have := tabsG_len size n (tabG size size.toNat x [rest.headD 0] (rest.drop 1)).2.2 (tabG size size.toNat x [rest.headD 0] (rest.drop 1)).2.1 (out ++ [risingS (tabG size size.toNat x [rest.headD 0] (rest.drop 1)).1])
      simp only [List.length_append, List.length_singleton] at this
      omega
    · show out.length ≤ _
      omega
theorem tablesOfS_len (size x : Int) (l : List Int) : (tablesOfS size x l).1.length ≤ l.length + 1 := by
  have := tabsG_len size (l.length + 1) x l []
  simpa [tablesOfS] using this
theorem roundTabs_len (c : Club) (x : Int) : (roundTabs c x).1.length ≤ c.members.length + 2 := by
  have h1 := (multipleS_sub c.size x (playingX c c.rounds.length)).length_le
  have h2 : (playingX c c.rounds.length).length ≤ c.members.length := by
    unfold playingX
    repeat' split
    all_goals first | (simp; done) | skip
    rw [playingS, List.length_map]
    exact List.length_filter_le _ _
  have h3 := nextS_len c (roundIds c x).1
  have h4 := tablesOfS_len c.size (roundIds c x).2 (roundIds c x).1
  unfold roundIds at *
  unfold roundTabs roundIds
  split
  · dsimp only
    split <;> omega
  · omega
end Go.XL
