/- A part of a program logic over the kit's walk rules, and contracts of functions in it. Conditions: as each theorem says. -/
import Derived.Test.YtdkmlmmelehcbaaS4
set_option linter.all false
namespace Go.XL
open Go.Proofs
set_option maxRecDepth 100000
set_option maxHeartbeats 8000000
theorem cI_ne (l : List Int) : ∀ c ∈ l.map cI, c ≠ [] := fun c hc => by
  obtain ⟨x, _, rfl⟩ := List.mem_map.1 hc; simp [cI]
theorem zjd (l : List Int) (hl : l.length ≤ 2147483647) : PC Try.prog 102 [ints l] (.own false 3 1 (l.map cI)) := by
  refine DC.of_run Try.func102 rfl Try.ntmps102 Try.results102 (by simp) (fun _ => ?_); simp only [zan, zas, go_sem, Nat.zero_add, Nat.reduceAdd]
  repeat' (first | (with_reducible first | (refine DS.nilOwn (t := 2) yU (by first | exact .inl rfl | exact .inr rfl) yE ?_) | refine DS.fltS yU yU yE ?_ | refine DS.opsNil ?_ | refine DS.seq ?_ | refine DS.regionL ?_) | fail)
  refine DS.eqNil yR yU yG yR (cI_ne l) (fun b hb => ?_)
  cases b with
  | true =>
    have hb := hb rfl
    simp only [List.map_eq_nil_iff] at hb
    subst hb
    repeat' (first | (with_reducible first | (refine DS.nilOwn (t := 2) yU (by first | exact .inl rfl | exact .inr rfl) yE ?_) | refine DS.opsNil ?_ | refine DS.seq ?_ | refine DS.regionL ?_ | (refine DS.cE yE ?_; refine CG.yes ?_)) | refine DS.retT [] yE trivial ?_ | fail)
    rfl
  | false =>
    clear hb
    repeat' (first | (with_reducible refine DS.mv (t := 2) yU (by first | exact .inl rfl | exact .inr rfl) yE ?_; simp only [zak, zac, zad, Nat.reduceEqDiff, ↓reduceIte, zag, zah, zao, zaf, zae, zal, zai]) | (with_reducible first | refine DS.fltS yU yU yE ?_ | refine DS.opsNil ?_ | refine DS.seq ?_ | refine DS.regionL ?_ | (refine DS.cE yE ?_; refine CG.no ?_) | refine DS.skip ?_) | (refine DS.bsl yU yE yE ?_; simp only [go_sem, Nat.zero_add, Nat.reduceAdd]) | (refine DS.append (mm := false) yU yE yE yU (by decide) yE (by first | exact .inl rfl | exact .inr ⟨rfl, rfl⟩) yE yX0 (by first | exact zar zcu _ | exact zar zdm _ | exact zar Member.len _ | exact zar Sitting.len _ | exact zar Ruling.len _ | (simp only [List.mem_cons, List.not_mem_nil, or_false, forall_eq]; rfl) | simp) ⟨by (try simp only [List.length_map, List.length_cons, List.length_nil, List.length_append, List.length_take, List.length_drop]); omega, by decide⟩ ?_; simp only [zak, zac, zad, Nat.reduceEqDiff, ↓reduceIte, zag, zah, zao, zaf, zae, zal, zai]) | refine DS.retT [] yE trivial ?_ | fail)
    rfl
theorem cloneI_dc (l : List Int) (hl : l.length ≤ 2147483647) (hl0 : l ≠ []) : DC Try.prog 102 [ints l] [] (fun u S' => ∃ g : GR, u = g.cell ∧ g.Ok 3 1 S' ∧ g.l = l.map cI) := by
  refine DC.of_run Try.func102 rfl Try.ntmps102 Try.results102 (by simp) (fun _ => ?_); simp only [zan, zas, go_sem, Nat.zero_add, Nat.reduceAdd]
  repeat' (first | (with_reducible first | refine DS.fltS yU yU yE ?_ | refine DS.opsNil ?_ | refine DS.seq ?_ | refine DS.regionL ?_) | fail)
  refine DS.eqNil yR yU yG yR (cI_ne l) (fun b hb => ?_)
  cases b with
  | true =>
    have hb := hb rfl
    simp only [List.map_eq_nil_iff] at hb
    exact absurd hb hl0
  | false =>
    clear hb
    repeat' (first | (with_reducible first | refine DS.opsNil ?_ | refine DS.seq ?_ | refine DS.regionL ?_ | (refine DS.cE yE ?_; refine CG.no ?_) | refine DS.skip ?_) | fail)
    refine DS.bslO yR yG yG (fun b hb => ?_)
    repeat' (first | with_reducible refine DS.fltS yU yU yE ?_ | fail)
    have G : GR.Ok 3 1 [(b, .cells [] 3)] ⟨[], some (b, 0, [])⟩ := ⟨by simp [zab], rfl, Nat.le_refl _, Nat.zero_le _, by simp, by simp, by simp⟩
    have hlp : 0 < l.length := List.length_pos_iff.2 hl0
    refine DS.step rfl rfl yR (OpS.appG (g := ⟨[], some (b, 0, [])⟩) (ml := l.map cI) rfl yH yH yR yR (by decide) yH G yH yH (by rw [List.length_map]; omega) (by intro x hx; obtain ⟨y, -, rfl⟩ := List.mem_map.1 hx; rfl) ⟨by simp only [List.length_map, List.length_nil]; omega, by decide⟩) (fun u2 E' S4 hu2 => ?_)
    obtain ⟨rfl, b', cap', junk', rfl, m1, m2, m3⟩ := hu2
    simp only [GR.cell_some, zcj]
    repeat' (first | (with_reducible first | refine DS.fltS yU yU yE ?_ | refine DS.opsNil ?_) | fail)
    refine DS.retA yG ⟨⟨l.map cI, some (b', cap', junk')⟩, by simp [GR.cell, tupV], ?_, rfl⟩
    have hml : [] ++ (l.map cI).map (·.map V.copy) = l.map cI := by rw [List.nil_append, List.map_map]; rfl
    rw [hml] at m1
    exact m1
theorem indexFuncG_rc (S : Sto) (l : List Int) {b cap : Nat} {j : List V} {T : TypeId} (hS : zab S b = some (.cells ((l.map fun x => I x) ++ j) T)) (hc : l.length ≤ cap ∧ cap ≤ maxLen) {g : FuncId} {fs cs : List V} {fn : Func} (p : Int → Bool) (hf : FnOk Try.prog g fn) (h : ∀ x ∈ l, PC Try.prog g (fs ++ [I x] ++ cs) (Bo (p x))) :
    RC Try.prog 135 [.v (.slice (some ⟨b, 0, none⟩) l.length cap), .fn g fs cs] S (I (idxF p l 0)) := by
  have k3 := hc.2
  have k2 := hc.1
  simp only [maxLen] at k3
  clear hc
  refine DC.of_run Try.func135 rfl Try.ntmps135 Try.results135 (by simp) (fun _ => ?_); simp only [zan, zas, go_sem, Nat.zero_add, Nat.reduceAdd]
  repeat' (first | (with_reducible first | refine DS.fltS yU yU yE ?_ | refine DS.opsNil ?_ | refine DS.seq ?_ | refine DS.regionL ?_ | refine DS.block ?_) | fail)
  refine DS.loopK [0, 1, 7] (by (simp only [go_sem, Nat.reduceEqDiff, ↓reduceIte]; exact rfl)) (fun (i : Nat) => [(8, I i)]) (fun (i : Nat) => i ≤ l.length ∧ idxF p l 0 = idxF p (l.drop i) i) (fun (i : Nat) => l.length - i) 0 yS ⟨Nat.zero_le _, rfl⟩ (fun i B hI hB => ?_); try dsimp only at hI hB; simp only [zap, zau]
  repeat' (first | (with_reducible first | refine DS.fltS yU yU yX9 ?_ | refine DS.opsNil ?_ | refine DS.seq ?_ | refine DS.regionL ?_) | (with_reducible refine DS.cE yX9 ?_; with_reducible refine CG.p (fun _ => ?_) (fun _ => ?_)) | (with_reducible first | refine DS.block ?_ | refine DS.exit yU ?_ | refine DS.skip ?_) | refine DS.retA yX9 ⟨?_, rfl⟩ | fail)
  · refine DS.pcVS hf (by simp (disch := omega) only [go_sem, dopV, Option.map_some, Option.map_none, Option.bind_some, Option.bind_none, ↓reduceIte, Nat.reduceEqDiff, Nat.reduceLT, Nat.reduceLeDiff, Nat.reduceAdd, Nat.reduceMul, Nat.reduceSub, Nat.zero_add, Nat.add_zero, Nat.zero_le, Nat.zero_mul, Nat.mul_one, Nat.one_mul, Int.natCast_zero, Int.toNat_zero, Int.reduceToNat, Int.reduceLT, Int.reduceLE, Int.reduceEq, decide_true, decide_false, true_and, and_true, Bool.and_self, Bool.and_true, Bool.true_and, Bool.not_true, Bool.not_false, IntWalk.toNatUp, IntWalk.iteOmega, IntWalk.i64_in, Option.isSome_some, not_true_eq_false, not_false_eq_true, Option.getD_some, Option.getD_none, Int.toNat_natCast, List.length_map, List.getElem?_map, List.getElem?_eq_getElem, V.flat, V.one, List.all_cons, List.all_nil]) (h l[i] (List.getElem_mem _)) yR yH ?_
    repeat' (first | (with_reducible first | refine DS.fltS yU yU yE ?_ | refine DS.opsNil ?_ | refine DS.seq ?_ | refine DS.regionL ?_ | (refine DS.cE yE ?_; refine CG.b (fun _ => ?_) (fun _ => ?_)) | refine DS.blk ?_ | refine DS.skip ?_) | refine DS.retA yE ⟨?_, rfl⟩ | fail)
    · rename_i h1 h2
      rw [hI.2, zjq (p := p) (l := l) (i := i) (by omega) h2]; rfl
    · rename_i h1 h2
      exact DS.back (hB (i + 1) _ _ (by omega) (⟨by omega, by rw [hI.2, zhn (by omega) h2]⟩) yS yS (fun b o e => by first | exact e | (simp only [zaa]; split <;> simp_all)))
  · rw [hI.2, zjr (p := p) (l := l) (i := i) (by omega)]; rfl
theorem zug {p : Int → Bool} : ∀ (l : List Int) (s : Nat), (idxF p l s = -1 ∧ l.filter (fun x => !p x) = l) ∨ ∃ i : Nat, idxF p l s = (s + i : Nat) ∧ i < l.length ∧ l.take i = (l.take (i + 1)).filter (fun x => !p x)
  | [], s => .inl ⟨rfl, rfl⟩
  | x :: r, s => by
    simp only [idxF]
    by_cases hx : p x = true
    · rw [if_pos hx]
      exact .inr ⟨0, by simp, by simp, by simp [hx]⟩
    · rw [if_neg hx]
      rcases zug r (s + 1) with ⟨h1, h2⟩ | ⟨i, h1, h2, h3⟩
      · exact .inl ⟨h1, by simp [hx, h2]⟩
      · refine .inr ⟨i + 1, by rw [h1]; congr 1; omega, by simp; omega, ?_⟩
        rw [List.take_succ_cons, List.take_succ_cons, List.filter_cons, if_pos (by simpa using hx), ← h3]
structure DelI (p : Int → Bool) (l m : List Int) (i j : Nat) : Prop where
  ij : i < j
  jl : j ≤ l.length
  len : m.length = l.length
  keep : m.take i = (l.take j).filter (fun x => !p x)
  rest : m.drop j = l.drop j
theorem zoo (l : List Int) (k : Nat) (r : List V) (hk : k ≤ l.length) : chunk 1 k ((l.map fun x => I x) ++ r) = (l.take k).map cI := by
  induction k generalizing l with
  | zero => simp [chunk]
  | succ k ih =>
    cases l with
    | nil => simp at hk
    | cons x l =>
      simp only [List.length_cons] at hk
      simp only [chunk, List.map_cons, List.cons_append, List.take_succ_cons, List.take_zero, List.drop_succ_cons, List.drop_zero, ih l (by omega)]
      rfl
theorem deleteFunc_dc (l : List Int) (gr : GR) (S : Sto) (ok : gr.Ok 3 1 S) (hl0 : l ≠ []) (hg : gr.l = l.map cI) {g : FuncId} {fs cs : List V} {fn : Func} (p : Int → Bool) (hf : FnOk Try.prog g fn) (h : ∀ x ∈ l, PC Try.prog g (fs ++ [I x] ++ cs) (Bo (p x))) :
    DC Try.prog 121 [gr.cell.peek, .fn g fs cs] S (fun u S' => u = ints (l.filter fun x => !p x)) := by
  obtain ⟨gl, blk⟩ := gr
  dsimp only at hg
  subst hg
  cases blk with
  | none =>
    simp only [GR.Ok, List.map_eq_nil_iff] at ok
    exact absurd ok hl0
  | some x =>
    obtain ⟨b, cap, j⟩ := x
    have k1 := ok.look
    have k2 := ok.le
    have k3 := ok.cap
    have k4 := ok.len
    have hfl := zmd l
    rw [hfl] at k1
    clear hfl ok
    simp only [List.length_map, Nat.mul_one] at k2 k4
    simp only [GR.cell, zjo, List.length_map]
    have hix := indexFuncG_rc S l k1 ⟨k2, k3⟩ p hf h
    simp only [maxLen] at k3
    have hpre := zug (p := p) l 0
    rcases hpre with ⟨e1, e2⟩ | ⟨i0, e1, e2, e3⟩
    · rw [e1] at hix
      rw [e2]
      clear e1 e2
      refine DC.of_run Try.func121 rfl Try.ntmps121 Try.results121 (by simp) (fun _ => ?_); simp only [zan, zas, go_sem, Nat.zero_add, Nat.reduceAdd]
      repeat' (first | (with_reducible first | refine DS.fltS yU yU yE ?_ | refine DS.opsNil ?_ | refine DS.seq ?_ | refine DS.regionL ?_ | (refine DS.cE yE ?_; refine CG.yes ?_)) | refine DS.rcS inferInstance (hix) yR yT ?_ | fail)
      refine DS.freeze (t := 4) (sz := 1) yR k1 (by simp) ⟨k2, by simp only [maxLen]; exact k3⟩ ?_
      refine DS.retT [] yG trivial ?_
      rw [zec, List.map_append, List.map_map, show (V.copy ∘ fun x => I x) = (fun x => I x) from rfl, zoo l _ _ (Nat.le_refl _), List.take_length]
    · rw [Nat.zero_add] at e1
      rw [e1] at hix
      have D0 : DelI p l l i0 (i0 + 1) := ⟨by omega, by omega, rfl, e3, rfl⟩
      clear e1 e3
      refine DC.of_run Try.func121 rfl Try.ntmps121 Try.results121 (by simp) (fun _ => ?_); simp only [zan, zas, go_sem, Nat.zero_add, Nat.reduceAdd]
      repeat' (first | (with_reducible first | refine DS.fltS yU yU yE ?_ | refine DS.opsNil ?_ | refine DS.seq ?_ | refine DS.regionL ?_ | (refine DS.cE yE ?_; refine CG.p (fun _ => ?_) (fun _ => ?_)) | refine DS.block ?_ | refine DS.skip ?_) | refine DS.rcS inferInstance (hix) yR yT ?_ | fail)
      all_goals first | (exfalso; omega) | skip
      rename_i e4
      clear hix
      refine DS.loopS [0, 1] (by (simp only [go_sem, Nat.reduceEqDiff, ↓reduceIte]; exact rfl)) (fun (x : Nat × Nat × List Int × Sto) => [(5, I x.1), (6, I x.2.1)]) (fun (x : Nat × Nat × List Int × Sto) => x.2.2.2) (fun (x : Nat × Nat × List Int × Sto) => DelI p l x.2.2.1 x.1 x.2.1 ∧ zab x.2.2.2 b = some (.cells ((x.2.2.1.map fun x => I x) ++ j) 3)) (fun (x : Nat × Nat × List Int × Sto) => l.length - x.2.1) (i0, i0 + 1, l, S) yS (fun b o e => by exact e) ⟨D0, k1⟩ (fun x B hI hB => ?_); try dsimp only at hI hB; simp only [zap, zau]
      obtain ⟨a, c, m, S1⟩ := x
      dsimp only at hI hB
      obtain ⟨D, g2⟩ := hI
      have d1 := D.ij
      have d2 := D.jl
      have d3 := D.len
      have hcc : c < l.length → ∃ h1 : c < m.length, ∃ h2 : c < l.length, m[c] = l[c] := fun hc => by
        have h1 : c < m.length := by omega
        refine ⟨h1, hc, ?_⟩
        have := D.rest
        rw [List.drop_eq_getElem_cons h1, List.drop_eq_getElem_cons hc] at this
        exact (List.cons.inj this).1
      repeat' (first | (with_reducible first | refine DS.fltS yU yU yX9 ?_ | refine DS.opsNil ?_ | refine DS.seq ?_ | refine DS.regionL ?_) | (with_reducible refine DS.cE yX9 ?_; with_reducible refine CG.p (fun _ => ?_) (fun _ => ?_)) | (with_reducible first | refine DS.block ?_ | refine DS.exit yU ?_ | refine DS.skip ?_) | fail)
      · rename_i e5
        obtain ⟨h1, h2, h3⟩ := hcc (by omega)
        have hpx := h l[c] (List.getElem_mem h2)
        rw [← h3] at hpx
        refine DS.pcVS hf (by simp (disch := omega) only [go_sem, dopV, Option.map_some, Option.map_none, Option.bind_some, Option.bind_none, ↓reduceIte, Nat.reduceEqDiff, Nat.reduceLT, Nat.reduceLeDiff, Nat.reduceAdd, Nat.reduceMul, Nat.reduceSub, Nat.zero_add, Nat.add_zero, Nat.zero_le, Nat.zero_mul, Nat.mul_one, Nat.one_mul, Int.natCast_zero, Int.toNat_zero, Int.reduceToNat, Int.reduceLT, Int.reduceLE, Int.reduceEq, decide_true, decide_false, true_and, and_true, Bool.and_self, Bool.and_true, Bool.true_and, Bool.not_true, Bool.not_false, IntWalk.toNatUp, IntWalk.iteOmega, IntWalk.i64_in, Option.isSome_some, not_true_eq_false, not_false_eq_true, Option.getD_some, Option.getD_none, Int.toNat_natCast, List.length_map, List.getElem?_map, List.getElem?_eq_getElem, V.flat, V.one, List.all_cons, List.all_nil]) hpx yR yH ?_
        repeat' (first | (with_reducible first | refine DS.fltS yU yU yE ?_ | refine DS.opsNil ?_ | refine DS.seq ?_ | refine DS.regionL ?_ | (refine DS.cE yE ?_; refine CG.nb (fun _ => ?_) (fun _ => ?_)) | refine DS.blk ?_ | refine DS.skip ?_) | (refine DS.store yR yE yE yE yE yU (by exact ⟨by with_unfolding_all rfl, by (try simp only [List.length_map, List.length_append, List.length_set, List.length_replicate, List.length_cons, List.length_nil]); omega⟩) ?_; simp only [zbm, zaq, zat, zbz, zbn, zbl, zbh]; try simp only [zak, zac, zad, Nat.reduceEqDiff, ↓reduceIte, zag, zah, zao, zaf, zae, zal, zai]) | fail)
        · rename_i e6
          have hai : a < m.length := by omega
          have hset : ((m.map fun x => I x) ++ j).set a (.v (.int .i64 l[c])) = ((m.set a l[c]).map fun x => I x) ++ j := by
            rw [List.set_append_left _ _ (by simpa using hai), List.map_set]
          refine DS.reS (S' := setS b (.cells (((m.set a l[c]).map fun x => I x) ++ j) 3) S1) (fun b' o e => by rw [← hset] at e; exact e) ?_
          have g3 : zab (setS b (.cells (((m.set a l[c]).map fun x => I x) ++ j) 3) S1) b = some (.cells (((m.set a l[c]).map fun x => I x) ++ j) 3) := by rw [zbg g2, if_pos rfl]
          have D2 : DelI p l (m.set a l[c]) (a + 1) (c + 1) := by
            refine ⟨by omega, by omega, by rw [List.length_set]; exact D.len, ?_, ?_⟩
            · rw [List.take_succ_eq_append_getElem (by rw [List.length_set]; omega), List.take_set_of_le (Nat.le_refl _), D.keep, List.getElem_set_self, List.take_succ_eq_append_getElem h2, List.filter_append]
              simp [e6]
            · rw [List.drop_set_of_lt (by omega)]
              have := D.rest
              rw [List.drop_eq_getElem_cons h1, List.drop_eq_getElem_cons h2] at this
              exact (List.cons.inj this).2
          generalize setS b (.cells (((m.set a l[c]).map fun x => I x) ++ j) 3) S1 = S2 at *
          clear hset hcc
          skip
          refine DS.back (hB (a + 1, c + 1, m.set a l[c], S2) _ _ (by dsimp only; omega) ⟨D2, g3⟩ yS yS (fun b o e => by exact e))
        · rename_i e6
          have D2 : DelI p l m a (c + 1) := by
            refine ⟨by omega, by omega, D.len, ?_, ?_⟩
            · rw [List.take_succ_eq_append_getElem h2, List.filter_append, ← D.keep]
              simp [e6]
            · have := D.rest
              rw [List.drop_eq_getElem_cons h1, List.drop_eq_getElem_cons h2] at this
              exact (List.cons.inj this).2
          clear hcc
          skip
          refine DS.back (hB (a, c + 1, m, S1) _ _ (by dsimp only; omega) ⟨D2, g2⟩ yS yS (fun b o e => by exact e))
      · rename_i e5
        have hc : c = m.length := by omega
        have hkeep := D.keep
        rw [List.take_of_length_le (l := l) (by omega)] at hkeep
        rw [← hkeep]
        clear hcc hkeep
        refine DS.clear (z := .int .i64 0) yU yU yR yR (m := l.length - a) (by omega) yG g2 (by simp only [List.length_append, List.length_map]; omega) ?_
        have hset : setAll ((m.map fun x => I x) ++ j) a (List.replicate (l.length - a) (.v (.int .i64 0))) = ((m.take a).map fun x => I x) ++ (List.replicate (l.length - a) (.v (.int .i64 0)) ++ j) := by
          apply List.ext_getElem?
          intro i
          rw [zfm _ _ _ _ (by simp; omega), List.length_replicate]
          by_cases h1 : i < a
          · rw [if_neg (by omega), List.getElem?_append_left (by simp; omega), List.getElem?_append_left (by simp; omega), List.map_take, List.getElem?_take_of_lt h1]
          · rw [List.getElem?_append_right (l₁ := (m.take a).map fun x => I x) (by simp; omega), List.length_map, List.length_take, Nat.min_eq_left (by omega)]
            by_cases h2 : i < l.length
            · rw [if_pos (by omega), List.getElem?_append_left (by simp; omega)]
            · rw [if_neg (by omega), List.getElem?_append_right (by simp; omega), List.getElem?_append_right (by simp; omega), List.length_map, List.length_replicate]
              congr 1; omega
        refine DS.reS (S' := setS b (.cells (((m.take a).map fun x => I x) ++ (List.replicate (l.length - a) (.v (.int .i64 0)) ++ j)) 3) S1) (fun b' o e => by rw [← hset] at e; exact e) ?_
        have g3 : zab (setS b (.cells (((m.take a).map fun x => I x) ++ (List.replicate (l.length - a) (.v (.int .i64 0)) ++ j)) 3) S1) b = some (.cells (((m.take a).map fun x => I x) ++ (List.replicate (l.length - a) (.v (.int .i64 0)) ++ j)) 3) := by rw [zbg g2, if_pos rfl]
        generalize setS b (.cells (((m.take a).map fun x => I x) ++ (List.replicate (l.length - a) (.v (.int .i64 0)) ++ j)) 3) S1 = S2 at *
        repeat' (first | (with_reducible first | refine DS.fltS yU yU yE ?_ | refine DS.opsNil ?_ | refine DS.seq ?_ | refine DS.regionL ?_) | fail)
        refine DS.freeze (t := 4) (sz := 1) yR g3 (by simp; omega) ⟨by omega, by simp only [maxLen]; exact k3⟩ ?_
        refine DS.retT [] yG trivial ?_
        rw [zec, List.map_append, List.map_map, show (V.copy ∘ fun x => I x) = (fun x => I x) from rfl, zoo _ _ _ (by simp; omega), Nat.sub_zero, List.take_take, Nat.min_self]
end Go.XL
namespace Go.XL
open Go.Proofs
set_option maxRecDepth 100000
set_option maxHeartbeats 8000000
theorem zks {α β : Type} (f : α → β) (l : List α) (n : Nat) : (l.map f).take n = (l.take n).map f := by rw [List.map_take]
theorem yX10 {p : Prop} (h : p := by (simp (disch := omega) only [go_sem, dopV, Option.map_some, Option.map_none, Option.bind_some, Option.bind_none, ↓reduceIte, Nat.reduceEqDiff, Nat.reduceLT, Nat.reduceLeDiff, Nat.reduceAdd, Nat.reduceMul, Nat.reduceSub, Nat.zero_add, Nat.add_zero, Nat.zero_le, Nat.zero_mul, Nat.mul_one, Nat.one_mul, Int.natCast_zero, Int.toNat_zero, Int.reduceToNat, Int.reduceLT, Int.reduceLE, Int.reduceEq, decide_true, decide_false, true_and, and_true, Bool.and_self, Bool.and_true, Bool.true_and, Bool.not_true, Bool.not_false, IntWalk.toNatUp, IntWalk.iteOmega, IntWalk.i64_in, Option.isSome_some, not_true_eq_false, not_false_eq_true, Option.getD_some, Option.getD_none, Int.toNat_natCast, List.length_map, List.getElem?_map, List.getElem?_eq_getElem, V.flat, V.one, List.all_cons, List.all_nil, *, List.forall_mem_map, implies_true, zed, zcu, zfy, zks, List.take_length]; exact rfl)) : p := h
theorem yX11 {p : Prop} (h : p := by first | exact rfl | (simp (disch := omega) only [go_sem, dopV, Option.map_some, Option.map_none, Option.bind_some, Option.bind_none, ↓reduceIte, Nat.reduceEqDiff, Nat.reduceLT, Nat.reduceLeDiff, Nat.reduceAdd, Nat.reduceMul, Nat.reduceSub, Nat.zero_add, Nat.add_zero, Nat.zero_le, Nat.zero_mul, Nat.mul_one, Nat.one_mul, Int.natCast_zero, Int.toNat_zero, Int.reduceToNat, Int.reduceLT, Int.reduceLE, Int.reduceEq, decide_true, decide_false, true_and, and_true, Bool.and_self, Bool.and_true, Bool.true_and, Bool.not_true, Bool.not_false, IntWalk.toNatUp, IntWalk.iteOmega, IntWalk.i64_in, Option.isSome_some, not_true_eq_false, not_false_eq_true, Option.getD_some, Option.getD_none, Int.toNat_natCast, List.length_map, List.getElem?_map, List.getElem?_eq_getElem, V.flat, V.one, List.all_cons, List.all_nil, *, List.forall_mem_map, implies_true, zed, zcu, zfy, zks, List.take_length]; exact rfl)) : p := h
theorem yX12 {p : Prop} (h : p := by (simp (disch := omega) only [go_sem, dopV, Option.map_some, Option.map_none, Option.bind_some, Option.bind_none, ↓reduceIte, Nat.reduceEqDiff, Nat.reduceLT, Nat.reduceLeDiff, Nat.reduceAdd, Nat.reduceMul, Nat.reduceSub, Nat.zero_add, Nat.add_zero, Nat.zero_le, Nat.zero_mul, Nat.mul_one, Nat.one_mul, Int.natCast_zero, Int.toNat_zero, Int.reduceToNat, Int.reduceLT, Int.reduceLE, Int.reduceEq, decide_true, decide_false, true_and, and_true, Bool.and_self, Bool.and_true, Bool.true_and, Bool.not_true, Bool.not_false, IntWalk.toNatUp, IntWalk.iteOmega, IntWalk.i64_in, Option.isSome_some, not_true_eq_false, not_false_eq_true, Option.getD_some, Option.getD_none, Int.toNat_natCast, List.length_map, List.getElem?_map, List.getElem?_eq_getElem, V.flat, V.one, List.all_cons, List.all_nil, *, List.forall_mem_map, implies_true, zed, zcu, zfy, zks, List.take_length]; try exact rfl)) : p := h
theorem zns (bs : Nat) (x : Int) (l : List Int) (size : Int) (hs : 3 ≤ size ∧ size ≤ 4) (hl : l.length ≤ 1000000) : SC Try.prog 15 [ptr bs, ints l, I size] bs x (.own false 3 1 ((zcs size x l).1.map cI)) (zcs size x l).2 := by
  unfold SC
  obtain ⟨hs1, hs2⟩ := hs
  refine DC.of_run Try.func15 rfl Try.ntmps15 Try.results15 (by simp) (fun _ => ?_); simp only [zan, zas, go_sem, Nat.zero_add, Nat.reduceAdd]
  repeat' (first | with_reducible (refine DS.nilOwn (t := 6) yU (by first | exact .inl rfl | exact .inr rfl) yE ?_) | (with_reducible refine DS.mv (t := 7) yU (by first | exact .inl rfl | exact .inr rfl) yE ?_; simp only [zak, zac, zad, Nat.reduceEqDiff, ↓reduceIte, zag, zah, zao, zaf, zae, zal, zai]) | (with_reducible first | refine DS.fltS yU yU yE ?_ | refine DS.opsNil ?_ | refine DS.seq ?_ | refine DS.regionL ?_ | refine DS.block ?_) | (refine DS.bsl yU yE yE ?_; simp only [go_sem, Nat.zero_add, Nat.reduceAdd]) | (refine DS.append (mm := false) yU yE yE yU (by decide) yE (by first | exact .inl rfl | exact .inr ⟨rfl, rfl⟩) yE yX0 (by first | exact zar zcu _ | exact zar zdm _ | exact zar Member.len _ | exact zar Sitting.len _ | exact zar Ruling.len _ | (simp only [List.mem_cons, List.not_mem_nil, or_false, forall_eq]; rfl) | simp) ⟨by (try simp only [List.length_map, List.length_cons, List.length_nil, List.length_append, List.length_take, List.length_drop]); omega, by decide⟩ ?_; simp only [zak, zac, zad, Nat.reduceEqDiff, ↓reduceIte, zag, zah, zao, zaf, zae, zal, zai]) | fail)
  refine DS.loopS [0, 2] (by (simp only [go_sem, Nat.reduceEqDiff, ↓reduceIte]; exact rfl)) (fun (y : Nat × Int × List Int) => [(7, .own false 3 1 (y.2.2.map cI))]) (fun (y : Nat × Int × List Int) => [(bs, srcO y.2.1)]) (fun (y : Nat × Int × List Int) => y.2.2.length < y.1 ∧ y.2.2.length ≤ l.length ∧ zcs size x l = znu size y.1 y.2.1 y.2.2) (fun (y : Nat × Int × List Int) => y.2.2.length) (l.length + 1, x, l) yS (fun b o e => by exact e) ⟨Nat.lt_succ_self _, Nat.le_refl _, rfl⟩ (fun y B hI hB => ?_); try dsimp only at hI hB; simp only [zap, zau]
  obtain ⟨n, x1, l1⟩ := y
  dsimp only at hI hB
  obtain ⟨g1, g2, g3⟩ := hI
  have H := Box.mk g3
  clear g3
  obtain ⟨n, rfl⟩ : ∃ n', n = n' + 1 := ⟨n - 1, by omega⟩
  have hb1 := zcn x1 l1.length
  have hb2 := zcn (zaj x1) l1.length
  obtain ⟨b1, b2, b3⟩ := hb1
  obtain ⟨b4, b5, b6⟩ := hb2
  by_cases h0 : l1.length = 0
  · have hl0 : l1 = [] := List.eq_nil_of_length_eq_zero h0
    subst hl0
    clear b2 b3 b5 b6
    repeat' (first | (with_reducible refine DS.mv (t := 6) yU (by first | exact .inl rfl | exact .inr rfl) yE ?_; simp only [zak, zac, zad, Nat.reduceEqDiff, ↓reduceIte, zag, zah, zao, zaf, zae, zal, zai]) | (with_reducible refine DS.mv (t := 40) yU (by first | exact .inl rfl | exact .inr rfl) yE ?_; simp only [zak, zac, zad, Nat.reduceEqDiff, ↓reduceIte, zag, zah, zao, zaf, zae, zal, zai]) | (with_reducible first | refine DS.fltS yU yU yE ?_ | refine DS.opsNil ?_ | refine DS.seq ?_ | refine DS.regionL ?_ | (refine DS.cE yE ?_; refine CG.no ?_) | (refine DS.gE yU yE ?_; first | refine GG.sU ?_ | refine GG.sF ?_) | refine DS.exit yU ?_) | fail)
    have h := H.out
    simp only [znu, List.length_nil, if_true] at h
    refine DS.retA yG ⟨by rw [h]; rfl, by rw [h]⟩
  · have c2 := b2 (by omega)
    have c5 := b5 (by omega)
    clear b2 b3 b5 b6
    have hmod : ((l1.length : Int)).tmod size = (l1.length : Int) % size := Int.tmod_eq_emod_of_nonneg (by omega)
    have hbl1 := zcz bs x1 l1.length (by omega)
    have hbl2 := zcz bs (zaj x1) l1.length (by omega)
    have hmg : znu size (n + 1) x1 l1 = if (l1.length : Int) % size ≠ 0 then znu size n (zaj x1) (l1.take (zam x1 l1.length).toNat ++ l1.drop ((zam x1 l1.length).toNat + 1)) else if zmr x1 9 = true then znu size n (zaj (zaj x1)) (l1.take (zam (zaj x1) l1.length).toNat ++ l1.drop ((zam (zaj x1) l1.length).toNat + 1)) else (l1, zaj x1) := by
      rw [znu, if_neg h0]
    have H2 := Box.mk (And.intro hmg (And.intro hbl1 hbl2))
    clear hmg hbl1 hbl2
    obtain ⟨i1, hi1⟩ : ∃ i1 : Nat, zam x1 l1.length = i1 := ⟨(zam x1 l1.length).toNat, by omega⟩
    obtain ⟨i2, hi2⟩ : ∃ i2 : Nat, zam (zaj x1) l1.length = i2 := ⟨(zam (zaj x1) l1.length).toNat, by omega⟩
    repeat' (first | (with_reducible refine DS.mv (t := 6) yU (by first | exact .inl rfl | exact .inr rfl) yE ?_; simp only [zak, zac, zad, Nat.reduceEqDiff, ↓reduceIte, zag, zah, zao, zaf, zae, zal, zai]) | (with_reducible refine DS.mv (t := 40) yU (by first | exact .inl rfl | exact .inr rfl) yE ?_; simp only [zak, zac, zad, Nat.reduceEqDiff, ↓reduceIte, zag, zah, zao, zaf, zae, zal, zai]) | (with_reducible first | refine DS.fltS yU yU yE ?_ | refine DS.opsNil ?_ | refine DS.seq ?_ | refine DS.regionL ?_ | (refine DS.cE yE ?_; first | refine CG.yes ?_ | refine CG.no ?_ | refine CG.b (fun _ => ?_) (fun _ => ?_)) | (refine DS.gE yU yE ?_; first | refine GG.sU ?_ | refine GG.npF (fun _ => ?_) (fun _ => ?_) | refine GG.pT (fun _ => ?_) (fun _ => ?_) | refine GG.run ?_ | refine GG.sF ?_ | refine GG.sT ?_) | refine DS.block ?_ | refine DS.exit yU ?_ | refine DS.skip ?_) | (refine DS.scS inferInstance (zkj bs x1 9 (by omega)) yR yT yT ?_; (try simp only [zbj, zbv, ↓reduceIte, *])) | fail)
    · rename_i e1 e2 e3
      have hb := H2.out.2.2
      rw [hi2] at hb
      repeat' (first | (with_reducible refine DS.mv (t := 7) yU (by first | exact .inl rfl | exact .inr rfl) yX10 ?_; simp only [zak, zac, zad, Nat.reduceEqDiff, ↓reduceIte, zag, zah, zao, zaf, zae, zal, zai]) | (with_reducible first | refine DS.fltS yU yU yX10 ?_ | refine DS.opsNil ?_ | refine DS.blk ?_) | (refine DS.append (mm := false) yU yX10 yX10 yU (by decide) yX10 (by first | exact .inl rfl | exact .inr ⟨rfl, rfl⟩) yX10 yX11 (by first | exact zar zcu _ | exact zar zdm _ | exact zar Member.len _ | exact zar Sitting.len _ | exact zar Ruling.len _ | (simp only [List.mem_cons, List.not_mem_nil, or_false, forall_eq]; rfl) | simp) ⟨by (try simp only [List.length_map, List.length_cons, List.length_nil, List.length_append, List.length_take, List.length_drop]); omega, by decide⟩ ?_; simp only [zak, zac, zad, Nat.reduceEqDiff, ↓reduceIte, zag, zah, zao, zaf, zae, zal, zai]) | (refine DS.scS inferInstance (hb) yR yX12 yX12 ?_; (try simp only [zbj, zbv, ↓reduceIte, *])) | refine DS.drawL (id := 4) [1, 2, 3, 0, 4, 5, 6, 7, 8] 9 (by kernel_rfl) zct (by simp only [zay, zbc, zbd, zbe, zax]; exact rfl) (by simp only [zav, zaw, List.drop_nil]; exact rfl) ?_ | (with_reducible first | refine DD.fltS yU yU yU yX10 ?_ | refine DD.nil0 ?_) | (refine DD.bslS yU yX10 yX10 ?_; simp only [go_sem, Nat.zero_add, Nat.reduceAdd]; simp only [zbo, zbw, Nat.reduceEqDiff, ↓reduceIte]) | (refine DD.append (mm := false) yU yX10 yX10 yU (by decide) yX10 (by first | exact .inl rfl | exact .inr ⟨rfl, rfl⟩) yX10 yX11 (by first | exact zar zcu _ | exact zar zdm _ | exact zar Member.len _ | exact zar Sitting.len _ | exact zar Ruling.len _ | (simp only [List.mem_cons, List.not_mem_nil, or_false, forall_eq]; rfl) | simp) ⟨by (try simp only [List.length_map, List.length_cons, List.length_nil, List.length_append, List.length_take, List.length_drop]); omega, by decide⟩ ?_; simp only [zak, zac, zad, Nat.reduceEqDiff, ↓reduceIte, zag, zah, zao, zaf, zae, zal, zai]; simp only [zbo, zbw, Nat.reduceEqDiff, ↓reduceIte]) | fail)
      have h := H.out
      rw [H2.out.1, if_neg (by omega), if_pos (by assumption), hi2] at h
      refine DS.back (hB (n, zaj (zaj x1), l1.take i2 ++ l1.drop (i2 + 1)) _ _ (by simp; omega) ⟨by simp; omega, by simp; omega, by rw [h]; rfl⟩ yS yS (fun b o e => by exact e))
    · rename_i e1 e2 e3
      have h := H.out
      rw [H2.out.1, if_neg (by omega), if_neg (by simp [*])] at h
      refine DS.retA yG ⟨by rw [h]; rfl, by rw [h]⟩
    · rename_i e1 e2
      have hb := H2.out.2.1
      rw [hi1] at hb
      repeat' (first | (with_reducible refine DS.mv (t := 7) yU (by first | exact .inl rfl | exact .inr rfl) yX10 ?_; simp only [zak, zac, zad, Nat.reduceEqDiff, ↓reduceIte, zag, zah, zao, zaf, zae, zal, zai]) | (with_reducible first | refine DS.fltS yU yU yX10 ?_ | refine DS.opsNil ?_ | refine DS.blk ?_) | (refine DS.append (mm := false) yU yX10 yX10 yU (by decide) yX10 (by first | exact .inl rfl | exact .inr ⟨rfl, rfl⟩) yX10 yX11 (by first | exact zar zcu _ | exact zar zdm _ | exact zar Member.len _ | exact zar Sitting.len _ | exact zar Ruling.len _ | (simp only [List.mem_cons, List.not_mem_nil, or_false, forall_eq]; rfl) | simp) ⟨by (try simp only [List.length_map, List.length_cons, List.length_nil, List.length_append, List.length_take, List.length_drop]); omega, by decide⟩ ?_; simp only [zak, zac, zad, Nat.reduceEqDiff, ↓reduceIte, zag, zah, zao, zaf, zae, zal, zai]) | (refine DS.scS inferInstance (hb) yR yX12 yX12 ?_; (try simp only [zbj, zbv, ↓reduceIte, *])) | refine DS.drawL (id := 4) [1, 2, 3, 0, 4, 5, 6, 7, 8] 9 (by kernel_rfl) zct (by simp only [zay, zbc, zbd, zbe, zax]; exact rfl) (by simp only [zav, zaw, List.drop_nil]; exact rfl) ?_ | (with_reducible first | refine DD.fltS yU yU yU yX10 ?_ | refine DD.nil0 ?_) | (refine DD.bslS yU yX10 yX10 ?_; simp only [go_sem, Nat.zero_add, Nat.reduceAdd]; simp only [zbo, zbw, Nat.reduceEqDiff, ↓reduceIte]) | (refine DD.append (mm := false) yU yX10 yX10 yU (by decide) yX10 (by first | exact .inl rfl | exact .inr ⟨rfl, rfl⟩) yX10 yX11 (by first | exact zar zcu _ | exact zar zdm _ | exact zar Member.len _ | exact zar Sitting.len _ | exact zar Ruling.len _ | (simp only [List.mem_cons, List.not_mem_nil, or_false, forall_eq]; rfl) | simp) ⟨by (try simp only [List.length_map, List.length_cons, List.length_nil, List.length_append, List.length_take, List.length_drop]); omega, by decide⟩ ?_; simp only [zak, zac, zad, Nat.reduceEqDiff, ↓reduceIte, zag, zah, zao, zaf, zae, zal, zai]; simp only [zbo, zbw, Nat.reduceEqDiff, ↓reduceIte]) | fail)
      have h := H.out
      rw [H2.out.1, if_pos (by omega), hi1] at h
      refine DS.back (hB (n, zaj x1, l1.take i1 ++ l1.drop (i1 + 1)) _ _ (by simp; omega) ⟨by simp; omega, by simp; omega, by rw [h]; rfl⟩ yS yS (fun b o e => by exact e))
    · exfalso; omega
end Go.XL
namespace Go.XL
open Go.Proofs
set_option maxRecDepth 100000
set_option maxHeartbeats 8000000
theorem ztq (n : Int) (out : List Int) : ∀ a, zmq n out a ≤ a
  | 0 => Nat.le_refl _
  | a + 1 => by
    have := ztq n out a
    simp only [zmq]; split <;> omega
theorem rising_pc (l : List Int) (hl : l.length ≤ 1000000) : PC Try.prog 30 [ints l] (.own false 3 1 ((zis l).map cI)) := by
  refine DC.of_run Try.func30 rfl Try.ntmps30 Try.results30 (by simp) (fun _ => ?_); simp only [zan, zas, go_sem, Nat.zero_add, Nat.reduceAdd]
  repeat' (first | (with_reducible first | (refine DS.nilOwn (t := 2) yU (by first | exact .inl rfl | exact .inr rfl) yE ?_) | (refine DS.nilOwn (t := 3) yU (by first | exact .inl rfl | exact .inr rfl) yE ?_) | refine DS.fltS yU yU yE ?_ | refine DS.opsNil ?_ | refine DS.seq ?_ | refine DS.regionL ?_ | refine DS.block ?_) | fail)
  refine DS.loopK [0] (by (simp only [go_sem, Nat.reduceEqDiff, ↓reduceIte]; exact rfl)) (fun (y : Nat × List Int) => [(3, .own false 3 1 (y.2.map cI)), (4, I y.1)]) (fun (y : Nat × List Int) => y.1 ≤ l.length ∧ y.2.length = y.1 ∧ zis l = (l.drop y.1).foldl insS y.2) (fun (y : Nat × List Int) => l.length - y.1) (0, []) yS (by simp [zis]) (fun y B hI hB => ?_); try dsimp only at hI hB; simp only [zap, zau]
  obtain ⟨i, out⟩ := y
  dsimp only at hI hB
  obtain ⟨g1, g2, g3⟩ := hI
  have H := Box.mk g3
  clear g3
  repeat' (first | (with_reducible refine DS.mv (t := 2) yU (by first | exact .inl rfl | exact .inr rfl) yE ?_; simp only [zak, zac, zad, Nat.reduceEqDiff, ↓reduceIte, zag, zah, zao, zaf, zae, zal, zai]) | (with_reducible refine DS.mv (t := 45) yU (by first | exact .inl rfl | exact .inr rfl) yE ?_; simp only [zak, zac, zad, Nat.reduceEqDiff, ↓reduceIte, zag, zah, zao, zaf, zae, zal, zai]) | (with_reducible first | refine DS.fltS yU yU yE ?_ | refine DS.opsNil ?_ | refine DS.seq ?_ | refine DS.regionL ?_ | (refine DS.cE yE ?_; refine CG.p (fun _ => ?_) (fun _ => ?_)) | refine DS.block ?_ | refine DS.exit yU ?_ | refine DS.skip ?_) | refine DS.retT [] yE trivial ?_ | fail)
  · rename_i e1
    have hi : i < l.length := by omega
    have hto : List.take i out = out := by rw [← g2]; exact List.take_length
    have hB0 := hB
    clear hB
    refine DS.loopK [0, 3, 4] (by (simp only [go_sem, Nat.reduceEqDiff, ↓reduceIte]; exact rfl)) (fun (a : Nat) => [(5, I a)]) (fun (a : Nat) => a ≤ out.length ∧ zmq l[i] out out.length = zmq l[i] out a) (fun (a : Nat) => a) out.length yS ⟨Nat.le_refl _, rfl⟩ (fun a B hI hB => ?_); try dsimp only at hI hB; simp only [zap, zau]
    obtain ⟨a1, a2⟩ := hI
    have H2 := Box.mk a2
    clear a2
    have hend : zmq l[i] out out.length = a → ∀ E' : VEnv, subV [(3, .own false 3 1 (List.map cI (List.take a out) ++ [[V.v (Value.int IntKind.i64 l[i])]] ++ List.map cI (List.drop a out))), (4, I ((i : Int) + 1))] E' → subV [(3, .own false 3 1 ((insS out l[i]).map cI)), (4, I ((i + 1 : Nat) : Int))] E' := fun h E' hE => by
      have h1 : (insS out l[i]).map cI = List.map cI (List.take a out) ++ [[V.v (Value.int IntKind.i64 l[i])]] ++ List.map cI (List.drop a out) := by
        rw [insS, h, List.map_append, List.map_cons, List.append_assoc]; rfl
      rw [h1]
      exact hE
    have hil : (insS out l[i]).length = i + 1 := by
      rw [insS, List.length_append, List.length_cons, List.length_take, List.length_drop]
      have := ztq l[i] out out.length
      omega
    have hir : zis l = (l.drop (i + 1)).foldl insS (insS out l[i]) := by rw [H.out, List.drop_eq_getElem_cons hi, List.foldl_cons]
    have H3 := Box.mk (And.intro hend (And.intro hil hir))
    clear hend hil hir
    repeat' (first | (with_reducible refine DS.mv (t := 3) yU (by first | exact .inl rfl | exact .inr rfl) yX10 ?_; simp only [zak, zac, zad, Nat.reduceEqDiff, ↓reduceIte, zag, zah, zao, zaf, zae, zal, zai]) | (with_reducible first | refine DS.fltS yU yU yX10 ?_ | refine DS.opsNil ?_ | refine DS.seq ?_ | refine DS.regionL ?_) | (with_reducible refine DS.cE yX10 ?_; first | with_reducible refine CG.p (fun _ => ?_) (fun _ => ?_) | with_reducible refine CG.no ?_) | (with_reducible refine DS.gE yU yX10 ?_; first | with_reducible refine GG.run ?_ | with_reducible refine GG.sF ?_) | (with_reducible first | refine DS.blk ?_ | refine DS.block ?_ | refine DS.exit yU ?_ | refine DS.skip ?_) | (refine DS.append (mm := false) yU yX10 yX10 yU (by decide) yX10 (by first | exact .inl rfl | exact .inr ⟨rfl, rfl⟩) yX10 yX11 (by first | exact zar zcu _ | exact zar zdm _ | exact zar Member.len _ | exact zar Sitting.len _ | exact zar Ruling.len _ | (simp only [List.mem_cons, List.not_mem_nil, or_false, forall_eq]; rfl) | simp) ⟨by (try simp only [List.length_map, List.length_cons, List.length_nil, List.length_append, List.length_take, List.length_drop]); omega, by decide⟩ ?_; simp only [zak, zac, zad, Nat.reduceEqDiff, ↓reduceIte, zag, zah, zao, zaf, zae, zal, zai]) | refine DS.drawL (id := 6) [0, 1, 2, 3, 4, 5, 6, 7, 8, 9, 10, 11] 12 (by kernel_rfl) zct (by simp only [zay, zbc, zbd, zbe, zax]; exact rfl) (by simp only [zav, zaw, List.drop_nil]; exact rfl) ?_ | refine DS.drawL (id := 8) [1, 2, 3, 0, 4, 5, 6, 7, 8, 9, 10, 11, 12, 13] 14 (by kernel_rfl) zct (by simp only [zay, zbc, zbd, zbe, zax]; exact rfl) (by simp only [zav, zaw, List.drop_nil]; exact rfl) ?_ | with_reducible refine DD.fltS yU yU yU yX10 ?_ | (with_reducible refine DD.gE yU yX10 ?_; first | with_reducible refine DGG.pT (fun _ => ?_) (fun _ => ?_) | with_reducible refine DGG.run ?_ | with_reducible refine DGG.sF ?_) | with_reducible refine DD.nil0 ?_ | (refine DD.bslS yU yX10 yX10 ?_; simp only [go_sem, Nat.zero_add, Nat.reduceAdd]; simp only [zbo, zbw, Nat.reduceEqDiff, ↓reduceIte]) | (refine DD.append (mm := false) yU yX10 yX10 yU (by decide) yX10 (by first | exact .inl rfl | exact .inr ⟨rfl, rfl⟩) yX10 yX11 (by first | exact zar zcu _ | exact zar zdm _ | exact zar Member.len _ | exact zar Sitting.len _ | exact zar Ruling.len _ | (simp only [List.mem_cons, List.not_mem_nil, or_false, forall_eq]; rfl) | simp) ⟨by (try simp only [List.length_map, List.length_cons, List.length_nil, List.length_append, List.length_take, List.length_drop]); omega, by decide⟩ ?_; simp only [zak, zac, zad, Nat.reduceEqDiff, ↓reduceIte, zag, zah, zao, zaf, zae, zal, zai]; simp only [zbo, zbw, Nat.reduceEqDiff, ↓reduceIte]) | fail)
    · rename_i e2 e3
      obtain ⟨a', rfl⟩ : ∃ a', a = a' + 1 := ⟨a - 1, by omega⟩
      refine DS.back (hB a' _ _ (by omega) ⟨by omega, by rw [H2.out, zmq, if_pos (by rw [List.getD_eq_getElem?_getD, List.getElem?_eq_getElem (by omega)]; simpa using e3)]⟩ ⟨?_, trivial⟩ yS (fun b o e => by exact e))
      have e9 : ((a' : Int) + 1 - 1) = a' := by omega
      simp only [zcl, if_true, Int.natCast_add, Int.natCast_one, e9]
    · rename_i e2 e3
      obtain ⟨a', rfl⟩ : ∃ a', a = a' + 1 := ⟨a - 1, by omega⟩
      have h : zmq l[i] out out.length = a' + 1 := by rw [H2.out, zmq, if_neg (by rw [List.getD_eq_getElem?_getD, List.getElem?_eq_getElem (by omega)]; simpa using e3)]
      refine DS.back (hB0 (i + 1, insS out l[i]) _ _ (by dsimp only; omega) ⟨by dsimp only; omega, H3.out.2.1, H3.out.2.2⟩ (H3.out.1 h _ yS) yS (fun b o e => by exact e))
    · rename_i e2
      have : a = 0 := by omega
      subst this
      have h : zmq l[i] out out.length = 0 := by rw [H2.out]; rfl
      refine DS.back (hB0 (i + 1, insS out l[i]) _ _ (by dsimp only; omega) ⟨by dsimp only; omega, H3.out.2.1, H3.out.2.2⟩ (H3.out.1 h _ yS) yS (fun b o e => by exact e))
  · have h := H.out
    rw [List.drop_eq_nil_of_le (by omega)] at h
    rw [h]; rfl
end Go.XL
namespace Go.XL
open Go.Proofs
set_option maxRecDepth 100000
set_option maxHeartbeats 8000000
theorem zsj (start : Int) : ∀ (n : Nat) (x : Int) (acc : List Int), (zoj start n x acc).1.length = acc.length + n
  | 0, x, acc => rfl
  | n + 1, x, acc => by rw [zoj, zsj]; simp; omega
theorem zoi (size start x : Int) (h : 1 ≤ size) : ((zeu size start x).1.length : Int) = size := by
  simp only [zeu, List.length_cons, zsj, List.length_nil]; omega
def evC (sz : Nat) (acc : List Int) : List V := I 0 :: (acc.map fun a => I a) ++ List.replicate (sz - 1 - acc.length) (I 0)
theorem zte {sz : Nat} {acc : List Int} (h : acc.length + 1 ≤ sz) : (evC sz acc).length = sz := by simp [evC]; omega
theorem zwj {sz : Nat} {acc : List Int} (h : acc.length + 1 < sz) (a : Int) : (evC sz acc).set (acc.length + 1) (I a) = evC sz (acc ++ [a]) := by
  apply List.ext_getElem?
  intro i
  obtain ⟨m, hm⟩ : ∃ m, sz - 1 - acc.length = m + 1 := ⟨sz - 1 - acc.length - 1, by omega⟩
  have hm2 : sz - 1 - (acc ++ [a]).length = m := by simp; omega
  have e1 : evC sz acc = (I 0 :: acc.map fun a => I a) ++ I 0 :: List.replicate m (I 0) := by rw [evC, hm, List.replicate_succ]
  have e2 : evC sz (acc ++ [a]) = (I 0 :: acc.map fun a => I a) ++ I a :: List.replicate m (I 0) := by rw [evC, hm2]; simp
  have hl : (I 0 :: acc.map fun a => I a).length = acc.length + 1 := by simp
  rw [e1, e2, List.set_append_right _ _ (by omega), hl, Nat.sub_self, List.set_cons_zero]
theorem evC_get {sz : Nat} {acc : List Int} (h : acc.length + 1 < sz) (a : Int) : (evC sz (acc ++ [a]))[acc.length + 1]? = some (I a) := by
  rw [← zwj h, List.getElem?_set_self (by have := zte (sz := sz) (acc := acc) (by omega); omega)]
theorem zwi (bs : Nat) (x : Int) (sz : Nat) (start : Int) (hs : 3 ≤ sz ∧ sz ≤ 4) (h0 : 0 ≤ start ∧ start ≤ 1000000) : SC Try.prog 84 [ptr bs, I sz, I start] bs x (ints (zeu sz start x).1) (zeu sz start x).2 := by
  obtain ⟨hs1, hs2⟩ := hs
  obtain ⟨h01, h02⟩ := h0
  have hmul : 0 ≤ (sz : Int) * start ∧ (sz : Int) * start ≤ 4000000 := by
    rcases (show sz = 3 ∨ sz = 4 by omega) with rfl | rfl <;> omega
  obtain ⟨hm1, hm2⟩ := hmul
  unfold SC
  refine DC.of_run Try.func84 rfl Try.ntmps84 Try.results84 (by simp) (fun _ => ?_); simp only [zan, zas, go_sem, Nat.zero_add, Nat.reduceAdd]
  repeat' (first | (with_reducible first | refine DS.fltS yU yU yE ?_ | refine DS.opsNil ?_ | refine DS.seq ?_ | refine DS.regionL ?_ | refine DS.block ?_) | (refine DS.mkS yU yE yE yE yE yU yU ⟨by omega, by omega, by decide, by omega⟩ (fun _ hfr => ?_)) | fail)
  rename_i b
  have nb : ¬ bs = b := fun e => by rw [zaa, if_pos e] at hfr; cases hfr
  have nb' : ¬ b = bs := fun e => nb e.symm
  clear hfr
  have hz : (zdo (Value.int IntKind.i64 0) ((sz : Int)).toNat) = evC sz [] := by
    rw [Int.toNat_natCast, zerosV_int]
    obtain ⟨m, rfl⟩ : ∃ m, sz = m + 1 := ⟨sz - 1, by omega⟩
    rfl
  rw [hz]
  clear hz
  refine DS.loopS [0, 1, 2, 7] (by (simp only [go_sem, Nat.reduceEqDiff, ↓reduceIte]; exact rfl)) (fun (y : Int × List Int × Int × Nat) => [(8, I y.2.2.1), (9, I y.2.2.2)]) (fun (y : Int × List Int × Int × Nat) => [(b, .cells (evC sz y.2.1) 3), (bs, srcO y.1)]) (fun (y : Int × List Int × Int × Nat) => y.2.2.2 = y.2.1.length + 1 ∧ y.2.2.2 ≤ sz ∧ y.2.2.1 = (sz : Int) * start - y.2.1.sum ∧ zoj start (sz - 1) x [] = zoj start (sz - y.2.2.2) y.1 y.2.1 ∧ -(y.2.2.2 : Int) * 2000000 ≤ y.2.1.sum ∧ y.2.1.sum ≤ (y.2.2.2 : Int) * 2000000) (fun (y : Int × List Int × Int × Nat) => sz - y.2.2.2) (x, [], sz * start, 1) yS (fun b o e => by exact e) ⟨rfl, by dsimp only; omega, by simp, rfl, by simp, by simp⟩ (fun y B hI hB => ?_); try dsimp only at hI hB; simp only [zap, zau]
  obtain ⟨x1, acc, rest, k⟩ := y
  dsimp only at hI hB
  obtain ⟨g1, g2, g3, g4, g5, g6⟩ := hI
  have g7 : -8000000 ≤ rest ∧ rest ≤ 12000000 := by omega
  obtain ⟨g7, g8⟩ := g7
  have H := Box.mk (And.intro g1 (And.intro g3 g4))
  obtain ⟨b1, b2, -⟩ := zcn x1 7
  have b3 := b2 (by omega)
  clear b2
  have hlen := zte (sz := sz) (acc := acc) (by omega)
  have hgen : ∀ a, k < sz → (evC sz acc).set k (I a) = evC sz (acc ++ [a]) := fun a h => by rw [g1]; exact zwj (by omega) a
  have hge2 : k < sz → (evC sz (acc ++ [start + (zam x1 7 - 3) * 10]))[k]? = some (I (start + (zam x1 7 - 3) * 10)) := fun h => by rw [g1]; exact evC_get (by omega) _
  have hgl : k < sz → (evC sz (acc ++ [start + (zam x1 7 - 3) * 10])).length = sz := fun h => zte (by simp; omega)
  have H2 := Box.mk (And.intro hgen (And.intro hge2 hgl))
  clear hgen hge2 hgl g1 g3 g4
  repeat' (first | (with_reducible first | refine DS.fltS yU yU yE ?_ | refine DS.opsNil ?_ | refine DS.seq ?_ | refine DS.regionL ?_ | (refine DS.cE yE ?_; refine CG.p (fun _ => ?_) (fun _ => ?_)) | refine DS.block ?_ | refine DS.exit yU ?_ | refine DS.skip ?_) | (refine DS.scS inferInstance (zcz bs x1 7 (by omega)) yR yT yT ?_; (try simp only [zbj, zbv, ↓reduceIte, *])) | (refine DS.store yR yE yE yE yE yU (by exact ⟨by with_unfolding_all rfl, by (try simp only [List.length_map, List.length_append, List.length_set, List.length_replicate, List.length_cons, List.length_nil]); omega⟩) ?_; simp only [zbm, zaq, zat, zbz, zbn, zbl, zbh]; try simp only [zak, zac, zad, Nat.reduceEqDiff, ↓reduceIte, zag, zah, zao, zaf, zae, zal, zai]) | fail)
  · rename_i e1
    have hk : k < sz := by omega
    have h2 := H2.out.2.1 hk
    have h3 := H2.out.2.2 hk
    refine DS.reS (S' := [(b, .cells (evC sz (acc ++ [start + (zam x1 7 - 3) * 10])) 3), (bs, srcO (zaj x1))]) (fun b' o e => ?_) ?_
    · rw [← H2.out.1 _ hk] at e
      simp only [setS, zab, nb, nb', ↓reduceIte] at e ⊢
      by_cases h4 : b = b'
      · subst h4
        simp only [nb, ↓reduceIte] at e ⊢; exact e
      · simp only [h4, ↓reduceIte] at e ⊢; exact e
    repeat' (first | (with_reducible first | refine DS.fltS yU yU yE ?_ | refine DS.opsNil ?_ | refine DS.regionL ?_ | refine DS.blk ?_) | fail)
    obtain ⟨q1, q3, q4⟩ := H.out
    refine DS.back (hB (zaj x1, acc ++ [start + (zam x1 7 - 3) * 10], rest - (start + (zam x1 7 - 3) * 10), k + 1) _ _ (by dsimp only; omega) ⟨by simp; omega, by dsimp only; omega, by simp [q3]; omega, ?_, by simp; omega, by simp; omega⟩ yS yS (fun b o e => by exact e))
    obtain ⟨m, hm⟩ : ∃ m, sz - k = m + 1 := ⟨sz - k - 1, by omega⟩
    dsimp only
    rw [q4, hm, zoj, show sz - (k + 1) = m by omega]
  · rename_i e1
    obtain ⟨q1, q3, q4⟩ := H.out
    have hk : k = sz := by omega
    have hcells : (evC sz acc).set 0 (I rest) = (rest :: acc).map fun a => I a := by
      rw [evC, show sz - 1 - acc.length = 0 by omega]; simp
    refine DS.reS (S' := [(b, .cells ((rest :: acc).map fun a => I a) 3), (bs, srcO x1)]) (fun b' o e => ?_) ?_
    · rw [← hcells] at e
      simp only [setS, ↓reduceIte] at e ⊢
      exact e
    refine DS.freeze (t := 6) (b := b) (sz := 1) (l := (rest :: acc).map fun a => I a) (T := 3) yR (by simp only [zaa, ↓reduceIte]) (by simp; omega) ⟨Nat.le_refl _, by simp only [maxLen]; omega⟩ ?_
    simp only [zbj, zbv, nb, ↓reduceIte]
    refine DS.retA yG ⟨?_, ?_⟩
    · have h := zoo (rest :: acc) sz [] (by simp; omega)
      rw [List.append_nil] at h
      rw [zec, List.map_map, show (V.copy ∘ fun a => I a) = (fun x => I x) from rfl]
      rw [List.take_of_length_le (by simp; omega)] at h
      refine (congrArg V.lst h).trans ?_
      simp only [zeu, Int.toNat_natCast, q4, hk, Nat.sub_self, zoj]
      rw [q3]
    · simp only [zeu, Int.toNat_natCast, q4, hk, Nat.sub_self, zoj]
end Go.XL
namespace Go.XL
open Go.Proofs
set_option maxRecDepth 100000
set_option maxHeartbeats 8000000
theorem ztn (size : Int) : ∀ (n : Nat) (x : Int) (t rest : List Int), (t.length : Int) ≤ size → size ≤ (t.length : Int) + n → ((tabG size n x t rest).1.length : Int) = size
  | 0, x, t, rest, h1, h2 => by
    show (t.length : Int) = size
    omega
  | n + 1, x, t, rest, h1, h2 => by
    simp only [tabG]
    split
    · exact ztn size n _ _ _ (by simp; omega) (by simp; omega)
    · show (t.length : Int) = size
      omega
theorem tabG_stop (size : Int) : ∀ (n : Nat) (x : Int) (t rest : List Int), ¬ (t.length : Int) < size → tabG size n x t rest = (t, rest, x)
  | 0, x, t, rest, h => rfl
  | n + 1, x, t, rest, h => by rw [tabG, if_neg h]
theorem yX13 {p : Prop} (h : p := by (simp (disch := omega) only [go_sem, dopV, Option.map_some, Option.map_none, Option.bind_some, Option.bind_none, ↓reduceIte, Nat.reduceEqDiff, Nat.reduceLT, Nat.reduceLeDiff, Nat.reduceAdd, Nat.reduceMul, Nat.reduceSub, Nat.zero_add, Nat.add_zero, Nat.zero_le, Nat.zero_mul, Nat.mul_one, Nat.one_mul, Int.natCast_zero, Int.toNat_zero, Int.reduceToNat, Int.reduceLT, Int.reduceLE, Int.reduceEq, decide_true, decide_false, true_and, and_true, Bool.and_self, Bool.and_true, Bool.true_and, Bool.not_true, Bool.not_false, IntWalk.toNatUp, IntWalk.iteOmega, IntWalk.i64_in, Option.isSome_some, not_true_eq_false, not_false_eq_true, Option.getD_some, Option.getD_none, Int.toNat_natCast, List.length_map, List.getElem?_map, List.getElem?_eq_getElem, V.flat, V.one, List.all_cons, List.all_nil, *, List.forall_mem_cons, List.forall_mem_map, implies_true, zed, zcu, zfy, zks, List.take_length, List.length_singleton, and_self]; exact rfl)) : p := h
theorem zng (bs : Nat) (x : Int) (l : List Int) (size : Int) (hs : 3 ≤ size ∧ size ≤ 4) (hl : l.length ≤ 1000000) : SC Try.prog 36 [ptr bs, ints l, I size] bs x (.own false 22 1 ((zda size x l).1.map cR)) (zda size x l).2 := by
  unfold SC
  obtain ⟨hs1, hs2⟩ := hs
  refine DC.of_run Try.func36 rfl Try.ntmps36 Try.results36 (by simp) (fun _ => ?_); simp only [zan, zas, go_sem, Nat.zero_add, Nat.reduceAdd]
  repeat' (first | (with_reducible first | (refine DS.nilOwn (t := 6) yU (by first | exact .inl rfl | exact .inr rfl) yE ?_) | (refine DS.nilOwn (t := 8) yU (by first | exact .inl rfl | exact .inr rfl) yE ?_) | refine DS.fltS yU yU yE ?_ | refine DS.opsNil ?_ | refine DS.seq ?_ | refine DS.regionL ?_ | refine DS.block ?_) | (refine DS.bsl yU yE yE ?_; simp only [go_sem, Nat.zero_add, Nat.reduceAdd]) | (refine DS.append (mm := false) yU yE yE yU (by decide) yE (by first | exact .inl rfl | exact .inr ⟨rfl, rfl⟩) yE yX0 (by first | exact zar zcu _ | exact zar zdm _ | exact zar Member.len _ | exact zar Sitting.len _ | exact zar Ruling.len _ | (simp only [List.mem_cons, List.not_mem_nil, or_false, forall_eq]; rfl) | simp) ⟨by (try simp only [List.length_map, List.length_cons, List.length_nil, List.length_append, List.length_take, List.length_drop]); omega, by decide⟩ ?_; simp only [zak, zac, zad, Nat.reduceEqDiff, ↓reduceIte, zag, zah, zao, zaf, zae, zal, zai]) | fail)
  refine DS.loopS [0, 2] (by (simp only [go_sem, Nat.reduceEqDiff, ↓reduceIte]; exact rfl)) (fun (y : Nat × Int × List Int × List (List Int)) => [(7, ints y.2.2.1), (8, .own false 22 1 (y.2.2.2.map cR))]) (fun (y : Nat × Int × List Int × List (List Int)) => [(bs, srcO y.2.1)]) (fun (y : Nat × Int × List Int × List (List Int)) => y.2.2.1.length < y.1 ∧ y.2.2.1.length + y.2.2.2.length ≤ l.length ∧ zda size x l = zlx size y.1 y.2.1 y.2.2.1 y.2.2.2) (fun (y : Nat × Int × List Int × List (List Int)) => y.2.2.1.length) (l.length + 1, x, l, []) yS (fun b o e => by exact e) ⟨Nat.lt_succ_self _, Nat.le_refl _, rfl⟩ (fun y B hI hB => ?_); try dsimp only at hI hB; simp only [zap, zau]
  obtain ⟨n, x1, rest, out⟩ := y
  dsimp only at hI hB
  obtain ⟨g1, g2, g3⟩ := hI
  have H := Box.mk g3
  clear g3
  obtain ⟨n, rfl⟩ : ∃ n', n = n' + 1 := ⟨n - 1, by omega⟩
  have hB0 := hB
  clear hB
  by_cases h0 : size ≤ (rest.length : Int)
  · obtain ⟨a, r, rfl⟩ : ∃ a r, rest = a :: r := by
      cases rest with
      | nil => simp at h0; omega
      | cons a r => exact ⟨a, r, rfl⟩
    have h0 : size ≤ ((r.length : Int) + 1) := by simpa using h0
    have g1 : r.length + 1 < n + 1 := by simpa using g1
    have g2 : r.length + 1 + out.length ≤ l.length := by simpa using g2
    repeat' (first | (with_reducible refine DS.mv (t := 6) yU (by first | exact .inl rfl | exact .inr rfl) yX13 ?_; simp only [zak, zac, zad, Nat.reduceEqDiff, ↓reduceIte, zag, zah, zao, zaf, zae, zal, zai]) | (with_reducible refine DS.mv (t := 9) yU (by first | exact .inl rfl | exact .inr rfl) yX13 ?_; simp only [zak, zac, zad, Nat.reduceEqDiff, ↓reduceIte, zag, zah, zao, zaf, zae, zal, zai]) | (with_reducible refine DS.mv (t := 54) yU (by first | exact .inl rfl | exact .inr rfl) yX13 ?_; simp only [zak, zac, zad, Nat.reduceEqDiff, ↓reduceIte, zag, zah, zao, zaf, zae, zal, zai]) | (with_reducible first | refine DS.fltS yU yU yX13 ?_ | refine DS.opsNil ?_ | refine DS.seq ?_ | refine DS.regionL ?_) | (with_reducible refine DS.cE yX13 ?_; with_reducible refine CG.p (fun _ => ?_) (fun _ => ?_)) | (with_reducible first | refine DS.block ?_ | refine DS.exit yU ?_ | refine DS.skip ?_) | (refine DS.bsl yU yX13 yX13 ?_; simp only [go_sem, Nat.zero_add, Nat.reduceAdd]) | fail)
    all_goals first | (exfalso; omega) | skip
    refine DS.loopS [0, 2, 8] (by (simp only [go_sem, Nat.reduceEqDiff, ↓reduceIte]; exact rfl)) (fun (z : Nat × Int × List Int × List Int) => [(7, ints z.2.2.2), (9, .own false 3 1 (z.2.2.1.map cI))]) (fun (z : Nat × Int × List Int × List Int) => [(bs, srcO z.2.1)]) (fun (z : Nat × Int × List Int × List Int) => (z.2.2.1.length : Int) ≤ size ∧ size ≤ (z.2.2.1.length : Int) + z.1 ∧ size ≤ (z.2.2.1.length : Int) + z.2.2.2.length ∧ z.2.2.1.length + z.2.2.2.length = r.length + 1 ∧ tabG size size.toNat x1 [a] r = tabG size z.1 z.2.1 z.2.2.1 z.2.2.2) (fun (z : Nat × Int × List Int × List Int) => z.2.2.2.length) (size.toNat, x1, [a], r) yS (fun b o e => by exact e) ⟨by simp; omega, by simp; omega, by simp; omega, by simp; omega, rfl⟩ (fun z B hI hB => ?_); try dsimp only at hI hB; simp only [zap, zau]
    obtain ⟨m, x2, t, rest⟩ := z
    dsimp only at hI hB
    obtain ⟨k1, k2, k3, k4, k5⟩ := hI
    have K := Box.mk k5
    clear k5
    by_cases ht : (t.length : Int) < size
    · obtain ⟨b1, b2, -⟩ := zcn x2 rest.length
      have b3 := b2 (by omega)
      obtain ⟨i, hi⟩ : ∃ i : Nat, zam x2 rest.length = i := ⟨(zam x2 rest.length).toNat, by omega⟩
      have hbl := zcz bs x2 rest.length (by omega)
      have hdi := hi
      rw [hi] at b3 hbl
      have K2 := Box.mk hi
      clear hi b1 b2 hdi
      have hir : i < rest.length := by omega
      repeat' (first | (with_reducible refine DS.mv (t := 9) yU (by first | exact .inl rfl | exact .inr rfl) yX10 ?_; simp only [zak, zac, zad, Nat.reduceEqDiff, ↓reduceIte, zag, zah, zao, zaf, zae, zal, zai]) | (with_reducible refine DS.mv (t := 32) yU (by first | exact .inl rfl | exact .inr rfl) yX10 ?_; simp only [zak, zac, zad, Nat.reduceEqDiff, ↓reduceIte, zag, zah, zao, zaf, zae, zal, zai]) | (with_reducible first | refine DS.fltS yU yU yX10 ?_ | refine DS.opsNil ?_ | refine DS.seq ?_ | refine DS.regionL ?_) | (with_reducible refine DS.cE yX10 ?_; with_reducible refine CG.yes ?_) | (with_reducible first | refine DS.blk ?_ | refine DS.block ?_ | refine DS.skip ?_) | (refine DS.bsl yU yX10 yX10 ?_; simp only [go_sem, Nat.zero_add, Nat.reduceAdd]) | (refine DS.append (mm := false) yU yX10 yX10 yU (by decide) yX10 (by first | exact .inl rfl | exact .inr ⟨rfl, rfl⟩) yX10 yX11 (by first | exact zar zcu _ | exact zar zdm _ | exact zar Member.len _ | exact zar Sitting.len _ | exact zar Ruling.len _ | (simp only [List.mem_cons, List.not_mem_nil, or_false, forall_eq]; rfl) | simp) ⟨by (try simp only [List.length_map, List.length_cons, List.length_nil, List.length_append, List.length_take, List.length_drop]); omega, by decide⟩ ?_; simp only [zak, zac, zad, Nat.reduceEqDiff, ↓reduceIte, zag, zah, zao, zaf, zae, zal, zai]) | (refine DS.scS inferInstance (hbl) yR yX12 yX12 ?_; (try simp only [zbj, zbv, ↓reduceIte, *])) | refine DS.drawL (id := 9) [1, 2, 3, 0, 4, 5, 6, 7, 8] 9 (by kernel_rfl) zct (by simp only [zay, zbc, zbd, zbe, zax]; exact rfl) (by simp only [zav, zaw, List.drop_nil]; exact rfl) ?_ | (with_reducible first | refine DD.fltS yU yU yU yX10 ?_ | refine DD.nil0 ?_) | (refine DD.bslS yU yX10 yX10 ?_; simp only [go_sem, Nat.zero_add, Nat.reduceAdd]; simp only [zbo, zbw, Nat.reduceEqDiff, ↓reduceIte]) | (refine DD.append (mm := false) yU yX10 yX10 yU (by decide) yX10 (by first | exact .inl rfl | exact .inr ⟨rfl, rfl⟩) yX10 yX11 (by first | exact zar zcu _ | exact zar zdm _ | exact zar Member.len _ | exact zar Sitting.len _ | exact zar Ruling.len _ | (simp only [List.mem_cons, List.not_mem_nil, or_false, forall_eq]; rfl) | simp) ⟨by (try simp only [List.length_map, List.length_cons, List.length_nil, List.length_append, List.length_take, List.length_drop]); omega, by decide⟩ ?_; simp only [zak, zac, zad, Nat.reduceEqDiff, ↓reduceIte, zag, zah, zao, zaf, zae, zal, zai]; simp only [zbo, zbw, Nat.reduceEqDiff, ↓reduceIte]) | fail)
      all_goals first | (exfalso; omega) | skip
      obtain ⟨m, rfl⟩ : ∃ m', m = m' + 1 := ⟨m - 1, by omega⟩
      have hk := K.out
      rw [tabG, if_pos ht, K2.out, Int.toNat_natCast, List.getD_eq_getElem?_getD, List.getElem?_eq_getElem hir, Option.getD_some] at hk
      refine DS.back (hB (m, zaj x2, t ++ [rest[i]], rest.take i ++ rest.drop (i + 1)) _ _ (by simp; omega) ⟨by simp; omega, by simp; omega, by simp; omega, by simp; omega, hk⟩ yS yS (fun b o e => by exact e))
    · repeat' (first | (with_reducible refine DS.mv (t := 8) yU (by first | exact .inl rfl | exact .inr rfl) yX10 ?_; simp only [zak, zac, zad, Nat.reduceEqDiff, ↓reduceIte, zag, zah, zao, zaf, zae, zal, zai]) | (with_reducible refine DS.mv (t := 49) yU (by first | exact .inl rfl | exact .inr rfl) yX10 ?_; simp only [zak, zac, zad, Nat.reduceEqDiff, ↓reduceIte, zag, zah, zao, zaf, zae, zal, zai]) | (with_reducible first | refine DS.fltS yU yU yX10 ?_ | refine DS.opsNil ?_ | refine DS.seq ?_ | refine DS.regionL ?_) | (with_reducible refine DS.cE yX10 ?_; with_reducible refine CG.no ?_) | (with_reducible first | refine DS.blk ?_ | refine DS.exit yU ?_) | (refine DS.bsl yU yX10 yX10 ?_; simp only [go_sem, Nat.zero_add, Nat.reduceAdd]) | (refine DS.append (mm := false) yU yX10 yX10 yU (by decide) yX10 (by first | exact .inl rfl | exact .inr ⟨rfl, rfl⟩) yX10 yX11 (by first | exact zar zcu _ | exact zar zdm _ | exact zar Member.len _ | exact zar Sitting.len _ | exact zar Ruling.len _ | (simp only [List.mem_cons, List.not_mem_nil, or_false, forall_eq]; rfl) | simp) ⟨by (try simp only [List.length_map, List.length_cons, List.length_nil, List.length_append, List.length_take, List.length_drop]); omega, by decide⟩ ?_; simp only [zak, zac, zad, Nat.reduceEqDiff, ↓reduceIte, zag, zah, zao, zaf, zae, zal, zai]) | refine DS.pcS inferInstance (rising_pc t (by omega)) yR yX12 ?_ | fail)
      all_goals first | (exfalso; omega) | skip
      have hk := K.out
      rw [tabG_stop size m x2 t rest ht] at hk
      have h := H.out
      rw [zlx, if_pos (by simpa using h0), List.headD_cons, List.drop_succ_cons, List.drop_zero, hk] at h
      refine DS.back (hB0 (n, x2, rest, out ++ [zis t]) _ _ (by simp; omega) ⟨by simp; omega, by simp; omega, h⟩ yS yS (fun b o e => by exact e))
  · repeat' (first | (with_reducible refine DS.mv (t := 6) yU (by first | exact .inl rfl | exact .inr rfl) yE ?_; simp only [zak, zac, zad, Nat.reduceEqDiff, ↓reduceIte, zag, zah, zao, zaf, zae, zal, zai]) | (with_reducible refine DS.mv (t := 54) yU (by first | exact .inl rfl | exact .inr rfl) yE ?_; simp only [zak, zac, zad, Nat.reduceEqDiff, ↓reduceIte, zag, zah, zao, zaf, zae, zal, zai]) | (with_reducible first | refine DS.fltS yU yU yE ?_ | refine DS.opsNil ?_ | refine DS.seq ?_ | refine DS.regionL ?_ | (refine DS.cE yE ?_; refine CG.no ?_) | refine DS.exit yU ?_) | fail)
    all_goals first | (exfalso; omega) | skip
    have h := H.out
    rw [zlx, if_neg h0] at h
    refine DS.retA yG ⟨by rw [h]; rfl, by rw [h]⟩
end Go.XL
namespace Go.XL
def ptsG (size start : Int) : Nat → Int → List (List Int) → List (List Int) × Int
  | 0, x, out => (out, x)
  | n + 1, x, out => if 0 < zam x 5 then ptsG size start n (zeu size start (zaj x)).2 (out ++ [(zeu size start (zaj x)).1]) else ptsG size start n (zaj x) (out ++ [[]])
def zdg (c : Club) (x : Int) : List Int × Int := zcs c.size x (zch c c.rounds.length)
def zba (c : Club) (x : Int) : List (List Int) × Int :=
  if (zdg c x).1.length ≤ 12 then
    (if 0 < zam (zda c.size (zdg c x).2 (zdg c x).1).2 3 ∧ (zjy c (zdg c x).1).2 = 0 then (zjy c (zdg c x).1).1 else (zda c.size (zdg c x).2 (zdg c x).1).1, zaj (zda c.size (zdg c x).2 (zdg c x).1).2)
  else zda c.size (zdg c x).2 (zdg c x).1
def zcp (c : Club) (x : Int) : List (List Int) × Int := ptsG c.size c.start (zba c x).1.length (zba c x).2 []
theorem ztk {budget : Int} {round n : Nat} {rec : List Int → Int → Int × Int × List (Nat × List Int)} (h : ∀ t s, (rec t s).2.2.length ≤ n) : ∀ (l : List (List Int)) (s : Int), (tryL budget round rec l s).2.2.length ≤ n + 1
  | [], s => by simp [tryL]
  | t :: r, s => by
    simp only [tryL]
    split
    · simp
    split
    · exact ztk h r _
    · simp only [List.length_cons]; have := h t (w64 (s + 1)); omega
theorem zqf {size : Nat} {budget : Int} {rounds : List (List Int)} : ∀ (n : Nat) (met : Int → Int → Bool) (round : Nat) (ids : List Int) (s : Int), (srch size budget rounds n met round ids s).2.2.length ≤ n
  | 0, met, round, ids, s => by simp [srch]
  | n + 1, met, round, [], s => by
    rw [srch]
    split
    · simp
    · exact Nat.le_succ_of_le (zqf n met _ _ _)
  | n + 1, met, round, f :: fr, s => by
    rw [srch]
    exact ztk (fun t s => zqf n _ _ _ _) _ _
theorem nextS_len (c : Club) (ids : List Int) : (zjy c ids).1.length ≤ ids.length + 2 := by
  unfold zjy
  repeat' split
  all_goals first | (simp; done) | skip
  simp only [List.length_map, runS]
  have := zqf (size := c.size.toNat) (budget := -1) (rounds := [ids]) (zlk [ids]) (met0 c) 0 ([ids].headD []) 0
  simp [zlk] at this ⊢
  omega
theorem zrb (size : Int) : ∀ (n : Nat) (x : Int) (rest : List Int) (out : List (List Int)), (zlx size n x rest out).1.length ≤ out.length + n
  | 0, x, rest, out => by simp [zlx]
  | n + 1, x, rest, out => by
    simp only [zlx]
    split
    · have := zrb size n (tabG size size.toNat x [rest.headD 0] (rest.drop 1)).2.2 (tabG size size.toNat x [rest.headD 0] (rest.drop 1)).2.1 (out ++ [zis (tabG size size.toNat x [rest.headD 0] (rest.drop 1)).1])
      simp only [List.length_append, List.length_singleton] at this
      omega
    · show out.length ≤ _
      omega
theorem zkt (size x : Int) (l : List Int) : (zda size x l).1.length ≤ l.length + 1 := by
  have := zrb size (l.length + 1) x l []
  simpa [zda] using this
theorem zla (c : Club) (x : Int) : (zba c x).1.length ≤ c.members.length + 2 := by
  have h1 := (zgg c.size x (zch c c.rounds.length)).length_le
  have h2 : (zch c c.rounds.length).length ≤ c.members.length := by
    unfold zch
    repeat' split
    all_goals first | (simp; done) | skip
    rw [zge, List.length_map]
    exact List.length_filter_le _ _
  have h3 := nextS_len c (zdg c x).1
  have h4 := zkt c.size (zdg c x).2 (zdg c x).1
  unfold zdg at *
  unfold zba zdg
  split
  · dsimp only
    split <;> omega
  · omega
end Go.XL
namespace Go.XL
open Go.Proofs
set_option maxRecDepth 100000
set_option maxHeartbeats 8000000
def mzS (rs : List (List Int)) (round k : Nat) : Nat := k + ((rs.drop (round + 1)).map List.length).sum + (rs.length - round)
def GoPost (bx bp : Nat) (c : Club) (rs : List (List Int)) (bs : List Nat) (budget : Int) (met : Int → Int → Bool) (ps : List PRow) (res : Int × Int × List (Nat × List Int)) (u : V) (S' : Sto) : Prop :=
  u = I res.1 ∧ ∃ met' ps', SearchR S' bx bp c rs bs budget res.2.1 met' ps' ∧ ps'.length = ps.length ∧ (res.1 = 2 → met' = met ∧ ∀ (i : Nat) (h : i < ps.length) (h' : i < ps'.length), ps'[i].rows = ps[i].rows) ∧
    (res.1 = 1 → ∀ (i : Nat) (h : i < ps.length) (h' : i < ps'.length), ps'[i].rows = ps[i].rows ++ (res.2.2.filter fun q => decide (q.1 = i)).map Prod.snd)
theorem zrz (ids : List Int) : zfr ids [] = ids := by simp [zfr]
theorem zuc {rs : List (List Int)} {round : Nat} (h : round + 1 < rs.length) : mzS rs (round + 1) rs[round + 1].length + 1 = mzS rs round 0 := by
  simp only [mzS]
  rw [List.drop_eq_getElem_cons h, List.map_cons, List.sum_cons]
  omega
theorem zrp (st : List Int → Int → Bool) : ∀ (n : Nat) (t ids : List Int), ∀ x ∈ zfi st n t ids, x.Sublist ids
  | 0, t, ids, x, h => by simp only [zfi, List.mem_singleton] at h; subst h; exact List.nil_sublist _
  | n + 1, t, ids, x, h => by
    have key : ∀ l : List Int, ∀ x ∈ zer st (zfi st n) t l, x.Sublist l := by
      intro l
      induction l with
      | nil => intro x h; simp [zer] at h
      | cons id r ih =>
        intro x h
        simp only [zer, List.mem_append] at h
        rcases h with h | h
        · split at h
          · obtain ⟨y, hy, rfl⟩ := List.mem_map.1 h
            exact (zrp st n _ _ y hy).cons_cons id
          · simp at h
        · exact (ih x h).cons id
    exact key ids x h
theorem zpl (met : Int → Int → Bool) : ∀ (n : Nat) (t ids : List Int), t.Pairwise (fun a b => met a b = false) → ∀ x ∈ zfi (zcg met) n t ids, (t ++ x).Pairwise fun a b => met a b = false
  | 0, t, ids, ht, x, h => by simp only [zfi, List.mem_singleton] at h; subst h; simpa using ht
  | n + 1, t, ids, ht, x, h => by
    have key : ∀ l : List Int, ∀ x ∈ zer (zcg met) (zfi (zcg met) n) t l, (t ++ x).Pairwise fun a b => met a b = false := by
      intro l
      induction l with
      | nil => intro x h; simp [zer] at h
      | cons id r ih =>
        intro x h
        simp only [zer, List.mem_append] at h
        rcases h with h | h
        · split at h
          · rename_i hst
            obtain ⟨y, hy, rfl⟩ := List.mem_map.1 h
            have := zpl met n (t ++ [id]) r (by
              rw [List.pairwise_append]
              refine ⟨ht, by simp, fun a ha b hb => ?_⟩
              rw [List.mem_singleton.1 hb]
              have := List.all_eq_true.1 hst a ha
              simpa using this) y hy
            rwa [List.append_assoc] at this
          · simp at h
        · exact ih x h
    exact key ids x h
theorem markB_back {met : Int → Int → Bool} {t : List Int} (hp : t.Pairwise fun a b => met a b = false) (hs : ∀ a b, met a b = met b a) : zmb (zmb met t true) t false = met := by
  funext a b
  simp only [zmb]
  by_cases h : a ∈ t ∧ b ∈ t ∧ a ≠ b
  · rw [if_pos h]
    obtain ⟨h1, h2, h3⟩ := h
    obtain ⟨i, hi, rfl⟩ := List.getElem_of_mem h1
    obtain ⟨j, hj, rfl⟩ := List.getElem_of_mem h2
    rcases Nat.lt_trichotomy i j with h4 | h4 | h4
    · exact (List.pairwise_iff_getElem.1 hp i j hi hj h4).symm
    · subst h4; exact absurd rfl h3
    · rw [hs]; exact (List.pairwise_iff_getElem.1 hp j i hj hi h4).symm
  · rw [if_neg h, if_neg h]
theorem markB_sym {met : Int → Int → Bool} {t : List Int} {v : Bool} (hs : ∀ a b, met a b = met b a) (a b : Int) : zmb met t v a b = zmb met t v b a := by
  simp only [zmb, hs a b]
  by_cases h : a ∈ t ∧ b ∈ t ∧ a ≠ b
  · rw [if_pos h, if_pos ⟨h.2.1, h.1, h.2.2.symm⟩]
  · rw [if_neg h, if_neg (fun h' => h ⟨h'.2.1, h'.1, h'.2.2.symm⟩)]
theorem markS_eq (met : Int → Int → Bool) (t : List Int) : zic met t = zmb met t true := rfl
theorem go1_end {S : Sto} {bx bp : Nat} {c : Club} {rs : List (List Int)} {bs : List Nat} {budget steps : Int} {met : Int → Int → Bool} {ps : List PRow} (s : SearchR S bx bp c rs bs budget steps met ps) :
    RC Try.prog 60 [.v (.pointer (some ⟨bx, 0, none⟩)), I rs.length] S (I 1) := by
  have hx := s.obj
  clear s
  refine DC.of_run Try.func60 rfl Try.ntmps60 Try.results60 (by simp) (fun _ => ?_); simp only [zan, zas, go_sem, Nat.zero_add, Nat.reduceAdd]
  repeat' (first | (with_reducible first | refine DS.fltS yU yU yX1 ?_ | refine DS.opsNil ?_ | refine DS.seq ?_ | refine DS.regionL ?_) | (with_reducible refine DS.cE yX1 ?_; with_reducible refine CG.yes ?_) | refine DS.retA yX1 ⟨?_, rfl⟩ | fail)
  rfl
theorem yX14 {p : Prop} (h : p := by (simp (disch := omega) only [go_sem, dopV, Option.map_some, Option.map_none, Option.bind_some, Option.bind_none, ↓reduceIte, Nat.reduceEqDiff, Nat.reduceLT, Nat.reduceLeDiff, Nat.reduceAdd, Nat.reduceMul, Nat.reduceSub, Nat.zero_add, Nat.add_zero, Nat.zero_le, Nat.zero_mul, Nat.mul_one, Nat.one_mul, Int.natCast_zero, Int.toNat_zero, Int.reduceToNat, Int.reduceLT, Int.reduceLE, Int.reduceEq, decide_true, decide_false, true_and, and_true, Bool.and_self, Bool.and_true, Bool.true_and, Bool.not_true, Bool.not_false, IntWalk.toNatUp, IntWalk.iteOmega, IntWalk.i64_in, Option.isSome_some, not_true_eq_false, not_false_eq_true, Option.getD_some, Option.getD_none, Int.toNat_natCast, List.length_map, List.getElem?_map, List.getElem?_eq_getElem, V.flat, V.one, List.all_cons, List.all_nil, *, zpb, List.forall_mem_cons, List.forall_mem_map, implies_true, zed]; exact rfl)) : p := h
theorem yX15 {p : Prop} (h : p := by (simp (disch := omega) only [go_sem, dopV, Option.map_some, Option.map_none, Option.bind_some, Option.bind_none, ↓reduceIte, Nat.reduceEqDiff, Nat.reduceLT, Nat.reduceLeDiff, Nat.reduceAdd, Nat.reduceMul, Nat.reduceSub, Nat.zero_add, Nat.add_zero, Nat.zero_le, Nat.zero_mul, Nat.mul_one, Nat.one_mul, Int.natCast_zero, Int.toNat_zero, Int.reduceToNat, Int.reduceLT, Int.reduceLE, Int.reduceEq, decide_true, decide_false, true_and, and_true, Bool.and_self, Bool.and_true, Bool.true_and, Bool.not_true, Bool.not_false, IntWalk.toNatUp, IntWalk.iteOmega, IntWalk.i64_in, Option.isSome_some, not_true_eq_false, not_false_eq_true, Option.getD_some, Option.getD_none, Int.toNat_natCast, List.length_map, List.getElem?_map, List.getElem?_eq_getElem, V.flat, V.one, List.all_cons, List.all_nil, *, zpb, List.forall_mem_cons, List.forall_mem_map, implies_true, zed]; try exact rfl)) : p := h
theorem yX16 {p : Prop} (h : p := by (simp (disch := omega) only [go_sem, dopV, Option.map_some, Option.map_none, Option.bind_some, Option.bind_none, ↓reduceIte, Nat.reduceEqDiff, Nat.reduceLT, Nat.reduceLeDiff, Nat.reduceAdd, Nat.reduceMul, Nat.reduceSub, Nat.zero_add, Nat.add_zero, Nat.zero_le, Nat.zero_mul, Nat.mul_one, Nat.one_mul, Int.natCast_zero, Int.toNat_zero, Int.reduceToNat, Int.reduceLT, Int.reduceLE, Int.reduceEq, decide_true, decide_false, true_and, and_true, Bool.and_self, Bool.and_true, Bool.true_and, Bool.not_true, Bool.not_false, IntWalk.toNatUp, IntWalk.iteOmega, IntWalk.i64_in, Option.isSome_some, not_true_eq_false, not_false_eq_true, Option.getD_some, Option.getD_none, Int.toNat_natCast, List.length_map, List.getElem?_map, List.getElem?_eq_getElem, V.flat, V.one, List.all_cons, List.all_nil, *, zpb, PRow.cell_copy]; exact rfl)) : p := h
theorem yX17 {p : Prop} (h : p := by (simp (disch := omega) only [go_sem, dopV, Option.map_some, Option.map_none, Option.bind_some, Option.bind_none, ↓reduceIte, Nat.reduceEqDiff, Nat.reduceLT, Nat.reduceLeDiff, Nat.reduceAdd, Nat.reduceMul, Nat.reduceSub, Nat.zero_add, Nat.add_zero, Nat.zero_le, Nat.zero_mul, Nat.mul_one, Nat.one_mul, Int.natCast_zero, Int.toNat_zero, Int.reduceToNat, Int.reduceLT, Int.reduceLE, Int.reduceEq, decide_true, decide_false, true_and, and_true, Bool.and_self, Bool.and_true, Bool.true_and, Bool.not_true, Bool.not_false, IntWalk.toNatUp, IntWalk.iteOmega, IntWalk.i64_in, Option.isSome_some, not_true_eq_false, not_false_eq_true, Option.getD_some, Option.getD_none, Int.toNat_natCast, List.length_map, List.getElem?_map, List.getElem?_eq_getElem, V.flat, V.one, List.all_cons, List.all_nil, *, ints]; try exact rfl)) : p := h
theorem yX18 {p : Prop} (h : p := by (simp (disch := omega) only [go_sem, dopV, Option.map_some, Option.map_none, Option.bind_some, Option.bind_none, ↓reduceIte, Nat.reduceEqDiff, Nat.reduceLT, Nat.reduceLeDiff, Nat.reduceAdd, Nat.reduceMul, Nat.reduceSub, Nat.zero_add, Nat.add_zero, Nat.zero_le, Nat.zero_mul, Nat.mul_one, Nat.one_mul, Int.natCast_zero, Int.toNat_zero, Int.reduceToNat, Int.reduceLT, Int.reduceLE, Int.reduceEq, decide_true, decide_false, true_and, and_true, Bool.and_self, Bool.and_true, Bool.true_and, Bool.not_true, Bool.not_false, IntWalk.toNatUp, IntWalk.iteOmega, IntWalk.i64_in, Option.isSome_some, not_true_eq_false, not_false_eq_true, Option.getD_some, Option.getD_none, Int.toNat_natCast, List.length_map, List.getElem?_map, List.getElem?_eq_getElem, V.flat, V.one, List.all_cons, List.all_nil, *, ints, List.map_append]; try exact rfl)) : p := h
theorem zwe {bx bp : Nat} {c : Club} {rs : List (List Int)} {bs : List Nat} {budget : Int} (hs : c.Small) (ha : c.Asc) (hsz : 3 ≤ c.size ∧ c.size ≤ 4) (hrl : rs.length ≤ 1000) (hrs : ∀ ids ∈ rs, ids.length ≤ 40 ∧ ids.Nodup ∧ ∀ a ∈ ids, ¬ zgw c a < 0) :
    ∀ (n : Nat) (S : Sto) (met : Int → Int → Bool) (steps : Int) (ps : List PRow) (round : Nat) (s : SearchR S bx bp c rs bs budget steps met ps) (hps : ps.length = rs.length) (hr : round < rs.length) (hrest : ∀ i, round < i → ∀ h : i < ps.length, ps[i].rows = []) (hsym : ∀ a b, met a b = met b a)
      (hn : mzS rs round (zfr rs[round] (ps[round]'(hps ▸ hr)).rows).length < n) (hT : ∀ i (h : i < ps.length), ps[i].rows.length + n ≤ 10000),
    DC Try.prog 60 [.v (.pointer (some ⟨bx, 0, none⟩)), I round] S (GoPost bx bp c rs bs budget met ps (srch c.size.toNat budget rs n met round (zfr rs[round] (ps[round]'(hps ▸ hr)).rows) steps))
  | 0, S, met, steps, ps, round, s, hps, hr, hrest, hsym, hn, hT => by omega
  | n + 1, S, met, steps, ps, round, s, hps, hr, hrest, hsym, hn, hT => by
    have hr' : round < ps.length := hps ▸ hr
    have hx := s.obj
    have hrr := hrs _ (List.getElem_mem hr)
    have hfree := free_rc S (mt := mtV bs c.members.length) s.obj s.pln hr' hr (s.row round hr') (by omega) (by have := hT round hr'; omega)
    generalize hids : zfr rs[round] (ps[round]'hr').rows = ids at *
    cases ids with
    | nil =>
      by_cases hend : round + 1 = rs.length
      · have he := go1_end s
        rw [srch, if_pos hend]
        have H := And.intro s (And.intro hps hend)
        clear s hrs hrest hsym hn hT hps
        have hend' : (round : Int) + 1 = rs.length := by omega
        refine DC.of_run Try.func60 rfl Try.ntmps60 Try.results60 (by simp) (fun _ => ?_); simp only [zan, zas, go_sem, Nat.zero_add, Nat.reduceAdd]
        repeat' (first | (with_reducible first | refine DS.fltS yU yU yX1 ?_ | refine DS.opsNil ?_ | refine DS.seq ?_ | refine DS.regionL ?_) | (with_reducible refine DS.cE yX1 ?_; first | with_reducible refine CG.p (fun _ => ?_) (fun _ => ?_) | with_reducible refine CG.yes ?_) | with_reducible refine DS.skip ?_ | refine DS.rcS inferInstance (hfree) yR yX2 ?_ | refine DS.rcS inferInstance (he) yR yX2 ?_ | fail)
        all_goals first | (exfalso; omega) | skip
        refine DS.retA yG ⟨rfl, met, ps, H.1, rfl, fun h => by simp at h, fun _ i h h' => by simp⟩
      · have hnx : round + 1 < rs.length := by omega
        have hf2 : zfr (rs[round + 1]'hnx) (ps[round + 1]'(hps ▸ hnx)).rows = rs[round + 1]'hnx := by rw [hrest (round + 1) (by omega) (hps ▸ hnx), zrz]
        have ih := zwe hs ha hsz hrl hrs n S met steps ps (round + 1) s hps hnx (fun i hi h => hrest i (by omega) h) hsym (by rw [hf2]; have := zuc hnx; simp only [List.length_nil] at hn; omega) (fun i h => by have := hT i h; omega)
        rw [hf2] at ih
        rw [srch, if_neg hend, List.getD_eq_getElem?_getD, List.getElem?_eq_getElem hnx, Option.getD_some]
        clear s hrs hrest hsym hn hT hps hf2
        refine DC.of_run Try.func60 rfl Try.ntmps60 Try.results60 (by simp) (fun _ => ?_); simp only [zan, zas, go_sem, Nat.zero_add, Nat.reduceAdd]
        repeat' (first | (with_reducible first | refine DS.fltS yU yU yX1 ?_ | refine DS.opsNil ?_ | refine DS.seq ?_ | refine DS.regionL ?_) | (with_reducible refine DS.cE yX1 ?_; first | with_reducible refine CG.p (fun _ => ?_) (fun _ => ?_) | with_reducible refine CG.yes ?_) | with_reducible refine DS.skip ?_ | refine DS.rcS inferInstance (hfree) yR yX2 ?_ | fail)
        all_goals first | (exfalso; omega) | skip
        refine DS.callA inferInstance ih yR (by simp (disch := omega) only [go_sem, dopV, Option.map_some, Option.map_none, Option.bind_some, Option.bind_none, ↓reduceIte, Nat.reduceEqDiff, Nat.reduceLT, Nat.reduceLeDiff, Nat.reduceAdd, Nat.reduceMul, Nat.reduceSub, Nat.zero_add, Nat.add_zero, Nat.zero_le, Nat.zero_mul, Nat.mul_one, Nat.one_mul, Int.natCast_zero, Int.toNat_zero, Int.reduceToNat, Int.reduceLT, Int.reduceLE, Int.reduceEq, decide_true, decide_false, true_and, and_true, Bool.and_self, Bool.and_true, Bool.true_and, Bool.not_true, Bool.not_false, IntWalk.toNatUp, IntWalk.iteOmega, IntWalk.i64_in, Option.isSome_some, not_true_eq_false, not_false_eq_true, Option.getD_some, Option.getD_none, Int.toNat_natCast, List.length_map, List.getElem?_map, List.getElem?_eq_getElem, V.flat, V.one, List.all_cons, List.all_nil, *, Int.natCast_add, Int.natCast_one]) (fun u S' hu => ?_)
        obtain ⟨rfl, hu2⟩ := hu
        repeat' (first | (with_reducible first | refine DS.fltS yU yU yE ?_ | refine DS.opsNil ?_) | fail)
        refine DS.retA yG ⟨rfl, hu2⟩
    | cons f fr =>
      generalize hres : srch c.size.toNat budget rs (n + 1) met round (f :: fr) steps = res
      rw [srch] at hres
      obtain ⟨k, hk⟩ : ∃ k : Nat, (k : Int) = c.size - 1 := ⟨(c.size - 1).toNat, by omega⟩
      have hk2 : c.size.toNat - 1 = k := by omega
      rw [hk2, zps] at hres
      have hmem : ∀ a ∈ f :: fr, a ∈ rs[round] := fun a h => by rw [← hids] at h; exact (List.mem_filter.1 h).1
      have hlen : (f :: fr).length ≤ 40 := by rw [← hids]; exact Nat.le_trans (List.length_filter_le _ _) hrr.1
      have hm1 := zvo S hs s.obj s.mat k [f] fr (by omega) (by simp at hlen; omega) (by simp; omega) (fun a h => hrr.2.2 a (hmem a (by simp at h; simp [h]))) (fun a h => hrr.2.2 a (hmem a (List.mem_cons_of_mem _ h)))
      rw [hk] at hm1
      have hXl := znw (zcg met) k [f] fr
      have H := And.intro hres (And.intro hmem hids)
      clear hres hmem hids
      refine DC.of_run Try.func60 rfl Try.ntmps60 Try.results60 (by simp) (fun _ => ?_); simp only [zan, zas, go_sem, Nat.zero_add, Nat.reduceAdd]
      repeat' (first | (with_reducible first | refine DS.fltS yU yU yX14 ?_ | refine DS.opsNil ?_ | refine DS.seq ?_ | refine DS.regionL ?_) | (with_reducible refine DS.cE yX14 ?_; with_reducible refine CG.p (fun _ => ?_) (fun _ => ?_)) | (with_reducible first | refine DS.block ?_ | refine DS.skip ?_) | refine DS.rcS inferInstance (hfree) yR yX15 ?_ | refine DS.rcS inferInstance (hm1) yR yX15 ?_ | refine DS.drawL (id := 6) [0, 1, 2, 3, 4, 5, 6, 7, 8, 9, 10] 11 (by kernel_rfl) zct (by simp only [zay, zbc, zbd, zbe, zax]; exact rfl) (by simp only [zav, zaw, List.drop_nil]; exact rfl) ?_ | (with_reducible first | refine DD.fltS yU yU yU yX14 ?_ | refine DD.nil0 ?_) | fail)
      all_goals first | (exfalso; omega) | skip
      have hXs := zrp (zcg met) k [f] fr
      have hXp := zpl met k [f] fr (by simp)
      have hXm := znv (zcg met) k [f] fr
      have hXl2 : (zfi (zcg met) k [f] fr).length ≤ 41 ^ 3 := Nat.le_trans hXl (Nat.le_trans (Nat.pow_le_pow_left (show fr.length + 1 ≤ 41 by simp at hlen; omega) _) (Nat.pow_le_pow_right (by omega) (by omega)))
      have hres := H.1
      have hids := H.2.2
      have hmem := H.2.1
      clear H hm1 hXl
      generalize zfi (zcg met) k [f] fr = X at *
      have hndf : (f :: fr).Nodup := by rw [← hids]; exact hrr.2.1.filter _
      have H := And.intro hXs (And.intro hXp (And.intro hXm (And.intro hids (And.intro hmem hndf))))
      clear hXs hXp hXm hids hmem hndf
      refine DS.loopS [0, 1, 5, 6] (by (simp only [go_sem, Nat.reduceEqDiff, ↓reduceIte]; exact rfl)) (fun (x : Nat × Sto × Int × List PRow) => [(7, I x.1)]) (fun (x : Nat × Sto × Int × List PRow) => x.2.1) (fun (x : Nat × Sto × Int × List PRow) => x.1 ≤ X.length ∧ SearchR x.2.1 bx bp c rs bs budget x.2.2.1 met x.2.2.2 ∧ x.2.2.2.length = ps.length ∧ (∀ (i : Nat) (h : i < ps.length) (h' : i < x.2.2.2.length), x.2.2.2[i].rows = ps[i].rows) ∧ tryL budget round (fun t s => srch c.size.toNat budget rs n (zic met t) round ((f :: fr).filter fun id => !decide (id ∈ t)) s) ((X.drop x.1).map ([f] ++ ·)) x.2.2.1 = res) (fun (x : Nat × Sto × Int × List PRow) => X.length - x.1) (0, S, steps, ps) yS (fun b o e => by exact e) ⟨Nat.zero_le _, s, rfl, fun _ _ _ => rfl, hres⟩ (fun x B hI hB => ?_); try dsimp only at hI hB; simp only [zap, zau]
      obtain ⟨j, S1, st1, ps1⟩ := x
      dsimp only at hI hB
      obtain ⟨g1, g2, g3, g4, g5⟩ := hI
      have hx1 := g2.obj
      have G := And.intro g2 (And.intro g4 g5)
      have Kp := And.intro hrest (And.intro hn (And.intro hT (And.intro hrs hsym)))
      clear g2 g4 g5 hres s hx hrs hrest hn hT hfree hsym
      simp only [zap, zau]
      have hr1 : round < ps1.length := g3 ▸ hr'
      repeat' (first | (with_reducible first | refine DS.fltS yU yU yX1 ?_ | refine DS.opsNil ?_ | refine DS.seq ?_ | refine DS.regionL ?_) | (with_reducible refine DS.cE yX1 ?_; with_reducible refine CG.p (fun _ => ?_) (fun _ => ?_)) | (with_reducible first | refine DS.block ?_ | refine DS.exit yU ?_ | refine DS.skip ?_) | (refine DS.store yR yX1 yX1 yX1 yX1 yU (by exact ⟨by with_unfolding_all rfl, by (try simp only [List.length_map, List.length_append, List.length_set, List.length_replicate, List.length_cons, List.length_nil]); omega⟩) ?_; simp only [zbm, zaq, zat, zbz, zbn, zbl, zbh]; try simp only [zak, zac, zad, Nat.reduceEqDiff, ↓reduceIte, zag, zah, zao, zaf, zae, zal, zai]) | refine DS.drawL (id := 10) [0, 1, 2, 3, 4, 5, 6, 7] 8 (by kernel_rfl) zct (by simp only [zay, zbc, zbd, zbe, zax]; exact rfl) (by simp only [zav, zaw, List.drop_nil]; exact rfl) ?_ | refine DS.drawL (id := 13) [0, 1, 2, 4, 5, 6, 7, 3] 8 (by kernel_rfl) zct (by simp only [zay, zbc, zbd, zbe, zax]; exact rfl) (by simp only [zav, zaw, List.drop_nil]; exact rfl) ?_ | (with_reducible first | refine DD.fltS yU yU yU yX1 ?_ | refine DD.nil0 ?_) | (refine DD.bslS yU yX1 yX1 ?_; simp only [go_sem, Nat.zero_add, Nat.reduceAdd]; simp only [zbo, zbw, Nat.reduceEqDiff, ↓reduceIte]) | fail)
      · rename_i e1 e2
        have e3 : res = (3, st1, []) := by
          rw [← G.2.2, List.drop_eq_getElem_cons (show j < X.length by omega), List.map_cons, tryL, if_pos e2]
        rw [e3]
        refine DS.retA yG ⟨rfl, met, ps1, G.1, g3, fun h => by simp at h, fun h => by simp at h⟩
      · rename_i e1 e2
        have hj : j < X.length := by omega
        have hk3 := (H.2.2.1 _ (List.getElem_mem hj)).1
        have g6 := G.1.steps (w64 (st1 + 1)) (l := sC c rs bp ps1.length (mtV bs c.members.length) budget (w64 (st1 + 1))) rfl
        refine DS.reS (S' := setS bx (.cells (sC c rs bp ps1.length (mtV bs c.members.length) budget (w64 (st1 + 1))) TS) S1) (fun b o e => by rw [g3.trans hps] at e; exact e) ?_
        generalize setS bx (.cells (sC c rs bp ps1.length (mtV bs c.members.length) budget (w64 (st1 + 1))) TS) S1 = S2 at *
        repeat' (first | (with_reducible first | refine DS.fltS yU yU yX1 ?_ | refine DS.opsNil ?_ | refine DS.seq ?_ | refine DS.regionL ?_) | (refine DS.append (mm := false) yU yX1 yX1 yU (by decide) yX1 (by first | exact .inl rfl | exact .inr ⟨rfl, rfl⟩) yX1 yX3 (by first | exact zar zcu _ | exact zar zdm _ | exact zar Member.len _ | exact zar Sitting.len _ | exact zar Ruling.len _ | (simp only [List.mem_cons, List.not_mem_nil, or_false, forall_eq]; rfl) | simp) ⟨by (try simp only [List.length_map, List.length_cons, List.length_nil, List.length_append, List.length_take, List.length_drop]); omega, by decide⟩ ?_; simp only [zak, zac, zad, Nat.reduceEqDiff, ↓reduceIte, zag, zah, zao, zaf, zae, zal, zai]) | fail)
        have htab : ([f] ++ X[j]).Sublist (f :: fr) := (H.1 _ (List.getElem_mem hj)).cons_cons f
        have hmk := zvr S2 hs ha g6.nd g6.xb g6.obj g6.mat ([f] ++ X[j]) true (fun a h => hrr.2.2 a (H.2.2.2.2.1 a (htab.subset h))) (htab.nodup H.2.2.2.2.2) (by simp; omega)
        refine DS.callA inferInstance hmk yR (by simp (disch := omega) only [go_sem, dopV, Option.map_some, Option.map_none, Option.bind_some, Option.bind_none, ↓reduceIte, Nat.reduceEqDiff, Nat.reduceLT, Nat.reduceLeDiff, Nat.reduceAdd, Nat.reduceMul, Nat.reduceSub, Nat.zero_add, Nat.add_zero, Nat.zero_le, Nat.zero_mul, Nat.mul_one, Nat.one_mul, Int.natCast_zero, Int.toNat_zero, Int.reduceToNat, Int.reduceLT, Int.reduceLE, Int.reduceEq, decide_true, decide_false, true_and, and_true, Bool.and_self, Bool.and_true, Bool.true_and, Bool.not_true, Bool.not_false, IntWalk.toNatUp, IntWalk.iteOmega, IntWalk.i64_in, Option.isSome_some, not_true_eq_false, not_false_eq_true, Option.getD_some, Option.getD_none, Int.toNat_natCast, List.length_map, List.getElem?_map, List.getElem?_eq_getElem, V.flat, V.one, List.all_cons, List.all_nil, *, ints, List.map_append]) (fun u S3 hu => ?_)
        have g7 := g6.marked hu.1 hu.2
        clear hmk hu g6 hx1
        have hx3 := g7.obj
        have hp3 := g7.pln
        obtain ⟨p, hp⟩ : ∃ p, p = ps1[round] := ⟨_, rfl⟩
        have hrow := g7.row round hr1
        rw [← hp] at hrow
        have hpc : (ps1.map PRow.cell)[round]? = some p.cell := by rw [List.getElem?_map, List.getElem?_eq_getElem hr1, ← hp]; rfl
        obtain ⟨S0, Sr, k0, k1, k2, k3⟩ := PRow.split hrow
        have hx0 : zab S0 bx = _ := (k3 bx fun cap jk h => (g7.rx round hr1 bx cap jk (hp ▸ h)).1 rfl).1.trans hx3
        have hp0 : zab S0 bp = _ := (k3 bp fun cap jk h => (g7.rx round hr1 bp cap jk (hp ▸ h)).2.1 rfl).1.trans hp3
        have hpr : p.rows.length + (n + 1) ≤ 10000 := by rw [hp, G.2.1 round hr' hr1]; exact Kp.2.2.1 round hr'
        subst hp
        have Kq := And.intro hrow (And.intro k3 (And.intro k2 (And.intro g7 hpr)))
        clear hx3 hp3 hrow k3 g7 k2 hpc
        repeat' (first | (with_reducible first | refine DS.opsNil ?_ | refine DS.seq ?_) | fail)
        refine DS.drawLS (id := 15) (S0) (Sr) [0, 1, 2, 3, 4, 5, 6, 7, 8, 9, 10, 11, 12, 13, 14] 15 (by kernel_rfl) zct (by simp only [zay, zbc, zbd, zbe, zax]; exact rfl) (by simp only [zav, zaw, List.drop_nil]; exact rfl) (k0) (k1) ?_
        repeat' (first | with_reducible refine DD.fltS yU yU yU yX16 ?_ | (refine DD.bslS yU yX16 yX16 ?_; simp only [go_sem, Nat.zero_add, Nat.reduceAdd]; simp only [zbo, zbw, Nat.reduceEqDiff, ↓reduceIte]) | fail)
        refine DD.last rfl rfl rfl yR (OpS.appRow (p := ps1[round]'hr1) (tab := [f] ++ X[j]) rfl yT yT yR yR yT Kq.2.2.1 yT yX17 ⟨by omega, by decide⟩) (fun u2 E' S4 hu2 hdis => ?_)
        obtain ⟨rfl, b', cap', junk', rfl, m1, m2, m3⟩ := hu2
        have g8 := Kq.2.2.2.1.appended hr1 rfl Kq.2.1 hdis m1 m2 m3
        have hbp4 := g8.1
        clear m1 m2 m3 hdis hx0 hp0 k0 k1
        simp only [PRow.cell_some, zcj]
        repeat' (first | (with_reducible first | refine DS.fltS yU yU yX1 ?_ | refine DS.opsNil ?_ | refine DS.seq ?_ | refine DS.regionL ?_) | (refine DS.store yR yX1 yX1 yX1 yX1 yU (by exact ⟨by with_unfolding_all rfl, by (try simp only [List.length_map, List.length_append, List.length_set, List.length_replicate, List.length_cons, List.length_nil]); omega⟩) ?_; simp only [zbm, zaq, zat, zbz, zbn, zbl, zbh]; try simp only [zak, zac, zad, Nat.reduceEqDiff, ↓reduceIte, zag, zah, zao, zaf, zae, zal, zai]) | fail)
        have hrow1 := G.2.1 round hr' hr1
        refine DS.reS (S' := setS bp (.cells ((ps1.map PRow.cell).set round (.v (.slice (some ⟨b', 0, none⟩) ((ps1[round]'hr1).rows ++ [[f] ++ X[j]]).length cap'))) 35) (S4 ++ S0)) (fun b o e => by rw [hrow1] at e; exact e) ?_
        have g9 := g8.2
        clear g8 hbp4
        generalize setS bp (.cells ((ps1.map PRow.cell).set round (.v (.slice (some ⟨b', 0, none⟩) ((ps1[round]'hr1).rows ++ [[f] ++ X[j]]).length cap'))) 35) (S4 ++ S0) = S5 at *
        have hr5 : round < (ps1.set round ⟨(ps1[round]'hr1).rows ++ [[f] ++ X[j]], some (b', cap', junk')⟩).length := by simpa using hr1
        have hrow5 : ((ps1.set round ⟨(ps1[round]'hr1).rows ++ [[f] ++ X[j]], some (b', cap', junk')⟩)[round]'hr5).rows = (ps1[round]'hr1).rows ++ [[f] ++ X[j]] := by rw [List.getElem_set_self]
        have hfree5 : zfr rs[round] ((ps1.set round ⟨(ps1[round]'hr1).rows ++ [[f] ++ X[j]], some (b', cap', junk')⟩)[round]'hr5).rows = (f :: fr).filter fun id => !decide (id ∈ [f] ++ X[j]) := by
          rw [hrow5, freeS_append, hrow1, H.2.2.2.1]
        have hlt5 : ((f :: fr).filter fun id => !decide (id ∈ [f] ++ X[j])).length ≤ fr.length := by
          rw [List.filter_cons, if_neg (by simp)]; exact List.length_filter_le _ _
        have ih := zwe hs ha hsz hrl Kp.2.2.2.1 n S5 (zmb met ([f] ++ X[j]) true) (w64 (st1 + 1)) (ps1.set round ⟨(ps1[round]'hr1).rows ++ [[f] ++ X[j]], some (b', cap', junk')⟩) round g9 (by rw [List.length_set]; exact g3.trans hps) hr
          (fun i hi h => by
            have h' : i < ps1.length := by simpa using h
            rw [List.getElem_set_ne (by omega), G.2.1 i (g3 ▸ h') h']; exact Kp.1 i hi _)
          (markB_sym Kp.2.2.2.2)
          (by rw [hfree5]; have := Kp.2.1; simp only [mzS, List.length_cons] at this ⊢; omega)
          (fun i h => by
            have h' : i < ps1.length := by simpa using h
            by_cases hir : round = i
            · subst hir; rw [hrow5, hrow1]; have := Kp.2.2.1 round hr'; simp only [List.length_append, List.length_cons, List.length_nil]; omega
            · rw [List.getElem_set_ne hir, G.2.1 i (g3 ▸ h') h']; have := Kp.2.2.1 i (g3 ▸ h'); omega)
        rw [hfree5] at ih
        have Kr := And.intro g9 (And.intro hrow1 (And.intro hrow5 hfree5))
        clear g9 hrow1 hrow5 hfree5
        refine DS.callA inferInstance ih yR yT (fun u3 S6 hu3 => ?_)
        obtain ⟨rfl, met2, ps2, g10, g11, g12, g13⟩ := hu3
        generalize hr2 : srch c.size.toNat budget rs n (zmb met ([f] ++ X[j]) true) round ((f :: fr).filter fun id => !decide (id ∈ [f] ++ X[j])) (w64 (st1 + 1)) = res2 at *
        have htry : tryL budget round (fun t s => srch c.size.toNat budget rs n (zic met t) round ((f :: fr).filter fun id => !decide (id ∈ t)) s) ((X.drop j).map ([f] ++ ·)) st1 =
            if res2.1 = 2 then tryL budget round (fun t s => srch c.size.toNat budget rs n (zic met t) round ((f :: fr).filter fun id => !decide (id ∈ t)) s) ((X.drop (j + 1)).map ([f] ++ ·)) res2.2.1 else (res2.1, res2.2.1, (round, [f] ++ X[j]) :: res2.2.2) := by
          rw [List.drop_eq_getElem_cons hj, List.map_cons, tryL, if_neg e2]
          simp only [markS_eq, hr2]
        have Ks := And.intro g10 (And.intro g12 (And.intro g13 (And.intro hr2 htry)))
        clear g10 g12 g13 hr2 htry ih
        have hlen2 : ps2.length = ps1.length := by rw [g11, List.length_set]
        clear g11
        have g5r : ∀ (i : Nat) (h : i < ps1.length) (h' : i < (ps1.set round ⟨(ps1[round]'hr1).rows ++ [[f] ++ X[j]], some (b', cap', junk')⟩).length), ((ps1.set round ⟨(ps1[round]'hr1).rows ++ [[f] ++ X[j]], some (b', cap', junk')⟩)[i]'h').rows = if round = i then (ps1[round]'hr1).rows ++ [[f] ++ X[j]] else (ps1[i]'h).rows := fun i h h' => by
          rw [List.getElem_set]; split <;> rfl
        have Kt := g5r
        clear g5r
        repeat' (first | (with_reducible first | refine DS.fltS yU yU yE ?_ | refine DS.opsNil ?_ | refine DS.seq ?_ | refine DS.regionL ?_ | (refine DS.cE yE ?_; refine CG.np (fun _ => ?_) (fun _ => ?_)) | refine DS.skip ?_) | fail)
        · rename_i e3
          have e4 : res = (res2.1, res2.2.1, (round, [f] ++ X[j]) :: res2.2.2) := by rw [← G.2.2, Ks.2.2.2.2, if_neg e3]
          rw [e4]
          refine DS.retA yG ⟨rfl, met2, ps2, Ks.1, hlen2.trans g3, fun h => absurd h e3, fun h i h1 h2 => ?_⟩
          have hi1 : i < ps1.length := g3 ▸ h1
          rw [Ks.2.2.1 h i (by simpa using hi1) h2, Kt i hi1 (by simpa using hi1)]
          by_cases hir : round = i
          · subst hir
            rw [if_pos rfl, G.2.1 round h1 hi1, List.filter_cons, if_pos (by simp)]; simp
          · rw [if_neg hir, G.2.1 i h1 hi1, List.filter_cons, if_neg (by simpa using hir)]
        · rename_i e3
          obtain ⟨rfl, hrows2⟩ := Ks.2.1 e3
          have hr2' : round < ps2.length := hlen2 ▸ hr1
          have hrow2 := hrows2 round hr5 hr2'
          rw [Kt round hr1 hr5, if_pos rfl] at hrow2
          have hok2 := Ks.1.row round hr2'
          obtain ⟨b6, cap6, junk6, hblk⟩ : ∃ b6 cap6 junk6, (ps2[round]'hr2').blk = some (b6, cap6, junk6) := by
            generalize ps2[round]'hr2' = p2 at hok2 hrow2
            obtain ⟨T2, blk2⟩ := p2
            cases blk2 with
            | none => simp only [PRow.Ok] at hok2; subst hok2; simp at hrow2
            | some x => exact ⟨x.1, x.2.1, x.2.2, rfl⟩
          have hp2e : ps2[round]'hr2' = ⟨(ps1[round]'hr1).rows ++ [[f] ++ X[j]], some (b6, cap6, junk6)⟩ := by
            generalize ps2[round]'hr2' = p2 at hblk hrow2
            obtain ⟨T2, blk2⟩ := p2
            dsimp only at hblk hrow2; rw [hblk, hrow2]
          rw [hp2e] at hok2
          obtain ⟨o1, o2, o3, o4⟩ := hok2
          obtain ⟨ℓ, hℓ⟩ : ∃ ℓ, ℓ = (ps1[round]'hr1).rows.length := ⟨_, rfl⟩
          have hc6 : (ps2[round]'hr2').cell = .v (.slice (some ⟨b6, 0, none⟩) (ℓ + 1) cap6) := by rw [hp2e, PRow.cell_some, hℓ]; simp
          have hlc : ℓ + 1 ≤ cap6 := by rw [List.length_append, List.length_singleton] at o2; omega
          have hx6 := Ks.1.obj
          have hp6 := Ks.1.pln
          have Ku := Box.mk (And.intro hp2e (And.intro hblk (And.intro o1 (And.intro o2 (And.intro o3 (And.intro o4 hrows2))))))
          clear hp2e hblk o1 o2 o3 o4 hrows2 hrow2
          have hℓ2 : ℓ ≤ 10000 := by rw [hℓ, (G.2.1 round hr' hr1)]; have := Kp.2.2.1 round hr'; omega
          have Kv := Box.mk hℓ
          clear hℓ
          repeat' (first | (with_reducible first | refine DS.fltS yU yU yX16 ?_ | refine DS.opsNil ?_ | refine DS.regionL ?_) | (refine DS.store yR yX16 yX16 yX16 yX16 yU (by exact ⟨by with_unfolding_all rfl, by (try simp only [List.length_map, List.length_append, List.length_set, List.length_replicate, List.length_cons, List.length_nil]); omega⟩) ?_; simp only [zbm, zaq, zat, zbz, zbn, zbl, zbh]; try simp only [zak, zac, zad, Nat.reduceEqDiff, ↓reduceIte, zag, zah, zao, zaf, zae, zal, zai]) | refine DS.drawL (id := 19) [0, 1, 2, 3, 4, 5, 6, 7, 8, 9, 10, 11, 12, 13, 14, 15, 16, 17, 18, 19, 20, 21] 22 (by kernel_rfl) zct (by simp only [zay, zbc, zbd, zbe, zax]; exact rfl) (by simp only [zav, zaw, List.drop_nil]; exact rfl) ?_ | (with_reducible first | refine DD.fltS yU yU yU yX16 ?_ | refine DD.nil0 ?_) | fail)
          refine DS.reS (S' := setS bp (.cells ((ps2.map PRow.cell).set round (.v (.slice (some ⟨b6, 0, none⟩) (ps1[round]'hr1).rows.length cap6))) 35) S6) (fun b o e => by rw [← Kv.out] at e; exact e) ?_
          have hbp6 : b6 ≠ bp := (Ks.1.rx round hr2' b6 cap6 junk6 Ku.out.2.1).2.1
          have g14 : SearchR (setS bp (.cells ((ps2.map PRow.cell).set round (.v (.slice (some ⟨b6, 0, none⟩) (ps1[round]'hr1).rows.length cap6))) 35) S6) bx bp c rs bs budget res2.2.1 (zmb met ([f] ++ X[j]) true) (ps2.set round ⟨(ps1[round]'hr1).rows, some (b6, cap6, ints ([f] ++ X[j]) :: junk6)⟩) := by
            refine Ks.1.turn hr2' (.inl ⟨cap6, junk6, Ku.out.2.1⟩) ⟨?_, ?_, Ku.out.2.2.2.2.1, ?_⟩ ?_ fun b e4 e5 e6 => ?_
            · rw [zbg Ks.1.pln, if_neg hbp6, Ku.out.2.2.1]; simp
            · have := Ku.out.2.2.2.1; simp only [List.length_append, List.length_cons, List.length_nil] at this ⊢; omega
            · intro v hv
              rcases List.mem_cons.1 hv with rfl | hv
              · rfl
              · exact Ku.out.2.2.2.2.2.1 v hv
            · rw [zbg Ks.1.pln, if_pos rfl]
            · rw [zbg Ks.1.pln, if_neg e4]
          generalize setS bp (.cells ((ps2.map PRow.cell).set round (.v (.slice (some ⟨b6, 0, none⟩) (ps1[round]'hr1).rows.length cap6))) 35) S6 = S7 at *
          have hmk2 := zvr S7 hs ha g14.nd g14.xb g14.obj g14.mat ([f] ++ X[j]) false (fun a h => hrr.2.2 a (H.2.2.2.2.1 a (htab.subset h))) (htab.nodup H.2.2.2.2.2) (by simp; omega)
          refine DS.callA inferInstance hmk2 yR yX18 (fun u4 S8 hu4 => ?_)
          have g15 := g14.marked hu4.1 hu4.2
          rw [markB_back (H.2.1 _ (List.getElem_mem hj)) Kp.2.2.2.2] at g15
          have hrows8 : ∀ (i : Nat) (h : i < ps.length) (h' : i < (ps2.set round ⟨(ps1[round]'hr1).rows, some (b6, cap6, ints ([f] ++ X[j]) :: junk6)⟩).length), ((ps2.set round ⟨(ps1[round]'hr1).rows, some (b6, cap6, ints ([f] ++ X[j]) :: junk6)⟩)[i]'h').rows = (ps[i]'h).rows := fun i h h' => by
            have hi1 : i < ps1.length := g3 ▸ h
            have hi2 : i < ps2.length := by simpa using h'
            rw [List.getElem_set]
            by_cases hir : round = i
            · subst hir; rw [if_pos rfl]; exact G.2.1 round h hi1
            · rw [if_neg hir, Ku.out.2.2.2.2.2.2 i (by simpa using hi1) hi2, Kt i hi1 (by simpa using hi1), if_neg hir]; exact G.2.1 i h hi1
          have htry2 : tryL budget round (fun t s => srch c.size.toNat budget rs n (zic met t) round ((f :: fr).filter fun id => !decide (id ∈ t)) s) ((X.drop (j + 1)).map ([f] ++ ·)) res2.2.1 = res := by
            rw [← G.2.2, Ks.2.2.2.2, if_pos e3]
          clear Ku Kv Kt Ks Kr hc6 hx6 hp6 hmk2 g14 hu4 Kq
          repeat' (first | (with_reducible first | refine DS.fltS yU yU yE ?_ | refine DS.opsNil ?_ | refine DS.regionL ?_ | refine DS.blk ?_) | fail)
          exact DS.back (hB (j + 1, S8, res2.2.1, ps2.set round ⟨(ps1[round]'hr1).rows, some (b6, cap6, ints ([f] ++ X[j]) :: junk6)⟩) _ _ (by simp; omega) ⟨by simp; omega, g15, by rw [List.length_set]; exact hlen2.trans g3, hrows8, htry2⟩ yS yS (fun b o e => by exact e))
      · rename_i e1
        have e3 : res = (2, st1, []) := by
          rw [← G.2.2, List.drop_eq_nil_of_le (by omega)]; rfl
        rw [e3]
        refine DS.retA yG ⟨rfl, met, ps1, G.1, g3, fun _ => ⟨rfl, fun i h h' => G.2.1 i h h'⟩, fun h => by simp at h⟩
end Go.XL
namespace Go.XL
open Go.Proofs
set_option maxRecDepth 100000
set_option maxHeartbeats 4000000
theorem zvp (a b : Int) : ∀ l : List (List Int), metT a b l ≤ l.length
  | [] => Nat.le_refl _
  | t :: r => by
    have := zvp a b r
    simp only [metT, List.length_cons]; split <;> omega
theorem met_pc (c : Club) (hs : c.Small) (a b : Int) : PC Try.prog 97 [c.val, I a, I b] (I (metS c a b)) := by
  have q1 := hs.rounds
  refine DC.of_run Try.func97 rfl Try.ntmps97 Try.results97 (by simp) (fun _ => ?_); simp only [zan, zas, go_sem, Nat.zero_add, Nat.reduceAdd]
  repeat' (first | (with_reducible first | refine DS.fltS yU yU yE ?_ | refine DS.opsNil ?_ | refine DS.seq ?_ | refine DS.regionL ?_ | refine DS.block ?_) | (refine DS.boxF (t := 3) yU yE yU ?_; simp only [zbk, zcd, zbi, zbu, zbf, zaz, zbp, zbb, zca, zcc, zbq, zcb, zbt, zbs]) | fail)
  refine DS.loopK [1, 2, 3] (by (simp only [go_sem, Nat.reduceEqDiff, ↓reduceIte]; exact rfl)) (fun (i : Nat × Nat) => [(7, I i.2), (8, I i.1)]) (fun (i : Nat × Nat) => i.1 ≤ c.rounds.length ∧ i.2 ≤ 1000000 * i.1 ∧ i.2 + zms a b (c.rounds.drop i.1) = metS c a b) (fun (i : Nat × Nat) => c.rounds.length - i.1) (0, 0) yS (by simp [metS]) (fun i B hI hB => ?_); try dsimp only at hI hB; simp only [zap, zau]
  repeat' (first | (with_reducible first | refine DS.fltS yU yU yE ?_ | refine DS.opsNil ?_ | refine DS.seq ?_ | refine DS.regionL ?_ | (refine DS.cE yE ?_; refine CG.p (fun _ => ?_) (fun _ => ?_)) | refine DS.block ?_ | refine DS.exit yU ?_ | refine DS.skip ?_) | refine DS.retT [] yE trivial ?_ | fail)
  · rename_i e1
    have hi : i.1 < c.rounds.length := by omega
    have q2 := (hs.at hi).tables
    have q3 := zvp a b c.rounds[i.1].tables
    have hB0 := hB
    have hI0 := hI
    clear hB hI
    refine DS.loopK [1, 2, 3, 8] (by (simp only [go_sem, Nat.reduceEqDiff, ↓reduceIte]; exact rfl)) (fun (k : Nat × Nat) => [(7, I k.2), (9, I k.1)]) (fun (k : Nat × Nat) => k.1 ≤ c.rounds[i.1].tables.length ∧ k.2 + metT a b (c.rounds[i.1].tables.drop k.1) = i.2 + metT a b c.rounds[i.1].tables) (fun (k : Nat × Nat) => c.rounds[i.1].tables.length - k.1) (0, i.2) yS (by simp) (fun k B hI hB => ?_); try dsimp only at hI hB; simp only [zap, zau]
    repeat' (first | (with_reducible first | refine DS.fltS yU yU yE ?_ | refine DS.opsNil ?_ | refine DS.seq ?_ | refine DS.regionL ?_ | (refine DS.cE yE ?_; first | refine CG.p (fun _ => ?_) (fun _ => ?_) | refine CG.no ?_) | (refine DS.gE yU yE ?_; first | refine GG.npT (fun _ => ?_) (fun _ => ?_) | refine GG.pT (fun _ => ?_) (fun _ => ?_) | refine GG.run ?_ | refine GG.sF ?_) | refine DS.blk ?_ | refine DS.block ?_ | refine DS.exit yU ?_ | refine DS.skip ?_) | refine DS.pcS inferInstance (zwd _ _) yR yT ?_ | fail)
    · rename_i e2 e3 e4 e5
      obtain ⟨_, r, dr1, rfl, dr3⟩ := zcf (l := c.rounds[i.1].tables) (i := k.1) (by omega); rw [dr1] at hI
      exact DS.back (hB (k.1 + 1, k.2 + 1) _ _ (by simp; omega) (⟨by simp; omega, by rw [← hI.2, dr3, metT, if_pos ⟨e3, e4, e5⟩]; simp; omega⟩) yS yS (fun b o e => by first | exact e | (simp only [zaa]; split <;> simp_all)))
    · rename_i e2 e3 e4 e5
      obtain ⟨_, r, dr1, rfl, dr3⟩ := zcf (l := c.rounds[i.1].tables) (i := k.1) (by omega); rw [dr1] at hI
      exact DS.back (hB (k.1 + 1, k.2) _ _ (by simp; omega) (⟨by simp; omega, by rw [← hI.2, dr3, metT, if_neg (fun h => e5 h.2.2)]; simp⟩) yS yS (fun b o e => by first | exact e | (simp only [zaa]; split <;> simp_all)))
    · rename_i e2 e3 e4
      obtain ⟨_, r, dr1, rfl, dr3⟩ := zcf (l := c.rounds[i.1].tables) (i := k.1) (by omega); rw [dr1] at hI
      exact DS.back (hB (k.1 + 1, k.2) _ _ (by simp; omega) (⟨by simp; omega, by rw [← hI.2, dr3, metT, if_neg (fun h => e4 h.2.1)]; simp⟩) yS yS (fun b o e => by first | exact e | (simp only [zaa]; split <;> simp_all)))
    · rename_i e2 e3
      obtain ⟨_, r, dr1, rfl, dr3⟩ := zcf (l := c.rounds[i.1].tables) (i := k.1) (by omega); rw [dr1] at hI
      exact DS.back (hB (k.1 + 1, k.2) _ _ (by simp; omega) (⟨by simp; omega, by rw [← hI.2, dr3, metT, if_neg (fun h => h.1 e3)]; simp⟩) yS yS (fun b o e => by first | exact e | (simp only [zaa]; split <;> simp_all)))
    · rename_i e2
      have de1 := zdh (l := c.rounds[i.1].tables) (i := k.1) (by omega); rw [de1] at hI
      have e3 : k.2 = i.2 + metT a b c.rounds[i.1].tables := by rw [← hI.2]; simp [metT]
      have e4 : i.2 + (metT a b c.rounds[i.1].tables + zms a b (c.rounds.drop (i.1 + 1))) = metS c a b := by
        rw [← hI0.2.2, List.drop_eq_getElem_cons hi]; rfl
      refine DS.back (hB0 (i.1 + 1, k.2) _ _ (by simp; omega) ⟨by simp; omega, by simp; omega, by simp only [e3]; omega⟩ yS yS (fun b o e => by exact e))
  · rename_i e1
    have de1 := zdh (l := c.rounds) (i := i.1) (by omega); rw [de1] at hI
    simp only [zec]; rw [← hI.2.2]; simp [zms]
end Go.XL
namespace Go.XL
open Go.Proofs
set_option maxRecDepth 100000
set_option maxHeartbeats 8000000
theorem zvq (c : Club) (a b : Int) : decide (0 < (metS c a b : Int)) = met0 c a b := by
  simp only [met0, decide_eq_decide]; omega
structure Begun (S : Sto) (bx bp : Nat) (c : Club) (rs : List (List Int)) (budget : Int) (bs : List Nat) : Prop where
  obj : zab S bx = some (.cells (sC c rs bp rs.length (mtV bs c.members.length) budget 0) TS)
  pln : zab S bp = some (.cells (List.replicate rs.length (.v (.slice none 0 0))) 35)
  row : ∀ (i : Nat) (h : i < bs.length) (h' : i < c.members.length), zab S bs[i] = some (.cells (c.members.map fun m => Bo (met0 c c.members[i].id m.id)) 4)
  xp : bx ≠ bp
  xb : ¬ bx ∈ bs
  pb : ¬ bp ∈ bs
  nd : bs.Nodup
theorem yX19 {p : Prop} (h : p := by (simp (disch := omega) only [go_sem, dopV, Option.map_some, Option.map_none, Option.bind_some, Option.bind_none, ↓reduceIte, Nat.reduceEqDiff, Nat.reduceLT, Nat.reduceLeDiff, Nat.reduceAdd, Nat.reduceMul, Nat.reduceSub, Nat.zero_add, Nat.add_zero, Nat.zero_le, Nat.zero_mul, Nat.mul_one, Nat.one_mul, Int.natCast_zero, Int.toNat_zero, Int.reduceToNat, Int.reduceLT, Int.reduceLE, Int.reduceEq, decide_true, decide_false, true_and, and_true, Bool.and_self, Bool.and_true, Bool.true_and, Bool.not_true, Bool.not_false, IntWalk.toNatUp, IntWalk.iteOmega, IntWalk.i64_in, Option.isSome_some, not_true_eq_false, not_false_eq_true, Option.getD_some, Option.getD_none, Int.toNat_natCast, List.length_map, List.getElem?_map, List.getElem?_eq_getElem, V.flat, V.one, List.all_cons, List.all_nil, *, zvq]; exact rfl)) : p := h
theorem yX20 {p : Prop} (h : p := by (simp (disch := omega) only [go_sem, dopV, Option.map_some, Option.map_none, Option.bind_some, Option.bind_none, ↓reduceIte, Nat.reduceEqDiff, Nat.reduceLT, Nat.reduceLeDiff, Nat.reduceAdd, Nat.reduceMul, Nat.reduceSub, Nat.zero_add, Nat.add_zero, Nat.zero_le, Nat.zero_mul, Nat.mul_one, Nat.one_mul, Int.natCast_zero, Int.toNat_zero, Int.reduceToNat, Int.reduceLT, Int.reduceLE, Int.reduceEq, decide_true, decide_false, true_and, and_true, Bool.and_self, Bool.and_true, Bool.true_and, Bool.not_true, Bool.not_false, IntWalk.toNatUp, IntWalk.iteOmega, IntWalk.i64_in, Option.isSome_some, not_true_eq_false, not_false_eq_true, Option.getD_some, Option.getD_none, Int.toNat_natCast, List.length_map, List.getElem?_map, List.getElem?_eq_getElem, V.flat, V.one, List.all_cons, List.all_nil, *, zvq]; try exact rfl)) : p := h
theorem begin_dc (c : Club) (hs : c.Small) (rs : List (List Int)) (budget : Int) (hr : rs.length ≤ 1000) :
    DC Try.prog 59 [c.val, rows rs, I budget] [] (fun u S' => ∃ bx bp bs, u = .v (.pointer (some ⟨bx, 0, none⟩)) ∧ SearchR S' bx bp c rs bs budget 0 (met0 c) (List.replicate rs.length ⟨[], none⟩)) := by
  have q1 := hs.members
  refine DC.of_run Try.func59 rfl Try.ntmps59 Try.results59 (by simp) (fun _ => ?_); simp only [zan, zas, go_sem, Nat.zero_add, Nat.reduceAdd]
  repeat' (first | (with_reducible first | refine DS.fltS yU yU yE ?_ | refine DS.opsNil ?_ | refine DS.seq ?_ | refine DS.regionL ?_) | (refine DS.boxF (t := 3) yU yE yU ?_; simp only [zbk, zcd, zbi, zbu, zbf, zaz, zbp, zbb, zca, zcc, zbq, zcb, zbt, zbs]) | refine DS.drawL (id := 1) [0, 1, 2, 3, 5, 4] 6 (by kernel_rfl) zct (by simp only [zay, zbc, zbd, zbe, zax]; exact rfl) (by simp only [zav, zaw, List.drop_nil]; exact rfl) ?_ | with_reducible refine DD.fltS yU yU yU yE ?_ | fail)
  refine DD.mk yU yG yG yG yG yU yU ⟨by omega, by omega, by decide, by omega⟩ (fun bp h1 h2 => ?_)
  repeat' (first | (with_reducible first | refine DS.fltS yU yU yX8 ?_ | refine DS.opsNil ?_ | refine DS.seq ?_ | refine DS.regionL ?_ | refine DS.block ?_) | (with_reducible refine DS.boxS yU yX8 yU (fun _ hfr => ?_); have hfr := zgh hfr; simp only [zeg, zfe, and_true] at hfr; simp only [zbk, zcd, zbi, zbu, zbf, zaz, zbp, zbb, zca, zcc, zbq, zcb, zbt, zbs]) | (with_reducible refine DD.nil ?_; simp only [zap, zau]) | fail)
  rename_i bx hfr
  refine DS.adoptC (b := bx) (off := 10) (e := 134) (sz := 1) yH yH ?_
  have B0 : Begun (setS bx (.cells (sC c rs bp rs.length (mtV [] c.members.length) budget 0) TS) [(bx, .cells (sC c rs bp rs.length (.v (.slice none 0 0)) budget 0) TS), (bp, .cells (zdo (Value.slice none 0 0) rs.length) 35)]) bx bp c rs budget [] := by
    refine ⟨by simp [setS, zab], ?_, fun i h => by simp at h, fun h => hfr.1 h.symm, by simp, by simp, by simp⟩
    simp only [setS, zab, if_true]
    rw [if_neg hfr.2, zmg]
  refine DS.reS (S' := setS bx (.cells (sC c rs bp rs.length (mtV [] c.members.length) budget 0) TS) [(bx, .cells (sC c rs bp rs.length (.v (.slice none 0 0)) budget 0) TS), (bp, .cells (zdo (Value.slice none 0 0) rs.length) 35)]) (fun b o e => by exact e) ?_
  generalize setS bx (.cells (sC c rs bp rs.length (mtV [] c.members.length) budget 0) TS) [(bx, .cells (sC c rs bp rs.length (.v (.slice none 0 0)) budget 0) TS), (bp, .cells (zdo (Value.slice none 0 0) rs.length) 35)] = S0 at *
  clear hfr h1 h2
  refine DS.loopS [3, 7] (by (simp only [go_sem, Nat.reduceEqDiff, ↓reduceIte]; exact rfl)) (fun (x : Nat × Sto × List Nat) => [(8, I x.1)]) (fun (x : Nat × Sto × List Nat) => x.2.1) (fun (x : Nat × Sto × List Nat) => x.1 ≤ c.members.length ∧ Begun x.2.1 bx bp c rs budget x.2.2 ∧ x.2.2.length = x.1) (fun (x : Nat × Sto × List Nat) => c.members.length - x.1) (0, S0, []) yS (fun b o e => by exact e) ⟨Nat.zero_le _, B0, rfl⟩ (fun x B hI hB => ?_); try dsimp only at hI hB; simp only [zap, zau]
  obtain ⟨i, S1, bs⟩ := x
  dsimp only at hI hB
  obtain ⟨g1, g2, g3⟩ := hI
  simp only [zap, zau]
  repeat' (first | (with_reducible first | refine DS.fltS yU yU yE ?_ | refine DS.opsNil ?_ | refine DS.seq ?_ | refine DS.regionL ?_ | (refine DS.cE yE ?_; refine CG.p (fun _ => ?_) (fun _ => ?_)) | refine DS.block ?_ | refine DS.exit yU ?_ | refine DS.skip ?_) | (refine DS.mkS yU yE yE yE yE yU yU ⟨by omega, by omega, by decide, by omega⟩ (fun _ hfr => ?_)) | fail)
  · rename_i e1 b
    have hfb := hfr
    clear hfr
    have hi : i < c.members.length := by omega
    have hnb : b ≠ bx ∧ b ≠ bp ∧ ¬ b ∈ bs := by
      refine ⟨?_, ?_, ?_⟩
      · intro h; rw [h, g2.obj] at hfb; cases hfb
      · intro h; rw [h, g2.pln] at hfb; cases hfb
      · intro h
        obtain ⟨j, hj, rfl⟩ := List.getElem_of_mem h
        rw [g2.row j hj (by omega)] at hfb; cases hfb
    have hB0 := hB
    clear hB
    have hz : ((b, Ob.cells (zdo (Value.bool false) ((c.members.length : Int)).toNat) 4) :: S1) = ((b, .cells (List.replicate c.members.length (Bo false)) 4) :: S1) := by rw [Int.toNat_natCast, zerosV_bool]
    rw [hz]
    clear hz
    refine DS.loopS [3, 7, 8, 9] (by (simp only [go_sem, Nat.reduceEqDiff, ↓reduceIte]; exact rfl)) (fun (y : Nat × Sto) => [(10, I y.1)]) (fun (y : Nat × Sto) => y.2) (fun (y : Nat × Sto) => y.1 ≤ c.members.length ∧ zab y.2 b = some (.cells (((c.members.map fun m => Bo (met0 c (c.members[i]'hi).id m.id)).take y.1) ++ List.replicate (c.members.length - y.1) (Bo false)) 4) ∧ ∀ b', b' ≠ b → zab y.2 b' = zab S1 b') (fun (y : Nat × Sto) => c.members.length - y.1) (0, (b, .cells (List.replicate c.members.length (Bo false)) 4) :: S1) yS (fun b o e => by exact e) ⟨Nat.zero_le _, by simp [zab], fun b' h => by simp only [zab]; rw [if_neg (fun h' => h h'.symm)]⟩ (fun y B hI hB => ?_); try dsimp only at hI hB; simp only [zap, zau]
    obtain ⟨k, S2⟩ := y
    dsimp only at hI hB
    obtain ⟨k1, k2, k3⟩ := hI
    simp only [zap, zau]
    have hx2 := (k3 bx hnb.1.symm).trans g2.obj
    repeat' (first | (with_reducible first | refine DS.fltS yU yU yX19 ?_ | refine DS.opsNil ?_ | refine DS.seq ?_ | refine DS.regionL ?_) | (with_reducible refine DS.cE yX19 ?_; with_reducible refine CG.p (fun _ => ?_) (fun _ => ?_)) | (with_reducible first | refine DS.block ?_ | refine DS.exit yU ?_ | refine DS.skip ?_) | fail)
    · rename_i e2
      have hk : k < c.members.length := by omega
      repeat' (first | with_reducible refine DS.fltS yU yU yX19 ?_ | refine DS.drawL (id := 9) [0, 1, 2, 3, 4, 5, 6, 7, 8, 9, 10, 11, 12, 13, 14, 15, 16] 17 (by kernel_rfl) zct (by simp only [zay, zbc, zbd, zbe, zax]; exact rfl) (by simp only [zav, zaw, List.drop_nil]; exact rfl) ?_ | (with_reducible first | refine DD.fltS yU yU yU yX19 ?_ | refine DD.nil0 ?_) | refine DD.pcV0 inferInstance (met_pc c hs _ _) yU yX20 ?_ | fail)
      refine DS.store yR yG yG yG k2 yU ⟨by with_unfolding_all rfl, by simp only [List.length_append, List.length_take, List.length_map, List.length_replicate]; omega⟩ ?_
      simp only [zbm, zaq, zat, zbz]
      have hrow : (((c.members.map fun m => Bo (met0 c (c.members[i]'hi).id m.id)).take k) ++ List.replicate (c.members.length - k) (Bo false)).set k (.v (.bool (met0 c (c.members[i]'hi).id (c.members[k]'hk).id))) = (((c.members.map fun m => Bo (met0 c (c.members[i]'hi).id m.id)).take (k + 1)) ++ List.replicate (c.members.length - (k + 1)) (Bo false)) := by
        apply List.ext_getElem
        · simp only [List.length_append, List.length_take, List.length_map, List.length_replicate, List.length_set]; omega
        · intro j h1 h2
          simp only [List.getElem_set, List.getElem_append, List.getElem_take, List.getElem_map, List.getElem_replicate, List.length_take, List.length_map]
          by_cases hj : k = j
          · subst hj
            rw [if_pos rfl, dif_pos (by omega)]
          · rw [if_neg hj]
            by_cases hj2 : j < k
            · rw [dif_pos (by omega), dif_pos (by omega)]
            · rw [dif_neg (by omega), dif_neg (by omega)]
      refine DS.reS (S' := setS b (.cells (((c.members.map fun m => Bo (met0 c (c.members[i]'hi).id m.id)).take (k + 1)) ++ List.replicate (c.members.length - (k + 1)) (Bo false)) 4) S2) (fun b' o e => by rw [← hrow] at e; exact e) ?_
      have k2' : zab (setS b (.cells (((c.members.map fun m => Bo (met0 c (c.members[i]'hi).id m.id)).take (k + 1)) ++ List.replicate (c.members.length - (k + 1)) (Bo false)) 4) S2) b = some (.cells (((c.members.map fun m => Bo (met0 c (c.members[i]'hi).id m.id)).take (k + 1)) ++ List.replicate (c.members.length - (k + 1)) (Bo false)) 4) := by
        rw [zbg k2, if_pos rfl]
      have k3' : ∀ b', b' ≠ b → zab (setS b (.cells (((c.members.map fun m => Bo (met0 c (c.members[i]'hi).id m.id)).take (k + 1)) ++ List.replicate (c.members.length - (k + 1)) (Bo false)) 4) S2) b' = zab S1 b' := fun b' h => by
        rw [zbg k2, if_neg h]; exact k3 b' h
      generalize setS b (.cells (((c.members.map fun m => Bo (met0 c (c.members[i]'hi).id m.id)).take (k + 1)) ++ List.replicate (c.members.length - (k + 1)) (Bo false)) 4) S2 = S3 at *
      clear hrow hx2
      repeat' (first | (with_reducible first | refine DS.fltS yU yU yE ?_ | refine DS.opsNil ?_ | refine DS.regionL ?_ | refine DS.blk ?_) | fail)
      refine DS.back (hB (k + 1, S3) _ _ (by dsimp only; omega) ⟨by dsimp only; omega, k2', k3'⟩ yS yS (fun b o e => by exact e))
    · rename_i e2
      have hke : k = c.members.length := by omega
      skip
      refine DS.loadOwn (t := 59) yR yG hx2 yU yG ?_
      repeat' (first | with_reducible refine DS.fltS yU yU yE ?_ | (refine DS.bsl yU yE yE ?_; simp only [go_sem, Nat.zero_add, Nat.reduceAdd]) | (refine DS.append (mm := false) yU yE yE yU (by decide) yE (by first | exact .inl rfl | exact .inr ⟨rfl, rfl⟩) yE yX0 (by first | exact zar zcu _ | exact zar zdm _ | exact zar Member.len _ | exact zar Sitting.len _ | exact zar Ruling.len _ | (simp only [List.mem_cons, List.not_mem_nil, or_false, forall_eq]; rfl) | simp) ⟨by (try simp only [List.length_map, List.length_cons, List.length_nil, List.length_append, List.length_take, List.length_drop]); omega, by decide⟩ ?_; simp only [zak, zac, zad, Nat.reduceEqDiff, ↓reduceIte, zag, zah, zao, zaf, zae, zal, zai]) | fail)
      have ho : zab (setS bx (.cells (sC c rs bp rs.length (.lst (bs.map (rowC c.members.length))) budget 0) TS) S2) bx = some (.cells (sC c rs bp rs.length (.lst (bs.map (rowC c.members.length))) budget 0) TS) := by rw [zbg hx2, if_pos rfl]
      have ho' : ∀ b', b' ≠ bx → zab (setS bx (.cells (sC c rs bp rs.length (.lst (bs.map (rowC c.members.length))) budget 0) TS) S2) b' = zab S2 b' := fun b' h => by rw [zbg hx2, if_neg h]
      refine DS.reS (S' := setS bx (.cells (sC c rs bp rs.length (.lst (bs.map (rowC c.members.length))) budget 0) TS) S2) (fun b' o e => by exact e) ?_
      generalize setS bx (.cells (sC c rs bp rs.length (.lst (bs.map (rowC c.members.length))) budget 0) TS) S2 = S3 at *
      refine DS.store yR yG yG yG ho yU ⟨by with_unfolding_all rfl, by simp only [zpb, List.length_cons, List.length_nil]; omega⟩ ?_
      simp only [zbm, zaq, zat, zbz, zbn, zbl]
      have hm : List.map (rowC c.members.length) bs ++ [[V.v (Value.slice (some ⟨b, 0, none⟩) c.members.length c.members.length)]] = List.map (rowC c.members.length) (bs ++ [b]) := by rw [List.map_append]; rfl
      rw [hm]
      have hset : (sC c rs bp rs.length (.lst (bs.map (rowC c.members.length))) budget 0).set 10 (mtV (bs ++ [b]) c.members.length) = sC c rs bp rs.length (mtV (bs ++ [b]) c.members.length) budget 0 := rfl
      refine DS.reS (S' := setS bx (.cells (sC c rs bp rs.length (mtV (bs ++ [b]) c.members.length) budget 0) TS) S3) (fun b' o e => by rw [← hset] at e; exact e) ?_
      have hb1 : zab (setS bx (.cells (sC c rs bp rs.length (mtV (bs ++ [b]) c.members.length) budget 0) TS) S3) bx = some (.cells (sC c rs bp rs.length (mtV (bs ++ [b]) c.members.length) budget 0) TS) := by rw [zbg ho, if_pos rfl]
      have hb2 : ∀ b', b' ≠ bx → zab (setS bx (.cells (sC c rs bp rs.length (mtV (bs ++ [b]) c.members.length) budget 0) TS) S3) b' = zab S2 b' := fun b' h => by rw [zbg ho, if_neg h]; exact ho' b' h
      generalize setS bx (.cells (sC c rs bp rs.length (mtV (bs ++ [b]) c.members.length) budget 0) TS) S3 = S4 at *
      have G4 : Begun S4 bx bp c rs budget (bs ++ [b]) := by
        refine ⟨hb1, ((hb2 bp g2.xp.symm).trans (k3 bp hnb.2.1.symm)).trans g2.pln, fun j h h' => ?_, g2.xp, ?_, ?_, ?_⟩
        · by_cases hj : j < bs.length
          · have e : (bs ++ [b])[j] = bs[j] := by rw [List.getElem_append_left hj]
            have hm' : bs[j] ∈ bs := List.getElem_mem hj
            rw [e, hb2 _ (fun h => g2.xb (h ▸ hm')), k3 _ (fun h => hnb.2.2 (h ▸ hm'))]
            exact g2.row j hj h'
          · have hje : j = i := by simp only [List.length_append, List.length_cons, List.length_nil] at h; omega
            subst hje
            have e : (bs ++ [b])[j] = b := by rw [List.getElem_append_right (by omega)]; simp only [g3, Nat.sub_self, List.getElem_cons_zero]
            rw [e, hb2 _ hnb.1, k2]
            have ht : List.take k (List.map (fun m => Bo (met0 c c.members[j].id m.id)) c.members) ++ List.replicate (c.members.length - k) (Bo false) = List.map (fun m => Bo (met0 c c.members[j].id m.id)) c.members := by
              rw [List.take_of_length_le (by rw [List.length_map]; omega), hke, Nat.sub_self]; simp
            rw [ht]
        · simp only [List.mem_append, List.mem_singleton]; rintro (h | h)
          · exact g2.xb h
          · exact hnb.1 h.symm
        · simp only [List.mem_append, List.mem_singleton]; rintro (h | h)
          · exact g2.pb h
          · exact hnb.2.1 h.symm
        · rw [List.nodup_append]
          refine ⟨g2.nd, by simp, fun x hx y hy => ?_⟩
          rw [List.mem_singleton] at hy
          subst hy
          exact fun h => hnb.2.2 (h ▸ hx)
      clear hm hset hb1 hb2 ho ho' k2 k3 hx2 B0 hke
      repeat' (first | (with_reducible first | refine DS.fltS yU yU yE ?_ | refine DS.opsNil ?_ | refine DS.regionL ?_ | refine DS.blk ?_) | fail)
      refine DS.back (hB0 (i + 1, S4, bs ++ [b]) _ _ (by dsimp only; omega) ⟨by dsimp only; omega, G4, by simp only [List.length_append, List.length_cons, List.length_nil]; omega⟩ yS yS (fun b o e => by exact e))
  · refine DS.retA yG ⟨bx, bp, bs, rfl, ?_⟩
    have hl : bs.length = c.members.length := by omega
    refine ⟨by rw [List.length_replicate]; exact g2.obj, ⟨hl, g2.row⟩, ?_, fun j h => ?_, g2.xp, g2.xb, g2.pb, g2.nd, fun j h b cap jk hb => ?_, fun j k hj hk b cap cap2 jk jk2 hb _ => ?_⟩
    · rw [g2.pln, List.map_replicate]; rfl
    · rw [List.getElem_replicate]; rfl
    · rw [List.getElem_replicate] at hb; cases hb
    · rw [List.getElem_replicate] at hb; cases hb
end Go.XL
namespace Go.XL
open Go.Proofs
set_option maxRecDepth 100000
set_option maxHeartbeats 8000000
theorem zld : ∀ {l : List Member} {last : Int}, 0 ≤ last → zdi l last = 0 → l.Pairwise fun a b => a.id < b.id
  | [], _, _, _ => .nil
  | m :: l, last, h0, h => by
    have hf := zes h0 h
    have hm := hf.1 m (List.mem_cons_self ..)
    have h1 : 0 ≤ m.id := by omega
    simp only [zdi] at h
    repeat' split at h
    all_goals first
      | exact .cons (fun x hx => (zes h1 h).1 x hx) (zld h1 h)
      | exact absurd h (by decide)
theorem asc_of {c : Club} (h : zdv c.members = 0) : c.Asc := by
  unfold zdv at h
  split at h
  · cases h
  · exact zld (Int.le_refl 0) h
theorem zel {c : Club} (h : zcx c = 0) : zfb c = 0 ∧ zdv c.members = 0 ∧ c.rounds.length ≤ 20 := by
  unfold zcx at h
  split at h
  · contradiction
  split at h
  · contradiction
  split at h
  · cases h
  exact ⟨by omega, by omega, by omega⟩
theorem zrr (a b : Int) : ∀ T, metT a b T = metT b a T
  | [] => rfl
  | t :: r => by
    simp only [metT]
    rw [zrr a b r]
    congr 1
    by_cases h : a ≠ b ∧ a ∈ t ∧ b ∈ t
    · rw [if_pos h, if_pos ⟨h.1.symm, h.2.2, h.2.1⟩]
    · rw [if_neg h, if_neg (fun h' => h ⟨h'.1.symm, h'.2.2, h'.2.1⟩)]
theorem zrs (c : Club) (a b : Int) : metS c a b = metS c b a := by
  unfold metS
  generalize c.rounds = l
  induction l with
  | nil => rfl
  | cons s r ih => simp only [zms, ih, zrr a b]
theorem zny (c : Club) (a b : Int) : met0 c a b = met0 c b a := by simp only [met0, zrs c a b]
theorem zvg {budget : Int} {round R : Nat} {rec : List Int → Int → Int × Int × List (Nat × List Int)} (hr : round < R) (h : ∀ t s, ∀ q ∈ (rec t s).2.2, q.1 < R) : ∀ (l : List (List Int)) (s : Int), ∀ q ∈ (tryL budget round rec l s).2.2, q.1 < R
  | [], s, q, hq => by simp [tryL] at hq
  | t :: r, s, q, hq => by
    simp only [tryL] at hq
    split at hq
    · simp at hq
    split at hq
    · exact zvg hr h r _ q hq
    · rcases List.mem_cons.1 hq with rfl | hq
      · exact hr
      · exact h _ _ q hq
theorem zqe {size : Nat} {budget : Int} {rounds : List (List Int)} : ∀ (n : Nat) (met : Int → Int → Bool) (round : Nat) (ids : List Int) (s : Int), round < rounds.length → ∀ q ∈ (srch size budget rounds n met round ids s).2.2, q.1 < rounds.length
  | 0, met, round, ids, s, hr, q, hq => by simp [srch] at hq
  | n + 1, met, round, [], s, hr, q, hq => by
    rw [srch] at hq
    split at hq
    · simp at hq
    · exact zqe n met _ _ _ (by omega) q hq
  | n + 1, met, round, f :: fr, s, hr, q, hq => by
    rw [srch] at hq
    exact zvg hr (fun t s => zqe n _ _ _ _ hr) _ _ q hq
theorem zlj {c : Club} {round : Int} : ∀ {t : List Int} {pre : Option Int}, zdk c round t pre = 0 → t.Pairwise (· < ·) ∧ ∀ p, pre = some p → ∀ x ∈ t, p < x
  | [], _, _ => ⟨.nil, fun _ _ _ h => (List.not_mem_nil h).elim⟩
  | x :: t, pre, e => by
    simp only [zdk] at e
    split at e
    · cases e
    split at e
    · cases e
    split at e
    · cases e
    rename_i h3
    obtain ⟨h4, h5⟩ := zlj e
    have h6 := h5 x rfl
    refine ⟨.cons h6 h4, fun p hp y hy => ?_⟩
    subst hp
    simp only [zhc, decide_eq_true_eq] at h3
    rcases List.mem_cons.1 hy with rfl | hy
    · omega
    · have := h6 y hy; omega
theorem asc_nodup {t : List Int} (h : t.Pairwise (· < ·)) : t.Nodup := List.Pairwise.imp (fun h => by omega) h
theorem zhq : ∀ (T : List (List Int)) (jk : List V), chunk 1 T.length (List.map V.copy (List.map (fun t => ints t) T ++ jk)) = T.map cR
  | [], _ => rfl
  | t :: T, jk => by
    have := zhq T jk
    simp only [List.length_cons, chunk, List.map_cons, List.cons_append, List.take_succ_cons, List.take_zero, List.drop_succ_cons, List.drop_zero, this]
    rfl
theorem nextR_pc (c : Club) (hs : c.Small) (ids : List Int) (hl : ids.length ≤ 1000000) : PC Try.prog 19 [c.val, ints ids] (tupV [rows (zjy c ids).1, I (zjy c ids).2]) := by
  have q1 := hs.rounds
  have q2 := hs.members
  rw [zjy]
  by_cases hc : zcx c = 0
  · obtain ⟨k1, k2, k3⟩ := zel hc
    have f := zoq hc
    have g := zkh k1
    have ha := asc_of k2
    rw [if_neg (by omega)]
    refine DC.of_run Try.func19 rfl Try.ntmps19 Try.results19 (by simp) (fun _ => ?_); simp only [zan, zas, go_sem, Nat.zero_add, Nat.reduceAdd]
    repeat' (first | (with_reducible first | refine DS.fltS yU yU yE ?_ | refine DS.opsNil ?_ | refine DS.seq ?_ | refine DS.regionL ?_ | (refine DS.cE yE ?_; first | refine CG.p (fun _ => ?_) (fun _ => ?_) | refine CG.no ?_) | refine DS.block ?_ | refine DS.skip ?_) | refine DS.pcS inferInstance (zgs c hs) yR yT ?_ | (refine DS.boxF (t := 2) yU yE yU ?_; simp only [zbk, zcd, zbi, zbu, zbf, zaz, zbp, zbb, zca, zcc, zbq, zcb, zbt, zbs]) | refine DS.retT [] yE trivial ?_ | fail)
    · rename_i e1
      rw [if_pos (by omega)]; rfl
    · rename_i e1 e2
      rw [if_neg (by omega), if_pos (by omega)]; rfl
    rename_i e1 e2
    rw [if_neg (by omega), if_neg (by omega)]
    refine DS.loopK [1, 2] (by (simp only [go_sem, Nat.reduceEqDiff, ↓reduceIte]; exact rfl)) (fun (j : Nat) => [(7, I j)]) (fun (j : Nat) => j ≤ ids.length ∧ zdk c c.rounds.length ids none = zdk c c.rounds.length (ids.drop j) (zjx ids j)) (fun (j : Nat) => ids.length - j) 0 yS (by simp [zjx]) (fun j B hI hB => ?_); try dsimp only at hI hB; simp only [zap, zau]
    repeat' (first | (with_reducible first | refine DS.fltS yU yU yE ?_ | refine DS.opsNil ?_ | refine DS.seq ?_ | refine DS.regionL ?_ | (refine DS.cE yE ?_; first | refine CG.np (fun _ => ?_) (fun _ => ?_) | refine CG.p (fun _ => ?_) (fun _ => ?_)) | refine DS.block ?_ | refine DS.exit yU ?_ | refine DS.skip ?_) | (refine DS.bsl yU yE yE ?_; simp only [go_sem, Nat.zero_add, Nat.reduceAdd]) | refine DS.pcS inferInstance (zhl c _ (by omega)) yR yT ?_ | refine DS.drawL (id := 11) [0, 1, 2, 3, 4] 5 (by kernel_rfl) zct (by simp only [zay, zbc, zbd, zbe, zax]; exact rfl) (by simp only [zav, zaw, List.drop_nil]; exact rfl) ?_ | refine DS.drawL (id := 14) [0, 1, 2, 3, 4, 5, 6, 7] 8 (by kernel_rfl) zct (by simp only [zay, zbc, zbd, zbe, zax]; exact rfl) (by simp only [zav, zaw, List.drop_nil]; exact rfl) ?_ | (with_reducible first | refine DD.fltS yU yU yU yE ?_ | refine DD.nil0 ?_) | refine DS.retT [] yE trivial ?_ | fail)
    · rename_i e3 e4
      obtain ⟨_, r, dr1, rfl, dr3⟩ := zcf (l := ids) (i := j) (by omega); rw [dr1] at hI
      have hid : zdk c c.rounds.length ids none = 7 := by rw [hI.2, zdk, if_pos e4]
      rw [hid, if_pos (by decide)]; rfl
    · rename_i e3 e4
      obtain ⟨m, hm, e5, -, e7⟩ := zfv e4
      have H := And.intro e5 e7
      simp only [e5]
      clear e5 e7 e4
      repeat' (first | (with_reducible first | refine DS.fltS yU yU yE ?_ | refine DS.opsNil ?_ | refine DS.seq ?_ | refine DS.regionL ?_ | (refine DS.cE yE ?_; first | refine CG.p (fun _ => ?_) (fun _ => ?_) | refine CG.no ?_ | refine CG.nb (fun _ => ?_) (fun _ => ?_)) | (refine DS.gE yU yE ?_; first | refine GG.run ?_ | refine GG.sF ?_) | refine DS.blk ?_ | refine DS.skip ?_) | refine DS.pcS inferInstance (zno _ _) yR yT ?_ | refine DS.drawL (id := 16) [0, 1, 2, 3, 4, 5, 6, 7, 8, 9, 10, 11] 12 (by kernel_rfl) zct (by simp only [zay, zbc, zbd, zbe, zax]; exact rfl) (by simp only [zav, zaw, List.drop_nil]; exact rfl) ?_ | (with_reducible first | refine DD.fltS yU yU yU yE ?_ | (refine DD.gE yU yE ?_; first | refine DGG.pT (fun _ => ?_) (fun _ => ?_) | refine DGG.run ?_ | refine DGG.sF ?_) | refine DD.nil0 ?_) | refine DS.retT [] yE trivial ?_ | fail)
      all_goals have e8 := zlz (f.to _ (List.getElem_mem hm)) c.rounds.length
      all_goals obtain ⟨_, r, dr1, rfl, dr3⟩ := zcf (l := ids) (i := j) (by omega); rw [dr1] at hI
      · rename_i e9
        rw [e8] at e9
        have hid : zdk c c.rounds.length ids none = 10 := by rw [hI.2, zdk, if_neg (by rw [H.1]; omega), if_pos (by rw [H.2]; exact e9)]
        rw [hid, if_pos (by decide)]; rfl
      · rename_i e9 e10 e11
        rw [e8] at e9
        obtain ⟨e12, e13⟩ := zfx (t := ids) (k := j) (by omega) (by omega)
        have hid : zdk c c.rounds.length ids none = 11 := by rw [hI.2, zdk, if_neg (by rw [H.1]; omega), if_neg (by rw [H.2, e9]; decide), if_pos (by rw [e13]; simp only [zhc]; exact decide_eq_true e11)]
        rw [hid, if_pos (by decide)]; rfl
      · rename_i e9 e10 e11
        rw [e8] at e9
        obtain ⟨e12, e13⟩ := zfx (t := ids) (k := j) (by omega) (by omega)
        exact DS.back (hB (j + 1) _ _ (by omega) (⟨by omega, by rw [hI.2, dr3, zdk, if_neg (by rw [H.1]; omega), if_neg (by rw [H.2, e9]; decide), if_neg (by rw [e13]; simp only [zhc]; simpa using e11), zfc (by omega)]⟩) yS yS (fun b o e => by first | exact e | (simp only [zaa]; split <;> simp_all)))
      · rename_i e9 e10
        rw [e8] at e9
        have e13 : zhc (zjx ids j) ids[j] = false := by
          have : j = 0 := by omega
          subst this; rfl
        exact DS.back (hB (j + 1) _ _ (by omega) (⟨by omega, by rw [hI.2, dr3, zdk, if_neg (by rw [H.1]; omega), if_neg (by rw [H.2, e9]; decide), if_neg (by rw [e13]; decide), zfc (by omega)]⟩) yS yS (fun b o e => by first | exact e | (simp only [zaa]; split <;> simp_all)))
    all_goals (rename_i e3 e4; have hid : zdk c c.rounds.length ids none = 0 := by rw [hI.2, List.drop_eq_nil_of_le (by omega)]; rfl)
    · rw [hid, if_neg (by decide), if_pos (by have := Int.tmod_nonneg (a := (ids.length : Int)) c.size (by omega); omega)]; rfl
    rw [hid, if_neg (by decide), if_neg (by omega)]
    have hmem := zli hid
    have hnd := asc_nodup (zlj hid).1
    refine DS.callA inferInstance (begin_dc c hs [ids] (-1) (by simp)) yR yG (fun u S' hu => ?_)
    obtain ⟨bx, bp, bs, rfl, s0⟩ := hu
    repeat' (first | (with_reducible first | refine DS.fltS yU yU yE ?_ | refine DS.opsNil ?_ | refine DS.seq ?_ | refine DS.regionL ?_) | fail)
    have hgo := zwe hs ha g.1 (rs := [ids]) (by simp) (fun x hx => by rw [List.mem_singleton] at hx; subst hx; exact ⟨by omega, hnd, hmem⟩) (zlk [ids]) S' (met0 c) 0 (List.replicate 1 ⟨[], none⟩) 0 s0 rfl (by simp) (fun i h1 h2 => by simp at h2; omega) (zny c) (by simp [mzS, zlk, zrz]; omega) (fun i h => by simp [zlk]; omega)
    refine DS.callA inferInstance hgo yR (by simp (disch := omega) only [go_sem, dopV, Option.map_some, Option.map_none, Option.bind_some, Option.bind_none, ↓reduceIte, Nat.reduceEqDiff, Nat.reduceLT, Nat.reduceLeDiff, Nat.reduceAdd, Nat.reduceMul, Nat.reduceSub, Nat.zero_add, Nat.add_zero, Nat.zero_le, Nat.zero_mul, Nat.mul_one, Nat.one_mul, Int.natCast_zero, Int.toNat_zero, Int.reduceToNat, Int.reduceLT, Int.reduceLE, Int.reduceEq, decide_true, decide_false, true_and, and_true, Bool.and_self, Bool.and_true, Bool.true_and, Bool.not_true, Bool.not_false, IntWalk.toNatUp, IntWalk.iteOmega, IntWalk.i64_in, Option.isSome_some, not_true_eq_false, not_false_eq_true, Option.getD_some, Option.getD_none, Int.toNat_natCast, List.length_map, List.getElem?_map, List.getElem?_eq_getElem, V.flat, V.one, List.all_cons, List.all_nil]) (fun u S1 hu => ?_)
    obtain ⟨rfl, met1, ps1, s1, hp1, -, hp2⟩ := hu
    have hrun : srch c.size.toNat (-1) [ids] (zlk [ids]) (met0 c) 0 (zfr [ids][0] (List.replicate 1 (⟨[], none⟩ : PRow))[0].rows) 0 = runS c [ids] (-1) := by
      rw [runS]; congr 1; simp [zfr]
    rw [hrun] at s1 hp2 ⊢
    have hlt : ∀ q ∈ (runS c [ids] (-1)).2.2, q.1 < 1 := zqe (rounds := [ids]) (zlk [ids]) (met0 c) 0 _ 0 (by simp)
    clear hrun hgo
    repeat' (first | (with_reducible first | refine DS.fltS yU yU yE ?_ | refine DS.opsNil ?_ | refine DS.seq ?_ | refine DS.regionL ?_ | (refine DS.cE yE ?_; refine CG.np (fun _ => ?_) (fun _ => ?_)) | refine DS.skip ?_) | fail)
    · rename_i e5
      rw [if_pos e5]
      refine DS.retT [] yG trivial rfl
    · rename_i e5
      rw [if_neg (by omega)]
      have hps : 0 < ps1.length := by rw [hp1]; decide
      have hrows := hp2 e5 0 (by simp) hps
      have hfil : (runS c [ids] (-1)).2.2.filter (fun q => decide (q.1 = 0)) = (runS c [ids] (-1)).2.2 := List.filter_eq_self.2 fun q hq => by have := hlt q hq; exact decide_eq_true (by omega)
      rw [hfil] at hrows
      simp only [List.replicate, List.getElem_cons_zero, List.nil_append] at hrows
      rw [← hrows]
      have hpl1 : ps1.length = 1 := by simpa using hp1
      obtain ⟨p, rfl⟩ := List.length_eq_one_iff.1 hpl1
      have hx := s1.obj
      have hpl := s1.pln
      have hr := s1.row 0 hps
      simp only [List.length_singleton, List.map_cons, List.map_nil, List.getElem_cons_zero] at hx hpl hr ⊢
      clear hp2 hp1 hrows hfil hlt s1 hpl1
      obtain ⟨T, blk⟩ := p
      cases blk with
      | none =>
        simp only [PRow.Ok] at hr
        subst hr
        simp only [PRow.cell] at hpl
        repeat' (first | (with_reducible first | refine DS.fltS yU yU yX1 ?_ | refine DS.opsNil ?_) | fail)
        refine DS.retT [] yG trivial rfl
      | some z =>
        obtain ⟨b, cap, jk⟩ := z
        simp only [PRow.Ok] at hr
        obtain ⟨r1, r2, r3, r4⟩ := hr
        simp only [PRow.cell] at hpl
        repeat' (first | (with_reducible first | refine DS.fltS yU yU yX1 ?_ | refine DS.opsNil ?_) | fail)
        refine DS.freeze (t := 4) (sz := 1) yR r1 (by simp) ⟨by omega, r3⟩ ?_
        refine DS.retT [] yG trivial ?_
        rw [zhq]
        rfl
  · rw [if_pos hc]
    refine DC.of_run Try.func19 rfl Try.ntmps19 Try.results19 (by simp) (fun _ => ?_); simp only [zan, zas, go_sem, Nat.zero_add, Nat.reduceAdd]
    repeat' (first | (with_reducible first | refine DS.fltS yU yU yE ?_ | refine DS.opsNil ?_ | refine DS.seq ?_ | refine DS.regionL ?_ | (refine DS.cE yE ?_; refine CG.yes ?_)) | refine DS.pcS inferInstance (zgs c hs) yR yT ?_ | (refine DS.boxF (t := 2) yU yE yU ?_; simp only [zbk, zcd, zbi, zbu, zbf, zaz, zbp, zbb, zca, zcc, zbq, zcb, zbt, zbs]) | refine DS.retT [] yE trivial ?_ | fail)
    rfl
end Go.XL
namespace Go.XL
open Go.Proofs
set_option maxRecDepth 100000
set_option maxHeartbeats 8000000
theorem tablesC_rc (S : Sto) (g : GR) (l : List Int) (n : Int) (ok : g.Ok 3 1 S) (hg : g.l = l.map cI) {b : Nat} {T : TypeId} (hb : zab S b = some (.cells [g.cell] T)) :
    RC Try.prog 116 [I n, .v (.pointer (some ⟨b, 0, none⟩))] S (Bo (decide (n ∈ l))) := by
  have h := contains_rc S g l n ok hg
  have hc := g.cell_copy
  clear ok hg
  obtain ⟨gl, blk⟩ := g
  cases blk with
  | none =>
    simp only [GR.cell, zql] at h hb
    refine DC.of_run Try.func116 rfl Try.ntmps116 Try.results116 (by simp) (fun _ => ?_); simp only [zan, zas, go_sem, Nat.zero_add, Nat.reduceAdd]
    repeat' (first | (with_reducible first | refine DS.fltS yU yU yE ?_ | refine DS.opsNil ?_ | refine DS.seq ?_ | refine DS.regionL ?_) | refine DS.rcS inferInstance (h) yR yT ?_ | refine DS.retA yE ⟨?_, rfl⟩ | fail)
    rfl
  | some x =>
    obtain ⟨b, cap, j⟩ := x
    simp only [GR.cell, zjo] at h hb
    refine DC.of_run Try.func116 rfl Try.ntmps116 Try.results116 (by simp) (fun _ => ?_); simp only [zan, zas, go_sem, Nat.zero_add, Nat.reduceAdd]
    repeat' (first | (with_reducible first | refine DS.fltS yU yU yE ?_ | refine DS.opsNil ?_ | refine DS.seq ?_ | refine DS.regionL ?_) | refine DS.rcS inferInstance (h) yR yT ?_ | refine DS.retA yE ⟨?_, rfl⟩ | fail)
    rfl
theorem zuw (c : Club) (id : Int) : PC Try.prog 54 [c.val, I id] (I (zgw c id)) := find_pc c id
theorem yX21 {p : Prop} (h : p := by (simp (disch := omega) only [go_sem, dopV, Option.map_some, Option.map_none, Option.bind_some, Option.bind_none, ↓reduceIte, Nat.reduceEqDiff, Nat.reduceLT, Nat.reduceLeDiff, Nat.reduceAdd, Nat.reduceMul, Nat.reduceSub, Nat.zero_add, Nat.add_zero, Nat.zero_le, Nat.zero_mul, Nat.mul_one, Nat.one_mul, Int.natCast_zero, Int.toNat_zero, Int.reduceToNat, Int.reduceLT, Int.reduceLE, Int.reduceEq, decide_true, decide_false, true_and, and_true, Bool.and_self, Bool.and_true, Bool.true_and, Bool.not_true, Bool.not_false, IntWalk.toNatUp, IntWalk.iteOmega, IntWalk.i64_in, Option.isSome_some, not_true_eq_false, not_false_eq_true, Option.getD_some, Option.getD_none, Int.toNat_natCast, List.length_map, List.getElem?_map, List.getElem?_eq_getElem, V.flat, V.one, List.all_cons, List.all_nil, *, GR.cell_copy]; exact rfl)) : p := h
theorem tables_pc (c : Club) (hs : c.Small) (f : c.Fine) (h1 : c.size ≤ 4) (h2 : 3 ≤ c.size) {i : Nat} (hi : i < c.rounds.length) : PC Try.prog 92 [c.val, I i] (I (zef c i)) := by
  have q1 := hs.rounds
  have q2 := hs.at hi
  have q3 := q2.tables
  have q4 := hs.members
  rw [zef, c.round_at hi]
  refine DC.of_run Try.func92 rfl Try.ntmps92 Try.results92 (by simp) (fun _ => ?_); simp only [zan, zas, go_sem, Nat.zero_add, Nat.reduceAdd]
  repeat' (first | (with_reducible first | refine DS.fltS yU yU yE ?_ | refine DS.opsNil ?_ | refine DS.seq ?_ | refine DS.regionL ?_) | (refine DS.boxF (t := 2) yU yE yU ?_; simp only [zbk, zcd, zbi, zbu, zbf, zaz, zbp, zbb, zca, zcc, zbq, zcb, zbt, zbs]) | fail)
  refine DS.allocS yR yU yU (fun b5 hb5 => ?_)
  have hz : (List.map V.v (Value.slice none 0 0).cells.toList) = [GR.cell ⟨[], none⟩] := rfl
  rw [hz]
  clear hz hb5
  repeat' (first | (with_reducible first | refine DS.fltS yU yU yE ?_ | refine DS.opsNil ?_ | refine DS.seq ?_ | refine DS.regionL ?_ | refine DS.block ?_) | fail)
  refine DS.loopS [1, 2, 5, 17, 18] (by (simp only [go_sem, Nat.reduceEqDiff, ↓reduceIte]; exact rfl)) (fun (x : Nat × Int × List Int × GR × Sto) => [(6, I x.2.1), (19, I x.1)]) (fun (x : Nat × Int × List Int × GR × Sto) => x.2.2.2.2) (fun (x : Nat × Int × List Int × GR × Sto) => x.1 ≤ c.rounds[i].tables.length ∧ x.2.2.1.length ≤ 4 * x.1 ∧ zdn c i c.rounds[i].tables [] 0 = zdn c i (c.rounds[i].tables.drop x.1) x.2.2.1 x.2.1 ∧ x.2.2.2.1.l = x.2.2.1.map cI ∧ x.2.2.2.1.Ok 3 1 x.2.2.2.2 ∧ zab x.2.2.2.2 b5 = some (.cells [x.2.2.2.1.cell] 22) ∧ ∀ cap j, x.2.2.2.1.blk ≠ some (b5, cap, j)) (fun (x : Nat × Int × List Int × GR × Sto) => c.rounds[i].tables.length - x.1) (0, 0, [], ⟨[], none⟩, [(b5, .cells [GR.cell ⟨[], none⟩] 22)]) yS (fun b o e => by exact e) ⟨Nat.zero_le _, by simp, rfl, rfl, rfl, by simp [zab], fun _ _ h => by cases h⟩ (fun x B hI hB => ?_); try dsimp only at hI hB; simp only [zap, zau]
  obtain ⟨k, first, l, g, S⟩ := x
  dsimp only at hI hB
  obtain ⟨g1, g2, g3, g4, g5, g6, g7⟩ := hI
  have hI0 := And.intro g3 (And.intro g4 (And.intro g5 (And.intro g6 g7)))
  have hB0 := hB
  clear hB g3 g4 g5 g6 g7
  repeat' (first | (with_reducible first | refine DS.fltS yU yU yE ?_ | refine DS.opsNil ?_ | refine DS.seq ?_ | refine DS.regionL ?_ | (refine DS.cE yE ?_; first | refine CG.np (fun _ => ?_) (fun _ => ?_) | refine CG.p (fun _ => ?_) (fun _ => ?_)) | refine DS.block ?_ | refine DS.exit yU ?_ | refine DS.skip ?_) | refine DS.retT [] yE trivial ?_ | fail)
  · rename_i e1 e2
    obtain ⟨_, r0, dr4, rfl, dr6⟩ := zcf (l := c.rounds[i].tables) (i := k) (by omega); rw [dr4] at hI0
    rw [hI0.1, zmh e2]; rfl
  · rename_i e1 e2
    have hk : k < c.rounds[i].tables.length := by omega
    refine DS.loopK [1, 2, 5, 6, 8, 17, 18, 19, 28, 29] (by (simp only [go_sem, Nat.reduceEqDiff, ↓reduceIte]; exact rfl)) (fun (j : Nat) => [(30, I j)]) (fun (j : Nat) => j ≤ c.rounds[i].tables[k].length ∧ zdk c i c.rounds[i].tables[k] none = zdk c i (c.rounds[i].tables[k].drop j) (zjx c.rounds[i].tables[k] j)) (fun (j : Nat) => c.rounds[i].tables[k].length - j) 0 yS (by simp [zjx]) (fun j B hI hB => ?_); try dsimp only at hI hB; simp only [zap, zau]
    repeat' (first | (with_reducible first | refine DS.fltS yU yU yE ?_ | refine DS.opsNil ?_ | refine DS.seq ?_ | refine DS.regionL ?_ | (refine DS.cE yE ?_; refine CG.p (fun _ => ?_) (fun _ => ?_)) | refine DS.block ?_ | refine DS.exit yU ?_ | refine DS.skip ?_) | refine DS.pcS inferInstance (zuw c _) yR yT ?_ | refine DS.retT [] yE trivial ?_ | fail)
    · rename_i e3 e4
      obtain ⟨_, r, dr1, rfl, dr3⟩ := zcf (l := c.rounds[i].tables[k]) (i := j) (by omega); rw [dr1] at hI
      obtain ⟨_, r0, dr4, rfl, dr6⟩ := zcf (l := c.rounds[i].tables) (i := k) (by omega); rw [dr4] at hI0
      rw [hI0.1, zey (e := 7) e2 (by rw [hI.2, zdk, if_pos e4]) (by decide)]; rfl
    · rename_i e3 e4
      obtain ⟨m, hm, e5, -, e7⟩ := zfv e4
      have H := And.intro e5 e7
      simp only [e5]
      clear e5 e7 e4
      repeat' (first | (with_reducible first | refine DS.fltS yU yU yE ?_ | refine DS.opsNil ?_ | refine DS.seq ?_ | refine DS.regionL ?_ | (refine DS.cE yE ?_; first | refine CG.p (fun _ => ?_) (fun _ => ?_) | refine CG.no ?_ | refine CG.nb (fun _ => ?_) (fun _ => ?_)) | (refine DS.gE yU yE ?_; first | refine GG.pT (fun _ => ?_) (fun _ => ?_) | refine GG.run ?_ | refine GG.sF ?_) | refine DS.blk ?_ | refine DS.skip ?_) | refine DS.pcS inferInstance (zua _ _) yR yT ?_ | refine DS.retT [] yE trivial ?_ | fail)
      all_goals obtain ⟨_, r, dr1, rfl, dr3⟩ := zcf (l := c.rounds[i].tables[k]) (i := j) (by omega); rw [dr1] at hI
      · rename_i e9
        obtain ⟨_, r0, dr4, rfl, dr6⟩ := zcf (l := c.rounds[i].tables) (i := k) (by omega); rw [dr4] at hI0
        rw [hI0.1, zey (e := 10) e2 (by rw [hI.2, zdk, if_neg (by rw [H.1]; omega), if_pos (by rw [H.2]; exact e9)]) (by decide)]; rfl
      · rename_i e9 e10 e11
        obtain ⟨e12, e13⟩ := zfx (t := c.rounds[i].tables[k]) (k := j) (by omega) (by omega)
        obtain ⟨_, r0, dr4, rfl, dr6⟩ := zcf (l := c.rounds[i].tables) (i := k) (by omega); rw [dr4] at hI0
        rw [hI0.1, zey (e := 11) e2 (by rw [hI.2, zdk, if_neg (by rw [H.1]; omega), if_neg (by rw [H.2, e9]; decide), if_pos (by rw [e13]; simp only [zhc]; exact decide_eq_true e11)]) (by decide)]; rfl
      · rename_i e9 e10 e11
        obtain ⟨e12, e13⟩ := zfx (t := c.rounds[i].tables[k]) (k := j) (by omega) (by omega)
        exact DS.back (hB (j + 1) _ _ (by omega) (⟨by omega, by rw [hI.2, dr3, zdk, if_neg (by rw [H.1]; omega), if_neg (by rw [H.2, e9]; decide), if_neg (by rw [e13]; simp only [zhc]; simpa using e11), zfc (by omega)]⟩) yS yS (fun b o e => by first | exact e | (simp only [zaa]; split <;> simp_all)))
      · rename_i e9 e10
        have e13 : zhc (zjx c.rounds[i].tables[k] j) c.rounds[i].tables[k][j] = false := by
          have : j = 0 := by omega
          subst this; rfl
        exact DS.back (hB (j + 1) _ _ (by omega) (⟨by omega, by rw [hI.2, dr3, zdk, if_neg (by rw [H.1]; omega), if_neg (by rw [H.2, e9]; decide), if_neg (by rw [e13]; decide), zfc (by omega)]⟩) yS yS (fun b o e => by first | exact e | (simp only [zaa]; split <;> simp_all)))
    · rename_i e3
      have hids : zdk c i c.rounds[i].tables[k] none = 0 := by rw [hI.2, List.drop_eq_nil_of_le (by omega)]; rfl
      clear hI hB
      have hcf := containsFunc_rc S c.rounds[i].tables[k] (fun x => decide (x ∈ l)) inferInstance (g := 116) (fs := []) (cs := [.v (.pointer (some ⟨b5, 0, none⟩))]) (fun x => tablesC_rc S g l x hI0.2.2.1 hI0.2.1 hI0.2.2.2.1)
      repeat' (first | (with_reducible first | refine DS.fltS yU yU yE ?_ | refine DS.opsNil ?_ | refine DS.seq ?_ | refine DS.regionL ?_ | (refine DS.cE yE ?_; first | refine CG.p (fun _ => ?_) (fun _ => ?_) | refine CG.b (fun _ => ?_) (fun _ => ?_)) | refine DS.skip ?_) | refine DS.rcS inferInstance (hcf) yR yT ?_ | refine DS.retT [] yE trivial ?_ | fail)
      · rename_i e4
        obtain ⟨_, r0, dr4, rfl, dr6⟩ := zcf (l := c.rounds[i].tables) (i := k) (by omega); rw [dr4] at hI0
        obtain ⟨x, hx, hx2⟩ := List.any_eq_true.1 e4
        obtain ⟨j, hj, rfl⟩ := List.getElem_of_mem hx
        rw [hI0.1, zkc e2 hids (k := j) hj (by simpa using hx2)]; rfl
      all_goals rename_i e4 e5
      all_goals
        have hno : ∀ x ∈ c.rounds[i].tables[k], ¬ x ∈ l := fun x hx hx2 => by
          have : (c.rounds[i].tables[k].any fun x => decide (x ∈ l)) = true := List.any_eq_true.2 ⟨x, hx, by simpa using hx2⟩
          rw [this] at e4; cases e4
        have hhd := zof (t := c.rounds[i].tables[k]) (by omega)
      · obtain ⟨_, r0, dr4, rfl, dr6⟩ := zcf (l := c.rounds[i].tables) (i := k) (by omega); rw [dr4] at hI0
        rw [hI0.1, zkb e2 hids hno (by rw [hhd]; exact e5)]; rfl
      · obtain ⟨p1, p2, p3, p4, p5⟩ := hI0
        obtain ⟨S0, S1, s0, s1, s2, s3⟩ := GR.split p3
        have hx0 : zab S0 b5 = some (.cells [g.cell] 22) := (s3 b5 p5).1.trans p4
        have hN := And.intro hids (And.intro hno (And.intro hhd (And.intro p1 (And.intro p2 (And.intro p3 (And.intro p4 (And.intro p5 s3)))))))
        clear hno hhd p1 p2 p3 p4 p5 s3 hids hcf e4
        skip
        refine DS.drawLS (id := 23) (S0) (S1) [0, 1, 2, 3, 4, 5] 6 (by kernel_rfl) zct (by simp only [zay, zbc, zbd, zbe, zax]; exact rfl) (by simp only [zav, zaw, List.drop_nil]; exact rfl) (s0) (s1) ?_
        repeat' (first | with_reducible refine DD.fltS yU yU yU yX21 ?_ | fail)
        have hgl : g.l.length = l.length := by rw [hN.2.2.2.2.1, List.length_map]
        refine DD.last rfl rfl rfl yR (OpS.appG (g := g) (ml := c.rounds[i].tables[k].map cI) rfl yH yH yR yR (by decide) yH s2 yH yH (by rw [List.length_map]; omega) (by intro x hx; obtain ⟨y, -, rfl⟩ := List.mem_map.1 hx; rfl) ⟨by rw [List.length_map]; omega, by decide⟩) (fun u2 E' S4 hu2 hdis => ?_)
        obtain ⟨rfl, b', cap', junk', rfl, m1, m2, m3⟩ := hu2
        have hbs : zab (S4 ++ S0) b5 = some (.cells [g.cell] 22) := by rw [zby, hdis b5 _ hx0]; exact hx0
        have hne : b' ≠ b5 := fun h => by
          have := m1.look
          rw [h, hdis b5 _ hx0] at this; cases this
        have hml : g.l ++ (c.rounds[i].tables[k].map cI).map (·.map V.copy) = (l ++ c.rounds[i].tables[k]).map cI := by
          rw [hN.2.2.2.2.1, List.map_append, List.map_map]; rfl
        rw [hml] at m1 ⊢
        simp only [GR.cell_some, zcj]
        clear hml hgl
        repeat' (first | (with_reducible first | refine DS.fltS yU yU yE ?_ | refine DS.opsNil ?_ | refine DS.regionL ?_ | refine DS.blk ?_) | (refine DS.store yR yE yE yE yE yU (by exact ⟨by with_unfolding_all rfl, by (try simp only [List.length_map, List.length_append, List.length_set, List.length_replicate, List.length_cons, List.length_nil]); omega⟩) ?_; simp only [zbm, zaq, zat, zbz, zbn, zbl, zbh]; try simp only [zak, zac, zad, Nat.reduceEqDiff, ↓reduceIte, zag, zah, zao, zaf, zae, zal, zai]) | fail)
        have hb1 : zab (setS b5 (.cells [GR.cell ⟨(l ++ c.rounds[i].tables[k]).map cI, some (b', cap', junk')⟩] 22) (S4 ++ S0)) b5 = some (.cells [GR.cell ⟨(l ++ c.rounds[i].tables[k]).map cI, some (b', cap', junk')⟩] 22) := by rw [zbg hbs, if_pos rfl]
        have hb2 : zab (setS b5 (.cells [GR.cell ⟨(l ++ c.rounds[i].tables[k]).map cI, some (b', cap', junk')⟩] 22) (S4 ++ S0)) b' = zab S4 b' := by rw [zbg hbs, if_neg hne, zby, m1.look]
        refine DS.reS (S' := setS b5 (.cells [GR.cell ⟨(l ++ c.rounds[i].tables[k]).map cI, some (b', cap', junk')⟩] 22) (S4 ++ S0)) (fun b o e => by simp only [GR.cell, List.length_map] at e; exact e) ?_
        refine DS.back (hB0 (k + 1, c.rounds[i].tables[k][0], l ++ c.rounds[i].tables[k], ⟨(l ++ c.rounds[i].tables[k]).map cI, some (b', cap', junk')⟩, setS b5 (.cells [GR.cell ⟨(l ++ c.rounds[i].tables[k]).map cI, some (b', cap', junk')⟩] 22) (S4 ++ S0)) _ _ (by dsimp only; omega)
          ⟨by dsimp only; omega, by simp only [List.length_append]; omega, by dsimp only; rw [hN.2.2.2.1, List.drop_eq_getElem_cons hk, zhw e2 hN.1 hN.2.1 (by rw [hN.2.2.1]; exact e5), hN.2.2.1], rfl, m1.of (fun b cap j h => by cases h; exact hb2), hb1, fun cap j h => by cases h; exact hne rfl⟩ yS yS (fun b o e => by exact e))
  · rename_i e1
    rw [hI0.1, List.drop_eq_nil_of_le (by omega)]; rfl
end Go.XL
namespace Go.XL
open Go.Proofs
set_option maxRecDepth 100000
set_option maxHeartbeats 4000000
theorem roundsGo_E {c : Club} {i : Nat} (h : i < c.rounds.length) (h1 : zef c i = 0) (h2 : ¬ zhz c i = 0) : zdf c i (c.rounds.length - i) = zhz c i := by rw [zfn h, if_neg (by omega), if_pos h2]
theorem roundsGo_F {c : Club} {i : Nat} (h : i < c.rounds.length) (h1 : zef c i = 0) (h2 : zhz c i = 0) : zdf c i (c.rounds.length - i) = zdf c (i + 1 : Nat) (c.rounds.length - (i + 1)) := by rw [zfn h, if_neg (by omega), if_neg (by omega)]
theorem zih (c : Club) (hs : c.Small) : PC Try.prog 53 [c.val] (I (zcx c)) := by
  have q1 := hs.rounds
  have q2 := hs.members
  refine DC.of_run Try.func53 rfl Try.ntmps53 Try.results53 (by simp) (fun _ => ?_); simp only [zan, zas, go_sem, Nat.zero_add, Nat.reduceAdd]
  repeat' (first | (with_reducible first | refine DS.fltS yU yU yE ?_ | refine DS.opsNil ?_ | refine DS.seq ?_ | refine DS.regionL ?_ | (refine DS.cE yE ?_; first | refine CG.np (fun _ => ?_) (fun _ => ?_) | refine CG.yes ?_) | (refine DS.gE yU yE ?_; first | refine GG.npF (fun _ => ?_) (fun _ => ?_) | refine GG.run ?_ | refine GG.sT ?_) | refine DS.skip ?_) | refine DS.pcS inferInstance (zhf _ _ _) yR yT ?_ | (refine DS.boxF (t := 1) yU yE yU ?_; simp only [zbk, zcd, zbi, zbu, zbf, zaz, zbp, zbb, zca, zcc, zbq, zcb, zbt, zbs]) | refine DS.retT [] yE trivial ?_ | fail)
  rotate_left 2
  · rename_i e1 e2 e3
    have hr : zfb c = 2 := by rw [zfb, if_neg (by simpa using e1), if_neg (by simpa using e2), if_pos e3]
    rw [zcx, if_pos (by rw [hr]; decide), hr]; rfl
  · rename_i e1 e2
    have hr : zfb c = 2 := by rw [zfb, if_neg (by simpa using e1), if_pos e2]
    rw [zcx, if_pos (by rw [hr]; decide), hr]; rfl
  · rename_i e1
    have hr : zfb c = 2 := by rw [zfb, if_pos e1]
    rw [zcx, if_pos (by rw [hr]; decide), hr]; rfl
  · rename_i e1 e2 e3 e4
    have hr : zfb c = 2 := by rw [zfb, if_neg (by simpa using e1), if_neg (by simpa using e2), if_neg (by simpa using e3), if_pos e4]
    rw [zcx, if_pos (by rw [hr]; decide), hr]; rfl
  · rename_i e1 e2 e3 e4
    have hr : zfb c = zhh c.size c.places 1000000 0 := by rw [zfb, if_neg (by simpa using e1), if_neg (by simpa using e2), if_neg (by simpa using e3), if_neg (by simpa using e4)]
    have hz := hr
    clear hr
    repeat' (first | (with_reducible first | refine DS.fltS yU yU yE ?_ | refine DS.opsNil ?_ | refine DS.seq ?_ | refine DS.regionL ?_ | (refine DS.cE yE ?_; first | refine CG.np (fun _ => ?_) (fun _ => ?_) | refine CG.p (fun _ => ?_) (fun _ => ?_)) | refine DS.block ?_ | refine DS.skip ?_) | refine DS.pcS inferInstance (ztm c c.places 1000000 0 (by omega) (by decide) (by decide)) yR yT ?_ | refine DS.pcS inferInstance (members_pc c.members) yR yT ?_ | refine DS.retT [] yE trivial ?_ | fail)
    · rename_i e5
      rw [zcx, if_pos (by omega), hz]; rfl
    · rename_i e5 e6
      rw [zcx, if_neg (by omega), if_pos e6]; rfl
    · rename_i e5 e6 e7
      rw [zcx, if_neg (by omega), if_neg (by omega), if_pos (by omega)]; rfl
    · rename_i e5 e6 e7
      have f := ztd e6
      have hc : zcx c = zdf c 0 c.rounds.length := by rw [zcx, if_neg (by omega), if_neg (by omega), if_neg (by omega)]
      rw [hc]
      clear hc hz
      refine DS.loopK [1, 49] (by (simp only [go_sem, Nat.reduceEqDiff, ↓reduceIte]; exact rfl)) (fun (i : Nat) => [(50, I i)]) (fun (i : Nat) => i ≤ c.rounds.length ∧ zdf c 0 c.rounds.length = zdf c i (c.rounds.length - i)) (fun (i : Nat) => c.rounds.length - i) 0 yS ⟨Nat.zero_le _, rfl⟩ (fun i B hI hB => ?_); try dsimp only at hI hB; simp only [zap, zau]
      repeat' (first | (with_reducible first | refine DS.fltS yU yU yE ?_ | refine DS.opsNil ?_ | refine DS.seq ?_ | refine DS.regionL ?_ | (refine DS.cE yE ?_; first | refine CG.np (fun _ => ?_) (fun _ => ?_) | refine CG.p (fun _ => ?_) (fun _ => ?_)) | refine DS.blk ?_ | refine DS.block ?_ | refine DS.exit yU ?_ | refine DS.skip ?_) | refine DS.pcS inferInstance (tables_pc c hs f e1.2 e1.1 (i := i) (by omega)) yR yT ?_ | refine DS.pcS inferInstance (rest_pc c hs e1.2 (by omega) e2 e4 (i := i) (by omega) (by omega)) yR yT ?_ | refine DS.retT [] yE trivial ?_ | fail)
      · rename_i e8 e9
        rw [hI.2, zpi (by omega) e9]; rfl
      · rename_i e8 e9 e10
        rw [hI.2, roundsGo_E (by omega) e9 e10]; rfl
      · rename_i e8 e9 e10
        exact DS.back (hB (i + 1) _ _ (by omega) (⟨by omega, by rw [hI.2, roundsGo_F (by omega) e9 e10]⟩) yS yS (fun b o e => by first | exact e | (simp only [zaa]; split <;> simp_all)))
      · rename_i e8
        rw [hI.2, show c.rounds.length - i = 0 by omega]; rfl
end Go.XL
namespace Go.XL
open Go.Proofs
set_option maxRecDepth 100000
set_option maxHeartbeats 8000000
structure Hid (p : Prop) : Prop where
  out : p
def kA (a b : Int) : Value := .agg #[.int .i64 a, .int .i64 b]
def In64 (a : Int) : Prop := -9223372036854775808 ≤ a ∧ a ≤ 9223372036854775807
structure MapW (S : Sto) (b : Nat) (w : W) : Prop where
  out : ∃ f es clock, zab S b = some (.raw (.map es clock)) ∧ MapIs Try.prog 114 f es clock ∧ ∀ x y, In64 x → In64 y → (f (kA x y)).getD (.int .i64 0) = .int .i64 (w x y)
theorem keyA {a b : Int} (ha : In64 a) (hb : In64 b) : zjh Try.prog 114 (kA a b) := by
  have hw : ∀ c : Int, In64 c → (Lit.int .i64 c).wf = true := fun c hc => by
    have h1 : decide (IntKind.i64.min ≤ c) = true := decide_eq_true (show (-9223372036854775808 : Int) ≤ c from hc.1)
    have h2 : decide (c ≤ IntKind.i64.max) = true := decide_eq_true (show c ≤ (9223372036854775807 : Int) from hc.2)
    simp only [Lit.wf, h1, h2, Bool.and_self]
  have h1 : Try.prog.underlying 114 = some (.array 2 3) := by with_unfolding_all rfl
  have h2 : Try.prog.keyType 114 = true := by with_unfolding_all rfl
  have h3 : Value.formed Try.prog 114 (kA a b) = true := by with_unfolding_all rfl
  have h4 : Try.prog.underlying 3 = some (.int .i64) := by with_unfolding_all rfl
  have h5 : Try.prog.cellsOf 114 = 2 := by with_unfolding_all rfl
  have h6 : Try.prog.cellsOf 3 = 1 := by with_unfolding_all rfl
  obtain ⟨m, hm⟩ : ∃ m, Try.prog.types.size = m + 1 := ⟨Try.prog.types.size - 1, by with_unfolding_all rfl⟩
  have k1 : ∀ c, In64 c → Try.prog.keyLits (m + 1) 3 [.int .i64 c] = some [.int .i64 c] := fun c hc => by
    unfold Program.keyLits
    rw [h4]
    simp [hw c hc]
  unfold zjh keyOf
  rw [h1]
  simp only [h2, h3, Bool.and_self, if_true]
  rw [hm]
  unfold Program.keyLits
  rw [h1]
  simp only [h5, h6]
  have hc : (kA a b).cells.toList = [.int .i64 a, .int .i64 b] := rfl
  rw [hc]
  have hr : List.range 2 = [0, 1] := rfl
  rw [hr]
  simp [k1 a ha, k1 b hb]
def zss (c : Club) : Prop := ∀ s ∈ c.rounds, ∀ t ∈ s.tables, ∀ x ∈ t, In64 x
theorem znz (c : Club) (hs : c.Small) (hc : zss c) : DC Try.prog 70 [c.val] [] (fun u S' => ∃ b, u = .v (.map (some b)) ∧ MapW S' b (zpd c)) := by
  have q1 := hs.rounds
  refine DC.of_run Try.func70 rfl Try.ntmps70 Try.results70 (by simp) (fun _ => ?_); simp only [zan, zas, go_sem, Nat.zero_add, Nat.reduceAdd]
  repeat' (first | (with_reducible first | refine DS.fltS yU yU yE ?_ | refine DS.opsNil ?_ | refine DS.seq ?_ | refine DS.regionL ?_) | (refine DS.boxF (t := 1) yU yE yU ?_; simp only [zbk, zcd, zbi, zbu, zbf, zaz, zbp, zbb, zca, zcc, zbq, zcb, zbt, zbs]) | fail)
  refine DS.mkMap yR (fun b hb => ?_)
  simp only [zcj]
  repeat' (first | (with_reducible first | refine DS.fltS yU yU yE ?_ | refine DS.opsNil ?_ | refine DS.seq ?_ | refine DS.regionL ?_ | refine DS.block ?_) | fail)
  have M0 : MapW [(b, .raw (.map #[] 0))] b (fun _ _ => 0) := ⟨_, _, _, by simp only [zab, if_true], MapIs.empty _ _, fun _ _ _ _ => rfl⟩
  refine DS.loopS [3, 14, 15] (by (simp only [go_sem, Nat.reduceEqDiff, ↓reduceIte]; exact rfl)) (fun (x : Nat × Sto × W) => [(16, I x.1)]) (fun (x : Nat × Sto × W) => x.2.1) (fun (x : Nat × Sto × W) => x.1 ≤ c.rounds.length ∧ MapW x.2.1 b x.2.2 ∧ zpd c = addS (c.rounds.drop x.1) x.2.2) (fun (x : Nat × Sto × W) => c.rounds.length - x.1) (0, [(b, .raw (.map #[] 0))], fun _ _ => 0) yS (fun b o e => by exact e) ⟨Nat.zero_le _, M0, rfl⟩ (fun x B hI hB => ?_); try dsimp only at hI hB; simp only [zap, zau]
  obtain ⟨i, S, w⟩ := x
  dsimp only at hI hB
  obtain ⟨g1, g2, g3⟩ := hI
  repeat' (first | (with_reducible first | refine DS.fltS yU yU yE ?_ | refine DS.opsNil ?_ | refine DS.seq ?_ | refine DS.regionL ?_ | (refine DS.cE yE ?_; refine CG.p (fun _ => ?_) (fun _ => ?_)) | refine DS.block ?_ | refine DS.exit yU ?_ | refine DS.skip ?_) | (refine DS.letF (t := 5) yU yE yU (fun _ => by (simp (disch := omega) only [go_sem, dopV, Option.map_some, Option.map_none, Option.bind_some, Option.bind_none, ↓reduceIte, Nat.reduceEqDiff, Nat.reduceLT, Nat.reduceLeDiff, Nat.reduceAdd, Nat.reduceMul, Nat.reduceSub, Nat.zero_add, Nat.add_zero, Nat.zero_le, Nat.zero_mul, Nat.mul_one, Nat.one_mul, Int.natCast_zero, Int.toNat_zero, Int.reduceToNat, Int.reduceLT, Int.reduceLE, Int.reduceEq, decide_true, decide_false, true_and, and_true, Bool.and_self, Bool.and_true, Bool.true_and, Bool.not_true, Bool.not_false, IntWalk.toNatUp, IntWalk.iteOmega, IntWalk.i64_in, Option.isSome_some, not_true_eq_false, not_false_eq_true, Option.getD_some, Option.getD_none, Int.toNat_natCast, List.length_map, List.getElem?_map, List.getElem?_eq_getElem, V.flat, V.one, List.all_cons, List.all_nil, *]; exact rfl)) yE yU (by exact ⟨by with_unfolding_all rfl, by with_unfolding_all decide⟩) (fun _ => by simp only [go_sem, Nat.reduceEqDiff, ↓reduceIte]) ?_; simp only [go_sem]) | fail)
  · rename_i e1
    have hi : i < c.rounds.length := by omega
    have q2 := hs.at hi
    have q3 := q2.tables
    have hB0 := hB
    clear hB
    refine DS.loopS [3, 14, 15, 16, 21, 22] (by (simp only [go_sem, Nat.reduceEqDiff, ↓reduceIte]; exact rfl)) (fun (y : Nat × Sto × W) => [(23, I y.1)]) (fun (y : Nat × Sto × W) => y.2.1) (fun (y : Nat × Sto × W) => y.1 ≤ (c.rounds[i]'hi).tables.length ∧ MapW y.2.1 b y.2.2 ∧ zpd c = addS (c.rounds.drop (i + 1)) (zpf ((c.rounds[i]'hi).tables.drop y.1) y.2.2)) (fun (y : Nat × Sto × W) => (c.rounds[i]'hi).tables.length - y.1) (0, S, w) yS (fun b o e => by exact e) ⟨Nat.zero_le _, g2, by rw [g3, List.drop_eq_getElem_cons hi]; rfl⟩ (fun y B hI hB => ?_); try dsimp only at hI hB; simp only [zap, zau]
    obtain ⟨k, S1, w1⟩ := y
    dsimp only at hI hB
    obtain ⟨k1, k2, k3⟩ := hI
    clear g2 g3 M0
    repeat' (first | (with_reducible first | refine DS.fltS yU yU yE ?_ | refine DS.opsNil ?_ | refine DS.seq ?_ | refine DS.regionL ?_ | (refine DS.cE yE ?_; refine CG.p (fun _ => ?_) (fun _ => ?_)) | refine DS.blk ?_ | refine DS.block ?_ | refine DS.exit yU ?_ | refine DS.skip ?_) | fail)
    · rename_i e2
      have hk : k < (c.rounds[i]'hi).tables.length := by omega
      have q4 := q2.table _ (List.getElem_mem hk)
      have hct := hc _ (List.getElem_mem hi) _ (List.getElem_mem hk)
      rw [List.drop_eq_getElem_cons hk, zpf] at k3
      have hB1 := hB
      clear hB
      refine DS.loopS [3, 7, 14, 15, 16, 21, 22, 23, 27, 28] (by (simp only [go_sem, Nat.reduceEqDiff, ↓reduceIte]; exact rfl)) (fun (z : Nat × Sto × W) => [(29, I z.1)]) (fun (z : Nat × Sto × W) => z.2.1) (fun (z : Nat × Sto × W) => z.1 ≤ ((c.rounds[i]'hi).tables[k]'hk).length ∧ MapW z.2.1 b z.2.2 ∧ zpd c = addS (c.rounds.drop (i + 1)) (zpf ((c.rounds[i]'hi).tables.drop (k + 1)) (addT 1 (((c.rounds[i]'hi).tables[k]'hk).take z.1) (((c.rounds[i]'hi).tables[k]'hk).drop z.1) z.2.2))) (fun (z : Nat × Sto × W) => ((c.rounds[i]'hi).tables[k]'hk).length - z.1) (0, S1, w1) yS (fun b o e => by exact e) ⟨Nat.zero_le _, k2, k3⟩ (fun z B hI hB => ?_); try dsimp only at hI hB; simp only [zap, zau]
      obtain ⟨j, S2, w2⟩ := z
      dsimp only at hI hB
      obtain ⟨j1, j2, j3⟩ := hI
      clear k2 k3
      repeat' (first | (with_reducible first | refine DS.fltS yU yU yE ?_ | refine DS.opsNil ?_ | refine DS.seq ?_ | refine DS.regionL ?_ | (refine DS.cE yE ?_; refine CG.p (fun _ => ?_) (fun _ => ?_)) | refine DS.blk ?_ | refine DS.block ?_ | refine DS.exit yU ?_ | refine DS.skip ?_) | fail)
      · rename_i e3
        have hj : j < ((c.rounds[i]'hi).tables[k]'hk).length := by omega
        have hB2 := hB
        clear hB
        have hle : j ≤ ((c.rounds[i]'hi).tables[k]'hk).length := by omega
        obtain ⟨pre, hpre⟩ : ∃ pre, pre = ((c.rounds[i]'hi).tables[k]'hk).take j := ⟨_, rfl⟩
        have hpl : pre.length = j := by rw [hpre, List.length_take]; omega
        have hpi : ∀ x ∈ pre, In64 x := fun x hx => hct x (List.mem_of_mem_take (hpre ▸ hx))
        have htk : List.take j (List.map cI ((c.rounds[i]'hi).tables[k]'hk)) = pre.map cI := by rw [hpre, List.map_take]
        rw [← hpre] at j3
        have J0 := Hid.mk (And.intro hpre j3)
        clear hpre j3
        repeat' (first | (with_reducible first | refine DS.fltS yU yU (by (simp (disch := omega) only [go_sem, dopV, Option.map_some, Option.map_none, Option.bind_some, Option.bind_none, ↓reduceIte, Nat.reduceEqDiff, Nat.reduceLT, Nat.reduceLeDiff, Nat.reduceAdd, Nat.reduceMul, Nat.reduceSub, Nat.zero_add, Nat.add_zero, Nat.zero_le, Nat.zero_mul, Nat.mul_one, Nat.one_mul, Int.natCast_zero, Int.toNat_zero, Int.reduceToNat, Int.reduceLT, Int.reduceLE, Int.reduceEq, decide_true, decide_false, true_and, and_true, Bool.and_self, Bool.and_true, Bool.true_and, Bool.not_true, Bool.not_false, IntWalk.toNatUp, IntWalk.iteOmega, IntWalk.i64_in, Option.isSome_some, not_true_eq_false, not_false_eq_true, Option.getD_some, Option.getD_none, Int.toNat_natCast, List.length_map, List.getElem?_map, List.getElem?_eq_getElem, V.flat, V.one, List.all_cons, List.all_nil, *, List.forall_mem_map, implies_true, zcu, List.drop_zero, htk]; exact rfl)) ?_ | refine DS.opsNil ?_ | refine DS.block ?_) | fail)
        clear htk
        refine DS.loopS [3, 7, 9, 14, 15, 16, 21, 22, 23, 27, 28, 29, 36, 37] (by (simp only [go_sem, Nat.reduceEqDiff, ↓reduceIte]; exact rfl)) (fun (u : Nat × Sto × W) => [(38, I u.1)]) (fun (u : Nat × Sto × W) => u.2.1) (fun (u : Nat × Sto × W) => u.1 ≤ j ∧ MapW u.2.1 b u.2.2 ∧ addR 1 (((c.rounds[i]'hi).tables[k]'hk)[j]'hj) pre w2 = addR 1 (((c.rounds[i]'hi).tables[k]'hk)[j]'hj) (pre.drop u.1) u.2.2) (fun (u : Nat × Sto × W) => j - u.1) (0, S2, w2) yS (fun b o e => by exact e) ⟨Nat.zero_le _, j2, rfl⟩ (fun u B hI hB => ?_); try dsimp only at hI hB; simp only [zap, zau]
        obtain ⟨p, S3, w3⟩ := u
        dsimp only at hI hB
        obtain ⟨p1, p2, p3⟩ := hI
        clear j2
        repeat' (first | (with_reducible first | refine DS.fltS yU yU yE ?_ | refine DS.opsNil ?_ | refine DS.seq ?_ | refine DS.regionL ?_ | (refine DS.cE yE ?_; refine CG.p (fun _ => ?_) (fun _ => ?_)) | refine DS.blk ?_ | refine DS.block ?_ | refine DS.exit yU ?_ | refine DS.skip ?_) | fail)
        · rename_i e4
          have hp : p < pre.length := by omega
          obtain ⟨fm, es, clock, m1, m2, m3⟩ := p2.out
          have hdel : ∀ b' o, zab (delS b S3) b' = some o → zab S3 b' = some o ∧ zab [(b, Ob.raw (.map es clock))] b' = none := fun b' o e => by
            rw [zck] at e
            split at e
            · cases e
            · rename_i hne
              exact ⟨e, by simp only [zab]; rw [if_neg (fun h => hne h.symm)]⟩
          have hone : ∀ b' o, zab [(b, Ob.raw (.map es clock))] b' = some o → zab S3 b' = some o := fun b' o e => by
            simp only [zab] at e
            split at e
            · rename_i hbb; subst hbb; rw [m1]; exact e
            · cases e
          have hMp : MpOk Try.prog [⟨b, 114, .int .i64 0, fun x => (fm x).getD (.int .i64 0)⟩] ([(b, Ob.raw (.map es clock))] ++ delS b S3) := fun m hm => by
            rw [List.mem_singleton] at hm
            subst hm
            exact ⟨_, by simp [zab], es, clock, fm, rfl, m2, fun _ => rfl⟩
          refine DS.drawLM (id := 14) (delS b S3) ([(b, Ob.raw (.map es clock))]) ([⟨b, 114, .int .i64 0, fun x => (fm x).getD (.int .i64 0)⟩]) [0, 1, 2, 3, 4, 5, 6, 7] 8 (by kernel_rfl) zct (by simp only [zay, zbc, zbd, zbe, zax]; exact rfl) (by simp only [zav, zaw, List.drop_nil]; exact rfl) (hMp) (hdel) (hone) ?_
          repeat' (first | with_reducible refine DD.fltS yU yU yU yX8 ?_ | fail)
          have hin1 := hpi _ (List.getElem_mem hp)
          have hin2 := hct _ (List.getElem_mem hj)
          have hkey := keyA hin1 hin2
          have hval := m3 _ _ hin1 hin2
          refine DD.lookK (me := ⟨b, 114, .int .i64 0, fun x => (fm x).getD (.int .i64 0)⟩) (key := kA pre[p] (((c.rounds[i]'hi).tables[k]'hk)[j]'hj)) (List.mem_singleton.2 rfl) zve yU yU yR yH yH (V.Is.two _ _) hkey ?_
          simp only [hval, zcj]
          repeat' (first | with_reducible refine DD.fltS yU yU yU yE ?_ | fail)
          refine DD.entryK (key := kA pre[p] (((c.rounds[i]'hi).tables[k]'hk)[j]'hj)) zve yU yU m2 hkey yH yH (V.Is.two _ _) (by simp only [zab, if_true]) yR (fun me hme _ => by rw [List.mem_singleton] at hme; subst hme; exact ⟨rfl, rfl⟩) (fun st es1 clock1 n1 n2 => ?_)
          simp only [zcj]
          repeat' (first | with_reducible refine DD.flt1S yU yU yU yU yE ?_ | (with_reducible refine DD.nil ?_; simp only [zap, zau]) | fail)
          have hs2 : zab (setS b (Ob.raw (Obj.map es1 clock1)) [(b, Ob.raw (Obj.map es clock))] ++ delS b S3) b = some (Ob.raw (Obj.map es1 clock1)) := by simp [setS, zab]
          refine DS.entryStore n2 yH (by (simp (disch := omega) only [go_sem, dopV, Option.map_some, Option.map_none, Option.bind_some, Option.bind_none, ↓reduceIte, Nat.reduceEqDiff, Nat.reduceLT, Nat.reduceLeDiff, Nat.reduceAdd, Nat.reduceMul, Nat.reduceSub, Nat.zero_add, Nat.add_zero, Nat.zero_le, Nat.zero_mul, Nat.mul_one, Nat.one_mul, Int.natCast_zero, Int.toNat_zero, Int.reduceToNat, Int.reduceLT, Int.reduceLE, Int.reduceEq, decide_true, decide_false, true_and, and_true, Bool.and_self, Bool.and_true, Bool.true_and, Bool.not_true, Bool.not_false, IntWalk.toNatUp, IntWalk.iteOmega, IntWalk.i64_in, Option.isSome_some, not_true_eq_false, not_false_eq_true, Option.getD_some, Option.getD_none, Int.toNat_natCast, List.length_map, List.getElem?_map, List.getElem?_eq_getElem, V.flat, V.one, List.all_cons, List.all_nil, goInt]; try exact rfl)) yH hs2 yR (fun es2 n3 => ?_)
          have hW : MapW (setS b (Ob.raw (Obj.map es2 clock1)) (setS b (Ob.raw (Obj.map es1 clock1)) [(b, Ob.raw (Obj.map es clock))] ++ delS b S3)) b (addP 1 w3 pre[p] (((c.rounds[i]'hi).tables[k]'hk)[j]'hj)) := by
            refine ⟨_, es2, clock1, by rw [zbg hs2, if_pos rfl], n3, fun x y hx hy => ?_⟩
            by_cases hxy : x = pre[p] ∧ y = (((c.rounds[i]'hi).tables[k]'hk)[j]'hj)
            · rw [addP, if_pos hxy, hxy.1, hxy.2, zgd]; rfl
            · rw [addP, if_neg hxy, zil _ _ (fun h => hxy (by simp only [kA, Value.agg.injEq] at h; simp at h; exact h)), m3 x y hx hy]
          generalize setS b (Ob.raw (Obj.map es2 clock1)) (setS b (Ob.raw (Obj.map es1 clock1)) [(b, Ob.raw (Obj.map es clock))] ++ delS b S3) = S5 at *
          clear hs2 n3 n2 n1 m1 m2 m3 hMp hdel hone hval hkey
          simp only [zbm]
          repeat' (first | (with_reducible first | refine DS.fltS yU yU yE ?_ | refine DS.opsNil ?_ | refine DS.regionL ?_ | refine DS.blk ?_) | fail)
          refine DS.back (hB (p + 1, S5, addP 1 w3 pre[p] (((c.rounds[i]'hi).tables[k]'hk)[j]'hj)) _ _ (by dsimp only; omega) ⟨by dsimp only; omega, hW, by rw [p3, List.drop_eq_getElem_cons hp, addR]⟩ yS yS (fun b o e => by exact e))
        · rename_i e4
          have hp : p = j := by omega
          have J := J0.out
          subst hp
          rw [List.drop_eq_nil_of_le (by omega)] at p3
          skip
          refine DS.back (hB2 (p + 1, S3, w3) _ _ (by dsimp only; omega) ⟨by dsimp only; omega, p2, by rw [J.2, List.drop_eq_getElem_cons hj, addT, p3, List.take_succ_eq_append_getElem hj, ← J.1]; rfl⟩ yS yS (fun b o e => by exact e))
      · rename_i e3
        have hje : j = ((c.rounds[i]'hi).tables[k]'hk).length := by omega
        rw [show ((c.rounds[i]'hi).tables[k]'hk).drop j = [] from List.drop_eq_nil_of_le (by omega)] at j3
        refine DS.back (hB1 (k + 1, S2, w2) _ _ (by dsimp only; omega) ⟨by dsimp only; omega, j2, j3⟩ yS yS (fun b o e => by exact e))
    · rename_i e2
      rw [show (c.rounds[i]'hi).tables.drop k = [] from List.drop_eq_nil_of_le (by omega)] at k3
      refine DS.back (hB0 (i + 1, S1, w1) _ _ (by dsimp only; omega) ⟨by dsimp only; omega, k2, k3⟩ yS yS (fun b o e => by exact e))
  · refine DS.retA yG ⟨b, rfl, ?_⟩
    rw [g3, List.drop_eq_nil_of_le (by omega)]
    exact g2
end Go.XL
namespace Go.XL
open Go.Proofs
set_option maxRecDepth 100000
set_option maxHeartbeats 8000000
theorem zku {c : Club} {r : Int} : ∀ {T : List (List Int)} {s : List Int} {f : Int}, zdn c r T s f = 0 → ∀ t ∈ T, (t.length : Int) = c.size ∧ zdk c r t none = 0
  | [], _, _, _, _, h => (List.not_mem_nil h).elim
  | t :: l, s, f, e, x, h => by
    simp only [zdn] at e
    split at e
    · cases e
    rename_i h1
    split at e
    · rename_i h2; exact absurd e h2
    rename_i h2
    split at e
    · cases e
    split at e
    · cases e
    rcases List.mem_cons.1 h with rfl | h
    · exact ⟨by omega, by omega⟩
    · exact zku e x h
theorem zkz {c : Club} : ∀ {n i : Nat}, zdf c i n = 0 → ∀ k, i ≤ k → k < i + n → zef c k = 0 ∧ zhz c k = 0
  | 0, i, _, k, h1, h2 => by omega
  | n + 1, i, e, k, h1, h2 => by
    simp only [zdf] at e
    split at e
    · rename_i h; exact absurd e h
    rename_i h3
    split at e
    · rename_i h; exact absurd e h
    rename_i h4
    by_cases hk : k = i
    · subst hk; exact ⟨by omega, by omega⟩
    · exact zkz e k (by omega) (by omega)
theorem checkS_rounds {c : Club} (h : zcx c = 0) : zdf c 0 c.rounds.length = 0 := by
  obtain ⟨h1, h2, h3⟩ := zel h
  unfold zcx at h
  rwa [if_neg (by omega), if_neg (by omega), if_neg (by omega)] at h
theorem checkS_table {c : Club} (h : zcx c = 0) {i : Nat} (hi : i < c.rounds.length) : ∀ t ∈ c.rounds[i].tables, (t.length : Int) = c.size ∧ zdk c i t none = 0 := by
  have h1 := (zkz (checkS_rounds h) i (Nat.zero_le _) (by omega)).1
  rw [zef, c.round_at hi] at h1
  exact zku h1
theorem checkS_asc {c : Club} (h : zcx c = 0) : ∀ s ∈ c.rounds, AscTs s.tables := fun s hs t ht => by
  obtain ⟨i, hi, rfl⟩ := List.getElem_of_mem hs
  exact (zlj (checkS_table h hi t ht).2).1
theorem zvj {α : Type} (f : α → Nat) (m : Nat) : ∀ l : List α, (∀ x ∈ l, f x ≤ m) → (l.map f).sum ≤ l.length * m
  | [], _ => by simp
  | x :: r, h => by
    have := zvj f m r fun y hy => h y (List.mem_cons_of_mem _ hy)
    have h1 := h x (List.mem_cons_self ..)
    simp only [List.map_cons, List.sum_cons, List.length_cons, Nat.succ_mul]
    omega
theorem zqo {c : Club} (hs : c.Small) (h : zcx c = 0) (x y : Int) : zpd c x y = if x < y then (metS c x y : Int) else 0 := by
  have h1 := zvj (fun s : Sitting => s.tables.length) 1000000 c.rounds fun s h => (hs.round s h).tables
  have h2 := hs.rounds
  have h3 : c.rounds.length * 1000000 ≤ 1000000 * 1000000 := Nat.mul_le_mul_right _ h2
  rw [zpd, zwo c.rounds _ x y (checkS_asc h) ⟨Int.le_refl _, by omega⟩]
  simp only [Int.zero_add]; rfl
theorem metS_self (c : Club) (a : Int) : metS c a a = 0 := by
  have k1 : ∀ T, metT a a T = 0 := fun T => by
    induction T with
    | nil => rfl
    | cons t r ih => simp [metT, ih]
  unfold metS
  generalize c.rounds = R
  induction R with
  | nil => rfl
  | cons s r ih => simp [zms, ih, k1]
theorem meetW_minmax {c : Club} (hs : c.Small) (h : zcx c = 0) (a b : Int) : zpd c (min a b) (max a b) = metS c a b := by
  rw [zqo hs h]
  rcases Int.lt_trichotomy a b with h1 | h1 | h1
  · rw [Int.min_eq_left (by omega), Int.max_eq_right (by omega), if_pos h1]
  · subst h1; rw [Int.min_self, Int.max_self, if_neg (by omega), metS_self]; rfl
  · rw [Int.min_eq_right (by omega), Int.max_eq_left (by omega), if_pos h1, zrs]
theorem metP_pc (c : Club) (hs : c.Small) (hc : zss c) (a b : Int) (ha : In64 a) (hb : In64 b) : PC Try.prog 31 [c.val, I a, I b] (I (metX c a b)) := by
  rw [metX]
  refine DC.of_run Try.func31 rfl Try.ntmps31 Try.results31 (by simp) (fun _ => ?_); simp only [zan, zas, go_sem, Nat.zero_add, Nat.reduceAdd]
  repeat' (first | (with_reducible first | refine DS.fltS yU yU yE ?_ | refine DS.opsNil ?_ | refine DS.seq ?_ | refine DS.regionL ?_ | (refine DS.cE yE ?_; refine CG.np (fun _ => ?_) (fun _ => ?_)) | refine DS.skip ?_) | refine DS.pcS inferInstance (zih c hs) yR yT ?_ | (refine DS.boxF (t := 3) yU yE yU ?_; simp only [zbk, zcd, zbi, zbu, zbf, zaz, zbp, zbb, zca, zcc, zbq, zcb, zbt, zbs]) | refine DS.retT [] yE trivial ?_ | fail)
  · rename_i e1
    rw [if_pos e1]; rfl
  · rename_i e1
    rw [if_neg (by omega)]
    refine DS.callA inferInstance (znz c hs hc) yR yH (fun u S' hu => ?_)
    obtain ⟨m, rfl, hw⟩ := hu
    obtain ⟨f, es, clock, m1, m2, m3⟩ := hw.out
    have hin1 : In64 (min a b) := by unfold In64 at *; omega
    have hin2 : In64 (max a b) := by unfold In64 at *; omega
    have hkey := keyA hin1 hin2
    have hval := m3 _ _ hin1 hin2
    rw [meetW_minmax hs e1] at hval
    have e2 : min a b = (if b < a then b else a) := by split <;> omega
    have e3 : max a b = (if b > a then b else a) := by split <;> omega
    rw [e2, e3] at hkey hval
    have J := Hid.mk hval
    clear e2 e3 hin1 hin2 hval
    repeat' (first | with_reducible refine DS.fltS yU yU yX8 ?_ | fail)
    refine DS.lookK (key := kA (if b < a then b else a) (if b > a then b else a)) zve yU yU m2 hkey yH yH (V.Is.two _ _) m1 yR ?_
    rw [J.out]
    simp only [zcj]
    clear m1 m2 m3 hw
    repeat' (first | (with_reducible first | refine DS.fltS yU yU yE ?_ | refine DS.opsNil ?_) | refine DS.retT [] yE trivial ?_ | fail)
    rfl
end Go.XL
namespace Go.XL
structure GoodW (B : Int) (met : Int → Int → Bool) (w : W) : Prop where
  is : ∀ a b, a < b → met a b = decide (0 < w a b)
  bd : ∀ a b, 0 ≤ w a b ∧ w a b ≤ B
  sym : ∀ a b, met a b = met b a
theorem GoodW.mono {B B' : Int} {met : Int → Int → Bool} {w : W} (g : GoodW B met w) (h : B ≤ B') : GoodW B' met w := ⟨g.is, fun a b => ⟨(g.bd a b).1, Int.le_trans (g.bd a b).2 h⟩, g.sym⟩
theorem GoodW.add {B : Int} {met : Int → Int → Bool} {w : W} (g : GoodW B met w) (hB : B < 9223372036854775807) {t : List Int} (ht : t.Pairwise (· < ·)) : GoodW (B + 1) (zic met t) (addT 1 [] t w) := by
  have e : ∀ x y, addT 1 [] t w x y = if x ∈ t ∧ y ∈ t ∧ x < y then w x y + 1 else w x y := fun x y => by
    have h := zox 1 t [] w x y (by simpa using ht)
    simp only [List.nil_append] at h
    have hb := g.bd x y
    rw [h, zqz (by omega)]
  refine ⟨fun a b hab => ?_, fun a b => ?_, fun a b => ?_⟩
  · rw [e, zic]
    have hb := g.bd a b
    by_cases h : a ∈ t ∧ b ∈ t
    · rw [if_pos ⟨h.1, h.2, by omega⟩, if_pos ⟨h.1, h.2, hab⟩]
      exact (decide_eq_true (by omega)).symm
    · rw [if_neg (fun h' => h ⟨h'.1, h'.2.1⟩), if_neg (fun h' => h ⟨h'.1, h'.2.1⟩)]
      exact g.is a b hab
  · rw [e]
    have hb := g.bd a b
    split <;> omega
  · simp only [zic, g.sym a b]
    by_cases h : a ∈ t ∧ b ∈ t ∧ a ≠ b
    · rw [if_pos h, if_pos ⟨h.2.1, h.1, h.2.2.symm⟩]
    · rw [if_neg h, if_neg (fun h' => h ⟨h'.2.1, h'.1, h'.2.2.symm⟩)]
theorem addT_back {B : Int} {met : Int → Int → Bool} {w : W} (g : GoodW B met w) (hB : B < 9223372036854775807) {t : List Int} (ht : t.Pairwise (· < ·)) : addT (-1) [] t (addT 1 [] t w) = w := by
  funext x y
  have h1 := zox 1 t [] w x y (by simpa using ht)
  have h2 := zox (-1) t [] (addT 1 [] t w) x y (by simpa using ht)
  simp only [List.nil_append] at h1 h2
  have hb := g.bd x y
  rw [h2, h1]
  split
  · rw [zqz (n := w x y + 1) (by omega), zqz (by omega)]; omega
  · rfl
theorem stranger_w {B : Int} {met : Int → Int → Bool} {w : W} (g : GoodW B met w) {t : List Int} {id : Int} (h : ∀ a ∈ t, a < id) : zcg met t id = !t.any fun a => decide (0 < w a id) := by
  induction t with
  | nil => rfl
  | cons a r ih =>
    have h1 := g.is a id (h a (List.mem_cons_self ..))
    have h2 := ih fun b hb => h b (List.mem_cons_of_mem _ hb)
    simp only [zcg, List.all_cons, List.any_cons, h1] at h2 ⊢
    rw [h2]; simp
theorem zse (st : List Int → Int → Bool) : ∀ (n : Nat) (t ids : List Int), (t ++ ids).Pairwise (· < ·) → ∀ x ∈ zga st n t ids, x.length = t.length + n ∧ x.Sublist (t ++ ids) ∧ x.Pairwise (· < ·)
  | 0, t, ids, h, x, hx => by
    simp only [zga, List.mem_singleton] at hx; subst hx
    exact ⟨rfl, List.sublist_append_left .., (List.pairwise_append.1 h).1⟩
  | n + 1, t, ids, h, x, hx => by
    have key : ∀ l : List Int, l.Sublist ids → ∀ x ∈ zeo st (zga st n) t l, x.length = t.length + (n + 1) ∧ x.Sublist (t ++ l) ∧ x.Pairwise (· < ·) := by
      intro l
      induction l with
      | nil => intro _ x hx; simp [zeo] at hx
      | cons id r ih =>
        intro hl x hx
        simp only [zeo, List.mem_append] at hx
        rcases hx with hx | hx
        · split at hx
          · have hp : ((t ++ [id]) ++ r).Pairwise (· < ·) := by
              have : (t ++ id :: r).Pairwise (· < ·) := h.sublist (List.Sublist.append (List.Sublist.refl t) hl)
              simpa using this
            obtain ⟨h1, h2, h3⟩ := zse st n (t ++ [id]) r hp x hx
            exact ⟨by simp at h1; omega, by simpa using h2, h3⟩
          · simp at hx
        · obtain ⟨h1, h2, h3⟩ := ih ((List.sublist_cons_self ..).trans hl) x hx
          exact ⟨h1, h2.trans (List.Sublist.append (List.Sublist.refl t) (List.sublist_cons_self ..)), h3⟩
    exact key ids (List.Sublist.refl _) x hx
theorem zsh {st : List Int → Int → Bool} {f : List Int → List Int → List (List Int)} {t l : List Int} {i : Nat} (h : i < l.length) : zeo st f t (l.drop i) = (if st t l[i] = true then f (t ++ [l[i]]) (l.drop (i + 1)) else []) ++ zeo st f t (l.drop (i + 1)) := by
  rw [List.drop_eq_getElem_cons h, zeo]
end Go.XL
