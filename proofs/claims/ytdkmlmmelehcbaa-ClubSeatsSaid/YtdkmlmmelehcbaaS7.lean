/- A part of a program logic over the kit's walk rules, and contracts of functions in it. Conditions: as each theorem says. -/
import Derived.Test.YtdkmlmmelehcbaaS6
set_option linter.all false
namespace Go.XL
open Go.Proofs
set_option maxRecDepth 100000
set_option maxHeartbeats 8000000
theorem yX32 {p : Prop} (h : p := by (simp (disch := omega) only [go_sem, dopV, Option.map_some, Option.map_none, Option.bind_some, Option.bind_none, ↓reduceIte, Nat.reduceEqDiff, Nat.reduceLT, Nat.reduceLeDiff, Nat.reduceAdd, Nat.reduceMul, Nat.reduceSub, Nat.zero_add, Nat.add_zero, Nat.zero_le, Nat.zero_mul, Nat.mul_one, Nat.one_mul, Int.natCast_zero, Int.toNat_zero, Int.reduceToNat, Int.reduceLT, Int.reduceLE, Int.reduceEq, decide_true, decide_false, true_and, and_true, Bool.and_self, Bool.and_true, Bool.true_and, Bool.not_true, Bool.not_false, IntWalk.toNatUp, IntWalk.iteOmega, IntWalk.i64_in, Option.isSome_some, not_true_eq_false, not_false_eq_true, Option.getD_some, Option.getD_none, Int.toNat_natCast, List.length_map, List.getElem?_map, List.getElem?_eq_getElem, V.flat, V.one, List.all_cons, List.all_nil, *, Value.oneCell']; try exact rfl)) : p := h
theorem yX33 {p : Prop} (h : p := by first | exact rfl | (simp (disch := omega) only [go_sem, dopV, Option.map_some, Option.map_none, Option.bind_some, Option.bind_none, ↓reduceIte, Nat.reduceEqDiff, Nat.reduceLT, Nat.reduceLeDiff, Nat.reduceAdd, Nat.reduceMul, Nat.reduceSub, Nat.zero_add, Nat.add_zero, Nat.zero_le, Nat.zero_mul, Nat.mul_one, Nat.one_mul, Int.natCast_zero, Int.toNat_zero, Int.reduceToNat, Int.reduceLT, Int.reduceLE, Int.reduceEq, decide_true, decide_false, true_and, and_true, Bool.and_self, Bool.and_true, Bool.true_and, Bool.not_true, Bool.not_false, IntWalk.toNatUp, IntWalk.iteOmega, IntWalk.i64_in, Option.isSome_some, not_true_eq_false, not_false_eq_true, Option.getD_some, Option.getD_none, Int.toNat_natCast, List.length_map, List.getElem?_map, List.getElem?_eq_getElem, V.flat, V.one, List.all_cons, List.all_nil, *, Value.oneCell']; exact rfl)) : p := h
theorem yX34 {p : Prop} (h : p := by (simp (disch := omega) only [go_sem, dopV, Option.map_some, Option.map_none, Option.bind_some, Option.bind_none, ↓reduceIte, Nat.reduceEqDiff, Nat.reduceLT, Nat.reduceLeDiff, Nat.reduceAdd, Nat.reduceMul, Nat.reduceSub, Nat.zero_add, Nat.add_zero, Nat.zero_le, Nat.zero_mul, Nat.mul_one, Nat.one_mul, Int.natCast_zero, Int.toNat_zero, Int.reduceToNat, Int.reduceLT, Int.reduceLE, Int.reduceEq, decide_true, decide_false, true_and, and_true, Bool.and_self, Bool.and_true, Bool.true_and, Bool.not_true, Bool.not_false, IntWalk.toNatUp, IntWalk.iteOmega, IntWalk.i64_in, Option.isSome_some, not_true_eq_false, not_false_eq_true, Option.getD_some, Option.getD_none, Int.toNat_natCast, List.length_map, List.getElem?_map, List.getElem?_eq_getElem, V.flat, V.one, List.all_cons, List.all_nil, *, Value.oneCell']; first | done | exact rfl)) : p := h
theorem club_members (bs b4 b5 : Nat) (x most sz st ab wi : Int) (sh : Bool) (P : List Int) (hm : 0 ≤ most ∧ most ≤ 3) (hszB : Box (∃ z : Nat, sz = z)) (hsz : 3 ≤ sz ∧ sz ≤ 4) (hst : 0 ≤ st ∧ st ≤ 1000000) (hwi : 0 ≤ wi ∧ wi ≤ 2) (hPL : P.length ≤ 4) (n4 : ¬ bs = b4) (n4' : ¬ b4 = bs) (n5 : ¬ bs = b5) (n5' : ¬ b5 = bs) (m5 : ¬ b4 = b5) (m5' : ¬ b5 = b4) {v0 : VH} {R : V → Sto → Prop} {a c b : Code}
    (h1 : Try.f47.body.bind (forC 14) = some (a, c, b))
    (hR : R (zdd ⟨sz, st, ab, wi, P, sh, (zco (sz * zcq x 1 3 + zam (zaj x) 2).toNat 0 (zaj (zaj x)) []).1, []⟩ (zeb ⟨sz, st, ab, wi, P, sh, (zco (sz * zcq x 1 3 + zam (zaj x) 2).toNat 0 (zaj (zaj x)) []).1, []⟩ (zam (zco (sz * zcq x 1 3 + zam (zaj x) 2).toNat 0 (zaj (zaj x)) []).2 (most + 1)).toNat (zaj (zco (sz * zcq x 1 3 + zam (zaj x) 2).toNat 0 (zaj (zaj x)) []).2) []).1).val [(bs, srcO (zeb ⟨sz, st, ab, wi, P, sh, (zco (sz * zcq x 1 3 + zam (zaj x) 2).toNat 0 (zaj (zaj x)) []).1, []⟩ (zam (zco (sz * zcq x 1 3 + zam (zaj x) 2).toNat 0 (zaj (zaj x)) []).2 (most + 1)).toNat (zaj (zco (sz * zcq x 1 3 + zam (zaj x) 2).toNat 0 (zaj (zaj x)) []).2) []).2)]) :
    DS Try.prog 207 ⟨none, v0⟩ (FinV Try.prog [ResultVar.cell 4 26] R) [.code a, .code c, .code b]
      [(10, I 0), (0, ptr bs), (1, I most), (4, ptr b4), (5, ptr b5)] [(bs, srcO x), (b5, .cells (zfj sz st ab wi P sh (.v (.slice none 0 0)) (.v (.slice none 0 0))) 26), (b4, .cells zci 26)] := by
  have h1 := Option.some.inj ((show Try.f47.body.bind (forC 14) = some _ from rfl).symm.trans h1)
  obtain ⟨rfl, rfl, rfl⟩ := Prod.mk.inj h1 |>.imp id Prod.mk.inj
  clear h1
  have HR := Box.mk hR
  clear hR
  have k1 := zcn x 3
  have k2 := zcn (zaj x) 2
  have km : 3 ≤ sz * zcq x 1 3 ∧ sz * zcq x 1 3 ≤ 12 := by
    have kr : zcq x 1 3 = 1 + zam x 3 := rfl
    rw [kr]
    rcases (by omega : sz = 3 ∨ sz = 4) with rfl | rfl <;> omega
  (refine DS.drawX (id := 14) (bs := bs) (x := x) (by simp only [zaa, zce, ↓reduceIte, *]) [0, 1, 2, 3, 4, 5, 6] 7 (by kernel_rfl) zct (by simp only [zay, zbc, zbd, zbe, zax]; exact rfl) (by simp only [zav, zaw, List.drop_nil]; exact rfl) ?_; simp only [zbj, zbv, ↓reduceIte, *])
  repeat' (first | (with_reducible first | refine DS.fltS yU yU yE ?_ | refine DS.opsNil ?_ | refine DS.block ?_ | refine DD.fltS yU yU yU yE ?_ | refine DD.flt1S yU yU yU yU yE ?_) | (with_reducible refine DD.nil ?_; simp only [zap, zau]) | (refine DD.scS inferInstance (ztz bs x 1 3 (by omega)) yU yF yF ?_; simp only [zbo, zbw, Nat.reduceEqDiff, ↓reduceIte]; (try simp only [zbj, zbv, ↓reduceIte, *])) | (refine DD.scS inferInstance (zcz bs (zaj x) 2 (by omega)) yU yF yF ?_; simp only [zbo, zbw, Nat.reduceEqDiff, ↓reduceIte]; (try simp only [zbj, zbv, ↓reduceIte, *])) | fail)
  refine DS.adoptC (b := b5) (off := 6) (e := 88) (sz := 4) (cl := zfj sz st ab wi P sh (.v (.slice none 0 0)) (.v (.slice none 0 0))) (T' := 26) (by simp only [zaa, zce, n5, ↓reduceIte]) yR ?_
  simp only [zfj, setS, n5, ↓reduceIte, zbx, zbr]
  obtain ⟨N, hN⟩ : ∃ N : Nat, (N : Int) = sz * zcq x 1 3 + zam (zaj x) 2 := ⟨(sz * zcq x 1 3 + zam (zaj x) 2).toNat, by omega⟩
  have hNb : N ≤ 13 := by omega
  refine DS.loopS [0, 1, 4, 5] (by (simp only [go_sem, Nat.reduceEqDiff, ↓reduceIte]; exact rfl)) (fun (y : Nat × Int × Int × Int × List Member) => [(10, I y.2.2.1), (11, I y.2.1)]) (fun (y : Nat × Int × Int × Int × List Member) => [(bs, srcO y.2.2.2.1), (b5, .cells [I sz, I st, I ab, I wi, .own false 3 1 (P.map cI), Bo sh, .own false 88 4 (y.2.2.2.2.map Member.cells), .v (.slice none 0 0)] 26), (b4, .cells zci 26)]) (fun (y : Nat × Int × Int × Int × List Member) => (y.2.1 ≤ y.1 ∧ (y.1 : Int) ≤ y.2.1) ∧ (0 ≤ y.2.2.1 ∧ y.2.2.1 + 3 * y.1 ≤ 39) ∧ y.2.2.2.2.length + y.1 ≤ 13 ∧ zco N 0 (zaj (zaj x)) [] = zco y.1 y.2.2.1 y.2.2.2.1 y.2.2.2.2) (fun (y : Nat × Int × Int × Int × List Member) => y.1) (N, sz * zcq x 1 3 + zam (zaj x) 2, 0, zaj (zaj x), []) yS (fun b o e => by exact e) ⟨by dsimp only; omega, by dsimp only; omega, by simp; omega, rfl⟩ (fun y B hI hB => ?_); try dsimp only at hI hB; simp only [zap, zau]
  obtain ⟨k, cnt, id, x1, out⟩ := y
  dsimp only at hI hB ⊢
  obtain ⟨g0, g1, g2, g3⟩ := hI
  have H := Box.mk (And.intro g3 hN)
  clear g3 hN
  have k3 := zcn x1 3
  have kr : 1 ≤ zcq x1 1 3 ∧ zcq x1 1 3 ≤ 3 := by
    have : zcq x1 1 3 = 1 + zam x1 3 := rfl
    omega
  repeat' (first | (with_reducible first | refine DS.fltS yU yU yX8 ?_ | refine DS.opsNil ?_ | refine DS.seq ?_ | refine DS.regionL ?_ | (refine DS.cE yX8 ?_; refine CG.p (fun _ => ?_) (fun _ => ?_)) | refine DS.block ?_ | refine DS.exit yU ?_ | refine DS.skip ?_) | (refine DS.scS inferInstance (ztz bs x1 1 3 (by omega)) yR yX32 yX32 ?_; (try simp only [zbj, zbv, ↓reduceIte, *])) | fail)
  · refine DS.allocS yR yU yU (fun b12 h12 => ?_)
    have q1 : ¬ bs = b12 := fun e => by simp only [zaa, e, ↓reduceIte] at h12; first | (cases h12; done) | (split at h12 <;> cases h12)
    have q2 : ¬ b5 = b12 := fun e => by simp only [zaa, e, ↓reduceIte] at h12; first | (cases h12; done) | (split at h12 <;> cases h12)
    have q3 : ¬ b4 = b12 := fun e => by simp only [zaa, e, ↓reduceIte] at h12; first | (cases h12; done) | (split at h12 <;> cases h12; done) | (split at h12; cases h12; split at h12 <;> cases h12)
    have q1' : ¬ b12 = bs := fun e => q1 e.symm
    have q2' : ¬ b12 = b5 := fun e => q2 e.symm
    have q3' : ¬ b12 = b4 := fun e => q3 e.symm
    clear h12
    have f1 := zcn (zaj (zaj x1)) 21
    have f2 := zcn (zaj (zaj (zaj x1))) 3
    have f3 := zcn (zaj (zaj (zaj (zaj x1)))) 3
    have f4 := zcn (zaj (zaj (zaj (zaj x1)))) 2
    have f5 := zcn (zaj (zaj (zaj (zaj (zaj x1))))) 2
    repeat' (first | (with_reducible refine DS.loadOwn (t := 116) yU yX8 yX8 yX8 yX8 ?_; simp only [zbr, zbx]) | (with_reducible first | refine DS.fltS yU yU yX8 ?_ | refine DS.opsNil ?_ | refine DS.seq ?_ | refine DS.regionL ?_ | (refine DS.cE yX8 ?_; refine CG.b (fun _ => ?_) (fun _ => ?_)) | refine DS.blk ?_ | refine DS.skip ?_) | (refine DS.bsl yU yX8 yX8 ?_; simp only [go_sem, Nat.zero_add, Nat.reduceAdd]) | (refine DS.append (mm := false) yU yX8 yX8 yU (by decide) yX8 (by first | exact .inl rfl | exact .inr ⟨rfl, rfl⟩) yX8 yX33 (by first | exact zar zcu _ | exact zar zdm _ | exact zar Member.len _ | exact zar Sitting.len _ | exact zar Ruling.len _ | (simp only [List.mem_cons, List.not_mem_nil, or_false, forall_eq]; rfl) | simp) ⟨by (try simp only [List.length_map, List.length_cons, List.length_nil, List.length_append, List.length_take, List.length_drop]); omega, by decide⟩ ?_; simp only [zak, zac, zad, Nat.reduceEqDiff, ↓reduceIte, zag, zah, zao, zaf, zae, zal, zai]) | (refine DS.scS inferInstance (zkj bs (zaj x1) 4 (by omega)) yR yX34 yX34 ?_; (try simp only [zbj, zbv, ↓reduceIte, *])) | (refine DS.scS inferInstance (zcz bs (zaj (zaj x1)) 21 (by omega)) yR yX34 yX34 ?_; (try simp only [zbj, zbv, ↓reduceIte, *])) | (refine DS.scS inferInstance (zkj bs (zaj (zaj (zaj x1))) 9 (by omega)) yR yX34 yX34 ?_; (try simp only [zbj, zbv, ↓reduceIte, *])) | (refine DS.scS inferInstance (zkj bs (zaj (zaj x1)) 9 (by omega)) yR yX34 yX34 ?_; (try simp only [zbj, zbv, ↓reduceIte, *])) | (refine DS.scS inferInstance (zcz bs (zaj (zaj (zaj (zaj x1)))) 3 (by omega)) yR yX34 yX34 ?_; (try simp only [zbj, zbv, ↓reduceIte, *])) | (refine DS.scS inferInstance (zcz bs (zaj (zaj (zaj x1))) 3 (by omega)) yR yX34 yX34 ?_; (try simp only [zbj, zbv, ↓reduceIte, *])) | (refine DS.store yR yX8 yX8 yX8 yX8 yU (by exact ⟨by with_unfolding_all rfl, by (try simp only [List.length_map, List.length_append, List.length_set, List.length_replicate, List.length_cons, List.length_nil]); omega⟩) ?_; simp only [zbm, zaq, zat, zbz, zbn, zbl, zbh]; try simp only [zak, zac, zad, Nat.reduceEqDiff, ↓reduceIte, zag, zah, zao, zaf, zae, zal, zai]) | fail)
    · rename_i eA eB eC
      simp only [setS, zbj, zbv, ↓reduceIte, zbx, zbr, n5, n5', n4, n4', m5, m5', q1, q1', q2, q2', q3, q3']
      (refine DS.drawX (id := 23) (bs := bs) (x := zaj (zaj (zaj (zaj (zaj x1))))) (by simp only [zaa, zce, ↓reduceIte, *]) [0, 1, 2, 3] 4 (by kernel_rfl) zct (by simp only [zay, zbc, zbd, zbe, zax]; exact rfl) (by simp only [zav, zaw, List.drop_nil]; exact rfl) ?_; simp only [zbj, zbv, ↓reduceIte, *])
      repeat' (first | (with_reducible refine DS.loadOwn (t := 116) yU yX8 yX8 yX8 yX8 ?_; simp only [zbr, zbx]) | (with_reducible first | refine DS.fltS yU yU yX8 ?_ | refine DS.opsNil ?_ | refine DS.regionL ?_ | refine DS.blk ?_) | (refine DS.bsl yU yX8 yX8 ?_; simp only [go_sem, Nat.zero_add, Nat.reduceAdd]) | (refine DS.append (mm := false) yU yX8 yX8 yU (by decide) yX8 (by first | exact .inl rfl | exact .inr ⟨rfl, rfl⟩) yX8 yX33 (by first | exact zar zcu _ | exact zar zdm _ | exact zar Member.len _ | exact zar Sitting.len _ | exact zar Ruling.len _ | (simp only [List.mem_cons, List.not_mem_nil, or_false, forall_eq]; rfl) | simp) ⟨by (try simp only [List.length_map, List.length_cons, List.length_nil, List.length_append, List.length_take, List.length_drop]); omega, by decide⟩ ?_; simp only [zak, zac, zad, Nat.reduceEqDiff, ↓reduceIte, zag, zah, zao, zaf, zae, zal, zai]) | (refine DS.store yR yX8 yX8 yX8 yX8 yU (by exact ⟨by with_unfolding_all rfl, by (try simp only [List.length_map, List.length_append, List.length_set, List.length_replicate, List.length_cons, List.length_nil]); omega⟩) ?_; simp only [zbm, zaq, zat, zbz, zbn, zbl, zbh]; try simp only [zak, zac, zad, Nat.reduceEqDiff, ↓reduceIte, zag, zah, zao, zaf, zae, zal, zai]) | with_reducible refine DD.fltS yU yU yU yX8 ?_ | (with_reducible refine DD.nil ?_; simp only [zap, zau]) | (refine DD.scS inferInstance (zcz bs (zaj (zaj (zaj (zaj (zaj x1))))) 2 (by omega)) yU yX32 yX32 ?_; simp only [zbo, zbw, Nat.reduceEqDiff, ↓reduceIte]; (try simp only [zbj, zbv, ↓reduceIte, *])) | fail)
      have hk : zco k id x1 out = zco (k - 1) (id + zcq x1 1 3) (zaj (zaj (zaj (zaj (zaj (zaj x1)))))) (out ++ [⟨id + zcq x1 1 3, zam (zaj (zaj x1)) 21 - 10, zam (zaj (zaj (zaj (zaj x1)))) 3, zam (zaj (zaj (zaj (zaj x1)))) 3 + zam (zaj (zaj (zaj (zaj (zaj x1))))) 2⟩]) := by
        obtain ⟨k', rfl⟩ : ∃ k', k = k' + 1 := ⟨k - 1, by omega⟩
        rw [zco]; simp [zmu, zpa, eB, eC]
      refine DS.back (hB (k - 1, cnt - 1, id + zcq x1 1 3, zaj (zaj (zaj (zaj (zaj (zaj x1))))), out ++ [⟨id + zcq x1 1 3, zam (zaj (zaj x1)) 21 - 10, zam (zaj (zaj (zaj (zaj x1)))) 3, zam (zaj (zaj (zaj (zaj x1)))) 3 + zam (zaj (zaj (zaj (zaj (zaj x1))))) 2⟩]) _ _ (by dsimp only; omega) ⟨by dsimp only; omega, by dsimp only; omega, by simp; omega, H.out.1.trans hk⟩ yS yS (fun b o e => ?_))
      dsimp only at e
      rw [List.map_append, List.map_singleton, Member.cells] at e
      simp only [setS, zbj, zbv, ↓reduceIte, zbx, zbr, n5, n5', n4, n4', m5, m5', q1, q1', q2, q2', q3, q3']
      simp only [zaa, zce] at e ⊢
      by_cases hb : bs = b
      · subst hb; simp only [n5', n4', q1', ↓reduceIte] at e ⊢; exact e
      by_cases hb2 : b5 = b
      · subst hb2; simp only [n5, m5, q2', ↓reduceIte] at e ⊢; exact e
      by_cases hb3 : b4 = b
      · subst hb3; simp only [n4, m5', q3', hb, hb2, ↓reduceIte] at e ⊢; exact e
      · simp only [hb, hb2, hb3, ↓reduceIte] at e; cases e
    · rename_i eA eB eC
      have hk : zco k id x1 out = zco (k - 1) (id + zcq x1 1 3) (zaj (zaj (zaj (zaj x1)))) (out ++ [⟨id + zcq x1 1 3, zam (zaj (zaj x1)) 21 - 10, 0, -1⟩]) := by
        obtain ⟨k', rfl⟩ : ∃ k', k = k' + 1 := ⟨k - 1, by omega⟩
        rw [zco]; simp [zmu, zpa, eB, eC]
      refine DS.back (hB (k - 1, cnt - 1, id + zcq x1 1 3, zaj (zaj (zaj (zaj x1))), out ++ [⟨id + zcq x1 1 3, zam (zaj (zaj x1)) 21 - 10, 0, -1⟩]) _ _ (by dsimp only; omega) ⟨by dsimp only; omega, by dsimp only; omega, by simp; omega, H.out.1.trans hk⟩ yS yS (fun b o e => ?_))
      dsimp only at e
      rw [List.map_append, List.map_singleton, Member.cells] at e
      simp only [setS, zbj, zbv, ↓reduceIte, zbx, zbr, n5, n5', n4, n4', m5, m5', q1, q1', q2, q2', q3, q3']
      simp only [zaa, zce] at e ⊢
      by_cases hb : bs = b
      · subst hb; simp only [n5', n4', q1', ↓reduceIte] at e ⊢; exact e
      by_cases hb2 : b5 = b
      · subst hb2; simp only [n5, m5, q2', ↓reduceIte] at e ⊢; exact e
      by_cases hb3 : b4 = b
      · subst hb3; simp only [n4, m5', q3', hb, hb2, ↓reduceIte] at e ⊢; exact e
      · simp only [hb, hb2, hb3, ↓reduceIte] at e; cases e
    · rename_i eA eB eC
      simp only [setS, zbj, zbv, ↓reduceIte, zbx, zbr, n5, n5', n4, n4', m5, m5', q1, q1', q2, q2', q3, q3']
      (refine DS.drawX (id := 23) (bs := bs) (x := zaj (zaj (zaj (zaj x1)))) (by simp only [zaa, zce, ↓reduceIte, *]) [0, 1, 2, 3] 4 (by kernel_rfl) zct (by simp only [zay, zbc, zbd, zbe, zax]; exact rfl) (by simp only [zav, zaw, List.drop_nil]; exact rfl) ?_; simp only [zbj, zbv, ↓reduceIte, *])
      repeat' (first | (with_reducible refine DS.loadOwn (t := 116) yU yX8 yX8 yX8 yX8 ?_; simp only [zbr, zbx]) | (with_reducible first | refine DS.fltS yU yU yX8 ?_ | refine DS.opsNil ?_ | refine DS.regionL ?_ | refine DS.blk ?_) | (refine DS.bsl yU yX8 yX8 ?_; simp only [go_sem, Nat.zero_add, Nat.reduceAdd]) | (refine DS.append (mm := false) yU yX8 yX8 yU (by decide) yX8 (by first | exact .inl rfl | exact .inr ⟨rfl, rfl⟩) yX8 yX33 (by first | exact zar zcu _ | exact zar zdm _ | exact zar Member.len _ | exact zar Sitting.len _ | exact zar Ruling.len _ | (simp only [List.mem_cons, List.not_mem_nil, or_false, forall_eq]; rfl) | simp) ⟨by (try simp only [List.length_map, List.length_cons, List.length_nil, List.length_append, List.length_take, List.length_drop]); omega, by decide⟩ ?_; simp only [zak, zac, zad, Nat.reduceEqDiff, ↓reduceIte, zag, zah, zao, zaf, zae, zal, zai]) | (refine DS.store yR yX8 yX8 yX8 yX8 yU (by exact ⟨by with_unfolding_all rfl, by (try simp only [List.length_map, List.length_append, List.length_set, List.length_replicate, List.length_cons, List.length_nil]); omega⟩) ?_; simp only [zbm, zaq, zat, zbz, zbn, zbl, zbh]; try simp only [zak, zac, zad, Nat.reduceEqDiff, ↓reduceIte, zag, zah, zao, zaf, zae, zal, zai]) | with_reducible refine DD.fltS yU yU yU yX8 ?_ | (with_reducible refine DD.nil ?_; simp only [zap, zau]) | (refine DD.scS inferInstance (zcz bs (zaj (zaj (zaj (zaj x1)))) 2 (by omega)) yU yX32 yX32 ?_; simp only [zbo, zbw, Nat.reduceEqDiff, ↓reduceIte]; (try simp only [zbj, zbv, ↓reduceIte, *])) | fail)
      have hk : zco k id x1 out = zco (k - 1) (id + zcq x1 1 3) (zaj (zaj (zaj (zaj (zaj x1))))) (out ++ [⟨id + zcq x1 1 3, 0, zam (zaj (zaj (zaj x1))) 3, zam (zaj (zaj (zaj x1))) 3 + zam (zaj (zaj (zaj (zaj x1)))) 2⟩]) := by
        obtain ⟨k', rfl⟩ : ∃ k', k = k' + 1 := ⟨k - 1, by omega⟩
        rw [zco]; simp [zmu, zpa, eB, eC]
      refine DS.back (hB (k - 1, cnt - 1, id + zcq x1 1 3, zaj (zaj (zaj (zaj (zaj x1)))), out ++ [⟨id + zcq x1 1 3, 0, zam (zaj (zaj (zaj x1))) 3, zam (zaj (zaj (zaj x1))) 3 + zam (zaj (zaj (zaj (zaj x1)))) 2⟩]) _ _ (by dsimp only; omega) ⟨by dsimp only; omega, by dsimp only; omega, by simp; omega, H.out.1.trans hk⟩ yS yS (fun b o e => ?_))
      dsimp only at e
      rw [List.map_append, List.map_singleton, Member.cells] at e
      simp only [setS, zbj, zbv, ↓reduceIte, zbx, zbr, n5, n5', n4, n4', m5, m5', q1, q1', q2, q2', q3, q3']
      simp only [zaa, zce] at e ⊢
      by_cases hb : bs = b
      · subst hb; simp only [n5', n4', q1', ↓reduceIte] at e ⊢; exact e
      by_cases hb2 : b5 = b
      · subst hb2; simp only [n5, m5, q2', ↓reduceIte] at e ⊢; exact e
      by_cases hb3 : b4 = b
      · subst hb3; simp only [n4, m5', q3', hb, hb2, ↓reduceIte] at e ⊢; exact e
      · simp only [hb, hb2, hb3, ↓reduceIte] at e; cases e
    · rename_i eA eB eC
      have hk : zco k id x1 out = zco (k - 1) (id + zcq x1 1 3) (zaj (zaj (zaj x1))) (out ++ [⟨id + zcq x1 1 3, 0, 0, -1⟩]) := by
        obtain ⟨k', rfl⟩ : ∃ k', k = k' + 1 := ⟨k - 1, by omega⟩
        rw [zco]; simp [zmu, zpa, eB, eC]
      refine DS.back (hB (k - 1, cnt - 1, id + zcq x1 1 3, zaj (zaj (zaj x1)), out ++ [⟨id + zcq x1 1 3, 0, 0, -1⟩]) _ _ (by dsimp only; omega) ⟨by dsimp only; omega, by dsimp only; omega, by simp; omega, H.out.1.trans hk⟩ yS yS (fun b o e => ?_))
      dsimp only at e
      rw [List.map_append, List.map_singleton, Member.cells] at e
      simp only [setS, zbj, zbv, ↓reduceIte, zbx, zbr, n5, n5', n4, n4', m5, m5', q1, q1', q2, q2', q3, q3']
      simp only [zaa, zce] at e ⊢
      by_cases hb : bs = b
      · subst hb; simp only [n5', n4', q1', ↓reduceIte] at e ⊢; exact e
      by_cases hb2 : b5 = b
      · subst hb2; simp only [n5, m5, q2', ↓reduceIte] at e ⊢; exact e
      by_cases hb3 : b4 = b
      · subst hb3; simp only [n4, m5', q3', hb, hb2, ↓reduceIte] at e ⊢; exact e
      · simp only [hb, hb2, hb3, ↓reduceIte] at e; cases e
  · have hR := HR.out
    have hNN : (sz * zcq x 1 3 + zam (zaj x) 2).toNat = N := by have := H.out.2; omega
    obtain rfl : k = 0 := by omega
    rw [hNN, H.out.1, zco] at hR
    refine DS.weaken (E' := [(121, ptr bs), (123, I (most + 1)), (0, ptr bs), (4, ptr b4), (5, ptr b5)]) (S' := [(bs, srcO x1), (b5, .cells (zfj sz st ab wi P sh (.own false 88 4 (out.map Member.cells)) (.v (.slice none 0 0))) 26), (b4, .cells zci 26)]) (zdb (by simp (disch := omega) only [go_sem, ↓reduceIte, Nat.reduceEqDiff, zdp, zea, and_self, zap, zau])) (fun _ _ e => e) ?_
    exact club_rounds bs b4 b5 x1 most sz st ab wi sh P out hm hszB hsz hst hwi (by omega) hPL n4 n4' n5 n5' m5 m5' yR yR yR hR
end Go.XL
namespace Go.XL
open Go.Proofs
set_option maxRecDepth 100000
set_option maxHeartbeats 8000000
theorem zom (bs b4 b5 : Nat) (x most sz st ab wi : Int) (sh : Bool) (hm : 0 ≤ most ∧ most ≤ 3) (hszB : Box (∃ z : Nat, sz = z)) (hsz : 3 ≤ sz ∧ sz ≤ 4) (hst : 0 ≤ st ∧ st ≤ 1000000) (hwi : 0 ≤ wi ∧ wi ≤ 2) (n4 : ¬ bs = b4) (n4' : ¬ b4 = bs) (n5 : ¬ bs = b5) (n5' : ¬ b5 = bs) (m5 : ¬ b4 = b5) (m5' : ¬ b5 = b4) {v0 : VH} {R : V → Sto → Prop} {os l : List Oper} {cd : Code}
    (h1 : Try.f47.body.bind (regC 4) = some os) (h2 : os.drop 1 = l) (h3 : Try.f47.body.bind (zhv 4) = some cd)
    (hR : R (zdd ⟨sz, st, ab, wi, ((zcw (zam x 5 * 10) (sz - 2).toNat 1 (zaj (zaj x)) [zam x 5 * 10 + zam (zaj x) 2] (zam x 5 * 10 + zam (zaj x) 2)).1 ++ [-(zcw (zam x 5 * 10) (sz - 2).toNat 1 (zaj (zaj x)) [zam x 5 * 10 + zam (zaj x) 2] (zam x 5 * 10 + zam (zaj x) 2)).2.1]), sh, (zco (sz * zcq ((zcw (zam x 5 * 10) (sz - 2).toNat 1 (zaj (zaj x)) [zam x 5 * 10 + zam (zaj x) 2] (zam x 5 * 10 + zam (zaj x) 2)).2.2) 1 3 + zam (zaj ((zcw (zam x 5 * 10) (sz - 2).toNat 1 (zaj (zaj x)) [zam x 5 * 10 + zam (zaj x) 2] (zam x 5 * 10 + zam (zaj x) 2)).2.2)) 2).toNat 0 (zaj (zaj ((zcw (zam x 5 * 10) (sz - 2).toNat 1 (zaj (zaj x)) [zam x 5 * 10 + zam (zaj x) 2] (zam x 5 * 10 + zam (zaj x) 2)).2.2))) []).1, []⟩ (zeb ⟨sz, st, ab, wi, ((zcw (zam x 5 * 10) (sz - 2).toNat 1 (zaj (zaj x)) [zam x 5 * 10 + zam (zaj x) 2] (zam x 5 * 10 + zam (zaj x) 2)).1 ++ [-(zcw (zam x 5 * 10) (sz - 2).toNat 1 (zaj (zaj x)) [zam x 5 * 10 + zam (zaj x) 2] (zam x 5 * 10 + zam (zaj x) 2)).2.1]), sh, (zco (sz * zcq ((zcw (zam x 5 * 10) (sz - 2).toNat 1 (zaj (zaj x)) [zam x 5 * 10 + zam (zaj x) 2] (zam x 5 * 10 + zam (zaj x) 2)).2.2) 1 3 + zam (zaj ((zcw (zam x 5 * 10) (sz - 2).toNat 1 (zaj (zaj x)) [zam x 5 * 10 + zam (zaj x) 2] (zam x 5 * 10 + zam (zaj x) 2)).2.2)) 2).toNat 0 (zaj (zaj ((zcw (zam x 5 * 10) (sz - 2).toNat 1 (zaj (zaj x)) [zam x 5 * 10 + zam (zaj x) 2] (zam x 5 * 10 + zam (zaj x) 2)).2.2))) []).1, []⟩ (zam (zco (sz * zcq ((zcw (zam x 5 * 10) (sz - 2).toNat 1 (zaj (zaj x)) [zam x 5 * 10 + zam (zaj x) 2] (zam x 5 * 10 + zam (zaj x) 2)).2.2) 1 3 + zam (zaj ((zcw (zam x 5 * 10) (sz - 2).toNat 1 (zaj (zaj x)) [zam x 5 * 10 + zam (zaj x) 2] (zam x 5 * 10 + zam (zaj x) 2)).2.2)) 2).toNat 0 (zaj (zaj ((zcw (zam x 5 * 10) (sz - 2).toNat 1 (zaj (zaj x)) [zam x 5 * 10 + zam (zaj x) 2] (zam x 5 * 10 + zam (zaj x) 2)).2.2))) []).2 (most + 1)).toNat (zaj (zco (sz * zcq ((zcw (zam x 5 * 10) (sz - 2).toNat 1 (zaj (zaj x)) [zam x 5 * 10 + zam (zaj x) 2] (zam x 5 * 10 + zam (zaj x) 2)).2.2) 1 3 + zam (zaj ((zcw (zam x 5 * 10) (sz - 2).toNat 1 (zaj (zaj x)) [zam x 5 * 10 + zam (zaj x) 2] (zam x 5 * 10 + zam (zaj x) 2)).2.2)) 2).toNat 0 (zaj (zaj ((zcw (zam x 5 * 10) (sz - 2).toNat 1 (zaj (zaj x)) [zam x 5 * 10 + zam (zaj x) 2] (zam x 5 * 10 + zam (zaj x) 2)).2.2))) []).2) []).1).val [(bs, srcO (zeb ⟨sz, st, ab, wi, ((zcw (zam x 5 * 10) (sz - 2).toNat 1 (zaj (zaj x)) [zam x 5 * 10 + zam (zaj x) 2] (zam x 5 * 10 + zam (zaj x) 2)).1 ++ [-(zcw (zam x 5 * 10) (sz - 2).toNat 1 (zaj (zaj x)) [zam x 5 * 10 + zam (zaj x) 2] (zam x 5 * 10 + zam (zaj x) 2)).2.1]), sh, (zco (sz * zcq ((zcw (zam x 5 * 10) (sz - 2).toNat 1 (zaj (zaj x)) [zam x 5 * 10 + zam (zaj x) 2] (zam x 5 * 10 + zam (zaj x) 2)).2.2) 1 3 + zam (zaj ((zcw (zam x 5 * 10) (sz - 2).toNat 1 (zaj (zaj x)) [zam x 5 * 10 + zam (zaj x) 2] (zam x 5 * 10 + zam (zaj x) 2)).2.2)) 2).toNat 0 (zaj (zaj ((zcw (zam x 5 * 10) (sz - 2).toNat 1 (zaj (zaj x)) [zam x 5 * 10 + zam (zaj x) 2] (zam x 5 * 10 + zam (zaj x) 2)).2.2))) []).1, []⟩ (zam (zco (sz * zcq ((zcw (zam x 5 * 10) (sz - 2).toNat 1 (zaj (zaj x)) [zam x 5 * 10 + zam (zaj x) 2] (zam x 5 * 10 + zam (zaj x) 2)).2.2) 1 3 + zam (zaj ((zcw (zam x 5 * 10) (sz - 2).toNat 1 (zaj (zaj x)) [zam x 5 * 10 + zam (zaj x) 2] (zam x 5 * 10 + zam (zaj x) 2)).2.2)) 2).toNat 0 (zaj (zaj ((zcw (zam x 5 * 10) (sz - 2).toNat 1 (zaj (zaj x)) [zam x 5 * 10 + zam (zaj x) 2] (zam x 5 * 10 + zam (zaj x) 2)).2.2))) []).2 (most + 1)).toNat (zaj (zco (sz * zcq ((zcw (zam x 5 * 10) (sz - 2).toNat 1 (zaj (zaj x)) [zam x 5 * 10 + zam (zaj x) 2] (zam x 5 * 10 + zam (zaj x) 2)).2.2) 1 3 + zam (zaj ((zcw (zam x 5 * 10) (sz - 2).toNat 1 (zaj (zaj x)) [zam x 5 * 10 + zam (zaj x) 2] (zam x 5 * 10 + zam (zaj x) 2)).2.2)) 2).toNat 0 (zaj (zaj ((zcw (zam x 5 * 10) (sz - 2).toNat 1 (zaj (zaj x)) [zam x 5 * 10 + zam (zaj x) 2] (zam x 5 * 10 + zam (zaj x) 2)).2.2))) []).2) []).2)]) :
    DS Try.prog 207 ⟨none, v0⟩ (FinV Try.prog [ResultVar.cell 4 26] R) [.ops os l, .code cd]
      [(34, ptr bs), (0, ptr bs), (1, I most), (4, ptr b4), (5, ptr b5)] [(b5, .cells [I sz, I st, I ab, I wi, .v (.slice none 0 0), Bo sh, .v (.slice none 0 0), .v (.slice none 0 0)] 26), (bs, srcO x), (b4, .cells zci 26)] := by
  obtain rfl := Option.some.inj ((show Try.f47.body.bind (regC 4) = some _ from rfl).symm.trans h1)
  obtain rfl := Option.some.inj ((show Try.f47.body.bind (zhv 4) = some _ from rfl).symm.trans h3)
  subst h2
  clear h1 h3
  simp only [zav, zaw]
  have HR := Box.mk hR
  clear hR
  have k1 := zcn x 5
  have k2 := zcn (zaj x) 2
  repeat' (first | (with_reducible first | refine DS.fltS yU yU yE ?_ | refine DS.opsNil ?_ | refine DS.seq ?_) | (refine DS.scS inferInstance (zcz bs x 5 (by omega)) yR yT yT ?_; (try simp only [zbj, zbv, ↓reduceIte, *])) | fail)
  (refine DS.drawX (id := 5) (bs := bs) (x := zaj x) (by simp only [zaa, zce, ↓reduceIte, *]) [0, 1, 2, 3, 4, 5, 6] 7 (by kernel_rfl) zct (by simp only [zay, zbc, zbd, zbe, zax]; exact rfl) (by simp only [zav, zaw, List.drop_nil]; exact rfl) ?_; simp only [zbj, zbv, ↓reduceIte, *])
  repeat' (first | (with_reducible first | refine DS.fltS yU yU yE ?_ | refine DS.opsNil ?_ | refine DS.seq ?_ | refine DS.regionL ?_ | refine DS.block ?_) | (refine DS.append (mm := false) yU yE yE yU (by decide) yE (by first | exact .inl rfl | exact .inr ⟨rfl, rfl⟩) yE yX0 (by first | exact zar zcu _ | exact zar zdm _ | exact zar Member.len _ | exact zar Sitting.len _ | exact zar Ruling.len _ | (simp only [List.mem_cons, List.not_mem_nil, or_false, forall_eq]; rfl) | simp) ⟨by (try simp only [List.length_map, List.length_cons, List.length_nil, List.length_append, List.length_take, List.length_drop]); omega, by decide⟩ ?_; simp only [zak, zac, zad, Nat.reduceEqDiff, ↓reduceIte, zag, zah, zao, zaf, zae, zal, zai]) | (refine DS.store yR yE yE yE yE yU (by exact ⟨by with_unfolding_all rfl, by (try simp only [List.length_map, List.length_append, List.length_set, List.length_replicate, List.length_cons, List.length_nil]); omega⟩) ?_; simp only [zbm, zaq, zat, zbz, zbn, zbl, zbh]; try simp only [zak, zac, zad, Nat.reduceEqDiff, ↓reduceIte, zag, zah, zao, zaf, zae, zal, zai]) | (with_reducible first | refine DD.fltS yU yU yU yE ?_ | refine DD.flt1S yU yU yU yU yE ?_) | (with_reducible refine DD.nil ?_; simp only [zap, zau]) | (refine DD.scS inferInstance (zcz bs (zaj x) 2 (by omega)) yU yT yT ?_; simp only [zbo, zbw, Nat.reduceEqDiff, ↓reduceIte]; (try simp only [zbj, zbv, ↓reduceIte, *])) | (refine DD.bslS yU yE yE ?_; simp only [go_sem, Nat.zero_add, Nat.reduceAdd]; simp only [zbo, zbw, Nat.reduceEqDiff, ↓reduceIte]) | fail)
  simp only [setS, n5, ↓reduceIte, zbx, zbr]
  refine DS.loopS [0, 1, 4, 5, 6] (by (simp only [go_sem, Nat.reduceEqDiff, ↓reduceIte]; exact rfl)) (fun (y : Nat × Int × Int × List Int × Int) => [(8, I y.2.1), (7, I y.2.2.2.2)]) (fun (y : Nat × Int × Int × List Int × Int) => [(bs, srcO y.2.2.1), (b5, .cells [I sz, I st, I ab, I wi, .own false 3 1 (y.2.2.2.1.map cI), Bo sh, .v (.slice none 0 0), .v (.slice none 0 0)] 26), (b4, .cells zci 26)]) (fun (y : Nat × Int × Int × List Int × Int) => (y.2.1 + y.1 = sz - 1 ∧ y.1 ≤ 2) ∧ y.2.2.2.1.length + y.1 ≤ 3 ∧ (-10 * (4 - (y.1 : Int)) ≤ y.2.2.2.2 ∧ y.2.2.2.2 ≤ 100 * (4 - (y.1 : Int))) ∧ zcw (zam x 5 * 10) (sz - 2).toNat 1 (zaj (zaj x)) [zam x 5 * 10 + zam (zaj x) 2] (zam x 5 * 10 + zam (zaj x) 2) = zcw (zam x 5 * 10) y.1 y.2.1 y.2.2.1 y.2.2.2.1 y.2.2.2.2) (fun (y : Nat × Int × Int × List Int × Int) => y.1) ((sz - 2).toNat, 1, zaj (zaj x), [zam x 5 * 10 + zam (zaj x) 2], zam x 5 * 10 + zam (zaj x) 2) yS (fun b o e => by exact e) ⟨by dsimp only; omega, by simp; omega, by dsimp only; omega, rfl⟩ (fun y B hI hB => ?_); try dsimp only at hI hB; simp only [zap, zau]
  obtain ⟨k, i, x1, out, sum⟩ := y
  dsimp only at hI hB ⊢
  obtain ⟨g1, g2, g3, g4⟩ := hI
  have H := Box.mk g4
  clear g4
  have k3 := zcn x1 9
  have k4 : 0 ≤ (zam x 5 * 10).tdiv (i + 1) ∧ (zam x 5 * 10).tdiv (i + 1) ≤ 40 := by
    have h1 : 0 ≤ zam x 5 * 10 := by omega
    refine ⟨Int.tdiv_nonneg h1 (by omega), ?_⟩
    rw [Int.tdiv_eq_ediv_of_nonneg h1]
    exact Int.le_trans (Int.ediv_le_self _ h1) (by omega)
  repeat' (first | (with_reducible refine DS.loadOwn (t := 74) yU yE yE yE yE ?_; simp only [zbr, zbx]) | (with_reducible first | refine DS.fltS yU yU yE ?_ | refine DS.opsNil ?_ | refine DS.seq ?_ | refine DS.regionL ?_ | (refine DS.cE yE ?_; refine CG.p (fun _ => ?_) (fun _ => ?_)) | refine DS.block ?_ | refine DS.exit yU ?_ | refine DS.skip ?_) | (refine DS.bsl yU yE yE ?_; simp only [go_sem, Nat.zero_add, Nat.reduceAdd]) | (refine DS.append (mm := false) yU yE yE yU (by decide) yE (by first | exact .inl rfl | exact .inr ⟨rfl, rfl⟩) yE yX0 (by first | exact zar zcu _ | exact zar zdm _ | exact zar Member.len _ | exact zar Sitting.len _ | exact zar Ruling.len _ | (simp only [List.mem_cons, List.not_mem_nil, or_false, forall_eq]; rfl) | simp) ⟨by (try simp only [List.length_map, List.length_cons, List.length_nil, List.length_append, List.length_take, List.length_drop]); omega, by decide⟩ ?_; simp only [zak, zac, zad, Nat.reduceEqDiff, ↓reduceIte, zag, zah, zao, zaf, zae, zal, zai]) | (refine DS.store yR yE yE yE yE yU (by exact ⟨by with_unfolding_all rfl, by (try simp only [List.length_map, List.length_append, List.length_set, List.length_replicate, List.length_cons, List.length_nil]); omega⟩) ?_; simp only [zbm, zaq, zat, zbz, zbn, zbl, zbh]; try simp only [zak, zac, zad, Nat.reduceEqDiff, ↓reduceIte, zag, zah, zao, zaf, zae, zal, zai]) | fail)
  · (refine DS.drawX (id := 10) (bs := bs) (x := x1) (by simp only [zaa, zce, ↓reduceIte, *]) [0, 1, 2, 3, 4, 5] 6 (by kernel_rfl) zct (by simp only [zay, zbc, zbd, zbe, zax]; exact rfl) (by simp only [zav, zaw, List.drop_nil]; exact rfl) ?_; simp only [zbj, zbv, ↓reduceIte, *])
    repeat' (first | (with_reducible refine DS.loadOwn (t := 65) yU yE yE yE yE ?_; simp only [zbr, zbx]) | (with_reducible first | refine DS.fltS yU yU yE ?_ | refine DS.opsNil ?_ | refine DS.regionL ?_ | refine DS.blk ?_) | (refine DS.bsl yU yE yE ?_; simp only [go_sem, Nat.zero_add, Nat.reduceAdd]) | (refine DS.append (mm := false) yU yE yE yU (by decide) yE (by first | exact .inl rfl | exact .inr ⟨rfl, rfl⟩) yE yX0 (by first | exact zar zcu _ | exact zar zdm _ | exact zar Member.len _ | exact zar Sitting.len _ | exact zar Ruling.len _ | (simp only [List.mem_cons, List.not_mem_nil, or_false, forall_eq]; rfl) | simp) ⟨by (try simp only [List.length_map, List.length_cons, List.length_nil, List.length_append, List.length_take, List.length_drop]); omega, by decide⟩ ?_; simp only [zak, zac, zad, Nat.reduceEqDiff, ↓reduceIte, zag, zah, zao, zaf, zae, zal, zai]) | (refine DS.store yR yE yE yE yE yU (by exact ⟨by with_unfolding_all rfl, by (try simp only [List.length_map, List.length_append, List.length_set, List.length_replicate, List.length_cons, List.length_nil]); omega⟩) ?_; simp only [zbm, zaq, zat, zbz, zbn, zbl, zbh]; try simp only [zak, zac, zad, Nat.reduceEqDiff, ↓reduceIte, zag, zah, zao, zaf, zae, zal, zai]) | with_reducible refine DD.fltS yU yU yU yE ?_ | (with_reducible refine DD.nil ?_; simp only [zap, zau]) | (refine DD.scS inferInstance (zcz bs x1 9 (by omega)) yU yT yT ?_; simp only [zbo, zbw, Nat.reduceEqDiff, ↓reduceIte]; (try simp only [zbj, zbv, ↓reduceIte, *])) | fail)
    simp only [setS, n5, n5', n4, n4', m5, m5', ↓reduceIte, zbx, zbr]
    have hk : zcw (zam x 5 * 10) k i x1 out sum = zcw (zam x 5 * 10) (k - 1) (i + 1) (zaj x1) (out ++ [(zam x 5 * 10).tdiv (i + 1) - zam x1 9]) (sum + ((zam x 5 * 10).tdiv (i + 1) - zam x1 9)) := by
      obtain ⟨k', rfl⟩ : ∃ k', k = k' + 1 := ⟨k - 1, by omega⟩
      rw [zcw]; rfl
    refine DS.back (hB (k - 1, i + 1, zaj x1, out ++ [(zam x 5 * 10).tdiv (i + 1) - zam x1 9], sum + ((zam x 5 * 10).tdiv (i + 1) - zam x1 9)) _ _ (by dsimp only; omega) ⟨by dsimp only; omega, by simp; omega, by dsimp only; omega, H.out.trans hk⟩ yS yS (fun d o e => ?_))
    dsimp only at e
    rw [List.map_append, List.map_singleton, cI] at e
    exact e
  · simp only [setS, n5, n5', n4, n4', m5, m5', ↓reduceIte, zbx, zbr]
    have hR := HR.out
    obtain rfl : k = 0 := by omega
    rw [H.out, zcw] at hR
    dsimp only at hR
    refine DS.weaken (E' := [(10, I 0), (0, ptr bs), (1, I most), (4, ptr b4), (5, ptr b5)]) (S' := [(bs, srcO x1), (b5, .cells (zfj sz st ab wi (out ++ [-sum]) sh (.v (.slice none 0 0)) (.v (.slice none 0 0))) 26), (b4, .cells zci 26)]) (zdb (by simp (disch := omega) only [go_sem, ↓reduceIte, Nat.reduceEqDiff, zdp, zea, and_self, zap, zau])) (fun d o e => ?_) ?_
    · rw [zfj, List.map_append, List.map_singleton, cI, ← Int.zero_sub] at e
      exact e
    · exact club_members bs b4 b5 x1 most sz st ab wi sh (out ++ [-sum]) hm hszB hsz hst hwi (by rw [List.length_append, List.length_singleton]; omega) n4 n4' n5 n5' m5 m5' yR hR
end Go.XL
namespace Go.XL
open Go.Proofs
set_option maxRecDepth 100000
set_option maxHeartbeats 8000000
theorem clubOf_dc (bs : Nat) (x most : Int) (hm : 0 ≤ most ∧ most ≤ 3) :
    SC Try.prog 47 [ptr bs, I most] bs x (zek x most).1.val (zek x most).2 := by
  have k1 := zcn x 4
  have k2 := zcn (zaj x) 5
  have k3 := zcn (zaj (zaj x)) 3
  have k4 := zcn (x5 x) 5
  refine DC.of_run Try.func47 rfl Try.ntmps47 Try.results47 (by simp) (fun _ => ?_); simp only [zan, zas, go_sem, Nat.zero_add, Nat.reduceAdd]
  repeat' (first | (with_reducible first | refine DS.seq ?_ | refine DS.regionL ?_) | fail)
  refine DS.allocS yR yU yU (fun b4 h4 => ?_)
  have n4 : ¬ bs = b4 := fun e => by rw [zaa, if_pos e] at h4; cases h4
  have n4' : ¬ b4 = bs := fun e => n4 e.symm
  clear h4
  repeat' (first | (with_reducible first | refine DS.fltS yU yU yX8 ?_ | refine DS.opsNil ?_ | refine DS.seq ?_ | refine DS.regionL ?_) | (refine DS.scS inferInstance (zcz bs x 4 (by omega)) yR yX34 yX34 ?_; (try simp only [zbj, zbv, ↓reduceIte, *])) | (refine DS.scS inferInstance (zcz bs (zaj x) 5 (by omega)) yR yX34 yX34 ?_; (try simp only [zbj, zbv, ↓reduceIte, *])) | (refine DS.scS inferInstance (zcz bs (zaj (zaj x)) 3 (by omega)) yR yX34 yX34 ?_; (try simp only [zbj, zbv, ↓reduceIte, *])) | (refine DS.scS inferInstance (zkj bs (zaj (zaj (zaj x))) 2 (by omega)) yR yX34 yX34 ?_; (try simp only [zbj, zbv, ↓reduceIte, *])) | fail)
  refine DS.allocS yR yU yU (fun b5 h5 => ?_)
  have n5 : ¬ bs = b5 := fun e => by simp only [zaa, e, ↓reduceIte] at h5; first | (cases h5; done) | (split at h5 <;> cases h5)
  have n5' : ¬ b5 = bs := fun e => n5 e.symm
  have m5 : ¬ b4 = b5 := fun e => by simp only [zaa, e, ↓reduceIte] at h5; first | (cases h5; done) | (split at h5 <;> cases h5)
  have m5' : ¬ b5 = b4 := fun e => m5 e.symm
  clear h5
  repeat' (first | (with_reducible first | refine DS.fltS yU yU yX8 ?_ | refine DS.opsNil ?_ | refine DS.seq ?_ | refine DS.regionL ?_ | (refine DS.cE yX8 ?_; refine CG.b (fun _ => ?_) (fun _ => ?_)) | refine DS.skip ?_) | (refine DS.scS inferInstance (zkj bs (zaj (zaj (zaj (zaj x)))) 4 (by omega)) yR yX32 yX32 ?_; (try simp only [zbj, zbv, ↓reduceIte, *])) | (refine DS.store yR yX8 yX8 yX8 yX8 yU (by exact ⟨by with_unfolding_all rfl, by (try simp only [List.length_map, List.length_append, List.length_set, List.length_replicate, List.length_cons, List.length_nil]); omega⟩) ?_; simp only [zbm, zaq, zat, zbz, zbn, zbl, zbh]; try simp only [zak, zac, zad, Nat.reduceEqDiff, ↓reduceIte, zag, zah, zao, zaf, zae, zal, zai]) | fail)
  · rename_i e0
    have hs : zhy x = 4 := by unfold zhy; rw [if_pos e0]
    have hR : (zek x most).1.val = (zek x most).1.val ∧ [(bs, srcO (zek x most).2)] = [(bs, srcO (zek x most).2)] := ⟨rfl, rfl⟩
    simp only [setS, zbj, zbv, n5, n5', n4, n4', m5, m5', ↓reduceIte, List.map_cons, List.map_nil, zca, zaq, zat, zbx, zbr, Nat.reduceAdd, Nat.zero_add]
    exact DS.weaken (E' := [(34, ptr bs), (0, ptr bs), (1, I most), (4, ptr b4), (5, ptr b5)]) (S' := [(b5, .cells [I (zhy x), I (zam x 4 * 100), I (zam (zaj x) 5 * 10 - 30), I (zam (zaj (zaj x)) 3), .v (.slice none 0 0), Bo (zmr (zaj (zaj (zaj x))) 2), .v (.slice none 0 0), .v (.slice none 0 0)] 26), (bs, srcO (x5 x)), (b4, .cells zci 26)]) (zdb (by simp (disch := omega) only [go_sem, ↓reduceIte, Nat.reduceEqDiff, zdp, zea, and_self])) (fun d o e => by
        rw [hs] at e
        simp only [zaa, zce] at e ⊢
        by_cases c0 : b5 = d
        · subst c0; simp only [n5, m5, ↓reduceIte] at e ⊢; exact e
        by_cases c1 : bs = d
        · subst c1; simp only [n5', n4', ↓reduceIte] at e ⊢; exact e
        by_cases c2 : b4 = d
        · subst c2; simp only [m5', n4, ↓reduceIte] at e ⊢; exact e
        · simp only [c0, c1, c2, ↓reduceIte] at e; cases e)
      (zom bs b4 b5 (x5 x) most (zhy x) (zam x 4 * 100) (zam (zaj x) 5 * 10 - 30) (zam (zaj (zaj x)) 3) (zmr (zaj (zaj (zaj x))) 2) hm ⟨⟨4, by rw [hs]; rfl⟩⟩ (by rw [hs]; omega) (by omega) (by omega) n4 n4' n5 n5' m5 m5' yR yR yR hR)
  · rename_i e0
    have hs : zhy x = 3 := by unfold zhy; rw [if_neg (by simp [e0])]
    have hR : (zek x most).1.val = (zek x most).1.val ∧ [(bs, srcO (zek x most).2)] = [(bs, srcO (zek x most).2)] := ⟨rfl, rfl⟩
    simp only [setS, zbj, zbv, n5, n5', n4, n4', m5, m5', ↓reduceIte, List.map_cons, List.map_nil, zca, zaq, zat, zbx, zbr, Nat.reduceAdd, Nat.zero_add]
    exact DS.weaken (E' := [(34, ptr bs), (0, ptr bs), (1, I most), (4, ptr b4), (5, ptr b5)]) (S' := [(b5, .cells [I (zhy x), I (zam x 4 * 100), I (zam (zaj x) 5 * 10 - 30), I (zam (zaj (zaj x)) 3), .v (.slice none 0 0), Bo (zmr (zaj (zaj (zaj x))) 2), .v (.slice none 0 0), .v (.slice none 0 0)] 26), (bs, srcO (x5 x)), (b4, .cells zci 26)]) (zdb (by simp (disch := omega) only [go_sem, ↓reduceIte, Nat.reduceEqDiff, zdp, zea, and_self])) (fun d o e => by
        rw [hs] at e
        simp only [zaa, zce] at e ⊢
        by_cases c0 : b5 = d
        · subst c0; simp only [n5, m5, ↓reduceIte] at e ⊢; exact e
        by_cases c1 : bs = d
        · subst c1; simp only [n5', n4', ↓reduceIte] at e ⊢; exact e
        by_cases c2 : b4 = d
        · subst c2; simp only [m5', n4, ↓reduceIte] at e ⊢; exact e
        · simp only [c0, c1, c2, ↓reduceIte] at e; cases e)
      (zom bs b4 b5 (x5 x) most (zhy x) (zam x 4 * 100) (zam (zaj x) 5 * 10 - 30) (zam (zaj (zaj x)) 3) (zmr (zaj (zaj (zaj x))) 2) hm ⟨⟨3, by rw [hs]; rfl⟩⟩ (by rw [hs]; omega) (by omega) (by omega) n4 n4' n5 n5' m5 m5' yR yR yR hR)
end Go.XL
namespace Go.XL
open Go.Proofs
set_option maxRecDepth 100000
set_option maxHeartbeats 8000000
theorem made_dc (l : List Int) : DC Try.prog 14 [ints l] [] (fun u S' => ∃ bs, u = .tup [ptr bs, (zek (newX l) 3).1.val] ∧ S' = [(bs, srcO (zek (newX l) 3).2)]) := by
  refine DC.of_run Try.func14 rfl Try.ntmps14 Try.results14 (by simp) (fun _ => ?_); simp only [zan, zas, go_sem, Nat.zero_add, Nat.reduceAdd]
  repeat' (first | (with_reducible first | refine DS.fltS yU yU yE ?_ | refine DS.seq ?_ | refine DS.regionL ?_) | fail)
  refine DS.allocS yR yU yU (fun b3 h3 => ?_)
  clear h3
  repeat' (first | (with_reducible first | refine DS.fltS yU yU yE ?_ | refine DS.opsNil ?_ | refine DS.seq ?_ | refine DS.regionL ?_) | fail)
  refine DS.call (dst := some 6) [] [(b3, .cells (List.map V.v (Value.agg #[.int .i64 0, .int .i64 0, .int .i64 0, .int .i64 0, .slice none 0 0, .bool false, .slice none 0 0, .slice none 0 0]).cells.toList) 26)] inferInstance (newSource_dc l) yR yH (fun _ _ e => by cases e) (fun _ _ e => ⟨e, rfl⟩) ?_
  rintro v S0 ⟨bs, rfl, rfl⟩ hdis
  have hn := hdis bs _ (by rw [zaa, if_pos rfl])
  have n3 : ¬ b3 = bs := fun h => by rw [zaa, if_pos h] at hn; cases hn
  have n3' : ¬ bs = b3 := fun h => n3 h.symm
  clear hn hdis
  simp only [zap, zau, zcj]
  repeat' (first | (with_reducible first | refine DS.fltS yU yU yE ?_ | refine DS.opsNil ?_ | refine DS.seq ?_ | refine DS.regionL ?_) | (refine DS.scS inferInstance (clubOf_dc bs (newX l) 3 (by omega)) yR yT yT ?_; (try simp only [zbj, zbv, ↓reduceIte, *])) | (refine DS.store yR yE yE yE yE yU (by exact ⟨by with_unfolding_all rfl, by (try simp only [List.length_map, List.length_append, List.length_set, List.length_replicate, List.length_cons, List.length_nil]); omega⟩) ?_; simp only [zbm, zaq, zat, zbz, zbn, zbl, zbh]; try simp only [zak, zac, zad, Nat.reduceEqDiff, ↓reduceIte, zag, zah, zao, zaf, zae, zal, zai]) | fail)
  simp only [Club.cells_eq, List.map_cons, List.map_nil, zca, zbb, zaq, zat, zbx, zbr, setS, n3', ↓reduceIte, Nat.reduceAdd, Nat.zero_add]
  refine DS.retW [(bs, srcO (zek (newX l) 3).2)] (vs := [ptr bs, (zek (newX l) 3).1.val]) yH (fun d o e => ?_) ⟨bs, rfl, rfl⟩
  simp only [zaa, zce] at e ⊢
  by_cases c0 : bs = d
  · rw [if_pos c0] at e ⊢; exact e
  · rw [if_neg c0] at e; cases e
theorem all_pc : PC Try.prog 46 [] (.own false 3 1 ([1, 2, 3, 4, 5, 6, 7, 8, 9].map cI)) := by
  refine DC.of_run Try.func46 rfl Try.ntmps46 Try.results46 (by simp) (fun _ => ?_); simp only [zan, zas, go_sem, Nat.zero_add, Nat.reduceAdd]
  repeat' (first | with_reducible (refine DS.nilOwn (t := 0) yU (by first | exact .inl rfl | exact .inr rfl) yX8 ?_) | (with_reducible refine DS.mv (t := 0) yU (by first | exact .inl rfl | exact .inr rfl) yX8 ?_; simp only [zak, zac, zad, Nat.reduceEqDiff, ↓reduceIte, zag, zah, zao, zaf, zae, zal, zai]) | (with_reducible first | refine DS.opsNil ?_ | refine DS.seq ?_ | refine DS.regionL ?_) | (refine DS.bsl yU yX8 yX8 ?_; simp only [go_sem, Nat.zero_add, Nat.reduceAdd]) | refine DS.retT [] yX8 trivial ?_ | fail)
  all_goals rfl
end Go.XL
namespace Go.XL
open Go.Proofs
set_option maxRecDepth 100000
set_option maxHeartbeats 8000000
theorem DS.mapO {P : Program} {n : Nat} {r : Rr} {Q : VEnv → Sto → Prop} {k : List Fr} {E : VEnv} {S : Sto} {b : Nat} {l : List V} {T : TypeId} (f : V → V) (hf : ∀ hv v y, v.Rl hv y → (f v).Rl hv y) (hfr : ∀ v, (f v).free = true) (hS : zab S b = some (.cells l T)) (q : DS P n r Q k E (setS b (.cells (l.map f) T) S)) : DS P n r Q k E S := fun K W a w ⟨K', D, hv, hold, env, hbx, ha, s⟩ hw => by
  refine q K W a w ⟨K', D, hv, hold, env, hbx, ha, ⟨s.pre, s.slot, fun j o e => ?_, s.held, s.base, s.vbase⟩⟩ hw
  rw [zbg hS] at e
  split at e
  · rename_i hj
    subst hj
    simp only [Option.some.injEq] at e; subst e
    obtain ⟨o1, o2, cs, o3, o4, o5, o6⟩ := s.obj _ _ hS
    have key : ∀ {l : List V} {cs : List Value}, RlL hv l cs → RlL hv (l.map f) cs := fun {l} => by
      induction l with
      | nil => exact fun h => h
      | cons v r ih =>
        intro cs h
        obtain ⟨z, zs, rfl, h1, h2⟩ := h.cons
        simp only [List.map_cons, RlL]
        exact ⟨z, zs, rfl, hf _ _ _ h1, ih h2⟩
    refine ⟨o1, o2, cs, o3, key o4, o5, fun i c u hc hu => ?_⟩
    obtain ⟨v, hv, rfl⟩ := List.mem_map.1 (List.mem_of_getElem? hc)
    exact V.free_Own (hfr v) u
  · exact s.obj j o e
theorem zwr {hv : VH} {f : V → V} (hf : ∀ v y, v.Rl hv y → (f v).Rl hv y) {p : Option Addr} : ∀ {c : List V} {i : Nat}, RlC hv p i c → RlC hv p i (c.map f)
  | [], _, _ => trivial
  | v :: r, i, h => by
    simp only [List.map_cons, RlC] at h ⊢
    obtain ⟨⟨u, h1, h2, h3⟩, h4⟩ := h
    exact ⟨⟨u, h1, hf _ _ h2, h3⟩, zwr hf h4⟩
theorem zwq {hv : VH} {f : V → V} (hf : ∀ v y, v.Rl hv y → (f v).Rl hv y) {p : Option Addr} : ∀ {l : List (List V)} {i : Nat}, RlE hv p i l → RlE hv p i (l.map (·.map f))
  | [], _, _ => trivial
  | c :: r, i, h => by
    simp only [List.map_cons, RlE] at h ⊢
    exact ⟨zwr hf h.1, by rw [List.length_map]; exact zwq hf h.2⟩
def inL (f : V → V) (v : V) : V := match v.peek with | .lst l => .lst (l.map (·.map f)) | w => w
theorem zwa {hv : VH} {f : V → V} (hf : ∀ v y, v.Rl hv y → (f v).Rl hv y) {v : V} {y : Value} (h : v.Rl hv y) : (inL f v).Rl hv y := by
  have h' := V.peek_Rl h
  unfold inL
  split
  · rename_i l e
    rw [e] at h'
    simp only [V.Rl] at h' ⊢
    obtain ⟨p, cap, sz, h1, h2, h3, h4, h5⟩ := h'
    refine ⟨p, cap, sz, by rw [List.length_map]; exact h1, by rw [List.length_map]; exact h2, h3, fun c hc => ?_, zwq hf h5⟩
    obtain ⟨d, hd, rfl⟩ := List.mem_map.1 hc
    rw [List.length_map]; exact h4 d hd
  · exact h'
theorem inL_free (f : V → V) (v : V) : (inL f v).free = true := by
  unfold inL
  split
  · rfl
  · exact zdc v
def deep : V → V := inL (inL (inL V.peek))
theorem deep_Rl {hv : VH} {v : V} {y : Value} (h : v.Rl hv y) : (deep v).Rl hv y := zwa (fun _ _ h => zwa (fun _ _ h => zwa (fun _ _ h => V.peek_Rl h) h) h) h
def shownC : Club := ⟨3, 100, -50, 1, [30, 0, -30], true, [⟨1, 0, 0, -1⟩, ⟨2, 0, 0, -1⟩, ⟨3, 0, 0, -1⟩, ⟨4, 0, 0, -1⟩, ⟨5, 0, 0, -1⟩, ⟨6, 0, 0, -1⟩, ⟨7, 0, 0, -1⟩, ⟨8, 0, 0, -1⟩, ⟨9, 5, 0, -1⟩], [⟨[[1, 2, 3], [4, 5, 6], [7, 8, 9]], [[130, 100, 70], [120, 120, 60], []], []⟩]⟩
abbrev shC (m r : V) : List V := [I 3, I 100, I (-50), I 1, ints [30, 0, -30], Bo true, m, r]
def mems (n : Nat) : List Member := (List.range n).map fun i : Nat => ⟨(i : Int) + 1, 0, 0, -1⟩
structure MemI (b0 b1 n : Nat) (g : GR) : Prop where
  l : g.l = (mems n).map Member.cells
  ok : g.Ok 88 4 (SR 88 g)
  nb : NB b0 b0 b1 b1 g
theorem yX35 {p : Prop} (h : p := by (simp (disch := omega) only [go_sem, dopV, Option.map_some, Option.map_none, Option.bind_some, Option.bind_none, ↓reduceIte, Nat.reduceEqDiff, Nat.reduceLT, Nat.reduceLeDiff, Nat.reduceAdd, Nat.reduceMul, Nat.reduceSub, Nat.zero_add, Nat.add_zero, Nat.zero_le, Nat.zero_mul, Nat.mul_one, Nat.one_mul, Int.natCast_zero, Int.toNat_zero, Int.reduceToNat, Int.reduceLT, Int.reduceLE, Int.reduceEq, decide_true, decide_false, true_and, and_true, Bool.and_self, Bool.and_true, Bool.true_and, Bool.not_true, Bool.not_false, IntWalk.toNatUp, IntWalk.iteOmega, IntWalk.i64_in, Option.isSome_some, not_true_eq_false, not_false_eq_true, Option.getD_some, Option.getD_none, Int.toNat_natCast, List.length_map, List.getElem?_map, List.getElem?_eq_getElem, V.flat, V.one, List.all_cons, List.all_nil, *, Value.oneCell', GR.cell_copy]; exact rfl)) : p := h
theorem yX36 {p : Prop} (h : p := by (simp (disch := omega) only [go_sem, dopV, Option.map_some, Option.map_none, Option.bind_some, Option.bind_none, ↓reduceIte, Nat.reduceEqDiff, Nat.reduceLT, Nat.reduceLeDiff, Nat.reduceAdd, Nat.reduceMul, Nat.reduceSub, Nat.zero_add, Nat.add_zero, Nat.zero_le, Nat.zero_mul, Nat.mul_one, Nat.one_mul, Int.natCast_zero, Int.toNat_zero, Int.reduceToNat, Int.reduceLT, Int.reduceLE, Int.reduceEq, decide_true, decide_false, true_and, and_true, Bool.and_self, Bool.and_true, Bool.true_and, Bool.not_true, Bool.not_false, IntWalk.toNatUp, IntWalk.iteOmega, IntWalk.i64_in, Option.isSome_some, not_true_eq_false, not_false_eq_true, Option.getD_some, Option.getD_none, Int.toNat_natCast, List.length_map, List.getElem?_map, List.getElem?_eq_getElem, V.flat, V.one, List.all_cons, List.all_nil, Club.cells_eq]; try exact rfl)) : p := h
theorem shown_pc : PC Try.prog 44 [] shownC.val := by
  refine DC.of_run Try.func44 rfl Try.ntmps44 Try.results44 (by simp) (fun _ => ?_); simp only [zan, zas, go_sem, Nat.zero_add, Nat.reduceAdd]
  repeat' (first | (with_reducible first | refine DS.seq ?_ | refine DS.regionL ?_) | fail)
  refine DS.allocS yR yU yU (fun b0 h0 => ?_)
  clear h0
  repeat' (first | (with_reducible first | refine DS.fltS yU yU yX8 ?_ | refine DS.opsNil ?_ | refine DS.seq ?_ | refine DS.regionL ?_) | (refine DS.bsl yU yX8 yX8 ?_; simp only [go_sem, Nat.zero_add, Nat.reduceAdd]) | fail)
  refine DS.allocS yR yU yU (fun b1 h1 => ?_)
  have n1 : ¬ b0 = b1 := fun e => by rw [zaa, if_pos e] at h1; cases h1
  have n1' : ¬ b1 = b0 := fun e => n1 e.symm
  clear h1
  repeat' (first | (with_reducible first | refine DS.fltS yU yU yX8 ?_ | refine DS.opsNil ?_ | refine DS.seq ?_ | refine DS.regionL ?_ | refine DS.block ?_) | (refine DS.store yR yX8 yX8 yX8 yX8 yU (by exact ⟨by with_unfolding_all rfl, by (try simp only [List.length_map, List.length_append, List.length_set, List.length_replicate, List.length_cons, List.length_nil]); omega⟩) ?_; simp only [zbm, zaq, zat, zbz, zbn, zbl, zbh]; try simp only [zak, zac, zad, Nat.reduceEqDiff, ↓reduceIte, zag, zah, zao, zaf, zae, zal, zai]) | fail)
  simp only [List.map_cons, List.map_nil, zca, zbb, zaq, zat, zbx, zbr, setS, n1', ↓reduceIte, Nat.reduceAdd, Nat.zero_add]
  refine DS.loopS [0, 1] (by (simp only [go_sem, Nat.reduceEqDiff, ↓reduceIte]; exact rfl)) (fun (y : Nat × Int × GR) => [(2, I y.2.1)]) (fun (y : Nat × Int × GR) => (b1, .cells (shC y.2.2.cell (.v (.slice none 0 0))) 26) :: (b0, .cells zci 26) :: SR 88 y.2.2) (fun (y : Nat × Int × GR) => y.1 ≤ 9 ∧ (y.2.1 ≤ y.1 + 1 ∧ (y.1 : Int) + 1 ≤ y.2.1) ∧ MemI b0 b1 y.1 y.2.2) (fun (y : Nat × Int × GR) => 9 - y.1) (0, 1, ⟨[], none⟩) yS (fun b o e => by exact e) ⟨by dsimp only; omega, by dsimp only; omega, ⟨rfl, rfl, fun _ _ _ e => by cases e⟩⟩ (fun y B hI hB => ?_); try dsimp only at hI hB; simp only [zap, zau]
  obtain ⟨m, i, g⟩ := y
  dsimp only at hI hB ⊢
  obtain ⟨g1, g2, hg⟩ := hI
  repeat' (first | (with_reducible first | refine DS.fltS yU yU yX35 ?_ | refine DS.opsNil ?_ | refine DS.seq ?_ | refine DS.regionL ?_ | (refine DS.cE yX35 ?_; refine CG.p (fun _ => ?_) (fun _ => ?_)) | refine DS.block ?_ | refine DS.exit yU ?_ | refine DS.skip ?_) | (refine DS.bsl yU yX35 yX35 ?_; simp only [go_sem, Nat.zero_add, Nat.reduceAdd]) | fail)
  · have hgl : g.l.length = m := by rw [hg.l, List.length_map]; simp [mems]
    refine DS.step rfl rfl yR (OpS.appG (g := g) (ml := [Member.cells ⟨i, 0, 0, -1⟩]) rfl yH yH yR yR (by decide) yH (hg.ok.of fun d cap' jj h => ?_) yH yH (by exact Nat.zero_lt_succ _) (by intro c hc; obtain rfl := List.mem_singleton.1 hc; rfl) ⟨by rw [hgl, List.length_singleton]; omega, by decide⟩) (fun u2 E' S4 hu2 => ?_)
    · have hn := hg.nb d cap' jj h
      rw [zaa, if_neg (fun h' => hn.2.2.1 h'.symm), zaa, if_neg (fun h' => hn.1 h'.symm)]
    obtain ⟨rfl, b', cap', junk', rfl, m1, m2, m3⟩ := hu2
    obtain rfl : i = (m : Int) + 1 := by omega
    have hml : g.l ++ [Member.cells ⟨(m : Int) + 1, 0, 0, -1⟩].map (fun x => List.map V.copy x) = (mems (m + 1)).map Member.cells := by
      rw [hg.l, mems, mems, List.range_succ, List.map_append, List.map_append]; rfl
    rw [hml] at m1 ⊢
    have hnl : ((mems (m + 1)).map Member.cells).length = m + 1 := by rw [List.length_map]; simp [mems]
    have e0 : b' ≠ b1 ∧ b' ≠ b0 := by
      rcases m2 with ⟨c, jj, h⟩ | h
      · have hn := hg.nb _ _ _ h
        exact ⟨hn.2.2.1, hn.1⟩
      · simp only [zaa] at h
        refine ⟨fun h' => ?_, fun h' => ?_⟩
        · rw [if_pos h'.symm] at h; cases h
        · rw [if_neg (fun x => n1' (x.trans h')), if_pos h'.symm] at h; cases h
    obtain ⟨e1, e2⟩ := e0
    have hold : ∀ d, d ≠ b' → (d = b1 ∨ d = b0) → zab S4 d = zab ((b1, Ob.cells (shC g.cell (.v (.slice none 0 0))) 26) :: (b0, .cells zci 26) :: SR 88 g) d := fun d hd hl =>
      m3 d hd fun c jj h => by
        have hn := hg.nb _ _ _ h
        rcases hl with rfl | rfl
        · exact hn.2.2.1 rfl
        · exact hn.1 rfl
    refine DS.reS (S' := (b1, .cells (shC g.cell (.v (.slice none 0 0))) 26) :: (b0, .cells zci 26) :: SR 88 ⟨(mems (m + 1)).map Member.cells, some (b', cap', junk')⟩) (fun d o e => ?_) ?_
    · simp only [zaa, zce, SR] at e
      by_cases c1 : b1 = d
      · subst c1; rw [if_pos rfl] at e; rw [hold _ (fun h => e1 h.symm) (.inl rfl), zaa, if_pos rfl]; exact e
      rw [if_neg c1] at e
      by_cases c2 : b0 = d
      · subst c2; rw [if_pos rfl] at e; rw [hold _ (fun h => e2 h.symm) (.inr rfl), zaa, if_neg c1, zaa, if_pos rfl]; exact e
      rw [if_neg c2] at e
      by_cases c3 : b' = d
      · subst c3; rw [if_pos rfl] at e; rw [m1.look]; exact e
      · rw [if_neg c3] at e; cases e
    have hI2 : MemI b0 b1 (m + 1) ⟨(mems (m + 1)).map Member.cells, some (b', cap', junk')⟩ := ⟨rfl, ⟨by simp [SR, zab], m1.len, m1.le, m1.cap, m1.jf, m1.lf, m1.ll⟩, fun c1 c2 c3 h => by cases h; exact ⟨e2, e2, e1, e1⟩⟩
    have H := Box.mk hI2
    clear hI2 hml m1 m2 m3 hold hg
    simp only [GR.cell_some, zcj]
    repeat' (first | (with_reducible first | refine DS.fltS yU yU yE ?_ | refine DS.opsNil ?_ | refine DS.regionL ?_ | refine DS.blk ?_) | (refine DS.store yR yE yE yE yE yU (by exact ⟨by with_unfolding_all rfl, by (try simp only [List.length_map, List.length_append, List.length_set, List.length_replicate, List.length_cons, List.length_nil]); omega⟩) ?_; simp only [zbm, zaq, zat, zbz, zbn, zbl, zbh]; try simp only [zak, zac, zad, Nat.reduceEqDiff, ↓reduceIte, zag, zah, zao, zaf, zae, zal, zai]) | fail)
    simp only [setS, ↓reduceIte, zbx, zbr]
    refine DS.back (hB (m + 1, (m : Int) + 1 + 1, ⟨(mems (m + 1)).map Member.cells, some (b', cap', junk')⟩) _ _ (by dsimp only; omega) ⟨by dsimp only; omega, by dsimp only; omega, H.out⟩ yS yS (fun d o e => ?_))
    dsimp only at e
    rw [GR.cell_some, hnl] at e
    exact e
  · obtain rfl : m = 9 := by omega
    obtain ⟨l, blk⟩ := g
    obtain rfl : l = (mems 9).map Member.cells := hg.l
    cases blk with
    | none =>
      have : (mems 9).map Member.cells = [] := hg.ok
      cases this
    | some y =>
      obtain ⟨bm, cap, j⟩ := y
      have hok : GR.At 88 4 (SR 88 ⟨(mems 9).map Member.cells, some (bm, cap, j)⟩) ((mems 9).map Member.cells) bm cap j := hg.ok
      have hb := hg.nb bm cap j rfl
      have o0 : ¬ b0 = bm := fun h => hb.1 h.symm
      have o1 : ¬ b1 = bm := fun h => hb.2.2.1 h.symm
      have o1' : ¬ bm = b1 := hb.2.2.1
      have hle := hok.le
      have hcap := hok.cap
      have hfl : ((mems 9).map Member.cells).flatten = [I 1, I 0, I 0, I (-1), I 2, I 0, I 0, I (-1), I 3, I 0, I 0, I (-1), I 4, I 0, I 0, I (-1), I 5, I 0, I 0, I (-1), I 6, I 0, I 0, I (-1), I 7, I 0, I 0, I (-1), I 8, I 0, I 0, I (-1), I 9, I 0, I 0, I (-1)] := by with_unfolding_all rfl
      have hl9 : ((mems 9).map Member.cells).length = 9 := by with_unfolding_all rfl
      simp only [GR.cell_some, SR, hfl, hl9]
      rw [hl9] at hle
      clear hg hok hfl hl9
      repeat' (first | (with_reducible first | refine DS.fltS yU yU yE ?_ | refine DS.opsNil ?_ | refine DS.seq ?_ | refine DS.regionL ?_) | (refine DS.store yR yE yE yE yE yU (by exact ⟨by with_unfolding_all rfl, by (try simp only [List.length_map, List.length_append, List.length_set, List.length_replicate, List.length_cons, List.length_nil]); omega⟩) ?_; simp only [zbm, zaq, zat, zbz, zbn, zbl, zbh]; try simp only [zak, zac, zad, Nat.reduceEqDiff, ↓reduceIte, zag, zah, zao, zaf, zae, zal, zai]) | fail)
      simp only [setS, o1, ↓reduceIte]
      refine DS.freezeC (b := bm) (b' := b1) (i := 6) (sz := 4) (len := 9) (cap := cap) (l' := shC (.v (.slice (some ⟨bm, 0, none⟩) 9 cap)) (.v (.slice none 0 0))) (l := [I 1, I 0, I 0, I (-1), I 2, I 0, I 0, I (-1), I 3, I 0, I 0, I (-1), I 4, I 0, I 0, I (-1), I 5, I 0, I 0, I (-1), I 6, I 0, I 0, I (-1), I 7, I 0, I 0, I (-1), I 8, I 0, I 0, I (-1), I 9, I 5, I 0, I (-1)] ++ j) (T := 88) (T' := 26) o1 (by simp only [zaa, ↓reduceIte]) yR (by simp only [zaa, o0, o1, ↓reduceIte]; rfl) (by simp) ⟨hle, hcap⟩ ?_
      have hch : chunk 4 9 (([I 1, I 0, I 0, I (-1), I 2, I 0, I 0, I (-1), I 3, I 0, I 0, I (-1), I 4, I 0, I 0, I (-1), I 5, I 0, I 0, I (-1), I 6, I 0, I 0, I (-1), I 7, I 0, I 0, I (-1), I 8, I 0, I 0, I (-1), I 9, I 5, I 0, I (-1)] ++ j).map V.copy) = shownC.members.map Member.cells := by with_unfolding_all rfl
      rw [hch]
      clear hch
      simp only [setS, zbj, zbv, o0, o1, ↓reduceIte, zbx, zbr, shC]
      repeat' (first | (with_reducible first | refine DS.fltS yU yU yX8 ?_ | refine DS.opsNil ?_ | refine DS.seq ?_ | refine DS.regionL ?_) | (refine DS.bsl yU yX8 yX8 ?_; simp only [go_sem, Nat.zero_add, Nat.reduceAdd]) | (refine DS.store yR yX8 yX8 yX8 yX8 yU (by exact ⟨by with_unfolding_all rfl, by (try simp only [List.length_map, List.length_append, List.length_set, List.length_replicate, List.length_cons, List.length_nil]); omega⟩) ?_; simp only [zbm, zaq, zat, zbz, zbn, zbl, zbh]; try simp only [zak, zac, zad, Nat.reduceEqDiff, ↓reduceIte, zag, zah, zao, zaf, zae, zal, zai]) | fail)
      simp only [zci, List.map_cons, List.map_nil, zca, zbb, zbp, zaq, zat, zbx, zbr, setS, n1, n1', ↓reduceIte, Nat.reduceAdd, Nat.zero_add]
      refine DS.mapO (b := b0) deep (fun _ _ _ h => deep_Rl h) (fun v => inL_free _ v) (by simp only [zaa, n1', ↓reduceIte]; exact rfl) ?_
      refine DS.reS (S' := [(b0, .cells shownC.cells 26)]) (fun d o e => ?_) ?_
      · simp only [setS, n1', ↓reduceIte, zaa, zce] at e ⊢
        by_cases c0 : b0 = d
        · subst c0
          simp only [n1', ↓reduceIte] at e ⊢
          rw [← e]; with_unfolding_all rfl
        · rw [if_neg c0] at e; cases e
      · exact DS.retW [] (vs := [shownC.val]) yX36 (fun _ _ e => by cases e) rfl
end Go.XL
namespace Go.XL
def zmi (sum many at_ : Int) : Int := if at_ < sum % many then sum / many + 1 else sum / many
def zmj (points places : List Int) (start : Int) (shared : Bool) (i : Nat) : Int :=
  points.getD i 0 - start + if shared then zmi ((places.drop (zhe points (points.getD i 0))).take (zcy points (points.getD i 0))).sum (zcy points (points.getD i 0)) (zcy (points.take i) (points.getD i 0))
    else places.getD (zhe points (points.getD i 0) + zcy (points.take i) (points.getD i 0)) 0
def zsy (points places : List Int) (start : Int) (shared : Bool) : List Int :=
  if places.length < points.length then [] else (List.range points.length).map (zmj points places start shared)
theorem moreS_le (l : List Int) (p : Int) : zhe l p ≤ l.length := List.length_filter_le _ _
theorem zsk (l : List Int) (p : Int) : zcy l p ≤ l.length := List.length_filter_le _ _
theorem moreS_succ {l : List Int} {k : Nat} (p : Int) (h : k < l.length) : zhe (l.take (k + 1)) p = zhe (l.take k) p + if p < l[k] then 1 else 0 := by
  rw [List.take_succ_eq_append_getElem h, zhe, zhe, List.filter_append, List.length_append]
  by_cases h1 : p < l[k] <;> simp [h1]
theorem zok {l : List Int} {k : Nat} (p : Int) (h : k < l.length) : zcy (l.take (k + 1)) p = zcy (l.take k) p + if l[k] = p then 1 else 0 := by
  rw [List.take_succ_eq_append_getElem h, zcy, zcy, List.filter_append, List.length_append]
  by_cases h1 : l[k] = p <;> simp [h1]
theorem me_le : ∀ (l : List Int) (p : Int), zhe l p + zcy l p ≤ l.length
  | [], p => by simp [zhe, zcy]
  | x :: r, p => by
    have h := me_le r p
    simp only [zhe, zcy, List.filter_cons, List.length_cons] at h ⊢
    by_cases h1 : p < x
    · rw [if_pos (decide_eq_true h1), if_neg (by simp; omega)]; simp only [List.length_cons]; omega
    · rw [if_neg (by simpa using h1)]; split <;> (try simp only [List.length_cons]) <;> omega
theorem equalS_pos {l : List Int} {i : Nat} (h : i < l.length) : zcy (l.take i) l[i] < zcy l l[i] := by
  have e : l = l.take i ++ l[i] :: l.drop (i + 1) := by rw [← List.drop_eq_getElem_cons h, List.take_append_drop]
  have : zcy l l[i] = zcy (l.take i) l[i] + zcy (l[i] :: l.drop (i + 1)) l[i] := by
    conv => lhs; rw [zcy]
    have : ∀ p, ((l.filter fun x => decide (x = p)).length) = ((l.take i ++ l[i] :: l.drop (i + 1)).filter fun x => decide (x = p)).length := fun p => by rw [← e]
    rw [this, List.filter_append, List.length_append]; rfl
  rw [this]
  simp only [zcy, List.filter_cons, decide_true, if_true, List.length_cons]; omega
theorem shareS_eq {sum many at_ : Int} (hm : 0 < many) : zmi sum many at_ = if (if sum.tmod many < 0 then (sum.tdiv many - 1, sum.tmod many + many) else (sum.tdiv many, sum.tmod many)).2 > at_ then (if sum.tmod many < 0 then (sum.tdiv many - 1, sum.tmod many + many) else (sum.tdiv many, sum.tmod many)).1 + 1 else (if sum.tmod many < 0 then (sum.tdiv many - 1, sum.tmod many + many) else (sum.tdiv many, sum.tmod many)).1 := by
  have h1 := Int.mul_tdiv_add_tmod sum many
  have h2 := Int.mul_ediv_add_emod sum many
  have h3 := Int.emod_nonneg sum (show many ≠ 0 by omega)
  have h4 := Int.emod_lt_of_pos sum hm
  have h5 : sum.tmod many < many := Int.tmod_lt_of_pos sum hm
  have h6 : -many < sum.tmod many := Int.lt_tmod_of_pos sum hm
  have key : ∀ a b r s : Int, many * a + r = many * b + s → 0 ≤ r → r < many → 0 ≤ s → s < many → a = b ∧ r = s := by
    intro a b r s e r0 r1 s0 s1
    have h : many * (a - b) = s - r := by rw [Int.mul_sub]; omega
    have hab : a - b = 0 := by
      rcases Int.lt_trichotomy (a - b) 0 with h7 | h7 | h7
      · have : many * (a - b) ≤ many * (-1) := Int.mul_le_mul_of_nonneg_left (by omega) (by omega)
        omega
      · exact h7
      · have : many * 1 ≤ many * (a - b) := Int.mul_le_mul_of_nonneg_left (by omega) (by omega)
        omega
    have : a = b := by omega
    subst this
    exact ⟨rfl, by omega⟩
  rw [zmi]
  by_cases h : sum.tmod many < 0
  · simp only [if_pos h]
    obtain ⟨e1, e2⟩ := key (sum.tdiv many - 1) (sum / many) (sum.tmod many + many) (sum % many) (by rw [Int.mul_sub]; omega) (by omega) (by omega) h3 h4
    rw [e1, e2]
  · simp only [if_neg h]
    obtain ⟨e1, e2⟩ := key (sum.tdiv many) (sum / many) (sum.tmod many) (sum % many) (by omega) (by omega) (by omega) h3 h4
    rw [e1, e2]
end Go.XL
namespace Go.XL
open Go.Proofs
set_option maxRecDepth 100000
set_option maxHeartbeats 8000000
theorem above_pc (l : List Int) {i : Nat} (hi : i < l.length) (hl : l.length ≤ 1000000) : PC Try.prog 66 [ints l, I i] (.tup [I (zhe l l[i]), I (zcy l l[i]), I (zcy (l.take i) l[i])]) := by
  refine DC.of_run Try.func66 rfl Try.ntmps66 Try.results66 (by simp) (fun _ => ?_); simp only [zan, zas, go_sem, Nat.zero_add, Nat.reduceAdd]
  repeat' (first | (with_reducible first | refine DS.fltS yU yU yE ?_ | refine DS.opsNil ?_ | refine DS.seq ?_ | refine DS.regionL ?_ | refine DS.block ?_) | fail)
  refine DS.loopK [0, 1, 9, 10] (by (simp only [go_sem, Nat.reduceEqDiff, ↓reduceIte]; exact rfl)) (fun (x : Nat × Nat × Nat × Nat) => [(4, I x.1), (5, I x.2.1), (6, I x.2.2.1), (11, I x.2.2.2)]) (fun (x : Nat × Nat × Nat × Nat) => x.2.2.2 ≤ l.length ∧ x.1 = zhe (l.take x.2.2.2) l[i] ∧ x.2.1 = zcy (l.take x.2.2.2) l[i] ∧ x.2.2.1 = zcy (l.take (min i x.2.2.2)) l[i] ∧ x.1 ≤ 1000000 ∧ x.2.1 ≤ 1000000 ∧ x.2.2.1 ≤ 1000000) (fun (x : Nat × Nat × Nat × Nat) => l.length - x.2.2.2) (0, 0, 0, 0) yS (by simp [zhe, zcy]) (fun x B hI hB => ?_); try dsimp only at hI hB; simp only [zap, zau]
  obtain ⟨a, b, c, k⟩ := x
  dsimp only at hI hB
  obtain ⟨g1, g2, g3, g4, g5, g6, g7⟩ := hI
  have H := Box.mk (And.intro g2 (And.intro g3 g4))
  clear g2 g3 g4
  have hk1 : ∀ h : k < l.length, zhe (l.take (k + 1)) l[i] = zhe (l.take k) l[i] + if l[i] < l[k] then 1 else 0 := fun h => moreS_succ _ h
  have hk2 : ∀ h : k < l.length, zcy (l.take (k + 1)) l[i] = zcy (l.take k) l[i] + if l[k] = l[i] then 1 else 0 := fun h => zok _ h
  have hk3 : ∀ h : k < l.length, zcy (l.take (min i (k + 1))) l[i] = zcy (l.take (min i k)) l[i] + if k < i ∧ l[k] = l[i] then 1 else 0 := fun h => by
    by_cases hki : k < i
    · rw [Nat.min_eq_right (by omega), Nat.min_eq_right (by omega), zok _ h]
      by_cases h2 : l[k] = l[i]
      · rw [if_pos h2, if_pos ⟨hki, h2⟩]
      · rw [if_neg h2, if_neg (fun h => h2 h.2)]
    · rw [Nat.min_eq_left (by omega), Nat.min_eq_left (by omega), if_neg (fun h => hki h.1)]; rfl
  have hz1 := moreS_le (l.take k) l[i]
  have hz2 := zsk (l.take k) l[i]
  have hz3 := zsk (l.take (min i k)) l[i]
  have hlt : (l.take k).length ≤ k := by simp; omega
  have hlt2 : (l.take (min i k)).length ≤ k := by simp; omega
  have H2 := Box.mk (And.intro hk1 (And.intro hk2 (And.intro hk3 (And.intro hz1 (And.intro hz2 (And.intro hz3 (And.intro hlt hlt2)))))))
  clear hk1 hk2 hk3 hz1 hz2 hz3 hlt hlt2
  repeat' (first | (with_reducible first | refine DS.fltS yU yU yE ?_ | refine DS.opsNil ?_ | refine DS.seq ?_ | refine DS.regionL ?_ | (refine DS.cE yE ?_; refine CG.p (fun _ => ?_) (fun _ => ?_)) | refine DS.blk ?_ | refine DS.block ?_ | refine DS.exit yU ?_ | refine DS.skip ?_) | refine DS.retT [] yE trivial ?_ | fail)
  all_goals obtain ⟨h1, h2, h3⟩ := H.out
  all_goals obtain ⟨k1, k2, k3, k4, k5, k6, k7, k8⟩ := H2.out
  · rename_i e1 e2
    exact DS.back (hB (a + 1, b, c, k + 1) _ _ (by dsimp only; omega) (⟨by dsimp only; omega, by dsimp only; rw [k1 (by omega), if_pos e2, h1], by dsimp only; rw [k2 (by omega), if_neg (by omega), h2]; rfl, by dsimp only; rw [k3 (by omega), if_neg (by omega), h3]; rfl, by dsimp only; omega, by dsimp only; omega, by dsimp only; omega⟩) yS yS (fun b o e => by first | exact e | (simp only [zaa]; split <;> simp_all)))
  · rename_i e1 e2 e3 e4
    exact DS.back (hB (a, b + 1, c + 1, k + 1) _ _ (by dsimp only; omega) (⟨by dsimp only; omega, by dsimp only; rw [k1 (by omega), if_neg (by omega), h1]; rfl, by dsimp only; rw [k2 (by omega), if_pos e3, h2], by dsimp only; rw [k3 (by omega), if_pos ⟨by omega, e3⟩, h3], by dsimp only; omega, by dsimp only; omega, by dsimp only; omega⟩) yS yS (fun b o e => by first | exact e | (simp only [zaa]; split <;> simp_all)))
  · rename_i e1 e2 e3 e4
    exact DS.back (hB (a, b + 1, c, k + 1) _ _ (by dsimp only; omega) (⟨by dsimp only; omega, by dsimp only; rw [k1 (by omega), if_neg (by omega), h1]; rfl, by dsimp only; rw [k2 (by omega), if_pos e3, h2], by dsimp only; rw [k3 (by omega), if_neg (by omega), h3]; rfl, by dsimp only; omega, by dsimp only; omega, by dsimp only; omega⟩) yS yS (fun b o e => by first | exact e | (simp only [zaa]; split <;> simp_all)))
  · rename_i e1 e2 e3
    exact DS.back (hB (a, b, c, k + 1) _ _ (by dsimp only; omega) (⟨by dsimp only; omega, by dsimp only; rw [k1 (by omega), if_neg (by omega), h1]; rfl, by dsimp only; rw [k2 (by omega), if_neg (by omega), h2]; rfl, by dsimp only; rw [k3 (by omega), if_neg (by omega), h3]; rfl, by dsimp only; omega, by dsimp only; omega, by dsimp only; omega⟩) yS yS (fun b o e => by first | exact e | (simp only [zaa]; split <;> simp_all)))
  · rename_i e1
    have hk : k = l.length := by omega
    subst hk
    rw [h1, h2, h3, List.take_of_length_le (Nat.le_refl _), Nat.min_eq_left (by omega)]; rfl
def Bd (n : Int) : Prop := -100000000000000 ≤ n ∧ n ≤ 100000000000000
theorem share_pc (sum many at_ : Int) (hs : Bd sum) (hm : 0 < many ∧ many ≤ 1000000) (ha : Bd at_) : PC Try.prog 67 [I sum, I many, I at_] (I (zmi sum many at_)) := by
  have e := shareS_eq (sum := sum) (at_ := at_) hm.1
  have h5 : sum.tmod many < many := Int.tmod_lt_of_pos sum hm.1
  have h6 : -many < sum.tmod many := Int.lt_tmod_of_pos sum hm.1
  have h7 : Bd (sum.tdiv many) := by
    have h1 := Int.natAbs_tdiv_le_natAbs sum many
    unfold Bd at *
    omega
  obtain ⟨hs1, hs2⟩ := hs
  obtain ⟨h71, h72⟩ := h7
  obtain ⟨ha1, ha2⟩ := ha
  have H := Box.mk e
  clear e
  refine DC.of_run Try.func67 rfl Try.ntmps67 Try.results67 (by simp) (fun _ => ?_); simp only [zan, zas, go_sem, Nat.zero_add, Nat.reduceAdd]
  repeat' (first | (with_reducible first | refine DS.fltS yU yU yE ?_ | refine DS.opsNil ?_ | refine DS.seq ?_ | refine DS.regionL ?_ | (refine DS.cE yE ?_; refine CG.p (fun _ => ?_) (fun _ => ?_)) | refine DS.skip ?_) | refine DS.drawL (id := 1) [0, 1, 2, 3, 4, 5, 6] 7 (by kernel_rfl) zct (by simp only [zay, zbc, zbd, zbe, zax]; exact rfl) (by simp only [zav, zaw, List.drop_nil]; exact rfl) ?_ | (with_reducible first | refine DD.fltS yU yU yU yE ?_ | refine DD.nil0 ?_) | refine DS.retT [] yE trivial ?_ | fail)
  all_goals (rename_i e1 e2; rw [H.out]; simp only [e1, e2, if_true, if_false, gt_iff_lt]; rfl)
theorem shareS_bd {sum many at_ : Int} (hs : Bd sum) (hm : 0 < many) : -100000000000000 ≤ zmi sum many at_ ∧ zmi sum many at_ ≤ 100000000000001 := by
  have h2 := Int.mul_ediv_add_emod sum many
  have h3 := Int.emod_nonneg sum (show many ≠ 0 by omega)
  have h4 := Int.emod_lt_of_pos sum hm
  obtain ⟨s1, s2⟩ := hs
  have k1 : -100000000000000 ≤ sum / many := by
    rcases Int.lt_or_le (sum / many) (-100000000000000) with h | h
    · exfalso
      have h5 : many * (sum / many + 1) ≤ many * (-100000000000000) := Int.mul_le_mul_of_nonneg_left (by omega) (by omega)
      rw [Int.mul_add] at h5
      omega
    · exact h
  have k2 : sum / many ≤ 100000000000000 := by
    rcases Int.lt_or_le 100000000000000 (sum / many) with h | h
    · exfalso
      have h5 : many * 100000000000001 ≤ many * (sum / many) := Int.mul_le_mul_of_nonneg_left (by omega) (by omega)
      omega
    · exact h
  rw [zmi]
  split <;> omega
def B40 (n : Int) : Prop := -1099511627776 ≤ n ∧ n ≤ 1099511627776
theorem sum_take_succ {l : List Int} {k : Nat} (h : k < l.length) : (l.take (k + 1)).sum = (l.take k).sum + l[k] := by
  rw [List.take_succ_eq_append_getElem h, List.sum_append]; simp
theorem yX37 {p : Prop} (h : p := by (simp (disch := omega) only [go_sem, dopV, Option.map_some, Option.map_none, Option.bind_some, Option.bind_none, ↓reduceIte, Nat.reduceEqDiff, Nat.reduceLT, Nat.reduceLeDiff, Nat.reduceAdd, Nat.reduceMul, Nat.reduceSub, Nat.zero_add, Nat.add_zero, Nat.zero_le, Nat.zero_mul, Nat.mul_one, Nat.one_mul, Int.natCast_zero, Int.toNat_zero, Int.reduceToNat, Int.reduceLT, Int.reduceLE, Int.reduceEq, decide_true, decide_false, true_and, and_true, Bool.and_self, Bool.and_true, Bool.true_and, Bool.not_true, Bool.not_false, IntWalk.toNatUp, IntWalk.iteOmega, IntWalk.i64_in, Option.isSome_some, not_true_eq_false, not_false_eq_true, Option.getD_some, Option.getD_none, Int.toNat_natCast, List.length_map, List.getElem?_map, List.getElem?_eq_getElem, V.flat, V.one, List.all_cons, List.all_nil, *, List.forall_mem_map, implies_true, zcu]; exact rfl)) : p := h
theorem yX38 {p : Prop} (h : p := by first | exact rfl | (simp (disch := omega) only [go_sem, dopV, Option.map_some, Option.map_none, Option.bind_some, Option.bind_none, ↓reduceIte, Nat.reduceEqDiff, Nat.reduceLT, Nat.reduceLeDiff, Nat.reduceAdd, Nat.reduceMul, Nat.reduceSub, Nat.zero_add, Nat.add_zero, Nat.zero_le, Nat.zero_mul, Nat.mul_one, Nat.one_mul, Int.natCast_zero, Int.toNat_zero, Int.reduceToNat, Int.reduceLT, Int.reduceLE, Int.reduceEq, decide_true, decide_false, true_and, and_true, Bool.and_self, Bool.and_true, Bool.true_and, Bool.not_true, Bool.not_false, IntWalk.toNatUp, IntWalk.iteOmega, IntWalk.i64_in, Option.isSome_some, not_true_eq_false, not_false_eq_true, Option.getD_some, Option.getD_none, Int.toNat_natCast, List.length_map, List.getElem?_map, List.getElem?_eq_getElem, V.flat, V.one, List.all_cons, List.all_nil, *, List.forall_mem_map, implies_true, zcu]; exact rfl)) : p := h
theorem yX39 {p : Prop} (h : p := by (simp (disch := omega) only [go_sem, dopV, Option.map_some, Option.map_none, Option.bind_some, Option.bind_none, ↓reduceIte, Nat.reduceEqDiff, Nat.reduceLT, Nat.reduceLeDiff, Nat.reduceAdd, Nat.reduceMul, Nat.reduceSub, Nat.zero_add, Nat.add_zero, Nat.zero_le, Nat.zero_mul, Nat.mul_one, Nat.one_mul, Int.natCast_zero, Int.toNat_zero, Int.reduceToNat, Int.reduceLT, Int.reduceLE, Int.reduceEq, decide_true, decide_false, true_and, and_true, Bool.and_self, Bool.and_true, Bool.true_and, Bool.not_true, Bool.not_false, IntWalk.toNatUp, IntWalk.iteOmega, IntWalk.i64_in, Option.isSome_some, not_true_eq_false, not_false_eq_true, Option.getD_some, Option.getD_none, Int.toNat_natCast, List.length_map, List.getElem?_map, List.getElem?_eq_getElem, V.flat, V.one, List.all_cons, List.all_nil, *, List.forall_mem_map, implies_true, zcu]; try exact rfl)) : p := h
theorem scores_pc (points places : List Int) (start : Int) (shared : Bool) (hl : points.length ≤ 20) (hl2 : places.length ≤ 20) (hp : ∀ x ∈ points, B40 x) (hq : ∀ x ∈ places, B40 x) (hs : B40 start) :
    PC Try.prog 28 [ints points, ints places, I start, Bo shared] (.own false 3 1 ((zsy points places start shared).map cI)) := by
  obtain ⟨hs1, hs2⟩ := hs
  rw [zsy]
  refine DC.of_run Try.func28 rfl Try.ntmps28 Try.results28 (by simp) (fun _ => ?_); simp only [zan, zas, go_sem, Nat.zero_add, Nat.reduceAdd]
  repeat' (first | (with_reducible first | (refine DS.nilOwn (t := 8) yU (by first | exact .inl rfl | exact .inr rfl) yE ?_) | (refine DS.nilOwn (t := 9) yU (by first | exact .inl rfl | exact .inr rfl) yE ?_) | refine DS.fltS yU yU yE ?_ | refine DS.opsNil ?_ | refine DS.seq ?_ | refine DS.regionL ?_ | (refine DS.cE yE ?_; refine CG.p (fun _ => ?_) (fun _ => ?_)) | refine DS.block ?_ | refine DS.skip ?_) | refine DS.retT [] yE trivial ?_ | fail)
  · rename_i e1
    rw [if_pos (by omega)]; rfl
  · rename_i e1
    rw [if_neg (by omega)]
    refine DS.loopK [0, 1, 2, 3, 24, 25] (by (simp only [go_sem, Nat.reduceEqDiff, ↓reduceIte]; exact rfl)) (fun (x : List Int × Nat) => [(9, .own false 3 1 (x.1.map cI)), (26, I x.2)]) (fun (x : List Int × Nat) => x.2 ≤ points.length ∧ x.1 = (List.range x.2).map (zmj points places start shared) ∧ x.1.length = x.2) (fun (x : List Int × Nat) => points.length - x.2) ([], 0) yS (by simp) (fun x B hI hB => ?_); try dsimp only at hI hB; simp only [zap, zau]
    obtain ⟨L, k⟩ := x
    dsimp only at hI hB
    obtain ⟨g1, g2, g3⟩ := hI
    have H := Box.mk g2
    clear g2
    by_cases hk : k < points.length
    · have p1 := me_le points points[k]
      have p2 := equalS_pos hk
      obtain ⟨p3, p4⟩ := hp _ (List.getElem_mem hk)
      obtain ⟨p5, p6⟩ := hq (places[zhe points points[k] + zcy (points.take k) points[k]]'(by omega)) (List.getElem_mem _)
      have hB0 := hB
      clear hB
      obtain ⟨P, hPe⟩ : ∃ P, P = (places.drop (zhe points points[k])).take (zcy points points[k]) := ⟨_, rfl⟩
      have hP : List.drop (zhe points points[k]) (List.take (zhe points points[k] + zcy points points[k]) (List.map cI places)) = P.map cI := by
        rw [List.drop_take, Nat.add_sub_cancel_left, hPe, List.map_take, List.map_drop]
      have hPl : P.length = zcy points points[k] := by rw [hPe, List.length_take, List.length_drop]; omega
      have hPb : ∀ x ∈ P, B40 x := fun x hx => hq x (List.mem_of_mem_drop (List.mem_of_mem_take (hPe ▸ hx)))
      have hnext : (List.range (k + 1)).map (zmj points places start shared) = L ++ [zmj points places start shared k] := by rw [List.range_succ, List.map_append, ← H.out]; rfl
      have hsc : zmj points places start shared k = points[k] - start + if shared then zmi P.sum (zcy points points[k]) (zcy (points.take k) points[k]) else places[zhe points points[k] + zcy (points.take k) points[k]]'(by omega) := by
        simp only [zmj, List.getD_eq_getElem?_getD, List.getElem?_eq_getElem hk, Option.getD_some]
        rw [← hPe, List.getElem?_eq_getElem (show zhe points points[k] + zcy (points.take k) points[k] < places.length by omega)]; rfl
      have H2 := Box.mk (And.intro hPe (And.intro hPb (And.intro hnext hsc)))
      clear hPe hPb hnext hsc
      repeat' (first | (with_reducible refine DS.mv (t := 8) yU (by first | exact .inl rfl | exact .inr rfl) yX37 ?_; simp only [zak, zac, zad, Nat.reduceEqDiff, ↓reduceIte, zag, zah, zao, zaf, zae, zal, zai]) | (with_reducible refine DS.mv (t := 9) yU (by first | exact .inl rfl | exact .inr rfl) yX37 ?_; simp only [zak, zac, zad, Nat.reduceEqDiff, ↓reduceIte, zag, zah, zao, zaf, zae, zal, zai]) | (with_reducible refine DS.mv (t := 64) yU (by first | exact .inl rfl | exact .inr rfl) yX37 ?_; simp only [zak, zac, zad, Nat.reduceEqDiff, ↓reduceIte, zag, zah, zao, zaf, zae, zal, zai]) | (with_reducible refine DS.mv (t := 73) yU (by first | exact .inl rfl | exact .inr rfl) yX37 ?_; simp only [zak, zac, zad, Nat.reduceEqDiff, ↓reduceIte, zag, zah, zao, zaf, zae, zal, zai]) | (with_reducible first | refine DS.fltS yU yU yX37 ?_ | refine DS.opsNil ?_ | refine DS.seq ?_ | refine DS.regionL ?_) | (with_reducible refine DS.cE yX37 ?_; first | with_reducible refine CG.p (fun _ => ?_) (fun _ => ?_) | with_reducible refine CG.b (fun _ => ?_) (fun _ => ?_)) | (with_reducible first | refine DS.blk ?_ | refine DS.block ?_ | refine DS.exit yU ?_ | refine DS.skip ?_) | (refine DS.bsl yU yX37 yX37 ?_; simp only [go_sem, Nat.zero_add, Nat.reduceAdd]) | (refine DS.append (mm := false) yU yX37 yX37 yU (by decide) yX37 (by first | exact .inl rfl | exact .inr ⟨rfl, rfl⟩) yX37 yX38 (by first | exact zar zcu _ | exact zar zdm _ | exact zar Member.len _ | exact zar Sitting.len _ | exact zar Ruling.len _ | (simp only [List.mem_cons, List.not_mem_nil, or_false, forall_eq]; rfl) | simp) ⟨by (try simp only [List.length_map, List.length_cons, List.length_nil, List.length_append, List.length_take, List.length_drop]); omega, by decide⟩ ?_; simp only [zak, zac, zad, Nat.reduceEqDiff, ↓reduceIte, zag, zah, zao, zaf, zae, zal, zai]) | refine DS.pcS inferInstance (above_pc points hk (by omega)) yR yX39 ?_ | refine DS.retT [] yX37 trivial ?_ | fail)
      all_goals first | (exfalso; omega) | skip
      · rename_i e2 e3
        subst e3
        clear hP
        refine DS.loopK [0, 1, 2, 3, 9, 11, 13, 14, 24, 25, 26, 50, 51] (by (simp only [go_sem, Nat.reduceEqDiff, ↓reduceIte]; exact rfl)) (fun (y : Int × Nat) => [(16, I y.1), (52, I y.2)]) (fun (y : Int × Nat) => y.2 ≤ P.length ∧ y.1 = (P.take y.2).sum ∧ -(y.2 : Int) * 1099511627776 ≤ y.1 ∧ y.1 ≤ (y.2 : Int) * 1099511627776) (fun (y : Int × Nat) => P.length - y.2) (0, 0) yS (by simp) (fun y B hI hB => ?_); try dsimp only at hI hB; simp only [zap, zau]
        obtain ⟨a, j⟩ := y
        dsimp only at hI hB
        obtain ⟨j1, j2, j3, j4⟩ := hI
        have H3 := Box.mk j2
        clear j2
        by_cases hj : j < P.length
        · obtain ⟨p7, p8⟩ := H2.out.2.1 _ (List.getElem_mem hj)
          repeat' (first | (with_reducible first | refine DS.fltS yU yU yE ?_ | refine DS.opsNil ?_ | refine DS.seq ?_ | refine DS.regionL ?_ | (refine DS.cE yE ?_; refine CG.p (fun _ => ?_) (fun _ => ?_)) | refine DS.blk ?_ | refine DS.block ?_ | refine DS.exit yU ?_ | refine DS.skip ?_) | fail)
          all_goals first | (exfalso; omega) | skip
          refine DS.back (hB (a + P[j], j + 1) _ _ (by dsimp only; omega) ⟨by dsimp only; omega, by dsimp only; rw [H3.out, sum_take_succ hj], by dsimp only; omega, by dsimp only; omega⟩ yS yS (fun b o e => by exact e))
        · have hsh := share_pc a (zcy points points[k] : Nat) (zcy (points.take k) points[k] : Nat) ⟨by omega, by omega⟩ (by omega) ⟨by omega, by omega⟩
          have hbd := shareS_bd (sum := a) (many := (zcy points points[k] : Nat)) (at_ := (zcy (points.take k) points[k] : Nat)) ⟨by omega, by omega⟩ (by omega)
          obtain ⟨hb1, hb2⟩ := hbd
          repeat' (first | (with_reducible refine DS.mv (t := 9) yU (by first | exact .inl rfl | exact .inr rfl) yE ?_; simp only [zak, zac, zad, Nat.reduceEqDiff, ↓reduceIte, zag, zah, zao, zaf, zae, zal, zai]) | (with_reducible refine DS.mv (t := 64) yU (by first | exact .inl rfl | exact .inr rfl) yE ?_; simp only [zak, zac, zad, Nat.reduceEqDiff, ↓reduceIte, zag, zah, zao, zaf, zae, zal, zai]) | (with_reducible first | refine DS.fltS yU yU yE ?_ | refine DS.opsNil ?_ | refine DS.seq ?_ | refine DS.regionL ?_ | (refine DS.cE yE ?_; refine CG.p (fun _ => ?_) (fun _ => ?_)) | refine DS.blk ?_ | refine DS.block ?_ | refine DS.exit yU ?_ | refine DS.skip ?_) | (refine DS.bsl yU yE yE ?_; simp only [go_sem, Nat.zero_add, Nat.reduceAdd]) | (refine DS.append (mm := false) yU yE yE yU (by decide) yE (by first | exact .inl rfl | exact .inr ⟨rfl, rfl⟩) yE yX0 (by first | exact zar zcu _ | exact zar zdm _ | exact zar Member.len _ | exact zar Sitting.len _ | exact zar Ruling.len _ | (simp only [List.mem_cons, List.not_mem_nil, or_false, forall_eq]; rfl) | simp) ⟨by (try simp only [List.length_map, List.length_cons, List.length_nil, List.length_append, List.length_take, List.length_drop]); omega, by decide⟩ ?_; simp only [zak, zac, zad, Nat.reduceEqDiff, ↓reduceIte, zag, zah, zao, zaf, zae, zal, zai]) | refine DS.pcS inferInstance (hsh) yR yT ?_ | fail)
          all_goals first | (exfalso; omega) | skip
          obtain ⟨h1, h2, h3, h4⟩ := H2.out
          have hjj : j = P.length := by omega
          have ha := H3.out
          rw [hjj, List.take_of_length_le (Nat.le_refl _)] at ha
          refine DS.back (hB0 (L ++ [zmj points places start true k], k + 1) _ _ (by dsimp only; omega) ⟨by dsimp only; omega, h3.symm, by simp; omega⟩ ?_ yS (fun b o e => by exact e))
          rw [h4, ← ha]
          simp only [zdp, zea, go_sem, ↓reduceIte, Nat.reduceEqDiff, List.map_append, Int.natCast_add, Int.natCast_one, and_self, if_true]
      · rename_i e2 e3
        subst e3
        obtain ⟨h1, h2, h3, h4⟩ := H2.out
        refine DS.back (hB0 (L ++ [zmj points places start false k], k + 1) _ _ (by dsimp only; omega) ⟨by dsimp only; omega, h3.symm, by simp; omega⟩ ?_ yS (fun b o e => by exact e))
        rw [h4]
        simp only [zdp, zea, go_sem, ↓reduceIte, Nat.reduceEqDiff, List.map_append, Int.natCast_add, Int.natCast_one, and_self, if_false, Bool.false_eq_true]
    · repeat' (first | (with_reducible refine DS.mv (t := 8) yU (by first | exact .inl rfl | exact .inr rfl) yE ?_; simp only [zak, zac, zad, Nat.reduceEqDiff, ↓reduceIte, zag, zah, zao, zaf, zae, zal, zai]) | (with_reducible refine DS.mv (t := 73) yU (by first | exact .inl rfl | exact .inr rfl) yE ?_; simp only [zak, zac, zad, Nat.reduceEqDiff, ↓reduceIte, zag, zah, zao, zaf, zae, zal, zai]) | (with_reducible first | refine DS.fltS yU yU yE ?_ | refine DS.opsNil ?_ | refine DS.seq ?_ | refine DS.regionL ?_ | (refine DS.cE yE ?_; refine CG.p (fun _ => ?_) (fun _ => ?_)) | refine DS.block ?_ | refine DS.exit yU ?_ | refine DS.skip ?_) | refine DS.retT [] yE trivial ?_ | fail)
      all_goals first | (exfalso; omega) | skip
      have h := H.out
      have hkk : k = points.length := by omega
      subst hkk
      rw [← h]; rfl
end Go.XL
namespace Go.XL
open Go.Proofs
set_option maxRecDepth 100000
set_option maxHeartbeats 8000000
theorem yX40 {p : Prop} (h : p := by (simp (disch := omega) only [go_sem, dopV, Option.map_some, Option.map_none, Option.bind_some, Option.bind_none, ↓reduceIte, Nat.reduceEqDiff, Nat.reduceLT, Nat.reduceLeDiff, Nat.reduceAdd, Nat.reduceMul, Nat.reduceSub, Nat.zero_add, Nat.add_zero, Nat.zero_le, Nat.zero_mul, Nat.mul_one, Nat.one_mul, Int.natCast_zero, Int.toNat_zero, Int.reduceToNat, Int.reduceLT, Int.reduceLE, Int.reduceEq, decide_true, decide_false, true_and, and_true, Bool.and_self, Bool.and_true, Bool.true_and, Bool.not_true, Bool.not_false, IntWalk.toNatUp, IntWalk.iteOmega, IntWalk.i64_in, Option.isSome_some, not_true_eq_false, not_false_eq_true, Option.getD_some, Option.getD_none, Int.toNat_natCast, List.length_map, List.getElem?_map, List.getElem?_eq_getElem, V.flat, V.one, List.all_cons, List.all_nil, *, zvm, PRow.cell_copy]; exact rfl)) : p := h
theorem round2_ds {bx bp bm : Nat} {size : Nat} {rs : List (List Int)} {budget : Int} {n1 : Nat} (ih : zsu bx bp bm size rs budget n1) {met : Int → Int → Bool} {w : W} {B : Int} {ps : List PRow} {r1 : Nat} {f : Int} {fr : List Int} (hg : GoodW B met w) (hB : B + (n1 + 1) ≤ 1000000000000) (hf : AscI (f :: fr))
    (hn : mzS rs r1 (f :: fr).length < n1 + 1) (hT : ∀ i (h : i < ps.length), ps[i].rows.length + (n1 + 1) ≤ 10000) (hps : ps.length = rs.length) (hr : r1 < rs.length) {b4 b5 b6 : Nat} {res : Int × Int × List (Nat × List Int)}
    {v1 : VH} {l : Nat} {rc : Loop} {c : Code} (hc : Try.f96.body.bind (zhv 12) = some c) (hst : rc.state = .ready) (hpend : rc.pending = none)
    {bf : Nat} {t : List Int} {X : List (List Int)} {S5 : Sto} {st : Int} {ps1 : List PRow} (e1 : ¬ st = budget) (htab : t.length = size ∧ t.Sublist (f :: fr) ∧ t.Pairwise (· < ·) ∧ t.headD 0 = (f :: fr).headD 0) (hpl : ps1.length = ps.length)
    (hrw : ∀ (i : Nat) (h : i < ps.length) (h' : i < ps1.length), ps1[i].rows = ps[i].rows) (hap : zti ps1 b5) (hsz : 3 ≤ size)
    (htry : tryL budget r1 (fun t s => srch size budget rs n1 (zic met t) r1 ((f :: fr).filter fun id => !decide (id ∈ t)) s) (t :: X) st = res) (htabs : TabsOk size (f :: fr) X) (hr1 : r1 < ps1.length) {b' cap' : Nat} {junk' : List V}
    (g9 : SearchP S5 bx bp bm size rs budget (w64 (st + 1)) (addT 1 [] t w) (ps1.set r1 ⟨(ps1[r1]'hr1).rows ++ [t], some (b', cap', junk')⟩)) (oth : Oth S5 l b4 b5 b6 bf bx { rc with state := .busy } r1 (f :: fr)) (hb5 : b' ≠ b5) :
    DS Try.prog 108 ⟨some l, v1⟩ (fun _ _ => False) [.code c, .blk 3, .rnd (RndQ l (fun u S' => ((u = Bo true ∧ ∃ st ps1, FInv l b4 b5 b6 bx bp bm rc size rs budget w ps r1 (f :: fr) (fun t s => srch size budget rs n1 (zic met t) r1 ((f :: fr).filter fun id => !decide (id ∈ t)) s) res X S' st ps1) ∨ (u = Bo false ∧ ∃ rc', FDone l b6 bx bp bm size rs budget w ps res S' rc')) ∧ zgx S' bx l bf))]
      ((7, .plc [ints t]) :: eF bx b4 b5 b6) S5 := by
  obtain rfl := Option.some.inj ((show Try.f96.body.bind (zhv 12) = some _ from rfl).symm.trans hc)
  clear hc
  have hap5 : zti (ps1.set r1 ⟨(ps1[r1]'hr1).rows ++ [t], some (b', cap', junk')⟩) b5 := fun i h cap j e => by
    rw [List.getElem_set] at e
    split at e
    · simp at e; exact hb5 e.1
    · exact hap i (by simpa using h) cap j e
  have g5r : ∀ (i : Nat) (h : i < ps1.length) (h' : i < (ps1.set r1 ⟨(ps1[r1]'hr1).rows ++ [t], some (b', cap', junk')⟩).length), ((ps1.set r1 ⟨(ps1[r1]'hr1).rows ++ [t], some (b', cap', junk')⟩)[i]'h').rows = if r1 = i then (ps1[r1]'hr1).rows ++ [t] else (ps1[i]'h).rows := fun i h h' => by
    rw [List.getElem_set]; split <;> rfl
  have hl5 : (ps1.set r1 ⟨(ps1[r1]'hr1).rows ++ [t], some (b', cap', junk')⟩).length = ps.length := by rw [List.length_set]; exact hpl
  generalize ps1.set r1 ⟨(ps1[r1]'hr1).rows ++ [t], some (b', cap', junk')⟩ = ps5 at *
  have hin5 := oth.apart g9 hap5
  have hcl := cloneI_dc (f :: fr) (by have := hf.len; omega) (by simp)
  have hfl : ((f :: fr).filter fun id => !decide (id ∈ t)).length ≤ fr.length := by
    have h1 : t.headD 0 = f := htab.2.2.2
    have h2 : f ∈ t := by
      cases t with
      | nil => simp at htab; omega
      | cons a r => simp at h1; subst h1; simp
    rw [List.filter_cons, if_neg (by simp [h2])]; exact List.length_filter_le _ _
  have hasc : AscI ((f :: fr).filter fun id => !decide (id ∈ t)) := ⟨hf.asc.filter _, fun a ha => hf.in64 a (List.mem_filter.1 ha).1, Nat.le_trans (List.length_filter_le _ _) hf.len⟩
  have m4 := oth.o4
  have m5 := oth.o5
  have m6 := oth.o6
  have H := Box.mk (And.intro hg (And.intro hf (And.intro hT (And.intro hps (And.intro htab (And.intro hpl (And.intro hrw (And.intro hap (And.intro htry (And.intro htabs (And.intro g9 (And.intro oth (And.intro hap5 (And.intro g5r (And.intro hl5 (And.intro hin5 (And.intro hfl hasc)))))))))))))))))
  clear hg hf hT hps htab hpl hrw hap htry htabs g9 oth hap5 g5r hl5 hin5 hfl hasc
  repeat' (first | (with_reducible first | refine DS.fltS yU yU yE ?_ | refine DS.seq ?_ | refine DS.regionL ?_) | fail)
  refine DS.call [] S5 inferInstance hcl yR yH (fun _ _ e => by cases e) (fun _ _ e => ⟨e, rfl⟩) ?_
  rintro u Sg ⟨g, rfl, gok, gl⟩ hdis
  simp only [zcj]
  repeat' (first | with_reducible refine DS.fltS yU yU yE ?_ | fail)
  have hde := deleteFunc_dc (f :: fr) g Sg gok (by simp) gl (g := 122) (fs := []) (cs := [.plc [ints t]]) (fun id => decide (id ∈ t)) inferInstance (fun x _ => fillC_pc t x)
  refine DS.call Sg S5 inferInstance hde yR yH (fun b o e => by rw [zby, e]) (fun b o e => ?_) ?_
  · cases hb : zab Sg b with
    | none => exact ⟨by rw [zby, hb]; exact e, rfl⟩
    | some o' => rw [hdis b o' hb] at e; cases e
  rintro u Sg2 rfl hdis2
  refine DS.dropS hdis2 ?_
  clear hdis hdis2 gok gl hde hcl
  simp only [zcj]
  repeat' (first | (with_reducible first | refine DS.fltS yU yU yE ?_ | refine DS.opsNil ?_ | refine DS.seq ?_ | refine DS.regionL ?_) | fail)
  have hih := ih (zlg (inP bx bp bm ps5) S5) (zic met t) (addT 1 [] t w) (B + 1) (w64 (st + 1)) ps5 r1 ((f :: fr).filter fun id => !decide (id ∈ t)) H.out.2.2.2.2.2.2.2.2.2.2.1.keep (by rw [H.out.2.2.2.2.2.2.2.2.2.2.2.2.2.2.1, H.out.2.2.2.1]) hr (H.out.1.add (by omega) H.out.2.2.2.2.1.2.2.1) (by omega) H.out.2.2.2.2.2.2.2.2.2.2.2.2.2.2.2.2.2
    (by have h1 := H.out.2.2.2.2.2.2.2.2.2.2.2.2.2.2.2.2.1; simp only [mzS, List.length_cons] at hn ⊢; omega) (fun i h => by
      obtain ⟨_, _, hT, _, _, hpl, hrw, _, _, _, _, _, _, g5r, hl5, _⟩ := H.out
      have h2 : i < ps1.length := by omega
      have h3 := hT i (by omega)
      rw [g5r i h2 h]
      split
      · rename_i hi
        subst hi
        rw [List.length_append, hrw r1 (by omega) h2, List.length_singleton]; omega
      · rw [hrw i (by omega) h2]; omega)
  refine DS.call (zlg (inP bx bp bm ps5) S5) (zlg (fun b => !inP bx bp bm ps5 b) S5) inferInstance hih yR yH (fun b o e => ?_) (fun b o e => ?_) ?_
  · rw [zfp] at e
    split at e
    · exact e
    · cases e
  · rw [zfp] at e
    split at e
    · rename_i hb
      refine ⟨e, ?_⟩
      rw [zfp, if_neg (by simpa using hb)]
    · cases e
  rintro u S0 hu hdis
  obtain ⟨rfl, w2, ps2, h1, h2, h3, h4⟩ := hu
  clear hih ih
  generalize hr2 : srch size budget rs n1 (zic met t) r1 ((f :: fr).filter fun id => !decide (id ∈ t)) (w64 (st + 1)) = res2 at *
  simp only [zcj]
  have hap2 : zti ps2 b5 := fun i h cap j e => by
    have h5 : zab (zlg (fun b => !inP bx bp bm ps5 b) S5) b5 = some (.cells [ints (f :: fr)] 22) := by
      rw [zfp, if_pos (by rw [H.out.2.2.2.2.2.2.2.2.2.2.2.2.2.2.2.1 b5 (.inr (.inr (.inl rfl)))]; rfl)]; exact m5
    have h3 := h1.row i h
    generalize ps2[i] = p at e h3
    obtain ⟨T', blk⟩ := p
    dsimp only at e
    subst e
    rw [hdis b5 _ h3.1] at h5; cases h5
  have oth2 : Oth (S0 ++ zlg (fun b => !inP bx bp bm ps5 b) S5) l b4 b5 b6 bf bx { rc with state := .busy } r1 (f :: fr) := H.out.2.2.2.2.2.2.2.2.2.2.2.1.of fun b hb => by
    have hib := H.out.2.2.2.2.2.2.2.2.2.2.2.2.2.2.2.1 b hb
    have h5 : zab (zlg (fun b => !inP bx bp bm ps5 b) S5) b = zab S5 b := by rw [zfp, if_pos (by rw [hib]; rfl)]
    have oth := H.out.2.2.2.2.2.2.2.2.2.2.2.1
    have hsome : ∃ o, zab S5 b = some o := by
      rcases hb with rfl | rfl | rfl | rfl | rfl
      · exact ⟨_, oth.lp⟩
      · exact ⟨_, oth.o4⟩
      · exact ⟨_, oth.o5⟩
      · exact ⟨_, oth.o6⟩
      · exact ⟨_, oth.sf⟩
    rw [zby, ← h5]
    cases hb0 : zab S0 b with
    | none => rfl
    | some o =>
      exfalso
      rw [hdis b o hb0] at h5
      obtain ⟨o2, ho2⟩ := hsome
      rw [ho2] at h5; cases h5
  have g10 : SearchP (S0 ++ zlg (fun b => !inP bx bp bm ps5 b) S5) bx bp bm size rs budget res2.2.1 w2 ps2 := h1.up fun b o e => by rw [zby, e]
  generalize S0 ++ zlg (fun b => !inP bx bp bm ps5 b) S5 = S6 at *
  have hlen2 : ps2.length = ps1.length := by rw [h2, H.out.2.2.2.2.2.2.2.2.2.2.2.2.2.2.1, H.out.2.2.2.2.2.1]
  have htry2 : (if res2.1 = 2 then tryL budget r1 (fun t s => srch size budget rs n1 (zic met t) r1 ((f :: fr).filter fun id => !decide (id ∈ t)) s) X res2.2.1 else (res2.1, res2.2.1, (r1, t) :: res2.2.2)) = res := by
    have := H.out.2.2.2.2.2.2.2.2.1
    rw [tryL, if_neg e1] at this
    simp only [hr2] at this
    exact this
  have Ks := Box.mk (And.intro g10 (And.intro oth2 (And.intro hap2 (And.intro h3 (And.intro h4 (And.intro h2 (And.intro htry2 hr2)))))))
  have m4 := oth2.o4
  have m6 := oth2.o6
  clear g10 h1 h2 h3 h4 hdis htry2 hr2 oth2 hap2 m5
  clear m4 m6
  have m4 := Ks.out.2.1.o4
  have m6 := Ks.out.2.1.o6
  repeat' (first | (with_reducible first | refine DS.fltS yU yU yE ?_ | refine DS.opsNil ?_ | refine DS.seq ?_ | refine DS.regionL ?_ | (refine DS.cE yE ?_; refine CG.p (fun _ => ?_) (fun _ => ?_)) | refine DS.skip ?_) | (refine DS.store yR yE yE yE yE yU (by exact ⟨by with_unfolding_all rfl, by (try simp only [List.length_map, List.length_append, List.length_set, List.length_replicate, List.length_cons, List.length_nil]); omega⟩) ?_; simp only [zbm, zaq, zat, zbz, zbn, zbl, zbh]; try simp only [zak, zac, zad, Nat.reduceEqDiff, ↓reduceIte, zag, zah, zao, zaf, zae, zal, zai]) | fail)
  · rename_i e3
    obtain ⟨rfl, hrows2⟩ := Ks.out.2.2.2.1 e3
    have hr2' : r1 < ps2.length := hlen2 ▸ hr1
    have hr5 : r1 < ps5.length := by have := H.out.2.2.2.2.2.2.2.2.2.2.2.2.2.2.1; have := H.out.2.2.2.2.2.1; omega
    have hrow2 := hrows2 r1 hr5 hr2'
    rw [H.out.2.2.2.2.2.2.2.2.2.2.2.2.2.1 r1 hr1 hr5, if_pos rfl] at hrow2
    have hok2 := Ks.out.1.row r1 hr2'
    obtain ⟨b6', cap6, junk6, hblk⟩ : ∃ b6' cap6 junk6, (ps2[r1]'hr2').blk = some (b6', cap6, junk6) := by
      generalize ps2[r1]'hr2' = p2 at hok2 hrow2
      obtain ⟨T2, blk2⟩ := p2
      cases blk2 with
      | none => simp only [PRow.Ok] at hok2; subst hok2; simp at hrow2
      | some x => exact ⟨x.1, x.2.1, x.2.2, rfl⟩
    have hp2e : ps2[r1]'hr2' = ⟨(ps1[r1]'hr1).rows ++ [t], some (b6', cap6, junk6)⟩ := by
      generalize ps2[r1]'hr2' = p2 at hblk hrow2
      obtain ⟨T2, blk2⟩ := p2
      dsimp only at hblk hrow2; rw [hblk, hrow2]
    rw [hp2e] at hok2
    obtain ⟨o1, o2, o3, o4⟩ := hok2
    obtain ⟨ℓ, hℓ⟩ : ∃ ℓ, ℓ = (ps1[r1]'hr1).rows.length := ⟨_, rfl⟩
    have hc6 : (ps2[r1]'hr2').cell = .v (.slice (some ⟨b6', 0, none⟩) (ℓ + 1) cap6) := by rw [hp2e, PRow.cell_some, hℓ]; simp
    have hlc : ℓ + 1 ≤ cap6 := by rw [List.length_append, List.length_singleton] at o2; omega
    have hx6 := Ks.out.1.obj
    have hp6 := Ks.out.1.pln
    have hℓ2 : ℓ ≤ 10000 := by
      have h0 := H.out.2.2.2.2.2.1
      have h1 := H.out.2.2.1 r1 (by omega)
      rw [hℓ, H.out.2.2.2.2.2.2.1 r1 (by omega) hr1]; omega
    have Ku := Box.mk (And.intro hp2e (And.intro hblk (And.intro o1 (And.intro o2 (And.intro o3 (And.intro o4 (And.intro hrows2 hℓ)))))))
    clear hp2e hblk o1 o2 o3 o4 hrows2 hrow2 hℓ
    have Kl := Box.mk hlen2
    clear hlen2
    have m5 := Ks.out.2.1.o5
    repeat' (first | (with_reducible first | refine DS.fltS yU yU yX40 ?_ | refine DS.opsNil ?_ | refine DS.seq ?_ | refine DS.regionL ?_) | (refine DS.store yR yX40 yX40 yX40 yX40 yU (by exact ⟨by with_unfolding_all rfl, by (try simp only [List.length_map, List.length_append, List.length_set, List.length_replicate, List.length_cons, List.length_nil]); omega⟩) ?_; simp only [zbm, zaq, zat, zbz, zbn, zbl, zbh]; try simp only [zak, zac, zad, Nat.reduceEqDiff, ↓reduceIte, zag, zah, zao, zaf, zae, zal, zai]) | refine DS.drawL (id := 16) [0, 1, 2, 3, 4, 5, 6, 7, 8, 9, 10, 11, 12, 13, 14, 15, 16, 17, 18, 19, 20, 21] 22 (by kernel_rfl) zct (by simp only [zay, zbc, zbd, zbe, zax]; exact rfl) (by simp only [zav, zaw, List.drop_nil]; exact rfl) ?_ | (with_reducible first | refine DD.fltS yU yU yU yX40 ?_ | refine DD.nil0 ?_) | fail)
    refine DS.reS (S' := setS bp (.cells ((ps2.map PRow.cell).set r1 (.v (.slice (some ⟨b6', 0, none⟩) (ps1[r1]'hr1).rows.length cap6))) 35) S6) (fun b o e => by rw [← Ku.out.2.2.2.2.2.2.2] at e; exact e) ?_
    have hbp6 : b6' ≠ bp := (Ks.out.1.rx r1 hr2' b6' cap6 junk6 Ku.out.2.1).2
    have g14 : SearchP (setS bp (.cells ((ps2.map PRow.cell).set r1 (.v (.slice (some ⟨b6', 0, none⟩) (ps1[r1]'hr1).rows.length cap6))) 35) S6) bx bp bm size rs budget res2.2.1 (addT 1 [] t w) (ps2.set r1 ⟨(ps1[r1]'hr1).rows, some (b6', cap6, ints t :: junk6)⟩) := by
      refine Ks.out.1.turn hr2' (.inl ⟨cap6, junk6, Ku.out.2.1⟩) ⟨?_, ?_, Ku.out.2.2.2.2.1, ?_⟩ ?_ fun b e4 e5 e6 => ?_
      · rw [zbg Ks.out.1.pln, if_neg hbp6, Ku.out.2.2.1]; simp
      · have := Ku.out.2.2.2.1; simp only [List.length_append, List.length_cons, List.length_nil] at this ⊢; omega
      · intro v hv
        rcases List.mem_cons.1 hv with rfl | hv
        · rfl
        · exact Ku.out.2.2.2.2.2.1 v hv
      · rw [zbg Ks.out.1.pln, if_pos rfl]
      · rw [zbg Ks.out.1.pln, if_neg e4]
    have hap14 : zti (ps2.set r1 ⟨(ps1[r1]'hr1).rows, some (b6', cap6, ints t :: junk6)⟩) b5 := fun i h cap j e => by
      rw [List.getElem_set] at e
      split at e
      · simp only [Option.some.injEq, Prod.mk.injEq] at e
        exact Ks.out.2.2.1 r1 hr2' cap6 junk6 (e.1 ▸ Ku.out.2.1)
      · exact Ks.out.2.2.1 i (by simpa using h) cap j e
    have oth14 := Ks.out.2.1.of (T' := setS bp (.cells ((ps2.map PRow.cell).set r1 (.v (.slice (some ⟨b6', 0, none⟩) (ps1[r1]'hr1).rows.length cap6))) 35) S6) (fun b hb => by
      rw [zbg Ks.out.1.pln, if_neg (zkl (Ks.out.2.1.apart Ks.out.1 Ks.out.2.2.1 b hb)).2.1])
    generalize setS bp (.cells ((ps2.map PRow.cell).set r1 (.v (.slice (some ⟨b6', 0, none⟩) (ps1[r1]'hr1).rows.length cap6))) 35) S6 = S7 at *
    clear m4 m5 m6 hx6 hp6 hc6
    have htk := zvi S7 g14.obj g14.map g14.xm t (-1) (fun a ha => H.out.2.1.in64 a (H.out.2.2.2.2.1.2.1.subset ha)) (by have := H.out.2.2.2.2.1.2.1.length_le; have := H.out.2.1.len; omega)
    refine DS.callA inferInstance htk yR yH (fun u4 S8 hu4 => ?_)
    have g15 := g14.counted hu4.1 hu4.2
    rw [addT_back H.out.1 (by omega) H.out.2.2.2.2.1.2.2.1] at g15
    have oth15 := oth14.of (T' := S8) (fun b hb => hu4.2 b (zkl (oth14.apart g14 hap14 b hb)).2.2.1)
    clear htk hu4 g14 oth14
    repeat' (first | (with_reducible first | refine DS.opsNil ?_ | refine DS.exit yU ?_) | fail)
    refine DS.endR (rnd_norm (st := res2.2.1) (ps1 := ps2.set r1 ⟨(ps1[r1]'hr1).rows, some (b6', cap6, ints t :: junk6)⟩) hst hpend oth15 g15 ?_ (fun i h h' => ?_) hap14 ?_ H.out.2.2.2.2.2.2.2.2.2.1)
    · rw [List.length_set]; exact Kl.out.trans H.out.2.2.2.2.2.1
    · have hi1 : i < ps1.length := by have := H.out.2.2.2.2.2.1; omega
      have hi2 : i < ps2.length := by simpa using h'
      have hi5 : i < ps5.length := by have := H.out.2.2.2.2.2.2.2.2.2.2.2.2.2.2.1; omega
      rw [List.getElem_set]
      by_cases hir : r1 = i
      · subst hir; rw [if_pos rfl]; exact H.out.2.2.2.2.2.2.1 r1 h hi1
      · rw [if_neg hir, Ku.out.2.2.2.2.2.2.1 i hi5 hi2, H.out.2.2.2.2.2.2.2.2.2.2.2.2.2.1 i hi1 hi5, if_neg hir]; exact H.out.2.2.2.2.2.2.1 i h hi1
    · have h7 := Ks.out.2.2.2.2.2.2.1
      rw [if_pos e3] at h7
      exact h7
  · rename_i e3
    obtain ⟨g10, oth2, hap2, h3, h4, h2, htry2, hr2⟩ := Ks.out
    obtain ⟨_, _, _, _, _, hpl, hrw, _, _, _, _, _, _, g5r, hl5, _⟩ := H.out
    rw [if_neg e3] at htry2
    subst htry2
    refine DS.retR rfl (ztw (rc := rc) ?_ ?_ ?_ ?_)
    · rw [zbg m6, if_neg (fun e => by rw [← e, oth2.lp] at m6; cases m6)]; exact oth2.lp
    · rw [zbg m6, if_pos rfl]; rfl
    · refine ⟨rfl, w2, ps2, g10.setI m6 _, hlen2.trans hpl, fun h => absurd h e3, fun h i h1 h2' => ?_⟩
      have hi1 : i < ps1.length := by omega
      have hi5 : i < ps5.length := by omega
      rw [h4 h i hi5 h2', g5r i hi1 hi5]
      by_cases hir : r1 = i
      · subst hir
        rw [if_pos rfl, hrw r1 h1 hi1, List.filter_cons, if_pos (by simp)]; simp
      · rw [if_neg hir, hrw i h1 hi1, List.filter_cons, if_neg (by simpa using hir)]
    · have sf := oth2.sf
      simp only [zgx] at sf ⊢
      rw [zbg m6, if_neg (fun e => by rw [e, m6] at sf; simp at sf)]; exact sf
end Go.XL
namespace Go.XL
open Go.Proofs
set_option maxRecDepth 100000
set_option maxHeartbeats 8000000
theorem round_yc {bx bp bm : Nat} {size : Nat} {rs : List (List Int)} {budget : Int} (hsz : 3 ≤ size ∧ size ≤ 4) {n1 : Nat} (ih : zsu bx bp bm size rs budget n1) {met : Int → Int → Bool} {w : W} {B : Int} {ps : List PRow} {r1 : Nat} {f : Int} {fr : List Int} (hg : GoodW B met w) (hB : B + (n1 + 1) ≤ 1000000000000) (hf : AscI (f :: fr))
    (hn : mzS rs r1 (f :: fr).length < n1 + 1) (hT : ∀ i (h : i < ps.length), ps[i].rows.length + (n1 + 1) ≤ 10000) (hps : ps.length = rs.length) (hr : r1 < rs.length) {b4 b5 b6 : Nat} {res : Int × Int × List (Nat × List Int)}
    {v1 : VH} {l : Nat} {rc : Loop} {x y : Code} (hxy : Try.f96.body.bind rfOf = some (x, y)) (hknow : KnowE v1 108 (eF bx b4 b5 b6) rc.tmps) (hpar : rc.params = #[35]) (hass : rc.assign = x) (hbod : rc.body = y) (hst : rc.state = .ready) (hpend : rc.pending = none)
    (bf : Nat) (t : List Int) (X : List (List Int)) (T : Sto) (st : Int) (ps1 : List PRow) (ht : t.length = size) (hself : zgx T bx l bf)
    (q : FInv l b4 b5 b6 bx bp bm rc size rs budget w ps r1 (f :: fr) (fun t s => srch size budget rs n1 (zic met t) r1 ((f :: fr).filter fun id => !decide (id ∈ t)) s) res (t :: X) T st ps1) :
    YC v1 Try.prog l [ints t] T (fun u S' => ((u = Bo true ∧ ∃ st ps1, FInv l b4 b5 b6 bx bp bm rc size rs budget w ps r1 (f :: fr) (fun t s => srch size budget rs n1 (zic met t) r1 ((f :: fr).filter fun id => !decide (id ∈ t)) s) res X S' st ps1) ∨ (u = Bo false ∧ ∃ rc', FDone l b6 bx bp bm size rs budget w ps res S' rc')) ∧ zgx S' bx l bf) := by
  obtain ⟨rfl, rfl⟩ := Prod.mk.inj (Option.some.inj ((show Try.f96.body.bind rfOf = some (_, _) from rfl).symm.trans hxy))
  clear hxy
  generalize hrec : (fun t s => srch size budget rs n1 (zic met t) r1 ((f :: fr).filter fun id => !decide (id ∈ t)) s) = rec at *
  refine YC.of_run (n := 108) (rc := rc) (E := eF bx b4 b5 b6) hknow.1 hknow.2 hst q.lp (by rw [hpar]; rfl) (by rw [hpar]; simp) ?_
  rw [hpar, hass, hbod]
  simp only [parV_cons, parV_nil, zbb]
  clear hknow hpar hass hbod
  repeat' (first | (with_reducible first | refine DS.opsNil ?_ | refine DS.regionL ?_) | (refine DS.letF (t := 7) yU yE yU (fun _ => by (simp (disch := omega) only [go_sem, dopV, Option.map_some, Option.map_none, Option.bind_some, Option.bind_none, ↓reduceIte, Nat.reduceEqDiff, Nat.reduceLT, Nat.reduceLeDiff, Nat.reduceAdd, Nat.reduceMul, Nat.reduceSub, Nat.zero_add, Nat.add_zero, Nat.zero_le, Nat.zero_mul, Nat.mul_one, Nat.one_mul, Int.natCast_zero, Int.toNat_zero, Int.reduceToNat, Int.reduceLT, Int.reduceLE, Int.reduceEq, decide_true, decide_false, true_and, and_true, Bool.and_self, Bool.and_true, Bool.true_and, Bool.not_true, Bool.not_false, IntWalk.toNatUp, IntWalk.iteOmega, IntWalk.i64_in, Option.isSome_some, not_true_eq_false, not_false_eq_true, Option.getD_some, Option.getD_none, Int.toNat_natCast, List.length_map, List.getElem?_map, List.getElem?_eq_getElem, V.flat, V.one, List.all_cons, List.all_nil, *]; exact rfl)) yE yU (by exact ⟨by with_unfolding_all rfl, by with_unfolding_all decide⟩) (fun _ => by simp only [go_sem, Nat.reduceEqDiff, ↓reduceIte]) ?_; simp only [go_sem]) | fail)
  refine DS.back ⟨rc, q.lp, hst, ?_⟩
  have q1 := q.s.setL q.lp (.raw (.loop { rc with state := .busy }))
  have nl : ∀ {b : Nat} {o : List V × TypeId}, zab T b = some (.cells o.1 o.2) → b ≠ l := fun {b o} h e => by rw [e, q.lp] at h; cases h
  have oth : Oth (setS l (.raw (.loop { rc with state := .busy })) T) l b4 b5 b6 bf bx { rc with state := .busy } r1 (f :: fr) :=
    ⟨by rw [zbg q.lp, if_pos rfl], by rw [zbg q.lp, if_neg (nl (o := ([I r1], 3)) q.o4)]; exact q.o4, by rw [zbg q.lp, if_neg (nl (o := ([ints (f :: fr)], 22)) q.o5)]; exact q.o5, by rw [zbg q.lp, if_neg (nl (o := ([I 0], 3)) q.o6)]; exact q.o6, by
      have h := hself
      simp only [zgx] at h ⊢
      rw [zbg q.lp, if_neg (fun e => by rw [e, q.lp] at h; cases h)]; exact h⟩
  have htab := q.tabs.each t (List.mem_cons_self ..)
  have hpl := q.pl
  have hrw := q.rows
  have hap := q.ap
  have htry := q.try_
  have htabs : TabsOk size (f :: fr) X := ⟨fun x hx => q.tabs.each x (List.mem_cons_of_mem _ hx)⟩
  generalize setS l (.raw (.loop { rc with state := .busy })) T = T1 at *
  have hx1 := q1.obj
  have m4 := oth.o4
  have m5 := oth.o5
  have m6 := oth.o6
  have hr1 : r1 < ps1.length := by omega
  have H := Box.mk (And.intro oth (And.intro q1 (And.intro hg (And.intro hf (And.intro ih (And.intro hrec (And.intro htab (And.intro hrw (And.intro hap (And.intro htry (And.intro htabs (And.intro hT (And.intro hpl hps)))))))))))))
  clear q oth q1 hself nl hg hf hrec ih htab hrw hap htry htabs hT hpl hps
  repeat' (first | (with_reducible first | refine DS.fltS yU yU yX24 ?_ | refine DS.opsNil ?_ | refine DS.seq ?_ | refine DS.regionL ?_) | (with_reducible refine DS.cE yX24 ?_; with_reducible refine CG.p (fun _ => ?_) (fun _ => ?_)) | (with_reducible first | refine DS.block ?_ | refine DS.skip ?_) | (refine DS.store yR yX24 yX24 yX24 yX24 yU (by exact ⟨by with_unfolding_all rfl, by (try simp only [List.length_map, List.length_append, List.length_set, List.length_replicate, List.length_cons, List.length_nil]); omega⟩) ?_; simp only [zbm, zaq, zat, zbz, zbn, zbl, zbh]; try simp only [zak, zac, zad, Nat.reduceEqDiff, ↓reduceIte, zag, zah, zao, zaf, zae, zal, zai]) | refine DS.drawL (id := 8) [0, 1, 2, 3, 4, 5, 6, 7] 8 (by kernel_rfl) zct (by simp only [zay, zbc, zbd, zbe, zax]; exact rfl) (by simp only [zav, zaw, List.drop_nil]; exact rfl) ?_ | (with_reducible first | refine DD.fltS yU yU yU yX24 ?_ | refine DD.nil0 ?_) | fail)
  · rename_i e1
    obtain ⟨oth, q1, hg, hf, ih, hrec, htab, hrw, hap, htry, htabs, hT, hpl, hps⟩ := H.out
    rw [tryL, if_pos e1] at htry
    subst htry
    refine DS.retR rfl (ztw (rc := rc) ?_ ?_ ?_ ?_)
    · rw [zbg m6, if_neg (fun e => by rw [← e, oth.lp] at m6; cases m6)]; exact oth.lp
    · rw [zbg m6, if_pos rfl]; rfl
    · exact ⟨rfl, w, ps1, q1.setI m6 _, hpl, fun h => by simp at h, fun h => by simp at h⟩
    · have sf := oth.sf
      simp only [zgx] at sf ⊢
      rw [zbg m6, if_neg (fun e => by rw [e, m6] at sf; simp at sf)]; exact sf
  · rename_i e1
    have g6 := H.out.2.1.steps' (w64 (st + 1))
    have oth2 := H.out.1.of (T' := setS bx (.cells (pC size budget (w64 (st + 1)) rs bp ps1.length bm) TP) T1) (fun b hb => by
      have := zkl (H.out.1.apart H.out.2.1 H.out.2.2.2.2.2.2.2.2.1 b hb)
      rw [zbg hx1, if_neg this.1])
    refine DS.reS (S' := setS bx (.cells (pC size budget (w64 (st + 1)) rs bp ps1.length bm) TP) T1) (fun b o e => by exact e) ?_
    generalize setS bx (.cells (pC size budget (w64 (st + 1)) rs bp ps1.length bm) TP) T1 = T2 at *
    clear hx1 m4 m5 m6
    refine DS.callA inferInstance (zvi T2 g6.obj g6.map g6.xm t 1 (fun a ha => H.out.2.2.2.1.in64 a (H.out.2.2.2.2.2.2.1.2.1.subset ha)) (by omega)) yR yH (fun u S3 hu => ?_)
    have g7 := g6.counted hu.1 hu.2
    have oth3 := oth2.of (T' := S3) (fun b hb => hu.2 b (zkl (oth2.apart g6 H.out.2.2.2.2.2.2.2.2.1 b hb)).2.2.1)
    clear hu g6 oth2
    have hx3 := g7.obj
    have hp3 := g7.pln
    obtain ⟨p, hp⟩ : ∃ p, p = ps1[r1] := ⟨_, rfl⟩
    have hrow := g7.row r1 hr1
    rw [← hp] at hrow
    have hpc : (ps1.map PRow.cell)[r1]? = some p.cell := by rw [List.getElem?_map, List.getElem?_eq_getElem hr1, ← hp]; rfl
    obtain ⟨S0, Sr, k0, k1, k2, k3⟩ := PRow.split hrow
    have hx0 : zab S0 bx = _ := (k3 bx fun cap jk h => (g7.rx r1 hr1 bx cap jk (hp ▸ h)).1 rfl).1.trans hx3
    have hp0 : zab S0 bp = _ := (k3 bp fun cap jk h => (g7.rx r1 hr1 bp cap jk (hp ▸ h)).2 rfl).1.trans hp3
    have h40 : zab S0 b4 = _ := (k3 b4 fun cap jk h => (zkl (oth3.apart g7 H.out.2.2.2.2.2.2.2.2.1 b4 (.inr (.inl rfl)))).2.2.2 r1 hr1 cap jk (hp ▸ h)).1.trans oth3.o4
    have hpr : p.rows.length + (n1 + 1) ≤ 10000 := by rw [hp, H.out.2.2.2.2.2.2.2.1 r1 (H.out.2.2.2.2.2.2.2.2.2.2.2.2.2 ▸ hr) hr1]; exact H.out.2.2.2.2.2.2.2.2.2.2.2.1 r1 _
    subst hp
    have Kq := Box.mk (And.intro hrow (And.intro k3 (And.intro k2 (And.intro g7 (And.intro hpr oth3)))))
    have m4 := oth3.o4
    have m5 := oth3.o5
    have m6 := oth3.o6
    clear hx3 hp3 hrow k3 g7 k2 hpc hpr oth3
    repeat' (first | (with_reducible first | refine DS.opsNil ?_ | refine DS.seq ?_) | fail)
    refine DS.drawLS (id := 12) (S0) (Sr) [0, 1, 2, 3, 4, 5, 6, 7, 8, 9, 10, 11, 12, 13, 14] 15 (by kernel_rfl) zct (by simp only [zay, zbc, zbd, zbe, zax]; exact rfl) (by simp only [zav, zaw, List.drop_nil]; exact rfl) (k0) (k1) ?_
    repeat' (first | with_reducible refine DD.fltS yU yU yU yX40 ?_ | (refine DD.bslS yU yX40 yX40 ?_; simp only [go_sem, Nat.zero_add, Nat.reduceAdd]; simp only [zbo, zbw, Nat.reduceEqDiff, ↓reduceIte]) | fail)
    refine DD.last rfl rfl rfl yR (OpS.appRow (p := ps1[r1]'hr1) (tab := t) rfl yT yT yR yR yT Kq.out.2.2.1 yT yX17 ⟨by have := Kq.out.2.2.2.2.1; omega, by decide⟩) (fun u2 E' S4 hu2 hdis => ?_)
    obtain ⟨rfl, b', cap', junk', rfl, m1, m2, m3⟩ := hu2
    have hrowv : (ps1[r1]'hr1).rows = (ps[r1]'(by have := H.out.2.2.2.2.2.2.2.2.2.2.2.2.1; omega)).rows := H.out.2.2.2.2.2.2.2.1 r1 (by have := H.out.2.2.2.2.2.2.2.2.2.2.2.2.1; omega) hr1
    obtain ⟨g8, g9, g10⟩ := Kq.out.2.2.2.1.appended hr1 rfl Kq.out.2.1 hdis m1 m2 m3
    have hb5 : b' ≠ b5 := fun e => by
      have h5 : zab S0 b5 = _ := (Kq.out.2.1 b5 fun cap jk h => H.out.2.2.2.2.2.2.2.2.1 r1 hr1 cap jk h).1.trans Kq.out.2.2.2.2.2.o5
      have := m1.1
      rw [e, hdis b5 _ h5] at this; cases this
    clear m1 m2 m3 hdis hx0 hp0 h40 k0 k1 m4 m5 m6
    simp only [PRow.cell_some, zcj]
    refine DS.fltS yR yR yG ?_
    refine DS.store yR yG yG yG g8 yU ⟨by with_unfolding_all rfl, by simp only [List.length_map]; omega⟩ ?_
    refine DS.opsNil ?_
    simp only [zbm, zaq, zat, zbz]
    refine DS.weaken (E' := (7, .plc [ints t]) :: eF bx b4 b5 b6) (zdb yS) (fun _ _ e => e) ?_
    obtain ⟨oth, q1, hg, hf, ih, hrec, htab, hrw, hap, htry, htabs, hT, hpl, hps⟩ := H.out
    subst hrec
    have oth5 := Kq.out.2.2.2.2.2.of (T' := setS bp (.cells ((ps1.map PRow.cell).set r1 (.v (.slice (some ⟨b', 0, none⟩) ((ps1[r1]'hr1).rows ++ [t]).length cap'))) 35) (S4 ++ S0)) (fun b hb => by
      have h1 := zkl (Kq.out.2.2.2.2.2.apart Kq.out.2.2.2.1 hap b hb)
      have hsome : ∃ o, zab S3 b = some o := by
        have oth := Kq.out.2.2.2.2.2
        rcases hb with rfl | rfl | rfl | rfl | rfl
        · exact ⟨_, oth.lp⟩
        · exact ⟨_, oth.o4⟩
        · exact ⟨_, oth.o5⟩
        · exact ⟨_, oth.o6⟩
        · exact ⟨_, oth.sf⟩
      obtain ⟨o, ho⟩ := hsome
      rw [ho]
      exact g10 b o h1.2.1 (fun cap j h => h1.2.2.2 r1 hr1 cap j h) ho)
    exact round2_ds ih hg hB hf hn hT hps hr yR hst hpend e1 htab hpl hrw hap hsz.1 htry htabs hr1 g9 oth5 hb5
end Go.XL
namespace Go.XL
open Go.Proofs
set_option maxRecDepth 100000
set_option maxHeartbeats 8000000
theorem SearchP.inP_none {S : Sto} {bx bp bm : Nat} {size budget steps : Int} {rs : List (List Int)} {w : W} {ps : List PRow} (s : SearchP S bx bp bm size rs budget steps w ps) {b : Nat} (h : zab S b = none) : inP bx bp bm ps b = false := by
  cases hin : inP bx bp bm ps b with
  | false => rfl
  | true =>
    exfalso
    simp only [inP, Bool.or_eq_true, decide_eq_true_eq, List.any_eq_true] at hin
    rcases hin with ((hin | hin) | hin) | ⟨p, hp, hin⟩
    · subst hin; rw [s.obj] at h; cases h
    · subst hin; rw [s.pln] at h; cases h
    · subst hin
      obtain ⟨_, _, _, m1, _⟩ := s.map.out
      rw [m1] at h; cases h
    · obtain ⟨i, hi, rfl⟩ := List.getElem_of_mem hp
      have h3 := s.row i hi
      generalize ps[i] = p at hin h3
      obtain ⟨T', blk⟩ := p
      cases blk with
      | none => simp at hin
      | some x =>
        simp only [decide_eq_true_eq] at hin
        subst hin
        rw [h3.1] at h; cases h
theorem zpt (st : List Int → Int → Bool) : ∀ (n : Nat) (f : Int) (t ids : List Int), ∀ x ∈ zga st n (f :: t) ids, x.headD 0 = f
  | 0, f, t, ids, x, hx => by simp only [zga, List.mem_singleton] at hx; subst hx; rfl
  | n + 1, f, t, ids, x, hx => by
    have key : ∀ l : List Int, ∀ x ∈ zeo st (zga st n) (f :: t) l, x.headD 0 = f := by
      intro l
      induction l with
      | nil => intro x hx; simp [zeo] at hx
      | cons id r ih =>
        intro x hx
        simp only [zeo, List.mem_append] at hx
        rcases hx with hx | hx
        · split at hx
          · exact zpt st n f (t ++ [id]) r x hx
          · simp at hx
        · exact ih x hx
    exact key ids x hx
theorem yX41 {p : Prop} (h : p := by (simp (disch := omega) only [go_sem, dopV, Option.map_some, Option.map_none, Option.bind_some, Option.bind_none, ↓reduceIte, Nat.reduceEqDiff, Nat.reduceLT, Nat.reduceLeDiff, Nat.reduceAdd, Nat.reduceMul, Nat.reduceSub, Nat.zero_add, Nat.add_zero, Nat.zero_le, Nat.zero_mul, Nat.mul_one, Nat.one_mul, Int.natCast_zero, Int.toNat_zero, Int.reduceToNat, Int.reduceLT, Int.reduceLE, Int.reduceEq, decide_true, decide_false, true_and, and_true, Bool.and_self, Bool.and_true, Bool.true_and, Bool.not_true, Bool.not_false, IntWalk.toNatUp, IntWalk.iteOmega, IntWalk.i64_in, Option.isSome_some, not_true_eq_false, not_false_eq_true, Option.getD_some, Option.getD_none, Int.toNat_natCast, List.length_map, List.getElem?_map, List.getElem?_eq_getElem, V.flat, V.one, List.all_cons, List.all_nil, *, List.forall_mem_map, implies_true, zcu, zvm]; exact rfl)) : p := h
theorem yX42 {p : Prop} (h : p := by (simp (disch := omega) only [go_sem, dopV, Option.map_some, Option.map_none, Option.bind_some, Option.bind_none, ↓reduceIte, Nat.reduceEqDiff, Nat.reduceLT, Nat.reduceLeDiff, Nat.reduceAdd, Nat.reduceMul, Nat.reduceSub, Nat.zero_add, Nat.add_zero, Nat.zero_le, Nat.zero_mul, Nat.mul_one, Nat.one_mul, Int.natCast_zero, Int.toNat_zero, Int.reduceToNat, Int.reduceLT, Int.reduceLE, Int.reduceEq, decide_true, decide_false, true_and, and_true, Bool.and_self, Bool.and_true, Bool.true_and, Bool.not_true, Bool.not_false, IntWalk.toNatUp, IntWalk.iteOmega, IntWalk.i64_in, Option.isSome_some, not_true_eq_false, not_false_eq_true, Option.getD_some, Option.getD_none, Int.toNat_natCast, List.length_map, List.getElem?_map, List.getElem?_eq_getElem, V.flat, V.one, List.all_cons, List.all_nil, zed, List.map_cons, List.map_nil, zaw, zav, take_cons', take_zero', List.length_cons]; try exact rfl)) : p := h
theorem fill_of {bx bp bm : Nat} {size : Nat} {rs : List (List Int)} {budget : Int} (hsz : 3 ≤ size ∧ size ≤ 4) (hrl : rs.length ≤ 1000) (hrs : ∀ ids ∈ rs, AscI ids) (n : Nat) (IH : ∀ m, m < n + 1 → zsu bx bp bm size rs budget m) : zsu bx bp bm size rs budget (n + 1) := by
  intro S met w B0 steps ps round free s hps hr hg hB hf hn hT
  generalize hres : srch size budget rs (n + 1) met round free steps = res
  refine DC.of_run Try.func96 rfl Try.ntmps96 Try.results96 (by simp) (fun _ => ?_); simp only [zan, zas, go_sem, Nat.zero_add, Nat.reduceAdd]
  repeat' (first | (with_reducible first | refine DS.seq ?_ | refine DS.regionL ?_) | (refine DS.boxF (t := 3) yU yE yU ?_; simp only [zbk, zcd, zbi, zbu, zbf, zaz, zbp, zbb, zca, zcc, zbq, zcb, zbt, zbs]) | fail)
  refine DS.boxS yR yG yR (fun b4 h4 => ?_)
  refine DS.boxS yR yG yR (fun b5 h5 => ?_)
  refine DS.allocS yR yU yU (fun b6 h6 => ?_)
  simp only [zaa] at h5 h6
  have n45 : ¬ b4 = b5 := fun e => by rw [if_pos e] at h5; cases h5
  rw [if_neg n45] at h5
  have n56 : ¬ b5 = b6 := fun e => by rw [if_pos e] at h6; cases h6
  rw [if_neg n56] at h6
  have n46 : ¬ b4 = b6 := fun e => by rw [if_pos e] at h6; cases h6
  rw [if_neg n46] at h6
  have hne : ∀ b o, zab S b = some o → b ≠ b4 ∧ b ≠ b5 ∧ b ≠ b6 := fun b o e => ⟨fun h => (by rw [h, h4] at e; cases e), fun h => (by rw [h, h5] at e; cases e), fun h => (by rw [h, h6] at e; cases e)⟩
  have n54 : ¬ b5 = b4 := fun e => n45 e.symm
  have n65 : ¬ b6 = b5 := fun e => n56 e.symm
  have n64 : ¬ b6 = b4 := fun e => n46 e.symm
  have n4x : ¬ b4 = bx := fun e => (hne _ _ s.obj).1 e.symm
  have n5x : ¬ b5 = bx := fun e => (hne _ _ s.obj).2.1 e.symm
  have n6x : ¬ b6 = bx := fun e => (hne _ _ s.obj).2.2 e.symm
  have hz : (List.map V.v (Value.int .i64 0).cells.toList) = [I 0] := rfl
  rw [hz]
  clear hz
  simp only [zcd, zbi, zaz, zbf, zca, zbb]
  have hx := s.obj
  have H := And.intro h4 (And.intro h5 (And.intro h6 (And.intro hne (And.intro s (And.intro hg hT)))))
  clear h4 h5 h6 hne s hg hT
  repeat' (first | (with_reducible first | refine DS.opsNil ?_ | refine DS.seq ?_ | refine DS.block ?_ | refine DS.scope ?_) | fail)
  refine DS.loopS [3, 4, 5, 6, 7, 8, 9, 35, 36, 37, 38, 39, 40, 41, 42, 43, 44, 45, 46, 47, 48, 49, 50, 51, 52, 53, 55, 56, 57, 58, 59, 60, 61, 62, 63, 64, 65, 66, 68, 69, 70, 71, 72, 73, 74, 75, 76, 77, 78, 79, 80, 81, 82, 83, 84, 85, 86, 87, 88, 89, 90, 91, 92, 93, 94, 95, 96, 97, 98, 99, 100, 101, 102, 103, 104, 105, 107] (by (simp only [go_sem, Nat.reduceEqDiff, ↓reduceIte]; exact rfl)) (fun (x : Nat × List Int × Nat) => []) (fun (x : Nat × List Int × Nat) => ((b6, .cells [I 0] 3) :: (b5, .cells [ints x.2.1] 22) :: (b4, .cells [I x.1] 3) :: S)) (fun (x : Nat × List Int × Nat) => x.1 < rs.length ∧ AscI x.2.1 ∧ x.2.2 ≤ n ∧ mzS rs x.1 x.2.1.length < x.2.2 + 1 ∧ srch size budget rs (x.2.2 + 1) met x.1 x.2.1 steps = res) (fun (x : Nat × List Int × Nat) => rs.length - x.1) (round, free, n) yS (fun b o e => by exact e) ⟨hr, hf, Nat.le_refl _, hn, hres⟩ (fun x B hI hB => ?_); try dsimp only at hI hB; simp only [zap, zau]
  clear hr hf hn hres
  obtain ⟨r1, f1, n1⟩ := x
  dsimp only at hI hB
  obtain ⟨g1, g2, g3, g4, g5⟩ := hI
  have hsub : ∀ o6 o5 o4 b o, zab S b = some o → zab ((b6, o6) :: (b5, o5) :: (b4, o4) :: S) b = some o := fun o6 o5 o4 b o e => by
    obtain ⟨e1, e2, e3⟩ := H.2.2.2.1 b o e
    simp only [zab]
    rw [if_neg (fun h => e3 h.symm), if_neg (fun h => e2 h.symm), if_neg (fun h => e1 h.symm)]; exact e
  repeat' (first | (with_reducible first | refine DS.fltS yU yU yX41 ?_ | refine DS.opsNil ?_ | refine DS.seq ?_ | refine DS.regionL ?_) | (with_reducible refine DS.cE yX41 ?_; with_reducible refine CG.p (fun _ => ?_) (fun _ => ?_)) | (with_reducible first | refine DS.blk ?_ | refine DS.block ?_ | refine DS.exit yU ?_ | refine DS.skip ?_ | refine DS.label ?_) | (refine DS.store yR yX41 yX41 yX41 yX41 yU (by exact ⟨by with_unfolding_all rfl, by (try simp only [List.length_map, List.length_append, List.length_set, List.length_replicate, List.length_cons, List.length_nil]); omega⟩) ?_; simp only [zbm, zaq, zat, zbz, zbn, zbl, zbh]; try simp only [zak, zac, zad, Nat.reduceEqDiff, ↓reduceIte, zag, zah, zao, zaf, zae, zal, zai]) | refine DS.drawL (id := 3) [0, 1, 2, 3, 4, 5] 6 (by kernel_rfl) zct (by simp only [zay, zbc, zbd, zbe, zax]; exact rfl) (by simp only [zav, zaw, List.drop_nil]; exact rfl) ?_ | refine DS.drawL (id := 5) [0, 1, 2, 3, 4] 5 (by kernel_rfl) zct (by simp only [zay, zbc, zbd, zbe, zax]; exact rfl) (by simp only [zav, zaw, List.drop_nil]; exact rfl) ?_ | refine DS.drawL (id := 6) [0, 1, 2, 3, 4] 5 (by kernel_rfl) zct (by simp only [zay, zbc, zbd, zbe, zax]; exact rfl) (by simp only [zav, zaw, List.drop_nil]; exact rfl) ?_ | (with_reducible first | refine DD.fltS yU yU yU yX41 ?_ | refine DD.nil0 ?_) | fail)
  · rename_i e1 e2
    have hf1 : f1 = [] := List.eq_nil_of_length_eq_zero (by omega)
    subst hf1
    rw [srch, if_pos (by omega)] at g5
    subst g5
    refine DS.retW S yH (fun b o e => ?_) ⟨rfl, w, ps, H.2.2.2.2.1, rfl, fun h => by simp at h, fun _ i h h' => by simp⟩
    simp only [setS, n46, n45, n56, n64, n54, n65, ↓reduceIte, zbr]
    exact hsub _ _ _ b o e
  · rename_i e1 e2
    have hf1 : f1 = [] := List.eq_nil_of_length_eq_zero (by omega)
    subst hf1
    have hnx : r1 + 1 < rs.length := by omega
    rw [srch, if_neg (by omega), List.getD_eq_getElem?_getD, List.getElem?_eq_getElem hnx, Option.getD_some] at g5
    have hmz := zuc hnx
    simp only [List.length_nil] at g4
    obtain ⟨n2, rfl⟩ : ∃ n2, n1 = n2 + 1 := ⟨n1 - 1, by omega⟩
    refine DS.back (hB (r1 + 1, rs[r1 + 1], n2) _ _ (by dsimp only; omega) ⟨hnx, hrs _ (List.getElem_mem hnx), by dsimp only; omega, by dsimp only; omega, g5⟩ yS yS (fun b o e => ?_))
    simp only [setS, n46, n45, n56, n64, n54, n65, ↓reduceIte, zbr, zbl, zaq, zat]
    exact e
  · rename_i e1
    obtain ⟨f, fr, rfl⟩ : ∃ f fr, f1 = f :: fr := by
      cases f1 with
      | nil => simp at e1
      | cons f fr => exact ⟨f, fr, rfl⟩
    clear e1 hB
    refine DS.pcS inferInstance (further_pc bx [f] fr) yR yX42 ?_
    repeat' (first | (with_reducible first | refine DS.opsNil ?_ | refine DS.block ?_) | fail)
    have hS0 : ∀ b o, zab S b = some o → zab ((b6, .cells [I 0] 3) :: (b5, .cells [ints (f :: fr)] 22) :: (b4, .cells [I r1] 3) :: S) b = some o := hsub _ _ _
    have s0 : SearchP ((b6, .cells [I 0] 3) :: (b5, .cells [ints (f :: fr)] 22) :: (b4, .cells [I r1] 3) :: S) bx bp bm size rs budget steps w ps := H.2.2.2.2.1.up (hsub _ _ _)
    have k4 : zab ((b6, .cells [I 0] 3) :: (b5, .cells [ints (f :: fr)] 22) :: (b4, .cells [I r1] 3) :: S) b4 = some (.cells [I r1] 3) := by simp only [zab, n64, n54, ↓reduceIte]
    have k5 : zab ((b6, .cells [I 0] 3) :: (b5, .cells [ints (f :: fr)] 22) :: (b4, .cells [I r1] 3) :: S) b5 = some (.cells [ints (f :: fr)] 22) := by simp only [zab, n65, ↓reduceIte]
    have k6 : zab ((b6, .cells [I 0] 3) :: (b5, .cells [ints (f :: fr)] 22) :: (b4, .cells [I r1] 3) :: S) b6 = some (.cells [I 0] 3) := by simp only [zab, ↓reduceIte]
    have hni : inP bx bp bm ps b4 = false ∧ inP bx bp bm ps b5 = false ∧ inP bx bp bm ps b6 = false := ⟨H.2.2.2.2.1.inP_none H.1, H.2.2.2.2.1.inP_none H.2.1, H.2.2.2.2.1.inP_none H.2.2.1⟩
    dsimp only
    generalize ((b6, Ob.cells [I 0] 3) :: (b5, .cells [ints (f :: fr)] 22) :: (b4, .cells [I r1] 3) :: S) = S1 at *
    obtain ⟨k, hk⟩ : ∃ k : Nat, size = k + 1 := ⟨size - 1, by omega⟩
    rw [srch, show size - 1 = k by omega] at g5
    refine DS.rangeF (g := 136) (fs := []) (cs := [.plc [.v (.pointer (some ⟨bx, 0, none⟩))], .plc [ints [f]], .plc [ints fr]]) (eF bx b4 b5 b6) S1 []
      (Rend := fun pd T => (pd = none ∧ zab T b6 = some (.cells [I 0] 3) ∧ zjv bx bp bm size rs budget w ps res (I 2) T) ∨ (pd = some .ret ∧ zab T b6 = some (.cells [I res.1] 3) ∧ zjv bx bp bm size rs budget w ps res (I res.1) T))
      rfl yH inferInstance (zdb yS) (fun t v e => ?_) (fun _ _ e => e) (fun _ _ e => by cases e) ?_ ?_
    · simp only [zad, lookV_nil] at e
      repeat' split at e
      all_goals first | (cases e; subst_vars; exact ⟨by decide, rfl⟩) | cases e
    · intro v1 l rc hv1 hknow hpar hass hbod hst hpend hfresh
      have hlt : ∀ o b x, zab S1 b = some x → zab ((l, o) :: S1) b = some x := fun o b x e => by
        simp only [zab]; rw [if_neg (fun h => by subst h; rw [hfresh] at e; cases e)]; exact e
      have hfu := furtherC_dc (v1 := v1) (l := l) (bx := bx) (size := size) (met := met) (fun X T => ∃ st ps1, FInv l b4 b5 b6 bx bp bm rc size rs budget w ps r1 (f :: fr) (fun t s => srch size budget rs n1 (zic met t) r1 ((f :: fr).filter fun id => !decide (id ∈ t)) s) res X T st ps1)
        (fun T => ∃ rc', FDone l b6 bx bp bm size rs budget w ps res T rc') ((l, .raw (.loop rc)) :: S1) k [f] fr (by omega) (by simpa using g2.asc) (by simpa using g2.in64) (by simp; omega) (by omega) (by have := g2.len; simp at this; omega)
        ?_ ?_ ?_
      · refine hfu.mono fun u T hT => ?_
        rcases hT with ⟨st, ps1, q⟩ | ⟨rc', q⟩
        · refine ⟨rc, delS l T, q.lp, by rw [hst]; decide, fun b o e => ?_, .inl ⟨hpend, ?_, ?_⟩⟩
          · rw [zck] at e
            split at e
            · cases e
            · rename_i hb; exact ⟨e, hb⟩
          · rw [zck, if_neg (fun h => by have := q.o6; rw [h, q.lp] at this; cases this)]; exact q.o6
          · have e := q.try_
            simp only [tryL] at e
            subst e
            exact ⟨rfl, w, ps1, q.s.delL q.lp, q.pl, fun _ => ⟨rfl, q.rows⟩, fun h => by simp at h⟩
        · refine ⟨rc', delS l T, q.lp, q.st, fun b o e => ?_, .inr ⟨q.pd, ?_, ?_⟩⟩
          · rw [zck] at e
            split at e
            · cases e
            · rename_i hb; exact ⟨e, hb⟩
          · rw [zck, if_neg (fun h => by have := q.o6; rw [h, q.lp] at this; cases this)]; exact q.o6
          · obtain ⟨_, w', ps', p1, p2, p3, p4⟩ := q.post
            exact ⟨rfl, w', ps', p1.delL q.lp, p2, p3, p4⟩
      · rintro X T ⟨st, ps1, q⟩
        exact ⟨budget, st, rs, bp, _, bm, w, _, q.s.obj, q.s.map, H.2.2.2.2.2.1, q.s.xm⟩
      · rintro bf t X T ht ⟨st, ps1, q⟩ hself
        exact round_yc hsz (IH n1 (by omega)) H.2.2.2.2.2.1 (by omega) g2 g4 (fun i h => by have := H.2.2.2.2.2.2 i h; omega) hps g1 (x := _) (y := _) yR hknow hpar hass hbod hst hpend bf t X T st ps1 ht hself q
      · intro S' hS'
        refine ⟨steps, ps, hS' _ _ (by simp [zab]), hS' _ _ (hlt _ _ _ k4), hS' _ _ (hlt _ _ _ k5), hS' _ _ (hlt _ _ _ k6), (s0.up (hlt _)).up hS', rfl, fun _ _ _ => rfl, ?_, g5, ⟨fun t ht => ?_⟩⟩
        · exact fun i h cap j e => (zkl hni.2.1).2.2.2 i h cap j e
        · obtain ⟨e1, e2, e3⟩ := zse (zcg met) k [f] fr (by simpa using g2.asc) t ht
          refine ⟨by simp at e1; omega, by simpa using e2, e3, ?_⟩
          exact zpt (zcg met) k f [] fr t (by simpa using ht)
    · rintro pend T (⟨rfl, p1, p2⟩ | ⟨rfl, p1, p2⟩) -
      · dsimp only
        rw [List.append_nil]
        repeat' (first | (with_reducible first | refine DS.opsNil ?_ | refine DS.seq ?_ | refine DS.regionL ?_ | refine DS.blk ?_) | (refine DS.store yR yE yE yE yE yU (by exact ⟨by with_unfolding_all rfl, by (try simp only [List.length_map, List.length_append, List.length_set, List.length_replicate, List.length_cons, List.length_nil]); omega⟩) ?_; simp only [zbm, zaq, zat, zbz, zbn, zbl, zbh]; try simp only [zak, zac, zad, Nat.reduceEqDiff, ↓reduceIte, zag, zah, zao, zaf, zae, zal, zai]) | fail)
        refine DS.retA (by (simp (disch := omega) only [go_sem, dopV, Option.map_some, Option.map_none, Option.bind_some, Option.bind_none, ↓reduceIte, Nat.reduceEqDiff, Nat.reduceLT, Nat.reduceLeDiff, Nat.reduceAdd, Nat.reduceMul, Nat.reduceSub, Nat.zero_add, Nat.add_zero, Nat.zero_le, Nat.zero_mul, Nat.mul_one, Nat.one_mul, Int.natCast_zero, Int.toNat_zero, Int.reduceToNat, Int.reduceLT, Int.reduceLE, Int.reduceEq, decide_true, decide_false, true_and, and_true, Bool.and_self, Bool.and_true, Bool.true_and, Bool.not_true, Bool.not_false, IntWalk.toNatUp, IntWalk.iteOmega, IntWalk.i64_in, Option.isSome_some, not_true_eq_false, not_false_eq_true, Option.getD_some, Option.getD_none, Int.toNat_natCast, List.length_map, List.getElem?_map, List.getElem?_eq_getElem, V.flat, V.one, List.all_cons, List.all_nil, zbg p1]; try exact rfl)) ?_
        obtain ⟨e1, w', ps', q1, q2, q3, q4⟩ := p2
        exact ⟨e1, w', ps', q1.setI p1 _, q2, q3, q4⟩
      · dsimp only
        rw [List.append_nil]
        refine DS.retA (by (simp (disch := omega) only [go_sem, dopV, Option.map_some, Option.map_none, Option.bind_some, Option.bind_none, ↓reduceIte, Nat.reduceEqDiff, Nat.reduceLT, Nat.reduceLeDiff, Nat.reduceAdd, Nat.reduceMul, Nat.reduceSub, Nat.zero_add, Nat.add_zero, Nat.zero_le, Nat.zero_mul, Nat.mul_one, Nat.one_mul, Int.natCast_zero, Int.toNat_zero, Int.reduceToNat, Int.reduceLT, Int.reduceLE, Int.reduceEq, decide_true, decide_false, true_and, and_true, Bool.and_self, Bool.and_true, Bool.true_and, Bool.not_true, Bool.not_false, IntWalk.toNatUp, IntWalk.iteOmega, IntWalk.i64_in, Option.isSome_some, not_true_eq_false, not_false_eq_true, Option.getD_some, Option.getD_none, Int.toNat_natCast, List.length_map, List.getElem?_map, List.getElem?_eq_getElem, V.flat, V.one, List.all_cons, List.all_nil, p1]; try exact rfl)) ?_
        exact p2
theorem fill_ok {bx bp bm : Nat} {size : Nat} {rs : List (List Int)} {budget : Int} (hsz : 3 ≤ size ∧ size ≤ 4) (hrl : rs.length ≤ 1000) (hrs : ∀ ids ∈ rs, AscI ids) (n : Nat) : zsu bx bp bm size rs budget n := by
  induction n using Nat.strongRecOn with
  | _ n ih =>
    cases n with
    | zero => intro S met w B0 steps ps round free s hps hr hg hB hf hn; omega
    | succ n => exact fill_of hsz hrl hrs n fun m hm => ih m hm
end Go.XL
namespace Go.XL
open Go.Proofs
set_option maxRecDepth 100000
set_option maxHeartbeats 8000000
theorem beginP_dc (c : Club) (hs : c.Small) (hc : zss c) (rs : List (List Int)) (budget : Int) (hl : rs.length ≤ 1000) :
    DC Try.prog 56 [c.val, rows rs, I budget] [] (fun u S' => ∃ bx bp bm, u = .v (.pointer (some ⟨bx, 0, none⟩)) ∧ SearchP S' bx bp bm c.size rs budget 0 (zpd c) (List.replicate rs.length ⟨[], none⟩)) := by
  have hm := znz c hs hc
  refine DC.of_run Try.func56 rfl Try.ntmps56 Try.results56 (by simp) (fun _ => ?_); simp only [zan, zas, go_sem, Nat.zero_add, Nat.reduceAdd]
  repeat' (first | (with_reducible first | refine DS.fltS yU yU yE ?_ | refine DS.opsNil ?_ | refine DS.seq ?_ | refine DS.regionL ?_) | (refine DS.boxF (t := 3) yU yE yU ?_; simp only [zbk, zcd, zbi, zbu, zbf, zaz, zbp, zbb, zca, zcc, zbq, zcb, zbt, zbs]) | fail)
  refine DS.drawLS (id := 1) (([] : Sto)) (([] : Sto)) [0, 1, 2, 3, 4, 5, 7, 8, 6] 9 (by kernel_rfl) zct (by simp only [zay, zbc, zbd, zbe, zax]; exact rfl) (by simp only [zav, zaw, List.drop_nil]; exact rfl) ((fun _ _ e => by cases e)) ((fun _ _ e => by cases e)) ?_
  repeat' (first | with_reducible refine DD.fltS yU yU yU yE ?_ | fail)
  refine DD.lastMk (R := fun v E' S' => E' = _ ∧ ∃ S0, S' = S0 ++ [] ∧ (∃ b, v = .v (.map (some b)) ∧ MapW S0 b (zpd c)) ∧ ∀ b o, zab S0 b = some o → zab ([] : Sto) b = none) rfl rfl rfl yR (OpS.call (fs := []) (cs := []) (args := [c.val]) (S1 := []) (S2 := []) inferInstance rfl yH (hm _) (fun _ _ e => by cases e) (fun _ _ e => by cases e)) yR (fun u v h => ?_) yH yH yH yH yR yR ⟨by omega, by omega, by decide, by omega⟩ ?_
  · rw [delO_some, zgq] at h
    split at h
    · cases h
    · exact h
  · rintro v E' S' u ⟨rfl, S0, rfl, ⟨bm, rfl, hw⟩, -⟩ h1 -
    simp only [List.append_nil, zcj] at h1 ⊢
    rw [Int.toNat_natCast, zmg]
    repeat' (first | (with_reducible first | refine DS.fltS yU yU yX8 ?_ | refine DS.opsNil ?_) | (with_reducible refine DS.boxS yU yX8 yU (fun _ hfr => ?_); have hfr := zgh hfr; simp only [zeg, zfe, and_true] at hfr; simp only [zbk, zcd, zbi, zbu, zbf, zaz, zbp, zbb, zca, zcc, zbq, zcb, zbt, zbs]) | fail)
    rename_i bx hbx
    refine DS.retA yG ⟨bx, u, bm, rfl, ?_⟩
    simp only [zab] at hbx
    have nux : ¬ u = bx := fun e => by rw [if_pos e] at hbx; cases hbx
    rw [if_neg nux] at hbx
    have nxm : bx ≠ bm := fun e => by
      obtain ⟨_, _, _, m1, _⟩ := hw.out
      rw [e, m1] at hbx; cases hbx
    have num : u ≠ bm := fun e => by
      obtain ⟨_, _, _, m1, _⟩ := hw.out
      rw [e, m1] at h1; cases h1
    refine ⟨?_, hw.of ?_, ?_, fun i h => ?_, fun e => nux e.symm, fun i h b cap j e => ?_, fun i k hi hk b cap cap' j j' e => ?_⟩
    · simp [zab, pC]
    · simp only [zab]; rw [if_neg nxm, if_neg num]
    · simp only [zab]; rw [if_neg (fun e => nux e.symm), if_pos trivial, List.map_replicate]; rfl
    · rw [List.getElem_replicate]; rfl
    · rw [List.getElem_replicate] at e; cases e
    · rw [List.getElem_replicate] at e; cases e
theorem zue (a b : Int) : ∀ R : List Sitting, zms a b R ≤ (R.map fun s => s.tables.length).sum
  | [] => Nat.le_refl _
  | s :: r => by
    have h1 := zue a b r
    have h2 := zqn a b s.tables
    simp only [zms, List.map_cons, List.sum_cons]; omega
theorem meet_good {c : Club} (hs : c.Small) (h : zcx c = 0) : GoodW 20000000 (met0 c) (zpd c) := by
  refine ⟨fun a b hab => ?_, fun a b => ?_, zny c⟩
  · rw [zqo hs h, if_pos hab]; simp only [met0]; congr 1; exact propext (by omega)
  · rw [zqo hs h]
    split
    · have h1 := zue a b c.rounds
      have h2 := zvj (fun s : Sitting => s.tables.length) 1000000 c.rounds fun s h => (hs.round s h).tables
      have h3 := (zel h).2.2
      have h4 : c.rounds.length * 1000000 ≤ 20 * 1000000 := Nat.mul_le_mul_right _ h3
      simp only [metS]; omega
    · omega
theorem run_dc {bx bp bm : Nat} {size : Nat} {rs : List (List Int)} {budget : Int} (hsz : 3 ≤ size ∧ size ≤ 4) (hrl : rs.length ≤ 1000) (hr0 : 0 < rs.length) (hrs : ∀ ids ∈ rs, AscI ids) {S : Sto} {met : Int → Int → Bool} {w : W} {B : Int} {ps : List PRow} (n : Nat) (s : SearchP S bx bp bm size rs budget 0 w ps) (hps : ps.length = rs.length) (hg : GoodW B met w) (hB : B + n ≤ 1000000000000)
    (hn : mzS rs 0 (rs[0]'hr0).length < n) (hT : ∀ i (h : i < ps.length), ps[i].rows.length + n ≤ 10000) :
    DC Try.prog 57 [.v (.pointer (some ⟨bx, 0, none⟩))] S (zjv bx bp bm size rs budget w ps (srch size budget rs n met 0 (rs[0]'hr0) 0)) := by
  have hf := fill_ok (bx := bx) (bp := bp) (bm := bm) (budget := budget) hsz hrl hrs n S met w B 0 ps 0 (rs[0]'hr0) s hps hr0 hg hB (hrs _ (List.getElem_mem hr0)) hn hT
  have hx := s.obj
  clear s hg hrs hn hT
  refine DC.of_run Try.func57 rfl Try.ntmps57 Try.results57 (by simp) (fun _ => ?_); simp only [zan, zas, go_sem, Nat.zero_add, Nat.reduceAdd]
  repeat' (first | (with_reducible first | refine DS.fltS yU yU yX24 ?_ | refine DS.opsNil ?_ | refine DS.seq ?_ | refine DS.regionL ?_) | fail)
  refine DS.callA inferInstance hf yR yH (fun u S' hu => ?_)
  obtain ⟨rfl, hu⟩ := hu
  repeat' (first | (with_reducible first | refine DS.fltS yU yU yE ?_ | refine DS.opsNil ?_) | fail)
  refine DS.retA yG ⟨rfl, hu⟩
theorem nextP_pc (c : Club) (hs : c.Small) (hc : zss c) (hm : ∀ m ∈ c.members, In64 m.id) (ids : List Int) (hl : ids.length ≤ 1000000) : PC Try.prog 18 [c.val, ints ids] (tupV [rows (zjy c ids).1, I (zjy c ids).2]) := by
  have q1 := hs.rounds
  have q2 := hs.members
  rw [zjy]
  by_cases hc0 : zcx c = 0
  · obtain ⟨k1, k2, k3⟩ := zel hc0
    have g := zkh k1
    rw [if_neg (by omega)]
    refine DC.of_run Try.func18 rfl Try.ntmps18 Try.results18 (by simp) (fun _ => ?_); simp only [zan, zas, go_sem, Nat.zero_add, Nat.reduceAdd]
    repeat' (first | (with_reducible first | refine DS.fltS yU yU yE ?_ | refine DS.opsNil ?_ | refine DS.seq ?_ | refine DS.regionL ?_ | (refine DS.cE yE ?_; first | refine CG.p (fun _ => ?_) (fun _ => ?_) | refine CG.no ?_) | refine DS.blk ?_ | refine DS.block ?_ | refine DS.skip ?_) | refine DS.pcS inferInstance (zih c hs) yR yT ?_ | (refine DS.boxF (t := 2) yU yE yU ?_; simp only [zbk, zcd, zbi, zbu, zbf, zaz, zbp, zbb, zca, zcc, zbq, zcb, zbt, zbs]) | refine DS.retT [] yE trivial ?_ | fail)
    · rename_i e1
      rw [if_pos (by omega)]; rfl
    · rename_i e1 e2
      rw [if_neg (by omega), if_pos (by omega)]; rfl
    rename_i e1 e2
    rw [if_neg (by omega), if_neg (by omega)]
    refine DS.loopK [1, 2, 24, 25] (by (simp only [go_sem, Nat.reduceEqDiff, ↓reduceIte]; exact rfl)) (fun (j : Nat) => [(26, I j)]) (fun (j : Nat) => j ≤ ids.length ∧ zdk c c.rounds.length ids none = zdk c c.rounds.length (ids.drop j) (zjx ids j)) (fun (j : Nat) => ids.length - j) 0 yS (by simp [zjx]) (fun j B hI hB => ?_); try dsimp only at hI hB; simp only [zap, zau]
    repeat' (first | (with_reducible first | refine DS.fltS yU yU yE ?_ | refine DS.opsNil ?_ | refine DS.seq ?_ | refine DS.regionL ?_ | (refine DS.cE yE ?_; refine CG.p (fun _ => ?_) (fun _ => ?_)) | refine DS.block ?_ | refine DS.exit yU ?_ | refine DS.skip ?_) | (refine DS.bsl yU yE yE ?_; simp only [go_sem, Nat.zero_add, Nat.reduceAdd]) | refine DS.pcS inferInstance (zuw c _) yR yT ?_ | refine DS.drawL (id := 14) [0, 1, 2, 3, 4, 5, 6, 7] 8 (by kernel_rfl) zct (by simp only [zay, zbc, zbd, zbe, zax]; exact rfl) (by simp only [zav, zaw, List.drop_nil]; exact rfl) ?_ | with_reducible refine DD.fltS yU yU yU yE ?_ | refine DS.retT [] yE trivial ?_ | fail)
    · rename_i e3 e4
      obtain ⟨_, r, dr1, rfl, dr3⟩ := zcf (l := ids) (i := j) (by omega); rw [dr1] at hI
      have hid : zdk c c.rounds.length ids none = 7 := by rw [hI.2, zdk, if_pos e4]
      rw [hid, if_pos (by decide)]; rfl
    · rename_i e3 e4
      obtain ⟨m, hm, e5, -, e7⟩ := zfv e4
      have H := And.intro e5 e7
      simp only [e5]
      clear e5 e7 e4
      repeat' (first | (with_reducible first | refine DS.fltS yU yU yE ?_ | refine DS.opsNil ?_ | refine DS.seq ?_ | refine DS.regionL ?_ | (refine DS.cE yE ?_; first | refine CG.p (fun _ => ?_) (fun _ => ?_) | refine CG.no ?_ | refine CG.nb (fun _ => ?_) (fun _ => ?_)) | (refine DS.gE yU yE ?_; first | refine GG.pT (fun _ => ?_) (fun _ => ?_) | refine GG.run ?_ | refine GG.sF ?_) | refine DS.blk ?_ | refine DS.skip ?_) | refine DS.pcS inferInstance (zua _ _) yR yT ?_ | (with_reducible first | refine DD.fltS yU yU yU yE ?_ | refine DD.nil0 ?_) | refine DS.retT [] yE trivial ?_ | fail)
      all_goals obtain ⟨_, r, dr1, rfl, dr3⟩ := zcf (l := ids) (i := j) (by omega); rw [dr1] at hI
      · rename_i e9
        have hid : zdk c c.rounds.length ids none = 10 := by rw [hI.2, zdk, if_neg (by rw [H.1]; omega), if_pos (by rw [H.2]; exact e9)]
        rw [hid, if_pos (by decide)]; rfl
      · rename_i e9 e10 e11
        obtain ⟨e12, e13⟩ := zfx (t := ids) (k := j) (by omega) (by omega)
        have hid : zdk c c.rounds.length ids none = 11 := by rw [hI.2, zdk, if_neg (by rw [H.1]; omega), if_neg (by rw [H.2, e9]; decide), if_pos (by rw [e13]; simp only [zhc]; exact decide_eq_true e11)]
        rw [hid, if_pos (by decide)]; rfl
      · rename_i e9 e10 e11
        obtain ⟨e12, e13⟩ := zfx (t := ids) (k := j) (by omega) (by omega)
        exact DS.back (hB (j + 1) _ _ (by omega) (⟨by omega, by rw [hI.2, dr3, zdk, if_neg (by rw [H.1]; omega), if_neg (by rw [H.2, e9]; decide), if_neg (by rw [e13]; simp only [zhc]; simpa using e11), zfc (by omega)]⟩) yS yS (fun b o e => by first | exact e | (simp only [zaa]; split <;> simp_all)))
      · rename_i e9 e10
        have e13 : zhc (zjx ids j) ids[j] = false := by
          have : j = 0 := by omega
          subst this; rfl
        exact DS.back (hB (j + 1) _ _ (by omega) (⟨by omega, by rw [hI.2, dr3, zdk, if_neg (by rw [H.1]; omega), if_neg (by rw [H.2, e9]; decide), if_neg (by rw [e13]; decide), zfc (by omega)]⟩) yS yS (fun b o e => by first | exact e | (simp only [zaa]; split <;> simp_all)))
    all_goals (rename_i e3 e4; have hid : zdk c c.rounds.length ids none = 0 := by rw [hI.2, List.drop_eq_nil_of_le (by omega)]; rfl)
    · rw [hid, if_neg (by decide), if_pos (by omega)]; rfl
    rw [hid, if_neg (by decide), if_neg (by omega)]
    have hmem := zli hid
    have hasc : AscI ids := ⟨(zlj hid).1, fun a ha => by
      obtain ⟨i, hi, _, e6, _⟩ := zfv (hmem a ha)
      rw [← e6]; exact hm _ (List.getElem_mem hi), by omega⟩
    obtain ⟨z, hz⟩ : ∃ z : Nat, c.size = z := ⟨c.size.toNat, by omega⟩
    refine DS.callA inferInstance (beginP_dc c hs hc [ids] (-1) (by simp)) yR yG (fun u S' hu => ?_)
    obtain ⟨bx, bp, bm, rfl, s0⟩ := hu
    rw [hz] at s0
    repeat' (first | (with_reducible first | refine DS.fltS yU yU yE ?_ | refine DS.opsNil ?_ | refine DS.seq ?_ | refine DS.regionL ?_) | fail)
    have hgo := run_dc (size := z) (by omega) (rs := [ids]) (by simp) (by simp) (fun x hx => by rw [List.mem_singleton] at hx; subst hx; exact hasc) (zlk [ids]) s0 rfl (meet_good hs hc0) (by simp [zlk]; omega) (by simp [mzS, zlk]; omega) (fun i h => by simp [zlk]; omega)
    refine DS.callA inferInstance hgo yR (by simp (disch := omega) only [go_sem, dopV, Option.map_some, Option.map_none, Option.bind_some, Option.bind_none, ↓reduceIte, Nat.reduceEqDiff, Nat.reduceLT, Nat.reduceLeDiff, Nat.reduceAdd, Nat.reduceMul, Nat.reduceSub, Nat.zero_add, Nat.add_zero, Nat.zero_le, Nat.zero_mul, Nat.mul_one, Nat.one_mul, Int.natCast_zero, Int.toNat_zero, Int.reduceToNat, Int.reduceLT, Int.reduceLE, Int.reduceEq, decide_true, decide_false, true_and, and_true, Bool.and_self, Bool.and_true, Bool.true_and, Bool.not_true, Bool.not_false, IntWalk.toNatUp, IntWalk.iteOmega, IntWalk.i64_in, Option.isSome_some, not_true_eq_false, not_false_eq_true, Option.getD_some, Option.getD_none, Int.toNat_natCast, List.length_map, List.getElem?_map, List.getElem?_eq_getElem, V.flat, V.one, List.all_cons, List.all_nil]) (fun u S1 hu => ?_)
    obtain ⟨rfl, w1, ps1, s1, hp1, -, hp2⟩ := hu
    have hrun : srch z (-1) [ids] (zlk [ids]) (met0 c) 0 [ids][0] 0 = runS c [ids] (-1) := by
      rw [runS, hz]; rfl
    rw [hrun] at s1 hp2 ⊢
    have hlt : ∀ q ∈ (runS c [ids] (-1)).2.2, q.1 < 1 := zqe (rounds := [ids]) (zlk [ids]) (met0 c) 0 _ 0 (by simp)
    clear hrun hgo
    repeat' (first | (with_reducible first | refine DS.fltS yU yU yE ?_ | refine DS.opsNil ?_ | refine DS.seq ?_ | refine DS.regionL ?_ | (refine DS.cE yE ?_; refine CG.np (fun _ => ?_) (fun _ => ?_)) | refine DS.skip ?_) | fail)
    · rename_i e5
      rw [if_pos e5]
      refine DS.retT [] yG trivial rfl
    · rename_i e5
      rw [if_neg (by omega)]
      have hps : 0 < ps1.length := by rw [hp1]; simp
      have hrows := hp2 e5 0 (by simp) hps
      have hfil : (runS c [ids] (-1)).2.2.filter (fun q => decide (q.1 = 0)) = (runS c [ids] (-1)).2.2 := List.filter_eq_self.2 fun q hq => by have := hlt q hq; exact decide_eq_true (by omega)
      rw [hfil] at hrows
      simp only [List.length_cons, List.length_nil, List.replicate, List.getElem_cons_zero, List.nil_append] at hrows
      rw [← hrows]
      have hpl1 : ps1.length = 1 := by simpa using hp1
      obtain ⟨p, rfl⟩ := List.length_eq_one_iff.1 hpl1
      have hx := s1.obj
      have hpl := s1.pln
      have hr := s1.row 0 hps
      simp only [List.length_singleton, List.map_cons, List.map_nil, List.getElem_cons_zero] at hx hpl hr ⊢
      clear hp2 hp1 hrows hfil hlt s1 hpl1 s0
      obtain ⟨T, blk⟩ := p
      cases blk with
      | none =>
        simp only [PRow.Ok] at hr
        subst hr
        simp only [PRow.cell] at hpl
        repeat' (first | (with_reducible first | refine DS.fltS yU yU yX24 ?_ | refine DS.opsNil ?_) | fail)
        refine DS.retT [] yG trivial rfl
      | some z =>
        obtain ⟨b, cap, jk⟩ := z
        simp only [PRow.Ok] at hr
        obtain ⟨r1, r2, r3, r4⟩ := hr
        simp only [PRow.cell] at hpl
        repeat' (first | (with_reducible first | refine DS.fltS yU yU yX24 ?_ | refine DS.opsNil ?_) | fail)
        refine DS.freeze (t := 4) (sz := 1) yR r1 (by simp) ⟨by omega, r3⟩ ?_
        refine DS.retT [] yG trivial ?_
        rw [zhq]
        rfl
  · rw [if_pos hc0]
    refine DC.of_run Try.func18 rfl Try.ntmps18 Try.results18 (by simp) (fun _ => ?_); simp only [zan, zas, go_sem, Nat.zero_add, Nat.reduceAdd]
    repeat' (first | (with_reducible first | refine DS.fltS yU yU yE ?_ | refine DS.opsNil ?_ | refine DS.seq ?_ | refine DS.regionL ?_ | (refine DS.cE yE ?_; refine CG.yes ?_)) | refine DS.pcS inferInstance (zih c hs) yR yT ?_ | (refine DS.boxF (t := 2) yU yE yU ?_; simp only [zbk, zcd, zbi, zbu, zbf, zaz, zbp, zbb, zca, zcc, zbq, zcb, zbt, zbs]) | refine DS.retT [] yE trivial ?_ | fail)
    rfl
end Go.XL
namespace Go.XL
open Go.Proofs
set_option maxRecDepth 100000
set_option maxHeartbeats 8000000
theorem shown_next : zjy shownC [1, 2, 3, 4, 5, 6, 7, 8, 9] = ([[1, 4, 7], [2, 5, 8], [3, 6, 9]], 0) := by decide +kernel
theorem shown_met : metX shownC 1 2 = 1 := by decide +kernel
theorem shown_scores : zsy [120, 120, 60] [30, 0, -30] 100 true = [35, 35, -70] := by decide +kernel
theorem zni : shownC.Small := by
  refine ⟨by decide, by decide, by decide, fun s hs => ?_⟩
  obtain rfl := List.mem_singleton.1 hs
  exact ⟨by decide, by decide, by decide, by decide, by decide, by intro x hx; cases hx⟩
theorem zrf : zss shownC := by
  intro s hs t ht x hx
  obtain rfl := List.mem_singleton.1 hs
  have h : ∀ t ∈ [[1, 2, 3], [4, 5, 6], [7, 8, 9]], ∀ x ∈ t, (1 : Int) ≤ x ∧ x ≤ 9 := by decide
  have := h t ht x hx
  unfold In64; omega
theorem shown_ids : ∀ m ∈ shownC.members, In64 m.id := by
  intro m hm
  have h : ∀ m ∈ shownC.members, (1 : Int) ≤ m.id ∧ m.id ≤ 9 := by decide
  have := h m hm
  unfold In64; omega
theorem znb : PC Try.prog 13 [] (Bo true) := by
  have c1 := nextP_pc shownC zni zrf shown_ids [1, 2, 3, 4, 5, 6, 7, 8, 9] (by decide)
  rw [shown_next] at c1
  have c2 := metP_pc shownC zni zrf 1 2 (by unfold In64; omega) (by unfold In64; omega)
  rw [shown_met] at c2
  have c3 := SameTables_pc [[1, 4, 7], [2, 5, 8], [3, 6, 9]] [[1, 4, 7], [2, 5, 8], [3, 6, 9]]
  rw [decide_eq_true rfl] at c3
  have c4 := scores_pc [120, 120, 60] [30, 0, -30] 100 true (by decide) (by decide) (by unfold B40; decide) (by unfold B40; decide) (by unfold B40; decide)
  rw [shown_scores] at c4
  have c5 := zod [35, 35, -70] [35, 35, -70]
  rw [decide_eq_true rfl] at c5
  refine DC.of_run Try.func13 rfl Try.ntmps13 Try.results13 (by simp) (fun _ => ?_); simp only [zan, zas, go_sem, Nat.zero_add, Nat.reduceAdd]
  repeat' (first | (with_reducible first | refine DS.fltS yU yU yX8 ?_ | refine DS.opsNil ?_ | refine DS.seq ?_ | refine DS.regionL ?_ | (refine DS.gE yU yX8 ?_; refine GG.run ?_)) | (refine DS.bsl yU yX8 yX8 ?_; simp only [go_sem, Nat.zero_add, Nat.reduceAdd]) | refine DS.pcS inferInstance (shown_pc) yR yX32 ?_ | refine DS.pcS inferInstance (all_pc) yR yX32 ?_ | refine DS.pcS inferInstance (c1) yR yX32 ?_ | refine DS.pcS inferInstance (c2) yR yX32 ?_ | refine DS.pcS inferInstance (c3) yR yX32 ?_ | refine DS.pcS inferInstance (c4) yR yX32 ?_ | refine DS.pcS inferInstance (c5) yR yX32 ?_ | refine DS.retT [] yX8 trivial ?_ | fail)
  all_goals rfl
end Go.XL
namespace Go.XL
open Go.Proofs
set_option maxRecDepth 100000
set_option maxHeartbeats 8000000
def cP (l : List (List Int)) : List V := [rows l]
@[go_sem] theorem cP_eq (n : List (List Int)) : cP n = [rows n] := rfl
def PRow.froz : PRow → V
  | ⟨_, none⟩ => .v (.slice none 0 0)
  | ⟨rs, some _⟩ => XL.rows rs
end Go.XL
namespace Go.XL
set_option maxHeartbeats 4000000
end Go.XL
namespace Go.XL
set_option maxHeartbeats 4000000
def zwh (met : Int → Int → Bool) : List Int → Bool
  | [] => true
  | a :: r => (r.all fun b => !met a b) && zwh met r
def outD (o : Option (List (List Int))) (s : Int) (b : Nat) (r : Int × Int × List (Nat × List Int)) : Prop :=
  (match o with
    | some D => r.1 = 1 ∧ r.2.2 = D.map fun t => (0, t)
    | none => r.1 = 2) ∧ s ≤ r.2.1 ∧ r.2.1 ≤ s + b
theorem outD.mono {o : Option (List (List Int))} {s : Int} {b b' : Nat} {r : Int × Int × List (Nat × List Int)} (h : outD o s b r) (hb : b ≤ b') : outD o s b' r := ⟨h.1, h.2.1, by have := h.2.2; omega⟩
end Go.XL
namespace Go.XL
structure Comers (c : Club) (ids : List Int) (most : Nat) : Prop where
  sub : ids.Sublist (zch c c.rounds.length)
  mod : (ids.length : Int) % c.size = 0
  len : ids.length ≤ most
end Go.XL
namespace Go.XL
set_option maxHeartbeats 4000000
theorem ztl {budget : Int} {round : Nat} {Q : Int → Prop} {rec : List Int → Int → Int × Int × List (Nat × List Int)} (h : ∀ t s, ∀ q ∈ (rec t s).2.2, ∀ x ∈ q.2, Q x) : ∀ (l : List (List Int)) (s : Int), (∀ t ∈ l, ∀ x ∈ t, Q x) → ∀ q ∈ (tryL budget round rec l s).2.2, ∀ x ∈ q.2, Q x
  | [], s, _, q, hq => by simp [tryL] at hq
  | t :: r, s, hl, q, hq => by
    simp only [tryL] at hq
    split at hq
    · cases hq
    split at hq
    · exact ztl h r _ (fun t' ht => hl t' (List.mem_cons_of_mem _ ht)) q hq
    · rcases List.mem_cons.1 hq with rfl | hq
      · exact hl t (List.mem_cons_self ..)
      · exact h _ _ q hq
theorem zsg {st : List Int → Int → Bool} {Q : Int → Prop} {x : List Int} : ∀ (n : Nat) (t ids : List Int), (∀ a ∈ t, Q a) → (∀ a ∈ ids, Q a) → x ∈ zga st n t ids → ∀ a ∈ x, Q a
  | 0, t, ids, h1, _, h => by
    simp only [zga, List.mem_singleton] at h; subst h; exact h1
  | n + 1, t, ids, h1, h2, h => by
    rw [zga] at h
    induction ids with
    | nil => simp [zeo] at h
    | cons id r ih =>
      rw [zeo] at h
      rcases List.mem_append.1 h with h | h
      · split at h
        · refine zsg n _ _ (fun a ha => ?_) (fun a ha => h2 a (List.mem_cons_of_mem _ ha)) h
          rcases List.mem_append.1 ha with ha | ha
          · exact h1 a ha
          · obtain rfl := List.mem_singleton.1 ha
            exact h2 a (List.mem_cons_self ..)
        · cases h
      · exact ih (fun a ha => h2 a (List.mem_cons_of_mem _ ha)) h
theorem zqg {size : Nat} {budget : Int} {rounds : List (List Int)} {Q : Int → Prop} (hr : ∀ l ∈ rounds, ∀ x ∈ l, Q x) : ∀ (n : Nat) (met : Int → Int → Bool) (round : Nat) (ids : List Int) (s : Int), (∀ x ∈ ids, Q x) → ∀ q ∈ (srch size budget rounds n met round ids s).2.2, ∀ x ∈ q.2, Q x
  | 0, met, round, ids, s, _, q, hq => by simp [srch] at hq
  | n + 1, met, round, [], s, _, q, hq => by
    rw [srch] at hq
    split at hq
    · cases hq
    · refine zqg hr n met _ _ _ (fun x hx => ?_) q hq
      rw [List.getD_eq_getElem?_getD] at hx
      cases e : rounds[round + 1]? with
      | none => rw [e] at hx; cases hx
      | some l => rw [e] at hx; exact hr l (List.mem_of_getElem? e) x hx
  | n + 1, met, round, f :: fr, s, hi, q, hq => by
    rw [srch] at hq
    refine ztl (fun t s => zqg hr n _ _ _ _ fun x hx => hi x (List.mem_filter.1 hx).1) _ _ (fun t ht => ?_) q hq
    exact zsg _ _ _ (fun a ha => by obtain rfl := List.mem_singleton.1 ha; exact hi _ (List.mem_cons_self ..)) (fun a ha => hi a (List.mem_cons_of_mem _ ha)) ht
theorem nextS_all (c : Club) {Q : Int → Prop} (ids : List Int) (h : ∀ x ∈ ids, Q x) : ∀ t ∈ (zjy c ids).1, ∀ x ∈ t, Q x := by
  intro t ht
  unfold zjy at ht
  repeat' split at ht
  all_goals first | (cases ht; done) | skip
  obtain ⟨q, hq, rfl⟩ := List.mem_map.1 ht
  exact zqg (fun l hl => by obtain rfl := List.mem_singleton.1 hl; exact h) _ _ _ _ _ h q hq
theorem insS_all {Q : Int → Prop} {out : List Int} {n : Int} (h : ∀ x ∈ out, Q x) (hn : Q n) : ∀ x ∈ insS out n, Q x := by
  intro x hx
  rw [insS] at hx
  rcases List.mem_append.1 hx with hx | hx
  · exact h x (List.mem_of_mem_take hx)
  · rcases List.mem_cons.1 hx with rfl | hx
    · exact hn
    · exact h x (List.mem_of_mem_drop hx)
theorem zlm {Q : Int → Prop} : ∀ (l out : List Int), (∀ x ∈ out, Q x) → (∀ x ∈ l, Q x) → ∀ x ∈ l.foldl insS out, Q x
  | [], out, h, _ => h
  | a :: r, out, h, hl => zlm r _ (insS_all h (hl a (List.mem_cons_self ..))) fun x hx => hl x (List.mem_cons_of_mem _ hx)
theorem getD_all {Q : Int → Prop} (h0 : Q 0) {l : List Int} (h : ∀ x ∈ l, Q x) (i : Nat) : Q (l.getD i 0) := by
  rw [List.getD_eq_getElem?_getD]
  cases e : l[i]? with
  | none => exact h0
  | some x => exact h x (List.mem_of_getElem? e)
theorem zto {Q : Int → Prop} (h0 : Q 0) (size : Int) : ∀ (n : Nat) (x : Int) (t rest : List Int), (∀ a ∈ t, Q a) → (∀ a ∈ rest, Q a) → (∀ a ∈ (tabG size n x t rest).1, Q a) ∧ ∀ a ∈ (tabG size n x t rest).2.1, Q a
  | 0, x, t, rest, h1, h2 => ⟨h1, h2⟩
  | n + 1, x, t, rest, h1, h2 => by
    rw [tabG]
    split
    · refine zto h0 size n _ _ _ (fun a ha => ?_) (fun a ha => ?_)
      · rcases List.mem_append.1 ha with ha | ha
        · exact h1 a ha
        · obtain rfl := List.mem_singleton.1 ha
          exact getD_all h0 h2 _
      · rcases List.mem_append.1 ha with ha | ha
        · exact h2 a (List.mem_of_mem_take ha)
        · exact h2 a (List.mem_of_mem_drop ha)
    · exact ⟨h1, h2⟩
theorem znf {Q : Int → Prop} (h0 : Q 0) (size : Int) : ∀ (n : Nat) (x : Int) (rest : List Int) (out : List (List Int)), (∀ a ∈ rest, Q a) → (∀ t ∈ out, ∀ a ∈ t, Q a) → ∀ t ∈ (zlx size n x rest out).1, ∀ a ∈ t, Q a
  | 0, x, rest, out, h1, h2 => h2
  | n + 1, x, rest, out, h1, h2 => by
    simp only [zlx]
    split
    · have h3 := zto h0 size size.toNat x [rest.headD 0] (rest.drop 1) (fun a ha => by
        obtain rfl := List.mem_singleton.1 ha
        cases rest with
        | nil => exact h0
        | cons b r => exact h1 b (List.mem_cons_self ..)) (fun a ha => h1 a (List.mem_of_mem_drop ha))
      refine znf h0 size n _ _ _ h3.2 fun t ht => ?_
      rcases List.mem_append.1 ht with ht | ht
      · exact h2 t ht
      · obtain rfl := List.mem_singleton.1 ht
        exact zlm _ _ (fun x hx => by cases hx) h3.1
    · exact h2
theorem roundTabs_all {Q : Int → Prop} (h0 : Q 0) (c : Club) (x : Int) (h : ∀ m ∈ c.members, Q m.id) : ∀ t ∈ (zba c x).1, ∀ a ∈ t, Q a := by
  have h1 : ∀ a ∈ (zdg c x).1, Q a := fun a ha => by
    have h2 := (zgg c.size x (zch c c.rounds.length)).subset ha
    unfold zch at h2
    repeat' split at h2
    all_goals first | (cases h2; done) | skip
    obtain ⟨m, hm, rfl⟩ := List.mem_map.1 h2
    exact h m (List.mem_filter.1 hm).1
  unfold zba
  split
  · dsimp only
    split
    · exact nextS_all c _ h1
    · exact znf h0 c.size _ _ _ _ h1 (fun t ht => by cases ht)
  · exact znf h0 c.size _ _ _ _ h1 (fun t ht => by cases ht)
structure MadeQ (c : Club) (Q : Int → Prop) (L : Nat) (s : Sitting) : Prop where
  made : MadeR c.size L s
  ids : ∀ t ∈ s.tables, ∀ a ∈ t, Q a
theorem zmk {Q : Int → Prop} (h0 : Q 0) (c : Club) (L : Nat) (hs : 1 ≤ c.size) (hL : c.members.length + 2 ≤ L) (hm : ∀ m ∈ c.members, Q m.id) : ∀ (k : Nat) (x : Int) (R : List Sitting), (∀ s ∈ R, MadeQ c Q L s) →
    (∀ s ∈ (zeb c k x R).1, MadeQ c Q L s) ∧ (zeb c k x R).1.length = R.length + k
  | 0, x, R, h => ⟨h, rfl⟩
  | k + 1, x, R, h => by
    rw [zeb]
    have h1 := znk c x R L hs hL fun s hs => (h s hs).made
    have h2 := zmk h0 c L hs hL hm k (zin c x R).2 (R ++ [⟨(zba (zdd c R) x).1, (zcp (zdd c R) x).1, (zin c x R).1⟩]) fun s hs => by
      rcases List.mem_append.1 hs with hs | hs
      · exact h s hs
      · obtain rfl := List.mem_singleton.1 hs
        exact ⟨h1, roundTabs_all h0 (zdd c R) x hm⟩
    exact ⟨h2.1, by rw [h2.2, List.length_append, List.length_singleton]; omega⟩
theorem zle : ∀ (k : Nat) (id x : Int) (out : List Member), (0 ≤ id ∧ ∀ m ∈ out, 0 ≤ m.id ∧ m.id ≤ id) → (zco k id x out).1.length = out.length + k ∧ ∀ m ∈ (zco k id x out).1, 0 ≤ m.id ∧ m.id ≤ id + 3 * k
  | 0, id, x, out, h => ⟨rfl, fun m hm => by have := h.2 m hm; omega⟩
  | k + 1, id, x, out, h => by
    rw [zco]
    have h1 := zcn x (3 - 1 + 1)
    have h2 : 1 ≤ zcq x 1 3 ∧ zcq x 1 3 ≤ 3 := by unfold zcq; omega
    have h3 := zle k (id + zcq x 1 3) (zpa (zmu (zaj x)).2).2 (out ++ [⟨id + zcq x 1 3, (zmu (zaj x)).1, (zpa (zmu (zaj x)).2).1.1, (zpa (zmu (zaj x)).2).1.2⟩]) ⟨by omega, fun m hm => by
      rcases List.mem_append.1 hm with hm | hm
      · have := h.2 m hm; omega
      · obtain rfl := List.mem_singleton.1 hm
        dsimp only; omega⟩
    refine ⟨by rw [h3.1, List.length_append, List.length_singleton]; omega, fun m hm => ?_⟩
    have := h3.2 m hm
    omega
structure MClub (c : Club) : Prop where
  size : c.size = 3 ∨ c.size = 4
  mem : c.members.length ≤ 13
  id : ∀ m ∈ c.members, 0 ≤ m.id ∧ m.id ≤ 39
  rounds : c.rounds.length ≤ 3
  round : ∀ s ∈ c.rounds, MadeQ c (fun n => 0 ≤ n ∧ n ≤ 39) 15 s
  places : (c.places.length : Int) = c.size
theorem zts (x : Int) : zhy x = 3 ∨ zhy x = 4 := by unfold zhy; split <;> simp
theorem placesS_len (x : Int) : ((zex x).1.length : Int) = zhy x := by
  rcases zts x with h | h <;> (rw [zex, h]; rfl)
theorem clubOf_m (x : Int) : MClub (zek x 3).1 := by
  have h1 := zts x
  have h2 := zcn (zex x).2 (3 - 1 + 1)
  have h3 := zcn (zaj (zex x).2) 2
  have h4 : 1 ≤ zcq (zex x).2 1 3 ∧ zcq (zex x).2 1 3 ≤ 3 := by unfold zcq; omega
  have h5 : 0 ≤ zhy x * zcq (zex x).2 1 3 ∧ zhy x * zcq (zex x).2 1 3 ≤ 12 := by
    rcases h1 with h | h <;> rw [h] <;> omega
  have h6 := zle (zhy x * zcq (zex x).2 1 3 + zam (zaj (zex x).2) 2).toNat 0 (zaj (zaj (zex x).2)) [] ⟨Int.le_refl _, fun m hm => by cases hm⟩
  have h7 : (zgb x).1.length ≤ 13 := by rw [zgb, h6.1]; simp only [List.length_nil]; omega
  have h8 : ∀ m ∈ (zgb x).1, 0 ≤ m.id ∧ m.id ≤ 39 := fun m hm => by have := h6.2 m hm; omega
  have h9 := zcn (zgb x).2 (3 + 1)
  have h10 := zmk (Q := fun n => 0 ≤ n ∧ n ≤ 39) (by omega) (zwy x) 15 (by show 1 ≤ zhy x; omega) (by show (zgb x).1.length + 2 ≤ 15; omega) h8 (zam (zgb x).2 (3 + 1)).toNat (zaj (zgb x).2) [] (fun s hs => by cases hs)
  refine ⟨h1, h7, h8, ?_, fun s hs => ⟨(h10.1 s hs).made, (h10.1 s hs).ids⟩, placesS_len x⟩
  show (zeb (zwy x) (zam (zgb x).2 (3 + 1)).toNat (zaj (zgb x).2) []).1.length ≤ 3
  rw [h10.2]; simp only [List.length_nil]; omega
theorem MClub.small {c : Club} (h : MClub c) : c.Small where
  places := by have := h.places; have := h.size; omega
  members := Nat.le_trans h.mem (by omega)
  rounds := Nat.le_trans h.rounds (by omega)
  round := fun s hs => (h.round s hs).made.small (by have := h.size; omega) (by omega)
theorem MClub.tab {c : Club} (h : MClub c) : zss c := by
  intro s hs t ht x hx
  have := (h.round s hs).ids t ht x hx
  unfold In64; omega
theorem MClub.in64 {c : Club} (h : MClub c) : ∀ m ∈ c.members, In64 m.id := fun m hm => by
  have := h.id m hm
  unfold In64; omega
end Go.XL
namespace Go.XL
open Go.Proofs
set_option maxRecDepth 100000
set_option maxHeartbeats 8000000
abbrev mC (c : Club) : List V := [I c.size, I c.start, I c.absent, I c.window, ints c.places, Bo c.share, .lst (c.members.map Member.cells), .lst (c.rounds.map Sitting.cells)]
end Go.XL
namespace Go.XL
open Go.Proofs
set_option maxRecDepth 100000
set_option maxHeartbeats 8000000
theorem zvy (n m : Int) (hn : In64 n) (hm : 1 ≤ m ∧ m ≤ 1000000) : PC Try.prog 32 [I n, I m] (I (n % m)) := by
  have h1 := Int.emod_nonneg n (show m ≠ 0 by omega)
  have h2 := Int.emod_lt_of_pos n (show 0 < m by omega)
  have h3 : n.tmod m < m := Int.tmod_lt_of_pos n (show 0 < m by omega)
  have h4 : -m < n.tmod m := Int.lt_tmod_of_pos n (show 0 < m by omega)
  have h5 : n % m = n.tmod m ∨ n % m = n.tmod m + m := by
    rw [Int.tmod_eq_emod]
    split <;> omega
  refine DC.of_run Try.func32 rfl Try.ntmps32 Try.results32 (by simp) (fun _ => ?_); simp only [zan, zas, go_sem, Nat.zero_add, Nat.reduceAdd]
  repeat' (first | (with_reducible first | refine DS.fltS yU yU yE ?_ | refine DS.opsNil ?_ | refine DS.seq ?_ | refine DS.regionL ?_ | (refine DS.cE yE ?_; refine CG.p (fun _ => ?_) (fun _ => ?_)) | refine DS.skip ?_) | refine DS.retT [] yE trivial ?_ | fail)
  · have h6 : n.tmod m + m = n % m := by omega
    rw [h6]; rfl
  · have h6 : n.tmod m = n % m := by omega
    rw [h6]; rfl
end Go.XL
namespace Go.XL
section
variable {P : Program} {ops : Array Oper} {Rd : Heap → Prop} {W : World}
def zol (ops : Array Oper) (pre ord : List Nat) (m : Nat) : Bool :=
  decide (m ≤ ops.size ∧ ord.length + pre.length ≤ m) && zvn ops (zcm ops.toList []) pre ord && ord.all (fun i => decide (i < m) && !pre.contains i) && (List.range m).all (fun i => ord.contains i || pre.contains i) && pre.all (fun i => decide (i < m)) &&
    ((List.range ops.size).all fun i => decide (i < m) || (match ops[i]? with
      | some oi => zpc (zcm ops.toList []) i oi && (zep oi).all (fun j => decide (j < i)) && (List.range i).all fun j => pre.contains j || ((zcm ops.toList []).getD i []).contains j
      | none => false)) &&
    pre.all fun p => match ops[p]? with
      | some o => zpc (zcm ops.toList []) p o && (zep o).isEmpty && (List.range ops.size).all fun j => match ops[j]? with
          | some oj => decide (j = p) || (zep oj).contains p || (zlc oj && o.apart ops oj)
          | none => false
      | none => false
structure OkFactsP (ops : Array Oper) (pre ord : List Nat) (m : Nat) : Prop where
  size : m ≤ ops.size
  len : ord.length + pre.length ≤ m
  mem : ∀ i, i ∈ ord ↔ i < m ∧ i ∉ pre
  prelt : ∀ p ∈ pre, p < m
  all : ∀ i oi, ops[i]? = some oi → zlc oi = true ∧
      (∀ j ∈ (zcm ops.toList []).getD i [], j ∈ zep oi ∨ ∃ m ∈ zep oi, j ∈ (zcm ops.toList []).getD m [])
  ord : ∀ A i B oi, ord = A ++ i :: B → ops[i]? = some oi → (∀ j ∈ zep oi, j ∈ pre ++ A) ∧ i ∉ A ∧
      ∀ j ∈ A, ∀ oj, ops[j]? = some oj → j ∈ (zcm ops.toList []).getD i [] ∨ (oj.apart ops oi = true ∧ (zdj oj = false ∨ zdj oi = false ∨ zfq oi.op = true))
  later : ∀ i oi, ops[i]? = some oi → m ≤ i → ∀ j ∈ zep oi, j < i
  tail : ∀ i, i < ops.size → m ≤ i → ∀ j, j < i → j ∉ pre → j ∈ (zcm ops.toList []).getD i []
  pre0 : ∀ p ∈ pre, ∃ o, ops[p]? = some o ∧ zep o = [] ∧ ∀ j oj, ops[j]? = some oj → j ≠ p → p ∈ zep oj ∨ o.apart ops oj = true
theorem okFactsP {pre ord : List Nat} {m : Nat} (hok : zol ops pre ord m = true) : OkFactsP ops pre ord m := by
  unfold zol at hok
  simp only [Bool.and_eq_true, decide_eq_true_eq] at hok
  obtain ⟨⟨⟨⟨⟨⟨hm, ho⟩, ha⟩, hb⟩, hpl⟩, ht⟩, hp0⟩ := hok
  have hpl' : ∀ p ∈ pre, p < m := fun p hp => by simpa using List.all_eq_true.1 hpl p hp
  have hmem : ∀ i, i ∈ ord ↔ i < m ∧ i ∉ pre := fun i => ⟨fun h => by simpa using List.all_eq_true.1 ha i h, fun h => by
    have h1 := List.all_eq_true.1 hb i (List.mem_range.2 h.1)
    simp only [Bool.or_eq_true, List.contains_iff_mem] at h1
    rcases h1 with h1 | h1
    · exact h1
    · exact (h.2 h1).elim⟩
  rw [List.all_eq_true] at ht hp0
  have hl : ∀ i oi, ops[i]? = some oi → m ≤ i → zpc (zcm ops.toList []) i oi = true ∧ (∀ j ∈ zep oi, j < i) ∧ ∀ j, j < i → j ∉ pre → j ∈ (zcm ops.toList []).getD i [] := fun i oi hoi hi => by
    have := ht i (List.mem_range.2 (Array.getElem?_eq_some_iff.1 hoi).1)
    simp only [hoi, Bool.or_eq_true, decide_eq_true_eq, Bool.and_eq_true, List.all_eq_true, List.contains_iff_mem, List.mem_range] at this
    rcases this with h | h
    · omega
    · exact ⟨h.1.1, h.1.2, fun j hj hjp => (h.2 j hj).resolve_left hjp⟩
  have hp : ∀ p ∈ pre, ∃ o, ops[p]? = some o ∧ zpc (zcm ops.toList []) p o = true ∧ zep o = [] ∧ ∀ j oj, ops[j]? = some oj → j ≠ p → p ∈ zep oj ∨ o.apart ops oj = true := fun p hp => by
    have h1 := hp0 p hp
    split at h1
    · rename_i o ho
      simp only [Bool.and_eq_true, List.isEmpty_iff, List.all_eq_true] at h1
      refine ⟨o, ho, h1.1.1, h1.1.2, fun j oj hoj hj => ?_⟩
      have h2 := h1.2 j (List.mem_range.2 (Array.getElem?_eq_some_iff.1 hoj).1)
      rw [hoj] at h2
      simp only [Bool.or_eq_true, decide_eq_true_eq, List.contains_iff_mem, Bool.and_eq_true] at h2
      rcases h2 with (h2 | h2) | h2
      · exact (hj h2).elim
      · exact .inl h2
      · exact .inr h2.2
    · cases h1
  refine ⟨hm.1, hm.2, hmem, hpl', fun i oi hoi => ?_, fun A i B oi e hoi => ?_, fun i oi hoi hi => (hl i oi hoi hi).2.1, fun i hi hmi => (hl i _ (Array.getElem?_eq_getElem hi) hmi).2.2, fun p h => let ⟨o, a, _, b⟩ := hp p h; ⟨o, a, b⟩⟩
  · rcases Nat.lt_or_ge i m with h | h
    · by_cases hip : i ∈ pre
      · obtain ⟨o, h1, h2, -⟩ := hp i hip
        rw [hoi] at h1; cases h1
        exact zhk h2
      · obtain ⟨A, B, e⟩ := List.append_of_mem ((hmem i).2 ⟨h, hip⟩)
        obtain ⟨oi', h1, h2, _⟩ := zhj ho A i B e
        rw [hoi] at h1; cases h1
        exact zhk h2
    · exact zhk (hl i oi hoi h).1
  · obtain ⟨oi', h1, _, h3, h4, h5⟩ := zhj ho A i B e
    rw [hoi] at h1; cases h1
    refine ⟨h3, fun h => h4 (List.mem_append_right _ h), fun j hj oj hoj => ?_⟩
    have := h5 j (List.mem_append_right _ hj) oj hoj
    simp only [zub, Bool.or_eq_true, Bool.and_eq_true, List.contains_iff_mem, Bool.not_eq_eq_eq_not, Bool.not_true] at this
    rcases this with q | ⟨q1, (q2 | q2) | q2⟩
    · exact .inl q
    · exact .inr ⟨q1, .inl q2⟩
    · exact .inr ⟨q1, .inr (.inl q2)⟩
    · exact .inr ⟨q1, .inr (.inr q2)⟩
theorem rem_setP {pre ord : List Nat} {m : Nat} (ok : OkFactsP ops pre ord m) {listed : Array Bool} {i : Nat} {R1 R2 : List Nat} (hi : i < listed.size) {o : Oper} (ho : ops[i]? = some o) (h : rem ord listed = R1 ++ i :: R2) : rem ord (listed.setIfInBounds i true) = R1 ++ R2 := by
  obtain ⟨A, B, e, h1, h2⟩ := zhi h
  have hA : i ∉ A := (ok.ord A i B o e ho).2.1
  have hB : i ∉ B := fun hb => by
    obtain ⟨B1, B2, rfl⟩ := List.append_of_mem hb
    exact (ok.ord (A ++ i :: B1) i B2 o (by simp [e]) ho).2.1 (by simp)
  have hs : rem [i] (listed.setIfInBounds i true) = [] := by unfold rem; simp [hi]
  have : ord = A ++ ([i] ++ B) := by simp [e]
  rw [this]
  have app : ∀ (l1 l2 : List Nat) (q : Array Bool), rem (l1 ++ l2) q = rem l1 q ++ rem l2 q := fun l1 l2 q => List.filter_append ..
  rw [app, app, hs, zqk hA, zqk hB, h1, h2, List.nil_append]
theorem zia {pre ord : List Nat} {m : Nat} (ok : OkFactsP ops pre ord m) {listed : Array Bool} (hcl : ziq (zcm ops.toList []) listed) {i : Nat} (hi : i ∈ Region.ready .any ops listed) :
    ∀ j ∈ (zcm ops.toList []).getD i [], listed.getD j false = true := by
  obtain ⟨hun, o, ho, hall⟩ := mem_ready.1 hi
  obtain ⟨k1, k3⟩ := ok.all i o ho
  intro j hj
  have pl : ∀ m ∈ zep o, listed.getD m false = true := by
    intro m hm'
    obtain ⟨e, he, rfl⟩ := List.mem_map.1 hm'
    obtain ⟨he1, he2⟩ := List.mem_filter.1 he
    exact hall e (by simpa using he1) he2
  rcases k3 j hj with h' | ⟨m, hm', hjm⟩
  · exact pl j h'
  · exact hcl m (pl m hm') j hjm
theorem zon {pre ord : List Nat} {m : Nat} (ok : OkFactsP ops pre ord m) {listed : Array Bool} (hcl : ziq (zcm ops.toList []) listed) {i : Nat} (hi : i ∈ Region.ready .any ops listed) :
    ziq (zcm ops.toList []) (listed.setIfInBounds i true) := by
  intro m hm' j hj
  by_cases hmi : i = m
  · subst hmi; exact getD_set_true (zia ok hcl hi j hj)
  · rw [getD_set_ne false hmi] at hm'; exact getD_set_true (hcl m hm' j hj)
theorem znd {rr : Option Nat} {pre ord : List Nat} {m : Nat} (ok : OkFactsP ops pre ord m) {Q' : Exit → Act → World → Prop} : ∀ (fuel k : Nat) (listed : Array Bool) (a : Act) (w : World), ops.size - k ≤ fuel → m ≤ k → k ≤ ops.size → listed.size = ops.size →
    (∀ j, j < k → listed.getD j false = true) → (∀ j, k ≤ j → j < ops.size → listed.getD j true = false) → ziq (zcm ops.toList []) listed →
    wpL rr P ops Q' (ops.toList.drop k) a w → wpAnyIn (FW rr) 0 P .any ops Q' fuel listed a w := by
  intro fuel
  have ready_lt : ∀ (k : Nat) (listed : Array Bool), m ≤ k → listed.size = ops.size → (∀ j, j < k → listed.getD j false = true) → (∀ j, k ≤ j → j < ops.size → listed.getD j true = false) → ziq (zcm ops.toList []) listed →
      ∀ i ∈ Region.ready .any ops listed, i = k := by
    intro k listed hmk hsz hlo hhi hcl i hi
    obtain ⟨hun, o, ho, hall⟩ := mem_ready.1 hi
    have hlt := (Array.getElem?_eq_some_iff.1 ho).1
    rcases Nat.lt_trichotomy i k with h | h | h
    · have h1 := hlo i h
      have := zem (by omega) hun h1
      cases this
    · exact h
    · have hin := ok.tail i hlt (by omega) k h (fun hp => by have := ok.prelt _ hp; omega)
      have h1 := zia ok hcl hi k hin
      have h2 := hhi k (Nat.le_refl _) (by omega)
      have := zem (by omega) h2 h1
      cases this
  have ready_k : ∀ (k : Nat) (listed : Array Bool), m ≤ k → k < ops.size → (∀ j, j < k → listed.getD j false = true) → (∀ j, k ≤ j → j < ops.size → listed.getD j true = false) → k ∈ Region.ready .any ops listed := by
    intro k listed hmk hk hlo hhi
    have hoi : ops[k]? = some ops[k] := Array.getElem?_eq_getElem hk
    rw [mem_ready]
    refine ⟨hhi k (Nat.le_refl _) hk, _, hoi, fun e he hb => ?_⟩
    have hp : e.on ∈ zep ops[k] := List.mem_map.2 ⟨e, List.mem_filter.2 ⟨by simpa using he, hb⟩, rfl⟩
    exact hlo _ (ok.later k _ hoi hmk _ hp)
  induction fuel with
  | zero =>
    intro k listed a w hf hmk hk hsz hlo hhi hcl h
    have hk' : k = ops.size := by omega
    refine ⟨?_, ?_⟩
    · cases hr : Region.ready .any ops listed with
      | nil => rfl
      | cons j r =>
        have hj : j ∈ Region.ready .any ops listed := by rw [hr]; exact List.mem_cons_self ..
        obtain ⟨_, o, ho, _⟩ := mem_ready.1 hj
        have := (Array.getElem?_eq_some_iff.1 ho).1
        have := ready_lt k listed hmk hsz hlo hhi hcl j hj
        omega
    · rw [List.drop_eq_nil_of_le (by simp; omega)] at h; exact h
  | succ fuel ih =>
    intro k listed a w hf hmk hk hsz hlo hhi hcl h
    refine ⟨fun hr => ?_, fun i hi => ?_⟩
    · rcases Nat.lt_or_ge k ops.size with hlt | hge
      · have := ready_k k listed hmk hlt hlo hhi
        rw [hr] at this; cases this
      · rw [List.drop_eq_nil_of_le (by simpa using hge)] at h; exact h
    · have hik := ready_lt k listed hmk hsz hlo hhi hcl i hi
      subst hik
      obtain ⟨hun, o, ho, hall⟩ := mem_ready.1 hi
      have hlt := (Array.getElem?_eq_some_iff.1 ho).1
      have hd : ops.toList.drop i = o :: ops.toList.drop (i + 1) := by
        rw [List.drop_eq_getElem_cons (by simpa using hlt)]
        congr 1
        have := (Array.getElem?_eq_some_iff.1 ho).2
        simpa using this
      rw [hd] at h
      have next : ∀ a' w', wpL rr P ops Q' (ops.toList.drop (i + 1)) a' w' → wpAnyIn (FW rr) 0 P .any ops Q' fuel (listed.setIfInBounds i true) a' w' := fun a' w' h' =>
        ih (i + 1) _ a' w' (by omega) (by omega) (by omega) (by simpa using hsz)
          (fun j hj => by
            by_cases hij : i = j
            · subst hij; simp [show i < listed.size by omega]
            · exact getD_set_true (hlo j (by omega)))
          (fun j hj hj2 => by rw [getD_set_ne true (by omega)]; exact hhi j (by omega) hj2) (zon ok hcl hi) h'
      unfold wpOpIn
      simp only [ho]
      unfold wpL at h
      split
      · rename_i hw
        rw [if_pos hw] at h
        exact Oper.wpIn_mono next h
      · rename_i hw
        rw [if_neg hw] at h
        exact ⟨fun _ _ => trivial, next _ _ h⟩
theorem wpAny_of_SWP {rr : Option Nat} {pre ord : List Nat} {m : Nat} {K : Act → SP → Prop} {Q' : Exit → Act → World → Prop} (ok : OkFactsP ops pre ord m)
    (hK : ∀ a S w, K a S → Live Rd W S → S noF w.heap → Same W w → wpL rr P ops Q' (ops.toList.drop m) a w) : ∀ (fuel : Nat) (listed : Array Bool) (a : Act) (w : World) (S : SP),
    (rem ord listed).length + (ops.size - m) ≤ fuel → listed.size = ops.size → (∀ p ∈ pre, listed.getD p false = true) → (∀ j, m ≤ j → j < ops.size → listed.getD j true = false) → ziq (zcm ops.toList []) listed → Live Rd W S → S noF w.heap → Same W w →
    SW P ops Rd W K ((rem ord listed).filterMap (ops[·]?)) S a → wpAnyIn (FW rr) 0 P .any ops Q' fuel listed a w := by
  have selOf : ∀ o : Oper, zlc o = true → ∀ cs b, o.op ≠ .select cs b := by
    intro o h cs b e
    unfold zlc at h
    rw [e] at h
    simp at h
  have defOf : ∀ o : Oper, zlc o = true → zqm o = true := fun o h => by
    unfold zlc at h
    rw [Bool.and_eq_true] at h
    exact h.2
  have done : ∀ (listed : Array Bool), listed.size = ops.size → (∀ p ∈ pre, listed.getD p false = true) → rem ord listed = [] → ∀ j, j < m → listed.getD j false = true := by
    intro listed hsz hpre hrem j hj
    by_cases hjp : j ∈ pre
    · exact hpre j hjp
    have : j ∉ rem ord listed := by rw [hrem]; exact List.not_mem_nil
    rw [rem_mem] at this
    have hjs : j < listed.size := by have := ok.size; omega
    cases hv : listed[j] with
    | true => simp [hjs, hv]
    | false => exact absurd ⟨(ok.mem j).2 ⟨hj, hjp⟩, by simp [hjs, hv]⟩ this
  intro fuel
  induction fuel with
  | zero =>
    intro listed a w S hlen hsz hpre hun hcl hl hS hw h
    have hrem : rem ord listed = [] := List.eq_nil_of_length_eq_zero (by omega)
    rw [hrem] at h
    exact znd ok 0 m listed a w (by omega) (Nat.le_refl _) ok.size hsz (done listed hsz hpre hrem) hun hcl (hK _ _ _ h hl hS hw)
  | succ fuel ih =>
    intro listed a w S hlen hsz hpre hun hcl hl hS hw h
    by_cases hrem : rem ord listed = []
    · rw [hrem] at h
      exact znd ok (fuel + 1) m listed a w (by rw [hrem] at hlen; simpa using hlen) (Nat.le_refl _) ok.size hsz (done listed hsz hpre hrem) hun hcl (hK _ _ _ h hl hS hw)
    · obtain ⟨i0, r0, hr0⟩ := List.exists_cons_of_ne_nil hrem
      have hi0 : i0 ∈ rem ord listed := by rw [hr0]; exact List.mem_cons_self ..
      obtain ⟨hin0, hun0⟩ := rem_mem.1 hi0
      obtain ⟨hlt0, hnp0⟩ := (ok.mem i0).1 hin0
      refine ⟨fun hr => ?_, fun i hi => ?_⟩
      · exfalso
        have hi0s : i0 < ops.size := by have := ok.size; omega
        have hoi : ops[i0]? = some ops[i0] := Array.getElem?_eq_getElem hi0s
        obtain ⟨A, B, eo, hA, _⟩ := zhi (R1 := []) (R2 := r0) (by rw [hr0]; rfl)
        have : i0 ∈ Region.ready .any ops listed := by
          rw [mem_ready]
          refine ⟨hun0, _, hoi, fun e he hb => ?_⟩
          have hp : e.on ∈ zep ops[i0] := List.mem_map.2 ⟨e, List.mem_filter.2 ⟨by simpa using he, hb⟩, rfl⟩
          rcases List.mem_append.1 ((ok.ord A i0 B _ eo hoi).1 _ hp) with hinP | hinA
          · exact hpre _ hinP
          have hltm : e.on < m := ((ok.mem _).1 (by rw [eo]; exact List.mem_append_left _ hinA)).1
          have hnot : e.on ∉ rem A listed := by rw [hA]; exact List.not_mem_nil
          rw [rem_mem] at hnot
          have hsz' : e.on < listed.size := by have := ok.size; omega
          cases hv : listed[e.on] with
          | true => simp [hsz', hv]
          | false => exact absurd ⟨hinA, by simp [hsz', hv]⟩ hnot
        rw [hr] at this
        cases this
      · obtain ⟨hun1, o, ho, hall⟩ := mem_ready.1 hi
        have hlt := (Array.getElem?_eq_some_iff.1 ho).1
        have hcli := zia ok hcl hi
        have him : i < m := by
          rcases Nat.lt_or_ge i m with h' | h'
          · exact h'
          · exfalso
            have h1 := hcli i0 (ok.tail i hlt h' i0 (by omega) hnp0)
            have := zem (by have := ok.size; omega) hun0 h1
            cases this
        have hip : i ∉ pre := fun hp => by
          have := zem (by omega) hun1 (hpre i hp)
          cases this
        have hin : i ∈ rem ord listed := rem_mem.2 ⟨(ok.mem i).2 ⟨him, hip⟩, hun1⟩
        obtain ⟨R1, R2, hR⟩ := List.append_of_mem hin
        obtain ⟨k1, k3⟩ := ok.all i o ho
        have hset := rem_setP ok (by omega) ho hR
        have hcl' := zon ok hcl hi
        obtain ⟨A, B, eo, hA, _⟩ := zhi hR
        obtain ⟨_, _, k4⟩ := ok.ord A i B o eo ho
        rw [hR, List.filterMap_append, List.filterMap_cons, ho] at h
        simp only at h
        have hf := SW.take (selOf o k1) (R1.filterMap (ops[·]?)) S a (fun x hx => by
          obtain ⟨j, hj, hxj⟩ := List.mem_filterMap.1 hx
          rw [← hA] at hj
          obtain ⟨hjA, hjun⟩ := rem_mem.1 hj
          have hjs : j < listed.size := by rw [hsz]; exact (Array.getElem?_eq_some_iff.1 hxj).1
          refine ⟨?_, selOf x (ok.all j x hxj).1, ?_⟩
          all_goals
            rcases k4 j hjA x hxj with h' | h'
            · have h2 := hcli j h'
              have := zem hjs hjun h2
              cases this
            · first | exact h'.1 | exact h'.2) hl h
        rw [← List.filterMap_append, ← hset] at hf
        have hlen' : (rem ord (listed.setIfInBounds i true)).length + (ops.size - m) ≤ fuel := by
          rw [hset]; rw [hR] at hlen; simp at hlen ⊢; omega
        have hun' : ∀ j, m ≤ j → j < ops.size → (listed.setIfInBounds i true).getD j true = false := fun j hj hj2 => by rw [getD_set_ne true (by omega)]; exact hun j hj hj2
        have hpre' : ∀ p ∈ pre, (listed.setIfInBounds i true).getD p false = true := fun p hp => getD_set_true (hpre p hp)
        unfold wpOpIn
        simp only [ho]
        unfold Front at hf
        split
        · rename_i hwant
          rw [if_pos hwant] at hf
          split at hf
          · obtain ⟨val, T, s1, s3⟩ := hf
            have g := s1.good hl.2
            unfold Spec at s1
            split at s1
            · obtain ⟨ob, vb, b1, b2, rfl, rfl⟩ := s1
              have hw' : Same W { w with heap := w.heap.push ob } := hw.trans ⟨rfl, rfl, rfl⟩
              have hb : zgt S w.heap.size ob noF (w.heap.push ob) := ⟨hl.2.push _ _ ob hS, fun x => x, by simp⟩
              refine ⟨fun _ _ => trivial, ?_⟩
              rw [Oper.semAt_eq _ _ _ (zfd (defOf o k1)), b2 w]
              exact ih _ _ _ (zgt S w.heap.size ob) hlen' (by simpa using hsz) hpre' hun' hcl' ⟨⟨_, hw', hb⟩, g w.heap.size undef⟩ hb hw' (s3 w.heap.size undef ⟨_, hw', hb⟩)
            · obtain ⟨rfl, T', rfl, g1, g2⟩ := s1
              refine (g2 w noF hS hw).wpIn (defOf o k1) fun v w' ⟨hs, hv, _⟩ => ?_
              exact ih _ _ _ (T' v) hlen' (by simpa using hsz) hpre' hun' hcl' ⟨⟨w', hw.trans hs, hv⟩, g1 v⟩ hv (hw.trans hs) (s3 0 v ⟨w', hw.trans hs, hv⟩)
          · obtain ⟨v, q1, q2⟩ := hf
            refine ⟨fun _ _ => trivial, ?_⟩
            rw [Oper.semAt_eq _ _ _ (zfd (defOf o k1)), q1 w (hl.2.ext _ _ hS)]
            exact ih _ _ _ S hlen' (by simpa using hsz) hpre' hun' hcl' hl hS hw q2
        · rename_i hwant
          rw [if_neg hwant] at hf
          exact ⟨fun _ _ => trivial, ih _ _ _ S hlen' (by simpa using hsz) hpre' hun' hcl' hl hS hw hf⟩
def zvc (P : Program) (ops : Array Oper) : List Nat → Act → Act → Prop
  | [], a, a' => a' = a
  | p :: r, a, a' => ∃ o v, ops[p]? = some o ∧ YieldsFenced P ops o v a ∧ zvc P ops r (a.put o.dst v) a'
def setL (listed : Array Bool) : List Nat → Array Bool
  | [] => listed
  | p :: r => setL (listed.setIfInBounds p true) r
theorem zrh : ∀ (l : List Nat) (q : Array Bool), (setL q l).size = q.size
  | [], q => rfl
  | p :: r, q => by rw [setL, zrh r]; simp
theorem zqi : ∀ (l : List Nat) (q : Array Bool) (j : Nat) (d : Bool), j ∉ l → (setL q l).getD j d = q.getD j d
  | [], q, j, d, _ => rfl
  | p :: r, q, j, d, h => by
    have hne : p ≠ j := fun e => h (by rw [← e]; exact List.mem_cons_self ..)
    rw [setL, zqi r _ j d (fun hj => h (List.mem_cons_of_mem _ hj)), getD_set_ne d hne]
theorem zrg : ∀ (l : List Nat) (q : Array Bool) (j : Nat), q.getD j false = true → (setL q l).getD j false = true
  | [], q, j, h => h
  | p :: r, q, j, h => by rw [setL]; exact zrg r _ j (getD_set_true h)
theorem ztu : ∀ (l : List Nat) (q : Array Bool) (j : Nat), j ∈ l → j < q.size → (setL q l).getD j false = true
  | p :: r, q, j, h, hs => by
    rw [setL]
    rcases List.mem_cons.1 h with rfl | h
    · exact zrg r _ _ (by simp [hs])
    · exact ztu r _ j h (by simpa using hs)
theorem zsd {pre ord : List Nat} {m : Nat} (ok : OkFactsP ops pre ord m) {Q : Exit → Act → World → Prop} (hQ : ∀ c a w, ¬ Q (.panic c) a w) : ∀ (l : List Nat) (fuel : Nat) (listed : Array Bool) (a a' : Act) (w : World), (∀ p ∈ l, p ∈ pre) → l.Nodup → (∀ p ∈ l, listed.getD p true = false) →
    zvc P ops l a a' → wpAnyIn (FW none) 0 P .any ops Q fuel (setL listed l) a' w → wpAnyIn (FW none) 0 P .any ops Q (fuel + l.length) listed a w
  | [], fuel, listed, a, a', w, _, _, _, hp, h => by
    have e : a' = a := hp
    subst e; exact h
  | p :: r, fuel, listed, a, a', w, hl, hn, hu, hp, h => by
    obtain ⟨hn1, hn2⟩ := List.nodup_cons.1 hn
    obtain ⟨o, v, ho, hy, hp⟩ := hp
    obtain ⟨o', ho', hp0, hap⟩ := ok.pre0 p (hl p (List.mem_cons_self ..))
    rw [ho] at ho'; cases ho'
    have selOf : ∀ (j : Nat) (o : Oper) cs b, ops[j]? = some o → o.op ≠ .select cs b := fun j o cs b hj e => by
      have h := (ok.all j o hj).1
      unfold zlc at h
      rw [e] at h
      simp at h
    have ih := zsd ok hQ r fuel (listed.setIfInBounds p true) (a.put o.dst v) a' w (fun q hq => hl q (List.mem_cons_of_mem _ hq)) hn2 (fun q hq => by
      have hne : p ≠ q := fun e => hn1 (by rw [e]; exact hq)
      rw [getD_set_ne true hne]
      exact hu q (List.mem_cons_of_mem _ hq)) hp h
    refine wpAnyIn_first rfl ho selOf (fun c a w h => (hQ _ _ _ h).elim) (fuel + r.length) listed a w (fun j oj hoj hj hju hnot => ?_) ?_ hy ih
    · rcases hap j oj hoj hj with h1 | h1
      · obtain ⟨e, he, he2⟩ := List.mem_map.1 h1
        obtain ⟨he3, he4⟩ := List.mem_filter.1 he
        exact (hnot e (by simpa using he3) he4 he2).elim
      · exact h1
    · rw [mem_ready]
      refine ⟨hu p (List.mem_cons_self ..), o, ho, fun e he hb => ?_⟩
      have : e.on ∈ zep o := List.mem_map.2 ⟨e, List.mem_filter.2 ⟨by simpa using he, hb⟩, rfl⟩
      rw [hp0] at this
      cases this
theorem wp_drawP {K : Act → SP → Prop} {Q' : Exit → Act → World → Prop} {id m : Nat} {pre ord : List Nat} {a a' : Act} {w : World} {S0 : SP} (hm' : P.follows .mixedOrders = true) (hok : zol ops pre ord m = true) (hnd : pre.Nodup) (hQ : ∀ c a w, ¬ Q' (.panic c) a w) (hpr : zvc P ops pre a a') (hS0 : S0 noF w.heap) (hx : Good Rd S0) (hW : Same W w)
    (hK : ∀ a S w', K a S → Live Rd W S → S noF w'.heap → Same W w' → wpL none P ops Q' (ops.toList.drop m) a w') (h : SW P ops Rd W K (ord.filterMap (ops[·]?)) S0 a') :
    (Code.region id ops true).wpIn (FW none) 0 P Q' a w := by
  have ok := okFactsP hok
  have hsz := ok.size
  have hlen := ok.len
  have e : rem ord (setL (Array.replicate ops.size false) pre) = ord := by
    unfold rem
    refine List.filter_eq_self.2 fun x hx => ?_
    obtain ⟨h1, h2⟩ := (ok.mem x).1 hx
    rw [zqi _ _ _ _ h2]
    have : x < ops.size := by omega
    simp [this]
  refine wpIn_region_any hm' ?_
  have hf : ops.size = (ops.size - pre.length) + pre.length := by omega
  have key := zsd (P := P) ok hQ pre (ops.size - pre.length) (Array.replicate ops.size false) a a' { w with drawn := w.drawn + 1 } (fun _ h => h) hnd (fun p hp => by
    have := ok.prelt p hp
    simp [show p < ops.size by omega]) hpr
  rw [← hf] at key
  refine key (wpAny_of_SWP (W := W) (Rd := Rd) (K := K) ok hK (ops.size - pre.length) (setL (Array.replicate ops.size false) pre) a' _ S0 ?_ (by rw [zrh]; simp) (fun p hp => ztu _ _ _ hp (by have := ok.prelt p hp; simp; omega)) ?_ ?_ ⟨⟨w, hW, hS0⟩, hx⟩ hS0 hW ?_)
  · rw [e]; omega
  · intro j hj hj2
    rw [zqi _ _ _ _ (fun hp => by have := ok.prelt j hp; omega)]
    simp [hj2]
  · intro q hq
    by_cases hqp : q ∈ pre
    · obtain ⟨o, ho, h0, -⟩ := ok.pre0 q hqp
      intro j hj
      rcases (ok.all q o ho).2 j hj with h1 | ⟨_, h1, -⟩
      · rw [h0] at h1; cases h1
      · rw [h0] at h1; cases h1
    · exfalso
      rw [zqi _ _ _ _ hqp, Array.getD_eq_getD_getElem?, Array.getElem?_replicate] at hq
      split at hq <;> simp at hq
  · rw [e]; exact h
end
end Go.XL
