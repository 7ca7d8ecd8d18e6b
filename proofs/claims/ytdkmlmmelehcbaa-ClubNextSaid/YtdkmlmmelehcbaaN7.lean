/- A part of a program logic over the kit's walk rules, and contracts of functions in it. Conditions: as each theorem says. -/
import Derived.Test.YtdkmlmmelehcbaaN6
set_option linter.all false
namespace Go.XL
open Go.Proofs
set_option maxRecDepth 100000
set_option maxHeartbeats 8000000
def LR (R : List Sitting) (T P : List (List Int)) (c : V) (j : List V) : List V := (R.map Sitting.cells).flatten ++ ([rows T, rows P, c] ++ j)
theorem zfw (R : List Sitting) : (R.map Sitting.cells).flatten.length = R.length * 3 := by
  rw [zgu (sz := 3) (fun c hc => by obtain ⟨s, _, rfl⟩ := List.mem_map.1 hc; rfl), List.length_map]
theorem LR_len (R : List Sitting) (T P : List (List Int)) (c : V) (j : List V) : (LR R T P c j).length = R.length * 3 + 3 + j.length := by
  rw [LR, List.length_append, zfw]; simp; omega
theorem LR_get2 (R : List Sitting) (T P : List (List Int)) (c : V) (j : List V) {o : Nat} (h : o = R.length * 3 + 2) : (LR R T P c j)[o]? = some c := by
  subst h
  rw [LR, List.getElem?_append_right (by rw [zfw]; omega), zfw, show R.length * 3 + 2 - R.length * 3 = 2 by omega]; rfl
theorem zqo : ∀ (R : List Sitting) (r : Nat) (h : r < R.length), (R.map Sitting.cells).flatten[r * 3 + 1]? = some (rows R[r].points)
  | s :: R, 0, h => rfl
  | s :: R, r + 1, h => by
    have := zqo R r (by simpa using h)
    rw [List.map_cons, List.flatten_cons, List.getElem?_append_right (by simp only [Sitting.cells, List.length_cons, List.length_nil]; omega)]
    simp only [Sitting.cells, List.length_cons, List.length_nil, List.getElem_cons_succ]
    rw [show (r + 1) * 3 + 1 - (0 + 1 + 1 + 1) = r * 3 + 1 by omega]
    exact this
theorem LR_get1 (R : List Sitting) (T P : List (List Int)) (c : V) (j : List V) {o r : Nat} (hr : r ≤ R.length) (h : o = r * 3 + 1) : (LR R T P c j)[o]? = some (rows ((R.map Sitting.points ++ [P]).getD r [])) := by
  subst h
  by_cases hl : r < R.length
  · rw [LR, List.getElem?_append_left (by rw [zfw]; omega), zqo R r hl]
    rw [List.getD_eq_getElem?_getD, List.getElem?_append_left (by simpa using hl), List.getElem?_map, List.getElem?_eq_getElem hl]; rfl
  · obtain rfl : r = R.length := by omega
    rw [LR, List.getElem?_append_right (by rw [zfw]; omega), zfw, show R.length * 3 + 1 - R.length * 3 = 1 by omega]
    show some (rows P) = _
    rw [List.getD_eq_getElem?_getD, List.getElem?_append_right (by simp), List.length_map, Nat.sub_self]; rfl
theorem LR_set2 (R : List Sitting) (T P : List (List Int)) (c d : V) (j : List V) {o : Nat} (h : o = R.length * 3 + 2) : (LR R T P c j).set o d = LR R T P d j := by
  subst h
  rw [LR, List.set_append_right _ _ (by rw [zfw]; omega), zfw, show R.length * 3 + 2 - R.length * 3 = 2 by omega]; rfl
def SR (T : Nat) (g : GR) : Sto := match g with | ⟨_, none⟩ => [] | ⟨l, some (b, _, j)⟩ => [(b, .cells (l.flatten ++ j) T)]
theorem rulAt_bd (wi x : Int) (n : Nat) (h : 1 ≤ n) : 0 ≤ zjl wi x n ∧ zjl wi x n < n := by
  have := zcr x (wi + 1)
  unfold zjl; omega
def NB (bs b4 b5 b : Nat) (g : GR) : Prop := ∀ b' cap j, g.blk = some (b', cap, j) → b' ≠ bs ∧ b' ≠ b4 ∧ b' ≠ b5 ∧ b' ≠ b
theorem NB.del {bs b4 b5 b : Nat} {g : GR} (h : NB bs b4 b5 b g) (T : Nat) : delS bs (SR T g) = SR T g := by
  obtain ⟨l, blk⟩ := g
  cases blk with
  | none => rfl
  | some x =>
    obtain ⟨b', cap, j⟩ := x
    simp only [SR, delS, (h b' cap j rfl).1, ↓reduceIte]
theorem NB.look {bs b4 b5 b : Nat} {g : GR} (h : NB bs b4 b5 b g) (T c : Nat) (hc : c = bs ∨ c = b4 ∨ c = b5 ∨ c = b) : zaa (SR T g) c = none := by
  obtain ⟨l, blk⟩ := g
  cases blk with
  | none => rfl
  | some x =>
    obtain ⟨b', cap, j⟩ := x
    have := h b' cap j rfl
    simp only [SR, zaa]
    rw [if_neg]
    rintro rfl
    omega
structure RulI (bs b4 b5 b : Nat) (Rul : List Ruling) (g : GR) : Prop where
  l : g.l = Rul.map Ruling.cells
  ok : g.Ok 78 3 (SR 78 g)
  nb : NB bs b4 b5 b g
theorem yX30 {p : Prop} (h : p := by (simp (disch := omega) only [go_sem, dopV, Option.map_some, Option.map_none, Option.bind_some, Option.bind_none, ↓reduceIte, Nat.reduceEqDiff, Nat.reduceLT, Nat.reduceLeDiff, Nat.reduceAdd, Nat.reduceMul, Nat.reduceSub, Nat.zero_add, Nat.add_zero, Nat.zero_le, Nat.zero_mul, Nat.mul_one, Nat.one_mul, Int.natCast_zero, Int.toNat_zero, Int.reduceToNat, Int.reduceLT, Int.reduceLE, Int.reduceEq, decide_true, decide_false, true_and, and_true, Bool.and_self, Bool.and_true, Bool.true_and, Bool.not_true, Bool.not_false, IntWalk.toNatUp, IntWalk.iteOmega, IntWalk.i64_in, Option.isSome_some, not_true_eq_false, not_false_eq_true, Option.getD_some, Option.getD_none, Int.toNat_natCast, List.length_map, List.getElem?_map, List.getElem?_eq_getElem, V.flat, V.one, List.all_cons, List.all_nil, *, GR.cell_copy, Value.oneCell']; exact rfl)) : p := h
theorem yX31 {p : Prop} (h : p := by (simp (disch := omega) only [go_sem, dopV, Option.map_some, Option.map_none, Option.bind_some, Option.bind_none, ↓reduceIte, Nat.reduceEqDiff, Nat.reduceLT, Nat.reduceLeDiff, Nat.reduceAdd, Nat.reduceMul, Nat.reduceSub, Nat.zero_add, Nat.add_zero, Nat.zero_le, Nat.zero_mul, Nat.mul_one, Nat.one_mul, Int.natCast_zero, Int.toNat_zero, Int.reduceToNat, Int.reduceLT, Int.reduceLE, Int.reduceEq, decide_true, decide_false, true_and, and_true, Bool.and_self, Bool.and_true, Bool.true_and, Bool.not_true, Bool.not_false, IntWalk.toNatUp, IntWalk.iteOmega, IntWalk.i64_in, Option.isSome_some, not_true_eq_false, not_false_eq_true, Option.getD_some, Option.getD_none, Int.toNat_natCast, List.length_map, List.getElem?_map, List.getElem?_eq_getElem, V.flat, V.one, List.all_cons, List.all_nil, *, GR.cell_copy, Value.oneCell']; try exact rfl)) : p := h
theorem club_rul (bs b4 b5 b cap : Nat) (x sz st ab wi i : Int) (sh : Bool) (PL : List Int) (M : List Member) (R : List Sitting) (T P : List (List Int)) (j : List V) (hszB : Box (∃ z : Nat, sz = z)) (hsz : 3 ≤ sz ∧ sz ≤ 4) (hst : 0 ≤ st ∧ st ≤ 1000000) (hwi : 0 ≤ wi ∧ wi ≤ 2) (hnb : R.length ≤ 1000) (hps : ∀ r, ((R.map Sitting.points ++ [P]).getD r []).length ≤ 1000)
    (n4 : ¬ bs = b4) (n4' : ¬ b4 = bs) (n5 : ¬ bs = b5) (n5' : ¬ b5 = bs) (m5 : ¬ b4 = b5) (m5' : ¬ b5 = b4) (q1 : ¬ bs = b) (q1' : ¬ b = bs) (q2 : ¬ b4 = b) (q2' : ¬ b = b4) (q3 : ¬ b5 = b) (q3' : ¬ b = b5) {v0 : VH} {Q : VEnv → Sto → Prop} {fr : List Fr} {cd : Code} {os l : List Oper}
    (h4 : Try.f47.body.bind (regC 30) = some os) (h5 : os.drop 1 = l) (h3 : Try.f47.body.bind (zhr 30) = some cd)
    (q : ∀ g, RulI bs b4 b5 b (rulK sz st wi (R.map Sitting.points ++ [P]) (zak x 3).toNat (zad x) []).1 g → DS Try.prog 207 ⟨none, v0⟩ Q fr [(13, I i), (0, ptr bs), (4, ptr b4), (5, ptr b5)]
      ((bs, srcO (rulK sz st wi (R.map Sitting.points ++ [P]) (zak x 3).toNat (zad x) []).2) :: (b5, .cells (zfk sz st ab wi PL sh (.own false 88 4 (M.map Member.cells)) (.v (.slice (some ⟨b, 0, none⟩) (R.length + 1) cap))) 26) :: (b4, .cells zds 26) :: (b, .cells (LR R T P g.cell j) 81) :: SR 78 g)) :
    DS Try.prog 207 ⟨none, v0⟩ Q (.ops os l :: .code cd :: fr)
      [(138, ptr bs), (13, I i), (0, ptr bs), (4, ptr b4), (5, ptr b5)] [(bs, srcO x), (b5, .cells (zfk sz st ab wi PL sh (.own false 88 4 (M.map Member.cells)) (.v (.slice (some ⟨b, 0, none⟩) (R.length + 1) cap))) 26), (b4, .cells zds 26), (b, .cells (LR R T P (.v (.slice none 0 0)) j) 81)] := by
  obtain rfl := Option.some.inj ((show Try.f47.body.bind (zhr 30) = some _ from rfl).symm.trans h3)
  obtain rfl := Option.some.inj ((show Try.f47.body.bind (regC 30) = some _ from rfl).symm.trans h4)
  subst h5
  clear h4
  clear h3
  simp only [zat, zau]
  have k1 := zcr x 3
  repeat' (first | (with_reducible first | refine DS.fltS yU yU yE ?_ | refine DS.opsNil ?_ | refine DS.block ?_) | (refine DS.scS inferInstance (zde bs x 3 (by omega)) yR yT yT ?_; (try simp only [zbj, zbt, ↓reduceIte, *])) | fail)
  obtain ⟨N, hN⟩ : ∃ N : Nat, (N : Int) = zak x 3 := ⟨(zak x 3).toNat, by omega⟩
  have hNN : (zak x 3).toNat = N := by omega
  rw [hNN] at q
  refine DS.loopS [0, 4, 5, 13] (by (simp only [go_sem, Nat.reduceEqDiff, ↓reduceIte]; exact rfl)) (fun (y : Nat × Int × Int × List Ruling × GR) => [(15, I y.2.1)]) (fun (y : Nat × Int × Int × List Ruling × GR) => (bs, srcO y.2.2.1) :: (b5, .cells (zfk sz st ab wi PL sh (.own false 88 4 (M.map Member.cells)) (.v (.slice (some ⟨b, 0, none⟩) (R.length + 1) cap))) 26) :: (b4, .cells zds 26) :: (b, .cells (LR R T P y.2.2.2.2.cell j) 81) :: SR 78 y.2.2.2.2) (fun (y : Nat × Int × Int × List Ruling × GR) => (y.2.1 ≤ y.1 ∧ (y.1 : Int) ≤ y.2.1) ∧ y.2.2.2.1.length + 1000 * y.1 ≤ 2000 ∧ RulI bs b4 b5 b y.2.2.2.1 y.2.2.2.2 ∧ rulK sz st wi (R.map Sitting.points ++ [P]) N (zad x) [] = rulK sz st wi (R.map Sitting.points ++ [P]) y.1 y.2.2.1 y.2.2.2.1) (fun (y : Nat × Int × Int × List Ruling × GR) => y.1) (N, zak x 3, zad x, [], ⟨[], none⟩) yS (fun b o e => by exact e) ⟨by dsimp only; omega, by dsimp only [List.length_nil]; omega, ⟨rfl, rfl, fun _ _ _ e => by cases e⟩, rfl⟩ (fun y B hI hB => ?_); try dsimp only at hI hB; simp only [zap, zar]
  obtain ⟨k, cnt, x1, Rul, g⟩ := y
  dsimp only at hI hB ⊢
  obtain ⟨g1, g2, g3, g4⟩ := hI
  have H := Box.mk (And.intro g3 (And.intro g4 (And.intro q hN)))
  clear g4 q hN hNN
  have hdel := g3.nb.del 78
  clear g3
  have k2 := zcr x1 (wi + 1)
  have hB3 := hB
  clear hB
  repeat' (first | (with_reducible first | refine DS.fltS yU yU yE ?_ | refine DS.opsNil ?_ | refine DS.seq ?_ | refine DS.regionL ?_ | (refine DS.cE yE ?_; refine CG.p (fun _ => ?_) (fun _ => ?_)) | refine DS.block ?_ | refine DS.exit yU ?_ | refine DS.skip ?_) | fail)
  · rename_i e0
    (refine DS.drawX (id := 33) (bs := bs) (x := x1) (by simp only [zab, zcd, ↓reduceIte, *]) [0, 1, 2, 3, 4, 5, 6, 7, 8] 9 (by kernel_rfl) zdb (by simp only [zay, zbf, zbg, zbh, zax]; exact rfl) (by simp only [zat, zau, List.drop_nil]; exact rfl) ?_; simp only [zbj, zbt, ↓reduceIte, *])
    repeat' (first | (with_reducible first | refine DS.fltS yU yU yE ?_ | refine DS.opsNil ?_ | refine DS.seq ?_ | refine DS.regionL ?_ | refine DS.block ?_ | refine DD.fltS yU yU yU yE ?_) | (with_reducible refine DD.nil ?_; simp only [zap, zar]) | (refine DD.scS inferInstance (zde bs x1 (wi + 1) (by omega)) yU yT yT ?_; simp only [zbs, zby, Nat.reduceEqDiff, ↓reduceIte]; (try simp only [zbj, zbt, ↓reduceIte, *])) | fail)
    have hrb := rulAt_bd wi x1 (R.length + 1) (by omega)
    obtain ⟨rd, hrd⟩ : ∃ rd : Nat, (rd : Int) = zjl wi x1 (R.length + 1) := ⟨(zjl wi x1 (R.length + 1)).toNat, by omega⟩
    have hrl : rd ≤ R.length := by omega
    have hif : (if ((R.length + 1 : Nat) : Int) - 1 - zak x1 (wi + 1) > 0 then ((R.length + 1 : Nat) : Int) - 1 - zak x1 (wi + 1) else 0) = (rd : Int) := by
      rw [hrd]; unfold zjl; split <;> omega
    simp only [hif]
    clear hif
    have Hr := Box.mk hrd
    clear hrd hrb
    obtain ⟨ps, hpsE⟩ : ∃ ps, ps = (R.map Sitting.points ++ [P]).getD rd [] := ⟨_, rfl⟩
    have hpl := hps rd
    rw [← hpsE] at hpl
    have Hp := Box.mk hpsE
    clear hpsE
    refine DS.loopS [0, 4, 5, 13, 15, 16] (by (simp only [go_sem, Nat.reduceEqDiff, ↓reduceIte]; exact rfl)) (fun (z : Nat × Int × List Ruling × GR) => [(17, I z.1)]) (fun (z : Nat × Int × List Ruling × GR) => (bs, srcO z.2.1) :: (b5, .cells (zfk sz st ab wi PL sh (.own false 88 4 (M.map Member.cells)) (.v (.slice (some ⟨b, 0, none⟩) (R.length + 1) cap))) 26) :: (b4, .cells zds 26) :: (b, .cells (LR R T P z.2.2.2.cell j) 81) :: SR 78 z.2.2.2) (fun (z : Nat × Int × List Ruling × GR) => z.1 ≤ ps.length ∧ z.2.2.1.length + (ps.length - z.1) + 1000 * (k - 1) ≤ 2000 ∧ RulI bs b4 b5 b z.2.2.1 z.2.2.2 ∧ rulG sz st rd ps 0 (zad x1) Rul = rulG sz st rd (ps.drop z.1) z.1 z.2.1 z.2.2.1) (fun (z : Nat × Int × List Ruling × GR) => ps.length - z.1) (0, zad x1, Rul, g) yS (fun b o e => by exact e) ⟨Nat.zero_le _, by dsimp only; omega, H.out.1, rfl⟩ (fun z B hI hB => ?_); try dsimp only at hI hB; simp only [zap, zar]
    obtain ⟨u, x2, Rul2, g'⟩ := z
    dsimp only at hI hB ⊢
    obtain ⟨i1, i2, i3, i4⟩ := hI
    have H2 := Box.mk (And.intro i3 i4)
    clear i4
    have hdel2 := i3.nb.del 78
    clear i3
    have hc1 : (LR R T P g'.cell j)[rd * 3 + 1]? = some (rows ps) := by rw [Hp.out]; exact LR_get1 R T P g'.cell j hrl rfl
    repeat' (first | (with_reducible first | refine DS.fltS yU yU yE ?_ | refine DS.opsNil ?_ | refine DS.seq ?_ | refine DS.regionL ?_ | (refine DS.cE yE ?_; first | refine CG.p (fun _ => ?_) (fun _ => ?_) | refine CG.no ?_ | refine CG.b (fun _ => ?_) (fun _ => ?_)) | (refine DS.gE yU yE ?_; first | refine GG.pT (fun _ => ?_) (fun _ => ?_) | refine GG.run ?_ | refine GG.sF ?_) | refine DS.blk ?_ | refine DS.block ?_ | refine DS.exit yU ?_ | refine DS.skip ?_) | (refine DS.scS inferInstance (zjx bs x2 3 (by omega)) yR yT yT ?_; (try simp only [zbj, zbt, ↓reduceIte, *])) | fail)
    · rename_i e1 e2 e3
      have hu : u < ps.length := by omega
      simp only [Nat.add_sub_cancel]
      have hc2 : (LR R T P g'.cell j)[R.length * 3 + 2]? = some g'.cell := LR_get2 R T P g'.cell j rfl
      have he : SC Try.prog 84 [ptr bs, I sz, I st] bs (zad x2) (ints (zev sz st (zad x2)).1) (zev sz st (zad x2)).2 := by
        obtain ⟨z, hz⟩ := hszB.out
        rw [hz]; exact even_sc bs (zad x2) z st (by omega) (by omega)
      refine DS.drawLS (id := 39) ([(b5, .cells (zfk sz st ab wi PL sh (.own false 88 4 (M.map Member.cells)) (.v (.slice (some ⟨b, 0, none⟩) (R.length + 1) cap))) 26), (b4, .cells zds 26), (b, .cells (LR R T P g'.cell j) 81)]) ((bs, srcO (zad x2)) :: SR 78 g') [0, 1, 2, 3, 4, 5, 6, 7, 8, 9, 10, 11, 12, 13, 14, 15] 16 (by kernel_rfl) zdb (by simp only [zay, zbf, zbg, zbh, zax]; exact rfl) (by simp only [zat, zau, List.drop_nil]; exact rfl) ((fun d o e => by
        have hb : ¬ bs = d := fun h => by subst h; simp only [zab, zcd, n5', n4', q1', ↓reduceIte] at e; cases e
        have hl : d = b5 ∨ d = b4 ∨ d = b := by
          simp only [zab, zcd] at e
          split at e
          · rename_i h; exact .inl h.symm
          split at e
          · rename_i h; exact .inr (.inl h.symm)
          split at e
          · rename_i h; exact .inr (.inr h.symm)
          · cases e
        have hn := H2.out.1.nb.look 78 d (by omega)
        refine ⟨?_, by simp only [zab, hb, ↓reduceIte]; exact hn⟩
        simp only [zab, zcd, hb, ↓reduceIte] at e ⊢
        by_cases a1 : b5 = d
        · rw [if_pos a1] at e ⊢; exact e
        rw [if_neg a1] at e ⊢
        by_cases a2 : b4 = d
        · rw [if_pos a2] at e ⊢; exact e
        rw [if_neg a2] at e ⊢
        by_cases a3 : b = d
        · rw [if_pos a3] at e ⊢; exact e
        · rw [if_neg a3] at e; cases e)) ((fun d o e => by
        simp only [zab] at e ⊢
        by_cases a0 : bs = d
        · rw [if_pos a0] at e ⊢; exact e
        · rw [if_neg a0] at e ⊢
          rw [if_neg (fun h => by subst h; rw [H2.out.1.nb.look _ _ (.inr (.inr (.inl rfl)))] at e; cases e), if_neg (fun h => by subst h; rw [H2.out.1.nb.look _ _ (.inr (.inl rfl))] at e; cases e), if_neg (fun h => by subst h; rw [H2.out.1.nb.look _ _ (.inr (.inr (.inr rfl)))] at e; cases e)]
          exact e)) ?_
      repeat' (first | (with_reducible first | refine DD.fltS yU yU yU yX30 ?_ | refine DD.flt1S yU yU yU yU yX30 ?_) | (refine DD.scS inferInstance (he) yU yX31 yX31 ?_; simp only [zbs, zby, Nat.reduceEqDiff, ↓reduceIte]; (try simp only [zbj, zbt, ↓reduceIte, *])) | (refine DD.bslS yU yX30 yX30 ?_; simp only [go_sem, Nat.zero_add, Nat.reduceAdd]; simp only [zbs, zby, Nat.reduceEqDiff, ↓reduceIte]) | fail)
      have hOk : g'.Ok 78 3 ((bs, srcO (zev sz st (zad x2)).2) :: SR 78 g') := H2.out.1.ok.of fun d cap' jj h => by
        rw [zab, if_neg (fun h' => (H2.out.1.nb d cap' jj h).1 h'.symm)]
      have hgl : g'.l.length = Rul2.length := by rw [H2.out.1.l, List.length_map]
      refine DD.last rfl rfl rfl yR (OpS.appG (g := g') (ml := [Ruling.cells ⟨rd, u, (zev sz st (zad x2)).1⟩]) rfl yH yH yR yR (by decide) yH hOk yH yH (by exact Nat.zero_lt_succ _) (by intro c hc; obtain rfl := List.mem_singleton.1 hc; rfl) ⟨by rw [hgl, List.length_singleton]; omega, by decide⟩) (fun u2 E' S4 hu2 hdis => ?_)
      obtain ⟨rfl, b', cap', junk', rfl, m1, m2, m3⟩ := hu2
      have hml : g'.l ++ [Ruling.cells ⟨rd, u, (zev sz st (zad x2)).1⟩].map (fun x => List.map V.copy x) = (Rul2 ++ [(⟨rd, u, (zev sz st (zad x2)).1⟩ : Ruling)]).map Ruling.cells := by rw [H2.out.1.l, List.map_append]; rfl
      rw [hml] at m1 ⊢
      obtain ⟨Rul3, hR3⟩ : ∃ Rul3 : List Ruling, Rul3 = Rul2 ++ [(⟨rd, u, (zev sz st (zad x2)).1⟩ : Ruling)] := ⟨_, rfl⟩
      rw [← hR3] at m1 ⊢
      have e0 : b' ≠ bs := by
        rcases m2 with ⟨c, jj, h⟩ | h
        · exact (H2.out.1.nb _ _ _ h).1
        · intro h'; subst h'; simp [zaa] at h
      have hS0 : ∀ d o, zaa [(b5, Ob.cells (zfk sz st ab wi PL sh (.own false 88 4 (M.map Member.cells)) (.v (.slice (some ⟨b, 0, none⟩) (R.length + 1) cap))) 26), (b4, .cells zds 26), (b, .cells (LR R T P g'.cell j) 81)] d = some o → b' ≠ d := fun d o e h => by
        have h1 := hdis d o e
        rw [← h, m1.look] at h1; cases h1
      have e5 : b' ≠ b5 := hS0 b5 _ (by simp only [zab, ↓reduceIte]; exact rfl)
      have e4 : b' ≠ b4 := hS0 b4 _ (by simp only [zab, m5', ↓reduceIte]; exact rfl)
      have eb : b' ≠ b := hS0 b _ (by simp only [zab, q2, q3, ↓reduceIte]; exact rfl)
      have hbs : zaa S4 bs = some (srcO (zev sz st (zad x2)).2) := by
        rw [m3 bs (fun h => e0 h.symm) (fun c jj h => (H2.out.1.nb _ _ _ h).1 rfl), zab, if_pos rfl]
      refine DS.reS (S' := (bs, srcO (zev sz st (zad x2)).2) :: (b5, .cells (zfk sz st ab wi PL sh (.own false 88 4 (M.map Member.cells)) (.v (.slice (some ⟨b, 0, none⟩) (R.length + 1) cap))) 26) :: (b4, .cells zds 26) :: (b, .cells (LR R T P g'.cell j) 81) :: SR 78 ⟨Rul3.map Ruling.cells, some (b', cap', junk')⟩) (fun d o e => ?_) ?_
      · rw [zbv]
        rw [zab] at e
        by_cases a0 : bs = d
        · rw [if_pos a0] at e; subst a0; rw [hbs]; exact e
        rw [if_neg a0] at e
        by_cases a1 : ∃ o', zaa [(b5, Ob.cells (zfk sz st ab wi PL sh (.own false 88 4 (M.map Member.cells)) (.v (.slice (some ⟨b, 0, none⟩) (R.length + 1) cap))) 26), (b4, .cells zds 26), (b, .cells (LR R T P g'.cell j) 81)] d = some o'
        · obtain ⟨o', h'⟩ := a1
          rw [hdis d o' h']
          have : o' = o := by
            simp only [zab, zcd] at h' e
            by_cases c1 : b5 = d
            · rw [if_pos c1] at h' e; rw [h'] at e; exact Option.some.inj e
            rw [if_neg c1] at h' e
            by_cases c2 : b4 = d
            · rw [if_pos c2] at h' e; rw [h'] at e; exact Option.some.inj e
            rw [if_neg c2] at h' e
            by_cases c3 : b = d
            · rw [if_pos c3] at h' e; rw [h'] at e; exact Option.some.inj e
            · rw [if_neg c3] at h'; cases h'
          rw [← this]; exact h'
        · have c1 : ¬ b5 = d := fun h => a1 ⟨_, by simp only [zab, h, ↓reduceIte]; rfl⟩
          have c2 : ¬ b4 = d := fun h => a1 ⟨_, by simp only [zab, c1, h, ↓reduceIte]; rfl⟩
          have c3 : ¬ b = d := fun h => a1 ⟨_, by simp only [zab, c1, c2, h, ↓reduceIte]; rfl⟩
          simp only [zab, c1, c2, c3, ↓reduceIte, SR, zcd] at e
          by_cases c4 : b' = d
          · subst c4; rw [m1.look]; rw [if_pos rfl] at e; exact e
          · rw [if_neg c4] at e; cases e
      simp only [GR.cell_some, zcz, List.length_map]
      have hk : rulG sz st rd ps 0 (zad x1) Rul = rulG sz st rd (ps.drop (u + 1)) ((u + 1 : Nat) : Int) (zev sz st (zad x2)).2 Rul3 := by
        rw [H2.out.2, List.drop_eq_getElem_cons hu, rulG, if_pos e2, if_pos e3, hR3]; rfl
      have hrl : Rul3.length = Rul2.length + 1 := by rw [hR3, List.length_append]; rfl
      have hI3 : RulI bs b4 b5 b Rul3 ⟨Rul3.map Ruling.cells, some (b', cap', junk')⟩ := ⟨rfl, ⟨by simp [SR, zaa], m1.len, m1.le, m1.cap, m1.jf, m1.lf, m1.ll⟩, fun c1 c2 c3 h => by cases h; exact ⟨e0, e4, e5, eb⟩⟩
      have H3 := Box.mk (And.intro hk hI3)
      clear hk hR3 hml m1 m2 m3 hdis hI3 hS0 hbs hOk hgl
      have hll := LR_len R T P g'.cell j
      repeat' (first | (with_reducible first | refine DS.fltS yU yU yE ?_ | refine DS.opsNil ?_ | refine DS.regionL ?_ | refine DS.blk ?_) | (refine DS.store yR yE yE yE yE yU (by exact ⟨by with_unfolding_all rfl, by (try simp only [List.length_map, List.length_append, List.length_set, List.length_replicate, List.length_cons, List.length_nil]); omega⟩) ?_; simp only [zbu, zaw, zbd, zcf, zbq, zbn, zbr]; try simp only [zal, zac, zae, Nat.reduceEqDiff, ↓reduceIte, zag, zah, zao, zaf, zaj, zam, zai]) | fail)
      simp only [setS, q1, q2, q3, ↓reduceIte]
      rw [LR_set2 _ _ _ _ _ _ rfl]
      refine DS.back (hB (u + 1, (zev sz st (zad x2)).2, Rul3, ⟨Rul3.map Ruling.cells, some (b', cap', junk')⟩) _ _ (by dsimp only; omega) ⟨by dsimp only; omega, by dsimp only; omega, H3.out.2, H3.out.1⟩ yS yS (fun d o e => ?_))
      dsimp only at e
      rw [GR.cell_some, List.length_map, hrl] at e
      exact e
    · rename_i e1 e2 e3
      have hu : u < ps.length := by omega
      have hk : rulG sz st rd ps 0 (zad x1) Rul = rulG sz st rd (ps.drop (u + 1)) ((u + 1 : Nat) : Int) (zad x2) Rul2 := by
        rw [H2.out.2, List.drop_eq_getElem_cons hu, rulG, if_pos e2, if_neg (by simp [e3])]; rfl
      refine DS.back (hB (u + 1, zad x2, Rul2, g') _ _ (by dsimp only; omega) ⟨by dsimp only; omega, by dsimp only; omega, H2.out.1, hk⟩ yS yS (fun b o e => e))
    · rename_i e1 e2
      have hu : u < ps.length := by omega
      have hk : rulG sz st rd ps 0 (zad x1) Rul = rulG sz st rd (ps.drop (u + 1)) ((u + 1 : Nat) : Int) x2 Rul2 := by
        rw [H2.out.2, List.drop_eq_getElem_cons hu, rulG, if_neg e2]; rfl
      refine DS.back (hB (u + 1, x2, Rul2, g') _ _ (by dsimp only; omega) ⟨by dsimp only; omega, by dsimp only; omega, H2.out.1, hk⟩ yS yS (fun b o e => e))
    · rename_i e1
      have hk : rulK sz st wi (R.map Sitting.points ++ [P]) N (zad x) [] = rulK sz st wi (R.map Sitting.points ++ [P]) (k - 1) x2 Rul2 := by
        obtain ⟨k', rfl⟩ : ∃ k', k = k' + 1 := ⟨k - 1, by omega⟩
        have h1 := H2.out.2
        rw [show ps.drop u = [] from List.drop_eq_nil_of_le (by omega), rulG, Hr.out, Hp.out] at h1
        have h2 : rd = (zjl wi x1 (R.length + 1)).toNat := by have := Hr.out; omega
        rw [H.out.2.1, rulK, List.length_append, List.length_map, List.length_singleton, ← h2, h1]
        rfl
      refine DS.back (hB3 (k - 1, cnt - 1, x2, Rul2, g') _ _ (by dsimp only; omega) ⟨by dsimp only; omega, by dsimp only; omega, H2.out.1, hk⟩ yS yS (fun b o e => e))
  · rename_i e1
    obtain ⟨h1, h2, h3, h4⟩ := H.out
    obtain rfl : k = 0 := by omega
    rw [h2] at h3
    exact DS.weaken (zdf (by simp (disch := omega) only [go_sem, ↓reduceIte, Nat.reduceEqDiff, zdw, zeg, and_self, zap, zar])) (fun _ _ e => e) (h3 g h1)
end Go.XL
namespace Go.XL
theorem zpd {st : List Int → Int → Bool} {f : List Int → List Int → List (List Int)} {t x : List Int} : ∀ {ids : List Int}, x ∈ zeq st f t ids → ∃ id r, x ∈ f (t ++ [id]) r
  | [], h => by simp [zeq] at h
  | id :: r, h => by
    rw [zeq] at h
    rcases List.mem_append.1 h with h | h
    · split at h
      · exact ⟨id, r, h⟩
      · cases h
    · exact zpd h
theorem zsc {st : List Int → Int → Bool} {x : List Int} : ∀ (n : Nat) (t ids : List Int), x ∈ zgi st n t ids → x.length = t.length + n
  | 0, t, ids, h => by
    simp only [zgi, List.mem_singleton] at h; subst h; rfl
  | n + 1, t, ids, h => by
    obtain ⟨id, r, h⟩ := zpd h
    have := zsc n _ _ h
    rw [this]; simp; omega
theorem zql {budget : Int} {round sz : Nat} {rec : List Int → Int → Int × Int × List (Nat × List Int)} (h : ∀ t s, ∀ q ∈ (rec t s).2.2, q.2.length = sz) : ∀ (l : List (List Int)) (s : Int), (∀ t ∈ l, t.length = sz) → ∀ q ∈ (tryL budget round rec l s).2.2, q.2.length = sz
  | [], s, _, q, hq => by simp [tryL] at hq
  | t :: r, s, hl, q, hq => by
    simp only [tryL] at hq
    split at hq
    · cases hq
    split at hq
    · exact zql h r _ (fun t' ht => hl t' (List.mem_cons_of_mem _ ht)) q hq
    · rcases List.mem_cons.1 hq with rfl | hq
      · exact hl t (List.mem_cons_self ..)
      · exact h _ _ q hq
theorem zms {size : Nat} {budget : Int} {rounds : List (List Int)} (hs : 1 ≤ size) : ∀ (n : Nat) (met : Int → Int → Bool) (round : Nat) (ids : List Int) (s : Int), ∀ q ∈ (srch size budget rounds n met round ids s).2.2, q.2.length = size
  | 0, met, round, ids, s, q, hq => by simp [srch] at hq
  | n + 1, met, round, [], s, q, hq => by
    rw [srch] at hq
    split at hq
    · cases hq
    · exact zms hs n met _ _ _ q hq
  | n + 1, met, round, f :: fr, s, q, hq => by
    rw [srch] at hq
    refine zql (fun t s => zms hs n _ _ _ _) _ _ (fun t ht => ?_) q hq
    have := zsc _ _ _ ht
    rw [this]; simp; omega
theorem nextS_rows (c : Club) (hs : 1 ≤ c.size) (ids : List Int) : ∀ t ∈ (zjn c ids).1, (t.length : Int) = c.size := by
  intro t ht
  unfold zjn at ht
  repeat' split at ht
  all_goals first | (cases ht; done) | skip
  obtain ⟨q, hq, rfl⟩ := List.mem_map.1 ht
  have := zms (by omega) _ _ _ _ _ q hq
  omega
theorem insS_len (out : List Int) (n : Int) : (insS out n).length = out.length + 1 := by
  simp only [insS, List.length_append, List.length_take, List.length_cons, List.length_drop]; omega
theorem zkw : ∀ (l out : List Int), (l.foldl insS out).length = out.length + l.length
  | [], out => rfl
  | a :: r, out => by rw [List.foldl_cons, zkw r, insS_len]; simp; omega
theorem zli (size : Int) (hs : 1 ≤ size) : ∀ (n : Nat) (x : Int) (rest : List Int) (out : List (List Int)), (∀ t ∈ out, (t.length : Int) = size) → ∀ t ∈ (zlj size n x rest out).1, (t.length : Int) = size
  | 0, x, rest, out, h => by simpa [zlj] using h
  | n + 1, x, rest, out, h => by
    simp only [zlj]
    split
    · refine zli size hs n _ _ _ fun t ht => ?_
      rcases List.mem_append.1 ht with ht | ht
      · exact h t ht
      · obtain rfl := List.mem_singleton.1 ht
        rw [zik, zkw]
        have := ztr size size.toNat x [rest.headD 0] (rest.drop 1) (by simp; omega) (by simp; omega)
        simp only [List.length_nil, Nat.zero_add]; exact this
    · exact h
theorem roundTabs_rows (c : Club) (x : Int) (hs : 1 ≤ c.size) : ∀ t ∈ (zaz c x).1, (t.length : Int) = c.size := by
  unfold zaz
  split
  · dsimp only
    split
    · exact nextS_rows c hs _
    · exact zli c.size hs _ _ _ _ (fun t ht => by cases ht)
  · exact zli c.size hs _ _ _ _ (fun t ht => by cases ht)
theorem zmx (size start : Int) (hs : 1 ≤ size) : ∀ (n : Nat) (x : Int) (out : List (List Int)), (∀ p ∈ out, p = [] ∨ (p.length : Int) = size) → (∀ p ∈ (ptsG size start n x out).1, p = [] ∨ (p.length : Int) = size) ∧ (ptsG size start n x out).1.length = out.length + n
  | 0, x, out, h => ⟨h, rfl⟩
  | n + 1, x, out, h => by
    rw [ptsG]
    split
    · have := zmx size start hs n (zev size start (zad x)).2 (out ++ [(zev size start (zad x)).1]) (fun p hp => by
        rcases List.mem_append.1 hp with hp | hp
        · exact h p hp
        · obtain rfl := List.mem_singleton.1 hp
          exact .inr (znq size start _ hs))
      exact ⟨this.1, by rw [this.2]; simp; omega⟩
    · have := zmx size start hs n (zad x) (out ++ [[]]) (fun p hp => by
        rcases List.mem_append.1 hp with hp | hp
        · exact h p hp
        · obtain rfl := List.mem_singleton.1 hp
          exact .inl rfl)
      exact ⟨this.1, by rw [this.2]; simp; omega⟩
theorem zmh (size start round : Int) (hs : 1 ≤ size) : ∀ (l : List (List Int)) (t x : Int) (R : List Ruling), (∀ r ∈ R, (r.points.length : Int) = size) → (∀ r ∈ (rulG size start round l t x R).1, (r.points.length : Int) = size) ∧ (rulG size start round l t x R).1.length ≤ R.length + l.length
  | [], t, x, R, h => ⟨h, by simp [rulG]⟩
  | p :: l, t, x, R, h => by
    rw [rulG]
    split
    · split
      · have := zmh size start round hs l (t + 1) (zev size start (zad x)).2 (R ++ [⟨round, t, (zev size start (zad x)).1⟩]) (fun r hr => by
          rcases List.mem_append.1 hr with hr | hr
          · exact h r hr
          · obtain rfl := List.mem_singleton.1 hr
            exact znq size start _ hs)
        refine ⟨this.1, Nat.le_trans this.2 ?_⟩
        simp; omega
      · have := zmh size start round hs l (t + 1) (zad x) R h
        exact ⟨this.1, Nat.le_trans this.2 (by simp)⟩
    · have := zmh size start round hs l (t + 1) x R h
      exact ⟨this.1, Nat.le_trans this.2 (by simp)⟩
theorem ztx (size start window : Int) (hs : 1 ≤ size) (ps : List (List (List Int))) (L : Nat) (hL : ∀ r, (ps.getD r []).length ≤ L) : ∀ (k : Nat) (x : Int) (R : List Ruling), (∀ r ∈ R, (r.points.length : Int) = size) → (∀ r ∈ (rulK size start window ps k x R).1, (r.points.length : Int) = size) ∧ (rulK size start window ps k x R).1.length ≤ R.length + k * L
  | 0, x, R, h => ⟨h, by simp [rulK]⟩
  | k + 1, x, R, h => by
    rw [rulK]
    have h1 := zmh size start (zjl window x ps.length) hs (ps.getD (zjl window x ps.length).toNat []) 0 (zad x) R h
    have h2 := ztx size start window hs ps L hL k (rulG size start (zjl window x ps.length) (ps.getD (zjl window x ps.length).toNat []) 0 (zad x) R).2 _ h1.1
    have h3 := hL (zjl window x ps.length).toNat
    refine ⟨h2.1, Nat.le_trans h2.2 ?_⟩
    rw [Nat.succ_mul]; omega
structure MadeR (size : Int) (L : Nat) (s : Sitting) : Prop where
  rows : ∀ t ∈ s.tables, (t.length : Int) = size
  len : s.tables.length ≤ L
  pts : ∀ p ∈ s.points, p = [] ∨ (p.length : Int) = size
  plen : s.points.length = s.tables.length
  rul : s.rulings.length ≤ 2 * L
  rpts : ∀ r ∈ s.rulings, (r.points.length : Int) = size
theorem MadeR.small {size : Int} {L : Nat} {s : Sitting} (h : MadeR size L s) (hs : size ≤ 100) (hL : L ≤ 1000) : s.Small where
  tables := Nat.le_trans h.len (by omega)
  points := by rw [h.plen]; exact Nat.le_trans h.len (by omega)
  rulings := Nat.le_trans h.rul (by omega)
  table := fun t ht => by have := h.rows t ht; omega
  point := fun t ht => by
    rcases h.pts t ht with rfl | e
    · simp
    · omega
  ruling := fun r hr => by have := h.rpts r hr; omega
theorem getD_le {α : Type} {l : List (List α)} {L : Nat} (h : ∀ x ∈ l, x.length ≤ L) (r : Nat) : (l.getD r []).length ≤ L := by
  rw [List.getD_eq_getElem?_getD]
  cases e : l[r]? with
  | none => simp
  | some x => exact h x (List.mem_of_getElem? e)
theorem zmu (c : Club) (x : Int) (R : List Sitting) (L : Nat) (hs : 1 ≤ c.size) (hL : c.members.length + 2 ≤ L) (hR : ∀ s ∈ R, MadeR c.size L s) :
    MadeR c.size L ⟨(zaz (zdh c R) x).1, (zct (zdh c R) x).1, (zig c x R).1⟩ := by
  have h1 := roundTabs_rows (zdh c R) x hs
  have h2 := zkl (zdh c R) x
  have h3 := zmx c.size c.start hs (zaz (zdh c R) x).1.length (zaz (zdh c R) x).2 [] (fun p hp => by cases hp)
  have h3' : (zct (zdh c R) x).1.length = (zaz (zdh c R) x).1.length := by
    have := h3.2
    rw [List.length_nil, Nat.zero_add] at this; exact this
  have h4 := ztx c.size c.start c.window hs (R.map Sitting.points ++ [(zct (zdh c R) x).1]) L (getD_le (fun p hp => by
    rcases List.mem_append.1 hp with hp | hp
    · obtain ⟨s, hs, rfl⟩ := List.mem_map.1 hp
      rw [(hR s hs).plen]; exact (hR s hs).len
    · obtain rfl := List.mem_singleton.1 hp
      rw [h3']; exact Nat.le_trans h2 hL)) (zak (zct (zdh c R) x).2 3).toNat (zad (zct (zdh c R) x).2) [] (fun r hr => by cases hr)
  have h5 := zcr (zct (zdh c R) x).2 3
  refine ⟨h1, Nat.le_trans h2 hL, h3.1, h3', Nat.le_trans h4.2 ?_, h4.1⟩
  simp only [List.length_nil, Nat.zero_add]
  exact Nat.mul_le_mul_right _ (by omega)
end Go.XL
namespace Go.XL
open Go.Proofs
set_option maxRecDepth 100000
set_option maxHeartbeats 8000000
theorem DS.lend {P : Program} {n : Nat} {r : Rr} {Q : VEnv → Sto → Prop} {k : List Fr} {E : VEnv} {S : Sto} {t : Nat} {ty : TypeId} {pos : String} {af : Array Edge} {ts : Array TypeId} {g : FuncId} {xs : Array Operand} {fn : Func} {ops l : List Oper} (S1 S2 : Sto) {R : V → Sto → Prop} {x0 : V} {pre cs : List V} {b len cap sz T : Nat} {cl : List (List V)}
    (hf : FnOk P g fn) (hd : decide (t < n) = true) (he : evsV (evV E) xs.toList = some [x0, .agg (pre ++ [.v (.slice (some ⟨b, 0, none⟩) len cap)])]) (hc : DC P g [x0.peek, .agg (pre ++ [.lst cl])] S1 R)
    (hS : zaa S b = some (.cells cs T)) (hfree : ∀ v ∈ cs, v.free = true) (hlen : cl.length = len) (hsz : ∀ c ∈ cl, c.length = sz) (hflat : cl.flatten = (cs.take (len * sz)).map V.peek) (hcap : len ≤ cap ∧ cap ≤ maxLen)
    (h1 : ∀ j o, zaa S1 j = some o → zaa (delS b S) j = some o) (h2 : ∀ j o, zaa S2 j = some o → zaa (delS b S) j = some o ∧ zaa S1 j = none)
    (hsR : ∀ v S', R v S' → Safe b (cs.take (len * sz)) v ∧ v.free = true ∧ ∀ j c T', zaa S' j = some (.cells c T') → ∀ v ∈ c, Safe b (cs.take (len * sz)) v)
    (hs2 : ∀ j c T', zaa S2 j = some (.cells c T') → ∀ v ∈ c, Safe b (cs.take (len * sz)) v)
    (q : ∀ v S0, R v S0 → (∀ j o, zaa S0 j = some o → zaa S2 j = none ∧ j ≠ b) → DS P n r Q (.ops ops l :: k) ((t, v) :: E) ((b, .cells cs T) :: (S0 ++ S2))) :
    DS P n r Q (.ops ops (⟨some t, .call { callee := .value (.func g), args := xs, argTypes := ts }, ty, pos, af, none⟩ :: l) :: k) E S := by
  refine DS.step rfl rfl hd (OpS.lend hf he (hc _) hS hfree hlen hsz hflat hcap h1 h2 hsR hs2) fun v E' S' ⟨eE, S0, eS, hR, hdis⟩ => ?_
  subst eE; subst eS
  exact q v S0 hR hdis
theorem DS.peekO {P : Program} {n : Nat} {r : Rr} {Q : VEnv → Sto → Prop} {k : List Fr} {E : VEnv} {S : Sto} {b : Nat} {l : List V} {T : TypeId} (hS : zaa S b = some (.cells l T)) (q : DS P n r Q k E (setS b (.cells (l.map V.peek) T) S)) : DS P n r Q k E S := fun K W a w ⟨K', D, hv, hold, env, hbx, ha, s⟩ hw => by
  refine q K W a w ⟨K', D, hv, hold, env, hbx, ha, ⟨s.pre, s.slot, fun j o e => ?_, s.held, s.base, s.vbase⟩⟩ hw
  rw [zba hS] at e
  split at e
  · rename_i hj
    subst hj
    simp only [Option.some.injEq] at e; subst e
    obtain ⟨o1, o2, cs, o3, o4, o5, o6⟩ := s.obj _ _ hS
    refine ⟨o1, o2, cs, o3, zid o4, o5, fun i c u hc hu => ?_⟩
    obtain ⟨v, hv, rfl⟩ := List.mem_map.1 (List.mem_of_getElem? hc)
    exact V.free_Own (zgc v) u
  · exact s.obj j o e
theorem zpk {α : Type} (f : α → V) : ∀ l : List α, chunk 1 l.length (l.map f) = l.map fun a => [f a]
  | [] => rfl
  | a :: r => by
    rw [List.length_cons, chunk, List.map_cons, List.map_cons, ← zpk f r]; rfl
theorem ptC_peek (P : List (List Int)) : chunk 1 P.length ((P.map ptC).map V.peek) = P.map cR := by
  rw [List.map_map, zpk]
  refine List.map_congr_left fun p _ => ?_
  simp only [Function.comp, ptC, cR]
  split
  · rename_i h; subst h; rfl
  · rfl
theorem zia {sz : Nat} {j : List V} : ∀ {l : List (List V)}, (∀ c ∈ l, c.length = sz) → chunk sz l.length (l.flatten ++ j) = l
  | [], _ => rfl
  | c :: r, h => by
    have hc := h c (List.mem_cons_self ..)
    rw [List.length_cons, chunk, List.flatten_cons, List.append_assoc, List.take_left' hc, List.drop_left' hc, zia fun d hd => h d (List.mem_cons_of_mem _ hd)]
theorem sits_copy (R : List Sitting) : (R.map Sitting.cells).flatten.map V.copy = (R.map Sitting.cells).flatten := by
  rw [List.map_flatten, List.map_map]; rfl
theorem zqn (R : List Sitting) : (R.map Sitting.cells).flatten.map V.peek = (R.map Sitting.cells).flatten := by
  rw [List.map_flatten, List.map_map]; rfl
theorem zqp (R : List Sitting) : ∀ v ∈ (R.map Sitting.cells).flatten, v.free = true := fun v hv => by
  obtain ⟨c, h1, h2⟩ := List.mem_flatten.1 hv
  obtain ⟨s, _, rfl⟩ := List.mem_map.1 h1
  simp only [Sitting.cells, List.mem_cons, List.not_mem_nil, or_false] at h2
  rcases h2 with rfl | rfl | rfl <;> rfl
structure SitI (bs b4 b5 : Nat) (Rs : List Sitting) (g : GR) : Prop where
  l : g.l = Rs.map Sitting.cells
  ok : g.Ok 81 3 (SR 81 g)
  nb : NB bs b4 b5 b5 g
theorem zsj (bs b4 b5 bp : Nat) (x sz st ab wi i : Int) (sh : Bool) (PL : List Int) (M : List Member) (Rs : List Sitting) (T P : List (List Int)) (g : GR) (hszB : Box (∃ z : Nat, sz = z)) (hsz : 3 ≤ sz ∧ sz ≤ 4) (hst : 0 ≤ st ∧ st ≤ 1000000) (hwi : 0 ≤ wi ∧ wi ≤ 2) (hnb : Rs.length ≤ 3) (hps : ∀ r, ((Rs.map Sitting.points ++ [P]).getD r []).length ≤ 1000) (hg : SitI bs b4 b5 Rs g)
    (n4 : ¬ bs = b4) (n4' : ¬ b4 = bs) (n5 : ¬ bs = b5) (n5' : ¬ b5 = bs) (m5 : ¬ b4 = b5) (m5' : ¬ b5 = b4) (q1 : ¬ bs = bp) (q1' : ¬ bp = bs) (q2 : ¬ b4 = bp) (q2' : ¬ bp = b4) (q3 : ¬ b5 = bp) (q3' : ¬ bp = b5) (hbp : ∀ b' cap j, g.blk = some (b', cap, j) → b' ≠ bp) {v0 : VH} {Q : VEnv → Sto → Prop} {fr : List Fr} {cd : Code} {os l : List Oper}
    (h4 : Try.f47.body.bind (regC 28) = some os) (h5 : os.drop 3 = l) (h3 : Try.f47.body.bind (zhr 28) = some cd)
    (q : ∀ g', SitI bs b4 b5 (Rs ++ [⟨T, P, (rulK sz st wi (Rs.map Sitting.points ++ [P]) (zak x 3).toNat (zad x) []).1⟩]) g' → DS Try.prog 207 ⟨none, v0⟩ Q fr [(13, I i), (0, ptr bs), (4, ptr b4), (5, ptr b5)]
      ((bs, srcO (rulK sz st wi (Rs.map Sitting.points ++ [P]) (zak x 3).toNat (zad x) []).2) :: (b5, .cells (zfk sz st ab wi PL sh (.own false 88 4 (M.map Member.cells)) g'.cell) 26) :: (b4, .cells zds 26) :: SR 81 g')) :
    DS Try.prog 207 ⟨none, v0⟩ Q (.ops os l :: .code cd :: fr)
      [(131, .agg [rows T, .v (.slice (some ⟨bp, 0, none⟩) P.length P.length), .v (.slice none 0 0)]), (13, I i), (0, ptr bs), (4, ptr b4), (5, ptr b5)] ((bp, .cells (P.map ptC) 22) :: (bs, srcO x) :: (b5, .cells (zfk sz st ab wi PL sh (.own false 88 4 (M.map Member.cells)) g.cell) 26) :: (b4, .cells zds 26) :: SR 81 g) := by
  obtain rfl := Option.some.inj ((show Try.f47.body.bind (zhr 28) = some _ from rfl).symm.trans h3)
  obtain rfl := Option.some.inj ((show Try.f47.body.bind (regC 28) = some _ from rfl).symm.trans h4)
  subst h5
  clear h4 h3
  simp only [zat, zau]
  have hdel : delS bp (SR 81 g) = SR 81 g := by
    obtain ⟨l, blk⟩ := g
    cases blk with
    | none => rfl
    | some y =>
      obtain ⟨b', cap, j⟩ := y
      simp only [SR, delS, hbp b' cap j rfl, ↓reduceIte]
  refine DS.freezeA (t := 131) (b := bp) (i := 1) (len := P.length) (cap := P.length) (sz := 1) (l := P.map ptC) (T := 22) yR yR (by simp only [zab, ↓reduceIte]) (by simp) ⟨Nat.le_refl _, ?_⟩ ?_
  · have := hps Rs.length
    rw [List.getD_eq_getElem?_getD, List.getElem?_append_right (by simp), List.length_map, Nat.sub_self] at this
    exact Nat.le_trans (m := 1000) this (by decide)
  rw [ptC_peek]
  simp only [zbj, hdel, q1, q2, q3, ↓reduceIte, zck, zce]
  repeat' (first | (refine DS.ldC (t := 134) yU yX21 yU (by simp only [List.length_cons, List.length_nil]; omega) ?_; simp only [List.take_succ_cons, List.take_zero, List.map_cons, List.map_nil, zbw, zbm, zcl, Nat.reduceAdd]) | (with_reducible first | refine DS.fltS yU yU yX21 ?_ | refine DS.opsNil ?_ | refine DS.seq ?_ | refine DS.regionL ?_) | (refine DS.bsl yU yX21 yX21 ?_; simp only [go_sem, Nat.zero_add, Nat.reduceAdd]) | (refine DS.letF (t := 14) yU yX21 yU (fun _ => by (simp (disch := omega) only [go_sem, dopV, Option.map_some, Option.map_none, Option.bind_some, Option.bind_none, ↓reduceIte, Nat.reduceEqDiff, Nat.reduceLT, Nat.reduceLeDiff, Nat.reduceAdd, Nat.reduceMul, Nat.reduceSub, Nat.zero_add, Nat.add_zero, Nat.zero_le, Nat.zero_mul, Nat.mul_one, Nat.one_mul, Int.natCast_zero, Int.toNat_zero, Int.reduceToNat, Int.reduceLT, Int.reduceLE, Int.reduceEq, decide_true, decide_false, true_and, and_true, Bool.and_self, Bool.and_true, Bool.true_and, Bool.not_true, Bool.not_false, IntWalk.toNatUp, IntWalk.iteOmega, IntWalk.i64_in, Option.isSome_some, not_true_eq_false, not_false_eq_true, Option.getD_some, Option.getD_none, Int.toNat_natCast, List.length_map, List.getElem?_map, List.getElem?_eq_getElem, V.flat, V.one, List.all_cons, List.all_nil, *, GR.cell_copy]; exact rfl)) yX21 yU (by exact ⟨by with_unfolding_all rfl, by with_unfolding_all decide⟩) (fun _ => by simp only [go_sem, Nat.reduceEqDiff, ↓reduceIte]) ?_; simp only [go_sem]) | fail)
  have hgl : g.l.length = Rs.length := by rw [hg.l, List.length_map]
  refine DS.step rfl rfl yR (OpS.appG (g := g) (ml := [[rows T, rows P, .v (.slice none 0 0)]]) rfl yH yH yR yR (by decide) yH (hg.ok.of fun d cap' jj h => ?_) yH yH (by exact Nat.zero_lt_succ _) (by intro c hc; obtain rfl := List.mem_singleton.1 hc; rfl) ⟨by rw [hgl, List.length_singleton]; omega, by decide⟩) (fun u2 E' S4 hu2 => ?_)
  · have hn := hg.nb d cap' jj h
    rw [zab, if_neg (fun h' => hn.1 h'.symm), zab, if_neg (fun h' => hn.2.2.1 h'.symm), zab, if_neg (fun h' => hn.2.1 h'.symm)]
  obtain ⟨rfl, b', cap', junk', rfl, m1, m2, m3⟩ := hu2
  have hml : g.l ++ [[rows T, rows P, V.v (.slice none 0 0)]].map (fun x => List.map V.copy x) = Rs.map Sitting.cells ++ [[rows T, rows P, V.v (.slice none 0 0)]] := by rw [hg.l]; rfl
  rw [hml] at m1 ⊢
  have e0 : b' ≠ bs ∧ b' ≠ b5 ∧ b' ≠ b4 := by
    rcases m2 with ⟨c, jj, h⟩ | h
    · have hn := hg.nb _ _ _ h
      exact ⟨hn.1, hn.2.2.1, hn.2.1⟩
    · simp only [zab] at h
      refine ⟨fun h' => ?_, fun h' => ?_, fun h' => ?_⟩
      · rw [if_pos h'.symm] at h; cases h
      · rw [if_neg (fun x => n5 (x.trans h')), if_pos h'.symm] at h; cases h
      · rw [if_neg (fun x => n4 (x.trans h')), if_neg (fun x => m5' (x.trans h')), if_pos h'.symm] at h; cases h
  obtain ⟨e1, e2, e3⟩ := e0
  have hold : ∀ d, d ≠ b' → (d = bs ∨ d = b5 ∨ d = b4) → zaa S4 d = zaa ((bs, srcO x) :: (b5, Ob.cells (zfk sz st ab wi PL sh (.own false 88 4 (M.map Member.cells)) g.cell) 26) :: (b4, .cells zds 26) :: SR 81 g) d := fun d hd hl =>
    m3 d hd fun c jj h => by
      have hn := hg.nb _ _ _ h
      rcases hl with rfl | rfl | rfl
      · exact hn.1 rfl
      · exact hn.2.2.1 rfl
      · exact hn.2.1 rfl
  have hLR : (Rs.map Sitting.cells ++ [[rows T, rows P, V.v (.slice none 0 0)]]).flatten ++ junk' = LR Rs T P (.v (.slice none 0 0)) junk' := by
    rw [LR, List.flatten_append, List.append_assoc]; rfl
  have hlook := m1.look
  rw [hLR] at hlook
  have hlen := m1.len
  have hle := m1.le
  rw [List.length_append, List.length_map, List.length_singleton] at hlen hle
  have hcap := m1.cap
  have hjf := m1.jf
  refine DS.reS (S' := [(bs, srcO x), (b5, .cells (zfk sz st ab wi PL sh (.own false 88 4 (M.map Member.cells)) g.cell) 26), (b4, .cells zds 26), (b', .cells (LR Rs T P (.v (.slice none 0 0)) junk') 81)]) (fun d o e => ?_) ?_
  · simp only [zab, zcd] at e
    by_cases c0 : bs = d
    · subst c0; rw [if_pos rfl] at e; rw [hold _ (fun h => e1 h.symm) (.inl rfl), zab, if_pos rfl]; exact e
    rw [if_neg c0] at e
    by_cases c1 : b5 = d
    · subst c1; rw [if_pos rfl] at e; rw [hold _ (fun h => e2 h.symm) (.inr (.inl rfl)), zab, if_neg c0, zab, if_pos rfl]; exact e
    rw [if_neg c1] at e
    by_cases c2 : b4 = d
    · subst c2; rw [if_pos rfl] at e; rw [hold _ (fun h => e3 h.symm) (.inr (.inr rfl)), zab, if_neg c0, zab, if_neg c1, zab, if_pos rfl]; exact e
    rw [if_neg c2] at e
    by_cases c3 : b' = d
    · subst c3; rw [if_pos rfl] at e; rw [hlook]; exact e
    · rw [if_neg c3] at e; cases e
  simp only [GR.cell_some, zcz, List.length_append, List.length_map, List.length_singleton]
  have fin : ∀ (Rul : List Ruling) (jn : List V), jn.length = junk'.length → (∀ v ∈ jn, v.free = true) → SitI bs b4 b5 (Rs ++ [⟨T, P, Rul⟩]) ⟨(Rs ++ [(⟨T, P, Rul⟩ : Sitting)]).map Sitting.cells, some (b', cap', jn)⟩ := fun Rul jn h1 h2 =>
    ⟨rfl, ⟨by simp [SR, zaa], by simp only [List.length_map, List.length_append, List.length_singleton, h1]; exact hlen, by simp only [List.length_map, List.length_append, List.length_singleton]; exact hle, hcap, h2, zqp _, fun c hc => by obtain ⟨s, _, rfl⟩ := List.mem_map.1 hc; rfl⟩, fun c1 c2 c3 h => by cases h; exact ⟨e1, e3, e2, e2⟩⟩
  have finC : ∀ (Rul : List Ruling) (jn : List V), ((Rs ++ [(⟨T, P, Rul⟩ : Sitting)]).map Sitting.cells).flatten ++ jn = LR Rs T P (.lst (Rul.map Ruling.cells)) jn := fun Rul jn => by
    rw [LR, List.map_append, List.flatten_append, List.append_assoc]; rfl
  clear hml m1 m2 m3 hold hLR hlook hg
  repeat' (first | (with_reducible first | refine DS.fltS yU yU yE ?_ | refine DS.opsNil ?_ | refine DS.seq ?_ | refine DS.regionL ?_) | (refine DS.store yR yE yE yE yE yU (by exact ⟨by with_unfolding_all rfl, by (try simp only [List.length_map, List.length_append, List.length_set, List.length_replicate, List.length_cons, List.length_nil]); omega⟩) ?_; simp only [zbu, zaw, zbd, zcf, zbq, zbn, zbr]; try simp only [zal, zac, zae, Nat.reduceEqDiff, ↓reduceIte, zag, zah, zao, zaf, zaj, zam, zai]) | fail)
  simp only [setS, n5, ↓reduceIte]
  refine DS.weaken (E' := [(138, ptr bs), (13, I i), (0, ptr bs), (4, ptr b4), (5, ptr b5)]) (S' := [(bs, srcO x), (b5, .cells (zfk sz st ab wi PL sh (.own false 88 4 (M.map Member.cells)) (.v (.slice (some ⟨b', 0, none⟩) (Rs.length + 1) cap'))) 26), (b4, .cells zds 26), (b', .cells (LR Rs T P (.v (.slice none 0 0)) junk') 81)]) (zdf (by simp (disch := omega) only [go_sem, ↓reduceIte, Nat.reduceEqDiff, zdw, zeg, and_self])) (fun _ _ e => e) ?_
  refine club_rul bs b4 b5 b' cap' x sz st ab wi i sh PL M Rs T P junk' hszB hsz hst hwi (by omega) hps n4 n4' n5 n5' m5 m5' (fun h => e1 h.symm) e1 (fun h => e3 h.symm) e3 (fun h => e2 h.symm) e2 yR yR yR (fun gr hgr => ?_)
  have g2 : ¬ b5 = b' := fun h => e2 h.symm
  have g1 : ¬ bs = b' := fun h => e1 h.symm
  have g3 : ¬ b4 = b' := fun h => e3 h.symm
  obtain ⟨hrl, hrok, hrnb⟩ := hgr
  obtain ⟨grl, blk⟩ := gr
  dsimp only at hrl
  subst hrl
  cases blk with
  | none =>
    have hnil : (rulK sz st wi (Rs.map Sitting.points ++ [P]) (zak x 3).toNat (zad x) []).1.map Ruling.cells = [] := hrok
    refine DS.peekO (b := b') (l := LR Rs T P (.v (.slice none 0 0)) junk') (T := 81) (by simp only [zab, g1, g2, g3, ↓reduceIte, GR.cell_none]) ?_
    have h1 : (LR Rs T P (.v (.slice none 0 0)) junk').map V.peek = LR Rs T P (.lst ((rulK sz st wi (Rs.map Sitting.points ++ [P]) (zak x 3).toNat (zad x) []).1.map Ruling.cells)) (junk'.map V.peek) := by
      rw [hnil, LR, List.map_append, zqn, List.map_append]; rfl
    rw [h1, ← finC]
    refine DS.reS (fun d o e => ?_) (q _ (fin _ (junk'.map V.peek) (by rw [List.length_map]) (fun v hv => by obtain ⟨w, _, rfl⟩ := List.mem_map.1 hv; exact zgc w)))
    simp only [setS, g1, g2, g3, ↓reduceIte, GR.cell_some, SR, List.length_map, List.length_append, List.length_singleton] at e ⊢
    exact e
  | some y =>
    obtain ⟨br, capr, jr⟩ := y
    have hb := hrnb br capr jr rfl
    have o1 : ¬ b' = br := fun h => hb.2.2.2 h.symm
    have o2 : ¬ b5 = br := fun h => hb.2.2.1 h.symm
    have o3 : ¬ b4 = br := fun h => hb.2.1 h.symm
    have o4 : ¬ bs = br := fun h => hb.1 h.symm
    refine DS.freezeC (b := br) (b' := b') (i := Rs.length * 3 + 2) (sz := 3) (len := ((rulK sz st wi (Rs.map Sitting.points ++ [P]) (zak x 3).toNat (zad x) []).1.map Ruling.cells).length) (cap := capr) (l' := LR Rs T P (GR.cell ⟨(rulK sz st wi (Rs.map Sitting.points ++ [P]) (zak x 3).toNat (zad x) []).1.map Ruling.cells, some (br, capr, jr)⟩) junk') (l := ((rulK sz st wi (Rs.map Sitting.points ++ [P]) (zak x 3).toNat (zad x) []).1.map Ruling.cells).flatten ++ jr) (T := 78) (T' := 81) o1 (by simp only [zab, g1, g2, g3, ↓reduceIte]) (LR_get2 _ _ _ _ _ rfl) (by simp only [zab, o1, o2, o3, o4, SR, ↓reduceIte]) (by have := hrok.len; rw [List.length_append, zgu hrok.ll]; omega) ⟨hrok.le, hrok.cap⟩ ?_
    have hch : chunk 3 ((rulK sz st wi (Rs.map Sitting.points ++ [P]) (zak x 3).toNat (zad x) []).1.map Ruling.cells).length ((((rulK sz st wi (Rs.map Sitting.points ++ [P]) (zak x 3).toNat (zad x) []).1.map Ruling.cells).flatten ++ jr).map V.copy) = (rulK sz st wi (Rs.map Sitting.points ++ [P]) (zak x 3).toNat (zad x) []).1.map Ruling.cells := by
      rw [List.map_append, List.map_flatten, List.map_map]
      exact zia (fun c hc => hrok.ll c hc)
    rw [hch, LR_set2 _ _ _ _ _ _ rfl, ← finC]
    refine DS.reS (fun d o e => ?_) (q _ (fin _ junk' rfl hjf))
    simp only [setS, delS, g1, g2, g3, o1, o2, o3, o4, ↓reduceIte, GR.cell_some, SR, List.length_map, List.length_append, List.length_singleton] at e ⊢
    exact e
theorem club_rounds (bs b4 b5 : Nat) (x most sz st ab wi : Int) (sh : Bool) (PL : List Int) (M : List Member) (hm : 0 ≤ most ∧ most ≤ 3) (hszB : Box (∃ z : Nat, sz = z)) (hsz : 3 ≤ sz ∧ sz ≤ 4) (hst : 0 ≤ st ∧ st ≤ 1000000) (hwi : 0 ≤ wi ∧ wi ≤ 2) (hM : M.length ≤ 13) (hPL : PL.length ≤ 4)
    (n4 : ¬ bs = b4) (n4' : ¬ b4 = bs) (n5 : ¬ bs = b5) (n5' : ¬ b5 = bs) (m5 : ¬ b4 = b5) (m5' : ¬ b5 = b4) {v0 : VH} {R : V → Sto → Prop} {os l : List Oper} {a c b : Code}
    (h1 : Try.f47.body.bind (forC 25) = some (a, c, b)) (h2 : Try.f47.body.bind (regC 25) = some os) (h3 : os.drop 3 = l)
    (hR : R (zdh ⟨sz, st, ab, wi, PL, sh, M, []⟩ (zeh ⟨sz, st, ab, wi, PL, sh, M, []⟩ (zak x (most + 1)).toNat (zad x) []).1).val [(bs, srcO (zeh ⟨sz, st, ab, wi, PL, sh, M, []⟩ (zak x (most + 1)).toNat (zad x) []).2)]) :
    DS Try.prog 207 ⟨none, v0⟩ (FinV Try.prog [ResultVar.cell 4 26] R) [.ops os l, .code c, .code b]
      [(121, ptr bs), (123, I (most + 1)), (0, ptr bs), (4, ptr b4), (5, ptr b5)] [(bs, srcO x), (b5, .cells (zfk sz st ab wi PL sh (.own false 88 4 (M.map Member.cells)) (.v (.slice none 0 0))) 26), (b4, .cells zds 26)] := by
  have h1 := Option.some.inj ((show Try.f47.body.bind (forC 25) = some _ from rfl).symm.trans h1)
  obtain ⟨rfl, rfl, rfl⟩ := Prod.mk.inj h1 |>.imp id Prod.mk.inj
  obtain rfl := Option.some.inj ((show Try.f47.body.bind (regC 25) = some _ from rfl).symm.trans h2)
  subst h3
  clear h1 h2
  simp only [zat, zau]
  have k1 := zcr x (most + 1)
  repeat' (first | (with_reducible first | refine DS.fltS yU yU yE ?_ | refine DS.opsNil ?_ | refine DS.block ?_) | (refine DS.scS inferInstance (zde bs x (most + 1) (by omega)) yR yT yT ?_; (try simp only [zbj, zbt, ↓reduceIte, *])) | fail)
  obtain ⟨N, hN⟩ : ∃ N : Nat, (N : Int) = zak x (most + 1) := ⟨(zak x (most + 1)).toNat, by omega⟩
  have hNN : (zak x (most + 1)).toNat = N := by omega
  rw [hNN] at hR
  refine DS.loopS [0, 4, 5] (by (simp only [go_sem, Nat.reduceEqDiff, ↓reduceIte]; exact rfl)) (fun (y : Nat × Int × Int × List Sitting × GR) => [(13, I y.2.1)]) (fun (y : Nat × Int × Int × List Sitting × GR) => (bs, srcO y.2.2.1) :: (b5, .cells (zfk sz st ab wi PL sh (.own false 88 4 (M.map Member.cells)) y.2.2.2.2.cell) 26) :: (b4, .cells zds 26) :: SR 81 y.2.2.2.2) (fun (y : Nat × Int × Int × List Sitting × GR) => (y.2.1 ≤ y.1 ∧ (y.1 : Int) ≤ y.2.1) ∧ y.2.2.2.1.length + y.1 ≤ 3 ∧ SitI bs b4 b5 y.2.2.2.1 y.2.2.2.2 ∧ (∀ s ∈ y.2.2.2.1, MadeR sz 15 s) ∧ zeh ⟨sz, st, ab, wi, PL, sh, M, []⟩ N (zad x) [] = zeh ⟨sz, st, ab, wi, PL, sh, M, []⟩ y.1 y.2.2.1 y.2.2.2.1) (fun (y : Nat × Int × Int × List Sitting × GR) => y.1) (N, zak x (most + 1), zad x, [], ⟨[], none⟩) yS (fun b o e => by exact e) ⟨by dsimp only; omega, by dsimp only [List.length_nil]; omega, ⟨rfl, rfl, fun _ _ _ e => by cases e⟩, (fun s hs => by cases hs), rfl⟩ (fun y B hI hB => ?_); try dsimp only at hI hB; simp only [zap, zar]
  obtain ⟨k, cnt, x1, Rs, g⟩ := y
  dsimp only at hI hB ⊢
  obtain ⟨g1, g2, g3, g4, g5⟩ := hI
  obtain ⟨l, blk⟩ := g
  obtain rfl : l = Rs.map Sitting.cells := g3.l
  have hsm : (zdh ⟨sz, st, ab, wi, PL, sh, M, []⟩ Rs).Small := ⟨by show PL.length ≤ _; omega, by show M.length ≤ _; omega, by show Rs.length ≤ _; omega, fun s hs => (g4 s hs).small (by omega) (by omega)⟩
  have hrd := round_dc bs x1 (zdh ⟨sz, st, ab, wi, PL, sh, M, []⟩ Rs) hsm hsz hst
  have hmade := zmu ⟨sz, st, ab, wi, PL, sh, M, []⟩ x1 Rs 15 (by show 1 ≤ sz; omega) (by show M.length + 2 ≤ 15; omega) g4
  have hplen := hmade.plen
  have H := Box.mk (And.intro g3 (And.intro g4 (And.intro g5 (And.intro hR (And.intro hN (And.intro hmade hplen))))))
  clear g4 g5 hR hN hNN hmade hplen
  by_cases e0 : 0 < cnt
  · have next : ∀ g', SitI bs b4 b5 (Rs ++ [⟨(zaz (zdh ⟨sz, st, ab, wi, PL, sh, M, []⟩ Rs) x1).1, (zct (zdh ⟨sz, st, ab, wi, PL, sh, M, []⟩ Rs) x1).1, (zig ⟨sz, st, ab, wi, PL, sh, M, []⟩ x1 Rs).1⟩]) g' → zeh ⟨sz, st, ab, wi, PL, sh, M, []⟩ N (zad x) [] = zeh ⟨sz, st, ab, wi, PL, sh, M, []⟩ (k - 1) (zig ⟨sz, st, ab, wi, PL, sh, M, []⟩ x1 Rs).2 (Rs ++ [⟨(zaz (zdh ⟨sz, st, ab, wi, PL, sh, M, []⟩ Rs) x1).1, (zct (zdh ⟨sz, st, ab, wi, PL, sh, M, []⟩ Rs) x1).1, (zig ⟨sz, st, ab, wi, PL, sh, M, []⟩ x1 Rs).1⟩]) := fun g' _ => by
      obtain ⟨k', rfl⟩ : ∃ k', k = k' + 1 := ⟨k - 1, by omega⟩
      rw [H.out.2.2.1, zeh]; rfl
    have hpsL : ∀ r, ((Rs.map Sitting.points ++ [(zct (zdh ⟨sz, st, ab, wi, PL, sh, M, []⟩ Rs) x1).1]).getD r []).length ≤ 1000 := getD_le (fun p hp => by
      rcases List.mem_append.1 hp with hp | hp
      · obtain ⟨s, hs, rfl⟩ := List.mem_map.1 hp
        rw [(H.out.2.1 s hs).plen]; exact Nat.le_trans (H.out.2.1 s hs).len (by omega)
      · obtain rfl := List.mem_singleton.1 hp
        have h1 := H.out.2.2.2.2.2.2
        have h2 := H.out.2.2.2.2.2.1.len
        dsimp only at h1 h2
        omega)
    cases blk with
    | none =>
      have hnil : Rs = [] := by
        have : Rs.map Sitting.cells = [] := g3.ok
        simpa using this
      simp only [GR.cell_none, SR]
      repeat' (first | (with_reducible first | refine DS.fltS yU yU yE ?_ | refine DS.opsNil ?_ | refine DS.seq ?_ | refine DS.regionL ?_ | (refine DS.cE yE ?_; refine CG.yes ?_) | refine DS.block ?_ | refine DS.skip ?_) | fail)
      subst hnil
      refine DS.call (dst := some 131) [(bs, srcO x1)] [(b5, .cells (zfk sz st ab wi PL sh (.own false 88 4 (M.map Member.cells)) (.v (.slice none 0 0))) 26), (b4, .cells zds 26)] inferInstance hrd yR yH (fun d o e => ?_) (fun d o e => ?_) (fun v S0 hR0 hdis => ?_)
      · simp only [zab, zcd] at e ⊢
        by_cases c0 : bs = d
        · rw [if_pos c0] at e ⊢; exact e
        · rw [if_neg c0] at e; cases e
      · have c0 : ¬ bs = d := fun h => by subst h; simp only [zab, zcd, n5', n4', ↓reduceIte] at e; cases e
        refine ⟨by rw [zab, if_neg c0]; exact e, by rw [zab, if_neg c0]; rfl⟩
      obtain ⟨bp, hbp, rfl, rfl⟩ := hR0
      have hn := hdis bp _ (by rw [zab, if_pos rfl])
      have d5 : ¬ b5 = bp := fun h => by rw [zab, if_pos h] at hn; cases hn
      have d4 : ¬ b4 = bp := fun h => by rw [zab, if_neg d5, zab, if_pos h] at hn; cases hn
      clear hn hdis
      have hpl := H.out.2.2.2.2.2.2
      dsimp only at hpl
      refine DS.weaken (E' := [(131, .agg [rows (zaz (zdh ⟨sz, st, ab, wi, PL, sh, M, []⟩ []) x1).1, .v (.slice (some ⟨bp, 0, none⟩) (zct (zdh ⟨sz, st, ab, wi, PL, sh, M, []⟩ []) x1).1.length (zct (zdh ⟨sz, st, ab, wi, PL, sh, M, []⟩ []) x1).1.length), .v (.slice none 0 0)]), (13, I cnt), (0, ptr bs), (4, ptr b4), (5, ptr b5)]) (S' := (bp, .cells ((zct (zdh ⟨sz, st, ab, wi, PL, sh, M, []⟩ []) x1).1.map ptC) 22) :: (bs, srcO (zct (zdh ⟨sz, st, ab, wi, PL, sh, M, []⟩ []) x1).2) :: (b5, .cells (zfk sz st ab wi PL sh (.own false 88 4 (M.map Member.cells)) (GR.cell ⟨[], none⟩)) 26) :: (b4, .cells zds 26) :: SR 81 ⟨[], none⟩) (zdf (by rw [hpl]; simp (disch := omega) only [go_sem, ↓reduceIte, Nat.reduceEqDiff, zdw, zeg, and_self, zap, zar])) (fun d o e => ?_) ?_
      · exact e
      refine zsj bs b4 b5 bp (zct (zdh ⟨sz, st, ab, wi, PL, sh, M, []⟩ []) x1).2 sz st ab wi cnt sh PL M [] (zaz (zdh ⟨sz, st, ab, wi, PL, sh, M, []⟩ []) x1).1 (zct (zdh ⟨sz, st, ab, wi, PL, sh, M, []⟩ []) x1).1 ⟨[], none⟩ hszB hsz hst hwi (by omega) hpsL g3 n4 n4' n5 n5' m5 m5' (fun h => hbp h.symm) hbp (fun h => d4 h) (fun h => d4 h.symm) (fun h => d5 h) (fun h => d5 h.symm) (fun _ _ _ e => by cases e) yR yR yR (fun g' hg' => ?_)
      have nx := next g' hg'
      have H4 := Box.mk (And.intro nx hg')
      clear nx hg' next hpl
      repeat' (first | (with_reducible first | refine DS.fltS yU yU yE ?_ | refine DS.opsNil ?_ | refine DS.regionL ?_ | refine DS.blk ?_) | fail)
      refine DS.back (hB (k - 1, cnt - 1, (zig ⟨sz, st, ab, wi, PL, sh, M, []⟩ x1 []).2, [] ++ [(⟨(zaz (zdh ⟨sz, st, ab, wi, PL, sh, M, []⟩ []) x1).1, (zct (zdh ⟨sz, st, ab, wi, PL, sh, M, []⟩ []) x1).1, (zig ⟨sz, st, ab, wi, PL, sh, M, []⟩ x1 []).1⟩ : Sitting)], g') _ _ (by dsimp only; omega) ⟨by dsimp only; omega, by dsimp only; rw [List.length_append, List.length_singleton]; omega, H4.out.2, (fun s hs => ?_), H4.out.1⟩ yS yS (fun d o e => e))
      rcases List.mem_append.1 hs with hs | hs
      · exact H.out.2.1 s hs
      · obtain rfl := List.mem_singleton.1 hs
        exact H.out.2.2.2.2.2.1
    | some y =>
      obtain ⟨bb, cap, j⟩ := y
      have hb := g3.nb bb cap j rfl
      have o1 : ¬ bs = bb := fun h => hb.1 h.symm
      have o2 : ¬ b4 = bb := fun h => hb.2.1 h.symm
      have o3 : ¬ b5 = bb := fun h => hb.2.2.1 h.symm
      have hok : GR.At 81 3 (SR 81 ⟨Rs.map Sitting.cells, some (bb, cap, j)⟩) (Rs.map Sitting.cells) bb cap j := g3.ok
      have hle := hok.le
      rw [List.length_map] at hle
      have hcap := hok.cap
      have hjf := hok.jf
      have htk : ((Rs.map Sitting.cells).flatten ++ j).take (Rs.length * 3) = (Rs.map Sitting.cells).flatten := List.take_left' (zfw Rs)
      have hsl := sit_safe Rs
      have hrows := H.out.2.2.2.2.2.1.rows
      dsimp only at hrows
      have HH := Box.mk (And.intro htk (And.intro hle (And.intro hcap (And.intro hjf (And.intro hsl hrows)))))
      clear htk hle hcap hjf hsl hrows hok
      simp only [GR.cell_some, SR, List.length_map]
      repeat' (first | (with_reducible first | refine DS.fltS yU yU yE ?_ | refine DS.opsNil ?_ | refine DS.seq ?_ | refine DS.regionL ?_ | (refine DS.cE yE ?_; refine CG.yes ?_) | refine DS.block ?_ | refine DS.skip ?_) | fail)
      obtain ⟨htk, hle, hcap, hjf, hsl, hrows⟩ := HH.out
      refine DS.lend (t := 131) (S1 := [(bs, srcO x1)]) (S2 := [(b5, .cells (zfk sz st ab wi PL sh (.own false 88 4 (M.map Member.cells)) (.v (.slice (some ⟨bb, 0, none⟩) Rs.length cap))) 26), (b4, .cells zds 26)]) (x0 := ptr bs) (pre := [I sz, I st, I ab, I wi, ints PL, Bo sh, .lst (M.map Member.cells)]) (cs := (Rs.map Sitting.cells).flatten ++ j) (b := bb) (len := Rs.length) (cap := cap) (sz := 3) (T := 81) (cl := Rs.map Sitting.cells) (R := zoh bs x1 (zdh ⟨sz, st, ab, wi, PL, sh, M, []⟩ Rs)) inferInstance yR yH hrd (by simp only [zab, o1, o2, o3, ↓reduceIte])
        (fun v hv => (List.mem_append.1 hv).elim (zqp Rs v) (hjf v)) (by rw [List.length_map]) (fun c hc => by obtain ⟨s, _, rfl⟩ := List.mem_map.1 hc; rfl) (by rw [htk, zqn]) ⟨hle, hcap⟩ (fun d o e => ?_) (fun d o e => ?_) (fun v S' hv => ?_) (fun d c T' e v hv => ?_) (fun v S0 hR0 hdis => ?_)
      · simp only [zab, zcd, zbj, zbt, o1, o2, o3, ↓reduceIte] at e ⊢
        by_cases c0 : bs = d
        · rw [if_pos c0] at e ⊢; exact e
        · rw [if_neg c0] at e; cases e
      · have c0 : ¬ bs = d := fun h => by subst h; simp only [zab, zcd, n5', n4', ↓reduceIte] at e; cases e
        simp only [zbj, zbt, o1, o2, o3, ↓reduceIte]
        refine ⟨by rw [zab, if_neg c0]; exact e, by rw [zab, if_neg c0]; rfl⟩
      · obtain ⟨bp, hbp, rfl, rfl⟩ := hv
        rw [htk]
        refine ⟨Safe.agg fun v hv => ?_, rfl, fun d c T' e v hv => ?_⟩
        · simp only [List.mem_cons, List.not_mem_nil, or_false] at hv
          rcases hv with rfl | rfl | rfl
          · exact Safe.rows hsl (fun r hr => by have := hrows r hr; omega)
          · exact Safe.v _
          · exact Safe.v _
        · simp only [zab, zcd] at e
          by_cases c0 : bp = d
          · rw [if_pos c0] at e; cases e
            obtain ⟨p, _, rfl⟩ := List.mem_map.1 hv
            unfold ptC
            split
            · exact Safe.v _
            · exact Safe.ints (fun v hv => (hsl v hv).1) p
          rw [if_neg c0] at e
          by_cases c1 : bs = d
          · rw [if_pos c1] at e; cases e
            obtain rfl := List.mem_singleton.1 hv
            exact Safe.v _
          · rw [if_neg c1] at e; cases e
      · rw [htk]
        simp only [zab, zcd] at e
        by_cases c0 : b5 = d
        · rw [if_pos c0] at e; cases e
          simp only [zfk, List.mem_cons, List.not_mem_nil, or_false] at hv
          rcases hv with rfl | rfl | rfl | rfl | rfl | rfl | rfl | rfl
          · exact Safe.v _
          · exact Safe.v _
          · exact Safe.v _
          · exact Safe.v _
          · exact (Safe.ints (fun v hv => (hsl v hv).1) PL).own
          · exact Safe.v _
          · refine (Safe.nums (fun v hv => (hsl v hv).1) fun c hc v hv => ?_).own
            obtain ⟨m, _, rfl⟩ := List.mem_map.1 hc
            simp only [Member.cells, List.mem_cons, List.not_mem_nil, or_false] at hv
            rcases hv with rfl | rfl | rfl | rfl <;> exact ⟨_, rfl, fun _ _ _ h => by cases h⟩
          · exact Safe.v _
        rw [if_neg c0] at e
        by_cases c1 : b4 = d
        · rw [if_pos c1] at e; cases e
          simp only [zds, List.mem_cons, List.not_mem_nil, or_false] at hv
          rcases hv with rfl | rfl | rfl | rfl | rfl | rfl | rfl | rfl <;> exact Safe.v _
        · rw [if_neg c1] at e; cases e
      clear htk hle hcap hjf hsl hrows
      obtain ⟨bp, hbp, rfl, rfl⟩ := hR0
      obtain ⟨hn, hnb⟩ := hdis bp _ (by rw [zab, if_pos rfl])
      have d5 : ¬ b5 = bp := fun h => by rw [zab, if_pos h] at hn; cases hn
      have d4 : ¬ b4 = bp := fun h => by rw [zab, if_neg d5, zab, if_pos h] at hn; cases hn
      clear hn hdis
      have hpl := H.out.2.2.2.2.2.2
      dsimp only at hpl
      refine DS.weaken (E' := [(131, .agg [rows (zaz (zdh ⟨sz, st, ab, wi, PL, sh, M, []⟩ Rs) x1).1, .v (.slice (some ⟨bp, 0, none⟩) (zct (zdh ⟨sz, st, ab, wi, PL, sh, M, []⟩ Rs) x1).1.length (zct (zdh ⟨sz, st, ab, wi, PL, sh, M, []⟩ Rs) x1).1.length), .v (.slice none 0 0)]), (13, I cnt), (0, ptr bs), (4, ptr b4), (5, ptr b5)]) (S' := (bp, .cells ((zct (zdh ⟨sz, st, ab, wi, PL, sh, M, []⟩ Rs) x1).1.map ptC) 22) :: (bs, srcO (zct (zdh ⟨sz, st, ab, wi, PL, sh, M, []⟩ Rs) x1).2) :: (b5, .cells (zfk sz st ab wi PL sh (.own false 88 4 (M.map Member.cells)) (GR.cell ⟨Rs.map Sitting.cells, some (bb, cap, j)⟩)) 26) :: (b4, .cells zds 26) :: SR 81 ⟨Rs.map Sitting.cells, some (bb, cap, j)⟩) (zdf (by rw [hpl]; simp (disch := omega) only [go_sem, ↓reduceIte, Nat.reduceEqDiff, zdw, zeg, and_self, zap, zar])) (fun d o e => ?_) ?_
      · simp only [GR.cell_some, SR, List.length_map, zab, zcd, zap, zar] at e ⊢
        by_cases c0 : bb = d
        · subst c0
          rw [if_pos rfl]
          rw [if_neg (fun h => hnb h), if_neg o1, if_neg o3, if_neg o2, if_pos rfl] at e
          exact e
        · rw [if_neg c0]
          rw [if_neg c0] at e
          exact e
      refine zsj bs b4 b5 bp (zct (zdh ⟨sz, st, ab, wi, PL, sh, M, []⟩ Rs) x1).2 sz st ab wi cnt sh PL M Rs (zaz (zdh ⟨sz, st, ab, wi, PL, sh, M, []⟩ Rs) x1).1 (zct (zdh ⟨sz, st, ab, wi, PL, sh, M, []⟩ Rs) x1).1 ⟨Rs.map Sitting.cells, some (bb, cap, j)⟩ hszB hsz hst hwi (by omega) hpsL g3 n4 n4' n5 n5' m5 m5' (fun h => hbp h.symm) hbp (fun h => d4 h) (fun h => d4 h.symm) (fun h => d5 h) (fun h => d5 h.symm) (fun b' c' j' h => by cases h; exact fun h => hnb h.symm) yR yR yR (fun g' hg' => ?_)
      have nx := next g' hg'
      have H4 := Box.mk (And.intro nx hg')
      clear nx hg' next hpl
      repeat' (first | (with_reducible first | refine DS.fltS yU yU yE ?_ | refine DS.opsNil ?_ | refine DS.regionL ?_ | refine DS.blk ?_) | fail)
      refine DS.back (hB (k - 1, cnt - 1, (zig ⟨sz, st, ab, wi, PL, sh, M, []⟩ x1 Rs).2, Rs ++ [(⟨(zaz (zdh ⟨sz, st, ab, wi, PL, sh, M, []⟩ Rs) x1).1, (zct (zdh ⟨sz, st, ab, wi, PL, sh, M, []⟩ Rs) x1).1, (zig ⟨sz, st, ab, wi, PL, sh, M, []⟩ x1 Rs).1⟩ : Sitting)], g') _ _ (by dsimp only; omega) ⟨by dsimp only; omega, by dsimp only; rw [List.length_append, List.length_singleton]; omega, H4.out.2, (fun s hs => ?_), H4.out.1⟩ yS yS (fun d o e => e))
      rcases List.mem_append.1 hs with hs | hs
      · exact H.out.2.1 s hs
      · obtain rfl := List.mem_singleton.1 hs
        exact H.out.2.2.2.2.2.1
  · obtain rfl : k = 0 := by omega
    cases blk with
    | none =>
      have hnil : Rs = [] := by
        have : Rs.map Sitting.cells = [] := g3.ok
        simpa using this
      simp only [GR.cell_none, SR]
      repeat' (first | (with_reducible first | refine DS.fltS yU yU yE ?_ | refine DS.opsNil ?_ | refine DS.seq ?_ | refine DS.regionL ?_ | (refine DS.cE yE ?_; refine CG.no ?_) | refine DS.exit yU ?_) | (refine DS.store yR yE yE yE yE yU (by exact ⟨by with_unfolding_all rfl, by (try simp only [List.length_map, List.length_append, List.length_set, List.length_replicate, List.length_cons, List.length_nil]); omega⟩) ?_; simp only [zbu, zaw, zbd, zcf, zbq, zbn, zbr]; try simp only [zal, zac, zae, Nat.reduceEqDiff, ↓reduceIte, zag, zah, zao, zaf, zaj, zam, zai]) | fail)
      subst hnil
      simp only [zds, List.map_cons, List.map_nil, zcl, zbm, zaw, zbd, zck, zce, setS, n4, m5', ↓reduceIte, Nat.reduceAdd, Nat.zero_add]
      have hRR := H.out.2.2.2.1
      rw [H.out.2.2.1, zeh] at hRR
      refine DS.retW [(bs, srcO x1)] (vs := [(zdh ⟨sz, st, ab, wi, PL, sh, M, []⟩ []).val]) yH (fun d o e => ?_) hRR
      simp only [zab, zcd] at e ⊢
      by_cases c0 : bs = d
      · rw [if_pos c0] at e ⊢; exact e
      · rw [if_neg c0] at e; cases e
    | some y =>
      obtain ⟨bb, cap, j⟩ := y
      have hb := g3.nb bb cap j rfl
      have o1 : ¬ bs = bb := fun h => hb.1 h.symm
      have o2 : ¬ b4 = bb := fun h => hb.2.1 h.symm
      have o3 : ¬ b5 = bb := fun h => hb.2.2.1 h.symm
      have hok : GR.At 81 3 (SR 81 ⟨Rs.map Sitting.cells, some (bb, cap, j)⟩) (Rs.map Sitting.cells) bb cap j := g3.ok
      simp only [GR.cell_some, SR, List.length_map]
      refine DS.freezeC (b := bb) (b' := b5) (i := 7) (sz := 3) (len := Rs.length) (cap := cap) (l' := zfk sz st ab wi PL sh (.own false 88 4 (M.map Member.cells)) (.v (.slice (some ⟨bb, 0, none⟩) Rs.length cap))) (l := (Rs.map Sitting.cells).flatten ++ j) (T := 81) (T' := 26) o3 (by simp only [zab, n5, ↓reduceIte]) yR (by simp only [zab, o1, o2, o3, ↓reduceIte]) (by rw [List.length_append, zfw]; omega) ⟨by have := hok.le; rw [List.length_map] at this; exact this, hok.cap⟩ ?_
      have hch : chunk 3 Rs.length (((Rs.map Sitting.cells).flatten ++ j).map V.copy) = Rs.map Sitting.cells := by
        rw [List.map_append, sits_copy]
        have := zia (sz := 3) (j := j.map V.copy) (l := Rs.map Sitting.cells) (fun c hc => by obtain ⟨s, _, rfl⟩ := List.mem_map.1 hc; rfl)
        rw [List.length_map] at this; exact this
      rw [hch]
      clear hch hok
      simp only [setS, zbj, zbt, o1, o2, o3, n5, ↓reduceIte, zck, zce, zfk]
      repeat' (first | (with_reducible first | refine DS.fltS yU yU yE ?_ | refine DS.opsNil ?_ | refine DS.seq ?_ | refine DS.regionL ?_ | (refine DS.cE yE ?_; refine CG.no ?_) | refine DS.exit yU ?_) | (refine DS.store yR yE yE yE yE yU (by exact ⟨by with_unfolding_all rfl, by (try simp only [List.length_map, List.length_append, List.length_set, List.length_replicate, List.length_cons, List.length_nil]); omega⟩) ?_; simp only [zbu, zaw, zbd, zcf, zbq, zbn, zbr]; try simp only [zal, zac, zae, Nat.reduceEqDiff, ↓reduceIte, zag, zah, zao, zaf, zaj, zam, zai]) | fail)
      simp only [zds, List.map_cons, List.map_nil, zcl, zbm, zaw, zbd, zck, zce, setS, n4, m5', ↓reduceIte, Nat.reduceAdd, Nat.zero_add]
      have hRR := H.out.2.2.2.1
      rw [H.out.2.2.1, zeh] at hRR
      refine DS.retW [(bs, srcO x1)] (vs := [(zdh ⟨sz, st, ab, wi, PL, sh, M, []⟩ Rs).val]) yH (fun d o e => ?_) hRR
      simp only [zab, zcd] at e ⊢
      by_cases c0 : bs = d
      · rw [if_pos c0] at e ⊢; exact e
      · rw [if_neg c0] at e; cases e
end Go.XL
namespace Go.XL
open Go.Proofs
set_option maxRecDepth 100000
set_option maxHeartbeats 8000000
theorem yX32 {p : Prop} (h : p := by (simp (disch := omega) only [go_sem, dopV, Option.map_some, Option.map_none, Option.bind_some, Option.bind_none, ↓reduceIte, Nat.reduceEqDiff, Nat.reduceLT, Nat.reduceLeDiff, Nat.reduceAdd, Nat.reduceMul, Nat.reduceSub, Nat.zero_add, Nat.add_zero, Nat.zero_le, Nat.zero_mul, Nat.mul_one, Nat.one_mul, Int.natCast_zero, Int.toNat_zero, Int.reduceToNat, Int.reduceLT, Int.reduceLE, Int.reduceEq, decide_true, decide_false, true_and, and_true, Bool.and_self, Bool.and_true, Bool.true_and, Bool.not_true, Bool.not_false, IntWalk.toNatUp, IntWalk.iteOmega, IntWalk.i64_in, Option.isSome_some, not_true_eq_false, not_false_eq_true, Option.getD_some, Option.getD_none, Int.toNat_natCast, List.length_map, List.getElem?_map, List.getElem?_eq_getElem, V.flat, V.one, List.all_cons, List.all_nil, *, Value.oneCell']; try exact rfl)) : p := h
theorem yX33 {p : Prop} (h : p := by first | exact rfl | (simp (disch := omega) only [go_sem, dopV, Option.map_some, Option.map_none, Option.bind_some, Option.bind_none, ↓reduceIte, Nat.reduceEqDiff, Nat.reduceLT, Nat.reduceLeDiff, Nat.reduceAdd, Nat.reduceMul, Nat.reduceSub, Nat.zero_add, Nat.add_zero, Nat.zero_le, Nat.zero_mul, Nat.mul_one, Nat.one_mul, Int.natCast_zero, Int.toNat_zero, Int.reduceToNat, Int.reduceLT, Int.reduceLE, Int.reduceEq, decide_true, decide_false, true_and, and_true, Bool.and_self, Bool.and_true, Bool.true_and, Bool.not_true, Bool.not_false, IntWalk.toNatUp, IntWalk.iteOmega, IntWalk.i64_in, Option.isSome_some, not_true_eq_false, not_false_eq_true, Option.getD_some, Option.getD_none, Int.toNat_natCast, List.length_map, List.getElem?_map, List.getElem?_eq_getElem, V.flat, V.one, List.all_cons, List.all_nil, *, Value.oneCell']; exact rfl)) : p := h
theorem yX34 {p : Prop} (h : p := by (simp (disch := omega) only [go_sem, dopV, Option.map_some, Option.map_none, Option.bind_some, Option.bind_none, ↓reduceIte, Nat.reduceEqDiff, Nat.reduceLT, Nat.reduceLeDiff, Nat.reduceAdd, Nat.reduceMul, Nat.reduceSub, Nat.zero_add, Nat.add_zero, Nat.zero_le, Nat.zero_mul, Nat.mul_one, Nat.one_mul, Int.natCast_zero, Int.toNat_zero, Int.reduceToNat, Int.reduceLT, Int.reduceLE, Int.reduceEq, decide_true, decide_false, true_and, and_true, Bool.and_self, Bool.and_true, Bool.true_and, Bool.not_true, Bool.not_false, IntWalk.toNatUp, IntWalk.iteOmega, IntWalk.i64_in, Option.isSome_some, not_true_eq_false, not_false_eq_true, Option.getD_some, Option.getD_none, Int.toNat_natCast, List.length_map, List.getElem?_map, List.getElem?_eq_getElem, V.flat, V.one, List.all_cons, List.all_nil, *, Value.oneCell']; first | done | exact rfl)) : p := h
theorem club_members (bs b4 b5 : Nat) (x most sz st ab wi : Int) (sh : Bool) (P : List Int) (hm : 0 ≤ most ∧ most ≤ 3) (hszB : Box (∃ z : Nat, sz = z)) (hsz : 3 ≤ sz ∧ sz ≤ 4) (hst : 0 ≤ st ∧ st ≤ 1000000) (hwi : 0 ≤ wi ∧ wi ≤ 2) (hPL : P.length ≤ 4) (n4 : ¬ bs = b4) (n4' : ¬ b4 = bs) (n5 : ¬ bs = b5) (n5' : ¬ b5 = bs) (m5 : ¬ b4 = b5) (m5' : ¬ b5 = b4) {v0 : VH} {R : V → Sto → Prop} {a c b : Code}
    (h1 : Try.f47.body.bind (forC 14) = some (a, c, b))
    (hR : R (zdh ⟨sz, st, ab, wi, P, sh, (zcs (sz * zcu x 1 3 + zak (zad x) 2).toNat 0 (zad (zad x)) []).1, []⟩ (zeh ⟨sz, st, ab, wi, P, sh, (zcs (sz * zcu x 1 3 + zak (zad x) 2).toNat 0 (zad (zad x)) []).1, []⟩ (zak (zcs (sz * zcu x 1 3 + zak (zad x) 2).toNat 0 (zad (zad x)) []).2 (most + 1)).toNat (zad (zcs (sz * zcu x 1 3 + zak (zad x) 2).toNat 0 (zad (zad x)) []).2) []).1).val [(bs, srcO (zeh ⟨sz, st, ab, wi, P, sh, (zcs (sz * zcu x 1 3 + zak (zad x) 2).toNat 0 (zad (zad x)) []).1, []⟩ (zak (zcs (sz * zcu x 1 3 + zak (zad x) 2).toNat 0 (zad (zad x)) []).2 (most + 1)).toNat (zad (zcs (sz * zcu x 1 3 + zak (zad x) 2).toNat 0 (zad (zad x)) []).2) []).2)]) :
    DS Try.prog 207 ⟨none, v0⟩ (FinV Try.prog [ResultVar.cell 4 26] R) [.code a, .code c, .code b]
      [(10, I 0), (0, ptr bs), (1, I most), (4, ptr b4), (5, ptr b5)] [(bs, srcO x), (b5, .cells (zfk sz st ab wi P sh (.v (.slice none 0 0)) (.v (.slice none 0 0))) 26), (b4, .cells zds 26)] := by
  have h1 := Option.some.inj ((show Try.f47.body.bind (forC 14) = some _ from rfl).symm.trans h1)
  obtain ⟨rfl, rfl, rfl⟩ := Prod.mk.inj h1 |>.imp id Prod.mk.inj
  clear h1
  have HR := Box.mk hR
  clear hR
  have k1 := zcr x 3
  have k2 := zcr (zad x) 2
  have km : 3 ≤ sz * zcu x 1 3 ∧ sz * zcu x 1 3 ≤ 12 := by
    have kr : zcu x 1 3 = 1 + zak x 3 := rfl
    rw [kr]
    rcases (by omega : sz = 3 ∨ sz = 4) with rfl | rfl <;> omega
  (refine DS.drawX (id := 14) (bs := bs) (x := x) (by simp only [zab, zcd, ↓reduceIte, *]) [0, 1, 2, 3, 4, 5, 6] 7 (by kernel_rfl) zdb (by simp only [zay, zbf, zbg, zbh, zax]; exact rfl) (by simp only [zat, zau, List.drop_nil]; exact rfl) ?_; simp only [zbj, zbt, ↓reduceIte, *])
  repeat' (first | (with_reducible first | refine DS.fltS yU yU yE ?_ | refine DS.opsNil ?_ | refine DS.block ?_ | refine DD.fltS yU yU yU yE ?_ | refine DD.flt1S yU yU yU yU yE ?_) | (with_reducible refine DD.nil ?_; simp only [zap, zar]) | (refine DD.scS inferInstance (zub bs x 1 3 (by omega)) yU yF yF ?_; simp only [zbs, zby, Nat.reduceEqDiff, ↓reduceIte]; (try simp only [zbj, zbt, ↓reduceIte, *])) | (refine DD.scS inferInstance (zde bs (zad x) 2 (by omega)) yU yF yF ?_; simp only [zbs, zby, Nat.reduceEqDiff, ↓reduceIte]; (try simp only [zbj, zbt, ↓reduceIte, *])) | fail)
  refine DS.adoptC (b := b5) (off := 6) (e := 88) (sz := 4) (cl := zfk sz st ab wi P sh (.v (.slice none 0 0)) (.v (.slice none 0 0))) (T' := 26) (by simp only [zab, zcd, n5, ↓reduceIte]) yR ?_
  simp only [zfk, setS, n5, ↓reduceIte, zck, zce]
  obtain ⟨N, hN⟩ : ∃ N : Nat, (N : Int) = sz * zcu x 1 3 + zak (zad x) 2 := ⟨(sz * zcu x 1 3 + zak (zad x) 2).toNat, by omega⟩
  have hNb : N ≤ 13 := by omega
  refine DS.loopS [0, 1, 4, 5] (by (simp only [go_sem, Nat.reduceEqDiff, ↓reduceIte]; exact rfl)) (fun (y : Nat × Int × Int × Int × List Member) => [(10, I y.2.2.1), (11, I y.2.1)]) (fun (y : Nat × Int × Int × Int × List Member) => [(bs, srcO y.2.2.2.1), (b5, .cells [I sz, I st, I ab, I wi, .own false 3 1 (P.map cI), Bo sh, .own false 88 4 (y.2.2.2.2.map Member.cells), .v (.slice none 0 0)] 26), (b4, .cells zds 26)]) (fun (y : Nat × Int × Int × Int × List Member) => (y.2.1 ≤ y.1 ∧ (y.1 : Int) ≤ y.2.1) ∧ (0 ≤ y.2.2.1 ∧ y.2.2.1 + 3 * y.1 ≤ 39) ∧ y.2.2.2.2.length + y.1 ≤ 13 ∧ zcs N 0 (zad (zad x)) [] = zcs y.1 y.2.2.1 y.2.2.2.1 y.2.2.2.2) (fun (y : Nat × Int × Int × Int × List Member) => y.1) (N, sz * zcu x 1 3 + zak (zad x) 2, 0, zad (zad x), []) yS (fun b o e => by exact e) ⟨by dsimp only; omega, by dsimp only; omega, by simp; omega, rfl⟩ (fun y B hI hB => ?_); try dsimp only at hI hB; simp only [zap, zar]
  obtain ⟨k, cnt, id, x1, out⟩ := y
  dsimp only at hI hB ⊢
  obtain ⟨g0, g1, g2, g3⟩ := hI
  have H := Box.mk (And.intro g3 hN)
  clear g3 hN
  have k3 := zcr x1 3
  have kr : 1 ≤ zcu x1 1 3 ∧ zcu x1 1 3 ≤ 3 := by
    have : zcu x1 1 3 = 1 + zak x1 3 := rfl
    omega
  repeat' (first | (with_reducible first | refine DS.fltS yU yU yX8 ?_ | refine DS.opsNil ?_ | refine DS.seq ?_ | refine DS.regionL ?_ | (refine DS.cE yX8 ?_; refine CG.p (fun _ => ?_) (fun _ => ?_)) | refine DS.block ?_ | refine DS.exit yU ?_ | refine DS.skip ?_) | (refine DS.scS inferInstance (zub bs x1 1 3 (by omega)) yR yX32 yX32 ?_; (try simp only [zbj, zbt, ↓reduceIte, *])) | fail)
  · refine DS.allocS yR yU yU (fun b12 h12 => ?_)
    have q1 : ¬ bs = b12 := fun e => by simp only [zab, e, ↓reduceIte] at h12; first | (cases h12; done) | (split at h12 <;> cases h12)
    have q2 : ¬ b5 = b12 := fun e => by simp only [zab, e, ↓reduceIte] at h12; first | (cases h12; done) | (split at h12 <;> cases h12)
    have q3 : ¬ b4 = b12 := fun e => by simp only [zab, e, ↓reduceIte] at h12; first | (cases h12; done) | (split at h12 <;> cases h12; done) | (split at h12; cases h12; split at h12 <;> cases h12)
    have q1' : ¬ b12 = bs := fun e => q1 e.symm
    have q2' : ¬ b12 = b5 := fun e => q2 e.symm
    have q3' : ¬ b12 = b4 := fun e => q3 e.symm
    clear h12
    have f1 := zcr (zad (zad x1)) 21
    have f2 := zcr (zad (zad (zad x1))) 3
    have f3 := zcr (zad (zad (zad (zad x1)))) 3
    have f4 := zcr (zad (zad (zad (zad x1)))) 2
    have f5 := zcr (zad (zad (zad (zad (zad x1))))) 2
    repeat' (first | (with_reducible refine DS.loadOwn (t := 116) yU yX8 yX8 yX8 yX8 ?_; simp only [zce, zck]) | (with_reducible first | refine DS.fltS yU yU yX8 ?_ | refine DS.opsNil ?_ | refine DS.seq ?_ | refine DS.regionL ?_ | (refine DS.cE yX8 ?_; refine CG.b (fun _ => ?_) (fun _ => ?_)) | refine DS.blk ?_ | refine DS.skip ?_) | (refine DS.bsl yU yX8 yX8 ?_; simp only [go_sem, Nat.zero_add, Nat.reduceAdd]) | (refine DS.append (mm := false) yU yX8 yX8 yU (by decide) yX8 (by first | exact .inl rfl | exact .inr ⟨rfl, rfl⟩) yX8 yX33 (by first | exact zan zcw _ | exact zan zdg _ | exact zan Member.len _ | exact zan Sitting.len _ | exact zan Ruling.len _ | (simp only [List.mem_cons, List.not_mem_nil, or_false, forall_eq]; rfl) | simp) ⟨by (try simp only [List.length_map, List.length_cons, List.length_nil, List.length_append, List.length_take, List.length_drop]); omega, by decide⟩ ?_; simp only [zal, zac, zae, Nat.reduceEqDiff, ↓reduceIte, zag, zah, zao, zaf, zaj, zam, zai]) | (refine DS.scS inferInstance (zjx bs (zad x1) 4 (by omega)) yR yX34 yX34 ?_; (try simp only [zbj, zbt, ↓reduceIte, *])) | (refine DS.scS inferInstance (zde bs (zad (zad x1)) 21 (by omega)) yR yX34 yX34 ?_; (try simp only [zbj, zbt, ↓reduceIte, *])) | (refine DS.scS inferInstance (zjx bs (zad (zad (zad x1))) 9 (by omega)) yR yX34 yX34 ?_; (try simp only [zbj, zbt, ↓reduceIte, *])) | (refine DS.scS inferInstance (zjx bs (zad (zad x1)) 9 (by omega)) yR yX34 yX34 ?_; (try simp only [zbj, zbt, ↓reduceIte, *])) | (refine DS.scS inferInstance (zde bs (zad (zad (zad (zad x1)))) 3 (by omega)) yR yX34 yX34 ?_; (try simp only [zbj, zbt, ↓reduceIte, *])) | (refine DS.scS inferInstance (zde bs (zad (zad (zad x1))) 3 (by omega)) yR yX34 yX34 ?_; (try simp only [zbj, zbt, ↓reduceIte, *])) | (refine DS.store yR yX8 yX8 yX8 yX8 yU (by exact ⟨by with_unfolding_all rfl, by (try simp only [List.length_map, List.length_append, List.length_set, List.length_replicate, List.length_cons, List.length_nil]); omega⟩) ?_; simp only [zbu, zaw, zbd, zcf, zbq, zbn, zbr]; try simp only [zal, zac, zae, Nat.reduceEqDiff, ↓reduceIte, zag, zah, zao, zaf, zaj, zam, zai]) | fail)
    · rename_i eA eB eC
      simp only [setS, zbj, zbt, ↓reduceIte, zck, zce, n5, n5', n4, n4', m5, m5', q1, q1', q2, q2', q3, q3']
      (refine DS.drawX (id := 23) (bs := bs) (x := zad (zad (zad (zad (zad x1))))) (by simp only [zab, zcd, ↓reduceIte, *]) [0, 1, 2, 3] 4 (by kernel_rfl) zdb (by simp only [zay, zbf, zbg, zbh, zax]; exact rfl) (by simp only [zat, zau, List.drop_nil]; exact rfl) ?_; simp only [zbj, zbt, ↓reduceIte, *])
      repeat' (first | (with_reducible refine DS.loadOwn (t := 116) yU yX8 yX8 yX8 yX8 ?_; simp only [zce, zck]) | (with_reducible first | refine DS.fltS yU yU yX8 ?_ | refine DS.opsNil ?_ | refine DS.regionL ?_ | refine DS.blk ?_) | (refine DS.bsl yU yX8 yX8 ?_; simp only [go_sem, Nat.zero_add, Nat.reduceAdd]) | (refine DS.append (mm := false) yU yX8 yX8 yU (by decide) yX8 (by first | exact .inl rfl | exact .inr ⟨rfl, rfl⟩) yX8 yX33 (by first | exact zan zcw _ | exact zan zdg _ | exact zan Member.len _ | exact zan Sitting.len _ | exact zan Ruling.len _ | (simp only [List.mem_cons, List.not_mem_nil, or_false, forall_eq]; rfl) | simp) ⟨by (try simp only [List.length_map, List.length_cons, List.length_nil, List.length_append, List.length_take, List.length_drop]); omega, by decide⟩ ?_; simp only [zal, zac, zae, Nat.reduceEqDiff, ↓reduceIte, zag, zah, zao, zaf, zaj, zam, zai]) | (refine DS.store yR yX8 yX8 yX8 yX8 yU (by exact ⟨by with_unfolding_all rfl, by (try simp only [List.length_map, List.length_append, List.length_set, List.length_replicate, List.length_cons, List.length_nil]); omega⟩) ?_; simp only [zbu, zaw, zbd, zcf, zbq, zbn, zbr]; try simp only [zal, zac, zae, Nat.reduceEqDiff, ↓reduceIte, zag, zah, zao, zaf, zaj, zam, zai]) | with_reducible refine DD.fltS yU yU yU yX8 ?_ | (with_reducible refine DD.nil ?_; simp only [zap, zar]) | (refine DD.scS inferInstance (zde bs (zad (zad (zad (zad (zad x1))))) 2 (by omega)) yU yX32 yX32 ?_; simp only [zbs, zby, Nat.reduceEqDiff, ↓reduceIte]; (try simp only [zbj, zbt, ↓reduceIte, *])) | fail)
      have hk : zcs k id x1 out = zcs (k - 1) (id + zcu x1 1 3) (zad (zad (zad (zad (zad (zad x1)))))) (out ++ [⟨id + zcu x1 1 3, zak (zad (zad x1)) 21 - 10, zak (zad (zad (zad (zad x1)))) 3, zak (zad (zad (zad (zad x1)))) 3 + zak (zad (zad (zad (zad (zad x1))))) 2⟩]) := by
        obtain ⟨k', rfl⟩ : ∃ k', k = k' + 1 := ⟨k - 1, by omega⟩
        rw [zcs]; simp [zme, zoj, eB, eC]
      refine DS.back (hB (k - 1, cnt - 1, id + zcu x1 1 3, zad (zad (zad (zad (zad (zad x1))))), out ++ [⟨id + zcu x1 1 3, zak (zad (zad x1)) 21 - 10, zak (zad (zad (zad (zad x1)))) 3, zak (zad (zad (zad (zad x1)))) 3 + zak (zad (zad (zad (zad (zad x1))))) 2⟩]) _ _ (by dsimp only; omega) ⟨by dsimp only; omega, by dsimp only; omega, by simp; omega, H.out.1.trans hk⟩ yS yS (fun b o e => ?_))
      dsimp only at e
      rw [List.map_append, List.map_singleton, Member.cells] at e
      simp only [setS, zbj, zbt, ↓reduceIte, zck, zce, n5, n5', n4, n4', m5, m5', q1, q1', q2, q2', q3, q3']
      simp only [zab, zcd] at e ⊢
      by_cases hb : bs = b
      · subst hb; simp only [n5', n4', q1', ↓reduceIte] at e ⊢; exact e
      by_cases hb2 : b5 = b
      · subst hb2; simp only [n5, m5, q2', ↓reduceIte] at e ⊢; exact e
      by_cases hb3 : b4 = b
      · subst hb3; simp only [n4, m5', q3', hb, hb2, ↓reduceIte] at e ⊢; exact e
      · simp only [hb, hb2, hb3, ↓reduceIte] at e; cases e
    · rename_i eA eB eC
      have hk : zcs k id x1 out = zcs (k - 1) (id + zcu x1 1 3) (zad (zad (zad (zad x1)))) (out ++ [⟨id + zcu x1 1 3, zak (zad (zad x1)) 21 - 10, 0, -1⟩]) := by
        obtain ⟨k', rfl⟩ : ∃ k', k = k' + 1 := ⟨k - 1, by omega⟩
        rw [zcs]; simp [zme, zoj, eB, eC]
      refine DS.back (hB (k - 1, cnt - 1, id + zcu x1 1 3, zad (zad (zad (zad x1))), out ++ [⟨id + zcu x1 1 3, zak (zad (zad x1)) 21 - 10, 0, -1⟩]) _ _ (by dsimp only; omega) ⟨by dsimp only; omega, by dsimp only; omega, by simp; omega, H.out.1.trans hk⟩ yS yS (fun b o e => ?_))
      dsimp only at e
      rw [List.map_append, List.map_singleton, Member.cells] at e
      simp only [setS, zbj, zbt, ↓reduceIte, zck, zce, n5, n5', n4, n4', m5, m5', q1, q1', q2, q2', q3, q3']
      simp only [zab, zcd] at e ⊢
      by_cases hb : bs = b
      · subst hb; simp only [n5', n4', q1', ↓reduceIte] at e ⊢; exact e
      by_cases hb2 : b5 = b
      · subst hb2; simp only [n5, m5, q2', ↓reduceIte] at e ⊢; exact e
      by_cases hb3 : b4 = b
      · subst hb3; simp only [n4, m5', q3', hb, hb2, ↓reduceIte] at e ⊢; exact e
      · simp only [hb, hb2, hb3, ↓reduceIte] at e; cases e
    · rename_i eA eB eC
      simp only [setS, zbj, zbt, ↓reduceIte, zck, zce, n5, n5', n4, n4', m5, m5', q1, q1', q2, q2', q3, q3']
      (refine DS.drawX (id := 23) (bs := bs) (x := zad (zad (zad (zad x1)))) (by simp only [zab, zcd, ↓reduceIte, *]) [0, 1, 2, 3] 4 (by kernel_rfl) zdb (by simp only [zay, zbf, zbg, zbh, zax]; exact rfl) (by simp only [zat, zau, List.drop_nil]; exact rfl) ?_; simp only [zbj, zbt, ↓reduceIte, *])
      repeat' (first | (with_reducible refine DS.loadOwn (t := 116) yU yX8 yX8 yX8 yX8 ?_; simp only [zce, zck]) | (with_reducible first | refine DS.fltS yU yU yX8 ?_ | refine DS.opsNil ?_ | refine DS.regionL ?_ | refine DS.blk ?_) | (refine DS.bsl yU yX8 yX8 ?_; simp only [go_sem, Nat.zero_add, Nat.reduceAdd]) | (refine DS.append (mm := false) yU yX8 yX8 yU (by decide) yX8 (by first | exact .inl rfl | exact .inr ⟨rfl, rfl⟩) yX8 yX33 (by first | exact zan zcw _ | exact zan zdg _ | exact zan Member.len _ | exact zan Sitting.len _ | exact zan Ruling.len _ | (simp only [List.mem_cons, List.not_mem_nil, or_false, forall_eq]; rfl) | simp) ⟨by (try simp only [List.length_map, List.length_cons, List.length_nil, List.length_append, List.length_take, List.length_drop]); omega, by decide⟩ ?_; simp only [zal, zac, zae, Nat.reduceEqDiff, ↓reduceIte, zag, zah, zao, zaf, zaj, zam, zai]) | (refine DS.store yR yX8 yX8 yX8 yX8 yU (by exact ⟨by with_unfolding_all rfl, by (try simp only [List.length_map, List.length_append, List.length_set, List.length_replicate, List.length_cons, List.length_nil]); omega⟩) ?_; simp only [zbu, zaw, zbd, zcf, zbq, zbn, zbr]; try simp only [zal, zac, zae, Nat.reduceEqDiff, ↓reduceIte, zag, zah, zao, zaf, zaj, zam, zai]) | with_reducible refine DD.fltS yU yU yU yX8 ?_ | (with_reducible refine DD.nil ?_; simp only [zap, zar]) | (refine DD.scS inferInstance (zde bs (zad (zad (zad (zad x1)))) 2 (by omega)) yU yX32 yX32 ?_; simp only [zbs, zby, Nat.reduceEqDiff, ↓reduceIte]; (try simp only [zbj, zbt, ↓reduceIte, *])) | fail)
      have hk : zcs k id x1 out = zcs (k - 1) (id + zcu x1 1 3) (zad (zad (zad (zad (zad x1))))) (out ++ [⟨id + zcu x1 1 3, 0, zak (zad (zad (zad x1))) 3, zak (zad (zad (zad x1))) 3 + zak (zad (zad (zad (zad x1)))) 2⟩]) := by
        obtain ⟨k', rfl⟩ : ∃ k', k = k' + 1 := ⟨k - 1, by omega⟩
        rw [zcs]; simp [zme, zoj, eB, eC]
      refine DS.back (hB (k - 1, cnt - 1, id + zcu x1 1 3, zad (zad (zad (zad (zad x1)))), out ++ [⟨id + zcu x1 1 3, 0, zak (zad (zad (zad x1))) 3, zak (zad (zad (zad x1))) 3 + zak (zad (zad (zad (zad x1)))) 2⟩]) _ _ (by dsimp only; omega) ⟨by dsimp only; omega, by dsimp only; omega, by simp; omega, H.out.1.trans hk⟩ yS yS (fun b o e => ?_))
      dsimp only at e
      rw [List.map_append, List.map_singleton, Member.cells] at e
      simp only [setS, zbj, zbt, ↓reduceIte, zck, zce, n5, n5', n4, n4', m5, m5', q1, q1', q2, q2', q3, q3']
      simp only [zab, zcd] at e ⊢
      by_cases hb : bs = b
      · subst hb; simp only [n5', n4', q1', ↓reduceIte] at e ⊢; exact e
      by_cases hb2 : b5 = b
      · subst hb2; simp only [n5, m5, q2', ↓reduceIte] at e ⊢; exact e
      by_cases hb3 : b4 = b
      · subst hb3; simp only [n4, m5', q3', hb, hb2, ↓reduceIte] at e ⊢; exact e
      · simp only [hb, hb2, hb3, ↓reduceIte] at e; cases e
    · rename_i eA eB eC
      have hk : zcs k id x1 out = zcs (k - 1) (id + zcu x1 1 3) (zad (zad (zad x1))) (out ++ [⟨id + zcu x1 1 3, 0, 0, -1⟩]) := by
        obtain ⟨k', rfl⟩ : ∃ k', k = k' + 1 := ⟨k - 1, by omega⟩
        rw [zcs]; simp [zme, zoj, eB, eC]
      refine DS.back (hB (k - 1, cnt - 1, id + zcu x1 1 3, zad (zad (zad x1)), out ++ [⟨id + zcu x1 1 3, 0, 0, -1⟩]) _ _ (by dsimp only; omega) ⟨by dsimp only; omega, by dsimp only; omega, by simp; omega, H.out.1.trans hk⟩ yS yS (fun b o e => ?_))
      dsimp only at e
      rw [List.map_append, List.map_singleton, Member.cells] at e
      simp only [setS, zbj, zbt, ↓reduceIte, zck, zce, n5, n5', n4, n4', m5, m5', q1, q1', q2, q2', q3, q3']
      simp only [zab, zcd] at e ⊢
      by_cases hb : bs = b
      · subst hb; simp only [n5', n4', q1', ↓reduceIte] at e ⊢; exact e
      by_cases hb2 : b5 = b
      · subst hb2; simp only [n5, m5, q2', ↓reduceIte] at e ⊢; exact e
      by_cases hb3 : b4 = b
      · subst hb3; simp only [n4, m5', q3', hb, hb2, ↓reduceIte] at e ⊢; exact e
      · simp only [hb, hb2, hb3, ↓reduceIte] at e; cases e
  · have hR := HR.out
    have hNN : (sz * zcu x 1 3 + zak (zad x) 2).toNat = N := by have := H.out.2; omega
    obtain rfl : k = 0 := by omega
    rw [hNN, H.out.1, zcs] at hR
    refine DS.weaken (E' := [(121, ptr bs), (123, I (most + 1)), (0, ptr bs), (4, ptr b4), (5, ptr b5)]) (S' := [(bs, srcO x1), (b5, .cells (zfk sz st ab wi P sh (.own false 88 4 (out.map Member.cells)) (.v (.slice none 0 0))) 26), (b4, .cells zds 26)]) (zdf (by simp (disch := omega) only [go_sem, ↓reduceIte, Nat.reduceEqDiff, zdw, zeg, and_self, zap, zar])) (fun _ _ e => e) ?_
    exact club_rounds bs b4 b5 x1 most sz st ab wi sh P out hm hszB hsz hst hwi (by omega) hPL n4 n4' n5 n5' m5 m5' yR yR yR hR
end Go.XL
namespace Go.XL
open Go.Proofs
set_option maxRecDepth 100000
set_option maxHeartbeats 8000000
theorem znu (bs b4 b5 : Nat) (x most sz st ab wi : Int) (sh : Bool) (hm : 0 ≤ most ∧ most ≤ 3) (hszB : Box (∃ z : Nat, sz = z)) (hsz : 3 ≤ sz ∧ sz ≤ 4) (hst : 0 ≤ st ∧ st ≤ 1000000) (hwi : 0 ≤ wi ∧ wi ≤ 2) (n4 : ¬ bs = b4) (n4' : ¬ b4 = bs) (n5 : ¬ bs = b5) (n5' : ¬ b5 = bs) (m5 : ¬ b4 = b5) (m5' : ¬ b5 = b4) {v0 : VH} {R : V → Sto → Prop} {os l : List Oper} {cd : Code}
    (h1 : Try.f47.body.bind (regC 4) = some os) (h2 : os.drop 1 = l) (h3 : Try.f47.body.bind (zhr 4) = some cd)
    (hR : R (zdh ⟨sz, st, ab, wi, ((zda (zak x 5 * 10) (sz - 2).toNat 1 (zad (zad x)) [zak x 5 * 10 + zak (zad x) 2] (zak x 5 * 10 + zak (zad x) 2)).1 ++ [-(zda (zak x 5 * 10) (sz - 2).toNat 1 (zad (zad x)) [zak x 5 * 10 + zak (zad x) 2] (zak x 5 * 10 + zak (zad x) 2)).2.1]), sh, (zcs (sz * zcu ((zda (zak x 5 * 10) (sz - 2).toNat 1 (zad (zad x)) [zak x 5 * 10 + zak (zad x) 2] (zak x 5 * 10 + zak (zad x) 2)).2.2) 1 3 + zak (zad ((zda (zak x 5 * 10) (sz - 2).toNat 1 (zad (zad x)) [zak x 5 * 10 + zak (zad x) 2] (zak x 5 * 10 + zak (zad x) 2)).2.2)) 2).toNat 0 (zad (zad ((zda (zak x 5 * 10) (sz - 2).toNat 1 (zad (zad x)) [zak x 5 * 10 + zak (zad x) 2] (zak x 5 * 10 + zak (zad x) 2)).2.2))) []).1, []⟩ (zeh ⟨sz, st, ab, wi, ((zda (zak x 5 * 10) (sz - 2).toNat 1 (zad (zad x)) [zak x 5 * 10 + zak (zad x) 2] (zak x 5 * 10 + zak (zad x) 2)).1 ++ [-(zda (zak x 5 * 10) (sz - 2).toNat 1 (zad (zad x)) [zak x 5 * 10 + zak (zad x) 2] (zak x 5 * 10 + zak (zad x) 2)).2.1]), sh, (zcs (sz * zcu ((zda (zak x 5 * 10) (sz - 2).toNat 1 (zad (zad x)) [zak x 5 * 10 + zak (zad x) 2] (zak x 5 * 10 + zak (zad x) 2)).2.2) 1 3 + zak (zad ((zda (zak x 5 * 10) (sz - 2).toNat 1 (zad (zad x)) [zak x 5 * 10 + zak (zad x) 2] (zak x 5 * 10 + zak (zad x) 2)).2.2)) 2).toNat 0 (zad (zad ((zda (zak x 5 * 10) (sz - 2).toNat 1 (zad (zad x)) [zak x 5 * 10 + zak (zad x) 2] (zak x 5 * 10 + zak (zad x) 2)).2.2))) []).1, []⟩ (zak (zcs (sz * zcu ((zda (zak x 5 * 10) (sz - 2).toNat 1 (zad (zad x)) [zak x 5 * 10 + zak (zad x) 2] (zak x 5 * 10 + zak (zad x) 2)).2.2) 1 3 + zak (zad ((zda (zak x 5 * 10) (sz - 2).toNat 1 (zad (zad x)) [zak x 5 * 10 + zak (zad x) 2] (zak x 5 * 10 + zak (zad x) 2)).2.2)) 2).toNat 0 (zad (zad ((zda (zak x 5 * 10) (sz - 2).toNat 1 (zad (zad x)) [zak x 5 * 10 + zak (zad x) 2] (zak x 5 * 10 + zak (zad x) 2)).2.2))) []).2 (most + 1)).toNat (zad (zcs (sz * zcu ((zda (zak x 5 * 10) (sz - 2).toNat 1 (zad (zad x)) [zak x 5 * 10 + zak (zad x) 2] (zak x 5 * 10 + zak (zad x) 2)).2.2) 1 3 + zak (zad ((zda (zak x 5 * 10) (sz - 2).toNat 1 (zad (zad x)) [zak x 5 * 10 + zak (zad x) 2] (zak x 5 * 10 + zak (zad x) 2)).2.2)) 2).toNat 0 (zad (zad ((zda (zak x 5 * 10) (sz - 2).toNat 1 (zad (zad x)) [zak x 5 * 10 + zak (zad x) 2] (zak x 5 * 10 + zak (zad x) 2)).2.2))) []).2) []).1).val [(bs, srcO (zeh ⟨sz, st, ab, wi, ((zda (zak x 5 * 10) (sz - 2).toNat 1 (zad (zad x)) [zak x 5 * 10 + zak (zad x) 2] (zak x 5 * 10 + zak (zad x) 2)).1 ++ [-(zda (zak x 5 * 10) (sz - 2).toNat 1 (zad (zad x)) [zak x 5 * 10 + zak (zad x) 2] (zak x 5 * 10 + zak (zad x) 2)).2.1]), sh, (zcs (sz * zcu ((zda (zak x 5 * 10) (sz - 2).toNat 1 (zad (zad x)) [zak x 5 * 10 + zak (zad x) 2] (zak x 5 * 10 + zak (zad x) 2)).2.2) 1 3 + zak (zad ((zda (zak x 5 * 10) (sz - 2).toNat 1 (zad (zad x)) [zak x 5 * 10 + zak (zad x) 2] (zak x 5 * 10 + zak (zad x) 2)).2.2)) 2).toNat 0 (zad (zad ((zda (zak x 5 * 10) (sz - 2).toNat 1 (zad (zad x)) [zak x 5 * 10 + zak (zad x) 2] (zak x 5 * 10 + zak (zad x) 2)).2.2))) []).1, []⟩ (zak (zcs (sz * zcu ((zda (zak x 5 * 10) (sz - 2).toNat 1 (zad (zad x)) [zak x 5 * 10 + zak (zad x) 2] (zak x 5 * 10 + zak (zad x) 2)).2.2) 1 3 + zak (zad ((zda (zak x 5 * 10) (sz - 2).toNat 1 (zad (zad x)) [zak x 5 * 10 + zak (zad x) 2] (zak x 5 * 10 + zak (zad x) 2)).2.2)) 2).toNat 0 (zad (zad ((zda (zak x 5 * 10) (sz - 2).toNat 1 (zad (zad x)) [zak x 5 * 10 + zak (zad x) 2] (zak x 5 * 10 + zak (zad x) 2)).2.2))) []).2 (most + 1)).toNat (zad (zcs (sz * zcu ((zda (zak x 5 * 10) (sz - 2).toNat 1 (zad (zad x)) [zak x 5 * 10 + zak (zad x) 2] (zak x 5 * 10 + zak (zad x) 2)).2.2) 1 3 + zak (zad ((zda (zak x 5 * 10) (sz - 2).toNat 1 (zad (zad x)) [zak x 5 * 10 + zak (zad x) 2] (zak x 5 * 10 + zak (zad x) 2)).2.2)) 2).toNat 0 (zad (zad ((zda (zak x 5 * 10) (sz - 2).toNat 1 (zad (zad x)) [zak x 5 * 10 + zak (zad x) 2] (zak x 5 * 10 + zak (zad x) 2)).2.2))) []).2) []).2)]) :
    DS Try.prog 207 ⟨none, v0⟩ (FinV Try.prog [ResultVar.cell 4 26] R) [.ops os l, .code cd]
      [(34, ptr bs), (0, ptr bs), (1, I most), (4, ptr b4), (5, ptr b5)] [(b5, .cells [I sz, I st, I ab, I wi, .v (.slice none 0 0), Bo sh, .v (.slice none 0 0), .v (.slice none 0 0)] 26), (bs, srcO x), (b4, .cells zds 26)] := by
  obtain rfl := Option.some.inj ((show Try.f47.body.bind (regC 4) = some _ from rfl).symm.trans h1)
  obtain rfl := Option.some.inj ((show Try.f47.body.bind (zhr 4) = some _ from rfl).symm.trans h3)
  subst h2
  clear h1 h3
  simp only [zat, zau]
  have HR := Box.mk hR
  clear hR
  have k1 := zcr x 5
  have k2 := zcr (zad x) 2
  repeat' (first | (with_reducible first | refine DS.fltS yU yU yE ?_ | refine DS.opsNil ?_ | refine DS.seq ?_) | (refine DS.scS inferInstance (zde bs x 5 (by omega)) yR yT yT ?_; (try simp only [zbj, zbt, ↓reduceIte, *])) | fail)
  (refine DS.drawX (id := 5) (bs := bs) (x := zad x) (by simp only [zab, zcd, ↓reduceIte, *]) [0, 1, 2, 3, 4, 5, 6] 7 (by kernel_rfl) zdb (by simp only [zay, zbf, zbg, zbh, zax]; exact rfl) (by simp only [zat, zau, List.drop_nil]; exact rfl) ?_; simp only [zbj, zbt, ↓reduceIte, *])
  repeat' (first | (with_reducible first | refine DS.fltS yU yU yE ?_ | refine DS.opsNil ?_ | refine DS.seq ?_ | refine DS.regionL ?_ | refine DS.block ?_) | (refine DS.append (mm := false) yU yE yE yU (by decide) yE (by first | exact .inl rfl | exact .inr ⟨rfl, rfl⟩) yE yX0 (by first | exact zan zcw _ | exact zan zdg _ | exact zan Member.len _ | exact zan Sitting.len _ | exact zan Ruling.len _ | (simp only [List.mem_cons, List.not_mem_nil, or_false, forall_eq]; rfl) | simp) ⟨by (try simp only [List.length_map, List.length_cons, List.length_nil, List.length_append, List.length_take, List.length_drop]); omega, by decide⟩ ?_; simp only [zal, zac, zae, Nat.reduceEqDiff, ↓reduceIte, zag, zah, zao, zaf, zaj, zam, zai]) | (refine DS.store yR yE yE yE yE yU (by exact ⟨by with_unfolding_all rfl, by (try simp only [List.length_map, List.length_append, List.length_set, List.length_replicate, List.length_cons, List.length_nil]); omega⟩) ?_; simp only [zbu, zaw, zbd, zcf, zbq, zbn, zbr]; try simp only [zal, zac, zae, Nat.reduceEqDiff, ↓reduceIte, zag, zah, zao, zaf, zaj, zam, zai]) | (with_reducible first | refine DD.fltS yU yU yU yE ?_ | refine DD.flt1S yU yU yU yU yE ?_) | (with_reducible refine DD.nil ?_; simp only [zap, zar]) | (refine DD.scS inferInstance (zde bs (zad x) 2 (by omega)) yU yT yT ?_; simp only [zbs, zby, Nat.reduceEqDiff, ↓reduceIte]; (try simp only [zbj, zbt, ↓reduceIte, *])) | (refine DD.bslS yU yE yE ?_; simp only [go_sem, Nat.zero_add, Nat.reduceAdd]; simp only [zbs, zby, Nat.reduceEqDiff, ↓reduceIte]) | fail)
  simp only [setS, n5, ↓reduceIte, zck, zce]
  refine DS.loopS [0, 1, 4, 5, 6] (by (simp only [go_sem, Nat.reduceEqDiff, ↓reduceIte]; exact rfl)) (fun (y : Nat × Int × Int × List Int × Int) => [(8, I y.2.1), (7, I y.2.2.2.2)]) (fun (y : Nat × Int × Int × List Int × Int) => [(bs, srcO y.2.2.1), (b5, .cells [I sz, I st, I ab, I wi, .own false 3 1 (y.2.2.2.1.map cI), Bo sh, .v (.slice none 0 0), .v (.slice none 0 0)] 26), (b4, .cells zds 26)]) (fun (y : Nat × Int × Int × List Int × Int) => (y.2.1 + y.1 = sz - 1 ∧ y.1 ≤ 2) ∧ y.2.2.2.1.length + y.1 ≤ 3 ∧ (-10 * (4 - (y.1 : Int)) ≤ y.2.2.2.2 ∧ y.2.2.2.2 ≤ 100 * (4 - (y.1 : Int))) ∧ zda (zak x 5 * 10) (sz - 2).toNat 1 (zad (zad x)) [zak x 5 * 10 + zak (zad x) 2] (zak x 5 * 10 + zak (zad x) 2) = zda (zak x 5 * 10) y.1 y.2.1 y.2.2.1 y.2.2.2.1 y.2.2.2.2) (fun (y : Nat × Int × Int × List Int × Int) => y.1) ((sz - 2).toNat, 1, zad (zad x), [zak x 5 * 10 + zak (zad x) 2], zak x 5 * 10 + zak (zad x) 2) yS (fun b o e => by exact e) ⟨by dsimp only; omega, by simp; omega, by dsimp only; omega, rfl⟩ (fun y B hI hB => ?_); try dsimp only at hI hB; simp only [zap, zar]
  obtain ⟨k, i, x1, out, sum⟩ := y
  dsimp only at hI hB ⊢
  obtain ⟨g1, g2, g3, g4⟩ := hI
  have H := Box.mk g4
  clear g4
  have k3 := zcr x1 9
  have k4 : 0 ≤ (zak x 5 * 10).tdiv (i + 1) ∧ (zak x 5 * 10).tdiv (i + 1) ≤ 40 := by
    have h1 : 0 ≤ zak x 5 * 10 := by omega
    refine ⟨Int.tdiv_nonneg h1 (by omega), ?_⟩
    rw [Int.tdiv_eq_ediv_of_nonneg h1]
    exact Int.le_trans (Int.ediv_le_self _ h1) (by omega)
  repeat' (first | (with_reducible refine DS.loadOwn (t := 74) yU yE yE yE yE ?_; simp only [zce, zck]) | (with_reducible first | refine DS.fltS yU yU yE ?_ | refine DS.opsNil ?_ | refine DS.seq ?_ | refine DS.regionL ?_ | (refine DS.cE yE ?_; refine CG.p (fun _ => ?_) (fun _ => ?_)) | refine DS.block ?_ | refine DS.exit yU ?_ | refine DS.skip ?_) | (refine DS.bsl yU yE yE ?_; simp only [go_sem, Nat.zero_add, Nat.reduceAdd]) | (refine DS.append (mm := false) yU yE yE yU (by decide) yE (by first | exact .inl rfl | exact .inr ⟨rfl, rfl⟩) yE yX0 (by first | exact zan zcw _ | exact zan zdg _ | exact zan Member.len _ | exact zan Sitting.len _ | exact zan Ruling.len _ | (simp only [List.mem_cons, List.not_mem_nil, or_false, forall_eq]; rfl) | simp) ⟨by (try simp only [List.length_map, List.length_cons, List.length_nil, List.length_append, List.length_take, List.length_drop]); omega, by decide⟩ ?_; simp only [zal, zac, zae, Nat.reduceEqDiff, ↓reduceIte, zag, zah, zao, zaf, zaj, zam, zai]) | (refine DS.store yR yE yE yE yE yU (by exact ⟨by with_unfolding_all rfl, by (try simp only [List.length_map, List.length_append, List.length_set, List.length_replicate, List.length_cons, List.length_nil]); omega⟩) ?_; simp only [zbu, zaw, zbd, zcf, zbq, zbn, zbr]; try simp only [zal, zac, zae, Nat.reduceEqDiff, ↓reduceIte, zag, zah, zao, zaf, zaj, zam, zai]) | fail)
  · (refine DS.drawX (id := 10) (bs := bs) (x := x1) (by simp only [zab, zcd, ↓reduceIte, *]) [0, 1, 2, 3, 4, 5] 6 (by kernel_rfl) zdb (by simp only [zay, zbf, zbg, zbh, zax]; exact rfl) (by simp only [zat, zau, List.drop_nil]; exact rfl) ?_; simp only [zbj, zbt, ↓reduceIte, *])
    repeat' (first | (with_reducible refine DS.loadOwn (t := 65) yU yE yE yE yE ?_; simp only [zce, zck]) | (with_reducible first | refine DS.fltS yU yU yE ?_ | refine DS.opsNil ?_ | refine DS.regionL ?_ | refine DS.blk ?_) | (refine DS.bsl yU yE yE ?_; simp only [go_sem, Nat.zero_add, Nat.reduceAdd]) | (refine DS.append (mm := false) yU yE yE yU (by decide) yE (by first | exact .inl rfl | exact .inr ⟨rfl, rfl⟩) yE yX0 (by first | exact zan zcw _ | exact zan zdg _ | exact zan Member.len _ | exact zan Sitting.len _ | exact zan Ruling.len _ | (simp only [List.mem_cons, List.not_mem_nil, or_false, forall_eq]; rfl) | simp) ⟨by (try simp only [List.length_map, List.length_cons, List.length_nil, List.length_append, List.length_take, List.length_drop]); omega, by decide⟩ ?_; simp only [zal, zac, zae, Nat.reduceEqDiff, ↓reduceIte, zag, zah, zao, zaf, zaj, zam, zai]) | (refine DS.store yR yE yE yE yE yU (by exact ⟨by with_unfolding_all rfl, by (try simp only [List.length_map, List.length_append, List.length_set, List.length_replicate, List.length_cons, List.length_nil]); omega⟩) ?_; simp only [zbu, zaw, zbd, zcf, zbq, zbn, zbr]; try simp only [zal, zac, zae, Nat.reduceEqDiff, ↓reduceIte, zag, zah, zao, zaf, zaj, zam, zai]) | with_reducible refine DD.fltS yU yU yU yE ?_ | (with_reducible refine DD.nil ?_; simp only [zap, zar]) | (refine DD.scS inferInstance (zde bs x1 9 (by omega)) yU yT yT ?_; simp only [zbs, zby, Nat.reduceEqDiff, ↓reduceIte]; (try simp only [zbj, zbt, ↓reduceIte, *])) | fail)
    simp only [setS, n5, n5', n4, n4', m5, m5', ↓reduceIte, zck, zce]
    have hk : zda (zak x 5 * 10) k i x1 out sum = zda (zak x 5 * 10) (k - 1) (i + 1) (zad x1) (out ++ [(zak x 5 * 10).tdiv (i + 1) - zak x1 9]) (sum + ((zak x 5 * 10).tdiv (i + 1) - zak x1 9)) := by
      obtain ⟨k', rfl⟩ : ∃ k', k = k' + 1 := ⟨k - 1, by omega⟩
      rw [zda]; rfl
    refine DS.back (hB (k - 1, i + 1, zad x1, out ++ [(zak x 5 * 10).tdiv (i + 1) - zak x1 9], sum + ((zak x 5 * 10).tdiv (i + 1) - zak x1 9)) _ _ (by dsimp only; omega) ⟨by dsimp only; omega, by simp; omega, by dsimp only; omega, H.out.trans hk⟩ yS yS (fun d o e => ?_))
    dsimp only at e
    rw [List.map_append, List.map_singleton, cI] at e
    exact e
  · simp only [setS, n5, n5', n4, n4', m5, m5', ↓reduceIte, zck, zce]
    have hR := HR.out
    obtain rfl : k = 0 := by omega
    rw [H.out, zda] at hR
    dsimp only at hR
    refine DS.weaken (E' := [(10, I 0), (0, ptr bs), (1, I most), (4, ptr b4), (5, ptr b5)]) (S' := [(bs, srcO x1), (b5, .cells (zfk sz st ab wi (out ++ [-sum]) sh (.v (.slice none 0 0)) (.v (.slice none 0 0))) 26), (b4, .cells zds 26)]) (zdf (by simp (disch := omega) only [go_sem, ↓reduceIte, Nat.reduceEqDiff, zdw, zeg, and_self, zap, zar])) (fun d o e => ?_) ?_
    · rw [zfk, List.map_append, List.map_singleton, cI, ← Int.zero_sub] at e
      exact e
    · exact club_members bs b4 b5 x1 most sz st ab wi sh (out ++ [-sum]) hm hszB hsz hst hwi (by rw [List.length_append, List.length_singleton]; omega) n4 n4' n5 n5' m5 m5' yR hR
end Go.XL
namespace Go.XL
open Go.Proofs
set_option maxRecDepth 100000
set_option maxHeartbeats 8000000
theorem clubOf_dc (bs : Nat) (x most : Int) (hm : 0 ≤ most ∧ most ≤ 3) :
    SC Try.prog 47 [ptr bs, I most] bs x (zeo x most).1.val (zeo x most).2 := by
  have k1 := zcr x 4
  have k2 := zcr (zad x) 5
  have k3 := zcr (zad (zad x)) 3
  have k4 := zcr (x5 x) 5
  refine DC.of_run Try.func47 rfl Try.ntmps47 Try.results47 (by simp) (fun _ => ?_); simp only [zaq, zas, go_sem, Nat.zero_add, Nat.reduceAdd]
  repeat' (first | (with_reducible first | refine DS.seq ?_ | refine DS.regionL ?_) | fail)
  refine DS.allocS yR yU yU (fun b4 h4 => ?_)
  have n4 : ¬ bs = b4 := fun e => by rw [zab, if_pos e] at h4; cases h4
  have n4' : ¬ b4 = bs := fun e => n4 e.symm
  clear h4
  repeat' (first | (with_reducible first | refine DS.fltS yU yU yX8 ?_ | refine DS.opsNil ?_ | refine DS.seq ?_ | refine DS.regionL ?_) | (refine DS.scS inferInstance (zde bs x 4 (by omega)) yR yX34 yX34 ?_; (try simp only [zbj, zbt, ↓reduceIte, *])) | (refine DS.scS inferInstance (zde bs (zad x) 5 (by omega)) yR yX34 yX34 ?_; (try simp only [zbj, zbt, ↓reduceIte, *])) | (refine DS.scS inferInstance (zde bs (zad (zad x)) 3 (by omega)) yR yX34 yX34 ?_; (try simp only [zbj, zbt, ↓reduceIte, *])) | (refine DS.scS inferInstance (zjx bs (zad (zad (zad x))) 2 (by omega)) yR yX34 yX34 ?_; (try simp only [zbj, zbt, ↓reduceIte, *])) | fail)
  refine DS.allocS yR yU yU (fun b5 h5 => ?_)
  have n5 : ¬ bs = b5 := fun e => by simp only [zab, e, ↓reduceIte] at h5; first | (cases h5; done) | (split at h5 <;> cases h5)
  have n5' : ¬ b5 = bs := fun e => n5 e.symm
  have m5 : ¬ b4 = b5 := fun e => by simp only [zab, e, ↓reduceIte] at h5; first | (cases h5; done) | (split at h5 <;> cases h5)
  have m5' : ¬ b5 = b4 := fun e => m5 e.symm
  clear h5
  repeat' (first | (with_reducible first | refine DS.fltS yU yU yX8 ?_ | refine DS.opsNil ?_ | refine DS.seq ?_ | refine DS.regionL ?_ | (refine DS.cE yX8 ?_; refine CG.b (fun _ => ?_) (fun _ => ?_)) | refine DS.skip ?_) | (refine DS.scS inferInstance (zjx bs (zad (zad (zad (zad x)))) 4 (by omega)) yR yX32 yX32 ?_; (try simp only [zbj, zbt, ↓reduceIte, *])) | (refine DS.store yR yX8 yX8 yX8 yX8 yU (by exact ⟨by with_unfolding_all rfl, by (try simp only [List.length_map, List.length_append, List.length_set, List.length_replicate, List.length_cons, List.length_nil]); omega⟩) ?_; simp only [zbu, zaw, zbd, zcf, zbq, zbn, zbr]; try simp only [zal, zac, zae, Nat.reduceEqDiff, ↓reduceIte, zag, zah, zao, zaf, zaj, zam, zai]) | fail)
  · rename_i e0
    have hs : zhu x = 4 := by unfold zhu; rw [if_pos e0]
    have hR : (zeo x most).1.val = (zeo x most).1.val ∧ [(bs, srcO (zeo x most).2)] = [(bs, srcO (zeo x most).2)] := ⟨rfl, rfl⟩
    simp only [setS, zbj, zbt, n5, n5', n4, n4', m5, m5', ↓reduceIte, List.map_cons, List.map_nil, zcl, zaw, zbd, zck, zce, Nat.reduceAdd, Nat.zero_add]
    exact DS.weaken (E' := [(34, ptr bs), (0, ptr bs), (1, I most), (4, ptr b4), (5, ptr b5)]) (S' := [(b5, .cells [I (zhu x), I (zak x 4 * 100), I (zak (zad x) 5 * 10 - 30), I (zak (zad (zad x)) 3), .v (.slice none 0 0), Bo (zmc (zad (zad (zad x))) 2), .v (.slice none 0 0), .v (.slice none 0 0)] 26), (bs, srcO (x5 x)), (b4, .cells zds 26)]) (zdf (by simp (disch := omega) only [go_sem, ↓reduceIte, Nat.reduceEqDiff, zdw, zeg, and_self])) (fun d o e => by
        rw [hs] at e
        simp only [zab, zcd] at e ⊢
        by_cases c0 : b5 = d
        · subst c0; simp only [n5, m5, ↓reduceIte] at e ⊢; exact e
        by_cases c1 : bs = d
        · subst c1; simp only [n5', n4', ↓reduceIte] at e ⊢; exact e
        by_cases c2 : b4 = d
        · subst c2; simp only [m5', n4, ↓reduceIte] at e ⊢; exact e
        · simp only [c0, c1, c2, ↓reduceIte] at e; cases e)
      (znu bs b4 b5 (x5 x) most (zhu x) (zak x 4 * 100) (zak (zad x) 5 * 10 - 30) (zak (zad (zad x)) 3) (zmc (zad (zad (zad x))) 2) hm ⟨⟨4, by rw [hs]; rfl⟩⟩ (by rw [hs]; omega) (by omega) (by omega) n4 n4' n5 n5' m5 m5' yR yR yR hR)
  · rename_i e0
    have hs : zhu x = 3 := by unfold zhu; rw [if_neg (by simp [e0])]
    have hR : (zeo x most).1.val = (zeo x most).1.val ∧ [(bs, srcO (zeo x most).2)] = [(bs, srcO (zeo x most).2)] := ⟨rfl, rfl⟩
    simp only [setS, zbj, zbt, n5, n5', n4, n4', m5, m5', ↓reduceIte, List.map_cons, List.map_nil, zcl, zaw, zbd, zck, zce, Nat.reduceAdd, Nat.zero_add]
    exact DS.weaken (E' := [(34, ptr bs), (0, ptr bs), (1, I most), (4, ptr b4), (5, ptr b5)]) (S' := [(b5, .cells [I (zhu x), I (zak x 4 * 100), I (zak (zad x) 5 * 10 - 30), I (zak (zad (zad x)) 3), .v (.slice none 0 0), Bo (zmc (zad (zad (zad x))) 2), .v (.slice none 0 0), .v (.slice none 0 0)] 26), (bs, srcO (x5 x)), (b4, .cells zds 26)]) (zdf (by simp (disch := omega) only [go_sem, ↓reduceIte, Nat.reduceEqDiff, zdw, zeg, and_self])) (fun d o e => by
        rw [hs] at e
        simp only [zab, zcd] at e ⊢
        by_cases c0 : b5 = d
        · subst c0; simp only [n5, m5, ↓reduceIte] at e ⊢; exact e
        by_cases c1 : bs = d
        · subst c1; simp only [n5', n4', ↓reduceIte] at e ⊢; exact e
        by_cases c2 : b4 = d
        · subst c2; simp only [m5', n4, ↓reduceIte] at e ⊢; exact e
        · simp only [c0, c1, c2, ↓reduceIte] at e; cases e)
      (znu bs b4 b5 (x5 x) most (zhu x) (zak x 4 * 100) (zak (zad x) 5 * 10 - 30) (zak (zad (zad x)) 3) (zmc (zad (zad (zad x))) 2) hm ⟨⟨3, by rw [hs]; rfl⟩⟩ (by rw [hs]; omega) (by omega) (by omega) n4 n4' n5 n5' m5 m5' yR yR yR hR)
end Go.XL
namespace Go.XL
open Go.Proofs
set_option maxRecDepth 100000
set_option maxHeartbeats 8000000
theorem made_dc (l : List Int) : DC Try.prog 14 [ints l] [] (fun u S' => ∃ bs, u = .tup [ptr bs, (zeo (newX l) 3).1.val] ∧ S' = [(bs, srcO (zeo (newX l) 3).2)]) := by
  refine DC.of_run Try.func14 rfl Try.ntmps14 Try.results14 (by simp) (fun _ => ?_); simp only [zaq, zas, go_sem, Nat.zero_add, Nat.reduceAdd]
  repeat' (first | (with_reducible first | refine DS.fltS yU yU yE ?_ | refine DS.seq ?_ | refine DS.regionL ?_) | fail)
  refine DS.allocS yR yU yU (fun b3 h3 => ?_)
  clear h3
  repeat' (first | (with_reducible first | refine DS.fltS yU yU yE ?_ | refine DS.opsNil ?_ | refine DS.seq ?_ | refine DS.regionL ?_) | fail)
  refine DS.call (dst := some 6) [] [(b3, .cells (List.map V.v (Value.agg #[.int .i64 0, .int .i64 0, .int .i64 0, .int .i64 0, .slice none 0 0, .bool false, .slice none 0 0, .slice none 0 0]).cells.toList) 26)] inferInstance (newSource_dc l) yR yH (fun _ _ e => by cases e) (fun _ _ e => ⟨e, rfl⟩) ?_
  rintro v S0 ⟨bs, rfl, rfl⟩ hdis
  have hn := hdis bs _ (by rw [zab, if_pos rfl])
  have n3 : ¬ b3 = bs := fun h => by rw [zab, if_pos h] at hn; cases hn
  have n3' : ¬ bs = b3 := fun h => n3 h.symm
  clear hn hdis
  simp only [zap, zar, zcz]
  repeat' (first | (with_reducible first | refine DS.fltS yU yU yE ?_ | refine DS.opsNil ?_ | refine DS.seq ?_ | refine DS.regionL ?_) | (refine DS.scS inferInstance (clubOf_dc bs (newX l) 3 (by omega)) yR yT yT ?_; (try simp only [zbj, zbt, ↓reduceIte, *])) | (refine DS.store yR yE yE yE yE yU (by exact ⟨by with_unfolding_all rfl, by (try simp only [List.length_map, List.length_append, List.length_set, List.length_replicate, List.length_cons, List.length_nil]); omega⟩) ?_; simp only [zbu, zaw, zbd, zcf, zbq, zbn, zbr]; try simp only [zal, zac, zae, Nat.reduceEqDiff, ↓reduceIte, zag, zah, zao, zaf, zaj, zam, zai]) | fail)
  simp only [Club.cells_eq, List.map_cons, List.map_nil, zcl, zbm, zaw, zbd, zck, zce, setS, n3', ↓reduceIte, Nat.reduceAdd, Nat.zero_add]
  refine DS.retW [(bs, srcO (zeo (newX l) 3).2)] (vs := [ptr bs, (zeo (newX l) 3).1.val]) yH (fun d o e => ?_) ⟨bs, rfl, rfl⟩
  simp only [zab, zcd] at e ⊢
  by_cases c0 : bs = d
  · rw [if_pos c0] at e ⊢; exact e
  · rw [if_neg c0] at e; cases e
theorem all_pc : PC Try.prog 46 [] (.own false 3 1 ([1, 2, 3, 4, 5, 6, 7, 8, 9].map cI)) := by
  refine DC.of_run Try.func46 rfl Try.ntmps46 Try.results46 (by simp) (fun _ => ?_); simp only [zaq, zas, go_sem, Nat.zero_add, Nat.reduceAdd]
  repeat' (first | with_reducible (refine DS.nilOwn (t := 0) yU (by first | exact .inl rfl | exact .inr rfl) yX8 ?_) | (with_reducible refine DS.mv (t := 0) yU (by first | exact .inl rfl | exact .inr rfl) yX8 ?_; simp only [zal, zac, zae, Nat.reduceEqDiff, ↓reduceIte, zag, zah, zao, zaf, zaj, zam, zai]) | (with_reducible first | refine DS.opsNil ?_ | refine DS.seq ?_ | refine DS.regionL ?_) | (refine DS.bsl yU yX8 yX8 ?_; simp only [go_sem, Nat.zero_add, Nat.reduceAdd]) | refine DS.retT [] yX8 trivial ?_ | fail)
  all_goals rfl
end Go.XL
namespace Go.XL
open Go.Proofs
set_option maxRecDepth 100000
set_option maxHeartbeats 8000000
theorem DS.mapO {P : Program} {n : Nat} {r : Rr} {Q : VEnv → Sto → Prop} {k : List Fr} {E : VEnv} {S : Sto} {b : Nat} {l : List V} {T : TypeId} (f : V → V) (hf : ∀ hv v y, v.Rl hv y → (f v).Rl hv y) (hfr : ∀ v, (f v).free = true) (hS : zaa S b = some (.cells l T)) (q : DS P n r Q k E (setS b (.cells (l.map f) T) S)) : DS P n r Q k E S := fun K W a w ⟨K', D, hv, hold, env, hbx, ha, s⟩ hw => by
  refine q K W a w ⟨K', D, hv, hold, env, hbx, ha, ⟨s.pre, s.slot, fun j o e => ?_, s.held, s.base, s.vbase⟩⟩ hw
  rw [zba hS] at e
  split at e
  · rename_i hj
    subst hj
    simp only [Option.some.injEq] at e; subst e
    obtain ⟨o1, o2, cs, o3, o4, o5, o6⟩ := s.obj _ _ hS
    have key : ∀ {l : List V} {cs : List Value}, RlL hv l cs → RlL hv (l.map f) cs := fun {l} => by
      induction l with
      | nil => exact fun h => h
      | cons v r ih =>
        intro cs h
        obtain ⟨z, zs, rfl, h1, h2⟩ := h.cons
        simp only [List.map_cons, RlL]
        exact ⟨z, zs, rfl, hf _ _ _ h1, ih h2⟩
    refine ⟨o1, o2, cs, o3, key o4, o5, fun i c u hc hu => ?_⟩
    obtain ⟨v, hv, rfl⟩ := List.mem_map.1 (List.mem_of_getElem? hc)
    exact V.free_Own (hfr v) u
  · exact s.obj j o e
theorem RlC_map {hv : VH} {f : V → V} (hf : ∀ v y, v.Rl hv y → (f v).Rl hv y) {p : Option Addr} : ∀ {c : List V} {i : Nat}, RlC hv p i c → RlC hv p i (c.map f)
  | [], _, _ => trivial
  | v :: r, i, h => by
    simp only [List.map_cons, RlC] at h ⊢
    obtain ⟨⟨u, h1, h2, h3⟩, h4⟩ := h
    exact ⟨⟨u, h1, hf _ _ h2, h3⟩, RlC_map hf h4⟩
theorem RlE_map {hv : VH} {f : V → V} (hf : ∀ v y, v.Rl hv y → (f v).Rl hv y) {p : Option Addr} : ∀ {l : List (List V)} {i : Nat}, RlE hv p i l → RlE hv p i (l.map (·.map f))
  | [], _, _ => trivial
  | c :: r, i, h => by
    simp only [List.map_cons, RlE] at h ⊢
    exact ⟨RlC_map hf h.1, by rw [List.length_map]; exact RlE_map hf h.2⟩
def inL (f : V → V) (v : V) : V := match v.peek with | .lst l => .lst (l.map (·.map f)) | w => w
theorem inL_Rl {hv : VH} {f : V → V} (hf : ∀ v y, v.Rl hv y → (f v).Rl hv y) {v : V} {y : Value} (h : v.Rl hv y) : (inL f v).Rl hv y := by
  have h' := V.peek_Rl h
  unfold inL
  split
  · rename_i l e
    rw [e] at h'
    simp only [V.Rl] at h' ⊢
    obtain ⟨p, cap, sz, h1, h2, h3, h4, h5⟩ := h'
    refine ⟨p, cap, sz, by rw [List.length_map]; exact h1, by rw [List.length_map]; exact h2, h3, fun c hc => ?_, RlE_map hf h5⟩
    obtain ⟨d, hd, rfl⟩ := List.mem_map.1 hc
    rw [List.length_map]; exact h4 d hd
  · exact h'
theorem inL_free (f : V → V) (v : V) : (inL f v).free = true := by
  unfold inL
  split
  · rfl
  · exact zgc v
def deep : V → V := inL (inL (inL V.peek))
theorem deep_Rl {hv : VH} {v : V} {y : Value} (h : v.Rl hv y) : (deep v).Rl hv y := inL_Rl (fun _ _ h => inL_Rl (fun _ _ h => inL_Rl (fun _ _ h => V.peek_Rl h) h) h) h
def shownC : Club := ⟨3, 100, -50, 1, [30, 0, -30], true, [⟨1, 0, 0, -1⟩, ⟨2, 0, 0, -1⟩, ⟨3, 0, 0, -1⟩, ⟨4, 0, 0, -1⟩, ⟨5, 0, 0, -1⟩, ⟨6, 0, 0, -1⟩, ⟨7, 0, 0, -1⟩, ⟨8, 0, 0, -1⟩, ⟨9, 5, 0, -1⟩], [⟨[[1, 2, 3], [4, 5, 6], [7, 8, 9]], [[130, 100, 70], [120, 120, 60], []], []⟩]⟩
abbrev shC (m r : V) : List V := [I 3, I 100, I (-50), I 1, ints [30, 0, -30], Bo true, m, r]
def mems (n : Nat) : List Member := (List.range n).map fun i : Nat => ⟨(i : Int) + 1, 0, 0, -1⟩
structure MemI (b0 b1 n : Nat) (g : GR) : Prop where
  l : g.l = (mems n).map Member.cells
  ok : g.Ok 88 4 (SR 88 g)
  nb : NB b0 b0 b1 b1 g
theorem yX35 {p : Prop} (h : p := by (simp (disch := omega) only [go_sem, dopV, Option.map_some, Option.map_none, Option.bind_some, Option.bind_none, ↓reduceIte, Nat.reduceEqDiff, Nat.reduceLT, Nat.reduceLeDiff, Nat.reduceAdd, Nat.reduceMul, Nat.reduceSub, Nat.zero_add, Nat.add_zero, Nat.zero_le, Nat.zero_mul, Nat.mul_one, Nat.one_mul, Int.natCast_zero, Int.toNat_zero, Int.reduceToNat, Int.reduceLT, Int.reduceLE, Int.reduceEq, decide_true, decide_false, true_and, and_true, Bool.and_self, Bool.and_true, Bool.true_and, Bool.not_true, Bool.not_false, IntWalk.toNatUp, IntWalk.iteOmega, IntWalk.i64_in, Option.isSome_some, not_true_eq_false, not_false_eq_true, Option.getD_some, Option.getD_none, Int.toNat_natCast, List.length_map, List.getElem?_map, List.getElem?_eq_getElem, V.flat, V.one, List.all_cons, List.all_nil, *, Value.oneCell', GR.cell_copy]; exact rfl)) : p := h
theorem yX36 {p : Prop} (h : p := by (simp (disch := omega) only [go_sem, dopV, Option.map_some, Option.map_none, Option.bind_some, Option.bind_none, ↓reduceIte, Nat.reduceEqDiff, Nat.reduceLT, Nat.reduceLeDiff, Nat.reduceAdd, Nat.reduceMul, Nat.reduceSub, Nat.zero_add, Nat.add_zero, Nat.zero_le, Nat.zero_mul, Nat.mul_one, Nat.one_mul, Int.natCast_zero, Int.toNat_zero, Int.reduceToNat, Int.reduceLT, Int.reduceLE, Int.reduceEq, decide_true, decide_false, true_and, and_true, Bool.and_self, Bool.and_true, Bool.true_and, Bool.not_true, Bool.not_false, IntWalk.toNatUp, IntWalk.iteOmega, IntWalk.i64_in, Option.isSome_some, not_true_eq_false, not_false_eq_true, Option.getD_some, Option.getD_none, Int.toNat_natCast, List.length_map, List.getElem?_map, List.getElem?_eq_getElem, V.flat, V.one, List.all_cons, List.all_nil, Club.cells_eq]; try exact rfl)) : p := h
theorem shown_pc : PC Try.prog 44 [] shownC.val := by
  refine DC.of_run Try.func44 rfl Try.ntmps44 Try.results44 (by simp) (fun _ => ?_); simp only [zaq, zas, go_sem, Nat.zero_add, Nat.reduceAdd]
  repeat' (first | (with_reducible first | refine DS.seq ?_ | refine DS.regionL ?_) | fail)
  refine DS.allocS yR yU yU (fun b0 h0 => ?_)
  clear h0
  repeat' (first | (with_reducible first | refine DS.fltS yU yU yX8 ?_ | refine DS.opsNil ?_ | refine DS.seq ?_ | refine DS.regionL ?_) | (refine DS.bsl yU yX8 yX8 ?_; simp only [go_sem, Nat.zero_add, Nat.reduceAdd]) | fail)
  refine DS.allocS yR yU yU (fun b1 h1 => ?_)
  have n1 : ¬ b0 = b1 := fun e => by rw [zab, if_pos e] at h1; cases h1
  have n1' : ¬ b1 = b0 := fun e => n1 e.symm
  clear h1
  repeat' (first | (with_reducible first | refine DS.fltS yU yU yX8 ?_ | refine DS.opsNil ?_ | refine DS.seq ?_ | refine DS.regionL ?_ | refine DS.block ?_) | (refine DS.store yR yX8 yX8 yX8 yX8 yU (by exact ⟨by with_unfolding_all rfl, by (try simp only [List.length_map, List.length_append, List.length_set, List.length_replicate, List.length_cons, List.length_nil]); omega⟩) ?_; simp only [zbu, zaw, zbd, zcf, zbq, zbn, zbr]; try simp only [zal, zac, zae, Nat.reduceEqDiff, ↓reduceIte, zag, zah, zao, zaf, zaj, zam, zai]) | fail)
  simp only [List.map_cons, List.map_nil, zcl, zbm, zaw, zbd, zck, zce, setS, n1', ↓reduceIte, Nat.reduceAdd, Nat.zero_add]
  refine DS.loopS [0, 1] (by (simp only [go_sem, Nat.reduceEqDiff, ↓reduceIte]; exact rfl)) (fun (y : Nat × Int × GR) => [(2, I y.2.1)]) (fun (y : Nat × Int × GR) => (b1, .cells (shC y.2.2.cell (.v (.slice none 0 0))) 26) :: (b0, .cells zds 26) :: SR 88 y.2.2) (fun (y : Nat × Int × GR) => y.1 ≤ 9 ∧ (y.2.1 ≤ y.1 + 1 ∧ (y.1 : Int) + 1 ≤ y.2.1) ∧ MemI b0 b1 y.1 y.2.2) (fun (y : Nat × Int × GR) => 9 - y.1) (0, 1, ⟨[], none⟩) yS (fun b o e => by exact e) ⟨by dsimp only; omega, by dsimp only; omega, ⟨rfl, rfl, fun _ _ _ e => by cases e⟩⟩ (fun y B hI hB => ?_); try dsimp only at hI hB; simp only [zap, zar]
  obtain ⟨m, i, g⟩ := y
  dsimp only at hI hB ⊢
  obtain ⟨g1, g2, hg⟩ := hI
  repeat' (first | (with_reducible first | refine DS.fltS yU yU yX35 ?_ | refine DS.opsNil ?_ | refine DS.seq ?_ | refine DS.regionL ?_ | (refine DS.cE yX35 ?_; refine CG.p (fun _ => ?_) (fun _ => ?_)) | refine DS.block ?_ | refine DS.exit yU ?_ | refine DS.skip ?_) | (refine DS.bsl yU yX35 yX35 ?_; simp only [go_sem, Nat.zero_add, Nat.reduceAdd]) | fail)
  · have hgl : g.l.length = m := by rw [hg.l, List.length_map]; simp [mems]
    refine DS.step rfl rfl yR (OpS.appG (g := g) (ml := [Member.cells ⟨i, 0, 0, -1⟩]) rfl yH yH yR yR (by decide) yH (hg.ok.of fun d cap' jj h => ?_) yH yH (by exact Nat.zero_lt_succ _) (by intro c hc; obtain rfl := List.mem_singleton.1 hc; rfl) ⟨by rw [hgl, List.length_singleton]; omega, by decide⟩) (fun u2 E' S4 hu2 => ?_)
    · have hn := hg.nb d cap' jj h
      rw [zab, if_neg (fun h' => hn.2.2.1 h'.symm), zab, if_neg (fun h' => hn.1 h'.symm)]
    obtain ⟨rfl, b', cap', junk', rfl, m1, m2, m3⟩ := hu2
    obtain rfl : i = (m : Int) + 1 := by omega
    have hml : g.l ++ [Member.cells ⟨(m : Int) + 1, 0, 0, -1⟩].map (fun x => List.map V.copy x) = (mems (m + 1)).map Member.cells := by
      rw [hg.l, mems, mems, List.range_succ, List.map_append, List.map_append]; rfl
    rw [hml] at m1 ⊢
    have hnl : ((mems (m + 1)).map Member.cells).length = m + 1 := by rw [List.length_map]; simp [mems]
    have e0 : b' ≠ b1 ∧ b' ≠ b0 := by
      rcases m2 with ⟨c, jj, h⟩ | h
      · have hn := hg.nb _ _ _ h
        exact ⟨hn.2.2.1, hn.1⟩
      · simp only [zab] at h
        refine ⟨fun h' => ?_, fun h' => ?_⟩
        · rw [if_pos h'.symm] at h; cases h
        · rw [if_neg (fun x => n1' (x.trans h')), if_pos h'.symm] at h; cases h
    obtain ⟨e1, e2⟩ := e0
    have hold : ∀ d, d ≠ b' → (d = b1 ∨ d = b0) → zaa S4 d = zaa ((b1, Ob.cells (shC g.cell (.v (.slice none 0 0))) 26) :: (b0, .cells zds 26) :: SR 88 g) d := fun d hd hl =>
      m3 d hd fun c jj h => by
        have hn := hg.nb _ _ _ h
        rcases hl with rfl | rfl
        · exact hn.2.2.1 rfl
        · exact hn.1 rfl
    refine DS.reS (S' := (b1, .cells (shC g.cell (.v (.slice none 0 0))) 26) :: (b0, .cells zds 26) :: SR 88 ⟨(mems (m + 1)).map Member.cells, some (b', cap', junk')⟩) (fun d o e => ?_) ?_
    · simp only [zab, zcd, SR] at e
      by_cases c1 : b1 = d
      · subst c1; rw [if_pos rfl] at e; rw [hold _ (fun h => e1 h.symm) (.inl rfl), zab, if_pos rfl]; exact e
      rw [if_neg c1] at e
      by_cases c2 : b0 = d
      · subst c2; rw [if_pos rfl] at e; rw [hold _ (fun h => e2 h.symm) (.inr rfl), zab, if_neg c1, zab, if_pos rfl]; exact e
      rw [if_neg c2] at e
      by_cases c3 : b' = d
      · subst c3; rw [if_pos rfl] at e; rw [m1.look]; exact e
      · rw [if_neg c3] at e; cases e
    have hI2 : MemI b0 b1 (m + 1) ⟨(mems (m + 1)).map Member.cells, some (b', cap', junk')⟩ := ⟨rfl, ⟨by simp [SR, zaa], m1.len, m1.le, m1.cap, m1.jf, m1.lf, m1.ll⟩, fun c1 c2 c3 h => by cases h; exact ⟨e2, e2, e1, e1⟩⟩
    have H := Box.mk hI2
    clear hI2 hml m1 m2 m3 hold hg
    simp only [GR.cell_some, zcz]
    repeat' (first | (with_reducible first | refine DS.fltS yU yU yE ?_ | refine DS.opsNil ?_ | refine DS.regionL ?_ | refine DS.blk ?_) | (refine DS.store yR yE yE yE yE yU (by exact ⟨by with_unfolding_all rfl, by (try simp only [List.length_map, List.length_append, List.length_set, List.length_replicate, List.length_cons, List.length_nil]); omega⟩) ?_; simp only [zbu, zaw, zbd, zcf, zbq, zbn, zbr]; try simp only [zal, zac, zae, Nat.reduceEqDiff, ↓reduceIte, zag, zah, zao, zaf, zaj, zam, zai]) | fail)
    simp only [setS, ↓reduceIte, zck, zce]
    refine DS.back (hB (m + 1, (m : Int) + 1 + 1, ⟨(mems (m + 1)).map Member.cells, some (b', cap', junk')⟩) _ _ (by dsimp only; omega) ⟨by dsimp only; omega, by dsimp only; omega, H.out⟩ yS yS (fun d o e => ?_))
    dsimp only at e
    rw [GR.cell_some, hnl] at e
    exact e
  · obtain rfl : m = 9 := by omega
    obtain ⟨l, blk⟩ := g
    obtain rfl : l = (mems 9).map Member.cells := hg.l
    cases blk with
    | none =>
      have : (mems 9).map Member.cells = [] := hg.ok
      cases this
    | some y =>
      obtain ⟨bm, cap, j⟩ := y
      have hok : GR.At 88 4 (SR 88 ⟨(mems 9).map Member.cells, some (bm, cap, j)⟩) ((mems 9).map Member.cells) bm cap j := hg.ok
      have hb := hg.nb bm cap j rfl
      have o0 : ¬ b0 = bm := fun h => hb.1 h.symm
      have o1 : ¬ b1 = bm := fun h => hb.2.2.1 h.symm
      have o1' : ¬ bm = b1 := hb.2.2.1
      have hle := hok.le
      have hcap := hok.cap
      have hfl : ((mems 9).map Member.cells).flatten = [I 1, I 0, I 0, I (-1), I 2, I 0, I 0, I (-1), I 3, I 0, I 0, I (-1), I 4, I 0, I 0, I (-1), I 5, I 0, I 0, I (-1), I 6, I 0, I 0, I (-1), I 7, I 0, I 0, I (-1), I 8, I 0, I 0, I (-1), I 9, I 0, I 0, I (-1)] := by with_unfolding_all rfl
      have hl9 : ((mems 9).map Member.cells).length = 9 := by with_unfolding_all rfl
      simp only [GR.cell_some, SR, hfl, hl9]
      rw [hl9] at hle
      clear hg hok hfl hl9
      repeat' (first | (with_reducible first | refine DS.fltS yU yU yE ?_ | refine DS.opsNil ?_ | refine DS.seq ?_ | refine DS.regionL ?_) | (refine DS.store yR yE yE yE yE yU (by exact ⟨by with_unfolding_all rfl, by (try simp only [List.length_map, List.length_append, List.length_set, List.length_replicate, List.length_cons, List.length_nil]); omega⟩) ?_; simp only [zbu, zaw, zbd, zcf, zbq, zbn, zbr]; try simp only [zal, zac, zae, Nat.reduceEqDiff, ↓reduceIte, zag, zah, zao, zaf, zaj, zam, zai]) | fail)
      simp only [setS, o1, ↓reduceIte]
      refine DS.freezeC (b := bm) (b' := b1) (i := 6) (sz := 4) (len := 9) (cap := cap) (l' := shC (.v (.slice (some ⟨bm, 0, none⟩) 9 cap)) (.v (.slice none 0 0))) (l := [I 1, I 0, I 0, I (-1), I 2, I 0, I 0, I (-1), I 3, I 0, I 0, I (-1), I 4, I 0, I 0, I (-1), I 5, I 0, I 0, I (-1), I 6, I 0, I 0, I (-1), I 7, I 0, I 0, I (-1), I 8, I 0, I 0, I (-1), I 9, I 5, I 0, I (-1)] ++ j) (T := 88) (T' := 26) o1 (by simp only [zab, ↓reduceIte]) yR (by simp only [zab, o0, o1, ↓reduceIte]; rfl) (by simp) ⟨hle, hcap⟩ ?_
      have hch : chunk 4 9 (([I 1, I 0, I 0, I (-1), I 2, I 0, I 0, I (-1), I 3, I 0, I 0, I (-1), I 4, I 0, I 0, I (-1), I 5, I 0, I 0, I (-1), I 6, I 0, I 0, I (-1), I 7, I 0, I 0, I (-1), I 8, I 0, I 0, I (-1), I 9, I 5, I 0, I (-1)] ++ j).map V.copy) = shownC.members.map Member.cells := by with_unfolding_all rfl
      rw [hch]
      clear hch
      simp only [setS, zbj, zbt, o0, o1, ↓reduceIte, zck, zce, shC]
      repeat' (first | (with_reducible first | refine DS.fltS yU yU yX8 ?_ | refine DS.opsNil ?_ | refine DS.seq ?_ | refine DS.regionL ?_) | (refine DS.bsl yU yX8 yX8 ?_; simp only [go_sem, Nat.zero_add, Nat.reduceAdd]) | (refine DS.store yR yX8 yX8 yX8 yX8 yU (by exact ⟨by with_unfolding_all rfl, by (try simp only [List.length_map, List.length_append, List.length_set, List.length_replicate, List.length_cons, List.length_nil]); omega⟩) ?_; simp only [zbu, zaw, zbd, zcf, zbq, zbn, zbr]; try simp only [zal, zac, zae, Nat.reduceEqDiff, ↓reduceIte, zag, zah, zao, zaf, zaj, zam, zai]) | fail)
      simp only [zds, List.map_cons, List.map_nil, zcl, zbm, zbw, zaw, zbd, zck, zce, setS, n1, n1', ↓reduceIte, Nat.reduceAdd, Nat.zero_add]
      refine DS.mapO (b := b0) deep (fun _ _ _ h => deep_Rl h) (fun v => inL_free _ v) (by simp only [zab, n1', ↓reduceIte]; exact rfl) ?_
      refine DS.reS (S' := [(b0, .cells shownC.cells 26)]) (fun d o e => ?_) ?_
      · simp only [setS, n1', ↓reduceIte, zab, zcd] at e ⊢
        by_cases c0 : b0 = d
        · subst c0
          simp only [n1', ↓reduceIte] at e ⊢
          rw [← e]; with_unfolding_all rfl
        · rw [if_neg c0] at e; cases e
      · exact DS.retW [] (vs := [shownC.val]) yX36 (fun _ _ e => by cases e) rfl
end Go.XL
namespace Go.XL
def zlu (sum many at_ : Int) : Int := if at_ < sum % many then sum / many + 1 else sum / many
def zlv (points places : List Int) (start : Int) (shared : Bool) (i : Nat) : Int :=
  points.getD i 0 - start + if shared then zlu ((places.drop (zhd points (points.getD i 0))).take (zdc points (points.getD i 0))).sum (zdc points (points.getD i 0)) (zdc (points.take i) (points.getD i 0))
    else places.getD (zhd points (points.getD i 0) + zdc (points.take i) (points.getD i 0)) 0
def ztb (points places : List Int) (start : Int) (shared : Bool) : List Int :=
  if places.length < points.length then [] else (List.range points.length).map (zlv points places start shared)
theorem moreS_le (l : List Int) (p : Int) : zhd l p ≤ l.length := List.length_filter_le _ _
theorem zsg (l : List Int) (p : Int) : zdc l p ≤ l.length := List.length_filter_le _ _
theorem moreS_succ {l : List Int} {k : Nat} (p : Int) (h : k < l.length) : zhd (l.take (k + 1)) p = zhd (l.take k) p + if p < l[k] then 1 else 0 := by
  rw [List.take_succ_eq_append_getElem h, zhd, zhd, List.filter_append, List.length_append]
  by_cases h1 : p < l[k] <;> simp [h1]
theorem zns {l : List Int} {k : Nat} (p : Int) (h : k < l.length) : zdc (l.take (k + 1)) p = zdc (l.take k) p + if l[k] = p then 1 else 0 := by
  rw [List.take_succ_eq_append_getElem h, zdc, zdc, List.filter_append, List.length_append]
  by_cases h1 : l[k] = p <;> simp [h1]
theorem me_le : ∀ (l : List Int) (p : Int), zhd l p + zdc l p ≤ l.length
  | [], p => by simp [zhd, zdc]
  | x :: r, p => by
    have h := me_le r p
    simp only [zhd, zdc, List.filter_cons, List.length_cons] at h ⊢
    by_cases h1 : p < x
    · rw [if_pos (decide_eq_true h1), if_neg (by simp; omega)]; simp only [List.length_cons]; omega
    · rw [if_neg (by simpa using h1)]; split <;> (try simp only [List.length_cons]) <;> omega
theorem equalS_pos {l : List Int} {i : Nat} (h : i < l.length) : zdc (l.take i) l[i] < zdc l l[i] := by
  have e : l = l.take i ++ l[i] :: l.drop (i + 1) := by rw [← List.drop_eq_getElem_cons h, List.take_append_drop]
  have : zdc l l[i] = zdc (l.take i) l[i] + zdc (l[i] :: l.drop (i + 1)) l[i] := by
    conv => lhs; rw [zdc]
    have : ∀ p, ((l.filter fun x => decide (x = p)).length) = ((l.take i ++ l[i] :: l.drop (i + 1)).filter fun x => decide (x = p)).length := fun p => by rw [← e]
    rw [this, List.filter_append, List.length_append]; rfl
  rw [this]
  simp only [zdc, List.filter_cons, decide_true, if_true, List.length_cons]; omega
theorem shareS_eq {sum many at_ : Int} (hm : 0 < many) : zlu sum many at_ = if (if sum.tmod many < 0 then (sum.tdiv many - 1, sum.tmod many + many) else (sum.tdiv many, sum.tmod many)).2 > at_ then (if sum.tmod many < 0 then (sum.tdiv many - 1, sum.tmod many + many) else (sum.tdiv many, sum.tmod many)).1 + 1 else (if sum.tmod many < 0 then (sum.tdiv many - 1, sum.tmod many + many) else (sum.tdiv many, sum.tmod many)).1 := by
  have h1 := Int.mul_tdiv_add_tmod sum many
  have h2 := Int.mul_ediv_add_emod sum many
  have h3 := Int.emod_nonneg sum (show many ≠ 0 by omega)
  have h4 := Int.emod_lt_of_pos sum hm
  have h5 : sum.tmod many < many := Int.tmod_lt_of_pos sum hm
  have h6 : -many < sum.tmod many := Int.lt_tmod_of_pos sum hm
  have key : ∀ a b r s : Int, many * a + r = many * b + s → 0 ≤ r → r < many → 0 ≤ s → s < many → a = b ∧ r = s := by
    intro a b r s e r0 r1 s0 s1
    have h : many * (a - b) = s - r := by rw [Int.mul_sub]; omega
    have hab : a - b = 0 := by
      rcases Int.lt_trichotomy (a - b) 0 with h7 | h7 | h7
      · have : many * (a - b) ≤ many * (-1) := Int.mul_le_mul_of_nonneg_left (by omega) (by omega)
        omega
      · exact h7
      · have : many * 1 ≤ many * (a - b) := Int.mul_le_mul_of_nonneg_left (by omega) (by omega)
        omega
    have : a = b := by omega
    subst this
    exact ⟨rfl, by omega⟩
  rw [zlu]
  by_cases h : sum.tmod many < 0
  · simp only [if_pos h]
    obtain ⟨e1, e2⟩ := key (sum.tdiv many - 1) (sum / many) (sum.tmod many + many) (sum % many) (by rw [Int.mul_sub]; omega) (by omega) (by omega) h3 h4
    rw [e1, e2]
  · simp only [if_neg h]
    obtain ⟨e1, e2⟩ := key (sum.tdiv many) (sum / many) (sum.tmod many) (sum % many) (by omega) (by omega) (by omega) h3 h4
    rw [e1, e2]
end Go.XL
namespace Go.XL
open Go.Proofs
set_option maxRecDepth 100000
set_option maxHeartbeats 8000000
theorem above_pc (l : List Int) {i : Nat} (hi : i < l.length) (hl : l.length ≤ 1000000) : PC Try.prog 66 [ints l, I i] (.tup [I (zhd l l[i]), I (zdc l l[i]), I (zdc (l.take i) l[i])]) := by
  refine DC.of_run Try.func66 rfl Try.ntmps66 Try.results66 (by simp) (fun _ => ?_); simp only [zaq, zas, go_sem, Nat.zero_add, Nat.reduceAdd]
  repeat' (first | (with_reducible first | refine DS.fltS yU yU yE ?_ | refine DS.opsNil ?_ | refine DS.seq ?_ | refine DS.regionL ?_ | refine DS.block ?_) | fail)
  refine DS.loopK [0, 1, 9, 10] (by (simp only [go_sem, Nat.reduceEqDiff, ↓reduceIte]; exact rfl)) (fun (x : Nat × Nat × Nat × Nat) => [(4, I x.1), (5, I x.2.1), (6, I x.2.2.1), (11, I x.2.2.2)]) (fun (x : Nat × Nat × Nat × Nat) => x.2.2.2 ≤ l.length ∧ x.1 = zhd (l.take x.2.2.2) l[i] ∧ x.2.1 = zdc (l.take x.2.2.2) l[i] ∧ x.2.2.1 = zdc (l.take (min i x.2.2.2)) l[i] ∧ x.1 ≤ 1000000 ∧ x.2.1 ≤ 1000000 ∧ x.2.2.1 ≤ 1000000) (fun (x : Nat × Nat × Nat × Nat) => l.length - x.2.2.2) (0, 0, 0, 0) yS (by simp [zhd, zdc]) (fun x B hI hB => ?_); try dsimp only at hI hB; simp only [zap, zar]
  obtain ⟨a, b, c, k⟩ := x
  dsimp only at hI hB
  obtain ⟨g1, g2, g3, g4, g5, g6, g7⟩ := hI
  have H := Box.mk (And.intro g2 (And.intro g3 g4))
  clear g2 g3 g4
  have hk1 : ∀ h : k < l.length, zhd (l.take (k + 1)) l[i] = zhd (l.take k) l[i] + if l[i] < l[k] then 1 else 0 := fun h => moreS_succ _ h
  have hk2 : ∀ h : k < l.length, zdc (l.take (k + 1)) l[i] = zdc (l.take k) l[i] + if l[k] = l[i] then 1 else 0 := fun h => zns _ h
  have hk3 : ∀ h : k < l.length, zdc (l.take (min i (k + 1))) l[i] = zdc (l.take (min i k)) l[i] + if k < i ∧ l[k] = l[i] then 1 else 0 := fun h => by
    by_cases hki : k < i
    · rw [Nat.min_eq_right (by omega), Nat.min_eq_right (by omega), zns _ h]
      by_cases h2 : l[k] = l[i]
      · rw [if_pos h2, if_pos ⟨hki, h2⟩]
      · rw [if_neg h2, if_neg (fun h => h2 h.2)]
    · rw [Nat.min_eq_left (by omega), Nat.min_eq_left (by omega), if_neg (fun h => hki h.1)]; rfl
  have hz1 := moreS_le (l.take k) l[i]
  have hz2 := zsg (l.take k) l[i]
  have hz3 := zsg (l.take (min i k)) l[i]
  have hlt : (l.take k).length ≤ k := by simp; omega
  have hlt2 : (l.take (min i k)).length ≤ k := by simp; omega
  have H2 := Box.mk (And.intro hk1 (And.intro hk2 (And.intro hk3 (And.intro hz1 (And.intro hz2 (And.intro hz3 (And.intro hlt hlt2)))))))
  clear hk1 hk2 hk3 hz1 hz2 hz3 hlt hlt2
  repeat' (first | (with_reducible first | refine DS.fltS yU yU yE ?_ | refine DS.opsNil ?_ | refine DS.seq ?_ | refine DS.regionL ?_ | (refine DS.cE yE ?_; refine CG.p (fun _ => ?_) (fun _ => ?_)) | refine DS.blk ?_ | refine DS.block ?_ | refine DS.exit yU ?_ | refine DS.skip ?_) | refine DS.retT [] yE trivial ?_ | fail)
  all_goals obtain ⟨h1, h2, h3⟩ := H.out
  all_goals obtain ⟨k1, k2, k3, k4, k5, k6, k7, k8⟩ := H2.out
  · rename_i e1 e2
    exact DS.back (hB (a + 1, b, c, k + 1) _ _ (by dsimp only; omega) (⟨by dsimp only; omega, by dsimp only; rw [k1 (by omega), if_pos e2, h1], by dsimp only; rw [k2 (by omega), if_neg (by omega), h2]; rfl, by dsimp only; rw [k3 (by omega), if_neg (by omega), h3]; rfl, by dsimp only; omega, by dsimp only; omega, by dsimp only; omega⟩) yS yS (fun b o e => by first | exact e | (simp only [zab]; split <;> simp_all)))
  · rename_i e1 e2 e3 e4
    exact DS.back (hB (a, b + 1, c + 1, k + 1) _ _ (by dsimp only; omega) (⟨by dsimp only; omega, by dsimp only; rw [k1 (by omega), if_neg (by omega), h1]; rfl, by dsimp only; rw [k2 (by omega), if_pos e3, h2], by dsimp only; rw [k3 (by omega), if_pos ⟨by omega, e3⟩, h3], by dsimp only; omega, by dsimp only; omega, by dsimp only; omega⟩) yS yS (fun b o e => by first | exact e | (simp only [zab]; split <;> simp_all)))
  · rename_i e1 e2 e3 e4
    exact DS.back (hB (a, b + 1, c, k + 1) _ _ (by dsimp only; omega) (⟨by dsimp only; omega, by dsimp only; rw [k1 (by omega), if_neg (by omega), h1]; rfl, by dsimp only; rw [k2 (by omega), if_pos e3, h2], by dsimp only; rw [k3 (by omega), if_neg (by omega), h3]; rfl, by dsimp only; omega, by dsimp only; omega, by dsimp only; omega⟩) yS yS (fun b o e => by first | exact e | (simp only [zab]; split <;> simp_all)))
  · rename_i e1 e2 e3
    exact DS.back (hB (a, b, c, k + 1) _ _ (by dsimp only; omega) (⟨by dsimp only; omega, by dsimp only; rw [k1 (by omega), if_neg (by omega), h1]; rfl, by dsimp only; rw [k2 (by omega), if_neg (by omega), h2]; rfl, by dsimp only; rw [k3 (by omega), if_neg (by omega), h3]; rfl, by dsimp only; omega, by dsimp only; omega, by dsimp only; omega⟩) yS yS (fun b o e => by first | exact e | (simp only [zab]; split <;> simp_all)))
  · rename_i e1
    have hk : k = l.length := by omega
    subst hk
    rw [h1, h2, h3, List.take_of_length_le (Nat.le_refl _), Nat.min_eq_left (by omega)]; rfl
def Bd (n : Int) : Prop := -100000000000000 ≤ n ∧ n ≤ 100000000000000
theorem share_pc (sum many at_ : Int) (hs : Bd sum) (hm : 0 < many ∧ many ≤ 1000000) (ha : Bd at_) : PC Try.prog 67 [I sum, I many, I at_] (I (zlu sum many at_)) := by
  have e := shareS_eq (sum := sum) (at_ := at_) hm.1
  have h5 : sum.tmod many < many := Int.tmod_lt_of_pos sum hm.1
  have h6 : -many < sum.tmod many := Int.lt_tmod_of_pos sum hm.1
  have h7 : Bd (sum.tdiv many) := by
    have h1 := Int.natAbs_tdiv_le_natAbs sum many
    unfold Bd at *
    omega
  obtain ⟨hs1, hs2⟩ := hs
  obtain ⟨h71, h72⟩ := h7
  obtain ⟨ha1, ha2⟩ := ha
  have H := Box.mk e
  clear e
  refine DC.of_run Try.func67 rfl Try.ntmps67 Try.results67 (by simp) (fun _ => ?_); simp only [zaq, zas, go_sem, Nat.zero_add, Nat.reduceAdd]
  repeat' (first | (with_reducible first | refine DS.fltS yU yU yE ?_ | refine DS.opsNil ?_ | refine DS.seq ?_ | refine DS.regionL ?_ | (refine DS.cE yE ?_; refine CG.p (fun _ => ?_) (fun _ => ?_)) | refine DS.skip ?_) | refine DS.drawL (id := 1) [0, 1, 2, 3, 4, 5, 6] 7 (by kernel_rfl) zdb (by simp only [zay, zbf, zbg, zbh, zax]; exact rfl) (by simp only [zat, zau, List.drop_nil]; exact rfl) ?_ | (with_reducible first | refine DD.fltS yU yU yU yE ?_ | refine DD.nil0 ?_) | refine DS.retT [] yE trivial ?_ | fail)
  all_goals (rename_i e1 e2; rw [H.out]; simp only [e1, e2, if_true, if_false, gt_iff_lt]; rfl)
theorem shareS_bd {sum many at_ : Int} (hs : Bd sum) (hm : 0 < many) : -100000000000000 ≤ zlu sum many at_ ∧ zlu sum many at_ ≤ 100000000000001 := by
  have h2 := Int.mul_ediv_add_emod sum many
  have h3 := Int.emod_nonneg sum (show many ≠ 0 by omega)
  have h4 := Int.emod_lt_of_pos sum hm
  obtain ⟨s1, s2⟩ := hs
  have k1 : -100000000000000 ≤ sum / many := by
    rcases Int.lt_or_le (sum / many) (-100000000000000) with h | h
    · exfalso
      have h5 : many * (sum / many + 1) ≤ many * (-100000000000000) := Int.mul_le_mul_of_nonneg_left (by omega) (by omega)
      rw [Int.mul_add] at h5
      omega
    · exact h
  have k2 : sum / many ≤ 100000000000000 := by
    rcases Int.lt_or_le 100000000000000 (sum / many) with h | h
    · exfalso
      have h5 : many * 100000000000001 ≤ many * (sum / many) := Int.mul_le_mul_of_nonneg_left (by omega) (by omega)
      omega
    · exact h
  rw [zlu]
  split <;> omega
def B40 (n : Int) : Prop := -1099511627776 ≤ n ∧ n ≤ 1099511627776
theorem sum_take_succ {l : List Int} {k : Nat} (h : k < l.length) : (l.take (k + 1)).sum = (l.take k).sum + l[k] := by
  rw [List.take_succ_eq_append_getElem h, List.sum_append]; simp
theorem yX37 {p : Prop} (h : p := by (simp (disch := omega) only [go_sem, dopV, Option.map_some, Option.map_none, Option.bind_some, Option.bind_none, ↓reduceIte, Nat.reduceEqDiff, Nat.reduceLT, Nat.reduceLeDiff, Nat.reduceAdd, Nat.reduceMul, Nat.reduceSub, Nat.zero_add, Nat.add_zero, Nat.zero_le, Nat.zero_mul, Nat.mul_one, Nat.one_mul, Int.natCast_zero, Int.toNat_zero, Int.reduceToNat, Int.reduceLT, Int.reduceLE, Int.reduceEq, decide_true, decide_false, true_and, and_true, Bool.and_self, Bool.and_true, Bool.true_and, Bool.not_true, Bool.not_false, IntWalk.toNatUp, IntWalk.iteOmega, IntWalk.i64_in, Option.isSome_some, not_true_eq_false, not_false_eq_true, Option.getD_some, Option.getD_none, Int.toNat_natCast, List.length_map, List.getElem?_map, List.getElem?_eq_getElem, V.flat, V.one, List.all_cons, List.all_nil, *, List.forall_mem_map, implies_true, zcw]; exact rfl)) : p := h
theorem yX38 {p : Prop} (h : p := by first | exact rfl | (simp (disch := omega) only [go_sem, dopV, Option.map_some, Option.map_none, Option.bind_some, Option.bind_none, ↓reduceIte, Nat.reduceEqDiff, Nat.reduceLT, Nat.reduceLeDiff, Nat.reduceAdd, Nat.reduceMul, Nat.reduceSub, Nat.zero_add, Nat.add_zero, Nat.zero_le, Nat.zero_mul, Nat.mul_one, Nat.one_mul, Int.natCast_zero, Int.toNat_zero, Int.reduceToNat, Int.reduceLT, Int.reduceLE, Int.reduceEq, decide_true, decide_false, true_and, and_true, Bool.and_self, Bool.and_true, Bool.true_and, Bool.not_true, Bool.not_false, IntWalk.toNatUp, IntWalk.iteOmega, IntWalk.i64_in, Option.isSome_some, not_true_eq_false, not_false_eq_true, Option.getD_some, Option.getD_none, Int.toNat_natCast, List.length_map, List.getElem?_map, List.getElem?_eq_getElem, V.flat, V.one, List.all_cons, List.all_nil, *, List.forall_mem_map, implies_true, zcw]; exact rfl)) : p := h
theorem yX39 {p : Prop} (h : p := by (simp (disch := omega) only [go_sem, dopV, Option.map_some, Option.map_none, Option.bind_some, Option.bind_none, ↓reduceIte, Nat.reduceEqDiff, Nat.reduceLT, Nat.reduceLeDiff, Nat.reduceAdd, Nat.reduceMul, Nat.reduceSub, Nat.zero_add, Nat.add_zero, Nat.zero_le, Nat.zero_mul, Nat.mul_one, Nat.one_mul, Int.natCast_zero, Int.toNat_zero, Int.reduceToNat, Int.reduceLT, Int.reduceLE, Int.reduceEq, decide_true, decide_false, true_and, and_true, Bool.and_self, Bool.and_true, Bool.true_and, Bool.not_true, Bool.not_false, IntWalk.toNatUp, IntWalk.iteOmega, IntWalk.i64_in, Option.isSome_some, not_true_eq_false, not_false_eq_true, Option.getD_some, Option.getD_none, Int.toNat_natCast, List.length_map, List.getElem?_map, List.getElem?_eq_getElem, V.flat, V.one, List.all_cons, List.all_nil, *, List.forall_mem_map, implies_true, zcw]; try exact rfl)) : p := h
theorem scores_pc (points places : List Int) (start : Int) (shared : Bool) (hl : points.length ≤ 20) (hl2 : places.length ≤ 20) (hp : ∀ x ∈ points, B40 x) (hq : ∀ x ∈ places, B40 x) (hs : B40 start) :
    PC Try.prog 28 [ints points, ints places, I start, Bo shared] (.own false 3 1 ((ztb points places start shared).map cI)) := by
  obtain ⟨hs1, hs2⟩ := hs
  rw [ztb]
  refine DC.of_run Try.func28 rfl Try.ntmps28 Try.results28 (by simp) (fun _ => ?_); simp only [zaq, zas, go_sem, Nat.zero_add, Nat.reduceAdd]
  repeat' (first | (with_reducible first | (refine DS.nilOwn (t := 8) yU (by first | exact .inl rfl | exact .inr rfl) yE ?_) | (refine DS.nilOwn (t := 9) yU (by first | exact .inl rfl | exact .inr rfl) yE ?_) | refine DS.fltS yU yU yE ?_ | refine DS.opsNil ?_ | refine DS.seq ?_ | refine DS.regionL ?_ | (refine DS.cE yE ?_; refine CG.p (fun _ => ?_) (fun _ => ?_)) | refine DS.block ?_ | refine DS.skip ?_) | refine DS.retT [] yE trivial ?_ | fail)
  · rename_i e1
    rw [if_pos (by omega)]; rfl
  · rename_i e1
    rw [if_neg (by omega)]
    refine DS.loopK [0, 1, 2, 3, 24, 25] (by (simp only [go_sem, Nat.reduceEqDiff, ↓reduceIte]; exact rfl)) (fun (x : List Int × Nat) => [(9, .own false 3 1 (x.1.map cI)), (26, I x.2)]) (fun (x : List Int × Nat) => x.2 ≤ points.length ∧ x.1 = (List.range x.2).map (zlv points places start shared) ∧ x.1.length = x.2) (fun (x : List Int × Nat) => points.length - x.2) ([], 0) yS (by simp) (fun x B hI hB => ?_); try dsimp only at hI hB; simp only [zap, zar]
    obtain ⟨L, k⟩ := x
    dsimp only at hI hB
    obtain ⟨g1, g2, g3⟩ := hI
    have H := Box.mk g2
    clear g2
    by_cases hk : k < points.length
    · have p1 := me_le points points[k]
      have p2 := equalS_pos hk
      obtain ⟨p3, p4⟩ := hp _ (List.getElem_mem hk)
      obtain ⟨p5, p6⟩ := hq (places[zhd points points[k] + zdc (points.take k) points[k]]'(by omega)) (List.getElem_mem _)
      have hB0 := hB
      clear hB
      obtain ⟨P, hPe⟩ : ∃ P, P = (places.drop (zhd points points[k])).take (zdc points points[k]) := ⟨_, rfl⟩
      have hP : List.drop (zhd points points[k]) (List.take (zhd points points[k] + zdc points points[k]) (List.map cI places)) = P.map cI := by
        rw [List.drop_take, Nat.add_sub_cancel_left, hPe, List.map_take, List.map_drop]
      have hPl : P.length = zdc points points[k] := by rw [hPe, List.length_take, List.length_drop]; omega
      have hPb : ∀ x ∈ P, B40 x := fun x hx => hq x (List.mem_of_mem_drop (List.mem_of_mem_take (hPe ▸ hx)))
      have hnext : (List.range (k + 1)).map (zlv points places start shared) = L ++ [zlv points places start shared k] := by rw [List.range_succ, List.map_append, ← H.out]; rfl
      have hsc : zlv points places start shared k = points[k] - start + if shared then zlu P.sum (zdc points points[k]) (zdc (points.take k) points[k]) else places[zhd points points[k] + zdc (points.take k) points[k]]'(by omega) := by
        simp only [zlv, List.getD_eq_getElem?_getD, List.getElem?_eq_getElem hk, Option.getD_some]
        rw [← hPe, List.getElem?_eq_getElem (show zhd points points[k] + zdc (points.take k) points[k] < places.length by omega)]; rfl
      have H2 := Box.mk (And.intro hPe (And.intro hPb (And.intro hnext hsc)))
      clear hPe hPb hnext hsc
      repeat' (first | (with_reducible refine DS.mv (t := 8) yU (by first | exact .inl rfl | exact .inr rfl) yX37 ?_; simp only [zal, zac, zae, Nat.reduceEqDiff, ↓reduceIte, zag, zah, zao, zaf, zaj, zam, zai]) | (with_reducible refine DS.mv (t := 9) yU (by first | exact .inl rfl | exact .inr rfl) yX37 ?_; simp only [zal, zac, zae, Nat.reduceEqDiff, ↓reduceIte, zag, zah, zao, zaf, zaj, zam, zai]) | (with_reducible refine DS.mv (t := 64) yU (by first | exact .inl rfl | exact .inr rfl) yX37 ?_; simp only [zal, zac, zae, Nat.reduceEqDiff, ↓reduceIte, zag, zah, zao, zaf, zaj, zam, zai]) | (with_reducible refine DS.mv (t := 73) yU (by first | exact .inl rfl | exact .inr rfl) yX37 ?_; simp only [zal, zac, zae, Nat.reduceEqDiff, ↓reduceIte, zag, zah, zao, zaf, zaj, zam, zai]) | (with_reducible first | refine DS.fltS yU yU yX37 ?_ | refine DS.opsNil ?_ | refine DS.seq ?_ | refine DS.regionL ?_) | (with_reducible refine DS.cE yX37 ?_; first | with_reducible refine CG.p (fun _ => ?_) (fun _ => ?_) | with_reducible refine CG.b (fun _ => ?_) (fun _ => ?_)) | (with_reducible first | refine DS.blk ?_ | refine DS.block ?_ | refine DS.exit yU ?_ | refine DS.skip ?_) | (refine DS.bsl yU yX37 yX37 ?_; simp only [go_sem, Nat.zero_add, Nat.reduceAdd]) | (refine DS.append (mm := false) yU yX37 yX37 yU (by decide) yX37 (by first | exact .inl rfl | exact .inr ⟨rfl, rfl⟩) yX37 yX38 (by first | exact zan zcw _ | exact zan zdg _ | exact zan Member.len _ | exact zan Sitting.len _ | exact zan Ruling.len _ | (simp only [List.mem_cons, List.not_mem_nil, or_false, forall_eq]; rfl) | simp) ⟨by (try simp only [List.length_map, List.length_cons, List.length_nil, List.length_append, List.length_take, List.length_drop]); omega, by decide⟩ ?_; simp only [zal, zac, zae, Nat.reduceEqDiff, ↓reduceIte, zag, zah, zao, zaf, zaj, zam, zai]) | refine DS.pcS inferInstance (above_pc points hk (by omega)) yR yX39 ?_ | refine DS.retT [] yX37 trivial ?_ | fail)
      all_goals first | (exfalso; omega) | skip
      · rename_i e2 e3
        subst e3
        clear hP
        refine DS.loopK [0, 1, 2, 3, 9, 11, 13, 14, 24, 25, 26, 50, 51] (by (simp only [go_sem, Nat.reduceEqDiff, ↓reduceIte]; exact rfl)) (fun (y : Int × Nat) => [(16, I y.1), (52, I y.2)]) (fun (y : Int × Nat) => y.2 ≤ P.length ∧ y.1 = (P.take y.2).sum ∧ -(y.2 : Int) * 1099511627776 ≤ y.1 ∧ y.1 ≤ (y.2 : Int) * 1099511627776) (fun (y : Int × Nat) => P.length - y.2) (0, 0) yS (by simp) (fun y B hI hB => ?_); try dsimp only at hI hB; simp only [zap, zar]
        obtain ⟨a, j⟩ := y
        dsimp only at hI hB
        obtain ⟨j1, j2, j3, j4⟩ := hI
        have H3 := Box.mk j2
        clear j2
        by_cases hj : j < P.length
        · obtain ⟨p7, p8⟩ := H2.out.2.1 _ (List.getElem_mem hj)
          repeat' (first | (with_reducible first | refine DS.fltS yU yU yE ?_ | refine DS.opsNil ?_ | refine DS.seq ?_ | refine DS.regionL ?_ | (refine DS.cE yE ?_; refine CG.p (fun _ => ?_) (fun _ => ?_)) | refine DS.blk ?_ | refine DS.block ?_ | refine DS.exit yU ?_ | refine DS.skip ?_) | fail)
          all_goals first | (exfalso; omega) | skip
          refine DS.back (hB (a + P[j], j + 1) _ _ (by dsimp only; omega) ⟨by dsimp only; omega, by dsimp only; rw [H3.out, sum_take_succ hj], by dsimp only; omega, by dsimp only; omega⟩ yS yS (fun b o e => by exact e))
        · have hsh := share_pc a (zdc points points[k] : Nat) (zdc (points.take k) points[k] : Nat) ⟨by omega, by omega⟩ (by omega) ⟨by omega, by omega⟩
          have hbd := shareS_bd (sum := a) (many := (zdc points points[k] : Nat)) (at_ := (zdc (points.take k) points[k] : Nat)) ⟨by omega, by omega⟩ (by omega)
          obtain ⟨hb1, hb2⟩ := hbd
          repeat' (first | (with_reducible refine DS.mv (t := 9) yU (by first | exact .inl rfl | exact .inr rfl) yE ?_; simp only [zal, zac, zae, Nat.reduceEqDiff, ↓reduceIte, zag, zah, zao, zaf, zaj, zam, zai]) | (with_reducible refine DS.mv (t := 64) yU (by first | exact .inl rfl | exact .inr rfl) yE ?_; simp only [zal, zac, zae, Nat.reduceEqDiff, ↓reduceIte, zag, zah, zao, zaf, zaj, zam, zai]) | (with_reducible first | refine DS.fltS yU yU yE ?_ | refine DS.opsNil ?_ | refine DS.seq ?_ | refine DS.regionL ?_ | (refine DS.cE yE ?_; refine CG.p (fun _ => ?_) (fun _ => ?_)) | refine DS.blk ?_ | refine DS.block ?_ | refine DS.exit yU ?_ | refine DS.skip ?_) | (refine DS.bsl yU yE yE ?_; simp only [go_sem, Nat.zero_add, Nat.reduceAdd]) | (refine DS.append (mm := false) yU yE yE yU (by decide) yE (by first | exact .inl rfl | exact .inr ⟨rfl, rfl⟩) yE yX0 (by first | exact zan zcw _ | exact zan zdg _ | exact zan Member.len _ | exact zan Sitting.len _ | exact zan Ruling.len _ | (simp only [List.mem_cons, List.not_mem_nil, or_false, forall_eq]; rfl) | simp) ⟨by (try simp only [List.length_map, List.length_cons, List.length_nil, List.length_append, List.length_take, List.length_drop]); omega, by decide⟩ ?_; simp only [zal, zac, zae, Nat.reduceEqDiff, ↓reduceIte, zag, zah, zao, zaf, zaj, zam, zai]) | refine DS.pcS inferInstance (hsh) yR yT ?_ | fail)
          all_goals first | (exfalso; omega) | skip
          obtain ⟨h1, h2, h3, h4⟩ := H2.out
          have hjj : j = P.length := by omega
          have ha := H3.out
          rw [hjj, List.take_of_length_le (Nat.le_refl _)] at ha
          refine DS.back (hB0 (L ++ [zlv points places start true k], k + 1) _ _ (by dsimp only; omega) ⟨by dsimp only; omega, h3.symm, by simp; omega⟩ ?_ yS (fun b o e => by exact e))
          rw [h4, ← ha]
          simp only [zdw, zeg, go_sem, ↓reduceIte, Nat.reduceEqDiff, List.map_append, Int.natCast_add, Int.natCast_one, and_self, if_true]
      · rename_i e2 e3
        subst e3
        obtain ⟨h1, h2, h3, h4⟩ := H2.out
        refine DS.back (hB0 (L ++ [zlv points places start false k], k + 1) _ _ (by dsimp only; omega) ⟨by dsimp only; omega, h3.symm, by simp; omega⟩ ?_ yS (fun b o e => by exact e))
        rw [h4]
        simp only [zdw, zeg, go_sem, ↓reduceIte, Nat.reduceEqDiff, List.map_append, Int.natCast_add, Int.natCast_one, and_self, if_false, Bool.false_eq_true]
    · repeat' (first | (with_reducible refine DS.mv (t := 8) yU (by first | exact .inl rfl | exact .inr rfl) yE ?_; simp only [zal, zac, zae, Nat.reduceEqDiff, ↓reduceIte, zag, zah, zao, zaf, zaj, zam, zai]) | (with_reducible refine DS.mv (t := 73) yU (by first | exact .inl rfl | exact .inr rfl) yE ?_; simp only [zal, zac, zae, Nat.reduceEqDiff, ↓reduceIte, zag, zah, zao, zaf, zaj, zam, zai]) | (with_reducible first | refine DS.fltS yU yU yE ?_ | refine DS.opsNil ?_ | refine DS.seq ?_ | refine DS.regionL ?_ | (refine DS.cE yE ?_; refine CG.p (fun _ => ?_) (fun _ => ?_)) | refine DS.block ?_ | refine DS.exit yU ?_ | refine DS.skip ?_) | refine DS.retT [] yE trivial ?_ | fail)
      all_goals first | (exfalso; omega) | skip
      have h := H.out
      have hkk : k = points.length := by omega
      subst hkk
      rw [← h]; rfl
end Go.XL
namespace Go.XL
open Go.Proofs
set_option maxRecDepth 100000
set_option maxHeartbeats 8000000
theorem yX40 {p : Prop} (h : p := by (simp (disch := omega) only [go_sem, dopV, Option.map_some, Option.map_none, Option.bind_some, Option.bind_none, ↓reduceIte, Nat.reduceEqDiff, Nat.reduceLT, Nat.reduceLeDiff, Nat.reduceAdd, Nat.reduceMul, Nat.reduceSub, Nat.zero_add, Nat.add_zero, Nat.zero_le, Nat.zero_mul, Nat.mul_one, Nat.one_mul, Int.natCast_zero, Int.toNat_zero, Int.reduceToNat, Int.reduceLT, Int.reduceLE, Int.reduceEq, decide_true, decide_false, true_and, and_true, Bool.and_self, Bool.and_true, Bool.true_and, Bool.not_true, Bool.not_false, IntWalk.toNatUp, IntWalk.iteOmega, IntWalk.i64_in, Option.isSome_some, not_true_eq_false, not_false_eq_true, Option.getD_some, Option.getD_none, Int.toNat_natCast, List.length_map, List.getElem?_map, List.getElem?_eq_getElem, V.flat, V.one, List.all_cons, List.all_nil, *, pC_eq, PRow.cell_copy]; exact rfl)) : p := h
theorem round2_ds {bx bp bm : Nat} {size : Nat} {rs : List (List Int)} {budget : Int} {n1 : Nat} (ih : zsp bx bp bm size rs budget n1) {met : Int → Int → Bool} {w : W} {B : Int} {ps : List PRow} {r1 : Nat} {f : Int} {fr : List Int} (hg : GoodW B met w) (hB : B + (n1 + 1) ≤ 1000000000000) (hf : AscI (f :: fr))
    (hn : mzS rs r1 (f :: fr).length < n1 + 1) (hT : ∀ i (h : i < ps.length), ps[i].rows.length + (n1 + 1) ≤ 10000) (hps : ps.length = rs.length) (hr : r1 < rs.length) {b4 b5 b6 : Nat} {res : Int × Int × List (Nat × List Int)}
    {v1 : VH} {l : Nat} {rc : Loop} {c : Code} (hc : Try.f96.body.bind (zhr 12) = some c) (hst : rc.state = .ready) (hpend : rc.pending = none)
    {bf : Nat} {t : List Int} {X : List (List Int)} {S5 : Sto} {st : Int} {ps1 : List PRow} (e1 : ¬ st = budget) (htab : t.length = size ∧ t.Sublist (f :: fr) ∧ t.Pairwise (· < ·) ∧ t.headD 0 = (f :: fr).headD 0) (hpl : ps1.length = ps.length)
    (hrw : ∀ (i : Nat) (h : i < ps.length) (h' : i < ps1.length), ps1[i].rows = ps[i].rows) (hap : ztm ps1 b5) (hsz : 3 ≤ size)
    (htry : tryL budget r1 (fun t s => srch size budget rs n1 (zii met t) r1 ((f :: fr).filter fun id => !decide (id ∈ t)) s) (t :: X) st = res) (htabs : TabsOk size (f :: fr) X) (hr1 : r1 < ps1.length) {b' cap' : Nat} {junk' : List V}
    (g9 : SearchP S5 bx bp bm size rs budget (w64 (st + 1)) (addT 1 [] t w) (ps1.set r1 ⟨(ps1[r1]'hr1).rows ++ [t], some (b', cap', junk')⟩)) (oth : Oth S5 l b4 b5 b6 bf bx { rc with state := .busy } r1 (f :: fr)) (hb5 : b' ≠ b5) :
    DS Try.prog 108 ⟨some l, v1⟩ (fun _ _ => False) [.code c, .blk 3, .rnd (RndQ l (fun u S' => ((u = Bo true ∧ ∃ st ps1, FInv l b4 b5 b6 bx bp bm rc size rs budget w ps r1 (f :: fr) (fun t s => srch size budget rs n1 (zii met t) r1 ((f :: fr).filter fun id => !decide (id ∈ t)) s) res X S' st ps1) ∨ (u = Bo false ∧ ∃ rc', FDone l b6 bx bp bm size rs budget w ps res S' rc')) ∧ zgz S' bx l bf))]
      ((7, .plc [ints t]) :: eF bx b4 b5 b6) S5 := by
  obtain rfl := Option.some.inj ((show Try.f96.body.bind (zhr 12) = some _ from rfl).symm.trans hc)
  clear hc
  have hap5 : ztm (ps1.set r1 ⟨(ps1[r1]'hr1).rows ++ [t], some (b', cap', junk')⟩) b5 := fun i h cap j e => by
    rw [List.getElem_set] at e
    split at e
    · simp at e; exact hb5 e.1
    · exact hap i (by simpa using h) cap j e
  have g5r : ∀ (i : Nat) (h : i < ps1.length) (h' : i < (ps1.set r1 ⟨(ps1[r1]'hr1).rows ++ [t], some (b', cap', junk')⟩).length), ((ps1.set r1 ⟨(ps1[r1]'hr1).rows ++ [t], some (b', cap', junk')⟩)[i]'h').rows = if r1 = i then (ps1[r1]'hr1).rows ++ [t] else (ps1[i]'h).rows := fun i h h' => by
    rw [List.getElem_set]; split <;> rfl
  have hl5 : (ps1.set r1 ⟨(ps1[r1]'hr1).rows ++ [t], some (b', cap', junk')⟩).length = ps.length := by rw [List.length_set]; exact hpl
  generalize ps1.set r1 ⟨(ps1[r1]'hr1).rows ++ [t], some (b', cap', junk')⟩ = ps5 at *
  have hin5 := oth.apart g9 hap5
  have hcl := cloneI_dc (f :: fr) (by have := hf.len; omega) (by simp)
  have hfl : ((f :: fr).filter fun id => !decide (id ∈ t)).length ≤ fr.length := by
    have h1 : t.headD 0 = f := htab.2.2.2
    have h2 : f ∈ t := by
      cases t with
      | nil => simp at htab; omega
      | cons a r => simp at h1; subst h1; simp
    rw [List.filter_cons, if_neg (by simp [h2])]; exact List.length_filter_le _ _
  have hasc : AscI ((f :: fr).filter fun id => !decide (id ∈ t)) := ⟨hf.asc.filter _, fun a ha => hf.in64 a (List.mem_filter.1 ha).1, Nat.le_trans (List.length_filter_le _ _) hf.len⟩
  have m4 := oth.o4
  have m5 := oth.o5
  have m6 := oth.o6
  have H := Box.mk (And.intro hg (And.intro hf (And.intro hT (And.intro hps (And.intro htab (And.intro hpl (And.intro hrw (And.intro hap (And.intro htry (And.intro htabs (And.intro g9 (And.intro oth (And.intro hap5 (And.intro g5r (And.intro hl5 (And.intro hin5 (And.intro hfl hasc)))))))))))))))))
  clear hg hf hT hps htab hpl hrw hap htry htabs g9 oth hap5 g5r hl5 hin5 hfl hasc
  repeat' (first | (with_reducible first | refine DS.fltS yU yU yE ?_ | refine DS.seq ?_ | refine DS.regionL ?_) | fail)
  refine DS.call [] S5 inferInstance hcl yR yH (fun _ _ e => by cases e) (fun _ _ e => ⟨e, rfl⟩) ?_
  rintro u Sg ⟨g, rfl, gok, gl⟩ hdis
  simp only [zcz]
  repeat' (first | with_reducible refine DS.fltS yU yU yE ?_ | fail)
  have hde := deleteFunc_dc (f :: fr) g Sg gok (by simp) gl (g := 122) (fs := []) (cs := [.plc [ints t]]) (fun id => decide (id ∈ t)) inferInstance (fun x _ => fillC_pc t x)
  refine DS.call Sg S5 inferInstance hde yR yH (fun b o e => by rw [zbv, e]) (fun b o e => ?_) ?_
  · cases hb : zaa Sg b with
    | none => exact ⟨by rw [zbv, hb]; exact e, rfl⟩
    | some o' => rw [hdis b o' hb] at e; cases e
  rintro u Sg2 rfl hdis2
  refine DS.dropS hdis2 ?_
  clear hdis hdis2 gok gl hde hcl
  simp only [zcz]
  repeat' (first | (with_reducible first | refine DS.fltS yU yU yE ?_ | refine DS.opsNil ?_ | refine DS.seq ?_ | refine DS.regionL ?_) | fail)
  have hih := ih (zkr (inP bx bp bm ps5) S5) (zii met t) (addT 1 [] t w) (B + 1) (w64 (st + 1)) ps5 r1 ((f :: fr).filter fun id => !decide (id ∈ t)) H.out.2.2.2.2.2.2.2.2.2.2.1.keep (by rw [H.out.2.2.2.2.2.2.2.2.2.2.2.2.2.2.1, H.out.2.2.2.1]) hr (H.out.1.add (by omega) H.out.2.2.2.2.1.2.2.1) (by omega) H.out.2.2.2.2.2.2.2.2.2.2.2.2.2.2.2.2.2
    (by have h1 := H.out.2.2.2.2.2.2.2.2.2.2.2.2.2.2.2.2.1; simp only [mzS, List.length_cons] at hn ⊢; omega) (fun i h => by
      obtain ⟨_, _, hT, _, _, hpl, hrw, _, _, _, _, _, _, g5r, hl5, _⟩ := H.out
      have h2 : i < ps1.length := by omega
      have h3 := hT i (by omega)
      rw [g5r i h2 h]
      split
      · rename_i hi
        subst hi
        rw [List.length_append, hrw r1 (by omega) h2, List.length_singleton]; omega
      · rw [hrw i (by omega) h2]; omega)
  refine DS.call (zkr (inP bx bp bm ps5) S5) (zkr (fun b => !inP bx bp bm ps5 b) S5) inferInstance hih yR yH (fun b o e => ?_) (fun b o e => ?_) ?_
  · rw [zfp] at e
    split at e
    · exact e
    · cases e
  · rw [zfp] at e
    split at e
    · rename_i hb
      refine ⟨e, ?_⟩
      rw [zfp, if_neg (by simpa using hb)]
    · cases e
  rintro u S0 hu hdis
  obtain ⟨rfl, w2, ps2, h1, h2, h3, h4⟩ := hu
  clear hih ih
  generalize hr2 : srch size budget rs n1 (zii met t) r1 ((f :: fr).filter fun id => !decide (id ∈ t)) (w64 (st + 1)) = res2 at *
  simp only [zcz]
  have hap2 : ztm ps2 b5 := fun i h cap j e => by
    have h5 : zaa (zkr (fun b => !inP bx bp bm ps5 b) S5) b5 = some (.cells [ints (f :: fr)] 22) := by
      rw [zfp, if_pos (by rw [H.out.2.2.2.2.2.2.2.2.2.2.2.2.2.2.2.1 b5 (.inr (.inr (.inl rfl)))]; rfl)]; exact m5
    have h3 := h1.row i h
    generalize ps2[i] = p at e h3
    obtain ⟨T', blk⟩ := p
    dsimp only at e
    subst e
    rw [hdis b5 _ h3.1] at h5; cases h5
  have oth2 : Oth (S0 ++ zkr (fun b => !inP bx bp bm ps5 b) S5) l b4 b5 b6 bf bx { rc with state := .busy } r1 (f :: fr) := H.out.2.2.2.2.2.2.2.2.2.2.2.1.of fun b hb => by
    have hib := H.out.2.2.2.2.2.2.2.2.2.2.2.2.2.2.2.1 b hb
    have h5 : zaa (zkr (fun b => !inP bx bp bm ps5 b) S5) b = zaa S5 b := by rw [zfp, if_pos (by rw [hib]; rfl)]
    have oth := H.out.2.2.2.2.2.2.2.2.2.2.2.1
    have hsome : ∃ o, zaa S5 b = some o := by
      rcases hb with rfl | rfl | rfl | rfl | rfl
      · exact ⟨_, oth.lp⟩
      · exact ⟨_, oth.o4⟩
      · exact ⟨_, oth.o5⟩
      · exact ⟨_, oth.o6⟩
      · exact ⟨_, oth.sf⟩
    rw [zbv, ← h5]
    cases hb0 : zaa S0 b with
    | none => rfl
    | some o =>
      exfalso
      rw [hdis b o hb0] at h5
      obtain ⟨o2, ho2⟩ := hsome
      rw [ho2] at h5; cases h5
  have g10 : SearchP (S0 ++ zkr (fun b => !inP bx bp bm ps5 b) S5) bx bp bm size rs budget res2.2.1 w2 ps2 := h1.up fun b o e => by rw [zbv, e]
  generalize S0 ++ zkr (fun b => !inP bx bp bm ps5 b) S5 = S6 at *
  have hlen2 : ps2.length = ps1.length := by rw [h2, H.out.2.2.2.2.2.2.2.2.2.2.2.2.2.2.1, H.out.2.2.2.2.2.1]
  have htry2 : (if res2.1 = 2 then tryL budget r1 (fun t s => srch size budget rs n1 (zii met t) r1 ((f :: fr).filter fun id => !decide (id ∈ t)) s) X res2.2.1 else (res2.1, res2.2.1, (r1, t) :: res2.2.2)) = res := by
    have := H.out.2.2.2.2.2.2.2.2.1
    rw [tryL, if_neg e1] at this
    simp only [hr2] at this
    exact this
  have Ks := Box.mk (And.intro g10 (And.intro oth2 (And.intro hap2 (And.intro h3 (And.intro h4 (And.intro h2 (And.intro htry2 hr2)))))))
  have m4 := oth2.o4
  have m6 := oth2.o6
  clear g10 h1 h2 h3 h4 hdis htry2 hr2 oth2 hap2 m5
  clear m4 m6
  have m4 := Ks.out.2.1.o4
  have m6 := Ks.out.2.1.o6
  repeat' (first | (with_reducible first | refine DS.fltS yU yU yE ?_ | refine DS.opsNil ?_ | refine DS.seq ?_ | refine DS.regionL ?_ | (refine DS.cE yE ?_; refine CG.p (fun _ => ?_) (fun _ => ?_)) | refine DS.skip ?_) | (refine DS.store yR yE yE yE yE yU (by exact ⟨by with_unfolding_all rfl, by (try simp only [List.length_map, List.length_append, List.length_set, List.length_replicate, List.length_cons, List.length_nil]); omega⟩) ?_; simp only [zbu, zaw, zbd, zcf, zbq, zbn, zbr]; try simp only [zal, zac, zae, Nat.reduceEqDiff, ↓reduceIte, zag, zah, zao, zaf, zaj, zam, zai]) | fail)
  · rename_i e3
    obtain ⟨rfl, hrows2⟩ := Ks.out.2.2.2.1 e3
    have hr2' : r1 < ps2.length := hlen2 ▸ hr1
    have hr5 : r1 < ps5.length := by have := H.out.2.2.2.2.2.2.2.2.2.2.2.2.2.2.1; have := H.out.2.2.2.2.2.1; omega
    have hrow2 := hrows2 r1 hr5 hr2'
    rw [H.out.2.2.2.2.2.2.2.2.2.2.2.2.2.1 r1 hr1 hr5, if_pos rfl] at hrow2
    have hok2 := Ks.out.1.row r1 hr2'
    obtain ⟨b6', cap6, junk6, hblk⟩ : ∃ b6' cap6 junk6, (ps2[r1]'hr2').blk = some (b6', cap6, junk6) := by
      generalize ps2[r1]'hr2' = p2 at hok2 hrow2
      obtain ⟨T2, blk2⟩ := p2
      cases blk2 with
      | none => simp only [PRow.Ok] at hok2; subst hok2; simp at hrow2
      | some x => exact ⟨x.1, x.2.1, x.2.2, rfl⟩
    have hp2e : ps2[r1]'hr2' = ⟨(ps1[r1]'hr1).rows ++ [t], some (b6', cap6, junk6)⟩ := by
      generalize ps2[r1]'hr2' = p2 at hblk hrow2
      obtain ⟨T2, blk2⟩ := p2
      dsimp only at hblk hrow2; rw [hblk, hrow2]
    rw [hp2e] at hok2
    obtain ⟨o1, o2, o3, o4⟩ := hok2
    obtain ⟨ℓ, hℓ⟩ : ∃ ℓ, ℓ = (ps1[r1]'hr1).rows.length := ⟨_, rfl⟩
    have hc6 : (ps2[r1]'hr2').cell = .v (.slice (some ⟨b6', 0, none⟩) (ℓ + 1) cap6) := by rw [hp2e, PRow.cell_some, hℓ]; simp
    have hlc : ℓ + 1 ≤ cap6 := by rw [List.length_append, List.length_singleton] at o2; omega
    have hx6 := Ks.out.1.obj
    have hp6 := Ks.out.1.pln
    have hℓ2 : ℓ ≤ 10000 := by
      have h0 := H.out.2.2.2.2.2.1
      have h1 := H.out.2.2.1 r1 (by omega)
      rw [hℓ, H.out.2.2.2.2.2.2.1 r1 (by omega) hr1]; omega
    have Ku := Box.mk (And.intro hp2e (And.intro hblk (And.intro o1 (And.intro o2 (And.intro o3 (And.intro o4 (And.intro hrows2 hℓ)))))))
    clear hp2e hblk o1 o2 o3 o4 hrows2 hrow2 hℓ
    have Kl := Box.mk hlen2
    clear hlen2
    have m5 := Ks.out.2.1.o5
    repeat' (first | (with_reducible first | refine DS.fltS yU yU yX40 ?_ | refine DS.opsNil ?_ | refine DS.seq ?_ | refine DS.regionL ?_) | (refine DS.store yR yX40 yX40 yX40 yX40 yU (by exact ⟨by with_unfolding_all rfl, by (try simp only [List.length_map, List.length_append, List.length_set, List.length_replicate, List.length_cons, List.length_nil]); omega⟩) ?_; simp only [zbu, zaw, zbd, zcf, zbq, zbn, zbr]; try simp only [zal, zac, zae, Nat.reduceEqDiff, ↓reduceIte, zag, zah, zao, zaf, zaj, zam, zai]) | refine DS.drawL (id := 16) [0, 1, 2, 3, 4, 5, 6, 7, 8, 9, 10, 11, 12, 13, 14, 15, 16, 17, 18, 19, 20, 21] 22 (by kernel_rfl) zdb (by simp only [zay, zbf, zbg, zbh, zax]; exact rfl) (by simp only [zat, zau, List.drop_nil]; exact rfl) ?_ | (with_reducible first | refine DD.fltS yU yU yU yX40 ?_ | refine DD.nil0 ?_) | fail)
    refine DS.reS (S' := setS bp (.cells ((ps2.map PRow.cell).set r1 (.v (.slice (some ⟨b6', 0, none⟩) (ps1[r1]'hr1).rows.length cap6))) 35) S6) (fun b o e => by rw [← Ku.out.2.2.2.2.2.2.2] at e; exact e) ?_
    have hbp6 : b6' ≠ bp := (Ks.out.1.rx r1 hr2' b6' cap6 junk6 Ku.out.2.1).2
    have g14 : SearchP (setS bp (.cells ((ps2.map PRow.cell).set r1 (.v (.slice (some ⟨b6', 0, none⟩) (ps1[r1]'hr1).rows.length cap6))) 35) S6) bx bp bm size rs budget res2.2.1 (addT 1 [] t w) (ps2.set r1 ⟨(ps1[r1]'hr1).rows, some (b6', cap6, ints t :: junk6)⟩) := by
      refine Ks.out.1.turn hr2' (.inl ⟨cap6, junk6, Ku.out.2.1⟩) ⟨?_, ?_, Ku.out.2.2.2.2.1, ?_⟩ ?_ fun b e4 e5 e6 => ?_
      · rw [zba Ks.out.1.pln, if_neg hbp6, Ku.out.2.2.1]; simp
      · have := Ku.out.2.2.2.1; simp only [List.length_append, List.length_cons, List.length_nil] at this ⊢; omega
      · intro v hv
        rcases List.mem_cons.1 hv with rfl | hv
        · rfl
        · exact Ku.out.2.2.2.2.2.1 v hv
      · rw [zba Ks.out.1.pln, if_pos rfl]
      · rw [zba Ks.out.1.pln, if_neg e4]
    have hap14 : ztm (ps2.set r1 ⟨(ps1[r1]'hr1).rows, some (b6', cap6, ints t :: junk6)⟩) b5 := fun i h cap j e => by
      rw [List.getElem_set] at e
      split at e
      · simp only [Option.some.injEq, Prod.mk.injEq] at e
        exact Ks.out.2.2.1 r1 hr2' cap6 junk6 (e.1 ▸ Ku.out.2.1)
      · exact Ks.out.2.2.1 i (by simpa using h) cap j e
    have oth14 := Ks.out.2.1.of (T' := setS bp (.cells ((ps2.map PRow.cell).set r1 (.v (.slice (some ⟨b6', 0, none⟩) (ps1[r1]'hr1).rows.length cap6))) 35) S6) (fun b hb => by
      rw [zba Ks.out.1.pln, if_neg (zjz (Ks.out.2.1.apart Ks.out.1 Ks.out.2.2.1 b hb)).2.1])
    generalize setS bp (.cells ((ps2.map PRow.cell).set r1 (.v (.slice (some ⟨b6', 0, none⟩) (ps1[r1]'hr1).rows.length cap6))) 35) S6 = S7 at *
    clear m4 m5 m6 hx6 hp6 hc6
    have htk := take_dc S7 g14.obj g14.map g14.xm t (-1) (fun a ha => H.out.2.1.in64 a (H.out.2.2.2.2.1.2.1.subset ha)) (by have := H.out.2.2.2.2.1.2.1.length_le; have := H.out.2.1.len; omega)
    refine DS.callA inferInstance htk yR yH (fun u4 S8 hu4 => ?_)
    have g15 := g14.counted hu4.1 hu4.2
    rw [addT_back H.out.1 (by omega) H.out.2.2.2.2.1.2.2.1] at g15
    have oth15 := oth14.of (T' := S8) (fun b hb => hu4.2 b (zjz (oth14.apart g14 hap14 b hb)).2.2.1)
    clear htk hu4 g14 oth14
    repeat' (first | (with_reducible first | refine DS.opsNil ?_ | refine DS.exit yU ?_) | fail)
    refine DS.endR (rnd_norm (st := res2.2.1) (ps1 := ps2.set r1 ⟨(ps1[r1]'hr1).rows, some (b6', cap6, ints t :: junk6)⟩) hst hpend oth15 g15 ?_ (fun i h h' => ?_) hap14 ?_ H.out.2.2.2.2.2.2.2.2.2.1)
    · rw [List.length_set]; exact Kl.out.trans H.out.2.2.2.2.2.1
    · have hi1 : i < ps1.length := by have := H.out.2.2.2.2.2.1; omega
      have hi2 : i < ps2.length := by simpa using h'
      have hi5 : i < ps5.length := by have := H.out.2.2.2.2.2.2.2.2.2.2.2.2.2.2.1; omega
      rw [List.getElem_set]
      by_cases hir : r1 = i
      · subst hir; rw [if_pos rfl]; exact H.out.2.2.2.2.2.2.1 r1 h hi1
      · rw [if_neg hir, Ku.out.2.2.2.2.2.2.1 i hi5 hi2, H.out.2.2.2.2.2.2.2.2.2.2.2.2.2.1 i hi1 hi5, if_neg hir]; exact H.out.2.2.2.2.2.2.1 i h hi1
    · have h7 := Ks.out.2.2.2.2.2.2.1
      rw [if_pos e3] at h7
      exact h7
  · rename_i e3
    obtain ⟨g10, oth2, hap2, h3, h4, h2, htry2, hr2⟩ := Ks.out
    obtain ⟨_, _, _, _, _, hpl, hrw, _, _, _, _, _, _, g5r, hl5, _⟩ := H.out
    rw [if_neg e3] at htry2
    subst htry2
    refine DS.retR rfl (zty (rc := rc) ?_ ?_ ?_ ?_)
    · rw [zba m6, if_neg (fun e => by rw [← e, oth2.lp] at m6; cases m6)]; exact oth2.lp
    · rw [zba m6, if_pos rfl]; rfl
    · refine ⟨rfl, w2, ps2, g10.setI m6 _, hlen2.trans hpl, fun h => absurd h e3, fun h i h1 h2' => ?_⟩
      have hi1 : i < ps1.length := by omega
      have hi5 : i < ps5.length := by omega
      rw [h4 h i hi5 h2', g5r i hi1 hi5]
      by_cases hir : r1 = i
      · subst hir
        rw [if_pos rfl, hrw r1 h1 hi1, List.filter_cons, if_pos (by simp)]; simp
      · rw [if_neg hir, hrw i h1 hi1, List.filter_cons, if_neg (by simpa using hir)]
    · have sf := oth2.sf
      simp only [zgz] at sf ⊢
      rw [zba m6, if_neg (fun e => by rw [e, m6] at sf; simp at sf)]; exact sf
end Go.XL
namespace Go.XL
open Go.Proofs
set_option maxRecDepth 100000
set_option maxHeartbeats 8000000
theorem round_yc {bx bp bm : Nat} {size : Nat} {rs : List (List Int)} {budget : Int} (hsz : 3 ≤ size ∧ size ≤ 4) {n1 : Nat} (ih : zsp bx bp bm size rs budget n1) {met : Int → Int → Bool} {w : W} {B : Int} {ps : List PRow} {r1 : Nat} {f : Int} {fr : List Int} (hg : GoodW B met w) (hB : B + (n1 + 1) ≤ 1000000000000) (hf : AscI (f :: fr))
    (hn : mzS rs r1 (f :: fr).length < n1 + 1) (hT : ∀ i (h : i < ps.length), ps[i].rows.length + (n1 + 1) ≤ 10000) (hps : ps.length = rs.length) (hr : r1 < rs.length) {b4 b5 b6 : Nat} {res : Int × Int × List (Nat × List Int)}
    {v1 : VH} {l : Nat} {rc : Loop} {x y : Code} (hxy : Try.f96.body.bind rfOf = some (x, y)) (hknow : KnowE v1 108 (eF bx b4 b5 b6) rc.tmps) (hpar : rc.params = #[35]) (hass : rc.assign = x) (hbod : rc.body = y) (hst : rc.state = .ready) (hpend : rc.pending = none)
    (bf : Nat) (t : List Int) (X : List (List Int)) (T : Sto) (st : Int) (ps1 : List PRow) (ht : t.length = size) (hself : zgz T bx l bf)
    (q : FInv l b4 b5 b6 bx bp bm rc size rs budget w ps r1 (f :: fr) (fun t s => srch size budget rs n1 (zii met t) r1 ((f :: fr).filter fun id => !decide (id ∈ t)) s) res (t :: X) T st ps1) :
    YC v1 Try.prog l [ints t] T (fun u S' => ((u = Bo true ∧ ∃ st ps1, FInv l b4 b5 b6 bx bp bm rc size rs budget w ps r1 (f :: fr) (fun t s => srch size budget rs n1 (zii met t) r1 ((f :: fr).filter fun id => !decide (id ∈ t)) s) res X S' st ps1) ∨ (u = Bo false ∧ ∃ rc', FDone l b6 bx bp bm size rs budget w ps res S' rc')) ∧ zgz S' bx l bf) := by
  obtain ⟨rfl, rfl⟩ := Prod.mk.inj (Option.some.inj ((show Try.f96.body.bind rfOf = some (_, _) from rfl).symm.trans hxy))
  clear hxy
  generalize hrec : (fun t s => srch size budget rs n1 (zii met t) r1 ((f :: fr).filter fun id => !decide (id ∈ t)) s) = rec at *
  refine YC.of_run (n := 108) (rc := rc) (E := eF bx b4 b5 b6) hknow.1 hknow.2 hst q.lp (by rw [hpar]; rfl) (by rw [hpar]; simp) ?_
  rw [hpar, hass, hbod]
  simp only [parV_cons, parV_nil, zbm]
  clear hknow hpar hass hbod
  repeat' (first | (with_reducible first | refine DS.opsNil ?_ | refine DS.regionL ?_) | (refine DS.letF (t := 7) yU yE yU (fun _ => by (simp (disch := omega) only [go_sem, dopV, Option.map_some, Option.map_none, Option.bind_some, Option.bind_none, ↓reduceIte, Nat.reduceEqDiff, Nat.reduceLT, Nat.reduceLeDiff, Nat.reduceAdd, Nat.reduceMul, Nat.reduceSub, Nat.zero_add, Nat.add_zero, Nat.zero_le, Nat.zero_mul, Nat.mul_one, Nat.one_mul, Int.natCast_zero, Int.toNat_zero, Int.reduceToNat, Int.reduceLT, Int.reduceLE, Int.reduceEq, decide_true, decide_false, true_and, and_true, Bool.and_self, Bool.and_true, Bool.true_and, Bool.not_true, Bool.not_false, IntWalk.toNatUp, IntWalk.iteOmega, IntWalk.i64_in, Option.isSome_some, not_true_eq_false, not_false_eq_true, Option.getD_some, Option.getD_none, Int.toNat_natCast, List.length_map, List.getElem?_map, List.getElem?_eq_getElem, V.flat, V.one, List.all_cons, List.all_nil, *]; exact rfl)) yE yU (by exact ⟨by with_unfolding_all rfl, by with_unfolding_all decide⟩) (fun _ => by simp only [go_sem, Nat.reduceEqDiff, ↓reduceIte]) ?_; simp only [go_sem]) | fail)
  refine DS.back ⟨rc, q.lp, hst, ?_⟩
  have q1 := q.s.setL q.lp (.raw (.loop { rc with state := .busy }))
  have nl : ∀ {b : Nat} {o : List V × TypeId}, zaa T b = some (.cells o.1 o.2) → b ≠ l := fun {b o} h e => by rw [e, q.lp] at h; cases h
  have oth : Oth (setS l (.raw (.loop { rc with state := .busy })) T) l b4 b5 b6 bf bx { rc with state := .busy } r1 (f :: fr) :=
    ⟨by rw [zba q.lp, if_pos rfl], by rw [zba q.lp, if_neg (nl (o := ([I r1], 3)) q.o4)]; exact q.o4, by rw [zba q.lp, if_neg (nl (o := ([ints (f :: fr)], 22)) q.o5)]; exact q.o5, by rw [zba q.lp, if_neg (nl (o := ([I 0], 3)) q.o6)]; exact q.o6, by
      have h := hself
      simp only [zgz] at h ⊢
      rw [zba q.lp, if_neg (fun e => by rw [e, q.lp] at h; cases h)]; exact h⟩
  have htab := q.tabs.each t (List.mem_cons_self ..)
  have hpl := q.pl
  have hrw := q.rows
  have hap := q.ap
  have htry := q.try_
  have htabs : TabsOk size (f :: fr) X := ⟨fun x hx => q.tabs.each x (List.mem_cons_of_mem _ hx)⟩
  generalize setS l (.raw (.loop { rc with state := .busy })) T = T1 at *
  have hx1 := q1.obj
  have m4 := oth.o4
  have m5 := oth.o5
  have m6 := oth.o6
  have hr1 : r1 < ps1.length := by omega
  have H := Box.mk (And.intro oth (And.intro q1 (And.intro hg (And.intro hf (And.intro ih (And.intro hrec (And.intro htab (And.intro hrw (And.intro hap (And.intro htry (And.intro htabs (And.intro hT (And.intro hpl hps)))))))))))))
  clear q oth q1 hself nl hg hf hrec ih htab hrw hap htry htabs hT hpl hps
  repeat' (first | (with_reducible first | refine DS.fltS yU yU yX24 ?_ | refine DS.opsNil ?_ | refine DS.seq ?_ | refine DS.regionL ?_) | (with_reducible refine DS.cE yX24 ?_; with_reducible refine CG.p (fun _ => ?_) (fun _ => ?_)) | (with_reducible first | refine DS.block ?_ | refine DS.skip ?_) | (refine DS.store yR yX24 yX24 yX24 yX24 yU (by exact ⟨by with_unfolding_all rfl, by (try simp only [List.length_map, List.length_append, List.length_set, List.length_replicate, List.length_cons, List.length_nil]); omega⟩) ?_; simp only [zbu, zaw, zbd, zcf, zbq, zbn, zbr]; try simp only [zal, zac, zae, Nat.reduceEqDiff, ↓reduceIte, zag, zah, zao, zaf, zaj, zam, zai]) | refine DS.drawL (id := 8) [0, 1, 2, 3, 4, 5, 6, 7] 8 (by kernel_rfl) zdb (by simp only [zay, zbf, zbg, zbh, zax]; exact rfl) (by simp only [zat, zau, List.drop_nil]; exact rfl) ?_ | (with_reducible first | refine DD.fltS yU yU yU yX24 ?_ | refine DD.nil0 ?_) | fail)
  · rename_i e1
    obtain ⟨oth, q1, hg, hf, ih, hrec, htab, hrw, hap, htry, htabs, hT, hpl, hps⟩ := H.out
    rw [tryL, if_pos e1] at htry
    subst htry
    refine DS.retR rfl (zty (rc := rc) ?_ ?_ ?_ ?_)
    · rw [zba m6, if_neg (fun e => by rw [← e, oth.lp] at m6; cases m6)]; exact oth.lp
    · rw [zba m6, if_pos rfl]; rfl
    · exact ⟨rfl, w, ps1, q1.setI m6 _, hpl, fun h => by simp at h, fun h => by simp at h⟩
    · have sf := oth.sf
      simp only [zgz] at sf ⊢
      rw [zba m6, if_neg (fun e => by rw [e, m6] at sf; simp at sf)]; exact sf
  · rename_i e1
    have g6 := H.out.2.1.steps' (w64 (st + 1))
    have oth2 := H.out.1.of (T' := setS bx (.cells (pC size budget (w64 (st + 1)) rs bp ps1.length bm) TP) T1) (fun b hb => by
      have := zjz (H.out.1.apart H.out.2.1 H.out.2.2.2.2.2.2.2.2.1 b hb)
      rw [zba hx1, if_neg this.1])
    refine DS.reS (S' := setS bx (.cells (pC size budget (w64 (st + 1)) rs bp ps1.length bm) TP) T1) (fun b o e => by exact e) ?_
    generalize setS bx (.cells (pC size budget (w64 (st + 1)) rs bp ps1.length bm) TP) T1 = T2 at *
    clear hx1 m4 m5 m6
    refine DS.callA inferInstance (take_dc T2 g6.obj g6.map g6.xm t 1 (fun a ha => H.out.2.2.2.1.in64 a (H.out.2.2.2.2.2.2.1.2.1.subset ha)) (by omega)) yR yH (fun u S3 hu => ?_)
    have g7 := g6.counted hu.1 hu.2
    have oth3 := oth2.of (T' := S3) (fun b hb => hu.2 b (zjz (oth2.apart g6 H.out.2.2.2.2.2.2.2.2.1 b hb)).2.2.1)
    clear hu g6 oth2
    have hx3 := g7.obj
    have hp3 := g7.pln
    obtain ⟨p, hp⟩ : ∃ p, p = ps1[r1] := ⟨_, rfl⟩
    have hrow := g7.row r1 hr1
    rw [← hp] at hrow
    have hpc : (ps1.map PRow.cell)[r1]? = some p.cell := by rw [List.getElem?_map, List.getElem?_eq_getElem hr1, ← hp]; rfl
    obtain ⟨S0, Sr, k0, k1, k2, k3⟩ := PRow.split hrow
    have hx0 : zaa S0 bx = _ := (k3 bx fun cap jk h => (g7.rx r1 hr1 bx cap jk (hp ▸ h)).1 rfl).1.trans hx3
    have hp0 : zaa S0 bp = _ := (k3 bp fun cap jk h => (g7.rx r1 hr1 bp cap jk (hp ▸ h)).2 rfl).1.trans hp3
    have h40 : zaa S0 b4 = _ := (k3 b4 fun cap jk h => (zjz (oth3.apart g7 H.out.2.2.2.2.2.2.2.2.1 b4 (.inr (.inl rfl)))).2.2.2 r1 hr1 cap jk (hp ▸ h)).1.trans oth3.o4
    have hpr : p.rows.length + (n1 + 1) ≤ 10000 := by rw [hp, H.out.2.2.2.2.2.2.2.1 r1 (H.out.2.2.2.2.2.2.2.2.2.2.2.2.2 ▸ hr) hr1]; exact H.out.2.2.2.2.2.2.2.2.2.2.2.1 r1 _
    subst hp
    have Kq := Box.mk (And.intro hrow (And.intro k3 (And.intro k2 (And.intro g7 (And.intro hpr oth3)))))
    have m4 := oth3.o4
    have m5 := oth3.o5
    have m6 := oth3.o6
    clear hx3 hp3 hrow k3 g7 k2 hpc hpr oth3
    repeat' (first | (with_reducible first | refine DS.opsNil ?_ | refine DS.seq ?_) | fail)
    refine DS.drawLS (id := 12) (S0) (Sr) [0, 1, 2, 3, 4, 5, 6, 7, 8, 9, 10, 11, 12, 13, 14] 15 (by kernel_rfl) zdb (by simp only [zay, zbf, zbg, zbh, zax]; exact rfl) (by simp only [zat, zau, List.drop_nil]; exact rfl) (k0) (k1) ?_
    repeat' (first | with_reducible refine DD.fltS yU yU yU yX40 ?_ | (refine DD.bslS yU yX40 yX40 ?_; simp only [go_sem, Nat.zero_add, Nat.reduceAdd]; simp only [zbs, zby, Nat.reduceEqDiff, ↓reduceIte]) | fail)
    refine DD.last rfl rfl rfl yR (OpS.appRow (p := ps1[r1]'hr1) (tab := t) rfl yT yT yR yR yT Kq.out.2.2.1 yT yX17 ⟨by have := Kq.out.2.2.2.2.1; omega, by decide⟩) (fun u2 E' S4 hu2 hdis => ?_)
    obtain ⟨rfl, b', cap', junk', rfl, m1, m2, m3⟩ := hu2
    have hrowv : (ps1[r1]'hr1).rows = (ps[r1]'(by have := H.out.2.2.2.2.2.2.2.2.2.2.2.2.1; omega)).rows := H.out.2.2.2.2.2.2.2.1 r1 (by have := H.out.2.2.2.2.2.2.2.2.2.2.2.2.1; omega) hr1
    obtain ⟨g8, g9, g10⟩ := Kq.out.2.2.2.1.appended hr1 rfl Kq.out.2.1 hdis m1 m2 m3
    have hb5 : b' ≠ b5 := fun e => by
      have h5 : zaa S0 b5 = _ := (Kq.out.2.1 b5 fun cap jk h => H.out.2.2.2.2.2.2.2.2.1 r1 hr1 cap jk h).1.trans Kq.out.2.2.2.2.2.o5
      have := m1.1
      rw [e, hdis b5 _ h5] at this; cases this
    clear m1 m2 m3 hdis hx0 hp0 h40 k0 k1 m4 m5 m6
    simp only [PRow.cell_some, zcz]
    refine DS.fltS yR yR yG ?_
    refine DS.store yR yG yG yG g8 yU ⟨by with_unfolding_all rfl, by simp only [List.length_map]; omega⟩ ?_
    refine DS.opsNil ?_
    simp only [zbu, zaw, zbd, zcf]
    refine DS.weaken (E' := (7, .plc [ints t]) :: eF bx b4 b5 b6) (zdf yS) (fun _ _ e => e) ?_
    obtain ⟨oth, q1, hg, hf, ih, hrec, htab, hrw, hap, htry, htabs, hT, hpl, hps⟩ := H.out
    subst hrec
    have oth5 := Kq.out.2.2.2.2.2.of (T' := setS bp (.cells ((ps1.map PRow.cell).set r1 (.v (.slice (some ⟨b', 0, none⟩) ((ps1[r1]'hr1).rows ++ [t]).length cap'))) 35) (S4 ++ S0)) (fun b hb => by
      have h1 := zjz (Kq.out.2.2.2.2.2.apart Kq.out.2.2.2.1 hap b hb)
      have hsome : ∃ o, zaa S3 b = some o := by
        have oth := Kq.out.2.2.2.2.2
        rcases hb with rfl | rfl | rfl | rfl | rfl
        · exact ⟨_, oth.lp⟩
        · exact ⟨_, oth.o4⟩
        · exact ⟨_, oth.o5⟩
        · exact ⟨_, oth.o6⟩
        · exact ⟨_, oth.sf⟩
      obtain ⟨o, ho⟩ := hsome
      rw [ho]
      exact g10 b o h1.2.1 (fun cap j h => h1.2.2.2 r1 hr1 cap j h) ho)
    exact round2_ds ih hg hB hf hn hT hps hr yR hst hpend e1 htab hpl hrw hap hsz.1 htry htabs hr1 g9 oth5 hb5
end Go.XL
