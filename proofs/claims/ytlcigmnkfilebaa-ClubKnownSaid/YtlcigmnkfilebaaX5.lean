/- A part of a program logic over the kit's walk rules, and contracts of functions in it. Conditions: as each theorem says. -/
import Derived.Test.YtlcigmnkfilebaaX4
import Derived.Sort.AssemblyPlain
import Derived.Sort.WalkA
set_option linter.all false
namespace Go.XL
open Go.Proofs
set_option maxRecDepth 100000
set_option maxHeartbeats 8000000
theorem zwp (l : List Int) {i : Nat} (hi : i < l.length) (hl : l.length ≤ 1000000) : PC Try.prog 28 [ints l, I i] (.tup [I (zfo l l[i]), I (zco l l[i]), I (zco (l.take i) l[i])]) := by
 refine DC.of_run Try.func28 rfl Try.ntmps28 Try.results28 (by simp) (fun _ => ?_); simp only [zaf, zai, go_sem, Nat.zero_add, Nat.reduceAdd]
 repeat' (first | (with_reducible first | refine zad yU yU yE ?_ | refine zab ?_ | refine DS.seq ?_ | refine zaa ?_ | refine DS.block ?_) | fail)
 refine zcp [0, 1, 9, 10] yN (fun (x : Nat × Nat × Nat × Nat) => [(4, I x.1), (5, I x.2.1), (6, I x.2.2.1), (11, I x.2.2.2)]) (fun (x : Nat × Nat × Nat × Nat) => x.2.2.2 ≤ l.length ∧ x.1 = zfo (l.take x.2.2.2) l[i] ∧ x.2.1 = zco (l.take x.2.2.2) l[i] ∧ x.2.2.1 = zco (l.take (min i x.2.2.2)) l[i] ∧ x.1 ≤ 1000000 ∧ x.2.1 ≤ 1000000 ∧ x.2.2.1 ≤ 1000000) (fun (x : Nat × Nat × Nat × Nat) => l.length - x.2.2.2) (0, 0, 0, 0) yS (by simp [zfo, zco]) (fun x B hI hB => ?_); try dsimp only at hI hB; simp only [zaw, zbg]
 obtain ⟨a, b, c, k⟩ := x
 dsimp only at hI hB
 obtain ⟨g1, g2, g3, g4, g5, g6, g7⟩ := hI
 have H := Box.mk (And.intro g2 (And.intro g3 g4))
 clear g2 g3 g4
 have hk1 : ∀ h : k < l.length, zfo (l.take (k + 1)) l[i] = zfo (l.take k) l[i] + if l[i] < l[k] then 1 else 0 := fun h => zxm _ h
 have hk2 : ∀ h : k < l.length, zco (l.take (k + 1)) l[i] = zco (l.take k) l[i] + if l[k] = l[i] then 1 else 0 := fun h => zno _ h
 have hk3 : ∀ h : k < l.length, zco (l.take (min i (k + 1))) l[i] = zco (l.take (min i k)) l[i] + if k < i ∧ l[k] = l[i] then 1 else 0 := fun h => by
  by_cases hki : k < i
  ·rw [Nat.min_eq_right (by omega), Nat.min_eq_right (by omega), zno _ h]
   by_cases h2 : l[k] = l[i]
   ·rw [if_pos h2, if_pos ⟨hki, h2⟩]
   ·rw [if_neg h2, if_neg (fun h => h2 h.2)]
  ·rw [Nat.min_eq_left (by omega), Nat.min_eq_left (by omega), if_neg (fun h => hki h.1)]; rfl
 have hz1 := ycf (l.take k) l[i]
 have hz2 := znp (l.take k) l[i]
 have hz3 := znp (l.take (min i k)) l[i]
 have hlt : (l.take k).length ≤ k := by simp; omega
 have hlt2 : (l.take (min i k)).length ≤ k := by simp; omega
 have H2 := Box.mk (And.intro hk1 (And.intro hk2 (And.intro hk3 (And.intro hz1 (And.intro hz2 (And.intro hz3 (And.intro hlt hlt2)))))))
 clear hk1 hk2 hk3 hz1 hz2 hz3 hlt hlt2
 repeat' (first | (with_reducible first | refine zad yU yU yE ?_ | refine zab ?_ | refine DS.seq ?_ | refine zaa ?_ | (refine zbe yE ?_; refine zeq (fun _ => ?_) (fun _ => ?_)) | refine DS.blk ?_ | refine DS.block ?_ | refine DS.exit yU ?_ | refine DS.skip ?_) | refine zat [] yE trivial ?_ | fail)
 all_goals obtain ⟨h1, h2, h3⟩ := H.out
 all_goals obtain ⟨k1, k2, k3, k4, k5, k6, k7, k8⟩ := H2.out
 ·rename_i e1 e2
  exact DS.back (hB (a + 1, b, c, k + 1) _ _ (by dsimp only; omega) (⟨by dsimp only; omega, by dsimp only; rw [k1 (by omega), if_pos e2, h1], by dsimp only; rw [k2 (by omega), if_neg (by omega), h2]; rfl, by dsimp only; rw [k3 (by omega), if_neg (by omega), h3]; rfl, by dsimp only; omega, by dsimp only; omega, by dsimp only; omega⟩) yS yS (fun b o e => by first | exact e | (simp only [zae]; split <;> simp_all)))
 ·rename_i e1 e2 e3 e4
  exact DS.back (hB (a, b + 1, c + 1, k + 1) _ _ (by dsimp only; omega) (⟨by dsimp only; omega, by dsimp only; rw [k1 (by omega), if_neg (by omega), h1]; rfl, by dsimp only; rw [k2 (by omega), if_pos e3, h2], by dsimp only; rw [k3 (by omega), if_pos ⟨by omega, e3⟩, h3], by dsimp only; omega, by dsimp only; omega, by dsimp only; omega⟩) yS yS (fun b o e => by first | exact e | (simp only [zae]; split <;> simp_all)))
 ·rename_i e1 e2 e3 e4
  exact DS.back (hB (a, b + 1, c, k + 1) _ _ (by dsimp only; omega) (⟨by dsimp only; omega, by dsimp only; rw [k1 (by omega), if_neg (by omega), h1]; rfl, by dsimp only; rw [k2 (by omega), if_pos e3, h2], by dsimp only; rw [k3 (by omega), if_neg (by omega), h3]; rfl, by dsimp only; omega, by dsimp only; omega, by dsimp only; omega⟩) yS yS (fun b o e => by first | exact e | (simp only [zae]; split <;> simp_all)))
 ·rename_i e1 e2 e3
  exact DS.back (hB (a, b, c, k + 1) _ _ (by dsimp only; omega) (⟨by dsimp only; omega, by dsimp only; rw [k1 (by omega), if_neg (by omega), h1]; rfl, by dsimp only; rw [k2 (by omega), if_neg (by omega), h2]; rfl, by dsimp only; rw [k3 (by omega), if_neg (by omega), h3]; rfl, by dsimp only; omega, by dsimp only; omega, by dsimp only; omega⟩) yS yS (fun b o e => by first | exact e | (simp only [zae]; split <;> simp_all)))
 ·rename_i e1
  have hk : k = l.length := by omega
  subst hk
  rw [h1, h2, h3, List.take_of_length_le (Nat.le_refl _), Nat.min_eq_left (by omega)]; rfl
def Bd (n : Int) : Prop := -100000000000000 ≤ n ∧ n ≤ 100000000000000
theorem ybr (sum many at_ : Int) (hs : Bd sum) (hm : 0 < many ∧ many ≤ 1000000) (ha : Bd at_) : PC Try.prog 29 [I sum, I many, I at_] (I (zlq sum many at_)) := by
 have e := zyr (sum := sum) (at_ := at_) hm.1
 have h5 : sum.tmod many < many := Int.tmod_lt_of_pos sum hm.1
 have h6 : -many < sum.tmod many := Int.lt_tmod_of_pos sum hm.1
 have h7 : Bd (sum.tdiv many) := by
  have h1 := Int.natAbs_tdiv_le_natAbs sum many
  unfold Bd at *
  omega
 obtain ⟨hs1, hs2⟩ := hs
 obtain ⟨h71, h72⟩ := h7
 obtain ⟨ha1, ha2⟩ := ha
 have H := Box.mk e
 clear e
 refine DC.of_run Try.func29 rfl Try.ntmps29 Try.results29 (by simp) (fun _ => ?_); simp only [zaf, zai, go_sem, Nat.zero_add, Nat.reduceAdd]
 repeat' (first | (with_reducible first | refine zad yU yU yE ?_ | refine zab ?_ | refine DS.seq ?_ | refine zaa ?_ | (refine zbe yE ?_; refine zeq (fun _ => ?_) (fun _ => ?_)) | refine DS.skip ?_) | refine zcr (id := 1) [0, 1, 2, 3, 4, 5, 6] 7 (by kernel_rfl) zei (by simp only [zbp, zbx, zby, zbz, zbo]; exact rfl) (by simp only [zbk, zbl, List.drop_nil]; exact rfl) ?_ | (with_reducible first | refine zcj yU yU yU yE ?_ | refine zdm ?_) | refine zat [] yE trivial ?_ | fail)
 all_goals (rename_i e1 e2; rw [H.out]; simp only [e1, e2, if_true, if_false, gt_iff_lt]; rfl)
theorem zys {sum many at_ : Int} (hs : Bd sum) (hm : 0 < many) : -100000000000000 ≤ zlq sum many at_ ∧ zlq sum many at_ ≤ 100000000000001 := by
 have h2 := Int.mul_ediv_add_emod sum many
 have h3 := Int.emod_nonneg sum (show many ≠ 0 by omega)
 have h4 := Int.emod_lt_of_pos sum hm
 obtain ⟨s1, s2⟩ := hs
 have k1 : -100000000000000 ≤ sum / many := by
  rcases Int.lt_or_le (sum / many) (-100000000000000) with h | h
  ·exfalso
   have h5 : many * (sum / many + 1) ≤ many * (-100000000000000) := Int.mul_le_mul_of_nonneg_left (by omega) (by omega)
   rw [Int.mul_add] at h5
   omega
  ·exact h
 have k2 : sum / many ≤ 100000000000000 := by
  rcases Int.lt_or_le 100000000000000 (sum / many) with h | h
  ·exfalso
   have h5 : many * 100000000000001 ≤ many * (sum / many) := Int.mul_le_mul_of_nonneg_left (by omega) (by omega)
   omega
  ·exact h
 rw [zlq]
 split <;> omega
def B40 (n : Int) : Prop := -1099511627776 ≤ n ∧ n ≤ 1099511627776
theorem zpw {l : List Int} {k : Nat} (h : k < l.length) : (l.take (k + 1)).sum = (l.take k).sum + l[k] := by
 rw [List.take_succ_eq_append_getElem h, List.sum_append]; simp
theorem yX16 {p : Prop} (h : p := by (simp (disch := omega) only [go_sem, dopV, Option.map_some, Option.map_none, Option.bind_some, Option.bind_none, ↓reduceIte, Nat.reduceEqDiff, Nat.reduceLT, Nat.reduceLeDiff, Nat.reduceAdd, Nat.reduceMul, Nat.reduceSub, Nat.zero_add, Nat.add_zero, Nat.zero_le, Nat.zero_mul, Nat.mul_one, Nat.one_mul, Int.natCast_zero, Int.toNat_zero, Int.reduceToNat, Int.reduceLT, Int.reduceLE, Int.reduceEq, decide_true, decide_false, true_and, and_true, Bool.and_self, Bool.and_true, Bool.true_and, Bool.not_true, Bool.not_false, IntWalk.toNatUp, IntWalk.iteOmega, IntWalk.i64_in, Option.isSome_some, not_true_eq_false, not_false_eq_true, Option.getD_some, Option.getD_none, Int.toNat_natCast, List.length_map, List.getElem?_map, List.getElem?_eq_getElem, V.flat, V.one, List.all_cons, List.all_nil, *, List.forall_mem_map, implies_true, zgo]; exact rfl)) : p := h
theorem yX17 {p : Prop} (h : p := by first | exact rfl | (simp (disch := omega) only [go_sem, dopV, Option.map_some, Option.map_none, Option.bind_some, Option.bind_none, ↓reduceIte, Nat.reduceEqDiff, Nat.reduceLT, Nat.reduceLeDiff, Nat.reduceAdd, Nat.reduceMul, Nat.reduceSub, Nat.zero_add, Nat.add_zero, Nat.zero_le, Nat.zero_mul, Nat.mul_one, Nat.one_mul, Int.natCast_zero, Int.toNat_zero, Int.reduceToNat, Int.reduceLT, Int.reduceLE, Int.reduceEq, decide_true, decide_false, true_and, and_true, Bool.and_self, Bool.and_true, Bool.true_and, Bool.not_true, Bool.not_false, IntWalk.toNatUp, IntWalk.iteOmega, IntWalk.i64_in, Option.isSome_some, not_true_eq_false, not_false_eq_true, Option.getD_some, Option.getD_none, Int.toNat_natCast, List.length_map, List.getElem?_map, List.getElem?_eq_getElem, V.flat, V.one, List.all_cons, List.all_nil, *, List.forall_mem_map, implies_true, zgo]; exact rfl)) : p := h
theorem yX18 {p : Prop} (h : p := by (simp (disch := omega) only [go_sem, dopV, Option.map_some, Option.map_none, Option.bind_some, Option.bind_none, ↓reduceIte, Nat.reduceEqDiff, Nat.reduceLT, Nat.reduceLeDiff, Nat.reduceAdd, Nat.reduceMul, Nat.reduceSub, Nat.zero_add, Nat.add_zero, Nat.zero_le, Nat.zero_mul, Nat.mul_one, Nat.one_mul, Int.natCast_zero, Int.toNat_zero, Int.reduceToNat, Int.reduceLT, Int.reduceLE, Int.reduceEq, decide_true, decide_false, true_and, and_true, Bool.and_self, Bool.and_true, Bool.true_and, Bool.not_true, Bool.not_false, IntWalk.toNatUp, IntWalk.iteOmega, IntWalk.i64_in, Option.isSome_some, not_true_eq_false, not_false_eq_true, Option.getD_some, Option.getD_none, Int.toNat_natCast, List.length_map, List.getElem?_map, List.getElem?_eq_getElem, V.flat, V.one, List.all_cons, List.all_nil, *, List.forall_mem_map, implies_true, zgo]; try exact rfl)) : p := h
theorem zmv (points places : List Int) (start : Int) (shared : Bool) (hl : points.length ≤ 20) (hl2 : places.length ≤ 20) (hp : ∀ x ∈ points, B40 x) (hq : ∀ x ∈ places, B40 x) (hs : B40 start) :
  PC Try.prog 13 [ints points, ints places, I start, Bo shared] (.own false 3 1 ((zgr points places start shared).map cI)) := by
 obtain ⟨hs1, hs2⟩ := hs
 rw [zgr]
 refine DC.of_run Try.func13 rfl Try.ntmps13 Try.results13 (by simp) (fun _ => ?_); simp only [zaf, zai, go_sem, Nat.zero_add, Nat.reduceAdd]
 repeat' (first | (with_reducible first | (refine zfl (t := 8) yU yO yE ?_) | (refine zfl (t := 9) yU yO yE ?_) | refine zad yU yU yE ?_ | refine zab ?_ | refine DS.seq ?_ | refine zaa ?_ | (refine zbe yE ?_; refine zeq (fun _ => ?_) (fun _ => ?_)) | refine DS.block ?_ | refine DS.skip ?_) | refine zat [] yE trivial ?_ | fail)
 ·rename_i e1
  rw [if_pos (by omega)]; rfl
 ·rename_i e1
  rw [if_neg (by omega)]
  refine zcp [0, 1, 2, 3, 24, 25] yN (fun (x : List Int × Nat) => [(9, .own false 3 1 (x.1.map cI)), (26, I x.2)]) (fun (x : List Int × Nat) => x.2 ≤ points.length ∧ x.1 = (List.range x.2).map (zlr points places start shared) ∧ x.1.length = x.2) (fun (x : List Int × Nat) => points.length - x.2) ([], 0) yS (by simp) (fun x B hI hB => ?_); try dsimp only at hI hB; simp only [zaw, zbg]
  obtain ⟨L, k⟩ := x
  dsimp only at hI hB
  obtain ⟨g1, g2, g3⟩ := hI
  have H := Box.mk g2
  clear g2
  by_cases hk : k < points.length
  ·have p1 := ycg points points[k]
   have p2 := zpi hk
   obtain ⟨p3, p4⟩ := hp _ (List.getElem_mem hk)
   obtain ⟨p5, p6⟩ := hq (places[zfo points points[k] + zco (points.take k) points[k]]'(by omega)) (List.getElem_mem _)
   have hB0 := hB
   clear hB
   obtain ⟨P, hPe⟩ : ∃ P, P = (places.drop (zfo points points[k])).take (zco points points[k]) := ⟨_, rfl⟩
   have hP : List.drop (zfo points points[k]) (List.take (zfo points points[k] + zco points points[k]) (List.map cI places)) = P.map cI := by
    rw [List.drop_take, Nat.add_sub_cancel_left, hPe, List.map_take, List.map_drop]
   have hPl : P.length = zco points points[k] := by rw [hPe, List.length_take, List.length_drop]; omega
   have hPb : ∀ x ∈ P, B40 x := fun x hx => hq x (List.mem_of_mem_drop (List.mem_of_mem_take (hPe ▸ hx)))
   have hnext : (List.range (k + 1)).map (zlr points places start shared) = L ++ [zlr points places start shared k] := by rw [List.range_succ, List.map_append, ← H.out]; rfl
   have hsc : zlr points places start shared k = points[k] - start + if shared then zlq P.sum (zco points points[k]) (zco (points.take k) points[k]) else places[zfo points points[k] + zco (points.take k) points[k]]'(by omega) := by
    simp only [zlr, List.getD_eq_getElem?_getD, List.getElem?_eq_getElem hk, Option.getD_some]
    rw [← hPe, List.getElem?_eq_getElem (show zfo points points[k] + zco (points.take k) points[k] < places.length by omega)]; rfl
   have H2 := Box.mk (And.intro hPe (And.intro hPb (And.intro hnext hsc)))
   clear hPe hPb hnext hsc
   repeat' (first | (with_reducible refine zgj (t := 8) yU yO yX16 ?_; simp only [zap, zag, zah, Nat.reduceEqDiff, ↓reduceIte, zal, zam, zax, zak, zaj, zaq, zan]) | (with_reducible refine zgj (t := 9) yU yO yX16 ?_; simp only [zap, zag, zah, Nat.reduceEqDiff, ↓reduceIte, zal, zam, zax, zak, zaj, zaq, zan]) | (with_reducible refine zgj (t := 64) yU yO yX16 ?_; simp only [zap, zag, zah, Nat.reduceEqDiff, ↓reduceIte, zal, zam, zax, zak, zaj, zaq, zan]) | (with_reducible refine zgj (t := 73) yU yO yX16 ?_; simp only [zap, zag, zah, Nat.reduceEqDiff, ↓reduceIte, zal, zam, zax, zak, zaj, zaq, zan]) | (with_reducible first | refine zad yU yU yX16 ?_ | refine zab ?_ | refine DS.seq ?_ | refine zaa ?_ | (refine zbe yX16 ?_; first | refine zeq (fun _ => ?_) (fun _ => ?_) | refine ygg (fun _ => ?_) (fun _ => ?_)) | refine DS.blk ?_ | refine DS.block ?_ | refine DS.exit yU ?_ | refine DS.skip ?_) | (refine zdn yU yX16 yX16 ?_; simp only [go_sem, Nat.zero_add, Nat.reduceAdd]) | (refine DS.append (mm := false) yU yX16 yX16 yU (by decide) yX16 (by first | exact .inl rfl | exact .inr ⟨rfl, rfl⟩) yX16 yX17 (by first | exact zcs zgo _ | exact zcs zoe _ | exact zcs Member.len _ | exact zcs Sitting.len _ | exact zcs Ruling.len _ | (simp only [List.mem_cons, List.not_mem_nil, or_false, forall_eq]; rfl) | simp) ⟨by (try simp only [List.length_map, List.length_cons, List.length_nil, List.length_append, List.length_take, List.length_drop]); omega, by decide⟩ ?_; simp only [zap, zag, zah, Nat.reduceEqDiff, ↓reduceIte, zal, zam, zax, zak, zaj, zaq, zan]) | refine zav inferInstance (zwp points hk (by omega)) yR yX18 ?_ | refine zat [] yX16 trivial ?_ | fail)
   all_goals first | (exfalso; omega) | skip
   ·rename_i e2 e3
    subst e3
    clear hP
    refine zcp [0, 1, 2, 3, 9, 11, 13, 14, 24, 25, 26, 50, 51] yN (fun (y : Int × Nat) => [(16, I y.1), (52, I y.2)]) (fun (y : Int × Nat) => y.2 ≤ P.length ∧ y.1 = (P.take y.2).sum ∧ -(y.2 : Int) * 1099511627776 ≤ y.1 ∧ y.1 ≤ (y.2 : Int) * 1099511627776) (fun (y : Int × Nat) => P.length - y.2) (0, 0) yS (by simp) (fun y B hI hB => ?_); try dsimp only at hI hB; simp only [zaw, zbg]
    obtain ⟨a, j⟩ := y
    dsimp only at hI hB
    obtain ⟨j1, j2, j3, j4⟩ := hI
    have H3 := Box.mk j2
    clear j2
    by_cases hj : j < P.length
    ·obtain ⟨p7, p8⟩ := H2.out.2.1 _ (List.getElem_mem hj)
     repeat' (first | (with_reducible first | refine zad yU yU yE ?_ | refine zab ?_ | refine DS.seq ?_ | refine zaa ?_ | (refine zbe yE ?_; refine zeq (fun _ => ?_) (fun _ => ?_)) | refine DS.blk ?_ | refine DS.block ?_ | refine DS.exit yU ?_ | refine DS.skip ?_) | fail)
     all_goals first | (exfalso; omega) | skip
     refine DS.back (hB (a + P[j], j + 1) _ _ (by dsimp only; omega) ⟨by dsimp only; omega, by dsimp only; rw [H3.out, zpw hj], by dsimp only; omega, by dsimp only; omega⟩ yS yS (fun b o e => by exact e))
    ·have hsh := ybr a (zco points points[k] : Nat) (zco (points.take k) points[k] : Nat) ⟨by omega, by omega⟩ (by omega) ⟨by omega, by omega⟩
     have hbd := zys (sum := a) (many := (zco points points[k] : Nat)) (at_ := (zco (points.take k) points[k] : Nat)) ⟨by omega, by omega⟩ (by omega)
     obtain ⟨hb1, hb2⟩ := hbd
     repeat' (first | (with_reducible refine zgj (t := 9) yU yO yE ?_; simp only [zap, zag, zah, Nat.reduceEqDiff, ↓reduceIte, zal, zam, zax, zak, zaj, zaq, zan]) | (with_reducible refine zgj (t := 64) yU yO yE ?_; simp only [zap, zag, zah, Nat.reduceEqDiff, ↓reduceIte, zal, zam, zax, zak, zaj, zaq, zan]) | (with_reducible first | refine zad yU yU yE ?_ | refine zab ?_ | refine DS.seq ?_ | refine zaa ?_ | (refine zbe yE ?_; refine zeq (fun _ => ?_) (fun _ => ?_)) | refine DS.blk ?_ | refine DS.block ?_ | refine DS.exit yU ?_ | refine DS.skip ?_) | (refine zdn yU yE yE ?_; simp only [go_sem, Nat.zero_add, Nat.reduceAdd]) | (refine DS.append (mm := false) yU yE yE yU (by decide) yE (by first | exact .inl rfl | exact .inr ⟨rfl, rfl⟩) yE yX1 (by first | exact zcs zgo _ | exact zcs zoe _ | exact zcs Member.len _ | exact zcs Sitting.len _ | exact zcs Ruling.len _ | (simp only [List.mem_cons, List.not_mem_nil, or_false, forall_eq]; rfl) | simp) ⟨by (try simp only [List.length_map, List.length_cons, List.length_nil, List.length_append, List.length_take, List.length_drop]); omega, by decide⟩ ?_; simp only [zap, zag, zah, Nat.reduceEqDiff, ↓reduceIte, zal, zam, zax, zak, zaj, zaq, zan]) | refine zav inferInstance (hsh) yR yT ?_ | fail)
     all_goals first | (exfalso; omega) | skip
     obtain ⟨h1, h2, h3, h4⟩ := H2.out
     have hjj : j = P.length := by omega
     have ha := H3.out
     rw [hjj, List.take_of_length_le (Nat.le_refl _)] at ha
     refine DS.back (hB0 (L ++ [zlr points places start true k], k + 1) _ _ (by dsimp only; omega) ⟨by dsimp only; omega, h3.symm, by simp; omega⟩ ?_ yS (fun b o e => by exact e))
     rw [h4, ← ha]
     simp only [zmu, zpx, go_sem, ↓reduceIte, Nat.reduceEqDiff, List.map_append, Int.natCast_add, Int.natCast_one, and_self, if_true]
   ·rename_i e2 e3
    subst e3
    obtain ⟨h1, h2, h3, h4⟩ := H2.out
    refine DS.back (hB0 (L ++ [zlr points places start false k], k + 1) _ _ (by dsimp only; omega) ⟨by dsimp only; omega, h3.symm, by simp; omega⟩ ?_ yS (fun b o e => by exact e))
    rw [h4]
    simp only [zmu, zpx, go_sem, ↓reduceIte, Nat.reduceEqDiff, List.map_append, Int.natCast_add, Int.natCast_one, and_self, if_false, Bool.false_eq_true]
  ·repeat' (first | (with_reducible refine zgj (t := 8) yU yO yE ?_; simp only [zap, zag, zah, Nat.reduceEqDiff, ↓reduceIte, zal, zam, zax, zak, zaj, zaq, zan]) | (with_reducible refine zgj (t := 73) yU yO yE ?_; simp only [zap, zag, zah, Nat.reduceEqDiff, ↓reduceIte, zal, zam, zax, zak, zaj, zaq, zan]) | (with_reducible first | refine zad yU yU yE ?_ | refine zab ?_ | refine DS.seq ?_ | refine zaa ?_ | (refine zbe yE ?_; refine zeq (fun _ => ?_) (fun _ => ?_)) | refine DS.block ?_ | refine DS.exit yU ?_ | refine DS.skip ?_) | refine zat [] yE trivial ?_ | fail)
   all_goals first | (exfalso; omega) | skip
   have h := H.out
   have hkk : k = points.length := by omega
   subst hkk
   rw [← h]; rfl
end Go.XL
namespace Go.XL
open Go.Proofs
set_option maxRecDepth 100000
set_option maxHeartbeats 8000000
theorem yX19 {p : Prop} (h : p := by (simp (disch := omega) only [go_sem, dopV, Option.map_some, Option.map_none, Option.bind_some, Option.bind_none, ↓reduceIte, Nat.reduceEqDiff, Nat.reduceLT, Nat.reduceLeDiff, Nat.reduceAdd, Nat.reduceMul, Nat.reduceSub, Nat.zero_add, Nat.add_zero, Nat.zero_le, Nat.zero_mul, Nat.mul_one, Nat.one_mul, Int.natCast_zero, Int.toNat_zero, Int.reduceToNat, Int.reduceLT, Int.reduceLE, Int.reduceEq, decide_true, decide_false, true_and, and_true, Bool.and_self, Bool.and_true, Bool.true_and, Bool.not_true, Bool.not_false, IntWalk.toNatUp, IntWalk.iteOmega, IntWalk.i64_in, Option.isSome_some, not_true_eq_false, not_false_eq_true, Option.getD_some, Option.getD_none, Int.toNat_natCast, List.length_map, List.getElem?_map, List.getElem?_eq_getElem, V.flat, V.one, List.all_cons, List.all_nil, *, zzg, PRow.cell_copy]; exact rfl)) : p := h
theorem zyw {bx bp bm : Nat} {size : Nat} {rs : List (List Int)} {budget : Int} {n1 : Nat} (ih : ztk bx bp bm size rs budget n1) {met : Int → Int → Bool} {w : W} {B : Int} {ps : List PRow} {r1 : Nat} {f : Int} {fr : List Int} (hg : GoodW B met w) (hB : B + (n1 + 1) ≤ 1000000000000) (hf : AscI (f :: fr))
  (hn : mzS rs r1 (f :: fr).length < n1 + 1) (hT : ∀ i (h : i < ps.length), ps[i].rows.length + (n1 + 1) ≤ 10000) (hps : ps.length = rs.length) (hr : r1 < rs.length) {b4 b5 b6 : Nat} {res : Int × Int × List (Nat × List Int)}
  {v1 : VH} {l : Nat} {rc : Loop} {c : Code} (hc : Try.f49.body.bind (zmt 12) = some c) (hst : rc.state = .ready) (hpend : rc.pending = none)
  {bf : Nat} {t : List Int} {X : List (List Int)} {S5 : Sto} {st : Int} {ps1 : List PRow} (e1 : ¬ st = budget) (htab : t.length = size ∧ t.Sublist (f :: fr) ∧ t.Pairwise (· < ·) ∧ t.headD 0 = (f :: fr).headD 0) (hpl : ps1.length = ps.length)
  (hrw : ∀ (i : Nat) (h : i < ps.length) (h' : i < ps1.length), ps1[i].rows = ps[i].rows) (hap : zvc ps1 b5) (hsz : 3 ≤ size)
  (htry : tryL budget r1 (fun t s => srch size budget rs n1 (zkp met t) r1 ((f :: fr).filter fun id => !decide (id ∈ t)) s) (t :: X) st = res) (htabs : TabsOk size (f :: fr) X) (hr1 : r1 < ps1.length) {b' cap' : Nat} {junk' : List V}
  (g9 : SearchP S5 bx bp bm size rs budget (w64 (st + 1)) (addT 1 [] t w) (ps1.set r1 ⟨(ps1[r1]'hr1).rows ++ [t], some (b', cap', junk')⟩)) (oth : Oth S5 l b4 b5 b6 bf bx { rc with state := .busy } r1 (f :: fr)) (hb5 : b' ≠ b5) :
  DS Try.prog 108 ⟨some l, v1⟩ (fun _ _ => False) [.code c, .blk 3, .rnd (RndQ l (fun u S' => ((u = Bo true ∧ ∃ st ps1, FInv l b4 b5 b6 bx bp bm rc size rs budget w ps r1 (f :: fr) (fun t s => srch size budget rs n1 (zkp met t) r1 ((f :: fr).filter fun id => !decide (id ∈ t)) s) res X S' st ps1) ∨ (u = Bo false ∧ ∃ rc', FDone l b6 bx bp bm size rs budget w ps res S' rc')) ∧ zgi S' bx l bf))]
   ((7, .plc [ints t]) :: eF bx b4 b5 b6) S5 := by
 obtain rfl := Option.some.inj ((show Try.f49.body.bind (zmt 12) = some _ from rfl).symm.trans hc)
 clear hc
 have hap5 : zvc (ps1.set r1 ⟨(ps1[r1]'hr1).rows ++ [t], some (b', cap', junk')⟩) b5 := fun i h cap j e => by
  rw [List.getElem_set] at e
  split at e
  ·simp at e; exact hb5 e.1
  ·exact hap i (by simpa using h) cap j e
 have g5r : ∀ (i : Nat) (h : i < ps1.length) (h' : i < (ps1.set r1 ⟨(ps1[r1]'hr1).rows ++ [t], some (b', cap', junk')⟩).length), ((ps1.set r1 ⟨(ps1[r1]'hr1).rows ++ [t], some (b', cap', junk')⟩)[i]'h').rows = if r1 = i then (ps1[r1]'hr1).rows ++ [t] else (ps1[i]'h).rows := fun i h h' => by
  rw [List.getElem_set]; split <;> rfl
 have hl5 : (ps1.set r1 ⟨(ps1[r1]'hr1).rows ++ [t], some (b', cap', junk')⟩).length = ps.length := by rw [List.length_set]; exact hpl
 generalize ps1.set r1 ⟨(ps1[r1]'hr1).rows ++ [t], some (b', cap', junk')⟩ = ps5 at *
 have hin5 := oth.apart g9 hap5
 have hcl := yal (f :: fr) (by have := hf.len; omega) (by simp)
 have hfl : ((f :: fr).filter fun id => !decide (id ∈ t)).length ≤ fr.length := by
  have h1 : t.headD 0 = f := htab.2.2.2
  have h2 : f ∈ t := by
   cases t with
   | nil => simp at htab; omega
   | cons a r => simp at h1; subst h1; simp
  rw [List.filter_cons, if_neg (by simp [h2])]; exact List.length_filter_le _ _
 have hasc : AscI ((f :: fr).filter fun id => !decide (id ∈ t)) := ⟨hf.asc.filter _, fun a ha => hf.in64 a (List.mem_filter.1 ha).1, Nat.le_trans (List.length_filter_le _ _) hf.len⟩
 have m4 := oth.o4
 have m5 := oth.o5
 have m6 := oth.o6
 have H := Box.mk (And.intro hg (And.intro hf (And.intro hT (And.intro hps (And.intro htab (And.intro hpl (And.intro hrw (And.intro hap (And.intro htry (And.intro htabs (And.intro g9 (And.intro oth (And.intro hap5 (And.intro g5r (And.intro hl5 (And.intro hin5 (And.intro hfl hasc)))))))))))))))))
 clear hg hf hT hps htab hpl hrw hap htry htabs g9 oth hap5 g5r hl5 hin5 hfl hasc
 repeat' (first | (with_reducible first | refine zad yU yU yE ?_ | refine DS.seq ?_ | refine zaa ?_) | fail)
 refine DS.call [] S5 inferInstance hcl yR yH (fun _ _ e => by cases e) (fun _ _ e => ⟨e, rfl⟩) ?_
 rintro u Sg ⟨g, rfl, gok, gl⟩ hdis
 simp only [zca]
 repeat' (first | with_reducible refine zad yU yU yE ?_ | fail)
 have hde := zqs (f :: fr) g Sg gok (by simp) gl (g := 69) (fs := []) (cs := [.plc [ints t]]) (fun id => decide (id ∈ t)) inferInstance (fun x _ => ydp t x)
 refine DS.call Sg S5 inferInstance hde yR yH (fun b o e => by rw [zba, e]) (fun b o e => ?_) ?_
 ·cases hb : zac Sg b with
  | none => exact ⟨by rw [zba, hb]; exact e, rfl⟩
  | some o' => rw [hdis b o' hb] at e; cases e
 rintro u Sg2 rfl hdis2
 refine zml hdis2 ?_
 clear hdis hdis2 gok gl hde hcl
 simp only [zca]
 repeat' (first | (with_reducible first | refine zad yU yU yE ?_ | refine zab ?_ | refine DS.seq ?_ | refine zaa ?_) | fail)
 have hih := ih (zkr (inP bx bp bm ps5) S5) (zkp met t) (addT 1 [] t w) (B + 1) (w64 (st + 1)) ps5 r1 ((f :: fr).filter fun id => !decide (id ∈ t)) H.out.2.2.2.2.2.2.2.2.2.2.1.keep (by rw [H.out.2.2.2.2.2.2.2.2.2.2.2.2.2.2.1, H.out.2.2.2.1]) hr (H.out.1.add (by omega) H.out.2.2.2.2.1.2.2.1) (by omega) H.out.2.2.2.2.2.2.2.2.2.2.2.2.2.2.2.2.2
  (by have h1 := H.out.2.2.2.2.2.2.2.2.2.2.2.2.2.2.2.2.1; simp only [mzS, List.length_cons] at hn ⊢; omega) (fun i h => by
   obtain ⟨_, _, hT, _, _, hpl, hrw, _, _, _, _, _, _, g5r, hl5, _⟩ := H.out
   have h2 : i < ps1.length := by omega
   have h3 := hT i (by omega)
   rw [g5r i h2 h]
   split
   ·rename_i hi
    subst hi
    rw [List.length_append, hrw r1 (by omega) h2, List.length_singleton]; omega
   ·rw [hrw i (by omega) h2]; omega)
 refine DS.call (zkr (inP bx bp bm ps5) S5) (zkr (fun b => !inP bx bp bm ps5 b) S5) inferInstance hih yR yH (fun b o e => ?_) (fun b o e => ?_) ?_
 ·rw [zfc] at e
  split at e
  ·exact e
  ·cases e
 ·rw [zfc] at e
  split at e
  ·rename_i hb
   refine ⟨e, ?_⟩
   rw [zfc, if_neg (by simpa using hb)]
  ·cases e
 rintro u S0 hu hdis
 obtain ⟨rfl, w2, ps2, h1, h2, h3, h4⟩ := hu
 clear hih ih
 generalize hr2 : srch size budget rs n1 (zkp met t) r1 ((f :: fr).filter fun id => !decide (id ∈ t)) (w64 (st + 1)) = res2 at *
 simp only [zca]
 have hap2 : zvc ps2 b5 := fun i h cap j e => by
  have h5 : zac (zkr (fun b => !inP bx bp bm ps5 b) S5) b5 = some (.cells [ints (f :: fr)] 25) := by
   rw [zfc, if_pos (by rw [H.out.2.2.2.2.2.2.2.2.2.2.2.2.2.2.2.1 b5 (.inr (.inr (.inl rfl)))]; rfl)]; exact m5
  have h3 := h1.row i h
  generalize ps2[i] = p at e h3
  obtain ⟨T', blk⟩ := p
  dsimp only at e
  subst e
  rw [hdis b5 _ h3.1] at h5; cases h5
 have oth2 : Oth (S0 ++ zkr (fun b => !inP bx bp bm ps5 b) S5) l b4 b5 b6 bf bx { rc with state := .busy } r1 (f :: fr) := H.out.2.2.2.2.2.2.2.2.2.2.2.1.of fun b hb => by
  have hib := H.out.2.2.2.2.2.2.2.2.2.2.2.2.2.2.2.1 b hb
  have h5 : zac (zkr (fun b => !inP bx bp bm ps5 b) S5) b = zac S5 b := by rw [zfc, if_pos (by rw [hib]; rfl)]
  have oth := H.out.2.2.2.2.2.2.2.2.2.2.2.1
  have hsome : ∃ o, zac S5 b = some o := by
   rcases hb with rfl | rfl | rfl | rfl | rfl
   ·exact ⟨_, oth.lp⟩
   ·exact ⟨_, oth.o4⟩
   ·exact ⟨_, oth.o5⟩
   ·exact ⟨_, oth.o6⟩
   ·exact ⟨_, oth.sf⟩
  rw [zba, ← h5]
  cases hb0 : zac S0 b with
  | none => rfl
  | some o =>
   exfalso
   rw [hdis b o hb0] at h5
   obtain ⟨o2, ho2⟩ := hsome
   rw [ho2] at h5; cases h5
 have g10 : SearchP (S0 ++ zkr (fun b => !inP bx bp bm ps5 b) S5) bx bp bm size rs budget res2.2.1 w2 ps2 := h1.up fun b o e => by rw [zba, e]
 generalize S0 ++ zkr (fun b => !inP bx bp bm ps5 b) S5 = S6 at *
 have hlen2 : ps2.length = ps1.length := by rw [h2, H.out.2.2.2.2.2.2.2.2.2.2.2.2.2.2.1, H.out.2.2.2.2.2.1]
 have htry2 : (if res2.1 = 2 then tryL budget r1 (fun t s => srch size budget rs n1 (zkp met t) r1 ((f :: fr).filter fun id => !decide (id ∈ t)) s) X res2.2.1 else (res2.1, res2.2.1, (r1, t) :: res2.2.2)) = res := by
  have := H.out.2.2.2.2.2.2.2.2.1
  rw [tryL, if_neg e1] at this
  simp only [hr2] at this
  exact this
 have Ks := Box.mk (And.intro g10 (And.intro oth2 (And.intro hap2 (And.intro h3 (And.intro h4 (And.intro h2 (And.intro htry2 hr2)))))))
 have m4 := oth2.o4
 have m6 := oth2.o6
 clear g10 h1 h2 h3 h4 hdis htry2 hr2 oth2 hap2 m5
 clear m4 m6
 have m4 := Ks.out.2.1.o4
 have m6 := Ks.out.2.1.o6
 repeat' (first | (with_reducible first | refine zad yU yU yE ?_ | refine zab ?_ | refine DS.seq ?_ | refine zaa ?_ | (refine zbe yE ?_; refine zeq (fun _ => ?_) (fun _ => ?_)) | refine DS.skip ?_) | (refine DS.store yR yE yE yE yE yU (by exact ⟨by with_unfolding_all rfl, by (try simp only [List.length_map, List.length_append, List.length_set, List.length_replicate, List.length_cons, List.length_nil]); omega⟩) ?_; simp only [zbm, zao, zar, zcb, zbn, zbi, zbj]; try simp only [zap, zag, zah, Nat.reduceEqDiff, ↓reduceIte, zal, zam, zax, zak, zaj, zaq, zan]) | fail)
 ·rename_i e3
  obtain ⟨rfl, hrows2⟩ := Ks.out.2.2.2.1 e3
  have hr2' : r1 < ps2.length := hlen2 ▸ hr1
  have hr5 : r1 < ps5.length := by have := H.out.2.2.2.2.2.2.2.2.2.2.2.2.2.2.1; have := H.out.2.2.2.2.2.1; omega
  have hrow2 := hrows2 r1 hr5 hr2'
  rw [H.out.2.2.2.2.2.2.2.2.2.2.2.2.2.1 r1 hr1 hr5, if_pos rfl] at hrow2
  have hok2 := Ks.out.1.row r1 hr2'
  obtain ⟨b6', cap6, junk6, hblk⟩ : ∃ b6' cap6 junk6, (ps2[r1]'hr2').blk = some (b6', cap6, junk6) := by
   generalize ps2[r1]'hr2' = p2 at hok2 hrow2
   obtain ⟨T2, blk2⟩ := p2
   cases blk2 with
   | none => simp only [PRow.Ok] at hok2; subst hok2; simp at hrow2
   | some x => exact ⟨x.1, x.2.1, x.2.2, rfl⟩
  have hp2e : ps2[r1]'hr2' = ⟨(ps1[r1]'hr1).rows ++ [t], some (b6', cap6, junk6)⟩ := by
   generalize ps2[r1]'hr2' = p2 at hblk hrow2
   obtain ⟨T2, blk2⟩ := p2
   dsimp only at hblk hrow2; rw [hblk, hrow2]
  rw [hp2e] at hok2
  obtain ⟨o1, o2, o3, o4⟩ := hok2
  obtain ⟨ℓ, hℓ⟩ : ∃ ℓ, ℓ = (ps1[r1]'hr1).rows.length := ⟨_, rfl⟩
  have hc6 : (ps2[r1]'hr2').cell = .v (.slice (some ⟨b6', 0, none⟩) (ℓ + 1) cap6) := by rw [hp2e, PRow.cell_some, hℓ]; simp
  have hlc : ℓ + 1 ≤ cap6 := by rw [List.length_append, List.length_singleton] at o2; omega
  have hx6 := Ks.out.1.obj
  have hp6 := Ks.out.1.pln
  have hℓ2 : ℓ ≤ 10000 := by
   have h0 := H.out.2.2.2.2.2.1
   have h1 := H.out.2.2.1 r1 (by omega)
   rw [hℓ, H.out.2.2.2.2.2.2.1 r1 (by omega) hr1]; omega
  have Ku := Box.mk (And.intro hp2e (And.intro hblk (And.intro o1 (And.intro o2 (And.intro o3 (And.intro o4 (And.intro hrows2 hℓ)))))))
  clear hp2e hblk o1 o2 o3 o4 hrows2 hrow2 hℓ
  have Kl := Box.mk hlen2
  clear hlen2
  have m5 := Ks.out.2.1.o5
  repeat' (first | (with_reducible first | refine zad yU yU yX19 ?_ | refine zab ?_ | refine DS.seq ?_ | refine zaa ?_) | (refine DS.store yR yX19 yX19 yX19 yX19 yU (by exact ⟨by with_unfolding_all rfl, by (try simp only [List.length_map, List.length_append, List.length_set, List.length_replicate, List.length_cons, List.length_nil]); omega⟩) ?_; simp only [zbm, zao, zar, zcb, zbn, zbi, zbj]; try simp only [zap, zag, zah, Nat.reduceEqDiff, ↓reduceIte, zal, zam, zax, zak, zaj, zaq, zan]) | refine zcr (id := 16) [0, 1, 2, 3, 4, 5, 6, 7, 8, 9, 10, 11, 12, 13, 14, 15, 16, 17, 18, 19, 20, 21] 22 (by kernel_rfl) zei (by simp only [zbp, zbx, zby, zbz, zbo]; exact rfl) (by simp only [zbk, zbl, List.drop_nil]; exact rfl) ?_ | (with_reducible first | refine zcj yU yU yU yX19 ?_ | refine zdm ?_) | fail)
  refine zew (S' := setS bp (.cells ((ps2.map PRow.cell).set r1 (.v (.slice (some ⟨b6', 0, none⟩) (ps1[r1]'hr1).rows.length cap6))) 43) S6) (fun b o e => by rw [← Ku.out.2.2.2.2.2.2.2] at e; exact e) ?_
  have hbp6 : b6' ≠ bp := (Ks.out.1.rx r1 hr2' b6' cap6 junk6 Ku.out.2.1).2
  have g14 : SearchP (setS bp (.cells ((ps2.map PRow.cell).set r1 (.v (.slice (some ⟨b6', 0, none⟩) (ps1[r1]'hr1).rows.length cap6))) 43) S6) bx bp bm size rs budget res2.2.1 (addT 1 [] t w) (ps2.set r1 ⟨(ps1[r1]'hr1).rows, some (b6', cap6, ints t :: junk6)⟩) := by
   refine Ks.out.1.turn hr2' (.inl ⟨cap6, junk6, Ku.out.2.1⟩) ⟨?_, ?_, Ku.out.2.2.2.2.1, ?_⟩ ?_ fun b e4 e5 e6 => ?_
   ·rw [zas Ks.out.1.pln, if_neg hbp6, Ku.out.2.2.1]; simp
   ·have := Ku.out.2.2.2.1; simp only [List.length_append, List.length_cons, List.length_nil] at this ⊢; omega
   ·intro v hv
    rcases List.mem_cons.1 hv with rfl | hv
    ·rfl
    ·exact Ku.out.2.2.2.2.2.1 v hv
   ·rw [zas Ks.out.1.pln, if_pos rfl]
   ·rw [zas Ks.out.1.pln, if_neg e4]
  have hap14 : zvc (ps2.set r1 ⟨(ps1[r1]'hr1).rows, some (b6', cap6, ints t :: junk6)⟩) b5 := fun i h cap j e => by
   rw [List.getElem_set] at e
   split at e
   ·simp only [Option.some.injEq, Prod.mk.injEq] at e
    exact Ks.out.2.2.1 r1 hr2' cap6 junk6 (e.1 ▸ Ku.out.2.1)
   ·exact Ks.out.2.2.1 i (by simpa using h) cap j e
  have oth14 := Ks.out.2.1.of (T' := setS bp (.cells ((ps2.map PRow.cell).set r1 (.v (.slice (some ⟨b6', 0, none⟩) (ps1[r1]'hr1).rows.length cap6))) 43) S6) (fun b hb => by
   rw [zas Ks.out.1.pln, if_neg (zjy (Ks.out.2.1.apart Ks.out.1 Ks.out.2.2.1 b hb)).2.1])
  generalize setS bp (.cells ((ps2.map PRow.cell).set r1 (.v (.slice (some ⟨b6', 0, none⟩) (ps1[r1]'hr1).rows.length cap6))) 43) S6 = S7 at *
  clear m4 m5 m6 hx6 hp6 hc6
  have htk := zyh S7 g14.obj g14.map g14.xm t (-1) (fun a ha => H.out.2.1.in64 a (H.out.2.2.2.2.1.2.1.subset ha)) (by have := H.out.2.2.2.2.1.2.1.length_le; have := H.out.2.1.len; omega)
  refine zek inferInstance htk yR yH (fun u4 S8 hu4 => ?_)
  have g15 := g14.counted hu4.1 hu4.2
  rw [yar H.out.1 (by omega) H.out.2.2.2.2.1.2.2.1] at g15
  have oth15 := oth14.of (T' := S8) (fun b hb => hu4.2 b (zjy (oth14.apart g14 hap14 b hb)).2.2.1)
  clear htk hu4 g14 oth14
  repeat' (first | (with_reducible first | refine zab ?_ | refine DS.exit yU ?_) | fail)
  refine ygb (ybt (st := res2.2.1) (ps1 := ps2.set r1 ⟨(ps1[r1]'hr1).rows, some (b6', cap6, ints t :: junk6)⟩) hst hpend oth15 g15 ?_ (fun i h h' => ?_) hap14 ?_ H.out.2.2.2.2.2.2.2.2.2.1)
  ·rw [List.length_set]; exact Kl.out.trans H.out.2.2.2.2.2.1
  ·have hi1 : i < ps1.length := by have := H.out.2.2.2.2.2.1; omega
   have hi2 : i < ps2.length := by simpa using h'
   have hi5 : i < ps5.length := by have := H.out.2.2.2.2.2.2.2.2.2.2.2.2.2.2.1; omega
   rw [List.getElem_set]
   by_cases hir : r1 = i
   ·subst hir; rw [if_pos rfl]; exact H.out.2.2.2.2.2.2.1 r1 h hi1
   ·rw [if_neg hir, Ku.out.2.2.2.2.2.2.1 i hi5 hi2, H.out.2.2.2.2.2.2.2.2.2.2.2.2.2.1 i hi1 hi5, if_neg hir]; exact H.out.2.2.2.2.2.2.1 i h hi1
  ·have h7 := Ks.out.2.2.2.2.2.2.1
   rw [if_pos e3] at h7
   exact h7
 ·rename_i e3
  obtain ⟨g10, oth2, hap2, h3, h4, h2, htry2, hr2⟩ := Ks.out
  obtain ⟨_, _, _, _, _, hpl, hrw, _, _, _, _, _, _, g5r, hl5, _⟩ := H.out
  rw [if_neg e3] at htry2
  subst htry2
  refine ybc rfl (zvn (rc := rc) ?_ ?_ ?_ ?_)
  ·rw [zas m6, if_neg (fun e => by rw [← e, oth2.lp] at m6; cases m6)]; exact oth2.lp
  ·rw [zas m6, if_pos rfl]; rfl
  ·refine ⟨rfl, w2, ps2, g10.setI m6 _, hlen2.trans hpl, fun h => absurd h e3, fun h i h1 h2' => ?_⟩
   have hi1 : i < ps1.length := by omega
   have hi5 : i < ps5.length := by omega
   rw [h4 h i hi5 h2', g5r i hi1 hi5]
   by_cases hir : r1 = i
   ·subst hir
    rw [if_pos rfl, hrw r1 h1 hi1, List.filter_cons, if_pos (by simp)]; simp
   ·rw [if_neg hir, hrw i h1 hi1, List.filter_cons, if_neg (by simpa using hir)]
  ·have sf := oth2.sf
   simp only [zgi] at sf ⊢
   rw [zas m6, if_neg (fun e => by rw [e, m6] at sf; simp at sf)]; exact sf
end Go.XL
namespace Go.XL
open Go.Proofs
set_option maxRecDepth 100000
set_option maxHeartbeats 8000000
theorem yX20 {p : Prop} (h : p := by (simp (disch := omega) only [go_sem, dopV, Option.map_some, Option.map_none, Option.bind_some, Option.bind_none, ↓reduceIte, Nat.reduceEqDiff, Nat.reduceLT, Nat.reduceLeDiff, Nat.reduceAdd, Nat.reduceMul, Nat.reduceSub, Nat.zero_add, Nat.add_zero, Nat.zero_le, Nat.zero_mul, Nat.mul_one, Nat.one_mul, Int.natCast_zero, Int.toNat_zero, Int.reduceToNat, Int.reduceLT, Int.reduceLE, Int.reduceEq, decide_true, decide_false, true_and, and_true, Bool.and_self, Bool.and_true, Bool.true_and, Bool.not_true, Bool.not_false, IntWalk.toNatUp, IntWalk.iteOmega, IntWalk.i64_in, Option.isSome_some, not_true_eq_false, not_false_eq_true, Option.getD_some, Option.getD_none, Int.toNat_natCast, List.length_map, List.getElem?_map, List.getElem?_eq_getElem, V.flat, V.one, List.all_cons, List.all_nil, *, ints]; try exact rfl)) : p := h
theorem ybs {bx bp bm : Nat} {size : Nat} {rs : List (List Int)} {budget : Int} (hsz : 3 ≤ size ∧ size ≤ 4) {n1 : Nat} (ih : ztk bx bp bm size rs budget n1) {met : Int → Int → Bool} {w : W} {B : Int} {ps : List PRow} {r1 : Nat} {f : Int} {fr : List Int} (hg : GoodW B met w) (hB : B + (n1 + 1) ≤ 1000000000000) (hf : AscI (f :: fr))
  (hn : mzS rs r1 (f :: fr).length < n1 + 1) (hT : ∀ i (h : i < ps.length), ps[i].rows.length + (n1 + 1) ≤ 10000) (hps : ps.length = rs.length) (hr : r1 < rs.length) {b4 b5 b6 : Nat} {res : Int × Int × List (Nat × List Int)}
  {v1 : VH} {l : Nat} {rc : Loop} {x y : Code} (hxy : Try.f49.body.bind rfOf = some (x, y)) (hknow : yfz v1 108 (eF bx b4 b5 b6) rc.tmps) (hpar : rc.params = #[35]) (hass : rc.assign = x) (hbod : rc.body = y) (hst : rc.state = .ready) (hpend : rc.pending = none)
  (bf : Nat) (t : List Int) (X : List (List Int)) (T : Sto) (st : Int) (ps1 : List PRow) (ht : t.length = size) (hself : zgi T bx l bf)
  (q : FInv l b4 b5 b6 bx bp bm rc size rs budget w ps r1 (f :: fr) (fun t s => srch size budget rs n1 (zkp met t) r1 ((f :: fr).filter fun id => !decide (id ∈ t)) s) res (t :: X) T st ps1) :
  YC v1 Try.prog l [ints t] T (fun u S' => ((u = Bo true ∧ ∃ st ps1, FInv l b4 b5 b6 bx bp bm rc size rs budget w ps r1 (f :: fr) (fun t s => srch size budget rs n1 (zkp met t) r1 ((f :: fr).filter fun id => !decide (id ∈ t)) s) res X S' st ps1) ∨ (u = Bo false ∧ ∃ rc', FDone l b6 bx bp bm size rs budget w ps res S' rc')) ∧ zgi S' bx l bf) := by
 obtain ⟨rfl, rfl⟩ := Prod.mk.inj (Option.some.inj ((show Try.f49.body.bind rfOf = some (_, _) from rfl).symm.trans hxy))
 clear hxy
 generalize hrec : (fun t s => srch size budget rs n1 (zkp met t) r1 ((f :: fr).filter fun id => !decide (id ∈ t)) s) = rec at *
 refine YC.of_run (n := 108) (rc := rc) (E := eF bx b4 b5 b6) hknow.1 hknow.2 hst q.lp (by rw [hpar]; rfl) (by rw [hpar]; simp) ?_
 rw [hpar, hass, hbod]
 simp only [zzf, ycb, zay]
 clear hknow hpar hass hbod
 repeat' (first | (with_reducible first | refine zab ?_ | refine zaa ?_) | (refine zgt (t := 7) yU yE yU (fun _ => yE) yE yU (by exact ⟨by with_unfolding_all rfl, by with_unfolding_all decide⟩) (fun _ => by simp only [go_sem, Nat.reduceEqDiff, ↓reduceIte]) ?_; simp only [go_sem]) | fail)
 refine DS.back ⟨rc, q.lp, hst, ?_⟩
 have q1 := q.s.setL q.lp (.raw (.loop { rc with state := .busy }))
 have nl : ∀ {b : Nat} {o : List V × TypeId}, zac T b = some (.cells o.1 o.2) → b ≠ l := fun {b o} h e => by rw [e, q.lp] at h; cases h
 have oth : Oth (setS l (.raw (.loop { rc with state := .busy })) T) l b4 b5 b6 bf bx { rc with state := .busy } r1 (f :: fr) :=
  ⟨by rw [zas q.lp, if_pos rfl], by rw [zas q.lp, if_neg (nl (o := ([I r1], 3)) q.o4)]; exact q.o4, by rw [zas q.lp, if_neg (nl (o := ([ints (f :: fr)], 25)) q.o5)]; exact q.o5, by rw [zas q.lp, if_neg (nl (o := ([I 0], 3)) q.o6)]; exact q.o6, by
   have h := hself
   simp only [zgi] at h ⊢
   rw [zas q.lp, if_neg (fun e => by rw [e, q.lp] at h; cases h)]; exact h⟩
 have htab := q.tabs.each t (List.mem_cons_self ..)
 have hpl := q.pl
 have hrw := q.rows
 have hap := q.ap
 have htry := q.try_
 have htabs : TabsOk size (f :: fr) X := ⟨fun x hx => q.tabs.each x (List.mem_cons_of_mem _ hx)⟩
 generalize setS l (.raw (.loop { rc with state := .busy })) T = T1 at *
 have hx1 := q1.obj
 have m4 := oth.o4
 have m5 := oth.o5
 have m6 := oth.o6
 have hr1 : r1 < ps1.length := by omega
 have H := Box.mk (And.intro oth (And.intro q1 (And.intro hg (And.intro hf (And.intro ih (And.intro hrec (And.intro htab (And.intro hrw (And.intro hap (And.intro htry (And.intro htabs (And.intro hT (And.intro hpl hps)))))))))))))
 clear q oth q1 hself nl hg hf hrec ih htab hrw hap htry htabs hT hpl hps
 repeat' (first | (with_reducible first | refine zad yU yU yX7 ?_ | refine zab ?_ | refine DS.seq ?_ | refine zaa ?_ | (refine zbe yX7 ?_; refine zeq (fun _ => ?_) (fun _ => ?_)) | refine DS.block ?_ | refine DS.skip ?_) | (refine DS.store yR yX7 yX7 yX7 yX7 yU (by exact ⟨by with_unfolding_all rfl, by (try simp only [List.length_map, List.length_append, List.length_set, List.length_replicate, List.length_cons, List.length_nil]); omega⟩) ?_; simp only [zbm, zao, zar, zcb, zbn, zbi, zbj]; try simp only [zap, zag, zah, Nat.reduceEqDiff, ↓reduceIte, zal, zam, zax, zak, zaj, zaq, zan]) | refine zcr (id := 8) [0, 1, 2, 3, 4, 5, 6, 7] 8 (by kernel_rfl) zei (by simp only [zbp, zbx, zby, zbz, zbo]; exact rfl) (by simp only [zbk, zbl, List.drop_nil]; exact rfl) ?_ | (with_reducible first | refine zcj yU yU yU yX7 ?_ | refine zdm ?_) | fail)
 ·rename_i e1
  obtain ⟨oth, q1, hg, hf, ih, hrec, htab, hrw, hap, htry, htabs, hT, hpl, hps⟩ := H.out
  rw [tryL, if_pos e1] at htry
  subst htry
  refine ybc rfl (zvn (rc := rc) ?_ ?_ ?_ ?_)
  ·rw [zas m6, if_neg (fun e => by rw [← e, oth.lp] at m6; cases m6)]; exact oth.lp
  ·rw [zas m6, if_pos rfl]; rfl
  ·exact ⟨rfl, w, ps1, q1.setI m6 _, hpl, fun h => by simp at h, fun h => by simp at h⟩
  ·have sf := oth.sf
   simp only [zgi] at sf ⊢
   rw [zas m6, if_neg (fun e => by rw [e, m6] at sf; simp at sf)]; exact sf
 ·rename_i e1
  have g6 := H.out.2.1.steps' (w64 (st + 1))
  have oth2 := H.out.1.of (T' := setS bx (.cells (pC size budget (w64 (st + 1)) rs bp ps1.length bm) TP) T1) (fun b hb => by
   have := zjy (H.out.1.apart H.out.2.1 H.out.2.2.2.2.2.2.2.2.1 b hb)
   rw [zas hx1, if_neg this.1])
  refine zew (S' := setS bx (.cells (pC size budget (w64 (st + 1)) rs bp ps1.length bm) TP) T1) (fun b o e => by exact e) ?_
  generalize setS bx (.cells (pC size budget (w64 (st + 1)) rs bp ps1.length bm) TP) T1 = T2 at *
  clear hx1 m4 m5 m6
  refine zek inferInstance (zyh T2 g6.obj g6.map g6.xm t 1 (fun a ha => H.out.2.2.2.1.in64 a (H.out.2.2.2.2.2.2.1.2.1.subset ha)) (by omega)) yR yH (fun u S3 hu => ?_)
  have g7 := g6.counted hu.1 hu.2
  have oth3 := oth2.of (T' := S3) (fun b hb => hu.2 b (zjy (oth2.apart g6 H.out.2.2.2.2.2.2.2.2.1 b hb)).2.2.1)
  clear hu g6 oth2
  have hx3 := g7.obj
  have hp3 := g7.pln
  obtain ⟨p, hp⟩ : ∃ p, p = ps1[r1] := ⟨_, rfl⟩
  have hrow := g7.row r1 hr1
  rw [← hp] at hrow
  have hpc : (ps1.map PRow.cell)[r1]? = some p.cell := by rw [List.getElem?_map, List.getElem?_eq_getElem hr1, ← hp]; rfl
  obtain ⟨S0, Sr, k0, k1, k2, k3⟩ := PRow.split hrow
  have hx0 : zac S0 bx = _ := (k3 bx fun cap jk h => (g7.rx r1 hr1 bx cap jk (hp ▸ h)).1 rfl).1.trans hx3
  have hp0 : zac S0 bp = _ := (k3 bp fun cap jk h => (g7.rx r1 hr1 bp cap jk (hp ▸ h)).2 rfl).1.trans hp3
  have h40 : zac S0 b4 = _ := (k3 b4 fun cap jk h => (zjy (oth3.apart g7 H.out.2.2.2.2.2.2.2.2.1 b4 (.inr (.inl rfl)))).2.2.2 r1 hr1 cap jk (hp ▸ h)).1.trans oth3.o4
  have hpr : p.rows.length + (n1 + 1) ≤ 10000 := by rw [hp, H.out.2.2.2.2.2.2.2.1 r1 (H.out.2.2.2.2.2.2.2.2.2.2.2.2.2 ▸ hr) hr1]; exact H.out.2.2.2.2.2.2.2.2.2.2.2.1 r1 _
  subst hp
  have Kq := Box.mk (And.intro hrow (And.intro k3 (And.intro k2 (And.intro g7 (And.intro hpr oth3)))))
  have m4 := oth3.o4
  have m5 := oth3.o5
  have m6 := oth3.o6
  clear hx3 hp3 hrow k3 g7 k2 hpc hpr oth3
  repeat' (first | (with_reducible first | refine zab ?_ | refine DS.seq ?_) | fail)
  refine zin (id := 12) (S0) (Sr) [0, 1, 2, 3, 4, 5, 6, 7, 8, 9, 10, 11, 12, 13, 14] 15 (by kernel_rfl) zei (by simp only [zbp, zbx, zby, zbz, zbo]; exact rfl) (by simp only [zbk, zbl, List.drop_nil]; exact rfl) (k0) (k1) ?_
  repeat' (first | with_reducible refine zcj yU yU yU yX19 ?_ | (refine ybi yU yX19 yX19 ?_; simp only [go_sem, Nat.zero_add, Nat.reduceAdd]; simp only [zfs, zhc, Nat.reduceEqDiff, ↓reduceIte]) | fail)
  refine ybh rfl rfl rfl yR (zya (p := ps1[r1]'hr1) (tab := t) rfl yT yT yR yR yT Kq.out.2.2.1 yT yX20 ⟨by have := Kq.out.2.2.2.2.1; omega, by decide⟩) (fun u2 E' S4 hu2 hdis => ?_)
  obtain ⟨rfl, b', cap', junk', rfl, m1, m2, m3⟩ := hu2
  have hrowv : (ps1[r1]'hr1).rows = (ps[r1]'(by have := H.out.2.2.2.2.2.2.2.2.2.2.2.2.1; omega)).rows := H.out.2.2.2.2.2.2.2.1 r1 (by have := H.out.2.2.2.2.2.2.2.2.2.2.2.2.1; omega) hr1
  obtain ⟨g8, g9, g10⟩ := Kq.out.2.2.2.1.appended hr1 rfl Kq.out.2.1 hdis m1 m2 m3
  have hb5 : b' ≠ b5 := fun e => by
   have h5 : zac S0 b5 = _ := (Kq.out.2.1 b5 fun cap jk h => H.out.2.2.2.2.2.2.2.2.1 r1 hr1 cap jk h).1.trans Kq.out.2.2.2.2.2.o5
   have := m1.1
   rw [e, hdis b5 _ h5] at this; cases this
  clear m1 m2 m3 hdis hx0 hp0 h40 k0 k1 m4 m5 m6
  simp only [PRow.cell_some, zca]
  refine zad yR yR yG ?_
  refine DS.store yR yG yG yG g8 yU ⟨by with_unfolding_all rfl, by simp only [List.length_map]; omega⟩ ?_
  refine zab ?_
  simp only [zbm, zao, zar, zcb]
  refine zev (E' := (7, .plc [ints t]) :: eF bx b4 b5 b6) (zgv yS) (fun _ _ e => e) ?_
  obtain ⟨oth, q1, hg, hf, ih, hrec, htab, hrw, hap, htry, htabs, hT, hpl, hps⟩ := H.out
  subst hrec
  have oth5 := Kq.out.2.2.2.2.2.of (T' := setS bp (.cells ((ps1.map PRow.cell).set r1 (.v (.slice (some ⟨b', 0, none⟩) ((ps1[r1]'hr1).rows ++ [t]).length cap'))) 43) (S4 ++ S0)) (fun b hb => by
   have h1 := zjy (Kq.out.2.2.2.2.2.apart Kq.out.2.2.2.1 hap b hb)
   have hsome : ∃ o, zac S3 b = some o := by
    have oth := Kq.out.2.2.2.2.2
    rcases hb with rfl | rfl | rfl | rfl | rfl
    ·exact ⟨_, oth.lp⟩
    ·exact ⟨_, oth.o4⟩
    ·exact ⟨_, oth.o5⟩
    ·exact ⟨_, oth.o6⟩
    ·exact ⟨_, oth.sf⟩
   obtain ⟨o, ho⟩ := hsome
   rw [ho]
   exact g10 b o h1.2.1 (fun cap j h => h1.2.2.2 r1 hr1 cap j h) ho)
  exact zyw ih hg hB hf hn hT hps hr yR hst hpend e1 htab hpl hrw hap hsz.1 htry htabs hr1 g9 oth5 hb5
end Go.XL
namespace Go.XL
open Go.Proofs
set_option maxRecDepth 100000
set_option maxHeartbeats 8000000
theorem SearchP.inP_none {S : Sto} {bx bp bm : Nat} {size budget steps : Int} {rs : List (List Int)} {w : W} {ps : List PRow} (s : SearchP S bx bp bm size rs budget steps w ps) {b : Nat} (h : zac S b = none) : inP bx bp bm ps b = false := by
 cases hin : inP bx bp bm ps b with
 | false => rfl
 | true =>
  exfalso
  simp only [inP, Bool.or_eq_true, decide_eq_true_eq, List.any_eq_true] at hin
  rcases hin with ((hin | hin) | hin) | ⟨p, hp, hin⟩
  ·subst hin; rw [s.obj] at h; cases h
  ·subst hin; rw [s.pln] at h; cases h
  ·subst hin
   obtain ⟨_, _, _, m1, _⟩ := s.map.out
   rw [m1] at h; cases h
  ·obtain ⟨i, hi, rfl⟩ := List.getElem_of_mem hp
   have h3 := s.row i hi
   generalize ps[i] = p at hin h3
   obtain ⟨T', blk⟩ := p
   cases blk with
   | none => simp at hin
   | some x =>
    simp only [decide_eq_true_eq] at hin
    subst hin
    rw [h3.1] at h; cases h
theorem zpg (st : List Int → Int → Bool) : ∀ (n : Nat) (f : Int) (t ids : List Int), ∀ x ∈ zjm st n (f :: t) ids, x.headD 0 = f
 | 0, f, t, ids, x, hx => by simp only [zjm, List.mem_singleton] at hx; subst hx; rfl
 | n + 1, f, t, ids, x, hx => by
  have key : ∀ l : List Int, ∀ x ∈ zgc st (zjm st n) (f :: t) l, x.headD 0 = f := by
   intro l
   induction l with
   | nil => intro x hx; simp [zgc] at hx
   | cons id r ih =>
    intro x hx
    simp only [zgc, List.mem_append] at hx
    rcases hx with hx | hx
    ·split at hx
     ·exact zpg st n f (t ++ [id]) r x hx
     ·simp at hx
    ·exact ih x hx
  exact key ids x hx
theorem yX21 {p : Prop} (h : p := by (simp (disch := omega) only [go_sem, dopV, Option.map_some, Option.map_none, Option.bind_some, Option.bind_none, ↓reduceIte, Nat.reduceEqDiff, Nat.reduceLT, Nat.reduceLeDiff, Nat.reduceAdd, Nat.reduceMul, Nat.reduceSub, Nat.zero_add, Nat.add_zero, Nat.zero_le, Nat.zero_mul, Nat.mul_one, Nat.one_mul, Int.natCast_zero, Int.toNat_zero, Int.reduceToNat, Int.reduceLT, Int.reduceLE, Int.reduceEq, decide_true, decide_false, true_and, and_true, Bool.and_self, Bool.and_true, Bool.true_and, Bool.not_true, Bool.not_false, IntWalk.toNatUp, IntWalk.iteOmega, IntWalk.i64_in, Option.isSome_some, not_true_eq_false, not_false_eq_true, Option.getD_some, Option.getD_none, Int.toNat_natCast, List.length_map, List.getElem?_map, List.getElem?_eq_getElem, V.flat, V.one, List.all_cons, List.all_nil, *, List.forall_mem_map, implies_true, zgo, zzg]; exact rfl)) : p := h
theorem yX22 {p : Prop} (h : p := by (simp (disch := omega) only [go_sem, dopV, Option.map_some, Option.map_none, Option.bind_some, Option.bind_none, ↓reduceIte, Nat.reduceEqDiff, Nat.reduceLT, Nat.reduceLeDiff, Nat.reduceAdd, Nat.reduceMul, Nat.reduceSub, Nat.zero_add, Nat.add_zero, Nat.zero_le, Nat.zero_mul, Nat.mul_one, Nat.one_mul, Int.natCast_zero, Int.toNat_zero, Int.reduceToNat, Int.reduceLT, Int.reduceLE, Int.reduceEq, decide_true, decide_false, true_and, and_true, Bool.and_self, Bool.and_true, Bool.true_and, Bool.not_true, Bool.not_false, IntWalk.toNatUp, IntWalk.iteOmega, IntWalk.i64_in, Option.isSome_some, not_true_eq_false, not_false_eq_true, Option.getD_some, Option.getD_none, Int.toNat_natCast, List.length_map, List.getElem?_map, List.getElem?_eq_getElem, V.flat, V.one, List.all_cons, List.all_nil, zkf, List.map_cons, List.map_nil, zbl, zbk, zxd, zxc, List.length_cons]; try exact rfl)) : p := h
theorem yfp {bx bp bm : Nat} {size : Nat} {rs : List (List Int)} {budget : Int} (hsz : 3 ≤ size ∧ size ≤ 4) (hrl : rs.length ≤ 1000) (hrs : ∀ ids ∈ rs, AscI ids) (n : Nat) (IH : ∀ m, m < n + 1 → ztk bx bp bm size rs budget m) : ztk bx bp bm size rs budget (n + 1) := by
 intro S met w B0 steps ps round free s hps hr hg hB hf hn hT
 generalize hres : srch size budget rs (n + 1) met round free steps = res
 refine DC.of_run Try.func49 rfl Try.ntmps49 Try.results49 (by simp) (fun _ => ?_); simp only [zaf, zai, go_sem, Nat.zero_add, Nat.reduceAdd]
 repeat' (first | (with_reducible first | refine DS.seq ?_ | refine zaa ?_) | (refine zci (t := 3) yU yE yU ?_; simp only [zbh, zcg, zbf, zbv, zbc, zau, zbq, zay, zcd, zcf, zbr, zce, zbu, zbt]) | fail)
 refine zln yR yG yR (fun b4 h4 => ?_)
 refine zln yR yG yR (fun b5 h5 => ?_)
 refine zdl yR yU yU (fun b6 h6 => ?_)
 simp only [zae] at h5 h6
 have n45 : ¬ b4 = b5 := fun e => by rw [if_pos e] at h5; cases h5
 rw [if_neg n45] at h5
 have n56 : ¬ b5 = b6 := fun e => by rw [if_pos e] at h6; cases h6
 rw [if_neg n56] at h6
 have n46 : ¬ b4 = b6 := fun e => by rw [if_pos e] at h6; cases h6
 rw [if_neg n46] at h6
 have hne : ∀ b o, zac S b = some o → b ≠ b4 ∧ b ≠ b5 ∧ b ≠ b6 := fun b o e => ⟨fun h => (by rw [h, h4] at e; cases e), fun h => (by rw [h, h5] at e; cases e), fun h => (by rw [h, h6] at e; cases e)⟩
 have n54 : ¬ b5 = b4 := fun e => n45 e.symm
 have n65 : ¬ b6 = b5 := fun e => n56 e.symm
 have n64 : ¬ b6 = b4 := fun e => n46 e.symm
 have n4x : ¬ b4 = bx := fun e => (hne _ _ s.obj).1 e.symm
 have n5x : ¬ b5 = bx := fun e => (hne _ _ s.obj).2.1 e.symm
 have n6x : ¬ b6 = bx := fun e => (hne _ _ s.obj).2.2 e.symm
 have hz : (List.map V.v (Value.int .i64 0).cells.toList) = [I 0] := rfl
 rw [hz]
 clear hz
 simp only [zcg, zbf, zau, zbc, zcd, zay]
 have hx := s.obj
 have H := And.intro h4 (And.intro h5 (And.intro h6 (And.intro hne (And.intro s (And.intro hg hT)))))
 clear h4 h5 h6 hne s hg hT
 repeat' (first | (with_reducible first | refine zab ?_ | refine DS.seq ?_ | refine DS.block ?_ | refine DS.scope ?_) | fail)
 refine zda [3, 4, 5, 6, 7, 8, 9, 35, 36, 37, 38, 39, 40, 41, 42, 43, 44, 45, 46, 47, 48, 49, 50, 51, 52, 53, 55, 56, 57, 58, 59, 60, 61, 62, 63, 64, 65, 66, 68, 69, 70, 71, 72, 73, 74, 75, 76, 77, 78, 79, 80, 81, 82, 83, 84, 85, 86, 87, 88, 89, 90, 91, 92, 93, 94, 95, 96, 97, 98, 99, 100, 101, 102, 103, 104, 105, 107] yN (fun (x : Nat × List Int × Nat) => []) (fun (x : Nat × List Int × Nat) => ((b6, .cells [I 0] 3) :: (b5, .cells [ints x.2.1] 25) :: (b4, .cells [I x.1] 3) :: S)) (fun (x : Nat × List Int × Nat) => x.1 < rs.length ∧ AscI x.2.1 ∧ x.2.2 ≤ n ∧ mzS rs x.1 x.2.1.length < x.2.2 + 1 ∧ srch size budget rs (x.2.2 + 1) met x.1 x.2.1 steps = res) (fun (x : Nat × List Int × Nat) => rs.length - x.1) (round, free, n) yS (fun b o e => by exact e) ⟨hr, hf, Nat.le_refl _, hn, hres⟩ (fun x B hI hB => ?_); try dsimp only at hI hB; simp only [zaw, zbg]
 clear hr hf hn hres
 obtain ⟨r1, f1, n1⟩ := x
 dsimp only at hI hB
 obtain ⟨g1, g2, g3, g4, g5⟩ := hI
 have hsub : ∀ o6 o5 o4 b o, zac S b = some o → zac ((b6, o6) :: (b5, o5) :: (b4, o4) :: S) b = some o := fun o6 o5 o4 b o e => by
  obtain ⟨e1, e2, e3⟩ := H.2.2.2.1 b o e
  simp only [zac]
  rw [if_neg (fun h => e3 h.symm), if_neg (fun h => e2 h.symm), if_neg (fun h => e1 h.symm)]; exact e
 repeat' (first | (with_reducible first | refine zad yU yU yX21 ?_ | refine zab ?_ | refine DS.seq ?_ | refine zaa ?_ | (refine zbe yX21 ?_; refine zeq (fun _ => ?_) (fun _ => ?_)) | refine DS.blk ?_ | refine DS.block ?_ | refine DS.exit yU ?_ | refine DS.skip ?_ | refine DS.label ?_) | (refine DS.store yR yX21 yX21 yX21 yX21 yU (by exact ⟨by with_unfolding_all rfl, by (try simp only [List.length_map, List.length_append, List.length_set, List.length_replicate, List.length_cons, List.length_nil]); omega⟩) ?_; simp only [zbm, zao, zar, zcb, zbn, zbi, zbj]; try simp only [zap, zag, zah, Nat.reduceEqDiff, ↓reduceIte, zal, zam, zax, zak, zaj, zaq, zan]) | refine zcr (id := 3) [0, 1, 2, 3, 4, 5] 6 (by kernel_rfl) zei (by simp only [zbp, zbx, zby, zbz, zbo]; exact rfl) (by simp only [zbk, zbl, List.drop_nil]; exact rfl) ?_ | refine zcr (id := 5) [0, 1, 2, 3, 4] 5 (by kernel_rfl) zei (by simp only [zbp, zbx, zby, zbz, zbo]; exact rfl) (by simp only [zbk, zbl, List.drop_nil]; exact rfl) ?_ | refine zcr (id := 6) [0, 1, 2, 3, 4] 5 (by kernel_rfl) zei (by simp only [zbp, zbx, zby, zbz, zbo]; exact rfl) (by simp only [zbk, zbl, List.drop_nil]; exact rfl) ?_ | (with_reducible first | refine zcj yU yU yU yX21 ?_ | refine zdm ?_) | fail)
 ·rename_i e1 e2
  have hf1 : f1 = [] := List.eq_nil_of_length_eq_zero (by omega)
  subst hf1
  rw [srch, if_pos (by omega)] at g5
  subst g5
  refine zrb S yH (fun b o e => ?_) ⟨rfl, w, ps, H.2.2.2.2.1, rfl, fun h => by simp at h, fun _ i h h' => by simp⟩
  simp only [setS, n46, n45, n56, n64, n54, n65, ↓reduceIte, zaz]
  exact hsub _ _ _ b o e
 ·rename_i e1 e2
  have hf1 : f1 = [] := List.eq_nil_of_length_eq_zero (by omega)
  subst hf1
  have hnx : r1 + 1 < rs.length := by omega
  rw [srch, if_neg (by omega), List.getD_eq_getElem?_getD, List.getElem?_eq_getElem hnx, Option.getD_some] at g5
  have hmz := ycd hnx
  simp only [List.length_nil] at g4
  obtain ⟨n2, rfl⟩ : ∃ n2, n1 = n2 + 1 := ⟨n1 - 1, by omega⟩
  refine DS.back (hB (r1 + 1, rs[r1 + 1], n2) _ _ (by dsimp only; omega) ⟨hnx, hrs _ (List.getElem_mem hnx), by dsimp only; omega, by dsimp only; omega, g5⟩ yS yS (fun b o e => ?_))
  simp only [setS, n46, n45, n56, n64, n54, n65, ↓reduceIte, zaz, zbi, zao, zar]
  exact e
 ·rename_i e1
  obtain ⟨f, fr, rfl⟩ : ∃ f fr, f1 = f :: fr := by
   cases f1 with
   | nil => simp at e1
   | cons f fr => exact ⟨f, fr, rfl⟩
  clear e1 hB
  refine zav inferInstance (zxt bx [f] fr) yR yX22 ?_
  repeat' (first | (with_reducible first | refine zab ?_ | refine DS.block ?_) | fail)
  have hS0 : ∀ b o, zac S b = some o → zac ((b6, .cells [I 0] 3) :: (b5, .cells [ints (f :: fr)] 25) :: (b4, .cells [I r1] 3) :: S) b = some o := hsub _ _ _
  have s0 : SearchP ((b6, .cells [I 0] 3) :: (b5, .cells [ints (f :: fr)] 25) :: (b4, .cells [I r1] 3) :: S) bx bp bm size rs budget steps w ps := H.2.2.2.2.1.up (hsub _ _ _)
  have k4 : zac ((b6, .cells [I 0] 3) :: (b5, .cells [ints (f :: fr)] 25) :: (b4, .cells [I r1] 3) :: S) b4 = some (.cells [I r1] 3) := by simp only [zac, n64, n54, ↓reduceIte]
  have k5 : zac ((b6, .cells [I 0] 3) :: (b5, .cells [ints (f :: fr)] 25) :: (b4, .cells [I r1] 3) :: S) b5 = some (.cells [ints (f :: fr)] 25) := by simp only [zac, n65, ↓reduceIte]
  have k6 : zac ((b6, .cells [I 0] 3) :: (b5, .cells [ints (f :: fr)] 25) :: (b4, .cells [I r1] 3) :: S) b6 = some (.cells [I 0] 3) := by simp only [zac, ↓reduceIte]
  have hni : inP bx bp bm ps b4 = false ∧ inP bx bp bm ps b5 = false ∧ inP bx bp bm ps b6 = false := ⟨H.2.2.2.2.1.inP_none H.1, H.2.2.2.2.1.inP_none H.2.1, H.2.2.2.2.1.inP_none H.2.2.1⟩
  dsimp only
  generalize ((b6, Ob.cells [I 0] 3) :: (b5, .cells [ints (f :: fr)] 25) :: (b4, .cells [I r1] 3) :: S) = S1 at *
  obtain ⟨k, hk⟩ : ∃ k : Nat, size = k + 1 := ⟨size - 1, by omega⟩
  rw [srch, show size - 1 = k by omega] at g5
  refine ybe (g := 76) (fs := []) (cs := [.plc [.v (.pointer (some ⟨bx, 0, none⟩))], .plc [ints [f]], .plc [ints fr]]) (eF bx b4 b5 b6) S1 []
   (Rend := fun pd T => (pd = none ∧ zac T b6 = some (.cells [I 0] 3) ∧ zjh bx bp bm size rs budget w ps res (I 2) T) ∨ (pd = some .ret ∧ zac T b6 = some (.cells [I res.1] 3) ∧ zjh bx bp bm size rs budget w ps res (I res.1) T))
   rfl yH inferInstance (zgv yS) (fun t v e => ?_) (fun _ _ e => e) (fun _ _ e => by cases e) ?_ ?_
  ·simp only [zah, zzm] at e
   repeat' split at e
   all_goals first | (cases e; subst_vars; exact ⟨by decide, rfl⟩) | cases e
  ·intro v1 l rc hv1 hknow hpar hass hbod hst hpend hfresh
   have hlt : ∀ o b x, zac S1 b = some x → zac ((l, o) :: S1) b = some x := fun o b x e => by
    simp only [zac]; rw [if_neg (fun h => by subst h; rw [hfresh] at e; cases e)]; exact e
   have hfu := zul (v1 := v1) (l := l) (bx := bx) (size := size) (met := met) (fun X T => ∃ st ps1, FInv l b4 b5 b6 bx bp bm rc size rs budget w ps r1 (f :: fr) (fun t s => srch size budget rs n1 (zkp met t) r1 ((f :: fr).filter fun id => !decide (id ∈ t)) s) res X T st ps1)
    (fun T => ∃ rc', FDone l b6 bx bp bm size rs budget w ps res T rc') ((l, .raw (.loop rc)) :: S1) k [f] fr (by omega) (by simpa using g2.asc) (by simpa using g2.in64) (by simp; omega) (by omega) (by have := g2.len; simp at this; omega)
    ?_ ?_ ?_
   ·refine hfu.mono fun u T hT => ?_
    rcases hT with ⟨st, ps1, q⟩ | ⟨rc', q⟩
    ·refine ⟨rc, delS l T, q.lp, by rw [hst]; decide, fun b o e => ?_, .inl ⟨hpend, ?_, ?_⟩⟩
     ·rw [zbw] at e
      split at e
      ·cases e
      ·rename_i hb; exact ⟨e, hb⟩
     ·rw [zbw, if_neg (fun h => by have := q.o6; rw [h, q.lp] at this; cases this)]; exact q.o6
     ·have e := q.try_
      simp only [tryL] at e
      subst e
      exact ⟨rfl, w, ps1, q.s.delL q.lp, q.pl, fun _ => ⟨rfl, q.rows⟩, fun h => by simp at h⟩
    ·refine ⟨rc', delS l T, q.lp, q.st, fun b o e => ?_, .inr ⟨q.pd, ?_, ?_⟩⟩
     ·rw [zbw] at e
      split at e
      ·cases e
      ·rename_i hb; exact ⟨e, hb⟩
     ·rw [zbw, if_neg (fun h => by have := q.o6; rw [h, q.lp] at this; cases this)]; exact q.o6
     ·obtain ⟨_, w', ps', p1, p2, p3, p4⟩ := q.post
      exact ⟨rfl, w', ps', p1.delL q.lp, p2, p3, p4⟩
   ·rintro X T ⟨st, ps1, q⟩
    exact ⟨budget, st, rs, bp, _, bm, w, _, q.s.obj, q.s.map, H.2.2.2.2.2.1, q.s.xm⟩
   ·rintro bf t X T ht ⟨st, ps1, q⟩ hself
    exact ybs hsz (IH n1 (by omega)) H.2.2.2.2.2.1 (by omega) g2 g4 (fun i h => by have := H.2.2.2.2.2.2 i h; omega) hps g1 (x := _) (y := _) yR hknow hpar hass hbod hst hpend bf t X T st ps1 ht hself q
   ·intro S' hS'
    refine ⟨steps, ps, hS' _ _ (by simp [zac]), hS' _ _ (hlt _ _ _ k4), hS' _ _ (hlt _ _ _ k5), hS' _ _ (hlt _ _ _ k6), (s0.up (hlt _)).up hS', rfl, fun _ _ _ => rfl, ?_, g5, ⟨fun t ht => ?_⟩⟩
    ·exact fun i h cap j e => (zjy hni.2.1).2.2.2 i h cap j e
    ·obtain ⟨e1, e2, e3⟩ := zsq (zdi met) k [f] fr (by simpa using g2.asc) t ht
     refine ⟨by simp at e1; omega, by simpa using e2, e3, ?_⟩
     exact zpg (zdi met) k f [] fr t (by simpa using ht)
  ·rintro pend T (⟨rfl, p1, p2⟩ | ⟨rfl, p1, p2⟩) -
   ·dsimp only
    rw [List.append_nil]
    repeat' (first | (with_reducible first | refine zab ?_ | refine DS.seq ?_ | refine zaa ?_ | refine DS.blk ?_) | (refine DS.store yR yE yE yE yE yU (by exact ⟨by with_unfolding_all rfl, by (try simp only [List.length_map, List.length_append, List.length_set, List.length_replicate, List.length_cons, List.length_nil]); omega⟩) ?_; simp only [zbm, zao, zar, zcb, zbn, zbi, zbj]; try simp only [zap, zag, zah, Nat.reduceEqDiff, ↓reduceIte, zal, zam, zax, zak, zaj, zaq, zan]) | fail)
    refine zcl (by (simp (disch := omega) only [go_sem, dopV, Option.map_some, Option.map_none, Option.bind_some, Option.bind_none, ↓reduceIte, Nat.reduceEqDiff, Nat.reduceLT, Nat.reduceLeDiff, Nat.reduceAdd, Nat.reduceMul, Nat.reduceSub, Nat.zero_add, Nat.add_zero, Nat.zero_le, Nat.zero_mul, Nat.mul_one, Nat.one_mul, Int.natCast_zero, Int.toNat_zero, Int.reduceToNat, Int.reduceLT, Int.reduceLE, Int.reduceEq, decide_true, decide_false, true_and, and_true, Bool.and_self, Bool.and_true, Bool.true_and, Bool.not_true, Bool.not_false, IntWalk.toNatUp, IntWalk.iteOmega, IntWalk.i64_in, Option.isSome_some, not_true_eq_false, not_false_eq_true, Option.getD_some, Option.getD_none, Int.toNat_natCast, List.length_map, List.getElem?_map, List.getElem?_eq_getElem, V.flat, V.one, List.all_cons, List.all_nil, zas p1]; try exact rfl)) ?_
    obtain ⟨e1, w', ps', q1, q2, q3, q4⟩ := p2
    exact ⟨e1, w', ps', q1.setI p1 _, q2, q3, q4⟩
   ·dsimp only
    rw [List.append_nil]
    refine zcl (by (simp (disch := omega) only [go_sem, dopV, Option.map_some, Option.map_none, Option.bind_some, Option.bind_none, ↓reduceIte, Nat.reduceEqDiff, Nat.reduceLT, Nat.reduceLeDiff, Nat.reduceAdd, Nat.reduceMul, Nat.reduceSub, Nat.zero_add, Nat.add_zero, Nat.zero_le, Nat.zero_mul, Nat.mul_one, Nat.one_mul, Int.natCast_zero, Int.toNat_zero, Int.reduceToNat, Int.reduceLT, Int.reduceLE, Int.reduceEq, decide_true, decide_false, true_and, and_true, Bool.and_self, Bool.and_true, Bool.true_and, Bool.not_true, Bool.not_false, IntWalk.toNatUp, IntWalk.iteOmega, IntWalk.i64_in, Option.isSome_some, not_true_eq_false, not_false_eq_true, Option.getD_some, Option.getD_none, Int.toNat_natCast, List.length_map, List.getElem?_map, List.getElem?_eq_getElem, V.flat, V.one, List.all_cons, List.all_nil, p1]; try exact rfl)) ?_
    exact p2
theorem yfo {bx bp bm : Nat} {size : Nat} {rs : List (List Int)} {budget : Int} (hsz : 3 ≤ size ∧ size ≤ 4) (hrl : rs.length ≤ 1000) (hrs : ∀ ids ∈ rs, AscI ids) (n : Nat) : ztk bx bp bm size rs budget n := by
 induction n using Nat.strongRecOn with
 | _ n ih =>
  cases n with
  | zero => intro S met w B0 steps ps round free s hps hr hg hB hf hn; omega
  | succ n => exact yfp hsz hrl hrs n fun m hm => ih m hm
end Go.XL
namespace Go.XL
open Go.Proofs
set_option maxRecDepth 100000
set_option maxHeartbeats 8000000
theorem ztd (c : Club) (hs : c.Small) (hc : ztg c) (rs : List (List Int)) (budget : Int) (hl : rs.length ≤ 1000) :
  DC Try.prog 32 [c.val, rows rs, I budget] [] (fun u S' => ∃ bx bp bm, u = .v (.pointer (some ⟨bx, 0, none⟩)) ∧ SearchP S' bx bp bm c.size rs budget 0 (zor c) (List.replicate rs.length ⟨[], none⟩)) := by
 have hm := zjx c hs hc
 refine DC.of_run Try.func32 rfl Try.ntmps32 Try.results32 (by simp) (fun _ => ?_); simp only [zaf, zai, go_sem, Nat.zero_add, Nat.reduceAdd]
 repeat' (first | (with_reducible first | refine zad yU yU yE ?_ | refine zab ?_ | refine DS.seq ?_ | refine zaa ?_) | (refine zci (t := 3) yU yE yU ?_; simp only [zbh, zcg, zbf, zbv, zbc, zau, zbq, zay, zcd, zcf, zbr, zce, zbu, zbt]) | fail)
 refine zin (id := 1) (([] : Sto)) (([] : Sto)) [0, 1, 2, 3, 4, 5, 7, 8, 6] 9 (by kernel_rfl) zei (by simp only [zbp, zbx, zby, zbz, zbo]; exact rfl) (by simp only [zbk, zbl, List.drop_nil]; exact rfl) ((fun _ _ e => by cases e)) ((fun _ _ e => by cases e)) ?_
 repeat' (first | with_reducible refine zcj yU yU yU yE ?_ | fail)
 refine ybg (R := fun v E' S' => E' = _ ∧ ∃ S0, S' = S0 ++ [] ∧ (∃ b, v = .v (.map (some b)) ∧ MapW S0 b (zor c)) ∧ ∀ b o, zac S0 b = some o → zac ([] : Sto) b = none) rfl rfl rfl yR (OpS.call (fs := []) (cs := []) (args := [c.val]) (S1 := []) (S2 := []) inferInstance rfl yH (hm _) (fun _ _ e => by cases e) (fun _ _ e => by cases e)) yR (fun u v h => ?_) yH yH yH yH yR yR ⟨by omega, by omega, by decide, by omega⟩ ?_
 ·rw [yag, zgb] at h
  split at h
  ·cases h
  ·exact h
 ·rintro v E' S' u ⟨rfl, S0, rfl, ⟨bm, rfl, hw⟩, -⟩ h1 -
  simp only [List.append_nil, zca] at h1 ⊢
  rw [Int.toNat_natCast, zri]
  repeat' (first | (with_reducible first | refine zad yU yU yX4 ?_ | refine zab ?_) | (with_reducible refine zln yU yX4 yU (fun _ hfr => ?_); have hfr := zff hfr; simp only [zdq, zed, and_true] at hfr; simp only [zbh, zcg, zbf, zbv, zbc, zau, zbq, zay, zcd, zcf, zbr, zce, zbu, zbt]) | fail)
  rename_i bx hbx
  refine zcl yG ⟨bx, u, bm, rfl, ?_⟩
  simp only [zac] at hbx
  have nux : ¬ u = bx := fun e => by rw [if_pos e] at hbx; cases hbx
  rw [if_neg nux] at hbx
  have nxm : bx ≠ bm := fun e => by
   obtain ⟨_, _, _, m1, _⟩ := hw.out
   rw [e, m1] at hbx; cases hbx
  have num : u ≠ bm := fun e => by
   obtain ⟨_, _, _, m1, _⟩ := hw.out
   rw [e, m1] at h1; cases h1
  refine ⟨?_, hw.of ?_, ?_, fun i h => ?_, fun e => nux e.symm, fun i h b cap j e => ?_, fun i k hi hk b cap cap' j j' e => ?_⟩
  ·simp [zac, pC]
  ·simp only [zac]; rw [if_neg nxm, if_neg num]
  ·simp only [zac]; rw [if_neg (fun e => nux e.symm), if_pos trivial, List.map_replicate]; rfl
  ·rw [List.getElem_replicate]; rfl
  ·rw [List.getElem_replicate] at e; cases e
  ·rw [List.getElem_replicate] at e; cases e
theorem zvv (a b : Int) : ∀ R : List Sitting, zqi a b R ≤ (R.map fun s => s.tables.length).sum
 | [] => Nat.le_refl _
 | s :: r => by
  have h1 := zvv a b r
  have h2 := zqh a b s.tables
  simp only [zqi, List.map_cons, List.sum_cons]; omega
theorem zrz {c : Club} (hs : c.Small) (h : zcm c = 0) : GoodW 20000000 (met0 c) (zor c) := by
 refine ⟨fun a b hab => ?_, fun a b => ?_, zzl c⟩
 ·rw [zmk hs h, if_pos hab]; simp only [met0]; congr 1; exact propext (by omega)
 ·rw [zmk hs h]
  split
  ·have h1 := zvv a b c.rounds
   have h2 := zyk (fun s : Sitting => s.tables.length) 1000000 c.rounds fun s h => (hs.round s h).tables
   have h3 := (zep h).2.2
   have h4 : c.rounds.length * 1000000 ≤ 20 * 1000000 := Nat.mul_le_mul_right _ h3
   simp only [metS]; omega
  ·omega
theorem yel {bx bp bm : Nat} {size : Nat} {rs : List (List Int)} {budget : Int} (hsz : 3 ≤ size ∧ size ≤ 4) (hrl : rs.length ≤ 1000) (hr0 : 0 < rs.length) (hrs : ∀ ids ∈ rs, AscI ids) {S : Sto} {met : Int → Int → Bool} {w : W} {B : Int} {ps : List PRow} (n : Nat) (s : SearchP S bx bp bm size rs budget 0 w ps) (hps : ps.length = rs.length) (hg : GoodW B met w) (hB : B + n ≤ 1000000000000)
  (hn : mzS rs 0 (rs[0]'hr0).length < n) (hT : ∀ i (h : i < ps.length), ps[i].rows.length + n ≤ 10000) :
  DC Try.prog 33 [.v (.pointer (some ⟨bx, 0, none⟩))] S (zjh bx bp bm size rs budget w ps (srch size budget rs n met 0 (rs[0]'hr0) 0)) := by
 have hf := yfo (bx := bx) (bp := bp) (bm := bm) (budget := budget) hsz hrl hrs n S met w B 0 ps 0 (rs[0]'hr0) s hps hr0 hg hB (hrs _ (List.getElem_mem hr0)) hn hT
 have hx := s.obj
 clear s hg hrs hn hT
 refine DC.of_run Try.func33 rfl Try.ntmps33 Try.results33 (by simp) (fun _ => ?_); simp only [zaf, zai, go_sem, Nat.zero_add, Nat.reduceAdd]
 repeat' (first | (with_reducible first | refine zad yU yU yX7 ?_ | refine zab ?_ | refine DS.seq ?_ | refine zaa ?_) | fail)
 refine zek inferInstance hf yR yH (fun u S' hu => ?_)
 obtain ⟨rfl, hu⟩ := hu
 repeat' (first | (with_reducible first | refine zad yU yU yE ?_ | refine zab ?_) | fail)
 refine zcl yG ⟨rfl, hu⟩
theorem zmj (c : Club) (hs : c.Small) (hc : ztg c) (hm : ∀ m ∈ c.members, In64 m.id) (ids : List Int) (hl : ids.length ≤ 1000000) : PC Try.prog 14 [c.val, ints ids] (tupV [rows (zoq c ids).1, I (zoq c ids).2]) := by
 have q1 := hs.rounds
 have q2 := hs.members
 rw [zoq]
 by_cases hc0 : zcm c = 0
 ·obtain ⟨k1, k2, k3⟩ := zep hc0
  have g := zjt k1
  rw [if_neg (by omega)]
  refine DC.of_run Try.func14 rfl Try.ntmps14 Try.results14 (by simp) (fun _ => ?_); simp only [zaf, zai, go_sem, Nat.zero_add, Nat.reduceAdd]
  repeat' (first | (with_reducible first | refine zad yU yU yE ?_ | refine zab ?_ | refine DS.seq ?_ | refine zaa ?_ | (refine zbe yE ?_; first | refine zeq (fun _ => ?_) (fun _ => ?_) | refine zdd ?_) | refine DS.blk ?_ | refine DS.block ?_ | refine DS.skip ?_) | refine zav inferInstance (zdr c hs) yR yT ?_ | (refine zci (t := 2) yU yE yU ?_; simp only [zbh, zcg, zbf, zbv, zbc, zau, zbq, zay, zcd, zcf, zbr, zce, zbu, zbt]) | refine zat [] yE trivial ?_ | fail)
  ·rename_i e1
   rw [if_pos (by omega)]; rfl
  ·rename_i e1 e2
   rw [if_neg (by omega), if_pos (by omega)]; rfl
  rename_i e1 e2
  rw [if_neg (by omega), if_neg (by omega)]
  refine zcp [1, 2, 24, 25] yN (fun (j : Nat) => [(26, I j)]) (fun (j : Nat) => j ≤ ids.length ∧ zeb c c.rounds.length ids none = zeb c c.rounds.length (ids.drop j) (zoo ids j)) (fun (j : Nat) => ids.length - j) 0 yS (by simp [zoo]) (fun j B hI hB => ?_); try dsimp only at hI hB; simp only [zaw, zbg]
  repeat' (first | (with_reducible first | refine zad yU yU yE ?_ | refine zab ?_ | refine DS.seq ?_ | refine zaa ?_ | (refine zbe yE ?_; refine zeq (fun _ => ?_) (fun _ => ?_)) | refine DS.block ?_ | refine DS.exit yU ?_ | refine DS.skip ?_) | (refine zdn yU yE yE ?_; simp only [go_sem, Nat.zero_add, Nat.reduceAdd]) | refine zav inferInstance (zwl c _) yR yT ?_ | refine zcr (id := 14) [0, 1, 2, 3, 4, 5, 6, 7] 8 (by kernel_rfl) zei (by simp only [zbp, zbx, zby, zbz, zbo]; exact rfl) (by simp only [zbk, zbl, List.drop_nil]; exact rfl) ?_ | with_reducible refine zcj yU yU yU yE ?_ | refine zat [] yE trivial ?_ | fail)
  ·rename_i e3 e4
   obtain ⟨_, r, dr1, rfl, dr3⟩ := zdh (l := ids) (i := j) (by omega); rw [dr1] at hI
   have hid : zeb c c.rounds.length ids none = 7 := by rw [hI.2, zeb, if_pos e4]
   rw [hid, if_pos (by decide)]; rfl
  ·rename_i e3 e4
   obtain ⟨m, hm, e5, -, e7⟩ := zqr e4
   have H := And.intro e5 e7
   simp only [e5]
   clear e5 e7 e4
   repeat' (first | (with_reducible first | refine zad yU yU yE ?_ | refine zab ?_ | refine DS.seq ?_ | refine zaa ?_ | (refine zbe yE ?_; first | refine zeq (fun _ => ?_) (fun _ => ?_) | refine zdd ?_ | refine yek (fun _ => ?_) (fun _ => ?_)) | (refine zdv yU yE ?_; first | refine zuw (fun _ => ?_) (fun _ => ?_) | refine GG.run ?_ | refine zkb ?_) | refine DS.blk ?_ | refine DS.skip ?_) | refine zav inferInstance (zmh _ _) yR yT ?_ | (with_reducible first | refine zcj yU yU yU yE ?_ | refine zdm ?_) | refine zat [] yE trivial ?_ | fail)
   all_goals obtain ⟨_, r, dr1, rfl, dr3⟩ := zdh (l := ids) (i := j) (by omega); rw [dr1] at hI
   ·rename_i e9
    have hid : zeb c c.rounds.length ids none = 10 := by rw [hI.2, zeb, if_neg (by rw [H.1]; omega), if_pos (by rw [H.2]; exact e9)]
    rw [hid, if_pos (by decide)]; rfl
   ·rename_i e9 e10 e11
    obtain ⟨e12, e13⟩ := zkn (t := ids) (k := j) (by omega) (by omega)
    have hid : zeb c c.rounds.length ids none = 11 := by rw [hI.2, zeb, if_neg (by rw [H.1]; omega), if_neg (by rw [H.2, e9]; decide), if_pos (by rw [e13]; simp only [zmb]; exact decide_eq_true e11)]
    rw [hid, if_pos (by decide)]; rfl
   ·rename_i e9 e10 e11
    obtain ⟨e12, e13⟩ := zkn (t := ids) (k := j) (by omega) (by omega)
    exact DS.back (hB (j + 1) _ _ (by omega) (⟨by omega, by rw [hI.2, dr3, zeb, if_neg (by rw [H.1]; omega), if_neg (by rw [H.2, e9]; decide), if_neg (by rw [e13]; simp only [zmb]; simpa using e11), ziu (by omega)]⟩) yS yS (fun b o e => by first | exact e | (simp only [zae]; split <;> simp_all)))
   ·rename_i e9 e10
    have e13 : zmb (zoo ids j) ids[j] = false := by
     have : j = 0 := by omega
     subst this; rfl
    exact DS.back (hB (j + 1) _ _ (by omega) (⟨by omega, by rw [hI.2, dr3, zeb, if_neg (by rw [H.1]; omega), if_neg (by rw [H.2, e9]; decide), if_neg (by rw [e13]; decide), ziu (by omega)]⟩) yS yS (fun b o e => by first | exact e | (simp only [zae]; split <;> simp_all)))
  all_goals (rename_i e3 e4; have hid : zeb c c.rounds.length ids none = 0 := by rw [hI.2, List.drop_eq_nil_of_le (by omega)]; rfl)
  ·rw [hid, if_neg (by decide), if_pos (by omega)]; rfl
  rw [hid, if_neg (by decide), if_neg (by omega)]
  have hmem := zsi hid
  have hasc : AscI ids := ⟨(znj hid).1, fun a ha => by
   obtain ⟨i, hi, _, e6, _⟩ := zqr (hmem a ha)
   rw [← e6]; exact hm _ (List.getElem_mem hi), by omega⟩
  obtain ⟨z, hz⟩ : ∃ z : Nat, c.size = z := ⟨c.size.toNat, by omega⟩
  refine zek inferInstance (ztd c hs hc [ids] (-1) (by simp)) yR yG (fun u S' hu => ?_)
  obtain ⟨bx, bp, bm, rfl, s0⟩ := hu
  rw [hz] at s0
  repeat' (first | (with_reducible first | refine zad yU yU yE ?_ | refine zab ?_ | refine DS.seq ?_ | refine zaa ?_) | fail)
  have hgo := yel (size := z) (by omega) (rs := [ids]) (by simp) (by simp) (fun x hx => by rw [List.mem_singleton] at hx; subst hx; exact hasc) (zlh [ids]) s0 rfl (zrz hs hc0) (by simp [zlh]; omega) (by simp [mzS, zlh]; omega) (fun i h => by simp [zlh]; omega)
  refine zek inferInstance hgo yR (by simp (disch := omega) only [go_sem, dopV, Option.map_some, Option.map_none, Option.bind_some, Option.bind_none, ↓reduceIte, Nat.reduceEqDiff, Nat.reduceLT, Nat.reduceLeDiff, Nat.reduceAdd, Nat.reduceMul, Nat.reduceSub, Nat.zero_add, Nat.add_zero, Nat.zero_le, Nat.zero_mul, Nat.mul_one, Nat.one_mul, Int.natCast_zero, Int.toNat_zero, Int.reduceToNat, Int.reduceLT, Int.reduceLE, Int.reduceEq, decide_true, decide_false, true_and, and_true, Bool.and_self, Bool.and_true, Bool.true_and, Bool.not_true, Bool.not_false, IntWalk.toNatUp, IntWalk.iteOmega, IntWalk.i64_in, Option.isSome_some, not_true_eq_false, not_false_eq_true, Option.getD_some, Option.getD_none, Int.toNat_natCast, List.length_map, List.getElem?_map, List.getElem?_eq_getElem, V.flat, V.one, List.all_cons, List.all_nil]) (fun u S1 hu => ?_)
  obtain ⟨rfl, w1, ps1, s1, hp1, -, hp2⟩ := hu
  have hrun : srch z (-1) [ids] (zlh [ids]) (met0 c) 0 [ids][0] 0 = runS c [ids] (-1) := by
   rw [runS, hz]; rfl
  rw [hrun] at s1 hp2 ⊢
  have hlt : ∀ q ∈ (runS c [ids] (-1)).2.2, q.1 < 1 := ztx (rounds := [ids]) (zlh [ids]) (met0 c) 0 _ 0 (by simp)
  clear hrun hgo
  repeat' (first | (with_reducible first | refine zad yU yU yE ?_ | refine zab ?_ | refine DS.seq ?_ | refine zaa ?_ | (refine zbe yE ?_; refine zgu (fun _ => ?_) (fun _ => ?_)) | refine DS.skip ?_) | fail)
  ·rename_i e5
   rw [if_pos e5]
   refine zat [] yG trivial rfl
  ·rename_i e5
   rw [if_neg (by omega)]
   have hps : 0 < ps1.length := by rw [hp1]; simp
   have hrows := hp2 e5 0 (by simp) hps
   have hfil : (runS c [ids] (-1)).2.2.filter (fun q => decide (q.1 = 0)) = (runS c [ids] (-1)).2.2 := List.filter_eq_self.2 fun q hq => by have := hlt q hq; exact decide_eq_true (by omega)
   rw [hfil] at hrows
   simp only [List.length_cons, List.length_nil, List.replicate, List.getElem_cons_zero, List.nil_append] at hrows
   rw [← hrows]
   have hpl1 : ps1.length = 1 := by simpa using hp1
   obtain ⟨p, rfl⟩ := List.length_eq_one_iff.1 hpl1
   have hx := s1.obj
   have hpl := s1.pln
   have hr := s1.row 0 hps
   simp only [List.length_singleton, List.map_cons, List.map_nil, List.getElem_cons_zero] at hx hpl hr ⊢
   clear hp2 hp1 hrows hfil hlt s1 hpl1 s0
   obtain ⟨T, blk⟩ := p
   cases blk with
   | none =>
    simp only [PRow.Ok] at hr
    subst hr
    simp only [PRow.cell] at hpl
    repeat' (first | (with_reducible first | refine zad yU yU yX7 ?_ | refine zab ?_) | fail)
    refine zat [] yG trivial rfl
   | some z =>
    obtain ⟨b, cap, jk⟩ := z
    simp only [PRow.Ok] at hr
    obtain ⟨r1, r2, r3, r4⟩ := hr
    simp only [PRow.cell] at hpl
    repeat' (first | (with_reducible first | refine zad yU yU yX7 ?_ | refine zab ?_) | fail)
    refine zim (t := 4) (sz := 1) yR r1 (by simp) ⟨by omega, r3⟩ ?_
    refine zat [] yG trivial ?_
    rw [zll]
    rfl
 ·rw [if_pos hc0]
  refine DC.of_run Try.func14 rfl Try.ntmps14 Try.results14 (by simp) (fun _ => ?_); simp only [zaf, zai, go_sem, Nat.zero_add, Nat.reduceAdd]
  repeat' (first | (with_reducible first | refine zad yU yU yE ?_ | refine zab ?_ | refine DS.seq ?_ | refine zaa ?_ | (refine zbe yE ?_; refine zcy ?_)) | refine zav inferInstance (zdr c hs) yR yT ?_ | (refine zci (t := 2) yU yE yU ?_; simp only [zbh, zcg, zbf, zbv, zbc, zau, zbq, zay, zcd, zcf, zbr, zce, zbu, zbt]) | refine zat [] yE trivial ?_ | fail)
  rfl
end Go.XL
namespace Go.XL
open Go.Proofs
set_option maxRecDepth 100000
set_option maxHeartbeats 8000000
theorem zxg : zoq shownC [1, 2, 3, 4, 5, 6, 7, 8, 9] = ([[1, 4, 7], [2, 5, 8], [3, 6, 9]], 0) := by decide +kernel
theorem zyq : metX shownC 1 2 = 1 := by decide +kernel
theorem zrr : zgr [120, 120, 60] [30, 0, -30] 100 true = [35, 35, -70] := by decide +kernel
theorem zcv : shownC.Small := by
 refine ⟨by decide, by decide, by decide, fun s hs => ?_⟩
 obtain rfl := List.mem_singleton.1 hs
 exact ⟨by decide, by decide, by decide, by decide, by decide, by intro x hx; cases hx⟩
theorem zeh : ztg shownC := by
 intro s hs t ht x hx
 obtain rfl := List.mem_singleton.1 hs
 have h : ∀ t ∈ [[1, 2, 3], [4, 5, 6], [7, 8, 9]], ∀ x ∈ t, (1 : Int) ≤ x ∧ x ≤ 9 := by decide
 have := h t ht x hx
 unfold In64; omega
theorem zfu : ∀ m ∈ shownC.members, In64 m.id := by
 intro m hm
 have h : ∀ m ∈ shownC.members, (1 : Int) ≤ m.id ∧ m.id ≤ 9 := by decide
 have := h m hm
 unfold In64; omega
theorem yX23 {p : Prop} (h : p := by (simp (disch := omega) only [go_sem, dopV, Option.map_some, Option.map_none, Option.bind_some, Option.bind_none, ↓reduceIte, Nat.reduceEqDiff, Nat.reduceLT, Nat.reduceLeDiff, Nat.reduceAdd, Nat.reduceMul, Nat.reduceSub, Nat.zero_add, Nat.add_zero, Nat.zero_le, Nat.zero_mul, Nat.mul_one, Nat.one_mul, Int.natCast_zero, Int.toNat_zero, Int.reduceToNat, Int.reduceLT, Int.reduceLE, Int.reduceEq, decide_true, decide_false, true_and, and_true, Bool.and_self, Bool.and_true, Bool.true_and, Bool.not_true, Bool.not_false, IntWalk.toNatUp, IntWalk.iteOmega, IntWalk.i64_in, Option.isSome_some, not_true_eq_false, not_false_eq_true, Option.getD_some, Option.getD_none, Int.toNat_natCast, List.length_map, List.getElem?_map, List.getElem?_eq_getElem, V.flat, V.one, List.all_cons, List.all_nil, *, Value.oneCell']; try exact rfl)) : p := h
theorem ydx : PC Try.prog 4 [] (Bo true) := by
 have c1 := zmj shownC zcv zeh zfu [1, 2, 3, 4, 5, 6, 7, 8, 9] (by decide)
 rw [zxg] at c1
 have c2 := zzk shownC zcv zeh 1 2 (by unfold In64; omega) (by unfold In64; omega)
 rw [zyq] at c2
 have c3 := zlb [[1, 4, 7], [2, 5, 8], [3, 6, 9]] [[1, 4, 7], [2, 5, 8], [3, 6, 9]]
 rw [decide_eq_true rfl] at c3
 have c4 := zmv [120, 120, 60] [30, 0, -30] 100 true (by decide) (by decide) (by unfold B40; decide) (by unfold B40; decide) (by unfold B40; decide)
 rw [zrr] at c4
 have c5 := zne [35, 35, -70] [35, 35, -70]
 rw [decide_eq_true rfl] at c5
 refine DC.of_run Try.func4 rfl Try.ntmps4 Try.results4 (by simp) (fun _ => ?_); simp only [zaf, zai, go_sem, Nat.zero_add, Nat.reduceAdd]
 repeat' (first | (with_reducible first | refine zad yU yU yX4 ?_ | refine zab ?_ | refine DS.seq ?_ | refine zaa ?_ | (refine zdv yU yX4 ?_; refine GG.run ?_)) | (refine zdn yU yX4 yX4 ?_; simp only [go_sem, Nat.zero_add, Nat.reduceAdd]) | refine zav inferInstance (zir) yR yX23 ?_ | refine zav inferInstance (yhe) yR yX23 ?_ | refine zav inferInstance (c1) yR yX23 ?_ | refine zav inferInstance (c2) yR yX23 ?_ | refine zav inferInstance (c3) yR yX23 ?_ | refine zav inferInstance (c4) yR yX23 ?_ | refine zav inferInstance (c5) yR yX23 ?_ | refine zat [] yX4 trivial ?_ | fail)
 all_goals rfl
end Go.XL
namespace Go.XL
def idsP (c : Club) (n : Nat) : List (List Int) := (List.range n).map fun i : Nat => zdy c ((c.rounds.length + i : Nat) : Int)
def zfj (c : Club) : List (List Int) → Int
 | [] => 0
 | l :: r => if l.length = 0 then 3 else if 0 < (l.length : Int).tmod c.size then 3 else if 16 < l.length then 8 else zfj c r
def zfn (n : Nat) (l : List (Nat × List Int)) : List (List (List Int)) := (List.range n).map fun i => (l.filter fun q => decide (q.1 = i)).map Prod.snd
def zqe (c : Club) (n budget : Int) : List (List (List Int)) × Int × Int × Int :=
 if zcm c ≠ 0 then ([], 0, 0, zcm c) else if ¬ (1 ≤ n ∧ n ≤ 5) then ([], 0, 0, 2) else if ¬ (0 ≤ budget ∧ budget ≤ 20000) then ([], 0, 0, 2) else
 if 20 < (c.rounds.length : Int) + n then ([], 0, 0, 8) else if zfj c (idsP c n.toNat) ≠ 0 then ([], 0, 0, zfj c (idsP c n.toNat)) else
 (if (runS c (idsP c n.toNat) budget).1 = 1 then zfn n.toNat (runS c (idsP c n.toNat) budget).2.2 else [], (runS c (idsP c n.toNat) budget).1, (runS c (idsP c n.toNat) budget).2.1, 0)
theorem zjc (c : Club) (n : Nat) : (idsP c n).length = n := by simp [idsP]
theorem zzz (c : Club) (n : Nat) : idsP c (n + 1) = idsP c n ++ [zdy c ((c.rounds.length : Int) + n)] := by
 simp [idsP, List.range_succ]
theorem yaa (c : Club) {n j : Nat} (h : j < n) : (idsP c n).drop j = zdy c ((c.rounds.length : Int) + j) :: (idsP c n).drop (j + 1) := by
 rw [List.drop_eq_getElem_cons (by rw [zjc]; exact h)]
 simp [idsP]
theorem zsj {c : Club} : ∀ {l : List (List Int)}, zfj c l = 0 → ∀ x ∈ l, 0 < x.length ∧ x.length ≤ 16
 | [], _, x, h => by cases h
 | a :: r, h, x, hx => by
  rw [zfj] at h
  split at h
  ·cases h
  split at h
  ·cases h
  split at h
  ·cases h
  rcases List.mem_cons.1 hx with rfl | hx
  ·omega
  ·exact zsj h x hx
theorem zvi : ∀ (l : List (List Int)), (∀ x ∈ l, x.length ≤ 16) → (l.map List.length).sum ≤ 16 * l.length
 | [], _ => Nat.le_refl _
 | a :: r, h => by
  have h1 := zvi r fun x hx => h x (List.mem_cons_of_mem _ hx)
  have h2 := h a (List.mem_cons_self ..)
  simp only [List.map_cons, List.sum_cons, List.length_cons]; omega
end Go.XL
namespace Go.XL
open Go.Proofs
set_option maxRecDepth 100000
set_option maxHeartbeats 8000000
def cP (l : List (List Int)) : List V := [rows l]
abbrev yfd (l : List (List (List Int))) : V := .lst (l.map cP)
@[go_sem] theorem cP_eq (n : List (List Int)) : cP n = [rows n] := rfl
def PRow.froz : PRow → V
 | ⟨_, none⟩ => .v (.slice none 0 0)
 | ⟨rs, some _⟩ => XL.rows rs
theorem PRow.froz_peek {S : Sto} {p : PRow} (h : p.Ok S) : p.froz.peek = XL.rows p.rows := by
 obtain ⟨rs, blk⟩ := p
 cases blk with
 | none => simp only [PRow.Ok] at h; subst h; rfl
 | some z => rfl
theorem zhq {P : Program} {n : Nat} {r : Rr} {Q : VEnv → Sto → Prop} {k : List Fr} {E : VEnv} {bp : Nat} {T : TypeId} {ps : List PRow}
  (rx : ∀ (i : Nat) (h : i < ps.length) (b cap : Nat) (j : List V), ps[i].blk = some (b, cap, j) → b ≠ bp)
  (rr : ∀ (i k : Nat) (hi : i < ps.length) (hk : k < ps.length) (b cap cap' : Nat) (j j' : List V), ps[i].blk = some (b, cap, j) → ps[k].blk = some (b, cap', j') → i = k) :
  ∀ (m i : Nat) (S : Sto), i + m = ps.length → zac S bp = some (.cells ((ps.take i).map PRow.froz ++ (ps.drop i).map PRow.cell) T) → (∀ (j : Nat) (h : j < ps.length), i ≤ j → ps[j].Ok S) →
   (∀ S', zac S' bp = some (.cells (ps.map PRow.froz) T) → (∀ b, b ≠ bp → (∀ (j : Nat) (h : j < ps.length) (cap : Nat) (jk : List V), ps[j].blk ≠ some (b, cap, jk)) → zac S' b = zac S b) → DS P n r Q k E S') → DS P n r Q k E S
 | 0, i, S, hi, hS, _, q => by
  have e : ps.take i = ps := List.take_of_length_le (by omega)
  rw [e, List.drop_eq_nil_of_le (by omega), List.map_nil, List.append_nil] at hS
  exact q S hS fun _ _ _ => rfl
 | m + 1, i, S, hi, hS, hok, q => by
  have hlt : i < ps.length := by omega
  have hd : ps.drop i = ps[i] :: ps.drop (i + 1) := List.drop_eq_getElem_cons hlt
  have ht : ps.take (i + 1) = ps.take i ++ [ps[i]] := List.take_succ_eq_append_getElem hlt
  have hO := hok i hlt (Nat.le_refl _)
  cases hb : ps[i].blk with
  | none =>
   refine zhq rx rr m (i + 1) S (by omega) ?_ (fun j h hj => hok j h (by omega)) q
   have e : ps[i].cell = ps[i].froz := by
    generalize ps[i] = p at hb
    obtain ⟨rs, blk⟩ := p
    subst hb
    rfl
   rw [ht, List.map_append, List.map_singleton, List.append_assoc, List.singleton_append, ← e, hS, hd, List.map_cons]
  | some z =>
   obtain ⟨b, cap, jk⟩ := z
   have hne : b ≠ bp := rx i hlt b cap jk hb
   have key : ∃ rs, ps[i] = ⟨rs, some (b, cap, jk)⟩ := ⟨ps[i].rows, by rw [← hb]⟩
   obtain ⟨rs, hp⟩ := key
   rw [hp] at hO
   simp only [PRow.Ok] at hO
   obtain ⟨r1, r2, r3, r4⟩ := hO
   have hl : (ps.take i).length = i := by rw [List.length_take]; omega
   refine zcn (b := b) (b' := bp) (i := i) (sz := 1) (len := rs.length) (cap := cap) (fun h => hne h.symm) hS ?_ r1 (by simp) ⟨by omega, r3⟩ ?_
   ·rw [List.getElem?_append_right (by rw [List.length_map]; omega), List.length_map, hl, Nat.sub_self, hd, List.map_cons, List.getElem?_cons_zero, hp]
    rfl
   ·rw [zll]
    have hset : ((ps.take i).map PRow.froz ++ (ps.drop i).map PRow.cell).set i (.lst (rs.map cR)) = (ps.take (i + 1)).map PRow.froz ++ (ps.drop (i + 1)).map PRow.cell := by
     rw [List.set_append_right _ _ (by rw [List.length_map]; omega), List.length_map, hl, Nat.sub_self, hd, List.map_cons, List.set_cons_zero, ht, List.map_append, List.map_singleton, List.append_assoc, List.singleton_append, hp]
     rfl
    rw [hset]
    have hdel : ∀ d, d ≠ b → d ≠ bp → zac (setS bp (.cells ((ps.take (i + 1)).map PRow.froz ++ (ps.drop (i + 1)).map PRow.cell) T) (delS b S)) d = zac S d := fun d h1 h2 => by
     rw [zas (o0 := .cells ((ps.take i).map PRow.froz ++ (ps.drop i).map PRow.cell) T) (by rw [zbw, if_neg (fun h => hne h.symm)]; exact hS), if_neg h2, zbw, if_neg h1]
    refine zhq rx rr m (i + 1) _ (by omega) ?_ (fun j h hj => ?_) fun S' h1 h2 => q S' h1 fun d h3 h4 => ?_
    ·rw [zas (o0 := .cells ((ps.take i).map PRow.froz ++ (ps.drop i).map PRow.cell) T) (by rw [zbw, if_neg (fun h => hne h.symm)]; exact hS), if_pos rfl]
    ·have hj2 := hok j h (by omega)
     have hx := rx j h
     have hy := rr i j hlt h b cap
     generalize ps[j] = p at hj2 hx hy
     obtain ⟨rs', blk⟩ := p
     cases blk with
     | none => exact hj2
     | some y =>
      obtain ⟨b', cap', jk'⟩ := y
      simp only [PRow.Ok] at hj2 ⊢
      refine ⟨?_, hj2.2⟩
      rw [hdel b' (fun e => ?_) (hx _ _ _ rfl)]
      ·exact hj2.1
      ·subst e
       have := hy _ _ _ hb rfl
       omega
    ·rw [h2 d h3 h4, hdel d (fun e => ?_) h3]
     subst e
     exact h4 i hlt cap jk hb
theorem zub {c : Club} (h : zdz c.members = 0) (r : Int) : (zdy c r).Pairwise (· < ·) := by
 have h1 : zdo c.members 0 = 0 := by
  unfold zdz at h
  split at h
  ·cases h
  ·exact h
 have h2 := zhi (Int.le_refl 0) h1
 rw [zdy, List.pairwise_map]
 exact h2.filter _
theorem yce {rs : List (List Int)} (h : 0 < rs.length) : mzS rs 0 rs[0].length < zlh rs := by
 cases rs with
 | nil => cases h
 | cons a r => simp [mzS, zlh]; omega
theorem zob : ∀ (T : List (List (List Int))), chunk 1 T.length (List.map V.copy (List.map (fun t => XL.rows t) T)) = T.map cP
 | [] => rfl
 | t :: T => by
  have := zob T
  simp only [List.length_cons, chunk, List.map_cons, List.take_succ_cons, List.take_zero, List.drop_succ_cons, List.drop_zero, this]
  rfl
theorem zmi (c : Club) (hs : c.Small) (hc : ztg c) (hm : ∀ m ∈ c.members, In64 m.id) (n budget : Int) (h64 : In64 n ∧ In64 budget) :
    PC Try.prog 18 [c.val, I n, I budget] (tupV [yfd (zqe c n budget).1, I (zqe c n budget).2.1, I (zqe c n budget).2.2.1, I (zqe c n budget).2.2.2]) := by
  have q1 := hs.rounds
  have q2 := hs.members
  rw [zqe]
  by_cases hc0 : zcm c = 0
  · obtain ⟨k1, k2, k3⟩ := zep hc0
    have g := zjt k1
    rw [if_neg (by omega)]
    by_cases hn : 1 ≤ n ∧ n ≤ 5
    · rw [if_neg (by omega)]
      by_cases hb : 0 ≤ budget ∧ budget ≤ 20000
      · rw [if_neg (by omega)]
        obtain ⟨N, rfl⟩ : ∃ N : Nat, n = N := ⟨n.toNat, by omega⟩
        refine DC.of_run Try.func18 rfl Try.ntmps18 Try.results18 (by simp) (fun _ => ?_); simp only [zaf, zai, go_sem, Nat.zero_add, Nat.reduceAdd]
        generalize hR : (if 20 < (c.rounds.length : Int) + (N : Int) then ([], 0, 0, 8) else if zfj c (idsP c (N : Int).toNat) ≠ 0 then ([], 0, 0, zfj c (idsP c (N : Int).toNat)) else
          (if (runS c (idsP c (N : Int).toNat) budget).1 = 1 then zfn (N : Int).toNat (runS c (idsP c (N : Int).toNat) budget).2.2 else [], (runS c (idsP c (N : Int).toNat) budget).1, (runS c (idsP c (N : Int).toNat) budget).2.1, 0) : List (List (List Int)) × Int × Int × Int) = R
        rw [Int.toNat_natCast] at hR
        have HR := Box.mk hR
        clear hR
        repeat' (first | (with_reducible first | (refine zfl (t := 11) yU yO yE ?_) | refine zad yU yU yE ?_ | refine zab ?_ | refine DS.seq ?_ | refine zaa ?_ | (refine zbe yE ?_; first | refine zeq (fun _ => ?_) (fun _ => ?_) | refine zdd ?_) | (refine zdv yU yE ?_; refine GG.run ?_) | refine DS.block ?_ | refine DS.skip ?_) | refine zav inferInstance (zdr c hs) yR yT ?_ | refine zav inferInstance (zfd _ _ _) yR yT ?_ | (refine zci (t := 3) yU yE yU ?_; simp only [zbh, zcg, zbf, zbv, zbc, zau, zbq, zay, zcd, zcf, zbr, zce, zbu, zbt]) | fail)
        · rename_i e1
          rw [← HR.out, if_pos e1]
          refine zat [] yG trivial rfl
        rename_i e1
        refine zcp [2, 3, 34] yN (fun (j : Nat × List (List Int)) => [(6, .v (.slice none 0 0)), (11, .own false 25 1 (j.2.map cR)), (35, I j.1)]) (fun (j : Nat × List (List Int)) => j.1 ≤ N ∧ j.2 = idsP c j.1 ∧ zfj c (idsP c N) = zfj c ((idsP c N).drop j.1)) (fun (j : Nat × List (List Int)) => N - j.1) (0, []) yS ⟨Nat.zero_le _, rfl, rfl⟩ (fun j B hI hB => ?_); try dsimp only at hI hB; simp only [zaw, zbg]
        obtain ⟨j, L⟩ := j
        dsimp only at hI hB ⊢
        obtain ⟨g1, rfl, g2⟩ := hI
        have H := Box.mk g2
        have hl := zjc c j
        clear g2
        by_cases hj : j < N
        · have hd := yaa c hj
          have hpl := zxk c ((c.rounds.length : Int) + j) q2
          have hpn : (zdy c ((c.rounds.length : Int) + j)).length ≤ 1000000 := by rw [zdy, List.length_map]; exact Nat.le_trans (List.length_filter_le _ _) q2
          have hs2 := zzz c j
          generalize zdy c ((c.rounds.length : Int) + j) = ids at *
          have HD := Box.mk (And.intro hd hs2)
          clear hd hs2
          repeat' (first | (with_reducible refine zgj (t := 11) yU yO yE ?_; simp only [zap, zag, zah, Nat.reduceEqDiff, ↓reduceIte, zal, zam, zax, zak, zaj, zaq, zan]) | (with_reducible refine zgj (t := 61) yU yO yE ?_; simp only [zap, zag, zah, Nat.reduceEqDiff, ↓reduceIte, zal, zam, zax, zak, zaj, zaq, zan]) | (with_reducible first | refine zad yU yU yE ?_ | refine zab ?_ | refine DS.seq ?_ | refine zaa ?_ | (refine zbe yE ?_; first | refine zeq (fun _ => ?_) (fun _ => ?_) | refine zcy ?_) | (refine zdv yU yE ?_; first | refine yhh (fun _ => ?_) (fun _ => ?_) | refine GG.run ?_ | refine zuv ?_) | refine DS.blk ?_ | refine DS.block ?_ | refine DS.exit yU ?_ | refine DS.skip ?_) | (refine zdn yU yE yE ?_; simp only [go_sem, Nat.zero_add, Nat.reduceAdd]) | (refine DS.append (mm := false) yU yE yE yU (by decide) yE (by first | exact .inl rfl | exact .inr ⟨rfl, rfl⟩) yE yX1 (by first | exact zcs zgo _ | exact zcs zoe _ | exact zcs Member.len _ | exact zcs Sitting.len _ | exact zcs Ruling.len _ | (simp only [List.mem_cons, List.not_mem_nil, or_false, forall_eq]; rfl) | simp) ⟨by (try simp only [List.length_map, List.length_cons, List.length_nil, List.length_append, List.length_take, List.length_drop]); omega, by decide⟩ ?_; simp only [zap, zag, zah, Nat.reduceEqDiff, ↓reduceIte, zal, zam, zax, zak, zaj, zaq, zan]) | refine zav inferInstance (hpl) yR yT ?_ | fail)
          all_goals first
            | (exfalso; omega)
            | (have hid : zfj c (idsP c N) = 3 := by rw [H.out, HD.out.1, zfj, if_pos (by omega)]
               rw [← HR.out, if_neg e1, if_pos (by rw [hid]; decide), hid]
               exact zat [] yG trivial rfl)
            | (have hid : zfj c (idsP c N) = 3 := by rw [H.out, HD.out.1, zfj, if_neg (by omega), if_pos (by assumption)]
               rw [← HR.out, if_neg e1, if_pos (by rw [hid]; decide), hid]
               exact zat [] yG trivial rfl)
            | (have hid : zfj c (idsP c N) = 8 := by rw [H.out, HD.out.1, zfj, if_neg (by omega), if_neg (by assumption), if_pos (by omega)]
               rw [← HR.out, if_neg e1, if_pos (by rw [hid]; decide), hid]
               exact zat [] yG trivial rfl)
            | exact DS.back (hB (j + 1, idsP c (j + 1)) _ _ (by dsimp only; omega) ⟨by dsimp only; omega, rfl, by rw [H.out, HD.out.1, zfj, if_neg (by omega), if_neg (by assumption), if_neg (by omega)]⟩ (by dsimp only; rw [HD.out.2]; exact yS) yS (fun d o e => by exact e))
        · obtain rfl : j = N := by omega
          have hie : zfj c (idsP c j) = 0 := by rw [H.out, List.drop_eq_nil_of_le (by omega)]; rfl
          have hok := zsj hie
          rw [if_neg e1, if_neg (by omega)] at HR
          repeat' (first | (with_reducible first | refine zad yU yU yE ?_ | refine zab ?_ | refine DS.seq ?_ | refine zaa ?_ | (refine zbe yE ?_; refine zeq (fun _ => ?_) (fun _ => ?_)) | refine DS.block ?_ | refine DS.exit yU ?_ | refine DS.skip ?_) | fail)
          · exfalso; omega
          obtain ⟨z, hz⟩ : ∃ z : Nat, c.size = z := ⟨c.size.toNat, by omega⟩
          refine zek inferInstance (ztd c hs hc (idsP c j) budget (by omega)) yR yH (fun u S' hu => ?_)
          obtain ⟨bx, bp, bm, rfl, s0⟩ := hu
          rw [hz] at s0
          repeat' (first | (with_reducible first | refine zad yU yU yE ?_ | refine zab ?_ | refine DS.seq ?_ | refine zaa ?_) | fail)
          have hsum := zvi (idsP c j) fun x hx => (hok x hx).2
          have hrs : ∀ ids ∈ idsP c j, AscI ids := fun ids hx => by
            refine ⟨?_, fun a ha => ?_, by have := (hok ids hx).2; omega⟩
            · obtain ⟨i, -, rfl⟩ := List.mem_map.1 hx
              exact zub k2 _
            · obtain ⟨i, -, rfl⟩ := List.mem_map.1 hx
              obtain ⟨m, hm1, rfl⟩ := List.mem_map.1 ha
              exact hm m (List.mem_filter.1 hm1).1
          have hgo := yel (size := z) (by omega) (rs := idsP c j) (by omega) (by omega) hrs (zlh (idsP c j)) s0 (by simp) (zrz hs hc0) (by simp only [zlh]; omega) (yce (by omega)) (fun i h => by simp only [List.getElem_replicate, List.length_nil, zlh]; omega)
          have hrun : srch z budget (idsP c j) (zlh (idsP c j)) (met0 c) 0 ((idsP c j)[0]'(by omega)) 0 = runS c (idsP c j) budget := by
            rw [runS, hz, Int.toNat_natCast, List.headD_eq_head?_getD, List.head?_eq_getElem?, List.getElem?_eq_getElem (by omega)]; rfl
          rw [hrun] at hgo
          clear hrun
          generalize runS c (idsP c j) budget = X at *
          refine zek inferInstance hgo yR (by simp (disch := omega) only [go_sem, dopV, Option.map_some, Option.map_none, Option.bind_some, Option.bind_none, ↓reduceIte, Nat.reduceEqDiff, Nat.reduceLT, Nat.reduceLeDiff, Nat.reduceAdd, Nat.reduceMul, Nat.reduceSub, Nat.zero_add, Nat.add_zero, Nat.zero_le, Nat.zero_mul, Nat.mul_one, Nat.one_mul, Int.natCast_zero, Int.toNat_zero, Int.reduceToNat, Int.reduceLT, Int.reduceLE, Int.reduceEq, decide_true, decide_false, true_and, and_true, Bool.and_self, Bool.and_true, Bool.true_and, Bool.not_true, Bool.not_false, IntWalk.toNatUp, IntWalk.iteOmega, IntWalk.i64_in, Option.isSome_some, not_true_eq_false, not_false_eq_true, Option.getD_some, Option.getD_none, Int.toNat_natCast, List.length_map, List.getElem?_map, List.getElem?_eq_getElem, V.flat, V.one, List.all_cons, List.all_nil]) (fun u S1 hu => ?_)
          obtain ⟨rfl, w1, ps1, s1, hp1, -, hp2⟩ := hu
          rw [← HR.out]
          clear hgo hB
          have hx := s1.obj
          repeat' (first | (with_reducible first | refine zad yU yU yX7 ?_ | refine zab ?_ | refine DS.seq ?_ | refine zaa ?_ | (refine zbe yX7 ?_; refine zeq (fun _ => ?_) (fun _ => ?_)) | refine DS.skip ?_) | refine zcr (id := 23) [0, 1, 2, 3, 4, 5, 6, 7] 8 (by kernel_rfl) zei (by simp only [zbp, zbx, zby, zbz, zbo]; exact rfl) (by simp only [zbk, zbl, List.drop_nil]; exact rfl) ?_ | (with_reducible first | refine zcj yU yU yU yX7 ?_ | refine zdm ?_) | fail)
          · rename_i e5
            have hrow : ps1.map PRow.rows = zfn j X.2.2 := by
              have hl1 : ps1.length = j := by simpa [zjc] using hp1
              apply List.ext_getElem
              · simp [zfn, hl1]
              · intro i h1 h2
                rw [List.length_map] at h1
                have h3 := hp2 e5 i (by simp [zjc]; omega) h1
                simp only [List.getElem_map, zfn, List.getElem_range, h3, List.getElem_replicate, List.nil_append]
            refine zhq (fun i h b cap jk e => (s1.rx i h b cap jk e).2) s1.rr ps1.length 0 S1 (by omega) (by simpa using s1.pln) (fun j h _ => s1.row j h) (fun S' h1 h2 => ?_)
            refine zeg V.peek (fun _ _ _ h => V.peek_Rl h) (fun v => zcx v) h1 ?_
            have hm1 : (ps1.map PRow.froz).map V.peek = (zfn j X.2.2).map fun t => XL.rows t := by
              rw [← hrow, List.map_map, List.map_map]
              apply List.map_congr_left
              intro p hp
              obtain ⟨i, hi, rfl⟩ := List.mem_iff_getElem.1 hp
              exact PRow.froz_peek (s1.row i hi)
            rw [hm1]
            have hlen : ps1.length = (zfn j X.2.2).length := by rw [← hrow, List.length_map]
            have hlen2 : (List.replicate j (⟨[], none⟩ : PRow)).length = (zfn j X.2.2).length := by rw [← hlen, hp1, zjc]
            rw [hlen2]
            generalize zfn j X.2.2 = PL at *
            rw [if_pos e5]
            refine zim (b := bp) (t := 6) (sz := 1) yR (by rw [zas h1, if_pos rfl]) (by simp) ⟨Nat.le_refl _, by rw [← hlen, hp1, List.length_replicate, zjc]; unfold maxLen; omega⟩ ?_
            rw [zob]
            refine zat [] yG trivial (by rw [e5]; rfl)
          · rename_i e5
            rw [if_neg e5]
            refine zat [] yG trivial rfl
      · rw [if_pos (by omega)]
        refine DC.of_run Try.func18 rfl Try.ntmps18 Try.results18 (by simp) (fun _ => ?_); simp only [zaf, zai, go_sem, Nat.zero_add, Nat.reduceAdd]
        repeat' (first | (with_reducible first | refine zad yU yU yE ?_ | refine zab ?_ | refine DS.seq ?_ | refine zaa ?_ | (refine zbe yE ?_; first | refine zcy ?_ | refine zdd ?_) | (refine zdv yU yE ?_; refine GG.run ?_) | refine DS.skip ?_) | refine zav inferInstance (zdr c hs) yR yT ?_ | refine zav inferInstance (zfd _ _ _) yR yT ?_ | (refine zci (t := 3) yU yE yU ?_; simp only [zbh, zcg, zbf, zbv, zbc, zau, zbq, zay, zcd, zcf, zbr, zce, zbu, zbt]) | refine zat [] yE trivial ?_ | fail)
        rfl
    · rw [if_pos (by omega)]
      refine DC.of_run Try.func18 rfl Try.ntmps18 Try.results18 (by simp) (fun _ => ?_); simp only [zaf, zai, go_sem, Nat.zero_add, Nat.reduceAdd]
      repeat' (first | (with_reducible first | refine zad yU yU yE ?_ | refine zab ?_ | refine DS.seq ?_ | refine zaa ?_ | (refine zbe yE ?_; first | refine zcy ?_ | refine zdd ?_) | (refine zdv yU yE ?_; refine zuv ?_) | refine DS.skip ?_) | refine zav inferInstance (zdr c hs) yR yT ?_ | refine zav inferInstance (zfd _ _ _) yR yT ?_ | (refine zci (t := 3) yU yE yU ?_; simp only [zbh, zcg, zbf, zbv, zbc, zau, zbq, zay, zcd, zcf, zbr, zce, zbu, zbt]) | refine zat [] yE trivial ?_ | fail)
      rfl
  · rw [if_pos hc0]
    refine DC.of_run Try.func18 rfl Try.ntmps18 Try.results18 (by simp) (fun _ => ?_); simp only [zaf, zai, go_sem, Nat.zero_add, Nat.reduceAdd]
    repeat' (first | (with_reducible first | refine zad yU yU yE ?_ | refine zab ?_ | refine DS.seq ?_ | refine zaa ?_ | (refine zbe yE ?_; refine zcy ?_)) | refine zav inferInstance (zdr c hs) yR yT ?_ | (refine zci (t := 3) yU yE yU ?_; simp only [zbh, zcg, zbf, zbv, zbc, zau, zbq, zay, zcd, zcf, zbr, zce, zbu, zbt]) | refine zat [] yE trivial ?_ | fail)
    rfl
end Go.XL
namespace Go.XL
structure Rank where
 id : Int
 place : Int
 total : Int
 games : Int
 places : List Int
 deriving Inhabited
def Rank.cells (m : Rank) : List V := [I m.id, I m.place, I m.total, I m.games, ints m.places]
@[go_sem] theorem Rank.cells_eq (m : Rank) : m.cells = [I m.id, I m.place, I m.total, I m.games, ints m.places] := rfl
theorem Rank.len (m : Rank) : m.cells.length = 5 := rfl
abbrev Rank.val (m : Rank) : V := .agg m.cells
def cmpI (a b : Int) : Int := if a < b then -1 else if b < a then 1 else 0
def cmpL : List Int → List Int → Int
 | [], [] => 0
 | [], _ :: _ => -1
 | _ :: _, [] => 1
 | a :: r, b :: s => if cmpI a b ≠ 0 then cmpI a b else cmpL r s
def cmpK (a b : Rank) : Int := if a.total ≠ b.total then (if b.total < a.total then 1 else -1) else cmpL a.places b.places
def zdp (a b : Rank) : Bool := decide (0 < cmpK a b) || (decide (cmpK a b = 0) && decide (a.id < b.id))
theorem yai : ∀ a b : List Int, -1 ≤ cmpL a b ∧ cmpL a b ≤ 1
 | [], [] => by simp [cmpL]
 | [], _ :: _ => by simp [cmpL]
 | _ :: _, [] => by simp [cmpL]
 | a :: r, b :: s => by
  rw [cmpL]
  split
  ·unfold cmpI; split <;> (try split) <;> omega
  ·exact yai r s
theorem yaj {a b : List Int} {i : Nat} (h : i < a.length) (h2 : i < b.length) : cmpL (a.drop i) (b.drop i) = if cmpI a[i] b[i] ≠ 0 then cmpI a[i] b[i] else cmpL (a.drop (i + 1)) (b.drop (i + 1)) := by
 rw [List.drop_eq_getElem_cons h, List.drop_eq_getElem_cons h2, cmpL]
theorem ydt {a b : List Int} {i : Nat} (h : i < a.length) (h2 : b.length ≤ i) : cmpL (a.drop i) (b.drop i) = 1 := by
 rw [List.drop_eq_getElem_cons h, List.drop_eq_nil_of_le h2, cmpL]
theorem ydu {a b : List Int} {i : Nat} (h : a.length ≤ i) : cmpL (a.drop i) (b.drop i) = if i < b.length then -1 else 0 := by
 rw [List.drop_eq_nil_of_le h]
 split
 ·rename_i h2
  rw [List.drop_eq_getElem_cons h2, cmpL]
 ·rw [List.drop_eq_nil_of_le (by omega), cmpL]
end Go.XL
namespace Go.XL
def zhu (round table : Int) : List Ruling → List Int → List Int
 | [], out => out
 | x :: r, out => zhu round table r (if x.round = round ∧ x.table = table then x.points else out)
def zkx (round table : Int) : List Sitting → List Int → List Int
 | [], out => out
 | s :: r, out => zkx round table r (zhu round table s.rulings out)
def zcz (c : Club) (round table : Int) : List Int := zkx round table c.rounds ((c.round round).points.getD table.toNat [])
def zje (c : Club) (round table : Int) : List Int × Int :=
 if zcm c ≠ 0 then ([], zcm c) else if ¬ (0 ≤ round ∧ round ≤ (c.rounds.length : Int) - 1) then ([], 7) else if ¬ (0 ≤ table ∧ table ≤ ((c.round round).tables.length : Int) - 1) then ([], 7) else
 if zfx c round table = false then ([], 10) else (zcz c round table, 0)
theorem znt {round table : Int} {l : List Ruling} {i : Nat} (h : i < l.length) (out : List Int) : zhu round table (l.drop i) out = zhu round table (l.drop (i + 1)) (if l[i].round = round ∧ l[i].table = table then l[i].points else out) := by
 rw [List.drop_eq_getElem_cons h, zhu]
theorem yah {round table : Int} {l : List Sitting} {i : Nat} (h : i < l.length) (out : List Int) : zkx round table (l.drop i) out = zkx round table (l.drop (i + 1)) (zhu round table l[i].rulings out) := by
 rw [List.drop_eq_getElem_cons h, zkx]
theorem zpn {round table : Int} {n : Nat} : ∀ {l : List Ruling} {out : List Int}, (∀ x ∈ l, x.points.length ≤ n) → out.length ≤ n → (zhu round table l out).length ≤ n
 | [], _, _, h => h
 | x :: r, out, h1, h2 => by
  rw [zhu]
  refine zpn (fun y hy => h1 y (List.mem_cons_of_mem _ hy)) ?_
  split
  ·exact h1 x (List.mem_cons_self ..)
  ·exact h2
theorem zpl {round table : Int} {n : Nat} : ∀ {l : List Sitting} {out : List Int}, (∀ s ∈ l, ∀ x ∈ s.rulings, x.points.length ≤ n) → out.length ≤ n → (zkx round table l out).length ≤ n
 | [], _, _, h => h
 | s :: r, out, h1, h2 => zpl (l := r) (fun y hy => h1 y (List.mem_cons_of_mem _ hy)) (zpn (h1 s (List.mem_cons_self ..)) h2)
end Go.XL
namespace Go.XL
def zlt (points : List Int) (at_ : Nat) (share : Bool) : Nat := if share then zfo points (points.getD at_ 0) else zfo points (points.getD at_ 0) + zco (points.take at_) (points.getD at_ 0)
def idxI (t : List Int) (id : Int) : Int := idxF (fun x => decide (x = id)) t 0
def zjw (c : Club) (m : Member) (i : Nat) : List (List Int) → Nat → Rank → Rank
  | [], _, r => { r with total := w64 (r.total + if m.plays i = true then c.absent else 0) }
  | t :: T, k, r => if idxI t m.id < 0 then zjw c m i T (k + 1) r else if zfx c i k = false then r else
      { r with games := w64 (r.games + 1), total := w64 (r.total + w64 ((zgr (zcz c i k) c.places c.start c.share).getD (idxI t m.id).toNat 0 + m.hand)),
               places := r.places.set (zlt (zcz c i k) (idxI t m.id).toNat c.share) (w64 (r.places.getD (zlt (zcz c i k) (idxI t m.id).toNat c.share) 0 + 1)) }
def zon (c : Club) (m : Member) : List Sitting → Nat → Rank → Rank
 | [], _, r => r
 | s :: R, i, r => zon c m R (i + 1) (zjw c m i s.tables 0 r)
def ygq (c : Club) (m : Member) : Rank := ⟨m.id, 0, 0, 0, List.replicate c.size.toNat 0⟩
def zjk (c : Club) (m : Member) : Rank := zon c m c.rounds 0 (ygq c m)
theorem zrv (c : Club) (m : Member) (i : Nat) : ∀ (T : List (List Int)) (k : Nat) (r : Rank), (zjw c m i T k r).places.length = r.places.length
 | [], _, _ => rfl
 | t :: T, k, r => by
  rw [zjw]
  split
  ·exact zrv c m i T (k + 1) r
  split
  ·rfl
  ·simp
theorem zvr (c : Club) (m : Member) (i : Nat) : ∀ (T : List (List Int)) (k : Nat) (r : Rank), (zjw c m i T k r).id = r.id ∧ (zjw c m i T k r).place = r.place
 | [], _, _ => ⟨rfl, rfl⟩
 | t :: T, k, r => by
  rw [zjw]
  split
  ·exact zvr c m i T (k + 1) r
  split
  ·exact ⟨rfl, rfl⟩
  ·exact ⟨rfl, rfl⟩
theorem zze {points : List Int} {i : Nat} (h : i < points.length) (share : Bool) : zlt points i share < points.length := by
 have h1 := ycg points points[i]
 have h2 := zpi h
 have e : points.getD i 0 = points[i] := by rw [List.getD_eq_getElem?_getD, List.getElem?_eq_getElem h]; rfl
 rw [zlt, e]
 split <;> omega
theorem zyz {c : Club} {l : List Int} (h : zht c l = 0) : (l.length : Int) = c.size ∧ ∀ x ∈ l, -1099511627776 ≤ x ∧ x ≤ 1099511627776 := by
 rw [zht, zhy] at h
 split at h
 ·rename_i h1
  refine ⟨h1, ?_⟩
  have key : ∀ (l : List Int) (w : Int), zel 1099511627776 l w = 0 → ∀ x ∈ l, -1099511627776 ≤ x ∧ x ≤ 1099511627776 := by
   intro l
   induction l with
   | nil => intro w _ x hx; cases hx
   | cons a r ih =>
    intro w hw x hx
    rw [zel] at hw
    split at hw
    ·rename_i h2
     rcases List.mem_cons.1 hx with rfl | hx
     ·exact h2
     ·exact ih _ hw x hx
    ·cases hw
  exact key _ _ h
 ·cases h
theorem zig {c : Club} : ∀ {l : List (List Int)}, zdx c l = 0 → ∀ p ∈ l, p.length ≠ 0 → zht c p = 0
 | [], _, p, hp, _ => by cases hp
 | a :: r, h, p, hp, h0 => by
  rw [zdx] at h
  split at h
  ·rename_i h1
   rcases List.mem_cons.1 hp with rfl | hp
   ·exact absurd h1 h0
   ·exact zig h p hp h0
  split at h
  ·contradiction
  ·rename_i h2
   rcases List.mem_cons.1 hp with rfl | hp
   ·exact Decidable.not_not.1 h2
   ·exact zig h p hp h0
theorem zkl {c : Club} {round : Int} : ∀ {l : List Ruling}, zdt c round l = 0 → ∀ x ∈ l, zht c x.points = 0
 | [], _, x, hx => by cases hx
 | a :: r, h, x, hx => by
  rw [zdt] at h
  split at h
  ·cases h
  split at h
  ·cases h
  split at h
  ·contradiction
  ·rename_i h2
   rcases List.mem_cons.1 hx with rfl | hx
   ·exact Decidable.not_not.1 h2
   ·exact zkl h x hx
theorem zpo {Q : List Int → Prop} {round table : Int} : ∀ {l : List Ruling} {out : List Int}, (∀ x ∈ l, Q x.points) → Q out → Q (zhu round table l out)
 | [], _, _, h => h
 | x :: r, out, h1, h2 => by
  rw [zhu]
  refine zpo (fun y hy => h1 y (List.mem_cons_of_mem _ hy)) ?_
  split
  ·exact h1 x (List.mem_cons_self ..)
  ·exact h2
theorem zpm {Q : List Int → Prop} {round table : Int} : ∀ {l : List Sitting} {out : List Int}, (∀ s ∈ l, ∀ x ∈ s.rulings, Q x.points) → Q out → Q (zkx round table l out)
 | [], _, _, h => h
 | s :: r, out, h1, h2 => zpm (l := r) (fun y hy => h1 y (List.mem_cons_of_mem _ hy)) (zpo (h1 s (List.mem_cons_self ..)) h2)
end Go.XL
namespace Go.XL
set_option maxHeartbeats 4000000
end Go.XL
namespace Go.XL
set_option maxHeartbeats 4000000
def ygz (met : Int → Int → Bool) : List Int → Bool
 | [] => true
 | a :: r => (r.all fun b => !met a b) && ygz met r
def outD (o : Option (List (List Int))) (s : Int) (b : Nat) (r : Int × Int × List (Nat × List Int)) : Prop :=
 (match o with
  | some D => r.1 = 1 ∧ r.2.2 = D.map fun t => (0, t)
  | none => r.1 = 2) ∧ s ≤ r.2.1 ∧ r.2.1 ≤ s + b
theorem outD.mono {o : Option (List (List Int))} {s : Int} {b b' : Nat} {r : Int × Int × List (Nat × List Int)} (h : outD o s b r) (hb : b ≤ b') : outD o s b' r := ⟨h.1, h.2.1, by have := h.2.2; omega⟩
end Go.XL
namespace Go.XL
structure Comers (c : Club) (ids : List Int) (most : Nat) : Prop where
 sub : ids.Sublist (yby c c.rounds.length)
 mod : (ids.length : Int) % c.size = 0
 len : ids.length ≤ most
end Go.XL
namespace Go.XL
set_option maxHeartbeats 4000000
structure RoundOk (size : Nat) (met : Int → Int → Bool) (ids : List Int) (T : List (List Int)) : Prop where
 perm : T.flatten.Perm ids
 heads : T.Pairwise fun a b => a.headD 0 < b.headD 0
 len : ∀ t ∈ T, t.length = size
 asc : ∀ t ∈ T, t.Pairwise (· < ·)
 fair : ∀ t ∈ T, ygz met t = true
inductive Fnd (size : Nat) (rounds : List (List Int)) : (Int → Int → Bool) → Nat → List Int → List (Nat × List Int) → Prop
 | done {met : Int → Int → Bool} {round : Nat} : round + 1 = rounds.length → Fnd size rounds met round [] []
 | next {met : Int → Int → Bool} {round : Nat} {Q : List (Nat × List Int)} : round + 1 ≠ rounds.length → Fnd size rounds met (round + 1) (rounds.getD (round + 1) []) Q → Fnd size rounds met round [] Q
 | table {met : Int → Int → Bool} {round : Nat} {f : Int} {fr t : List Int} {Q : List (Nat × List Int)} : t ∈ zjm (zdi met) (size - 1) [f] fr → Fnd size rounds (zkp met t) round ((f :: fr).filter fun id => !decide (id ∈ t)) Q → Fnd size rounds met round (f :: fr) ((round, t) :: Q)
theorem zib (c : Club) : ∀ (n i : Nat), zdj c i n = 0 ↔ ∀ k : Nat, i ≤ k → k < i + n → zem c k = 0 ∧ zid c k = 0
 | 0, i => ⟨fun _ k h1 h2 => by omega, fun _ => rfl⟩
 | n + 1, i => by
  rw [zdj]
  constructor
  ·intro h k h1 h2
   split at h
   ·contradiction
   split at h
   ·contradiction
   by_cases hk : k = i
   ·subst hk; exact ⟨by omega, by omega⟩
   ·exact (zib c n (i + 1)).1 h k (by omega) (by omega)
  ·intro h
   have h1 := h i (Nat.le_refl _) (by omega)
   rw [if_neg (by omega), if_neg (by omega)]
   exact (zib c n (i + 1)).2 fun k h2 h3 => h k (by omega) (by omega)
end Go.XL
namespace Go.XL
set_option maxHeartbeats 4000000
theorem zju {c : Club} (h : zcm c = 0) {i : Nat} (hi : i < c.rounds.length) : zem c i = 0 ∧ zid c i = 0 := by
 rw [zcm] at h
 split at h
 ·contradiction
 split at h
 ·contradiction
 split at h
 ·cases h
 exact (zib c c.rounds.length 0).1 h i (Nat.zero_le _) (by omega)
theorem zvp {c : Club} {i : Nat} (hi : i < c.rounds.length) (h : zid c i = 0) : zdx c c.rounds[i].points = 0 ∧ zdt c i c.rounds[i].rulings = 0 ∧ c.rounds[i].points.length = c.rounds[i].tables.length ∧ c.rounds[i].rulings.length ≤ 20 := by
 rw [zid, zif, zit, c.round_at hi] at h
 by_cases h1 : c.rounds[i].points.length = c.rounds[i].tables.length
 ·rw [if_neg (show ¬ c.rounds[i].points.length ≠ c.rounds[i].tables.length by omega)] at h
  by_cases h2 : zdx c c.rounds[i].points = 0
  ·rw [if_neg (by omega)] at h
   by_cases h3 : c.rounds[i].rulings.length > 20
   ·rw [if_pos h3] at h; cases h
   ·rw [if_neg h3] at h
    exact ⟨h2, h, h1, by omega⟩
  ·rw [if_pos h2] at h; exact absurd h h2
 ·rw [if_pos h1] at h
  rw [if_pos (by decide)] at h; cases h
theorem zqt {c : Club} (hc : zcm c = 0) {i k : Nat} (hi : i < c.rounds.length) (hp : zfx c i k = true) : zht c (zcz c i k) = 0 := by
 rw [ziv hi, decide_eq_true_eq] at hp
 have hk : k < c.rounds[i].points.length := by omega
 refine zpm (Q := fun l => zht c l = 0) (fun s hs x hx => ?_) ?_
 ·obtain ⟨j, hj, rfl⟩ := List.mem_iff_getElem.1 hs
  exact zkl (zvp hj (zju hc hj).2).2.1 x hx
 ·rw [c.round_at hi]
  have h1 := (zvp hi (zju hc hi).2).1
  have h2 : c.rounds[i].points.getD (k : Int).toNat [] = c.rounds[i].points[k] := by rw [Int.toNat_natCast, List.getD_eq_getElem?_getD, List.getElem?_eq_getElem hk]; rfl
  rw [h2] at hp ⊢
  exact zig h1 _ (List.getElem_mem hk) (by omega)
theorem zkg {c : Club} {round : Int} : ∀ {T : List (List Int)} {seated : List Int} {first : Int}, zdc c round T seated first = 0 → ∀ t ∈ T, (t.length : Int) = c.size
 | [], _, _, _, t, h => by cases h
 | a :: T, seated, first, h, t, ht => by
  rw [zdc] at h
  split at h
  ·cases h
  rename_i h1
  split at h
  ·contradiction
  split at h
  ·cases h
  split at h
  ·cases h
  rcases List.mem_cons.1 ht with rfl | ht
  ·exact Decidable.not_not.1 h1
  ·exact zkg h t ht
theorem zyj {c : Club} (hc : zcm c = 0) {i : Nat} (hi : i < c.rounds.length) : ∀ t ∈ c.rounds[i].tables, (t.length : Int) = c.size := by
 have h := (zju hc hi).1
 rw [zem, c.round_at hi] at h
 exact zkg h
theorem zms {most : Int} : ∀ (l : List Int) (w : Int), zel most l w = 0 → ∀ x ∈ l, -most ≤ x ∧ x ≤ most
 | [], _, _, x, hx => by cases hx
 | a :: r, w, hw, x, hx => by
  rw [zel] at hw
  split at hw
  ·rename_i h2
   rcases List.mem_cons.1 hx with rfl | hx
   ·exact h2
   ·exact zms r _ hw x hx
  ·cases hw
theorem zzd {c : Club} (hc : zcm c = 0) : (c.places.length : Int) = c.size ∧ (∀ x ∈ c.places, -1000000 ≤ x ∧ x ≤ 1000000) ∧ (3 ≤ c.size ∧ c.size ≤ 4) ∧ (0 ≤ c.start ∧ c.start ≤ 1000000) ∧ (-1000000 ≤ c.absent ∧ c.absent ≤ 1000000) := by
 obtain ⟨k1, -, -⟩ := zep hc
 have h := zjt k1
 obtain ⟨h1, h2, h3, h4, h5⟩ := h
 rw [zhy] at h5
 split at h5
 ·rename_i h6
  exact ⟨h6, zms _ _ h5, h1, h2, h3⟩
 ·cases h5
theorem yfl {t : List Int} {id : Int} (h : ¬ idxI t id < 0) : ∃ k : Nat, idxI t id = k ∧ k < t.length := by
 rcases zuj (fun x => decide (x = id)) t 0 with e | ⟨j, x, e1, e2, e3⟩
 ·exact absurd (show idxI t id < 0 by rw [idxI, e]; decide) h
 ·obtain ⟨hj, -⟩ := List.getElem?_eq_some_iff.1 e1
  exact ⟨j, by rw [idxI, e3]; simp, hj⟩
theorem zvt (c : Club) (m : Member) : ∀ (R : List Sitting) (i : Nat) (r : Rank), (zon c m R i r).id = r.id ∧ (zon c m R i r).place = r.place ∧ (zon c m R i r).places.length = r.places.length
 | [], _, _ => ⟨rfl, rfl, rfl⟩
 | s :: R, i, r => by
  have h1 := zvt c m R (i + 1) (zjw c m i s.tables 0 r)
  have h2 := zvr c m i s.tables 0 r
  have h3 := zrv c m i s.tables 0 r
  exact ⟨h1.1.trans h2.1, h1.2.1.trans h2.2, h1.2.2.trans h3⟩
theorem zvs (c : Club) (m : Member) : (zjk c m).id = m.id := (zvt c m _ _ _).1
theorem zoz {c : Club} (hc : zcm c = 0) : (c.members.map ((·.id) ∘ zjk c)).Nodup := by
 obtain ⟨-, k2, -⟩ := zep hc
 have h := yhd k2
 rw [List.Nodup, List.pairwise_map]
 exact List.Pairwise.imp (fun {a b} h => by show (zjk c a).id ≠ (zjk c b).id; rw [zvs, zvs]; omega) h
end Go.XL
namespace Go.XL
set_option maxHeartbeats 4000000
theorem yak (a b : Int) : cmpI b a = - cmpI a b := by unfold cmpI; split <;> split <;> omega
theorem znz {a b : Int} (h : cmpI a b = 0) : a = b := by unfold cmpI at h; split at h <;> (try split at h) <;> omega
theorem cmpI_pos {a b : Int} : 0 < cmpI a b ↔ b < a := by unfold cmpI; split <;> (try split) <;> omega
theorem zsx : ∀ a b : List Int, cmpL b a = - cmpL a b
 | [], [] => rfl
 | [], _ :: _ => rfl
 | _ :: _, [] => rfl
 | a :: r, b :: s => by
  have h := yak a b
  rw [cmpL, cmpL, zsx r s, h]
  split <;> split <;> omega
theorem zsw : ∀ {a b : List Int}, cmpL a b = 0 → a = b
 | [], [], _ => rfl
 | [], _ :: _, h => by simp [cmpL] at h
 | _ :: _, [], h => by simp [cmpL] at h
 | a :: r, b :: s, h => by
  rw [cmpL] at h
  split at h
  ·contradiction
  ·rename_i h1
   rw [znz (Decidable.not_not.1 h1), zsw h]
theorem zpp : ∀ {a b c : List Int}, 0 < cmpL a b → 0 < cmpL b c → 0 < cmpL a c
 | [], [], _, h, _ => by simp [cmpL] at h
 | [], _ :: _, _, h, _ => by simp [cmpL] at h
 | _ :: _, _ , [], _, _ => by simp [cmpL]
 | _ :: _, [], _ :: _, _, h => by simp [cmpL] at h
 | a :: r, b :: s, c :: t, h1, h2 => by
  rw [cmpL] at h1 h2 ⊢
  by_cases e1 : cmpI a b = 0
  ·obtain rfl := znz e1
   rw [if_neg (by omega)] at h1
   by_cases e2 : cmpI a c = 0
   ·rw [if_neg (by omega)] at h2 ⊢
    exact zpp h1 h2
   ·rw [if_pos e2] at h2 ⊢
    exact h2
  ·rw [if_pos e1] at h1
   by_cases e2 : cmpI b c = 0
   ·obtain rfl := znz e2
    rw [if_pos e1]; exact h1
   ·rw [if_pos e2] at h2
    have h3 : 0 < cmpI a c := cmpI_pos.2 (by have := cmpI_pos.1 h1; have := cmpI_pos.1 h2; omega)
    rw [if_pos (by omega)]; exact h3
theorem znx (a b : Rank) : cmpK b a = - cmpK a b := by
 have h := zsx a.places b.places
 unfold cmpK
 split <;> split <;> (try split) <;> (try split) <;> omega
theorem znw {a b : Rank} (h : cmpK a b = 0) : a.total = b.total ∧ a.places = b.places := by
 unfold cmpK at h
 split at h
 ·split at h <;> omega
 ·rename_i h1
  exact ⟨Decidable.not_not.1 h1, zsw h⟩
theorem zny {a b a' b' : Rank} (h1 : a.total = a'.total) (h2 : a.places = a'.places) (h3 : b.total = b'.total) (h4 : b.places = b'.places) : cmpK a b = cmpK a' b' := by
 unfold cmpK; rw [h1, h2, h3, h4]
theorem zxx {a b c : Rank} (h1 : 0 < cmpK a b) (h2 : 0 < cmpK b c) : 0 < cmpK a c := by
 unfold cmpK at h1 h2 ⊢
 by_cases e1 : a.total = b.total
 ·rw [if_neg (by omega)] at h1
  by_cases e2 : b.total = c.total
  ·rw [if_neg (by omega)] at h2
   rw [if_neg (by omega)]
   exact zpp h1 h2
  ·rw [if_pos e2] at h2
   rw [if_pos (by omega), e1]
   exact h2
 ·rw [if_pos e1] at h1
  have k1 : b.total < a.total := by split at h1 <;> omega
  by_cases e2 : b.total = c.total
  ·rw [if_pos (by omega), if_pos (by omega)]; decide
  ·rw [if_pos e2] at h2
   have k2 : c.total < b.total := by split at h2 <;> omega
   rw [if_pos (by omega), if_pos (by omega)]; decide
def Rank.same (a b : Rank) : Prop := a.total = b.total ∧ a.places = b.places ∧ a.id = b.id
theorem zgz (a b : Rank) : zdp a b = true ↔ 0 < cmpK a b ∨ cmpK a b = 0 ∧ a.id < b.id := by simp [zdp]
theorem zvw {a b a' b' : Rank} (h1 : a.same a') (h2 : b.same b') : zdp a b = zdp a' b' := by
 obtain ⟨x1, x2, x3⟩ := h1
 obtain ⟨y1, y2, y3⟩ := h2
 unfold zdp; rw [zny x1 x2 y1 y2, x3, y3]
theorem zsb (a : Rank) : zdp a a = false := by
 rw [Bool.eq_false_iff, Ne, zgz]
 have := znx a a
 omega
theorem ziy {a b : Rank} (h : zdp a b = true) : zdp b a = false := by
 rw [Bool.eq_false_iff, Ne, zgz]
 rw [zgz] at h
 have := znx a b
 omega
theorem znc (a b : Rank) : zdp a b = true ∨ zdp b a = true ∨ a.same b := by
 rw [zgz, zgz]
 have h := znx a b
 by_cases h1 : cmpK a b = 0
 ·obtain ⟨e1, e2⟩ := znw h1
  by_cases h2 : a.id = b.id
  ·exact .inr (.inr ⟨e1, e2, h2⟩)
  ·rcases Int.lt_or_gt_of_ne h2 with h3 | h3
   ·exact .inl (.inr ⟨h1, h3⟩)
   ·exact .inr (.inl (.inr ⟨by omega, h3⟩))
 ·rcases Int.lt_or_gt_of_ne h1 with h3 | h3
  ·exact .inr (.inl (.inl (by omega)))
  ·exact .inl (.inl h3)
theorem znd {a b c : Rank} (h1 : zdp a b = true) (h2 : zdp b c = true) : zdp a c = true := by
 rw [zgz] at h1 h2 ⊢
 rcases h1 with h1 | ⟨h1, k1⟩
 ·rcases h2 with h2 | ⟨h2, k2⟩
  ·exact .inl (zxx h1 h2)
  ·obtain ⟨e1, e2⟩ := znw h2
   rw [← zny (a := a) rfl rfl e1 e2]
   exact .inl h1
 ·obtain ⟨e1, e2⟩ := znw h1
  rw [zny (b := c) e1 e2 rfl rfl]
  rcases h2 with h2 | ⟨h2, k2⟩
  ·exact .inl h2
  ·exact .inr ⟨h2, by omega⟩
theorem Rank.same.symm {a b : Rank} (h : a.same b) : b.same a := ⟨h.1.symm, h.2.1.symm, h.2.2.symm⟩
theorem lessK_swo : Sort.SWO zdp where
 irrefl := zsb
 trans _ _ _ := znd
 ntrans x y z h1 h2 := by
  rcases znc x y with h | h | h
  ·rw [h] at h1; cases h1
  ·rcases znc y z with k | k | k
   ·rw [k] at h2; cases h2
   ·exact ziy (znd k h)
   ·rw [zvw (b := z) (a := x) (a' := x) ⟨rfl, rfl, rfl⟩ k.symm]
    exact ziy h
  ·rw [zvw (b := z) h ⟨rfl, rfl, rfl⟩]; exact h2
def insK (x : Rank) : List Rank → List Rank
 | [] => [x]
 | y :: r => if zdp x y = true then x :: y :: r else y :: insK x r
def zty : List Rank → List Rank
 | [] => []
 | x :: r => insK x (zty r)
theorem zng (x : Rank) : ∀ l : List Rank, (insK x l).Perm (x :: l)
 | [] => .refl _
 | y :: r => by
  rw [insK]
  split
  ·exact .refl _
  ·exact ((zng x r).cons y).trans (.swap ..)
theorem zle : ∀ l : List Rank, (zty l).Perm l
 | [] => .refl _
 | x :: r => (zng x _).trans ((zle r).cons x)
theorem zyn (l : List Rank) : (zty l).length = l.length := (zle l).length_eq
def zho (l : List Rank) : Prop := l.Pairwise fun a b => zdp b a = false
theorem znf (x : Rank) : ∀ {l : List Rank}, zho l → zho (insK x l)
 | [], _ => List.pairwise_singleton ..
 | y :: r, h => by
  rw [zho, List.pairwise_cons] at h
  rw [insK]
  split
  ·rename_i h1
   refine List.pairwise_cons.2 ⟨fun z hz => ?_, List.pairwise_cons.2 h⟩
   rcases List.mem_cons.1 hz with rfl | hz
   ·exact ziy h1
   ·exact lessK_swo.ntrans _ _ _ (h.1 z hz) (ziy h1)
  ·rename_i h1
   refine List.pairwise_cons.2 ⟨fun z hz => ?_, znf x h.2⟩
   rcases List.mem_cons.1 ((zng x r).mem_iff.1 hz) with rfl | hz
   ·exact Bool.eq_false_iff.2 h1
   ·exact h.1 z hz
theorem zlp : ∀ l : List Rank, zho (zty l)
 | [] => .nil
 | x :: r => znf x (zlp r)
theorem zox : ∀ {a b : List Rank}, zho a → zho b → a.Perm b → (a.map (·.id)).Nodup → a = b
 | [], b, _, _, hp, _ => by rw [hp.symm.eq_nil]
 | x :: r, [], _, _, hp, _ => by exact absurd hp.length_eq (by simp)
 | x :: r, y :: s, ha, hb, hp, hn => by
  rw [zho, List.pairwise_cons] at ha hb
  have hxy : x = y := by
   have h1 : x ∈ y :: s := hp.mem_iff.1 (List.mem_cons_self ..)
   have h2 : y ∈ x :: r := hp.mem_iff.2 (List.mem_cons_self ..)
   rcases List.mem_cons.1 h1 with e | h1
   ·exact e
   rcases List.mem_cons.1 h2 with e | h2
   ·exact e.symm
   rcases znc x y with e | e | e
   ·rw [hb.1 x h1] at e; cases e
   ·rw [ha.1 y h2] at e; cases e
   ·rw [List.map_cons, List.nodup_cons] at hn
    exact absurd (List.mem_map.2 ⟨y, h2, e.2.2.symm⟩) hn.1
  subst hxy
  rw [List.map_cons, List.nodup_cons] at hn
  rw [zox ha.2 hb.2 (List.Perm.cons_inv hp) hn.2]
theorem yey {l : List Rank} (hn : (l.map (·.id)).Nodup) {n : Nat} {d : Array Rank} (hl : l.length = n) (hp : Sort.PermIn 0 n l.toArray d) (hs : Sort.SortedIn zdp 0 n d) : d.toList = zty l := by
 obtain ⟨p1, -, p3⟩ := hp
 have hz : d.size = n := by rw [p1]; simpa using hl
 have e1 : d.extract 0 n = d := by rw [← hz]; exact Array.extract_size
 have e2 : l.toArray.extract 0 n = l.toArray := by have := Array.extract_size (xs := l.toArray); rwa [show l.toArray.size = n by simpa using hl] at this
 rw [e1, e2] at p3
 have hs2 : zho d.toList := by
  rw [zho, List.pairwise_iff_getElem]
  intro i j hi hj hij
  have hi' : i < d.size := by simpa using hi
  have hj' : j < d.size := by simpa using hj
  have := hs i j (Nat.zero_le _) hij (by omega)
  rwa [getElem!_pos d i hi', getElem!_pos d j hj'] at this
 refine zox hs2 (zlp l) (p3.trans (zle l).symm) ?_
 exact ((p3.map (·.id)).nodup_iff).2 hn
def zgx : Rank → Nat → List Rank → List Rank
 | _, _, [] => []
 | p, i, r :: l => { r with place := if 0 < i ∧ cmpK p r = 0 then p.place else i } :: zgx { r with place := if 0 < i ∧ cmpK p r = 0 then p.place else i } (i + 1) l
def zlo (c : Club) : List Rank := zgx default 0 (zty (c.members.map (zjk c)))
theorem zpa : ∀ (l : List Rank) (p : Rank) (i : Nat), (zgx p i l).length = l.length
 | [], _, _ => rfl
 | r :: l, p, i => by rw [zgx, List.length_cons, List.length_cons, zpa l]
theorem zmy : ∀ (l : List Rank) (p : Rank) (i k : Nat) (h : k < l.length), (zgx p i l)[k]? = some { l[k] with place := if 0 < i + k ∧ cmpK (if k = 0 then p else (zgx p i l).getD (k - 1) default) l[k] = 0 then (if k = 0 then p else (zgx p i l).getD (k - 1) default).place else ((i + k : Nat) : Int) }
 | r :: l, p, i, 0, h => by rw [zgx]; simp
 | r :: l, p, i, k + 1, h => by
  rw [zgx, List.getElem?_cons_succ, zmy l _ (i + 1) k (by simpa using h)]
  have e : i + 1 + k = i + (k + 1) := by omega
  rw [e]
  cases k with
  | zero => simp
  | succ m => simp
abbrev yit (l : List Rank) : V := .lst (l.map Rank.cells)
end Go.XL
namespace Go.XL
set_option maxHeartbeats 4000000
def zyb (P : Program) (T : TypeId) (rv : Value) (name : String) (g : FuncId) : Prop := ∀ w, (method (P.types.size + Made.depth) T rv name).run P w = .ok (g, rv) w
theorem zps {P : Program} {D : List Deferred} {n : Nat} {env : Env} {a : Act} {w : World} {dst : Option Tmp} {rx : Operand} {T : TypeId} {rv : Value} {name : String} {g : FuncId} {args : List Value} {xs : Array Operand} {ts : Array TypeId} {ty : TypeId} {pos : String} {af : Array Edge} {fn : Func} {R : Value → World → Prop}
  (ha : Agree D n env a) (hf : FnOk P g fn) (hm : zyb P T rv name g) (hr : ev env rx = some (.iface T rv)) (he : xs.toList.mapM (ev env) = some args)
  (hc : Calls P g (rv :: args).toArray w fun e w'' => ∃ v, e = .returned v ∧ R v w'') :
  Yields P ⟨dst, .call { callee := .invoke rx name, args := xs, argTypes := ts }, ty, pos, af, none⟩ a w R := by
 have e1 : xs.map a.eval = args.toArray := by
  rw [← zey ha he, ← Array.toList_map]
 have hbn : fn.body.isNone = false := by have := hf.b; cases hx : fn.body <;> simp_all
 have hcall : ∀ ws : Array Value, (callFunc g ws).run P w = .ok (.enter g ws) w := fun ws => by
  unfold callFunc
  rw [Sem.run_bind, run_program, Result.andThen_ok, hf.f]
  simp only [hf.n, hbn, Bool.false_eq_true, if_false]
  rfl
 have hrun : (execOp a.eval ⟨dst, .call { callee := .invoke rx name, args := xs, argTypes := ts }, ty, pos, af, none⟩).run P w = .ok (.enter g (rv :: args).toArray) w := by
  have hr' := ha.ev hr
  have hmw := hm w
  have e2 : #[rv] ++ args.toArray = (rv :: args).toArray := by
   apply Array.ext'; simp
  simp [execOp, resolve, hr', invoke, callMethod, run_program, hmw, hcall, e1, e2]
 unfold Yields
 rw [hrun]
 exact hc
section
variable {v0 : VH} {P : Program} {n : Nat} {r : Rr} {Q : VEnv → Sto → Prop} {k : List Fr} {E : VEnv} {S : Sto} {dst : Option Tmp} {ty : TypeId} {pos : String} {af : Array Edge} {ts : Array TypeId}
theorem OpS.invoke {rx : Operand} {T : TypeId} {rv : Value} {name : String} {g : FuncId} {args : List V} {xs : Array Operand} {fn : Func} {S1 S2 : Sto} {R : V → Sto → Prop} (hf : FnOk P g fn) (hm : zyb P T rv name g) (hr : evV E rx = some (.v (.iface T rv))) (he : evsV (evV E) xs.toList = some args)
  (hc : DCh v0 P g (.v rv :: args.map V.peek) S1 R) (h1 : ∀ b o, zac S1 b = some o → zac S b = some o) (h2 : ∀ b o, zac S2 b = some o → zac S b = some o ∧ zac S1 b = none) :
  OpS v0 P n ⟨dst, .call { callee := .invoke rx name, args := xs, argTypes := ts }, ty, pos, af, none⟩ E S (fun v E' S' => E' = E ∧ ∃ S0, S' = S0 ++ S2 ∧ R v S0 ∧ ∀ b o, zac S0 b = some o → zac S2 b = none) := by
 intro K D hv hold env a w hfl ha s
 obtain ⟨y, e1, e2⟩ := s.rl _ _ hr
 simp only [V.Rl] at e2; subst e2
 obtain ⟨ax, e5, e6⟩ := zgd s.rl he
 obtain ⟨K', hcl, s1, back⟩ := s.call h1 h2
 refine zps ha hf hm e1 e5 ?_
 have hargs : RlL hv (.v rv :: args.map V.peek) (rv :: ax) := by
  simp only [RlL]
  exact ⟨rv, ax, rfl, V.Rl_v, zgp e6⟩
 refine (hc K' hv hcl w.heap _ hfl hargs s1 w rfl).mono fun e w' ⟨v, ev, hs, u, S', hv', hold', p1, p2, p3⟩ => ?_
 obtain ⟨hold2, q1, q2⟩ := back (d := dst) p1 p2
 exact ⟨v, ev, hs, u, E, _, hv', hold2, p1, q1, rfl, S', rfl, p3, q2⟩
theorem DS.invoke {t : Nat} {rx : Operand} {T : TypeId} {rv : Value} {name : String} {g : FuncId} {args : List V} {xs : Array Operand} {fn : Func} {ops l : List Oper} {R : V → Sto → Prop} (hf : FnOk P g fn) (hm : zyb P T rv name g) (hr : evV E rx = some (.v (.iface T rv))) (hc : DC P g (.v rv :: args) S R) (hd : decide (t < n) = true)
  (he : (evsV (evV E) xs.toList).map (·.map V.peek) = some args) (q : ∀ u S', R u S' → DS P n r Q (.ops ops l :: k) ((t, u) :: E) S') :
  DS P n r Q (.ops ops (⟨some t, .call { callee := .invoke rx name, args := xs, argTypes := ts }, ty, pos, af, none⟩ :: l) :: k) E S := by
 rw [Option.map_eq_some_iff] at he
 obtain ⟨ws, e1, e2⟩ := he
 refine zcu rfl rfl hd (OpS.invoke hf hm hr e1 (S1 := S) (S2 := []) (R := R) (by simpa [e2] using hc _) (fun _ _ e => e) (fun _ _ e => by cases e)) fun v E' S' ⟨eE, S0, eS, hR, _⟩ => ?_
 subst eE; subst eS
 rw [List.append_nil]
 exact q v S0 hR
theorem yax {T : TypeId} {x : Operand} {u : Value} {d : TypeDesc} (hT : P.underlying T = some d) (hn : ∀ ms, d ≠ .interface ms) (hx : evV E x = some (.v u)) : OpS v0 P n ⟨dst, .makeInterface T x, ty, pos, af, none⟩ E S (fun v E' S' => v = .v (.iface T u) ∧ E' = E ∧ S' = S) := by
 intro K D hv hold env a w hfl ha s
 obtain ⟨y, e1, e2⟩ := s.rl _ _ hx
 simp only [V.Rl] at e2; subst e2
 have hrun : (execOp a.eval ⟨dst, .makeInterface T x, ty, pos, af, none⟩).run P w = .ok (.value (.iface T y)) w := by
  cases d with
  | interface ms => exact absurd rfl (hn ms)
  | _ => simp [execOp, Instr.makeInterface, run_underlying hT, ha.ev e1]
 exact zcq hrun ⟨Same.refl w, _, E, S, hv, hold, PreV.refl hv, s.put dst V.Rl_v fun _ _ => trivial, rfl, rfl, rfl⟩
theorem yee {t : Nat} {T : TypeId} {x : Operand} {u : Value} {d : TypeDesc} {ops l : List Oper} (hd : decide (t < n) = true) (hT : P.underlying T = some d) (hn : ∀ ms, d ≠ .interface ms) (hx : evV E x = some (.v u)) (q : DS P n r Q (.ops ops l :: k) ((t, .v (.iface T u)) :: E) S) :
  DS P n r Q (.ops ops (⟨some t, .makeInterface T x, ty, pos, af, none⟩ :: l) :: k) E S := by
 refine zcu rfl rfl hd (yax hT hn hx) fun v E' S' ⟨h1, h2, h3⟩ => ?_
 subst h1; subst h2; subst h3; exact q
end
end Go.XL
namespace Go.XL
open Go.Proofs
set_option maxRecDepth 100000
set_option maxHeartbeats 8000000
theorem zvf (b : Bool) : PC Try.prog 43 [Bo b] (I (if b = true then 1 else 0)) := by
 cases b with
 | true =>
  refine DC.of_run Try.func43 rfl Try.ntmps43 Try.results43 (by simp) (fun _ => ?_); simp only [zaf, zai, go_sem, Nat.zero_add, Nat.reduceAdd]
  repeat' (first | (with_reducible first | refine zad yU yU yE ?_ | refine zab ?_ | refine DS.seq ?_ | refine zaa ?_ | (refine zbe yE ?_; refine zcy ?_)) | refine zat [] yE trivial ?_ | fail)
  rfl
 | false =>
  refine DC.of_run Try.func43 rfl Try.ntmps43 Try.results43 (by simp) (fun _ => ?_); simp only [zaf, zai, go_sem, Nat.zero_add, Nat.reduceAdd]
  repeat' (first | (with_reducible first | refine zad yU yU yE ?_ | refine zab ?_ | refine DS.seq ?_ | refine zaa ?_ | (refine zbe yE ?_; refine zdd ?_) | refine DS.skip ?_) | refine zat [] yE trivial ?_ | fail)
  rfl
theorem ycq (a : Int) : PC Try.prog 55 [I a] (Bo false) := by
 refine DC.of_run Try.func55 rfl Try.ntmps55 Try.results55 (by simp) (fun _ => ?_); simp only [zaf, zai, go_sem, Nat.zero_add, Nat.reduceAdd]
 repeat' (first | (with_reducible first | refine zad yU yU yE ?_ | refine zab ?_ | refine DS.seq ?_ | refine zaa ?_) | refine zat [] yE trivial ?_ | fail)
 all_goals first | rfl | (simp [tupV]; done)
theorem zur (a b : Int) : PC Try.prog 40 [I a, I b] (I (cmpI a b)) := by
 refine DC.of_run Try.func40 rfl Try.ntmps40 Try.results40 (by simp) (fun _ => ?_); simp only [zaf, zai, go_sem, Nat.zero_add, Nat.reduceAdd]
 repeat' (first | (with_reducible first | refine zad yU yU yE ?_ | refine zab ?_ | refine DS.seq ?_ | refine zaa ?_ | (refine zbe yE ?_; first | refine zeq (fun _ => ?_) (fun _ => ?_) | refine zdd ?_) | refine DS.skip ?_) | refine zav inferInstance (ycq _) yR yT ?_ | refine zat [] yE trivial ?_ | fail)
 ·rw [cmpI, if_pos (by assumption)]; rfl
 ·rw [cmpI, if_neg (by assumption), if_pos (by assumption)]; rfl
 ·rw [cmpI, if_neg (by assumption), if_neg (by assumption)]; rfl
theorem zuq (a b : List Int) : PC Try.prog 21 [ints a, ints b] (I (cmpL a b)) := by
 refine DC.of_run Try.func21 rfl Try.ntmps21 Try.results21 (by simp) (fun _ => ?_); simp only [zaf, zai, go_sem, Nat.zero_add, Nat.reduceAdd]
 refine zhv (t := 0) yG (.inl rfl) (fun hb0 => ?_); simp only [List.length_map] at hb0
 refine zhv (t := 1) yG (.inl rfl) (fun hb1 => ?_); simp only [List.length_map] at hb1
 repeat' (first | (with_reducible first | refine zad yU yU yE ?_ | refine zab ?_ | refine DS.seq ?_ | refine zaa ?_ | refine DS.block ?_) | fail)
 refine zcp [0, 1, 9, 10] yN (fun (i : Nat) => [(11, I i)]) (fun (i : Nat) => i ≤ a.length ∧ cmpL a b = cmpL (a.drop i) (b.drop i)) (fun (i : Nat) => a.length - i) 0 yS ⟨Nat.zero_le _, rfl⟩ (fun i B hI hB => ?_); try dsimp only at hI hB; simp only [zaw, zbg]
 obtain ⟨g1, g2⟩ := hI
 have H := Box.mk g2
 clear g2
 by_cases hi : (i : Int) < (a.length : Int)
 ·have hi' : i < a.length := by omega
  by_cases hk : (b.length : Int) ≤ (i : Int)
  ·repeat' (first | (with_reducible first | refine zad yU yU yE ?_ | refine zab ?_ | refine DS.seq ?_ | refine zaa ?_ | (refine zbe yE ?_; refine zcy ?_) | refine DS.block ?_ | refine DS.skip ?_) | refine zat [] yE trivial ?_ | fail)
   rw [H.out, ydt hi' (by omega)]; rfl
  ·have hk' : i < b.length := by omega
   have cp := zur (a[i]'(by omega)) (b[i]'(by omega))
   by_cases hc : cmpI (a[i]'(by omega)) (b[i]'(by omega)) = 0
   ·rw [hc] at cp
    repeat' (first | (with_reducible first | refine zad yU yU yE ?_ | refine zab ?_ | refine DS.seq ?_ | refine zaa ?_ | (refine zbe yE ?_; first | refine zcy ?_ | refine zdd ?_) | refine DS.blk ?_ | refine DS.block ?_ | refine DS.skip ?_) | refine zav inferInstance (cp) yR yT ?_ | fail)
    refine DS.back (hB (i + 1) _ _ (by omega) ⟨by omega, by rw [H.out, yaj hi' hk', if_neg (by omega)]⟩ yS yS (fun d o e => by exact e))
   ·have h1 : cmpL a b = cmpI (a[i]'(by omega)) (b[i]'(by omega)) := by rw [H.out, yaj hi' hk', if_pos hc]
    rw [h1]
    clear h1 hB
    generalize cmpI (a[i]'(by omega)) (b[i]'(by omega)) = q at *
    repeat' (first | (with_reducible first | refine zad yU yU yE ?_ | refine zab ?_ | refine DS.seq ?_ | refine zaa ?_ | (refine zbe yE ?_; first | refine zcy ?_ | refine zdd ?_) | refine DS.block ?_ | refine DS.skip ?_) | refine zav inferInstance (cp) yR yT ?_ | refine zat [] yE trivial ?_ | fail)
    rfl
 ·have h1 : cmpL a b = if a.length < b.length then -1 else 0 := by
   rw [H.out, ydu (by omega)]
   have : i = a.length := by omega
   rw [this]
  clear hB
  repeat' (first | (with_reducible first | refine zad yU yU yE ?_ | refine zab ?_ | refine DS.seq ?_ | refine zaa ?_ | (refine zbe yE ?_; first | refine zeq (fun _ => ?_) (fun _ => ?_) | refine zdd ?_) | refine DS.exit yU ?_ | refine DS.skip ?_) | refine zat [] yE trivial ?_ | fail)
  ·rw [h1, if_pos (by omega)]; rfl
  ·rw [h1, if_neg (by omega)]; rfl
theorem znv (a b : Rank) : PC Try.prog 24 [a.val, b.val] (I (cmpK a b)) := by
 have h := yai a.places b.places
 rw [cmpK]
 refine DC.of_run Try.func24 rfl Try.ntmps24 Try.results24 (by simp) (fun _ => ?_); simp only [zaf, zai, go_sem, Nat.zero_add, Nat.reduceAdd]
 repeat' (first | (with_reducible first | refine zad yU yU yE ?_ | refine zab ?_ | refine DS.seq ?_ | refine zaa ?_ | (refine zbe yE ?_; refine zgu (fun _ => ?_) (fun _ => ?_)) | refine DS.skip ?_) | refine zav inferInstance (zvf _) yR yT ?_ | refine zav inferInstance (zuq _ _) yR yT ?_ | (refine zci (t := 2) yU yE yU ?_; simp only [zbh, zcg, zbf, zbv, zbc, zau, zbq, zay, zcd, zcf, zbr, zce, zbu, zbt]) | (refine zci (t := 3) yU yE yU ?_; simp only [zbh, zcg, zbf, zbv, zbc, zau, zbq, zay, zcd, zcf, zbr, zce, zbu, zbt]) | refine zat [] yE trivial ?_ | fail)
 ·rename_i e1
  rw [if_pos e1]
  by_cases h2 : b.total < a.total
  ·rw [if_pos h2, decide_eq_true h2]; rfl
  ·rw [if_neg h2, decide_eq_false h2]; rfl
 ·rename_i e1
  rw [if_neg (by omega)]; rfl
end Go.XL
namespace Go.XL
section
variable {P : Program} {ops : Array Oper} {Rd : Heap → Prop} {W : World}
def znr (ops : Array Oper) (pre ord : List Nat) (m : Nat) : Bool :=
 decide (m ≤ ops.size ∧ ord.length + pre.length ≤ m) && zzh ops (zbd ops.toList []) pre ord && ord.all (fun i => decide (i < m) && !pre.contains i) && (List.range m).all (fun i => ord.contains i || pre.contains i) && pre.all (fun i => decide (i < m)) &&
  ((List.range ops.size).all fun i => decide (i < m) || (match ops[i]? with
   | some oi => zop (zbd ops.toList []) i oi && (zdg oi).all (fun j => decide (j < i)) && (List.range i).all fun j => pre.contains j || ((zbd ops.toList []).getD i []).contains j
   | none => false)) &&
  pre.all fun p => match ops[p]? with
   | some o => zop (zbd ops.toList []) p o && (zdg o).isEmpty && (List.range ops.size).all fun j => match ops[j]? with
     | some oj => decide (j = p) || (zdg oj).contains p || (zjl oj && o.apart ops oj)
     | none => false
   | none => false
structure OkFactsP (ops : Array Oper) (pre ord : List Nat) (m : Nat) : Prop where
 size : m ≤ ops.size
 len : ord.length + pre.length ≤ m
 mem : ∀ i, i ∈ ord ↔ i < m ∧ i ∉ pre
 prelt : ∀ p ∈ pre, p < m
 all : ∀ i oi, ops[i]? = some oi → zjl oi = true ∧
   (∀ j ∈ (zbd ops.toList []).getD i [], j ∈ zdg oi ∨ ∃ m ∈ zdg oi, j ∈ (zbd ops.toList []).getD m [])
 ord : ∀ A i B oi, ord = A ++ i :: B → ops[i]? = some oi → (∀ j ∈ zdg oi, j ∈ pre ++ A) ∧ i ∉ A ∧
   ∀ j ∈ A, ∀ oj, ops[j]? = some oj → j ∈ (zbd ops.toList []).getD i [] ∨ (oj.apart ops oi = true ∧ Swp ops oj oi)
 later : ∀ i oi, ops[i]? = some oi → m ≤ i → ∀ j ∈ zdg oi, j < i
 tail : ∀ i, i < ops.size → m ≤ i → ∀ j, j < i → j ∉ pre → j ∈ (zbd ops.toList []).getD i []
 pre0 : ∀ p ∈ pre, ∃ o, ops[p]? = some o ∧ zdg o = [] ∧ ∀ j oj, ops[j]? = some oj → j ≠ p → p ∈ zdg oj ∨ o.apart ops oj = true
theorem ycc {pre ord : List Nat} {m : Nat} (hok : znr ops pre ord m = true) : OkFactsP ops pre ord m := by
 unfold znr at hok
 simp only [Bool.and_eq_true, decide_eq_true_eq] at hok
 obtain ⟨⟨⟨⟨⟨⟨hm, ho⟩, ha⟩, hb⟩, hpl⟩, ht⟩, hp0⟩ := hok
 have hpl' : ∀ p ∈ pre, p < m := fun p hp => by simpa using List.all_eq_true.1 hpl p hp
 have hmem : ∀ i, i ∈ ord ↔ i < m ∧ i ∉ pre := fun i => ⟨fun h => by simpa using List.all_eq_true.1 ha i h, fun h => by
  have h1 := List.all_eq_true.1 hb i (List.mem_range.2 h.1)
  simp only [Bool.or_eq_true, List.contains_iff_mem] at h1
  rcases h1 with h1 | h1
  ·exact h1
  ·exact (h.2 h1).elim⟩
 rw [List.all_eq_true] at ht hp0
 have hl : ∀ i oi, ops[i]? = some oi → m ≤ i → zop (zbd ops.toList []) i oi = true ∧ (∀ j ∈ zdg oi, j < i) ∧ ∀ j, j < i → j ∉ pre → j ∈ (zbd ops.toList []).getD i [] := fun i oi hoi hi => by
  have := ht i (List.mem_range.2 (Array.getElem?_eq_some_iff.1 hoi).1)
  simp only [hoi, Bool.or_eq_true, decide_eq_true_eq, Bool.and_eq_true, List.all_eq_true, List.contains_iff_mem, List.mem_range] at this
  rcases this with h | h
  ·omega
  ·exact ⟨h.1.1, h.1.2, fun j hj hjp => (h.2 j hj).resolve_left hjp⟩
 have hp : ∀ p ∈ pre, ∃ o, ops[p]? = some o ∧ zop (zbd ops.toList []) p o = true ∧ zdg o = [] ∧ ∀ j oj, ops[j]? = some oj → j ≠ p → p ∈ zdg oj ∨ o.apart ops oj = true := fun p hp => by
  have h1 := hp0 p hp
  split at h1
  ·rename_i o ho
   simp only [Bool.and_eq_true, List.isEmpty_iff, List.all_eq_true] at h1
   refine ⟨o, ho, h1.1.1, h1.1.2, fun j oj hoj hj => ?_⟩
   have h2 := h1.2 j (List.mem_range.2 (Array.getElem?_eq_some_iff.1 hoj).1)
   rw [hoj] at h2
   simp only [Bool.or_eq_true, decide_eq_true_eq, List.contains_iff_mem, Bool.and_eq_true] at h2
   rcases h2 with (h2 | h2) | h2
   ·exact (hj h2).elim
   ·exact .inl h2
   ·exact .inr h2.2
  ·cases h1
 have hall : ∀ i oi, ops[i]? = some oi → zjl oi = true ∧ (∀ j ∈ (zbd ops.toList []).getD i [], j ∈ zdg oi ∨ ∃ m ∈ zdg oi, j ∈ (zbd ops.toList []).getD m []) := fun i oi hoi => by
  rcases Nat.lt_or_ge i m with h | h
  ·by_cases hip : i ∈ pre
   ·obtain ⟨o, h1, h2, -⟩ := hp i hip
    rw [hoi] at h1; cases h1
    exact zgy h2
   ·obtain ⟨A, B, e⟩ := List.append_of_mem ((hmem i).2 ⟨h, hip⟩)
    obtain ⟨oi', h1, h2, _⟩ := zfb ho A i B e
    rw [hoi] at h1; cases h1
    exact zgy h2
  ·exact zgy (hl i oi hoi h).1
 refine ⟨hm.1, hm.2, hmem, hpl', hall, fun A i B oi e hoi => ?_, fun i oi hoi hi => (hl i oi hoi hi).2.1, fun i hi hmi => (hl i _ (Array.getElem?_eq_getElem hi) hmi).2.2, fun p h => let ⟨o, a, _, b⟩ := hp p h; ⟨o, a, b⟩⟩
 ·obtain ⟨oi', h1, _, h3, h4, h5⟩ := zfb ho A i B e
  rw [hoi] at h1; cases h1
  refine ⟨h3, fun h => h4 (List.mem_append_right _ h), fun j hj oj hoj => ?_⟩
  have := h5 j (List.mem_append_right _ hj) oj hoj
  simp only [zvu, Bool.or_eq_true, Bool.and_eq_true, List.contains_iff_mem, Bool.not_eq_eq_eq_not, Bool.not_true] at this
  by_cases hn : j ∈ (zbd ops.toList []).getD i []
  ·exact .inl hn
  have sl := zvh (pre := pre) (fun i oi hoi => (hall i oi hoi).2) (fun A i B e => by
   obtain ⟨oi', h1, _, h3, _⟩ := zfb ho A i B e
   exact ⟨oi', h1, h3⟩) (fun p hpp => by obtain ⟨o, a, _, b, _⟩ := hp p hpp; exact ⟨o, a, b⟩) e h4 hj hoi hoj hn
  rcases this with q | ⟨q1, (q2 | q2) | q2⟩
  ·exact .inl q
  ·exact .inr ⟨q1, .inl q2, sl⟩
  ·exact .inr ⟨q1, .inr (.inl q2), sl⟩
  ·exact .inr ⟨q1, .inr (.inr q2), sl⟩
theorem ybv {pre ord : List Nat} {m : Nat} (ok : OkFactsP ops pre ord m) {listed : Array Bool} {i : Nat} {R1 R2 : List Nat} (hi : i < listed.size) {o : Oper} (ho : ops[i]? = some o) (h : rem ord listed = R1 ++ i :: R2) : rem ord (listed.setIfInBounds i true) = R1 ++ R2 := by
 obtain ⟨A, B, e, h1, h2⟩ := zgw h
 have hA : i ∉ A := (ok.ord A i B o e ho).2.1
 have hB : i ∉ B := fun hb => by
  obtain ⟨B1, B2, rfl⟩ := List.append_of_mem hb
  exact (ok.ord (A ++ i :: B1) i B2 o (by simp [e]) ho).2.1 (by simp)
 have hs : rem [i] (listed.setIfInBounds i true) = [] := by unfold rem; simp [hi]
 have : ord = A ++ ([i] ++ B) := by simp [e]
 rw [this]
 have app : ∀ (l1 l2 : List Nat) (q : Array Bool), rem (l1 ++ l2) q = rem l1 q ++ rem l2 q := fun l1 l2 q => List.filter_append ..
 rw [app, app, hs, zqd hA, zqd hB, h1, h2, List.nil_append]
theorem zhh {pre ord : List Nat} {m : Nat} (ok : OkFactsP ops pre ord m) {listed : Array Bool} (hcl : zhw (zbd ops.toList []) listed) {i : Nat} (hi : i ∈ Region.ready .any ops listed) :
  ∀ j ∈ (zbd ops.toList []).getD i [], listed.getD j false = true := by
 obtain ⟨hun, o, ho, hall⟩ := mem_ready.1 hi
 obtain ⟨k1, k3⟩ := ok.all i o ho
 intro j hj
 have pl : ∀ m ∈ zdg o, listed.getD m false = true := by
  intro m hm'
  obtain ⟨e, he, rfl⟩ := List.mem_map.1 hm'
  obtain ⟨he1, he2⟩ := List.mem_filter.1 he
  exact hall e (by simpa using he1) he2
 rcases k3 j hj with h' | ⟨m, hm', hjm⟩
 ·exact pl j h'
 ·exact hcl m (pl m hm') j hjm
theorem zoa {pre ord : List Nat} {m : Nat} (ok : OkFactsP ops pre ord m) {listed : Array Bool} (hcl : zhw (zbd ops.toList []) listed) {i : Nat} (hi : i ∈ Region.ready .any ops listed) :
  zhw (zbd ops.toList []) (listed.setIfInBounds i true) := by
 intro m hm' j hj
 by_cases hmi : i = m
 ·subst hmi; exact getD_set_true (zhh ok hcl hi j hj)
 ·rw [getD_set_ne false hmi] at hm'; exact getD_set_true (hcl m hm' j hj)
theorem zmp {rr : Option Nat} {pre ord : List Nat} {m : Nat} (ok : OkFactsP ops pre ord m) {Q' : Exit → Act → World → Prop} : ∀ (fuel k : Nat) (listed : Array Bool) (a : Act) (w : World), ops.size - k ≤ fuel → m ≤ k → k ≤ ops.size → listed.size = ops.size →
  (∀ j, j < k → listed.getD j false = true) → (∀ j, k ≤ j → j < ops.size → listed.getD j true = false) → zhw (zbd ops.toList []) listed →
  wpL rr P ops Q' (ops.toList.drop k) a w → wpAnyIn (FW rr) 0 P .any ops Q' fuel listed a w := by
 intro fuel
 have ready_lt : ∀ (k : Nat) (listed : Array Bool), m ≤ k → listed.size = ops.size → (∀ j, j < k → listed.getD j false = true) → (∀ j, k ≤ j → j < ops.size → listed.getD j true = false) → zhw (zbd ops.toList []) listed →
   ∀ i ∈ Region.ready .any ops listed, i = k := by
  intro k listed hmk hsz hlo hhi hcl i hi
  obtain ⟨hun, o, ho, hall⟩ := mem_ready.1 hi
  have hlt := (Array.getElem?_eq_some_iff.1 ho).1
  rcases Nat.lt_trichotomy i k with h | h | h
  ·have h1 := hlo i h
   have := zec (by omega) hun h1
   cases this
  ·exact h
  ·have hin := ok.tail i hlt (by omega) k h (fun hp => by have := ok.prelt _ hp; omega)
   have h1 := zhh ok hcl hi k hin
   have h2 := hhi k (Nat.le_refl _) (by omega)
   have := zec (by omega) h2 h1
   cases this
 have ready_k : ∀ (k : Nat) (listed : Array Bool), m ≤ k → k < ops.size → (∀ j, j < k → listed.getD j false = true) → (∀ j, k ≤ j → j < ops.size → listed.getD j true = false) → k ∈ Region.ready .any ops listed := by
  intro k listed hmk hk hlo hhi
  have hoi : ops[k]? = some ops[k] := Array.getElem?_eq_getElem hk
  rw [mem_ready]
  refine ⟨hhi k (Nat.le_refl _) hk, _, hoi, fun e he hb => ?_⟩
  have hp : e.on ∈ zdg ops[k] := List.mem_map.2 ⟨e, List.mem_filter.2 ⟨by simpa using he, hb⟩, rfl⟩
  exact hlo _ (ok.later k _ hoi hmk _ hp)
 induction fuel with
 | zero =>
  intro k listed a w hf hmk hk hsz hlo hhi hcl h
  have hk' : k = ops.size := by omega
  refine ⟨?_, ?_⟩
  ·cases hr : Region.ready .any ops listed with
   | nil => rfl
   | cons j r =>
    have hj : j ∈ Region.ready .any ops listed := by rw [hr]; exact List.mem_cons_self ..
    obtain ⟨_, o, ho, _⟩ := mem_ready.1 hj
    have := (Array.getElem?_eq_some_iff.1 ho).1
    have := ready_lt k listed hmk hsz hlo hhi hcl j hj
    omega
  ·rw [List.drop_eq_nil_of_le (by simp; omega)] at h; exact h
 | succ fuel ih =>
  intro k listed a w hf hmk hk hsz hlo hhi hcl h
  refine ⟨fun hr => ?_, fun i hi => ?_⟩
  ·rcases Nat.lt_or_ge k ops.size with hlt | hge
   ·have := ready_k k listed hmk hlt hlo hhi
    rw [hr] at this; cases this
   ·rw [List.drop_eq_nil_of_le (by simpa using hge)] at h; exact h
  ·have hik := ready_lt k listed hmk hsz hlo hhi hcl i hi
   subst hik
   obtain ⟨hun, o, ho, hall⟩ := mem_ready.1 hi
   have hlt := (Array.getElem?_eq_some_iff.1 ho).1
   have hd : ops.toList.drop i = o :: ops.toList.drop (i + 1) := by
    rw [List.drop_eq_getElem_cons (by simpa using hlt)]
    congr 1
    have := (Array.getElem?_eq_some_iff.1 ho).2
    simpa using this
   rw [hd] at h
   have next : ∀ a' w', wpL rr P ops Q' (ops.toList.drop (i + 1)) a' w' → wpAnyIn (FW rr) 0 P .any ops Q' fuel (listed.setIfInBounds i true) a' w' := fun a' w' h' =>
    ih (i + 1) _ a' w' (by omega) (by omega) (by omega) (by simpa using hsz)
     (fun j hj => by
      by_cases hij : i = j
      ·subst hij; simp [show i < listed.size by omega]
      ·exact getD_set_true (hlo j (by omega)))
     (fun j hj hj2 => by rw [getD_set_ne true (by omega)]; exact hhi j (by omega) hj2) (zoa ok hcl hi) h'
   unfold wpOpIn
   simp only [ho]
   unfold wpL at h
   split
   ·rename_i hw
    rw [if_pos hw] at h
    exact Oper.wpIn_mono next h
   ·rename_i hw
    rw [if_neg hw] at h
    exact ⟨fun _ _ => trivial, next _ _ h⟩
theorem zrk {rr : Option Nat} {pre ord : List Nat} {m : Nat} {K : Act → SP → Prop} {Q' : Exit → Act → World → Prop} (ok : OkFactsP ops pre ord m)
  (hK : ∀ a S w, K a S → Live Rd W S → S noF w.heap → Same W w → wpL rr P ops Q' (ops.toList.drop m) a w) : ∀ (fuel : Nat) (listed : Array Bool) (a : Act) (w : World) (S : SP),
  (rem ord listed).length + (ops.size - m) ≤ fuel → listed.size = ops.size → (∀ p ∈ pre, listed.getD p false = true) → (∀ j, m ≤ j → j < ops.size → listed.getD j true = false) → zhw (zbd ops.toList []) listed → Live Rd W S → S noF w.heap → Same W w →
  SW P ops Rd W K ((rem ord listed).filterMap (ops[·]?)) S a → wpAnyIn (FW rr) 0 P .any ops Q' fuel listed a w := by
 have selOf : ∀ o : Oper, zjl o = true → ∀ cs b, o.op ≠ .select cs b := by
  intro o h cs b e
  unfold zjl at h
  rw [e] at h
  simp at h
 have defOf : ∀ o : Oper, zjl o = true → zqg o = true := fun o h => by
  unfold zjl at h
  rw [Bool.and_eq_true] at h
  exact h.2
 have done : ∀ (listed : Array Bool), listed.size = ops.size → (∀ p ∈ pre, listed.getD p false = true) → rem ord listed = [] → ∀ j, j < m → listed.getD j false = true := by
  intro listed hsz hpre hrem j hj
  by_cases hjp : j ∈ pre
  ·exact hpre j hjp
  have : j ∉ rem ord listed := by rw [hrem]; exact List.not_mem_nil
  rw [rem_mem] at this
  have hjs : j < listed.size := by have := ok.size; omega
  cases hv : listed[j] with
  | true => simp [hjs, hv]
  | false => exact absurd ⟨(ok.mem j).2 ⟨hj, hjp⟩, by simp [hjs, hv]⟩ this
 intro fuel
 induction fuel with
 | zero =>
  intro listed a w S hlen hsz hpre hun hcl hl hS hw h
  have hrem : rem ord listed = [] := List.eq_nil_of_length_eq_zero (by omega)
  rw [hrem] at h
  exact zmp ok 0 m listed a w (by omega) (Nat.le_refl _) ok.size hsz (done listed hsz hpre hrem) hun hcl (hK _ _ _ h hl hS hw)
 | succ fuel ih =>
  intro listed a w S hlen hsz hpre hun hcl hl hS hw h
  by_cases hrem : rem ord listed = []
  ·rw [hrem] at h
   exact zmp ok (fuel + 1) m listed a w (by rw [hrem] at hlen; simpa using hlen) (Nat.le_refl _) ok.size hsz (done listed hsz hpre hrem) hun hcl (hK _ _ _ h hl hS hw)
  ·obtain ⟨i0, r0, hr0⟩ := List.exists_cons_of_ne_nil hrem
   have hi0 : i0 ∈ rem ord listed := by rw [hr0]; exact List.mem_cons_self ..
   obtain ⟨hin0, hun0⟩ := rem_mem.1 hi0
   obtain ⟨hlt0, hnp0⟩ := (ok.mem i0).1 hin0
   refine ⟨fun hr => ?_, fun i hi => ?_⟩
   ·exfalso
    have hi0s : i0 < ops.size := by have := ok.size; omega
    have hoi : ops[i0]? = some ops[i0] := Array.getElem?_eq_getElem hi0s
    obtain ⟨A, B, eo, hA, _⟩ := zgw (R1 := []) (R2 := r0) (by rw [hr0]; rfl)
    have : i0 ∈ Region.ready .any ops listed := by
     rw [mem_ready]
     refine ⟨hun0, _, hoi, fun e he hb => ?_⟩
     have hp : e.on ∈ zdg ops[i0] := List.mem_map.2 ⟨e, List.mem_filter.2 ⟨by simpa using he, hb⟩, rfl⟩
     rcases List.mem_append.1 ((ok.ord A i0 B _ eo hoi).1 _ hp) with hinP | hinA
     ·exact hpre _ hinP
     have hltm : e.on < m := ((ok.mem _).1 (by rw [eo]; exact List.mem_append_left _ hinA)).1
     have hnot : e.on ∉ rem A listed := by rw [hA]; exact List.not_mem_nil
     rw [rem_mem] at hnot
     have hsz' : e.on < listed.size := by have := ok.size; omega
     cases hv : listed[e.on] with
     | true => simp [hsz', hv]
     | false => exact absurd ⟨hinA, by simp [hsz', hv]⟩ hnot
    rw [hr] at this
    cases this
   ·obtain ⟨hun1, o, ho, hall⟩ := mem_ready.1 hi
    have hlt := (Array.getElem?_eq_some_iff.1 ho).1
    have hcli := zhh ok hcl hi
    have him : i < m := by
     rcases Nat.lt_or_ge i m with h' | h'
     ·exact h'
     ·exfalso
      have h1 := hcli i0 (ok.tail i hlt h' i0 (by omega) hnp0)
      have := zec (by have := ok.size; omega) hun0 h1
      cases this
    have hip : i ∉ pre := fun hp => by
     have := zec (by omega) hun1 (hpre i hp)
     cases this
    have hin : i ∈ rem ord listed := rem_mem.2 ⟨(ok.mem i).2 ⟨him, hip⟩, hun1⟩
    obtain ⟨R1, R2, hR⟩ := List.append_of_mem hin
    obtain ⟨k1, k3⟩ := ok.all i o ho
    have hset := ybv ok (by omega) ho hR
    have hcl' := zoa ok hcl hi
    obtain ⟨A, B, eo, hA, _⟩ := zgw hR
    obtain ⟨_, _, k4⟩ := ok.ord A i B o eo ho
    rw [hR, List.filterMap_append, List.filterMap_cons, ho] at h
    simp only at h
    have hf := SW.take (selOf o k1) (R1.filterMap (ops[·]?)) S a (fun x hx => by
     obtain ⟨j, hj, hxj⟩ := List.mem_filterMap.1 hx
     rw [← hA] at hj
     obtain ⟨hjA, hjun⟩ := rem_mem.1 hj
     have hjs : j < listed.size := by rw [hsz]; exact (Array.getElem?_eq_some_iff.1 hxj).1
     refine ⟨?_, selOf x (ok.all j x hxj).1, ?_⟩
     all_goals
      rcases k4 j hjA x hxj with h' | h'
      ·have h2 := hcli j h'
       have := zec hjs hjun h2
       cases this
      ·first | exact h'.1 | exact h'.2) hl h
    rw [← List.filterMap_append, ← hset] at hf
    have hlen' : (rem ord (listed.setIfInBounds i true)).length + (ops.size - m) ≤ fuel := by
     rw [hset]; rw [hR] at hlen; simp at hlen ⊢; omega
    have hun' : ∀ j, m ≤ j → j < ops.size → (listed.setIfInBounds i true).getD j true = false := fun j hj hj2 => by rw [getD_set_ne true (by omega)]; exact hun j hj hj2
    have hpre' : ∀ p ∈ pre, (listed.setIfInBounds i true).getD p false = true := fun p hp => getD_set_true (hpre p hp)
    unfold wpOpIn
    simp only [ho]
    unfold Front at hf
    split
    ·rename_i hwant
     rw [if_pos hwant] at hf
     split at hf
     ·obtain ⟨val, T, s1, s3⟩ := hf
      have g := s1.good hl.2
      unfold Spec at s1
      split at s1
      ·obtain ⟨ob, vb, b1, b2, rfl, rfl⟩ := s1
       have hw' : Same W { w with heap := w.heap.push ob } := hw.trans ⟨rfl, rfl, rfl⟩
       have hb : zgg S w.heap.size ob noF (w.heap.push ob) := ⟨hl.2.push _ _ ob hS, fun x => x, by simp⟩
       refine ⟨fun _ _ => trivial, ?_⟩
       rw [Oper.semAt_eq _ _ _ (zfr (defOf o k1)), b2 w]
       exact ih _ _ _ (zgg S w.heap.size ob) hlen' (by simpa using hsz) hpre' hun' hcl' ⟨⟨_, hw', hb⟩, g w.heap.size undef⟩ hb hw' (s3 w.heap.size undef ⟨_, hw', hb⟩)
      ·obtain ⟨rfl, T', rfl, g1, g2⟩ := s1
       refine (g2 w noF hS hw).wpIn (defOf o k1) fun v w' ⟨hs, hv, _⟩ => ?_
       exact ih _ _ _ (T' v) hlen' (by simpa using hsz) hpre' hun' hcl' ⟨⟨w', hw.trans hs, hv⟩, g1 v⟩ hv (hw.trans hs) (s3 0 v ⟨w', hw.trans hs, hv⟩)
     ·obtain ⟨v, q1, q2⟩ := hf
      refine ⟨fun _ _ => trivial, ?_⟩
      rw [Oper.semAt_eq _ _ _ (zfr (defOf o k1)), q1.elim (fun q => q w (hl.2.ext _ _ hS)) (fun q => q.2 w noF hS hw)]
      exact ih _ _ _ S hlen' (by simpa using hsz) hpre' hun' hcl' hl hS hw q2
    ·rename_i hwant
     rw [if_neg hwant] at hf
     exact ⟨fun _ _ => trivial, ih _ _ _ S hlen' (by simpa using hsz) hpre' hun' hcl' hl hS hw hf⟩
def zwq (P : Program) (ops : Array Oper) : List Nat → Act → Act → Prop
 | [], a, a' => a' = a
 | p :: r, a, a' => ∃ o v, ops[p]? = some o ∧ YieldsFenced P ops o v a ∧ zwq P ops r (a.put o.dst v) a'
def setL (listed : Array Bool) : List Nat → Array Bool
 | [] => listed
 | p :: r => setL (listed.setIfInBounds p true) r
theorem zrt : ∀ (l : List Nat) (q : Array Bool), (setL q l).size = q.size
 | [], q => rfl
 | p :: r, q => by rw [setL, zrt r]; simp
theorem zqa : ∀ (l : List Nat) (q : Array Bool) (j : Nat) (d : Bool), j ∉ l → (setL q l).getD j d = q.getD j d
 | [], q, j, d, _ => rfl
 | p :: r, q, j, d, h => by
  have hne : p ≠ j := fun e => h (by rw [← e]; exact List.mem_cons_self ..)
  rw [setL, zqa r _ j d (fun hj => h (List.mem_cons_of_mem _ hj)), getD_set_ne d hne]
theorem zrs : ∀ (l : List Nat) (q : Array Bool) (j : Nat), q.getD j false = true → (setL q l).getD j false = true
 | [], q, j, h => h
 | p :: r, q, j, h => by rw [setL]; exact zrs r _ j (getD_set_true h)
theorem zvm : ∀ (l : List Nat) (q : Array Bool) (j : Nat), j ∈ l → j < q.size → (setL q l).getD j false = true
 | p :: r, q, j, h, hs => by
  rw [setL]
  rcases List.mem_cons.1 h with rfl | h
  ·exact zrs r _ _ (by simp [hs])
  ·exact zvm r _ j h (by simpa using hs)
theorem zso {pre ord : List Nat} {m : Nat} (ok : OkFactsP ops pre ord m) {Q : Exit → Act → World → Prop} (hQ : ∀ c a w, ¬ Q (.panic c) a w) : ∀ (l : List Nat) (fuel : Nat) (listed : Array Bool) (a a' : Act) (w : World), (∀ p ∈ l, p ∈ pre) → l.Nodup → (∀ p ∈ l, listed.getD p true = false) →
  zwq P ops l a a' → wpAnyIn (FW none) 0 P .any ops Q fuel (setL listed l) a' w → wpAnyIn (FW none) 0 P .any ops Q (fuel + l.length) listed a w
 | [], fuel, listed, a, a', w, _, _, _, hp, h => by
  have e : a' = a := hp
  subst e; exact h
 | p :: r, fuel, listed, a, a', w, hl, hn, hu, hp, h => by
  obtain ⟨hn1, hn2⟩ := List.nodup_cons.1 hn
  obtain ⟨o, v, ho, hy, hp⟩ := hp
  obtain ⟨o', ho', hp0, hap⟩ := ok.pre0 p (hl p (List.mem_cons_self ..))
  rw [ho] at ho'; cases ho'
  have selOf : ∀ (j : Nat) (o : Oper) cs b, ops[j]? = some o → o.op ≠ .select cs b := fun j o cs b hj e => by
   have h := (ok.all j o hj).1
   unfold zjl at h
   rw [e] at h
   simp at h
  have ih := zso ok hQ r fuel (listed.setIfInBounds p true) (a.put o.dst v) a' w (fun q hq => hl q (List.mem_cons_of_mem _ hq)) hn2 (fun q hq => by
   have hne : p ≠ q := fun e => hn1 (by rw [e]; exact hq)
   rw [getD_set_ne true hne]
   exact hu q (List.mem_cons_of_mem _ hq)) hp h
  refine wpAnyIn_first rfl ho selOf (fun c a w h => (hQ _ _ _ h).elim) (fuel + r.length) listed a w (fun j oj hoj hj hju hnot => ?_) ?_ hy ih
  ·rcases hap j oj hoj hj with h1 | h1
   ·obtain ⟨e, he, he2⟩ := List.mem_map.1 h1
    obtain ⟨he3, he4⟩ := List.mem_filter.1 he
    exact (hnot e (by simpa using he3) he4 he2).elim
   ·exact h1
  ·rw [mem_ready]
   refine ⟨hu p (List.mem_cons_self ..), o, ho, fun e he hb => ?_⟩
   have : e.on ∈ zdg o := List.mem_map.2 ⟨e, List.mem_filter.2 ⟨by simpa using he, hb⟩, rfl⟩
   rw [hp0] at this
   cases this
theorem ybk {K : Act → SP → Prop} {Q' : Exit → Act → World → Prop} {id m : Nat} {pre ord : List Nat} {a a' : Act} {w : World} {S0 : SP} (hm' : P.follows .mixedOrders = true) (hok : znr ops pre ord m = true) (hnd : pre.Nodup) (hQ : ∀ c a w, ¬ Q' (.panic c) a w) (hpr : zwq P ops pre a a') (hS0 : S0 noF w.heap) (hx : Good Rd S0) (hW : Same W w)
  (hK : ∀ a S w', K a S → Live Rd W S → S noF w'.heap → Same W w' → wpL none P ops Q' (ops.toList.drop m) a w') (h : SW P ops Rd W K (ord.filterMap (ops[·]?)) S0 a') :
  (Code.region id ops true).wpIn (FW none) 0 P Q' a w := by
 have ok := ycc hok
 have hsz := ok.size
 have hlen := ok.len
 have e : rem ord (setL (Array.replicate ops.size false) pre) = ord := by
  unfold rem
  refine List.filter_eq_self.2 fun x hx => ?_
  obtain ⟨h1, h2⟩ := (ok.mem x).1 hx
  rw [zqa _ _ _ _ h2]
  have : x < ops.size := by omega
  simp [this]
 refine wpIn_region_any hm' ?_
 have hf : ops.size = (ops.size - pre.length) + pre.length := by omega
 have key := zso (P := P) ok hQ pre (ops.size - pre.length) (Array.replicate ops.size false) a a' { w with drawn := w.drawn + 1 } (fun _ h => h) hnd (fun p hp => by
  have := ok.prelt p hp
  simp [show p < ops.size by omega]) hpr
 rw [← hf] at key
 refine key (zrk (W := W) (Rd := Rd) (K := K) ok hK (ops.size - pre.length) (setL (Array.replicate ops.size false) pre) a' _ S0 ?_ (by rw [zrt]; simp) (fun p hp => zvm _ _ _ hp (by have := ok.prelt p hp; simp; omega)) ?_ ?_ ⟨⟨w, hW, hS0⟩, hx⟩ hS0 hW ?_)
 ·rw [e]; omega
 ·intro j hj hj2
  rw [zqa _ _ _ _ (fun hp => by have := ok.prelt j hp; omega)]
  simp [hj2]
 ·intro q hq
  by_cases hqp : q ∈ pre
  ·obtain ⟨o, ho, h0, -⟩ := ok.pre0 q hqp
   intro j hj
   rcases (ok.all q o ho).2 j hj with h1 | ⟨_, h1, -⟩
   ·rw [h0] at h1; cases h1
   ·rw [h0] at h1; cases h1
  ·exfalso
   rw [zqa _ _ _ _ hqp, Array.getD_eq_getD_getElem?, Array.getElem?_replicate] at hq
   split at hq <;> simp at hq
 ·rw [e]; exact h
end
end Go.XL
namespace Go.XL
section
variable {P : Program} {n : Nat} {r : Rr} {Q : VEnv → Sto → Prop} {k : List Fr} {E0 E : VEnv} {S : Sto}
theorem zha {K0 : Bs} {W : World} : ∀ (k : List Fr) (c : List PanicEntry) (a : Act) (w : World), ¬ ksem P n r K0 W Q k (.panic c) a w
 | [], c, a, w, h => h
 | .code _ :: k, c, a, w, h => zha k c a w h
 | .ops _ _ :: k, c, a, w, h => zha k c a w h
 | .blk _ :: k, c, a, w, h => zha k c a w h
 | .back _ :: k, c, a, w, h => zha k c a w h
 | .rnd _ :: k, c, a, w, h => h
def PreE (os : Array Oper) (n : Nat) : List Nat → VEnv → VEnv → Prop
 | [], E, E' => E' = E
 | p :: l, E, E' => ∃ t x ty pos af v, os[p]? = some ⟨some t, .move x, ty, pos, af, none⟩ ∧ decide (t < n) = true ∧ evV E x = some v ∧ PreE os n l ((t, v.copy) :: E) E'
theorem PreE.run {os : Array Oper} {D : List Deferred} {K : Bs} {hv : VH} {hold : Nat → Option Hd} {h : Heap} : ∀ {pre : List Nat} {E E' : VEnv} {env : Env} {a : Act}, PreE os n pre E E' → Agree D n env a → St K hv hold E S env h →
  ∃ env' a', zwq P os pre a a' ∧ Agree D n env' a' ∧ St K hv hold E' S env' h
 | [], E, E', env, a, hp, ha, s => by
  have e : E' = E := hp
  subst e
  exact ⟨env, a, rfl, ha, s⟩
 | p :: l, E, E', env, a, hp, ha, s => by
  obtain ⟨t, x, ty, pos, af, v, ho, hd, hx, hp⟩ := hp
  have hdv : dopV P [] (evV E) (.move x) = some v.copy := by simp [dopV, hx]
  obtain ⟨y, h2, h3⟩ := zge (S := []) s.pre (fun _ _ e => by cases e) s.rl hdv
  have run : ∀ w : World, (execOp a.eval ⟨some t, .move x, ty, pos, af, none⟩).run P w = .ok (.value y) w := fun w => zhn ha (zpk rfl h2)
  have hd' : dok n (some t) = true := hd
  obtain ⟨env', a', h4, h5, h6⟩ := PreE.run hp (ha.put' hd' y) (s.put (some t) h3 fun _ _ => V.free_Own (zkw hdv) y)
  exact ⟨env', a', ⟨_, y, ho, ⟨.inl ⟨rfl, run⟩, fun w => rfl⟩, h4⟩, h5, h6⟩
theorem yef {id : Nat} {os : Array Oper} (S0 S1 : Sto) (pre ord : List Nat) (m : Nat) {E' : VEnv} (hr : r.rd = none) (hok : znr os pre ord m = true) (hnd : pre.Nodup) (hm : P.follows .mixedOrders = true) (h0 : ∀ b o, zac S0 b = some o → zac S b = some o ∧ zac S1 b = none) (h1 : ∀ b o, zac S1 b = some o → zac S b = some o)
  (hpre : PreE os n pre E E') (q : DD P n r Q os.toList S0 [] (ord.filterMap (os[·]?)) (.ops os.toList (os.toList.drop m) :: k) E' E' S1) : DS P n r Q (.code (.region id os true) :: k) E S := fun K W a w ⟨K', D, hv, hold, env, hb, ha, s⟩ hw => by
 have s0 : St K' hv hold E (S1 ++ S0) env w.heap := s.weaken (fun _ _ e => e) fun b o e => by
  rw [zba] at e
  cases e1 : zac S1 b with
  | some o' => rw [e1] at e; cases e; exact h1 b _ e1
  | none => rw [e1] at e; exact (h0 b o e).1
 obtain ⟨env', a', hpr, ha', s'⟩ := PreE.run (P := P) hpre ha s0
 obtain ⟨-, -, s2⟩ := PreE.run (P := P) hpre ha s
 have hR : ∀ (F : Nat → Prop) h1, RunS P [] D n K' hv w.heap S0 E' S1 a' F h1 → RunS P [] D n K' hv w.heap S0 E' S1 a' F h1 := fun _ _ h => h
 have start : RunS P [] D n K' hv w.heap S0 E' S1 a' noF w.heap := ⟨fun b hb => hb.elim, ⟨Nat.le_refl _, MpOk.nil⟩, hv, hold, env', ha', s', PreV.refl hv, fun b hb => hb.elim, fun b o e => ⟨rfl, (h0 b o e).2, Ob.lt (s.obj b o (h0 b o e).1).2.2⟩⟩
 show (Code.region id os true).wpIn (FW r.rd) 0 P (ksem P n r K W Q k) a w
 rw [hr]
 refine ybk (m := m) (pre := pre) (ord := ord) (a' := a') (Rd := RdOf P [] hv w.heap S0) (W := W) (K := fun a' S' => ∀ w', S' noF w'.heap → Same W w' → ksem P n r K W Q (.ops os.toList (os.toList.drop m) :: k) .normal a' w') hm hok hnd (fun c a w => zha k c a w) hpr start (RunS.good P [] D n K' hv w.heap S0 E' S1 a') hw
  (fun a' S' w' hK _ hS hsame => by have := hK w' hS hsame; simpa [ksem, hr] using this) ?_
 have := q K K' D W hv w.heap a' _ hb (hb.floor s) ⟨env', ha', fun t v e => let ⟨y, a, b, _⟩ := s'.slot t v e; ⟨y, a, b⟩⟩ s.pre (fun b o e => let ⟨_, r2, r3⟩ := s.obj b o (h0 b o e).1; ⟨r2, Ob.lt r3, Ob.Real.rd r3⟩) s.base.2.1 ⟨w, hw, start⟩ hR
 simpa using this
theorem ybf {id : Nat} {os l1 l2 : List Oper} (S0 S1 : Sto) (pre ord : List Nat) (m : Nat) {E' : VEnv} (hr : r.rd = none) (hok : znr os.toArray pre ord m = true) (hnd : pre.Nodup) (hm : P.follows .mixedOrders = true) (h0 : ∀ b o, zac S0 b = some o → zac S b = some o ∧ zac S1 b = none) (h1 : ∀ b o, zac S1 b = some o → zac S b = some o)
  (hpre : PreE os.toArray n pre E E') (k1 : zmc os ord = l1) (k2 : os.drop m = l2) (q : DD P n r Q os S0 [] l1 (.ops os l2 :: k) E' E' S1) : DS P n r Q (.code (.region id os.toArray true) :: k) E S :=
 yef S0 S1 pre ord m hr hok hnd hm h0 h1 hpre (by rw [zko, k1]; simpa [k2] using q)
end
end Go.XL
namespace Go.XL
open Go.Proofs
set_option maxRecDepth 100000
set_option maxHeartbeats 8000000
def rkC (d : List Rank) (junk : List V) : List V := (d.map Rank.cells).flatten ++ junk
theorem zic (junk : List V) : ∀ (d : List Rank) (i : Nat) (h : i < d.length), (rkC d junk).drop (i * 5) = d[i].cells ++ rkC (d.drop (i + 1)) junk
 | a :: r, 0, h => by simp [rkC]
 | a :: r, i + 1, h => by
  have h1 := zic junk r i (by simpa using h)
  have h2 : rkC (a :: r) junk = a.cells ++ rkC r junk := by simp [rkC]
  rw [h2, show (i + 1) * 5 = a.cells.length + i * 5 by rw [Rank.len]; omega, List.drop_append, List.drop_eq_nil_of_le (by omega), Nat.add_sub_cancel_left, List.nil_append, h1]
  simp
theorem zvo (d : List Rank) (junk : List V) : (rkC d junk).length = d.length * 5 + junk.length := by
 rw [rkC, List.length_append]
 have h := zhl (sz := 5) (l := d.map Rank.cells) fun c hc => by obtain ⟨a, -, rfl⟩ := List.mem_map.1 hc; rfl
 rw [h, List.length_map]
abbrev rkS (b : Nat) (d : List Rank) (junk : List V) : Sto := [(b, .cells (rkC d junk) 37)]
abbrev rkV (b n cap : Nat) : V := .v (.slice (some ⟨b, 0, none⟩) n cap)
theorem ych (b cap : Nat) (d : List Rank) (junk : List V) {i j : Nat} (hi : i < d.length) (hj : j < d.length) (hn : d.length ≤ 1000000 ∧ d.length ≤ cap) :
  DC Try.prog 99 [rkV b d.length cap, I i, I j] (rkS b d junk) (fun u S' => u = Bo (zdp d[i] d[j]) ∧ S' = rkS b d junk) := by
 have h1 := zic junk d i hi
 have h2 := zic junk d j hj
 have h3 := zvo d junk
 have cp := znv d[i] d[j]
 have i1 : (i : Int) < (d.length : Int) := by omega
 have i2 : (j : Int) < (d.length : Int) := by omega
 simp only [Rank.cells_eq, List.cons_append, List.nil_append] at h1 h2
 simp only [rkS, rkV]
 generalize rkC d junk = L at *
 refine DC.of_run Try.func99 rfl Try.ntmps99 Try.results99 (by simp) (fun _ => ?_); simp only [zaf, zai, go_sem, Nat.zero_add, Nat.reduceAdd]
 repeat' (first | (with_reducible first | refine zad yU yU yE ?_ | refine zab ?_ | refine DS.seq ?_ | refine zaa ?_ | (refine zdv yU yE ?_; first | refine yeb ?_ | refine GG.run ?_ | refine zkb ?_ | refine zuv ?_)) | refine zav inferInstance (cp) yR yT ?_ | refine zcr (id := 1) [0, 1, 2, 3, 4, 5, 6, 7] 8 (by kernel_rfl) zei (by simp only [zbp, zbx, zby, zbz, zbo]; exact rfl) (by simp only [zbk, zbl, List.drop_nil]; exact rfl) ?_ | refine zcr (id := 2) [0, 1, 2, 3, 4, 5, 6, 7, 8, 9, 10, 11, 12, 13, 14, 15] 16 (by kernel_rfl) zei (by simp only [zbp, zbx, zby, zbz, zbo]; exact rfl) (by simp only [zbk, zbl, List.drop_nil]; exact rfl) ?_ | (with_reducible first | refine zcj yU yU yU yE ?_ | (refine zvb yU yE ?_; first | refine yeq ?_ | refine yer (fun _ => ?_) (fun _ => ?_) | refine yhs (fun _ => ?_) (fun _ => ?_) | refine DGG.run ?_ | refine zto ?_ | refine yhr ?_) | refine zdm ?_) | fail)
 ·rename_i e1 e2
  refine zcl yG ⟨?_, rfl⟩
  rw [zdp, decide_eq_false e1, decide_eq_true e2, Bool.false_or, Bool.true_and]; rfl
 ·rename_i e1 e2
  refine zcl yG ⟨?_, rfl⟩
  rw [zdp, decide_eq_false e1, decide_eq_false e2, Bool.false_or, Bool.false_and]; rfl
 ·rename_i e1
  refine zcl yG ⟨?_, rfl⟩
  rw [zdp, decide_eq_true e1, Bool.true_or]; rfl
theorem zoy {α : Type} : ∀ (r A B : List α) (k : Nat), setAll (A ++ B) (A.length + k) r = A ++ setAll B k r
 | [], A, B, k => by simp [setAll]
 | v :: r, A, B, k => by
  rw [setAll, List.set_append_right _ _ (by omega), Nat.add_sub_cancel_left, show A.length + k + 1 = A.length + (k + 1) by omega, zoy r A (B.set k v) (k + 1), setAll]
theorem zyx (junk : List V) (x : Rank) : ∀ (d : List Rank) (i : Nat) (h : i < d.length), setAll (rkC d junk) (i * 5) x.cells = rkC (d.set i x) junk
 | a :: r, 0, h => by
  have h2 : ∀ y, rkC (y :: r) junk = y.cells ++ rkC r junk := fun y => by simp [rkC]
  rw [h2, List.set_cons_zero, h2]
  rfl
 | a :: r, i + 1, h => by
  have h2 : ∀ r : List Rank, rkC (a :: r) junk = a.cells ++ rkC r junk := fun y => by simp [rkC]
  rw [h2, List.set_cons_succ, h2, show (i + 1) * 5 = a.cells.length + i * 5 by rw [Rank.len]; omega, zoy, zyx junk x r i (by simpa using h)]
def swpL (d : List Rank) (i j : Nat) : List Rank := (d.set i (d.getD j default)).set j (d.getD i default)
theorem ybo (b cap : Nat) (d : List Rank) (junk : List V) {i j : Nat} (hi : i < d.length) (hj : j < d.length) (hn : d.length ≤ 1000000 ∧ d.length ≤ cap) :
  DC Try.prog 100 [rkV b d.length cap, I i, I j] (rkS b d junk) (fun u S' => S' = rkS b (swpL d i j) junk) := by
 have h1 := zic junk d i hi
 have h2 := zic junk d j hj
 have h3 := zvo d junk
 have i1 : (i : Int) < (d.length : Int) := by omega
 have i2 : (j : Int) < (d.length : Int) := by omega
 have hf : setAll (setAll (rkC d junk) (i * 5) d[j].cells) (j * 5) d[i].cells = rkC (swpL d i j) junk := by
  rw [zyx junk _ d i hi, zyx junk _ _ j (by rw [List.length_set]; exact hj), swpL]
  simp [List.getD_eq_getElem?_getD, hi, hj]
 simp only [rkS, rkV]
 rw [← hf]
 simp only [Rank.cells_eq, List.cons_append, List.nil_append] at h1 h2 ⊢
 clear hf
 generalize rkC d junk = L at *
 refine DC.of_run Try.func100 rfl Try.ntmps100 Try.results100 (by simp) (fun _ => ?_); simp only [zaf, zai, go_sem, Nat.zero_add, Nat.reduceAdd]
 refine ybf (id := 0) [(b, .cells L 37)] [] [2, 3] [0, 1, 4, 5, 6, 7, 8, 9, 10, 11] 12 rfl (by kernel_rfl) (by decide) zei (fun _ _ e => ⟨e, rfl⟩) (fun _ _ e => by cases e)
  ⟨_, _, _, _, _, _, rfl, rfl, yG, _, _, _, _, _, _, rfl, rfl, yG, rfl⟩ (by simp only [zbp, zbx, zby, zbz, zbo]; exact rfl) (by simp only [zbk, zbl, List.drop_nil]; exact rfl) ?_
 repeat' (first | (with_reducible first | refine zad yU yU yE ?_ | refine zab ?_) | (refine DS.store yR yE yE yE yE yU (by exact ⟨by with_unfolding_all rfl, by (try simp only [List.length_map, List.length_append, List.length_set, List.length_replicate, List.length_cons, List.length_nil]); omega⟩) ?_; simp only [zbm, zao, zar, zcb, zbn, zbi, zbj]; try simp only [zap, zag, zah, Nat.reduceEqDiff, ↓reduceIte, zal, zam, zax, zak, zaj, zaq, zan]) | (with_reducible first | refine zcj yU yU yU yE ?_ | refine zdm ?_) | fail)
 simp only [setS, ↓reduceIte, zao, zar, List.map_cons, List.map_nil, zcd, zay]
 refine zoj yG rfl
theorem zzn (b cap : Nat) (d : List Rank) (junk : List V) : DC Try.prog 98 [rkV b d.length cap] (rkS b d junk) (fun u S' => u = I d.length ∧ S' = rkS b d junk) := by
 simp only [rkS, rkV]
 refine DC.of_run Try.func98 rfl Try.ntmps98 Try.results98 (by simp) (fun _ => ?_); simp only [zaf, zai, go_sem, Nat.zero_add, Nat.reduceAdd]
 repeat' (first | (with_reducible first | refine zad yU yU yE ?_ | refine zab ?_ | refine DS.seq ?_ | refine zaa ?_) | fail)
 refine zcl yG ⟨rfl, rfl⟩
end Go.XL
namespace Go.XL
open Go.Proofs
set_option maxRecDepth 100000
set_option maxHeartbeats 8000000
abbrev rkI (b n cap : Nat) : V := .v (.iface 65 (.slice (some ⟨b, 0, none⟩) n cap))
theorem zxw (p : Option Addr) (n c : Nat) : zyb Try.prog 65 (.slice p n c) "Less" 99 := fun _ => by kernel_rfl
theorem zxv (p : Option Addr) (n c : Nat) : zyb Try.prog 65 (.slice p n c) "Swap" 100 := fun _ => by kernel_rfl
theorem zsp (p : Option Addr) (n c : Nat) : zyb Try.prog 65 (.slice p n c) "Len" 98 := fun _ => by kernel_rfl
theorem zwn {D : Array Rank} {i : Nat} (h : i < D.toList.length) : D.toList[i] = D[i]! := by
 have h2 : i < D.size := by simpa using h
 rw [Array.getElem_toList, getElem!_pos D i h2]
theorem yci (b cap n : Nat) (D : Array Rank) (junk : List V) (hD : D.size = n) {i j : Nat} (hi : i < n) (hj : j < n) (hn : n ≤ 1000000 ∧ n ≤ cap) :
  DC Try.prog 99 [rkV b n cap, I i, I j] (rkS b D.toList junk) (fun u S' => u = Bo (zdp D[i]! D[j]!) ∧ S' = rkS b D.toList junk) := by
 have hl : D.toList.length = n := by simpa using hD
 have h := ych b cap D.toList junk (i := i) (j := j) (by omega) (by omega) (by omega)
 rw [zwn, zwn, hl] at h
 exact h
theorem ybp (b cap n : Nat) (D : Array Rank) (junk : List V) (hD : D.size = n) {i j : Nat} (hi : i < n) (hj : j < n) (hn : n ≤ 1000000 ∧ n ≤ cap) :
  DC Try.prog 100 [rkV b n cap, I i, I j] (rkS b D.toList junk) (fun u S' => S' = rkS b (Sort.swp D i j).toList junk) := by
 have hl : D.toList.length = n := by simpa using hD
 have h := ybo b cap D.toList junk (i := i) (j := j) (by omega) (by omega) (by omega)
 rw [hl] at h
 have e : (Sort.swp D i j).toList = swpL D.toList i j := by
  rw [Sort.swp, swpL, Array.toList_setIfInBounds, Array.toList_setIfInBounds, List.getD_eq_getElem?_getD, List.getD_eq_getElem?_getD, List.getElem?_eq_getElem (by omega), List.getElem?_eq_getElem (by omega), Option.getD_some, Option.getD_some, zwn, zwn]
 rw [e]
 exact h
theorem ybn (D : Array Rank) (i j : Nat) : (Sort.swp D i j).size = D.size := by simp [Sort.swp]
theorem zxs (b cap n : Nat) (d : Array Rank) (junk : List V) (hd : d.size = n) {a e : Nat} (hae : a ≤ e ∧ e ≤ n) (hn : n ≤ 1000000 ∧ n ≤ cap) :
  DC Try.prog 58 [rkI b n cap, I a, I e] (rkS b d.toList junk) (fun u S' => S' = rkS b (Sort.insertionSort zdp d a e).toList junk) := by
 rw [Sort.insertionSort]
 refine DC.of_run Try.func58 rfl Try.ntmps58 Try.results58 (by simp) (fun _ => ?_); simp only [zaf, zai, go_sem, Nat.zero_add, Nat.reduceAdd]
 repeat' (first | (with_reducible first | refine zad yU yU yE ?_ | refine zab ?_ | refine DS.seq ?_ | refine zaa ?_ | refine DS.block ?_) | fail)
 refine zda [0, 1, 2] yN (fun (y : Nat × Array Rank) => [(6, I y.1)]) (fun (y : Nat × Array Rank) => rkS b y.2.toList junk) (fun (y : Nat × Array Rank) => a < y.1 ∧ y.1 ≤ e + 1 ∧ y.2.size = n ∧ Sort.insOuter zdp a e (a + 1) d = Sort.insOuter zdp a e y.1 y.2) (fun (y : Nat × Array Rank) => e + 1 - y.1) (a + 1, d) yS (fun b o e => by exact e) ⟨by dsimp only; omega, by dsimp only; omega, hd, rfl⟩ (fun y B hI hB => ?_); try dsimp only at hI hB; simp only [zaw, zbg]
 obtain ⟨i, D⟩ := y
 dsimp only at hI hB ⊢
 obtain ⟨g1, g2, g3, g4⟩ := hI
 have H := Box.mk g4
 clear g4
 have hB0 := hB
 clear hB
 by_cases hi : (i : Int) < (e : Int)
 ·repeat' (first | (with_reducible first | refine zad yU yU yE ?_ | refine zab ?_ | refine DS.seq ?_ | refine zaa ?_ | (refine zbe yE ?_; refine zcy ?_) | refine DS.block ?_ | refine DS.skip ?_) | fail)
  refine zda [0, 1, 2, 6] yN (fun (z : Nat × Array Rank) => [(7, I z.1)]) (fun (z : Nat × Array Rank) => rkS b z.2.toList junk) (fun (z : Nat × Array Rank) => a ≤ z.1 ∧ z.1 ≤ i ∧ z.2.size = n ∧ Sort.insInner zdp a i D = Sort.insInner zdp a z.1 z.2) (fun (z : Nat × Array Rank) => z.1) (i, D) yS (fun b o e => by exact e) ⟨by dsimp only; omega, Nat.le_refl _, g3, rfl⟩ (fun z B hI hB => ?_); try dsimp only at hI hB; simp only [zaw, zbg]
  obtain ⟨j, D2⟩ := z
  dsimp only at hI hB ⊢
  obtain ⟨f1, f2, f3, f4⟩ := hI
  have H2 := Box.mk f4
  clear f4
  by_cases hj : (a : Int) < (j : Int)
  ·have hlt := yci b cap n D2 junk f3 (i := j) (j := j - 1) (by omega) (by omega) hn
   have hsw := ybp b cap n D2 junk f3 (i := j) (j := j - 1) (by omega) (by omega) hn
   have hj1 : ((j - 1 : Nat) : Int) = (j : Int) - 1 := by omega
   rw [hj1] at hlt hsw
   repeat' (first | (with_reducible first | refine zad yU yU yE ?_ | refine DS.seq ?_ | refine zaa ?_ | (refine zdv yU yE ?_; refine GG.run ?_)) | fail)
   refine DS.invoke inferInstance (zxw _ _ _) yH hlt yR yH (fun u S' hu => ?_)
   obtain ⟨rfl, rfl⟩ := hu
   cases hb : zdp D2[j]! D2[j - 1]! with
   | true =>
    repeat' (first | (with_reducible first | refine zad yU yU yE ?_ | refine zab ?_ | refine DS.seq ?_ | refine zaa ?_ | (refine zbe yE ?_; refine zcy ?_) | refine DS.block ?_ | refine DS.skip ?_) | fail)
    refine DS.invoke inferInstance (zxv _ _ _) yH hsw yR yH (fun u S' hu => ?_)
    subst hu
    repeat' (first | (with_reducible first | refine zad yU yU yE ?_ | refine zab ?_ | refine zaa ?_ | refine DS.blk ?_) | fail)
    refine DS.back (hB (j - 1, Sort.swp D2 j (j - 1)) _ _ (by dsimp only; omega) ⟨by dsimp only; omega, by dsimp only; omega, by rw [ybn]; exact f3, ?_⟩ (by dsimp only; rw [hj1]; exact yS) yS (fun d o e => by exact e))
    rw [H2.out, insInner_go zdp a j D2 (by omega) hb]
   | false =>
    repeat' (first | (with_reducible first | refine zad yU yU yE ?_ | refine zab ?_ | refine zaa ?_ | (refine zbe yE ?_; refine zdd ?_) | refine DS.blk ?_ | refine DS.exit yU ?_) | fail)
    refine DS.back (hB0 (i + 1, D2) _ _ (by dsimp only; omega) ⟨by dsimp only; omega, by dsimp only; omega, f3, ?_⟩ yS yS (fun d o e => by exact e))
    rw [H.out, insOuter_go zdp a e i D (by omega), H2.out, insInner_stop zdp a j D2 (.inr hb)]
  ·repeat' (first | (with_reducible first | refine zad yU yU yE ?_ | refine zab ?_ | refine DS.seq ?_ | refine zaa ?_ | (refine zbe yE ?_; refine zdd ?_) | (refine zdv yU yE ?_; refine zkb ?_) | refine DS.blk ?_ | refine DS.exit yU ?_) | fail)
   refine DS.back (hB0 (i + 1, D2) _ _ (by dsimp only; omega) ⟨by dsimp only; omega, by dsimp only; omega, f3, ?_⟩ yS yS (fun d o e => by exact e))
   rw [H.out, insOuter_go zdp a e i D (by omega), H2.out, insInner_stop zdp a j D2 (.inl (by omega))]
 ·have h2 : Sort.insOuter zdp a e (a + 1) d = D := by rw [H.out, insOuter_stop zdp a e i D (by omega)]
  rw [h2]
  repeat' (first | (with_reducible first | refine zad yU yU yE ?_ | refine zab ?_ | refine DS.seq ?_ | refine zaa ?_ | (refine zbe yE ?_; refine zdd ?_) | refine DS.exit yU ?_) | fail)
  refine zoj yG rfl
end Go.XL
namespace Go.XL
set_option maxHeartbeats 4000000
section
variable {v0 : VH} {P : Program} {n : Nat} {r : Rr} {Q : VEnv → Sto → Prop} {k : List Fr} {E : VEnv} {S : Sto} {dst : Option Tmp} {ty : TypeId} {pos : String} {af : Array Edge} {ts : Array TypeId}
theorem ztj {T : TypeId} {s : ByteArray} {x : Operand} {kd : IntKind} {i : Int} {b : UInt8} (hT : P.underlying T = some .string) (hx : evV E x = some (.v (.int kd i))) (h0 : 0 ≤ i) (hi : s[i.toNat]? = some b) :
  OpS v0 P n ⟨dst, .index T (.const (.string s)) x, ty, pos, af, none⟩ E S (fun v E' S' => v = .v (.int .u8 b.toNat) ∧ E' = E ∧ S' = S) := by
 intro K D hv hold env a w hfl ha s0
 obtain ⟨y, e1, e2⟩ := s0.rl _ _ hx
 simp only [V.Rl] at e2; subst e2
 have hrun : (execOp a.eval ⟨dst, .index T (.const (.string s)) x, ty, pos, af, none⟩).run P w = .ok (.value (.int .u8 b.toNat)) w := by
  have hc : a.eval (.const (.string s)) = .string s := rfl
  simp [execOp, Instr.index, run_underlying hT, ha.ev e1, hc, asIntOf, h0, hi]
 exact zcq hrun ⟨Same.refl w, _, E, S, hv, hold, PreV.refl hv, s0.put dst V.Rl_v fun _ _ => trivial, rfl, rfl, rfl⟩
theorem zuy {t : Nat} {T : TypeId} {s : ByteArray} {x : Operand} {kd : IntKind} {i : Int} {b : UInt8} {ops l : List Oper} (hd : decide (t < n) = true) (hT : P.underlying T = some .string) (hx : evV E x = some (.v (.int kd i))) (h0 : 0 ≤ i) (hi : s[i.toNat]? = some b)
  (q : DS P n r Q (.ops ops l :: k) ((t, .v (.int .u8 b.toNat)) :: E) S) : DS P n r Q (.ops ops (⟨some t, .index T (.const (.string s)) x, ty, pos, af, none⟩ :: l) :: k) E S := by
 refine zcu rfl rfl hd (ztj hT hx h0 hi) fun v E' S' ⟨h1, h2, h3⟩ => ?_
 subst h1; subst h2; subst h3; exact q
theorem ztl {t M i B : Nat} {T : TypeId} {s : ByteArray} {x : Operand} {kd : IntKind} {ops l : List Oper} (hd : decide (t < n) = true) (hT : P.underlying T = some .string) (hx : evV E x = some (.v (.int kd i))) (hs : ((List.range M).all fun i => match s[i]? with | some b => decide (b.toNat ≤ B) | none => false) = true) (hi : i < M)
  (q : ∀ m : Nat, m ≤ B → DS P n r Q (.ops ops l :: k) ((t, .v (.int .u8 m)) :: E) S) : DS P n r Q (.ops ops (⟨some t, .index T (.const (.string s)) x, ty, pos, af, none⟩ :: l) :: k) E S := by
 have h := List.all_eq_true.1 hs i (List.mem_range.2 hi)
 cases hb : s[i]? with
 | none => rw [hb] at h; cases h
 | some b =>
  rw [hb] at h
  exact zuy hd hT hx (Int.natCast_nonneg i) (by rw [Int.toNat_natCast]; exact hb) (q b.toNat (of_decide_eq_true h))
end
end Go.XL
namespace Go.XL
open Go.Proofs
set_option maxHeartbeats 4000000
section
variable {v0 : VH} {P : Program} {n : Nat} {E : VEnv} {S : Sto} {dst : Option Tmp} {ty : TypeId} {pos : String} {af : Array Edge}
theorem OpS.mono {o : Oper} {R R' : V → VEnv → Sto → Prop} (h : OpS v0 P n o E S R) (k : ∀ u E' S', R u E' S' → R' u E' S') : OpS v0 P n o E S R' := fun K D hv hold env a w h1 h2 h3 =>
 (h K D hv hold env a w h1 h2 h3).mono fun _ _ ⟨hs, u, E', S', hv', hold', p, q, r⟩ => ⟨hs, u, E', S', hv', hold', p, q, k _ _ _ r⟩
end
end Go.XL
namespace Go.XL
open Go.Proofs
set_option maxRecDepth 100000
set_option maxHeartbeats 8000000
theorem ne_cells {α : Type} {f : α → List V} (hf : ∀ a, f a ≠ []) (l : List α) : ∀ c ∈ l.map f, c ≠ [] := fun c hc => by
 obtain ⟨x, _, rfl⟩ := List.mem_map.1 hc; exact hf x
end Go.XL
namespace Go.XL
open Go.Proofs
set_option maxRecDepth 100000
set_option maxHeartbeats 8000000
theorem zqu {sz : Nat} : ∀ (n : Nat) (L : List V) (R : List (List V)), R.length = n → (∀ (k : Nat) (h : k < R.length), (L.drop (k * sz)).take sz = R[k]) → chunk sz n L = R
 | 0, L, R, hl, _ => by
  obtain rfl := List.eq_nil_of_length_eq_zero hl
  rfl
 | n + 1, L, [], hl, _ => by cases hl
 | n + 1, L, c :: R, hl, h => by
  have h0 := h 0 (by simp)
  rw [Nat.zero_mul, List.drop_zero, List.getElem_cons_zero] at h0
  have h1 := zqu n (L.drop sz) R (by simpa using hl) fun k hk => by
   have h2 := h (k + 1) (by simpa using hk)
   rw [List.getElem_cons_succ] at h2
   rw [List.drop_drop, ← h2]
   congr 2
   rw [Nat.succ_mul]; omega
  rw [chunk, h0, h1]
theorem PC.peek {P : Program} {f : FuncId} {args : List V} {v : V} (h : PC P f args v) : PC P f args v.peek := by
 intro v0 K hv hold hp xs hx ha s
 refine (h v0 K hv hold hp xs hx ha s).mono ?_
 rintro y h' ⟨u, S', hv', hold', p, st, rfl⟩
 refine ⟨u.peek, S', hv', hold', p, ⟨st.pre, fun t w e => ?_, st.obj, st.held, st.base, st.vbase⟩, rfl⟩
 rw [zah] at e
 split at e
 ·rename_i ht
  cases e
  obtain ⟨z, h1, h2, -⟩ := st.slot t u (by rw [zah, if_pos ht])
  exact ⟨z, h1, V.peek_Rl h2, V.free_Own (zcx u) z⟩
 ·cases e
theorem ygy {α : Type} {f : α → List V} (hf : ∀ a, (f a).length = 3) (junk : List V) : ∀ (R : List α) (k : Nat) (h : k < R.length) (j : Nat), j < 3 → ((R.map f).flatten ++ junk)[k * 3 + j]? = (f R[k])[j]?
 | [], k, h, _, _ => by cases h
 | a :: R, 0, h, j, hj => by
  rw [List.map_cons, List.flatten_cons, List.append_assoc, Nat.zero_mul, Nat.zero_add, List.getElem?_append_left (by rw [hf]; exact hj)]
  rfl
 | a :: R, k + 1, h, j, hj => by
  have h1 := ygy hf junk R k (by simpa using h) j hj
  rw [List.map_cons, List.flatten_cons, List.append_assoc, List.getElem?_append_right (by rw [hf]; omega), hf, show (k + 1) * 3 + j - 3 = k * 3 + j by omega, h1]
  rfl
theorem zsn {α : Type} {f : α → List V} (hf : ∀ a, (f a).length = 3) (R : List α) : (R.map f).flatten.length = R.length * 3 := by
 rw [zhl (sz := 3) (fun c hc => by obtain ⟨a, -, rfl⟩ := List.mem_map.1 hc; exact hf a), List.length_map]
structure SitAt (L : List V) (R : List Sitting) : Prop where
 len : R.length * 3 ≤ L.length
 tab : ∀ (k : Nat) (h : k < R.length), L[k * 3]? = some (rows R[k].tables)
 pts : ∀ (k : Nat) (h : k < R.length), L[k * 3 + 1]? = some (rows R[k].points)
 rul : ∀ (k : Nat) (h : k < R.length), L[k * 3 + 2]? = some (.lst (R[k].rulings.map Ruling.cells))
structure RulAt (L : List V) (R : List Ruling) : Prop where
 len : R.length * 3 ≤ L.length
 rnd : ∀ (k : Nat) (h : k < R.length), L[k * 3]? = some (I R[k].round)
 tab : ∀ (k : Nat) (h : k < R.length), L[k * 3 + 1]? = some (I R[k].table)
 pts : ∀ (k : Nat) (h : k < R.length), L[k * 3 + 2]? = some (ints R[k].points)
theorem zpj {L : List V} {i : Nat} {a b c : V} (h0 : L[i]? = some a) (h1 : L[i + 1]? = some b) (h2 : L[i + 2]? = some c) : (L.drop i).take 3 = [a, b, c] := by
 obtain ⟨k0, e0⟩ := List.getElem?_eq_some_iff.1 h0
 obtain ⟨k1, e1⟩ := List.getElem?_eq_some_iff.1 h1
 obtain ⟨k2, e2⟩ := List.getElem?_eq_some_iff.1 h2
 rw [List.drop_eq_getElem_cons k0, List.drop_eq_getElem_cons k1, List.drop_eq_getElem_cons k2, e0, e1, e2]
 rfl
theorem zjf {L : List V} {i : Nat} {a : V} (h : L[i]? = some a) : (L.map V.copy)[i]? = some a.copy := by rw [List.getElem?_map, h]; rfl
theorem SitAt.chunk {L : List V} {R : List Sitting} (h : SitAt L R) : chunk 3 R.length (L.map V.copy) = R.map Sitting.cells :=
 zqu _ _ _ (by rw [List.length_map]) fun k hk => by
  rw [List.length_map] at hk
  rw [zpj (zjf (h.tab k hk)) (zjf (h.pts k hk)) (zjf (h.rul k hk)), List.getElem_map]
  rfl
theorem RulAt.chunk {L : List V} {R : List Ruling} (h : RulAt L R) : chunk 3 R.length (L.map V.copy) = R.map Ruling.cells :=
 zqu _ _ _ (by rw [List.length_map]) fun k hk => by
  rw [List.length_map] at hk
  rw [zpj (zjf (h.rnd k hk)) (zjf (h.tab k hk)) (zjf (h.pts k hk)), List.getElem_map]
  rfl
theorem zhs {α : Type} {L : List α} {i j : Nat} {x y : α} (h : L[j]? = some y) (hi : i ≠ j) : (L.set i x)[j]? = some y := by
 rw [List.getElem?_set_ne hi]; exact h
theorem zmf {α : Type} {L : List α} {i : Nat} {x : α} (h : i < L.length) : (L.set i x)[i]? = some x := by
 rw [List.getElem?_set, if_pos rfl, if_pos h]
theorem SitAt.put {L : List V} {R : List Sitting} {i : Nat} (h : SitAt L R) (hi : i < R.length) :
  SitAt (((L.set (i * 3) (.lst (R[i].tables.map cR))).set (i * 3 + 1) (.lst (R[i].points.map cR))).set (i * 3 + 2) (.lst (R[i].rulings.map Ruling.cells))) R where
 len := by simp only [List.length_set]; exact h.len
 tab := fun k hk => by
  have hl := h.len
  refine zhs (zhs ?_ (by omega)) (by omega)
  by_cases e : i = k
  ·subst e; exact zmf (by omega)
  ·exact zhs (h.tab k hk) (by omega)
 pts := fun k hk => by
  have hl := h.len
  refine zhs ?_ (by omega)
  by_cases e : i = k
  ·subst e; exact zmf (by simp only [List.length_set]; omega)
  ·exact zhs (zhs (h.pts k hk) (by omega)) (by omega)
 rul := fun k hk => by
  have hl := h.len
  by_cases e : i = k
  ·subst e; exact zmf (by simp only [List.length_set]; omega)
  ·exact zhs (zhs (zhs (h.rul k hk) (by omega)) (by omega)) (by omega)
theorem zmz {L : List V} {i : Nat} {x : V} (h : L[i]? = some x) : (L.map V.peek)[i]? = some x.peek := by rw [List.getElem?_map, h]; rfl
theorem SitAt.peek {L : List V} {R : List Sitting} (h : SitAt L R) : SitAt (L.map V.peek) R where
 len := by rw [List.length_map]; exact h.len
 tab := fun k hk => zmz (h.tab k hk)
 pts := fun k hk => zmz (h.pts k hk)
 rul := fun k hk => zmz (h.rul k hk)
theorem RulAt.put {L : List V} {R : List Ruling} {i : Nat} {m : Bool} {T s : Nat} (h : RulAt L R) (hi : i < R.length) :
  RulAt ((L.set (i * 3 + 2) (.own m T s (R[i].points.map cI))).map V.peek) R where
 len := by rw [List.length_map, List.length_set]; exact h.len
 rnd := fun k hk => zmz (zhs (h.rnd k hk) (by omega))
 tab := fun k hk => zmz (zhs (h.tab k hk) (by omega))
 pts := fun k hk => by
  have hl := h.len
  by_cases e : i = k
  ·subst e; exact zmz (zmf (by omega))
  ·exact zmz (zhs (h.pts k hk) (by omega))
end Go.XL
namespace Go.XL
open Go.Proofs
set_option maxRecDepth 100000
set_option maxHeartbeats 8000000
theorem SitAt.flat {L : List V} {R : List Sitting} (h : SitAt L R) : L = (R.map Sitting.cells).flatten ++ L.drop (R.length * 3) := by
 apply List.ext_getElem?
 intro i
 by_cases hi : i < R.length * 3
 ·obtain ⟨k, j, hj, rfl⟩ : ∃ k j, j < 3 ∧ i = k * 3 + j := ⟨i / 3, i % 3, by omega, by omega⟩
  have hk : k < R.length := by omega
  rw [ygy Sitting.len _ R k hk j hj]
  rcases (by omega : j = 0 ∨ j = 1 ∨ j = 2) with rfl | rfl | rfl
  ·rw [Nat.add_zero, h.tab k hk]; rfl
  ·rw [h.pts k hk]; rfl
  ·rw [h.rul k hk]; rfl
 ·rw [List.getElem?_append_right (by rw [zsn Sitting.len]; omega), zsn Sitting.len, List.getElem?_drop]
  congr 1; omega
theorem zyp (R : List Sitting) : ∀ v ∈ (R.map Sitting.cells).flatten, v.free = true := fun v hv => by
 obtain ⟨l, h1, h2⟩ := List.mem_flatten.1 hv
 obtain ⟨s, -, rfl⟩ := List.mem_map.1 h1
 simp only [Sitting.cells, List.mem_cons, List.not_mem_nil, or_false] at h2
 rcases h2 with rfl | rfl | rfl <;> rfl
theorem SitAt.ok {L : List V} {R : List Sitting} (h : SitAt L R) {b cap : Nat} {S : Sto} {e : Nat} (hS : zac S b = some (.cells (L.map V.peek) e)) (hl : L.length = cap * 3) (hc : R.length ≤ cap ∧ cap ≤ maxLen) : ∃ g : GR, g.cell = .v (.slice (some ⟨b, 0, none⟩) R.length cap) ∧ g.Ok e 3 S ∧ g.l = R.map Sitting.cells := by
 have hp := h.peek
 have hln := h.len
 refine ⟨⟨R.map Sitting.cells, some (b, cap, (L.map V.peek).drop (R.length * 3))⟩, by rw [GR.cell_some, List.length_map], ⟨by rw [hS]; congr 2; exact hp.flat, ?_, by rw [List.length_map]; exact hc.1, hc.2, fun v hv => ?_, zyp R, fun c hc => ?_⟩, rfl⟩
 ·rw [List.length_map, List.length_drop, List.length_map]; omega
 ·obtain ⟨u, -, rfl⟩ := List.mem_map.1 (List.mem_of_mem_drop hv)
  exact zcx u
 ·obtain ⟨s, -, rfl⟩ := List.mem_map.1 hc; rfl
end Go.XL
