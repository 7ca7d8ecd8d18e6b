/- A part of a program logic over the kit's walk rules, and contracts of functions in it. Conditions: as each theorem says. -/
import Derived.Test.YtlcigmnkfilebaaGreatT3
set_option linter.all false
namespace Go.XL
open Go.Proofs
theorem zkm (c : Club) : PC Tryz.prog 48 [c.val] (I (zfi c)) := by
 refine DC.of_run Tryz.func48 rfl Tryz.ntmps48 Tryz.results48 (by simp) (fun _ => ?_); simp only [zaq, zau, go_sem, Nat.zero_add, Nat.reduceAdd]
 repeat' (first | (with_reducible first | refine zac yU yU yE ?_ | refine zab ?_ | refine DS.seq ?_ | refine zaa ?_ | (refine zbd yE ?_; first | refine zgb (fun _ => ?_) (fun _ => ?_) | refine zde ?_) | (refine zdz yU yE ?_; first | refine zvj (fun _ => ?_) (fun _ => ?_) | refine GG.run ?_ | refine ztg ?_) | refine DS.block ?_ | refine DS.skip ?_) | refine zcf inferInstance (zhm _ _ _) yR yT ?_ | (refine zdb (t := 1) yU yE yU ?_; simp only [zbu, zcx, zbt, zcj, zbq, zbm, zbx, zbp, zcr, zcv, zcd, zcu, zch, zcg]) | refine zbi [] yE trivial ?_ | fail)
 all_goals try (simp [tupV, zfi, zgq, *]; done)
 rename_i g1 g2 g3 g4 g5
 refine zcn [1] yN (fun (i : Nat × Int) => [(3, I i.2), (4, I i.1)]) (fun (i : Nat × Int) => i.1 ≤ c.places.length ∧ zfi c = zei 1000000 (c.places.drop i.1) (0 - i.2) ∧ -1000000 * i.1 ≤ i.2 ∧ i.2 ≤ 1000000 * i.1) (fun (i : Nat × Int) => c.places.length - i.1) (0, 0) yS (by simp [zfi, zgq, *]) (fun i B hI hB => ?_); try dsimp only at hI hB; simp only [zas, zaw]
 repeat' (first | (with_reducible first | refine zac yU yU yE ?_ | refine zab ?_ | refine DS.seq ?_ | refine zaa ?_ | (refine zbd yE ?_; first | refine zgb (fun _ => ?_) (fun _ => ?_) | refine zel (fun _ => ?_) (fun _ => ?_)) | refine DS.blk ?_ | refine DS.block ?_ | refine DS.exit yU ?_ | refine DS.skip ?_) | refine zcf inferInstance (zhm _ _ _) yR yT ?_ | refine zbi [] yE trivial ?_ | fail)
 ·rename_i q1 q2
  obtain ⟨_, r, dr1, rfl, dr3⟩ := zco (l := c.places) (i := i.1) (by omega); rw [dr1] at hI
  rw [hI.2.1]; simp [zei, tupV, q2]
 ·rename_i q1 q2
  obtain ⟨_, r, dr1, rfl, dr3⟩ := zco (l := c.places) (i := i.1) (by omega); rw [dr1] at hI
  have q4 := q2
  exact DS.back (hB (i.1 + 1, i.2 + c.places[i.1]) _ _ (by simp; omega) (⟨by simp; omega, by rw [hI.2.1, dr3, zei, if_pos q2]; congr 1; omega, by simp; omega, by simp; omega⟩) yS yS (fun b o e => by first | exact e | (simp only [zae]; split <;> simp_all)))
 ·have de1 := zeo (l := c.places) (i := i.1) (by omega); rw [de1] at hI
  rw [hI.2.1, zei, if_neg (by omega)]; rfl
 ·have de1 := zeo (l := c.places) (i := i.1) (by omega); rw [de1] at hI
  rw [hI.2.1, zei, if_pos (by omega)]; rfl
theorem zls (c : Club) (hm : c.members.length ≤ 1000000) : PC Tryz.prog 49 [c.val] (I (zen c.members)) := by
 refine DC.of_run Tryz.func49 rfl Tryz.ntmps49 Tryz.results49 (by simp) (fun _ => ?_); simp only [zaq, zau, go_sem, Nat.zero_add, Nat.reduceAdd]
 repeat' (first | (with_reducible first | refine zac yU yU yE ?_ | refine zab ?_ | refine DS.seq ?_ | refine zaa ?_ | (refine zbd yE ?_; refine zel (fun _ => ?_) (fun _ => ?_)) | refine DS.block ?_ | refine DS.skip ?_) | (refine zdb (t := 1) yU yE yU ?_; simp only [zbu, zcx, zbt, zcj, zbq, zbm, zbx, zbp, zcr, zcv, zcd, zcu, zch, zcg]) | refine zbi [] yE trivial ?_ | fail)
 ·rename_i q; rw [zen, if_pos (by omega)]; rfl
 refine zcn [1] yN (fun (i : Nat × Int) => [(3, I i.2), (4, I i.1)]) (fun (i : Nat × Int) => i.1 ≤ c.members.length ∧ zen c.members = zdi (c.members.drop i.1) i.2) (fun (i : Nat × Int) => c.members.length - i.1) (0, 0) yS (by simp [zen]; omega) (fun i B hI hB => ?_); try dsimp only at hI hB; simp only [zas, zaw]
 repeat' (first | (with_reducible first | refine zac yU yU yE ?_ | refine zab ?_ | refine DS.seq ?_ | refine zaa ?_ | (refine zbd yE ?_; first | refine zgb (fun _ => ?_) (fun _ => ?_) | refine zel (fun _ => ?_) (fun _ => ?_) | refine zde ?_ | refine zdk ?_) | (refine zdz yU yE ?_; first | refine yaj ?_ | refine ylj (fun _ => ?_) (fun _ => ?_) | refine zvj (fun _ => ?_) (fun _ => ?_) | refine GG.run ?_ | refine zfo ?_ | refine ztg ?_) | refine DS.blk ?_ | refine DS.block ?_ | refine DS.exit yU ?_ | refine DS.skip ?_) | (refine zia (t := 5) yU yE yU (fun _ => yE) yE yU (by exact ⟨by with_unfolding_all rfl, by with_unfolding_all decide⟩) (fun _ => by simp only [go_sem, Nat.reduceEqDiff, ↓reduceIte]) ?_; simp only [go_sem]) | refine zcf inferInstance (zhm _ _ _) yR yT ?_ | refine zbi [] yE trivial ?_ | fail)
 all_goals try first | (clear hB; obtain ⟨_, r, dr1, rfl, dr3⟩ := zco (l := c.members) (i := i.1) (by omega); rw [dr1] at hI; rw [hI.2]; simp [tupV, zdi, *]; done) | (clear hB; have de1 := zeo (l := c.members) (i := i.1) (by omega); rw [de1] at hI; rw [hI.2]; simp [tupV, zdi, *]; done)
 ·obtain ⟨_, r, dr1, rfl, dr3⟩ := zco (l := c.members) (i := i.1) (by omega); rw [dr1] at hI
  exact DS.back (hB (i.1 + 1, c.members[i.1].id) _ _ (by simp; omega) (⟨by simp; omega, by rw [hI.2, dr3]; simp [zdi, *]⟩) yS yS (fun b o e => by first | exact e | (simp only [zae]; split <;> simp_all)))
 ·obtain ⟨_, r, dr1, rfl, dr3⟩ := zco (l := c.members) (i := i.1) (by omega); rw [dr1] at hI
  exact DS.back (hB (i.1 + 1, c.members[i.1].id) _ _ (by simp; omega) (⟨by simp; omega, by rw [hI.2, dr3]; simp [zdi, *]⟩) yS yS (fun b o e => by first | exact e | (simp only [zae]; split <;> simp_all)))
theorem zrb {c : Club} {a b : Int} (h : ¬ (0 ≤ a ∧ a ≤ (c.rounds.length : Int) - 1)) : zfe c a b = false := by simp only [zfe, h, false_and, decide_false]
theorem zmb {c : Club} {i : Nat} (h : i < c.rounds.length) (b : Int) : zfe c i b = decide ((0 ≤ b ∧ b ≤ (c.rounds[i].points.length : Int) - 1) ∧ 0 < (c.rounds[i].points.getD b.toNat []).length) := by
 have h1 : (0 : Int) ≤ i ∧ (i : Int) ≤ (c.rounds.length : Int) - 1 := by omega
 simp only [zfe, h1, true_and, and_self, c.round_at h]
theorem yfz (c : Club) (hs : c.Small) (a b : Int) : PC Tryz.prog 97 [c.val, I a, I b] (Bo (zfe c a b)) := by
 have h1 := hs.rounds
 by_cases ha : 0 ≤ a ∧ a ≤ (c.rounds.length : Int) - 1
 ·obtain ⟨i, rfl⟩ := Int.eq_ofNat_of_zero_le ha.1
  have hi : i < c.rounds.length := by omega
  have h2 := (hs.at hi).points
  rw [zmb hi]
  refine DC.of_run Tryz.func97 rfl Tryz.ntmps97 Tryz.results97 (by simp) (fun _ => ?_); simp only [zaq, zau, go_sem, Nat.zero_add, Nat.reduceAdd]
  repeat' (first | (with_reducible first | refine zac yU yU yE ?_ | refine zab ?_ | refine DS.seq ?_ | refine zaa ?_ | (refine zdz yU yE ?_; first | refine zow (fun _ => ?_) (fun _ => ?_) | refine GG.run ?_ | refine zfo ?_)) | refine zcf inferInstance (zhm _ _ _) yR yT ?_ | (refine zdb (t := 3) yU yE yU ?_; simp only [zbu, zcx, zbt, zcj, zbq, zbm, zbx, zbp, zcr, zcv, zcd, zcu, zch, zcg]) | refine zbi [] yE trivial ?_ | fail)
  ·rename_i q1 q2
   have : b.toNat < c.rounds[i].points.length := by omega
   simp [tupV, List.getD_eq_getElem?_getD, *]
  ·simp [tupV, *]
 ·rw [zrb ha]
  refine DC.of_run Tryz.func97 rfl Tryz.ntmps97 Tryz.results97 (by simp) (fun _ => ?_); simp only [zaq, zau, go_sem, Nat.zero_add, Nat.reduceAdd]
  repeat' (first | (with_reducible first | refine zac yU yU yE ?_ | refine zab ?_ | refine DS.seq ?_ | refine zaa ?_ | (refine zdz yU yE ?_; refine zfo ?_)) | refine zcf inferInstance (zhm _ _ _) yR yT ?_ | (refine zdb (t := 3) yU yE yU ?_; simp only [zbu, zcx, zbt, zcj, zbq, zbm, zbx, zbp, zcr, zcv, zcd, zcu, zch, zcg]) | refine zbi [] yE trivial ?_ | fail)
  all_goals first | rfl | omega
theorem ztt (c : Club) (hs : c.Small) (h1 : c.size ≤ 4) (h2 : 0 ≤ c.size) (h3 : 0 ≤ c.start ∧ c.start ≤ 1000000) {i : Nat} (hi : i < c.rounds.length) : PC Tryz.prog 51 [c.val, I i] (I (zfl c i)) := by
 have q1 := hs.rounds
 have q2 := hs.at hi
 have q3 := q2.points
 have q4 := q2.tables
 rw [zfl, c.round_at hi]
 refine DC.of_run Tryz.func51 rfl Tryz.ntmps51 Tryz.results51 (by simp) (fun _ => ?_); simp only [zaq, zau, go_sem, Nat.zero_add, Nat.reduceAdd]
 repeat' (first | (with_reducible first | refine zac yU yU yE ?_ | refine zab ?_ | refine DS.seq ?_ | refine zaa ?_ | (refine zbd yE ?_; refine zgb (fun _ => ?_) (fun _ => ?_)) | refine DS.block ?_ | refine DS.skip ?_) | (refine zia (t := 5) yU yE yU (fun _ => yE) yE yU (by exact ⟨by with_unfolding_all rfl, by with_unfolding_all decide⟩) (fun _ => by simp only [go_sem, Nat.reduceEqDiff, ↓reduceIte]) ?_; simp only [go_sem]) | (refine zdb (t := 2) yU yE yU ?_; simp only [zbu, zcx, zbt, zcj, zbq, zbm, zbx, zbp, zcr, zcv, zcd, zcu, zch, zcg]) | refine zbi [] yE trivial ?_ | fail)
 ·rename_i q; rw [if_pos (by omega)]; simp [tupV]
 refine zcn [2, 5] yN (fun (k : Nat) => [(6, I k)]) (fun (k : Nat) => k ≤ c.rounds[i].points.length ∧ zdm c c.rounds[i].points = zdm c (c.rounds[i].points.drop k)) (fun (k : Nat) => c.rounds[i].points.length - k) 0 yS (by simp) (fun k B hI hB => ?_); try dsimp only at hI hB; simp only [zas, zaw]
 repeat' (first | (with_reducible first | refine zac yU yU yE ?_ | refine zab ?_ | refine DS.seq ?_ | refine zaa ?_ | (refine zbd yE ?_; first | refine zgb (fun _ => ?_) (fun _ => ?_) | refine zel (fun _ => ?_) (fun _ => ?_)) | refine DS.blk ?_ | refine DS.block ?_ | refine DS.exit yU ?_ | refine DS.skip ?_) | refine zcf inferInstance (yda c _ h1 h2 h3) yR yT ?_ | refine zce (id := 8) [0, 1, 2, 3, 4, 5] 6 (by kernel_rfl) zdq (by simp only [zbb, zbe, zbf, zbg, zba]; exact rfl) (by simp only [zax, zay, List.drop_nil]; exact rfl) ?_ | (with_reducible first | refine zbw yU yU yU yE ?_ | refine zdc ?_) | refine zbi [] yE trivial ?_ | fail)
 ·rename_i e1 e2 e3
  obtain ⟨_, r, dr1, rfl, dr3⟩ := zco (l := c.rounds[i].points) (i := k) (by omega); rw [dr1] at hI
  exact DS.back (hB (k + 1) _ _ (by omega) (⟨by omega, by rw [hI.2, dr3, zdm, if_pos (by omega)]⟩) yS yS (fun b o e => by first | exact e | (simp only [zae]; split <;> simp_all)))
 ·rename_i e1 e2 e3 e4
  obtain ⟨_, r, dr1, rfl, dr3⟩ := zco (l := c.rounds[i].points) (i := k) (by omega); rw [dr1] at hI
  rw [if_neg (by omega), hI.2, zdm, if_neg (by omega), if_pos e4]; rfl
 ·rename_i e1 e2 e3 e4
  obtain ⟨_, r, dr1, rfl, dr3⟩ := zco (l := c.rounds[i].points) (i := k) (by omega); rw [dr1] at hI
  exact DS.back (hB (k + 1) _ _ (by omega) (⟨by omega, by rw [hI.2, dr3, zdm, if_neg (by omega), if_neg (by omega)]⟩) yS yS (fun b o e => by first | exact e | (simp only [zae]; split <;> simp_all)))
 ·rename_i e1 e2
  have de1 := zeo (l := c.rounds[i].points) (i := k) (by omega); rw [de1] at hI
  rw [if_neg (by omega), hI.2]; rfl
theorem zsv (c : Club) (hs : c.Small) (h1 : c.size ≤ 4) (h2 : 0 ≤ c.size) (h3 : 0 ≤ c.start ∧ c.start ≤ 1000000) (h4 : 0 ≤ c.window ∧ c.window ≤ 20) {i : Nat} (hi : i < c.rounds.length) : PC Tryz.prog 52 [c.val, I i] (I (zfa c i)) := by
 have q1 := hs.rounds
 have q2 := hs.at hi
 have q3 := q2.rulings
 rw [zfa, c.round_at hi]
 refine DC.of_run Tryz.func52 rfl Tryz.ntmps52 Tryz.results52 (by simp) (fun _ => ?_); simp only [zaq, zau, go_sem, Nat.zero_add, Nat.reduceAdd]
 repeat' (first | (with_reducible first | refine zac yU yU yE ?_ | refine zab ?_ | refine DS.seq ?_ | refine zaa ?_ | (refine zbd yE ?_; refine zel (fun _ => ?_) (fun _ => ?_)) | refine DS.block ?_ | refine DS.skip ?_) | (refine zdb (t := 2) yU yE yU ?_; simp only [zbu, zcx, zbt, zcj, zbq, zbm, zbx, zbp, zcr, zcv, zcd, zcu, zch, zcg]) | refine zbi [] yE trivial ?_ | fail)
 ·rename_i q; rw [if_pos (by omega)]; simp [tupV]
 refine zcn [1, 2, 5] yN (fun (k : Nat) => [(6, I k)]) (fun (k : Nat) => k ≤ c.rounds[i].rulings.length ∧ zct c i c.rounds[i].rulings = zct c i (c.rounds[i].rulings.drop k)) (fun (k : Nat) => c.rounds[i].rulings.length - k) 0 yS (by simp) (fun k B hI hB => ?_); try dsimp only at hI hB; simp only [zas, zaw]
 repeat' (first | (with_reducible first | refine zac yU yU yE ?_ | refine zab ?_ | refine DS.seq ?_ | refine zaa ?_ | (refine zbd yE ?_; first | refine zgb (fun _ => ?_) (fun _ => ?_) | refine zel (fun _ => ?_) (fun _ => ?_) | refine yaq (fun _ => ?_) (fun _ => ?_)) | refine DS.blk ?_ | refine DS.block ?_ | refine DS.exit yU ?_ | refine DS.skip ?_) | refine zcf inferInstance (zhm _ _ _) yR yT ?_ | refine zcf inferInstance (yda c _ h1 h2 h3) yR yT ?_ | refine zcf inferInstance (yfz c hs _ _) yR yT ?_ | refine zce (id := 11) [0, 1, 2, 3, 4, 5] 6 (by kernel_rfl) zdq (by simp only [zbb, zbe, zbf, zbg, zba]; exact rfl) (by simp only [zax, zay, List.drop_nil]; exact rfl) ?_ | refine zce (id := 7) [0, 1, 2, 3, 4, 5, 6, 7, 8, 9, 10] 11 (by kernel_rfl) zdq (by simp only [zbb, zbe, zbf, zbg, zba]; exact rfl) (by simp only [zax, zay, List.drop_nil]; exact rfl) ?_ | refine zce (id := 9) [0, 1, 2, 3, 4, 5, 6, 7, 8, 9, 10] 11 (by kernel_rfl) zdq (by simp only [zbb, zbe, zbf, zbg, zba]; exact rfl) (by simp only [zax, zay, List.drop_nil]; exact rfl) ?_ | (with_reducible first | refine zbw yU yU yU yE ?_ | refine zdc ?_) | refine zbi [] yE trivial ?_ | fail)
 ·rename_i e1 e2 e3
  obtain ⟨_, r, dr1, rfl, dr3⟩ := zco (l := c.rounds[i].rulings) (i := k) (by omega); rw [dr1] at hI
  rw [if_neg (by omega), hI.2, zct, if_pos (by omega)]; rfl
 ·rename_i e1 e2 e3 e4
  obtain ⟨_, r, dr1, rfl, dr3⟩ := zco (l := c.rounds[i].rulings) (i := k) (by omega); rw [dr1] at hI
  rw [if_neg (by omega), hI.2, zct, if_neg (by omega), if_pos e4]; rfl
 ·rename_i e1 e2 e3 e4 e5
  obtain ⟨_, r, dr1, rfl, dr3⟩ := zco (l := c.rounds[i].rulings) (i := k) (by omega); rw [dr1] at hI
  rw [if_neg (by omega), hI.2, zct, if_neg (by omega), if_neg (by simp [e4]), if_pos e5]; rfl
 ·rename_i e1 e2 e3 e4 e5
  obtain ⟨_, r, dr1, rfl, dr3⟩ := zco (l := c.rounds[i].rulings) (i := k) (by omega); rw [dr1] at hI
  exact DS.back (hB (k + 1) _ _ (by omega) (⟨by omega, by rw [hI.2, dr3, zct, if_neg (by omega), if_neg (by simp [e4]), if_neg (by omega)]⟩) yS yS (fun b o e => by first | exact e | (simp only [zae]; split <;> simp_all)))
 ·rename_i e1 e2
  have de1 := zeo (l := c.rounds[i].rulings) (i := k) (by omega); rw [de1] at hI
  rw [if_neg (by omega), hI.2]; rfl
end Go.XL
namespace Go.XL
open Go.Proofs
set_option maxRecDepth 100000
set_option maxHeartbeats 4000000
theorem yqp {t : List Int} {p : Int → Bool} {k : Nat} (h : k < t.length) (e : p t[k] = true) : t.any p = true := List.any_eq_true.2 ⟨_, List.getElem_mem h, e⟩
theorem zsa {t : List Int} (h : 0 < t.length) : t.headD 0 = t[0] := by
 cases t with
 | nil => simp at h
 | cons a r => rfl
def zmk (t : List Int) (k : Nat) : Option Int := if k = 0 then none else t[k - 1]?
theorem zgm {t : List Int} {k : Nat} (h : k < t.length) : zmk t (k + 1) = some t[k] := by simp [zmk, List.getElem?_eq_getElem h]
theorem zht {t : List Int} {k : Nat} (h : k < t.length) (hk : 0 < k) : ∃ hk' : k - 1 < t.length, zmk t k = some t[k - 1] := ⟨by omega, by simp [zmk, Nat.pos_iff_ne_zero.1 hk, List.getElem?_eq_getElem (show k - 1 < t.length by omega)]⟩
theorem zoh {c : Club} {round : Int} : ∀ {t : List Int} {pre : Option Int}, zdw c round t pre = 0 → ∀ id ∈ t, ¬ zfs c id < 0
 | [], _, _, _, h => (List.not_mem_nil h).elim
 | x :: t, pre, e, id, h => by
  simp only [zdw] at e
  split at e
  ·cases e
  rename_i h1
  split at e
  ·cases e
  split at e
  ·cases e
  rcases List.mem_cons.1 h with rfl | h
  ·exact h1
  ·exact zoh e id h
theorem ygh {c : Club} (f : c.Fine) {id : Int} (h : ¬ zfs c id < 0) : 0 < id := by
 obtain ⟨i, hi, _, e, _⟩ := zgu h
 have := f.pos _ (List.getElem_mem hi)
 omega
theorem zpq {c : Club} {round first : Int} {t : List Int} {l : List (List Int)} {s : List Int} (h : ¬ (t.length : Int) = c.size) : zdl c round (t :: l) s first = 3 := by rw [zdl, if_pos h]
theorem zgi {c : Club} {round first e : Int} {t : List Int} {l : List (List Int)} {s : List Int} (h : (t.length : Int) = c.size) (h1 : zdw c round t none = e) (h2 : e ≠ 0) : zdl c round (t :: l) s first = e := by
 rw [zdl, if_neg (by omega), if_pos (by rw [h1]; exact h2), h1]
theorem zmo {c : Club} {round first : Int} {t : List Int} {l : List (List Int)} {s : List Int} (h : (t.length : Int) = c.size) (h1 : zdw c round t none = 0) {k : Nat} (hk : k < t.length) (h2 : t[k] ∈ s) : zdl c round (t :: l) s first = 12 := by
 rw [zdl, if_neg (by omega), if_neg (by omega), if_pos (yqp hk (by simpa using h2))]
theorem zmn {c : Club} {round first : Int} {t : List Int} {l : List (List Int)} {s : List Int} (h : (t.length : Int) = c.size) (h1 : zdw c round t none = 0) (h2 : ∀ x ∈ t, ¬ x ∈ s) (h3 : t.headD 0 ≤ first) : zdl c round (t :: l) s first = 11 := by
 rw [zdl, if_neg (by omega), if_neg (by omega), if_neg (by simp only [List.any_eq_true, not_exists, not_and]; intro x hx; simpa using h2 x hx), if_pos h3]
theorem zkd {c : Club} {round first : Int} {t : List Int} {l : List (List Int)} {s : List Int} (h : (t.length : Int) = c.size) (h1 : zdw c round t none = 0) (h2 : ∀ x ∈ t, ¬ x ∈ s) (h3 : ¬ t.headD 0 ≤ first) : zdl c round (t :: l) s first = zdl c round l (s ++ t) (t.headD 0) := by
 rw [zdl, if_neg (by omega), if_neg (by omega), if_neg (by simp only [List.any_eq_true, not_exists, not_and]; intro x hx; simpa using h2 x hx), if_neg h3]
def znb (T : List (List Int)) (k : Nat) : Int := if k = 0 then 0 else (T.getD (k - 1) []).headD 0
theorem zlm {T : List (List Int)} {k : Nat} (h : k < T.length) : znb T (k + 1) = T[k].headD 0 := by
 simp [znb, List.getD_eq_getElem?_getD, List.getElem?_eq_getElem h]
theorem yX0 {p : Prop} (h : p := by first | exact rfl | (simp (disch := omega) only [go_sem, dopV, yV0, ↓reduceIte, Nat.reduceEqDiff, Nat.reduceLT, Nat.reduceLeDiff, Nat.reduceAdd, Nat.reduceMul, Nat.reduceSub, Int.reduceToNat, Int.reduceLT, Int.reduceLE, Int.reduceEq, IntWalk.toNatUp, IntWalk.iteOmega, IntWalk.i64_in, V.flat, V.one, *]; exact rfl)) : p := h
theorem zts (c : Club) (hs : c.Small) (f : c.Fine) (h1 : c.size ≤ 4) (h2 : 3 ≤ c.size) {i : Nat} (hi : i < c.rounds.length) : PC Tryz.prog 50 [c.val, I i] (I (zex c i)) := by
 have q1 := hs.rounds
 have q2 := hs.at hi
 have q3 := q2.tables
 have q4 := hs.members
 rw [zex, c.round_at hi]
 refine DC.of_run Tryz.func50 rfl Tryz.ntmps50 Tryz.results50 (by simp) (fun _ => ?_); simp only [zaq, zau, go_sem, Nat.zero_add, Nat.reduceAdd]
 repeat' (first | (with_reducible first | (refine zdu (t := 5) yU yO yE ?_) | refine zac yU yU yE ?_ | refine zab ?_ | refine DS.seq ?_ | refine zaa ?_ | refine DS.block ?_) | (refine zdb (t := 2) yU yE yU ?_; simp only [zbu, zcx, zbt, zcj, zbq, zbm, zbx, zbp, zcr, zcv, zcd, zcu, zch, zcg]) | fail)
 refine zcn [1, 2, 6] yN (fun (k : Nat × List Int) => [(5, .own false 3 1 (k.2.map cI)), (7, I k.1)]) (fun (k : Nat × List Int) => k.1 ≤ c.rounds[i].tables.length ∧ k.2.length ≤ 4 * k.1 ∧ zdl c i c.rounds[i].tables [] 0 = zdl c i (c.rounds[i].tables.drop k.1) k.2 (znb c.rounds[i].tables k.1) ∧ (∀ j, j < k.1 → ∀ h : j < c.rounds[i].tables.length, 0 < c.rounds[i].tables[j].length)) (fun (k : Nat × List Int) => c.rounds[i].tables.length - k.1) (0, []) yS (by simp [znb]) (fun k B hI hB => ?_); try dsimp only at hI hB; simp only [zas, zaw]
 have hB0 := hB
 have hI0 := hI
 repeat' (first | (with_reducible first | refine zac yU yU yE ?_ | refine zab ?_ | refine DS.seq ?_ | refine zaa ?_ | (refine zbd yE ?_; first | refine zgb (fun _ => ?_) (fun _ => ?_) | refine zel (fun _ => ?_) (fun _ => ?_)) | refine DS.block ?_ | refine DS.exit yU ?_ | refine DS.skip ?_) | refine zce (id := 6) [0, 1, 2, 3, 4, 5, 6] 7 (by kernel_rfl) zdq (by simp only [zbb, zbe, zbf, zbg, zba]; exact rfl) (by simp only [zax, zay, List.drop_nil]; exact rfl) ?_ | (with_reducible first | refine zbw yU yU yU yE ?_ | refine zdc ?_) | refine zbi [] yE trivial ?_ | fail)
 ·rename_i e1 e2
  obtain ⟨_, r, dr1, rfl, dr3⟩ := zco (l := c.rounds[i].tables) (i := k.1) (by omega); rw [dr1] at hI
  rw [hI.2.2.1, zpq e2]; rfl
 ·rename_i e1 e2
  have hk : k.1 < c.rounds[i].tables.length := by omega
  refine zcn [1, 2, 5, 6, 7] yN (fun (j : Nat) => [(8, I j)]) (fun (j : Nat) => j ≤ c.rounds[i].tables[k.1].length ∧ zdw c i c.rounds[i].tables[k.1] none = zdw c i (c.rounds[i].tables[k.1].drop j) (zmk c.rounds[i].tables[k.1] j)) (fun (j : Nat) => c.rounds[i].tables[k.1].length - j) 0 yS (by simp [zmk]) (fun j B hI hB => ?_); try dsimp only at hI hB; simp only [zas, zaw]
  repeat' (first | (with_reducible first | refine zac yU yU yE ?_ | refine zab ?_ | refine DS.seq ?_ | refine zaa ?_ | (refine zbd yE ?_; refine zel (fun _ => ?_) (fun _ => ?_)) | refine DS.block ?_ | refine DS.exit yU ?_ | refine DS.skip ?_) | refine zcf inferInstance (zjt c _ (by omega)) yR yT ?_ | refine zce (id := 11) [0, 1, 2, 3, 4, 5, 6, 7] 8 (by kernel_rfl) zdq (by simp only [zbb, zbe, zbf, zbg, zba]; exact rfl) (by simp only [zax, zay, List.drop_nil]; exact rfl) ?_ | (with_reducible first | refine zbw yU yU yU yE ?_ | refine zdc ?_) | refine zbi [] yE trivial ?_ | fail)
  ·rename_i e3 e4
   obtain ⟨_, r, dr1, rfl, dr3⟩ := zco (l := c.rounds[i].tables[k.1]) (i := j) (by omega); rw [dr1] at hI
   obtain ⟨_, r0, dr4, rfl, dr6⟩ := zco (l := c.rounds[i].tables) (i := k.1) (by omega); rw [dr4] at hI0
   rw [hI0.2.2.1, zgi (e := 7) e2 (by rw [hI.2, zdw, if_pos e4]) (by decide)]; rfl
  ·rename_i e3 e4
   obtain ⟨m, hm, e5, -, e7⟩ := zgu e4
   have H := And.intro e5 e7
   simp only [e5]
   clear e5 e7 e4
   repeat' (first | (with_reducible first | refine zac yU yU yE ?_ | refine zab ?_ | refine DS.seq ?_ | refine zaa ?_ | (refine zbd yE ?_; first | refine zel (fun _ => ?_) (fun _ => ?_) | refine zdk ?_ | refine yaq (fun _ => ?_) (fun _ => ?_)) | (refine zdz yU yE ?_; first | refine GG.run ?_ | refine zfo ?_) | refine DS.blk ?_ | refine DS.skip ?_) | refine zcf inferInstance (zqz _ _) yR yT ?_ | refine zce (id := 16) [0, 1, 2, 3, 4, 5, 6, 7, 8, 9, 10, 11, 12, 13, 14, 15, 16, 17] 18 (by kernel_rfl) zdq (by simp only [zbb, zbe, zbf, zbg, zba]; exact rfl) (by simp only [zax, zay, List.drop_nil]; exact rfl) ?_ | (with_reducible first | refine zbw yU yU yU yE ?_ | (refine zni yU yE ?_; first | refine zvl (fun _ => ?_) (fun _ => ?_) | refine DGG.run ?_ | refine zmt ?_) | refine zdc ?_) | refine zbi [] yE trivial ?_ | fail)
   all_goals have e8 := zpd (f.to _ (List.getElem_mem hm)) i
   all_goals obtain ⟨_, r, dr1, rfl, dr3⟩ := zco (l := c.rounds[i].tables[k.1]) (i := j) (by omega); rw [dr1] at hI
   ·rename_i e9
    rw [e8] at e9
    obtain ⟨_, r0, dr4, rfl, dr6⟩ := zco (l := c.rounds[i].tables) (i := k.1) (by omega); rw [dr4] at hI0
    rw [hI0.2.2.1, zgi (e := 10) e2 (by rw [hI.2, zdw, if_neg (by rw [H.1]; omega), if_pos (by rw [H.2]; exact e9)]) (by decide)]; rfl
   ·rename_i e9 e10 e11
    rw [e8] at e9
    obtain ⟨e12, e13⟩ := zht (t := c.rounds[i].tables[k.1]) (k := j) (by omega) (by omega)
    obtain ⟨_, r0, dr4, rfl, dr6⟩ := zco (l := c.rounds[i].tables) (i := k.1) (by omega); rw [dr4] at hI0
    rw [hI0.2.2.1, zgi (e := 11) e2 (by rw [hI.2, zdw, if_neg (by rw [H.1]; omega), if_neg (by rw [H.2, e9]; decide), if_pos (by rw [e13]; simp only [zib]; exact decide_eq_true e11)]) (by decide)]; rfl
   ·rename_i e9 e10 e11
    rw [e8] at e9
    obtain ⟨e12, e13⟩ := zht (t := c.rounds[i].tables[k.1]) (k := j) (by omega) (by omega)
    exact DS.back (hB (j + 1) _ _ (by omega) (⟨by omega, by rw [hI.2, dr3, zdw, if_neg (by rw [H.1]; omega), if_neg (by rw [H.2, e9]; decide), if_neg (by rw [e13]; simp only [zib]; simpa using e11), zgm (by omega)]⟩) yS yS (fun b o e => by first | exact e | (simp only [zae]; split <;> simp_all)))
   ·rename_i e9 e10
    rw [e8] at e9
    have e13 : zib (zmk c.rounds[i].tables[k.1] j) c.rounds[i].tables[k.1][j] = false := by
     have : j = 0 := by omega
     subst this; rfl
    exact DS.back (hB (j + 1) _ _ (by omega) (⟨by omega, by rw [hI.2, dr3, zdw, if_neg (by rw [H.1]; omega), if_neg (by rw [H.2, e9]; decide), if_neg (by rw [e13]; decide), zgm (by omega)]⟩) yS yS (fun b o e => by first | exact e | (simp only [zae]; split <;> simp_all)))
  ·rename_i e3
   have hids : zdw c i c.rounds[i].tables[k.1] none = 0 := by rw [hI.2, List.drop_eq_nil_of_le (by omega)]; rfl
   clear hI hB
   refine zcn [1, 2, 5, 6, 7] yN (fun (j : Nat) => [(10, I j)]) (fun (j : Nat) => j ≤ c.rounds[i].tables[k.1].length ∧ ∀ m, m < j → ∀ h : m < c.rounds[i].tables[k.1].length, ¬ c.rounds[i].tables[k.1][m] ∈ k.2) (fun (j : Nat) => c.rounds[i].tables[k.1].length - j) 0 yS (by simp) (fun j B hI hB => ?_); try dsimp only at hI hB; simp only [zas, zaw]
   repeat' (first | (with_reducible refine zeg (t := 5) yU yO yE ?_; simp only [zao, zaf, zah, Nat.reduceEqDiff, ↓reduceIte, zak, zal, zar, zaj, zai, zap, zam]) | (with_reducible refine zeg (t := 109) yU yO yE ?_; simp only [zao, zaf, zah, Nat.reduceEqDiff, ↓reduceIte, zak, zal, zar, zaj, zai, zap, zam]) | (with_reducible first | refine zac yU yU yE ?_ | refine zab ?_ | refine DS.seq ?_ | refine zaa ?_ | (refine zbd yE ?_; first | refine zel (fun _ => ?_) (fun _ => ?_) | refine zdk ?_) | (refine zdz yU yE ?_; refine zfo ?_) | refine DS.blk ?_ | refine DS.block ?_ | refine DS.exit yU ?_ | refine DS.skip ?_) | (refine DS.append (mm := false) yU yE yE yU (by decide) yE (by first | exact .inl rfl | exact .inr ⟨rfl, rfl⟩) yE yX0 (by first | exact zat zdt _ | exact zat zeq _ | exact zat Member.len _ | exact zat Sitting.len _ | exact zat Ruling.len _ | (simp only [List.mem_cons, List.not_mem_nil, or_false, forall_eq]; rfl) | simp) ⟨by (try simp only [List.length_map, List.length_cons, List.length_nil, List.length_append, List.length_take, List.length_drop]); omega, by decide⟩ ?_; simp only [zao, zaf, zah, Nat.reduceEqDiff, ↓reduceIte, zak, zal, zar, zaj, zai, zap, zam]) | refine zcf inferInstance (yjj _ _) yR yT ?_ | refine zce (id := 23) [0, 1, 2, 3, 4, 5, 6, 7, 8, 9, 10, 11, 12, 13, 14, 15] 16 (by kernel_rfl) zdq (by simp only [zbb, zbe, zbf, zbg, zba]; exact rfl) (by simp only [zax, zay, List.drop_nil]; exact rfl) ?_ | (with_reducible first | refine zbw yU yU yU yE ?_ | (refine zni yU yE ?_; first | refine zvl (fun _ => ?_) (fun _ => ?_) | refine DGG.run ?_ | refine zmt ?_) | refine zdc ?_) | refine zbi [] yE trivial ?_ | fail)
   ·rename_i e4 e5
    obtain ⟨_, r0, dr4, rfl, dr6⟩ := zco (l := c.rounds[i].tables) (i := k.1) (by omega); rw [dr4] at hI0
    rw [hI0.2.2.1, zmo e2 hids (k := j) (by omega) e5]; rfl
   ·rename_i e4 e5
    exact DS.back (hB (j + 1) _ _ (by omega) (⟨by omega, fun m hm h => by
     by_cases hmj : m = j
     ·subst hmj; exact e5
     ·exact hI.2 m (by omega) h⟩) yS yS (fun b o e => by first | exact e | (simp only [zae]; split <;> simp_all)))
   all_goals
    rename_i e4 e5
    have hno : ∀ x ∈ c.rounds[i].tables[k.1], ¬ x ∈ k.2 := fun x hx => by
     obtain ⟨m, hm, rfl⟩ := List.getElem_of_mem hx
     exact hI.2 m (by omega) hm
    have hhd := zsa (t := c.rounds[i].tables[k.1]) (by omega)
    have hmem := zoh hids _ (List.getElem_mem (show 0 < c.rounds[i].tables[k.1].length by omega))
    have hpos := ygh f hmem
    have hlen : (k.2 ++ c.rounds[i].tables[k.1]).length ≤ 4 * (k.1 + 1) := by simp; omega
    have hall : ∀ m, m < k.1 + 1 → ∀ h : m < c.rounds[i].tables.length, 0 < c.rounds[i].tables[m].length := fun m hm h => by
     by_cases hmj : m = k.1
     ·subst hmj; omega
     ·exact hI0.2.2.2 m (by omega) h
   ·have hprev := hI0.2.2.2 (k.1 - 1) (by omega) (by omega)
    have hf : znb c.rounds[i].tables k.1 = c.rounds[i].tables[k.1 - 1][0] := by
     have := zlm (T := c.rounds[i].tables) (k := k.1 - 1) (by omega)
     rw [show k.1 - 1 + 1 = k.1 by omega] at this
     rw [this, zsa hprev]
    have H := And.intro hno (And.intro hhd (And.intro hlen (And.intro hall hf)))
    clear hno hhd hlen hall hf hmem
    repeat' (first | (with_reducible refine zeg (t := 5) yU yO yE ?_; simp only [zao, zaf, zah, Nat.reduceEqDiff, ↓reduceIte, zak, zal, zar, zaj, zai, zap, zam]) | (with_reducible refine zeg (t := 109) yU yO yE ?_; simp only [zao, zaf, zah, Nat.reduceEqDiff, ↓reduceIte, zak, zal, zar, zaj, zai, zap, zam]) | (with_reducible first | refine zac yU yU yE ?_ | refine zab ?_ | refine DS.seq ?_ | refine zaa ?_ | (refine zbd yE ?_; refine zel (fun _ => ?_) (fun _ => ?_)) | (refine zdz yU yE ?_; refine GG.run ?_) | refine DS.blk ?_ | refine DS.skip ?_) | (refine DS.append (mm := false) yU yE yE yU (by decide) yE (by first | exact .inl rfl | exact .inr ⟨rfl, rfl⟩) yE yX0 (by first | exact zat zdt _ | exact zat zeq _ | exact zat Member.len _ | exact zat Sitting.len _ | exact zat Ruling.len _ | (simp only [List.mem_cons, List.not_mem_nil, or_false, forall_eq]; rfl) | simp) ⟨by (try simp only [List.length_map, List.length_cons, List.length_nil, List.length_append, List.length_take, List.length_drop]); omega, by decide⟩ ?_; simp only [zao, zaf, zah, Nat.reduceEqDiff, ↓reduceIte, zak, zal, zar, zaj, zai, zap, zam]) | (with_reducible first | refine zbw yU yU yU yE ?_ | (refine zni yU yE ?_; refine DGG.run ?_) | refine zdc ?_) | refine zbi [] yE trivial ?_ | fail)
    ·rename_i e6
     obtain ⟨_, r0, dr4, rfl, dr6⟩ := zco (l := c.rounds[i].tables) (i := k.1) (by omega); rw [dr4] at hI0
     rw [hI0.2.2.1, zmn e2 hids H.1 (by rw [H.2.1, H.2.2.2.2]; exact e6)]; rfl
    ·rename_i e6
     obtain ⟨_, r0, dr4, rfl, dr6⟩ := zco (l := c.rounds[i].tables) (i := k.1) (by omega); rw [dr4] at hI0
     refine DS.back (hB0 (k.1 + 1, k.2 ++ c.rounds[i].tables[k.1]) _ _ (by simp; omega) ⟨by simp; omega, H.2.2.1, ?_, H.2.2.2.1⟩ yS yS (fun b o e => by exact e))
     rw [hI0.2.2.1, dr6, zkd e2 hids H.1 (by rw [H.2.1, H.2.2.2.2]; exact e6), zlm (by omega)]
   ·have hf : znb c.rounds[i].tables k.1 = 0 := by simp [znb]; omega
    have H := And.intro hno (And.intro hhd (And.intro hlen (And.intro hall hf)))
    clear hno hhd hlen hall hf hmem
    obtain ⟨_, r0, dr4, rfl, dr6⟩ := zco (l := c.rounds[i].tables) (i := k.1) (by omega); rw [dr4] at hI0
    refine DS.back (hB0 (k.1 + 1, k.2 ++ c.rounds[i].tables[k.1]) _ _ (by simp; omega) ⟨by simp; omega, H.2.2.1, ?_, H.2.2.2.1⟩ yS yS (fun b o e => by exact e))
    rw [hI0.2.2.1, dr6, zkd e2 hids H.1 (by rw [H.2.1, H.2.2.2.2]; omega), zlm (by omega)]
 ·rename_i e1
  have de1 := zeo (l := c.rounds[i].tables) (i := k.1) (by omega); rw [de1] at hI
  rw [hI.2.2.1]; rfl
end Go.XL
namespace Go.XL
open Go.Proofs
set_option maxRecDepth 100000
set_option maxHeartbeats 4000000
theorem zke {c : Club} (h : zfi c = 0) : (3 ≤ c.size ∧ c.size ≤ 4) ∧ (0 ≤ c.start ∧ c.start ≤ 1000000) ∧ (-1000000 ≤ c.absent ∧ c.absent ≤ 1000000) ∧ (0 ≤ c.window ∧ c.window ≤ 20) ∧ zgq c.size c.places 1000000 0 = 0 := by
 unfold zfi at h
 split at h
 ·cases h
 split at h
 ·cases h
 split at h
 ·cases h
 split at h
 ·cases h
 rename_i h1 h2 h3 h4
 exact ⟨Decidable.not_not.1 h1, Decidable.not_not.1 h2, Decidable.not_not.1 h3, Decidable.not_not.1 h4, h⟩
theorem zhe {c : Club} {i : Nat} (h : i < c.rounds.length) : zed c i (c.rounds.length - i) = if zex c i ≠ 0 then zex c i else if zgr c i ≠ 0 then zgr c i else zed c (i + 1) (c.rounds.length - (i + 1)) := by
 rw [show c.rounds.length - i = (c.rounds.length - (i + 1)) + 1 by omega, zed]
theorem zuc {c : Club} {i : Nat} (h : i < c.rounds.length) (h1 : ¬ zex c i = 0) : zed c i (c.rounds.length - i) = zex c i := by rw [zhe h, if_pos h1]
theorem yfw {c : Club} {i : Nat} (h : i < c.rounds.length) (h1 : zex c i = 0) (h2 : ¬ zfl c i = 0) : zed c i (c.rounds.length - i) = zfl c i := by
 have e : zgr c i = zfl c i := by rw [zgr, if_pos h2]
 rw [zhe h, if_neg (by omega), e, if_pos h2]
theorem yfv {c : Club} {i : Nat} (h : i < c.rounds.length) (h1 : zex c i = 0) (h2 : zfl c i = 0) (h3 : ¬ zfa c i = 0) : zed c i (c.rounds.length - i) = zfa c i := by
 have e : zgr c i = zfa c i := by rw [zgr, if_neg (by omega)]
 rw [zhe h, if_neg (by omega), e, if_pos h3]
theorem yfu {c : Club} {i : Nat} (h : i < c.rounds.length) (h1 : zex c i = 0) (h2 : zfl c i = 0) (h3 : zfa c i = 0) : zed c i (c.rounds.length - i) = zed c (i + 1 : Nat) (c.rounds.length - (i + 1)) := by
 have e : zgr c i = zfa c i := by rw [zgr, if_neg (by omega)]
 rw [zhe h, if_neg (by omega), e, if_neg (by omega)]
theorem zsw (c : Club) (hs : c.Small) : PC Tryz.prog 13 [c.val] (I (zdd c)) := by
 have q1 := hs.rounds
 have q2 := hs.members
 by_cases hr : zfi c = 0
 ·obtain ⟨g1, g2, g3, g4, g5⟩ := zke hr
  by_cases hm : zen c.members = 0
  ·have f := zwz hm
   rw [zdd, if_neg (by omega), if_neg (by omega)]
   refine DC.of_run Tryz.func13 rfl Tryz.ntmps13 Tryz.results13 (by simp) (fun _ => ?_); simp only [zaq, zau, go_sem, Nat.zero_add, Nat.reduceAdd]
   repeat' (first | (with_reducible first | refine zac yU yU yE ?_ | refine zab ?_ | refine DS.seq ?_ | refine zaa ?_ | (refine zbd yE ?_; first | refine zel (fun _ => ?_) (fun _ => ?_) | refine zdk ?_) | refine DS.block ?_ | refine DS.skip ?_) | refine zcf inferInstance (zkm c) yR yT ?_ | refine zcf inferInstance (zls c q2) yR yT ?_ | (refine zdb (t := 1) yU yE yU ?_; simp only [zbu, zcx, zbt, zcj, zbq, zbm, zbx, zbp, zcr, zcv, zcd, zcu, zch, zcg]) | refine zbi [] yE trivial ?_ | fail)
   ·rw [if_pos (by omega)]; rfl
   rename_i q3
   rw [if_neg (by omega)]
   refine zcn [1] yN (fun (i : Nat) => [(5, I i)]) (fun (i : Nat) => i ≤ c.rounds.length ∧ zed c 0 c.rounds.length = zed c i (c.rounds.length - i)) (fun (i : Nat) => c.rounds.length - i) 0 yS (by simp) (fun i B hI hB => ?_); try dsimp only at hI hB; simp only [zas, zaw]
   repeat' (first | (with_reducible first | refine zac yU yU yE ?_ | refine zab ?_ | refine DS.seq ?_ | refine zaa ?_ | (refine zbd yE ?_; first | refine zgb (fun _ => ?_) (fun _ => ?_) | refine zel (fun _ => ?_) (fun _ => ?_)) | refine DS.blk ?_ | refine DS.block ?_ | refine DS.exit yU ?_ | refine DS.skip ?_) | refine zcf inferInstance (zts c hs f g1.2 g1.1 (i := i) (by omega)) yR yT ?_ | refine zcf inferInstance (ztt c hs g1.2 (by omega) g2 (i := i) (by omega)) yR yT ?_ | refine zcf inferInstance (zsv c hs g1.2 (by omega) g2 g4 (i := i) (by omega)) yR yT ?_ | refine zbi [] yE trivial ?_ | fail)
   ·rename_i e1 e2
    rw [hI.2, zuc (by omega) e2]; rfl
   ·rename_i e1 e2 e3
    rw [hI.2, yfw (by omega) e2 e3]; rfl
   ·rename_i e1 e2 e3 e4
    rw [hI.2, yfv (by omega) e2 e3 e4]; rfl
   ·rename_i e1 e2 e3 e4
    exact DS.back (hB (i + 1) _ _ (by omega) (⟨by omega, by rw [hI.2, yfu (by omega) e2 e3 e4]⟩) yS yS (fun b o e => by first | exact e | (simp only [zae]; split <;> simp_all)))
   ·rename_i e1
    rw [hI.2, show c.rounds.length - i = 0 by omega]; rfl
  ·rw [zdd, if_neg (by omega), if_pos hm]
   refine DC.of_run Tryz.func13 rfl Tryz.ntmps13 Tryz.results13 (by simp) (fun _ => ?_); simp only [zaq, zau, go_sem, Nat.zero_add, Nat.reduceAdd]
   repeat' (first | (with_reducible first | refine zac yU yU yE ?_ | refine zab ?_ | refine DS.seq ?_ | refine zaa ?_ | (refine zbd yE ?_; first | refine zde ?_ | refine zdk ?_) | refine DS.skip ?_) | refine zcf inferInstance (zkm c) yR yT ?_ | refine zcf inferInstance (zls c q2) yR yT ?_ | (refine zdb (t := 1) yU yE yU ?_; simp only [zbu, zcx, zbt, zcj, zbq, zbm, zbx, zbp, zcr, zcv, zcd, zcu, zch, zcg]) | refine zbi [] yE trivial ?_ | fail)
   rfl
 ·rw [zdd, if_pos hr]
  refine DC.of_run Tryz.func13 rfl Tryz.ntmps13 Tryz.results13 (by simp) (fun _ => ?_); simp only [zaq, zau, go_sem, Nat.zero_add, Nat.reduceAdd]
  repeat' (first | (with_reducible first | refine zac yU yU yE ?_ | refine zab ?_ | refine DS.seq ?_ | refine zaa ?_ | (refine zbd yE ?_; refine zde ?_)) | refine zcf inferInstance (zkm c) yR yT ?_ | (refine zdb (t := 1) yU yE yU ?_; simp only [zbu, zcx, zbt, zcj, zbq, zbm, zbx, zbp, zcr, zcv, zcd, zcu, zch, zcg]) | refine zbi [] yE trivial ?_ | fail)
  rfl
def zqh (c : Club) (round : Int) : List Int := (c.members.filter (fun m => m.playsR round)).map Member.id
theorem zsu {c : Club} (h : zdd c = 0) : c.Fine := by
 unfold zdd at h
 split at h
 ·contradiction
 split at h
 ·contradiction
 rename_i h1 h2
 exact zwz (by omega)
theorem ybd {c : Club} (f : c.Fine) (round : Int) : zqh c round = zfb c round := by
 unfold zqh zfb
 congr 1
 apply List.filter_congr
 intro m hm
 exact zpd (f.to m hm) round
theorem zra (c : Club) (hs : c.Small) (round : Int) : PC Tryz.prog 18 [c.val, I round] (.own false 3 1 ((zcs c round).map cI)) := by
 have q1 := hs.members
 refine DC.of_run Tryz.func18 rfl Tryz.ntmps18 Tryz.results18 (by simp) (fun _ => ?_); simp only [zaq, zau, go_sem, Nat.zero_add, Nat.reduceAdd]
 repeat' (first | (with_reducible first | (refine zdu (t := 4) yU yO yE ?_) | (refine zdu (t := 5) yU yO yE ?_) | refine zac yU yU yE ?_ | refine zab ?_ | refine DS.seq ?_ | refine zaa ?_ | (refine zbd yE ?_; first | refine zel (fun _ => ?_) (fun _ => ?_) | refine zde ?_) | (refine zdz yU yE ?_; first | refine zvj (fun _ => ?_) (fun _ => ?_) | refine GG.run ?_ | refine ztg ?_) | refine DS.block ?_ | refine DS.skip ?_) | refine zcf inferInstance (zsw c hs) yR yT ?_ | (refine zdb (t := 2) yU yE yU ?_; simp only [zbu, zcx, zbt, zcj, zbq, zbm, zbx, zbp, zcr, zcv, zcd, zcu, zch, zcg]) | refine zbi [] yE trivial ?_ | fail)
 ·rename_i e1 e2; rw [zcs, if_pos e2]; rfl
 ·rename_i e1 e2
  rw [zcs, if_neg e2, if_neg (by omega)]
  refine zcn [1, 2] yN (fun (k : Nat × List Int) => [(5, .own false 3 1 (k.2.map cI)), (6, I k.1)]) (fun (k : Nat × List Int) => k.1 ≤ c.members.length ∧ k.2.length ≤ k.1 ∧ k.2 ++ ((c.members.drop k.1).filter (fun m => m.playsR round)).map Member.id = zqh c round) (fun (k : Nat × List Int) => c.members.length - k.1) (0, []) yS (by simp [zqh]) (fun k B hI hB => ?_); try dsimp only at hI hB; simp only [zas, zaw]
  repeat' (first | (with_reducible refine zeg (t := 4) yU yO yE ?_; simp only [zao, zaf, zah, Nat.reduceEqDiff, ↓reduceIte, zak, zal, zar, zaj, zai, zap, zam]) | (with_reducible refine zeg (t := 5) yU yO yE ?_; simp only [zao, zaf, zah, Nat.reduceEqDiff, ↓reduceIte, zak, zal, zar, zaj, zai, zap, zam]) | (with_reducible refine zeg (t := 28) yU yO yE ?_; simp only [zao, zaf, zah, Nat.reduceEqDiff, ↓reduceIte, zak, zal, zar, zaj, zai, zap, zam]) | (with_reducible refine zeg (t := 37) yU yO yE ?_; simp only [zao, zaf, zah, Nat.reduceEqDiff, ↓reduceIte, zak, zal, zar, zaj, zai, zap, zam]) | (with_reducible first | refine zac yU yU yE ?_ | refine zab ?_ | refine DS.seq ?_ | refine zaa ?_ | (refine zbd yE ?_; first | refine zel (fun _ => ?_) (fun _ => ?_) | refine yha (fun _ => ?_) (fun _ => ?_)) | refine DS.blk ?_ | refine DS.block ?_ | refine DS.exit yU ?_ | refine DS.skip ?_) | (refine zfg yU yE yE ?_; simp only [go_sem, Nat.zero_add, Nat.reduceAdd]) | (refine DS.append (mm := false) yU yE yE yU (by decide) yE (by first | exact .inl rfl | exact .inr ⟨rfl, rfl⟩) yE yX0 (by first | exact zat zdt _ | exact zat zeq _ | exact zat Member.len _ | exact zat Sitting.len _ | exact zat Ruling.len _ | (simp only [List.mem_cons, List.not_mem_nil, or_false, forall_eq]; rfl) | simp) ⟨by (try simp only [List.length_map, List.length_cons, List.length_nil, List.length_append, List.length_take, List.length_drop]); omega, by decide⟩ ?_; simp only [zao, zaf, zah, Nat.reduceEqDiff, ↓reduceIte, zak, zal, zar, zaj, zai, zap, zam]) | refine zcf inferInstance (zqz _ _) yR yT ?_ | refine zbi [] yE trivial ?_ | fail)
  ·rename_i e2 e3
   obtain ⟨_, r, dr1, rfl, dr3⟩ := zco (l := c.members) (i := k.1) (by omega); rw [dr1] at hI
   exact DS.back (hB (k.1 + 1, k.2 ++ [c.members[k.1].id]) _ _ (by simp; omega) (⟨by simp; omega, by simp; omega, by rw [← hI.2.2, dr3, List.filter_cons, if_pos e3]; simp⟩) yS yS (fun b o e => by first | exact e | (simp only [zae]; split <;> simp_all)))
  ·rename_i e2 e3
   obtain ⟨_, r, dr1, rfl, dr3⟩ := zco (l := c.members) (i := k.1) (by omega); rw [dr1] at hI
   exact DS.back (hB (k.1 + 1, k.2) _ _ (by simp; omega) (⟨by simp; omega, by simp; omega, by rw [← hI.2.2, dr3, List.filter_cons, if_neg (by simp [e3])]⟩) yS yS (fun b o e => by first | exact e | (simp only [zae]; split <;> simp_all)))
  ·rename_i e2
   have de1 := zeo (l := c.members) (i := k.1) (by omega); rw [de1] at hI
   rw [← ybd (zsu e1), ← hI.2.2]; simp [tupV]
 ·rename_i e1; rw [zcs]; split <;> first | rfl | (rw [if_pos e1]; rfl)
end Go.XL
namespace Go.XL
open Go.Proofs
set_option maxRecDepth 100000
set_option maxHeartbeats 4000000
def sC (c : Club) (rs : List (List Int)) (bp R : Nat) (mt : V) (budget steps : Int) : List V :=
 [I c.size, I c.start, I c.absent, I c.window, ints c.places, Bo c.share, .lst (c.members.map Member.cells), .lst (c.rounds.map Sitting.cells), rows rs, .v (.slice (some ⟨bp, 0, none⟩) R R), mt, I budget, I steps]
@[go_sem] theorem ztj (c : Club) (rs : List (List Int)) (bp R : Nat) (mt : V) (budget steps : Int) : sC c rs bp R mt budget steps =
 [I c.size, I c.start, I c.absent, I c.window, ints c.places, Bo c.share, .lst (c.members.map Member.cells), .lst (c.rounds.map Sitting.cells), rows rs, .v (.slice (some ⟨bp, 0, none⟩) R R), mt, I budget, I steps] := rfl
def rowC (n b : Nat) : List V := [.v (.slice (some ⟨b, 0, none⟩) n n)]
@[go_sem] theorem rowC_eq (n b : Nat) : rowC n b = [.v (.slice (some ⟨b, 0, none⟩) n n)] := rfl
structure MetR (S : Sto) (bs : List Nat) (c : Club) (met : Int → Int → Bool) : Prop where
 len : bs.length = c.members.length
 row : ∀ (i : Nat) (h : i < bs.length) (h' : i < c.members.length), zad S bs[i] = some (.cells (c.members.map fun m => Bo (met c.members[i].id m.id)) 4)
theorem yX1 {p : Prop} (h : p := by (simp (disch := omega) only [go_sem, dopV, yV0, ↓reduceIte, Nat.reduceEqDiff, Nat.reduceLT, Nat.reduceLeDiff, Nat.reduceAdd, Nat.reduceMul, Nat.reduceSub, Int.reduceToNat, Int.reduceLT, Int.reduceLE, Int.reduceEq, IntWalk.toNatUp, IntWalk.iteOmega, IntWalk.i64_in, V.flat, V.one, *, ztj]; exact rfl)) : p := h
theorem yX2 {p : Prop} (h : p := by (simp (disch := omega) only [go_sem, dopV, yV0, ↓reduceIte, Nat.reduceEqDiff, Nat.reduceLT, Nat.reduceLeDiff, Nat.reduceAdd, Nat.reduceMul, Nat.reduceSub, Int.reduceToNat, Int.reduceLT, Int.reduceLE, Int.reduceEq, IntWalk.toNatUp, IntWalk.iteOmega, IntWalk.i64_in, V.flat, V.one, *, ztj]; try exact rfl)) : p := h
theorem yqk (S : Sto) {bx bp R : Nat} {c : Club} {rs : List (List Int)} {bs : List Nat} {budget steps : Int} {met : Int → Int → Bool} (hs : c.Small)
  (hx : zad S bx = some (.cells (sC c rs bp R (.own false 164 1 (bs.map (rowC c.members.length))) budget steps) 156)) (hm : MetR S bs c met) (t : List Int) (id : Int) (ht : ∀ a ∈ t, ¬ zfs c a < 0) (hid : ¬ zfs c id < 0) :
  RC Tryz.prog 143 [.v (.pointer (some ⟨bx, 0, none⟩)), ints t, I id] S (Bo (zcb met t id)) := by
 have q1 := hs.members
 obtain ⟨m2, hm2, f1, f2, -⟩ := zgu hid
 have hl := hm.len
 refine DC.of_run Tryz.func143 rfl Tryz.ntmps143 Tryz.results143 (by simp) (fun _ => ?_); simp only [zaq, zau, go_sem, Nat.zero_add, Nat.reduceAdd]
 refine zjc (t := 1) yG (.inl rfl) (fun hb1 => ?_); simp only [List.length_map] at hb1
 have H := And.intro f1 f2
 clear f1 f2
 repeat' (first | (with_reducible first | refine zac yU yU yE ?_ | refine zab ?_ | refine DS.seq ?_ | refine zaa ?_ | refine DS.block ?_) | fail)
 refine zcn [0, 1, 2] yN (fun (i : Nat) => [(7, I i)]) (fun (i : Nat) => i ≤ t.length ∧ zcb met t id = zcb met (t.drop i) id) (fun (i : Nat) => t.length - i) 0 yS (by simp) (fun i B hI hB => ?_); try dsimp only at hI hB; simp only [zas, zaw]
 repeat' (first | (with_reducible first | refine zac yU yU yX1 ?_ | refine zab ?_ | refine DS.seq ?_ | refine zaa ?_ | (refine zbd yX1 ?_; refine zel (fun _ => ?_) (fun _ => ?_)) | refine DS.block ?_ | refine DS.exit yU ?_ | refine DS.skip ?_) | refine zce (id := 4) [0, 1, 2, 3, 4, 5, 6, 7, 8, 9, 10, 11, 12, 13, 14, 15, 16, 17, 18, 19, 20] 21 (by kernel_rfl) zdq (by simp only [zbb, zbe, zbf, zbg, zba]; exact rfl) (by simp only [zax, zay, List.drop_nil]; exact rfl) ?_ | with_reducible refine zbw yU yU yU yX1 ?_ | refine zkr inferInstance (zjt c _ (by omega)) yU yX2 ?_ | refine zck yX1 ⟨?_, rfl⟩ | fail)
 ·obtain ⟨m1, hm1, g1, g2, -⟩ := zgu (ht t[i] (List.getElem_mem (by omega)))
  have hr := hm.row m1 (hl ▸ hm1) hm1
  have G := And.intro g2 H
  simp only [g1, H.1]
  clear g1 g2 H hid
  repeat' (first | (with_reducible first | refine zac yU yU yX1 ?_ | refine zab ?_ | refine DS.seq ?_ | refine zaa ?_ | (refine zbd yX1 ?_; refine yha (fun _ => ?_) (fun _ => ?_)) | refine DS.blk ?_ | refine DS.skip ?_ | refine zbw yU yU yU yX1 ?_ | refine zdc ?_) | refine zkr inferInstance (zjt c _ (by omega)) yU yX2 ?_ | refine zck yX1 ⟨?_, rfl⟩ | fail)
  ·rename_i e1 e2
   obtain ⟨_, r, dr1, rfl, dr3⟩ := zco (l := t) (i := i) (by omega); rw [dr1] at hI
   rw [hI.2]; simp [zcb, e2, tupV]
  ·rename_i e1 e2
   obtain ⟨_, r, dr1, rfl, dr3⟩ := zco (l := t) (i := i) (by omega); rw [dr1] at hI
   exact DS.back (hB (i + 1) _ _ (by omega) (⟨by omega, by rw [hI.2, dr3]; simp [zcb, e2]⟩) yS yS (fun b o e => by first | exact e | (simp only [zae]; split <;> simp_all)))
 ·have de1 := zeo (l := t) (i := i) (by omega); rw [de1] at hI
  rw [hI.2]; rfl
def zge (st : List Int → Int → Bool) (f : List Int → List Int → List (List Int)) (t : List Int) : List Int → List (List Int)
 | [] => []
 | id :: r => (if st t id = true then (f (t ++ [id]) r).map (id :: ·) else []) ++ zge st f t r
def zgy (st : List Int → Int → Bool) : Nat → List Int → List Int → List (List Int)
 | 0, _, _ => [[]]
 | n + 1, t, ids => zge st (zgy st n) t ids
theorem zrm (st : List Int → Int → Bool) : ∀ (n : Nat) (t ids : List Int), (zgy st n t ids).length ≤ (ids.length + 1) ^ n
 | 0, t, ids => by simp [zgy]
 | n + 1, t, ids => by
  have key : ∀ (l : List Int) (m : Nat), l.length ≤ m → (zge st (zgy st n) t l).length ≤ l.length * (m + 1) ^ n := by
   intro l
   induction l with
   | nil => intro m _; simp [zge]
   | cons id r ih =>
    intro m hm
    rw [List.length_cons] at hm
    simp only [zge, List.length_append, List.length_cons]
    have h1 := ih m (by omega)
    have h2 : (if st t id = true then (zgy st n (t ++ [id]) r).map (id :: ·) else []).length ≤ (m + 1) ^ n := by
     split
     ·rw [List.length_map]
      exact Nat.le_trans (zrm st n _ r) (Nat.pow_le_pow_left (by omega) n)
     ·simp
    rw [Nat.succ_mul]; omega
  have := key ids ids.length (Nat.le_refl _)
  rw [zgy, Nat.pow_succ]
  refine Nat.le_trans this ?_
  rw [Nat.mul_comm]
  exact Nat.mul_le_mul_left _ (by omega)
theorem zus (st : List Int → Int → Bool) : ∀ (n : Nat) (t ids : List Int), zgo st n t ids = (zgy st n t ids).map (t ++ ·)
 | 0, t, ids => by simp [zgo, zgy]
 | n + 1, t, ids => by
  have key : ∀ l : List Int, zfr st (zgo st n) t l = (zge st (zgy st n) t l).map (t ++ ·) := by
   intro l
   induction l with
   | nil => rfl
   | cons id r ih =>
    simp only [zfr, zge, ih, List.map_append]
    congr 1
    split
    ·rw [zus st n, List.map_map]
     apply List.map_congr_left; intro x _; simp
    ·rfl
  rw [zgo, zgy, key]
end Go.XL
namespace Go.XL
open Go.Proofs
set_option maxRecDepth 100000
set_option maxHeartbeats 4000000
def Club.Asc (c : Club) : Prop := c.members.Pairwise fun a b => a.id < b.id
theorem yku {c : Club} (h : c.Asc) {i j : Nat} (hi : i < c.members.length) (hj : j < c.members.length) (e : c.members[i].id = c.members[j].id) : i = j := by
 rcases Nat.lt_trichotomy i j with h1 | h1 | h1
 ·have := List.pairwise_iff_getElem.1 h i j hi hj h1; omega
 ·exact h1
 ·have := List.pairwise_iff_getElem.1 h j i hj hi h1; omega
def updM (met : Int → Int → Bool) (a b : Int) (v : Bool) : Int → Int → Bool := fun x y => if x = a ∧ y = b then v else met x y
theorem ypl {c : Club} (h : c.Asc) {k : Nat} (hk : k < c.members.length) (met : Int → Int → Bool) (a : Int) (v : Bool) :
  (c.members.map fun m => Bo (met a m.id)).set k (Bo v) = c.members.map fun m => Bo (updM met a c.members[k].id v a m.id) := by
 apply List.ext_getElem
 ·simp
 intro j h1 h2
 simp only [List.length_set, List.length_map] at h1
 rw [List.getElem_set]
 by_cases hj : k = j
 ·subst hj; simp [updM]
 ·have : ¬ c.members[j].id = c.members[k].id := fun e => hj (yku h hk h1 e.symm)
  simp [hj, updM, this]
theorem MetR.set {S : Sto} {bs : List Nat} {c : Club} {met : Int → Int → Bool} (m : MetR S bs c met) (hb : bs.Nodup) (h : c.Asc) {i k : Nat} (hi : i < c.members.length) (hk : k < c.members.length) (hi' : i < bs.length) (v : Bool) :
  MetR (setS bs[i] (.cells ((c.members.map fun m => Bo (met c.members[i].id m.id)).set k (Bo v)) 4) S) bs c (updM met c.members[i].id c.members[k].id v) := by
 refine ⟨m.len, fun j hj hj' => ?_⟩
 rw [zbh (m.row i hi' hi)]
 by_cases e : j = i
 ·subst e
  rw [if_pos rfl, ypl h hk]
 ·have hne : ¬ bs[j] = bs[i] := fun h' => e (List.getElem_inj hb |>.1 h')
  rw [if_neg hne, m.row j hj hj']
  have hid : ¬ c.members[j].id = c.members[i].id := fun h' => e (yku h hj' hi h')
  congr 2
  apply List.map_congr_left; intro x _
  simp [updM, hid]
def zpg (met : Int → Int → Bool) (t : List Int) (v : Bool) : Int → Int → Bool := fun a b => if a ∈ t ∧ b ∈ t ∧ a ≠ b then v else met a b
def zwp (met : Int → Int → Bool) (t : List Int) (i : Nat) (v : Bool) : Int → Int → Bool := fun a b => if a ∈ t.take i ∧ b ∈ t ∧ a ≠ b then v else met a b
def zrq (met : Int → Int → Bool) (t : List Int) (a0 : Int) (k : Nat) (v : Bool) : Int → Int → Bool := fun a b => if a = a0 ∧ b ∈ t.take k ∧ a ≠ b then v else met a b
theorem zki {t : List Int} {k : Nat} (h : k < t.length) (x : Int) : x ∈ t.take (k + 1) ↔ x ∈ t.take k ∨ x = t[k] := by
 rw [List.take_succ_eq_append_getElem h, List.mem_append, List.mem_singleton]
theorem ygl (met : Int → Int → Bool) (t : List Int) (v : Bool) : zwp met t 0 v = met := by funext a b; simp [zwp]
theorem ygi (met : Int → Int → Bool) (t : List Int) (a0 : Int) (v : Bool) : zrq met t a0 0 v = met := by funext a b; simp [zrq]
theorem ygk {met : Int → Int → Bool} {t : List Int} {a0 : Int} {k : Nat} (v : Bool) (h : k < t.length) (e : t[k] = a0) : zrq met t a0 (k + 1) v = zrq met t a0 k v := by
 funext a b
 simp only [zrq, zki h, e]
 by_cases h1 : a = a0 ∧ b ∈ t.take k ∧ a ≠ b
 ·rw [if_pos h1, if_pos ⟨h1.1, .inl h1.2.1, h1.2.2⟩]
 ·rw [if_neg h1, if_neg]
  rintro ⟨h2, h3 | h3, h4⟩
  ·exact h1 ⟨h2, h3, h4⟩
  ·exact h4 (h2.trans h3.symm)
theorem ygj {met : Int → Int → Bool} {t : List Int} {a0 : Int} {k : Nat} (v : Bool) (h : k < t.length) (e : ¬ t[k] = a0) : zrq met t a0 (k + 1) v = updM (zrq met t a0 k v) a0 t[k] v := by
 funext a b
 simp only [updM, zrq, zki h]
 by_cases h0 : a = a0 ∧ b = t[k]
 ·rw [if_pos h0, if_pos ⟨h0.1, .inr h0.2, fun h1 => e (by rw [← h0.2, ← h1, h0.1])⟩]
 ·rw [if_neg h0]
  by_cases h1 : a = a0 ∧ b ∈ t.take k ∧ a ≠ b
  ·rw [if_pos h1, if_pos ⟨h1.1, .inl h1.2.1, h1.2.2⟩]
  ·rw [if_neg h1, if_neg]
   rintro ⟨h2, h3 | h3, h4⟩
   ·exact h1 ⟨h2, h3, h4⟩
   ·exact h0 ⟨h2, h3⟩
theorem ygm {met : Int → Int → Bool} {t : List Int} {i k : Nat} (v : Bool) (h : i < t.length) (hk : t.length ≤ k) : zrq (zwp met t i v) t t[i] k v = zwp met t (i + 1) v := by
 funext a b
 simp only [zrq, zwp, List.take_of_length_le hk, zki h]
 by_cases h1 : a ∈ t.take i ∧ b ∈ t ∧ a ≠ b
 ·rw [if_pos h1, if_pos (⟨.inl h1.1, h1.2⟩ : (a ∈ t.take i ∨ a = t[i]) ∧ b ∈ t ∧ a ≠ b)]; split <;> rfl
 ·rw [if_neg h1]
  by_cases h2 : a = t[i] ∧ b ∈ t ∧ a ≠ b
  ·rw [if_pos h2, if_pos (⟨.inr h2.1, h2.2⟩ : (a ∈ t.take i ∨ a = t[i]) ∧ b ∈ t ∧ a ≠ b)]
  ·rw [if_neg h2, if_neg]
   rintro ⟨h3 | h3, h4⟩
   ·exact h1 ⟨h3, h4⟩
   ·exact h2 ⟨h3, h4⟩
theorem yis (S : Sto) {bx bp R : Nat} {c : Club} {rs : List (List Int)} {bs : List Nat} {budget steps : Int} {met : Int → Int → Bool} (hs : c.Small) (ha : c.Asc) (hb : bs.Nodup) (hbx : ¬ bx ∈ bs)
  (hx : zad S bx = some (.cells (sC c rs bp R (.own false 164 1 (bs.map (rowC c.members.length))) budget steps) 156)) (hm : MetR S bs c met) (t : List Int) (v : Bool) (ht : ∀ a ∈ t, ¬ zfs c a < 0) (hnd : t.Nodup) (htl : t.length ≤ 1000) :
  DC Tryz.prog 140 [.v (.pointer (some ⟨bx, 0, none⟩)), ints t, Bo v] S (fun _ S' => MetR S' bs c (zpg met t v) ∧ ∀ b, ¬ b ∈ bs → zad S' b = zad S b) := by
 have q1 := hs.members
 have hl := hm.len
 refine DC.of_run Tryz.func140 rfl Tryz.ntmps140 Tryz.results140 (by simp) (fun _ => ?_); simp only [zaq, zau, go_sem, Nat.zero_add, Nat.reduceAdd]
 repeat' (first | (with_reducible first | refine zac yU yU yE ?_ | refine zab ?_ | refine DS.seq ?_ | refine zaa ?_ | refine DS.block ?_) | fail)
 refine zcq [0, 1, 2] yN (fun (i : Nat × Sto) => [(6, I i.1)]) (fun (i : Nat × Sto) => i.2) (fun (i : Nat × Sto) => i.1 ≤ t.length ∧ MetR i.2 bs c (zwp met t i.1 v) ∧ ∀ b, ¬ b ∈ bs → zad i.2 b = zad S b) (fun (i : Nat × Sto) => t.length - i.1) (0, S) yS (fun b o e => by exact e) ⟨Nat.zero_le _, by rw [ygl]; exact hm, fun _ _ => rfl⟩ (fun i B hI hB => ?_); try dsimp only at hI hB; simp only [zas, zaw]
 repeat' (first | (with_reducible first | refine zac yU yU yE ?_ | refine zab ?_ | refine DS.seq ?_ | refine zaa ?_ | (refine zbd yE ?_; refine zel (fun _ => ?_) (fun _ => ?_)) | refine DS.block ?_ | refine DS.exit yU ?_ | refine DS.skip ?_) | fail)
 ·rename_i e1
  have hB0 := hB
  have hI0 := hI
  clear hB hI
  refine zcq [0, 1, 2, 6] yN (fun (k : Nat × Sto) => [(7, I k.1)]) (fun (k : Nat × Sto) => k.2) (fun (k : Nat × Sto) => k.1 ≤ t.length ∧ MetR k.2 bs c (zrq (zwp met t i.1 v) t (t[i.1]'(by omega)) k.1 v) ∧ ∀ b, ¬ b ∈ bs → zad k.2 b = zad S b) (fun (k : Nat × Sto) => t.length - k.1) (0, i.2) yS (fun b o e => by exact e) ⟨Nat.zero_le _, by rw [ygi]; exact hI0.2.1, hI0.2.2⟩ (fun k B hI hB => ?_); try dsimp only at hI hB; simp only [zas, zaw]
  have hx' : zad k.2 bx = some (.cells (sC c rs bp R (.own false 164 1 (bs.map (rowC c.members.length))) budget steps) 156) := by rw [hI.2.2 bx hbx, hx]
  repeat' (first | (with_reducible first | refine zac yU yU yX1 ?_ | refine zab ?_ | refine DS.seq ?_ | refine zaa ?_ | (refine zbd yX1 ?_; first | refine zgb (fun _ => ?_) (fun _ => ?_) | refine zel (fun _ => ?_) (fun _ => ?_)) | refine DS.blk ?_ | refine DS.block ?_ | refine DS.exit yU ?_ | refine DS.skip ?_) | refine zce (id := 7) [0, 1, 2, 3, 4, 5, 6, 7, 8, 9, 10, 11, 12, 13, 14, 15, 16, 17, 18, 19, 20, 21, 22, 23, 24] 25 (by kernel_rfl) zdq (by simp only [zbb, zbe, zbf, zbg, zba]; exact rfl) (by simp only [zax, zay, List.drop_nil]; exact rfl) ?_ | with_reducible refine zbw yU yU yU yX1 ?_ | refine zkr inferInstance (zjt c _ (by omega)) yU yX2 ?_ | fail)
  ·rename_i e2 e3
   obtain ⟨m1, hm1, g1, g2, -⟩ := zgu (ht _ (List.getElem_mem (show i.1 < t.length by omega)))
   obtain ⟨m2, hm2, g3, g4, -⟩ := zgu (ht _ (List.getElem_mem (show k.1 < t.length by omega)))
   have hr := hI.2.1.row m1 (hl ▸ hm1) hm1
   have hne : ¬ t[k.1] = t[i.1] := fun h => e3 (by have := (List.getElem_inj hnd).1 h; omega)
   have G := hI.2.1.set hb ha hm1 hm2 (hl ▸ hm1) v
   rw [g4] at G
   rw [g2, ← ygj v (by omega) hne] at G
   rw [g2] at hr
   have H : ∀ b o, ¬ b ∈ bs → zad (setS (bs[m1]'(hl ▸ hm1)) o k.2) b = zad S b := fun b o hb' => by
    rw [zbh hr, if_neg (fun h => hb' (by rw [h]; exact List.getElem_mem _))]; exact hI.2.2 b hb'
   have H3 := And.intro g1 g3
   simp only [g1, g3]
   clear g1 g2 g3 g4 hne
   repeat' (first | (with_reducible first | refine zac yU yU yX1 ?_ | refine zab ?_ | refine zaa ?_ | refine DS.blk ?_) | (refine DS.store yR yX1 yX1 yX1 yX1 yU (by exact ⟨by with_unfolding_all rfl, by (try simp only [List.length_map, List.length_append, List.length_set, List.length_replicate, List.length_cons, List.length_nil]); omega⟩) ?_; simp only [zbo, zav, zaz, zbz, zbl, zbj, zbk]; try simp only [zao, zaf, zah, Nat.reduceEqDiff, ↓reduceIte, zak, zal, zar, zaj, zai, zap, zam]) | (with_reducible first | refine zbw yU yU yU yX1 ?_ | refine zdc ?_) | refine zkr inferInstance (zjt c _ (by omega)) yU yX2 ?_ | fail)
   simp only [H3.2]
   skip
   refine DS.back (hB (k.1 + 1, _) _ _ (by simp; omega) ⟨by simp; omega, G, fun b hb' => H b _ hb'⟩ yS yS (fun b o e => by exact e))
  ·rename_i e2 e3
   have hki : k.1 = i.1 := by omega
   have G := hI.2.1
   rw [← ygk v (show k.1 < t.length by omega) (by simp only [hki])] at G
   clear hki
   refine DS.back (hB (k.1 + 1, k.2) _ _ (by simp; omega) ⟨by simp; omega, G, hI.2.2⟩ yS yS (fun b o e => by exact e))
  ·rename_i e2
   have G := hI.2.1
   rw [ygm v (by omega) (by omega)] at G
   refine DS.back (hB0 (i.1 + 1, k.2) _ _ (by simp; omega) ⟨by simp; omega, G, hI.2.2⟩ yS yS (fun b o e => by exact e))
 ·rename_i e1
  refine zpo yG ⟨?_, hI.2.2⟩
  have : zwp met t i.1 v = zpg met t v := by
   funext a b
   rw [zwp, zpg, List.take_of_length_le (by omega)]
  rw [← this]; exact hI.2.1
end Go.XL
namespace Go.XL
open Go.Proofs
set_option maxRecDepth 100000
set_option maxHeartbeats 4000000
structure PRow where
 rows : List (List Int)
 blk : Option (Nat × Nat × List V)
def PRow.cell : PRow → V
 | ⟨_, none⟩ => .v (.slice none 0 0)
 | ⟨rows, some (b, cap, _)⟩ => .v (.slice (some ⟨b, 0, none⟩) rows.length cap)
def PRow.Ok (S : Sto) : PRow → Prop
 | ⟨rows, none⟩ => rows = []
 | ⟨rows, some (b, cap, junk)⟩ => zad S b = some (.cells ((rows.map fun t => ints t) ++ junk) 22) ∧ rows.length + junk.length = cap ∧ cap ≤ maxLen ∧ ∀ v ∈ junk, v.free = true
def zhk (ids : List Int) (T : List (List Int)) : List Int := ids.filter fun id => !T.any fun t => decide (id ∈ t)
theorem zmy {α β : Type} {f : α → β} {T : List α} {j : List β} {k : Nat} (h : k < T.length) : ((T.map f) ++ j)[k]? = some (f T[k]) := by
 rw [List.getElem?_append_left (by simpa using h), List.getElem?_map, List.getElem?_eq_getElem h]; rfl
theorem yng {ids : List Int} {T : List (List Int)} {i : Nat} (h : i < ids.length) (hb : (T.any fun t => decide (ids[i] ∈ t)) = true) : zhk (ids.drop i) T = zhk (ids.drop (i + 1)) T := by
 rw [List.drop_eq_getElem_cons h, zhk, List.filter_cons, if_neg (by simp [hb])]; rfl
theorem zze {ids : List Int} {T : List (List Int)} {i : Nat} (h : i < ids.length) (hb : (T.any fun t => decide (ids[i] ∈ t)) = false) : zhk (ids.drop i) T = ids[i] :: zhk (ids.drop (i + 1)) T := by
 rw [List.drop_eq_getElem_cons h, zhk, List.filter_cons, if_pos (by simp [hb])]; rfl
theorem zos {α : Type} {T : List α} {k : Nat} (p : α → Bool) (h : k < T.length) : (T.take (k + 1)).any p = ((T.take k).any p || p T[k]) := by
 rw [List.take_succ_eq_append_getElem h, List.any_append]; simp
theorem yX3 {p : Prop} (h : p := by first | exact rfl | (simp (disch := omega) only [go_sem, dopV, yV0, ↓reduceIte, Nat.reduceEqDiff, Nat.reduceLT, Nat.reduceLeDiff, Nat.reduceAdd, Nat.reduceMul, Nat.reduceSub, Int.reduceToNat, Int.reduceLT, Int.reduceLE, Int.reduceEq, IntWalk.toNatUp, IntWalk.iteOmega, IntWalk.i64_in, V.flat, V.one, *, ztj]; exact rfl)) : p := h
theorem yX4 {p : Prop} (h : p := by (simp (disch := omega) only [go_sem, dopV, yV0, ↓reduceIte, Nat.reduceEqDiff, Nat.reduceLT, Nat.reduceLeDiff, Nat.reduceAdd, Nat.reduceMul, Nat.reduceSub, Int.reduceToNat, Int.reduceLT, Int.reduceLE, Int.reduceEq, IntWalk.toNatUp, IntWalk.iteOmega, IntWalk.i64_in, V.flat, V.one, *, ztj, zmy]; exact rfl)) : p := h
theorem yX5 {p : Prop} (h : p := by first | exact rfl | (simp (disch := omega) only [go_sem, dopV, yV0, ↓reduceIte, Nat.reduceEqDiff, Nat.reduceLT, Nat.reduceLeDiff, Nat.reduceAdd, Nat.reduceMul, Nat.reduceSub, Int.reduceToNat, Int.reduceLT, Int.reduceLE, Int.reduceEq, IntWalk.toNatUp, IntWalk.iteOmega, IntWalk.i64_in, V.flat, V.one, *, ztj, zmy]; exact rfl)) : p := h
theorem yX6 {p : Prop} (h : p := by (simp (disch := omega) only [go_sem, dopV, yV0, ↓reduceIte, Nat.reduceEqDiff, Nat.reduceLT, Nat.reduceLeDiff, Nat.reduceAdd, Nat.reduceMul, Nat.reduceSub, Int.reduceToNat, Int.reduceLT, Int.reduceLE, Int.reduceEq, IntWalk.toNatUp, IntWalk.iteOmega, IntWalk.i64_in, V.flat, V.one, *, ztj, zmy]; try exact rfl)) : p := h
theorem yqe (S : Sto) {bx bp : Nat} {c : Club} {rs : List (List Int)} {mt : V} {budget steps : Int} {ps : List PRow}
  (hx : zad S bx = some (.cells (sC c rs bp ps.length mt budget steps) 156)) (hp : zad S bp = some (.cells (ps.map PRow.cell) 49)) {r : Nat} (hr : r < ps.length) (hr' : r < rs.length) (hok : ps[r].Ok S) (hl : rs[r].length ≤ 1000000) (hl2 : ps[r].rows.length ≤ 1000000) :
  RC Tryz.prog 138 [.v (.pointer (some ⟨bx, 0, none⟩)), I r] S (.own false 3 1 ((zhk rs[r] ps[r].rows).map cI)) := by
 obtain ⟨p, hpr⟩ : ∃ p, p = ps[r] := ⟨_, rfl⟩
 rw [← hpr] at hok hl2 ⊢
 obtain ⟨T, blk⟩ := p
 have hpc : (ps.map PRow.cell)[r]? = some (PRow.cell ⟨T, blk⟩) := by rw [List.getElem?_map, List.getElem?_eq_getElem hr, ← hpr]; rfl
 clear hpr
 generalize ps.map PRow.cell = pc at *
 cases blk with
 | none =>
  simp only [PRow.Ok] at hok
  subst hok
  simp only [PRow.cell] at hpc
  refine DC.of_run Tryz.func138 rfl Tryz.ntmps138 Tryz.results138 (by simp) (fun _ => ?_); simp only [zaq, zau, go_sem, Nat.zero_add, Nat.reduceAdd]
  repeat' (first | (with_reducible first | (refine zdu (t := 4) yU yO yE ?_) | (refine zdu (t := 5) yU yO yE ?_) | refine zac yU yU yE ?_ | refine zab ?_ | refine DS.seq ?_ | refine zaa ?_ | refine DS.block ?_) | fail)
  refine zcn [0, 1] yN (fun (i : Nat × List Int) => [(5, .own false 3 1 (i.2.map cI)), (6, I i.1)]) (fun (i : Nat × List Int) => i.1 ≤ rs[r].length ∧ i.2.length ≤ i.1 ∧ i.2 ++ zhk (rs[r].drop i.1) [] = zhk rs[r] []) (fun (i : Nat × List Int) => rs[r].length - i.1) (0, []) yS (by simp) (fun i B hI hB => ?_); try dsimp only at hI hB; simp only [zas, zaw]
  repeat' (first | (with_reducible refine zeg (t := 4) yU yO yX1 ?_; simp only [zao, zaf, zah, Nat.reduceEqDiff, ↓reduceIte, zak, zal, zar, zaj, zai, zap, zam]) | (with_reducible refine zeg (t := 65) yU yO yX1 ?_; simp only [zao, zaf, zah, Nat.reduceEqDiff, ↓reduceIte, zak, zal, zar, zaj, zai, zap, zam]) | (with_reducible first | refine zac yU yU yX1 ?_ | refine zab ?_ | refine DS.seq ?_ | refine zaa ?_ | (refine zbd yX1 ?_; refine zel (fun _ => ?_) (fun _ => ?_)) | refine DS.block ?_ | refine DS.exit yU ?_ | refine DS.skip ?_) | refine zck yX1 ⟨?_, rfl⟩ | fail)
  ·have hB0 := hB
   have hI0 := hI
   clear hB hI
   refine zcn [0, 1, 5, 6, 7] yN (fun (k : Nat) => [(8, Bo false), (9, I 0)]) (fun (k : Nat) => True) (fun (k : Nat) => k) 0 yS trivial (fun k B hI hB => ?_); try dsimp only at hI hB; simp only [zas, zaw]
   repeat' (first | (with_reducible refine zeg (t := 5) yU yO yX1 ?_; simp only [zao, zaf, zah, Nat.reduceEqDiff, ↓reduceIte, zak, zal, zar, zaj, zai, zap, zam]) | (with_reducible refine zeg (t := 61) yU yO yX1 ?_; simp only [zao, zaf, zah, Nat.reduceEqDiff, ↓reduceIte, zak, zal, zar, zaj, zai, zap, zam]) | (with_reducible first | refine zac yU yU yX1 ?_ | refine zab ?_ | refine DS.seq ?_ | refine zaa ?_ | (refine zbd yX1 ?_; first | refine zde ?_ | refine zdk ?_) | refine DS.blk ?_ | refine DS.exit yU ?_) | (refine zfg yU yX1 yX1 ?_; simp only [go_sem, Nat.zero_add, Nat.reduceAdd]) | (refine DS.append (mm := false) yU yX1 yX1 yU (by decide) yX1 (by first | exact .inl rfl | exact .inr ⟨rfl, rfl⟩) yX1 yX3 (by first | exact zat zdt _ | exact zat zeq _ | exact zat Member.len _ | exact zat Sitting.len _ | exact zat Ruling.len _ | (simp only [List.mem_cons, List.not_mem_nil, or_false, forall_eq]; rfl) | simp) ⟨by (try simp only [List.length_map, List.length_cons, List.length_nil, List.length_append, List.length_take, List.length_drop]); omega, by decide⟩ ?_; simp only [zao, zaf, zah, Nat.reduceEqDiff, ↓reduceIte, zak, zal, zar, zaj, zai, zap, zam]) | fail)
   obtain ⟨_, r0, dr4, rfl, dr6⟩ := zco (l := rs[r]) (i := i.1) (by omega); rw [dr4] at hI0
   refine DS.back (hB0 (i.1 + 1, i.2 ++ [rs[r][i.1]]) _ _ (by simp; omega) ⟨by simp; omega, by simp; omega, by rw [← hI0.2.2, ← dr4, zze (i := i.1) (by omega) rfl, List.append_assoc]; rfl⟩ yS yS (fun b o e => by exact e))
  ·have de1 := zeo (l := rs[r]) (i := i.1) (by omega); rw [de1] at hI
   rw [zfp, show i.2 = zhk rs[r] [] by have e := hI.2.2; rw [show zhk [] ([] : List (List Int)) = [] from rfl, List.append_nil] at e; exact e]
 | some x =>
  obtain ⟨b, cap, junk⟩ := x
  simp only [PRow.cell] at hpc
  obtain ⟨ho, hc1, hc2, hc3⟩ := hok
  dsimp only at hl2
  refine DC.of_run Tryz.func138 rfl Tryz.ntmps138 Tryz.results138 (by simp) (fun _ => ?_); simp only [zaq, zau, go_sem, Nat.zero_add, Nat.reduceAdd]
  repeat' (first | (with_reducible first | (refine zdu (t := 4) yU yO yE ?_) | (refine zdu (t := 5) yU yO yE ?_) | refine zac yU yU yE ?_ | refine zab ?_ | refine DS.seq ?_ | refine zaa ?_ | refine DS.block ?_) | fail)
  refine zcn [0, 1] yN (fun (i : Nat × List Int) => [(5, .own false 3 1 (i.2.map cI)), (6, I i.1)]) (fun (i : Nat × List Int) => i.1 ≤ rs[r].length ∧ i.2.length ≤ i.1 ∧ i.2 ++ zhk (rs[r].drop i.1) T = zhk rs[r] T) (fun (i : Nat × List Int) => rs[r].length - i.1) (0, []) yS (by simp) (fun i B hI hB => ?_); try dsimp only at hI hB; simp only [zas, zaw]
  repeat' (first | (with_reducible refine zeg (t := 4) yU yO yX1 ?_; simp only [zao, zaf, zah, Nat.reduceEqDiff, ↓reduceIte, zak, zal, zar, zaj, zai, zap, zam]) | (with_reducible refine zeg (t := 65) yU yO yX1 ?_; simp only [zao, zaf, zah, Nat.reduceEqDiff, ↓reduceIte, zak, zal, zar, zaj, zai, zap, zam]) | (with_reducible first | refine zac yU yU yX1 ?_ | refine zab ?_ | refine DS.seq ?_ | refine zaa ?_ | (refine zbd yX1 ?_; refine zel (fun _ => ?_) (fun _ => ?_)) | refine DS.block ?_ | refine DS.exit yU ?_ | refine DS.skip ?_) | refine zck yX1 ⟨?_, rfl⟩ | fail)
  ·rename_i e1
   have hB0 := hB
   have hI0 := hI
   clear hB hI
   refine zcn [0, 1, 5, 6, 7] yN (fun (k : Nat × Bool) => [(8, Bo k.2), (9, I k.1)]) (fun (k : Nat × Bool) => k.1 ≤ T.length ∧ ((T.take k.1).any fun t => decide ((rs[r][i.1]'(by omega)) ∈ t)) = k.2) (fun (k : Nat × Bool) => T.length - k.1) (0, false) yS (by simp) (fun k B hI hB => ?_); try dsimp only at hI hB; simp only [zas, zaw]
   have hI1 := hI.1
   have hI2 := hI.2
   clear hI
   have H := And.intro hI2 hI0.2.2
   have hI3 := hI0.2.1
   clear hI2 hI0
   repeat' (first | (with_reducible refine zeg (t := 5) yU yO yX4 ?_; simp only [zao, zaf, zah, Nat.reduceEqDiff, ↓reduceIte, zak, zal, zar, zaj, zai, zap, zam]) | (with_reducible refine zeg (t := 61) yU yO yX4 ?_; simp only [zao, zaf, zah, Nat.reduceEqDiff, ↓reduceIte, zak, zal, zar, zaj, zai, zap, zam]) | (with_reducible first | refine zac yU yU yX4 ?_ | refine zab ?_ | refine DS.seq ?_ | refine zaa ?_ | (refine zbd yX4 ?_; first | refine zel (fun _ => ?_) (fun _ => ?_) | refine yaq (fun _ => ?_) (fun _ => ?_)) | (refine zdz yU yX4 ?_; first | refine GG.run ?_ | refine ztg ?_ | refine ytx (fun _ => ?_) (fun _ => ?_)) | refine DS.blk ?_ | refine DS.block ?_ | refine DS.exit yU ?_ | refine DS.skip ?_) | (refine zfg yU yX4 yX4 ?_; simp only [go_sem, Nat.zero_add, Nat.reduceAdd]) | (refine DS.append (mm := false) yU yX4 yX4 yU (by decide) yX4 (by first | exact .inl rfl | exact .inr ⟨rfl, rfl⟩) yX4 yX5 (by first | exact zat zdt _ | exact zat zeq _ | exact zat Member.len _ | exact zat Sitting.len _ | exact zat Ruling.len _ | (simp only [List.mem_cons, List.not_mem_nil, or_false, forall_eq]; rfl) | simp) ⟨by (try simp only [List.length_map, List.length_cons, List.length_nil, List.length_append, List.length_take, List.length_drop]); omega, by decide⟩ ?_; simp only [zao, zaf, zah, Nat.reduceEqDiff, ↓reduceIte, zak, zal, zar, zaj, zai, zap, zam]) | refine zcf inferInstance (yjj _ _) yR yX6 ?_ | fail)
   ·rename_i e2 e3
    exact DS.back (hB (k.1 + 1, decide ((rs[r][i.1]'(by omega)) ∈ T[k.1])) _ _ (by simp; omega) (⟨by simp; omega, by rw [zos _ (by omega), H.1, e3]; simp⟩) yS yS (fun b o e => by first | exact e | (simp only [zae]; split <;> simp_all)))
   ·rename_i e2 e3
    exact DS.back (hB (k.1 + 1, true) _ _ (by simp; omega) (⟨by simp; omega, by rw [zos _ (by omega), H.1, e3]; simp⟩) yS yS (fun b o e => by first | exact e | (simp only [zae]; split <;> simp_all)))
   ·rename_i e2 e3
    have e4 := H.1
    rw [List.take_of_length_le (by omega), e3] at e4
    have e5 := H.2
    rw [zze (i := i.1) (by omega) e4] at e5
    clear e4
    refine DS.back (hB0 (i.1 + 1, i.2 ++ [rs[r][i.1]'(by omega)]) _ _ (by simp; omega) ⟨by simp; omega, by simp; omega, by rw [← e5, List.append_assoc]; rfl⟩ yS yS (fun b o e => by exact e))
   ·rename_i e2 e3
    have e4 := H.1
    rw [List.take_of_length_le (by omega), e3] at e4
    have e5 := H.2
    rw [yng (i := i.1) (by omega) e4] at e5
    clear e4
    refine DS.back (hB0 (i.1 + 1, i.2) _ _ (by simp; omega) ⟨by simp; omega, by simp; omega, e5⟩ yS yS (fun b o e => by exact e))
  ·have de1 := zeo (l := rs[r]) (i := i.1) (by omega); rw [de1] at hI
   rw [zfp, show i.2 = zhk rs[r] T by have e := hI.2.2; rw [show zhk [] T = [] from rfl, List.append_nil] at e; exact e]
end Go.XL
namespace Go.XL
open Go.Proofs
set_option maxRecDepth 100000
set_option maxHeartbeats 4000000
theorem znl {α : Type} {l m : List α} {i : Nat} (h : l.take i = m.take i) (hl : i < l.length) (hm : i < m.length) (e : l[i] = m[i]) : l.take (i + 1) = m.take (i + 1) := by
 rw [List.take_succ_eq_append_getElem hl, List.take_succ_eq_append_getElem hm, h, e]
theorem zux {α : Type} {l m : List α} {i : Nat} (h : l.take i = m.take i) (hl : l.length ≤ i) (hm : m.length ≤ i) : l = m := by
 rwa [List.take_of_length_le hl, List.take_of_length_le hm] at h
theorem zwt (l : List Int) (h : l.length ≤ 2147483647) : PC Tryz.prog 41 [ints l] (.own false 3 1 (l.map cI)) := by
 refine DC.of_run Tryz.func41 rfl Tryz.ntmps41 Tryz.results41 (by simp) (fun _ => ?_); simp only [zaq, zau, go_sem, Nat.zero_add, Nat.reduceAdd]
 repeat' (first | with_reducible (refine zdu (t := 2) yU yO yE ?_) | (with_reducible refine zeg (t := 2) yU yO yE ?_; simp only [zao, zaf, zah, Nat.reduceEqDiff, ↓reduceIte, zak, zal, zar, zaj, zai, zap, zam]) | (with_reducible first | refine zac yU yU yE ?_ | refine zab ?_ | refine DS.seq ?_ | refine zaa ?_) | (refine DS.append (mm := false) yU yE yE yU (by decide) yE (by first | exact .inl rfl | exact .inr ⟨rfl, rfl⟩) yE yX0 (by first | exact zat zdt _ | exact zat zeq _ | exact zat Member.len _ | exact zat Sitting.len _ | exact zat Ruling.len _ | (simp only [List.mem_cons, List.not_mem_nil, or_false, forall_eq]; rfl) | simp) ⟨by (try simp only [List.length_map, List.length_cons, List.length_nil, List.length_append, List.length_take, List.length_drop]); omega, by decide⟩ ?_; simp only [zao, zaf, zah, Nat.reduceEqDiff, ↓reduceIte, zak, zal, zar, zaj, zai, zap, zam]) | refine zbi [] yE trivial ?_ | fail)
 rfl
theorem ybb (a b : List Int) : PC Tryz.prog 60 [ints a, ints b] (Bo (decide (a = b))) := by
 refine DC.of_run Tryz.func60 rfl Tryz.ntmps60 Tryz.results60 (by simp) (fun _ => ?_); simp only [zaq, zau, go_sem, Nat.zero_add, Nat.reduceAdd]
 refine zjc (t := 0) yG (.inl rfl) (fun hb0 => ?_); simp only [List.length_map] at hb0
 repeat' (first | (with_reducible first | refine zac yU yU yE ?_ | refine zab ?_ | refine DS.seq ?_ | refine zaa ?_ | (refine zbd yE ?_; refine zgb (fun _ => ?_) (fun _ => ?_)) | refine DS.block ?_ | refine DS.skip ?_) | refine zbi [] yE trivial ?_ | fail)
 ·rename_i h; have : a ≠ b := fun e => by subst e; exact h rfl
  simp [tupV, this]
 refine zcn [0, 1] yN (fun (i : Nat) => [(5, I i)]) (fun (i : Nat) => i ≤ a.length ∧ a.take i = b.take i) (fun (i : Nat) => a.length - i) 0 yS (by simp) (fun i B hI hB => ?_); try dsimp only at hI hB; simp only [zas, zaw]
 repeat' (first | (with_reducible first | refine zac yU yU yE ?_ | refine zab ?_ | refine DS.seq ?_ | refine zaa ?_ | (refine zbd yE ?_; first | refine zgb (fun _ => ?_) (fun _ => ?_) | refine zel (fun _ => ?_) (fun _ => ?_)) | refine DS.blk ?_ | refine DS.block ?_ | refine DS.exit yU ?_ | refine DS.skip ?_) | refine zce (id := 6) [0, 1, 2, 3, 4, 5, 6, 7] 8 (by kernel_rfl) zdq (by simp only [zbb, zbe, zbf, zbg, zba]; exact rfl) (by simp only [zax, zay, List.drop_nil]; exact rfl) ?_ | (with_reducible first | refine zbw yU yU yU yE ?_ | refine zdc ?_) | refine zbi [] yE trivial ?_ | fail)
 ·rename_i h1 h2
  have : a ≠ b := fun e => h2 (by subst e; rfl)
  simp [tupV, this]
 ·rename_i h1 h2
  exact DS.back (hB (i + 1) _ _ (by omega) (⟨by omega, znl hI.2 (by omega) (by omega) h2⟩) yS yS (fun b o e => by first | exact e | (simp only [zae]; split <;> simp_all)))
 ·rename_i h1
  have := zux hI.2 (by omega) (by omega)
  simp [tupV, this]
theorem yag (a b : List (List Int)) : PC Tryz.prog 77 [rows a, rows b] (Bo (decide (a = b))) := by
 refine DC.of_run Tryz.func77 rfl Tryz.ntmps77 Tryz.results77 (by simp) (fun _ => ?_); simp only [zaq, zau, go_sem, Nat.zero_add, Nat.reduceAdd]
 refine zjc (t := 0) yG (.inl rfl) (fun hb0 => ?_); simp only [List.length_map] at hb0
 repeat' (first | (with_reducible first | refine zac yU yU yE ?_ | refine zab ?_ | refine DS.seq ?_ | refine zaa ?_ | (refine zbd yE ?_; refine zgb (fun _ => ?_) (fun _ => ?_)) | refine DS.block ?_ | refine DS.skip ?_) | refine zbi [] yE trivial ?_ | fail)
 ·rename_i h; have : a ≠ b := fun e => by subst e; exact h rfl
  simp [tupV, this]
 refine zcn [0, 1] yN (fun (i : Nat) => [(5, I i)]) (fun (i : Nat) => i ≤ a.length ∧ a.take i = b.take i) (fun (i : Nat) => a.length - i) 0 yS (by simp) (fun i B hI hB => ?_); try dsimp only at hI hB; simp only [zas, zaw]
 repeat' (first | (with_reducible first | refine zac yU yU yE ?_ | refine zab ?_ | refine DS.seq ?_ | refine zaa ?_ | (refine zbd yE ?_; first | refine zgb (fun _ => ?_) (fun _ => ?_) | refine zel (fun _ => ?_) (fun _ => ?_)) | refine DS.blk ?_ | refine DS.block ?_ | refine DS.exit yU ?_ | refine DS.skip ?_) | refine zcf inferInstance (ybb _ _) yR yT ?_ | refine zce (id := 6) [0, 1, 2, 3, 4, 5, 6, 7] 8 (by kernel_rfl) zdq (by simp only [zbb, zbe, zbf, zbg, zba]; exact rfl) (by simp only [zax, zay, List.drop_nil]; exact rfl) ?_ | (with_reducible first | refine zbw yU yU yU yE ?_ | refine zdc ?_) | refine zbi [] yE trivial ?_ | fail)
 ·rename_i h1 h2
  have : a ≠ b := fun e => h2 (by subst e; rfl)
  simp [tupV, this]
 ·rename_i h1 h2
  exact DS.back (hB (i + 1) _ _ (by omega) (⟨by omega, znl hI.2 (by omega) (by omega) h2⟩) yS yS (fun b o e => by first | exact e | (simp only [zae]; split <;> simp_all)))
 ·rename_i h1
  have := zux hI.2 (by omega) (by omega)
  simp [tupV, this]
theorem zou (a b : List (List Int)) : PC Tryz.prog 28 [rows a, rows b] (Bo (decide (a = b))) := by
 refine DC.of_run Tryz.func28 rfl Tryz.ntmps28 Tryz.results28 (by simp) (fun _ => ?_); simp only [zaq, zau, go_sem, Nat.zero_add, Nat.reduceAdd]
 repeat' (first | (with_reducible first | refine zac yU yU yE ?_ | refine zab ?_ | refine DS.seq ?_ | refine zaa ?_) | refine zcf inferInstance (yag _ _) yR yT ?_ | refine zbi [] yE trivial ?_ | fail)
 rfl
end Go.XL
namespace Go.XL
open Go.Proofs
set_option maxRecDepth 100000
set_option maxHeartbeats 4000000
theorem zfx {α β : Type} (f : α → β) (l : List α) : (l.map f).take l.length = l.map f := List.take_of_length_le (by simp)
theorem zhv {α β : Type} (f : α → β) (l : List α) (n : Nat) : (l.map f).drop n = (l.drop n).map f := by rw [List.map_drop]
theorem zyr {st : List Int → Int → Bool} {f : List Int → List Int → List (List Int)} {t l : List Int} {i : Nat} (h : i < l.length) : zge st f t (l.drop i) = (if st t l[i] = true then (f (t ++ [l[i]]) (l.drop (i + 1))).map (l[i] :: ·) else []) ++ zge st f t (l.drop (i + 1)) := by
 rw [List.drop_eq_getElem_cons h, zge]
theorem zrl (st : List Int → Int → Bool) : ∀ (n : Nat) (t ids : List Int), ∀ x ∈ zgy st n t ids, x.length = n ∧ ∀ a ∈ x, a ∈ ids
 | 0, t, ids, x, h => by simp only [zgy, List.mem_singleton] at h; subst h; simp
 | n + 1, t, ids, x, h => by
  have key : ∀ l : List Int, ∀ x ∈ zge st (zgy st n) t l, x.length = n + 1 ∧ ∀ a ∈ x, a ∈ l := by
   intro l
   induction l with
   | nil => intro x h; simp [zge] at h
   | cons id r ih =>
    intro x h
    simp only [zge, List.mem_append] at h
    rcases h with h | h
    ·split at h
     ·obtain ⟨y, hy, rfl⟩ := List.mem_map.1 h
      obtain ⟨h1, h2⟩ := zrl st n _ _ y hy
      refine ⟨by simp [h1], fun a ha => ?_⟩
      rcases List.mem_cons.1 ha with rfl | ha
      ·exact List.mem_cons_self ..
      ·exact List.mem_cons_of_mem _ (h2 a ha)
     ·simp at h
    ·obtain ⟨h1, h2⟩ := ih x h
     exact ⟨h1, fun a ha => List.mem_cons_of_mem _ (h2 a ha)⟩
  exact key ids x h
theorem yX7 {p : Prop} (h : p := by (simp (disch := omega) only [go_sem, dopV, yV0, ↓reduceIte, Nat.reduceEqDiff, Nat.reduceLT, Nat.reduceLeDiff, Nat.reduceAdd, Nat.reduceMul, Nat.reduceSub, Int.reduceToNat, Int.reduceLT, Int.reduceLE, Int.reduceEq, IntWalk.toNatUp, IntWalk.iteOmega, IntWalk.i64_in, V.flat, V.one, *, List.forall_mem_map, implies_true, zfx]; exact rfl)) : p := h
theorem yim (S : Sto) {bx bp R : Nat} {c : Club} {rs : List (List Int)} {bs : List Nat} {budget steps : Int} {met : Int → Int → Bool} (hs : c.Small)
  (hx : zad S bx = some (.cells (sC c rs bp R (.own false 164 1 (bs.map (rowC c.members.length))) budget steps) 156)) (hm : MetR S bs c met) :
  ∀ (n : Nat) (t ids : List Int), n ≤ 4 → ids.length ≤ 40 → t.length ≤ 100 - n → (∀ a ∈ t, ¬ zfs c a < 0) → (∀ a ∈ ids, ¬ zfs c a < 0) →
  RC Tryz.prog 139 [.v (.pointer (some ⟨bx, 0, none⟩)), ints t, ints ids, I n] S (.own false 22 1 ((zgy (zcb met) n t ids).map cR))
 | 0, t, ids, hn, hl, htl, ht, hi => by
  show RC Tryz.prog 139 [.v (.pointer (some ⟨bx, 0, none⟩)), ints t, ints ids, I 0] S _
  refine DC.of_run Tryz.func139 rfl Tryz.ntmps139 Tryz.results139 (by simp) (fun _ => ?_); simp only [zaq, zau, go_sem, Nat.zero_add, Nat.reduceAdd]
  repeat' (first | with_reducible (refine zdu (t := 8) yU yO yE ?_) | (with_reducible refine zeg (t := 8) yU yO yE ?_; simp only [zao, zaf, zah, Nat.reduceEqDiff, ↓reduceIte, zak, zal, zar, zaj, zai, zap, zam]) | (with_reducible first | refine zac yU yU yE ?_ | refine zab ?_ | refine DS.seq ?_ | refine zaa ?_ | (refine zbd yE ?_; refine zde ?_)) | (refine zfg yU yE yE ?_; simp only [go_sem, Nat.zero_add, Nat.reduceAdd]) | fail)
  refine ysg (t := 8) yG ?_
  refine zck yG ⟨?_, rfl⟩
  rfl
 | n + 1, t, ids, hn, hl, htl, ht, hi => by
  have ih := yim S hs hx hm n
  have hlen : (zgy (zcb met) (n + 1) t ids).length ≤ 41 ^ 4 := Nat.le_trans (zrm _ _ _ _) (Nat.le_trans (Nat.pow_le_pow_left (show ids.length + 1 ≤ 41 by omega) _) (Nat.pow_le_pow_right (by omega) hn))
  have hne : ¬ (((n + 1 : Nat) : Int) = 0) := by omega
  have hsub : ((n + 1 : Nat) : Int) - 1 = n := by omega
  refine DC.of_run Tryz.func139 rfl Tryz.ntmps139 Tryz.results139 (by simp) (fun _ => ?_); simp only [zaq, zau, go_sem, Nat.zero_add, Nat.reduceAdd]
  repeat' (first | (with_reducible first | (refine zdu (t := 8) yU yO yE ?_) | (refine zdu (t := 9) yU yO yE ?_) | refine zac yU yU yE ?_ | refine zab ?_ | refine DS.seq ?_ | refine zaa ?_ | (refine zbd yE ?_; refine zdk ?_) | refine DS.block ?_ | refine DS.skip ?_) | fail)
  refine zcn [0, 1, 2, 3] yN (fun (i : Nat × List (List Int)) => [(9, .own false 22 1 (i.2.map cR)), (10, I i.1)]) (fun (i : Nat × List (List Int)) => i.1 ≤ ids.length ∧ i.2 ++ zge (zcb met) (zgy (zcb met) n) t (ids.drop i.1) = zgy (zcb met) (n + 1) t ids) (fun (i : Nat × List (List Int)) => ids.length - i.1) (0, []) yS (by simp [zgy]) (fun i B hI hB => ?_); try dsimp only at hI hB; simp only [zas, zaw]
  repeat' (first | (with_reducible refine zeg (t := 8) yU yO yE ?_; simp only [zao, zaf, zah, Nat.reduceEqDiff, ↓reduceIte, zak, zal, zar, zaj, zai, zap, zam]) | (with_reducible refine zeg (t := 64) yU yO yE ?_; simp only [zao, zaf, zah, Nat.reduceEqDiff, ↓reduceIte, zak, zal, zar, zaj, zai, zap, zam]) | (with_reducible first | refine zac yU yU yE ?_ | refine zab ?_ | refine DS.seq ?_ | refine zaa ?_ | (refine zbd yE ?_; first | refine zel (fun _ => ?_) (fun _ => ?_) | refine yha (fun _ => ?_) (fun _ => ?_)) | refine DS.blk ?_ | refine DS.block ?_ | refine DS.exit yU ?_ | refine DS.skip ?_) | refine zhx inferInstance (yqk S hs hx hm t (ids[i.1]'(by omega)) ht (hi _ (List.getElem_mem (by omega)))) yR yT ?_ | refine zce (id := 8) [0, 1, 2, 3, 4, 5, 6, 7, 8, 9, 10, 11, 12, 13, 14] 15 (by kernel_rfl) zdq (by simp only [zbb, zbe, zbf, zbg, zba]; exact rfl) (by simp only [zax, zay, List.drop_nil]; exact rfl) ?_ | with_reducible refine zbw yU yU yU yE ?_ | refine zpa inferInstance (zwt t (by omega)) yU yT ?_; simp only [zcc, zcm, Nat.reduceEqDiff, ↓reduceIte] | (refine zhn yU yE yE ?_; simp only [go_sem, Nat.zero_add, Nat.reduceAdd]; simp only [zcc, zcm, Nat.reduceEqDiff, ↓reduceIte]) | (refine DD.append (mm := false) yU yE yE yU (by decide) yE (by first | exact .inl rfl | exact .inr ⟨rfl, rfl⟩) yE yX0 (by first | exact zat zdt _ | exact zat zeq _ | exact zat Member.len _ | exact zat Sitting.len _ | exact zat Ruling.len _ | (simp only [List.mem_cons, List.not_mem_nil, or_false, forall_eq]; rfl) | simp) ⟨by (try simp only [List.length_map, List.length_cons, List.length_nil, List.length_append, List.length_take, List.length_drop]); omega, by decide⟩ ?_; simp only [zao, zaf, zah, Nat.reduceEqDiff, ↓reduceIte, zak, zal, zar, zaj, zai, zap, zam]; simp only [zcc, zcm, Nat.reduceEqDiff, ↓reduceIte]) | refine zck yE ⟨?_, rfl⟩ | fail)
  ·have hlr : (ids.drop (i.1 + 1)).length ≤ 40 := by simp; omega
   have htr : ∀ a ∈ t ++ [ids[i.1]'(by omega)], ¬ zfs c a < 0 := fun a ha => by
    rcases List.mem_append.1 ha with ha | ha
    ·exact ht a ha
    ·rw [List.mem_singleton.1 ha]; exact hi _ (List.getElem_mem (by omega))
   have H := And.intro (ih (t ++ [ids[i.1]'(by omega)]) (ids.drop (i.1 + 1)) (by omega) hlr (by simp; omega) htr (fun a ha => hi a (List.mem_of_mem_drop ha))) hlen
   clear ih htr hlen hlr
   repeat' (first | (with_reducible first | refine zbw yU yU yU yX7 ?_ | refine zdc ?_) | fail)
   ·refine zhx inferInstance H.1 yR (by simp (disch := omega) only [go_sem, dopV, yV0, ↓reduceIte, Nat.reduceEqDiff, Nat.reduceLT, Nat.reduceLeDiff, Nat.reduceAdd, Nat.reduceMul, Nat.reduceSub, Int.reduceToNat, Int.reduceLT, Int.reduceLE, Int.reduceEq, IntWalk.toNatUp, IntWalk.iteOmega, IntWalk.i64_in, V.flat, V.one, *, zhv, List.map_append, ints]) ?_
    repeat' (first | (with_reducible first | refine zac yU yU yE ?_ | refine zab ?_ | refine DS.seq ?_ | refine zaa ?_ | refine DS.block ?_) | fail)
    rename_i hst
    have hB0 := hB
    have hI1 := hI.1
    have hI2 := hI.2
    rw [zyr (by omega), if_pos hst] at hI2
    have hmem : ∀ x ∈ zgy (zcb met) n (t ++ [ids[i.1]'(by omega)]) (ids.drop (i.1 + 1)), x.length = n := fun x hx => (zrl _ _ _ _ x hx).1
    have hlen := H.2
    rw [← hI2] at hlen
    clear hB H hI
    generalize zgy (zcb met) n (t ++ [ids[i.1]'(by omega)]) (ids.drop (i.1 + 1)) = X at *
    simp only [List.length_append, List.length_map] at hlen
    refine zcn [0, 1, 2, 3, 10, 11] yN (fun (k : Nat × List (List Int)) => [(9, .own false 22 1 (k.2.map cR)), (12, I k.1)]) (fun (k : Nat × List (List Int)) => k.1 ≤ X.length ∧ i.2 ++ (X.take k.1).map (ids[i.1]'(by omega) :: ·) = k.2 ∧ k.2.length = i.2.length + k.1) (fun (k : Nat × List (List Int)) => X.length - k.1) (0, i.2) yS (by simp) (fun k B hI hB => ?_); try dsimp only at hI hB; simp only [zas, zaw]
    have hI3 := hI.2.1
    have hI4 := hI.2.2
    have hI5 := hI.1
    clear hI
    have H := And.intro hI2 hI3
    clear hI2 hI3
    by_cases hk : k.1 < X.length
    ·have hkl := hmem _ (List.getElem_mem hk)
     repeat' (first | (with_reducible refine zeg (t := 9) yU yO yE ?_; simp only [zao, zaf, zah, Nat.reduceEqDiff, ↓reduceIte, zak, zal, zar, zaj, zai, zap, zam]) | (with_reducible first | refine zac yU yU yE ?_ | refine zab ?_ | refine DS.seq ?_ | refine zaa ?_ | (refine zbd yE ?_; refine zel (fun _ => ?_) (fun _ => ?_)) | refine DS.blk ?_ | refine DS.block ?_ | refine DS.exit yU ?_ | refine DS.skip ?_) | (refine DS.append (mm := false) yU yE yE yU (by decide) yE (by first | exact .inl rfl | exact .inr ⟨rfl, rfl⟩) yE yX0 (by first | exact zat zdt _ | exact zat zeq _ | exact zat Member.len _ | exact zat Sitting.len _ | exact zat Ruling.len _ | (simp only [List.mem_cons, List.not_mem_nil, or_false, forall_eq]; rfl) | simp) ⟨by (try simp only [List.length_map, List.length_cons, List.length_nil, List.length_append, List.length_take, List.length_drop]); omega, by decide⟩ ?_; simp only [zao, zaf, zah, Nat.reduceEqDiff, ↓reduceIte, zak, zal, zar, zaj, zai, zap, zam]) | refine zce (id := 12) [0, 1, 2, 3, 4, 6, 7, 8, 9, 5, 10, 11] 12 (by kernel_rfl) zdq (by simp only [zbb, zbe, zbf, zbg, zba]; exact rfl) (by simp only [zax, zay, List.drop_nil]; exact rfl) ?_ | (with_reducible refine ypc (t := 51) yU yO yE ?_; simp only [zao, zaf, zah, Nat.reduceEqDiff, ↓reduceIte, zak, zal, zar, zaj, zai, zap, zam]; simp only [zcc, zcm, Nat.reduceEqDiff, ↓reduceIte]) | (with_reducible first | refine zbw yU yU yU yE ?_ | refine zdc ?_) | (refine zhn yU yE yE ?_; simp only [go_sem, Nat.zero_add, Nat.reduceAdd]; simp only [zcc, zcm, Nat.reduceEqDiff, ↓reduceIte]) | (refine DD.append (mm := false) yU yE yE yU (by decide) yE (by first | exact .inl rfl | exact .inr ⟨rfl, rfl⟩) yE yX0 (by first | exact zat zdt _ | exact zat zeq _ | exact zat Member.len _ | exact zat Sitting.len _ | exact zat Ruling.len _ | (simp only [List.mem_cons, List.not_mem_nil, or_false, forall_eq]; rfl) | simp) ⟨by (try simp only [List.length_map, List.length_cons, List.length_nil, List.length_append, List.length_take, List.length_drop]); omega, by decide⟩ ?_; simp only [zao, zaf, zah, Nat.reduceEqDiff, ↓reduceIte, zak, zal, zar, zaj, zai, zap, zam]; simp only [zcc, zcm, Nat.reduceEqDiff, ↓reduceIte]) | fail)
     all_goals first | (exfalso; omega) | skip
     exact DS.back (hB (k.1 + 1, k.2 ++ [ids[i.1]'(by omega) :: X[k.1]]) _ _ (by simp; omega) (⟨by simp; omega, by rw [List.take_succ_eq_append_getElem hk, List.map_append, ← H.2]; simp, by simp; omega⟩) yS yS (fun b o e => by first | exact e | (simp only [zae]; split <;> simp_all)))
    ·repeat' (first | (with_reducible first | refine zac yU yU yE ?_ | refine zab ?_ | refine DS.seq ?_ | refine zaa ?_ | (refine zbd yE ?_; refine zel (fun _ => ?_) (fun _ => ?_)) | refine DS.blk ?_ | refine DS.block ?_ | refine DS.exit yU ?_ | refine DS.skip ?_) | refine zce (id := 12) [0, 1, 2, 3, 4, 6, 7, 8, 9, 5, 10, 11] 12 (by kernel_rfl) zdq (by simp only [zbb, zbe, zbf, zbg, zba]; exact rfl) (by simp only [zax, zay, List.drop_nil]; exact rfl) ?_ | (with_reducible refine ypc (t := 51) yU yO yE ?_; simp only [zao, zaf, zah, Nat.reduceEqDiff, ↓reduceIte, zak, zal, zar, zaj, zai, zap, zam]; simp only [zcc, zcm, Nat.reduceEqDiff, ↓reduceIte]) | with_reducible refine zbw yU yU yU yE ?_ | fail)
     all_goals first | (exfalso; omega) | skip
     refine DS.back (hB0 (i.1 + 1, k.2) _ _ (by simp; omega) ⟨by simp; omega, ?_⟩ yS yS (fun b o e => by exact e))
     rw [← H.1, ← H.2, List.take_of_length_le (by omega), List.append_assoc]
  ·rename_i hst
   exact DS.back (hB (i.1 + 1, i.2) _ _ (by simp; omega) (⟨by simp; omega, by have e := hI.2; rw [zyr (i := i.1) (by omega), if_neg (by simp [hst]), List.nil_append] at e; exact e⟩) yS yS (fun b o e => by first | exact e | (simp only [zae]; split <;> simp_all)))
  ·have de1 := zeo (l := ids) (i := i.1) (by omega); rw [de1] at hI
   simp [tupV, ← hI.2, zge]
end Go.XL
namespace Go.XL
open Go.Proofs
set_option maxRecDepth 100000
set_option maxHeartbeats 4000000
theorem zgx {P : Program} {n : Nat} {r : Rr} {Q : VEnv → Sto → Prop} {k : List Fr} {E : VEnv} {S : Sto} {id : Nat} {os l1 l2 : List Oper} (S0 S1 : Sto) (ord : List Nat) (m : Nat) (hok : zon os.toArray ord m = true) (hm : P.follows .mixedOrders = true) (h1 : zpf os ord = l1) (h2 : os.drop m = l2)
  (h0 : ∀ b o, zad S0 b = some o → zad S b = some o ∧ zad S1 b = none) (h3 : ∀ b o, zad S1 b = some o → zad S b = some o)
  (q : DD P n r Q os S0 [] l1 (.ops os l2 :: k) E E S1) : DS P n r Q (.code (.region id os.toArray true) :: k) E S :=
 ych S0 S1 [] MpOk.nil ord m hok hm h0 h3 (by rw [zny, h1]; simpa [h2] using q)
abbrev TS : Nat := 156
abbrev mtV (bs : List Nat) (n : Nat) : V := .own false 164 1 (bs.map (rowC n))
structure SearchR (S : Sto) (bx bp : Nat) (c : Club) (rs : List (List Int)) (bs : List Nat) (budget steps : Int) (met : Int → Int → Bool) (ps : List PRow) : Prop where
 obj : zad S bx = some (.cells (sC c rs bp ps.length (mtV bs c.members.length) budget steps) TS)
 mat : MetR S bs c met
 pln : zad S bp = some (.cells (ps.map PRow.cell) 49)
 row : ∀ (i : Nat) (h : i < ps.length), ps[i].Ok S
 xp : bx ≠ bp
 xb : ¬ bx ∈ bs
 pb : ¬ bp ∈ bs
 nd : bs.Nodup
 rx : ∀ (i : Nat) (h : i < ps.length) (b cap : Nat) (j : List V), ps[i].blk = some (b, cap, j) → b ≠ bx ∧ b ≠ bp ∧ ¬ b ∈ bs
 rr : ∀ (i k : Nat) (hi : i < ps.length) (hk : k < ps.length) (b cap cap' : Nat) (j j' : List V), ps[i].blk = some (b, cap, j) → ps[k].blk = some (b, cap', j') → i = k
theorem PRow.Ok.of {S S' : Sto} {p : PRow} (h : p.Ok S) (e : ∀ b cap j, p.blk = some (b, cap, j) → zad S' b = zad S b) : p.Ok S' := by
 obtain ⟨T, blk⟩ := p
 cases blk with
 | none => exact h
 | some x =>
  obtain ⟨b, cap, j⟩ := x
  obtain ⟨h1, h2⟩ := h
  exact ⟨by rw [e b cap j rfl]; exact h1, h2⟩
theorem MetR.of {S S' : Sto} {bs : List Nat} {c : Club} {met : Int → Int → Bool} (m : MetR S bs c met) (e : ∀ b, b ∈ bs → zad S' b = zad S b) : MetR S' bs c met :=
 ⟨m.len, fun i h h' => by rw [e _ (List.getElem_mem h)]; exact m.row i h h'⟩
theorem SearchR.steps {S : Sto} {bx bp : Nat} {c : Club} {rs : List (List Int)} {bs : List Nat} {budget steps : Int} {met : Int → Int → Bool} {ps : List PRow} (s : SearchR S bx bp c rs bs budget steps met ps) (n : Int) {l : List V} (hl : l = sC c rs bp ps.length (mtV bs c.members.length) budget n) :
  SearchR (setS bx (.cells l TS) S) bx bp c rs bs budget n met ps := by
 subst hl
 have e : ∀ b, b ≠ bx → zad (setS bx (.cells (sC c rs bp ps.length (mtV bs c.members.length) budget n) TS) S) b = zad S b := fun b hb => by rw [zbh s.obj, if_neg hb]
 refine ⟨by rw [zbh s.obj, if_pos rfl], s.mat.of fun b hb => e b (fun h => s.xb (h ▸ hb)), by rw [e _ s.xp.symm]; exact s.pln, fun i h => (s.row i h).of fun b cap j hb => e b (s.rx i h b cap j hb).1, s.xp, s.xb, s.pb, s.nd, s.rx, s.rr⟩
theorem SearchR.marked {S S' : Sto} {bx bp : Nat} {c : Club} {rs : List (List Int)} {bs : List Nat} {budget steps : Int} {met met' : Int → Int → Bool} {ps : List PRow} (s : SearchR S bx bp c rs bs budget steps met ps) (m : MetR S' bs c met') (e : ∀ b, ¬ b ∈ bs → zad S' b = zad S b) :
  SearchR S' bx bp c rs bs budget steps met' ps :=
 ⟨by rw [e _ s.xb]; exact s.obj, m, by rw [e _ s.pb]; exact s.pln, fun i h => (s.row i h).of fun b cap j hb => e b (s.rx i h b cap j hb).2.2, s.xp, s.xb, s.pb, s.nd, s.rx, s.rr⟩
theorem SearchR.turn {S S' : Sto} {bx bp : Nat} {c : Club} {rs : List (List Int)} {bs : List Nat} {budget steps : Int} {met : Int → Int → Bool} {ps : List PRow} (s : SearchR S bx bp c rs bs budget steps met ps) {r : Nat} (hr : r < ps.length) {T : List (List Int)} {b' cap' : Nat} {junk : List V}
  (hb : (∃ cap j, ps[r].blk = some (b', cap, j)) ∨ zad S b' = none) (hok : PRow.Ok S' ⟨T, some (b', cap', junk)⟩) (hp : zad S' bp = some (.cells ((ps.map PRow.cell).set r (.v (.slice (some ⟨b', 0, none⟩) T.length cap'))) 49))
  (e : ∀ b, b ≠ bp → b ≠ b' → (∀ cap j, ps[r].blk ≠ some (b, cap, j)) → zad S' b = zad S b) :
  SearchR S' bx bp c rs bs budget steps met (ps.set r ⟨T, some (b', cap', junk)⟩) := by
 have n1 : b' ≠ bx ∧ b' ≠ bp ∧ ¬ b' ∈ bs := by
  rcases hb with ⟨cap, j, h⟩ | h
  ·exact s.rx r hr b' cap j h
  ·refine ⟨?_, ?_, ?_⟩
   ·intro h'; rw [h', s.obj] at h; cases h
   ·intro h'; rw [h', s.pln] at h; cases h
   ·intro h'
    obtain ⟨i, hi, rfl⟩ := List.getElem_of_mem h'
    rw [s.mat.row i hi (s.mat.len ▸ hi)] at h; cases h
 have nb : ∀ (i : Nat) (h : i < ps.length) (cap : Nat) (j : List V), ps[i].blk = some (b', cap, j) → i = r := fun i h cap j hi => by
  rcases hb with ⟨cap2, j2, h2⟩ | h2
  ·exact s.rr i r h hr b' cap cap2 j j2 hi h2
  ·have h3 := s.row i h
   generalize ps[i] = p at hi h3
   obtain ⟨T', blk⟩ := p
   dsimp only at hi
   subst hi
   rw [h3.1] at h2; cases h2
 have eb : ∀ (i : Nat) (h : i < ps.length) (b cap : Nat) (j : List V), i ≠ r → ps[i].blk = some (b, cap, j) → zad S' b = zad S b := fun i h b cap j hir hi => by
  refine e b (s.rx i h b cap j hi).2.1 (fun hbb => ?_) fun cap2 j2 h2 => hir (s.rr i r h hr b cap cap2 j j2 hi h2)
  subst hbb; exact hir (nb i h cap j hi)
 have ex : ∀ b, b ≠ bp → b ≠ b' → (b = bx ∨ b ∈ bs) → zad S' b = zad S b := fun b h1 h2 h3 => e b h1 h2 fun cap j h4 => by
  have := s.rx r hr b cap j h4
  rcases h3 with h3 | h3
  ·exact this.1 h3
  ·exact this.2.2 h3
 have gs : ∀ (i : Nat) (h : i < (ps.set r ⟨T, some (b', cap', junk)⟩).length), (ps.set r ⟨T, some (b', cap', junk)⟩)[i] = if r = i then ⟨T, some (b', cap', junk)⟩ else ps[i]'(by simpa using h) := fun i h => by rw [List.getElem_set]
 refine ⟨?_, s.mat.of fun b hb' => ex b (fun h => s.pb (h ▸ hb')) (fun h => n1.2.2 (h ▸ hb')) (.inr hb'), ?_, fun i h => ?_, s.xp, s.xb, s.pb, s.nd, fun i h b cap j hi => ?_, fun i k hi hk b cap cap2 j j2 h1 h2 => ?_⟩
 ·rw [ex bx s.xp n1.1.symm (.inl rfl), s.obj, List.length_set]
 ·rw [hp, List.map_set]; rfl
 ·rw [gs]
  have h' : i < ps.length := by simpa using h
  by_cases hir : r = i
  ·rw [if_pos hir]; exact hok
  ·rw [if_neg hir]; exact (s.row i h').of fun b cap j hi => eb i h' b cap j (Ne.symm hir) hi
 ·rw [gs] at hi
  have h' : i < ps.length := by simpa using h
  by_cases hir : r = i
  ·rw [if_pos hir] at hi; cases hi; exact n1
  ·rw [if_neg hir] at hi; exact s.rx i h' b cap j hi
 ·rw [gs] at h1 h2
  have hi' : i < ps.length := by simpa using hi
  have hk' : k < ps.length := by simpa using hk
  by_cases hir : r = i
  ·rw [if_pos hir] at h1
   by_cases hkr : r = k
   ·omega
   ·rw [if_neg hkr] at h2
    simp only [Option.some.injEq, Prod.mk.injEq] at h1
    obtain ⟨rfl, _⟩ := h1
    exact hir ▸ (nb k hk' cap2 j2 h2).symm
  ·rw [if_neg hir] at h1
   by_cases hkr : r = k
   ·rw [if_pos hkr] at h2
    simp only [Option.some.injEq, Prod.mk.injEq] at h2
    obtain ⟨rfl, _⟩ := h2
    exact hkr ▸ nb i hi' cap j h1
   ·rw [if_neg hkr] at h2
    exact s.rr i k hi' hk' b cap cap2 j j2 h1 h2
end Go.XL
namespace Go.XL
open Go.Proofs
set_option maxRecDepth 100000
set_option maxHeartbeats 4000000
structure Box (p : Prop) : Prop where
 out : p
theorem PRow.split {S : Sto} {p : PRow} (h : p.Ok S) : ∃ S0 S1, (∀ b o, zad S0 b = some o → zad S b = some o ∧ zad S1 b = none) ∧ (∀ b o, zad S1 b = some o → zad S b = some o) ∧ p.Ok S1 ∧
  ∀ b, (∀ cap j, p.blk ≠ some (b, cap, j)) → zad S0 b = zad S b ∧ zad S1 b = none := by
 obtain ⟨T, blk⟩ := p
 cases blk with
 | none => exact ⟨S, [], fun _ _ e => ⟨e, rfl⟩, (fun _ _ e => by cases e), h, fun _ _ => ⟨rfl, rfl⟩⟩
 | some x =>
  obtain ⟨b0, cap, j⟩ := x
  obtain ⟨h1, h2⟩ := h
  refine ⟨delS b0 S, [(b0, .cells ((T.map fun t => ints t) ++ j) 22)], fun b o e => ?_, fun b o e => ?_, ⟨by simp [zad], h2⟩, fun b hb => ?_⟩
  ·rw [zda] at e
   split at e
   ·cases e
   ·rename_i hne
    exact ⟨e, by simp only [zad]; rw [if_neg (fun h => hne h.symm)]⟩
  ·simp only [zad] at e
   split at e
   ·rename_i hbb; subst hbb; rw [h1]; exact e
   ·cases e
  ·have hne : ¬ b0 = b := fun h => hb cap j (by rw [h])
   exact ⟨by rw [zda, if_neg (fun h => hne h.symm)], by simp only [zad]; rw [if_neg hne]⟩
theorem PRow.cell_copy (p : PRow) : p.cell.copy = p.cell := by
 obtain ⟨T, blk⟩ := p
 cases blk <;> rfl
theorem PRow.cell_some (T : List (List Int)) (b cap : Nat) (j : List V) : PRow.cell ⟨T, some (b, cap, j)⟩ = .v (.slice (some ⟨b, 0, none⟩) T.length cap) := rfl
theorem SearchR.appended {S S0 Sr S4 : Sto} {bx bp : Nat} {c : Club} {rs : List (List Int)} {bs : List Nat} {budget steps : Int} {met : Int → Int → Bool} {ps : List PRow} (s : SearchR S bx bp c rs bs budget steps met ps) {r : Nat} (hr : r < ps.length) {p : PRow} (hp : p = ps[r])
  (k3 : ∀ b, (∀ cap j, p.blk ≠ some (b, cap, j)) → zad S0 b = zad S b ∧ zad Sr b = none) (hdis : ∀ b o, zad S0 b = some o → zad S4 b = none) {T : List (List Int)} {b' cap' : Nat} {junk : List V} (m1 : PRow.Ok S4 ⟨T, some (b', cap', junk)⟩)
  (m2 : (∃ cap j, p.blk = some (b', cap, j)) ∨ zad Sr b' = none) (m3 : ∀ b, b ≠ b' → (∀ cap j, p.blk ≠ some (b, cap, j)) → zad S4 b = zad Sr b) :
  zad (S4 ++ S0) bp = some (.cells (ps.map PRow.cell) 49) ∧
  SearchR (setS bp (.cells ((ps.map PRow.cell).set r (.v (.slice (some ⟨b', 0, none⟩) T.length cap'))) 49) (S4 ++ S0)) bx bp c rs bs budget steps met (ps.set r ⟨T, some (b', cap', junk)⟩) := by
 subst hp
 have hbp := k3 bp fun cap j h => (s.rx r hr bp cap j h).2.1 rfl
 have h0 : zad S0 bp = some (.cells (ps.map PRow.cell) 49) := hbp.1.trans s.pln
 have h1 : zad (S4 ++ S0) bp = some (.cells (ps.map PRow.cell) 49) := by rw [zbr, hdis bp _ h0]; exact h0
 have h2 : ∃ cap j, zad S4 b' = some (.cells ((T.map fun t => ints t) ++ j) cap) := ⟨_, _, m1.1⟩
 have h3 : b' ≠ bp := fun h => by
  obtain ⟨_, _, h2⟩ := h2
  rw [h, hdis bp _ h0] at h2; cases h2
 refine ⟨h1, s.turn hr ?_ (m1.of fun b cap j h => ?_) ?_ fun b e1 e2 e3 => ?_⟩
 ·by_cases hold : ∃ cap j, ps[r].blk = some (b', cap, j)
  ·exact .inl hold
  ·right
   have hk := k3 b' fun cap j h => hold ⟨cap, j, h⟩
   rw [← hk.1]
   cases hh : zad S0 b' with
   | none => rfl
   | some o =>
    obtain ⟨_, _, h2⟩ := h2
    rw [hdis b' o hh] at h2; cases h2
 ·simp only [Option.some.injEq, Prod.mk.injEq] at h
  obtain ⟨rfl, _⟩ := h
  rw [zbh h1, if_neg h3, zbr, m1.1]
 ·rw [zbh h1, if_pos rfl]
 ·rw [zbh h1, if_neg e1, zbr, m3 b e2 e3, (k3 b e3).2]
  exact (k3 b e3).1
theorem zzg (ids : List Int) (T : List (List Int)) (t : List Int) : zhk ids (T ++ [t]) = (zhk ids T).filter fun id => !decide (id ∈ t) := by
 simp only [zhk, List.filter_filter]
 apply List.filter_congr
 intro x _
 simp [Bool.and_comm]
theorem yht (T : List (List Int)) {j : List V} (h : ∀ v ∈ j, v.free = true) : ∀ v ∈ (T.map fun t => ints t) ++ j, v.free = true := fun v hv => by
 rcases List.mem_append.1 hv with h1 | h1
 ·obtain ⟨t, _, rfl⟩ := List.mem_map.1 h1; rfl
 ·exact h v h1
section
variable {v0 : VH} {P : Program} {n : Nat} {E : VEnv} {S : Sto} {dst : Option Tmp} {ty : TypeId} {pos : String} {af : Array Edge}
theorem zvi {p : PRow} {T t by_ : Nat} {z : Value} {sx x : Operand} {vx : V} {tab : List Int} (hd : dst = some t) (ht : tel P T = some (22, 1, by_)) (hz : zem P 22 = some z) (hzs : z.cells.size = 1) (hzo : zid z.cells.toList = true)
  (hs : evV E sx = some p.cell) (hok : p.Ok S) (hx : evV E x = some vx) (hxl : zfh vx = some [[ints tab]]) (hfit : p.rows.length + 1 ≤ 2147483648 ∧ by_ ≤ 65536) :
  OpS v0 P n ⟨dst, .call { callee := .builtin .append, args := #[sx, x], argTypes := #[T, T] }, ty, pos, af, none⟩ E S
   (fun u E' S' => E' = E ∧ ∃ b' cap' junk, u = PRow.cell ⟨p.rows ++ [tab], some (b', cap', junk)⟩ ∧ PRow.Ok S' ⟨p.rows ++ [tab], some (b', cap', junk)⟩ ∧ ((∃ cap j, p.blk = some (b', cap, j)) ∨ zad S b' = none) ∧
    ∀ b, b ≠ b' → (∀ cap j, p.blk ≠ some (b, cap, j)) → zad S' b = zad S b) := by
 obtain ⟨R, blk⟩ := p
 intro K D hv hold env a w hfl ha s
 cases blk with
 | none =>
  simp only [PRow.Ok] at hok
  subst hok
  refine (zxi hd ht hz hzs hzo (by decide) hs hx hxl (by simp) (by simp) (by simpa [Fits] using hfit) K D hv hold env a w hfl ha s).mono ?_
  rintro y w' ⟨hsame, u, E2, S2, hv2, hold2, q1, q2, h1, b', cap', junk, h2, h3, h4, h5, h6, h7, h8⟩
  refine ⟨hsame, u, E2, S2, hv2, hold2, q1, q2, h1, b', cap', junk, ?_, ?_, ?_, ?_⟩
  ·rw [h2]; simp [PRow.cell]
  ·subst h3
   refine ⟨by simp [zad, V.copy], by simpa using h5, h7, h8⟩
  ·exact .inr (h4.resolve_left (by simp))
  ·intro b hb _
   subst h3
   simp only [zad, delB]
   rw [if_neg (fun h => hb h.symm)]
 | some x =>
  obtain ⟨b0, cap0, j0⟩ := x
  obtain ⟨k1, k2, k3, k4⟩ := hok
  refine (zxj hd ht hz hzs hzo (by decide) hs k1 (by simpa using k2) (by omega) k3 (yht R k4) hx hxl (by simp) (by simp) (by simpa [Fits] using hfit) K D hv hold env a w hfl ha s).mono ?_
  rintro y w' ⟨hsame, u, E2, S2, hv2, hold2, q1, q2, h1, b', cap', junk, h2, h3, h4, h5, h6, h7, h8⟩
  refine ⟨hsame, u, E2, S2, hv2, hold2, q1, q2, h1, b', cap', junk, ?_, ?_, ?_, ?_⟩
  ·rw [h2]; simp [PRow.cell]
  ·subst h3
   refine ⟨?_, by simpa using h5, h7, h8⟩
   simp only [zad, if_true, Option.some.injEq, Ob.cells.injEq, and_true]
   simp [V.copy]
  ·rcases h4 with h4 | h4
   ·cases h4; exact .inl ⟨_, _, rfl⟩
   ·exact .inr h4
  ·intro b hb hnb
   subst h3
   simp only [zad, delB]
   rw [if_neg (fun h => hb h.symm), zda, if_neg]
   intro h; subst h; exact hnb _ _ rfl
end
end Go.XL
namespace Go.XL
open Go.Proofs
set_option maxRecDepth 100000
set_option maxHeartbeats 8000000
abbrev ptr (b : Nat) : V := .v (.pointer (some ⟨b, 0, none⟩))
theorem zef (bs : Nat) (x n : Int) (hn : n ≤ 1000000000000) : SC Tryz.prog 32 [ptr bs, I n] bs x (I (zan x n)) (zag x) := by
 unfold SC
 refine DC.of_run Tryz.func32 rfl Tryz.ntmps32 Tryz.results32 (by simp) (fun _ => ?_); simp only [zaq, zau, go_sem, Nat.zero_add, Nat.reduceAdd]
 repeat' (first | (with_reducible first | refine zac yU yU yE ?_ | refine zab ?_ | refine DS.seq ?_ | refine zaa ?_ | (refine zbd yE ?_; refine zel (fun _ => ?_) (fun _ => ?_)) | refine DS.skip ?_) | (refine DS.store yR yE yE yE yE yU (by exact ⟨by with_unfolding_all rfl, by (try simp only [List.length_map, List.length_append, List.length_set, List.length_replicate, List.length_cons, List.length_nil]); omega⟩) ?_; simp only [zbo, zav, zaz, zbz, zbl, zbj, zbk]; try simp only [zao, zaf, zah, Nat.reduceEqDiff, ↓reduceIte, zak, zal, zar, zaj, zai, zap, zam]) | refine zce (id := 4) [0, 1, 2, 3, 4, 5, 6, 7, 8, 9, 10, 11, 12] 13 (by kernel_rfl) zdq (by simp only [zbb, zbe, zbf, zbg, zba]; exact rfl) (by simp only [zax, zay, List.drop_nil]; exact rfl) ?_ | (with_reducible first | refine zbw yU yU yU yE ?_ | refine zdc ?_) | fail)
 ·rename_i e1
  refine zck yG ⟨?_, ?_⟩
  ·rw [zan, if_pos (by omega)]; rfl
  ·simp only [setS, if_true, zby]; rfl
 ·rename_i e1
  have hw : IntKind.u64.wrap n = n := ycj ⟨by omega, by omega⟩
  repeat' (first | (with_reducible first | refine zac yU yU yE ?_ | refine zab ?_) | fail)
  refine zck yG ⟨?_, ?_⟩
  ·rw [zan, if_neg e1]
   show I (IntKind.i64.wrap ((mixX (zag x)).tmod n)) = _
   have h1 := ypr (zag x)
   have h2 := Int.emod_nonneg (mixX (zag x)) (show n ≠ 0 by omega)
   have h3 := Int.emod_lt_of_pos (mixX (zag x)) (show 0 < n by omega)
   rw [Int.tmod_eq_emod_of_nonneg h1.1]
   have h4 := ztx (n := mixX (zag x) % n) (by omega)
   unfold w64 at h4
   rw [h4]
  ·simp only [setS, if_true, zby]; rfl
theorem zmw (bs : Nat) (x n : Int) (hn : n ≤ 1000000000000) : SC Tryz.prog 85 [ptr bs, I n] bs x (Bo (zqb x n)) (zag x) := by
 unfold SC
 refine DC.of_run Tryz.func85 rfl Tryz.ntmps85 Tryz.results85 (by simp) (fun _ => ?_); simp only [zaq, zau, go_sem, Nat.zero_add, Nat.reduceAdd]
 repeat' (first | (with_reducible first | refine zac yU yU yE ?_ | refine zab ?_ | refine DS.seq ?_ | refine zaa ?_) | (refine zfd inferInstance (zef bs x n hn) yR yT yT ?_; (try simp only [zbn, zbs, ↓reduceIte, *])) | fail)
 refine zck yG ⟨rfl, rfl⟩
theorem ydg (bs : Nat) (x lo hi : Int) (hn : -1000 ≤ lo ∧ lo ≤ 1000 ∧ -1000 ≤ hi ∧ hi ≤ 1000) : SC Tryz.prog 86 [ptr bs, I lo, I hi] bs x (I (zcy x lo hi)) (zag x) := by
 have hb := zbv x (hi - lo + 1)
 obtain ⟨h1, h2, h3⟩ := hb
 obtain ⟨n1, n2, n3, n4⟩ := hn
 have h4 : zan x (hi - lo + 1) ≤ 3000 := by
  rcases Int.lt_or_le (hi - lo + 1) 1 with h | h
  ·rw [h3 h]; omega
  ·have := h2 h; omega
 clear h2 h3
 unfold SC
 refine DC.of_run Tryz.func86 rfl Tryz.ntmps86 Tryz.results86 (by simp) (fun _ => ?_); simp only [zaq, zau, go_sem, Nat.zero_add, Nat.reduceAdd]
 repeat' (first | (with_reducible first | refine zac yU yU yE ?_ | refine zab ?_ | refine DS.seq ?_ | refine zaa ?_) | (refine zfd inferInstance (zef bs x (hi - lo + 1) (by omega)) yR yT yT ?_; (try simp only [zbn, zbs, ↓reduceIte, *])) | fail)
 refine zck yG ⟨rfl, rfl⟩
theorem yX8 {p : Prop} (h : p := by (simp (disch := omega) only [go_sem, dopV, yV0, ↓reduceIte, Nat.reduceEqDiff, Nat.reduceLT, Nat.reduceLeDiff, Nat.reduceAdd, Nat.reduceMul, Nat.reduceSub, Int.reduceToNat, Int.reduceLT, Int.reduceLE, Int.reduceEq, IntWalk.toNatUp, IntWalk.iteOmega, IntWalk.i64_in, V.flat, V.one, *, Value.oneCell']; exact rfl)) : p := h
theorem zyp (l : List Int) : DC Tryz.prog 39 [ints l] [] (fun u S' => ∃ bs, u = ptr bs ∧ S' = [(bs, srcO (newX l))]) := by
 refine DC.of_run Tryz.func39 rfl Tryz.ntmps39 Tryz.results39 (by simp) (fun _ => ?_); simp only [zaq, zau, go_sem, Nat.zero_add, Nat.reduceAdd]
 refine zjc (t := 0) yG (.inl rfl) (fun hb0 => ?_); simp only [List.length_map] at hb0
 repeat' (first | (with_reducible first | refine zac yU yU yX8 ?_ | refine zab ?_ | refine DS.seq ?_ | refine zaa ?_ | refine DS.block ?_) | (with_reducible refine zkq yU yX8 yU (fun _ hfr => ?_); have hfr := zkk hfr; simp only [zhj, zim, and_true] at hfr; simp only [zbu, zcx, zbt, zcj, zbq, zbm, zbx, zbp, zcr, zcv, zcd, zcu, zch, zcg]) | fail)
 rename_i bs hbs
 refine zcq [0, 3] yN (fun (y : Nat × Int) => [(4, I y.1)]) (fun (y : Nat × Int) => [(bs, srcO y.2)]) (fun (y : Nat × Int) => y.1 ≤ l.length ∧ newX l = yme (l.drop y.1) y.2) (fun (y : Nat × Int) => l.length - y.1) (0, 2685821657736338717) yS (fun b o e => by exact e) ⟨Nat.zero_le _, rfl⟩ (fun y B hI hB => ?_); try dsimp only at hI hB; simp only [zas, zaw]
 obtain ⟨i, x⟩ := y
 dsimp only at hI hB
 obtain ⟨g1, g2⟩ := hI
 have H := Box.mk g2
 clear g2
 repeat' (first | (with_reducible first | refine zac yU yU yE ?_ | refine zab ?_ | refine DS.seq ?_ | refine zaa ?_ | (refine zbd yE ?_; refine zel (fun _ => ?_) (fun _ => ?_)) | refine DS.blk ?_ | refine DS.block ?_ | refine DS.exit yU ?_ | refine DS.skip ?_) | (refine DS.store yR yE yE yE yE yU (by exact ⟨by with_unfolding_all rfl, by (try simp only [List.length_map, List.length_append, List.length_set, List.length_replicate, List.length_cons, List.length_nil]); omega⟩) ?_; simp only [zbo, zav, zaz, zbz, zbl, zbj, zbk]; try simp only [zao, zaf, zah, Nat.reduceEqDiff, ↓reduceIte, zak, zal, zar, zaj, zai, zap, zam]) | refine zce (id := 5) [0, 1, 2, 3, 4, 5, 6, 7, 8, 9, 10, 11] 12 (by kernel_rfl) zdq (by simp only [zbb, zbe, zbf, zbg, zba]; exact rfl) (by simp only [zax, zay, List.drop_nil]; exact rfl) ?_ | refine zce (id := 6) [0, 1, 2, 3, 4, 5, 6, 7, 8, 9, 10] 11 (by kernel_rfl) zdq (by simp only [zbb, zbe, zbf, zbg, zba]; exact rfl) (by simp only [zax, zay, List.drop_nil]; exact rfl) ?_ | (with_reducible first | refine zbw yU yU yU yE ?_ | refine zdc ?_) | fail)
 ·rename_i e1
  have hi : i < l.length := by omega
  refine DS.back (hB (i + 1, xorI .u64 (IntKind.u64.wrap (xorI .u64 x (IntKind.u64.wrap l[i]) * 11400714819323198485)) ((IntKind.u64.wrap (xorI .u64 x (IntKind.u64.wrap l[i]) * 11400714819323198485)).fdiv 536870912)) _ _ (by dsimp only; omega) ⟨by dsimp only; omega, by rw [H.out, List.drop_eq_getElem_cons hi, yme]⟩ yS yS (fun b o e => ?_))
  simp only [setS, if_true, zby]
  exact e
 ·rename_i e1
  have h := H.out
  rw [List.drop_eq_nil_of_le (by omega)] at h
  refine zck yG ⟨bs, rfl, ?_⟩
  rw [h]; rfl
end Go.XL
namespace Go.XL
open Go.Proofs
theorem zwu (l : List Member) {g : FuncId} {fs cs : List V} {fn : Func} (p : Member → Bool) (hf : FnOk Tryz.prog g fn) (h : ∀ m, PC Tryz.prog g (fs ++ [m.val] ++ cs) (Bo (p m))) :
  PC Tryz.prog 101 [.lst (l.map Member.cells), .fn g fs cs] (I (idxF p l 0)) := by
 refine DC.of_run Tryz.func101 rfl Tryz.ntmps101 Tryz.results101 (by simp) (fun _ => ?_); simp only [zaq, zau, go_sem, Nat.zero_add, Nat.reduceAdd]
 refine zjc (t := 0) yG (.inl rfl) (fun hb0 => ?_); simp only [List.length_map] at hb0
 repeat' (first | (with_reducible first | refine zac yU yU yE ?_ | refine zab ?_ | refine DS.seq ?_ | refine zaa ?_ | refine DS.block ?_) | fail)
 refine zxl (fun (i : Nat) => [(0, .lst (l.map Member.cells)), (1, .fn g fs cs), (7, I l.length), (8, I i)]) (fun (i : Nat) => []) (fun (i : Nat) => i ≤ l.length ∧ idxF p l 0 = idxF p (l.drop i) i) (fun (i : Nat) => l.length - i) 0 yS yS (by simp) (fun i B hI hB => ?_); try dsimp only at hI hB ⊢
 repeat' (first | (with_reducible first | refine zac yU yU yE ?_ | refine zab ?_ | refine DS.seq ?_ | refine zaa ?_ | (refine zbd yE ?_; refine zel (fun _ => ?_) (fun _ => ?_)) | refine DS.block ?_ | refine DS.exit yU ?_ | refine DS.skip ?_) | refine zbi [] yE trivial ?_ | fail)
 ·refine ycf hf (by simp (disch := omega) only [go_sem, dopV, yV0, ↓reduceIte, Nat.reduceEqDiff, Nat.reduceLT, Nat.reduceLeDiff, Nat.reduceAdd, Nat.reduceMul, Nat.reduceSub, Int.reduceToNat, Int.reduceLT, Int.reduceLE, Int.reduceEq, IntWalk.toNatUp, IntWalk.iteOmega, IntWalk.i64_in, V.flat, V.one]) (h l[i]) yR yG ?_
  repeat' (first | (with_reducible first | refine zac yU yU yE ?_ | refine zab ?_ | refine DS.seq ?_ | refine zaa ?_ | (refine zbd yE ?_; refine yha (fun _ => ?_) (fun _ => ?_)) | refine DS.blk ?_ | refine DS.skip ?_) | refine zbi [] yE trivial ?_ | fail)
  ·rename_i h1 h2
   have := zme (p := p) (l := l) (i := i) (by omega) h2
   simp only [tupV]; rw [hI.2, this]
  ·rename_i h1 h2
   exact DS.back (hB (i + 1) _ _ (by omega) ⟨by omega, by rw [hI.2, zjx (by omega) h2]⟩ yS yS)
 ·have := zmf (p := p) (l := l) (i := i) (by omega)
  simp only [tupV]; rw [hI.2, this]
theorem yno (m : Member) (id : Int) : PC Tryz.prog 102 [m.val, .plc [I id]] (Bo (decide (m.id = id))) := by
 refine DC.of_run Tryz.func102 rfl Tryz.ntmps102 Tryz.results102 (by simp) (fun _ => ?_); simp only [zaq, zau, go_sem, Nat.zero_add, Nat.reduceAdd]
 repeat' (first | (with_reducible first | refine zac yU yU yE ?_ | refine zab ?_ | refine DS.seq ?_ | refine zaa ?_) | (refine zdb (t := 2) yU yE yU ?_; simp only [zbu, zcx, zbt, zcj, zbq, zbm, zbx, zbp, zcr, zcv, zcd, zcu, zch, zcg]) | refine zbi [] yE trivial ?_ | fail)
 all_goals first | (simp_all [tupV]; done)
theorem yqg (c : Club) (id : Int) : PC Tryz.prog 73 [c.val, I id] (I (idxF (fun m => decide (m.id = id)) c.members 0)) := by
 refine DC.of_run Tryz.func73 rfl Tryz.ntmps73 Tryz.results73 (by simp) (fun _ => ?_); simp only [zaq, zau, go_sem, Nat.zero_add, Nat.reduceAdd]
 repeat (first | refine DS.seq ?_ | refine DS.block ?_ | refine DS.scope ?_ | refine DS.region ?_ | refine zab ?_ | refine DS.blk ?_ | refine DS.label ?_ | refine DS.skip ?_ | refine DS.exit yR ?_ | refine zac yR yR yG ?_ | refine ytz yG yR ?_ | refine yso yG yR ?_ | refine ysl yG yR ?_ | refine ysm yG yR yR ?_ | refine ysk yG yR yR ?_ )
 refine zkq yR yG yR (fun b hb => ?_); have hb := zkk hb; simp only [zhj, zim, and_true, zbu, zcx, zbt, zcj, zbq, zbm, zbx, zbp, zcr, zcv, zcd, zcu, zch, zcg, ite_eq_right_iff, reduceCtorEq, imp_false] at hb ⊢
 refine zkq yR yG yR (fun d hd => ?_); have hd := zkk hd; simp only [zhj, zim, and_true, zbu, zcx, zbt, zcj, zbq, zbm, zbx, zbp, zcr, zcv, zcd, zcu, zch, zcg, ite_eq_right_iff, reduceCtorEq, imp_false] at hd ⊢
 refine zir (t := 3) yE yE ?_; simp only [zbn, zbs, ↓reduceIte, *, zbq, zbm, zbx, zbp, zcr, zcv, zcd, zcu]
 repeat' (first | (with_reducible first | refine zac yU yU yE ?_ | refine zab ?_ | refine DS.seq ?_ | refine zaa ?_) | refine zcf inferInstance (zwu c.members (fun m => decide (m.id = id)) inferInstance (fun m => yno m id)) yR yT ?_ | refine zbi [] yE trivial ?_ | fail)
 all_goals first | (simp_all [tupV]; done)
end Go.XL
namespace Go.XL
open Go.Proofs
theorem yff {most : Int} {l : List Int} {i : Nat} {w : Int} (hi : i < l.length) (h : -most ≤ l[i] ∧ l[i] ≤ most) : zei most (l.drop i) w = zei most (l.drop (i + 1)) (w - l[i]) := by
 rw [List.drop_eq_getElem_cons hi, zei, if_pos h]
theorem yav {most : Int} {l : List Int} {i : Nat} {w : Int} (hi : i < l.length) (h : ¬ (-most ≤ l[i] ∧ l[i] ≤ most)) : zei most (l.drop i) w = 2 := by
 rw [List.drop_eq_getElem_cons hi, zei, if_neg h]
theorem zqo {most : Int} {l : List Int} {i : Nat} {w : Int} (hi : l.length ≤ i) : zei most (l.drop i) w = if w = 0 then 0 else 12 := by
 rw [List.drop_eq_nil_of_le hi, zei]
theorem ycp (c : Club) (l : List Int) (most want : Int) (h1 : c.size ≤ 4) (h2 : 0 ≤ most ∧ most ≤ 1099511627776) (h3 : -1099511627776 ≤ want ∧ want ≤ 1099511627776) : PC Tryz.prog 44 [c.val, ints l, I most, I want] (I (zgq c.size l most want)) := by
 refine DC.of_run Tryz.func44 rfl Tryz.ntmps44 Tryz.results44 (by simp) (fun _ => ?_); simp only [zaq, zau, go_sem, Nat.zero_add, Nat.reduceAdd]
 refine zjc (t := 1) yG (.inl rfl) (fun hb1 => ?_); simp only [List.length_map] at hb1
 repeat' (first | (with_reducible first | refine zac yU yU yE ?_ | refine zab ?_ | refine DS.seq ?_ | refine zaa ?_ | (refine zbd yE ?_; refine zgb (fun _ => ?_) (fun _ => ?_)) | refine DS.block ?_ | refine DS.skip ?_) | (refine zdb (t := 4) yU yE yU ?_; simp only [zbu, zcx, zbt, zcj, zbq, zbm, zbx, zbp, zcr, zcv, zcd, zcu, zch, zcg]) | refine zbi [] yE trivial ?_ | fail)
 ·simp [tupV, zgq, *]
 refine zxl (fun (i : Nat × Int) => [(1, ints l), (2, I most), (3, I i.2), (16, ints l), (17, I l.length), (18, I i.1)]) (fun (i : Nat × Int) => []) (fun (i : Nat × Int) => i.1 ≤ l.length ∧ zei most l want = zei most (l.drop i.1) i.2 ∧ -1099511627776 * (i.1 + 1) ≤ i.2 ∧ i.2 ≤ 1099511627776 * (i.1 + 1)) (fun (i : Nat × Int) => l.length - i.1) (0, want) yS yS (by simp; omega) (fun i B hI hB => ?_); try dsimp only at hI hB ⊢
 repeat' (first | (with_reducible first | refine zac yU yU yE ?_ | refine zab ?_ | refine DS.seq ?_ | refine zaa ?_ | (refine zbd yE ?_; first | refine zgb (fun _ => ?_) (fun _ => ?_) | refine zel (fun _ => ?_) (fun _ => ?_)) | refine DS.blk ?_ | refine DS.block ?_ | refine DS.exit yU ?_ | refine DS.skip ?_) | refine zcf inferInstance (zpj _ _ _) yR yT ?_ | refine zbi [] yE trivial ?_ | fail)
 ·rename_i q1 q2
  have hs : (l.length : Int) = c.size := by omega
  rw [zfp, zgq, if_pos hs, hI.2.1, yav (by omega) (by simpa using q2)]
 ·rename_i q1 q2
  have q3 : -most ≤ l[i.1] ∧ l[i.1] ≤ most := by simpa using q2
  exact DS.back (hB (i.1 + 1, i.2 - l[i.1]) _ _ (by simp; omega) ⟨by simp; omega, by rw [hI.2.1, yff (by omega) q3], by simp; omega, by simp; omega⟩ yS yS)
 ·rename_i q1 q2
  have hs : (l.length : Int) = c.size := by omega
  rw [zfp, zgq, if_pos hs, hI.2.1, zqo (by omega), if_neg (by simpa using q2)]
 ·rename_i q1 q2
  have hs : (l.length : Int) = c.size := by omega
  rw [zfp, zgq, if_pos hs, hI.2.1, zqo (by omega), if_pos (by simpa using q2)]
end Go.XL
namespace Go.XL
open Go.Proofs
set_option maxRecDepth 100000
set_option maxHeartbeats 4000000
theorem ygg (l : List Member) : PC Tryz.prog 45 [.lst (l.map Member.cells)] (I (zen l)) := by
 refine DC.of_run Tryz.func45 rfl Tryz.ntmps45 Tryz.results45 (by simp) (fun _ => ?_); simp only [zaq, zau, go_sem, Nat.zero_add, Nat.reduceAdd]
 refine zjc (t := 0) yG (.inl rfl) (fun hb0 => ?_); simp only [List.length_map] at hb0
 repeat' (first | (with_reducible first | refine zac yU yU yE ?_ | refine zab ?_ | refine DS.seq ?_ | refine zaa ?_ | (refine zbd yE ?_; refine zel (fun _ => ?_) (fun _ => ?_)) | refine DS.block ?_ | refine DS.skip ?_) | refine zbi [] yE trivial ?_ | fail)
 ·rename_i q; rw [zen, if_pos (by omega)]; rfl
 refine zcn [9, 10] yN (fun (i : Nat × Int) => [(3, I i.2), (11, I i.1)]) (fun (i : Nat × Int) => i.1 ≤ l.length ∧ zen l = zdi (l.drop i.1) i.2) (fun (i : Nat × Int) => l.length - i.1) (0, 0) yS (by simp [zen]; omega) (fun i B hI hB => ?_); try dsimp only at hI hB; simp only [zas, zaw]
 repeat' (first | (with_reducible first | refine zac yU yU yE ?_ | refine zab ?_ | refine DS.seq ?_ | refine zaa ?_ | (refine zbd yE ?_; first | refine zgb (fun _ => ?_) (fun _ => ?_) | refine zel (fun _ => ?_) (fun _ => ?_) | refine zde ?_ | refine zdk ?_) | (refine zdz yU yE ?_; first | refine yaj ?_ | refine ylj (fun _ => ?_) (fun _ => ?_) | refine zvj (fun _ => ?_) (fun _ => ?_) | refine GG.run ?_ | refine zfo ?_ | refine ztg ?_) | refine DS.blk ?_ | refine DS.block ?_ | refine DS.exit yU ?_ | refine DS.skip ?_) | (refine zia (t := 5) yU yE yU (fun _ => yE) yE yU (by exact ⟨by with_unfolding_all rfl, by with_unfolding_all decide⟩) (fun _ => by simp only [go_sem, Nat.reduceEqDiff, ↓reduceIte]) ?_; simp only [go_sem]) | refine zcf inferInstance (zpj _ _ _) yR yT ?_ | refine zbi [] yE trivial ?_ | fail)
 all_goals try first | (clear hB; obtain ⟨_, r, dr1, rfl, dr3⟩ := zco (l := l) (i := i.1) (by omega); rw [dr1] at hI; rw [hI.2]; simp [tupV, zdi, *]; done) | (clear hB; have de1 := zeo (l := l) (i := i.1) (by omega); rw [de1] at hI; rw [hI.2]; simp [tupV, zdi, *]; done)
 ·obtain ⟨_, r, dr1, rfl, dr3⟩ := zco (l := l) (i := i.1) (by omega); rw [dr1] at hI
  exact DS.back (hB (i.1 + 1, l[i.1].id) _ _ (by simp; omega) (⟨by simp; omega, by rw [hI.2, dr3]; simp [zdi, *]⟩) yS yS (fun b o e => by first | exact e | (simp only [zae]; split <;> simp_all)))
 ·obtain ⟨_, r, dr1, rfl, dr3⟩ := zco (l := l) (i := i.1) (by omega); rw [dr1] at hI
  exact DS.back (hB (i.1 + 1, l[i.1].id) _ _ (by simp; omega) (⟨by simp; omega, by rw [hI.2, dr3]; simp [zdi, *]⟩) yS yS (fun b o e => by first | exact e | (simp only [zae]; split <;> simp_all)))
theorem zyl (c : Club) (hs : c.Small) (a b : Int) : PC Tryz.prog 81 [c.val, I a, I b] (Bo (zfe c a b)) := by
 have h1 := hs.rounds
 by_cases ha : 0 ≤ a ∧ a ≤ (c.rounds.length : Int) - 1
 ·obtain ⟨i, rfl⟩ := Int.eq_ofNat_of_zero_le ha.1
  have hi : i < c.rounds.length := by omega
  have h2 := (hs.at hi).points
  rw [zmb hi]
  refine DC.of_run Tryz.func81 rfl Tryz.ntmps81 Tryz.results81 (by simp) (fun _ => ?_); simp only [zaq, zau, go_sem, Nat.zero_add, Nat.reduceAdd]
  repeat' (first | (with_reducible first | refine zac yU yU yE ?_ | refine zab ?_ | refine DS.seq ?_ | refine zaa ?_ | (refine zdz yU yE ?_; first | refine zow (fun _ => ?_) (fun _ => ?_) | refine GG.run ?_ | refine zfo ?_)) | refine zcf inferInstance (zpj _ _ _) yR yT ?_ | (refine zdb (t := 3) yU yE yU ?_; simp only [zbu, zcx, zbt, zcj, zbq, zbm, zbx, zbp, zcr, zcv, zcd, zcu, zch, zcg]) | refine zbi [] yE trivial ?_ | fail)
  ·rename_i q1 q2
   have : b.toNat < c.rounds[i].points.length := by omega
   simp [tupV, List.getD_eq_getElem?_getD, *]
  ·simp [tupV, *]
 ·rw [zrb ha]
  refine DC.of_run Tryz.func81 rfl Tryz.ntmps81 Tryz.results81 (by simp) (fun _ => ?_); simp only [zaq, zau, go_sem, Nat.zero_add, Nat.reduceAdd]
  repeat' (first | (with_reducible first | refine zac yU yU yE ?_ | refine zab ?_ | refine DS.seq ?_ | refine zaa ?_ | (refine zdz yU yE ?_; refine zfo ?_)) | refine zcf inferInstance (zpj _ _ _) yR yT ?_ | (refine zdb (t := 3) yU yE yU ?_; simp only [zbu, zcx, zbt, zcj, zbq, zbm, zbx, zbp, zcr, zcv, zcd, zcu, zch, zcg]) | refine zbi [] yE trivial ?_ | fail)
  all_goals first | rfl | omega
theorem zyj (c : Club) (l : List Int) (h1 : c.size ≤ 4) (h2 : 0 ≤ c.size) (h3 : 0 ≤ c.start ∧ c.start ≤ 1000000) : PC Tryz.prog 92 [c.val, ints l] (I (zfq c l)) := by
 have h4 : 0 ≤ c.size * c.start := Int.mul_nonneg h2 h3.1
 have h5 : c.size * c.start ≤ 4 * 1000000 := Int.mul_le_mul h1 h3.2 h3.1 (by decide)
 rw [zfq]
 refine DC.of_run Tryz.func92 rfl Tryz.ntmps92 Tryz.results92 (by simp) (fun _ => ?_); simp only [zaq, zau, go_sem, Nat.zero_add, Nat.reduceAdd]
 repeat' (first | (with_reducible first | refine zac yU yU yE ?_ | refine zab ?_ | refine DS.seq ?_ | refine zaa ?_) | refine zcf inferInstance (ycp c l 1099511627776 (c.size * c.start) h1 (by decide) ⟨by omega, by omega⟩) yR yT ?_ | (refine zdb (t := 2) yU yE yU ?_; simp only [zbu, zcx, zbt, zcj, zbq, zbm, zbx, zbp, zcr, zcv, zcd, zcu, zch, zcg]) | refine zbi [] yE trivial ?_ | fail)
 rfl
theorem ydp (l : List Int) (n : Int) : PC Tryz.prog 104 [ints l, I n] (I (idxF (fun x => decide (x = n)) l 0)) := by
 refine DC.of_run Tryz.func104 rfl Tryz.ntmps104 Tryz.results104 (by simp) (fun _ => ?_); simp only [zaq, zau, go_sem, Nat.zero_add, Nat.reduceAdd]
 refine zjc (t := 0) yG (.inl rfl) (fun hb0 => ?_); simp only [List.length_map] at hb0
 repeat' (first | (with_reducible first | refine zac yU yU yE ?_ | refine zab ?_ | refine DS.seq ?_ | refine zaa ?_ | refine DS.block ?_) | fail)
 refine zcn [0, 1, 7] yN (fun (i : Nat) => [(8, I i)]) (fun (i : Nat) => i ≤ l.length ∧ idxF (fun x => decide (x = n)) l 0 = idxF (fun x => decide (x = n)) (l.drop i) i) (fun (i : Nat) => l.length - i) 0 yS (by simp) (fun i B hI hB => ?_); try dsimp only at hI hB; simp only [zas, zaw]
 repeat' (first | (with_reducible first | refine zac yU yU yE ?_ | refine zab ?_ | refine DS.seq ?_ | refine zaa ?_ | (refine zbd yE ?_; refine zel (fun _ => ?_) (fun _ => ?_)) | refine DS.blk ?_ | refine DS.block ?_ | refine DS.exit yU ?_ | refine DS.skip ?_) | refine zbi [] yE trivial ?_ | fail)
 ·rename_i q1 q2
  rw [hI.2, zme (p := fun x => decide (x = n)) (l := l) (i := i) (by omega) (decide_eq_true q2.symm)]; rfl
 ·rename_i q1 q2
  exact DS.back (hB (i + 1) _ _ (by omega) (⟨by omega, by rw [hI.2, zjx (p := fun x => decide (x = n)) (l := l) (i := i) (by omega) (by simpa using fun h => q2 h.symm)]⟩) yS yS (fun b o e => by first | exact e | (simp only [zae]; split <;> simp_all)))
 ·rename_i q1
  rw [hI.2, zmf (p := fun x => decide (x = n)) (l := l) (i := i) (by omega)]; rfl
theorem zog {α : Type} (p : α → Bool) (l : List α) : decide (0 ≤ idxF p l 0) = l.any p := by
 have key : ∀ (l : List α) (i : Nat), (0 ≤ idxF p l i) ↔ l.any p = true := by
  intro l
  induction l with
  | nil => intro i; simp [idxF]
  | cons x r ih =>
   intro i
   simp only [idxF, List.any_cons]
   by_cases h : p x = true
   ·simp only [h, if_true, Bool.true_or, iff_true]; omega
   ·rw [if_neg h, ih (i + 1)]; simp [h]
 cases h : l.any p with
 | true => exact decide_eq_true ((key l 0).2 h)
 | false => exact decide_eq_false (fun h' => by rw [(key l 0).1 h'] at h; cases h)
theorem ybs (l : List Int) (n : Int) : PC Tryz.prog 91 [ints l, I n] (Bo (decide (n ∈ l))) := by
 refine DC.of_run Tryz.func91 rfl Tryz.ntmps91 Tryz.results91 (by simp) (fun _ => ?_); simp only [zaq, zau, go_sem, Nat.zero_add, Nat.reduceAdd]
 repeat' (first | (with_reducible first | refine zac yU yU yE ?_ | refine zab ?_ | refine DS.seq ?_ | refine zaa ?_) | refine zcf inferInstance (ydp l n) yR yT ?_ | refine zbi [] yE trivial ?_ | fail)
 rw [zfp, zog]
 simp [List.any_eq]
theorem yib {c : Club} {r e : Int} (h : zfl c r = e) (h2 : e ≠ 0) : zgr c r = e := by rw [zgr, if_pos (by rw [h]; exact h2), h]
theorem yia {c : Club} {r : Int} (h : zfl c r = 0) : zgr c r = zfa c r := by rw [zgr, if_neg (by rw [h]; decide)]
theorem ypm (c : Club) (hs : c.Small) (h1 : c.size ≤ 4) (h2 : 0 ≤ c.size) (h3 : 0 ≤ c.start ∧ c.start ≤ 1000000) (h4 : 0 ≤ c.window ∧ c.window ≤ 20) {i : Nat} (hi : i < c.rounds.length) (h5 : c.rounds.length ≤ 20) : PC Tryz.prog 47 [c.val, I i] (I (zgr c i)) := by
 have q1 := hs.rounds
 have q2 := hs.at hi
 have q3 := q2.points
 have q4 := q2.tables
 have q5 := q2.rulings
 refine DC.of_run Tryz.func47 rfl Tryz.ntmps47 Tryz.results47 (by simp) (fun _ => ?_); simp only [zaq, zau, go_sem, Nat.zero_add, Nat.reduceAdd]
 repeat' (first | (with_reducible first | refine zac yU yU yE ?_ | refine zab ?_ | refine DS.seq ?_ | refine zaa ?_ | (refine zbd yE ?_; refine zgb (fun _ => ?_) (fun _ => ?_)) | refine DS.block ?_ | refine DS.skip ?_) | (refine zia (t := 5) yU yE yU (fun _ => yE) yE yU (by exact ⟨by with_unfolding_all rfl, by with_unfolding_all decide⟩) (fun _ => by simp only [go_sem, Nat.reduceEqDiff, ↓reduceIte]) ?_; simp only [go_sem]) | (refine zdb (t := 2) yU yE yU ?_; simp only [zbu, zcx, zbt, zcj, zbq, zbm, zbx, zbp, zcr, zcv, zcd, zcu, zch, zcg]) | refine zbi [] yE trivial ?_ | fail)
 ·rename_i q
  rw [yib (e := 3) (by rw [zfl, c.round_at hi, if_pos (by omega)]) (by decide)]; rfl
 rename_i q
 have hps : zfl c i = zdm c c.rounds[i].points := by rw [zfl, c.round_at hi, if_neg (by omega)]
 have hrs : c.rounds[i].rulings.length ≤ 20 → zfa c i = zct c i c.rounds[i].rulings := fun h => by rw [zfa, c.round_at hi, if_neg (by omega)]
 refine zcn [1, 2, 5, 25, 26] yN (fun (k : Nat) => [(27, I k)]) (fun (k : Nat) => k ≤ c.rounds[i].points.length ∧ zdm c c.rounds[i].points = zdm c (c.rounds[i].points.drop k)) (fun (k : Nat) => c.rounds[i].points.length - k) 0 yS ⟨Nat.zero_le _, rfl⟩ (fun k B hI hB => ?_); try dsimp only at hI hB; simp only [zas, zaw]
 repeat' (first | (with_reducible first | refine zac yU yU yE ?_ | refine zab ?_ | refine DS.seq ?_ | refine zaa ?_ | (refine zbd yE ?_; first | refine zgb (fun _ => ?_) (fun _ => ?_) | refine zel (fun _ => ?_) (fun _ => ?_) | refine zdk ?_) | (refine zdz yU yE ?_; first | refine zow (fun _ => ?_) (fun _ => ?_) | refine GG.run ?_ | refine zfo ?_) | refine DS.blk ?_ | refine DS.block ?_ | refine DS.exit yU ?_ | refine DS.skip ?_) | refine zcf inferInstance (zyj c _ h1 h2 h3) yR yT ?_ | refine zbi [] yE trivial ?_ | fail)
 ·rename_i e1 e2 e3
  obtain ⟨_, r, dr1, rfl, dr3⟩ := zco (l := c.rounds[i].points) (i := k) (by omega); rw [dr1] at hI
  rw [yib (hps.trans (hI.2.trans (by rw [zdm, if_neg (by omega), if_pos e3]))) e3]; rfl
 ·rename_i e1 e2 e3
  obtain ⟨_, r, dr1, rfl, dr3⟩ := zco (l := c.rounds[i].points) (i := k) (by omega); rw [dr1] at hI
  exact DS.back (hB (k + 1) _ _ (by omega) (⟨by omega, by rw [hI.2, dr3, zdm, if_neg (by omega), if_neg (by omega)]⟩) yS yS (fun b o e => by first | exact e | (simp only [zae]; split <;> simp_all)))
 ·rename_i e1 e2
  obtain ⟨_, r, dr1, rfl, dr3⟩ := zco (l := c.rounds[i].points) (i := k) (by omega); rw [dr1] at hI
  exact DS.back (hB (k + 1) _ _ (by omega) (⟨by omega, by rw [hI.2, dr3, zdm, if_pos (by omega)]⟩) yS yS (fun b o e => by first | exact e | (simp only [zae]; split <;> simp_all)))
 ·rename_i e1 e2
  have de1 := zeo (l := c.rounds[i].points) (i := k) (by omega); rw [de1] at hI
  rw [yia (hps.trans hI.2), zfa, c.round_at hi, if_pos (by omega)]; rfl
 ·rename_i e1 e2
  have de1 := zeo (l := c.rounds[i].points) (i := k) (by omega); rw [de1] at hI
  have hr := (yia (hps.trans hI.2)).trans (hrs (by omega))
  clear hps hrs hI hB
  rw [hr]
  clear hr
  refine zcn [1, 2, 48, 49] yN (fun (k : Nat) => [(50, I k)]) (fun (k : Nat) => k ≤ c.rounds[i].rulings.length ∧ zct c i c.rounds[i].rulings = zct c i (c.rounds[i].rulings.drop k)) (fun (k : Nat) => c.rounds[i].rulings.length - k) 0 yS ⟨Nat.zero_le _, rfl⟩ (fun k B hI hB => ?_); try dsimp only at hI hB; simp only [zas, zaw]
  repeat' (first | (with_reducible first | refine zac yU yU yE ?_ | refine zab ?_ | refine DS.seq ?_ | refine zaa ?_ | (refine zbd yE ?_; first | refine zgb (fun _ => ?_) (fun _ => ?_) | refine zel (fun _ => ?_) (fun _ => ?_) | refine yaq (fun _ => ?_) (fun _ => ?_)) | refine DS.blk ?_ | refine DS.block ?_ | refine DS.exit yU ?_ | refine DS.skip ?_) | (refine zia (t := 10) yU yE yU (fun _ => yE) yE yU (by exact ⟨by with_unfolding_all rfl, by with_unfolding_all decide⟩) (fun _ => by simp only [go_sem, Nat.reduceEqDiff, ↓reduceIte]) ?_; simp only [go_sem]) | refine zcf inferInstance (zpj _ _ _) yR yT ?_ | refine zcf inferInstance (zyj c _ h1 h2 h3) yR yT ?_ | refine zcf inferInstance (zyl c hs _ _) yR yT ?_ | refine zbi [] yE trivial ?_ | fail)
  ·rename_i e1 e2 e3
   obtain ⟨_, r, dr1, rfl, dr3⟩ := zco (l := c.rounds[i].rulings) (i := k) (by omega); rw [dr1] at hI
   rw [hI.2, zct, if_pos (by omega)]; rfl
  ·rename_i e1 e2 e3 e4
   obtain ⟨_, r, dr1, rfl, dr3⟩ := zco (l := c.rounds[i].rulings) (i := k) (by omega); rw [dr1] at hI
   rw [hI.2, zct, if_neg (by omega), if_pos e4]; rfl
  ·rename_i e1 e2 e3 e4 e5
   obtain ⟨_, r, dr1, rfl, dr3⟩ := zco (l := c.rounds[i].rulings) (i := k) (by omega); rw [dr1] at hI
   rw [hI.2, zct, if_neg (by omega), if_neg (by simp [e4]), if_pos e5]; rfl
  ·rename_i e1 e2 e3 e4 e5
   obtain ⟨_, r, dr1, rfl, dr3⟩ := zco (l := c.rounds[i].rulings) (i := k) (by omega); rw [dr1] at hI
   exact DS.back (hB (k + 1) _ _ (by omega) (⟨by omega, by rw [hI.2, dr3, zct, if_neg (by omega), if_neg (by simp [e4]), if_neg (by omega)]⟩) yS yS (fun b o e => by first | exact e | (simp only [zae]; split <;> simp_all)))
  ·rename_i e1 e2
   have de1 := zeo (l := c.rounds[i].rulings) (i := k) (by omega); rw [de1] at hI
   rw [hI.2]; rfl
theorem zwv (S : Sto) (l : List Int) {g : FuncId} {fs cs : List V} {fn : Func} (p : Int → Bool) (hf : FnOk Tryz.prog g fn) (h : ∀ x, RC Tryz.prog g (fs ++ [I x] ++ cs) S (Bo (p x))) :
  RC Tryz.prog 111 [ints l, .fn g fs cs] S (I (idxF p l 0)) := by
 refine DC.of_run Tryz.func111 rfl Tryz.ntmps111 Tryz.results111 (by simp) (fun _ => ?_); simp only [zaq, zau, go_sem, Nat.zero_add, Nat.reduceAdd]
 refine zjc (t := 0) yG (.inl rfl) (fun hb0 => ?_); simp only [List.length_map] at hb0
 repeat' (first | (with_reducible first | refine zac yU yU yE ?_ | refine zab ?_ | refine DS.seq ?_ | refine zaa ?_ | refine DS.block ?_) | fail)
 refine zcn [0, 1, 7] yN (fun (i : Nat) => [(8, I i)]) (fun (i : Nat) => i ≤ l.length ∧ idxF p l 0 = idxF p (l.drop i) i) (fun (i : Nat) => l.length - i) 0 yS ⟨Nat.zero_le _, rfl⟩ (fun i B hI hB => ?_); try dsimp only at hI hB; simp only [zas, zaw]
 repeat' (first | (with_reducible first | refine zac yU yU yE ?_ | refine zab ?_ | refine DS.seq ?_ | refine zaa ?_ | (refine zbd yE ?_; refine zel (fun _ => ?_) (fun _ => ?_)) | refine DS.block ?_ | refine DS.exit yU ?_ | refine DS.skip ?_) | refine zck yE ⟨?_, rfl⟩ | fail)
 ·refine ylm hf (by simp (disch := omega) only [go_sem, dopV, yV0, ↓reduceIte, Nat.reduceEqDiff, Nat.reduceLT, Nat.reduceLeDiff, Nat.reduceAdd, Nat.reduceMul, Nat.reduceSub, Int.reduceToNat, Int.reduceLT, Int.reduceLE, Int.reduceEq, IntWalk.toNatUp, IntWalk.iteOmega, IntWalk.i64_in, V.flat, V.one]) (h l[i]) yR yH ?_
  repeat' (first | (with_reducible first | refine zac yU yU yE ?_ | refine zab ?_ | refine DS.seq ?_ | refine zaa ?_ | (refine zbd yE ?_; refine yha (fun _ => ?_) (fun _ => ?_)) | refine DS.blk ?_ | refine DS.skip ?_) | refine zck yE ⟨?_, rfl⟩ | fail)
  ·rename_i h1 h2
   rw [hI.2, zme (p := p) (l := l) (i := i) (by omega) h2]; rfl
  ·rename_i h1 h2
   exact DS.back (hB (i + 1) _ _ (by omega) (⟨by omega, by rw [hI.2, zjx (by omega) h2]⟩) yS yS (fun b o e => by first | exact e | (simp only [zae]; split <;> simp_all)))
 ·rw [hI.2, zmf (p := p) (l := l) (i := i) (by omega)]; rfl
theorem zsl (S : Sto) (l : List Int) {g : FuncId} {fs cs : List V} {fn : Func} (p : Int → Bool) (hf : FnOk Tryz.prog g fn) (h : ∀ x, RC Tryz.prog g (fs ++ [I x] ++ cs) S (Bo (p x))) :
  RC Tryz.prog 89 [ints l, .fn g fs cs] S (Bo (l.any p)) := by
 refine DC.of_run Tryz.func89 rfl Tryz.ntmps89 Tryz.results89 (by simp) (fun _ => ?_); simp only [zaq, zau, go_sem, Nat.zero_add, Nat.reduceAdd]
 repeat' (first | (with_reducible first | refine zac yU yU yE ?_ | refine zab ?_ | refine DS.seq ?_ | refine zaa ?_) | refine zhx inferInstance (zwv S l p hf h) yR yT ?_ | refine zck yE ⟨?_, rfl⟩ | fail)
 rw [zfp, zog]
abbrev GR.Int (g : GR) (l : List Int) : Prop := g.l = l.map cI
theorem zpk : ∀ l : List Int, (l.map cI).flatten = l.map fun x => I x
 | [] => rfl
 | x :: r => by rw [List.map_cons, List.flatten_cons, zpk r]; rfl
theorem yX9 {p : Prop} (h : p := by (simp (disch := omega) only [go_sem, dopV, yV0, ↓reduceIte, Nat.reduceEqDiff, Nat.reduceLT, Nat.reduceLeDiff, Nat.reduceAdd, Nat.reduceMul, Nat.reduceSub, Int.reduceToNat, Int.reduceLT, Int.reduceLE, Int.reduceEq, IntWalk.toNatUp, IntWalk.iteOmega, IntWalk.i64_in, V.flat, V.one, *, zuk]; exact rfl)) : p := h
theorem ynd (S : Sto) (g : GR) (l : List Int) (n : Int) (ok : g.Ok 3 1 S) (hg : g.l = l.map cI) : RC Tryz.prog 104 [g.cell.peek, I n] S (I (idxF (fun x => decide (x = n)) l 0)) := by
 obtain ⟨gl, blk⟩ := g
 dsimp only at hg
 subst hg
 cases blk with
 | none =>
  simp only [GR.Ok, List.map_eq_nil_iff] at ok
  subst ok
  simp only [GR.cell, zwi]
  refine DC.of_run Tryz.func104 rfl Tryz.ntmps104 Tryz.results104 (by simp) (fun _ => ?_); simp only [zaq, zau, go_sem, Nat.zero_add, Nat.reduceAdd]
  repeat' (first | (with_reducible first | refine zac yU yU yE ?_ | refine zab ?_ | refine DS.seq ?_ | refine zaa ?_ | refine DS.block ?_) | fail)
  refine zcn [0, 1, 7] yN (fun (i : Nat) => [(8, I 0)]) (fun (i : Nat) => True) (fun (i : Nat) => i) 0 yS trivial (fun i B hI hB => ?_); try dsimp only at hI hB; simp only [zas, zaw]
  repeat' (first | (with_reducible first | refine zac yU yU yE ?_ | refine zab ?_ | refine DS.seq ?_ | refine zaa ?_ | (refine zbd yE ?_; refine zdk ?_) | refine DS.exit yU ?_) | refine zck yE ⟨?_, rfl⟩ | fail)
  rfl
 | some x =>
  obtain ⟨b, cap, j⟩ := x
  have k1 := ok.look
  have k2 := ok.le
  have k3 := ok.cap
  have hfl := zpk l
  rw [hfl] at k1
  clear hfl ok
  simp only [List.length_map] at k2
  simp only [maxLen] at k3
  simp only [GR.cell, zmc, List.length_map]
  refine DC.of_run Tryz.func104 rfl Tryz.ntmps104 Tryz.results104 (by simp) (fun _ => ?_); simp only [zaq, zau, go_sem, Nat.zero_add, Nat.reduceAdd]
  repeat' (first | (with_reducible first | refine zac yU yU yE ?_ | refine zab ?_ | refine DS.seq ?_ | refine zaa ?_ | refine DS.block ?_) | fail)
  refine zcn [0, 1, 7] yN (fun (i : Nat) => [(8, I i)]) (fun (i : Nat) => i ≤ l.length ∧ idxF (fun x => decide (x = n)) l 0 = idxF (fun x => decide (x = n)) (l.drop i) i) (fun (i : Nat) => l.length - i) 0 yS ⟨Nat.zero_le _, rfl⟩ (fun i B hI hB => ?_); try dsimp only at hI hB; simp only [zas, zaw]
  repeat' (first | (with_reducible first | refine zac yU yU yX9 ?_ | refine zab ?_ | refine DS.seq ?_ | refine zaa ?_ | (refine zbd yX9 ?_; refine zel (fun _ => ?_) (fun _ => ?_)) | refine DS.blk ?_ | refine DS.block ?_ | refine DS.exit yU ?_ | refine DS.skip ?_) | refine zck yX9 ⟨?_, rfl⟩ | fail)
  ·rename_i q1 q2
   rw [hI.2, zme (p := fun x => decide (x = n)) (l := l) (i := i) (by omega) (decide_eq_true q2.symm)]; rfl
  ·rename_i q1 q2
   exact DS.back (hB (i + 1) _ _ (by omega) (⟨by omega, by rw [hI.2, zjx (p := fun x => decide (x = n)) (l := l) (i := i) (by omega) (by simpa using fun h => q2 h.symm)]⟩) yS yS (fun b o e => by first | exact e | (simp only [zae]; split <;> simp_all)))
  ·rename_i q1
   rw [hI.2, zmf (p := fun x => decide (x = n)) (l := l) (i := i) (by omega)]; rfl
theorem ybr (S : Sto) (g : GR) (l : List Int) (n : Int) (ok : g.Ok 3 1 S) (hg : g.l = l.map cI) : RC Tryz.prog 91 [g.cell.peek, I n] S (Bo (decide (n ∈ l))) := by
 have h := ynd S g l n ok hg
 clear ok hg
 obtain ⟨gl, blk⟩ := g
 cases blk with
 | none =>
  simp only [GR.cell, zwi] at h ⊢
  refine DC.of_run Tryz.func91 rfl Tryz.ntmps91 Tryz.results91 (by simp) (fun _ => ?_); simp only [zaq, zau, go_sem, Nat.zero_add, Nat.reduceAdd]
  repeat' (first | (with_reducible first | refine zac yU yU yE ?_ | refine zab ?_ | refine DS.seq ?_ | refine zaa ?_) | refine zhx inferInstance (h) yR yT ?_ | refine zck yE ⟨?_, rfl⟩ | fail)
  rw [zfp, zog]
  simp [List.any_eq]
 | some x =>
  obtain ⟨b, cap, j⟩ := x
  simp only [GR.cell, zmc] at h ⊢
  refine DC.of_run Tryz.func91 rfl Tryz.ntmps91 Tryz.results91 (by simp) (fun _ => ?_); simp only [zaq, zau, go_sem, Nat.zero_add, Nat.reduceAdd]
  repeat' (first | (with_reducible first | refine zac yU yU yE ?_ | refine zab ?_ | refine DS.seq ?_ | refine zaa ?_) | refine zhx inferInstance (h) yR yT ?_ | refine zck yE ⟨?_, rfl⟩ | fail)
  rw [zfp, zog]
  simp [List.any_eq]
end Go.XL
namespace Go.XL
open Go.Proofs
set_option maxRecDepth 100000
set_option maxHeartbeats 8000000
theorem yrw (l : List Int) : ∀ c ∈ l.map cI, c ≠ [] := fun c hc => by
 obtain ⟨x, _, rfl⟩ := List.mem_map.1 hc; simp [cI]
theorem zzz (l : List Int) (hl : l.length ≤ 2147483647) : PC Tryz.prog 67 [ints l] (.own false 3 1 (l.map cI)) := by
 refine DC.of_run Tryz.func67 rfl Tryz.ntmps67 Tryz.results67 (by simp) (fun _ => ?_); simp only [zaq, zau, go_sem, Nat.zero_add, Nat.reduceAdd]
 repeat' (first | (with_reducible first | (refine zdu (t := 2) yU yO yE ?_) | refine zac yU yU yE ?_ | refine zab ?_ | refine DS.seq ?_ | refine zaa ?_) | fail)
 refine yex yR yU yG yR (yrw l) (fun b hb => ?_)
 cases b with
 | true =>
  have hb := hb rfl
  simp only [List.map_eq_nil_iff] at hb
  subst hb
  repeat' (first | (with_reducible first | (refine zdu (t := 2) yU yO yE ?_) | refine zab ?_ | refine DS.seq ?_ | refine zaa ?_ | (refine zbd yE ?_; refine zde ?_)) | refine zbi [] yE trivial ?_ | fail)
  rfl
 | false =>
  clear hb
  repeat' (first | (with_reducible refine zeg (t := 2) yU yO yE ?_; simp only [zao, zaf, zah, Nat.reduceEqDiff, ↓reduceIte, zak, zal, zar, zaj, zai, zap, zam]) | (with_reducible first | refine zac yU yU yE ?_ | refine zab ?_ | refine DS.seq ?_ | refine zaa ?_ | (refine zbd yE ?_; refine zdk ?_) | refine DS.skip ?_) | (refine zfg yU yE yE ?_; simp only [go_sem, Nat.zero_add, Nat.reduceAdd]) | (refine DS.append (mm := false) yU yE yE yU (by decide) yE (by first | exact .inl rfl | exact .inr ⟨rfl, rfl⟩) yE yX0 (by first | exact zat zdt _ | exact zat zeq _ | exact zat Member.len _ | exact zat Sitting.len _ | exact zat Ruling.len _ | (simp only [List.mem_cons, List.not_mem_nil, or_false, forall_eq]; rfl) | simp) ⟨by (try simp only [List.length_map, List.length_cons, List.length_nil, List.length_append, List.length_take, List.length_drop]); omega, by decide⟩ ?_; simp only [zao, zaf, zah, Nat.reduceEqDiff, ↓reduceIte, zak, zal, zar, zaj, zai, zap, zam]) | refine zbi [] yE trivial ?_ | fail)
  rfl
theorem ykm (l : List Int) (hl : l.length ≤ 2147483647) (hl0 : l ≠ []) : DC Tryz.prog 67 [ints l] [] (fun u S' => ∃ g : GR, u = g.cell ∧ g.Ok 3 1 S' ∧ g.l = l.map cI) := by
 refine DC.of_run Tryz.func67 rfl Tryz.ntmps67 Tryz.results67 (by simp) (fun _ => ?_); simp only [zaq, zau, go_sem, Nat.zero_add, Nat.reduceAdd]
 repeat' (first | (with_reducible first | refine zac yU yU yE ?_ | refine zab ?_ | refine DS.seq ?_ | refine zaa ?_) | fail)
 refine yex yR yU yG yR (yrw l) (fun b hb => ?_)
 cases b with
 | true =>
  have hb := hb rfl
  simp only [List.map_eq_nil_iff] at hb
  exact absurd hb hl0
 | false =>
  clear hb
  repeat' (first | (with_reducible first | refine zab ?_ | refine DS.seq ?_ | refine zaa ?_ | (refine zbd yE ?_; refine zdk ?_) | refine DS.skip ?_) | fail)
  refine yqw yR yG yG (fun b hb => ?_)
  repeat' (first | with_reducible refine zac yU yU yE ?_ | fail)
  have G : GR.Ok 3 1 [(b, .cells [] 3)] ⟨[], some (b, 0, [])⟩ := ⟨by simp [zad], rfl, Nat.le_refl _, Nat.zero_le _, by simp, by simp, by simp⟩
  have hlp : 0 < l.length := List.length_pos_iff.2 hl0
  refine zea rfl rfl yR (zij (g := ⟨[], some (b, 0, [])⟩) (ml := l.map cI) rfl yH yH yR yR (by decide) yH G yH yH (by rw [List.length_map]; omega) (by intro x hx; obtain ⟨y, -, rfl⟩ := List.mem_map.1 hx; rfl) ⟨by simp only [List.length_map, List.length_nil]; omega, by decide⟩) (fun u2 E' S4 hu2 => ?_)
  obtain ⟨rfl, b', cap', junk', rfl, m1, m2, m3⟩ := hu2
  simp only [GR.cell_some, zcz]
  repeat' (first | (with_reducible first | refine zac yU yU yE ?_ | refine zab ?_) | fail)
  refine zck yG ⟨⟨l.map cI, some (b', cap', junk')⟩, by simp [GR.cell, tupV], ?_, rfl⟩
  have hml : [] ++ (l.map cI).map (·.map V.copy) = l.map cI := by rw [List.nil_append, List.map_map]; rfl
  rw [hml] at m1
  exact m1
theorem zww (S : Sto) (l : List Int) {b cap : Nat} {j : List V} {T : TypeId} (hS : zad S b = some (.cells ((l.map fun x => I x) ++ j) T)) (hc : l.length ≤ cap ∧ cap ≤ maxLen) {g : FuncId} {fs cs : List V} {fn : Func} (p : Int → Bool) (hf : FnOk Tryz.prog g fn) (h : ∀ x ∈ l, PC Tryz.prog g (fs ++ [I x] ++ cs) (Bo (p x))) :
  RC Tryz.prog 111 [.v (.slice (some ⟨b, 0, none⟩) l.length cap), .fn g fs cs] S (I (idxF p l 0)) := by
 have k3 := hc.2
 have k2 := hc.1
 simp only [maxLen] at k3
 clear hc
 refine DC.of_run Tryz.func111 rfl Tryz.ntmps111 Tryz.results111 (by simp) (fun _ => ?_); simp only [zaq, zau, go_sem, Nat.zero_add, Nat.reduceAdd]
 repeat' (first | (with_reducible first | refine zac yU yU yE ?_ | refine zab ?_ | refine DS.seq ?_ | refine zaa ?_ | refine DS.block ?_) | fail)
 refine zcn [0, 1, 7] yN (fun (i : Nat) => [(8, I i)]) (fun (i : Nat) => i ≤ l.length ∧ idxF p l 0 = idxF p (l.drop i) i) (fun (i : Nat) => l.length - i) 0 yS ⟨Nat.zero_le _, rfl⟩ (fun i B hI hB => ?_); try dsimp only at hI hB; simp only [zas, zaw]
 repeat' (first | (with_reducible first | refine zac yU yU yX9 ?_ | refine zab ?_ | refine DS.seq ?_ | refine zaa ?_ | (refine zbd yX9 ?_; refine zel (fun _ => ?_) (fun _ => ?_)) | refine DS.block ?_ | refine DS.exit yU ?_ | refine DS.skip ?_) | refine zck yX9 ⟨?_, rfl⟩ | fail)
 ·refine ycf hf (by simp (disch := omega) only [go_sem, dopV, yV0, ↓reduceIte, Nat.reduceEqDiff, Nat.reduceLT, Nat.reduceLeDiff, Nat.reduceAdd, Nat.reduceMul, Nat.reduceSub, Int.reduceToNat, Int.reduceLT, Int.reduceLE, Int.reduceEq, IntWalk.toNatUp, IntWalk.iteOmega, IntWalk.i64_in, V.flat, V.one]) (h l[i] (List.getElem_mem _)) yR yH ?_
  repeat' (first | (with_reducible first | refine zac yU yU yE ?_ | refine zab ?_ | refine DS.seq ?_ | refine zaa ?_ | (refine zbd yE ?_; refine yha (fun _ => ?_) (fun _ => ?_)) | refine DS.blk ?_ | refine DS.skip ?_) | refine zck yE ⟨?_, rfl⟩ | fail)
  ·rename_i h1 h2
   rw [hI.2, zme (p := p) (l := l) (i := i) (by omega) h2]; rfl
  ·rename_i h1 h2
   exact DS.back (hB (i + 1) _ _ (by omega) (⟨by omega, by rw [hI.2, zjx (by omega) h2]⟩) yS yS (fun b o e => by first | exact e | (simp only [zae]; split <;> simp_all)))
 ·rw [hI.2, zmf (p := p) (l := l) (i := i) (by omega)]; rfl
theorem ydq {p : Int → Bool} : ∀ (l : List Int) (s : Nat), (idxF p l s = -1 ∧ l.filter (fun x => !p x) = l) ∨ ∃ i : Nat, idxF p l s = (s + i : Nat) ∧ i < l.length ∧ l.take i = (l.take (i + 1)).filter (fun x => !p x)
 | [], s => .inl ⟨rfl, rfl⟩
 | x :: r, s => by
  simp only [idxF]
  by_cases hx : p x = true
  ·rw [if_pos hx]
   exact .inr ⟨0, by simp, by simp, by simp [hx]⟩
  ·rw [if_neg hx]
   rcases ydq r (s + 1) with ⟨h1, h2⟩ | ⟨i, h1, h2, h3⟩
   ·exact .inl ⟨h1, by simp [hx, h2]⟩
   ·refine .inr ⟨i + 1, by rw [h1]; congr 1; omega, by simp; omega, ?_⟩
    rw [List.take_succ_cons, List.take_succ_cons, List.filter_cons, if_pos (by simpa using hx), ← h3]
structure DelI (p : Int → Bool) (l m : List Int) (i j : Nat) : Prop where
 ij : i < j
 jl : j ≤ l.length
 len : m.length = l.length
 keep : m.take i = (l.take j).filter (fun x => !p x)
 rest : m.drop j = l.drop j
theorem zoq (l : List Int) (k : Nat) (r : List V) (hk : k ≤ l.length) : chunk 1 k ((l.map fun x => I x) ++ r) = (l.take k).map cI := by
 induction k generalizing l with
 | zero => simp [chunk]
 | succ k ih =>
  cases l with
  | nil => simp at hk
  | cons x l =>
   simp only [List.length_cons] at hk
   simp only [chunk, List.map_cons, List.cons_append, List.take_succ_cons, List.take_zero, List.drop_succ_cons, List.drop_zero, ih l (by omega)]
   rfl
theorem zxa (l : List Int) (gr : GR) (S : Sto) (ok : gr.Ok 3 1 S) (hl0 : l ≠ []) (hg : gr.l = l.map cI) {g : FuncId} {fs cs : List V} {fn : Func} (p : Int → Bool) (hf : FnOk Tryz.prog g fn) (h : ∀ x ∈ l, PC Tryz.prog g (fs ++ [I x] ++ cs) (Bo (p x))) :
  DC Tryz.prog 115 [gr.cell.peek, .fn g fs cs] S (fun u S' => u = ints (l.filter fun x => !p x)) := by
 obtain ⟨gl, blk⟩ := gr
 dsimp only at hg
 subst hg
 cases blk with
 | none =>
  simp only [GR.Ok, List.map_eq_nil_iff] at ok
  exact absurd ok hl0
 | some x =>
  obtain ⟨b, cap, j⟩ := x
  have k1 := ok.look
  have k2 := ok.le
  have k3 := ok.cap
  have k4 := ok.len
  have hfl := zpk l
  rw [hfl] at k1
  clear hfl ok
  simp only [List.length_map, Nat.mul_one] at k2 k4
  simp only [GR.cell, zmc, List.length_map]
  have hix := zww S l k1 ⟨k2, k3⟩ p hf h
  simp only [maxLen] at k3
  have hpre := ydq (p := p) l 0
  rcases hpre with ⟨e1, e2⟩ | ⟨i0, e1, e2, e3⟩
  ·rw [e1] at hix
   rw [e2]
   clear e1 e2
   refine DC.of_run Tryz.func115 rfl Tryz.ntmps115 Tryz.results115 (by simp) (fun _ => ?_); simp only [zaq, zau, go_sem, Nat.zero_add, Nat.reduceAdd]
   repeat' (first | (with_reducible first | refine zac yU yU yE ?_ | refine zab ?_ | refine DS.seq ?_ | refine zaa ?_ | (refine zbd yE ?_; refine zde ?_)) | refine zhx inferInstance (hix) yR yT ?_ | fail)
   refine zjb (t := 4) (sz := 1) yR k1 (by simp) ⟨k2, by simp only [maxLen]; exact k3⟩ ?_
   refine zbi [] yG trivial ?_
   rw [zfp, List.map_append, List.map_map, show (V.copy ∘ fun x => I x) = (fun x => I x) from rfl, zoq l _ _ (Nat.le_refl _), List.take_length]
  ·rw [Nat.zero_add] at e1
   rw [e1] at hix
   have D0 : DelI p l l i0 (i0 + 1) := ⟨by omega, by omega, rfl, e3, rfl⟩
   clear e1 e3
   refine DC.of_run Tryz.func115 rfl Tryz.ntmps115 Tryz.results115 (by simp) (fun _ => ?_); simp only [zaq, zau, go_sem, Nat.zero_add, Nat.reduceAdd]
   repeat' (first | (with_reducible first | refine zac yU yU yE ?_ | refine zab ?_ | refine DS.seq ?_ | refine zaa ?_ | (refine zbd yE ?_; refine zel (fun _ => ?_) (fun _ => ?_)) | refine DS.block ?_ | refine DS.skip ?_) | refine zhx inferInstance (hix) yR yT ?_ | fail)
   all_goals first | (exfalso; omega) | skip
   rename_i e4
   clear hix
   refine zcq [0, 1] yN (fun (x : Nat × Nat × List Int × Sto) => [(5, I x.1), (6, I x.2.1)]) (fun (x : Nat × Nat × List Int × Sto) => x.2.2.2) (fun (x : Nat × Nat × List Int × Sto) => DelI p l x.2.2.1 x.1 x.2.1 ∧ zad x.2.2.2 b = some (.cells ((x.2.2.1.map fun x => I x) ++ j) 3)) (fun (x : Nat × Nat × List Int × Sto) => l.length - x.2.1) (i0, i0 + 1, l, S) yS (fun b o e => by exact e) ⟨D0, k1⟩ (fun x B hI hB => ?_); try dsimp only at hI hB; simp only [zas, zaw]
   obtain ⟨a, c, m, S1⟩ := x
   dsimp only at hI hB
   obtain ⟨D, g2⟩ := hI
   have d1 := D.ij
   have d2 := D.jl
   have d3 := D.len
   have hcc : c < l.length → ∃ h1 : c < m.length, ∃ h2 : c < l.length, m[c] = l[c] := fun hc => by
    have h1 : c < m.length := by omega
    refine ⟨h1, hc, ?_⟩
    have := D.rest
    rw [List.drop_eq_getElem_cons h1, List.drop_eq_getElem_cons hc] at this
    exact (List.cons.inj this).1
   repeat' (first | (with_reducible first | refine zac yU yU yX9 ?_ | refine zab ?_ | refine DS.seq ?_ | refine zaa ?_ | (refine zbd yX9 ?_; refine zel (fun _ => ?_) (fun _ => ?_)) | refine DS.block ?_ | refine DS.exit yU ?_ | refine DS.skip ?_) | fail)
   ·rename_i e5
    obtain ⟨h1, h2, h3⟩ := hcc (by omega)
    have hpx := h l[c] (List.getElem_mem h2)
    rw [← h3] at hpx
    refine ycf hf (by simp (disch := omega) only [go_sem, dopV, yV0, ↓reduceIte, Nat.reduceEqDiff, Nat.reduceLT, Nat.reduceLeDiff, Nat.reduceAdd, Nat.reduceMul, Nat.reduceSub, Int.reduceToNat, Int.reduceLT, Int.reduceLE, Int.reduceEq, IntWalk.toNatUp, IntWalk.iteOmega, IntWalk.i64_in, V.flat, V.one]) hpx yR yH ?_
    repeat' (first | (with_reducible first | refine zac yU yU yE ?_ | refine zab ?_ | refine DS.seq ?_ | refine zaa ?_ | (refine zbd yE ?_; refine yaq (fun _ => ?_) (fun _ => ?_)) | refine DS.blk ?_ | refine DS.skip ?_) | (refine DS.store yR yE yE yE yE yU (by exact ⟨by with_unfolding_all rfl, by (try simp only [List.length_map, List.length_append, List.length_set, List.length_replicate, List.length_cons, List.length_nil]); omega⟩) ?_; simp only [zbo, zav, zaz, zbz, zbl, zbj, zbk]; try simp only [zao, zaf, zah, Nat.reduceEqDiff, ↓reduceIte, zak, zal, zar, zaj, zai, zap, zam]) | fail)
    ·rename_i e6
     have hai : a < m.length := by omega
     have hset : ((m.map fun x => I x) ++ j).set a (.v (.int .i64 l[c])) = ((m.set a l[c]).map fun x => I x) ++ j := by
      rw [List.set_append_left _ _ (by simpa using hai), List.map_set]
     refine zer (S' := setS b (.cells (((m.set a l[c]).map fun x => I x) ++ j) 3) S1) (fun b' o e => by rw [← hset] at e; exact e) ?_
     have g3 : zad (setS b (.cells (((m.set a l[c]).map fun x => I x) ++ j) 3) S1) b = some (.cells (((m.set a l[c]).map fun x => I x) ++ j) 3) := by rw [zbh g2, if_pos rfl]
     have D2 : DelI p l (m.set a l[c]) (a + 1) (c + 1) := by
      refine ⟨by omega, by omega, by rw [List.length_set]; exact D.len, ?_, ?_⟩
      ·rw [List.take_succ_eq_append_getElem (by rw [List.length_set]; omega), List.take_set_of_le (Nat.le_refl _), D.keep, List.getElem_set_self, List.take_succ_eq_append_getElem h2, List.filter_append]
       simp [e6]
      ·rw [List.drop_set_of_lt (by omega)]
       have := D.rest
       rw [List.drop_eq_getElem_cons h1, List.drop_eq_getElem_cons h2] at this
       exact (List.cons.inj this).2
     generalize setS b (.cells (((m.set a l[c]).map fun x => I x) ++ j) 3) S1 = S2 at *
     clear hset hcc
     skip
     refine DS.back (hB (a + 1, c + 1, m.set a l[c], S2) _ _ (by dsimp only; omega) ⟨D2, g3⟩ yS yS (fun b o e => by exact e))
    ·rename_i e6
     have D2 : DelI p l m a (c + 1) := by
      refine ⟨by omega, by omega, D.len, ?_, ?_⟩
      ·rw [List.take_succ_eq_append_getElem h2, List.filter_append, ← D.keep]
       simp [e6]
      ·have := D.rest
       rw [List.drop_eq_getElem_cons h1, List.drop_eq_getElem_cons h2] at this
       exact (List.cons.inj this).2
     clear hcc
     skip
     refine DS.back (hB (a, c + 1, m, S1) _ _ (by dsimp only; omega) ⟨D2, g2⟩ yS yS (fun b o e => by exact e))
   ·rename_i e5
    have hc : c = m.length := by omega
    have hkeep := D.keep
    rw [List.take_of_length_le (l := l) (by omega)] at hkeep
    rw [← hkeep]
    clear hcc hkeep
    refine DS.clear (z := .int .i64 0) yU yU yR yR (m := l.length - a) (by omega) yG g2 (by simp only [List.length_append, List.length_map]; omega) ?_
    have hset : setAll ((m.map fun x => I x) ++ j) a (List.replicate (l.length - a) (.v (.int .i64 0))) = ((m.take a).map fun x => I x) ++ (List.replicate (l.length - a) (.v (.int .i64 0)) ++ j) := by
     apply List.ext_getElem?
     intro i
     rw [zhd _ _ _ _ (by simp; omega), List.length_replicate]
     by_cases h1 : i < a
     ·rw [if_neg (by omega), List.getElem?_append_left (by simp; omega), List.getElem?_append_left (by simp; omega), List.map_take, List.getElem?_take_of_lt h1]
     ·rw [List.getElem?_append_right (l₁ := (m.take a).map fun x => I x) (by simp; omega), List.length_map, List.length_take, Nat.min_eq_left (by omega)]
      by_cases h2 : i < l.length
      ·rw [if_pos (by omega), List.getElem?_append_left (by simp; omega)]
      ·rw [if_neg (by omega), List.getElem?_append_right (by simp; omega), List.getElem?_append_right (by simp; omega), List.length_map, List.length_replicate]
       congr 1; omega
    refine zer (S' := setS b (.cells (((m.take a).map fun x => I x) ++ (List.replicate (l.length - a) (.v (.int .i64 0)) ++ j)) 3) S1) (fun b' o e => by rw [← hset] at e; exact e) ?_
    have g3 : zad (setS b (.cells (((m.take a).map fun x => I x) ++ (List.replicate (l.length - a) (.v (.int .i64 0)) ++ j)) 3) S1) b = some (.cells (((m.take a).map fun x => I x) ++ (List.replicate (l.length - a) (.v (.int .i64 0)) ++ j)) 3) := by rw [zbh g2, if_pos rfl]
    generalize setS b (.cells (((m.take a).map fun x => I x) ++ (List.replicate (l.length - a) (.v (.int .i64 0)) ++ j)) 3) S1 = S2 at *
    repeat' (first | (with_reducible first | refine zac yU yU yE ?_ | refine zab ?_ | refine DS.seq ?_ | refine zaa ?_) | fail)
    refine zjb (t := 4) (sz := 1) yR g3 (by simp; omega) ⟨by omega, by simp only [maxLen]; exact k3⟩ ?_
    refine zbi [] yG trivial ?_
    rw [zfp, List.map_append, List.map_map, show (V.copy ∘ fun x => I x) = (fun x => I x) from rfl, zoq _ _ _ (by simp; omega), Nat.sub_zero, List.take_take, Nat.min_self]
end Go.XL
namespace Go.XL
open Go.Proofs
set_option maxRecDepth 100000
set_option maxHeartbeats 8000000
theorem zla {α β : Type} (f : α → β) (l : List α) (n : Nat) : (l.map f).take n = (l.take n).map f := by rw [List.map_take]
theorem yX10 {p : Prop} (h : p := by (simp (disch := omega) only [go_sem, dopV, yV0, ↓reduceIte, Nat.reduceEqDiff, Nat.reduceLT, Nat.reduceLeDiff, Nat.reduceAdd, Nat.reduceMul, Nat.reduceSub, Int.reduceToNat, Int.reduceLT, Int.reduceLE, Int.reduceEq, IntWalk.toNatUp, IntWalk.iteOmega, IntWalk.i64_in, V.flat, V.one, *, List.forall_mem_map, implies_true, zfx, zdt, zhv, zla, List.take_length]; exact rfl)) : p := h
theorem yX11 {p : Prop} (h : p := by first | exact rfl | (simp (disch := omega) only [go_sem, dopV, yV0, ↓reduceIte, Nat.reduceEqDiff, Nat.reduceLT, Nat.reduceLeDiff, Nat.reduceAdd, Nat.reduceMul, Nat.reduceSub, Int.reduceToNat, Int.reduceLT, Int.reduceLE, Int.reduceEq, IntWalk.toNatUp, IntWalk.iteOmega, IntWalk.i64_in, V.flat, V.one, *, List.forall_mem_map, implies_true, zfx, zdt, zhv, zla, List.take_length]; exact rfl)) : p := h
theorem yX12 {p : Prop} (h : p := by (simp (disch := omega) only [go_sem, dopV, yV0, ↓reduceIte, Nat.reduceEqDiff, Nat.reduceLT, Nat.reduceLeDiff, Nat.reduceAdd, Nat.reduceMul, Nat.reduceSub, Int.reduceToNat, Int.reduceLT, Int.reduceLE, Int.reduceEq, IntWalk.toNatUp, IntWalk.iteOmega, IntWalk.i64_in, V.flat, V.one, *, List.forall_mem_map, implies_true, zfx, zdt, zhv, zla, List.take_length]; try exact rfl)) : p := h
theorem zrh (bs : Nat) (x : Int) (l : List Int) (size : Int) (hs : 3 ≤ size ∧ size ≤ 4) (hl : l.length ≤ 1000000) : SC Tryz.prog 72 [ptr bs, ints l, I size] bs x (.own false 3 1 ((zdp size x l).1.map cI)) (zdp size x l).2 := by
 unfold SC
 obtain ⟨hs1, hs2⟩ := hs
 refine DC.of_run Tryz.func72 rfl Tryz.ntmps72 Tryz.results72 (by simp) (fun _ => ?_); simp only [zaq, zau, go_sem, Nat.zero_add, Nat.reduceAdd]
 repeat' (first | with_reducible (refine zdu (t := 6) yU yO yE ?_) | (with_reducible refine zeg (t := 7) yU yO yE ?_; simp only [zao, zaf, zah, Nat.reduceEqDiff, ↓reduceIte, zak, zal, zar, zaj, zai, zap, zam]) | (with_reducible first | refine zac yU yU yE ?_ | refine zab ?_ | refine DS.seq ?_ | refine zaa ?_ | refine DS.block ?_) | (refine zfg yU yE yE ?_; simp only [go_sem, Nat.zero_add, Nat.reduceAdd]) | (refine DS.append (mm := false) yU yE yE yU (by decide) yE (by first | exact .inl rfl | exact .inr ⟨rfl, rfl⟩) yE yX0 (by first | exact zat zdt _ | exact zat zeq _ | exact zat Member.len _ | exact zat Sitting.len _ | exact zat Ruling.len _ | (simp only [List.mem_cons, List.not_mem_nil, or_false, forall_eq]; rfl) | simp) ⟨by (try simp only [List.length_map, List.length_cons, List.length_nil, List.length_append, List.length_take, List.length_drop]); omega, by decide⟩ ?_; simp only [zao, zaf, zah, Nat.reduceEqDiff, ↓reduceIte, zak, zal, zar, zaj, zai, zap, zam]) | fail)
 refine zcq [0, 2] yN (fun (y : Nat × Int × List Int) => [(7, .own false 3 1 (y.2.2.map cI))]) (fun (y : Nat × Int × List Int) => [(bs, srcO y.2.1)]) (fun (y : Nat × Int × List Int) => y.2.2.length < y.1 ∧ y.2.2.length ≤ l.length ∧ zdp size x l = zmx size y.1 y.2.1 y.2.2) (fun (y : Nat × Int × List Int) => y.2.2.length) (l.length + 1, x, l) yS (fun b o e => by exact e) ⟨Nat.lt_succ_self _, Nat.le_refl _, rfl⟩ (fun y B hI hB => ?_); try dsimp only at hI hB; simp only [zas, zaw]
 obtain ⟨n, x1, l1⟩ := y
 dsimp only at hI hB
 obtain ⟨g1, g2, g3⟩ := hI
 have H := Box.mk g3
 clear g3
 obtain ⟨n, rfl⟩ : ∃ n', n = n' + 1 := ⟨n - 1, by omega⟩
 have hb1 := zbv x1 l1.length
 have hb2 := zbv (zag x1) l1.length
 obtain ⟨b1, b2, b3⟩ := hb1
 obtain ⟨b4, b5, b6⟩ := hb2
 by_cases h0 : l1.length = 0
 ·have hl0 : l1 = [] := List.eq_nil_of_length_eq_zero h0
  subst hl0
  clear b2 b3 b5 b6
  repeat' (first | (with_reducible refine zeg (t := 6) yU yO yE ?_; simp only [zao, zaf, zah, Nat.reduceEqDiff, ↓reduceIte, zak, zal, zar, zaj, zai, zap, zam]) | (with_reducible refine zeg (t := 40) yU yO yE ?_; simp only [zao, zaf, zah, Nat.reduceEqDiff, ↓reduceIte, zak, zal, zar, zaj, zai, zap, zam]) | (with_reducible first | refine zac yU yU yE ?_ | refine zab ?_ | refine DS.seq ?_ | refine zaa ?_ | (refine zbd yE ?_; refine zdk ?_) | (refine zdz yU yE ?_; first | refine yaj ?_ | refine zfo ?_) | refine DS.exit yU ?_) | fail)
  have h := H.out
  simp only [zmx, List.length_nil, if_true] at h
  refine zck yG ⟨by rw [h]; rfl, by rw [h]⟩
 ·have c2 := b2 (by omega)
  have c5 := b5 (by omega)
  clear b2 b3 b5 b6
  have hmod : ((l1.length : Int)).tmod size = (l1.length : Int) % size := Int.tmod_eq_emod_of_nonneg (by omega)
  have hbl1 := zef bs x1 l1.length (by omega)
  have hbl2 := zef bs (zag x1) l1.length (by omega)
  have hmg : zmx size (n + 1) x1 l1 = if (l1.length : Int) % size ≠ 0 then zmx size n (zag x1) (l1.take (zan x1 l1.length).toNat ++ l1.drop ((zan x1 l1.length).toNat + 1)) else if zqb x1 9 = true then zmx size n (zag (zag x1)) (l1.take (zan (zag x1) l1.length).toNat ++ l1.drop ((zan (zag x1) l1.length).toNat + 1)) else (l1, zag x1) := by
   rw [zmx, if_neg h0]
  have H2 := Box.mk (And.intro hmg (And.intro hbl1 hbl2))
  clear hmg hbl1 hbl2
  obtain ⟨i1, hi1⟩ : ∃ i1 : Nat, zan x1 l1.length = i1 := ⟨(zan x1 l1.length).toNat, by omega⟩
  obtain ⟨i2, hi2⟩ : ∃ i2 : Nat, zan (zag x1) l1.length = i2 := ⟨(zan (zag x1) l1.length).toNat, by omega⟩
  repeat' (first | (with_reducible refine zeg (t := 6) yU yO yE ?_; simp only [zao, zaf, zah, Nat.reduceEqDiff, ↓reduceIte, zak, zal, zar, zaj, zai, zap, zam]) | (with_reducible refine zeg (t := 40) yU yO yE ?_; simp only [zao, zaf, zah, Nat.reduceEqDiff, ↓reduceIte, zak, zal, zar, zaj, zai, zap, zam]) | (with_reducible first | refine zac yU yU yE ?_ | refine zab ?_ | refine DS.seq ?_ | refine zaa ?_ | (refine zbd yE ?_; first | refine zde ?_ | refine zdk ?_ | refine yha (fun _ => ?_) (fun _ => ?_)) | (refine zdz yU yE ?_; first | refine yaj ?_ | refine zvj (fun _ => ?_) (fun _ => ?_) | refine zow (fun _ => ?_) (fun _ => ?_) | refine GG.run ?_ | refine zfo ?_ | refine ztg ?_) | refine DS.block ?_ | refine DS.exit yU ?_ | refine DS.skip ?_) | (refine zfd inferInstance (zmw bs x1 9 (by omega)) yR yT yT ?_; (try simp only [zbn, zbs, ↓reduceIte, *])) | fail)
  ·rename_i e1 e2 e3
   have hb := H2.out.2.2
   rw [hi2] at hb
   repeat' (first | (with_reducible refine zeg (t := 7) yU yO yX10 ?_; simp only [zao, zaf, zah, Nat.reduceEqDiff, ↓reduceIte, zak, zal, zar, zaj, zai, zap, zam]) | (with_reducible first | refine zac yU yU yX10 ?_ | refine zab ?_ | refine DS.blk ?_) | (refine DS.append (mm := false) yU yX10 yX10 yU (by decide) yX10 (by first | exact .inl rfl | exact .inr ⟨rfl, rfl⟩) yX10 yX11 (by first | exact zat zdt _ | exact zat zeq _ | exact zat Member.len _ | exact zat Sitting.len _ | exact zat Ruling.len _ | (simp only [List.mem_cons, List.not_mem_nil, or_false, forall_eq]; rfl) | simp) ⟨by (try simp only [List.length_map, List.length_cons, List.length_nil, List.length_append, List.length_take, List.length_drop]); omega, by decide⟩ ?_; simp only [zao, zaf, zah, Nat.reduceEqDiff, ↓reduceIte, zak, zal, zar, zaj, zai, zap, zam]) | (refine zfd inferInstance (hb) yR yX12 yX12 ?_; (try simp only [zbn, zbs, ↓reduceIte, *])) | refine zce (id := 4) [1, 2, 3, 0, 4, 5, 6, 7, 8] 9 (by kernel_rfl) zdq (by simp only [zbb, zbe, zbf, zbg, zba]; exact rfl) (by simp only [zax, zay, List.drop_nil]; exact rfl) ?_ | (with_reducible first | refine zbw yU yU yU yX10 ?_ | refine zdc ?_) | (refine zhn yU yX10 yX10 ?_; simp only [go_sem, Nat.zero_add, Nat.reduceAdd]; simp only [zcc, zcm, Nat.reduceEqDiff, ↓reduceIte]) | (refine DD.append (mm := false) yU yX10 yX10 yU (by decide) yX10 (by first | exact .inl rfl | exact .inr ⟨rfl, rfl⟩) yX10 yX11 (by first | exact zat zdt _ | exact zat zeq _ | exact zat Member.len _ | exact zat Sitting.len _ | exact zat Ruling.len _ | (simp only [List.mem_cons, List.not_mem_nil, or_false, forall_eq]; rfl) | simp) ⟨by (try simp only [List.length_map, List.length_cons, List.length_nil, List.length_append, List.length_take, List.length_drop]); omega, by decide⟩ ?_; simp only [zao, zaf, zah, Nat.reduceEqDiff, ↓reduceIte, zak, zal, zar, zaj, zai, zap, zam]; simp only [zcc, zcm, Nat.reduceEqDiff, ↓reduceIte]) | fail)
   have h := H.out
   rw [H2.out.1, if_neg (by omega), if_pos (by assumption), hi2] at h
   refine DS.back (hB (n, zag (zag x1), l1.take i2 ++ l1.drop (i2 + 1)) _ _ (by simp; omega) ⟨by simp; omega, by simp; omega, by rw [h]; rfl⟩ yS yS (fun b o e => by exact e))
  ·rename_i e1 e2 e3
   have h := H.out
   rw [H2.out.1, if_neg (by omega), if_neg (by simp [*])] at h
   refine zck yG ⟨by rw [h]; rfl, by rw [h]⟩
  ·rename_i e1 e2
   have hb := H2.out.2.1
   rw [hi1] at hb
   repeat' (first | (with_reducible refine zeg (t := 7) yU yO yX10 ?_; simp only [zao, zaf, zah, Nat.reduceEqDiff, ↓reduceIte, zak, zal, zar, zaj, zai, zap, zam]) | (with_reducible first | refine zac yU yU yX10 ?_ | refine zab ?_ | refine DS.blk ?_) | (refine DS.append (mm := false) yU yX10 yX10 yU (by decide) yX10 (by first | exact .inl rfl | exact .inr ⟨rfl, rfl⟩) yX10 yX11 (by first | exact zat zdt _ | exact zat zeq _ | exact zat Member.len _ | exact zat Sitting.len _ | exact zat Ruling.len _ | (simp only [List.mem_cons, List.not_mem_nil, or_false, forall_eq]; rfl) | simp) ⟨by (try simp only [List.length_map, List.length_cons, List.length_nil, List.length_append, List.length_take, List.length_drop]); omega, by decide⟩ ?_; simp only [zao, zaf, zah, Nat.reduceEqDiff, ↓reduceIte, zak, zal, zar, zaj, zai, zap, zam]) | (refine zfd inferInstance (hb) yR yX12 yX12 ?_; (try simp only [zbn, zbs, ↓reduceIte, *])) | refine zce (id := 4) [1, 2, 3, 0, 4, 5, 6, 7, 8] 9 (by kernel_rfl) zdq (by simp only [zbb, zbe, zbf, zbg, zba]; exact rfl) (by simp only [zax, zay, List.drop_nil]; exact rfl) ?_ | (with_reducible first | refine zbw yU yU yU yX10 ?_ | refine zdc ?_) | (refine zhn yU yX10 yX10 ?_; simp only [go_sem, Nat.zero_add, Nat.reduceAdd]; simp only [zcc, zcm, Nat.reduceEqDiff, ↓reduceIte]) | (refine DD.append (mm := false) yU yX10 yX10 yU (by decide) yX10 (by first | exact .inl rfl | exact .inr ⟨rfl, rfl⟩) yX10 yX11 (by first | exact zat zdt _ | exact zat zeq _ | exact zat Member.len _ | exact zat Sitting.len _ | exact zat Ruling.len _ | (simp only [List.mem_cons, List.not_mem_nil, or_false, forall_eq]; rfl) | simp) ⟨by (try simp only [List.length_map, List.length_cons, List.length_nil, List.length_append, List.length_take, List.length_drop]); omega, by decide⟩ ?_; simp only [zao, zaf, zah, Nat.reduceEqDiff, ↓reduceIte, zak, zal, zar, zaj, zai, zap, zam]; simp only [zcc, zcm, Nat.reduceEqDiff, ↓reduceIte]) | fail)
   have h := H.out
   rw [H2.out.1, if_pos (by omega), hi1] at h
   refine DS.back (hB (n, zag x1, l1.take i1 ++ l1.drop (i1 + 1)) _ _ (by simp; omega) ⟨by simp; omega, by simp; omega, by rw [h]; rfl⟩ yS yS (fun b o e => by exact e))
  ·exfalso; omega
end Go.XL
namespace Go.XL
open Go.Proofs
set_option maxRecDepth 100000
set_option maxHeartbeats 8000000
theorem ycu (n : Int) (out : List Int) : ∀ a, zkz n out a ≤ a
 | 0 => Nat.le_refl _
 | a + 1 => by
  have := ycu n out a
  simp only [zkz]; split <;> omega
theorem yhy (l : List Int) (hl : l.length ≤ 1000000) : PC Tryz.prog 127 [ints l] (.own false 3 1 ((zft l).map cI)) := by
 refine DC.of_run Tryz.func127 rfl Tryz.ntmps127 Tryz.results127 (by simp) (fun _ => ?_); simp only [zaq, zau, go_sem, Nat.zero_add, Nat.reduceAdd]
 repeat' (first | (with_reducible first | (refine zdu (t := 2) yU yO yE ?_) | (refine zdu (t := 3) yU yO yE ?_) | refine zac yU yU yE ?_ | refine zab ?_ | refine DS.seq ?_ | refine zaa ?_ | refine DS.block ?_) | fail)
 refine zcn [0] yN (fun (y : Nat × List Int) => [(3, .own false 3 1 (y.2.map cI)), (4, I y.1)]) (fun (y : Nat × List Int) => y.1 ≤ l.length ∧ y.2.length = y.1 ∧ zft l = (l.drop y.1).foldl insS y.2) (fun (y : Nat × List Int) => l.length - y.1) (0, []) yS (by simp [zft]) (fun y B hI hB => ?_); try dsimp only at hI hB; simp only [zas, zaw]
 obtain ⟨i, out⟩ := y
 dsimp only at hI hB
 obtain ⟨g1, g2, g3⟩ := hI
 have H := Box.mk g3
 clear g3
 repeat' (first | (with_reducible refine zeg (t := 2) yU yO yE ?_; simp only [zao, zaf, zah, Nat.reduceEqDiff, ↓reduceIte, zak, zal, zar, zaj, zai, zap, zam]) | (with_reducible refine zeg (t := 45) yU yO yE ?_; simp only [zao, zaf, zah, Nat.reduceEqDiff, ↓reduceIte, zak, zal, zar, zaj, zai, zap, zam]) | (with_reducible first | refine zac yU yU yE ?_ | refine zab ?_ | refine DS.seq ?_ | refine zaa ?_ | (refine zbd yE ?_; refine zel (fun _ => ?_) (fun _ => ?_)) | refine DS.block ?_ | refine DS.exit yU ?_ | refine DS.skip ?_) | refine zbi [] yE trivial ?_ | fail)
 ·rename_i e1
  have hi : i < l.length := by omega
  have hto : List.take i out = out := by rw [← g2]; exact List.take_length
  have hB0 := hB
  clear hB
  refine zcn [0, 3, 4] yN (fun (a : Nat) => [(5, I a)]) (fun (a : Nat) => a ≤ out.length ∧ zkz l[i] out out.length = zkz l[i] out a) (fun (a : Nat) => a) out.length yS ⟨Nat.le_refl _, rfl⟩ (fun a B hI hB => ?_); try dsimp only at hI hB; simp only [zas, zaw]
  obtain ⟨a1, a2⟩ := hI
  have H2 := Box.mk a2
  clear a2
  have hend : zkz l[i] out out.length = a → ∀ E' : VEnv, subV [(3, .own false 3 1 (List.map cI (List.take a out) ++ [[V.v (Value.int IntKind.i64 l[i])]] ++ List.map cI (List.drop a out))), (4, I ((i : Int) + 1))] E' → subV [(3, .own false 3 1 ((insS out l[i]).map cI)), (4, I ((i + 1 : Nat) : Int))] E' := fun h E' hE => by
   have h1 : (insS out l[i]).map cI = List.map cI (List.take a out) ++ [[V.v (Value.int IntKind.i64 l[i])]] ++ List.map cI (List.drop a out) := by
    rw [insS, h, List.map_append, List.map_cons, List.append_assoc]; rfl
   rw [h1]
   exact hE
  have hil : (insS out l[i]).length = i + 1 := by
   rw [insS, List.length_append, List.length_cons, List.length_take, List.length_drop]
   have := ycu l[i] out out.length
   omega
  have hir : zft l = (l.drop (i + 1)).foldl insS (insS out l[i]) := by rw [H.out, List.drop_eq_getElem_cons hi, List.foldl_cons]
  have H3 := Box.mk (And.intro hend (And.intro hil hir))
  clear hend hil hir
  repeat' (first | (with_reducible refine zeg (t := 3) yU yO yX10 ?_; simp only [zao, zaf, zah, Nat.reduceEqDiff, ↓reduceIte, zak, zal, zar, zaj, zai, zap, zam]) | (with_reducible first | refine zac yU yU yX10 ?_ | refine zab ?_ | refine DS.seq ?_ | refine zaa ?_ | (refine zbd yX10 ?_; first | refine zel (fun _ => ?_) (fun _ => ?_) | refine zdk ?_) | (refine zdz yU yX10 ?_; first | refine GG.run ?_ | refine zfo ?_) | refine DS.blk ?_ | refine DS.block ?_ | refine DS.exit yU ?_ | refine DS.skip ?_) | (refine DS.append (mm := false) yU yX10 yX10 yU (by decide) yX10 (by first | exact .inl rfl | exact .inr ⟨rfl, rfl⟩) yX10 yX11 (by first | exact zat zdt _ | exact zat zeq _ | exact zat Member.len _ | exact zat Sitting.len _ | exact zat Ruling.len _ | (simp only [List.mem_cons, List.not_mem_nil, or_false, forall_eq]; rfl) | simp) ⟨by (try simp only [List.length_map, List.length_cons, List.length_nil, List.length_append, List.length_take, List.length_drop]); omega, by decide⟩ ?_; simp only [zao, zaf, zah, Nat.reduceEqDiff, ↓reduceIte, zak, zal, zar, zaj, zai, zap, zam]) | refine zce (id := 6) [0, 1, 2, 3, 4, 5, 6, 7, 8, 9, 10, 11] 12 (by kernel_rfl) zdq (by simp only [zbb, zbe, zbf, zbg, zba]; exact rfl) (by simp only [zax, zay, List.drop_nil]; exact rfl) ?_ | refine zce (id := 8) [1, 2, 3, 0, 4, 5, 6, 7, 8, 9, 10, 11, 12, 13] 14 (by kernel_rfl) zdq (by simp only [zbb, zbe, zbf, zbg, zba]; exact rfl) (by simp only [zax, zay, List.drop_nil]; exact rfl) ?_ | (with_reducible first | refine zbw yU yU yU yX10 ?_ | (refine zni yU yX10 ?_; first | refine zvl (fun _ => ?_) (fun _ => ?_) | refine DGG.run ?_ | refine zmt ?_) | refine zdc ?_) | (refine zhn yU yX10 yX10 ?_; simp only [go_sem, Nat.zero_add, Nat.reduceAdd]; simp only [zcc, zcm, Nat.reduceEqDiff, ↓reduceIte]) | (refine DD.append (mm := false) yU yX10 yX10 yU (by decide) yX10 (by first | exact .inl rfl | exact .inr ⟨rfl, rfl⟩) yX10 yX11 (by first | exact zat zdt _ | exact zat zeq _ | exact zat Member.len _ | exact zat Sitting.len _ | exact zat Ruling.len _ | (simp only [List.mem_cons, List.not_mem_nil, or_false, forall_eq]; rfl) | simp) ⟨by (try simp only [List.length_map, List.length_cons, List.length_nil, List.length_append, List.length_take, List.length_drop]); omega, by decide⟩ ?_; simp only [zao, zaf, zah, Nat.reduceEqDiff, ↓reduceIte, zak, zal, zar, zaj, zai, zap, zam]; simp only [zcc, zcm, Nat.reduceEqDiff, ↓reduceIte]) | fail)
  ·rename_i e2 e3
   obtain ⟨a', rfl⟩ : ∃ a', a = a' + 1 := ⟨a - 1, by omega⟩
   refine DS.back (hB a' _ _ (by omega) ⟨by omega, by rw [H2.out, zkz, if_pos (by rw [List.getD_eq_getElem?_getD, List.getElem?_eq_getElem (by omega)]; simpa using e3)]⟩ ⟨?_, trivial⟩ yS (fun b o e => by exact e))
   have e9 : ((a' : Int) + 1 - 1) = a' := by omega
   simp only [zdg, if_true, Int.natCast_add, Int.natCast_one, e9]
  ·rename_i e2 e3
   obtain ⟨a', rfl⟩ : ∃ a', a = a' + 1 := ⟨a - 1, by omega⟩
   have h : zkz l[i] out out.length = a' + 1 := by rw [H2.out, zkz, if_neg (by rw [List.getD_eq_getElem?_getD, List.getElem?_eq_getElem (by omega)]; simpa using e3)]
   refine DS.back (hB0 (i + 1, insS out l[i]) _ _ (by dsimp only; omega) ⟨by dsimp only; omega, H3.out.2.1, H3.out.2.2⟩ (H3.out.1 h _ yS) yS (fun b o e => by exact e))
  ·rename_i e2
   have : a = 0 := by omega
   subst this
   have h : zkz l[i] out out.length = 0 := by rw [H2.out]; rfl
   refine DS.back (hB0 (i + 1, insS out l[i]) _ _ (by dsimp only; omega) ⟨by dsimp only; omega, H3.out.2.1, H3.out.2.2⟩ (H3.out.1 h _ yS) yS (fun b o e => by exact e))
 ·have h := H.out
  rw [List.drop_eq_nil_of_le (by omega)] at h
  rw [h]; rfl
end Go.XL
namespace Go.XL
open Go.Proofs
set_option maxRecDepth 100000
set_option maxHeartbeats 8000000
theorem zzr (start : Int) : ∀ (n : Nat) (x : Int) (acc : List Int), (zlp start n x acc).1.length = acc.length + n
 | 0, x, acc => rfl
 | n + 1, x, acc => by rw [zlp, zzr]; simp; omega
theorem zom (size start x : Int) (h : 1 ≤ size) : ((zfv size start x).1.length : Int) = size := by
 simp only [zfv, List.length_cons, zzr, List.length_nil]; omega
def evC (sz : Nat) (acc : List Int) : List V := I 0 :: (acc.map fun a => I a) ++ List.replicate (sz - 1 - acc.length) (I 0)
theorem ybo {sz : Nat} {acc : List Int} (h : acc.length + 1 ≤ sz) : (evC sz acc).length = sz := by simp [evC]; omega
theorem ykd {sz : Nat} {acc : List Int} (h : acc.length + 1 < sz) (a : Int) : (evC sz acc).set (acc.length + 1) (I a) = evC sz (acc ++ [a]) := by
 apply List.ext_getElem?
 intro i
 obtain ⟨m, hm⟩ : ∃ m, sz - 1 - acc.length = m + 1 := ⟨sz - 1 - acc.length - 1, by omega⟩
 have hm2 : sz - 1 - (acc ++ [a]).length = m := by simp; omega
 have e1 : evC sz acc = (I 0 :: acc.map fun a => I a) ++ I 0 :: List.replicate m (I 0) := by rw [evC, hm, List.replicate_succ]
 have e2 : evC sz (acc ++ [a]) = (I 0 :: acc.map fun a => I a) ++ I a :: List.replicate m (I 0) := by rw [evC, hm2]; simp
 have hl : (I 0 :: acc.map fun a => I a).length = acc.length + 1 := by simp
 rw [e1, e2, List.set_append_right _ _ (by omega), hl, Nat.sub_self, List.set_cons_zero]
theorem yql {sz : Nat} {acc : List Int} (h : acc.length + 1 < sz) (a : Int) : (evC sz (acc ++ [a]))[acc.length + 1]? = some (I a) := by
 rw [← ykd h, List.getElem?_set_self (by have := ybo (sz := sz) (acc := acc) (by omega); omega)]
theorem ykc (bs : Nat) (x : Int) (sz : Nat) (start : Int) (hs : 3 ≤ sz ∧ sz ≤ 4) (h0 : 0 ≤ start ∧ start ≤ 1000000) : SC Tryz.prog 88 [ptr bs, I sz, I start] bs x (ints (zfv sz start x).1) (zfv sz start x).2 := by
 obtain ⟨hs1, hs2⟩ := hs
 obtain ⟨h01, h02⟩ := h0
 have hmul : 0 ≤ (sz : Int) * start ∧ (sz : Int) * start ≤ 4000000 := by
  rcases (show sz = 3 ∨ sz = 4 by omega) with rfl | rfl <;> omega
 obtain ⟨hm1, hm2⟩ := hmul
 unfold SC
 refine DC.of_run Tryz.func88 rfl Tryz.ntmps88 Tryz.results88 (by simp) (fun _ => ?_); simp only [zaq, zau, go_sem, Nat.zero_add, Nat.reduceAdd]
 repeat' (first | (with_reducible first | refine zac yU yU yE ?_ | refine zab ?_ | refine DS.seq ?_ | refine zaa ?_ | refine DS.block ?_) | (refine ylp yU yE yE yE yE yU yU ⟨by omega, by omega, by decide, by omega⟩ (fun _ hfr => ?_)) | fail)
 rename_i b
 have nb : ¬ bs = b := fun e => by rw [zae, if_pos e] at hfr; cases hfr
 have nb' : ¬ b = bs := fun e => nb e.symm
 clear hfr
 have hz : (zeu (Value.int IntKind.i64 0) ((sz : Int)).toNat) = evC sz [] := by
  rw [Int.toNat_natCast, yfb]
  obtain ⟨m, rfl⟩ : ∃ m, sz = m + 1 := ⟨sz - 1, by omega⟩
  rfl
 rw [hz]
 clear hz
 refine zcq [0, 1, 2, 7] yN (fun (y : Int × List Int × Int × Nat) => [(8, I y.2.2.1), (9, I y.2.2.2)]) (fun (y : Int × List Int × Int × Nat) => [(b, .cells (evC sz y.2.1) 3), (bs, srcO y.1)]) (fun (y : Int × List Int × Int × Nat) => y.2.2.2 = y.2.1.length + 1 ∧ y.2.2.2 ≤ sz ∧ y.2.2.1 = (sz : Int) * start - y.2.1.sum ∧ zlp start (sz - 1) x [] = zlp start (sz - y.2.2.2) y.1 y.2.1 ∧ -(y.2.2.2 : Int) * 2000000 ≤ y.2.1.sum ∧ y.2.1.sum ≤ (y.2.2.2 : Int) * 2000000) (fun (y : Int × List Int × Int × Nat) => sz - y.2.2.2) (x, [], sz * start, 1) yS (fun b o e => by exact e) ⟨rfl, by dsimp only; omega, by simp, rfl, by simp, by simp⟩ (fun y B hI hB => ?_); try dsimp only at hI hB; simp only [zas, zaw]
 obtain ⟨x1, acc, rest, k⟩ := y
 dsimp only at hI hB
 obtain ⟨g1, g2, g3, g4, g5, g6⟩ := hI
 have g7 : -8000000 ≤ rest ∧ rest ≤ 12000000 := by omega
 obtain ⟨g7, g8⟩ := g7
 have H := Box.mk (And.intro g1 (And.intro g3 g4))
 obtain ⟨b1, b2, -⟩ := zbv x1 7
 have b3 := b2 (by omega)
 clear b2
 have hlen := ybo (sz := sz) (acc := acc) (by omega)
 have hgen : ∀ a, k < sz → (evC sz acc).set k (I a) = evC sz (acc ++ [a]) := fun a h => by rw [g1]; exact ykd (by omega) a
 have hge2 : k < sz → (evC sz (acc ++ [start + (zan x1 7 - 3) * 10]))[k]? = some (I (start + (zan x1 7 - 3) * 10)) := fun h => by rw [g1]; exact yql (by omega) _
 have hgl : k < sz → (evC sz (acc ++ [start + (zan x1 7 - 3) * 10])).length = sz := fun h => ybo (by simp; omega)
 have H2 := Box.mk (And.intro hgen (And.intro hge2 hgl))
 clear hgen hge2 hgl g1 g3 g4
 repeat' (first | (with_reducible first | refine zac yU yU yE ?_ | refine zab ?_ | refine DS.seq ?_ | refine zaa ?_ | (refine zbd yE ?_; refine zel (fun _ => ?_) (fun _ => ?_)) | refine DS.block ?_ | refine DS.exit yU ?_ | refine DS.skip ?_) | (refine zfd inferInstance (zef bs x1 7 (by omega)) yR yT yT ?_; (try simp only [zbn, zbs, ↓reduceIte, *])) | (refine DS.store yR yE yE yE yE yU (by exact ⟨by with_unfolding_all rfl, by (try simp only [List.length_map, List.length_append, List.length_set, List.length_replicate, List.length_cons, List.length_nil]); omega⟩) ?_; simp only [zbo, zav, zaz, zbz, zbl, zbj, zbk]; try simp only [zao, zaf, zah, Nat.reduceEqDiff, ↓reduceIte, zak, zal, zar, zaj, zai, zap, zam]) | fail)
 ·rename_i e1
  have hk : k < sz := by omega
  have h2 := H2.out.2.1 hk
  have h3 := H2.out.2.2 hk
  refine zer (S' := [(b, .cells (evC sz (acc ++ [start + (zan x1 7 - 3) * 10])) 3), (bs, srcO (zag x1))]) (fun b' o e => ?_) ?_
  ·rw [← H2.out.1 _ hk] at e
   simp only [setS, zad, nb, nb', ↓reduceIte] at e ⊢
   by_cases h4 : b = b'
   ·subst h4
    simp only [nb, ↓reduceIte] at e ⊢; exact e
   ·simp only [h4, ↓reduceIte] at e ⊢; exact e
  repeat' (first | (with_reducible first | refine zac yU yU yE ?_ | refine zab ?_ | refine zaa ?_ | refine DS.blk ?_) | fail)
  obtain ⟨q1, q3, q4⟩ := H.out
  refine DS.back (hB (zag x1, acc ++ [start + (zan x1 7 - 3) * 10], rest - (start + (zan x1 7 - 3) * 10), k + 1) _ _ (by dsimp only; omega) ⟨by simp; omega, by dsimp only; omega, by simp [q3]; omega, ?_, by simp; omega, by simp; omega⟩ yS yS (fun b o e => by exact e))
  obtain ⟨m, hm⟩ : ∃ m, sz - k = m + 1 := ⟨sz - k - 1, by omega⟩
  dsimp only
  rw [q4, hm, zlp, show sz - (k + 1) = m by omega]
 ·rename_i e1
  obtain ⟨q1, q3, q4⟩ := H.out
  have hk : k = sz := by omega
  have hcells : (evC sz acc).set 0 (I rest) = (rest :: acc).map fun a => I a := by
   rw [evC, show sz - 1 - acc.length = 0 by omega]; simp
  refine zer (S' := [(b, .cells ((rest :: acc).map fun a => I a) 3), (bs, srcO x1)]) (fun b' o e => ?_) ?_
  ·rw [← hcells] at e
   simp only [setS, ↓reduceIte] at e ⊢
   exact e
  refine zjb (t := 6) (b := b) (sz := 1) (l := (rest :: acc).map fun a => I a) (T := 3) yR (by simp only [zae, ↓reduceIte]) (by simp; omega) ⟨Nat.le_refl _, by simp only [maxLen]; omega⟩ ?_
  simp only [zbn, zbs, nb, ↓reduceIte]
  refine zck yG ⟨?_, ?_⟩
  ·have h := zoq (rest :: acc) sz [] (by simp; omega)
   rw [List.append_nil] at h
   rw [zfp, List.map_map, show (V.copy ∘ fun a => I a) = (fun x => I x) from rfl]
   rw [List.take_of_length_le (by simp; omega)] at h
   refine (congrArg V.lst h).trans ?_
   simp only [zfv, Int.toNat_natCast, q4, hk, Nat.sub_self, zlp]
   rw [q3]
  ·simp only [zfv, Int.toNat_natCast, q4, hk, Nat.sub_self, zlp]
end Go.XL
namespace Go.XL
open Go.Proofs
set_option maxRecDepth 100000
set_option maxHeartbeats 8000000
theorem zvs (size : Int) : ∀ (n : Nat) (x : Int) (t rest : List Int), (t.length : Int) ≤ size → size ≤ (t.length : Int) + n → ((tabG size n x t rest).1.length : Int) = size
 | 0, x, t, rest, h1, h2 => by
  show (t.length : Int) = size
  omega
 | n + 1, x, t, rest, h1, h2 => by
  simp only [tabG]
  split
  ·exact zvs size n _ _ _ (by simp; omega) (by simp; omega)
  ·show (t.length : Int) = size
   omega
theorem yhh (size : Int) : ∀ (n : Nat) (x : Int) (t rest : List Int), ¬ (t.length : Int) < size → tabG size n x t rest = (t, rest, x)
 | 0, x, t, rest, h => rfl
 | n + 1, x, t, rest, h => by rw [tabG, if_neg h]
theorem yX13 {p : Prop} (h : p := by (simp (disch := omega) only [go_sem, dopV, yV0, ↓reduceIte, Nat.reduceEqDiff, Nat.reduceLT, Nat.reduceLeDiff, Nat.reduceAdd, Nat.reduceMul, Nat.reduceSub, Int.reduceToNat, Int.reduceLT, Int.reduceLE, Int.reduceEq, IntWalk.toNatUp, IntWalk.iteOmega, IntWalk.i64_in, V.flat, V.one, *, List.forall_mem_cons, List.forall_mem_map, implies_true, zfx, zdt, zhv, zla, List.take_length, List.length_singleton, and_self]; exact rfl)) : p := h
theorem yaw (bs : Nat) (x : Int) (l : List Int) (size : Int) (hs : 3 ≤ size ∧ size ≤ 4) (hl : l.length ≤ 1000000) : SC Tryz.prog 109 [ptr bs, ints l, I size] bs x (.own false 22 1 ((zep size x l).1.map cR)) (zep size x l).2 := by
 unfold SC
 obtain ⟨hs1, hs2⟩ := hs
 refine DC.of_run Tryz.func109 rfl Tryz.ntmps109 Tryz.results109 (by simp) (fun _ => ?_); simp only [zaq, zau, go_sem, Nat.zero_add, Nat.reduceAdd]
 repeat' (first | (with_reducible first | (refine zdu (t := 6) yU yO yE ?_) | (refine zdu (t := 8) yU yO yE ?_) | refine zac yU yU yE ?_ | refine zab ?_ | refine DS.seq ?_ | refine zaa ?_ | refine DS.block ?_) | (refine zfg yU yE yE ?_; simp only [go_sem, Nat.zero_add, Nat.reduceAdd]) | (refine DS.append (mm := false) yU yE yE yU (by decide) yE (by first | exact .inl rfl | exact .inr ⟨rfl, rfl⟩) yE yX0 (by first | exact zat zdt _ | exact zat zeq _ | exact zat Member.len _ | exact zat Sitting.len _ | exact zat Ruling.len _ | (simp only [List.mem_cons, List.not_mem_nil, or_false, forall_eq]; rfl) | simp) ⟨by (try simp only [List.length_map, List.length_cons, List.length_nil, List.length_append, List.length_take, List.length_drop]); omega, by decide⟩ ?_; simp only [zao, zaf, zah, Nat.reduceEqDiff, ↓reduceIte, zak, zal, zar, zaj, zai, zap, zam]) | fail)
 refine zcq [0, 2] yN (fun (y : Nat × Int × List Int × List (List Int)) => [(7, ints y.2.2.1), (8, .own false 22 1 (y.2.2.2.map cR))]) (fun (y : Nat × Int × List Int × List (List Int)) => [(bs, srcO y.2.1)]) (fun (y : Nat × Int × List Int × List (List Int)) => y.2.2.1.length < y.1 ∧ y.2.2.1.length + y.2.2.2.length ≤ l.length ∧ zep size x l = zmv size y.1 y.2.1 y.2.2.1 y.2.2.2) (fun (y : Nat × Int × List Int × List (List Int)) => y.2.2.1.length) (l.length + 1, x, l, []) yS (fun b o e => by exact e) ⟨Nat.lt_succ_self _, Nat.le_refl _, rfl⟩ (fun y B hI hB => ?_); try dsimp only at hI hB; simp only [zas, zaw]
 obtain ⟨n, x1, rest, out⟩ := y
 dsimp only at hI hB
 obtain ⟨g1, g2, g3⟩ := hI
 have H := Box.mk g3
 clear g3
 obtain ⟨n, rfl⟩ : ∃ n', n = n' + 1 := ⟨n - 1, by omega⟩
 have hB0 := hB
 clear hB
 by_cases h0 : size ≤ (rest.length : Int)
 ·obtain ⟨a, r, rfl⟩ : ∃ a r, rest = a :: r := by
   cases rest with
   | nil => simp at h0; omega
   | cons a r => exact ⟨a, r, rfl⟩
  have h0 : size ≤ ((r.length : Int) + 1) := by simpa using h0
  have g1 : r.length + 1 < n + 1 := by simpa using g1
  have g2 : r.length + 1 + out.length ≤ l.length := by simpa using g2
  repeat' (first | (with_reducible refine zeg (t := 6) yU yO yX13 ?_; simp only [zao, zaf, zah, Nat.reduceEqDiff, ↓reduceIte, zak, zal, zar, zaj, zai, zap, zam]) | (with_reducible refine zeg (t := 9) yU yO yX13 ?_; simp only [zao, zaf, zah, Nat.reduceEqDiff, ↓reduceIte, zak, zal, zar, zaj, zai, zap, zam]) | (with_reducible refine zeg (t := 54) yU yO yX13 ?_; simp only [zao, zaf, zah, Nat.reduceEqDiff, ↓reduceIte, zak, zal, zar, zaj, zai, zap, zam]) | (with_reducible first | refine zac yU yU yX13 ?_ | refine zab ?_ | refine DS.seq ?_ | refine zaa ?_ | (refine zbd yX13 ?_; refine zel (fun _ => ?_) (fun _ => ?_)) | refine DS.block ?_ | refine DS.exit yU ?_ | refine DS.skip ?_) | (refine zfg yU yX13 yX13 ?_; simp only [go_sem, Nat.zero_add, Nat.reduceAdd]) | fail)
  all_goals first | (exfalso; omega) | skip
  refine zcq [0, 2, 8] yN (fun (z : Nat × Int × List Int × List Int) => [(7, ints z.2.2.2), (9, .own false 3 1 (z.2.2.1.map cI))]) (fun (z : Nat × Int × List Int × List Int) => [(bs, srcO z.2.1)]) (fun (z : Nat × Int × List Int × List Int) => (z.2.2.1.length : Int) ≤ size ∧ size ≤ (z.2.2.1.length : Int) + z.1 ∧ size ≤ (z.2.2.1.length : Int) + z.2.2.2.length ∧ z.2.2.1.length + z.2.2.2.length = r.length + 1 ∧ tabG size size.toNat x1 [a] r = tabG size z.1 z.2.1 z.2.2.1 z.2.2.2) (fun (z : Nat × Int × List Int × List Int) => z.2.2.2.length) (size.toNat, x1, [a], r) yS (fun b o e => by exact e) ⟨by simp; omega, by simp; omega, by simp; omega, by simp; omega, rfl⟩ (fun z B hI hB => ?_); try dsimp only at hI hB; simp only [zas, zaw]
  obtain ⟨m, x2, t, rest⟩ := z
  dsimp only at hI hB
  obtain ⟨k1, k2, k3, k4, k5⟩ := hI
  have K := Box.mk k5
  clear k5
  by_cases ht : (t.length : Int) < size
  ·obtain ⟨b1, b2, -⟩ := zbv x2 rest.length
   have b3 := b2 (by omega)
   obtain ⟨i, hi⟩ : ∃ i : Nat, zan x2 rest.length = i := ⟨(zan x2 rest.length).toNat, by omega⟩
   have hbl := zef bs x2 rest.length (by omega)
   have hdi := hi
   rw [hi] at b3 hbl
   have K2 := Box.mk hi
   clear hi b1 b2 hdi
   have hir : i < rest.length := by omega
   repeat' (first | (with_reducible refine zeg (t := 9) yU yO yX10 ?_; simp only [zao, zaf, zah, Nat.reduceEqDiff, ↓reduceIte, zak, zal, zar, zaj, zai, zap, zam]) | (with_reducible refine zeg (t := 32) yU yO yX10 ?_; simp only [zao, zaf, zah, Nat.reduceEqDiff, ↓reduceIte, zak, zal, zar, zaj, zai, zap, zam]) | (with_reducible first | refine zac yU yU yX10 ?_ | refine zab ?_ | refine DS.seq ?_ | refine zaa ?_ | (refine zbd yX10 ?_; refine zde ?_) | refine DS.blk ?_ | refine DS.block ?_ | refine DS.skip ?_) | (refine zfg yU yX10 yX10 ?_; simp only [go_sem, Nat.zero_add, Nat.reduceAdd]) | (refine DS.append (mm := false) yU yX10 yX10 yU (by decide) yX10 (by first | exact .inl rfl | exact .inr ⟨rfl, rfl⟩) yX10 yX11 (by first | exact zat zdt _ | exact zat zeq _ | exact zat Member.len _ | exact zat Sitting.len _ | exact zat Ruling.len _ | (simp only [List.mem_cons, List.not_mem_nil, or_false, forall_eq]; rfl) | simp) ⟨by (try simp only [List.length_map, List.length_cons, List.length_nil, List.length_append, List.length_take, List.length_drop]); omega, by decide⟩ ?_; simp only [zao, zaf, zah, Nat.reduceEqDiff, ↓reduceIte, zak, zal, zar, zaj, zai, zap, zam]) | (refine zfd inferInstance (hbl) yR yX12 yX12 ?_; (try simp only [zbn, zbs, ↓reduceIte, *])) | refine zce (id := 9) [1, 2, 3, 0, 4, 5, 6, 7, 8] 9 (by kernel_rfl) zdq (by simp only [zbb, zbe, zbf, zbg, zba]; exact rfl) (by simp only [zax, zay, List.drop_nil]; exact rfl) ?_ | (with_reducible first | refine zbw yU yU yU yX10 ?_ | refine zdc ?_) | (refine zhn yU yX10 yX10 ?_; simp only [go_sem, Nat.zero_add, Nat.reduceAdd]; simp only [zcc, zcm, Nat.reduceEqDiff, ↓reduceIte]) | (refine DD.append (mm := false) yU yX10 yX10 yU (by decide) yX10 (by first | exact .inl rfl | exact .inr ⟨rfl, rfl⟩) yX10 yX11 (by first | exact zat zdt _ | exact zat zeq _ | exact zat Member.len _ | exact zat Sitting.len _ | exact zat Ruling.len _ | (simp only [List.mem_cons, List.not_mem_nil, or_false, forall_eq]; rfl) | simp) ⟨by (try simp only [List.length_map, List.length_cons, List.length_nil, List.length_append, List.length_take, List.length_drop]); omega, by decide⟩ ?_; simp only [zao, zaf, zah, Nat.reduceEqDiff, ↓reduceIte, zak, zal, zar, zaj, zai, zap, zam]; simp only [zcc, zcm, Nat.reduceEqDiff, ↓reduceIte]) | fail)
   all_goals first | (exfalso; omega) | skip
   obtain ⟨m, rfl⟩ : ∃ m', m = m' + 1 := ⟨m - 1, by omega⟩
   have hk := K.out
   rw [tabG, if_pos ht, K2.out, Int.toNat_natCast, List.getD_eq_getElem?_getD, List.getElem?_eq_getElem hir, Option.getD_some] at hk
   refine DS.back (hB (m, zag x2, t ++ [rest[i]], rest.take i ++ rest.drop (i + 1)) _ _ (by simp; omega) ⟨by simp; omega, by simp; omega, by simp; omega, by simp; omega, hk⟩ yS yS (fun b o e => by exact e))
  ·repeat' (first | (with_reducible refine zeg (t := 8) yU yO yX10 ?_; simp only [zao, zaf, zah, Nat.reduceEqDiff, ↓reduceIte, zak, zal, zar, zaj, zai, zap, zam]) | (with_reducible refine zeg (t := 49) yU yO yX10 ?_; simp only [zao, zaf, zah, Nat.reduceEqDiff, ↓reduceIte, zak, zal, zar, zaj, zai, zap, zam]) | (with_reducible first | refine zac yU yU yX10 ?_ | refine zab ?_ | refine DS.seq ?_ | refine zaa ?_ | (refine zbd yX10 ?_; refine zdk ?_) | refine DS.blk ?_ | refine DS.exit yU ?_) | (refine zfg yU yX10 yX10 ?_; simp only [go_sem, Nat.zero_add, Nat.reduceAdd]) | (refine DS.append (mm := false) yU yX10 yX10 yU (by decide) yX10 (by first | exact .inl rfl | exact .inr ⟨rfl, rfl⟩) yX10 yX11 (by first | exact zat zdt _ | exact zat zeq _ | exact zat Member.len _ | exact zat Sitting.len _ | exact zat Ruling.len _ | (simp only [List.mem_cons, List.not_mem_nil, or_false, forall_eq]; rfl) | simp) ⟨by (try simp only [List.length_map, List.length_cons, List.length_nil, List.length_append, List.length_take, List.length_drop]); omega, by decide⟩ ?_; simp only [zao, zaf, zah, Nat.reduceEqDiff, ↓reduceIte, zak, zal, zar, zaj, zai, zap, zam]) | refine zcf inferInstance (yhy t (by omega)) yR yX12 ?_ | fail)
   all_goals first | (exfalso; omega) | skip
   have hk := K.out
   rw [yhh size m x2 t rest ht] at hk
   have h := H.out
   rw [zmv, if_pos (by simpa using h0), List.headD_cons, List.drop_succ_cons, List.drop_zero, hk] at h
   refine DS.back (hB0 (n, x2, rest, out ++ [zft t]) _ _ (by simp; omega) ⟨by simp; omega, by simp; omega, h⟩ yS yS (fun b o e => by exact e))
 ·repeat' (first | (with_reducible refine zeg (t := 6) yU yO yE ?_; simp only [zao, zaf, zah, Nat.reduceEqDiff, ↓reduceIte, zak, zal, zar, zaj, zai, zap, zam]) | (with_reducible refine zeg (t := 54) yU yO yE ?_; simp only [zao, zaf, zah, Nat.reduceEqDiff, ↓reduceIte, zak, zal, zar, zaj, zai, zap, zam]) | (with_reducible first | refine zac yU yU yE ?_ | refine zab ?_ | refine DS.seq ?_ | refine zaa ?_ | (refine zbd yE ?_; refine zdk ?_) | refine DS.exit yU ?_) | fail)
  all_goals first | (exfalso; omega) | skip
  have h := H.out
  rw [zmv, if_neg h0] at h
  refine zck yG ⟨by rw [h]; rfl, by rw [h]⟩
end Go.XL
