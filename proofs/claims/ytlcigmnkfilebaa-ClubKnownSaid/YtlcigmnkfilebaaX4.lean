/- A part of a program logic over the kit's walk rules, and contracts of functions in it. Conditions: as each theorem says. -/
import Derived.Test.YtlcigmnkfilebaaX3
set_option linter.all false
namespace Go.XL
open Go.Proofs
set_option maxRecDepth 100000
set_option maxHeartbeats 4000000
theorem zxn (l : List Member) : PC Try.prog 36 [.lst (l.map Member.cells)] (I (zdz l)) := by
 refine DC.of_run Try.func36 rfl Try.ntmps36 Try.results36 (by simp) (fun _ => ?_); simp only [zaf, zai, go_sem, Nat.zero_add, Nat.reduceAdd]
 refine zhv (t := 0) yG (.inl rfl) (fun hb0 => ?_); simp only [List.length_map] at hb0
 repeat' (first | (with_reducible first | refine zad yU yU yE ?_ | refine zab ?_ | refine DS.seq ?_ | refine zaa ?_ | (refine zbe yE ?_; refine zeq (fun _ => ?_) (fun _ => ?_)) | refine DS.block ?_ | refine DS.skip ?_) | refine zat [] yE trivial ?_ | fail)
 ·rename_i q; rw [zdz, if_pos (by omega)]; rfl
 refine zcp [9, 10] yN (fun (i : Nat × Int) => [(3, I i.2), (11, I i.1)]) (fun (i : Nat × Int) => i.1 ≤ l.length ∧ zdz l = zdo (l.drop i.1) i.2) (fun (i : Nat × Int) => l.length - i.1) (0, 0) yS (by simp [zdz]; omega) (fun i B hI hB => ?_); try dsimp only at hI hB; simp only [zaw, zbg]
 repeat' (first | (with_reducible first | refine zad yU yU yE ?_ | refine zab ?_ | refine DS.seq ?_ | refine zaa ?_ | (refine zbe yE ?_; first | refine zgu (fun _ => ?_) (fun _ => ?_) | refine zeq (fun _ => ?_) (fun _ => ?_) | refine zcy ?_ | refine zdd ?_) | (refine zdv yU yE ?_; first | refine yeb ?_ | refine yhi (fun _ => ?_) (fun _ => ?_) | refine yep (fun _ => ?_) (fun _ => ?_) | refine GG.run ?_ | refine zkb ?_ | refine zuv ?_) | refine DS.blk ?_ | refine DS.block ?_ | refine DS.exit yU ?_ | refine DS.skip ?_) | (refine zgt (t := 5) yU yE yU (fun _ => yE) yE yU (by exact ⟨by with_unfolding_all rfl, by with_unfolding_all decide⟩) (fun _ => by simp only [go_sem, Nat.reduceEqDiff, ↓reduceIte]) ?_; simp only [go_sem]) | refine zav inferInstance (zfd _ _ _) yR yT ?_ | refine zat [] yE trivial ?_ | fail)
 all_goals try first | (clear hB; obtain ⟨_, r, dr1, rfl, dr3⟩ := zdh (l := l) (i := i.1) (by omega); rw [dr1] at hI; rw [hI.2]; simp [tupV, zdo, *]; done) | (clear hB; have de1 := zkv (l := l) (i := i.1) (by omega); rw [de1] at hI; rw [hI.2]; simp [tupV, zdo, *]; done)
 ·obtain ⟨_, r, dr1, rfl, dr3⟩ := zdh (l := l) (i := i.1) (by omega); rw [dr1] at hI
  exact DS.back (hB (i.1 + 1, l[i.1].id) _ _ (by simp; omega) (⟨by simp; omega, by rw [hI.2, dr3]; simp [zdo, *]⟩) yS yS (fun b o e => by first | exact e | (simp only [zae]; split <;> simp_all)))
 ·obtain ⟨_, r, dr1, rfl, dr3⟩ := zdh (l := l) (i := i.1) (by omega); rw [dr1] at hI
  exact DS.back (hB (i.1 + 1, l[i.1].id) _ _ (by simp; omega) (⟨by simp; omega, by rw [hI.2, dr3]; simp [zdo, *]⟩) yS yS (fun b o e => by first | exact e | (simp only [zae]; split <;> simp_all)))
theorem zmx (c : Club) (hs : c.Small) (a b : Int) : PC Try.prog 26 [c.val, I a, I b] (Bo (zfx c a b)) := by
 have h1 := hs.rounds
 by_cases ha : 0 ≤ a ∧ a ≤ (c.rounds.length : Int) - 1
 ·obtain ⟨i, rfl⟩ := Int.eq_ofNat_of_zero_le ha.1
  have hi : i < c.rounds.length := by omega
  have h2 := (hs.at hi).points
  rw [ziv hi]
  refine DC.of_run Try.func26 rfl Try.ntmps26 Try.results26 (by simp) (fun _ => ?_); simp only [zaf, zai, go_sem, Nat.zero_add, Nat.reduceAdd]
  repeat' (first | (with_reducible first | refine zad yU yU yE ?_ | refine zab ?_ | refine DS.seq ?_ | refine zaa ?_ | (refine zdv yU yE ?_; first | refine zuw (fun _ => ?_) (fun _ => ?_) | refine GG.run ?_ | refine zkb ?_)) | refine zav inferInstance (zfd _ _ _) yR yT ?_ | (refine zci (t := 3) yU yE yU ?_; simp only [zbh, zcg, zbf, zbv, zbc, zau, zbq, zay, zcd, zcf, zbr, zce, zbu, zbt]) | refine zat [] yE trivial ?_ | fail)
  ·rename_i q1 q2
   have : b.toNat < c.rounds[i].points.length := by omega
   simp [tupV, List.getD_eq_getElem?_getD, *]
  ·simp [tupV, *]
 ·rw [zuc ha]
  refine DC.of_run Try.func26 rfl Try.ntmps26 Try.results26 (by simp) (fun _ => ?_); simp only [zaf, zai, go_sem, Nat.zero_add, Nat.reduceAdd]
  repeat' (first | (with_reducible first | refine zad yU yU yE ?_ | refine zab ?_ | refine DS.seq ?_ | refine zaa ?_ | (refine zdv yU yE ?_; refine zkb ?_)) | refine zav inferInstance (zfd _ _ _) yR yT ?_ | (refine zci (t := 3) yU yE yU ?_; simp only [zbh, zcg, zbf, zbv, zbc, zau, zbq, zay, zcd, zcf, zbr, zce, zbu, zbt]) | refine zat [] yE trivial ?_ | fail)
  all_goals first | rfl | omega
theorem zru (c : Club) (l : List Int) (h1 : c.size ≤ 4) (h2 : 0 ≤ c.size) (h3 : 0 ≤ c.start ∧ c.start ≤ 1000000) : PC Try.prog 54 [c.val, ints l] (I (zht c l)) := by
 have h4 : 0 ≤ c.size * c.start := Int.mul_nonneg h2 h3.1
 have h5 : c.size * c.start ≤ 4 * 1000000 := Int.mul_le_mul h1 h3.2 h3.1 (by decide)
 rw [zht]
 refine DC.of_run Try.func54 rfl Try.ntmps54 Try.results54 (by simp) (fun _ => ?_); simp only [zaf, zai, go_sem, Nat.zero_add, Nat.reduceAdd]
 repeat' (first | (with_reducible first | refine zad yU yU yE ?_ | refine zab ?_ | refine DS.seq ?_ | refine zaa ?_) | refine zav inferInstance (zvg c l 1099511627776 (c.size * c.start) h1 (by decide) ⟨by omega, by omega⟩) yR yT ?_ | (refine zci (t := 2) yU yE yU ?_; simp only [zbh, zcg, zbf, zbv, zbc, zau, zbq, zay, zcd, zcf, zbr, zce, zbu, zbt]) | refine zat [] yE trivial ?_ | fail)
 rfl
theorem zvy (l : List Int) (n : Int) : PC Try.prog 41 [ints l, I n] (I (idxF (fun x => decide (x = n)) l 0)) := by
 refine DC.of_run Try.func41 rfl Try.ntmps41 Try.results41 (by simp) (fun _ => ?_); simp only [zaf, zai, go_sem, Nat.zero_add, Nat.reduceAdd]
 refine zhv (t := 0) yG (.inl rfl) (fun hb0 => ?_); simp only [List.length_map] at hb0
 repeat' (first | (with_reducible first | refine zad yU yU yE ?_ | refine zab ?_ | refine DS.seq ?_ | refine zaa ?_ | refine DS.block ?_) | fail)
 refine zcp [0, 1, 7] yN (fun (i : Nat) => [(8, I i)]) (fun (i : Nat) => i ≤ l.length ∧ idxF (fun x => decide (x = n)) l 0 = idxF (fun x => decide (x = n)) (l.drop i) i) (fun (i : Nat) => l.length - i) 0 yS (by simp) (fun i B hI hB => ?_); try dsimp only at hI hB; simp only [zaw, zbg]
 repeat' (first | (with_reducible first | refine zad yU yU yE ?_ | refine zab ?_ | refine DS.seq ?_ | refine zaa ?_ | (refine zbe yE ?_; refine zeq (fun _ => ?_) (fun _ => ?_)) | refine DS.blk ?_ | refine DS.block ?_ | refine DS.exit yU ?_ | refine DS.skip ?_) | refine zat [] yE trivial ?_ | fail)
 ·rename_i q1 q2
  rw [hI.2, zja (p := fun x => decide (x = n)) (l := l) (i := i) (by omega) (decide_eq_true q2.symm)]; rfl
 ·rename_i q1 q2
  exact DS.back (hB (i + 1) _ _ (by omega) (⟨by omega, by rw [hI.2, zhb (p := fun x => decide (x = n)) (l := l) (i := i) (by omega) (by simpa using fun h => q2 h.symm)]⟩) yS yS (fun b o e => by first | exact e | (simp only [zae]; split <;> simp_all)))
 ·rename_i q1
  rw [hI.2, zjb (p := fun x => decide (x = n)) (l := l) (i := i) (by omega)]; rfl
theorem zkt {α : Type} (p : α → Bool) (l : List α) : decide (0 ≤ idxF p l 0) = l.any p := by
 have key : ∀ (l : List α) (i : Nat), (0 ≤ idxF p l i) ↔ l.any p = true := by
  intro l
  induction l with
  | nil => intro i; simp [idxF]
  | cons x r ih =>
   intro i
   simp only [idxF, List.any_cons]
   by_cases h : p x = true
   ·simp only [h, if_true, Bool.true_or, iff_true]; omega
   ·rw [if_neg h, ih (i + 1)]; simp [h]
 cases h : l.any p with
 | true => exact decide_eq_true ((key l 0).2 h)
 | false => exact decide_eq_false (fun h' => by rw [(key l 0).1 h'] at h; cases h)
theorem zup (l : List Int) (n : Int) : PC Try.prog 53 [ints l, I n] (Bo (decide (n ∈ l))) := by
 refine DC.of_run Try.func53 rfl Try.ntmps53 Try.results53 (by simp) (fun _ => ?_); simp only [zaf, zai, go_sem, Nat.zero_add, Nat.reduceAdd]
 repeat' (first | (with_reducible first | refine zad yU yU yE ?_ | refine zab ?_ | refine DS.seq ?_ | refine zaa ?_) | refine zav inferInstance (zvy l n) yR yT ?_ | refine zat [] yE trivial ?_ | fail)
 rw [zes, zkt]
 simp [List.any_eq]
theorem zzb {c : Club} {r e : Int} (h : zif c r = e) (h2 : e ≠ 0) : zid c r = e := by rw [zid, if_pos (by rw [h]; exact h2), h]
theorem zza {c : Club} {r : Int} (h : zif c r = 0) : zid c r = zit c r := by rw [zid, if_neg (by rw [h]; decide)]
theorem yfa (c : Club) (hs : c.Small) (h1 : c.size ≤ 4) (h2 : 0 ≤ c.size) (h3 : 0 ≤ c.start ∧ c.start ≤ 1000000) (h4 : 0 ≤ c.window ∧ c.window ≤ 20) {i : Nat} (hi : i < c.rounds.length) (h5 : c.rounds.length ≤ 20) : PC Try.prog 38 [c.val, I i] (I (zid c i)) := by
 have q1 := hs.rounds
 have q2 := hs.at hi
 have q3 := q2.points
 have q4 := q2.tables
 have q5 := q2.rulings
 refine DC.of_run Try.func38 rfl Try.ntmps38 Try.results38 (by simp) (fun _ => ?_); simp only [zaf, zai, go_sem, Nat.zero_add, Nat.reduceAdd]
 repeat' (first | (with_reducible first | refine zad yU yU yE ?_ | refine zab ?_ | refine DS.seq ?_ | refine zaa ?_ | (refine zbe yE ?_; refine zgu (fun _ => ?_) (fun _ => ?_)) | refine DS.block ?_ | refine DS.skip ?_) | (refine zgt (t := 5) yU yE yU (fun _ => yE) yE yU (by exact ⟨by with_unfolding_all rfl, by with_unfolding_all decide⟩) (fun _ => by simp only [go_sem, Nat.reduceEqDiff, ↓reduceIte]) ?_; simp only [go_sem]) | (refine zci (t := 2) yU yE yU ?_; simp only [zbh, zcg, zbf, zbv, zbc, zau, zbq, zay, zcd, zcf, zbr, zce, zbu, zbt]) | refine zat [] yE trivial ?_ | fail)
 ·rename_i q
  rw [zzb (e := 3) (by rw [zif, c.round_at hi, if_pos (by omega)]) (by decide)]; rfl
 rename_i q
 have hps : zif c i = zdx c c.rounds[i].points := by rw [zif, c.round_at hi, if_neg (by omega)]
 have hrs : c.rounds[i].rulings.length ≤ 20 → zit c i = zdt c i c.rounds[i].rulings := fun h => by rw [zit, c.round_at hi, if_neg (by omega)]
 refine zcp [1, 2, 5, 25, 26] yN (fun (k : Nat) => [(27, I k)]) (fun (k : Nat) => k ≤ c.rounds[i].points.length ∧ zdx c c.rounds[i].points = zdx c (c.rounds[i].points.drop k)) (fun (k : Nat) => c.rounds[i].points.length - k) 0 yS ⟨Nat.zero_le _, rfl⟩ (fun k B hI hB => ?_); try dsimp only at hI hB; simp only [zaw, zbg]
 repeat' (first | (with_reducible first | refine zad yU yU yE ?_ | refine zab ?_ | refine DS.seq ?_ | refine zaa ?_ | (refine zbe yE ?_; first | refine zgu (fun _ => ?_) (fun _ => ?_) | refine zeq (fun _ => ?_) (fun _ => ?_) | refine zdd ?_) | (refine zdv yU yE ?_; first | refine zuw (fun _ => ?_) (fun _ => ?_) | refine GG.run ?_ | refine zkb ?_) | refine DS.blk ?_ | refine DS.block ?_ | refine DS.exit yU ?_ | refine DS.skip ?_) | refine zav inferInstance (zru c _ h1 h2 h3) yR yT ?_ | refine zat [] yE trivial ?_ | fail)
 ·rename_i e1 e2 e3
  obtain ⟨_, r, dr1, rfl, dr3⟩ := zdh (l := c.rounds[i].points) (i := k) (by omega); rw [dr1] at hI
  rw [zzb (hps.trans (hI.2.trans (by rw [zdx, if_neg (by omega), if_pos e3]))) e3]; rfl
 ·rename_i e1 e2 e3
  obtain ⟨_, r, dr1, rfl, dr3⟩ := zdh (l := c.rounds[i].points) (i := k) (by omega); rw [dr1] at hI
  exact DS.back (hB (k + 1) _ _ (by omega) (⟨by omega, by rw [hI.2, dr3, zdx, if_neg (by omega), if_neg (by omega)]⟩) yS yS (fun b o e => by first | exact e | (simp only [zae]; split <;> simp_all)))
 ·rename_i e1 e2
  obtain ⟨_, r, dr1, rfl, dr3⟩ := zdh (l := c.rounds[i].points) (i := k) (by omega); rw [dr1] at hI
  exact DS.back (hB (k + 1) _ _ (by omega) (⟨by omega, by rw [hI.2, dr3, zdx, if_pos (by omega)]⟩) yS yS (fun b o e => by first | exact e | (simp only [zae]; split <;> simp_all)))
 ·rename_i e1 e2
  have de1 := zkv (l := c.rounds[i].points) (i := k) (by omega); rw [de1] at hI
  rw [zza (hps.trans hI.2), zit, c.round_at hi, if_pos (by omega)]; rfl
 ·rename_i e1 e2
  have de1 := zkv (l := c.rounds[i].points) (i := k) (by omega); rw [de1] at hI
  have hr := (zza (hps.trans hI.2)).trans (hrs (by omega))
  clear hps hrs hI hB
  rw [hr]
  clear hr
  refine zcp [1, 2, 48, 49] yN (fun (k : Nat) => [(50, I k)]) (fun (k : Nat) => k ≤ c.rounds[i].rulings.length ∧ zdt c i c.rounds[i].rulings = zdt c i (c.rounds[i].rulings.drop k)) (fun (k : Nat) => c.rounds[i].rulings.length - k) 0 yS ⟨Nat.zero_le _, rfl⟩ (fun k B hI hB => ?_); try dsimp only at hI hB; simp only [zaw, zbg]
  repeat' (first | (with_reducible first | refine zad yU yU yE ?_ | refine zab ?_ | refine DS.seq ?_ | refine zaa ?_ | (refine zbe yE ?_; first | refine zgu (fun _ => ?_) (fun _ => ?_) | refine zeq (fun _ => ?_) (fun _ => ?_) | refine yek (fun _ => ?_) (fun _ => ?_)) | refine DS.blk ?_ | refine DS.block ?_ | refine DS.exit yU ?_ | refine DS.skip ?_) | (refine zgt (t := 10) yU yE yU (fun _ => yE) yE yU (by exact ⟨by with_unfolding_all rfl, by with_unfolding_all decide⟩) (fun _ => by simp only [go_sem, Nat.reduceEqDiff, ↓reduceIte]) ?_; simp only [go_sem]) | refine zav inferInstance (zfd _ _ _) yR yT ?_ | refine zav inferInstance (zru c _ h1 h2 h3) yR yT ?_ | refine zav inferInstance (zmx c hs _ _) yR yT ?_ | refine zat [] yE trivial ?_ | fail)
  ·rename_i e1 e2 e3
   obtain ⟨_, r, dr1, rfl, dr3⟩ := zdh (l := c.rounds[i].rulings) (i := k) (by omega); rw [dr1] at hI
   rw [hI.2, zdt, if_pos (by omega)]; rfl
  ·rename_i e1 e2 e3 e4
   obtain ⟨_, r, dr1, rfl, dr3⟩ := zdh (l := c.rounds[i].rulings) (i := k) (by omega); rw [dr1] at hI
   rw [hI.2, zdt, if_neg (by omega), if_pos e4]; rfl
  ·rename_i e1 e2 e3 e4 e5
   obtain ⟨_, r, dr1, rfl, dr3⟩ := zdh (l := c.rounds[i].rulings) (i := k) (by omega); rw [dr1] at hI
   rw [hI.2, zdt, if_neg (by omega), if_neg (by simp [e4]), if_pos e5]; rfl
  ·rename_i e1 e2 e3 e4 e5
   obtain ⟨_, r, dr1, rfl, dr3⟩ := zdh (l := c.rounds[i].rulings) (i := k) (by omega); rw [dr1] at hI
   exact DS.back (hB (k + 1) _ _ (by omega) (⟨by omega, by rw [hI.2, dr3, zdt, if_neg (by omega), if_neg (by simp [e4]), if_neg (by omega)]⟩) yS yS (fun b o e => by first | exact e | (simp only [zae]; split <;> simp_all)))
  ·rename_i e1 e2
   have de1 := zkv (l := c.rounds[i].rulings) (i := k) (by omega); rw [de1] at hI
   rw [hI.2]; rfl
theorem zqo (S : Sto) (l : List Int) {g : FuncId} {fs cs : List V} {fn : Func} (p : Int → Bool) (hf : FnOk Try.prog g fn) (h : ∀ x, RC Try.prog g (fs ++ [I x] ++ cs) S (Bo (p x))) :
  RC Try.prog 70 [ints l, .fn g fs cs] S (I (idxF p l 0)) := by
 refine DC.of_run Try.func70 rfl Try.ntmps70 Try.results70 (by simp) (fun _ => ?_); simp only [zaf, zai, go_sem, Nat.zero_add, Nat.reduceAdd]
 refine zhv (t := 0) yG (.inl rfl) (fun hb0 => ?_); simp only [List.length_map] at hb0
 repeat' (first | (with_reducible first | refine zad yU yU yE ?_ | refine zab ?_ | refine DS.seq ?_ | refine zaa ?_ | refine DS.block ?_) | fail)
 refine zcp [0, 1, 7] yN (fun (i : Nat) => [(8, I i)]) (fun (i : Nat) => i ≤ l.length ∧ idxF p l 0 = idxF p (l.drop i) i) (fun (i : Nat) => l.length - i) 0 yS ⟨Nat.zero_le _, rfl⟩ (fun i B hI hB => ?_); try dsimp only at hI hB; simp only [zaw, zbg]
 repeat' (first | (with_reducible first | refine zad yU yU yE ?_ | refine zab ?_ | refine DS.seq ?_ | refine zaa ?_ | (refine zbe yE ?_; refine zeq (fun _ => ?_) (fun _ => ?_)) | refine DS.block ?_ | refine DS.exit yU ?_ | refine DS.skip ?_) | refine zcl yE ⟨?_, rfl⟩ | fail)
 ·refine ybd hf (by simp (disch := omega) only [go_sem, dopV, Option.map_some, Option.map_none, Option.bind_some, Option.bind_none, ↓reduceIte, Nat.reduceEqDiff, Nat.reduceLT, Nat.reduceLeDiff, Nat.reduceAdd, Nat.reduceMul, Nat.reduceSub, Nat.zero_add, Nat.add_zero, Nat.zero_le, Nat.zero_mul, Nat.mul_one, Nat.one_mul, Int.natCast_zero, Int.toNat_zero, Int.reduceToNat, Int.reduceLT, Int.reduceLE, Int.reduceEq, decide_true, decide_false, true_and, and_true, Bool.and_self, Bool.and_true, Bool.true_and, Bool.not_true, Bool.not_false, IntWalk.toNatUp, IntWalk.iteOmega, IntWalk.i64_in, Option.isSome_some, not_true_eq_false, not_false_eq_true, Option.getD_some, Option.getD_none, Int.toNat_natCast, List.length_map, List.getElem?_map, List.getElem?_eq_getElem, V.flat, V.one, List.all_cons, List.all_nil]) (h l[i]) yR yH ?_
  repeat' (first | (with_reducible first | refine zad yU yU yE ?_ | refine zab ?_ | refine DS.seq ?_ | refine zaa ?_ | (refine zbe yE ?_; refine ygg (fun _ => ?_) (fun _ => ?_)) | refine DS.blk ?_ | refine DS.skip ?_) | refine zcl yE ⟨?_, rfl⟩ | fail)
  ·rename_i h1 h2
   rw [hI.2, zja (p := p) (l := l) (i := i) (by omega) h2]; rfl
  ·rename_i h1 h2
   exact DS.back (hB (i + 1) _ _ (by omega) (⟨by omega, by rw [hI.2, zhb (by omega) h2]⟩) yS yS (fun b o e => by first | exact e | (simp only [zae]; split <;> simp_all)))
 ·rw [hI.2, zjb (p := p) (l := l) (i := i) (by omega)]; rfl
theorem znu (S : Sto) (l : List Int) {g : FuncId} {fs cs : List V} {fn : Func} (p : Int → Bool) (hf : FnOk Try.prog g fn) (h : ∀ x, RC Try.prog g (fs ++ [I x] ++ cs) S (Bo (p x))) :
  RC Try.prog 51 [ints l, .fn g fs cs] S (Bo (l.any p)) := by
 refine DC.of_run Try.func51 rfl Try.ntmps51 Try.results51 (by simp) (fun _ => ?_); simp only [zaf, zai, go_sem, Nat.zero_add, Nat.reduceAdd]
 repeat' (first | (with_reducible first | refine zad yU yU yE ?_ | refine zab ?_ | refine DS.seq ?_ | refine zaa ?_) | refine zjs inferInstance (zqo S l p hf h) yR yT ?_ | refine zcl yE ⟨?_, rfl⟩ | fail)
 rw [zes, zkt]
abbrev GR.Int (g : GR) (l : List Int) : Prop := g.l = l.map cI
theorem zlj : ∀ l : List Int, (l.map cI).flatten = l.map fun x => I x
 | [] => rfl
 | x :: r => by rw [List.map_cons, List.flatten_cons, zlj r]; rfl
theorem yX0 {p : Prop} (h : p := by (simp (disch := omega) only [go_sem, dopV, Option.map_some, Option.map_none, Option.bind_some, Option.bind_none, ↓reduceIte, Nat.reduceEqDiff, Nat.reduceLT, Nat.reduceLeDiff, Nat.reduceAdd, Nat.reduceMul, Nat.reduceSub, Nat.zero_add, Nat.add_zero, Nat.zero_le, Nat.zero_mul, Nat.mul_one, Nat.one_mul, Int.natCast_zero, Int.toNat_zero, Int.reduceToNat, Int.reduceLT, Int.reduceLE, Int.reduceEq, decide_true, decide_false, true_and, and_true, Bool.and_self, Bool.and_true, Bool.true_and, Bool.not_true, Bool.not_false, IntWalk.toNatUp, IntWalk.iteOmega, IntWalk.i64_in, Option.isSome_some, not_true_eq_false, not_false_eq_true, Option.getD_some, Option.getD_none, Int.toNat_natCast, List.length_map, List.getElem?_map, List.getElem?_eq_getElem, V.flat, V.one, List.all_cons, List.all_nil, *, zxo]; exact rfl)) : p := h
theorem ycr (S : Sto) (g : GR) (l : List Int) (n : Int) (ok : g.Ok 3 1 S) (hg : g.l = l.map cI) : RC Try.prog 41 [g.cell.peek, I n] S (I (idxF (fun x => decide (x = n)) l 0)) := by
 obtain ⟨gl, blk⟩ := g
 dsimp only at hg
 subst hg
 cases blk with
 | none =>
  simp only [GR.Ok, List.map_eq_nil_iff] at ok
  subst ok
  simp only [GR.cell, zqf]
  refine DC.of_run Try.func41 rfl Try.ntmps41 Try.results41 (by simp) (fun _ => ?_); simp only [zaf, zai, go_sem, Nat.zero_add, Nat.reduceAdd]
  repeat' (first | (with_reducible first | refine zad yU yU yE ?_ | refine zab ?_ | refine DS.seq ?_ | refine zaa ?_ | refine DS.block ?_) | fail)
  refine zcp [0, 1, 7] yN (fun (i : Nat) => [(8, I 0)]) (fun (i : Nat) => True) (fun (i : Nat) => i) 0 yS trivial (fun i B hI hB => ?_); try dsimp only at hI hB; simp only [zaw, zbg]
  repeat' (first | (with_reducible first | refine zad yU yU yE ?_ | refine zab ?_ | refine DS.seq ?_ | refine zaa ?_ | (refine zbe yE ?_; refine zdd ?_) | refine DS.exit yU ?_) | refine zcl yE ⟨?_, rfl⟩ | fail)
  rfl
 | some x =>
  obtain ⟨b, cap, j⟩ := x
  have k1 := ok.look
  have k2 := ok.le
  have k3 := ok.cap
  have hfl := zlj l
  rw [hfl] at k1
  clear hfl ok
  simp only [List.length_map] at k2
  simp only [maxLen] at k3
  simp only [GR.cell, ziw, List.length_map]
  refine DC.of_run Try.func41 rfl Try.ntmps41 Try.results41 (by simp) (fun _ => ?_); simp only [zaf, zai, go_sem, Nat.zero_add, Nat.reduceAdd]
  repeat' (first | (with_reducible first | refine zad yU yU yE ?_ | refine zab ?_ | refine DS.seq ?_ | refine zaa ?_ | refine DS.block ?_) | fail)
  refine zcp [0, 1, 7] yN (fun (i : Nat) => [(8, I i)]) (fun (i : Nat) => i ≤ l.length ∧ idxF (fun x => decide (x = n)) l 0 = idxF (fun x => decide (x = n)) (l.drop i) i) (fun (i : Nat) => l.length - i) 0 yS ⟨Nat.zero_le _, rfl⟩ (fun i B hI hB => ?_); try dsimp only at hI hB; simp only [zaw, zbg]
  repeat' (first | (with_reducible first | refine zad yU yU yX0 ?_ | refine zab ?_ | refine DS.seq ?_ | refine zaa ?_ | (refine zbe yX0 ?_; refine zeq (fun _ => ?_) (fun _ => ?_)) | refine DS.blk ?_ | refine DS.block ?_ | refine DS.exit yU ?_ | refine DS.skip ?_) | refine zcl yX0 ⟨?_, rfl⟩ | fail)
  ·rename_i q1 q2
   rw [hI.2, zja (p := fun x => decide (x = n)) (l := l) (i := i) (by omega) (decide_eq_true q2.symm)]; rfl
  ·rename_i q1 q2
   exact DS.back (hB (i + 1) _ _ (by omega) (⟨by omega, by rw [hI.2, zhb (p := fun x => decide (x = n)) (l := l) (i := i) (by omega) (by simpa using fun h => q2 h.symm)]⟩) yS yS (fun b o e => by first | exact e | (simp only [zae]; split <;> simp_all)))
  ·rename_i q1
   rw [hI.2, zjb (p := fun x => decide (x = n)) (l := l) (i := i) (by omega)]; rfl
theorem zuo (S : Sto) (g : GR) (l : List Int) (n : Int) (ok : g.Ok 3 1 S) (hg : g.l = l.map cI) : RC Try.prog 53 [g.cell.peek, I n] S (Bo (decide (n ∈ l))) := by
 have h := ycr S g l n ok hg
 clear ok hg
 obtain ⟨gl, blk⟩ := g
 cases blk with
 | none =>
  simp only [GR.cell, zqf] at h ⊢
  refine DC.of_run Try.func53 rfl Try.ntmps53 Try.results53 (by simp) (fun _ => ?_); simp only [zaf, zai, go_sem, Nat.zero_add, Nat.reduceAdd]
  repeat' (first | (with_reducible first | refine zad yU yU yE ?_ | refine zab ?_ | refine DS.seq ?_ | refine zaa ?_) | refine zjs inferInstance (h) yR yT ?_ | refine zcl yE ⟨?_, rfl⟩ | fail)
  rw [zes, zkt]
  simp [List.any_eq]
 | some x =>
  obtain ⟨b, cap, j⟩ := x
  simp only [GR.cell, ziw] at h ⊢
  refine DC.of_run Try.func53 rfl Try.ntmps53 Try.results53 (by simp) (fun _ => ?_); simp only [zaf, zai, go_sem, Nat.zero_add, Nat.reduceAdd]
  repeat' (first | (with_reducible first | refine zad yU yU yE ?_ | refine zab ?_ | refine DS.seq ?_ | refine zaa ?_) | refine zjs inferInstance (h) yR yT ?_ | refine zcl yE ⟨?_, rfl⟩ | fail)
  rw [zes, zkt]
  simp [List.any_eq]
end Go.XL
namespace Go.XL
open Go.Proofs
set_option maxRecDepth 100000
set_option maxHeartbeats 8000000
theorem yhb (l : List Int) : ∀ c ∈ l.map cI, c ≠ [] := fun c hc => by
 obtain ⟨x, _, rfl⟩ := List.mem_map.1 hc; simp [cI]
theorem yX1 {p : Prop} (h : p := by first | exact rfl | (simp (disch := omega) only [go_sem, dopV, Option.map_some, Option.map_none, Option.bind_some, Option.bind_none, ↓reduceIte, Nat.reduceEqDiff, Nat.reduceLT, Nat.reduceLeDiff, Nat.reduceAdd, Nat.reduceMul, Nat.reduceSub, Nat.zero_add, Nat.add_zero, Nat.zero_le, Nat.zero_mul, Nat.mul_one, Nat.one_mul, Int.natCast_zero, Int.toNat_zero, Int.reduceToNat, Int.reduceLT, Int.reduceLE, Int.reduceEq, decide_true, decide_false, true_and, and_true, Bool.and_self, Bool.and_true, Bool.true_and, Bool.not_true, Bool.not_false, IntWalk.toNatUp, IntWalk.iteOmega, IntWalk.i64_in, Option.isSome_some, not_true_eq_false, not_false_eq_true, Option.getD_some, Option.getD_none, Int.toNat_natCast, List.length_map, List.getElem?_map, List.getElem?_eq_getElem, V.flat, V.one, List.all_cons, List.all_nil, *]; exact rfl)) : p := h
theorem zsz (l : List Int) (hl : l.length ≤ 2147483647) : PC Try.prog 46 [ints l] (.own false 3 1 (l.map cI)) := by
 refine DC.of_run Try.func46 rfl Try.ntmps46 Try.results46 (by simp) (fun _ => ?_); simp only [zaf, zai, go_sem, Nat.zero_add, Nat.reduceAdd]
 repeat' (first | (with_reducible first | (refine zfl (t := 2) yU yO yE ?_) | refine zad yU yU yE ?_ | refine zab ?_ | refine DS.seq ?_ | refine zaa ?_) | fail)
 refine zws yR yU yG yR (yhb l) (fun b hb => ?_)
 cases b with
 | true =>
  have hb := hb rfl
  simp only [List.map_eq_nil_iff] at hb
  subst hb
  repeat' (first | (with_reducible first | (refine zfl (t := 2) yU yO yE ?_) | refine zab ?_ | refine DS.seq ?_ | refine zaa ?_ | (refine zbe yE ?_; refine zcy ?_)) | refine zat [] yE trivial ?_ | fail)
  rfl
 | false =>
  clear hb
  repeat' (first | (with_reducible refine zgj (t := 2) yU yO yE ?_; simp only [zap, zag, zah, Nat.reduceEqDiff, ↓reduceIte, zal, zam, zax, zak, zaj, zaq, zan]) | (with_reducible first | refine zad yU yU yE ?_ | refine zab ?_ | refine DS.seq ?_ | refine zaa ?_ | (refine zbe yE ?_; refine zdd ?_) | refine DS.skip ?_) | (refine zdn yU yE yE ?_; simp only [go_sem, Nat.zero_add, Nat.reduceAdd]) | (refine DS.append (mm := false) yU yE yE yU (by decide) yE (by first | exact .inl rfl | exact .inr ⟨rfl, rfl⟩) yE yX1 (by first | exact zcs zgo _ | exact zcs zoe _ | exact zcs Member.len _ | exact zcs Sitting.len _ | exact zcs Ruling.len _ | (simp only [List.mem_cons, List.not_mem_nil, or_false, forall_eq]; rfl) | simp) ⟨by (try simp only [List.length_map, List.length_cons, List.length_nil, List.length_append, List.length_take, List.length_drop]); omega, by decide⟩ ?_; simp only [zap, zag, zah, Nat.reduceEqDiff, ↓reduceIte, zal, zam, zax, zak, zaj, zaq, zan]) | refine zat [] yE trivial ?_ | fail)
  rfl
theorem yal (l : List Int) (hl : l.length ≤ 2147483647) (hl0 : l ≠ []) : DC Try.prog 46 [ints l] [] (fun u S' => ∃ g : GR, u = g.cell ∧ g.Ok 3 1 S' ∧ g.l = l.map cI) := by
 refine DC.of_run Try.func46 rfl Try.ntmps46 Try.results46 (by simp) (fun _ => ?_); simp only [zaf, zai, go_sem, Nat.zero_add, Nat.reduceAdd]
 repeat' (first | (with_reducible first | refine zad yU yU yE ?_ | refine zab ?_ | refine DS.seq ?_ | refine zaa ?_) | fail)
 refine zws yR yU yG yR (yhb l) (fun b hb => ?_)
 cases b with
 | true =>
  have hb := hb rfl
  simp only [List.map_eq_nil_iff] at hb
  exact absurd hb hl0
 | false =>
  clear hb
  repeat' (first | (with_reducible first | refine zab ?_ | refine DS.seq ?_ | refine zaa ?_ | (refine zbe yE ?_; refine zdd ?_) | refine DS.skip ?_) | fail)
  refine zrf yR yG yG (fun b hb => ?_)
  repeat' (first | with_reducible refine zad yU yU yE ?_ | fail)
  have G : GR.Ok 3 1 [(b, .cells [] 3)] ⟨[], some (b, 0, [])⟩ := ⟨by simp [zac], rfl, Nat.le_refl _, Nat.zero_le _, by simp, by simp, by simp⟩
  have hlp : 0 < l.length := List.length_pos_iff.2 hl0
  refine zcu rfl rfl yR (zld (g := ⟨[], some (b, 0, [])⟩) (ml := l.map cI) rfl yH yH yR yR (by decide) yH G yH yH (by rw [List.length_map]; omega) (by intro x hx; obtain ⟨y, -, rfl⟩ := List.mem_map.1 hx; rfl) ⟨by simp only [List.length_map, List.length_nil]; omega, by decide⟩) (fun u2 E' S4 hu2 => ?_)
  obtain ⟨rfl, b', cap', junk', rfl, m1, m2, m3⟩ := hu2
  simp only [GR.cell_some, zca]
  repeat' (first | (with_reducible first | refine zad yU yU yE ?_ | refine zab ?_) | fail)
  refine zcl yG ⟨⟨l.map cI, some (b', cap', junk')⟩, by simp [GR.cell, tupV], ?_, rfl⟩
  have hml : [] ++ (l.map cI).map (·.map V.copy) = l.map cI := by rw [List.nil_append, List.map_map]; rfl
  rw [hml] at m1
  exact m1
theorem zqp (S : Sto) (l : List Int) {b cap : Nat} {j : List V} {T : TypeId} (hS : zac S b = some (.cells ((l.map fun x => I x) ++ j) T)) (hc : l.length ≤ cap ∧ cap ≤ maxLen) {g : FuncId} {fs cs : List V} {fn : Func} (p : Int → Bool) (hf : FnOk Try.prog g fn) (h : ∀ x ∈ l, PC Try.prog g (fs ++ [I x] ++ cs) (Bo (p x))) :
  RC Try.prog 70 [.v (.slice (some ⟨b, 0, none⟩) l.length cap), .fn g fs cs] S (I (idxF p l 0)) := by
 have k3 := hc.2
 have k2 := hc.1
 simp only [maxLen] at k3
 clear hc
 refine DC.of_run Try.func70 rfl Try.ntmps70 Try.results70 (by simp) (fun _ => ?_); simp only [zaf, zai, go_sem, Nat.zero_add, Nat.reduceAdd]
 repeat' (first | (with_reducible first | refine zad yU yU yE ?_ | refine zab ?_ | refine DS.seq ?_ | refine zaa ?_ | refine DS.block ?_) | fail)
 refine zcp [0, 1, 7] yN (fun (i : Nat) => [(8, I i)]) (fun (i : Nat) => i ≤ l.length ∧ idxF p l 0 = idxF p (l.drop i) i) (fun (i : Nat) => l.length - i) 0 yS ⟨Nat.zero_le _, rfl⟩ (fun i B hI hB => ?_); try dsimp only at hI hB; simp only [zaw, zbg]
 repeat' (first | (with_reducible first | refine zad yU yU yX0 ?_ | refine zab ?_ | refine DS.seq ?_ | refine zaa ?_ | (refine zbe yX0 ?_; refine zeq (fun _ => ?_) (fun _ => ?_)) | refine DS.block ?_ | refine DS.exit yU ?_ | refine DS.skip ?_) | refine zcl yX0 ⟨?_, rfl⟩ | fail)
 ·refine zux hf (by simp (disch := omega) only [go_sem, dopV, Option.map_some, Option.map_none, Option.bind_some, Option.bind_none, ↓reduceIte, Nat.reduceEqDiff, Nat.reduceLT, Nat.reduceLeDiff, Nat.reduceAdd, Nat.reduceMul, Nat.reduceSub, Nat.zero_add, Nat.add_zero, Nat.zero_le, Nat.zero_mul, Nat.mul_one, Nat.one_mul, Int.natCast_zero, Int.toNat_zero, Int.reduceToNat, Int.reduceLT, Int.reduceLE, Int.reduceEq, decide_true, decide_false, true_and, and_true, Bool.and_self, Bool.and_true, Bool.true_and, Bool.not_true, Bool.not_false, IntWalk.toNatUp, IntWalk.iteOmega, IntWalk.i64_in, Option.isSome_some, not_true_eq_false, not_false_eq_true, Option.getD_some, Option.getD_none, Int.toNat_natCast, List.length_map, List.getElem?_map, List.getElem?_eq_getElem, V.flat, V.one, List.all_cons, List.all_nil]) (h l[i] (List.getElem_mem _)) yR yH ?_
  repeat' (first | (with_reducible first | refine zad yU yU yE ?_ | refine zab ?_ | refine DS.seq ?_ | refine zaa ?_ | (refine zbe yE ?_; refine ygg (fun _ => ?_) (fun _ => ?_)) | refine DS.blk ?_ | refine DS.skip ?_) | refine zcl yE ⟨?_, rfl⟩ | fail)
  ·rename_i h1 h2
   rw [hI.2, zja (p := p) (l := l) (i := i) (by omega) h2]; rfl
  ·rename_i h1 h2
   exact DS.back (hB (i + 1) _ _ (by omega) (⟨by omega, by rw [hI.2, zhb (by omega) h2]⟩) yS yS (fun b o e => by first | exact e | (simp only [zae]; split <;> simp_all)))
 ·rw [hI.2, zjb (p := p) (l := l) (i := i) (by omega)]; rfl
theorem zwa {p : Int → Bool} : ∀ (l : List Int) (s : Nat), (idxF p l s = -1 ∧ l.filter (fun x => !p x) = l) ∨ ∃ i : Nat, idxF p l s = (s + i : Nat) ∧ i < l.length ∧ l.take i = (l.take (i + 1)).filter (fun x => !p x)
 | [], s => .inl ⟨rfl, rfl⟩
 | x :: r, s => by
  simp only [idxF]
  by_cases hx : p x = true
  ·rw [if_pos hx]
   exact .inr ⟨0, by simp, by simp, by simp [hx]⟩
  ·rw [if_neg hx]
   rcases zwa r (s + 1) with ⟨h1, h2⟩ | ⟨i, h1, h2, h3⟩
   ·exact .inl ⟨h1, by simp [hx, h2]⟩
   ·refine .inr ⟨i + 1, by rw [h1]; congr 1; omega, by simp; omega, ?_⟩
    rw [List.take_succ_cons, List.take_succ_cons, List.filter_cons, if_pos (by simpa using hx), ← h3]
structure DelI (p : Int → Bool) (l m : List Int) (i j : Nat) : Prop where
 ij : i < j
 jl : j ≤ l.length
 len : m.length = l.length
 keep : m.take i = (l.take j).filter (fun x => !p x)
 rest : m.drop j = l.drop j
theorem zoc (l : List Int) (k : Nat) (r : List V) (hk : k ≤ l.length) : chunk 1 k ((l.map fun x => I x) ++ r) = (l.take k).map cI := by
 induction k generalizing l with
 | zero => simp [chunk]
 | succ k ih =>
  cases l with
  | nil => simp at hk
  | cons x l =>
   simp only [List.length_cons] at hk
   simp only [chunk, List.map_cons, List.cons_append, List.take_succ_cons, List.take_zero, List.drop_succ_cons, List.drop_zero, ih l (by omega)]
   rfl
theorem zqs (l : List Int) (gr : GR) (S : Sto) (ok : gr.Ok 3 1 S) (hl0 : l ≠ []) (hg : gr.l = l.map cI) {g : FuncId} {fs cs : List V} {fn : Func} (p : Int → Bool) (hf : FnOk Try.prog g fn) (h : ∀ x ∈ l, PC Try.prog g (fs ++ [I x] ++ cs) (Bo (p x))) :
  DC Try.prog 68 [gr.cell.peek, .fn g fs cs] S (fun u S' => u = ints (l.filter fun x => !p x)) := by
 obtain ⟨gl, blk⟩ := gr
 dsimp only at hg
 subst hg
 cases blk with
 | none =>
  simp only [GR.Ok, List.map_eq_nil_iff] at ok
  exact absurd ok hl0
 | some x =>
  obtain ⟨b, cap, j⟩ := x
  have k1 := ok.look
  have k2 := ok.le
  have k3 := ok.cap
  have k4 := ok.len
  have hfl := zlj l
  rw [hfl] at k1
  clear hfl ok
  simp only [List.length_map, Nat.mul_one] at k2 k4
  simp only [GR.cell, ziw, List.length_map]
  have hix := zqp S l k1 ⟨k2, k3⟩ p hf h
  simp only [maxLen] at k3
  have hpre := zwa (p := p) l 0
  rcases hpre with ⟨e1, e2⟩ | ⟨i0, e1, e2, e3⟩
  ·rw [e1] at hix
   rw [e2]
   clear e1 e2
   refine DC.of_run Try.func68 rfl Try.ntmps68 Try.results68 (by simp) (fun _ => ?_); simp only [zaf, zai, go_sem, Nat.zero_add, Nat.reduceAdd]
   repeat' (first | (with_reducible first | refine zad yU yU yE ?_ | refine zab ?_ | refine DS.seq ?_ | refine zaa ?_ | (refine zbe yE ?_; refine zcy ?_)) | refine zjs inferInstance (hix) yR yT ?_ | fail)
   refine zim (t := 4) (sz := 1) yR k1 (by simp) ⟨k2, by simp only [maxLen]; exact k3⟩ ?_
   refine zat [] yG trivial ?_
   rw [zes, List.map_append, List.map_map, show (V.copy ∘ fun x => I x) = (fun x => I x) from rfl, zoc l _ _ (Nat.le_refl _), List.take_length]
  ·rw [Nat.zero_add] at e1
   rw [e1] at hix
   have D0 : DelI p l l i0 (i0 + 1) := ⟨by omega, by omega, rfl, e3, rfl⟩
   clear e1 e3
   refine DC.of_run Try.func68 rfl Try.ntmps68 Try.results68 (by simp) (fun _ => ?_); simp only [zaf, zai, go_sem, Nat.zero_add, Nat.reduceAdd]
   repeat' (first | (with_reducible first | refine zad yU yU yE ?_ | refine zab ?_ | refine DS.seq ?_ | refine zaa ?_ | (refine zbe yE ?_; refine zeq (fun _ => ?_) (fun _ => ?_)) | refine DS.block ?_ | refine DS.skip ?_) | refine zjs inferInstance (hix) yR yT ?_ | fail)
   all_goals first | (exfalso; omega) | skip
   rename_i e4
   clear hix
   refine zda [0, 1] yN (fun (x : Nat × Nat × List Int × Sto) => [(5, I x.1), (6, I x.2.1)]) (fun (x : Nat × Nat × List Int × Sto) => x.2.2.2) (fun (x : Nat × Nat × List Int × Sto) => DelI p l x.2.2.1 x.1 x.2.1 ∧ zac x.2.2.2 b = some (.cells ((x.2.2.1.map fun x => I x) ++ j) 3)) (fun (x : Nat × Nat × List Int × Sto) => l.length - x.2.1) (i0, i0 + 1, l, S) yS (fun b o e => by exact e) ⟨D0, k1⟩ (fun x B hI hB => ?_); try dsimp only at hI hB; simp only [zaw, zbg]
   obtain ⟨a, c, m, S1⟩ := x
   dsimp only at hI hB
   obtain ⟨D, g2⟩ := hI
   have d1 := D.ij
   have d2 := D.jl
   have d3 := D.len
   have hcc : c < l.length → ∃ h1 : c < m.length, ∃ h2 : c < l.length, m[c] = l[c] := fun hc => by
    have h1 : c < m.length := by omega
    refine ⟨h1, hc, ?_⟩
    have := D.rest
    rw [List.drop_eq_getElem_cons h1, List.drop_eq_getElem_cons hc] at this
    exact (List.cons.inj this).1
   repeat' (first | (with_reducible first | refine zad yU yU yX0 ?_ | refine zab ?_ | refine DS.seq ?_ | refine zaa ?_ | (refine zbe yX0 ?_; refine zeq (fun _ => ?_) (fun _ => ?_)) | refine DS.block ?_ | refine DS.exit yU ?_ | refine DS.skip ?_) | fail)
   ·rename_i e5
    obtain ⟨h1, h2, h3⟩ := hcc (by omega)
    have hpx := h l[c] (List.getElem_mem h2)
    rw [← h3] at hpx
    refine zux hf (by simp (disch := omega) only [go_sem, dopV, Option.map_some, Option.map_none, Option.bind_some, Option.bind_none, ↓reduceIte, Nat.reduceEqDiff, Nat.reduceLT, Nat.reduceLeDiff, Nat.reduceAdd, Nat.reduceMul, Nat.reduceSub, Nat.zero_add, Nat.add_zero, Nat.zero_le, Nat.zero_mul, Nat.mul_one, Nat.one_mul, Int.natCast_zero, Int.toNat_zero, Int.reduceToNat, Int.reduceLT, Int.reduceLE, Int.reduceEq, decide_true, decide_false, true_and, and_true, Bool.and_self, Bool.and_true, Bool.true_and, Bool.not_true, Bool.not_false, IntWalk.toNatUp, IntWalk.iteOmega, IntWalk.i64_in, Option.isSome_some, not_true_eq_false, not_false_eq_true, Option.getD_some, Option.getD_none, Int.toNat_natCast, List.length_map, List.getElem?_map, List.getElem?_eq_getElem, V.flat, V.one, List.all_cons, List.all_nil]) hpx yR yH ?_
    repeat' (first | (with_reducible first | refine zad yU yU yE ?_ | refine zab ?_ | refine DS.seq ?_ | refine zaa ?_ | (refine zbe yE ?_; refine yek (fun _ => ?_) (fun _ => ?_)) | refine DS.blk ?_ | refine DS.skip ?_) | (refine DS.store yR yE yE yE yE yU (by exact ⟨by with_unfolding_all rfl, by (try simp only [List.length_map, List.length_append, List.length_set, List.length_replicate, List.length_cons, List.length_nil]); omega⟩) ?_; simp only [zbm, zao, zar, zcb, zbn, zbi, zbj]; try simp only [zap, zag, zah, Nat.reduceEqDiff, ↓reduceIte, zal, zam, zax, zak, zaj, zaq, zan]) | fail)
    ·rename_i e6
     have hai : a < m.length := by omega
     have hset : ((m.map fun x => I x) ++ j).set a (.v (.int .i64 l[c])) = ((m.set a l[c]).map fun x => I x) ++ j := by
      rw [List.set_append_left _ _ (by simpa using hai), List.map_set]
     refine zew (S' := setS b (.cells (((m.set a l[c]).map fun x => I x) ++ j) 3) S1) (fun b' o e => by rw [← hset] at e; exact e) ?_
     have g3 : zac (setS b (.cells (((m.set a l[c]).map fun x => I x) ++ j) 3) S1) b = some (.cells (((m.set a l[c]).map fun x => I x) ++ j) 3) := by rw [zas g2, if_pos rfl]
     have D2 : DelI p l (m.set a l[c]) (a + 1) (c + 1) := by
      refine ⟨by omega, by omega, by rw [List.length_set]; exact D.len, ?_, ?_⟩
      ·rw [List.take_succ_eq_append_getElem (by rw [List.length_set]; omega), List.take_set_of_le (Nat.le_refl _), D.keep, List.getElem_set_self, List.take_succ_eq_append_getElem h2, List.filter_append]
       simp [e6]
      ·rw [List.drop_set_of_lt (by omega)]
       have := D.rest
       rw [List.drop_eq_getElem_cons h1, List.drop_eq_getElem_cons h2] at this
       exact (List.cons.inj this).2
     generalize setS b (.cells (((m.set a l[c]).map fun x => I x) ++ j) 3) S1 = S2 at *
     clear hset hcc
     skip
     refine DS.back (hB (a + 1, c + 1, m.set a l[c], S2) _ _ (by dsimp only; omega) ⟨D2, g3⟩ yS yS (fun b o e => by exact e))
    ·rename_i e6
     have D2 : DelI p l m a (c + 1) := by
      refine ⟨by omega, by omega, D.len, ?_, ?_⟩
      ·rw [List.take_succ_eq_append_getElem h2, List.filter_append, ← D.keep]
       simp [e6]
      ·have := D.rest
       rw [List.drop_eq_getElem_cons h1, List.drop_eq_getElem_cons h2] at this
       exact (List.cons.inj this).2
     clear hcc
     skip
     refine DS.back (hB (a, c + 1, m, S1) _ _ (by dsimp only; omega) ⟨D2, g2⟩ yS yS (fun b o e => by exact e))
   ·rename_i e5
    have hc : c = m.length := by omega
    have hkeep := D.keep
    rw [List.take_of_length_le (l := l) (by omega)] at hkeep
    rw [← hkeep]
    clear hcc hkeep
    refine DS.clear (z := .int .i64 0) yU yU yR yR (m := l.length - a) (by omega) yG g2 (by simp only [List.length_append, List.length_map]; omega) ?_
    have hset : setAll ((m.map fun x => I x) ++ j) a (List.replicate (l.length - a) (.v (.int .i64 0))) = ((m.take a).map fun x => I x) ++ (List.replicate (l.length - a) (.v (.int .i64 0)) ++ j) := by
     apply List.ext_getElem?
     intro i
     rw [zfa _ _ _ _ (by simp; omega), List.length_replicate]
     by_cases h1 : i < a
     ·rw [if_neg (by omega), List.getElem?_append_left (by simp; omega), List.getElem?_append_left (by simp; omega), List.map_take, List.getElem?_take_of_lt h1]
     ·rw [List.getElem?_append_right (l₁ := (m.take a).map fun x => I x) (by simp; omega), List.length_map, List.length_take, Nat.min_eq_left (by omega)]
      by_cases h2 : i < l.length
      ·rw [if_pos (by omega), List.getElem?_append_left (by simp; omega)]
      ·rw [if_neg (by omega), List.getElem?_append_right (by simp; omega), List.getElem?_append_right (by simp; omega), List.length_map, List.length_replicate]
       congr 1; omega
    refine zew (S' := setS b (.cells (((m.take a).map fun x => I x) ++ (List.replicate (l.length - a) (.v (.int .i64 0)) ++ j)) 3) S1) (fun b' o e => by rw [← hset] at e; exact e) ?_
    have g3 : zac (setS b (.cells (((m.take a).map fun x => I x) ++ (List.replicate (l.length - a) (.v (.int .i64 0)) ++ j)) 3) S1) b = some (.cells (((m.take a).map fun x => I x) ++ (List.replicate (l.length - a) (.v (.int .i64 0)) ++ j)) 3) := by rw [zas g2, if_pos rfl]
    generalize setS b (.cells (((m.take a).map fun x => I x) ++ (List.replicate (l.length - a) (.v (.int .i64 0)) ++ j)) 3) S1 = S2 at *
    repeat' (first | (with_reducible first | refine zad yU yU yE ?_ | refine zab ?_ | refine DS.seq ?_ | refine zaa ?_) | fail)
    refine zim (t := 4) (sz := 1) yR g3 (by simp; omega) ⟨by omega, by simp only [maxLen]; exact k3⟩ ?_
    refine zat [] yG trivial ?_
    rw [zes, List.map_append, List.map_map, show (V.copy ∘ fun x => I x) = (fun x => I x) from rfl, zoc _ _ _ (by simp; omega), Nat.sub_zero, List.take_take, Nat.min_self]
end Go.XL
namespace Go.XL
open Go.Proofs
set_option maxRecDepth 100000
set_option maxHeartbeats 8000000
theorem zyg {α β : Type} (f : α → β) (l : List α) (n : Nat) : (l.map f).take n = (l.take n).map f := by rw [List.map_take]
end Go.XL
namespace Go.XL
open Go.Proofs
set_option maxRecDepth 100000
set_option maxHeartbeats 8000000
def mzS (rs : List (List Int)) (round k : Nat) : Nat := k + ((rs.drop (round + 1)).map List.length).sum + (rs.length - round)
theorem ycd {rs : List (List Int)} {round : Nat} (h : round + 1 < rs.length) : mzS rs (round + 1) rs[round + 1].length + 1 = mzS rs round 0 := by
 simp only [mzS]
 rw [List.drop_eq_getElem_cons h, List.map_cons, List.sum_cons]
 omega
end Go.XL
namespace Go.XL
open Go.Proofs
set_option maxRecDepth 100000
set_option maxHeartbeats 8000000
theorem zhi : ∀ {l : List Member} {last : Int}, 0 ≤ last → zdo l last = 0 → l.Pairwise fun a b => a.id < b.id
 | [], _, _, _ => .nil
 | m :: l, last, h0, h => by
  have hf := zej h0 h
  have hm := hf.1 m (List.mem_cons_self ..)
  have h1 : 0 ≤ m.id := by omega
  simp only [zdo] at h
  repeat' split at h
  all_goals first
   | exact .cons (fun x hx => (zej h1 h).1 x hx) (zhi h1 h)
   | exact absurd h (by decide)
theorem yhd {c : Club} (h : zdz c.members = 0) : c.Asc := by
 unfold zdz at h
 split at h
 ·cases h
 ·exact zhi (Int.le_refl 0) h
theorem zep {c : Club} (h : zcm c = 0) : zfv c = 0 ∧ zdz c.members = 0 ∧ c.rounds.length ≤ 20 := by
 unfold zcm at h
 split at h
 ·contradiction
 split at h
 ·contradiction
 split at h
 ·cases h
 exact ⟨by omega, by omega, by omega⟩
theorem zrx (a b : Int) : ∀ T, metT a b T = metT b a T
 | [] => rfl
 | t :: r => by
  simp only [metT]
  rw [zrx a b r]
  congr 1
  by_cases h : a ≠ b ∧ a ∈ t ∧ b ∈ t
  ·rw [if_pos h, if_pos ⟨h.1.symm, h.2.2, h.2.1⟩]
  ·rw [if_neg h, if_neg (fun h' => h ⟨h'.1.symm, h'.2.2, h'.2.1⟩)]
theorem zry (c : Club) (a b : Int) : metS c a b = metS c b a := by
 unfold metS
 generalize c.rounds = l
 induction l with
 | nil => rfl
 | cons s r ih => simp only [zqi, ih, zrx a b]
theorem zzl (c : Club) (a b : Int) : met0 c a b = met0 c b a := by simp only [met0, zry c a b]
theorem zyf {budget : Int} {round R : Nat} {rec : List Int → Int → Int × Int × List (Nat × List Int)} (hr : round < R) (h : ∀ t s, ∀ q ∈ (rec t s).2.2, q.1 < R) : ∀ (l : List (List Int)) (s : Int), ∀ q ∈ (tryL budget round rec l s).2.2, q.1 < R
 | [], s, q, hq => by simp [tryL] at hq
 | t :: r, s, q, hq => by
  simp only [tryL] at hq
  split at hq
  ·simp at hq
  split at hq
  ·exact zyf hr h r _ q hq
  ·rcases List.mem_cons.1 hq with rfl | hq
   ·exact hr
   ·exact h _ _ q hq
theorem ztx {size : Nat} {budget : Int} {rounds : List (List Int)} : ∀ (n : Nat) (met : Int → Int → Bool) (round : Nat) (ids : List Int) (s : Int), round < rounds.length → ∀ q ∈ (srch size budget rounds n met round ids s).2.2, q.1 < rounds.length
 | 0, met, round, ids, s, hr, q, hq => by simp [srch] at hq
 | n + 1, met, round, [], s, hr, q, hq => by
  rw [srch] at hq
  split at hq
  ·simp at hq
  ·exact ztx n met _ _ _ (by omega) q hq
 | n + 1, met, round, f :: fr, s, hr, q, hq => by
  rw [srch] at hq
  exact zyf hr (fun t s => ztx n _ _ _ _ hr) _ _ q hq
theorem znj {c : Club} {round : Int} : ∀ {t : List Int} {pre : Option Int}, zeb c round t pre = 0 → t.Pairwise (· < ·) ∧ ∀ p, pre = some p → ∀ x ∈ t, p < x
 | [], _, _ => ⟨.nil, fun _ _ _ h => (List.not_mem_nil h).elim⟩
 | x :: t, pre, e => by
  simp only [zeb] at e
  split at e
  ·cases e
  split at e
  ·cases e
  split at e
  ·cases e
  rename_i h3
  obtain ⟨h4, h5⟩ := znj e
  have h6 := h5 x rfl
  refine ⟨.cons h6 h4, fun p hp y hy => ?_⟩
  subst hp
  simp only [zmb, decide_eq_true_eq] at h3
  rcases List.mem_cons.1 hy with rfl | hy
  ·omega
  ·have := h6 y hy; omega
theorem zll : ∀ (T : List (List Int)) (jk : List V), chunk 1 T.length (List.map V.copy (List.map (fun t => ints t) T ++ jk)) = T.map cR
 | [], _ => rfl
 | t :: T, jk => by
  have := zll T jk
  simp only [List.length_cons, chunk, List.map_cons, List.cons_append, List.take_succ_cons, List.take_zero, List.drop_succ_cons, List.drop_zero, this]
  rfl
end Go.XL
namespace Go.XL
open Go.Proofs
set_option maxRecDepth 100000
set_option maxHeartbeats 8000000
theorem zxe (S : Sto) (g : GR) (l : List Int) (n : Int) (ok : g.Ok 3 1 S) (hg : g.l = l.map cI) {b : Nat} {T : TypeId} (hb : zac S b = some (.cells [g.cell] T)) :
  RC Try.prog 52 [I n, .v (.pointer (some ⟨b, 0, none⟩))] S (Bo (decide (n ∈ l))) := by
 have h := zuo S g l n ok hg
 have hc := g.cell_copy
 clear ok hg
 obtain ⟨gl, blk⟩ := g
 cases blk with
 | none =>
  simp only [GR.cell, zqf] at h hb
  refine DC.of_run Try.func52 rfl Try.ntmps52 Try.results52 (by simp) (fun _ => ?_); simp only [zaf, zai, go_sem, Nat.zero_add, Nat.reduceAdd]
  repeat' (first | (with_reducible first | refine zad yU yU yE ?_ | refine zab ?_ | refine DS.seq ?_ | refine zaa ?_) | refine zjs inferInstance (h) yR yT ?_ | refine zcl yE ⟨?_, rfl⟩ | fail)
  rfl
 | some x =>
  obtain ⟨b, cap, j⟩ := x
  simp only [GR.cell, ziw] at h hb
  refine DC.of_run Try.func52 rfl Try.ntmps52 Try.results52 (by simp) (fun _ => ?_); simp only [zaf, zai, go_sem, Nat.zero_add, Nat.reduceAdd]
  repeat' (first | (with_reducible first | refine zad yU yU yE ?_ | refine zab ?_ | refine DS.seq ?_ | refine zaa ?_) | refine zjs inferInstance (h) yR yT ?_ | refine zcl yE ⟨?_, rfl⟩ | fail)
  rfl
theorem zwl (c : Club) (id : Int) : PC Try.prog 30 [c.val, I id] (I (znm c id)) := yfn c id
theorem yX2 {p : Prop} (h : p := by (simp (disch := omega) only [go_sem, dopV, Option.map_some, Option.map_none, Option.bind_some, Option.bind_none, ↓reduceIte, Nat.reduceEqDiff, Nat.reduceLT, Nat.reduceLeDiff, Nat.reduceAdd, Nat.reduceMul, Nat.reduceSub, Nat.zero_add, Nat.add_zero, Nat.zero_le, Nat.zero_mul, Nat.mul_one, Nat.one_mul, Int.natCast_zero, Int.toNat_zero, Int.reduceToNat, Int.reduceLT, Int.reduceLE, Int.reduceEq, decide_true, decide_false, true_and, and_true, Bool.and_self, Bool.and_true, Bool.true_and, Bool.not_true, Bool.not_false, IntWalk.toNatUp, IntWalk.iteOmega, IntWalk.i64_in, Option.isSome_some, not_true_eq_false, not_false_eq_true, Option.getD_some, Option.getD_none, Int.toNat_natCast, List.length_map, List.getElem?_map, List.getElem?_eq_getElem, V.flat, V.one, List.all_cons, List.all_nil, *, GR.cell_copy]; exact rfl)) : p := h
theorem zyi (c : Club) (hs : c.Small) (f : c.Fine) (h1 : c.size ≤ 4) (h2 : 3 ≤ c.size) {i : Nat} (hi : i < c.rounds.length) : PC Try.prog 37 [c.val, I i] (I (zem c i)) := by
 have q1 := hs.rounds
 have q2 := hs.at hi
 have q3 := q2.tables
 have q4 := hs.members
 rw [zem, c.round_at hi]
 refine DC.of_run Try.func37 rfl Try.ntmps37 Try.results37 (by simp) (fun _ => ?_); simp only [zaf, zai, go_sem, Nat.zero_add, Nat.reduceAdd]
 repeat' (first | (with_reducible first | refine zad yU yU yE ?_ | refine zab ?_ | refine DS.seq ?_ | refine zaa ?_) | (refine zci (t := 2) yU yE yU ?_; simp only [zbh, zcg, zbf, zbv, zbc, zau, zbq, zay, zcd, zcf, zbr, zce, zbu, zbt]) | fail)
 refine zdl yR yU yU (fun b5 hb5 => ?_)
 have hz : (List.map V.v (Value.slice none 0 0).cells.toList) = [GR.cell ⟨[], none⟩] := rfl
 rw [hz]
 clear hz hb5
 repeat' (first | (with_reducible first | refine zad yU yU yE ?_ | refine zab ?_ | refine DS.seq ?_ | refine zaa ?_ | refine DS.block ?_) | fail)
 refine zda [1, 2, 5, 17, 18] yN (fun (x : Nat × Int × List Int × GR × Sto) => [(6, I x.2.1), (19, I x.1)]) (fun (x : Nat × Int × List Int × GR × Sto) => x.2.2.2.2) (fun (x : Nat × Int × List Int × GR × Sto) => x.1 ≤ c.rounds[i].tables.length ∧ x.2.2.1.length ≤ 4 * x.1 ∧ zdc c i c.rounds[i].tables [] 0 = zdc c i (c.rounds[i].tables.drop x.1) x.2.2.1 x.2.1 ∧ x.2.2.2.1.l = x.2.2.1.map cI ∧ x.2.2.2.1.Ok 3 1 x.2.2.2.2 ∧ zac x.2.2.2.2 b5 = some (.cells [x.2.2.2.1.cell] 25) ∧ ∀ cap j, x.2.2.2.1.blk ≠ some (b5, cap, j)) (fun (x : Nat × Int × List Int × GR × Sto) => c.rounds[i].tables.length - x.1) (0, 0, [], ⟨[], none⟩, [(b5, .cells [GR.cell ⟨[], none⟩] 25)]) yS (fun b o e => by exact e) ⟨Nat.zero_le _, by simp, rfl, rfl, rfl, by simp [zac], fun _ _ h => by cases h⟩ (fun x B hI hB => ?_); try dsimp only at hI hB; simp only [zaw, zbg]
 obtain ⟨k, first, l, g, S⟩ := x
 dsimp only at hI hB
 obtain ⟨g1, g2, g3, g4, g5, g6, g7⟩ := hI
 have hI0 := And.intro g3 (And.intro g4 (And.intro g5 (And.intro g6 g7)))
 have hB0 := hB
 clear hB g3 g4 g5 g6 g7
 repeat' (first | (with_reducible first | refine zad yU yU yE ?_ | refine zab ?_ | refine DS.seq ?_ | refine zaa ?_ | (refine zbe yE ?_; first | refine zgu (fun _ => ?_) (fun _ => ?_) | refine zeq (fun _ => ?_) (fun _ => ?_)) | refine DS.block ?_ | refine DS.exit yU ?_ | refine DS.skip ?_) | refine zat [] yE trivial ?_ | fail)
 ·rename_i e1 e2
  obtain ⟨_, r0, dr4, rfl, dr6⟩ := zdh (l := c.rounds[i].tables) (i := k) (by omega); rw [dr4] at hI0
  rw [hI0.1, zrn e2]; rfl
 ·rename_i e1 e2
  have hk : k < c.rounds[i].tables.length := by omega
  refine zcp [1, 2, 5, 6, 8, 17, 18, 19, 28, 29] yN (fun (j : Nat) => [(30, I j)]) (fun (j : Nat) => j ≤ c.rounds[i].tables[k].length ∧ zeb c i c.rounds[i].tables[k] none = zeb c i (c.rounds[i].tables[k].drop j) (zoo c.rounds[i].tables[k] j)) (fun (j : Nat) => c.rounds[i].tables[k].length - j) 0 yS (by simp [zoo]) (fun j B hI hB => ?_); try dsimp only at hI hB; simp only [zaw, zbg]
  repeat' (first | (with_reducible first | refine zad yU yU yE ?_ | refine zab ?_ | refine DS.seq ?_ | refine zaa ?_ | (refine zbe yE ?_; refine zeq (fun _ => ?_) (fun _ => ?_)) | refine DS.block ?_ | refine DS.exit yU ?_ | refine DS.skip ?_) | refine zav inferInstance (zwl c _) yR yT ?_ | refine zat [] yE trivial ?_ | fail)
  ·rename_i e3 e4
   obtain ⟨_, r, dr1, rfl, dr3⟩ := zdh (l := c.rounds[i].tables[k]) (i := j) (by omega); rw [dr1] at hI
   obtain ⟨_, r0, dr4, rfl, dr6⟩ := zdh (l := c.rounds[i].tables) (i := k) (by omega); rw [dr4] at hI0
   rw [hI0.1, zhz (e := 7) e2 (by rw [hI.2, zeb, if_pos e4]) (by decide)]; rfl
  ·rename_i e3 e4
   obtain ⟨m, hm, e5, -, e7⟩ := zqr e4
   have H := And.intro e5 e7
   simp only [e5]
   clear e5 e7 e4
   repeat' (first | (with_reducible first | refine zad yU yU yE ?_ | refine zab ?_ | refine DS.seq ?_ | refine zaa ?_ | (refine zbe yE ?_; first | refine zeq (fun _ => ?_) (fun _ => ?_) | refine zdd ?_ | refine yek (fun _ => ?_) (fun _ => ?_)) | (refine zdv yU yE ?_; first | refine zuw (fun _ => ?_) (fun _ => ?_) | refine GG.run ?_ | refine zkb ?_) | refine DS.blk ?_ | refine DS.skip ?_) | refine zav inferInstance (zmh _ _) yR yT ?_ | refine zat [] yE trivial ?_ | fail)
   all_goals obtain ⟨_, r, dr1, rfl, dr3⟩ := zdh (l := c.rounds[i].tables[k]) (i := j) (by omega); rw [dr1] at hI
   ·rename_i e9
    obtain ⟨_, r0, dr4, rfl, dr6⟩ := zdh (l := c.rounds[i].tables) (i := k) (by omega); rw [dr4] at hI0
    rw [hI0.1, zhz (e := 10) e2 (by rw [hI.2, zeb, if_neg (by rw [H.1]; omega), if_pos (by rw [H.2]; exact e9)]) (by decide)]; rfl
   ·rename_i e9 e10 e11
    obtain ⟨e12, e13⟩ := zkn (t := c.rounds[i].tables[k]) (k := j) (by omega) (by omega)
    obtain ⟨_, r0, dr4, rfl, dr6⟩ := zdh (l := c.rounds[i].tables) (i := k) (by omega); rw [dr4] at hI0
    rw [hI0.1, zhz (e := 11) e2 (by rw [hI.2, zeb, if_neg (by rw [H.1]; omega), if_neg (by rw [H.2, e9]; decide), if_pos (by rw [e13]; simp only [zmb]; exact decide_eq_true e11)]) (by decide)]; rfl
   ·rename_i e9 e10 e11
    obtain ⟨e12, e13⟩ := zkn (t := c.rounds[i].tables[k]) (k := j) (by omega) (by omega)
    exact DS.back (hB (j + 1) _ _ (by omega) (⟨by omega, by rw [hI.2, dr3, zeb, if_neg (by rw [H.1]; omega), if_neg (by rw [H.2, e9]; decide), if_neg (by rw [e13]; simp only [zmb]; simpa using e11), ziu (by omega)]⟩) yS yS (fun b o e => by first | exact e | (simp only [zae]; split <;> simp_all)))
   ·rename_i e9 e10
    have e13 : zmb (zoo c.rounds[i].tables[k] j) c.rounds[i].tables[k][j] = false := by
     have : j = 0 := by omega
     subst this; rfl
    exact DS.back (hB (j + 1) _ _ (by omega) (⟨by omega, by rw [hI.2, dr3, zeb, if_neg (by rw [H.1]; omega), if_neg (by rw [H.2, e9]; decide), if_neg (by rw [e13]; decide), ziu (by omega)]⟩) yS yS (fun b o e => by first | exact e | (simp only [zae]; split <;> simp_all)))
  ·rename_i e3
   have hids : zeb c i c.rounds[i].tables[k] none = 0 := by rw [hI.2, List.drop_eq_nil_of_le (by omega)]; rfl
   clear hI hB
   have hcf := znu S c.rounds[i].tables[k] (fun x => decide (x ∈ l)) inferInstance (g := 52) (fs := []) (cs := [.v (.pointer (some ⟨b5, 0, none⟩))]) (fun x => zxe S g l x hI0.2.2.1 hI0.2.1 hI0.2.2.2.1)
   repeat' (first | (with_reducible first | refine zad yU yU yE ?_ | refine zab ?_ | refine DS.seq ?_ | refine zaa ?_ | (refine zbe yE ?_; first | refine zeq (fun _ => ?_) (fun _ => ?_) | refine ygg (fun _ => ?_) (fun _ => ?_)) | refine DS.skip ?_) | refine zjs inferInstance (hcf) yR yT ?_ | refine zat [] yE trivial ?_ | fail)
   ·rename_i e4
    obtain ⟨_, r0, dr4, rfl, dr6⟩ := zdh (l := c.rounds[i].tables) (i := k) (by omega); rw [dr4] at hI0
    obtain ⟨x, hx, hx2⟩ := List.any_eq_true.1 e4
    obtain ⟨j, hj, rfl⟩ := List.getElem_of_mem hx
    rw [hI0.1, zom e2 hids (k := j) hj (by simpa using hx2)]; rfl
   all_goals rename_i e4 e5
   all_goals
    have hno : ∀ x ∈ c.rounds[i].tables[k], ¬ x ∈ l := fun x hx hx2 => by
     have : (c.rounds[i].tables[k].any fun x => decide (x ∈ l)) = true := List.any_eq_true.2 ⟨x, hx, by simpa using hx2⟩
     rw [this] at e4; cases e4
    have hhd := yac (t := c.rounds[i].tables[k]) (by omega)
   ·obtain ⟨_, r0, dr4, rfl, dr6⟩ := zdh (l := c.rounds[i].tables) (i := k) (by omega); rw [dr4] at hI0
    rw [hI0.1, zol e2 hids hno (by rw [hhd]; exact e5)]; rfl
   ·obtain ⟨p1, p2, p3, p4, p5⟩ := hI0
    obtain ⟨S0, S1, s0, s1, s2, s3⟩ := GR.split p3
    have hx0 : zac S0 b5 = some (.cells [g.cell] 25) := (s3 b5 p5).1.trans p4
    have hN := And.intro hids (And.intro hno (And.intro hhd (And.intro p1 (And.intro p2 (And.intro p3 (And.intro p4 (And.intro p5 s3)))))))
    clear hno hhd p1 p2 p3 p4 p5 s3 hids hcf e4
    skip
    refine zin (id := 23) (S0) (S1) [0, 1, 2, 3, 4, 5] 6 (by kernel_rfl) zei (by simp only [zbp, zbx, zby, zbz, zbo]; exact rfl) (by simp only [zbk, zbl, List.drop_nil]; exact rfl) (s0) (s1) ?_
    repeat' (first | with_reducible refine zcj yU yU yU yX2 ?_ | fail)
    have hgl : g.l.length = l.length := by rw [hN.2.2.2.2.1, List.length_map]
    refine ybh rfl rfl rfl yR (zld (g := g) (ml := c.rounds[i].tables[k].map cI) rfl yH yH yR yR (by decide) yH s2 yH yH (by rw [List.length_map]; omega) (by intro x hx; obtain ⟨y, -, rfl⟩ := List.mem_map.1 hx; rfl) ⟨by rw [List.length_map]; omega, by decide⟩) (fun u2 E' S4 hu2 hdis => ?_)
    obtain ⟨rfl, b', cap', junk', rfl, m1, m2, m3⟩ := hu2
    have hbs : zac (S4 ++ S0) b5 = some (.cells [g.cell] 25) := by rw [zba, hdis b5 _ hx0]; exact hx0
    have hne : b' ≠ b5 := fun h => by
     have := m1.look
     rw [h, hdis b5 _ hx0] at this; cases this
    have hml : g.l ++ (c.rounds[i].tables[k].map cI).map (·.map V.copy) = (l ++ c.rounds[i].tables[k]).map cI := by
     rw [hN.2.2.2.2.1, List.map_append, List.map_map]; rfl
    rw [hml] at m1 ⊢
    simp only [GR.cell_some, zca]
    clear hml hgl
    repeat' (first | (with_reducible first | refine zad yU yU yE ?_ | refine zab ?_ | refine zaa ?_ | refine DS.blk ?_) | (refine DS.store yR yE yE yE yE yU (by exact ⟨by with_unfolding_all rfl, by (try simp only [List.length_map, List.length_append, List.length_set, List.length_replicate, List.length_cons, List.length_nil]); omega⟩) ?_; simp only [zbm, zao, zar, zcb, zbn, zbi, zbj]; try simp only [zap, zag, zah, Nat.reduceEqDiff, ↓reduceIte, zal, zam, zax, zak, zaj, zaq, zan]) | fail)
    have hb1 : zac (setS b5 (.cells [GR.cell ⟨(l ++ c.rounds[i].tables[k]).map cI, some (b', cap', junk')⟩] 25) (S4 ++ S0)) b5 = some (.cells [GR.cell ⟨(l ++ c.rounds[i].tables[k]).map cI, some (b', cap', junk')⟩] 25) := by rw [zas hbs, if_pos rfl]
    have hb2 : zac (setS b5 (.cells [GR.cell ⟨(l ++ c.rounds[i].tables[k]).map cI, some (b', cap', junk')⟩] 25) (S4 ++ S0)) b' = zac S4 b' := by rw [zas hbs, if_neg hne, zba, m1.look]
    refine zew (S' := setS b5 (.cells [GR.cell ⟨(l ++ c.rounds[i].tables[k]).map cI, some (b', cap', junk')⟩] 25) (S4 ++ S0)) (fun b o e => by simp only [GR.cell, List.length_map] at e; exact e) ?_
    refine DS.back (hB0 (k + 1, c.rounds[i].tables[k][0], l ++ c.rounds[i].tables[k], ⟨(l ++ c.rounds[i].tables[k]).map cI, some (b', cap', junk')⟩, setS b5 (.cells [GR.cell ⟨(l ++ c.rounds[i].tables[k]).map cI, some (b', cap', junk')⟩] 25) (S4 ++ S0)) _ _ (by dsimp only; omega)
     ⟨by dsimp only; omega, by simp only [List.length_append]; omega, by dsimp only; rw [hN.2.2.2.1, List.drop_eq_getElem_cons hk, zpv e2 hN.1 hN.2.1 (by rw [hN.2.2.1]; exact e5), hN.2.2.1], rfl, m1.of (fun b cap j h => by cases h; exact hb2), hb1, fun cap j h => by cases h; exact hne rfl⟩ yS yS (fun b o e => by exact e))
 ·rename_i e1
  rw [hI0.1, List.drop_eq_nil_of_le (by omega)]; rfl
end Go.XL
namespace Go.XL
open Go.Proofs
set_option maxRecDepth 100000
set_option maxHeartbeats 4000000
theorem zxi {c : Club} {i : Nat} (h : i < c.rounds.length) (h1 : zem c i = 0) (h2 : ¬ zid c i = 0) : zdj c i (c.rounds.length - i) = zid c i := by rw [zjv h, if_neg (by omega), if_pos h2]
theorem zxh {c : Club} {i : Nat} (h : i < c.rounds.length) (h1 : zem c i = 0) (h2 : zid c i = 0) : zdj c i (c.rounds.length - i) = zdj c (i + 1 : Nat) (c.rounds.length - (i + 1)) := by rw [zjv h, if_neg (by omega), if_neg (by omega)]
theorem zdr (c : Club) (hs : c.Small) : PC Try.prog 17 [c.val] (I (zcm c)) := by
 have q1 := hs.rounds
 have q2 := hs.members
 refine DC.of_run Try.func17 rfl Try.ntmps17 Try.results17 (by simp) (fun _ => ?_); simp only [zaf, zai, go_sem, Nat.zero_add, Nat.reduceAdd]
 repeat' (first | (with_reducible first | refine zad yU yU yE ?_ | refine zab ?_ | refine DS.seq ?_ | refine zaa ?_ | (refine zbe yE ?_; first | refine zgu (fun _ => ?_) (fun _ => ?_) | refine zcy ?_) | (refine zdv yU yE ?_; first | refine yep (fun _ => ?_) (fun _ => ?_) | refine GG.run ?_ | refine zuv ?_) | refine DS.skip ?_) | refine zav inferInstance (zfd _ _ _) yR yT ?_ | (refine zci (t := 1) yU yE yU ?_; simp only [zbh, zcg, zbf, zbv, zbc, zau, zbq, zay, zcd, zcf, zbr, zce, zbu, zbt]) | refine zat [] yE trivial ?_ | fail)
 rotate_left 2
 ·rename_i e1 e2 e3
  have hr : zfv c = 2 := by rw [zfv, if_neg (by simpa using e1), if_neg (by simpa using e2), if_pos e3]
  rw [zcm, if_pos (by rw [hr]; decide), hr]; rfl
 ·rename_i e1 e2
  have hr : zfv c = 2 := by rw [zfv, if_neg (by simpa using e1), if_pos e2]
  rw [zcm, if_pos (by rw [hr]; decide), hr]; rfl
 ·rename_i e1
  have hr : zfv c = 2 := by rw [zfv, if_pos e1]
  rw [zcm, if_pos (by rw [hr]; decide), hr]; rfl
 ·rename_i e1 e2 e3 e4
  have hr : zfv c = 2 := by rw [zfv, if_neg (by simpa using e1), if_neg (by simpa using e2), if_neg (by simpa using e3), if_pos e4]
  rw [zcm, if_pos (by rw [hr]; decide), hr]; rfl
 ·rename_i e1 e2 e3 e4
  have hr : zfv c = zhy c.size c.places 1000000 0 := by rw [zfv, if_neg (by simpa using e1), if_neg (by simpa using e2), if_neg (by simpa using e3), if_neg (by simpa using e4)]
  have hz := hr
  clear hr
  repeat' (first | (with_reducible first | refine zad yU yU yE ?_ | refine zab ?_ | refine DS.seq ?_ | refine zaa ?_ | (refine zbe yE ?_; first | refine zgu (fun _ => ?_) (fun _ => ?_) | refine zeq (fun _ => ?_) (fun _ => ?_)) | refine DS.block ?_ | refine DS.skip ?_) | refine zav inferInstance (zvg c c.places 1000000 0 (by omega) (by decide) (by decide)) yR yT ?_ | refine zav inferInstance (zxn c.members) yR yT ?_ | refine zat [] yE trivial ?_ | fail)
  ·rename_i e5
   rw [zcm, if_pos (by omega), hz]; rfl
  ·rename_i e5 e6
   rw [zcm, if_neg (by omega), if_pos e6]; rfl
  ·rename_i e5 e6 e7
   rw [zcm, if_neg (by omega), if_neg (by omega), if_pos (by omega)]; rfl
  ·rename_i e5 e6 e7
   have f := yfm e6
   have hc : zcm c = zdj c 0 c.rounds.length := by rw [zcm, if_neg (by omega), if_neg (by omega), if_neg (by omega)]
   rw [hc]
   clear hc hz
   refine zcp [1, 49] yN (fun (i : Nat) => [(50, I i)]) (fun (i : Nat) => i ≤ c.rounds.length ∧ zdj c 0 c.rounds.length = zdj c i (c.rounds.length - i)) (fun (i : Nat) => c.rounds.length - i) 0 yS ⟨Nat.zero_le _, rfl⟩ (fun i B hI hB => ?_); try dsimp only at hI hB; simp only [zaw, zbg]
   repeat' (first | (with_reducible first | refine zad yU yU yE ?_ | refine zab ?_ | refine DS.seq ?_ | refine zaa ?_ | (refine zbe yE ?_; first | refine zgu (fun _ => ?_) (fun _ => ?_) | refine zeq (fun _ => ?_) (fun _ => ?_)) | refine DS.blk ?_ | refine DS.block ?_ | refine DS.exit yU ?_ | refine DS.skip ?_) | refine zav inferInstance (zyi c hs f e1.2 e1.1 (i := i) (by omega)) yR yT ?_ | refine zav inferInstance (yfa c hs e1.2 (by omega) e2 e4 (i := i) (by omega) (by omega)) yR yT ?_ | refine zat [] yE trivial ?_ | fail)
   ·rename_i e8 e9
    rw [hI.2, zxj (by omega) e9]; rfl
   ·rename_i e8 e9 e10
    rw [hI.2, zxi (by omega) e9 e10]; rfl
   ·rename_i e8 e9 e10
    exact DS.back (hB (i + 1) _ _ (by omega) (⟨by omega, by rw [hI.2, zxh (by omega) e9 e10]⟩) yS yS (fun b o e => by first | exact e | (simp only [zae]; split <;> simp_all)))
   ·rename_i e8
    rw [hI.2, show c.rounds.length - i = 0 by omega]; rfl
theorem zxk (c : Club) (round : Int) (hm : c.members.length ≤ 1000000) : PC Try.prog 39 [c.val, I round] (.own false 3 1 ((zdy c round).map cI)) := by
 refine DC.of_run Try.func39 rfl Try.ntmps39 Try.results39 (by simp) (fun _ => ?_); simp only [zaf, zai, go_sem, Nat.zero_add, Nat.reduceAdd]
 repeat' (first | (with_reducible first | (refine zfl (t := 4) yU yO yE ?_) | (refine zfl (t := 5) yU yO yE ?_) | refine zad yU yU yE ?_ | refine zab ?_ | refine DS.seq ?_ | refine zaa ?_ | refine DS.block ?_) | (refine zci (t := 2) yU yE yU ?_; simp only [zbh, zcg, zbf, zbv, zbc, zau, zbq, zay, zcd, zcf, zbr, zce, zbu, zbt]) | fail)
 refine zcp [1, 9, 10] yN (fun (k : Nat × List Int) => [(5, .own false 3 1 (k.2.map cI)), (11, I k.1)]) (fun (k : Nat × List Int) => k.1 ≤ c.members.length ∧ k.2.length ≤ k.1 ∧ k.2 ++ ((c.members.drop k.1).filter (fun m => m.plays round)).map Member.id = zdy c round) (fun (k : Nat × List Int) => c.members.length - k.1) (0, []) yS (by simp [zdy]) (fun k B hI hB => ?_); try dsimp only at hI hB; simp only [zaw, zbg]
 repeat' (first | (with_reducible refine zgj (t := 4) yU yO yE ?_; simp only [zap, zag, zah, Nat.reduceEqDiff, ↓reduceIte, zal, zam, zax, zak, zaj, zaq, zan]) | (with_reducible refine zgj (t := 5) yU yO yE ?_; simp only [zap, zag, zah, Nat.reduceEqDiff, ↓reduceIte, zal, zam, zax, zak, zaj, zaq, zan]) | (with_reducible refine zgj (t := 18) yU yO yE ?_; simp only [zap, zag, zah, Nat.reduceEqDiff, ↓reduceIte, zal, zam, zax, zak, zaj, zaq, zan]) | (with_reducible refine zgj (t := 24) yU yO yE ?_; simp only [zap, zag, zah, Nat.reduceEqDiff, ↓reduceIte, zal, zam, zax, zak, zaj, zaq, zan]) | (with_reducible first | refine zad yU yU yE ?_ | refine zab ?_ | refine DS.seq ?_ | refine zaa ?_ | (refine zbe yE ?_; first | refine zeq (fun _ => ?_) (fun _ => ?_) | refine ygg (fun _ => ?_) (fun _ => ?_)) | refine DS.blk ?_ | refine DS.block ?_ | refine DS.exit yU ?_ | refine DS.skip ?_) | (refine zdn yU yE yE ?_; simp only [go_sem, Nat.zero_add, Nat.reduceAdd]) | (refine DS.append (mm := false) yU yE yE yU (by decide) yE (by first | exact .inl rfl | exact .inr ⟨rfl, rfl⟩) yE yX1 (by first | exact zcs zgo _ | exact zcs zoe _ | exact zcs Member.len _ | exact zcs Sitting.len _ | exact zcs Ruling.len _ | (simp only [List.mem_cons, List.not_mem_nil, or_false, forall_eq]; rfl) | simp) ⟨by (try simp only [List.length_map, List.length_cons, List.length_nil, List.length_append, List.length_take, List.length_drop]); omega, by decide⟩ ?_; simp only [zap, zag, zah, Nat.reduceEqDiff, ↓reduceIte, zal, zam, zax, zak, zaj, zaq, zan]) | (refine zgt (t := 7) yU yE yU (fun _ => yE) yE yU (by exact ⟨by with_unfolding_all rfl, by with_unfolding_all decide⟩) (fun _ => by simp only [go_sem, Nat.reduceEqDiff, ↓reduceIte]) ?_; simp only [go_sem]) | refine zav inferInstance (zmh _ _) yR yT ?_ | refine zat [] yE trivial ?_ | fail)
 ·rename_i e2 e3
  obtain ⟨_, r, dr1, rfl, dr3⟩ := zdh (l := c.members) (i := k.1) (by omega); rw [dr1] at hI
  exact DS.back (hB (k.1 + 1, k.2 ++ [c.members[k.1].id]) _ _ (by simp; omega) (⟨by simp; omega, by simp; omega, by rw [← hI.2.2, dr3, List.filter_cons, if_pos e3]; simp⟩) yS yS (fun b o e => by first | exact e | (simp only [zae]; split <;> simp_all)))
 ·rename_i e2 e3
  obtain ⟨_, r, dr1, rfl, dr3⟩ := zdh (l := c.members) (i := k.1) (by omega); rw [dr1] at hI
  exact DS.back (hB (k.1 + 1, k.2) _ _ (by simp; omega) (⟨by simp; omega, by simp; omega, by rw [← hI.2.2, dr3, List.filter_cons, if_neg (by simp [e3])]⟩) yS yS (fun b o e => by first | exact e | (simp only [zae]; split <;> simp_all)))
 ·have de1 := zkv (l := c.members) (i := k.1) (by omega); rw [de1] at hI
  rw [zes, show k.2 = zdy c round by have e := hI.2.2; simpa using e]
end Go.XL
namespace Go.XL
open Go.Proofs
set_option maxRecDepth 100000
set_option maxHeartbeats 8000000
structure Hid (p : Prop) : Prop where
 out : p
def kA (a b : Int) : Value := .agg #[.int .i64 a, .int .i64 b]
def In64 (a : Int) : Prop := -9223372036854775808 ≤ a ∧ a ≤ 9223372036854775807
structure MapW (S : Sto) (b : Nat) (w : W) : Prop where
 out : ∃ f es clock, zac S b = some (.raw (.map es clock)) ∧ MapIs Try.prog 58 f es clock ∧ ∀ x y, In64 x → In64 y → (f (kA x y)).getD (.int .i64 0) = .int .i64 (w x y)
theorem keyA {a b : Int} (ha : In64 a) (hb : In64 b) : zhx Try.prog 58 (kA a b) := by
 have hw : ∀ c : Int, In64 c → (Lit.int .i64 c).wf = true := fun c hc => by
  have h1 : decide (IntKind.i64.min ≤ c) = true := decide_eq_true (show (-9223372036854775808 : Int) ≤ c from hc.1)
  have h2 : decide (c ≤ IntKind.i64.max) = true := decide_eq_true (show c ≤ (9223372036854775807 : Int) from hc.2)
  simp only [Lit.wf, h1, h2, Bool.and_self]
 have h1 : Try.prog.underlying 58 = some (.array 2 3) := by with_unfolding_all rfl
 have h2 : Try.prog.keyType 58 = true := by with_unfolding_all rfl
 have h3 : Value.formed Try.prog 58 (kA a b) = true := by with_unfolding_all rfl
 have h4 : Try.prog.underlying 3 = some (.int .i64) := by with_unfolding_all rfl
 have h5 : Try.prog.cellsOf 58 = 2 := by with_unfolding_all rfl
 have h6 : Try.prog.cellsOf 3 = 1 := by with_unfolding_all rfl
 obtain ⟨m, hm⟩ : ∃ m, Try.prog.types.size = m + 1 := ⟨Try.prog.types.size - 1, by with_unfolding_all rfl⟩
 have k1 : ∀ c, In64 c → Try.prog.keyLits (m + 1) 3 [.int .i64 c] = some [.int .i64 c] := fun c hc => by
  unfold Program.keyLits
  rw [h4]
  simp [hw c hc]
 unfold zhx keyOf
 rw [h1]
 simp only [h2, h3, Bool.and_self, if_true]
 rw [hm]
 unfold Program.keyLits
 rw [h1]
 simp only [h5, h6]
 have hc : (kA a b).cells.toList = [.int .i64 a, .int .i64 b] := rfl
 rw [hc]
 have hr : List.range 2 = [0, 1] := rfl
 rw [hr]
 simp [k1 a ha, k1 b hb]
def ztg (c : Club) : Prop := ∀ s ∈ c.rounds, ∀ t ∈ s.tables, ∀ x ∈ t, In64 x
theorem yX3 {p : Prop} (h : p := by (simp (disch := omega) only [go_sem, dopV, Option.map_some, Option.map_none, Option.bind_some, Option.bind_none, ↓reduceIte, Nat.reduceEqDiff, Nat.reduceLT, Nat.reduceLeDiff, Nat.reduceAdd, Nat.reduceMul, Nat.reduceSub, Nat.zero_add, Nat.add_zero, Nat.zero_le, Nat.zero_mul, Nat.mul_one, Nat.one_mul, Int.natCast_zero, Int.toNat_zero, Int.reduceToNat, Int.reduceLT, Int.reduceLE, Int.reduceEq, decide_true, decide_false, true_and, and_true, Bool.and_self, Bool.and_true, Bool.true_and, Bool.not_true, Bool.not_false, IntWalk.toNatUp, IntWalk.iteOmega, IntWalk.i64_in, Option.isSome_some, not_true_eq_false, not_false_eq_true, Option.getD_some, Option.getD_none, Int.toNat_natCast, List.length_map, List.getElem?_map, List.getElem?_eq_getElem, V.flat, V.one, List.all_cons, List.all_nil, *, List.forall_mem_map, implies_true, zgo, List.drop_zero]; exact rfl)) : p := h
theorem yX4 {p : Prop} (h : p := by (simp (disch := omega) only [go_sem, dopV, Option.map_some, Option.map_none, Option.bind_some, Option.bind_none, ↓reduceIte, Nat.reduceEqDiff, Nat.reduceLT, Nat.reduceLeDiff, Nat.reduceAdd, Nat.reduceMul, Nat.reduceSub, Nat.zero_add, Nat.add_zero, Nat.zero_le, Nat.zero_mul, Nat.mul_one, Nat.one_mul, Int.natCast_zero, Int.toNat_zero, Int.reduceToNat, Int.reduceLT, Int.reduceLE, Int.reduceEq, decide_true, decide_false, true_and, and_true, Bool.and_self, Bool.and_true, Bool.true_and, Bool.not_true, Bool.not_false, IntWalk.toNatUp, IntWalk.iteOmega, IntWalk.i64_in, Option.isSome_some, not_true_eq_false, not_false_eq_true, Option.getD_some, Option.getD_none, Int.toNat_natCast, List.length_map, List.getElem?_map, List.getElem?_eq_getElem, V.flat, V.one, List.all_cons, List.all_nil, *, Value.oneCell']; exact rfl)) : p := h
theorem zjx (c : Club) (hs : c.Small) (hc : ztg c) : DC Try.prog 20 [c.val] [] (fun u S' => ∃ b, u = .v (.map (some b)) ∧ MapW S' b (zor c)) := by
 have q1 := hs.rounds
 refine DC.of_run Try.func20 rfl Try.ntmps20 Try.results20 (by simp) (fun _ => ?_); simp only [zaf, zai, go_sem, Nat.zero_add, Nat.reduceAdd]
 repeat' (first | (with_reducible first | refine zad yU yU yE ?_ | refine zab ?_ | refine DS.seq ?_ | refine zaa ?_) | (refine zci (t := 1) yU yE yU ?_; simp only [zbh, zcg, zbf, zbv, zbc, zau, zbq, zay, zcd, zcf, zbr, zce, zbu, zbt]) | fail)
 refine yed yR (fun b hb => ?_)
 simp only [zca]
 repeat' (first | (with_reducible first | refine zad yU yU yE ?_ | refine zab ?_ | refine DS.seq ?_ | refine zaa ?_ | refine DS.block ?_) | fail)
 have M0 : MapW [(b, .raw (.map #[] 0))] b (fun _ _ => 0) := ⟨_, _, _, by simp only [zac, if_true], MapIs.empty _ _, fun _ _ _ _ => rfl⟩
 refine zda [3, 14, 15] yN (fun (x : Nat × Sto × W) => [(16, I x.1)]) (fun (x : Nat × Sto × W) => x.2.1) (fun (x : Nat × Sto × W) => x.1 ≤ c.rounds.length ∧ MapW x.2.1 b x.2.2 ∧ zor c = addS (c.rounds.drop x.1) x.2.2) (fun (x : Nat × Sto × W) => c.rounds.length - x.1) (0, [(b, .raw (.map #[] 0))], fun _ _ => 0) yS (fun b o e => by exact e) ⟨Nat.zero_le _, M0, rfl⟩ (fun x B hI hB => ?_); try dsimp only at hI hB; simp only [zaw, zbg]
 obtain ⟨i, S, w⟩ := x
 dsimp only at hI hB
 obtain ⟨g1, g2, g3⟩ := hI
 repeat' (first | (with_reducible first | refine zad yU yU yE ?_ | refine zab ?_ | refine DS.seq ?_ | refine zaa ?_ | (refine zbe yE ?_; refine zeq (fun _ => ?_) (fun _ => ?_)) | refine DS.block ?_ | refine DS.exit yU ?_ | refine DS.skip ?_) | (refine zgt (t := 5) yU yE yU (fun _ => yE) yE yU (by exact ⟨by with_unfolding_all rfl, by with_unfolding_all decide⟩) (fun _ => by simp only [go_sem, Nat.reduceEqDiff, ↓reduceIte]) ?_; simp only [go_sem]) | fail)
 ·rename_i e1
  have hi : i < c.rounds.length := by omega
  have q2 := hs.at hi
  have q3 := q2.tables
  have hB0 := hB
  clear hB
  refine zda [3, 14, 15, 16, 21, 22] yN (fun (y : Nat × Sto × W) => [(23, I y.1)]) (fun (y : Nat × Sto × W) => y.2.1) (fun (y : Nat × Sto × W) => y.1 ≤ (c.rounds[i]'hi).tables.length ∧ MapW y.2.1 b y.2.2 ∧ zor c = addS (c.rounds.drop (i + 1)) (zov ((c.rounds[i]'hi).tables.drop y.1) y.2.2)) (fun (y : Nat × Sto × W) => (c.rounds[i]'hi).tables.length - y.1) (0, S, w) yS (fun b o e => by exact e) ⟨Nat.zero_le _, g2, by rw [g3, List.drop_eq_getElem_cons hi]; rfl⟩ (fun y B hI hB => ?_); try dsimp only at hI hB; simp only [zaw, zbg]
  obtain ⟨k, S1, w1⟩ := y
  dsimp only at hI hB
  obtain ⟨k1, k2, k3⟩ := hI
  clear g2 g3 M0
  repeat' (first | (with_reducible first | refine zad yU yU yE ?_ | refine zab ?_ | refine DS.seq ?_ | refine zaa ?_ | (refine zbe yE ?_; refine zeq (fun _ => ?_) (fun _ => ?_)) | refine DS.blk ?_ | refine DS.block ?_ | refine DS.exit yU ?_ | refine DS.skip ?_) | fail)
  ·rename_i e2
   have hk : k < (c.rounds[i]'hi).tables.length := by omega
   have q4 := q2.table _ (List.getElem_mem hk)
   have hct := hc _ (List.getElem_mem hi) _ (List.getElem_mem hk)
   rw [List.drop_eq_getElem_cons hk, zov] at k3
   have hB1 := hB
   clear hB
   refine zda [3, 7, 14, 15, 16, 21, 22, 23, 27, 28] yN (fun (z : Nat × Sto × W) => [(29, I z.1)]) (fun (z : Nat × Sto × W) => z.2.1) (fun (z : Nat × Sto × W) => z.1 ≤ ((c.rounds[i]'hi).tables[k]'hk).length ∧ MapW z.2.1 b z.2.2 ∧ zor c = addS (c.rounds.drop (i + 1)) (zov ((c.rounds[i]'hi).tables.drop (k + 1)) (addT 1 (((c.rounds[i]'hi).tables[k]'hk).take z.1) (((c.rounds[i]'hi).tables[k]'hk).drop z.1) z.2.2))) (fun (z : Nat × Sto × W) => ((c.rounds[i]'hi).tables[k]'hk).length - z.1) (0, S1, w1) yS (fun b o e => by exact e) ⟨Nat.zero_le _, k2, k3⟩ (fun z B hI hB => ?_); try dsimp only at hI hB; simp only [zaw, zbg]
   obtain ⟨j, S2, w2⟩ := z
   dsimp only at hI hB
   obtain ⟨j1, j2, j3⟩ := hI
   clear k2 k3
   repeat' (first | (with_reducible first | refine zad yU yU yE ?_ | refine zab ?_ | refine DS.seq ?_ | refine zaa ?_ | (refine zbe yE ?_; refine zeq (fun _ => ?_) (fun _ => ?_)) | refine DS.blk ?_ | refine DS.block ?_ | refine DS.exit yU ?_ | refine DS.skip ?_) | fail)
   ·rename_i e3
    have hj : j < ((c.rounds[i]'hi).tables[k]'hk).length := by omega
    have hB2 := hB
    clear hB
    have hle : j ≤ ((c.rounds[i]'hi).tables[k]'hk).length := by omega
    obtain ⟨pre, hpre⟩ : ∃ pre, pre = ((c.rounds[i]'hi).tables[k]'hk).take j := ⟨_, rfl⟩
    have hpl : pre.length = j := by rw [hpre, List.length_take]; omega
    have hpi : ∀ x ∈ pre, In64 x := fun x hx => hct x (List.mem_of_mem_take (hpre ▸ hx))
    have htk : List.take j (List.map cI ((c.rounds[i]'hi).tables[k]'hk)) = pre.map cI := by rw [hpre, List.map_take]
    rw [← hpre] at j3
    have J0 := Hid.mk (And.intro hpre j3)
    clear hpre j3
    repeat' (first | (with_reducible first | refine zad yU yU yX3 ?_ | refine zab ?_ | refine DS.block ?_) | fail)
    clear htk
    refine zda [3, 7, 9, 14, 15, 16, 21, 22, 23, 27, 28, 29, 36, 37] yN (fun (u : Nat × Sto × W) => [(38, I u.1)]) (fun (u : Nat × Sto × W) => u.2.1) (fun (u : Nat × Sto × W) => u.1 ≤ j ∧ MapW u.2.1 b u.2.2 ∧ addR 1 (((c.rounds[i]'hi).tables[k]'hk)[j]'hj) pre w2 = addR 1 (((c.rounds[i]'hi).tables[k]'hk)[j]'hj) (pre.drop u.1) u.2.2) (fun (u : Nat × Sto × W) => j - u.1) (0, S2, w2) yS (fun b o e => by exact e) ⟨Nat.zero_le _, j2, rfl⟩ (fun u B hI hB => ?_); try dsimp only at hI hB; simp only [zaw, zbg]
    obtain ⟨p, S3, w3⟩ := u
    dsimp only at hI hB
    obtain ⟨p1, p2, p3⟩ := hI
    clear j2
    repeat' (first | (with_reducible first | refine zad yU yU yE ?_ | refine zab ?_ | refine DS.seq ?_ | refine zaa ?_ | (refine zbe yE ?_; refine zeq (fun _ => ?_) (fun _ => ?_)) | refine DS.blk ?_ | refine DS.block ?_ | refine DS.exit yU ?_ | refine DS.skip ?_) | fail)
    ·rename_i e4
     have hp : p < pre.length := by omega
     obtain ⟨fm, es, clock, m1, m2, m3⟩ := p2.out
     have hdel : ∀ b' o, zac (delS b S3) b' = some o → zac S3 b' = some o ∧ zac [(b, Ob.raw (.map es clock))] b' = none := fun b' o e => by
      rw [zbw] at e
      split at e
      ·cases e
      ·rename_i hne
       exact ⟨e, by simp only [zac]; rw [if_neg (fun h => hne h.symm)]⟩
     have hone : ∀ b' o, zac [(b, Ob.raw (.map es clock))] b' = some o → zac S3 b' = some o := fun b' o e => by
      simp only [zac] at e
      split at e
      ·rename_i hbb; subst hbb; rw [m1]; exact e
      ·cases e
     have hMp : MpOk Try.prog [⟨b, 58, .int .i64 0, fun x => (fm x).getD (.int .i64 0)⟩] ([(b, Ob.raw (.map es clock))] ++ delS b S3) := fun m hm => by
      rw [List.mem_singleton] at hm
      subst hm
      exact ⟨_, by simp [zac], es, clock, fm, rfl, m2, fun _ => rfl⟩
     refine ztm (id := 14) (delS b S3) ([(b, Ob.raw (.map es clock))]) ([⟨b, 58, .int .i64 0, fun x => (fm x).getD (.int .i64 0)⟩]) [0, 1, 2, 3, 4, 5, 6, 7] 8 (by kernel_rfl) zei (by simp only [zbp, zbx, zby, zbz, zbo]; exact rfl) (by simp only [zbk, zbl, List.drop_nil]; exact rfl) (hMp) (hdel) (hone) ?_
     repeat' (first | with_reducible refine zcj yU yU yU yX4 ?_ | fail)
     have hin1 := hpi _ (List.getElem_mem hp)
     have hin2 := hct _ (List.getElem_mem hj)
     have hkey := keyA hin1 hin2
     have hval := m3 _ _ hin1 hin2
     refine zwv (me := ⟨b, 58, .int .i64 0, fun x => (fm x).getD (.int .i64 0)⟩) (key := kA pre[p] (((c.rounds[i]'hi).tables[k]'hk)[j]'hj)) (List.mem_singleton.2 rfl) kd58 yU yU yR yH yH (V.Is.two _ _) hkey ?_
     simp only [hval, zca]
     repeat' (first | with_reducible refine zcj yU yU yU yE ?_ | fail)
     refine ztp (key := kA pre[p] (((c.rounds[i]'hi).tables[k]'hk)[j]'hj)) kd58 yU yU m2 hkey yH yH (V.Is.two _ _) (by simp only [zac, if_true]) yR (fun me hme _ => by rw [List.mem_singleton] at hme; subst hme; exact ⟨rfl, rfl⟩) (fun st es1 clock1 n1 n2 => ?_)
     simp only [zca]
     repeat' (first | with_reducible refine zmm yU yU yU yU yE ?_ | (with_reducible refine DD.nil ?_; simp only [zaw, zbg]) | fail)
     have hs2 : zac (setS b (Ob.raw (Obj.map es1 clock1)) [(b, Ob.raw (Obj.map es clock))] ++ delS b S3) b = some (Ob.raw (Obj.map es1 clock1)) := by simp [setS, zac]
     refine DS.entryStore n2 yH (by (simp (disch := omega) only [go_sem, dopV, Option.map_some, Option.map_none, Option.bind_some, Option.bind_none, ↓reduceIte, Nat.reduceEqDiff, Nat.reduceLT, Nat.reduceLeDiff, Nat.reduceAdd, Nat.reduceMul, Nat.reduceSub, Nat.zero_add, Nat.add_zero, Nat.zero_le, Nat.zero_mul, Nat.mul_one, Nat.one_mul, Int.natCast_zero, Int.toNat_zero, Int.reduceToNat, Int.reduceLT, Int.reduceLE, Int.reduceEq, decide_true, decide_false, true_and, and_true, Bool.and_self, Bool.and_true, Bool.true_and, Bool.not_true, Bool.not_false, IntWalk.toNatUp, IntWalk.iteOmega, IntWalk.i64_in, Option.isSome_some, not_true_eq_false, not_false_eq_true, Option.getD_some, Option.getD_none, Int.toNat_natCast, List.length_map, List.getElem?_map, List.getElem?_eq_getElem, V.flat, V.one, List.all_cons, List.all_nil, goInt]; try exact rfl)) yH hs2 yR (fun es2 n3 => ?_)
     have hW : MapW (setS b (Ob.raw (Obj.map es2 clock1)) (setS b (Ob.raw (Obj.map es1 clock1)) [(b, Ob.raw (Obj.map es clock))] ++ delS b S3)) b (addP 1 w3 pre[p] (((c.rounds[i]'hi).tables[k]'hk)[j]'hj)) := by
      refine ⟨_, es2, clock1, by rw [zas hs2, if_pos rfl], n3, fun x y hx hy => ?_⟩
      by_cases hxy : x = pre[p] ∧ y = (((c.rounds[i]'hi).tables[k]'hk)[j]'hj)
      ·rw [addP, if_pos hxy, hxy.1, hxy.2, zfm]; rfl
      ·rw [addP, if_neg hxy, zhr _ _ (fun h => hxy (by simp only [kA, Value.agg.injEq] at h; simp at h; exact h)), m3 x y hx hy]
     generalize setS b (Ob.raw (Obj.map es2 clock1)) (setS b (Ob.raw (Obj.map es1 clock1)) [(b, Ob.raw (Obj.map es clock))] ++ delS b S3) = S5 at *
     clear hs2 n3 n2 n1 m1 m2 m3 hMp hdel hone hval hkey
     simp only [zbm]
     repeat' (first | (with_reducible first | refine zad yU yU yE ?_ | refine zab ?_ | refine zaa ?_ | refine DS.blk ?_) | fail)
     refine DS.back (hB (p + 1, S5, addP 1 w3 pre[p] (((c.rounds[i]'hi).tables[k]'hk)[j]'hj)) _ _ (by dsimp only; omega) ⟨by dsimp only; omega, hW, by rw [p3, List.drop_eq_getElem_cons hp, addR]⟩ yS yS (fun b o e => by exact e))
    ·rename_i e4
     have hp : p = j := by omega
     have J := J0.out
     subst hp
     rw [List.drop_eq_nil_of_le (by omega)] at p3
     skip
     refine DS.back (hB2 (p + 1, S3, w3) _ _ (by dsimp only; omega) ⟨by dsimp only; omega, p2, by rw [J.2, List.drop_eq_getElem_cons hj, addT, p3, List.take_succ_eq_append_getElem hj, ← J.1]; rfl⟩ yS yS (fun b o e => by exact e))
   ·rename_i e3
    have hje : j = ((c.rounds[i]'hi).tables[k]'hk).length := by omega
    rw [show ((c.rounds[i]'hi).tables[k]'hk).drop j = [] from List.drop_eq_nil_of_le (by omega)] at j3
    refine DS.back (hB1 (k + 1, S2, w2) _ _ (by dsimp only; omega) ⟨by dsimp only; omega, j2, j3⟩ yS yS (fun b o e => by exact e))
  ·rename_i e2
   rw [show (c.rounds[i]'hi).tables.drop k = [] from List.drop_eq_nil_of_le (by omega)] at k3
   refine DS.back (hB0 (i + 1, S1, w1) _ _ (by dsimp only; omega) ⟨by dsimp only; omega, k2, k3⟩ yS yS (fun b o e => by exact e))
 ·refine zcl yG ⟨b, rfl, ?_⟩
  rw [g3, List.drop_eq_nil_of_le (by omega)]
  exact g2
end Go.XL
namespace Go.XL
open Go.Proofs
set_option maxRecDepth 100000
set_option maxHeartbeats 8000000
theorem zkh {c : Club} {r : Int} : ∀ {T : List (List Int)} {s : List Int} {f : Int}, zdc c r T s f = 0 → ∀ t ∈ T, (t.length : Int) = c.size ∧ zeb c r t none = 0
 | [], _, _, _, _, h => (List.not_mem_nil h).elim
 | t :: l, s, f, e, x, h => by
  simp only [zdc] at e
  split at e
  ·cases e
  rename_i h1
  split at e
  ·rename_i h2; exact absurd e h2
  rename_i h2
  split at e
  ·cases e
  split at e
  ·cases e
  rcases List.mem_cons.1 h with rfl | h
  ·exact ⟨by omega, by omega⟩
  ·exact zkh e x h
theorem zkm {c : Club} : ∀ {n i : Nat}, zdj c i n = 0 → ∀ k, i ≤ k → k < i + n → zem c k = 0 ∧ zid c k = 0
 | 0, i, _, k, h1, h2 => by omega
 | n + 1, i, e, k, h1, h2 => by
  simp only [zdj] at e
  split at e
  ·rename_i h; exact absurd e h
  rename_i h3
  split at e
  ·rename_i h; exact absurd e h
  rename_i h4
  by_cases hk : k = i
  ·subst hk; exact ⟨by omega, by omega⟩
  ·exact zkm e k (by omega) (by omega)
theorem zqv {c : Club} (h : zcm c = 0) : zdj c 0 c.rounds.length = 0 := by
 obtain ⟨h1, h2, h3⟩ := zep h
 unfold zcm at h
 rwa [if_neg (by omega), if_neg (by omega), if_neg (by omega)] at h
theorem zta {c : Club} (h : zcm c = 0) {i : Nat} (hi : i < c.rounds.length) : ∀ t ∈ c.rounds[i].tables, (t.length : Int) = c.size ∧ zeb c i t none = 0 := by
 have h1 := (zkm (zqv h) i (Nat.zero_le _) (by omega)).1
 rw [zem, c.round_at hi] at h1
 exact zkh h1
theorem zxy {c : Club} (h : zcm c = 0) : ∀ s ∈ c.rounds, ygh s.tables := fun s hs t ht => by
 obtain ⟨i, hi, rfl⟩ := List.getElem_of_mem hs
 exact (znj (zta h hi t ht).2).1
theorem zyk {α : Type} (f : α → Nat) (m : Nat) : ∀ l : List α, (∀ x ∈ l, f x ≤ m) → (l.map f).sum ≤ l.length * m
 | [], _ => by simp
 | x :: r, h => by
  have := zyk f m r fun y hy => h y (List.mem_cons_of_mem _ hy)
  have h1 := h x (List.mem_cons_self ..)
  simp only [List.map_cons, List.sum_cons, List.length_cons, Nat.succ_mul]
  omega
theorem zmk {c : Club} (hs : c.Small) (h : zcm c = 0) (x y : Int) : zor c x y = if x < y then (metS c x y : Int) else 0 := by
 have h1 := zyk (fun s : Sitting => s.tables.length) 1000000 c.rounds fun s h => (hs.round s h).tables
 have h2 := hs.rounds
 have h3 : c.rounds.length * 1000000 ≤ 1000000 * 1000000 := Nat.mul_le_mul_right _ h2
 rw [zor, yas c.rounds _ x y (zxy h) ⟨Int.le_refl _, by omega⟩]
 simp only [Int.zero_add]; rfl
theorem zzj (c : Club) (a : Int) : metS c a a = 0 := by
 have k1 : ∀ T, metT a a T = 0 := fun T => by
  induction T with
  | nil => rfl
  | cons t r ih => simp [metT, ih]
 unfold metS
 generalize c.rounds = R
 induction R with
 | nil => rfl
 | cons s r ih => simp [zqi, ih, k1]
theorem zsa {c : Club} (hs : c.Small) (h : zcm c = 0) (a b : Int) : zor c (min a b) (max a b) = metS c a b := by
 rw [zmk hs h]
 rcases Int.lt_trichotomy a b with h1 | h1 | h1
 ·rw [Int.min_eq_left (by omega), Int.max_eq_right (by omega), if_pos h1]
 ·subst h1; rw [Int.min_self, Int.max_self, if_neg (by omega), zzj]; rfl
 ·rw [Int.min_eq_right (by omega), Int.max_eq_left (by omega), if_pos h1, zry]
theorem zzk (c : Club) (hs : c.Small) (hc : ztg c) (a b : Int) (ha : In64 a) (hb : In64 b) : PC Try.prog 10 [c.val, I a, I b] (I (metX c a b)) := by
 rw [metX]
 refine DC.of_run Try.func10 rfl Try.ntmps10 Try.results10 (by simp) (fun _ => ?_); simp only [zaf, zai, go_sem, Nat.zero_add, Nat.reduceAdd]
 repeat' (first | (with_reducible first | refine zad yU yU yE ?_ | refine zab ?_ | refine DS.seq ?_ | refine zaa ?_ | (refine zbe yE ?_; refine zgu (fun _ => ?_) (fun _ => ?_)) | refine DS.skip ?_) | refine zav inferInstance (zdr c hs) yR yT ?_ | (refine zci (t := 3) yU yE yU ?_; simp only [zbh, zcg, zbf, zbv, zbc, zau, zbq, zay, zcd, zcf, zbr, zce, zbu, zbt]) | refine zat [] yE trivial ?_ | fail)
 ·rename_i e1
  rw [if_pos e1]; rfl
 ·rename_i e1
  rw [if_neg (by omega)]
  refine zek inferInstance (zjx c hs hc) yR yH (fun u S' hu => ?_)
  obtain ⟨m, rfl, hw⟩ := hu
  obtain ⟨f, es, clock, m1, m2, m3⟩ := hw.out
  have hin1 : In64 (min a b) := by unfold In64 at *; omega
  have hin2 : In64 (max a b) := by unfold In64 at *; omega
  have hkey := keyA hin1 hin2
  have hval := m3 _ _ hin1 hin2
  rw [zsa hs e1] at hval
  have e2 : min a b = (if b < a then b else a) := by split <;> omega
  have e3 : max a b = (if b > a then b else a) := by split <;> omega
  rw [e2, e3] at hkey hval
  have J := Hid.mk hval
  clear e2 e3 hin1 hin2 hval
  repeat' (first | with_reducible refine zad yU yU yX4 ?_ | fail)
  refine zwr (key := kA (if b < a then b else a) (if b > a then b else a)) kd58 yU yU m2 hkey yH yH (V.Is.two _ _) m1 yR ?_
  rw [J.out]
  simp only [zca]
  clear m1 m2 m3 hw
  repeat' (first | (with_reducible first | refine zad yU yU yE ?_ | refine zab ?_) | refine zat [] yE trivial ?_ | fail)
  rfl
end Go.XL
namespace Go.XL
structure GoodW (B : Int) (met : Int → Int → Bool) (w : W) : Prop where
 is : ∀ a b, a < b → met a b = decide (0 < w a b)
 bd : ∀ a b, 0 ≤ w a b ∧ w a b ≤ B
 sym : ∀ a b, met a b = met b a
theorem GoodW.mono {B B' : Int} {met : Int → Int → Bool} {w : W} (g : GoodW B met w) (h : B ≤ B') : GoodW B' met w := ⟨g.is, fun a b => ⟨(g.bd a b).1, Int.le_trans (g.bd a b).2 h⟩, g.sym⟩
theorem GoodW.add {B : Int} {met : Int → Int → Bool} {w : W} (g : GoodW B met w) (hB : B < 9223372036854775807) {t : List Int} (ht : t.Pairwise (· < ·)) : GoodW (B + 1) (zkp met t) (addT 1 [] t w) := by
 have e : ∀ x y, addT 1 [] t w x y = if x ∈ t ∧ y ∈ t ∧ x < y then w x y + 1 else w x y := fun x y => by
  have h := zoi 1 t [] w x y (by simpa using ht)
  simp only [List.nil_append] at h
  have hb := g.bd x y
  rw [h, zrl (by omega)]
 refine ⟨fun a b hab => ?_, fun a b => ?_, fun a b => ?_⟩
 ·rw [e, zkp]
  have hb := g.bd a b
  by_cases h : a ∈ t ∧ b ∈ t
  ·rw [if_pos ⟨h.1, h.2, by omega⟩, if_pos ⟨h.1, h.2, hab⟩]
   exact (decide_eq_true (by omega)).symm
  ·rw [if_neg (fun h' => h ⟨h'.1, h'.2.1⟩), if_neg (fun h' => h ⟨h'.1, h'.2.1⟩)]
   exact g.is a b hab
 ·rw [e]
  have hb := g.bd a b
  split <;> omega
 ·simp only [zkp, g.sym a b]
  by_cases h : a ∈ t ∧ b ∈ t ∧ a ≠ b
  ·rw [if_pos h, if_pos ⟨h.2.1, h.1, h.2.2.symm⟩]
  ·rw [if_neg h, if_neg (fun h' => h ⟨h'.2.1, h'.1, h'.2.2.symm⟩)]
theorem yar {B : Int} {met : Int → Int → Bool} {w : W} (g : GoodW B met w) (hB : B < 9223372036854775807) {t : List Int} (ht : t.Pairwise (· < ·)) : addT (-1) [] t (addT 1 [] t w) = w := by
 funext x y
 have h1 := zoi 1 t [] w x y (by simpa using ht)
 have h2 := zoi (-1) t [] (addT 1 [] t w) x y (by simpa using ht)
 simp only [List.nil_append] at h1 h2
 have hb := g.bd x y
 rw [h2, h1]
 split
 ·rw [zrl (n := w x y + 1) (by omega), zrl (by omega)]; omega
 ·rfl
theorem zxf {B : Int} {met : Int → Int → Bool} {w : W} (g : GoodW B met w) {t : List Int} {id : Int} (h : ∀ a ∈ t, a < id) : zdi met t id = !t.any fun a => decide (0 < w a id) := by
 induction t with
 | nil => rfl
 | cons a r ih =>
  have h1 := g.is a id (h a (List.mem_cons_self ..))
  have h2 := ih fun b hb => h b (List.mem_cons_of_mem _ hb)
  simp only [zdi, List.all_cons, List.any_cons, h1] at h2 ⊢
  rw [h2]; simp
theorem zsq (st : List Int → Int → Bool) : ∀ (n : Nat) (t ids : List Int), (t ++ ids).Pairwise (· < ·) → ∀ x ∈ zjm st n t ids, x.length = t.length + n ∧ x.Sublist (t ++ ids) ∧ x.Pairwise (· < ·)
 | 0, t, ids, h, x, hx => by
  simp only [zjm, List.mem_singleton] at hx; subst hx
  exact ⟨rfl, List.sublist_append_left .., (List.pairwise_append.1 h).1⟩
 | n + 1, t, ids, h, x, hx => by
  have key : ∀ l : List Int, l.Sublist ids → ∀ x ∈ zgc st (zjm st n) t l, x.length = t.length + (n + 1) ∧ x.Sublist (t ++ l) ∧ x.Pairwise (· < ·) := by
   intro l
   induction l with
   | nil => intro _ x hx; simp [zgc] at hx
   | cons id r ih =>
    intro hl x hx
    simp only [zgc, List.mem_append] at hx
    rcases hx with hx | hx
    ·split at hx
     ·have hp : ((t ++ [id]) ++ r).Pairwise (· < ·) := by
       have : (t ++ id :: r).Pairwise (· < ·) := h.sublist (List.Sublist.append (List.Sublist.refl t) hl)
       simpa using this
      obtain ⟨h1, h2, h3⟩ := zsq st n (t ++ [id]) r hp x hx
      exact ⟨by simp at h1; omega, by simpa using h2, h3⟩
     ·simp at hx
    ·obtain ⟨h1, h2, h3⟩ := ih ((List.sublist_cons_self ..).trans hl) x hx
     exact ⟨h1, h2.trans (List.Sublist.append (List.Sublist.refl t) (List.sublist_cons_self ..)), h3⟩
  exact key ids (List.Sublist.refl _) x hx
theorem zsr {st : List Int → Int → Bool} {f : List Int → List Int → List (List Int)} {t l : List Int} {i : Nat} (h : i < l.length) : zgc st f t (l.drop i) = (if st t l[i] = true then f (t ++ [l[i]]) (l.drop (i + 1)) else []) ++ zgc st f t (l.drop (i + 1)) := by
 rw [List.drop_eq_getElem_cons h, zgc]
end Go.XL
namespace Go.XL
open Go.Proofs
set_option maxRecDepth 100000
set_option maxHeartbeats 8000000
def pC (size budget steps : Int) (rs : List (List Int)) (bp R bm : Nat) : List V := [I size, I budget, I steps, rows rs, .v (.slice (some ⟨bp, 0, none⟩) R R), .v (.map (some bm))]
@[go_sem] theorem zzg (size budget steps : Int) (rs : List (List Int)) (bp R bm : Nat) : pC size budget steps rs bp R bm = [I size, I budget, I steps, rows rs, .v (.slice (some ⟨bp, 0, none⟩) R R), .v (.map (some bm))] := rfl
abbrev TP : Nat := 82
theorem yX5 {p : Prop} (h : p := by (simp (disch := omega) only [go_sem, dopV, Option.map_some, Option.map_none, Option.bind_some, Option.bind_none, ↓reduceIte, Nat.reduceEqDiff, Nat.reduceLT, Nat.reduceLeDiff, Nat.reduceAdd, Nat.reduceMul, Nat.reduceSub, Nat.zero_add, Nat.add_zero, Nat.zero_le, Nat.zero_mul, Nat.mul_one, Nat.one_mul, Int.natCast_zero, Int.toNat_zero, Int.reduceToNat, Int.reduceLT, Int.reduceLE, Int.reduceEq, decide_true, decide_false, true_and, and_true, Bool.and_self, Bool.and_true, Bool.true_and, Bool.not_true, Bool.not_false, IntWalk.toNatUp, IntWalk.iteOmega, IntWalk.i64_in, Option.isSome_some, not_true_eq_false, not_false_eq_true, Option.getD_some, Option.getD_none, Int.toNat_natCast, List.length_map, List.getElem?_map, List.getElem?_eq_getElem, V.flat, V.one, List.all_cons, List.all_nil, *, zzg, Value.oneCell']; exact rfl)) : p := h
theorem zro (S : Sto) {bx bp R bm : Nat} {size budget steps : Int} {rs : List (List Int)} {w : W} (hx : zac S bx = some (.cells (pC size budget steps rs bp R bm) TP)) (hw : MapW S bm w) (a id : Int) (ha : In64 a) (hid : In64 id) :
  RC Try.prog 80 [I a, .plc [.v (.pointer (some ⟨bx, 0, none⟩))], .plc [I id]] S (Bo (decide (0 < w a id))) := by
 obtain ⟨f, es, clock, m1, m2, m3⟩ := hw.out
 have hkey := keyA ha hid
 have hval := m3 _ _ ha hid
 have J := Hid.mk hval
 clear hval m3 hw
 refine DC.of_run Try.func80 rfl Try.ntmps80 Try.results80 (by simp) (fun _ => ?_); simp only [zaf, zai, go_sem, Nat.zero_add, Nat.reduceAdd]
 repeat' (first | (with_reducible first | refine zad yU yU yX5 ?_ | refine zab ?_ | refine DS.seq ?_ | refine zaa ?_) | refine zcr (id := 1) [0, 1, 2, 3, 4, 5, 6] 7 (by kernel_rfl) zei (by simp only [zbp, zbx, zby, zbz, zbo]; exact rfl) (by simp only [zbk, zbl, List.drop_nil]; exact rfl) ?_ | (with_reducible first | refine zcj yU yU yU yX5 ?_ | refine zdm ?_) | fail)
 refine zwr (key := kA a id) kd58 yU yU m2 hkey yH yH (V.Is.two _ _) m1 yR ?_
 rw [J.out]
 simp only [zca]
 clear m1 m2 J hkey
 repeat' (first | (with_reducible first | refine zad yU yU yE ?_ | refine zab ?_) | refine zcl yE ⟨?_, rfl⟩ | fail)
 rfl
theorem zou (S : Sto) (l : List Int) {g : FuncId} {fs cs : List V} {fn : Func} (p : Int → Bool) (hf : FnOk Try.prog g fn) (h : ∀ x ∈ l, RC Try.prog g (fs ++ [I x] ++ cs) S (Bo (p x))) :
  RC Try.prog 70 [ints l, .fn g fs cs] S (I (idxF p l 0)) := by
 refine DC.of_run Try.func70 rfl Try.ntmps70 Try.results70 (by simp) (fun _ => ?_); simp only [zaf, zai, go_sem, Nat.zero_add, Nat.reduceAdd]
 refine zhv (t := 0) yG (.inl rfl) (fun hb0 => ?_); simp only [List.length_map] at hb0
 repeat' (first | (with_reducible first | refine zad yU yU yE ?_ | refine zab ?_ | refine DS.seq ?_ | refine zaa ?_ | refine DS.block ?_) | fail)
 refine zcp [0, 1, 7] yN (fun (i : Nat) => [(8, I i)]) (fun (i : Nat) => i ≤ l.length ∧ idxF p l 0 = idxF p (l.drop i) i) (fun (i : Nat) => l.length - i) 0 yS ⟨Nat.zero_le _, rfl⟩ (fun i B hI hB => ?_); try dsimp only at hI hB; simp only [zaw, zbg]
 repeat' (first | (with_reducible first | refine zad yU yU yE ?_ | refine zab ?_ | refine DS.seq ?_ | refine zaa ?_ | (refine zbe yE ?_; refine zeq (fun _ => ?_) (fun _ => ?_)) | refine DS.block ?_ | refine DS.exit yU ?_ | refine DS.skip ?_) | refine zcl yE ⟨?_, rfl⟩ | fail)
 ·refine ybd hf (by simp (disch := omega) only [go_sem, dopV, Option.map_some, Option.map_none, Option.bind_some, Option.bind_none, ↓reduceIte, Nat.reduceEqDiff, Nat.reduceLT, Nat.reduceLeDiff, Nat.reduceAdd, Nat.reduceMul, Nat.reduceSub, Nat.zero_add, Nat.add_zero, Nat.zero_le, Nat.zero_mul, Nat.mul_one, Nat.one_mul, Int.natCast_zero, Int.toNat_zero, Int.reduceToNat, Int.reduceLT, Int.reduceLE, Int.reduceEq, decide_true, decide_false, true_and, and_true, Bool.and_self, Bool.and_true, Bool.true_and, Bool.not_true, Bool.not_false, IntWalk.toNatUp, IntWalk.iteOmega, IntWalk.i64_in, Option.isSome_some, not_true_eq_false, not_false_eq_true, Option.getD_some, Option.getD_none, Int.toNat_natCast, List.length_map, List.getElem?_map, List.getElem?_eq_getElem, V.flat, V.one, List.all_cons, List.all_nil]) (h l[i] (List.getElem_mem _)) yR yH ?_
  repeat' (first | (with_reducible first | refine zad yU yU yE ?_ | refine zab ?_ | refine DS.seq ?_ | refine zaa ?_ | (refine zbe yE ?_; refine ygg (fun _ => ?_) (fun _ => ?_)) | refine DS.blk ?_ | refine DS.skip ?_) | refine zcl yE ⟨?_, rfl⟩ | fail)
  ·rename_i h1 h2
   rw [hI.2, zja (p := p) (l := l) (i := i) (by omega) h2]; rfl
  ·rename_i h1 h2
   exact DS.back (hB (i + 1) _ _ (by omega) (⟨by omega, by rw [hI.2, zhb (by omega) h2]⟩) yS yS (fun b o e => by first | exact e | (simp only [zae]; split <;> simp_all)))
 ·rw [hI.2, zjb (p := p) (l := l) (i := i) (by omega)]; rfl
theorem zmd (S : Sto) (l : List Int) {g : FuncId} {fs cs : List V} {fn : Func} (p : Int → Bool) (hf : FnOk Try.prog g fn) (h : ∀ x ∈ l, RC Try.prog g (fs ++ [I x] ++ cs) S (Bo (p x))) :
  RC Try.prog 51 [ints l, .fn g fs cs] S (Bo (l.any p)) := by
 refine DC.of_run Try.func51 rfl Try.ntmps51 Try.results51 (by simp) (fun _ => ?_); simp only [zaf, zai, go_sem, Nat.zero_add, Nat.reduceAdd]
 repeat' (first | (with_reducible first | refine zad yU yU yE ?_ | refine zab ?_ | refine DS.seq ?_ | refine zaa ?_) | refine zjs inferInstance (zou S l p hf h) yR yT ?_ | refine zcl yE ⟨?_, rfl⟩ | fail)
 rw [zes, zkt]
theorem ztu (S : Sto) {bx bp R bm : Nat} {size budget steps : Int} {rs : List (List Int)} {w : W} (hx : zac S bx = some (.cells (pC size budget steps rs bp R bm) TP)) (hw : MapW S bm w) (t : List Int) (id : Int) (ha : ∀ a ∈ t, In64 a) (hid : In64 id) :
  RC Try.prog 78 [.v (.pointer (some ⟨bx, 0, none⟩)), ints t, I id] S (Bo (!t.any fun a => decide (0 < w a id))) := by
 have hcf := zmd S t (fun a => decide (0 < w a id)) inferInstance (g := 80) (fs := []) (cs := [.plc [.v (.pointer (some ⟨bx, 0, none⟩))], .plc [I id]]) (fun x hx' => zro S hx hw x id (ha x hx') hid)
 clear hx hw
 refine DC.of_run Try.func78 rfl Try.ntmps78 Try.results78 (by simp) (fun _ => ?_); simp only [zaf, zai, go_sem, Nat.zero_add, Nat.reduceAdd]
 repeat' (first | (with_reducible first | refine zad yU yU yE ?_ | refine zab ?_ | refine DS.seq ?_ | refine zaa ?_) | refine zjs inferInstance (hcf) yR yT ?_ | (refine zci (t := 3) yU yE yU ?_; simp only [zbh, zcg, zbf, zbv, zbc, zau, zbq, zay, zcd, zcf, zbr, zce, zbu, zbt]) | (refine zci (t := 5) yU yE yU ?_; simp only [zbh, zcg, zbf, zbv, zbc, zau, zbq, zay, zcd, zcf, zbr, zce, zbu, zbt]) | refine zcl yE ⟨?_, rfl⟩ | fail)
 rfl
theorem yX6 {p : Prop} (h : p := by (simp (disch := omega) only [go_sem, dopV, Option.map_some, Option.map_none, Option.bind_some, Option.bind_none, ↓reduceIte, Nat.reduceEqDiff, Nat.reduceLT, Nat.reduceLeDiff, Nat.reduceAdd, Nat.reduceMul, Nat.reduceSub, Nat.zero_add, Nat.add_zero, Nat.zero_le, Nat.zero_mul, Nat.mul_one, Nat.one_mul, Int.natCast_zero, Int.toNat_zero, Int.reduceToNat, Int.reduceLT, Int.reduceLE, Int.reduceEq, decide_true, decide_false, true_and, and_true, Bool.and_self, Bool.and_true, Bool.true_and, Bool.not_true, Bool.not_false, IntWalk.toNatUp, IntWalk.iteOmega, IntWalk.i64_in, Option.isSome_some, not_true_eq_false, not_false_eq_true, Option.getD_some, Option.getD_none, Int.toNat_natCast, List.length_map, List.getElem?_map, List.getElem?_eq_getElem, V.flat, V.one, List.all_cons, List.all_nil, *, Value.oneCell', zzg]; exact rfl)) : p := h
theorem zyh (S : Sto) {bx bp R bm : Nat} {size budget steps : Int} {rs : List (List Int)} {w : W} (hx : zac S bx = some (.cells (pC size budget steps rs bp R bm) TP)) (hw : MapW S bm w) (hbx : bx ≠ bm) (t : List Int) (by' : Int) (ht : ∀ a ∈ t, In64 a) (hl : t.length ≤ 1000000) :
  DC Try.prog 67 [.v (.pointer (some ⟨bx, 0, none⟩)), ints t, I by'] S (fun _ S' => MapW S' bm (addT by' [] t w) ∧ ∀ b, b ≠ bm → zac S' b = zac S b) := by
 refine DC.of_run Try.func67 rfl Try.ntmps67 Try.results67 (by simp) (fun _ => ?_); simp only [zaf, zai, go_sem, Nat.zero_add, Nat.reduceAdd]
 repeat' (first | (with_reducible first | refine zad yU yU yE ?_ | refine zab ?_ | refine DS.seq ?_ | refine zaa ?_ | refine DS.block ?_) | fail)
 refine zda [0, 1, 2, 10, 11] yN (fun (z : Nat × Sto × W) => [(12, I z.1)]) (fun (z : Nat × Sto × W) => z.2.1) (fun (z : Nat × Sto × W) => z.1 ≤ t.length ∧ MapW z.2.1 bm z.2.2 ∧ (∀ b, b ≠ bm → zac z.2.1 b = zac S b) ∧ addT by' [] t w = addT by' (t.take z.1) (t.drop z.1) z.2.2) (fun (z : Nat × Sto × W) => t.length - z.1) (0, S, w) yS (fun b o e => by exact e) ⟨Nat.zero_le _, hw, fun _ _ => rfl, rfl⟩ (fun z B hI hB => ?_); try dsimp only at hI hB; simp only [zaw, zbg]
 obtain ⟨j, S2, w2⟩ := z
 dsimp only at hI hB
 obtain ⟨j1, j2, j4, j3⟩ := hI
 repeat' (first | (with_reducible first | refine zad yU yU yE ?_ | refine zab ?_ | refine DS.seq ?_ | refine zaa ?_ | (refine zbe yE ?_; refine zeq (fun _ => ?_) (fun _ => ?_)) | refine DS.block ?_ | refine DS.exit yU ?_ | refine DS.skip ?_) | fail)
 ·rename_i e3
  have hj : j < t.length := by omega
  have hB2 := hB
  clear hB
  have hle : j ≤ t.length := by omega
  obtain ⟨pre, hpre⟩ : ∃ pre, pre = t.take j := ⟨_, rfl⟩
  have hpl : pre.length = j := by rw [hpre, List.length_take]; omega
  have hpi : ∀ x ∈ pre, In64 x := fun x hx => ht x (List.mem_of_mem_take (hpre ▸ hx))
  have htk : List.take j (List.map cI t) = pre.map cI := by rw [hpre, List.map_take]
  rw [← hpre] at j3
  have J0 := Hid.mk (And.intro hpre j3)
  have J1 := Hid.mk hx
  clear hpre j3 hx
  repeat' (first | (with_reducible first | refine zad yU yU yX3 ?_ | refine zab ?_ | refine DS.block ?_) | fail)
  clear htk
  refine zda [0, 1, 2, 7, 10, 11, 12, 19, 20] yN (fun (u : Nat × Sto × W) => [(21, I u.1)]) (fun (u : Nat × Sto × W) => u.2.1) (fun (u : Nat × Sto × W) => u.1 ≤ j ∧ MapW u.2.1 bm u.2.2 ∧ (∀ b, b ≠ bm → zac u.2.1 b = zac S b) ∧ addR by' (t[j]'hj) pre w2 = addR by' (t[j]'hj) (pre.drop u.1) u.2.2) (fun (u : Nat × Sto × W) => j - u.1) (0, S2, w2) yS (fun b o e => by exact e) ⟨Nat.zero_le _, j2, j4, rfl⟩ (fun u B hI hB => ?_); try dsimp only at hI hB; simp only [zaw, zbg]
  obtain ⟨p, S3, w3⟩ := u
  dsimp only at hI hB
  obtain ⟨p1, p2, p4, p3⟩ := hI
  clear j2 j4
  repeat' (first | (with_reducible first | refine zad yU yU yE ?_ | refine zab ?_ | refine DS.seq ?_ | refine zaa ?_ | (refine zbe yE ?_; refine zeq (fun _ => ?_) (fun _ => ?_)) | refine DS.blk ?_ | refine DS.block ?_ | refine DS.exit yU ?_ | refine DS.skip ?_) | fail)
  ·rename_i e4
   have hp : p < pre.length := by omega
   obtain ⟨fm, es, clock, m1, m2, m3⟩ := p2.out
   have hdel : ∀ b' o, zac (delS bm S3) b' = some o → zac S3 b' = some o ∧ zac [(bm, Ob.raw (.map es clock))] b' = none := fun b' o e => by
    rw [zbw] at e
    split at e
    ·cases e
    ·rename_i hne
     exact ⟨e, by simp only [zac]; rw [if_neg (fun h => hne h.symm)]⟩
   have hone : ∀ b' o, zac [(bm, Ob.raw (.map es clock))] b' = some o → zac S3 b' = some o := fun b' o e => by
    simp only [zac] at e
    split at e
    ·rename_i hbb; subst hbb; rw [m1]; exact e
    ·cases e
   have hMp : MpOk Try.prog [⟨bm, 58, .int .i64 0, fun x => (fm x).getD (.int .i64 0)⟩] ([(bm, Ob.raw (.map es clock))] ++ delS bm S3) := fun m hm => by
    rw [List.mem_singleton] at hm
    subst hm
    exact ⟨_, by simp [zac], es, clock, fm, rfl, m2, fun _ => rfl⟩
   have hxd : zac (delS bm S3) bx = some (.cells (pC size budget steps rs bp R bm) TP) := by rw [zbw, if_neg hbx, p4 bx hbx]; exact J1.out
   refine ztm (id := 6) (delS bm S3) ([(bm, Ob.raw (.map es clock))]) ([⟨bm, 58, .int .i64 0, fun x => (fm x).getD (.int .i64 0)⟩]) [0, 1, 2, 3, 4, 5, 6, 7, 8, 9, 10, 11] 12 (by kernel_rfl) zei (by simp only [zbp, zbx, zby, zbz, zbo]; exact rfl) (by simp only [zbk, zbl, List.drop_nil]; exact rfl) (hMp) (hdel) (hone) ?_
   repeat' (first | with_reducible refine zcj yU yU yU yX6 ?_ | fail)
   have hin1 := hpi _ (List.getElem_mem hp)
   have hin2 := ht _ (List.getElem_mem hj)
   have hkey := keyA hin1 hin2
   have hval := m3 _ _ hin1 hin2
   refine zwv (me := ⟨bm, 58, .int .i64 0, fun x => (fm x).getD (.int .i64 0)⟩) (key := kA pre[p] (t[j]'hj)) (List.mem_singleton.2 rfl) kd58 yU yU yR yH yH (V.Is.two _ _) hkey ?_
   simp only [hval, zca]
   repeat' (first | with_reducible refine zcj yU yU yU yE ?_ | fail)
   refine ztp (key := kA pre[p] (t[j]'hj)) kd58 yU yU m2 hkey yH yH (V.Is.two _ _) (by simp only [zac, if_true]) yR (fun me hme _ => by rw [List.mem_singleton] at hme; subst hme; exact ⟨rfl, rfl⟩) (fun st es1 clock1 n1 n2 => ?_)
   simp only [zca]
   repeat' (first | with_reducible refine zmm yU yU yU yU yE ?_ | (with_reducible refine DD.nil ?_; simp only [zaw, zbg]) | fail)
   have hs2 : zac (setS bm (Ob.raw (Obj.map es1 clock1)) [(bm, Ob.raw (Obj.map es clock))] ++ delS bm S3) bm = some (Ob.raw (Obj.map es1 clock1)) := by simp [setS, zac]
   refine DS.entryStore n2 yH (by (simp (disch := omega) only [go_sem, dopV, Option.map_some, Option.map_none, Option.bind_some, Option.bind_none, ↓reduceIte, Nat.reduceEqDiff, Nat.reduceLT, Nat.reduceLeDiff, Nat.reduceAdd, Nat.reduceMul, Nat.reduceSub, Nat.zero_add, Nat.add_zero, Nat.zero_le, Nat.zero_mul, Nat.mul_one, Nat.one_mul, Int.natCast_zero, Int.toNat_zero, Int.reduceToNat, Int.reduceLT, Int.reduceLE, Int.reduceEq, decide_true, decide_false, true_and, and_true, Bool.and_self, Bool.and_true, Bool.true_and, Bool.not_true, Bool.not_false, IntWalk.toNatUp, IntWalk.iteOmega, IntWalk.i64_in, Option.isSome_some, not_true_eq_false, not_false_eq_true, Option.getD_some, Option.getD_none, Int.toNat_natCast, List.length_map, List.getElem?_map, List.getElem?_eq_getElem, V.flat, V.one, List.all_cons, List.all_nil, goInt]; try exact rfl)) yH hs2 yR (fun es2 n3 => ?_)
   have hW : MapW (setS bm (Ob.raw (Obj.map es2 clock1)) (setS bm (Ob.raw (Obj.map es1 clock1)) [(bm, Ob.raw (Obj.map es clock))] ++ delS bm S3)) bm (addP by' w3 pre[p] (t[j]'hj)) := by
    refine ⟨_, es2, clock1, by rw [zas hs2, if_pos rfl], n3, fun x y hx hy => ?_⟩
    by_cases hxy : x = pre[p] ∧ y = (t[j]'hj)
    ·rw [addP, if_pos hxy, hxy.1, hxy.2, zfm]; rfl
    ·rw [addP, if_neg hxy, zhr _ _ (fun h => hxy (by simp only [kA, Value.agg.injEq] at h; simp at h; exact h)), m3 x y hx hy]
   have hF : ∀ b, b ≠ bm → zac (setS bm (Ob.raw (Obj.map es2 clock1)) (setS bm (Ob.raw (Obj.map es1 clock1)) [(bm, Ob.raw (Obj.map es clock))] ++ delS bm S3)) b = zac S b := fun b hb => by
    rw [zas hs2, if_neg hb, ← p4 b hb, zba]
    have h1 : zac (setS bm (Ob.raw (Obj.map es1 clock1)) [(bm, Ob.raw (Obj.map es clock))]) b = none := by
     rw [zas (o0 := Ob.raw (Obj.map es clock)) (by simp [zac]), if_neg hb]; simp only [zac]; rw [if_neg (fun h => hb h.symm)]
    rw [h1]
    simp only []
    rw [zbw, if_neg hb]
   generalize setS bm (Ob.raw (Obj.map es2 clock1)) (setS bm (Ob.raw (Obj.map es1 clock1)) [(bm, Ob.raw (Obj.map es clock))] ++ delS bm S3) = S5 at *
   clear hs2 n3 n2 n1 m1 m2 m3 hMp hdel hone hval hkey hxd
   simp only [zbm]
   repeat' (first | (with_reducible first | refine zad yU yU yE ?_ | refine zab ?_ | refine zaa ?_ | refine DS.blk ?_) | fail)
   refine DS.back (hB (p + 1, S5, addP by' w3 pre[p] (t[j]'hj)) _ _ (by dsimp only; omega) ⟨by dsimp only; omega, hW, hF, by rw [p3, List.drop_eq_getElem_cons hp, addR]⟩ yS yS (fun b o e => by exact e))
  ·rename_i e4
   have hp : p = j := by omega
   have J := J0.out
   subst hp
   rw [List.drop_eq_nil_of_le (by omega)] at p3
   skip
   refine DS.back (hB2 (p + 1, S3, w3) _ _ (by dsimp only; omega) ⟨by dsimp only; omega, p2, p4, by rw [J.2, List.drop_eq_getElem_cons hj, addT, p3, List.take_succ_eq_append_getElem hj, ← J.1]; rfl⟩ yS yS (fun b o e => by exact e))
 ·rename_i e3
  rw [List.drop_eq_nil_of_le (by omega)] at j3
  refine zoj yG ⟨?_, j4⟩
  rw [j3]
  exact j2
end Go.XL
namespace Go.XL
open Go.Proofs
set_option maxRecDepth 100000
set_option maxHeartbeats 8000000
theorem ydp (t : List Int) (id : Int) : PC Try.prog 69 [I id, .plc [ints t]] (Bo (decide (id ∈ t))) := by
 refine DC.of_run Try.func69 rfl Try.ntmps69 Try.results69 (by simp) (fun _ => ?_); simp only [zaf, zai, go_sem, Nat.zero_add, Nat.reduceAdd]
 repeat' (first | (with_reducible first | refine zad yU yU yE ?_ | refine zab ?_ | refine DS.seq ?_ | refine zaa ?_) | refine zav inferInstance (zup t id) yR yT ?_ | refine zat [] yE trivial ?_ | fail)
 rfl
def capF (bx l bf : Nat) : List V := [.plc [.v (.pointer (some ⟨bx, 0, none⟩))], .plc [V.yl l], .v (.pointer (some ⟨bf, 0, none⟩))]
structure FEnv (S : Sto) (bx l bf : Nat) (size : Int) (met : Int → Int → Bool) : Prop where
 self : zac S bf = some (.cells [.fn 77 [] (capF bx l bf)] 46)
 srch : ∃ budget steps rs bp R bm w B, zac S bx = some (.cells (pC size budget steps rs bp R bm) TP) ∧ MapW S bm w ∧ GoodW B met w ∧ bx ≠ bm ∧ bf ≠ bx ∧ bf ≠ bm
theorem yX7 {p : Prop} (h : p := by (simp (disch := omega) only [go_sem, dopV, Option.map_some, Option.map_none, Option.bind_some, Option.bind_none, ↓reduceIte, Nat.reduceEqDiff, Nat.reduceLT, Nat.reduceLeDiff, Nat.reduceAdd, Nat.reduceMul, Nat.reduceSub, Nat.zero_add, Nat.add_zero, Nat.zero_le, Nat.zero_mul, Nat.mul_one, Nat.one_mul, Int.natCast_zero, Int.toNat_zero, Int.reduceToNat, Int.reduceLT, Int.reduceLE, Int.reduceEq, decide_true, decide_false, true_and, and_true, Bool.and_self, Bool.and_true, Bool.true_and, Bool.not_true, Bool.not_false, IntWalk.toNatUp, IntWalk.iteOmega, IntWalk.i64_in, Option.isSome_some, not_true_eq_false, not_false_eq_true, Option.getD_some, Option.getD_none, Int.toNat_natCast, List.length_map, List.getElem?_map, List.getElem?_eq_getElem, V.flat, V.one, List.all_cons, List.all_nil, *, zzg]; exact rfl)) : p := h
theorem yX8 {p : Prop} (h : p := by (simp (disch := omega) only [go_sem, dopV, Option.map_some, Option.map_none, Option.bind_some, Option.bind_none, ↓reduceIte, Nat.reduceEqDiff, Nat.reduceLT, Nat.reduceLeDiff, Nat.reduceAdd, Nat.reduceMul, Nat.reduceSub, Nat.zero_add, Nat.add_zero, Nat.zero_le, Nat.zero_mul, Nat.mul_one, Nat.one_mul, Int.natCast_zero, Int.toNat_zero, Int.reduceToNat, Int.reduceLT, Int.reduceLE, Int.reduceEq, decide_true, decide_false, true_and, and_true, Bool.and_self, Bool.and_true, Bool.true_and, Bool.not_true, Bool.not_false, IntWalk.toNatUp, IntWalk.iteOmega, IntWalk.i64_in, Option.isSome_some, not_true_eq_false, not_false_eq_true, Option.getD_some, Option.getD_none, Int.toNat_natCast, List.length_map, List.getElem?_map, List.getElem?_eq_getElem, V.flat, V.one, List.all_cons, List.all_nil, *, znq, List.forall_mem_map, implies_true, zkf, zgo]; exact rfl)) : p := h
theorem yX9 {p : Prop} (h : p := by (simp (disch := omega) only [go_sem, dopV, Option.map_some, Option.map_none, Option.bind_some, Option.bind_none, ↓reduceIte, Nat.reduceEqDiff, Nat.reduceLT, Nat.reduceLeDiff, Nat.reduceAdd, Nat.reduceMul, Nat.reduceSub, Nat.zero_add, Nat.add_zero, Nat.zero_le, Nat.zero_mul, Nat.mul_one, Nat.one_mul, Int.natCast_zero, Int.toNat_zero, Int.reduceToNat, Int.reduceLT, Int.reduceLE, Int.reduceEq, decide_true, decide_false, true_and, and_true, Bool.and_self, Bool.and_true, Bool.true_and, Bool.not_true, Bool.not_false, IntWalk.toNatUp, IntWalk.iteOmega, IntWalk.i64_in, Option.isSome_some, not_true_eq_false, not_false_eq_true, Option.getD_some, Option.getD_none, Int.toNat_natCast, List.length_map, List.getElem?_map, List.getElem?_eq_getElem, V.flat, V.one, List.all_cons, List.all_nil, *, znq, List.forall_mem_map, implies_true, zkf, zgo]; try exact rfl)) : p := h
theorem yX10 {p : Prop} (h : p := by first | exact rfl | (simp (disch := omega) only [go_sem, dopV, Option.map_some, Option.map_none, Option.bind_some, Option.bind_none, ↓reduceIte, Nat.reduceEqDiff, Nat.reduceLT, Nat.reduceLeDiff, Nat.reduceAdd, Nat.reduceMul, Nat.reduceSub, Nat.zero_add, Nat.add_zero, Nat.zero_le, Nat.zero_mul, Nat.mul_one, Nat.one_mul, Int.natCast_zero, Int.toNat_zero, Int.reduceToNat, Int.reduceLT, Int.reduceLE, Int.reduceEq, decide_true, decide_false, true_and, and_true, Bool.and_self, Bool.and_true, Bool.true_and, Bool.not_true, Bool.not_false, IntWalk.toNatUp, IntWalk.iteOmega, IntWalk.i64_in, Option.isSome_some, not_true_eq_false, not_false_eq_true, Option.getD_some, Option.getD_none, Int.toNat_natCast, List.length_map, List.getElem?_map, List.getElem?_eq_getElem, V.flat, V.one, List.all_cons, List.all_nil, *, znq, List.forall_mem_map, implies_true, zkf, zgo]; exact rfl)) : p := h
theorem yX11 {p : Prop} (h : p := by (simp (disch := omega) only [go_sem, dopV, Option.map_some, Option.map_none, Option.bind_some, Option.bind_none, ↓reduceIte, Nat.reduceEqDiff, Nat.reduceLT, Nat.reduceLeDiff, Nat.reduceAdd, Nat.reduceMul, Nat.reduceSub, Nat.zero_add, Nat.add_zero, Nat.zero_le, Nat.zero_mul, Nat.mul_one, Nat.one_mul, Int.natCast_zero, Int.toNat_zero, Int.reduceToNat, Int.reduceLT, Int.reduceLE, Int.reduceEq, decide_true, decide_false, true_and, and_true, Bool.and_self, Bool.and_true, Bool.true_and, Bool.not_true, Bool.not_false, IntWalk.toNatUp, IntWalk.iteOmega, IntWalk.i64_in, Option.isSome_some, not_true_eq_false, not_false_eq_true, Option.getD_some, Option.getD_none, Int.toNat_natCast, List.length_map, List.getElem?_map, List.getElem?_eq_getElem, V.flat, V.one, List.all_cons, List.all_nil, capF]; try exact rfl)) : p := h
theorem yX12 {p : Prop} (h : p := by (simp (disch := omega) only [go_sem, dopV, Option.map_some, Option.map_none, Option.bind_some, Option.bind_none, ↓reduceIte, Nat.reduceEqDiff, Nat.reduceLT, Nat.reduceLeDiff, Nat.reduceAdd, Nat.reduceMul, Nat.reduceSub, Nat.zero_add, Nat.add_zero, Nat.zero_le, Nat.zero_mul, Nat.mul_one, Nat.one_mul, Int.natCast_zero, Int.toNat_zero, Int.reduceToNat, Int.reduceLT, Int.reduceLE, Int.reduceEq, decide_true, decide_false, true_and, and_true, Bool.and_self, Bool.and_true, Bool.true_and, Bool.not_true, Bool.not_false, IntWalk.toNatUp, IntWalk.iteOmega, IntWalk.i64_in, Option.isSome_some, not_true_eq_false, not_false_eq_true, Option.getD_some, Option.getD_none, Int.toNat_natCast, List.length_map, List.getElem?_map, List.getElem?_eq_getElem, V.flat, V.one, List.all_cons, List.all_nil, capF, List.map_append]; try exact rfl)) : p := h
theorem zwm {v1 : VH} {l bx bf : Nat} {size : Nat} {met : Int → Int → Bool} (Inv : List (List Int) → Sto → Prop) (Done : Sto → Prop) (hE : ∀ X S, Inv X S → FEnv S bx l bf size met)
  (hY : ∀ t X S, t.length = size → Inv (t :: X) S → YC v1 Try.prog l [ints t] S (fun u S' => (u = Bo true ∧ Inv X S') ∨ (u = Bo false ∧ Done S'))) :
  ∀ (n : Nat) (t ids : List Int) (X : List (List Int)) (S : Sto), n ≤ 100 → (t ++ ids).Pairwise (· < ·) → (∀ a ∈ t ++ ids, In64 a) → t.length + n = size → size ≤ 100 → ids.length ≤ 1000000 → Inv (zjm (zdi met) n t ids ++ X) S →
  DCh v1 Try.prog 77 [ints t, ints ids, .plc [.v (.pointer (some ⟨bx, 0, none⟩))], .plc [V.yl l], .v (.pointer (some ⟨bf, 0, none⟩))] S (fun u S' => (u = Bo true ∧ Inv X S') ∨ (u = Bo false ∧ Done S'))
 | 0, t, ids, X, S, hn, hp, hin, hl, hs, hil, hI => by
  have hI' : Inv (t :: X) S := by simpa [zjm] using hI
  obtain ⟨f1, budget, steps, rs, bp, R, bm, w, B, f2, f3, f4, f5, f6, f7⟩ := hE _ _ hI'
  have hY' := hY t X S (by omega) hI'
  have hlen : (t.length : Int) = size := by omega
  clear hI hI' hY hE f1 f3 f4
  refine DCh.of_run Try.func77 rfl Try.ntmps77 Try.results77 (by simp) ?_; simp only [zaf, zai, go_sem, Nat.zero_add, Nat.reduceAdd]
  repeat' (first | (with_reducible first | refine zad yU yU yX7 ?_ | refine zab ?_ | refine DS.seq ?_ | refine zaa ?_ | (refine zbe yX7 ?_; refine zcy ?_)) | fail)
  refine yba yH hY' yR yH (fun u S' hu => ?_)
  clear hY' f2
  rcases hu with ⟨rfl, hu⟩ | ⟨rfl, hu⟩
  ·repeat' (first | (with_reducible first | refine zad yU yU yE ?_ | refine zab ?_) | fail)
   refine zcl yG (.inl ⟨rfl, hu⟩)
  ·repeat' (first | (with_reducible first | refine zad yU yU yE ?_ | refine zab ?_) | fail)
   refine zcl yG (.inr ⟨rfl, hu⟩)
 | n + 1, t, ids, X, S, hn, hp, hin, hl, hs, hil, hI => by
  have ih := zwm Inv Done hE hY n
  have hlen : ¬ (t.length : Int) = size := by omega
  have hI0 : Inv (zgc (zdi met) (zjm (zdi met) n) t ids ++ X) S := by simpa [zjm] using hI
  obtain ⟨f1, budget, steps, rs, bp, R, bm, w, B, f2, f3, f4, f5, f6, f7⟩ := hE _ _ hI0
  have htl : t.length ≤ 100 := by omega
  clear hI hY f1 f3 f4
  refine DCh.of_run Try.func77 rfl Try.ntmps77 Try.results77 (by simp) ?_; simp only [zaf, zai, go_sem, Nat.zero_add, Nat.reduceAdd]
  repeat' (first | (with_reducible first | refine zad yU yU yX7 ?_ | refine zab ?_ | refine DS.seq ?_ | refine zaa ?_ | (refine zbe yX7 ?_; refine zdd ?_) | refine DS.block ?_ | refine DS.skip ?_) | fail)
  clear f2 f5 f6 f7
  refine zda [0, 1, 2, 4, 20, 21] yN (fun (x : Nat × Sto) => [(22, I x.1)]) (fun (x : Nat × Sto) => x.2) (fun (x : Nat × Sto) => x.1 ≤ ids.length ∧ Inv (zgc (zdi met) (zjm (zdi met) n) t (ids.drop x.1) ++ X) x.2) (fun (x : Nat × Sto) => ids.length - x.1) (0, S) yS (fun b o e => by exact e) ⟨Nat.zero_le _, hI0⟩ (fun x B hI hB => ?_); try dsimp only at hI hB; simp only [zaw, zbg]
  clear hI0
  obtain ⟨i, S1⟩ := x
  dsimp only at hI hB
  obtain ⟨g1, g2⟩ := hI
  repeat' (first | (with_reducible first | refine zad yU yU yE ?_ | refine zab ?_ | refine DS.seq ?_ | refine zaa ?_ | (refine zbe yE ?_; refine zeq (fun _ => ?_) (fun _ => ?_)) | refine DS.block ?_ | refine DS.exit yU ?_ | refine DS.skip ?_) | fail)
  ·rename_i e1
   have hi : i < ids.length := by omega
   obtain ⟨f1, budget, steps, rs, bp, R, bm, w, B, f2, f3, f4, f5, f6, f7⟩ := hE _ _ g2
   obtain ⟨fm, es, clock, m1, m2, m3⟩ := f3.out
   obtain ⟨k0, k1, k2, k3⟩ := ygp f2 m1 f5
   have hself := (k3 bf f6 f7).trans f1
   have hpt : (t ++ [ids[i]]).Pairwise (· < ·) ∧ (t ++ [ids[i]] ++ ids.drop (i + 1)).Pairwise (· < ·) := by
    have h1 : (t ++ ids.drop i).Pairwise (· < ·) := hp.sublist (List.Sublist.append (List.Sublist.refl t) (List.drop_sublist i ids))
    rw [List.drop_eq_getElem_cons hi] at h1
    have h2 : t ++ ids[i] :: ids.drop (i + 1) = t ++ [ids[i]] ++ ids.drop (i + 1) := by simp
    rw [h2] at h1
    exact ⟨h1.sublist (List.sublist_append_left ..), h1⟩
   have hlt : ∀ a ∈ t, a < ids[i] := fun a ha => (List.pairwise_append.1 hpt.1).2.2 a ha _ (by simp)
   have hst := ztu [(bx, .cells (pC size budget steps rs bp R bm) TP), (bm, .raw (.map es clock))] (bx := bx) (bp := bp) (R := R) (bm := bm) (size := size) (budget := budget) (steps := steps) (rs := rs) (w := w) (by simp only [zac, if_true]) ⟨fm, es, clock, by simp [zac, f5], m2, m3⟩ t ids[i] (fun a ha => hin a (by simp [ha])) (hin _ (by simp))
   rw [← zxf f4 hlt] at hst
   have H := And.intro hpt (And.intro hlt (And.intro f1 (And.intro f2 (And.intro m1 (And.intro k2 g2)))))
   clear hpt hlt f1 f2 f3 f4 m1 m2 m3 k2 k3 f5 f6 f7 g2 hE
   skip
   refine zin (id := 6) (delS bx (delS bm S1)) ([(bx, .cells (pC size budget steps rs bp R bm) TP), (bm, .raw (.map es clock))]) [0, 1, 2, 3, 4, 5, 6, 7, 8, 9, 10, 11, 12, 13, 14] 15 (by kernel_rfl) zei (by simp only [zbp, zbx, zby, zbz, zbo]; exact rfl) (by simp only [zbk, zbl, List.drop_nil]; exact rfl) (k0) (k1) ?_
   repeat' (first | with_reducible refine zcj yU yU yU yE ?_ | fail)
   refine ygc inferInstance hst yR yH ?_
   repeat' (first | (with_reducible first | refine zad yU yU yX8 ?_ | refine zab ?_ | refine zaa ?_ | (refine zbe yX8 ?_; refine zdd ?_) | (refine zdv yU yX8 ?_; first | refine GG.run ?_ | refine zkb ?_) | refine DS.blk ?_ | refine DS.skip ?_ | refine zcj yU yU yU yX8 ?_ | (refine zvb yU yX8 ?_; first | refine DGG.run ?_ | refine zto ?_ | refine yht (fun _ => ?_) (fun _ => ?_))) | (with_reducible refine DD.nil ?_; simp only [zaw, zbg]) | refine yet inferInstance (zsz t (by omega)) yU yX9 ?_; simp only [zfs, zhc, Nat.reduceEqDiff, ↓reduceIte] | (refine ybi yU yX8 yX8 ?_; simp only [go_sem, Nat.zero_add, Nat.reduceAdd]; simp only [zfs, zhc, Nat.reduceEqDiff, ↓reduceIte]) | (refine DD.append (mm := false) yU yX8 yX8 yU (by decide) yX8 (by first | exact .inl rfl | exact .inr ⟨rfl, rfl⟩) yX8 yX10 (by first | exact zcs zgo _ | exact zcs zoe _ | exact zcs Member.len _ | exact zcs Sitting.len _ | exact zcs Ruling.len _ | (simp only [List.mem_cons, List.not_mem_nil, or_false, forall_eq]; rfl) | simp) ⟨by (try simp only [List.length_map, List.length_cons, List.length_nil, List.length_append, List.length_take, List.length_drop]); omega, by decide⟩ ?_; simp only [zap, zag, zah, Nat.reduceEqDiff, ↓reduceIte, zal, zam, zax, zak, zaj, zaq, zan]; simp only [zfs, zhc, Nat.reduceEqDiff, ↓reduceIte]) | fail)
   ·rename_i e2
    refine zew (S' := S1) (fun b o e => H.2.2.2.2.2.1 b o e) ?_
    have hih := ih (t ++ [ids[i]]) (ids.drop (i + 1)) (zgc (zdi met) (zjm (zdi met) n) t (ids.drop (i + 1)) ++ X) S1 (by omega) H.1.2 (fun a ha => hin a (by
     simp only [List.append_assoc, List.mem_append, List.mem_singleton] at ha ⊢
     rcases ha with h | h | h
     ·exact .inl h
     ·exact .inr (h ▸ List.getElem_mem _)
     ·exact .inr (List.mem_of_mem_drop h))) (by simp; omega) hs (by simp; omega) (by
     have h1 := H.2.2.2.2.2.2
     rw [zsr hi, if_pos e2, List.append_assoc] at h1
     exact h1)
    clear ih
    have ea : ints (t ++ [ids[i]]) = .lst (List.map cI t ++ [[.v (.int .i64 ids[i])]]) := by simp [cI]
    rw [ea] at hih
    refine zpr inferInstance yX11 hih yR yX12 (fun u S' hu => ?_)
    clear hih
    rcases hu with ⟨rfl, hu⟩ | ⟨rfl, hu⟩
    ·repeat' (first | (with_reducible first | refine zad yU yU yE ?_ | refine zab ?_ | refine zaa ?_ | (refine zbe yE ?_; refine zdd ?_) | (refine zdv yU yE ?_; refine GG.run ?_) | refine DS.blk ?_ | refine DS.skip ?_) | fail)
     refine DS.back (hB (i + 1, S') _ _ (by dsimp only; omega) ⟨by dsimp only; omega, hu⟩ yS yS (fun b o e => by exact e))
    ·repeat' (first | (with_reducible first | refine zad yU yU yE ?_ | refine zab ?_ | refine DS.seq ?_ | refine zaa ?_ | (refine zbe yE ?_; refine zcy ?_) | (refine zdv yU yE ?_; refine GG.run ?_)) | fail)
     refine zcl yG (.inr ⟨rfl, hu⟩)
   ·rename_i e2
    refine zew (S' := S1) (fun b o e => H.2.2.2.2.2.1 b o e) ?_
    have h1 := H.2.2.2.2.2.2
    rw [zsr hi, if_neg (by rw [e2]; decide), List.nil_append] at h1
    refine DS.back (hB (i + 1, S1) _ _ (by dsimp only; omega) ⟨by dsimp only; omega, h1⟩ yS yS (fun b o e => by exact e))
  ·rename_i e1
   rw [List.drop_eq_nil_of_le (by omega)] at g2
   refine zcl yG (.inl ⟨rfl, by simpa [zgc] using g2⟩)
theorem zxt (bx : Nat) (t ids : List Int) : PC Try.prog 66 [.v (.pointer (some ⟨bx, 0, none⟩)), ints t, ints ids] (.fn 76 [] [.plc [.v (.pointer (some ⟨bx, 0, none⟩))], .plc [ints t], .plc [ints ids]]) := by
 refine DC.of_run Try.func66 rfl Try.ntmps66 Try.results66 (by simp) (fun _ => ?_); simp only [zaf, zai, go_sem, Nat.zero_add, Nat.reduceAdd]
 repeat' (first | (with_reducible first | refine zad yU yU yE ?_ | refine zab ?_ | refine DS.seq ?_ | refine zaa ?_) | (refine zci (t := 3) yU yE yU ?_; simp only [zbh, zcg, zbf, zbv, zbc, zau, zbq, zay, zcd, zcf, zbr, zce, zbu, zbt]) | (refine zci (t := 4) yU yE yU ?_; simp only [zbh, zcg, zbf, zbv, zbc, zau, zbq, zay, zcd, zcf, zbr, zce, zbu, zbt]) | (refine zci (t := 5) yU yE yU ?_; simp only [zbh, zcg, zbf, zbv, zbc, zau, zbq, zay, zcd, zcf, zbr, zce, zbu, zbt]) | refine zat [] yE trivial ?_ | fail)
 rfl
def zgi (S : Sto) (bx l bf : Nat) : Prop := zac S bf = some (.cells [.fn 77 [] (capF bx l bf)] 46)
def yjd (S : Sto) (bx : Nat) (size : Int) (met : Int → Int → Bool) : Prop := ∃ budget steps rs bp R bm w B, zac S bx = some (.cells (pC size budget steps rs bp R bm) TP) ∧ MapW S bm w ∧ GoodW B met w ∧ bx ≠ bm
theorem zul {v1 : VH} {l bx : Nat} {size : Nat} {met : Int → Int → Bool} (Inv : List (List Int) → Sto → Prop) (Done : Sto → Prop) (S : Sto) (n : Nat) (t ids : List Int) (hn : n ≤ 100) (hp : (t ++ ids).Pairwise (· < ·)) (hin : ∀ a ∈ t ++ ids, In64 a) (hl : t.length + n = size) (hs : size ≤ 100) (hil : ids.length ≤ 1000000)
  (hE : ∀ X S, Inv X S → yjd S bx size met)
  (hY : ∀ bf t X S, t.length = size → Inv (t :: X) S → zgi S bx l bf → YC v1 Try.prog l [ints t] S (fun u S' => ((u = Bo true ∧ Inv X S') ∨ (u = Bo false ∧ Done S')) ∧ zgi S' bx l bf))
  (hI : ∀ S', (∀ b o, zac S b = some o → zac S' b = some o) → Inv (zjm (zdi met) n t ids) S') :
  DCh v1 Try.prog 76 [V.yl l, .plc [.v (.pointer (some ⟨bx, 0, none⟩))], .plc [ints t], .plc [ints ids]] S (fun _ S' => Inv [] S' ∨ Done S') := by
 refine DCh.of_run Try.func76 rfl Try.ntmps76 Try.results76 (by simp) ?_; simp only [zaf, zai, go_sem, Nat.zero_add, Nat.reduceAdd]
 repeat' (first | (with_reducible first | refine zab ?_ | refine DS.seq ?_ | refine zaa ?_) | (refine zci (t := 4) yU yE yU ?_; simp only [zbh, zcg, zbf, zbv, zbc, zau, zbq, zay, zcd, zcf, zbr, zce, zbu, zbt]) | fail)
 refine zdl yR yU yU (fun bf hbf => ?_)
 have hz : (List.map V.v (Value.nilFunc).cells.toList) = [.v .nilFunc] := rfl
 rw [hz]
 clear hz
 repeat' (first | (with_reducible first | refine zad yU yU yE ?_ | refine zab ?_ | refine DS.seq ?_ | refine zaa ?_) | (refine DS.store yR yE yE yE yE yU (by exact ⟨by with_unfolding_all rfl, by (try simp only [List.length_map, List.length_append, List.length_set, List.length_replicate, List.length_cons, List.length_nil]); omega⟩) ?_; simp only [zbm, zao, zar, zcb, zbn, zbi, zbj]; try simp only [zap, zag, zah, Nat.reduceEqDiff, ↓reduceIte, zal, zam, zax, zak, zaj, zaq, zan]) | fail)
 refine zew (S' := (bf, .cells [.fn 77 [] (capF bx l bf)] 46) :: S) (fun b o e => by simp only [setS, if_true, zyt, zao, zar, zaz]; exact e) ?_
 have hS2 : zgi ((bf, .cells [.fn 77 [] (capF bx l bf)] 46) :: S) bx l bf := by simp [zgi, zac]
 have hI2 := hI ((bf, .cells [.fn 77 [] (capF bx l bf)] 46) :: S) (fun b o e => by
  simp only [zac]
  rw [if_neg (fun h => by subst h; rw [hbf] at e; cases e)]; exact e)
 generalize ((bf, Ob.cells [.fn 77 [] (capF bx l bf)] 46) :: S) = S2 at *
 have hd := zwm (v1 := v1) (l := l) (bx := bx) (bf := bf) (size := size) (met := met) (fun X S => Inv X S ∧ zgi S bx l bf) (fun S => Done S ∧ zgi S bx l bf)
  (fun X S h => by
   obtain ⟨budget, steps, rs, bp, R, bm, w, B, f2, f3, f4, f5⟩ := hE X S h.1
   have hs := h.2
   refine ⟨h.2, budget, steps, rs, bp, R, bm, w, B, f2, f3, f4, f5, fun e => ?_, fun e => ?_⟩
   ·subst e
    simp only [zgi] at hs
    rw [hs] at f2
    simp [pC] at f2
   ·subst e
    obtain ⟨_, _, _, m1, _⟩ := f3.out
    simp only [zgi] at hs
    rw [hs] at m1
    simp at m1)
  (fun t X S h1 h2 K hv hold h xs a1 a2 a3 w a4 => by
   obtain ⟨f, tm, x, y, b1, b2⟩ := hY bf t X S h1 h2.1 h2.2 K hv hold h xs a1 a2 a3 w a4
   refine ⟨f, tm, x, y, b1, b2.mono fun e w' ⟨u, c1, c2, v, S', hv', hold', c3, c4, c5, c6⟩ => ⟨u, c1, c2, v, S', hv', hold', c3, c4, ?_⟩⟩
   rcases c5 with ⟨rfl, c5⟩ | ⟨rfl, c5⟩
   ·exact .inl ⟨rfl, c5, c6⟩
   ·exact .inr ⟨rfl, c5, c6⟩)
  n t ids [] S2 hn hp hin hl hs hil ⟨by simpa using hI2, hS2⟩
 clear hE hY hI hI2 hbf
 refine zpr inferInstance yX11 hd yR yX11 (fun u S' hu => ?_)
 repeat' (first | with_reducible refine zab ?_ | fail)
 refine zoj yG ?_
 rcases hu with ⟨rfl, hu⟩ | ⟨rfl, hu⟩
 ·exact .inl hu.1
 ·exact .inr hu.1
end Go.XL
namespace Go.XL
open Go.Proofs
set_option maxRecDepth 100000
set_option maxHeartbeats 8000000
structure SearchP (S : Sto) (bx bp bm : Nat) (size : Int) (rs : List (List Int)) (budget steps : Int) (w : W) (ps : List PRow) : Prop where
 obj : zac S bx = some (.cells (pC size budget steps rs bp ps.length bm) TP)
 map : MapW S bm w
 pln : zac S bp = some (.cells (ps.map PRow.cell) 43)
 row : ∀ (i : Nat) (h : i < ps.length), ps[i].Ok S
 xp : bx ≠ bp
 rx : ∀ (i : Nat) (h : i < ps.length) (b cap : Nat) (j : List V), ps[i].blk = some (b, cap, j) → b ≠ bx ∧ b ≠ bp
 rr : ∀ (i k : Nat) (hi : i < ps.length) (hk : k < ps.length) (b cap cap' : Nat) (j j' : List V), ps[i].blk = some (b, cap, j) → ps[k].blk = some (b, cap', j') → i = k
section
variable {S S' : Sto} {bx bp bm : Nat} {size budget steps : Int} {rs : List (List Int)} {w : W} {ps : List PRow}
theorem MapW.ne_cells {S : Sto} {b bm : Nat} {w : W} (m : MapW S bm w) {l : List V} {T : TypeId} (h : zac S b = some (.cells l T)) : b ≠ bm := fun e => by
 subst e
 obtain ⟨_, _, _, m1, _⟩ := m.out
 rw [h] at m1; simp at m1
theorem MapW.of {S S' : Sto} {bm : Nat} {w : W} (m : MapW S bm w) (e : zac S' bm = zac S bm) : MapW S' bm w := by
 obtain ⟨f, es, clock, m1, m2, m3⟩ := m.out
 exact ⟨f, es, clock, by rw [e]; exact m1, m2, m3⟩
theorem SearchP.xm (s : SearchP S bx bp bm size rs budget steps w ps) : bx ≠ bm := s.map.ne_cells s.obj
theorem SearchP.pm (s : SearchP S bx bp bm size rs budget steps w ps) : bp ≠ bm := s.map.ne_cells s.pln
theorem SearchP.rm (s : SearchP S bx bp bm size rs budget steps w ps) {i : Nat} (h : i < ps.length) {b cap : Nat} {j : List V} (hb : ps[i].blk = some (b, cap, j)) : b ≠ bm := by
 have h3 := s.row i h
 generalize ps[i] = p at hb h3
 obtain ⟨T', blk⟩ := p
 dsimp only at hb
 subst hb
 exact s.map.ne_cells h3.1
theorem SearchP.of (s : SearchP S bx bp bm size rs budget steps w ps) (e : ∀ b, b = bx ∨ b = bp ∨ b = bm ∨ (∃ (i : Nat) (h : i < ps.length) (cap : Nat) (j : List V), ps[i].blk = some (b, cap, j)) → zac S' b = zac S b) : SearchP S' bx bp bm size rs budget steps w ps :=
 ⟨by rw [e _ (.inl rfl)]; exact s.obj, s.map.of (e _ (.inr (.inr (.inl rfl)))), by rw [e _ (.inr (.inl rfl))]; exact s.pln, fun i h => (s.row i h).of fun b cap j hb => e b (.inr (.inr (.inr ⟨i, h, cap, j, hb⟩))), s.xp, s.rx, s.rr⟩
theorem SearchP.steps' (s : SearchP S bx bp bm size rs budget steps w ps) (n : Int) : SearchP (setS bx (.cells (pC size budget n rs bp ps.length bm) TP) S) bx bp bm size rs budget n w ps := by
 have e : ∀ b, b ≠ bx → zac (setS bx (.cells (pC size budget n rs bp ps.length bm) TP) S) b = zac S b := fun b hb => by rw [zas s.obj, if_neg hb]
 refine ⟨by rw [zas s.obj, if_pos rfl], s.map.of (e _ s.xm.symm), by rw [e _ s.xp.symm]; exact s.pln, fun i h => (s.row i h).of fun b cap j hb => e b (s.rx i h b cap j hb).1, s.xp, s.rx, s.rr⟩
theorem SearchP.counted {w' : W} (s : SearchP S bx bp bm size rs budget steps w ps) (m : MapW S' bm w') (e : ∀ b, b ≠ bm → zac S' b = zac S b) : SearchP S' bx bp bm size rs budget steps w' ps :=
 ⟨by rw [e _ s.xm]; exact s.obj, m, by rw [e _ s.pm]; exact s.pln, fun i h => (s.row i h).of fun b cap j hb => e b (s.rm h hb), s.xp, s.rx, s.rr⟩
theorem SearchP.turn (s : SearchP S bx bp bm size rs budget steps w ps) {r : Nat} (hr : r < ps.length) {T : List (List Int)} {b' cap' : Nat} {junk : List V}
  (hb : (∃ cap j, ps[r].blk = some (b', cap, j)) ∨ zac S b' = none) (hok : PRow.Ok S' ⟨T, some (b', cap', junk)⟩) (hp : zac S' bp = some (.cells ((ps.map PRow.cell).set r (.v (.slice (some ⟨b', 0, none⟩) T.length cap'))) 43))
  (e : ∀ b, b ≠ bp → b ≠ b' → (∀ cap j, ps[r].blk ≠ some (b, cap, j)) → zac S' b = zac S b) :
  SearchP S' bx bp bm size rs budget steps w (ps.set r ⟨T, some (b', cap', junk)⟩) := by
 have n1 : b' ≠ bx ∧ b' ≠ bp := by
  rcases hb with ⟨cap, j, h⟩ | h
  ·exact s.rx r hr b' cap j h
  ·refine ⟨?_, ?_⟩
   ·intro h'; rw [h', s.obj] at h; cases h
   ·intro h'; rw [h', s.pln] at h; cases h
 have nm : b' ≠ bm := by
  rcases hb with ⟨cap, j, h⟩ | h
  ·exact s.rm hr h
  ·intro h'
   obtain ⟨_, _, _, m1, _⟩ := s.map.out
   rw [h', m1] at h; cases h
 have nb : ∀ (i : Nat) (h : i < ps.length) (cap : Nat) (j : List V), ps[i].blk = some (b', cap, j) → i = r := fun i h cap j hi => by
  rcases hb with ⟨cap2, j2, h2⟩ | h2
  ·exact s.rr i r h hr b' cap cap2 j j2 hi h2
  ·have h3 := s.row i h
   generalize ps[i] = p at hi h3
   obtain ⟨T', blk⟩ := p
   dsimp only at hi
   subst hi
   rw [h3.1] at h2; cases h2
 have eb : ∀ (i : Nat) (h : i < ps.length) (b cap : Nat) (j : List V), i ≠ r → ps[i].blk = some (b, cap, j) → zac S' b = zac S b := fun i h b cap j hir hi => by
  refine e b (s.rx i h b cap j hi).2 (fun hbb => ?_) fun cap2 j2 h2 => hir (s.rr i r h hr b cap cap2 j j2 hi h2)
  subst hbb; exact hir (nb i h cap j hi)
 have gs : ∀ (i : Nat) (h : i < (ps.set r ⟨T, some (b', cap', junk)⟩).length), (ps.set r ⟨T, some (b', cap', junk)⟩)[i] = if r = i then ⟨T, some (b', cap', junk)⟩ else ps[i]'(by simpa using h) := fun i h => by rw [List.getElem_set]
 refine ⟨?_, s.map.of ?_, ?_, fun i h => ?_, s.xp, fun i h b cap j hi => ?_, fun i k hi hk b cap cap2 j j2 h1 h2 => ?_⟩
 ·rw [e bx s.xp n1.1.symm fun cap j h4 => (s.rx r hr bx cap j h4).1 rfl, s.obj, List.length_set]
 ·exact e bm s.pm.symm nm.symm fun cap j h4 => (s.rm hr h4) rfl
 ·rw [hp, List.map_set]; rfl
 ·rw [gs]
  have h' : i < ps.length := by simpa using h
  by_cases hir : r = i
  ·rw [if_pos hir]; exact hok
  ·rw [if_neg hir]; exact (s.row i h').of fun b cap j hi => eb i h' b cap j (Ne.symm hir) hi
 ·rw [gs] at hi
  have h' : i < ps.length := by simpa using h
  by_cases hir : r = i
  ·rw [if_pos hir] at hi; cases hi; exact n1
  ·rw [if_neg hir] at hi; exact s.rx i h' b cap j hi
 ·rw [gs] at h1 h2
  have hi' : i < ps.length := by simpa using hi
  have hk' : k < ps.length := by simpa using hk
  by_cases hir : r = i
  ·rw [if_pos hir] at h1
   by_cases hkr : r = k
   ·omega
   ·rw [if_neg hkr] at h2
    simp only [Option.some.injEq, Prod.mk.injEq] at h1
    obtain ⟨rfl, _⟩ := h1
    exact hir ▸ (nb k hk' cap2 j2 h2).symm
  ·rw [if_neg hir] at h1
   by_cases hkr : r = k
   ·rw [if_pos hkr] at h2
    simp only [Option.some.injEq, Prod.mk.injEq] at h2
    obtain ⟨rfl, _⟩ := h2
    exact hkr ▸ nb i hi' cap j h1
   ·rw [if_neg hkr] at h2
    exact s.rr i k hi' hk' b cap cap2 j j2 h1 h2
theorem SearchP.appended {S0 Sr S4 : Sto} (s : SearchP S bx bp bm size rs budget steps w ps) {r : Nat} (hr : r < ps.length) {p : PRow} (hp : p = ps[r])
  (k3 : ∀ b, (∀ cap j, p.blk ≠ some (b, cap, j)) → zac S0 b = zac S b ∧ zac Sr b = none) (hdis : ∀ b o, zac S0 b = some o → zac S4 b = none) {T : List (List Int)} {b' cap' : Nat} {junk : List V} (m1 : PRow.Ok S4 ⟨T, some (b', cap', junk)⟩)
  (m2 : (∃ cap j, p.blk = some (b', cap, j)) ∨ zac Sr b' = none) (m3 : ∀ b, b ≠ b' → (∀ cap j, p.blk ≠ some (b, cap, j)) → zac S4 b = zac Sr b) :
  zac (S4 ++ S0) bp = some (.cells (ps.map PRow.cell) 43) ∧
  SearchP (setS bp (.cells ((ps.map PRow.cell).set r (.v (.slice (some ⟨b', 0, none⟩) T.length cap'))) 43) (S4 ++ S0)) bx bp bm size rs budget steps w (ps.set r ⟨T, some (b', cap', junk)⟩) ∧
  ∀ b o, b ≠ bp → (∀ cap j, p.blk ≠ some (b, cap, j)) → zac S b = some o → zac (setS bp (.cells ((ps.map PRow.cell).set r (.v (.slice (some ⟨b', 0, none⟩) T.length cap'))) 43) (S4 ++ S0)) b = some o := by
 subst hp
 have hbp := k3 bp fun cap j h => (s.rx r hr bp cap j h).2 rfl
 have h0 : zac S0 bp = some (.cells (ps.map PRow.cell) 43) := hbp.1.trans s.pln
 have h1 : zac (S4 ++ S0) bp = some (.cells (ps.map PRow.cell) 43) := by rw [zba, hdis bp _ h0]; exact h0
 have h2 : ∃ cap j, zac S4 b' = some (.cells ((T.map fun t => ints t) ++ j) cap) := ⟨_, _, m1.1⟩
 have h3 : b' ≠ bp := fun h => by
  obtain ⟨_, _, h2⟩ := h2
  rw [h, hdis bp _ h0] at h2; cases h2
 refine ⟨h1, s.turn hr ?_ (m1.of fun b cap j h => ?_) ?_ fun b e1 e2 e3 => ?_, fun b o e1 e2 e3 => ?_⟩
 ·by_cases hold : ∃ cap j, ps[r].blk = some (b', cap, j)
  ·exact .inl hold
  ·right
   have hk := k3 b' fun cap j h => hold ⟨cap, j, h⟩
   rw [← hk.1]
   cases hh : zac S0 b' with
   | none => rfl
   | some o =>
    obtain ⟨_, _, h2⟩ := h2
    rw [hdis b' o hh] at h2; cases h2
 ·simp only [Option.some.injEq, Prod.mk.injEq] at h
  obtain ⟨rfl, _⟩ := h
  rw [zas h1, if_neg h3, zba, m1.1]
 ·rw [zas h1, if_pos rfl]
 ·rw [zas h1, if_neg e1, zba, m3 b e2 e3, (k3 b e3).2]
  exact (k3 b e3).1
 ·have h4 := (k3 b e2).1.trans e3
  rw [zas h1, if_neg e1, zba, hdis b o h4]
  exact h4
end
def zkr (p : Nat → Bool) : Sto → Sto
 | [] => []
 | (d, x) :: r => if p d = true then (d, x) :: zkr p r else zkr p r
theorem zfc (p : Nat → Bool) (b : Nat) : ∀ S : Sto, zac (zkr p S) b = if p b = true then zac S b else none
 | [] => by simp [zkr, zac]
 | (d, x) :: r => by
  simp only [zkr, zac]
  have ih := zfc p b r
  by_cases hd : p d = true
  ·rw [if_pos hd]
   simp only [zac]
   by_cases hb : d = b
   ·subst hb; rw [if_pos rfl, if_pos rfl, if_pos hd]
   ·rw [if_neg hb, if_neg hb, ih]
  ·rw [if_neg hd, ih]
   by_cases hb : d = b
   ·subst hb; rw [if_neg hd, if_neg hd]
   ·rw [if_neg hb]
def inP (bx bp bm : Nat) (ps : List PRow) (b : Nat) : Bool := decide (b = bx) || decide (b = bp) || decide (b = bm) || ps.any fun p => match p.blk with
 | some (c, _, _) => decide (b = c)
 | none => false
theorem zzx {bx bp bm : Nat} {ps : List PRow} {i : Nat} (h : i < ps.length) {b cap : Nat} {j : List V} (hb : ps[i].blk = some (b, cap, j)) : inP bx bp bm ps b = true := by
 have : (ps.any fun p => match p.blk with
  | some (c, _, _) => decide (b = c)
  | none => false) = true := List.any_eq_true.2 ⟨ps[i], List.getElem_mem h, by rw [hb]; simp⟩
 simp [inP, this]
theorem zjy {bx bp bm : Nat} {ps : List PRow} {b : Nat} (h : inP bx bp bm ps b = false) : b ≠ bx ∧ b ≠ bp ∧ b ≠ bm ∧ ∀ (i : Nat) (hi : i < ps.length) (cap : Nat) (j : List V), ps[i].blk ≠ some (b, cap, j) := by
 refine ⟨fun e => ?_, fun e => ?_, fun e => ?_, fun i hi cap j e => ?_⟩
 ·subst e; simp [inP] at h
 ·subst e; simp [inP] at h
 ·subst e; simp [inP] at h
 ·rw [zzx hi e] at h; cases h
end Go.XL
namespace Go.XL
open Go.Proofs
set_option maxRecDepth 100000
set_option maxHeartbeats 8000000
@[go_sem] theorem selO_none (t : Nat) (r : VEnv) : selO t r none = r := rfl
theorem zrb {P : Program} {n : Nat} {r : Rr} {rs : List ResultVar} {R : V → Sto → Prop} {k : List Fr} {E : VEnv} {S : Sto} (T : Sto) {vs : List V} (h1 : resV P E S rs = some vs) (h2 : ∀ b o, zac T b = some o → zac S b = some o) (h3 : R (tupV vs) T) (hk : popR k = none := by rfl) : DS P n r (FinV P rs R) (.code .ret :: k) E S :=
 DS.ret hk ⟨vs, T, h1, h2, h3⟩
def zjh (bx bp bm : Nat) (size : Int) (rs : List (List Int)) (budget : Int) (w : W) (ps : List PRow) (res : Int × Int × List (Nat × List Int)) (u : V) (S' : Sto) : Prop :=
 u = I res.1 ∧ ∃ w' ps', SearchP S' bx bp bm size rs budget res.2.1 w' ps' ∧ ps'.length = ps.length ∧ (res.1 = 2 → w' = w ∧ ∀ (i : Nat) (h : i < ps.length) (h' : i < ps'.length), ps'[i].rows = ps[i].rows) ∧
  (res.1 = 1 → ∀ (i : Nat) (h : i < ps.length) (h' : i < ps'.length), ps'[i].rows = ps[i].rows ++ (res.2.2.filter fun q => decide (q.1 = i)).map Prod.snd)
structure AscI (l : List Int) : Prop where
 asc : l.Pairwise (· < ·)
 in64 : ∀ a ∈ l, In64 a
 len : l.length ≤ 40
section
variable {S S' : Sto} {bx bp bm : Nat} {size budget steps : Int} {rs : List (List Int)} {w : W} {ps : List PRow}
theorem SearchP.loopless (s : SearchP S bx bp bm size rs budget steps w ps) {l : Nat} {rc : Loop} (hl : zac S l = some (.raw (.loop rc))) : ∀ b, b = bx ∨ b = bp ∨ b = bm ∨ (∃ (i : Nat) (h : i < ps.length) (cap : Nat) (j : List V), ps[i].blk = some (b, cap, j)) → b ≠ l := by
 rintro b h rfl
 rcases h with h | h | h | ⟨i, h, cap, j, hb⟩
 ·subst h; rw [s.obj] at hl; cases hl
 ·subst h; rw [s.pln] at hl; cases hl
 ·subst h
  obtain ⟨_, _, _, m1, _⟩ := s.map.out
  rw [m1] at hl; cases hl
 ·have h3 := s.row i h
  generalize ps[i] = p at hb h3
  obtain ⟨T', blk⟩ := p
  dsimp only at hb
  subst hb
  rw [h3.1] at hl; cases hl
theorem SearchP.setL (s : SearchP S bx bp bm size rs budget steps w ps) {l : Nat} {rc : Loop} (hl : zac S l = some (.raw (.loop rc))) (o : Ob) : SearchP (setS l o S) bx bp bm size rs budget steps w ps :=
 s.of fun b hb => by rw [zas hl, if_neg (s.loopless hl b hb)]
theorem SearchP.delL (s : SearchP S bx bp bm size rs budget steps w ps) {l : Nat} {rc : Loop} (hl : zac S l = some (.raw (.loop rc))) : SearchP (delS l S) bx bp bm size rs budget steps w ps :=
 s.of fun b hb => by rw [zbw, if_neg (s.loopless hl b hb)]
theorem SearchP.intless (s : SearchP S bx bp bm size rs budget steps w ps) {b6 : Nat} {l : List V} (hl : zac S b6 = some (.cells l 3)) : ∀ b, b = bx ∨ b = bp ∨ b = bm ∨ (∃ (i : Nat) (h : i < ps.length) (cap : Nat) (j : List V), ps[i].blk = some (b, cap, j)) → b ≠ b6 := by
 rintro b h rfl
 rcases h with h | h | h | ⟨i, h, cap, j, hb⟩
 ·subst h; rw [s.obj] at hl; simp at hl; exact absurd hl.2 (by decide)
 ·subst h; rw [s.pln] at hl; simp at hl
 ·subst h
  obtain ⟨_, _, _, m1, _⟩ := s.map.out
  rw [m1] at hl; simp at hl
 ·have h3 := s.row i h
  generalize ps[i] = p at hb h3
  obtain ⟨T', blk⟩ := p
  dsimp only at hb
  subst hb
  rw [h3.1] at hl; simp at hl
theorem SearchP.setI (s : SearchP S bx bp bm size rs budget steps w ps) {b6 : Nat} {l : List V} (hl : zac S b6 = some (.cells l 3)) (o : Ob) : SearchP (setS b6 o S) bx bp bm size rs budget steps w ps :=
 s.of fun b hb => by rw [zas hl, if_neg (s.intless hl b hb)]
theorem SearchP.up (s : SearchP S bx bp bm size rs budget steps w ps) (h : ∀ b o, zac S b = some o → zac S' b = some o) : SearchP S' bx bp bm size rs budget steps w ps := by
 refine s.of fun b hb => ?_
 have key : ∃ o, zac S b = some o := by
  rcases hb with h | h | h | ⟨i, hi, cap, j, hb⟩
  ·subst h; exact ⟨_, s.obj⟩
  ·subst h; exact ⟨_, s.pln⟩
  ·subst h
   obtain ⟨_, _, _, m1, _⟩ := s.map.out
   exact ⟨_, m1⟩
  ·have h3 := s.row i hi
   generalize ps[i] = p at hb h3
   obtain ⟨T', blk⟩ := p
   dsimp only at hb
   subst hb
   exact ⟨_, h3.1⟩
 obtain ⟨o, ho⟩ := key
 rw [ho]; exact h b o ho
theorem SearchP.keep (s : SearchP S bx bp bm size rs budget steps w ps) : SearchP (zkr (inP bx bp bm ps) S) bx bp bm size rs budget steps w ps :=
 s.of fun b hb => by
  rw [zfc, if_pos]
  rcases hb with h | h | h | ⟨i, hi, cap, j, hb⟩
  ·subst h; simp [inP]
  ·subst h; simp [inP]
  ·subst h; simp [inP]
  ·exact zzx hi hb
end
structure TabsOk (size : Nat) (ids : List Int) (X : List (List Int)) : Prop where
 each : ∀ t ∈ X, t.length = size ∧ t.Sublist ids ∧ t.Pairwise (· < ·) ∧ t.headD 0 = ids.headD 0
def zvc (ps : List PRow) (b : Nat) : Prop := ∀ (i : Nat) (h : i < ps.length) (cap : Nat) (j : List V), ps[i].blk ≠ some (b, cap, j)
structure Oth (T : Sto) (l b4 b5 b6 bf bx : Nat) (rb : Loop) (r1 : Nat) (ids : List Int) : Prop where
 lp : zac T l = some (.raw (.loop rb))
 o4 : zac T b4 = some (.cells [I r1] 3)
 o5 : zac T b5 = some (.cells [ints ids] 25)
 o6 : zac T b6 = some (.cells [I 0] 3)
 sf : zgi T bx l bf
section
variable {T T' : Sto} {l b4 b5 b6 bf bx bp bm : Nat} {rb : Loop} {r1 : Nat} {ids : List Int} {size budget steps : Int} {rs : List (List Int)} {w : W} {ps : List PRow}
theorem Oth.of (h : Oth T l b4 b5 b6 bf bx rb r1 ids) (e : ∀ b, b = l ∨ b = b4 ∨ b = b5 ∨ b = b6 ∨ b = bf → zac T' b = zac T b) : Oth T' l b4 b5 b6 bf bx rb r1 ids :=
 ⟨by rw [e _ (.inl rfl)]; exact h.lp, by rw [e _ (.inr (.inl rfl))]; exact h.o4, by rw [e _ (.inr (.inr (.inl rfl)))]; exact h.o5, by rw [e _ (.inr (.inr (.inr (.inl rfl))))]; exact h.o6, by have := h.sf; simp only [zgi] at this ⊢; rw [e _ (.inr (.inr (.inr (.inr rfl))))]; exact this⟩
theorem Oth.apart (h : Oth T l b4 b5 b6 bf bx rb r1 ids) (s : SearchP T bx bp bm size rs budget steps w ps) (ap : zvc ps b5) : ∀ b, b = l ∨ b = b4 ∨ b = b5 ∨ b = b6 ∨ b = bf → inP bx bp bm ps b = false := fun b hb => by
 have key : ∀ c, c = bx ∨ c = bp ∨ c = bm ∨ (∃ (i : Nat) (h : i < ps.length) (cap : Nat) (j : List V), ps[i].blk = some (c, cap, j)) → c ≠ b := by
  rcases hb with rfl | rfl | rfl | rfl | rfl
  ·exact s.loopless h.lp
  ·exact s.intless h.o4
  ·rintro c hc rfl
   have h5 := h.o5
   rcases hc with hc | hc | hc | ⟨i, hi, cap, j, hc⟩
   ·subst hc; rw [s.obj] at h5; simp at h5; exact absurd h5.2 (by decide)
   ·subst hc; rw [s.pln] at h5; simp at h5
   ·subst hc
    obtain ⟨_, _, _, m1, _⟩ := s.map.out
    rw [m1] at h5; simp at h5
   ·exact ap i hi cap j hc
  ·exact s.intless h.o6
  ·rintro c hc rfl
   have h5 := h.sf
   simp only [zgi] at h5
   rcases hc with hc | hc | hc | ⟨i, hi, cap, j, hc⟩
   ·subst hc; rw [s.obj] at h5; simp at h5; exact absurd h5.2 (by decide)
   ·subst hc; rw [s.pln] at h5; simp at h5
   ·subst hc
    obtain ⟨_, _, _, m1, _⟩ := s.map.out
    rw [m1] at h5; simp at h5
   ·have h3 := s.row i hi
    generalize ps[i] = p at hc h3
    obtain ⟨T', blk⟩ := p
    dsimp only at hc
    subst hc
    rw [h3.1] at h5; simp at h5
 cases hin : inP bx bp bm ps b with
 | false => rfl
 | true =>
  exfalso
  simp only [inP, Bool.or_eq_true, decide_eq_true_eq, List.any_eq_true] at hin
  rcases hin with ((hin | hin) | hin) | ⟨p, hp, hin⟩
  ·exact key b (.inl hin) rfl
  ·exact key b (.inr (.inl hin)) rfl
  ·exact key b (.inr (.inr (.inl hin))) rfl
  ·obtain ⟨i, hi, rfl⟩ := List.getElem_of_mem hp
   split at hin
   ·rename_i c cap j hc
    simp only [decide_eq_true_eq] at hin
    subst hin
    exact key b (.inr (.inr (.inr ⟨i, hi, cap, j, hc⟩))) rfl
   ·cases hin
end
structure FInv (l b4 b5 b6 bx bp bm : Nat) (rc : Loop) (size : Nat) (rs : List (List Int)) (budget : Int) (w : W) (ps : List PRow) (r1 : Nat) (ids : List Int) (rec : List Int → Int → Int × Int × List (Nat × List Int)) (res : Int × Int × List (Nat × List Int)) (X : List (List Int)) (T : Sto) (st : Int) (ps1 : List PRow) : Prop where
 lp : zac T l = some (.raw (.loop rc))
 o4 : zac T b4 = some (.cells [I r1] 3)
 o5 : zac T b5 = some (.cells [ints ids] 25)
 o6 : zac T b6 = some (.cells [I 0] 3)
 s : SearchP T bx bp bm size rs budget st w ps1
 pl : ps1.length = ps.length
 rows : ∀ (i : Nat) (h : i < ps.length) (h' : i < ps1.length), ps1[i].rows = ps[i].rows
 ap : zvc ps1 b5
 try_ : tryL budget r1 rec X st = res
 tabs : TabsOk size ids X
structure FDone (l b6 bx bp bm : Nat) (size : Nat) (rs : List (List Int)) (budget : Int) (w : W) (ps : List PRow) (res : Int × Int × List (Nat × List Int)) (T : Sto) (rc : Loop) : Prop where
 lp : zac T l = some (.raw (.loop rc))
 st : rc.state ≠ .busy
 pd : rc.pending = some .ret
 o6 : zac T b6 = some (.cells [I res.1] 3)
 post : zjh bx bp bm size rs budget w ps res (I res.1) T
section
variable {l b4 b5 b6 bf bx bp bm : Nat} {rc : Loop} {size : Nat} {rs : List (List Int)} {budget : Int} {w : W} {ps : List PRow} {r1 : Nat} {ids : List Int} {rec : List Int → Int → Int × Int × List (Nat × List Int)} {res : Int × Int × List (Nat × List Int)}
theorem zvn {A : Sto → Prop} {T : Sto} {E : VEnv} (h0 : zac T l = some (.raw (.loop { rc with state := .busy }))) (h6 : zac T b6 = some (.cells [I res.1] 3)) (hp : zjh bx bp bm size rs budget w ps res (I res.1) T) (hf : zgi T bx l bf) :
  RndQ l (fun u S' => ((u = Bo true ∧ A S') ∨ (u = Bo false ∧ ∃ rc', FDone l b6 bx bp bm size rs budget w ps res S' rc')) ∧ zgi S' bx l bf) .ret E T := by
 refine ⟨{ rc with state := .busy }, setS l (.raw (.loop (endR { rc with state := .busy } .ret))) T, h0, fun b o e => e, .inr ⟨rfl, endR { rc with state := .busy } .ret, ?_⟩, ?_⟩
 ·obtain ⟨e1, w', ps', p1, p2, p3, p4⟩ := hp
  refine ⟨by rw [zas h0, if_pos rfl], by simp [endR], rfl, ?_, e1, w', ps', p1.setL h0 _, p2, p3, p4⟩
  rw [zas h0, if_neg (fun e => by rw [e, h0] at h6; cases h6)]; exact h6
 ·have h := hf
  simp only [zgi] at h ⊢
  rw [zas h0, if_neg (fun e => by rw [e, h0] at h; cases h)]; exact h
theorem ybt {D : Sto → Prop} {X : List (List Int)} {T : Sto} {E : VEnv} {st : Int} {ps1 : List PRow} (hst : rc.state = .ready) (hpd : rc.pending = none) (h : Oth T l b4 b5 b6 bf bx { rc with state := .busy } r1 ids) (s : SearchP T bx bp bm size rs budget st w ps1) (pl : ps1.length = ps.length)
  (rows : ∀ (i : Nat) (h : i < ps.length) (h' : i < ps1.length), ps1[i].rows = ps[i].rows) (ap : zvc ps1 b5) (try_ : tryL budget r1 rec X st = res) (tabs : TabsOk size ids X) :
  RndQ l (fun u S' => ((u = Bo true ∧ ∃ st ps1, FInv l b4 b5 b6 bx bp bm rc size rs budget w ps r1 ids rec res X S' st ps1) ∨ (u = Bo false ∧ D S')) ∧ zgi S' bx l bf) .normal E T := by
 have e0 : endR { rc with state := .busy } .normal = rc := by cases rc; simp only [endR] at *; subst hst; subst hpd; rfl
 have nl : ∀ {b : Nat} {o : List V × TypeId}, zac T b = some (.cells o.1 o.2) → b ≠ l := fun {b o} h' e => by rw [e, h.lp] at h'; cases h'
 have sf := h.sf
 refine ⟨_, setS l (.raw (.loop rc)) T, h.lp, fun b o e => by rw [e0]; exact e, .inl ⟨rfl, st, ps1, ?_⟩, ?_⟩
 ·exact ⟨by rw [zas h.lp, if_pos rfl], by rw [zas h.lp, if_neg (nl (o := ([I r1], 3)) h.o4)]; exact h.o4, by rw [zas h.lp, if_neg (nl (o := ([ints ids], 25)) h.o5)]; exact h.o5, by rw [zas h.lp, if_neg (nl (o := ([I 0], 3)) h.o6)]; exact h.o6, s.setL h.lp _, pl, rows, ap, try_, tabs⟩
 ·simp only [zgi] at sf ⊢
  rw [zas h.lp, if_neg (fun e => by rw [e, h.lp] at sf; cases sf)]; exact sf
end
def rfOf : Code → Option (Code × Code)
 | .rangeFunc _ _ a b => some (a, b)
 | .seq a b => match rfOf a with | some x => some x | none => rfOf b
 | .cond _ a b => match rfOf a with | some x => some x | none => rfOf b
 | .block _ c => rfOf c
 | .loop c => rfOf c
 | .scope c => rfOf c
 | _ => none
def yjb (id : Nat) : Code → Bool
 | .region i _ _ => i == id
 | _ => false
def zmt (id : Nat) : Code → Option Code
 | .seq a b => if yjb id a then some b else match zmt id a with | some x => some x | none => zmt id b
 | .rangeFunc _ _ a b => match zmt id a with | some x => some x | none => zmt id b
 | .cond _ a b => match zmt id a with | some x => some x | none => zmt id b
 | .block _ c => zmt id c
 | .loop c => zmt id c
 | .scope c => zmt id c
 | _ => none
def ztk (bx bp bm : Nat) (size : Nat) (rs : List (List Int)) (budget : Int) (n : Nat) : Prop :=
 ∀ (S : Sto) (met : Int → Int → Bool) (w : W) (B : Int) (steps : Int) (ps : List PRow) (round : Nat) (free : List Int), SearchP S bx bp bm size rs budget steps w ps → ps.length = rs.length → round < rs.length → GoodW B met w → B + n ≤ 1000000000000 → AscI free →
  mzS rs round free.length < n → (∀ i (h : i < ps.length), ps[i].rows.length + n ≤ 10000) →
  DC Try.prog 49 [.v (.pointer (some ⟨bx, 0, none⟩)), I round, ints free] S (zjh bx bp bm size rs budget w ps (srch size budget rs n met round free steps))
abbrev eF (bx b4 b5 b6 : Nat) : VEnv := [(3, .plc [.v (.pointer (some ⟨bx, 0, none⟩))]), (4, .v (.pointer (some ⟨b4, 0, none⟩))), (5, .v (.pointer (some ⟨b5, 0, none⟩))), (6, .v (.pointer (some ⟨b6, 0, none⟩)))]
end Go.XL
namespace Go.XL
open Go.Proofs
set_option maxRecDepth 100000
set_option maxHeartbeats 4000000
structure Th (b : Nat) (l : List V) (hv hv3 : VH) : Prop where
 blk : ∃ cs T, hv b = some (.cells (List.toArray cs) T (0, 0)) ∧ RlL hv l cs
 ne : ∀ j, j ≠ b → hv3 j = hv j
def Safe (b : Nat) (l : List V) (c : V) : Prop := ∀ hv hv3, Th b l hv hv3 → ∀ y, c.Rl hv y → c.Rl hv3 y
theorem Safe.v {b : Nat} {l : List V} (x : Value) : Safe b l (.v x) := fun _ _ _ _ h => by simp only [V.Rl] at h ⊢; exact h
theorem Safe.list {b : Nat} {l : List V} {hv hv3 : VH} (t : Th b l hv hv3) : ∀ {c : List V} {ys : List Value}, (∀ v ∈ c, Safe b l v) → RlL hv c ys → RlL hv3 c ys
 | [], _, _, h => h
 | v :: r, _, hs, h => by
  obtain ⟨z, zs, rfl, h1, h2⟩ := h.cons
  simp only [RlL]
  exact ⟨z, zs, rfl, hs v (List.mem_cons_self ..) _ _ t _ h1, Safe.list t (fun u hu => hs u (List.mem_cons_of_mem _ hu)) h2⟩
theorem Safe.agg {b : Nat} {l c : List V} (h : ∀ v ∈ c, Safe b l v) : Safe b l (.agg c) := fun _ _ t _ e => by
 simp only [V.Rl] at e ⊢
 obtain ⟨ys, rfl, e2⟩ := e
 exact ⟨ys, rfl, Safe.list t h e2⟩
open Classical in
def SlV (v : V) : Prop := (∃ x, v = .lst x) ∨ v = .v (.slice none 0 0)
def NumV (v : V) : Prop := ∃ x, v = .v x ∧ ∀ p n c, x ≠ .slice p n c
theorem SlV.val {hv : VH} {v : V} {u : Value} (h : SlV v) (e : v.Rl hv u) : ∃ p n c, u = .slice p n c := by
 rcases h with ⟨x, rfl⟩ | rfl
 ·simp only [V.Rl] at e; obtain ⟨p, c, _, rfl, _⟩ := e; exact ⟨_, _, _, rfl⟩
 ·simp only [V.Rl] at e; exact ⟨_, _, _, e⟩
theorem Th.ldH {b : Nat} {l : List V} {hv hv3 : VH} (t : Th b l hv hv3) {q : Option Addr} {u : Value} (e : ldH hv q = some u) : ldH hv3 q = some u ∨ ∃ v ∈ l, v.Rl hv u := by
 cases q with
 | none => simp [XL.ldH] at e
 | some a =>
  by_cases hb : a.block = b
  ·obtain ⟨cs, T, h1, h2⟩ := t.blk
   refine .inr ?_
   simp only [XL.ldH, Option.bind_some, zod, hb, h1] at e
   split at e
   ·cases e
   ·have hlt : a.off < cs.length := by
     have := (Array.getElem?_eq_some_iff.1 e).1; simpa using this
    have hl : a.off < l.length := by rw [← h2.length]; exact hlt
    obtain ⟨y, y1, y2⟩ := h2.get (List.getElem?_eq_getElem hl)
    have : cs[a.off]? = some u := by simpa using e
    rw [this] at y1; cases y1
    exact ⟨_, List.getElem_mem hl, y2⟩
  ·refine .inl ?_
   simp only [XL.ldH, Option.bind_some, zod] at e ⊢
   rw [t.ne _ hb]; exact e
theorem Th.nums {b : Nat} {l : List V} {hv hv3 : VH} (t : Th b l hv hv3) (hl : ∀ v ∈ l, SlV v) {p : Option Addr} : ∀ {c : List V} {i : Nat}, (∀ v ∈ c, NumV v) → RlC hv p i c → RlC hv3 p i c
 | [], _, _, _ => trivial
 | v :: r, i, h, e => by
  simp only [RlC] at e ⊢
  obtain ⟨⟨u, e1, e2, e3⟩, e4⟩ := e
  obtain ⟨x, rfl, hx⟩ := h v (List.mem_cons_self ..)
  simp only [V.Rl] at e2; subst e2
  refine ⟨⟨u, (t.ldH e1).resolve_right ?_, by simp only [V.Rl], e3⟩, Th.nums t hl (fun w hw => h w (List.mem_cons_of_mem _ hw)) e4⟩
  rintro ⟨w, hw, hw2⟩
  obtain ⟨p', n', c', h'⟩ := (hl w hw).val hw2
  exact hx _ _ _ h'
theorem Safe.nums {b : Nat} {l : List V} (hl : ∀ v ∈ l, SlV v) {cl : List (List V)} (h : ∀ c ∈ cl, ∀ v ∈ c, NumV v) : Safe b l (.lst cl) := fun hv hv3 t y e => by
 simp only [V.Rl] at e ⊢
 obtain ⟨p, cap, sz, e1, e2, e3, e4, e5⟩ := e
 exact ⟨p, cap, sz, e1, e2, e3, e4, RlE.of_flat (t.nums hl (fun v hv => by obtain ⟨c, h1, h2⟩ := List.mem_flatten.1 hv; exact h c h1 v h2) e5.flat)⟩
theorem Safe.own {b : Nat} {l : List V} {m : Bool} {e sz : Nat} {cl : List (List V)} (h : Safe b l (.lst cl)) : Safe b l (.own m e sz cl) := fun hv hv3 t y r => by
 have := h hv hv3 t y (by simpa only [V.Rl] using r)
 simpa only [V.Rl] using this
theorem Safe.ints {b : Nat} {l : List V} (hl : ∀ v ∈ l, SlV v) (L : List Int) : Safe b l (ints L) := Safe.nums hl fun c hc v hv => by
 obtain ⟨n, _, rfl⟩ := List.mem_map.1 hc
 simp only [cI, List.mem_singleton] at hv
 exact ⟨_, hv, fun _ _ _ h => by cases h⟩
theorem zsh : ∀ L : List Int, (L.map cI).flatten = L.map I
 | [] => rfl
 | a :: r => by
  simp only [List.map_cons, List.flatten_cons, zsh r]; rfl
def NoInt (v : V) : Prop := ∀ hv u L, 3 ≤ L.length → v.Rl hv u → (XL.ints L).Rl hv u → False
theorem NoInt.nil : NoInt (.v (.slice none 0 0)) := fun hv u L hL h1 h2 => by
 simp only [V.Rl] at h1 h2; subst h1
 obtain ⟨p, cap, _, e, _⟩ := h2
 simp only [Value.slice.injEq, List.length_map] at e
 omega
theorem NoInt.lst {x : List (List V)} {j : Nat} (hj : j < 3) (h : 3 ≤ x.length → ∃ v, x.flatten[j]? = some v ∧ SlV v) : NoInt (.lst x) := fun hv u L hL h1 h2 => by
 simp only [V.Rl] at h1 h2
 obtain ⟨p, cap, _, rfl, _, _, _, e5⟩ := h1
 obtain ⟨p', cap', _, e, _, _, _, f5⟩ := h2
 simp only [Value.slice.injEq, List.length_map] at e
 obtain ⟨rfl, e1, rfl⟩ := e
 obtain ⟨v, v1, v2⟩ := h (by omega)
 obtain ⟨u, u1, u2, _⟩ := e5.flat.get v1
 have f6 := f5.flat
 rw [zsh] at f6
 have hlt : j < L.length := by omega
 obtain ⟨w, w1, w2, _⟩ := f6.get (j := j) (v := I L[j]) (by rw [List.getElem?_map, List.getElem?_eq_getElem hlt]; rfl)
 rw [u1] at w1; cases w1
 simp only [V.Rl] at w2
 obtain ⟨_, _, _, h'⟩ := v2.val u2
 rw [w2] at h'; cases h'
theorem NoInt.rows (M : List (List Int)) : NoInt (rows M) := NoInt.lst (j := 0) (by omega) fun h => by
 cases M with
 | nil => simp at h
 | cons a r => exact ⟨XL.ints a, rfl, .inl ⟨_, rfl⟩⟩
theorem NoInt.rulings (M : List Ruling) : NoInt (.lst (M.map Ruling.cells)) := NoInt.lst (j := 2) (by omega) fun h => by
 cases M with
 | nil => simp at h
 | cons a r => exact ⟨XL.ints a.points, rfl, .inl ⟨_, rfl⟩⟩
theorem Safe.rows {b : Nat} {l : List V} (hl : ∀ v ∈ l, SlV v ∧ NoInt v) {M : List (List Int)} (hM : ∀ r ∈ M, 3 ≤ r.length) : Safe b l (rows M) := fun hv hv3 t y e => by
 simp only [V.Rl] at e ⊢
 obtain ⟨p, cap, sz, e1, e2, e3, e4, e5⟩ := e
 refine ⟨p, cap, sz, e1, e2, e3, e4, ?_⟩
 clear e1 e2 e4
 revert e5
 generalize 0 = i
 induction M generalizing i with
 | nil => exact fun h => h
 | cons a r ih =>
  intro h
  simp only [List.map_cons, RlE, cR, RlC, List.length_singleton] at h ⊢
  obtain ⟨⟨⟨u, u1, u2, u3⟩, _⟩, h2⟩ := h
  refine ⟨⟨⟨u, (t.ldH u1).resolve_right ?_, Safe.ints (fun v hv => (hl v hv).1) a _ _ t _ u2, u3⟩, trivial⟩, ih (fun r' hr' => hM r' (List.mem_cons_of_mem _ hr')) _ h2⟩
  rintro ⟨w, hw, hw2⟩
  exact (hl w hw).2 hv u a (hM a (List.mem_cons_self ..)) hw2 u2
end Go.XL
namespace Go.XL
open Go.Proofs
set_option maxRecDepth 100000
set_option maxHeartbeats 8000000
abbrev zjj : List V := [I 0, I 0, I 0, I 0, .v (.slice none 0 0), Bo false, .v (.slice none 0 0), .v (.slice none 0 0)]
end Go.XL
namespace Go.XL
open Go.Proofs
set_option maxRecDepth 100000
set_option maxHeartbeats 8000000
def SR (T : Nat) (g : GR) : Sto := match g with | ⟨_, none⟩ => [] | ⟨l, some (b, _, j)⟩ => [(b, .cells (l.flatten ++ j) T)]
def NB (bs b4 b5 b : Nat) (g : GR) : Prop := ∀ b' cap j, g.blk = some (b', cap, j) → b' ≠ bs ∧ b' ≠ b4 ∧ b' ≠ b5 ∧ b' ≠ b
theorem NB.look {bs b4 b5 b : Nat} {g : GR} (h : NB bs b4 b5 b g) (T c : Nat) (hc : c = bs ∨ c = b4 ∨ c = b5 ∨ c = b) : zac (SR T g) c = none := by
 obtain ⟨l, blk⟩ := g
 cases blk with
 | none => rfl
 | some x =>
  obtain ⟨b', cap, j⟩ := x
  have := h b' cap j rfl
  simp only [SR, zac]
  rw [if_neg]
  rintro rfl
  omega
structure RulI (bs b4 b5 b : Nat) (Rul : List Ruling) (g : GR) : Prop where
 l : g.l = Rul.map Ruling.cells
 ok : g.Ok 41 3 (SR 41 g)
 nb : NB bs b4 b5 b g
end Go.XL
namespace Go.XL
structure MadeR (size : Int) (L : Nat) (s : Sitting) : Prop where
 rows : ∀ t ∈ s.tables, (t.length : Int) = size
 len : s.tables.length ≤ L
 pts : ∀ p ∈ s.points, p = [] ∨ (p.length : Int) = size
 plen : s.points.length = s.tables.length
 rul : s.rulings.length ≤ 2 * L
 rpts : ∀ r ∈ s.rulings, (r.points.length : Int) = size
end Go.XL
namespace Go.XL
open Go.Proofs
set_option maxRecDepth 100000
set_option maxHeartbeats 8000000
theorem zky {sz : Nat} {j : List V} : ∀ {l : List (List V)}, (∀ c ∈ l, c.length = sz) → chunk sz l.length (l.flatten ++ j) = l
 | [], _ => rfl
 | c :: r, h => by
  have hc := h c (List.mem_cons_self ..)
  rw [List.length_cons, chunk, List.flatten_cons, List.append_assoc, List.take_left' hc, List.drop_left' hc, zky fun d hd => h d (List.mem_cons_of_mem _ hd)]
structure SitI (bs b4 b5 : Nat) (Rs : List Sitting) (g : GR) : Prop where
 l : g.l = Rs.map Sitting.cells
 ok : g.Ok 45 3 (SR 45 g)
 nb : NB bs b4 b5 b5 g
end Go.XL
namespace Go.XL
open Go.Proofs
set_option maxRecDepth 100000
set_option maxHeartbeats 8000000
theorem yhe : PC Try.prog 15 [] (.own false 3 1 ([1, 2, 3, 4, 5, 6, 7, 8, 9].map cI)) := by
 refine DC.of_run Try.func15 rfl Try.ntmps15 Try.results15 (by simp) (fun _ => ?_); simp only [zaf, zai, go_sem, Nat.zero_add, Nat.reduceAdd]
 repeat' (first | with_reducible (refine zfl (t := 0) yU yO yX4 ?_) | (with_reducible refine zgj (t := 0) yU yO yX4 ?_; simp only [zap, zag, zah, Nat.reduceEqDiff, ↓reduceIte, zal, zam, zax, zak, zaj, zaq, zan]) | (with_reducible first | refine zab ?_ | refine DS.seq ?_ | refine zaa ?_) | (refine zdn yU yX4 yX4 ?_; simp only [go_sem, Nat.zero_add, Nat.reduceAdd]) | refine zat [] yX4 trivial ?_ | fail)
 all_goals rfl
end Go.XL
namespace Go.XL
open Go.Proofs
set_option maxRecDepth 100000
set_option maxHeartbeats 8000000
theorem zeg {P : Program} {n : Nat} {r : Rr} {Q : VEnv → Sto → Prop} {k : List Fr} {E : VEnv} {S : Sto} {b : Nat} {l : List V} {T : TypeId} (f : V → V) (hf : ∀ hv v y, v.Rl hv y → (f v).Rl hv y) (hfr : ∀ v, (f v).free = true) (hS : zac S b = some (.cells l T)) (q : DS P n r Q k E (setS b (.cells (l.map f) T) S)) : DS P n r Q k E S := fun K W a w ⟨K', D, hv, hold, env, hbx, ha, s⟩ hw => by
 refine q K W a w ⟨K', D, hv, hold, env, hbx, ha, ⟨s.pre, s.slot, fun j o e => ?_, s.held, s.base, s.vbase⟩⟩ hw
 rw [zas hS] at e
 split at e
 ·rename_i hj
  subst hj
  simp only [Option.some.injEq] at e; subst e
  obtain ⟨o1, o2, cs, o3, o4, o5, o6⟩ := s.obj _ _ hS
  have key : ∀ {l : List V} {cs : List Value}, RlL hv l cs → RlL hv (l.map f) cs := fun {l} => by
   induction l with
   | nil => exact fun h => h
   | cons v r ih =>
    intro cs h
    obtain ⟨z, zs, rfl, h1, h2⟩ := h.cons
    simp only [List.map_cons, RlL]
    exact ⟨z, zs, rfl, hf _ _ _ h1, ih h2⟩
  refine ⟨o1, o2, cs, o3, key o4, o5, fun i c u hc hu => ?_⟩
  obtain ⟨v, hv, rfl⟩ := List.mem_map.1 (List.mem_of_getElem? hc)
  exact V.free_Own (hfr v) u
 ·exact s.obj j o e
theorem yav {hv : VH} {f : V → V} (hf : ∀ v y, v.Rl hv y → (f v).Rl hv y) {p : Option Addr} : ∀ {c : List V} {i : Nat}, RlC hv p i c → RlC hv p i (c.map f)
 | [], _, _ => trivial
 | v :: r, i, h => by
  simp only [List.map_cons, RlC] at h ⊢
  obtain ⟨⟨u, h1, h2, h3⟩, h4⟩ := h
  exact ⟨⟨u, h1, hf _ _ h2, h3⟩, yav hf h4⟩
theorem yau {hv : VH} {f : V → V} (hf : ∀ v y, v.Rl hv y → (f v).Rl hv y) {p : Option Addr} : ∀ {l : List (List V)} {i : Nat}, RlE hv p i l → RlE hv p i (l.map (·.map f))
 | [], _, _ => trivial
 | c :: r, i, h => by
  simp only [List.map_cons, RlE] at h ⊢
  exact ⟨yav hf h.1, by rw [List.length_map]; exact yau hf h.2⟩
def inL (f : V → V) (v : V) : V := match v.peek with | .lst l => .lst (l.map (·.map f)) | w => w
theorem zzy {hv : VH} {f : V → V} (hf : ∀ v y, v.Rl hv y → (f v).Rl hv y) {v : V} {y : Value} (h : v.Rl hv y) : (inL f v).Rl hv y := by
 have h' := V.peek_Rl h
 unfold inL
 split
 ·rename_i l e
  rw [e] at h'
  simp only [V.Rl] at h' ⊢
  obtain ⟨p, cap, sz, h1, h2, h3, h4, h5⟩ := h'
  refine ⟨p, cap, sz, by rw [List.length_map]; exact h1, by rw [List.length_map]; exact h2, h3, fun c hc => ?_, yau hf h5⟩
  obtain ⟨d, hd, rfl⟩ := List.mem_map.1 hc
  rw [List.length_map]; exact h4 d hd
 ·exact h'
theorem ycs (f : V → V) (v : V) : (inL f v).free = true := by
 unfold inL
 split
 ·rfl
 ·exact zcx v
def deep : V → V := inL (inL (inL V.peek))
theorem yft {hv : VH} {v : V} {y : Value} (h : v.Rl hv y) : (deep v).Rl hv y := zzy (fun _ _ h => zzy (fun _ _ h => zzy (fun _ _ h => V.peek_Rl h) h) h) h
def shownC : Club := ⟨3, 100, -50, 1, [30, 0, -30], true, [⟨1, 0, 0, -1⟩, ⟨2, 0, 0, -1⟩, ⟨3, 0, 0, -1⟩, ⟨4, 0, 0, -1⟩, ⟨5, 0, 0, -1⟩, ⟨6, 0, 0, -1⟩, ⟨7, 0, 0, -1⟩, ⟨8, 0, 0, -1⟩, ⟨9, 5, 0, -1⟩], [⟨[[1, 2, 3], [4, 5, 6], [7, 8, 9]], [[130, 100, 70], [120, 120, 60], []], []⟩]⟩
abbrev shC (m r : V) : List V := [I 3, I 100, I (-50), I 1, ints [30, 0, -30], Bo true, m, r]
def mems (n : Nat) : List Member := (List.range n).map fun i : Nat => ⟨(i : Int) + 1, 0, 0, -1⟩
structure MemI (b0 b1 n : Nat) (g : GR) : Prop where
 l : g.l = (mems n).map Member.cells
 ok : g.Ok 63 4 (SR 63 g)
 nb : NB b0 b0 b1 b1 g
theorem yX13 {p : Prop} (h : p := by (simp (disch := omega) only [go_sem, dopV, Option.map_some, Option.map_none, Option.bind_some, Option.bind_none, ↓reduceIte, Nat.reduceEqDiff, Nat.reduceLT, Nat.reduceLeDiff, Nat.reduceAdd, Nat.reduceMul, Nat.reduceSub, Nat.zero_add, Nat.add_zero, Nat.zero_le, Nat.zero_mul, Nat.mul_one, Nat.one_mul, Int.natCast_zero, Int.toNat_zero, Int.reduceToNat, Int.reduceLT, Int.reduceLE, Int.reduceEq, decide_true, decide_false, true_and, and_true, Bool.and_self, Bool.and_true, Bool.true_and, Bool.not_true, Bool.not_false, IntWalk.toNatUp, IntWalk.iteOmega, IntWalk.i64_in, Option.isSome_some, not_true_eq_false, not_false_eq_true, Option.getD_some, Option.getD_none, Int.toNat_natCast, List.length_map, List.getElem?_map, List.getElem?_eq_getElem, V.flat, V.one, List.all_cons, List.all_nil, *, Value.oneCell', GR.cell_copy]; exact rfl)) : p := h
theorem yX14 {p : Prop} (h : p := by (simp (disch := omega) only [go_sem, dopV, Option.map_some, Option.map_none, Option.bind_some, Option.bind_none, ↓reduceIte, Nat.reduceEqDiff, Nat.reduceLT, Nat.reduceLeDiff, Nat.reduceAdd, Nat.reduceMul, Nat.reduceSub, Nat.zero_add, Nat.add_zero, Nat.zero_le, Nat.zero_mul, Nat.mul_one, Nat.one_mul, Int.natCast_zero, Int.toNat_zero, Int.reduceToNat, Int.reduceLT, Int.reduceLE, Int.reduceEq, decide_true, decide_false, true_and, and_true, Bool.and_self, Bool.and_true, Bool.true_and, Bool.not_true, Bool.not_false, IntWalk.toNatUp, IntWalk.iteOmega, IntWalk.i64_in, Option.isSome_some, not_true_eq_false, not_false_eq_true, Option.getD_some, Option.getD_none, Int.toNat_natCast, List.length_map, List.getElem?_map, List.getElem?_eq_getElem, V.flat, V.one, List.all_cons, List.all_nil, Club.cells_eq]; try exact rfl)) : p := h
theorem zir : PC Try.prog 8 [] shownC.val := by
 refine DC.of_run Try.func8 rfl Try.ntmps8 Try.results8 (by simp) (fun _ => ?_); simp only [zaf, zai, go_sem, Nat.zero_add, Nat.reduceAdd]
 repeat' (first | (with_reducible first | refine DS.seq ?_ | refine zaa ?_) | fail)
 refine zdl yR yU yU (fun b0 h0 => ?_)
 clear h0
 repeat' (first | (with_reducible first | refine zad yU yU yX4 ?_ | refine zab ?_ | refine DS.seq ?_ | refine zaa ?_) | (refine zdn yU yX4 yX4 ?_; simp only [go_sem, Nat.zero_add, Nat.reduceAdd]) | fail)
 refine zdl yR yU yU (fun b1 h1 => ?_)
 have n1 : ¬ b0 = b1 := fun e => by rw [zae, if_pos e] at h1; cases h1
 have n1' : ¬ b1 = b0 := fun e => n1 e.symm
 clear h1
 repeat' (first | (with_reducible first | refine zad yU yU yX4 ?_ | refine zab ?_ | refine DS.seq ?_ | refine zaa ?_ | refine DS.block ?_) | (refine DS.store yR yX4 yX4 yX4 yX4 yU (by exact ⟨by with_unfolding_all rfl, by (try simp only [List.length_map, List.length_append, List.length_set, List.length_replicate, List.length_cons, List.length_nil]); omega⟩) ?_; simp only [zbm, zao, zar, zcb, zbn, zbi, zbj]; try simp only [zap, zag, zah, Nat.reduceEqDiff, ↓reduceIte, zal, zam, zax, zak, zaj, zaq, zan]) | fail)
 simp only [List.map_cons, List.map_nil, zcd, zay, zao, zar, zbb, zaz, setS, n1', ↓reduceIte, Nat.reduceAdd, Nat.zero_add]
 refine zda [0, 1] yN (fun (y : Nat × Int × GR) => [(2, I y.2.1)]) (fun (y : Nat × Int × GR) => (b1, .cells (shC y.2.2.cell (.v (.slice none 0 0))) 29) :: (b0, .cells zjj 29) :: SR 63 y.2.2) (fun (y : Nat × Int × GR) => y.1 ≤ 9 ∧ (y.2.1 ≤ y.1 + 1 ∧ (y.1 : Int) + 1 ≤ y.2.1) ∧ MemI b0 b1 y.1 y.2.2) (fun (y : Nat × Int × GR) => 9 - y.1) (0, 1, ⟨[], none⟩) yS (fun b o e => by exact e) ⟨by dsimp only; omega, by dsimp only; omega, ⟨rfl, rfl, fun _ _ _ e => by cases e⟩⟩ (fun y B hI hB => ?_); try dsimp only at hI hB; simp only [zaw, zbg]
 obtain ⟨m, i, g⟩ := y
 dsimp only at hI hB ⊢
 obtain ⟨g1, g2, hg⟩ := hI
 repeat' (first | (with_reducible first | refine zad yU yU yX13 ?_ | refine zab ?_ | refine DS.seq ?_ | refine zaa ?_ | (refine zbe yX13 ?_; refine zeq (fun _ => ?_) (fun _ => ?_)) | refine DS.block ?_ | refine DS.exit yU ?_ | refine DS.skip ?_) | (refine zdn yU yX13 yX13 ?_; simp only [go_sem, Nat.zero_add, Nat.reduceAdd]) | fail)
 ·have hgl : g.l.length = m := by rw [hg.l, List.length_map]; simp [mems]
  refine zcu rfl rfl yR (zld (g := g) (ml := [Member.cells ⟨i, 0, 0, -1⟩]) rfl yH yH yR yR (by decide) yH (hg.ok.of fun d cap' jj h => ?_) yH yH (by exact Nat.zero_lt_succ _) (by intro c hc; obtain rfl := List.mem_singleton.1 hc; rfl) ⟨by rw [hgl, List.length_singleton]; omega, by decide⟩) (fun u2 E' S4 hu2 => ?_)
  ·have hn := hg.nb d cap' jj h
   rw [zae, if_neg (fun h' => hn.2.2.1 h'.symm), zae, if_neg (fun h' => hn.1 h'.symm)]
  obtain ⟨rfl, b', cap', junk', rfl, m1, m2, m3⟩ := hu2
  obtain rfl : i = (m : Int) + 1 := by omega
  have hml : g.l ++ [Member.cells ⟨(m : Int) + 1, 0, 0, -1⟩].map (fun x => List.map V.copy x) = (mems (m + 1)).map Member.cells := by
   rw [hg.l, mems, mems, List.range_succ, List.map_append, List.map_append]; rfl
  rw [hml] at m1 ⊢
  have hnl : ((mems (m + 1)).map Member.cells).length = m + 1 := by rw [List.length_map]; simp [mems]
  have e0 : b' ≠ b1 ∧ b' ≠ b0 := by
   rcases m2 with ⟨c, jj, h⟩ | h
   ·have hn := hg.nb _ _ _ h
    exact ⟨hn.2.2.1, hn.1⟩
   ·simp only [zae] at h
    refine ⟨fun h' => ?_, fun h' => ?_⟩
    ·rw [if_pos h'.symm] at h; cases h
    ·rw [if_neg (fun x => n1' (x.trans h')), if_pos h'.symm] at h; cases h
  obtain ⟨e1, e2⟩ := e0
  have hold : ∀ d, d ≠ b' → (d = b1 ∨ d = b0) → zac S4 d = zac ((b1, Ob.cells (shC g.cell (.v (.slice none 0 0))) 29) :: (b0, .cells zjj 29) :: SR 63 g) d := fun d hd hl =>
   m3 d hd fun c jj h => by
    have hn := hg.nb _ _ _ h
    rcases hl with rfl | rfl
    ·exact hn.2.2.1 rfl
    ·exact hn.1 rfl
  refine zew (S' := (b1, .cells (shC g.cell (.v (.slice none 0 0))) 29) :: (b0, .cells zjj 29) :: SR 63 ⟨(mems (m + 1)).map Member.cells, some (b', cap', junk')⟩) (fun d o e => ?_) ?_
  ·simp only [zae, zfh, SR] at e
   by_cases c1 : b1 = d
   ·subst c1; rw [if_pos rfl] at e; rw [hold _ (fun h => e1 h.symm) (.inl rfl), zae, if_pos rfl]; exact e
   rw [if_neg c1] at e
   by_cases c2 : b0 = d
   ·subst c2; rw [if_pos rfl] at e; rw [hold _ (fun h => e2 h.symm) (.inr rfl), zae, if_neg c1, zae, if_pos rfl]; exact e
   rw [if_neg c2] at e
   by_cases c3 : b' = d
   ·subst c3; rw [if_pos rfl] at e; rw [m1.look]; exact e
   ·rw [if_neg c3] at e; cases e
  have hI2 : MemI b0 b1 (m + 1) ⟨(mems (m + 1)).map Member.cells, some (b', cap', junk')⟩ := ⟨rfl, ⟨by simp [SR, zac], m1.len, m1.le, m1.cap, m1.jf, m1.lf, m1.ll⟩, fun c1 c2 c3 h => by cases h; exact ⟨e2, e2, e1, e1⟩⟩
  have H := Box.mk hI2
  clear hI2 hml m1 m2 m3 hold hg
  simp only [GR.cell_some, zca]
  repeat' (first | (with_reducible first | refine zad yU yU yE ?_ | refine zab ?_ | refine zaa ?_ | refine DS.blk ?_) | (refine DS.store yR yE yE yE yE yU (by exact ⟨by with_unfolding_all rfl, by (try simp only [List.length_map, List.length_append, List.length_set, List.length_replicate, List.length_cons, List.length_nil]); omega⟩) ?_; simp only [zbm, zao, zar, zcb, zbn, zbi, zbj]; try simp only [zap, zag, zah, Nat.reduceEqDiff, ↓reduceIte, zal, zam, zax, zak, zaj, zaq, zan]) | fail)
  simp only [setS, ↓reduceIte, zbb, zaz]
  refine DS.back (hB (m + 1, (m : Int) + 1 + 1, ⟨(mems (m + 1)).map Member.cells, some (b', cap', junk')⟩) _ _ (by dsimp only; omega) ⟨by dsimp only; omega, by dsimp only; omega, H.out⟩ yS yS (fun d o e => ?_))
  dsimp only at e
  rw [GR.cell_some, hnl] at e
  exact e
 ·obtain rfl : m = 9 := by omega
  obtain ⟨l, blk⟩ := g
  obtain rfl : l = (mems 9).map Member.cells := hg.l
  cases blk with
  | none =>
   have : (mems 9).map Member.cells = [] := hg.ok
   cases this
  | some y =>
   obtain ⟨bm, cap, j⟩ := y
   have hok : GR.At 63 4 (SR 63 ⟨(mems 9).map Member.cells, some (bm, cap, j)⟩) ((mems 9).map Member.cells) bm cap j := hg.ok
   have hb := hg.nb bm cap j rfl
   have o0 : ¬ b0 = bm := fun h => hb.1 h.symm
   have o1 : ¬ b1 = bm := fun h => hb.2.2.1 h.symm
   have o1' : ¬ bm = b1 := hb.2.2.1
   have hle := hok.le
   have hcap := hok.cap
   have hfl : ((mems 9).map Member.cells).flatten = [I 1, I 0, I 0, I (-1), I 2, I 0, I 0, I (-1), I 3, I 0, I 0, I (-1), I 4, I 0, I 0, I (-1), I 5, I 0, I 0, I (-1), I 6, I 0, I 0, I (-1), I 7, I 0, I 0, I (-1), I 8, I 0, I 0, I (-1), I 9, I 0, I 0, I (-1)] := by with_unfolding_all rfl
   have hl9 : ((mems 9).map Member.cells).length = 9 := by with_unfolding_all rfl
   simp only [GR.cell_some, SR, hfl, hl9]
   rw [hl9] at hle
   clear hg hok hfl hl9
   repeat' (first | (with_reducible first | refine zad yU yU yE ?_ | refine zab ?_ | refine DS.seq ?_ | refine zaa ?_) | (refine DS.store yR yE yE yE yE yU (by exact ⟨by with_unfolding_all rfl, by (try simp only [List.length_map, List.length_append, List.length_set, List.length_replicate, List.length_cons, List.length_nil]); omega⟩) ?_; simp only [zbm, zao, zar, zcb, zbn, zbi, zbj]; try simp only [zap, zag, zah, Nat.reduceEqDiff, ↓reduceIte, zal, zam, zax, zak, zaj, zaq, zan]) | fail)
   simp only [setS, o1, ↓reduceIte]
   refine zcn (b := bm) (b' := b1) (i := 6) (sz := 4) (len := 9) (cap := cap) (l' := shC (.v (.slice (some ⟨bm, 0, none⟩) 9 cap)) (.v (.slice none 0 0))) (l := [I 1, I 0, I 0, I (-1), I 2, I 0, I 0, I (-1), I 3, I 0, I 0, I (-1), I 4, I 0, I 0, I (-1), I 5, I 0, I 0, I (-1), I 6, I 0, I 0, I (-1), I 7, I 0, I 0, I (-1), I 8, I 0, I 0, I (-1), I 9, I 5, I 0, I (-1)] ++ j) (T := 63) (T' := 29) o1 (by simp only [zae, ↓reduceIte]) yR (by simp only [zae, o0, o1, ↓reduceIte]; rfl) (by simp) ⟨hle, hcap⟩ ?_
   have hch : chunk 4 9 (([I 1, I 0, I 0, I (-1), I 2, I 0, I 0, I (-1), I 3, I 0, I 0, I (-1), I 4, I 0, I 0, I (-1), I 5, I 0, I 0, I (-1), I 6, I 0, I 0, I (-1), I 7, I 0, I 0, I (-1), I 8, I 0, I 0, I (-1), I 9, I 5, I 0, I (-1)] ++ j).map V.copy) = shownC.members.map Member.cells := by with_unfolding_all rfl
   rw [hch]
   clear hch
   simp only [setS, zbs, zcc, o0, o1, ↓reduceIte, zbb, zaz, shC]
   repeat' (first | (with_reducible first | refine zad yU yU yX4 ?_ | refine zab ?_ | refine DS.seq ?_ | refine zaa ?_) | (refine zdn yU yX4 yX4 ?_; simp only [go_sem, Nat.zero_add, Nat.reduceAdd]) | (refine DS.store yR yX4 yX4 yX4 yX4 yU (by exact ⟨by with_unfolding_all rfl, by (try simp only [List.length_map, List.length_append, List.length_set, List.length_replicate, List.length_cons, List.length_nil]); omega⟩) ?_; simp only [zbm, zao, zar, zcb, zbn, zbi, zbj]; try simp only [zap, zag, zah, Nat.reduceEqDiff, ↓reduceIte, zal, zam, zax, zak, zaj, zaq, zan]) | fail)
   simp only [zjj, List.map_cons, List.map_nil, zcd, zay, zbq, zao, zar, zbb, zaz, setS, n1, n1', ↓reduceIte, Nat.reduceAdd, Nat.zero_add]
   refine zeg (b := b0) deep (fun _ _ _ h => yft h) (fun v => ycs _ v) (by simp only [zae, n1', ↓reduceIte]; exact rfl) ?_
   refine zew (S' := [(b0, .cells shownC.cells 29)]) (fun d o e => ?_) ?_
   ·simp only [setS, n1', ↓reduceIte, zae, zfh] at e ⊢
    by_cases c0 : b0 = d
    ·subst c0
     simp only [n1', ↓reduceIte] at e ⊢
     rw [← e]; with_unfolding_all rfl
    ·rw [if_neg c0] at e; cases e
   ·exact zrb [] (vs := [shownC.val]) yX14 (fun _ _ e => by cases e) rfl
end Go.XL
namespace Go.XL
open Go.Proofs
set_option maxRecDepth 100000
set_option maxHeartbeats 8000000
abbrev shRo (br bt bp : Nat) (x : V) : Nat × Ob := (br, .cells [.v (.slice (some ⟨bt, 0, none⟩) 3 3), .v (.slice (some ⟨bp, 0, none⟩) 3 3), x] 45)
abbrev shT (b : Nat) (l : List V) : Nat × Ob := (b, .cells l 25)
abbrev shS (br bt bp : Nat) (t p : List V) : Sto := [shRo br bt bp (.v (.slice none 0 0)), shT bt t, shT bp p]
abbrev shW (v : V) : List V := [I 3, I 100, I (-50), I 1, ints [30, 0, -30], Bo true, .lst (shownC.members.map Member.cells), v]
abbrev shV (br : Nat) : V := .agg (shW (.v (.slice (some ⟨br, 0, none⟩) 1 1)))
theorem yX15 {p : Prop} (h : p := by (simp (disch := omega) only [go_sem, dopV, Option.map_some, Option.map_none, Option.bind_some, Option.bind_none, ↓reduceIte, Nat.reduceEqDiff, Nat.reduceLT, Nat.reduceLeDiff, Nat.reduceAdd, Nat.reduceMul, Nat.reduceSub, Nat.zero_add, Nat.add_zero, Nat.zero_le, Nat.zero_mul, Nat.mul_one, Nat.one_mul, Int.natCast_zero, Int.toNat_zero, Int.reduceToNat, Int.reduceLT, Int.reduceLE, Int.reduceEq, decide_true, decide_false, true_and, and_true, Bool.and_self, Bool.and_true, Bool.true_and, Bool.not_true, Bool.not_false, IntWalk.toNatUp, IntWalk.iteOmega, IntWalk.i64_in, Option.isSome_some, not_true_eq_false, not_false_eq_true, Option.getD_some, Option.getD_none, Int.toNat_natCast, List.length_map, List.getElem?_map, List.getElem?_eq_getElem, V.flat, V.one, List.all_cons, List.all_nil, Club.cells_eq, *]; try exact rfl)) : p := h
theorem zia : DC Try.prog 8 [] [] (fun u S' => ∃ br bt bp, (¬ br = bt ∧ ¬ br = bp ∧ ¬ bt = bp) ∧ u = shV br ∧ S' = shS br bt bp [ints [1, 2, 3], ints [4, 5, 6], ints [7, 8, 9]] [ints [130, 100, 70], ints [120, 120, 60], .v (.slice none 0 0)]) := by
 refine DC.of_run Try.func8 rfl Try.ntmps8 Try.results8 (by simp) (fun _ => ?_); simp only [zaf, zai, go_sem, Nat.zero_add, Nat.reduceAdd]
 repeat' (first | (with_reducible first | refine DS.seq ?_ | refine zaa ?_) | fail)
 refine zdl yR yU yU (fun b0 h0 => ?_)
 clear h0
 repeat' (first | (with_reducible first | refine zad yU yU yX4 ?_ | refine zab ?_ | refine DS.seq ?_ | refine zaa ?_) | (refine zdn yU yX4 yX4 ?_; simp only [go_sem, Nat.zero_add, Nat.reduceAdd]) | fail)
 refine zdl yR yU yU (fun b1 h1 => ?_)
 have n1 : ¬ b0 = b1 := fun e => by rw [zae, if_pos e] at h1; cases h1
 have n1' : ¬ b1 = b0 := fun e => n1 e.symm
 clear h1
 repeat' (first | (with_reducible first | refine zad yU yU yX4 ?_ | refine zab ?_ | refine DS.seq ?_ | refine zaa ?_ | refine DS.block ?_) | (refine DS.store yR yX4 yX4 yX4 yX4 yU (by exact ⟨by with_unfolding_all rfl, by (try simp only [List.length_map, List.length_append, List.length_set, List.length_replicate, List.length_cons, List.length_nil]); omega⟩) ?_; simp only [zbm, zao, zar, zcb, zbn, zbi, zbj]; try simp only [zap, zag, zah, Nat.reduceEqDiff, ↓reduceIte, zal, zam, zax, zak, zaj, zaq, zan]) | fail)
 simp only [List.map_cons, List.map_nil, zcd, zay, zao, zar, zbb, zaz, setS, n1', ↓reduceIte, Nat.reduceAdd, Nat.zero_add]
 refine zda [0, 1] yN (fun (y : Nat × Int × GR) => [(2, I y.2.1)]) (fun (y : Nat × Int × GR) => (b1, .cells (shC y.2.2.cell (.v (.slice none 0 0))) 29) :: (b0, .cells zjj 29) :: SR 63 y.2.2) (fun (y : Nat × Int × GR) => y.1 ≤ 9 ∧ (y.2.1 ≤ y.1 + 1 ∧ (y.1 : Int) + 1 ≤ y.2.1) ∧ MemI b0 b1 y.1 y.2.2) (fun (y : Nat × Int × GR) => 9 - y.1) (0, 1, ⟨[], none⟩) yS (fun b o e => by exact e) ⟨by dsimp only; omega, by dsimp only; omega, ⟨rfl, rfl, fun _ _ _ e => by cases e⟩⟩ (fun y B hI hB => ?_); try dsimp only at hI hB; simp only [zaw, zbg]
 obtain ⟨m, i, g⟩ := y
 dsimp only at hI hB ⊢
 obtain ⟨g1, g2, hg⟩ := hI
 repeat' (first | (with_reducible first | refine zad yU yU yX13 ?_ | refine zab ?_ | refine DS.seq ?_ | refine zaa ?_ | (refine zbe yX13 ?_; refine zeq (fun _ => ?_) (fun _ => ?_)) | refine DS.block ?_ | refine DS.exit yU ?_ | refine DS.skip ?_) | (refine zdn yU yX13 yX13 ?_; simp only [go_sem, Nat.zero_add, Nat.reduceAdd]) | fail)
 ·have hgl : g.l.length = m := by rw [hg.l, List.length_map]; simp [mems]
  refine zcu rfl rfl yR (zld (g := g) (ml := [Member.cells ⟨i, 0, 0, -1⟩]) rfl yH yH yR yR (by decide) yH (hg.ok.of fun d cap' jj h => ?_) yH yH (by exact Nat.zero_lt_succ _) (by intro c hc; obtain rfl := List.mem_singleton.1 hc; rfl) ⟨by rw [hgl, List.length_singleton]; omega, by decide⟩) (fun u2 E' S4 hu2 => ?_)
  ·have hn := hg.nb d cap' jj h
   rw [zae, if_neg (fun h' => hn.2.2.1 h'.symm), zae, if_neg (fun h' => hn.1 h'.symm)]
  obtain ⟨rfl, b', cap', junk', rfl, m1, m2, m3⟩ := hu2
  obtain rfl : i = (m : Int) + 1 := by omega
  have hml : g.l ++ [Member.cells ⟨(m : Int) + 1, 0, 0, -1⟩].map (fun x => List.map V.copy x) = (mems (m + 1)).map Member.cells := by
   rw [hg.l, mems, mems, List.range_succ, List.map_append, List.map_append]; rfl
  rw [hml] at m1 ⊢
  have hnl : ((mems (m + 1)).map Member.cells).length = m + 1 := by rw [List.length_map]; simp [mems]
  have e0 : b' ≠ b1 ∧ b' ≠ b0 := by
   rcases m2 with ⟨c, jj, h⟩ | h
   ·have hn := hg.nb _ _ _ h
    exact ⟨hn.2.2.1, hn.1⟩
   ·simp only [zae] at h
    refine ⟨fun h' => ?_, fun h' => ?_⟩
    ·rw [if_pos h'.symm] at h; cases h
    ·rw [if_neg (fun x => n1' (x.trans h')), if_pos h'.symm] at h; cases h
  obtain ⟨e1, e2⟩ := e0
  have hold : ∀ d, d ≠ b' → (d = b1 ∨ d = b0) → zac S4 d = zac ((b1, Ob.cells (shC g.cell (.v (.slice none 0 0))) 29) :: (b0, .cells zjj 29) :: SR 63 g) d := fun d hd hl =>
   m3 d hd fun c jj h => by
    have hn := hg.nb _ _ _ h
    rcases hl with rfl | rfl
    ·exact hn.2.2.1 rfl
    ·exact hn.1 rfl
  refine zew (S' := (b1, .cells (shC g.cell (.v (.slice none 0 0))) 29) :: (b0, .cells zjj 29) :: SR 63 ⟨(mems (m + 1)).map Member.cells, some (b', cap', junk')⟩) (fun d o e => ?_) ?_
  ·simp only [zae, zfh, SR] at e
   by_cases c1 : b1 = d
   ·subst c1; rw [if_pos rfl] at e; rw [hold _ (fun h => e1 h.symm) (.inl rfl), zae, if_pos rfl]; exact e
   rw [if_neg c1] at e
   by_cases c2 : b0 = d
   ·subst c2; rw [if_pos rfl] at e; rw [hold _ (fun h => e2 h.symm) (.inr rfl), zae, if_neg c1, zae, if_pos rfl]; exact e
   rw [if_neg c2] at e
   by_cases c3 : b' = d
   ·subst c3; rw [if_pos rfl] at e; rw [m1.look]; exact e
   ·rw [if_neg c3] at e; cases e
  have hI2 : MemI b0 b1 (m + 1) ⟨(mems (m + 1)).map Member.cells, some (b', cap', junk')⟩ := ⟨rfl, ⟨by simp [SR, zac], m1.len, m1.le, m1.cap, m1.jf, m1.lf, m1.ll⟩, fun c1 c2 c3 h => by cases h; exact ⟨e2, e2, e1, e1⟩⟩
  have H := Box.mk hI2
  clear hI2 hml m1 m2 m3 hold hg
  simp only [GR.cell_some, zca]
  repeat' (first | (with_reducible first | refine zad yU yU yE ?_ | refine zab ?_ | refine zaa ?_ | refine DS.blk ?_) | (refine DS.store yR yE yE yE yE yU (by exact ⟨by with_unfolding_all rfl, by (try simp only [List.length_map, List.length_append, List.length_set, List.length_replicate, List.length_cons, List.length_nil]); omega⟩) ?_; simp only [zbm, zao, zar, zcb, zbn, zbi, zbj]; try simp only [zap, zag, zah, Nat.reduceEqDiff, ↓reduceIte, zal, zam, zax, zak, zaj, zaq, zan]) | fail)
  simp only [setS, ↓reduceIte, zbb, zaz]
  refine DS.back (hB (m + 1, (m : Int) + 1 + 1, ⟨(mems (m + 1)).map Member.cells, some (b', cap', junk')⟩) _ _ (by dsimp only; omega) ⟨by dsimp only; omega, by dsimp only; omega, H.out⟩ yS yS (fun d o e => ?_))
  dsimp only at e
  rw [GR.cell_some, hnl] at e
  exact e
 ·obtain rfl : m = 9 := by omega
  obtain ⟨l, blk⟩ := g
  obtain rfl : l = (mems 9).map Member.cells := hg.l
  cases blk with
  | none =>
   have : (mems 9).map Member.cells = [] := hg.ok
   cases this
  | some y =>
   obtain ⟨bm, cap, j⟩ := y
   have hok : GR.At 63 4 (SR 63 ⟨(mems 9).map Member.cells, some (bm, cap, j)⟩) ((mems 9).map Member.cells) bm cap j := hg.ok
   have hb := hg.nb bm cap j rfl
   have o0 : ¬ b0 = bm := fun h => hb.1 h.symm
   have o1 : ¬ b1 = bm := fun h => hb.2.2.1 h.symm
   have o1' : ¬ bm = b1 := hb.2.2.1
   have hle := hok.le
   have hcap := hok.cap
   have hfl : ((mems 9).map Member.cells).flatten = [I 1, I 0, I 0, I (-1), I 2, I 0, I 0, I (-1), I 3, I 0, I 0, I (-1), I 4, I 0, I 0, I (-1), I 5, I 0, I 0, I (-1), I 6, I 0, I 0, I (-1), I 7, I 0, I 0, I (-1), I 8, I 0, I 0, I (-1), I 9, I 0, I 0, I (-1)] := by with_unfolding_all rfl
   have hl9 : ((mems 9).map Member.cells).length = 9 := by with_unfolding_all rfl
   simp only [GR.cell_some, SR, hfl, hl9]
   rw [hl9] at hle
   clear hg hok hfl hl9
   repeat' (first | (with_reducible first | refine zad yU yU yE ?_ | refine zab ?_ | refine DS.seq ?_ | refine zaa ?_) | (refine DS.store yR yE yE yE yE yU (by exact ⟨by with_unfolding_all rfl, by (try simp only [List.length_map, List.length_append, List.length_set, List.length_replicate, List.length_cons, List.length_nil]); omega⟩) ?_; simp only [zbm, zao, zar, zcb, zbn, zbi, zbj]; try simp only [zap, zag, zah, Nat.reduceEqDiff, ↓reduceIte, zal, zam, zax, zak, zaj, zaq, zan]) | fail)
   simp only [setS, o1, ↓reduceIte]
   refine zcn (b := bm) (b' := b1) (i := 6) (sz := 4) (len := 9) (cap := cap) (l' := shC (.v (.slice (some ⟨bm, 0, none⟩) 9 cap)) (.v (.slice none 0 0))) (l := [I 1, I 0, I 0, I (-1), I 2, I 0, I 0, I (-1), I 3, I 0, I 0, I (-1), I 4, I 0, I 0, I (-1), I 5, I 0, I 0, I (-1), I 6, I 0, I 0, I (-1), I 7, I 0, I 0, I (-1), I 8, I 0, I 0, I (-1), I 9, I 5, I 0, I (-1)] ++ j) (T := 63) (T' := 29) o1 (by simp only [zae, ↓reduceIte]) yR (by simp only [zae, o0, o1, ↓reduceIte]; rfl) (by simp) ⟨hle, hcap⟩ ?_
   have hch : chunk 4 9 (([I 1, I 0, I 0, I (-1), I 2, I 0, I 0, I (-1), I 3, I 0, I 0, I (-1), I 4, I 0, I 0, I (-1), I 5, I 0, I 0, I (-1), I 6, I 0, I 0, I (-1), I 7, I 0, I 0, I (-1), I 8, I 0, I 0, I (-1), I 9, I 5, I 0, I (-1)] ++ j).map V.copy) = shownC.members.map Member.cells := by with_unfolding_all rfl
   rw [hch]
   clear hch
   simp only [setS, zbs, zcc, o0, o1, ↓reduceIte, zbb, zaz, shC]
   skip
   refine zdn yU yE yE ?_
   simp only [go_sem, Nat.zero_add, Nat.reduceAdd]
   refine zdn yU yE yE ?_
   simp only [go_sem, Nat.zero_add, Nat.reduceAdd]
   refine zdn yU yE yE ?_
   simp only [go_sem, Nat.zero_add, Nat.reduceAdd]
   refine zrf yR yE yE (fun bt hbt => ?_)
   have hbt := zff hbt
   simp only [zdq, zed, and_true] at hbt
   refine zdn yU yE yE ?_
   simp only [go_sem, Nat.zero_add, Nat.reduceAdd]
   refine zdn yU yE yE ?_
   simp only [go_sem, Nat.zero_add, Nat.reduceAdd]
   refine zrf yR yE yE (fun bp hbp => ?_)
   have hbp := zff hbp
   simp only [zdq, zed, and_true] at hbp
   repeat' (first | with_reducible refine zad yU yU yX4 ?_ | fail)
   refine zrf yR yE yE (fun br hbr => ?_)
   have hbr := zff hbr
   simp only [zdq, zed, and_true] at hbr
   obtain ⟨⟨p2, p2'⟩, ⟨p1, p1'⟩, p0, p0'⟩ := hbp
   obtain ⟨⟨t1, t1'⟩, t0, t0'⟩ := hbt
   obtain ⟨⟨r3', r3⟩, ⟨r2', r2⟩, ⟨r1, r1'⟩, r0, r0'⟩ := hbr
   repeat' (first | (with_reducible first | refine zad yU yU yX4 ?_ | refine zab ?_ | refine DS.seq ?_ | refine zaa ?_) | (refine DS.store yR yX4 yX4 yX4 yX4 yU (by exact ⟨by with_unfolding_all rfl, by (try simp only [List.length_map, List.length_append, List.length_set, List.length_replicate, List.length_cons, List.length_nil]); omega⟩) ?_; simp only [zbm, zao, zar, zcb, zbn, zbi, zbj]; try simp only [zap, zag, zah, Nat.reduceEqDiff, ↓reduceIte, zal, zam, zax, zak, zaj, zaq, zan]) | fail)
   simp only [zjj, List.map_cons, List.map_nil, zcd, zay, zbq, zao, zar, zbb, zaz, setS, n1, n1', t0, t0', t1, t1', p0, p0', p1, p1', p2, p2', r0, r0', r1, r1', r2, r2', r3, r3', ↓reduceIte, Nat.reduceAdd, Nat.zero_add]
   refine zrb (shS br bt bp [ints [1, 2, 3], ints [4, 5, 6], ints [7, 8, 9]] [ints [130, 100, 70], ints [120, 120, 60], .v (.slice none 0 0)]) (vs := [shV br]) yX15 (fun d o e => ?_) ⟨br, bt, bp, ⟨r2, r3, p2⟩, rfl, rfl⟩
   simp only [zae, zfh] at e ⊢
   by_cases c1 : br = d
   ·rw [if_pos c1] at e ⊢; exact e
   rw [if_neg c1] at e ⊢
   by_cases c2 : bt = d
   ·subst c2; rw [if_pos rfl] at e; rw [if_neg p2', if_pos rfl]; exact e
   rw [if_neg c2] at e
   by_cases c3 : bp = d
   ·rw [if_pos c3] at e ⊢; exact e
   rw [if_neg c3] at e; cases e
end Go.XL
namespace Go.XL
def zlq (sum many at_ : Int) : Int := if at_ < sum % many then sum / many + 1 else sum / many
def zlr (points places : List Int) (start : Int) (shared : Bool) (i : Nat) : Int :=
 points.getD i 0 - start + if shared then zlq ((places.drop (zfo points (points.getD i 0))).take (zco points (points.getD i 0))).sum (zco points (points.getD i 0)) (zco (points.take i) (points.getD i 0))
  else places.getD (zfo points (points.getD i 0) + zco (points.take i) (points.getD i 0)) 0
def zgr (points places : List Int) (start : Int) (shared : Bool) : List Int :=
 if places.length < points.length then [] else (List.range points.length).map (zlr points places start shared)
theorem ycf (l : List Int) (p : Int) : zfo l p ≤ l.length := List.length_filter_le _ _
theorem znp (l : List Int) (p : Int) : zco l p ≤ l.length := List.length_filter_le _ _
theorem zxm {l : List Int} {k : Nat} (p : Int) (h : k < l.length) : zfo (l.take (k + 1)) p = zfo (l.take k) p + if p < l[k] then 1 else 0 := by
 rw [List.take_succ_eq_append_getElem h, zfo, zfo, List.filter_append, List.length_append]
 by_cases h1 : p < l[k] <;> simp [h1]
theorem zno {l : List Int} {k : Nat} (p : Int) (h : k < l.length) : zco (l.take (k + 1)) p = zco (l.take k) p + if l[k] = p then 1 else 0 := by
 rw [List.take_succ_eq_append_getElem h, zco, zco, List.filter_append, List.length_append]
 by_cases h1 : l[k] = p <;> simp [h1]
theorem ycg : ∀ (l : List Int) (p : Int), zfo l p + zco l p ≤ l.length
 | [], p => by simp [zfo, zco]
 | x :: r, p => by
  have h := ycg r p
  simp only [zfo, zco, List.filter_cons, List.length_cons] at h ⊢
  by_cases h1 : p < x
  ·rw [if_pos (decide_eq_true h1), if_neg (by simp; omega)]; simp only [List.length_cons]; omega
  ·rw [if_neg (by simpa using h1)]; split <;> (try simp only [List.length_cons]) <;> omega
theorem zpi {l : List Int} {i : Nat} (h : i < l.length) : zco (l.take i) l[i] < zco l l[i] := by
 have e : l = l.take i ++ l[i] :: l.drop (i + 1) := by rw [← List.drop_eq_getElem_cons h, List.take_append_drop]
 have : zco l l[i] = zco (l.take i) l[i] + zco (l[i] :: l.drop (i + 1)) l[i] := by
  conv => lhs; rw [zco]
  have : ∀ p, ((l.filter fun x => decide (x = p)).length) = ((l.take i ++ l[i] :: l.drop (i + 1)).filter fun x => decide (x = p)).length := fun p => by rw [← e]
  rw [this, List.filter_append, List.length_append]; rfl
 rw [this]
 simp only [zco, List.filter_cons, decide_true, if_true, List.length_cons]; omega
theorem zyr {sum many at_ : Int} (hm : 0 < many) : zlq sum many at_ = if (if sum.tmod many < 0 then (sum.tdiv many - 1, sum.tmod many + many) else (sum.tdiv many, sum.tmod many)).2 > at_ then (if sum.tmod many < 0 then (sum.tdiv many - 1, sum.tmod many + many) else (sum.tdiv many, sum.tmod many)).1 + 1 else (if sum.tmod many < 0 then (sum.tdiv many - 1, sum.tmod many + many) else (sum.tdiv many, sum.tmod many)).1 := by
 have h1 := Int.mul_tdiv_add_tmod sum many
 have h2 := Int.mul_ediv_add_emod sum many
 have h3 := Int.emod_nonneg sum (show many ≠ 0 by omega)
 have h4 := Int.emod_lt_of_pos sum hm
 have h5 : sum.tmod many < many := Int.tmod_lt_of_pos sum hm
 have h6 : -many < sum.tmod many := Int.lt_tmod_of_pos sum hm
 have key : ∀ a b r s : Int, many * a + r = many * b + s → 0 ≤ r → r < many → 0 ≤ s → s < many → a = b ∧ r = s := by
  intro a b r s e r0 r1 s0 s1
  have h : many * (a - b) = s - r := by rw [Int.mul_sub]; omega
  have hab : a - b = 0 := by
   rcases Int.lt_trichotomy (a - b) 0 with h7 | h7 | h7
   ·have : many * (a - b) ≤ many * (-1) := Int.mul_le_mul_of_nonneg_left (by omega) (by omega)
    omega
   ·exact h7
   ·have : many * 1 ≤ many * (a - b) := Int.mul_le_mul_of_nonneg_left (by omega) (by omega)
    omega
  have : a = b := by omega
  subst this
  exact ⟨rfl, by omega⟩
 rw [zlq]
 by_cases h : sum.tmod many < 0
 ·simp only [if_pos h]
  obtain ⟨e1, e2⟩ := key (sum.tdiv many - 1) (sum / many) (sum.tmod many + many) (sum % many) (by rw [Int.mul_sub]; omega) (by omega) (by omega) h3 h4
  rw [e1, e2]
 ·simp only [if_neg h]
  obtain ⟨e1, e2⟩ := key (sum.tdiv many) (sum / many) (sum.tmod many) (sum % many) (by omega) (by omega) (by omega) h3 h4
  rw [e1, e2]
end Go.XL
