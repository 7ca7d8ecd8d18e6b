/- A part of a program logic over the kit's walk rules, and contracts of functions in it. Conditions: as each theorem says. -/
import Derived.Test.YtkbmckmbkklnbaaGreatDoorW12
import Derived.Test.YtkbmckmbkklnbaaGreatDoorTie
import Derived.Test.YtkbmckmbkklnbaaGreatDoorCards
set_option linter.all false
namespace Go.Proofs.YtkbmckmbkklnbaaGreatDoor
open Go.XL Go.ChangeShapes Go.WideShapes Go.ChangeAt Go.RowKit
theorem own : ownKnob Tryz.prog.godebug = none := by kernel_rfl
theorem laid : laidOutB Tryz.prog = true := by kernel_rfl
set_option maxRecDepth 100000 in
theorem zrc (os : Os) (started : os.Started) (H : Type) (enc : TypeId × Value → H) :
  ReturnsInHanded {} Tryz.checked os 3 .any (fun w args => (Rows.houseWinsSpec.pre enc Tryz.prog Tryz.f3 Rows.houseWinsRow.domain false w args ∧ laidMetH Tryz.prog laidL w) ∧ sizedMet enc Tryz.prog Tryz.f3 (OpenSpec.ofChange Rows.houseWinsSpec) false w args) (Rows.houseWinsSpec.post enc Tryz.prog Tryz.f3 false true false false) := by
 refine returnsInHanded_of_change_and (C := Tryz.checked) (X := fun w _ => laidMetH Tryz.prog laidL w) (fun _ _ _ hh h => h.of_heap hh) own started (by kernel_rfl) Tryz.func3
  (ChangeSpec.witness_shaped (enc := enc) (C := Tryz.checked) (os := os) (X := fun w _ => laidMetH Tryz.prog laidL w) false (wit os) #[.agg #[.int .i64 0, .slice none 0 0, .int .i64 0, .int .i64 0, .int .i64 0, .int .i64 0, .int .i64 0, .int .i64 0, .slice none 0 0, .slice none 0 0, .slice none 0 0, .slice none 0 0, .int .i64 0, .int .i64 0, .bool false, .slice none 0 0, .int .i64 0, .int .i64 0, .bool false, .int .i64 0, .int .i64 0, .int .i64 0, .int .i64 0, .int .i64 0, .int .i64 0, .int .i64 0, .int .i64 0, .bool false, .slice none 0 0, .slice none 0 0, .bool false, .int .i64 0, .bool false, .int .i64 0, .bool false, .int .i64 0, .int .i64 0, .int .i64 0, .bool false, .bool false, .bool false, .int .i64 0, .int .i64 0, .int .i64 0, .bool false, .bool false], .agg #[.slice none 0 0, .slice none 0 0], .agg #[.int .i64 0, .bool false, .int .i64 0, .int .i64 0, .slice none 0 0, .int .i64 0], .slice none 0 0] 8 (ytq os)
   (World.shaped_of_ZipB (by kernel_rfl) (by kernel_rfl)) (by kernel_rfl) (by kernel_rfl) (by kernel_rfl) (yqi os _)) ?_
 intro W base args ds gs before hval0 hW hcnd _ hL _
 have hW' := hW
 obtain ⟨p, q, hA, -, -, -, -⟩ := hW'
 have hkn : Kn (hvW W) := zss _
 have hval : ∀ (j : Nat) t v, Tryz.f3.params[j]? = some t → args[j]? = some v → Value.okWide Tryz.prog W .any base t v := hval0
 have hA1 : DataW.TrodAll enc Tryz.prog W 0 (fun _ => true) true Tryz.f3.params.toList args.toList ds p := hA
 rw [Tryz.params3] at hA1 hval
 obtain ⟨v0, vs0, d0, ds0, p0, q0, hargs, rfl, -, h0, r0⟩ := trodAll_cons hA1
 obtain ⟨v1, vs1, d1, ds1, p1, q1, rfl, rfl, -, h1, r1⟩ := trodAll_cons r0
 obtain ⟨v2, vs2, d2, ds2, p2, q2, rfl, rfl, -, h2, r2⟩ := trodAll_cons r1
 obtain ⟨v3, vs3, d3, ds3, p3, q3, rfl, rfl, -, h3, r3⟩ := trodAll_cons r2
 obtain ⟨rfl, rfl, -⟩ := trodAll_nil r3
 obtain rfl : args = #[v0, v1, v2, v3] := by cases args; simp_all
 obtain ⟨fuel0, hf0⟩ := h0
 obtain ⟨x0, e0, w0⟩ := oHouse.agg (fun _ => by simp [House.cells_eq]) hf0
 obtain ⟨fuel1, hf1⟩ := h1
 obtain ⟨x1, e1, w1⟩ := oHnd.agg (fun _ => by simp [Hnd.cells_eq]) hf1
 obtain ⟨fuel2, hf2⟩ := h2
 obtain ⟨x2, e2, w2⟩ := oWinn.agg (fun _ => by simp [Winn.cells_eqS]) hf2
 obtain ⟨a3, len3, cap3, rfl⟩ := okWide_slice Tryz.underlying22 (hval 3 22 v3 rfl rfl)
 obtain ⟨fuel3, hf3⟩ := h3
 obtain ⟨x3, e3, -, w3⟩ := oL _ _ _ hf3
 refine (PC.door (yaj x0 w0 x1 x2 x3) W (xs := [v0, v1, v2, .slice a3 len3 cap3]) (RlL.cons_one e0 (RlL.cons_one e1 (RlL.cons_one e2 e3))) hkn).mono fun e W' ⟨he, k⟩ => ⟨_, he, ?_⟩
 exact yna hW rfl rfl rfl Tryz.underlying4 laid (by rw [show Tryz.f3.params = _ from Tryz.params3]; intro t ht; simp only [Zar, Zav, or_false] at ht; rcases ht with rfl | rfl | rfl | rfl <;> exact ⟨by kernel_rfl, of_decide_eq_true (by kernel_rfl)⟩) k
theorem ywk {a b : Bool} (h : a = true) (k : b = true) : (a && b) = true := by rw [h, k]; rfl
set_option maxRecDepth 100000 in
set_option maxHeartbeats 0 in
theorem houseWins_facts : joinedFacts Tryz.pinned.checked.prog 3 Tryz.f3 Rows.houseWinsSpec Rows.houseWinsRow = true := by
 unfold joinedFacts
 repeat' (with_reducible refine ywk ?_ ?_)
 all_goals as_aux_lemma => kernel_rfl
theorem zxp : Rows.HouseWinsSaid :=
 OpenClaim.holds_of_wide 3 Tryz.f3 rfl rfl rfl rfl rfl rfl rfl ⟨rfl, rfl, rfl, rfl, rfl⟩ rfl rfl rfl rfl rfl (by kernel_rfl) Tryz.func3 houseWins_facts
  (of_decide_eq_true (by kernel_rfl)) (by unfold Func.isWrapper; first | (rw [if_pos (by decide +kernel)]; kernel_rfl) | (rw [if_neg (by decide +kernel)]; exact ⟨rfl, rfl⟩))
  (fun os started H enc _ => zrc os started H enc)
theorem houseWins_holds : Rows.HouseWinsCardSaid :=
 Claim7.holds_tied_plain_at .later [] [.data, .pinned] true Rows.houseWinsCard.stood.harness false zxp (fun _ h => by cases h) (by kernel_rfl) (fun _ h => by cases h) houseWins_row_tie rfl ⟨rfl, rfl⟩ (by kernel_rfl) rfl
  (fun f fn hf hfn => by
   obtain rfl : f = 3 := Option.some.inj ((show Tryz.prog.funcNamed "sparrow/sparrowlaw04.HouseWins" = some 3 by kernel_rfl).symm.trans hf) |>.symm
   obtain rfl : fn = Tryz.f3 := (Option.some.inj (Tryz.func3.symm.trans hfn)).symm
   exact ⟨by kernel_rfl, fun j t ht => by
    rw [Tryz.params3] at ht
    have hm : t ∈ [37, 40, 42, 22] := by simpa using Array.mem_of_getElem? ht
    have hall : ([37, 40, 42, 22].all fun u => !Tryz.prog.wantsStandIn u) = true := by kernel_rfl
    exact (show Tryz.prog.wantsStandIn t = false by simpa using Zbm.1 hall t hm)⟩)
  (by kernel_rfl)
end Go.Proofs.YtkbmckmbkklnbaaGreatDoor
