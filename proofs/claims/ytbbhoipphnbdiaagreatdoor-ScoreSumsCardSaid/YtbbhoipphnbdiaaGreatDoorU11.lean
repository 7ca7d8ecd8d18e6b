/- A part of a program logic over the kit's walk rules, and contracts of functions in it. Conditions: as each theorem says. -/
import Derived.Test.YtbbhoipphnbdiaaGreatDoorU10
import Derived.Test.YtbbhoipphnbdiaaGreatDoorTie
import Derived.Test.YtbbhoipphnbdiaaGreatDoorCards
set_option linter.all false
namespace Go.Proofs.YtbbhoipphnbdiaaGreatDoor
open Go.XL Go.ChangeShapes Go.WideShapes Go.ChangeAt Go.RowKit
theorem own : ownKnob Tryz.prog.godebug = none := by kernel_rfl
theorem laid : laidOutB Tryz.prog = true := by kernel_rfl
set_option maxRecDepth 100000 in
theorem zmw (os : Os) (started : os.Started) (H : Type) (enc : TypeId × Value → H) :
  ReturnsInHanded {} Tryz.checked os 6 .any (fun w args => (Rows.scoreSumsSpec.pre enc Tryz.prog Tryz.f6 Rows.scoreSumsRow.domain false w args ∧ laidMetH Tryz.prog laidL w) ∧ sizedMet enc Tryz.prog Tryz.f6 (OpenSpec.ofChange Rows.scoreSumsSpec) false w args) (Rows.scoreSumsSpec.post enc Tryz.prog Tryz.f6 false true false false) := by
 refine returnsInHanded_of_change_and (C := Tryz.checked) (X := fun w _ => laidMetH Tryz.prog laidL w) (fun _ _ _ hh h => h.of_heap hh) own started (by kernel_rfl) Tryz.func6
  (ChangeSpec.witness_shaped (enc := enc) (C := Tryz.checked) (os := os) (X := fun w _ => laidMetH Tryz.prog laidL w) false (wit os) #[.slice none 0 0, .int .i64 0, .int .i64 0, .int .i64 0] 8 (yos os)
   (World.shaped_of_ZipB (by kernel_rfl) (by kernel_rfl)) (by kernel_rfl) (by kernel_rfl) (by kernel_rfl) (yml os _)) ?_
 intro W base args ds gs before hval0 hW hcnd _ hL _
 have hW' := hW
 obtain ⟨p, q, hA, -, -, -, -⟩ := hW'
 have hkn : Kn (hvW W) := yrz hL rfl (by simp [laidL])
 have hval : ∀ (j : Nat) t v, Tryz.f6.params[j]? = some t → args[j]? = some v → Value.okWide Tryz.prog W .any base t v := hval0
 have hA1 : DataW.TrodAll enc Tryz.prog W 0 (fun _ => true) true Tryz.f6.params.toList args.toList ds p := hA
 rw [Tryz.params6] at hA1 hval
 obtain ⟨v0, vs0, d0, ds0, p0, q0, hargs, rfl, -, h0, r0⟩ := trodAll_cons hA1
 obtain ⟨v1, vs1, d1, ds1, p1, q1, rfl, rfl, -, h1, r1⟩ := trodAll_cons r0
 obtain ⟨v2, vs2, d2, ds2, p2, q2, rfl, rfl, -, h2, r2⟩ := trodAll_cons r1
 obtain ⟨v3, vs3, d3, ds3, p3, q3, rfl, rfl, -, h3, r3⟩ := trodAll_cons r2
 obtain ⟨rfl, rfl, -⟩ := trodAll_nil r3
 obtain rfl : args = #[v0, v1, v2, v3] := by cases args; simp_all
 obtain ⟨a0, len0, cap0, rfl⟩ := okWide_slice Tryz.underlying22 (hval 0 22 v0 rfl rfl)
 obtain ⟨fuel0, hf0⟩ := h0
 obtain ⟨x0, e0, -, w0⟩ := oL _ _ _ hf0
 obtain ⟨x1, rfl, -, -, w1⟩ := open_int Tryz.underlying3 (hval 1 3 v1 rfl rfl) h1
 obtain ⟨x2, rfl, -, -, w2⟩ := open_int Tryz.underlying3 (hval 2 3 v2 rfl rfl) h2
 obtain ⟨x3, rfl, -, -, w3⟩ := open_int Tryz.underlying3 (hval 3 3 v3 rfl rfl) h3
 refine (PC.door (zsx x0 x1 x2 x3 (zsd w1) (zsd w2) (zsd w3)) W (xs := [.slice a0 len0 cap0, .int .i64 x1, .int .i64 x2, .int .i64 x3]) (RlL.cons_one e0 (RlL.cons_one (RlL.one V.Rl_v) (RlL.cons_one (RlL.one V.Rl_v) (RlL.one V.Rl_v)))) hkn).mono fun e W' ⟨he, k⟩ => ⟨_, he, ?_⟩
 exact yhu hW rfl rfl rfl Tryz.underlying4 laid (by rw [show Tryz.f6.params = _ from Tryz.params6]; intro t ht; simp only [List.mem_cons, List.not_mem_nil, or_false] at ht; rcases ht with rfl | rfl | rfl | rfl <;> exact ⟨by kernel_rfl, of_decide_eq_true (by kernel_rfl)⟩) k
theorem zrm : Rows.ScoreSumsSaid :=
 OpenClaim.holds_of_wide 6 Tryz.f6 rfl rfl rfl rfl rfl rfl rfl ⟨rfl, rfl, rfl, rfl, rfl⟩ rfl rfl rfl rfl rfl (by kernel_rfl) Tryz.func6 (by kernel_rfl)
  (of_decide_eq_true (by kernel_rfl)) (by unfold Func.isWrapper; first | (rw [if_pos (by decide +kernel)]; kernel_rfl) | (rw [if_neg (by decide +kernel)]; exact ⟨rfl, rfl⟩))
  (fun os started H enc _ => zmw os started H enc)
theorem scoreSums_holds : Rows.ScoreSumsCardSaid :=
 Claim7.holds_tied_plain_at .later [] [.data, .data, .funcs, .pinned] true Rows.scoreSumsCard.stood.harness false zrm (fun _ h => by cases h) (by kernel_rfl) (fun _ h => by cases h) scoreSums_row_tie rfl ⟨rfl, rfl⟩ (by kernel_rfl) rfl
  (fun f fn hf hfn => by
   obtain rfl : f = 6 := Option.some.inj ((show Tryz.prog.funcNamed "sparrow/sparrowlaw05.ScoreSums" = some 6 by kernel_rfl).symm.trans hf) |>.symm
   obtain rfl : fn = Tryz.f6 := (Option.some.inj (Tryz.func6.symm.trans hfn)).symm
   exact ⟨by kernel_rfl, fun j t ht => by
    rw [Tryz.params6] at ht
    have hm : t ∈ [22, 3, 3, 3] := by simpa using Array.mem_of_getElem? ht
    have hall : ([22, 3, 3, 3].all fun u => !Tryz.prog.wantsStandIn u) = true := by kernel_rfl
    exact (show Tryz.prog.wantsStandIn t = false by simpa using List.all_eq_true.1 hall t hm)⟩)
  (by kernel_rfl)
end Go.Proofs.YtbbhoipphnbdiaaGreatDoor
