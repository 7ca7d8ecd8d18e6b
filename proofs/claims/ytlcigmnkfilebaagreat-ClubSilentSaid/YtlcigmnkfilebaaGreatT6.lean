/- A part of a program logic over the kit's walk rules, and contracts of functions in it. Conditions: as each theorem says. -/
import Derived.Test.YtlcigmnkfilebaaGreatT5
set_option linter.all false
namespace Go.XL
open Go.Proofs
set_option maxRecDepth 100000
set_option maxHeartbeats 8000000
def ptC (p : List Int) : V := if p = [] then .v (.slice none 0 0) else ints p
def regC (id : Nat) : Code → Option (List Oper)
 | .region i ops _ => if i = id then some ops.toList else none
 | .seq a b => match regC id a with | some x => some x | none => regC id b
 | .rangeFunc _ _ a b => match regC id a with | some x => some x | none => regC id b
 | .cond _ a b => match regC id a with | some x => some x | none => regC id b
 | .block _ c => regC id c
 | .loop c => regC id c
 | .scope c => regC id c
 | _ => none
def ztf (bs : Nat) (x : Int) (c : Club) (u : V) (S' : Sto) : Prop := ∃ bp, bp ≠ bs ∧ u = .agg [rows (zbc c x).1, .v (.slice (some ⟨bp, 0, none⟩) (zbc c x).1.length (zbc c x).1.length), .v (.slice none 0 0)] ∧ S' = [(bp, .cells ((zcp c x).1.map ptC) 22), (bs, srcO (zcp c x).2)]
theorem zma (bs b4 : Nat) (x : Int) (c : Club) (hzB : Box (∃ z : Nat, c.size = z)) (hsz : 3 ≤ c.size ∧ c.size ≤ 4) (hst : 0 ≤ c.start ∧ c.start ≤ 1000000) (hl : (zbc c x).1.length ≤ 1000002) (n4 : ¬ bs = b4) (n4' : ¬ b4 = bs) {v0 : VH} {os l : List Oper} {cd : Code}
  (h1 : Tryz.f87.body.bind (regC 7) = some os) (h2 : os.drop 3 = l) (h3 : Tryz.f87.body.bind (zkc 7) = some cd) :
  DS Tryz.prog 67 ⟨none, v0⟩ (FinC Tryz.prog 4 61 (ztf bs x c)) [.ops os l, .code cd]
   [(42, rows (zbc c x).1), (44, I ((zbc c x).1.length : Int)), (6, rows (zbc c x).1), (0, ptr bs), (3, .plc c.cells), (4, ptr b4)] [(bs, srcO (zbc c x).2), (b4, .cells [.v (.slice none 0 0), .v (.slice none 0 0), .v (.slice none 0 0)] 61)] := by
 obtain rfl := Option.some.inj ((show Tryz.f87.body.bind (regC 7) = some _ from rfl).symm.trans h1)
 obtain rfl := Option.some.inj ((show Tryz.f87.body.bind (zkc 7) = some _ from rfl).symm.trans h3)
 subst h2
 clear h1 h3
 simp only [zax, zay]
 repeat' (first | (with_reducible first | refine zac yU yU yX8 ?_ | refine zab ?_ | refine DS.seq ?_ | refine zaa ?_ | refine DS.block ?_) | (refine zia (t := 9) yU yX8 yU (fun _ => yX8) yX8 yU (by exact ⟨by with_unfolding_all rfl, by with_unfolding_all decide⟩) (fun _ => by simp only [go_sem, Nat.reduceEqDiff, ↓reduceIte]) ?_; simp only [go_sem]) | (refine ylp yU yX8 yX8 yX8 yX8 yU yU ⟨by omega, by omega, by decide, by omega⟩ (fun _ hfr => ?_)) | fail)
 rename_i bp
 have np : ¬ bs = bp := fun e => by simp only [zae] at hfr; rw [if_pos e] at hfr; cases hfr
 have np4 : ¬ b4 = bp := fun e => by simp only [zae] at hfr; rw [if_neg np, if_pos e] at hfr; cases hfr
 have np' : ¬ bp = bs := fun e => np e.symm
 have np4' : ¬ bp = b4 := fun e => np4 e.symm
 clear hfr
 refine zcq [0, 3, 4, 6, 9] yN (fun (y : Nat × Int × List (List Int)) => [(10, I y.1)]) (fun (y : Nat × Int × List (List Int)) => [(bp, .cells (y.2.2.map ptC ++ List.replicate ((zbc c x).1.length - y.1) (.v (.slice none 0 0))) 22), (bs, srcO y.2.1), (b4, .cells [.v (.slice none 0 0), .v (.slice none 0 0), .v (.slice none 0 0)] 61)]) (fun (y : Nat × Int × List (List Int)) => y.1 ≤ (zbc c x).1.length ∧ y.2.2.length = y.1 ∧ zcp c x = ptsG c.size c.start ((zbc c x).1.length - y.1) y.2.1 y.2.2) (fun (y : Nat × Int × List (List Int)) => (zbc c x).1.length - y.1) (0, (zbc c x).2, []) yS (fun b o e => by exact e) ⟨Nat.zero_le _, rfl, rfl⟩ (fun y B hI hB => ?_); try dsimp only at hI hB; simp only [zas, zaw]
 obtain ⟨k, x1, P⟩ := y
 dsimp only at hI hB
 obtain ⟨g1, g2, g3⟩ := hI
 have H := Box.mk (And.intro g3 (And.intro hsz hst))
 clear g3
 have he : ∃ z : Nat, c.size = z ∧ SC Tryz.prog 88 [ptr bs, I c.size, I c.start] bs (zag x1) (ints (zfv c.size c.start (zag x1)).1) (zfv c.size c.start (zag x1)).2 ∧ (zfv c.size c.start (zag x1)).1 ≠ [] := by
  obtain ⟨z, hz⟩ := hzB.out
  refine ⟨z, hz, ?_, ?_⟩
  ·rw [hz]; exact ykc bs (zag x1) z c.start (by omega) hst
  ·intro h
   have := zom c.size c.start (zag x1) (by omega)
   rw [h] at this; simp at this; omega
 obtain ⟨z, hz, he, hen⟩ := he
 have H2 := Box.mk (And.intro hz hen)
 clear hz hen
 repeat' (first | (refine yew (t := 66) yU yE yU (by simp only [List.length_cons, List.length_nil]; omega) ?_; simp only [List.take_succ_cons, List.take_zero, List.map_cons, List.map_nil, zbx, zbp, zcr, Nat.reduceAdd]) | (with_reducible first | refine zac yU yU yE ?_ | refine zab ?_ | refine DS.seq ?_ | refine zaa ?_ | (refine zbd yE ?_; refine zel (fun _ => ?_) (fun _ => ?_)) | refine DS.blk ?_ | refine DS.block ?_ | refine DS.exit yU ?_ | refine DS.skip ?_) | (refine zfd inferInstance (zef bs x1 5 (by omega)) yR yT yT ?_; (try simp only [zbn, zbs, ↓reduceIte, *])) | (refine DS.store yR yE yE yE yE yU (by exact ⟨by with_unfolding_all rfl, by (try simp only [List.length_map, List.length_append, List.length_set, List.length_replicate, List.length_cons, List.length_nil]); omega⟩) ?_; simp only [zbo, zav, zaz, zbz, zbl, zbj, zbk]; try simp only [zao, zaf, zah, Nat.reduceEqDiff, ↓reduceIte, zak, zal, zar, zaj, zai, zap, zam]) | fail)
 ·rename_i e1 e2
  have hk : k < (zbc c x).1.length := by omega
  obtain ⟨m, hm⟩ : ∃ m, (zbc c x).1.length - k = m + 1 := ⟨(zbc c x).1.length - k - 1, by omega⟩
  have hP : (P.map ptC).length = k := by simpa using g2
  refine zgx (id := 12) ([(bp, Ob.cells (List.map ptC P ++ List.replicate ((zbc c x).1.length - k) (V.v (Value.slice none 0 0))) 22), (b4, Ob.cells [V.v (Value.slice none 0 0), V.v (Value.slice none 0 0), V.v (Value.slice none 0 0)] 61)]) ([(bs, srcO (zag x1))]) [0, 1, 2, 3, 4, 5, 6, 7, 8] 9 (by kernel_rfl) zdq (by simp only [zbb, zbe, zbf, zbg, zba]; exact rfl) (by simp only [zax, zay, List.drop_nil]; exact rfl) ((fun b o e => by
   have hb : ¬ bs = b := fun h => by subst h; simp only [zae, zca, np', n4', ↓reduceIte] at e; cases e
   simp only [zae, zca, hb, ↓reduceIte] at e ⊢; exact ⟨e, trivial⟩)) ((fun b o e => by
   simp only [zae, zca] at e ⊢
   split at e
   ·rename_i h; rw [if_pos h]; exact e
   ·cases e)) ?_
  repeat' (first | (with_reducible first | refine zac yU yU yE ?_ | refine zab ?_ | refine zaa ?_ | refine DS.blk ?_) | (refine DS.store yR yE yE yE yE yU (by exact ⟨by with_unfolding_all rfl, by (try simp only [List.length_map, List.length_append, List.length_set, List.length_replicate, List.length_cons, List.length_nil]); omega⟩) ?_; simp only [zbo, zav, zaz, zbz, zbl, zbj, zbk]; try simp only [zao, zaf, zah, Nat.reduceEqDiff, ↓reduceIte, zak, zal, zar, zaj, zai, zap, zam]) | with_reducible refine zbw yU yU yU yE ?_ | (with_reducible refine DD.nil ?_; simp only [zas, zaw]) | (refine zoz inferInstance (he) yU yT yT ?_; simp only [zcc, zcm, Nat.reduceEqDiff, ↓reduceIte]; (try simp only [zbn, zbs, ↓reduceIte, *])) | fail)
  obtain ⟨h1, h2, h3⟩ := H.out
  rw [hm, ptsG, if_pos (by omega)] at h1
  refine DS.back (hB (k + 1, (zfv c.size c.start (zag x1)).2, P ++ [(zfv c.size c.start (zag x1)).1]) _ _ (by dsimp only; omega) ⟨by dsimp only; omega, by simp; omega, by dsimp only; rw [show (zbc c x).1.length - (k + 1) = m by omega]; exact h1⟩ yS yS (fun b o e => ?_))
  have hc : (P ++ [(zfv c.size c.start (zag x1)).1]).map ptC ++ List.replicate ((zbc c x).1.length - (k + 1)) (.v (.slice none 0 0)) = (P.map ptC ++ List.replicate ((zbc c x).1.length - k) (V.v (.slice none 0 0))).set k (ints (zfv c.size c.start (zag x1)).1) := by
   rw [hm, show (zbc c x).1.length - (k + 1) = m by omega, List.replicate_succ, List.map_append, List.append_assoc, List.set_append_right _ _ (by omega), hP, Nat.sub_self]
   show _ = _ ++ (ints _ :: _)
   rw [List.map_cons, List.map_nil, ptC, if_neg H2.out.2]
   rfl
  dsimp only at e
  rw [hc] at e
  have hc2 : (P.map ptC ++ V.v (Value.slice none 0 0) :: List.replicate m (V.v (Value.slice none 0 0))) = (P.map ptC ++ List.replicate ((zbc c x).1.length - k) (.v (.slice none 0 0))) := by rw [hm, List.replicate_succ]
  rw [hc2]
  simp only [zae, zca, setS, np, ↓reduceIte] at e ⊢
  by_cases hb : bs = b
  ·subst hb; simp only [np', n4', ↓reduceIte] at e ⊢; exact e
  ·simp only [hb, ↓reduceIte] at e ⊢; exact e
 ·rename_i e1 e2
  obtain ⟨h1, h2, h3⟩ := H.out
  have hk : k < (zbc c x).1.length := by omega
  obtain ⟨m, hm⟩ : ∃ m, (zbc c x).1.length - k = m + 1 := ⟨(zbc c x).1.length - k - 1, by omega⟩
  rw [hm, ptsG, if_neg (by omega)] at h1
  refine DS.back (hB (k + 1, zag x1, P ++ [[]]) _ _ (by dsimp only; omega) ⟨by dsimp only; omega, by simp; omega, by dsimp only; rw [show (zbc c x).1.length - (k + 1) = m by omega]; exact h1⟩ yS yS (fun b o e => ?_))
  have hc : (P ++ [[]]).map ptC ++ List.replicate ((zbc c x).1.length - (k + 1)) (.v (.slice none 0 0)) = P.map ptC ++ List.replicate ((zbc c x).1.length - k) (.v (.slice none 0 0)) := by
   rw [hm, show (zbc c x).1.length - (k + 1) = m by omega, List.replicate_succ, List.map_append, List.append_assoc]; rfl
  dsimp only at e
  rw [hc] at e
  simp only [zae, zca] at e ⊢
  by_cases hb : bs = b
  ·subst hb; simp only [np', n4', ↓reduceIte] at e ⊢; exact e
  ·simp only [hb, ↓reduceIte] at e ⊢; exact e
 ·rename_i e1
  obtain ⟨h1, h2, h3⟩ := H.out
  have hk : k = (zbc c x).1.length := by omega
  rw [hk, Nat.sub_self, ptsG] at h1
  refine yce [(bp, .cells ((zcp c x).1.map ptC) 22), (bs, srcO (zcp c x).2)] yH yH yH yH (fun b o e => ?_) ⟨bp, np', rfl, rfl⟩
  rw [h1] at e
  rw [hk, Nat.sub_self, List.replicate_zero, List.append_nil]
  simp only [setS, np4', n4, ↓reduceIte]
  simp only [zae, zca] at e ⊢
  by_cases hb : bp = b
  ·subst hb; simp only [↓reduceIte] at e ⊢; exact e
  ·by_cases hb2 : bs = b
   ·subst hb2; simp only [hb, ↓reduceIte] at e ⊢; exact e
   ·simp only [hb, hb2, ↓reduceIte] at e; cases e
end Go.XL
namespace Go.XL
open Go.Proofs
set_option maxRecDepth 100000
set_option maxHeartbeats 8000000
theorem ymh (bs : Nat) (x : Int) (c : Club) (hs : c.Small) (hsz : 3 ≤ c.size ∧ c.size ≤ 4) (hst : 0 ≤ c.start ∧ c.start ≤ 1000000) :
  DC Tryz.prog 87 [ptr bs, c.val] [(bs, srcO x)] (ztf bs x c) := by
 have q1 := hs.members
 have q2 := hs.rounds
 have hzB : Box (∃ z : Nat, c.size = z) := ⟨⟨c.size.toNat, by omega⟩⟩
 have hpl : (zcs c c.rounds.length).length ≤ 1000000 := by
  unfold zcs
  repeat' split
  all_goals first | (simp; done) | skip
  rw [zfb, List.length_map]
  exact Nat.le_trans (List.length_filter_le _ _) q1
 have hid := (zfy c.size x (zcs c c.rounds.length)).length_le
 have htl := znv c x
 have hmu := zrh bs x (zcs c c.rounds.length) c.size hsz hpl
 have hto := yaw bs (zdp c.size x (zcs c c.rounds.length)).2 (zdp c.size x (zcs c c.rounds.length)).1 c.size hsz (by omega)
 have hbe := zef bs (zep c.size (zdp c.size x (zcs c c.rounds.length)).2 (zdp c.size x (zcs c c.rounds.length)).1).2 3 (by omega)
 have hne := ymr c hs (zdp c.size x (zcs c c.rounds.length)).1 (by omega)
 refine DC.of_runC Tryz.func87 rfl Tryz.ntmps87 Tryz.results87 (by simp) rfl (fun _ => ?_); simp only [zaq, zau, go_sem, Nat.zero_add, Nat.reduceAdd]
 repeat' (first | (with_reducible first | refine DS.seq ?_ | refine zaa ?_) | (refine zdb (t := 3) yU yE yU ?_; simp only [zbu, zcx, zbt, zcj, zbq, zbm, zbx, zbp, zcr, zcv, zcd, zcu, zch, zcg]) | fail)
 refine zeh yR yU yU (fun b4 h4 => ?_)
 have n4 : ¬ bs = b4 := fun e => by rw [zae, if_pos e] at h4; cases h4
 have n4' : ¬ b4 = bs := fun e => n4 e.symm
 clear h4
 have hz4 : (List.map V.v (Value.agg #[.slice none 0 0, .slice none 0 0, .slice none 0 0]).cells.toList) = [.v (.slice none 0 0), .v (.slice none 0 0), .v (.slice none 0 0)] := rfl
 repeat' (first | (with_reducible first | refine zac yU yU yE ?_ | refine zab ?_ | refine DS.seq ?_ | refine zaa ?_ | (refine zbd yE ?_; first | refine zel (fun _ => ?_) (fun _ => ?_) | refine zdk ?_) | (refine zdz yU yE ?_; first | refine zow (fun _ => ?_) (fun _ => ?_) | refine GG.run ?_ | refine zfo ?_) | refine DS.skip ?_) | (refine zfd inferInstance (hmu) yR yF yF ?_; (try simp only [zbn, zbs, ↓reduceIte, *])) | (refine zfd inferInstance (hto) yR yF yF ?_; (try simp only [zbn, zbs, ↓reduceIte, *])) | (refine zfd inferInstance (hbe) yR yF yF ?_; (try simp only [zbn, zbs, ↓reduceIte, *])) | refine zcf inferInstance (hne) yR yF ?_ | refine zce (id := 1) [0, 1, 2, 3, 4, 5, 6, 7] 8 (by kernel_rfl) zdq (by simp only [zbb, zbe, zbf, zbg, zba]; exact rfl) (by simp only [zax, zay, List.drop_nil]; exact rfl) ?_ | (with_reducible first | refine zbw yU yU yU yE ?_ | refine zdc ?_) | refine zpa inferInstance (zra c hs _) yU yF ?_; simp only [zcc, zcm, Nat.reduceEqDiff, ↓reduceIte] | fail)
 ·rename_i e1 e2 e3
  have hT : zbc c x = ((zhy c (zdp c.size x (zcs c c.rounds.length)).1).1, zag (zep c.size (zdp c.size x (zcs c c.rounds.length)).2 (zdp c.size x (zcs c c.rounds.length)).1).2) := by
   rw [zbc, zdr, if_pos (by omega), if_pos ⟨e2, e3⟩]
  refine zdy (E' := [(42, rows (zbc c x).1), (44, I ((zbc c x).1.length : Int)), (6, rows (zbc c x).1), (0, ptr bs), (3, .plc c.cells), (4, ptr b4)]) (S' := [(bs, srcO (zbc c x).2), (b4, .cells [.v (.slice none 0 0), .v (.slice none 0 0), .v (.slice none 0 0)] 61)]) (zek (by rw [hT]; simp (disch := omega) only [go_sem, ↓reduceIte, Nat.reduceEqDiff, zew, zfk, and_self, ints, rows])) (fun b o e => by rw [hT] at e; exact e) ?_
  exact zma bs b4 x c hzB hsz hst (by omega) n4 n4' yR yR yR
 ·rename_i e1 e2 e3
  have hT : zbc c x = ((zep c.size (zdp c.size x (zcs c c.rounds.length)).2 (zdp c.size x (zcs c c.rounds.length)).1).1, zag (zep c.size (zdp c.size x (zcs c c.rounds.length)).2 (zdp c.size x (zcs c c.rounds.length)).1).2) := by
   rw [zbc, zdr, if_pos (by omega), if_neg (fun h => e3 h.2)]
  refine zdy (E' := [(42, rows (zbc c x).1), (44, I ((zbc c x).1.length : Int)), (6, rows (zbc c x).1), (0, ptr bs), (3, .plc c.cells), (4, ptr b4)]) (S' := [(bs, srcO (zbc c x).2), (b4, .cells [.v (.slice none 0 0), .v (.slice none 0 0), .v (.slice none 0 0)] 61)]) (zek (by rw [hT]; simp (disch := omega) only [go_sem, ↓reduceIte, Nat.reduceEqDiff, zew, zfk, and_self, ints, rows])) (fun b o e => by rw [hT] at e; exact e) ?_
  exact zma bs b4 x c hzB hsz hst (by omega) n4 n4' yR yR yR
 ·rename_i e1 e2
  have hT : zbc c x = ((zep c.size (zdp c.size x (zcs c c.rounds.length)).2 (zdp c.size x (zcs c c.rounds.length)).1).1, zag (zep c.size (zdp c.size x (zcs c c.rounds.length)).2 (zdp c.size x (zcs c c.rounds.length)).1).2) := by
   rw [zbc, zdr, if_pos (by omega), if_neg (fun h => e2 h.1)]
  refine zdy (E' := [(42, rows (zbc c x).1), (44, I ((zbc c x).1.length : Int)), (6, rows (zbc c x).1), (0, ptr bs), (3, .plc c.cells), (4, ptr b4)]) (S' := [(bs, srcO (zbc c x).2), (b4, .cells [.v (.slice none 0 0), .v (.slice none 0 0), .v (.slice none 0 0)] 61)]) (zek (by rw [hT]; simp (disch := omega) only [go_sem, ↓reduceIte, Nat.reduceEqDiff, zew, zfk, and_self, ints, rows])) (fun b o e => by rw [hT] at e; exact e) ?_
  exact zma bs b4 x c hzB hsz hst (by omega) n4 n4' yR yR yR
 ·rename_i e1
  have hT : zbc c x = zep c.size (zdp c.size x (zcs c c.rounds.length)).2 (zdp c.size x (zcs c c.rounds.length)).1 := by
   rw [zbc, zdr, if_neg (by omega)]
  refine zdy (E' := [(42, rows (zbc c x).1), (44, I ((zbc c x).1.length : Int)), (6, rows (zbc c x).1), (0, ptr bs), (3, .plc c.cells), (4, ptr b4)]) (S' := [(bs, srcO (zbc c x).2), (b4, .cells [.v (.slice none 0 0), .v (.slice none 0 0), .v (.slice none 0 0)] 61)]) (zek (by rw [hT]; simp (disch := omega) only [go_sem, ↓reduceIte, Nat.reduceEqDiff, zew, zfk, and_self, ints, rows])) (fun b o e => by rw [hT] at e; exact e) ?_
  exact zma bs b4 x c hzB hsz hst (by omega) n4 n4' yR yR yR
end Go.XL
namespace Go.XL
def zds (n : Int) : Nat → Int → Int → List Int → Int → List Int × Int × Int
 | 0, _, x, out, sum => (out, sum, x)
 | k + 1, i, x, out, sum => zds n k (i + 1) (zag x) (out ++ [n.tdiv (i + 1) - zan x 9]) (sum + (n.tdiv (i + 1) - zan x 9))
def zii (x : Int) : Int × Int := if zqb x 4 = true then (zan (zag x) 21 - 10, zag (zag x)) else (0, zag x)
def zlb (x : Int) : (Int × Int) × Int := if zqb x 9 = true then ((zan (zag x) 3, zan (zag x) 3 + zan (zag (zag x)) 2), zag (zag (zag x))) else ((0, -1), zag x)
def zdf : Nat → Int → Int → List Member → List Member × Int
 | 0, _, x, out => (out, x)
 | k + 1, id, x, out => zdf k (id + zcy x 1 3) (zlb (zii (zag x)).2).2 (out ++ [⟨id + zcy x 1 3, (zii (zag x)).1, (zlb (zii (zag x)).2).1.1, (zlb (zii (zag x)).2).1.2⟩])
def rulG (size start round : Int) : List (List Int) → Int → Int → List Ruling → List Ruling × Int
 | [], _, x, R => (R, x)
 | p :: r, t, x, R =>
  if 0 < (p.length : Int) then
   if zqb x 3 = true then rulG size start round r (t + 1) (zfv size start (zag x)).2 (R ++ [⟨round, t, (zfv size start (zag x)).1⟩])
   else rulG size start round r (t + 1) (zag x) R
  else rulG size start round r (t + 1) x R
def zjn (window x : Int) (n : Nat) : Int := max 0 ((n : Int) - 1 - zan x (window + 1))
def rulK (size start window : Int) (ps : List (List (List Int))) : Nat → Int → List Ruling → List Ruling × Int
 | 0, x, R => (R, x)
 | k + 1, x, R => rulK size start window ps k (rulG size start (zjn window x ps.length) (ps.getD (zjn window x ps.length).toNat []) 0 (zag x) R).2 (rulG size start (zjn window x ps.length) (ps.getD (zjn window x ps.length).toNat []) 0 (zag x) R).1
def zcw (c : Club) (R : List Sitting) : Club := { c with rounds := R }
def zhs (c : Club) (x : Int) (R : List Sitting) : List Ruling × Int :=
 rulK c.size c.start c.window (R.map Sitting.points ++ [(zcp (zcw c R) x).1]) (zan (zcp (zcw c R) x).2 3).toNat (zag (zcp (zcw c R) x).2) []
def zey (c : Club) : Nat → Int → List Sitting → List Sitting × Int
 | 0, x, R => (R, x)
 | i + 1, x, R => zey c i (zhs c x R).2 (R ++ [⟨(zbc (zcw c R) x).1, (zcp (zcw c R) x).1, (zhs c x R).1⟩])
def zgd (x : Int) : Int := if zqb (zag (zag (zag (zag x)))) 4 = true then 4 else 3
def x5 (x : Int) : Int := zag (zag (zag (zag (zag x))))
def zdn (x : Int) : List Int × Int :=
 let n := zan (x5 x) 5 * 10
 let a := n + zan (zag (x5 x)) 2
 let q := zds n (zgd x - 2).toNat 1 (zag (zag (x5 x))) [a] a
 (q.1 ++ [-q.2.1], q.2.2)
def zfn (x : Int) : List Member × Int :=
 zdf (zgd x * zcy (zdn x).2 1 3 + zan (zag (zdn x).2) 2).toNat 0 (zag (zag (zdn x).2)) []
def zhz (x : Int) : Club := ⟨zgd x, zan x 4 * 100, zan (zag x) 5 * 10 - 30, zan (zag (zag x)) 3, (zdn x).1, zqb (zag (zag (zag x))) 2, (zfn x).1, []⟩
def zet (x most : Int) : Club × Int :=
 let q := zey (zhz x) (zan (zfn x).2 (most + 1)).toNat (zag (zfn x).2) []
 (zcw (zhz x) q.1, q.2)
end Go.XL
namespace Go.XL
open Go.Proofs
set_option maxRecDepth 100000
set_option maxHeartbeats 8000000
def forC (id : Nat) : Code → Option (Code × Code × Code)
 | .seq a b => match forC id a with
  | some x => some x
  | none => match a with
   | .seq a1 a2 => if yru id a1 then some (a1, a2, b) else forC id b
   | _ => forC id b
 | .rangeFunc _ _ a b => match forC id a with | some x => some x | none => forC id b
 | .cond _ a b => match forC id a with | some x => some x | none => forC id b
 | .block _ c => forC id c
 | .loop c => forC id c
 | .scope c => forC id c
 | _ => none
theorem zkp {P : Program} {n : Nat} {r : Rr} {Q : VEnv → Sto → Prop} {k : List Fr} {E : VEnv} {S : Sto} {id : Nat} {os l1 l2 : List Oper} {bs : Nat} {x : Int} (hS : zad S bs = some (srcO x)) (ord : List Nat) (m : Nat) (hok : zon os.toArray ord m = true) (hm : P.follows .mixedOrders = true) (h1 : zpf os ord = l1) (h2 : os.drop m = l2)
  (q : DD P n r Q os (delS bs S) [] l1 (.ops os l2 :: k) E E [(bs, srcO x)]) : DS P n r Q (.code (.region id os.toArray true) :: k) E S :=
 zgx (delS bs S) [(bs, srcO x)] ord m hok hm h1 h2 (zui hS).2 (zui hS).1 q
abbrev zeb : List V := [I 0, I 0, I 0, I 0, .v (.slice none 0 0), Bo false, .v (.slice none 0 0), .v (.slice none 0 0)]
abbrev zgz (sz st ab wi : Int) (P : List Int) (sh : Bool) (m r : V) : List V := [I sz, I st, I ab, I wi, .own false 3 1 (P.map cI), Bo sh, m, r]
end Go.XL
namespace Go.XL
open Go.Proofs
set_option maxRecDepth 100000
set_option maxHeartbeats 8000000
def LR (R : List Sitting) (T P : List (List Int)) (c : V) (j : List V) : List V := (R.map Sitting.cells).flatten ++ ([rows T, rows P, c] ++ j)
theorem zho (R : List Sitting) : (R.map Sitting.cells).flatten.length = R.length * 3 := by
 rw [zgh (sz := 3) (fun c hc => by obtain ⟨s, _, rfl⟩ := List.mem_map.1 hc; rfl), List.length_map]
theorem ysc (R : List Sitting) (T P : List (List Int)) (c : V) (j : List V) : (LR R T P c j).length = R.length * 3 + 3 + j.length := by
 rw [LR, List.length_append, zho]; simp; omega
theorem yli (R : List Sitting) (T P : List (List Int)) (c : V) (j : List V) {o : Nat} (h : o = R.length * 3 + 2) : (LR R T P c j)[o]? = some c := by
 subst h
 rw [LR, List.getElem?_append_right (by rw [zho]; omega), zho, show R.length * 3 + 2 - R.length * 3 = 2 by omega]; rfl
theorem zya : ∀ (R : List Sitting) (r : Nat) (h : r < R.length), (R.map Sitting.cells).flatten[r * 3 + 1]? = some (rows R[r].points)
 | s :: R, 0, h => rfl
 | s :: R, r + 1, h => by
  have := zya R r (by simpa using h)
  rw [List.map_cons, List.flatten_cons, List.getElem?_append_right (by simp only [Sitting.cells, List.length_cons, List.length_nil]; omega)]
  simp only [Sitting.cells, List.length_cons, List.length_nil, List.getElem_cons_succ]
  rw [show (r + 1) * 3 + 1 - (0 + 1 + 1 + 1) = r * 3 + 1 by omega]
  exact this
theorem yqs (R : List Sitting) (T P : List (List Int)) (c : V) (j : List V) {o r : Nat} (hr : r ≤ R.length) (h : o = r * 3 + 1) : (LR R T P c j)[o]? = some (rows ((R.map Sitting.points ++ [P]).getD r [])) := by
 subst h
 by_cases hl : r < R.length
 ·rw [LR, List.getElem?_append_left (by rw [zho]; omega), zya R r hl]
  rw [List.getD_eq_getElem?_getD, List.getElem?_append_left (by simpa using hl), List.getElem?_map, List.getElem?_eq_getElem hl]; rfl
 ·obtain rfl : r = R.length := by omega
  rw [LR, List.getElem?_append_right (by rw [zho]; omega), zho, show R.length * 3 + 1 - R.length * 3 = 1 by omega]
  show some (rows P) = _
  rw [List.getD_eq_getElem?_getD, List.getElem?_append_right (by simp), List.length_map, Nat.sub_self]; rfl
theorem ylh (R : List Sitting) (T P : List (List Int)) (c d : V) (j : List V) {o : Nat} (h : o = R.length * 3 + 2) : (LR R T P c j).set o d = LR R T P d j := by
 subst h
 rw [LR, List.set_append_right _ _ (by rw [zho]; omega), zho, show R.length * 3 + 2 - R.length * 3 = 2 by omega]; rfl
def SR (T : Nat) (g : GR) : Sto := match g with | ⟨_, none⟩ => [] | ⟨l, some (b, _, j)⟩ => [(b, .cells (l.flatten ++ j) T)]
theorem ymf (wi x : Int) (n : Nat) (h : 1 ≤ n) : 0 ≤ zjn wi x n ∧ zjn wi x n < n := by
 have := zbv x (wi + 1)
 unfold zjn; omega
def NB (bs b4 b5 b : Nat) (g : GR) : Prop := ∀ b' cap j, g.blk = some (b', cap, j) → b' ≠ bs ∧ b' ≠ b4 ∧ b' ≠ b5 ∧ b' ≠ b
theorem NB.del {bs b4 b5 b : Nat} {g : GR} (h : NB bs b4 b5 b g) (T : Nat) : delS bs (SR T g) = SR T g := by
 obtain ⟨l, blk⟩ := g
 cases blk with
 | none => rfl
 | some x =>
  obtain ⟨b', cap, j⟩ := x
  simp only [SR, delS, (h b' cap j rfl).1, ↓reduceIte]
theorem NB.look {bs b4 b5 b : Nat} {g : GR} (h : NB bs b4 b5 b g) (T c : Nat) (hc : c = bs ∨ c = b4 ∨ c = b5 ∨ c = b) : zad (SR T g) c = none := by
 obtain ⟨l, blk⟩ := g
 cases blk with
 | none => rfl
 | some x =>
  obtain ⟨b', cap, j⟩ := x
  have := h b' cap j rfl
  simp only [SR, zad]
  rw [if_neg]
  rintro rfl
  omega
structure RulI (bs b4 b5 b : Nat) (Rul : List Ruling) (g : GR) : Prop where
 l : g.l = Rul.map Ruling.cells
 ok : g.Ok 65 3 (SR 65 g)
 nb : NB bs b4 b5 b g
theorem yX31 {p : Prop} (h : p := by (simp (disch := omega) only [go_sem, dopV, yV0, ↓reduceIte, Nat.reduceEqDiff, Nat.reduceLT, Nat.reduceLeDiff, Nat.reduceAdd, Nat.reduceMul, Nat.reduceSub, Int.reduceToNat, Int.reduceLT, Int.reduceLE, Int.reduceEq, IntWalk.toNatUp, IntWalk.iteOmega, IntWalk.i64_in, V.flat, V.one, *, GR.cell_copy, Value.oneCell']; exact rfl)) : p := h
theorem yX32 {p : Prop} (h : p := by (simp (disch := omega) only [go_sem, dopV, yV0, ↓reduceIte, Nat.reduceEqDiff, Nat.reduceLT, Nat.reduceLeDiff, Nat.reduceAdd, Nat.reduceMul, Nat.reduceSub, Int.reduceToNat, Int.reduceLT, Int.reduceLE, Int.reduceEq, IntWalk.toNatUp, IntWalk.iteOmega, IntWalk.i64_in, V.flat, V.one, *, GR.cell_copy, Value.oneCell']; try exact rfl)) : p := h
theorem yny (bs b4 b5 b cap : Nat) (x sz st ab wi i : Int) (sh : Bool) (PL : List Int) (M : List Member) (R : List Sitting) (T P : List (List Int)) (j : List V) (hszB : Box (∃ z : Nat, sz = z)) (hsz : 3 ≤ sz ∧ sz ≤ 4) (hst : 0 ≤ st ∧ st ≤ 1000000) (hwi : 0 ≤ wi ∧ wi ≤ 2) (hnb : R.length ≤ 1000) (hps : ∀ r, ((R.map Sitting.points ++ [P]).getD r []).length ≤ 1000)
  (n4 : ¬ bs = b4) (n4' : ¬ b4 = bs) (n5 : ¬ bs = b5) (n5' : ¬ b5 = bs) (m5 : ¬ b4 = b5) (m5' : ¬ b5 = b4) (q1 : ¬ bs = b) (q1' : ¬ b = bs) (q2 : ¬ b4 = b) (q2' : ¬ b = b4) (q3 : ¬ b5 = b) (q3' : ¬ b = b5) {v0 : VH} {Q : VEnv → Sto → Prop} {fr : List Fr} {cd : Code} {os l : List Oper}
  (h4 : Tryz.f40.body.bind (regC 30) = some os) (h5 : os.drop 1 = l) (h3 : Tryz.f40.body.bind (zkc 30) = some cd)
  (q : ∀ g, RulI bs b4 b5 b (rulK sz st wi (R.map Sitting.points ++ [P]) (zan x 3).toNat (zag x) []).1 g → DS Tryz.prog 207 ⟨none, v0⟩ Q fr [(13, I i), (0, ptr bs), (4, ptr b4), (5, ptr b5)]
   ((bs, srcO (rulK sz st wi (R.map Sitting.points ++ [P]) (zan x 3).toNat (zag x) []).2) :: (b5, .cells (zgz sz st ab wi PL sh (.own false 47 4 (M.map Member.cells)) (.v (.slice (some ⟨b, 0, none⟩) (R.length + 1) cap))) 26) :: (b4, .cells zeb 26) :: (b, .cells (LR R T P g.cell j) 61) :: SR 65 g)) :
  DS Tryz.prog 207 ⟨none, v0⟩ Q (.ops os l :: .code cd :: fr)
   [(138, ptr bs), (13, I i), (0, ptr bs), (4, ptr b4), (5, ptr b5)] [(bs, srcO x), (b5, .cells (zgz sz st ab wi PL sh (.own false 47 4 (M.map Member.cells)) (.v (.slice (some ⟨b, 0, none⟩) (R.length + 1) cap))) 26), (b4, .cells zeb 26), (b, .cells (LR R T P (.v (.slice none 0 0)) j) 61)] := by
 obtain rfl := Option.some.inj ((show Tryz.f40.body.bind (zkc 30) = some _ from rfl).symm.trans h3)
 obtain rfl := Option.some.inj ((show Tryz.f40.body.bind (regC 30) = some _ from rfl).symm.trans h4)
 subst h5
 clear h4
 clear h3
 simp only [zax, zay]
 have k1 := zbv x 3
 repeat' (first | (with_reducible first | refine zac yU yU yE ?_ | refine zab ?_ | refine DS.block ?_) | (refine zfd inferInstance (zef bs x 3 (by omega)) yR yT yT ?_; (try simp only [zbn, zbs, ↓reduceIte, *])) | fail)
 obtain ⟨N, hN⟩ : ∃ N : Nat, (N : Int) = zan x 3 := ⟨(zan x 3).toNat, by omega⟩
 have hNN : (zan x 3).toNat = N := by omega
 rw [hNN] at q
 refine zcq [0, 4, 5, 13] yN (fun (y : Nat × Int × Int × List Ruling × GR) => [(15, I y.2.1)]) (fun (y : Nat × Int × Int × List Ruling × GR) => (bs, srcO y.2.2.1) :: (b5, .cells (zgz sz st ab wi PL sh (.own false 47 4 (M.map Member.cells)) (.v (.slice (some ⟨b, 0, none⟩) (R.length + 1) cap))) 26) :: (b4, .cells zeb 26) :: (b, .cells (LR R T P y.2.2.2.2.cell j) 61) :: SR 65 y.2.2.2.2) (fun (y : Nat × Int × Int × List Ruling × GR) => (y.2.1 ≤ y.1 ∧ (y.1 : Int) ≤ y.2.1) ∧ y.2.2.2.1.length + 1000 * y.1 ≤ 2000 ∧ RulI bs b4 b5 b y.2.2.2.1 y.2.2.2.2 ∧ rulK sz st wi (R.map Sitting.points ++ [P]) N (zag x) [] = rulK sz st wi (R.map Sitting.points ++ [P]) y.1 y.2.2.1 y.2.2.2.1) (fun (y : Nat × Int × Int × List Ruling × GR) => y.1) (N, zan x 3, zag x, [], ⟨[], none⟩) yS (fun b o e => by exact e) ⟨by dsimp only; omega, by dsimp only [List.length_nil]; omega, ⟨rfl, rfl, fun _ _ _ e => by cases e⟩, rfl⟩ (fun y B hI hB => ?_); try dsimp only at hI hB; simp only [zas, zaw]
 obtain ⟨k, cnt, x1, Rul, g⟩ := y
 dsimp only at hI hB ⊢
 obtain ⟨g1, g2, g3, g4⟩ := hI
 have H := Box.mk (And.intro g3 (And.intro g4 (And.intro q hN)))
 clear g4 q hN hNN
 have hdel := g3.nb.del 65
 clear g3
 have k2 := zbv x1 (wi + 1)
 have hB3 := hB
 clear hB
 repeat' (first | (with_reducible first | refine zac yU yU yE ?_ | refine zab ?_ | refine DS.seq ?_ | refine zaa ?_ | (refine zbd yE ?_; refine zel (fun _ => ?_) (fun _ => ?_)) | refine DS.block ?_ | refine DS.exit yU ?_ | refine DS.skip ?_) | fail)
 ·rename_i e0
  (refine zkp (id := 33) (bs := bs) (x := x1) (by simp only [zae, zca, ↓reduceIte, *]) [0, 1, 2, 3, 4, 5, 6, 7, 8] 9 (by kernel_rfl) zdq (by simp only [zbb, zbe, zbf, zbg, zba]; exact rfl) (by simp only [zax, zay, List.drop_nil]; exact rfl) ?_; simp only [zbn, zbs, ↓reduceIte, *])
  repeat' (first | (with_reducible first | refine zac yU yU yE ?_ | refine zab ?_ | refine DS.seq ?_ | refine zaa ?_ | refine DS.block ?_ | refine zbw yU yU yU yE ?_) | (with_reducible refine DD.nil ?_; simp only [zas, zaw]) | (refine zoz inferInstance (zef bs x1 (wi + 1) (by omega)) yU yT yT ?_; simp only [zcc, zcm, Nat.reduceEqDiff, ↓reduceIte]; (try simp only [zbn, zbs, ↓reduceIte, *])) | fail)
  have hrb := ymf wi x1 (R.length + 1) (by omega)
  obtain ⟨rd, hrd⟩ : ∃ rd : Nat, (rd : Int) = zjn wi x1 (R.length + 1) := ⟨(zjn wi x1 (R.length + 1)).toNat, by omega⟩
  have hrl : rd ≤ R.length := by omega
  have hif : (if ((R.length + 1 : Nat) : Int) - 1 - zan x1 (wi + 1) > 0 then ((R.length + 1 : Nat) : Int) - 1 - zan x1 (wi + 1) else 0) = (rd : Int) := by
   rw [hrd]; unfold zjn; split <;> omega
  simp only [hif]
  clear hif
  have Hr := Box.mk hrd
  clear hrd hrb
  obtain ⟨ps, hpsE⟩ : ∃ ps, ps = (R.map Sitting.points ++ [P]).getD rd [] := ⟨_, rfl⟩
  have hpl := hps rd
  rw [← hpsE] at hpl
  have Hp := Box.mk hpsE
  clear hpsE
  refine zcq [0, 4, 5, 13, 15, 16] yN (fun (z : Nat × Int × List Ruling × GR) => [(17, I z.1)]) (fun (z : Nat × Int × List Ruling × GR) => (bs, srcO z.2.1) :: (b5, .cells (zgz sz st ab wi PL sh (.own false 47 4 (M.map Member.cells)) (.v (.slice (some ⟨b, 0, none⟩) (R.length + 1) cap))) 26) :: (b4, .cells zeb 26) :: (b, .cells (LR R T P z.2.2.2.cell j) 61) :: SR 65 z.2.2.2) (fun (z : Nat × Int × List Ruling × GR) => z.1 ≤ ps.length ∧ z.2.2.1.length + (ps.length - z.1) + 1000 * (k - 1) ≤ 2000 ∧ RulI bs b4 b5 b z.2.2.1 z.2.2.2 ∧ rulG sz st rd ps 0 (zag x1) Rul = rulG sz st rd (ps.drop z.1) z.1 z.2.1 z.2.2.1) (fun (z : Nat × Int × List Ruling × GR) => ps.length - z.1) (0, zag x1, Rul, g) yS (fun b o e => by exact e) ⟨Nat.zero_le _, by dsimp only; omega, H.out.1, rfl⟩ (fun z B hI hB => ?_); try dsimp only at hI hB; simp only [zas, zaw]
  obtain ⟨u, x2, Rul2, g'⟩ := z
  dsimp only at hI hB ⊢
  obtain ⟨i1, i2, i3, i4⟩ := hI
  have H2 := Box.mk (And.intro i3 i4)
  clear i4
  have hdel2 := i3.nb.del 65
  clear i3
  have hc1 : (LR R T P g'.cell j)[rd * 3 + 1]? = some (rows ps) := by rw [Hp.out]; exact yqs R T P g'.cell j hrl rfl
  repeat' (first | (with_reducible first | refine zac yU yU yE ?_ | refine zab ?_ | refine DS.seq ?_ | refine zaa ?_ | (refine zbd yE ?_; first | refine zel (fun _ => ?_) (fun _ => ?_) | refine zdk ?_ | refine yha (fun _ => ?_) (fun _ => ?_)) | (refine zdz yU yE ?_; first | refine zow (fun _ => ?_) (fun _ => ?_) | refine GG.run ?_ | refine zfo ?_) | refine DS.blk ?_ | refine DS.block ?_ | refine DS.exit yU ?_ | refine DS.skip ?_) | (refine zfd inferInstance (zmw bs x2 3 (by omega)) yR yT yT ?_; (try simp only [zbn, zbs, ↓reduceIte, *])) | fail)
  ·rename_i e1 e2 e3
   have hu : u < ps.length := by omega
   simp only [Nat.add_sub_cancel]
   have hc2 : (LR R T P g'.cell j)[R.length * 3 + 2]? = some g'.cell := yli R T P g'.cell j rfl
   have he : SC Tryz.prog 88 [ptr bs, I sz, I st] bs (zag x2) (ints (zfv sz st (zag x2)).1) (zfv sz st (zag x2)).2 := by
    obtain ⟨z, hz⟩ := hszB.out
    rw [hz]; exact ykc bs (zag x2) z st (by omega) (by omega)
   refine zgx (id := 39) ([(b5, .cells (zgz sz st ab wi PL sh (.own false 47 4 (M.map Member.cells)) (.v (.slice (some ⟨b, 0, none⟩) (R.length + 1) cap))) 26), (b4, .cells zeb 26), (b, .cells (LR R T P g'.cell j) 61)]) ((bs, srcO (zag x2)) :: SR 65 g') [0, 1, 2, 3, 4, 5, 6, 7, 8, 9, 10, 11, 12, 13, 14, 15] 16 (by kernel_rfl) zdq (by simp only [zbb, zbe, zbf, zbg, zba]; exact rfl) (by simp only [zax, zay, List.drop_nil]; exact rfl) ((fun d o e => by
    have hb : ¬ bs = d := fun h => by subst h; simp only [zae, zca, n5', n4', q1', ↓reduceIte] at e; cases e
    have hl : d = b5 ∨ d = b4 ∨ d = b := by
     simp only [zae, zca] at e
     split at e
     ·rename_i h; exact .inl h.symm
     split at e
     ·rename_i h; exact .inr (.inl h.symm)
     split at e
     ·rename_i h; exact .inr (.inr h.symm)
     ·cases e
    have hn := H2.out.1.nb.look 65 d (by omega)
    refine ⟨?_, by simp only [zae, hb, ↓reduceIte]; exact hn⟩
    simp only [zae, zca, hb, ↓reduceIte] at e ⊢
    by_cases a1 : b5 = d
    ·rw [if_pos a1] at e ⊢; exact e
    rw [if_neg a1] at e ⊢
    by_cases a2 : b4 = d
    ·rw [if_pos a2] at e ⊢; exact e
    rw [if_neg a2] at e ⊢
    by_cases a3 : b = d
    ·rw [if_pos a3] at e ⊢; exact e
    ·rw [if_neg a3] at e; cases e)) ((fun d o e => by
    simp only [zae] at e ⊢
    by_cases a0 : bs = d
    ·rw [if_pos a0] at e ⊢; exact e
    ·rw [if_neg a0] at e ⊢
     rw [if_neg (fun h => by subst h; rw [H2.out.1.nb.look _ _ (.inr (.inr (.inl rfl)))] at e; cases e), if_neg (fun h => by subst h; rw [H2.out.1.nb.look _ _ (.inr (.inl rfl))] at e; cases e), if_neg (fun h => by subst h; rw [H2.out.1.nb.look _ _ (.inr (.inr (.inr rfl)))] at e; cases e)]
     exact e)) ?_
   repeat' (first | (with_reducible first | refine zbw yU yU yU yX31 ?_ | refine zks yU yU yU yU yX31 ?_) | (refine zoz inferInstance (he) yU yX32 yX32 ?_; simp only [zcc, zcm, Nat.reduceEqDiff, ↓reduceIte]; (try simp only [zbn, zbs, ↓reduceIte, *])) | (refine zhn yU yX31 yX31 ?_; simp only [go_sem, Nat.zero_add, Nat.reduceAdd]; simp only [zcc, zcm, Nat.reduceEqDiff, ↓reduceIte]) | fail)
   have hOk : g'.Ok 65 3 ((bs, srcO (zfv sz st (zag x2)).2) :: SR 65 g') := H2.out.1.ok.of fun d cap' jj h => by
    rw [zae, if_neg (fun h' => (H2.out.1.nb d cap' jj h).1 h'.symm)]
   have hgl : g'.l.length = Rul2.length := by rw [H2.out.1.l, List.length_map]
   refine znh rfl rfl rfl yR (zij (g := g') (ml := [Ruling.cells ⟨rd, u, (zfv sz st (zag x2)).1⟩]) rfl yH yH yR yR (by decide) yH hOk yH yH (by exact Nat.zero_lt_succ _) (by intro c hc; obtain rfl := List.mem_singleton.1 hc; rfl) ⟨by rw [hgl, List.length_singleton]; omega, by decide⟩) (fun u2 E' S4 hu2 hdis => ?_)
   obtain ⟨rfl, b', cap', junk', rfl, m1, m2, m3⟩ := hu2
   have hml : g'.l ++ [Ruling.cells ⟨rd, u, (zfv sz st (zag x2)).1⟩].map (fun x => List.map V.copy x) = (Rul2 ++ [(⟨rd, u, (zfv sz st (zag x2)).1⟩ : Ruling)]).map Ruling.cells := by rw [H2.out.1.l, List.map_append]; rfl
   rw [hml] at m1 ⊢
   obtain ⟨Rul3, hR3⟩ : ∃ Rul3 : List Ruling, Rul3 = Rul2 ++ [(⟨rd, u, (zfv sz st (zag x2)).1⟩ : Ruling)] := ⟨_, rfl⟩
   rw [← hR3] at m1 ⊢
   have e0 : b' ≠ bs := by
    rcases m2 with ⟨c, jj, h⟩ | h
    ·exact (H2.out.1.nb _ _ _ h).1
    ·intro h'; subst h'; simp [zad] at h
   have hS0 : ∀ d o, zad [(b5, Ob.cells (zgz sz st ab wi PL sh (.own false 47 4 (M.map Member.cells)) (.v (.slice (some ⟨b, 0, none⟩) (R.length + 1) cap))) 26), (b4, .cells zeb 26), (b, .cells (LR R T P g'.cell j) 61)] d = some o → b' ≠ d := fun d o e h => by
    have h1 := hdis d o e
    rw [← h, m1.look] at h1; cases h1
   have e5 : b' ≠ b5 := hS0 b5 _ (by simp only [zae, ↓reduceIte]; exact rfl)
   have e4 : b' ≠ b4 := hS0 b4 _ (by simp only [zae, m5', ↓reduceIte]; exact rfl)
   have eb : b' ≠ b := hS0 b _ (by simp only [zae, q2, q3, ↓reduceIte]; exact rfl)
   have hbs : zad S4 bs = some (srcO (zfv sz st (zag x2)).2) := by
    rw [m3 bs (fun h => e0 h.symm) (fun c jj h => (H2.out.1.nb _ _ _ h).1 rfl), zae, if_pos rfl]
   refine zer (S' := (bs, srcO (zfv sz st (zag x2)).2) :: (b5, .cells (zgz sz st ab wi PL sh (.own false 47 4 (M.map Member.cells)) (.v (.slice (some ⟨b, 0, none⟩) (R.length + 1) cap))) 26) :: (b4, .cells zeb 26) :: (b, .cells (LR R T P g'.cell j) 61) :: SR 65 ⟨Rul3.map Ruling.cells, some (b', cap', junk')⟩) (fun d o e => ?_) ?_
   ·rw [zbr]
    rw [zae] at e
    by_cases a0 : bs = d
    ·rw [if_pos a0] at e; subst a0; rw [hbs]; exact e
    rw [if_neg a0] at e
    by_cases a1 : ∃ o', zad [(b5, Ob.cells (zgz sz st ab wi PL sh (.own false 47 4 (M.map Member.cells)) (.v (.slice (some ⟨b, 0, none⟩) (R.length + 1) cap))) 26), (b4, .cells zeb 26), (b, .cells (LR R T P g'.cell j) 61)] d = some o'
    ·obtain ⟨o', h'⟩ := a1
     rw [hdis d o' h']
     have : o' = o := by
      simp only [zae, zca] at h' e
      by_cases c1 : b5 = d
      ·rw [if_pos c1] at h' e; rw [h'] at e; exact Option.some.inj e
      rw [if_neg c1] at h' e
      by_cases c2 : b4 = d
      ·rw [if_pos c2] at h' e; rw [h'] at e; exact Option.some.inj e
      rw [if_neg c2] at h' e
      by_cases c3 : b = d
      ·rw [if_pos c3] at h' e; rw [h'] at e; exact Option.some.inj e
      ·rw [if_neg c3] at h'; cases h'
     rw [← this]; exact h'
    ·have c1 : ¬ b5 = d := fun h => a1 ⟨_, by simp only [zae, h, ↓reduceIte]; rfl⟩
     have c2 : ¬ b4 = d := fun h => a1 ⟨_, by simp only [zae, c1, h, ↓reduceIte]; rfl⟩
     have c3 : ¬ b = d := fun h => a1 ⟨_, by simp only [zae, c1, c2, h, ↓reduceIte]; rfl⟩
     simp only [zae, c1, c2, c3, ↓reduceIte, SR, zca] at e
     by_cases c4 : b' = d
     ·subst c4; rw [m1.look]; rw [if_pos rfl] at e; exact e
     ·rw [if_neg c4] at e; cases e
   simp only [GR.cell_some, zcz, List.length_map]
   have hk : rulG sz st rd ps 0 (zag x1) Rul = rulG sz st rd (ps.drop (u + 1)) ((u + 1 : Nat) : Int) (zfv sz st (zag x2)).2 Rul3 := by
    rw [H2.out.2, List.drop_eq_getElem_cons hu, rulG, if_pos e2, if_pos e3, hR3]; rfl
   have hrl : Rul3.length = Rul2.length + 1 := by rw [hR3, List.length_append]; rfl
   have hI3 : RulI bs b4 b5 b Rul3 ⟨Rul3.map Ruling.cells, some (b', cap', junk')⟩ := ⟨rfl, ⟨by simp [SR, zad], m1.len, m1.le, m1.cap, m1.jf, m1.lf, m1.ll⟩, fun c1 c2 c3 h => by cases h; exact ⟨e0, e4, e5, eb⟩⟩
   have H3 := Box.mk (And.intro hk hI3)
   clear hk hR3 hml m1 m2 m3 hdis hI3 hS0 hbs hOk hgl
   have hll := ysc R T P g'.cell j
   repeat' (first | (with_reducible first | refine zac yU yU yE ?_ | refine zab ?_ | refine zaa ?_ | refine DS.blk ?_) | (refine DS.store yR yE yE yE yE yU (by exact ⟨by with_unfolding_all rfl, by (try simp only [List.length_map, List.length_append, List.length_set, List.length_replicate, List.length_cons, List.length_nil]); omega⟩) ?_; simp only [zbo, zav, zaz, zbz, zbl, zbj, zbk]; try simp only [zao, zaf, zah, Nat.reduceEqDiff, ↓reduceIte, zak, zal, zar, zaj, zai, zap, zam]) | fail)
   simp only [setS, q1, q2, q3, ↓reduceIte]
   rw [ylh _ _ _ _ _ _ rfl]
   refine DS.back (hB (u + 1, (zfv sz st (zag x2)).2, Rul3, ⟨Rul3.map Ruling.cells, some (b', cap', junk')⟩) _ _ (by dsimp only; omega) ⟨by dsimp only; omega, by dsimp only; omega, H3.out.2, H3.out.1⟩ yS yS (fun d o e => ?_))
   dsimp only at e
   rw [GR.cell_some, List.length_map, hrl] at e
   exact e
  ·rename_i e1 e2 e3
   have hu : u < ps.length := by omega
   have hk : rulG sz st rd ps 0 (zag x1) Rul = rulG sz st rd (ps.drop (u + 1)) ((u + 1 : Nat) : Int) (zag x2) Rul2 := by
    rw [H2.out.2, List.drop_eq_getElem_cons hu, rulG, if_pos e2, if_neg (by simp [e3])]; rfl
   refine DS.back (hB (u + 1, zag x2, Rul2, g') _ _ (by dsimp only; omega) ⟨by dsimp only; omega, by dsimp only; omega, H2.out.1, hk⟩ yS yS (fun b o e => e))
  ·rename_i e1 e2
   have hu : u < ps.length := by omega
   have hk : rulG sz st rd ps 0 (zag x1) Rul = rulG sz st rd (ps.drop (u + 1)) ((u + 1 : Nat) : Int) x2 Rul2 := by
    rw [H2.out.2, List.drop_eq_getElem_cons hu, rulG, if_neg e2]; rfl
   refine DS.back (hB (u + 1, x2, Rul2, g') _ _ (by dsimp only; omega) ⟨by dsimp only; omega, by dsimp only; omega, H2.out.1, hk⟩ yS yS (fun b o e => e))
  ·rename_i e1
   have hk : rulK sz st wi (R.map Sitting.points ++ [P]) N (zag x) [] = rulK sz st wi (R.map Sitting.points ++ [P]) (k - 1) x2 Rul2 := by
    obtain ⟨k', rfl⟩ : ∃ k', k = k' + 1 := ⟨k - 1, by omega⟩
    have h1 := H2.out.2
    rw [show ps.drop u = [] from List.drop_eq_nil_of_le (by omega), rulG, Hr.out, Hp.out] at h1
    have h2 : rd = (zjn wi x1 (R.length + 1)).toNat := by have := Hr.out; omega
    rw [H.out.2.1, rulK, List.length_append, List.length_map, List.length_singleton, ← h2, h1]
    rfl
   refine DS.back (hB3 (k - 1, cnt - 1, x2, Rul2, g') _ _ (by dsimp only; omega) ⟨by dsimp only; omega, by dsimp only; omega, H2.out.1, hk⟩ yS yS (fun b o e => e))
 ·rename_i e1
  obtain ⟨h1, h2, h3, h4⟩ := H.out
  obtain rfl : k = 0 := by omega
  rw [h2] at h3
  exact zdy (zek (by simp (disch := omega) only [go_sem, ↓reduceIte, Nat.reduceEqDiff, zew, zfk, and_self, zas, zaw])) (fun _ _ e => e) (h3 g h1)
end Go.XL
namespace Go.XL
theorem zuu {st : List Int → Int → Bool} {f : List Int → List Int → List (List Int)} {t x : List Int} : ∀ {ids : List Int}, x ∈ zfr st f t ids → ∃ id r, x ∈ f (t ++ [id]) r
 | [], h => by simp [zfr] at h
 | id :: r, h => by
  rw [zfr] at h
  rcases List.mem_append.1 h with h | h
  ·split at h
   ·exact ⟨id, r, h⟩
   ·cases h
  ·exact zuu h
theorem zzo {st : List Int → Int → Bool} {x : List Int} : ∀ (n : Nat) (t ids : List Int), x ∈ zgo st n t ids → x.length = t.length + n
 | 0, t, ids, h => by
  simp only [zgo, List.mem_singleton] at h; subst h; rfl
 | n + 1, t, ids, h => by
  obtain ⟨id, r, h⟩ := zuu h
  have := zzo n _ _ h
  rw [this]; simp; omega
theorem zxq {budget : Int} {round sz : Nat} {rec : List Int → Int → Int × Int × List (Nat × List Int)} (h : ∀ t s, ∀ q ∈ (rec t s).2.2, q.2.length = sz) : ∀ (l : List (List Int)) (s : Int), (∀ t ∈ l, t.length = sz) → ∀ q ∈ (tryL budget round rec l s).2.2, q.2.length = sz
 | [], s, _, q, hq => by simp [tryL] at hq
 | t :: r, s, hl, q, hq => by
  simp only [tryL] at hq
  split at hq
  ·cases hq
  split at hq
  ·exact zxq h r _ (fun t' ht => hl t' (List.mem_cons_of_mem _ ht)) q hq
  ·rcases List.mem_cons.1 hq with rfl | hq
   ·exact hl t (List.mem_cons_self ..)
   ·exact h _ _ q hq
theorem zqt {size : Nat} {budget : Int} {rounds : List (List Int)} (hs : 1 ≤ size) : ∀ (n : Nat) (met : Int → Int → Bool) (round : Nat) (ids : List Int) (s : Int), ∀ q ∈ (srch size budget rounds n met round ids s).2.2, q.2.length = size
 | 0, met, round, ids, s, q, hq => by simp [srch] at hq
 | n + 1, met, round, [], s, q, hq => by
  rw [srch] at hq
  split at hq
  ·cases hq
  ·exact zqt hs n met _ _ _ q hq
 | n + 1, met, round, f :: fr, s, q, hq => by
  rw [srch] at hq
  refine zxq (fun t s => zqt hs n _ _ _ _) _ _ (fun t ht => ?_) q hq
  have := zzo _ _ _ ht
  rw [this]; simp; omega
theorem ygd (c : Club) (hs : 1 ≤ c.size) (ids : List Int) : ∀ t ∈ (zhy c ids).1, (t.length : Int) = c.size := by
 intro t ht
 unfold zhy at ht
 repeat' split at ht
 all_goals first | (cases ht; done) | skip
 obtain ⟨q, hq, rfl⟩ := List.mem_map.1 ht
 have := zqt (by omega) _ _ _ _ _ q hq
 omega
theorem ynb (out : List Int) (n : Int) : (insS out n).length = out.length + 1 := by
 simp only [insS, List.length_append, List.length_take, List.length_cons, List.length_drop]; omega
theorem zoj : ∀ (l out : List Int), (l.foldl insS out).length = out.length + l.length
 | [], out => rfl
 | a :: r, out => by rw [List.foldl_cons, zoj r, ynb]; simp; omega
theorem zpb (size : Int) (hs : 1 ≤ size) : ∀ (n : Nat) (x : Int) (rest : List Int) (out : List (List Int)), (∀ t ∈ out, (t.length : Int) = size) → ∀ t ∈ (zmv size n x rest out).1, (t.length : Int) = size
 | 0, x, rest, out, h => by simpa [zmv] using h
 | n + 1, x, rest, out, h => by
  simp only [zmv]
  split
  ·refine zpb size hs n _ _ _ fun t ht => ?_
   rcases List.mem_append.1 ht with ht | ht
   ·exact h t ht
   ·obtain rfl := List.mem_singleton.1 ht
    rw [zft, zoj]
    have := zvs size size.toNat x [rest.headD 0] (rest.drop 1) (by simp; omega) (by simp; omega)
    simp only [List.length_nil, Nat.zero_add]; exact this
  ·exact h
theorem ztk (c : Club) (x : Int) (hs : 1 ≤ c.size) : ∀ t ∈ (zbc c x).1, (t.length : Int) = c.size := by
 unfold zbc
 split
 ·dsimp only
  split
  ·exact ygd c hs _
  ·exact zpb c.size hs _ _ _ _ (fun t ht => by cases ht)
 ·exact zpb c.size hs _ _ _ _ (fun t ht => by cases ht)
theorem znx (size start : Int) (hs : 1 ≤ size) : ∀ (n : Nat) (x : Int) (out : List (List Int)), (∀ p ∈ out, p = [] ∨ (p.length : Int) = size) → (∀ p ∈ (ptsG size start n x out).1, p = [] ∨ (p.length : Int) = size) ∧ (ptsG size start n x out).1.length = out.length + n
 | 0, x, out, h => ⟨h, rfl⟩
 | n + 1, x, out, h => by
  rw [ptsG]
  split
  ·have := znx size start hs n (zfv size start (zag x)).2 (out ++ [(zfv size start (zag x)).1]) (fun p hp => by
    rcases List.mem_append.1 hp with hp | hp
    ·exact h p hp
    ·obtain rfl := List.mem_singleton.1 hp
     exact .inr (zom size start _ hs))
   exact ⟨this.1, by rw [this.2]; simp; omega⟩
  ·have := znx size start hs n (zag x) (out ++ [[]]) (fun p hp => by
    rcases List.mem_append.1 hp with hp | hp
    ·exact h p hp
    ·obtain rfl := List.mem_singleton.1 hp
     exact .inl rfl)
   exact ⟨this.1, by rw [this.2]; simp; omega⟩
theorem zqg (size start round : Int) (hs : 1 ≤ size) : ∀ (l : List (List Int)) (t x : Int) (R : List Ruling), (∀ r ∈ R, (r.points.length : Int) = size) → (∀ r ∈ (rulG size start round l t x R).1, (r.points.length : Int) = size) ∧ (rulG size start round l t x R).1.length ≤ R.length + l.length
 | [], t, x, R, h => ⟨h, by simp [rulG]⟩
 | p :: l, t, x, R, h => by
  rw [rulG]
  split
  ·split
   ·have := zqg size start round hs l (t + 1) (zfv size start (zag x)).2 (R ++ [⟨round, t, (zfv size start (zag x)).1⟩]) (fun r hr => by
     rcases List.mem_append.1 hr with hr | hr
     ·exact h r hr
     ·obtain rfl := List.mem_singleton.1 hr
      exact zom size start _ hs)
    refine ⟨this.1, Nat.le_trans this.2 ?_⟩
    simp; omega
   ·have := zqg size start round hs l (t + 1) (zag x) R h
    exact ⟨this.1, Nat.le_trans this.2 (by simp)⟩
  ·have := zqg size start round hs l (t + 1) x R h
   exact ⟨this.1, Nat.le_trans this.2 (by simp)⟩
theorem zwb (size start window : Int) (hs : 1 ≤ size) (ps : List (List (List Int))) (L : Nat) (hL : ∀ r, (ps.getD r []).length ≤ L) : ∀ (k : Nat) (x : Int) (R : List Ruling), (∀ r ∈ R, (r.points.length : Int) = size) → (∀ r ∈ (rulK size start window ps k x R).1, (r.points.length : Int) = size) ∧ (rulK size start window ps k x R).1.length ≤ R.length + k * L
 | 0, x, R, h => ⟨h, by simp [rulK]⟩
 | k + 1, x, R, h => by
  rw [rulK]
  have h1 := zqg size start (zjn window x ps.length) hs (ps.getD (zjn window x ps.length).toNat []) 0 (zag x) R h
  have h2 := zwb size start window hs ps L hL k (rulG size start (zjn window x ps.length) (ps.getD (zjn window x ps.length).toNat []) 0 (zag x) R).2 _ h1.1
  have h3 := hL (zjn window x ps.length).toNat
  refine ⟨h2.1, Nat.le_trans h2.2 ?_⟩
  rw [Nat.succ_mul]; omega
structure MadeR (size : Int) (L : Nat) (s : Sitting) : Prop where
 rows : ∀ t ∈ s.tables, (t.length : Int) = size
 len : s.tables.length ≤ L
 pts : ∀ p ∈ s.points, p = [] ∨ (p.length : Int) = size
 plen : s.points.length = s.tables.length
 rul : s.rulings.length ≤ 2 * L
 rpts : ∀ r ∈ s.rulings, (r.points.length : Int) = size
theorem MadeR.small {size : Int} {L : Nat} {s : Sitting} (h : MadeR size L s) (hs : size ≤ 100) (hL : L ≤ 1000) : s.Small where
 tables := Nat.le_trans h.len (by omega)
 points := by rw [h.plen]; exact Nat.le_trans h.len (by omega)
 rulings := Nat.le_trans h.rul (by omega)
 table := fun t ht => by have := h.rows t ht; omega
 point := fun t ht => by
  rcases h.pts t ht with rfl | e
  ·simp
  ·omega
 ruling := fun r hr => by have := h.rpts r hr; omega
theorem ybl {α : Type} {l : List (List α)} {L : Nat} (h : ∀ x ∈ l, x.length ≤ L) (r : Nat) : (l.getD r []).length ≤ L := by
 rw [List.getD_eq_getElem?_getD]
 cases e : l[r]? with
 | none => simp
 | some x => exact h x (List.mem_of_getElem? e)
theorem zqw (c : Club) (x : Int) (R : List Sitting) (L : Nat) (hs : 1 ≤ c.size) (hL : c.members.length + 2 ≤ L) (hR : ∀ s ∈ R, MadeR c.size L s) :
  MadeR c.size L ⟨(zbc (zcw c R) x).1, (zcp (zcw c R) x).1, (zhs c x R).1⟩ := by
 have h1 := ztk (zcw c R) x hs
 have h2 := znv (zcw c R) x
 have h3 := znx c.size c.start hs (zbc (zcw c R) x).1.length (zbc (zcw c R) x).2 [] (fun p hp => by cases hp)
 have h3' : (zcp (zcw c R) x).1.length = (zbc (zcw c R) x).1.length := by
  have := h3.2
  rw [List.length_nil, Nat.zero_add] at this; exact this
 have h4 := zwb c.size c.start c.window hs (R.map Sitting.points ++ [(zcp (zcw c R) x).1]) L (ybl (fun p hp => by
  rcases List.mem_append.1 hp with hp | hp
  ·obtain ⟨s, hs, rfl⟩ := List.mem_map.1 hp
   rw [(hR s hs).plen]; exact (hR s hs).len
  ·obtain rfl := List.mem_singleton.1 hp
   rw [h3']; exact Nat.le_trans h2 hL)) (zan (zcp (zcw c R) x).2 3).toNat (zag (zcp (zcw c R) x).2) [] (fun r hr => by cases hr)
 have h5 := zbv (zcp (zcw c R) x).2 3
 refine ⟨h1, Nat.le_trans h2 hL, h3.1, h3', Nat.le_trans h4.2 ?_, h4.1⟩
 simp only [List.length_nil, Nat.zero_add]
 exact Nat.mul_le_mul_right _ (by omega)
end Go.XL
namespace Go.XL
open Go.Proofs
set_option maxRecDepth 100000
set_option maxHeartbeats 8000000
theorem yqu {P : Program} {n : Nat} {r : Rr} {Q : VEnv → Sto → Prop} {k : List Fr} {E : VEnv} {S : Sto} {t : Nat} {ty : TypeId} {pos : String} {af : Array Edge} {ts : Array TypeId} {g : FuncId} {xs : Array Operand} {fn : Func} {ops l : List Oper} (S1 S2 : Sto) {R : V → Sto → Prop} {x0 : V} {pre cs : List V} {b len cap sz T : Nat} {cl : List (List V)}
  (hf : FnOk P g fn) (hd : decide (t < n) = true) (he : evsV (evV E) xs.toList = some [x0, .agg (pre ++ [.v (.slice (some ⟨b, 0, none⟩) len cap)])]) (hc : DC P g [x0.peek, .agg (pre ++ [.lst cl])] S1 R)
  (hS : zad S b = some (.cells cs T)) (hfree : ∀ v ∈ cs, v.free = true) (hlen : cl.length = len) (hsz : ∀ c ∈ cl, c.length = sz) (hflat : cl.flatten = (cs.take (len * sz)).map V.peek) (hcap : len ≤ cap ∧ cap ≤ maxLen)
  (h1 : ∀ j o, zad S1 j = some o → zad (delS b S) j = some o) (h2 : ∀ j o, zad S2 j = some o → zad (delS b S) j = some o ∧ zad S1 j = none)
  (hsR : ∀ v S', R v S' → Safe b (cs.take (len * sz)) v ∧ v.free = true ∧ ∀ j c T', zad S' j = some (.cells c T') → ∀ v ∈ c, Safe b (cs.take (len * sz)) v)
  (hs2 : ∀ j c T', zad S2 j = some (.cells c T') → ∀ v ∈ c, Safe b (cs.take (len * sz)) v)
  (q : ∀ v S0, R v S0 → (∀ j o, zad S0 j = some o → zad S2 j = none ∧ j ≠ b) → DS P n r Q (.ops ops l :: k) ((t, v) :: E) ((b, .cells cs T) :: (S0 ++ S2))) :
  DS P n r Q (.ops ops (⟨some t, .call { callee := .value (.func g), args := xs, argTypes := ts }, ty, pos, af, none⟩ :: l) :: k) E S := by
 refine zea rfl rfl hd (yoh hf he (hc _) hS hfree hlen hsz hflat hcap h1 h2 hsR hs2) fun v E' S' ⟨eE, S0, eS, hR, hdis⟩ => ?_
 subst eE; subst eS
 exact q v S0 hR hdis
theorem yok {P : Program} {n : Nat} {r : Rr} {Q : VEnv → Sto → Prop} {k : List Fr} {E : VEnv} {S : Sto} {b : Nat} {l : List V} {T : TypeId} (hS : zad S b = some (.cells l T)) (q : DS P n r Q k E (setS b (.cells (l.map V.peek) T) S)) : DS P n r Q k E S := fun K W a w ⟨K', D, hv, hold, env, hbx, ha, s⟩ hw => by
 refine q K W a w ⟨K', D, hv, hold, env, hbx, ha, ⟨s.pre, s.slot, fun j o e => ?_, s.held, s.base, s.vbase⟩⟩ hw
 rw [zbh hS] at e
 split at e
 ·rename_i hj
  subst hj
  simp only [Option.some.injEq] at e; subst e
  obtain ⟨o1, o2, cs, o3, o4, o5, o6⟩ := s.obj _ _ hS
  refine ⟨o1, o2, cs, o3, zjk o4, o5, fun i c u hc hu => ?_⟩
  obtain ⟨v, hv, rfl⟩ := List.mem_map.1 (List.mem_of_getElem? hc)
  exact V.free_Own (zgs v) u
 ·exact s.obj j o e
theorem zvg {α : Type} (f : α → V) : ∀ l : List α, chunk 1 l.length (l.map f) = l.map fun a => [f a]
 | [] => rfl
 | a :: r => by
  rw [List.length_cons, chunk, List.map_cons, List.map_cons, ← zvg f r]; rfl
theorem ymm (P : List (List Int)) : chunk 1 P.length ((P.map ptC).map V.peek) = P.map cR := by
 rw [List.map_map, zvg]
 refine List.map_congr_left fun p _ => ?_
 simp only [Function.comp, ptC, cR]
 split
 ·rename_i h; subst h; rfl
 ·rfl
theorem zgw {sz : Nat} {j : List V} : ∀ {l : List (List V)}, (∀ c ∈ l, c.length = sz) → chunk sz l.length (l.flatten ++ j) = l
 | [], _ => rfl
 | c :: r, h => by
  have hc := h c (List.mem_cons_self ..)
  rw [List.length_cons, chunk, List.flatten_cons, List.append_assoc, List.take_left' hc, List.drop_left' hc, zgw fun d hd => h d (List.mem_cons_of_mem _ hd)]
theorem zyc (R : List Sitting) : (R.map Sitting.cells).flatten.map V.copy = (R.map Sitting.cells).flatten := by
 rw [List.map_flatten, List.map_map]; rfl
theorem zxz (R : List Sitting) : (R.map Sitting.cells).flatten.map V.peek = (R.map Sitting.cells).flatten := by
 rw [List.map_flatten, List.map_map]; rfl
theorem zyb (R : List Sitting) : ∀ v ∈ (R.map Sitting.cells).flatten, v.free = true := fun v hv => by
 obtain ⟨c, h1, h2⟩ := List.mem_flatten.1 hv
 obtain ⟨s, _, rfl⟩ := List.mem_map.1 h1
 simp only [Sitting.cells, List.mem_cons, List.not_mem_nil, or_false] at h2
 rcases h2 with rfl | rfl | rfl <;> rfl
structure SitI (bs b4 b5 : Nat) (Rs : List Sitting) (g : GR) : Prop where
 l : g.l = Rs.map Sitting.cells
 ok : g.Ok 61 3 (SR 61 g)
 nb : NB bs b4 b5 b5 g
theorem zzy (bs b4 b5 bp : Nat) (x sz st ab wi i : Int) (sh : Bool) (PL : List Int) (M : List Member) (Rs : List Sitting) (T P : List (List Int)) (g : GR) (hszB : Box (∃ z : Nat, sz = z)) (hsz : 3 ≤ sz ∧ sz ≤ 4) (hst : 0 ≤ st ∧ st ≤ 1000000) (hwi : 0 ≤ wi ∧ wi ≤ 2) (hnb : Rs.length ≤ 3) (hps : ∀ r, ((Rs.map Sitting.points ++ [P]).getD r []).length ≤ 1000) (hg : SitI bs b4 b5 Rs g)
  (n4 : ¬ bs = b4) (n4' : ¬ b4 = bs) (n5 : ¬ bs = b5) (n5' : ¬ b5 = bs) (m5 : ¬ b4 = b5) (m5' : ¬ b5 = b4) (q1 : ¬ bs = bp) (q1' : ¬ bp = bs) (q2 : ¬ b4 = bp) (q2' : ¬ bp = b4) (q3 : ¬ b5 = bp) (q3' : ¬ bp = b5) (hbp : ∀ b' cap j, g.blk = some (b', cap, j) → b' ≠ bp) {v0 : VH} {Q : VEnv → Sto → Prop} {fr : List Fr} {cd : Code} {os l : List Oper}
  (h4 : Tryz.f40.body.bind (regC 28) = some os) (h5 : os.drop 3 = l) (h3 : Tryz.f40.body.bind (zkc 28) = some cd)
  (q : ∀ g', SitI bs b4 b5 (Rs ++ [⟨T, P, (rulK sz st wi (Rs.map Sitting.points ++ [P]) (zan x 3).toNat (zag x) []).1⟩]) g' → DS Tryz.prog 207 ⟨none, v0⟩ Q fr [(13, I i), (0, ptr bs), (4, ptr b4), (5, ptr b5)]
   ((bs, srcO (rulK sz st wi (Rs.map Sitting.points ++ [P]) (zan x 3).toNat (zag x) []).2) :: (b5, .cells (zgz sz st ab wi PL sh (.own false 47 4 (M.map Member.cells)) g'.cell) 26) :: (b4, .cells zeb 26) :: SR 61 g')) :
  DS Tryz.prog 207 ⟨none, v0⟩ Q (.ops os l :: .code cd :: fr)
   [(131, .agg [rows T, .v (.slice (some ⟨bp, 0, none⟩) P.length P.length), .v (.slice none 0 0)]), (13, I i), (0, ptr bs), (4, ptr b4), (5, ptr b5)] ((bp, .cells (P.map ptC) 22) :: (bs, srcO x) :: (b5, .cells (zgz sz st ab wi PL sh (.own false 47 4 (M.map Member.cells)) g.cell) 26) :: (b4, .cells zeb 26) :: SR 61 g) := by
 obtain rfl := Option.some.inj ((show Tryz.f40.body.bind (zkc 28) = some _ from rfl).symm.trans h3)
 obtain rfl := Option.some.inj ((show Tryz.f40.body.bind (regC 28) = some _ from rfl).symm.trans h4)
 subst h5
 clear h4 h3
 simp only [zax, zay]
 have hdel : delS bp (SR 61 g) = SR 61 g := by
  obtain ⟨l, blk⟩ := g
  cases blk with
  | none => rfl
  | some y =>
   obtain ⟨b', cap, j⟩ := y
   simp only [SR, delS, hbp b' cap j rfl, ↓reduceIte]
 refine ygz (t := 131) (b := bp) (i := 1) (len := P.length) (cap := P.length) (sz := 1) (l := P.map ptC) (T := 22) yR yR (by simp only [zae, ↓reduceIte]) (by simp) ⟨Nat.le_refl _, ?_⟩ ?_
 ·have := hps Rs.length
  rw [List.getD_eq_getElem?_getD, List.getElem?_append_right (by simp), List.length_map, Nat.sub_self] at this
  exact Nat.le_trans (m := 1000) this (by decide)
 rw [ymm]
 simp only [zbn, hdel, q1, q2, q3, ↓reduceIte, zcl, zby]
 repeat' (first | (refine yew (t := 134) yU yX21 yU (by simp only [List.length_cons, List.length_nil]; omega) ?_; simp only [List.take_succ_cons, List.take_zero, List.map_cons, List.map_nil, zbx, zbp, zcr, Nat.reduceAdd]) | (with_reducible first | refine zac yU yU yX21 ?_ | refine zab ?_ | refine DS.seq ?_ | refine zaa ?_) | (refine zfg yU yX21 yX21 ?_; simp only [go_sem, Nat.zero_add, Nat.reduceAdd]) | (refine zia (t := 14) yU yX21 yU (fun _ => yX21) yX21 yU (by exact ⟨by with_unfolding_all rfl, by with_unfolding_all decide⟩) (fun _ => by simp only [go_sem, Nat.reduceEqDiff, ↓reduceIte]) ?_; simp only [go_sem]) | fail)
 have hgl : g.l.length = Rs.length := by rw [hg.l, List.length_map]
 refine zea rfl rfl yR (zij (g := g) (ml := [[rows T, rows P, .v (.slice none 0 0)]]) rfl yH yH yR yR (by decide) yH (hg.ok.of fun d cap' jj h => ?_) yH yH (by exact Nat.zero_lt_succ _) (by intro c hc; obtain rfl := List.mem_singleton.1 hc; rfl) ⟨by rw [hgl, List.length_singleton]; omega, by decide⟩) (fun u2 E' S4 hu2 => ?_)
 ·have hn := hg.nb d cap' jj h
  rw [zae, if_neg (fun h' => hn.1 h'.symm), zae, if_neg (fun h' => hn.2.2.1 h'.symm), zae, if_neg (fun h' => hn.2.1 h'.symm)]
 obtain ⟨rfl, b', cap', junk', rfl, m1, m2, m3⟩ := hu2
 have hml : g.l ++ [[rows T, rows P, V.v (.slice none 0 0)]].map (fun x => List.map V.copy x) = Rs.map Sitting.cells ++ [[rows T, rows P, V.v (.slice none 0 0)]] := by rw [hg.l]; rfl
 rw [hml] at m1 ⊢
 have e0 : b' ≠ bs ∧ b' ≠ b5 ∧ b' ≠ b4 := by
  rcases m2 with ⟨c, jj, h⟩ | h
  ·have hn := hg.nb _ _ _ h
   exact ⟨hn.1, hn.2.2.1, hn.2.1⟩
  ·simp only [zae] at h
   refine ⟨fun h' => ?_, fun h' => ?_, fun h' => ?_⟩
   ·rw [if_pos h'.symm] at h; cases h
   ·rw [if_neg (fun x => n5 (x.trans h')), if_pos h'.symm] at h; cases h
   ·rw [if_neg (fun x => n4 (x.trans h')), if_neg (fun x => m5' (x.trans h')), if_pos h'.symm] at h; cases h
 obtain ⟨e1, e2, e3⟩ := e0
 have hold : ∀ d, d ≠ b' → (d = bs ∨ d = b5 ∨ d = b4) → zad S4 d = zad ((bs, srcO x) :: (b5, Ob.cells (zgz sz st ab wi PL sh (.own false 47 4 (M.map Member.cells)) g.cell) 26) :: (b4, .cells zeb 26) :: SR 61 g) d := fun d hd hl =>
  m3 d hd fun c jj h => by
   have hn := hg.nb _ _ _ h
   rcases hl with rfl | rfl | rfl
   ·exact hn.1 rfl
   ·exact hn.2.2.1 rfl
   ·exact hn.2.1 rfl
 have hLR : (Rs.map Sitting.cells ++ [[rows T, rows P, V.v (.slice none 0 0)]]).flatten ++ junk' = LR Rs T P (.v (.slice none 0 0)) junk' := by
  rw [LR, List.flatten_append, List.append_assoc]; rfl
 have hlook := m1.look
 rw [hLR] at hlook
 have hlen := m1.len
 have hle := m1.le
 rw [List.length_append, List.length_map, List.length_singleton] at hlen hle
 have hcap := m1.cap
 have hjf := m1.jf
 refine zer (S' := [(bs, srcO x), (b5, .cells (zgz sz st ab wi PL sh (.own false 47 4 (M.map Member.cells)) g.cell) 26), (b4, .cells zeb 26), (b', .cells (LR Rs T P (.v (.slice none 0 0)) junk') 61)]) (fun d o e => ?_) ?_
 ·simp only [zae, zca] at e
  by_cases c0 : bs = d
  ·subst c0; rw [if_pos rfl] at e; rw [hold _ (fun h => e1 h.symm) (.inl rfl), zae, if_pos rfl]; exact e
  rw [if_neg c0] at e
  by_cases c1 : b5 = d
  ·subst c1; rw [if_pos rfl] at e; rw [hold _ (fun h => e2 h.symm) (.inr (.inl rfl)), zae, if_neg c0, zae, if_pos rfl]; exact e
  rw [if_neg c1] at e
  by_cases c2 : b4 = d
  ·subst c2; rw [if_pos rfl] at e; rw [hold _ (fun h => e3 h.symm) (.inr (.inr rfl)), zae, if_neg c0, zae, if_neg c1, zae, if_pos rfl]; exact e
  rw [if_neg c2] at e
  by_cases c3 : b' = d
  ·subst c3; rw [if_pos rfl] at e; rw [hlook]; exact e
  ·rw [if_neg c3] at e; cases e
 simp only [GR.cell_some, zcz, List.length_append, List.length_map, List.length_singleton]
 have fin : ∀ (Rul : List Ruling) (jn : List V), jn.length = junk'.length → (∀ v ∈ jn, v.free = true) → SitI bs b4 b5 (Rs ++ [⟨T, P, Rul⟩]) ⟨(Rs ++ [(⟨T, P, Rul⟩ : Sitting)]).map Sitting.cells, some (b', cap', jn)⟩ := fun Rul jn h1 h2 =>
  ⟨rfl, ⟨by simp [SR, zad], by simp only [List.length_map, List.length_append, List.length_singleton, h1]; exact hlen, by simp only [List.length_map, List.length_append, List.length_singleton]; exact hle, hcap, h2, zyb _, fun c hc => by obtain ⟨s, _, rfl⟩ := List.mem_map.1 hc; rfl⟩, fun c1 c2 c3 h => by cases h; exact ⟨e1, e3, e2, e2⟩⟩
 have finC : ∀ (Rul : List Ruling) (jn : List V), ((Rs ++ [(⟨T, P, Rul⟩ : Sitting)]).map Sitting.cells).flatten ++ jn = LR Rs T P (.lst (Rul.map Ruling.cells)) jn := fun Rul jn => by
  rw [LR, List.map_append, List.flatten_append, List.append_assoc]; rfl
 clear hml m1 m2 m3 hold hLR hlook hg
 repeat' (first | (with_reducible first | refine zac yU yU yE ?_ | refine zab ?_ | refine DS.seq ?_ | refine zaa ?_) | (refine DS.store yR yE yE yE yE yU (by exact ⟨by with_unfolding_all rfl, by (try simp only [List.length_map, List.length_append, List.length_set, List.length_replicate, List.length_cons, List.length_nil]); omega⟩) ?_; simp only [zbo, zav, zaz, zbz, zbl, zbj, zbk]; try simp only [zao, zaf, zah, Nat.reduceEqDiff, ↓reduceIte, zak, zal, zar, zaj, zai, zap, zam]) | fail)
 simp only [setS, n5, ↓reduceIte]
 refine zdy (E' := [(138, ptr bs), (13, I i), (0, ptr bs), (4, ptr b4), (5, ptr b5)]) (S' := [(bs, srcO x), (b5, .cells (zgz sz st ab wi PL sh (.own false 47 4 (M.map Member.cells)) (.v (.slice (some ⟨b', 0, none⟩) (Rs.length + 1) cap'))) 26), (b4, .cells zeb 26), (b', .cells (LR Rs T P (.v (.slice none 0 0)) junk') 61)]) (zek (by simp (disch := omega) only [go_sem, ↓reduceIte, Nat.reduceEqDiff, zew, zfk, and_self])) (fun _ _ e => e) ?_
 refine yny bs b4 b5 b' cap' x sz st ab wi i sh PL M Rs T P junk' hszB hsz hst hwi (by omega) hps n4 n4' n5 n5' m5 m5' (fun h => e1 h.symm) e1 (fun h => e3 h.symm) e3 (fun h => e2 h.symm) e2 yR yR yR (fun gr hgr => ?_)
 have g2 : ¬ b5 = b' := fun h => e2 h.symm
 have g1 : ¬ bs = b' := fun h => e1 h.symm
 have g3 : ¬ b4 = b' := fun h => e3 h.symm
 obtain ⟨hrl, hrok, hrnb⟩ := hgr
 obtain ⟨grl, blk⟩ := gr
 dsimp only at hrl
 subst hrl
 cases blk with
 | none =>
  have hnil : (rulK sz st wi (Rs.map Sitting.points ++ [P]) (zan x 3).toNat (zag x) []).1.map Ruling.cells = [] := hrok
  refine yok (b := b') (l := LR Rs T P (.v (.slice none 0 0)) junk') (T := 61) (by simp only [zae, g1, g2, g3, ↓reduceIte, GR.cell_none]) ?_
  have h1 : (LR Rs T P (.v (.slice none 0 0)) junk').map V.peek = LR Rs T P (.lst ((rulK sz st wi (Rs.map Sitting.points ++ [P]) (zan x 3).toNat (zag x) []).1.map Ruling.cells)) (junk'.map V.peek) := by
   rw [hnil, LR, List.map_append, zxz, List.map_append]; rfl
  rw [h1, ← finC]
  refine zer (fun d o e => ?_) (q _ (fin _ (junk'.map V.peek) (by rw [List.length_map]) (fun v hv => by obtain ⟨w, _, rfl⟩ := List.mem_map.1 hv; exact zgs w)))
  simp only [setS, g1, g2, g3, ↓reduceIte, GR.cell_some, SR, List.length_map, List.length_append, List.length_singleton] at e ⊢
  exact e
 | some y =>
  obtain ⟨br, capr, jr⟩ := y
  have hb := hrnb br capr jr rfl
  have o1 : ¬ b' = br := fun h => hb.2.2.2 h.symm
  have o2 : ¬ b5 = br := fun h => hb.2.2.1 h.symm
  have o3 : ¬ b4 = br := fun h => hb.2.1 h.symm
  have o4 : ¬ bs = br := fun h => hb.1 h.symm
  refine zis (b := br) (b' := b') (i := Rs.length * 3 + 2) (sz := 3) (len := ((rulK sz st wi (Rs.map Sitting.points ++ [P]) (zan x 3).toNat (zag x) []).1.map Ruling.cells).length) (cap := capr) (l' := LR Rs T P (GR.cell ⟨(rulK sz st wi (Rs.map Sitting.points ++ [P]) (zan x 3).toNat (zag x) []).1.map Ruling.cells, some (br, capr, jr)⟩) junk') (l := ((rulK sz st wi (Rs.map Sitting.points ++ [P]) (zan x 3).toNat (zag x) []).1.map Ruling.cells).flatten ++ jr) (T := 65) (T' := 61) o1 (by simp only [zae, g1, g2, g3, ↓reduceIte]) (yli _ _ _ _ _ rfl) (by simp only [zae, o1, o2, o3, o4, SR, ↓reduceIte]) (by have := hrok.len; rw [List.length_append, zgh hrok.ll]; omega) ⟨hrok.le, hrok.cap⟩ ?_
  have hch : chunk 3 ((rulK sz st wi (Rs.map Sitting.points ++ [P]) (zan x 3).toNat (zag x) []).1.map Ruling.cells).length ((((rulK sz st wi (Rs.map Sitting.points ++ [P]) (zan x 3).toNat (zag x) []).1.map Ruling.cells).flatten ++ jr).map V.copy) = (rulK sz st wi (Rs.map Sitting.points ++ [P]) (zan x 3).toNat (zag x) []).1.map Ruling.cells := by
   rw [List.map_append, List.map_flatten, List.map_map]
   exact zgw (fun c hc => hrok.ll c hc)
  rw [hch, ylh _ _ _ _ _ _ rfl, ← finC]
  refine zer (fun d o e => ?_) (q _ (fin _ junk' rfl hjf))
  simp only [setS, delS, g1, g2, g3, o1, o2, o3, o4, ↓reduceIte, GR.cell_some, SR, List.length_map, List.length_append, List.length_singleton] at e ⊢
  exact e
theorem ybv (bs b4 b5 : Nat) (x most sz st ab wi : Int) (sh : Bool) (PL : List Int) (M : List Member) (hm : 0 ≤ most ∧ most ≤ 3) (hszB : Box (∃ z : Nat, sz = z)) (hsz : 3 ≤ sz ∧ sz ≤ 4) (hst : 0 ≤ st ∧ st ≤ 1000000) (hwi : 0 ≤ wi ∧ wi ≤ 2) (hM : M.length ≤ 13) (hPL : PL.length ≤ 4)
  (n4 : ¬ bs = b4) (n4' : ¬ b4 = bs) (n5 : ¬ bs = b5) (n5' : ¬ b5 = bs) (m5 : ¬ b4 = b5) (m5' : ¬ b5 = b4) {v0 : VH} {R : V → Sto → Prop} {os l : List Oper} {a c b : Code}
  (h1 : Tryz.f40.body.bind (forC 25) = some (a, c, b)) (h2 : Tryz.f40.body.bind (regC 25) = some os) (h3 : os.drop 3 = l)
  (hR : R (zcw ⟨sz, st, ab, wi, PL, sh, M, []⟩ (zey ⟨sz, st, ab, wi, PL, sh, M, []⟩ (zan x (most + 1)).toNat (zag x) []).1).val [(bs, srcO (zey ⟨sz, st, ab, wi, PL, sh, M, []⟩ (zan x (most + 1)).toNat (zag x) []).2)]) :
  DS Tryz.prog 207 ⟨none, v0⟩ (FinV Tryz.prog [ResultVar.cell 4 26] R) [.ops os l, .code c, .code b]
   [(121, ptr bs), (123, I (most + 1)), (0, ptr bs), (4, ptr b4), (5, ptr b5)] [(bs, srcO x), (b5, .cells (zgz sz st ab wi PL sh (.own false 47 4 (M.map Member.cells)) (.v (.slice none 0 0))) 26), (b4, .cells zeb 26)] := by
 have h1 := Option.some.inj ((show Tryz.f40.body.bind (forC 25) = some _ from rfl).symm.trans h1)
 obtain ⟨rfl, rfl, rfl⟩ := Prod.mk.inj h1 |>.imp id Prod.mk.inj
 obtain rfl := Option.some.inj ((show Tryz.f40.body.bind (regC 25) = some _ from rfl).symm.trans h2)
 subst h3
 clear h1 h2
 simp only [zax, zay]
 have k1 := zbv x (most + 1)
 repeat' (first | (with_reducible first | refine zac yU yU yE ?_ | refine zab ?_ | refine DS.block ?_) | (refine zfd inferInstance (zef bs x (most + 1) (by omega)) yR yT yT ?_; (try simp only [zbn, zbs, ↓reduceIte, *])) | fail)
 obtain ⟨N, hN⟩ : ∃ N : Nat, (N : Int) = zan x (most + 1) := ⟨(zan x (most + 1)).toNat, by omega⟩
 have hNN : (zan x (most + 1)).toNat = N := by omega
 rw [hNN] at hR
 refine zcq [0, 4, 5] yN (fun (y : Nat × Int × Int × List Sitting × GR) => [(13, I y.2.1)]) (fun (y : Nat × Int × Int × List Sitting × GR) => (bs, srcO y.2.2.1) :: (b5, .cells (zgz sz st ab wi PL sh (.own false 47 4 (M.map Member.cells)) y.2.2.2.2.cell) 26) :: (b4, .cells zeb 26) :: SR 61 y.2.2.2.2) (fun (y : Nat × Int × Int × List Sitting × GR) => (y.2.1 ≤ y.1 ∧ (y.1 : Int) ≤ y.2.1) ∧ y.2.2.2.1.length + y.1 ≤ 3 ∧ SitI bs b4 b5 y.2.2.2.1 y.2.2.2.2 ∧ (∀ s ∈ y.2.2.2.1, MadeR sz 15 s) ∧ zey ⟨sz, st, ab, wi, PL, sh, M, []⟩ N (zag x) [] = zey ⟨sz, st, ab, wi, PL, sh, M, []⟩ y.1 y.2.2.1 y.2.2.2.1) (fun (y : Nat × Int × Int × List Sitting × GR) => y.1) (N, zan x (most + 1), zag x, [], ⟨[], none⟩) yS (fun b o e => by exact e) ⟨by dsimp only; omega, by dsimp only [List.length_nil]; omega, ⟨rfl, rfl, fun _ _ _ e => by cases e⟩, (fun s hs => by cases hs), rfl⟩ (fun y B hI hB => ?_); try dsimp only at hI hB; simp only [zas, zaw]
 obtain ⟨k, cnt, x1, Rs, g⟩ := y
 dsimp only at hI hB ⊢
 obtain ⟨g1, g2, g3, g4, g5⟩ := hI
 obtain ⟨l, blk⟩ := g
 obtain rfl : l = Rs.map Sitting.cells := g3.l
 have hsm : (zcw ⟨sz, st, ab, wi, PL, sh, M, []⟩ Rs).Small := ⟨by show PL.length ≤ _; omega, by show M.length ≤ _; omega, by show Rs.length ≤ _; omega, fun s hs => (g4 s hs).small (by omega) (by omega)⟩
 have hrd := ymh bs x1 (zcw ⟨sz, st, ab, wi, PL, sh, M, []⟩ Rs) hsm hsz hst
 have hmade := zqw ⟨sz, st, ab, wi, PL, sh, M, []⟩ x1 Rs 15 (by show 1 ≤ sz; omega) (by show M.length + 2 ≤ 15; omega) g4
 have hplen := hmade.plen
 have H := Box.mk (And.intro g3 (And.intro g4 (And.intro g5 (And.intro hR (And.intro hN (And.intro hmade hplen))))))
 clear g4 g5 hR hN hNN hmade hplen
 by_cases e0 : 0 < cnt
 ·have next : ∀ g', SitI bs b4 b5 (Rs ++ [⟨(zbc (zcw ⟨sz, st, ab, wi, PL, sh, M, []⟩ Rs) x1).1, (zcp (zcw ⟨sz, st, ab, wi, PL, sh, M, []⟩ Rs) x1).1, (zhs ⟨sz, st, ab, wi, PL, sh, M, []⟩ x1 Rs).1⟩]) g' → zey ⟨sz, st, ab, wi, PL, sh, M, []⟩ N (zag x) [] = zey ⟨sz, st, ab, wi, PL, sh, M, []⟩ (k - 1) (zhs ⟨sz, st, ab, wi, PL, sh, M, []⟩ x1 Rs).2 (Rs ++ [⟨(zbc (zcw ⟨sz, st, ab, wi, PL, sh, M, []⟩ Rs) x1).1, (zcp (zcw ⟨sz, st, ab, wi, PL, sh, M, []⟩ Rs) x1).1, (zhs ⟨sz, st, ab, wi, PL, sh, M, []⟩ x1 Rs).1⟩]) := fun g' _ => by
   obtain ⟨k', rfl⟩ : ∃ k', k = k' + 1 := ⟨k - 1, by omega⟩
   rw [H.out.2.2.1, zey]; rfl
  have hpsL : ∀ r, ((Rs.map Sitting.points ++ [(zcp (zcw ⟨sz, st, ab, wi, PL, sh, M, []⟩ Rs) x1).1]).getD r []).length ≤ 1000 := ybl (fun p hp => by
   rcases List.mem_append.1 hp with hp | hp
   ·obtain ⟨s, hs, rfl⟩ := List.mem_map.1 hp
    rw [(H.out.2.1 s hs).plen]; exact Nat.le_trans (H.out.2.1 s hs).len (by omega)
   ·obtain rfl := List.mem_singleton.1 hp
    have h1 := H.out.2.2.2.2.2.2
    have h2 := H.out.2.2.2.2.2.1.len
    dsimp only at h1 h2
    omega)
  cases blk with
  | none =>
   have hnil : Rs = [] := by
    have : Rs.map Sitting.cells = [] := g3.ok
    simpa using this
   simp only [GR.cell_none, SR]
   repeat' (first | (with_reducible first | refine zac yU yU yE ?_ | refine zab ?_ | refine DS.seq ?_ | refine zaa ?_ | (refine zbd yE ?_; refine zde ?_) | refine DS.block ?_ | refine DS.skip ?_) | fail)
   subst hnil
   refine DS.call (dst := some 131) [(bs, srcO x1)] [(b5, .cells (zgz sz st ab wi PL sh (.own false 47 4 (M.map Member.cells)) (.v (.slice none 0 0))) 26), (b4, .cells zeb 26)] inferInstance hrd yR yH (fun d o e => ?_) (fun d o e => ?_) (fun v S0 hR0 hdis => ?_)
   ·simp only [zae, zca] at e ⊢
    by_cases c0 : bs = d
    ·rw [if_pos c0] at e ⊢; exact e
    ·rw [if_neg c0] at e; cases e
   ·have c0 : ¬ bs = d := fun h => by subst h; simp only [zae, zca, n5', n4', ↓reduceIte] at e; cases e
    refine ⟨by rw [zae, if_neg c0]; exact e, by rw [zae, if_neg c0]; rfl⟩
   obtain ⟨bp, hbp, rfl, rfl⟩ := hR0
   have hn := hdis bp _ (by rw [zae, if_pos rfl])
   have d5 : ¬ b5 = bp := fun h => by rw [zae, if_pos h] at hn; cases hn
   have d4 : ¬ b4 = bp := fun h => by rw [zae, if_neg d5, zae, if_pos h] at hn; cases hn
   clear hn hdis
   have hpl := H.out.2.2.2.2.2.2
   dsimp only at hpl
   refine zdy (E' := [(131, .agg [rows (zbc (zcw ⟨sz, st, ab, wi, PL, sh, M, []⟩ []) x1).1, .v (.slice (some ⟨bp, 0, none⟩) (zcp (zcw ⟨sz, st, ab, wi, PL, sh, M, []⟩ []) x1).1.length (zcp (zcw ⟨sz, st, ab, wi, PL, sh, M, []⟩ []) x1).1.length), .v (.slice none 0 0)]), (13, I cnt), (0, ptr bs), (4, ptr b4), (5, ptr b5)]) (S' := (bp, .cells ((zcp (zcw ⟨sz, st, ab, wi, PL, sh, M, []⟩ []) x1).1.map ptC) 22) :: (bs, srcO (zcp (zcw ⟨sz, st, ab, wi, PL, sh, M, []⟩ []) x1).2) :: (b5, .cells (zgz sz st ab wi PL sh (.own false 47 4 (M.map Member.cells)) (GR.cell ⟨[], none⟩)) 26) :: (b4, .cells zeb 26) :: SR 61 ⟨[], none⟩) (zek (by rw [hpl]; simp (disch := omega) only [go_sem, ↓reduceIte, Nat.reduceEqDiff, zew, zfk, and_self, zas, zaw])) (fun d o e => ?_) ?_
   ·exact e
   refine zzy bs b4 b5 bp (zcp (zcw ⟨sz, st, ab, wi, PL, sh, M, []⟩ []) x1).2 sz st ab wi cnt sh PL M [] (zbc (zcw ⟨sz, st, ab, wi, PL, sh, M, []⟩ []) x1).1 (zcp (zcw ⟨sz, st, ab, wi, PL, sh, M, []⟩ []) x1).1 ⟨[], none⟩ hszB hsz hst hwi (by omega) hpsL g3 n4 n4' n5 n5' m5 m5' (fun h => hbp h.symm) hbp (fun h => d4 h) (fun h => d4 h.symm) (fun h => d5 h) (fun h => d5 h.symm) (fun _ _ _ e => by cases e) yR yR yR (fun g' hg' => ?_)
   have nx := next g' hg'
   have H4 := Box.mk (And.intro nx hg')
   clear nx hg' next hpl
   repeat' (first | (with_reducible first | refine zac yU yU yE ?_ | refine zab ?_ | refine zaa ?_ | refine DS.blk ?_) | fail)
   refine DS.back (hB (k - 1, cnt - 1, (zhs ⟨sz, st, ab, wi, PL, sh, M, []⟩ x1 []).2, [] ++ [(⟨(zbc (zcw ⟨sz, st, ab, wi, PL, sh, M, []⟩ []) x1).1, (zcp (zcw ⟨sz, st, ab, wi, PL, sh, M, []⟩ []) x1).1, (zhs ⟨sz, st, ab, wi, PL, sh, M, []⟩ x1 []).1⟩ : Sitting)], g') _ _ (by dsimp only; omega) ⟨by dsimp only; omega, by dsimp only; rw [List.length_append, List.length_singleton]; omega, H4.out.2, (fun s hs => ?_), H4.out.1⟩ yS yS (fun d o e => e))
   rcases List.mem_append.1 hs with hs | hs
   ·exact H.out.2.1 s hs
   ·obtain rfl := List.mem_singleton.1 hs
    exact H.out.2.2.2.2.2.1
  | some y =>
   obtain ⟨bb, cap, j⟩ := y
   have hb := g3.nb bb cap j rfl
   have o1 : ¬ bs = bb := fun h => hb.1 h.symm
   have o2 : ¬ b4 = bb := fun h => hb.2.1 h.symm
   have o3 : ¬ b5 = bb := fun h => hb.2.2.1 h.symm
   have hok : GR.At 61 3 (SR 61 ⟨Rs.map Sitting.cells, some (bb, cap, j)⟩) (Rs.map Sitting.cells) bb cap j := g3.ok
   have hle := hok.le
   rw [List.length_map] at hle
   have hcap := hok.cap
   have hjf := hok.jf
   have htk : ((Rs.map Sitting.cells).flatten ++ j).take (Rs.length * 3) = (Rs.map Sitting.cells).flatten := List.take_left' (zho Rs)
   have hsl := yma Rs
   have hrows := H.out.2.2.2.2.2.1.rows
   dsimp only at hrows
   have HH := Box.mk (And.intro htk (And.intro hle (And.intro hcap (And.intro hjf (And.intro hsl hrows)))))
   clear htk hle hcap hjf hsl hrows hok
   simp only [GR.cell_some, SR, List.length_map]
   repeat' (first | (with_reducible first | refine zac yU yU yE ?_ | refine zab ?_ | refine DS.seq ?_ | refine zaa ?_ | (refine zbd yE ?_; refine zde ?_) | refine DS.block ?_ | refine DS.skip ?_) | fail)
   obtain ⟨htk, hle, hcap, hjf, hsl, hrows⟩ := HH.out
   refine yqu (t := 131) (S1 := [(bs, srcO x1)]) (S2 := [(b5, .cells (zgz sz st ab wi PL sh (.own false 47 4 (M.map Member.cells)) (.v (.slice (some ⟨bb, 0, none⟩) Rs.length cap))) 26), (b4, .cells zeb 26)]) (x0 := ptr bs) (pre := [I sz, I st, I ab, I wi, ints PL, Bo sh, .lst (M.map Member.cells)]) (cs := (Rs.map Sitting.cells).flatten ++ j) (b := bb) (len := Rs.length) (cap := cap) (sz := 3) (T := 61) (cl := Rs.map Sitting.cells) (R := ztf bs x1 (zcw ⟨sz, st, ab, wi, PL, sh, M, []⟩ Rs)) inferInstance yR yH hrd (by simp only [zae, o1, o2, o3, ↓reduceIte])
    (fun v hv => (List.mem_append.1 hv).elim (zyb Rs v) (hjf v)) (by rw [List.length_map]) (fun c hc => by obtain ⟨s, _, rfl⟩ := List.mem_map.1 hc; rfl) (by rw [htk, zxz]) ⟨hle, hcap⟩ (fun d o e => ?_) (fun d o e => ?_) (fun v S' hv => ?_) (fun d c T' e v hv => ?_) (fun v S0 hR0 hdis => ?_)
   ·simp only [zae, zca, zbn, zbs, o1, o2, o3, ↓reduceIte] at e ⊢
    by_cases c0 : bs = d
    ·rw [if_pos c0] at e ⊢; exact e
    ·rw [if_neg c0] at e; cases e
   ·have c0 : ¬ bs = d := fun h => by subst h; simp only [zae, zca, n5', n4', ↓reduceIte] at e; cases e
    simp only [zbn, zbs, o1, o2, o3, ↓reduceIte]
    refine ⟨by rw [zae, if_neg c0]; exact e, by rw [zae, if_neg c0]; rfl⟩
   ·obtain ⟨bp, hbp, rfl, rfl⟩ := hv
    rw [htk]
    refine ⟨Safe.agg fun v hv => ?_, rfl, fun d c T' e v hv => ?_⟩
    ·simp only [List.mem_cons, List.not_mem_nil, or_false] at hv
     rcases hv with rfl | rfl | rfl
     ·exact Safe.rows hsl (fun r hr => by have := hrows r hr; omega)
     ·exact Safe.v _
     ·exact Safe.v _
    ·simp only [zae, zca] at e
     by_cases c0 : bp = d
     ·rw [if_pos c0] at e; cases e
      obtain ⟨p, _, rfl⟩ := List.mem_map.1 hv
      unfold ptC
      split
      ·exact Safe.v _
      ·exact Safe.ints (fun v hv => (hsl v hv).1) p
     rw [if_neg c0] at e
     by_cases c1 : bs = d
     ·rw [if_pos c1] at e; cases e
      obtain rfl := List.mem_singleton.1 hv
      exact Safe.v _
     ·rw [if_neg c1] at e; cases e
   ·rw [htk]
    simp only [zae, zca] at e
    by_cases c0 : b5 = d
    ·rw [if_pos c0] at e; cases e
     simp only [zgz, List.mem_cons, List.not_mem_nil, or_false] at hv
     rcases hv with rfl | rfl | rfl | rfl | rfl | rfl | rfl | rfl
     ·exact Safe.v _
     ·exact Safe.v _
     ·exact Safe.v _
     ·exact Safe.v _
     ·exact (Safe.ints (fun v hv => (hsl v hv).1) PL).own
     ·exact Safe.v _
     ·refine (Safe.nums (fun v hv => (hsl v hv).1) fun c hc v hv => ?_).own
      obtain ⟨m, _, rfl⟩ := List.mem_map.1 hc
      simp only [Member.cells, List.mem_cons, List.not_mem_nil, or_false] at hv
      rcases hv with rfl | rfl | rfl | rfl <;> exact ⟨_, rfl, fun _ _ _ h => by cases h⟩
     ·exact Safe.v _
    rw [if_neg c0] at e
    by_cases c1 : b4 = d
    ·rw [if_pos c1] at e; cases e
     simp only [zeb, List.mem_cons, List.not_mem_nil, or_false] at hv
     rcases hv with rfl | rfl | rfl | rfl | rfl | rfl | rfl | rfl <;> exact Safe.v _
    ·rw [if_neg c1] at e; cases e
   clear htk hle hcap hjf hsl hrows
   obtain ⟨bp, hbp, rfl, rfl⟩ := hR0
   obtain ⟨hn, hnb⟩ := hdis bp _ (by rw [zae, if_pos rfl])
   have d5 : ¬ b5 = bp := fun h => by rw [zae, if_pos h] at hn; cases hn
   have d4 : ¬ b4 = bp := fun h => by rw [zae, if_neg d5, zae, if_pos h] at hn; cases hn
   clear hn hdis
   have hpl := H.out.2.2.2.2.2.2
   dsimp only at hpl
   refine zdy (E' := [(131, .agg [rows (zbc (zcw ⟨sz, st, ab, wi, PL, sh, M, []⟩ Rs) x1).1, .v (.slice (some ⟨bp, 0, none⟩) (zcp (zcw ⟨sz, st, ab, wi, PL, sh, M, []⟩ Rs) x1).1.length (zcp (zcw ⟨sz, st, ab, wi, PL, sh, M, []⟩ Rs) x1).1.length), .v (.slice none 0 0)]), (13, I cnt), (0, ptr bs), (4, ptr b4), (5, ptr b5)]) (S' := (bp, .cells ((zcp (zcw ⟨sz, st, ab, wi, PL, sh, M, []⟩ Rs) x1).1.map ptC) 22) :: (bs, srcO (zcp (zcw ⟨sz, st, ab, wi, PL, sh, M, []⟩ Rs) x1).2) :: (b5, .cells (zgz sz st ab wi PL sh (.own false 47 4 (M.map Member.cells)) (GR.cell ⟨Rs.map Sitting.cells, some (bb, cap, j)⟩)) 26) :: (b4, .cells zeb 26) :: SR 61 ⟨Rs.map Sitting.cells, some (bb, cap, j)⟩) (zek (by rw [hpl]; simp (disch := omega) only [go_sem, ↓reduceIte, Nat.reduceEqDiff, zew, zfk, and_self, zas, zaw])) (fun d o e => ?_) ?_
   ·simp only [GR.cell_some, SR, List.length_map, zae, zca, zas, zaw] at e ⊢
    by_cases c0 : bb = d
    ·subst c0
     rw [if_pos rfl]
     rw [if_neg (fun h => hnb h), if_neg o1, if_neg o3, if_neg o2, if_pos rfl] at e
     exact e
    ·rw [if_neg c0]
     rw [if_neg c0] at e
     exact e
   refine zzy bs b4 b5 bp (zcp (zcw ⟨sz, st, ab, wi, PL, sh, M, []⟩ Rs) x1).2 sz st ab wi cnt sh PL M Rs (zbc (zcw ⟨sz, st, ab, wi, PL, sh, M, []⟩ Rs) x1).1 (zcp (zcw ⟨sz, st, ab, wi, PL, sh, M, []⟩ Rs) x1).1 ⟨Rs.map Sitting.cells, some (bb, cap, j)⟩ hszB hsz hst hwi (by omega) hpsL g3 n4 n4' n5 n5' m5 m5' (fun h => hbp h.symm) hbp (fun h => d4 h) (fun h => d4 h.symm) (fun h => d5 h) (fun h => d5 h.symm) (fun b' c' j' h => by cases h; exact fun h => hnb h.symm) yR yR yR (fun g' hg' => ?_)
   have nx := next g' hg'
   have H4 := Box.mk (And.intro nx hg')
   clear nx hg' next hpl
   repeat' (first | (with_reducible first | refine zac yU yU yE ?_ | refine zab ?_ | refine zaa ?_ | refine DS.blk ?_) | fail)
   refine DS.back (hB (k - 1, cnt - 1, (zhs ⟨sz, st, ab, wi, PL, sh, M, []⟩ x1 Rs).2, Rs ++ [(⟨(zbc (zcw ⟨sz, st, ab, wi, PL, sh, M, []⟩ Rs) x1).1, (zcp (zcw ⟨sz, st, ab, wi, PL, sh, M, []⟩ Rs) x1).1, (zhs ⟨sz, st, ab, wi, PL, sh, M, []⟩ x1 Rs).1⟩ : Sitting)], g') _ _ (by dsimp only; omega) ⟨by dsimp only; omega, by dsimp only; rw [List.length_append, List.length_singleton]; omega, H4.out.2, (fun s hs => ?_), H4.out.1⟩ yS yS (fun d o e => e))
   rcases List.mem_append.1 hs with hs | hs
   ·exact H.out.2.1 s hs
   ·obtain rfl := List.mem_singleton.1 hs
    exact H.out.2.2.2.2.2.1
 ·obtain rfl : k = 0 := by omega
  cases blk with
  | none =>
   have hnil : Rs = [] := by
    have : Rs.map Sitting.cells = [] := g3.ok
    simpa using this
   simp only [GR.cell_none, SR]
   repeat' (first | (with_reducible first | refine zac yU yU yE ?_ | refine zab ?_ | refine DS.seq ?_ | refine zaa ?_ | (refine zbd yE ?_; refine zdk ?_) | refine DS.exit yU ?_) | (refine DS.store yR yE yE yE yE yU (by exact ⟨by with_unfolding_all rfl, by (try simp only [List.length_map, List.length_append, List.length_set, List.length_replicate, List.length_cons, List.length_nil]); omega⟩) ?_; simp only [zbo, zav, zaz, zbz, zbl, zbj, zbk]; try simp only [zao, zaf, zah, Nat.reduceEqDiff, ↓reduceIte, zak, zal, zar, zaj, zai, zap, zam]) | fail)
   subst hnil
   simp only [zeb, List.map_cons, List.map_nil, zcr, zbp, zav, zaz, zcl, zby, setS, n4, m5', ↓reduceIte, Nat.reduceAdd, Nat.zero_add]
   have hRR := H.out.2.2.2.1
   rw [H.out.2.2.1, zey] at hRR
   refine znf [(bs, srcO x1)] (vs := [(zcw ⟨sz, st, ab, wi, PL, sh, M, []⟩ []).val]) yH (fun d o e => ?_) hRR
   simp only [zae, zca] at e ⊢
   by_cases c0 : bs = d
   ·rw [if_pos c0] at e ⊢; exact e
   ·rw [if_neg c0] at e; cases e
  | some y =>
   obtain ⟨bb, cap, j⟩ := y
   have hb := g3.nb bb cap j rfl
   have o1 : ¬ bs = bb := fun h => hb.1 h.symm
   have o2 : ¬ b4 = bb := fun h => hb.2.1 h.symm
   have o3 : ¬ b5 = bb := fun h => hb.2.2.1 h.symm
   have hok : GR.At 61 3 (SR 61 ⟨Rs.map Sitting.cells, some (bb, cap, j)⟩) (Rs.map Sitting.cells) bb cap j := g3.ok
   simp only [GR.cell_some, SR, List.length_map]
   refine zis (b := bb) (b' := b5) (i := 7) (sz := 3) (len := Rs.length) (cap := cap) (l' := zgz sz st ab wi PL sh (.own false 47 4 (M.map Member.cells)) (.v (.slice (some ⟨bb, 0, none⟩) Rs.length cap))) (l := (Rs.map Sitting.cells).flatten ++ j) (T := 61) (T' := 26) o3 (by simp only [zae, n5, ↓reduceIte]) yR (by simp only [zae, o1, o2, o3, ↓reduceIte]) (by rw [List.length_append, zho]; omega) ⟨by have := hok.le; rw [List.length_map] at this; exact this, hok.cap⟩ ?_
   have hch : chunk 3 Rs.length (((Rs.map Sitting.cells).flatten ++ j).map V.copy) = Rs.map Sitting.cells := by
    rw [List.map_append, zyc]
    have := zgw (sz := 3) (j := j.map V.copy) (l := Rs.map Sitting.cells) (fun c hc => by obtain ⟨s, _, rfl⟩ := List.mem_map.1 hc; rfl)
    rw [List.length_map] at this; exact this
   rw [hch]
   clear hch hok
   simp only [setS, zbn, zbs, o1, o2, o3, n5, ↓reduceIte, zcl, zby, zgz]
   repeat' (first | (with_reducible first | refine zac yU yU yE ?_ | refine zab ?_ | refine DS.seq ?_ | refine zaa ?_ | (refine zbd yE ?_; refine zdk ?_) | refine DS.exit yU ?_) | (refine DS.store yR yE yE yE yE yU (by exact ⟨by with_unfolding_all rfl, by (try simp only [List.length_map, List.length_append, List.length_set, List.length_replicate, List.length_cons, List.length_nil]); omega⟩) ?_; simp only [zbo, zav, zaz, zbz, zbl, zbj, zbk]; try simp only [zao, zaf, zah, Nat.reduceEqDiff, ↓reduceIte, zak, zal, zar, zaj, zai, zap, zam]) | fail)
   simp only [zeb, List.map_cons, List.map_nil, zcr, zbp, zav, zaz, zcl, zby, setS, n4, m5', ↓reduceIte, Nat.reduceAdd, Nat.zero_add]
   have hRR := H.out.2.2.2.1
   rw [H.out.2.2.1, zey] at hRR
   refine znf [(bs, srcO x1)] (vs := [(zcw ⟨sz, st, ab, wi, PL, sh, M, []⟩ Rs).val]) yH (fun d o e => ?_) hRR
   simp only [zae, zca] at e ⊢
   by_cases c0 : bs = d
   ·rw [if_pos c0] at e ⊢; exact e
   ·rw [if_neg c0] at e; cases e
end Go.XL
namespace Go.XL
open Go.Proofs
set_option maxRecDepth 100000
set_option maxHeartbeats 8000000
theorem yX33 {p : Prop} (h : p := by (simp (disch := omega) only [go_sem, dopV, yV0, ↓reduceIte, Nat.reduceEqDiff, Nat.reduceLT, Nat.reduceLeDiff, Nat.reduceAdd, Nat.reduceMul, Nat.reduceSub, Int.reduceToNat, Int.reduceLT, Int.reduceLE, Int.reduceEq, IntWalk.toNatUp, IntWalk.iteOmega, IntWalk.i64_in, V.flat, V.one, *, Value.oneCell']; try exact rfl)) : p := h
theorem yX34 {p : Prop} (h : p := by first | exact rfl | (simp (disch := omega) only [go_sem, dopV, yV0, ↓reduceIte, Nat.reduceEqDiff, Nat.reduceLT, Nat.reduceLeDiff, Nat.reduceAdd, Nat.reduceMul, Nat.reduceSub, Int.reduceToNat, Int.reduceLT, Int.reduceLE, Int.reduceEq, IntWalk.toNatUp, IntWalk.iteOmega, IntWalk.i64_in, V.flat, V.one, *, Value.oneCell']; exact rfl)) : p := h
theorem yX35 {p : Prop} (h : p := by (simp (disch := omega) only [go_sem, dopV, yV0, ↓reduceIte, Nat.reduceEqDiff, Nat.reduceLT, Nat.reduceLeDiff, Nat.reduceAdd, Nat.reduceMul, Nat.reduceSub, Int.reduceToNat, Int.reduceLT, Int.reduceLE, Int.reduceEq, IntWalk.toNatUp, IntWalk.iteOmega, IntWalk.i64_in, V.flat, V.one, *, Value.oneCell']; first | done | exact rfl)) : p := h
theorem zzx (bs b4 b5 : Nat) (x most sz st ab wi : Int) (sh : Bool) (P : List Int) (hm : 0 ≤ most ∧ most ≤ 3) (hszB : Box (∃ z : Nat, sz = z)) (hsz : 3 ≤ sz ∧ sz ≤ 4) (hst : 0 ≤ st ∧ st ≤ 1000000) (hwi : 0 ≤ wi ∧ wi ≤ 2) (hPL : P.length ≤ 4) (n4 : ¬ bs = b4) (n4' : ¬ b4 = bs) (n5 : ¬ bs = b5) (n5' : ¬ b5 = bs) (m5 : ¬ b4 = b5) (m5' : ¬ b5 = b4) {v0 : VH} {R : V → Sto → Prop} {a c b : Code}
  (h1 : Tryz.f40.body.bind (forC 14) = some (a, c, b))
  (hR : R (zcw ⟨sz, st, ab, wi, P, sh, (zdf (sz * zcy x 1 3 + zan (zag x) 2).toNat 0 (zag (zag x)) []).1, []⟩ (zey ⟨sz, st, ab, wi, P, sh, (zdf (sz * zcy x 1 3 + zan (zag x) 2).toNat 0 (zag (zag x)) []).1, []⟩ (zan (zdf (sz * zcy x 1 3 + zan (zag x) 2).toNat 0 (zag (zag x)) []).2 (most + 1)).toNat (zag (zdf (sz * zcy x 1 3 + zan (zag x) 2).toNat 0 (zag (zag x)) []).2) []).1).val [(bs, srcO (zey ⟨sz, st, ab, wi, P, sh, (zdf (sz * zcy x 1 3 + zan (zag x) 2).toNat 0 (zag (zag x)) []).1, []⟩ (zan (zdf (sz * zcy x 1 3 + zan (zag x) 2).toNat 0 (zag (zag x)) []).2 (most + 1)).toNat (zag (zdf (sz * zcy x 1 3 + zan (zag x) 2).toNat 0 (zag (zag x)) []).2) []).2)]) :
  DS Tryz.prog 207 ⟨none, v0⟩ (FinV Tryz.prog [ResultVar.cell 4 26] R) [.code a, .code c, .code b]
   [(10, I 0), (0, ptr bs), (1, I most), (4, ptr b4), (5, ptr b5)] [(bs, srcO x), (b5, .cells (zgz sz st ab wi P sh (.v (.slice none 0 0)) (.v (.slice none 0 0))) 26), (b4, .cells zeb 26)] := by
 have h1 := Option.some.inj ((show Tryz.f40.body.bind (forC 14) = some _ from rfl).symm.trans h1)
 obtain ⟨rfl, rfl, rfl⟩ := Prod.mk.inj h1 |>.imp id Prod.mk.inj
 clear h1
 have HR := Box.mk hR
 clear hR
 have k1 := zbv x 3
 have k2 := zbv (zag x) 2
 have km : 3 ≤ sz * zcy x 1 3 ∧ sz * zcy x 1 3 ≤ 12 := by
  have kr : zcy x 1 3 = 1 + zan x 3 := rfl
  rw [kr]
  rcases (by omega : sz = 3 ∨ sz = 4) with rfl | rfl <;> omega
 (refine zkp (id := 14) (bs := bs) (x := x) (by simp only [zae, zca, ↓reduceIte, *]) [0, 1, 2, 3, 4, 5, 6] 7 (by kernel_rfl) zdq (by simp only [zbb, zbe, zbf, zbg, zba]; exact rfl) (by simp only [zax, zay, List.drop_nil]; exact rfl) ?_; simp only [zbn, zbs, ↓reduceIte, *])
 repeat' (first | (with_reducible first | refine zac yU yU yE ?_ | refine zab ?_ | refine DS.block ?_ | refine zbw yU yU yU yE ?_ | refine zks yU yU yU yU yE ?_) | (with_reducible refine DD.nil ?_; simp only [zas, zaw]) | (refine zoz inferInstance (ydg bs x 1 3 (by omega)) yU yF yF ?_; simp only [zcc, zcm, Nat.reduceEqDiff, ↓reduceIte]; (try simp only [zbn, zbs, ↓reduceIte, *])) | (refine zoz inferInstance (zef bs (zag x) 2 (by omega)) yU yF yF ?_; simp only [zcc, zcm, Nat.reduceEqDiff, ↓reduceIte]; (try simp only [zbn, zbs, ↓reduceIte, *])) | fail)
 refine yao (b := b5) (off := 6) (e := 47) (sz := 4) (cl := zgz sz st ab wi P sh (.v (.slice none 0 0)) (.v (.slice none 0 0))) (T' := 26) (by simp only [zae, zca, n5, ↓reduceIte]) yR ?_
 simp only [zgz, setS, n5, ↓reduceIte, zcl, zby]
 obtain ⟨N, hN⟩ : ∃ N : Nat, (N : Int) = sz * zcy x 1 3 + zan (zag x) 2 := ⟨(sz * zcy x 1 3 + zan (zag x) 2).toNat, by omega⟩
 have hNb : N ≤ 13 := by omega
 refine zcq [0, 1, 4, 5] yN (fun (y : Nat × Int × Int × Int × List Member) => [(10, I y.2.2.1), (11, I y.2.1)]) (fun (y : Nat × Int × Int × Int × List Member) => [(bs, srcO y.2.2.2.1), (b5, .cells [I sz, I st, I ab, I wi, .own false 3 1 (P.map cI), Bo sh, .own false 47 4 (y.2.2.2.2.map Member.cells), .v (.slice none 0 0)] 26), (b4, .cells zeb 26)]) (fun (y : Nat × Int × Int × Int × List Member) => (y.2.1 ≤ y.1 ∧ (y.1 : Int) ≤ y.2.1) ∧ (0 ≤ y.2.2.1 ∧ y.2.2.1 + 3 * y.1 ≤ 39) ∧ y.2.2.2.2.length + y.1 ≤ 13 ∧ zdf N 0 (zag (zag x)) [] = zdf y.1 y.2.2.1 y.2.2.2.1 y.2.2.2.2) (fun (y : Nat × Int × Int × Int × List Member) => y.1) (N, sz * zcy x 1 3 + zan (zag x) 2, 0, zag (zag x), []) yS (fun b o e => by exact e) ⟨by dsimp only; omega, by dsimp only; omega, by simp; omega, rfl⟩ (fun y B hI hB => ?_); try dsimp only at hI hB; simp only [zas, zaw]
 obtain ⟨k, cnt, id, x1, out⟩ := y
 dsimp only at hI hB ⊢
 obtain ⟨g0, g1, g2, g3⟩ := hI
 have H := Box.mk (And.intro g3 hN)
 clear g3 hN
 have k3 := zbv x1 3
 have kr : 1 ≤ zcy x1 1 3 ∧ zcy x1 1 3 ≤ 3 := by
  have : zcy x1 1 3 = 1 + zan x1 3 := rfl
  omega
 repeat' (first | (with_reducible first | refine zac yU yU yX8 ?_ | refine zab ?_ | refine DS.seq ?_ | refine zaa ?_ | (refine zbd yX8 ?_; refine zel (fun _ => ?_) (fun _ => ?_)) | refine DS.block ?_ | refine DS.exit yU ?_ | refine DS.skip ?_) | (refine zfd inferInstance (ydg bs x1 1 3 (by omega)) yR yX33 yX33 ?_; (try simp only [zbn, zbs, ↓reduceIte, *])) | fail)
 ·refine zeh yR yU yU (fun b12 h12 => ?_)
  have q1 : ¬ bs = b12 := fun e => by simp only [zae, e, ↓reduceIte] at h12; first | (cases h12; done) | (split at h12 <;> cases h12)
  have q2 : ¬ b5 = b12 := fun e => by simp only [zae, e, ↓reduceIte] at h12; first | (cases h12; done) | (split at h12 <;> cases h12)
  have q3 : ¬ b4 = b12 := fun e => by simp only [zae, e, ↓reduceIte] at h12; first | (cases h12; done) | (split at h12 <;> cases h12; done) | (split at h12; cases h12; split at h12 <;> cases h12)
  have q1' : ¬ b12 = bs := fun e => q1 e.symm
  have q2' : ¬ b12 = b5 := fun e => q2 e.symm
  have q3' : ¬ b12 = b4 := fun e => q3 e.symm
  clear h12
  have f1 := zbv (zag (zag x1)) 21
  have f2 := zbv (zag (zag (zag x1))) 3
  have f3 := zbv (zag (zag (zag (zag x1)))) 3
  have f4 := zbv (zag (zag (zag (zag x1)))) 2
  have f5 := zbv (zag (zag (zag (zag (zag x1))))) 2
  repeat' (first | (with_reducible refine ziq (t := 116) yU yX8 yX8 yX8 yX8 ?_; simp only [zby, zcl]) | (with_reducible first | refine zac yU yU yX8 ?_ | refine zab ?_ | refine DS.seq ?_ | refine zaa ?_ | (refine zbd yX8 ?_; refine yha (fun _ => ?_) (fun _ => ?_)) | refine DS.blk ?_ | refine DS.skip ?_) | (refine zfg yU yX8 yX8 ?_; simp only [go_sem, Nat.zero_add, Nat.reduceAdd]) | (refine DS.append (mm := false) yU yX8 yX8 yU (by decide) yX8 (by first | exact .inl rfl | exact .inr ⟨rfl, rfl⟩) yX8 yX34 (by first | exact zat zdt _ | exact zat zeq _ | exact zat Member.len _ | exact zat Sitting.len _ | exact zat Ruling.len _ | (simp only [List.mem_cons, List.not_mem_nil, or_false, forall_eq]; rfl) | simp) ⟨by (try simp only [List.length_map, List.length_cons, List.length_nil, List.length_append, List.length_take, List.length_drop]); omega, by decide⟩ ?_; simp only [zao, zaf, zah, Nat.reduceEqDiff, ↓reduceIte, zak, zal, zar, zaj, zai, zap, zam]) | (refine zfd inferInstance (zmw bs (zag x1) 4 (by omega)) yR yX35 yX35 ?_; (try simp only [zbn, zbs, ↓reduceIte, *])) | (refine zfd inferInstance (zef bs (zag (zag x1)) 21 (by omega)) yR yX35 yX35 ?_; (try simp only [zbn, zbs, ↓reduceIte, *])) | (refine zfd inferInstance (zmw bs (zag (zag (zag x1))) 9 (by omega)) yR yX35 yX35 ?_; (try simp only [zbn, zbs, ↓reduceIte, *])) | (refine zfd inferInstance (zmw bs (zag (zag x1)) 9 (by omega)) yR yX35 yX35 ?_; (try simp only [zbn, zbs, ↓reduceIte, *])) | (refine zfd inferInstance (zef bs (zag (zag (zag (zag x1)))) 3 (by omega)) yR yX35 yX35 ?_; (try simp only [zbn, zbs, ↓reduceIte, *])) | (refine zfd inferInstance (zef bs (zag (zag (zag x1))) 3 (by omega)) yR yX35 yX35 ?_; (try simp only [zbn, zbs, ↓reduceIte, *])) | (refine DS.store yR yX8 yX8 yX8 yX8 yU (by exact ⟨by with_unfolding_all rfl, by (try simp only [List.length_map, List.length_append, List.length_set, List.length_replicate, List.length_cons, List.length_nil]); omega⟩) ?_; simp only [zbo, zav, zaz, zbz, zbl, zbj, zbk]; try simp only [zao, zaf, zah, Nat.reduceEqDiff, ↓reduceIte, zak, zal, zar, zaj, zai, zap, zam]) | fail)
  ·rename_i eA eB eC
   simp only [setS, zbn, zbs, ↓reduceIte, zcl, zby, n5, n5', n4, n4', m5, m5', q1, q1', q2, q2', q3, q3']
   (refine zkp (id := 23) (bs := bs) (x := zag (zag (zag (zag (zag x1))))) (by simp only [zae, zca, ↓reduceIte, *]) [0, 1, 2, 3] 4 (by kernel_rfl) zdq (by simp only [zbb, zbe, zbf, zbg, zba]; exact rfl) (by simp only [zax, zay, List.drop_nil]; exact rfl) ?_; simp only [zbn, zbs, ↓reduceIte, *])
   repeat' (first | (with_reducible refine ziq (t := 116) yU yX8 yX8 yX8 yX8 ?_; simp only [zby, zcl]) | (with_reducible first | refine zac yU yU yX8 ?_ | refine zab ?_ | refine zaa ?_ | refine DS.blk ?_) | (refine zfg yU yX8 yX8 ?_; simp only [go_sem, Nat.zero_add, Nat.reduceAdd]) | (refine DS.append (mm := false) yU yX8 yX8 yU (by decide) yX8 (by first | exact .inl rfl | exact .inr ⟨rfl, rfl⟩) yX8 yX34 (by first | exact zat zdt _ | exact zat zeq _ | exact zat Member.len _ | exact zat Sitting.len _ | exact zat Ruling.len _ | (simp only [List.mem_cons, List.not_mem_nil, or_false, forall_eq]; rfl) | simp) ⟨by (try simp only [List.length_map, List.length_cons, List.length_nil, List.length_append, List.length_take, List.length_drop]); omega, by decide⟩ ?_; simp only [zao, zaf, zah, Nat.reduceEqDiff, ↓reduceIte, zak, zal, zar, zaj, zai, zap, zam]) | (refine DS.store yR yX8 yX8 yX8 yX8 yU (by exact ⟨by with_unfolding_all rfl, by (try simp only [List.length_map, List.length_append, List.length_set, List.length_replicate, List.length_cons, List.length_nil]); omega⟩) ?_; simp only [zbo, zav, zaz, zbz, zbl, zbj, zbk]; try simp only [zao, zaf, zah, Nat.reduceEqDiff, ↓reduceIte, zak, zal, zar, zaj, zai, zap, zam]) | with_reducible refine zbw yU yU yU yX8 ?_ | (with_reducible refine DD.nil ?_; simp only [zas, zaw]) | (refine zoz inferInstance (zef bs (zag (zag (zag (zag (zag x1))))) 2 (by omega)) yU yX33 yX33 ?_; simp only [zcc, zcm, Nat.reduceEqDiff, ↓reduceIte]; (try simp only [zbn, zbs, ↓reduceIte, *])) | fail)
   have hk : zdf k id x1 out = zdf (k - 1) (id + zcy x1 1 3) (zag (zag (zag (zag (zag (zag x1)))))) (out ++ [⟨id + zcy x1 1 3, zan (zag (zag x1)) 21 - 10, zan (zag (zag (zag (zag x1)))) 3, zan (zag (zag (zag (zag x1)))) 3 + zan (zag (zag (zag (zag (zag x1))))) 2⟩]) := by
    obtain ⟨k', rfl⟩ : ∃ k', k = k' + 1 := ⟨k - 1, by omega⟩
    rw [zdf]; simp [zii, zlb, eB, eC]
   refine DS.back (hB (k - 1, cnt - 1, id + zcy x1 1 3, zag (zag (zag (zag (zag (zag x1))))), out ++ [⟨id + zcy x1 1 3, zan (zag (zag x1)) 21 - 10, zan (zag (zag (zag (zag x1)))) 3, zan (zag (zag (zag (zag x1)))) 3 + zan (zag (zag (zag (zag (zag x1))))) 2⟩]) _ _ (by dsimp only; omega) ⟨by dsimp only; omega, by dsimp only; omega, by simp; omega, H.out.1.trans hk⟩ yS yS (fun b o e => ?_))
   dsimp only at e
   rw [List.map_append, List.map_singleton, Member.cells] at e
   simp only [setS, zbn, zbs, ↓reduceIte, zcl, zby, n5, n5', n4, n4', m5, m5', q1, q1', q2, q2', q3, q3']
   simp only [zae, zca] at e ⊢
   by_cases hb : bs = b
   ·subst hb; simp only [n5', n4', q1', ↓reduceIte] at e ⊢; exact e
   by_cases hb2 : b5 = b
   ·subst hb2; simp only [n5, m5, q2', ↓reduceIte] at e ⊢; exact e
   by_cases hb3 : b4 = b
   ·subst hb3; simp only [n4, m5', q3', hb, hb2, ↓reduceIte] at e ⊢; exact e
   ·simp only [hb, hb2, hb3, ↓reduceIte] at e; cases e
  ·rename_i eA eB eC
   have hk : zdf k id x1 out = zdf (k - 1) (id + zcy x1 1 3) (zag (zag (zag (zag x1)))) (out ++ [⟨id + zcy x1 1 3, zan (zag (zag x1)) 21 - 10, 0, -1⟩]) := by
    obtain ⟨k', rfl⟩ : ∃ k', k = k' + 1 := ⟨k - 1, by omega⟩
    rw [zdf]; simp [zii, zlb, eB, eC]
   refine DS.back (hB (k - 1, cnt - 1, id + zcy x1 1 3, zag (zag (zag (zag x1))), out ++ [⟨id + zcy x1 1 3, zan (zag (zag x1)) 21 - 10, 0, -1⟩]) _ _ (by dsimp only; omega) ⟨by dsimp only; omega, by dsimp only; omega, by simp; omega, H.out.1.trans hk⟩ yS yS (fun b o e => ?_))
   dsimp only at e
   rw [List.map_append, List.map_singleton, Member.cells] at e
   simp only [setS, zbn, zbs, ↓reduceIte, zcl, zby, n5, n5', n4, n4', m5, m5', q1, q1', q2, q2', q3, q3']
   simp only [zae, zca] at e ⊢
   by_cases hb : bs = b
   ·subst hb; simp only [n5', n4', q1', ↓reduceIte] at e ⊢; exact e
   by_cases hb2 : b5 = b
   ·subst hb2; simp only [n5, m5, q2', ↓reduceIte] at e ⊢; exact e
   by_cases hb3 : b4 = b
   ·subst hb3; simp only [n4, m5', q3', hb, hb2, ↓reduceIte] at e ⊢; exact e
   ·simp only [hb, hb2, hb3, ↓reduceIte] at e; cases e
  ·rename_i eA eB eC
   simp only [setS, zbn, zbs, ↓reduceIte, zcl, zby, n5, n5', n4, n4', m5, m5', q1, q1', q2, q2', q3, q3']
   (refine zkp (id := 23) (bs := bs) (x := zag (zag (zag (zag x1)))) (by simp only [zae, zca, ↓reduceIte, *]) [0, 1, 2, 3] 4 (by kernel_rfl) zdq (by simp only [zbb, zbe, zbf, zbg, zba]; exact rfl) (by simp only [zax, zay, List.drop_nil]; exact rfl) ?_; simp only [zbn, zbs, ↓reduceIte, *])
   repeat' (first | (with_reducible refine ziq (t := 116) yU yX8 yX8 yX8 yX8 ?_; simp only [zby, zcl]) | (with_reducible first | refine zac yU yU yX8 ?_ | refine zab ?_ | refine zaa ?_ | refine DS.blk ?_) | (refine zfg yU yX8 yX8 ?_; simp only [go_sem, Nat.zero_add, Nat.reduceAdd]) | (refine DS.append (mm := false) yU yX8 yX8 yU (by decide) yX8 (by first | exact .inl rfl | exact .inr ⟨rfl, rfl⟩) yX8 yX34 (by first | exact zat zdt _ | exact zat zeq _ | exact zat Member.len _ | exact zat Sitting.len _ | exact zat Ruling.len _ | (simp only [List.mem_cons, List.not_mem_nil, or_false, forall_eq]; rfl) | simp) ⟨by (try simp only [List.length_map, List.length_cons, List.length_nil, List.length_append, List.length_take, List.length_drop]); omega, by decide⟩ ?_; simp only [zao, zaf, zah, Nat.reduceEqDiff, ↓reduceIte, zak, zal, zar, zaj, zai, zap, zam]) | (refine DS.store yR yX8 yX8 yX8 yX8 yU (by exact ⟨by with_unfolding_all rfl, by (try simp only [List.length_map, List.length_append, List.length_set, List.length_replicate, List.length_cons, List.length_nil]); omega⟩) ?_; simp only [zbo, zav, zaz, zbz, zbl, zbj, zbk]; try simp only [zao, zaf, zah, Nat.reduceEqDiff, ↓reduceIte, zak, zal, zar, zaj, zai, zap, zam]) | with_reducible refine zbw yU yU yU yX8 ?_ | (with_reducible refine DD.nil ?_; simp only [zas, zaw]) | (refine zoz inferInstance (zef bs (zag (zag (zag (zag x1)))) 2 (by omega)) yU yX33 yX33 ?_; simp only [zcc, zcm, Nat.reduceEqDiff, ↓reduceIte]; (try simp only [zbn, zbs, ↓reduceIte, *])) | fail)
   have hk : zdf k id x1 out = zdf (k - 1) (id + zcy x1 1 3) (zag (zag (zag (zag (zag x1))))) (out ++ [⟨id + zcy x1 1 3, 0, zan (zag (zag (zag x1))) 3, zan (zag (zag (zag x1))) 3 + zan (zag (zag (zag (zag x1)))) 2⟩]) := by
    obtain ⟨k', rfl⟩ : ∃ k', k = k' + 1 := ⟨k - 1, by omega⟩
    rw [zdf]; simp [zii, zlb, eB, eC]
   refine DS.back (hB (k - 1, cnt - 1, id + zcy x1 1 3, zag (zag (zag (zag (zag x1)))), out ++ [⟨id + zcy x1 1 3, 0, zan (zag (zag (zag x1))) 3, zan (zag (zag (zag x1))) 3 + zan (zag (zag (zag (zag x1)))) 2⟩]) _ _ (by dsimp only; omega) ⟨by dsimp only; omega, by dsimp only; omega, by simp; omega, H.out.1.trans hk⟩ yS yS (fun b o e => ?_))
   dsimp only at e
   rw [List.map_append, List.map_singleton, Member.cells] at e
   simp only [setS, zbn, zbs, ↓reduceIte, zcl, zby, n5, n5', n4, n4', m5, m5', q1, q1', q2, q2', q3, q3']
   simp only [zae, zca] at e ⊢
   by_cases hb : bs = b
   ·subst hb; simp only [n5', n4', q1', ↓reduceIte] at e ⊢; exact e
   by_cases hb2 : b5 = b
   ·subst hb2; simp only [n5, m5, q2', ↓reduceIte] at e ⊢; exact e
   by_cases hb3 : b4 = b
   ·subst hb3; simp only [n4, m5', q3', hb, hb2, ↓reduceIte] at e ⊢; exact e
   ·simp only [hb, hb2, hb3, ↓reduceIte] at e; cases e
  ·rename_i eA eB eC
   have hk : zdf k id x1 out = zdf (k - 1) (id + zcy x1 1 3) (zag (zag (zag x1))) (out ++ [⟨id + zcy x1 1 3, 0, 0, -1⟩]) := by
    obtain ⟨k', rfl⟩ : ∃ k', k = k' + 1 := ⟨k - 1, by omega⟩
    rw [zdf]; simp [zii, zlb, eB, eC]
   refine DS.back (hB (k - 1, cnt - 1, id + zcy x1 1 3, zag (zag (zag x1)), out ++ [⟨id + zcy x1 1 3, 0, 0, -1⟩]) _ _ (by dsimp only; omega) ⟨by dsimp only; omega, by dsimp only; omega, by simp; omega, H.out.1.trans hk⟩ yS yS (fun b o e => ?_))
   dsimp only at e
   rw [List.map_append, List.map_singleton, Member.cells] at e
   simp only [setS, zbn, zbs, ↓reduceIte, zcl, zby, n5, n5', n4, n4', m5, m5', q1, q1', q2, q2', q3, q3']
   simp only [zae, zca] at e ⊢
   by_cases hb : bs = b
   ·subst hb; simp only [n5', n4', q1', ↓reduceIte] at e ⊢; exact e
   by_cases hb2 : b5 = b
   ·subst hb2; simp only [n5, m5, q2', ↓reduceIte] at e ⊢; exact e
   by_cases hb3 : b4 = b
   ·subst hb3; simp only [n4, m5', q3', hb, hb2, ↓reduceIte] at e ⊢; exact e
   ·simp only [hb, hb2, hb3, ↓reduceIte] at e; cases e
 ·have hR := HR.out
  have hNN : (sz * zcy x 1 3 + zan (zag x) 2).toNat = N := by have := H.out.2; omega
  obtain rfl : k = 0 := by omega
  rw [hNN, H.out.1, zdf] at hR
  refine zdy (E' := [(121, ptr bs), (123, I (most + 1)), (0, ptr bs), (4, ptr b4), (5, ptr b5)]) (S' := [(bs, srcO x1), (b5, .cells (zgz sz st ab wi P sh (.own false 47 4 (out.map Member.cells)) (.v (.slice none 0 0))) 26), (b4, .cells zeb 26)]) (zek (by simp (disch := omega) only [go_sem, ↓reduceIte, Nat.reduceEqDiff, zew, zfk, and_self, zas, zaw])) (fun _ _ e => e) ?_
  exact ybv bs b4 b5 x1 most sz st ab wi sh P out hm hszB hsz hst hwi (by omega) hPL n4 n4' n5 n5' m5 m5' yR yR yR hR
end Go.XL
namespace Go.XL
open Go.Proofs
set_option maxRecDepth 100000
set_option maxHeartbeats 8000000
theorem zsr (bs b4 b5 : Nat) (x most sz st ab wi : Int) (sh : Bool) (hm : 0 ≤ most ∧ most ≤ 3) (hszB : Box (∃ z : Nat, sz = z)) (hsz : 3 ≤ sz ∧ sz ≤ 4) (hst : 0 ≤ st ∧ st ≤ 1000000) (hwi : 0 ≤ wi ∧ wi ≤ 2) (n4 : ¬ bs = b4) (n4' : ¬ b4 = bs) (n5 : ¬ bs = b5) (n5' : ¬ b5 = bs) (m5 : ¬ b4 = b5) (m5' : ¬ b5 = b4) {v0 : VH} {R : V → Sto → Prop} {os l : List Oper} {cd : Code}
  (h1 : Tryz.f40.body.bind (regC 4) = some os) (h2 : os.drop 1 = l) (h3 : Tryz.f40.body.bind (zkc 4) = some cd)
  (hR : R (zcw ⟨sz, st, ab, wi, ((zds (zan x 5 * 10) (sz - 2).toNat 1 (zag (zag x)) [zan x 5 * 10 + zan (zag x) 2] (zan x 5 * 10 + zan (zag x) 2)).1 ++ [-(zds (zan x 5 * 10) (sz - 2).toNat 1 (zag (zag x)) [zan x 5 * 10 + zan (zag x) 2] (zan x 5 * 10 + zan (zag x) 2)).2.1]), sh, (zdf (sz * zcy ((zds (zan x 5 * 10) (sz - 2).toNat 1 (zag (zag x)) [zan x 5 * 10 + zan (zag x) 2] (zan x 5 * 10 + zan (zag x) 2)).2.2) 1 3 + zan (zag ((zds (zan x 5 * 10) (sz - 2).toNat 1 (zag (zag x)) [zan x 5 * 10 + zan (zag x) 2] (zan x 5 * 10 + zan (zag x) 2)).2.2)) 2).toNat 0 (zag (zag ((zds (zan x 5 * 10) (sz - 2).toNat 1 (zag (zag x)) [zan x 5 * 10 + zan (zag x) 2] (zan x 5 * 10 + zan (zag x) 2)).2.2))) []).1, []⟩ (zey ⟨sz, st, ab, wi, ((zds (zan x 5 * 10) (sz - 2).toNat 1 (zag (zag x)) [zan x 5 * 10 + zan (zag x) 2] (zan x 5 * 10 + zan (zag x) 2)).1 ++ [-(zds (zan x 5 * 10) (sz - 2).toNat 1 (zag (zag x)) [zan x 5 * 10 + zan (zag x) 2] (zan x 5 * 10 + zan (zag x) 2)).2.1]), sh, (zdf (sz * zcy ((zds (zan x 5 * 10) (sz - 2).toNat 1 (zag (zag x)) [zan x 5 * 10 + zan (zag x) 2] (zan x 5 * 10 + zan (zag x) 2)).2.2) 1 3 + zan (zag ((zds (zan x 5 * 10) (sz - 2).toNat 1 (zag (zag x)) [zan x 5 * 10 + zan (zag x) 2] (zan x 5 * 10 + zan (zag x) 2)).2.2)) 2).toNat 0 (zag (zag ((zds (zan x 5 * 10) (sz - 2).toNat 1 (zag (zag x)) [zan x 5 * 10 + zan (zag x) 2] (zan x 5 * 10 + zan (zag x) 2)).2.2))) []).1, []⟩ (zan (zdf (sz * zcy ((zds (zan x 5 * 10) (sz - 2).toNat 1 (zag (zag x)) [zan x 5 * 10 + zan (zag x) 2] (zan x 5 * 10 + zan (zag x) 2)).2.2) 1 3 + zan (zag ((zds (zan x 5 * 10) (sz - 2).toNat 1 (zag (zag x)) [zan x 5 * 10 + zan (zag x) 2] (zan x 5 * 10 + zan (zag x) 2)).2.2)) 2).toNat 0 (zag (zag ((zds (zan x 5 * 10) (sz - 2).toNat 1 (zag (zag x)) [zan x 5 * 10 + zan (zag x) 2] (zan x 5 * 10 + zan (zag x) 2)).2.2))) []).2 (most + 1)).toNat (zag (zdf (sz * zcy ((zds (zan x 5 * 10) (sz - 2).toNat 1 (zag (zag x)) [zan x 5 * 10 + zan (zag x) 2] (zan x 5 * 10 + zan (zag x) 2)).2.2) 1 3 + zan (zag ((zds (zan x 5 * 10) (sz - 2).toNat 1 (zag (zag x)) [zan x 5 * 10 + zan (zag x) 2] (zan x 5 * 10 + zan (zag x) 2)).2.2)) 2).toNat 0 (zag (zag ((zds (zan x 5 * 10) (sz - 2).toNat 1 (zag (zag x)) [zan x 5 * 10 + zan (zag x) 2] (zan x 5 * 10 + zan (zag x) 2)).2.2))) []).2) []).1).val [(bs, srcO (zey ⟨sz, st, ab, wi, ((zds (zan x 5 * 10) (sz - 2).toNat 1 (zag (zag x)) [zan x 5 * 10 + zan (zag x) 2] (zan x 5 * 10 + zan (zag x) 2)).1 ++ [-(zds (zan x 5 * 10) (sz - 2).toNat 1 (zag (zag x)) [zan x 5 * 10 + zan (zag x) 2] (zan x 5 * 10 + zan (zag x) 2)).2.1]), sh, (zdf (sz * zcy ((zds (zan x 5 * 10) (sz - 2).toNat 1 (zag (zag x)) [zan x 5 * 10 + zan (zag x) 2] (zan x 5 * 10 + zan (zag x) 2)).2.2) 1 3 + zan (zag ((zds (zan x 5 * 10) (sz - 2).toNat 1 (zag (zag x)) [zan x 5 * 10 + zan (zag x) 2] (zan x 5 * 10 + zan (zag x) 2)).2.2)) 2).toNat 0 (zag (zag ((zds (zan x 5 * 10) (sz - 2).toNat 1 (zag (zag x)) [zan x 5 * 10 + zan (zag x) 2] (zan x 5 * 10 + zan (zag x) 2)).2.2))) []).1, []⟩ (zan (zdf (sz * zcy ((zds (zan x 5 * 10) (sz - 2).toNat 1 (zag (zag x)) [zan x 5 * 10 + zan (zag x) 2] (zan x 5 * 10 + zan (zag x) 2)).2.2) 1 3 + zan (zag ((zds (zan x 5 * 10) (sz - 2).toNat 1 (zag (zag x)) [zan x 5 * 10 + zan (zag x) 2] (zan x 5 * 10 + zan (zag x) 2)).2.2)) 2).toNat 0 (zag (zag ((zds (zan x 5 * 10) (sz - 2).toNat 1 (zag (zag x)) [zan x 5 * 10 + zan (zag x) 2] (zan x 5 * 10 + zan (zag x) 2)).2.2))) []).2 (most + 1)).toNat (zag (zdf (sz * zcy ((zds (zan x 5 * 10) (sz - 2).toNat 1 (zag (zag x)) [zan x 5 * 10 + zan (zag x) 2] (zan x 5 * 10 + zan (zag x) 2)).2.2) 1 3 + zan (zag ((zds (zan x 5 * 10) (sz - 2).toNat 1 (zag (zag x)) [zan x 5 * 10 + zan (zag x) 2] (zan x 5 * 10 + zan (zag x) 2)).2.2)) 2).toNat 0 (zag (zag ((zds (zan x 5 * 10) (sz - 2).toNat 1 (zag (zag x)) [zan x 5 * 10 + zan (zag x) 2] (zan x 5 * 10 + zan (zag x) 2)).2.2))) []).2) []).2)]) :
  DS Tryz.prog 207 ⟨none, v0⟩ (FinV Tryz.prog [ResultVar.cell 4 26] R) [.ops os l, .code cd]
   [(34, ptr bs), (0, ptr bs), (1, I most), (4, ptr b4), (5, ptr b5)] [(b5, .cells [I sz, I st, I ab, I wi, .v (.slice none 0 0), Bo sh, .v (.slice none 0 0), .v (.slice none 0 0)] 26), (bs, srcO x), (b4, .cells zeb 26)] := by
 obtain rfl := Option.some.inj ((show Tryz.f40.body.bind (regC 4) = some _ from rfl).symm.trans h1)
 obtain rfl := Option.some.inj ((show Tryz.f40.body.bind (zkc 4) = some _ from rfl).symm.trans h3)
 subst h2
 clear h1 h3
 simp only [zax, zay]
 have HR := Box.mk hR
 clear hR
 have k1 := zbv x 5
 have k2 := zbv (zag x) 2
 repeat' (first | (with_reducible first | refine zac yU yU yE ?_ | refine zab ?_ | refine DS.seq ?_) | (refine zfd inferInstance (zef bs x 5 (by omega)) yR yT yT ?_; (try simp only [zbn, zbs, ↓reduceIte, *])) | fail)
 (refine zkp (id := 5) (bs := bs) (x := zag x) (by simp only [zae, zca, ↓reduceIte, *]) [0, 1, 2, 3, 4, 5, 6] 7 (by kernel_rfl) zdq (by simp only [zbb, zbe, zbf, zbg, zba]; exact rfl) (by simp only [zax, zay, List.drop_nil]; exact rfl) ?_; simp only [zbn, zbs, ↓reduceIte, *])
 repeat' (first | (with_reducible first | refine zac yU yU yE ?_ | refine zab ?_ | refine DS.seq ?_ | refine zaa ?_ | refine DS.block ?_) | (refine DS.append (mm := false) yU yE yE yU (by decide) yE (by first | exact .inl rfl | exact .inr ⟨rfl, rfl⟩) yE yX0 (by first | exact zat zdt _ | exact zat zeq _ | exact zat Member.len _ | exact zat Sitting.len _ | exact zat Ruling.len _ | (simp only [List.mem_cons, List.not_mem_nil, or_false, forall_eq]; rfl) | simp) ⟨by (try simp only [List.length_map, List.length_cons, List.length_nil, List.length_append, List.length_take, List.length_drop]); omega, by decide⟩ ?_; simp only [zao, zaf, zah, Nat.reduceEqDiff, ↓reduceIte, zak, zal, zar, zaj, zai, zap, zam]) | (refine DS.store yR yE yE yE yE yU (by exact ⟨by with_unfolding_all rfl, by (try simp only [List.length_map, List.length_append, List.length_set, List.length_replicate, List.length_cons, List.length_nil]); omega⟩) ?_; simp only [zbo, zav, zaz, zbz, zbl, zbj, zbk]; try simp only [zao, zaf, zah, Nat.reduceEqDiff, ↓reduceIte, zak, zal, zar, zaj, zai, zap, zam]) | (with_reducible first | refine zbw yU yU yU yE ?_ | refine zks yU yU yU yU yE ?_) | (with_reducible refine DD.nil ?_; simp only [zas, zaw]) | (refine zoz inferInstance (zef bs (zag x) 2 (by omega)) yU yT yT ?_; simp only [zcc, zcm, Nat.reduceEqDiff, ↓reduceIte]; (try simp only [zbn, zbs, ↓reduceIte, *])) | (refine zhn yU yE yE ?_; simp only [go_sem, Nat.zero_add, Nat.reduceAdd]; simp only [zcc, zcm, Nat.reduceEqDiff, ↓reduceIte]) | fail)
 simp only [setS, n5, ↓reduceIte, zcl, zby]
 refine zcq [0, 1, 4, 5, 6] yN (fun (y : Nat × Int × Int × List Int × Int) => [(8, I y.2.1), (7, I y.2.2.2.2)]) (fun (y : Nat × Int × Int × List Int × Int) => [(bs, srcO y.2.2.1), (b5, .cells [I sz, I st, I ab, I wi, .own false 3 1 (y.2.2.2.1.map cI), Bo sh, .v (.slice none 0 0), .v (.slice none 0 0)] 26), (b4, .cells zeb 26)]) (fun (y : Nat × Int × Int × List Int × Int) => (y.2.1 + y.1 = sz - 1 ∧ y.1 ≤ 2) ∧ y.2.2.2.1.length + y.1 ≤ 3 ∧ (-10 * (4 - (y.1 : Int)) ≤ y.2.2.2.2 ∧ y.2.2.2.2 ≤ 100 * (4 - (y.1 : Int))) ∧ zds (zan x 5 * 10) (sz - 2).toNat 1 (zag (zag x)) [zan x 5 * 10 + zan (zag x) 2] (zan x 5 * 10 + zan (zag x) 2) = zds (zan x 5 * 10) y.1 y.2.1 y.2.2.1 y.2.2.2.1 y.2.2.2.2) (fun (y : Nat × Int × Int × List Int × Int) => y.1) ((sz - 2).toNat, 1, zag (zag x), [zan x 5 * 10 + zan (zag x) 2], zan x 5 * 10 + zan (zag x) 2) yS (fun b o e => by exact e) ⟨by dsimp only; omega, by simp; omega, by dsimp only; omega, rfl⟩ (fun y B hI hB => ?_); try dsimp only at hI hB; simp only [zas, zaw]
 obtain ⟨k, i, x1, out, sum⟩ := y
 dsimp only at hI hB ⊢
 obtain ⟨g1, g2, g3, g4⟩ := hI
 have H := Box.mk g4
 clear g4
 have k3 := zbv x1 9
 have k4 : 0 ≤ (zan x 5 * 10).tdiv (i + 1) ∧ (zan x 5 * 10).tdiv (i + 1) ≤ 40 := by
  have h1 : 0 ≤ zan x 5 * 10 := by omega
  refine ⟨Int.tdiv_nonneg h1 (by omega), ?_⟩
  rw [Int.tdiv_eq_ediv_of_nonneg h1]
  exact Int.le_trans (Int.ediv_le_self _ h1) (by omega)
 repeat' (first | (with_reducible refine ziq (t := 74) yU yE yE yE yE ?_; simp only [zby, zcl]) | (with_reducible first | refine zac yU yU yE ?_ | refine zab ?_ | refine DS.seq ?_ | refine zaa ?_ | (refine zbd yE ?_; refine zel (fun _ => ?_) (fun _ => ?_)) | refine DS.block ?_ | refine DS.exit yU ?_ | refine DS.skip ?_) | (refine zfg yU yE yE ?_; simp only [go_sem, Nat.zero_add, Nat.reduceAdd]) | (refine DS.append (mm := false) yU yE yE yU (by decide) yE (by first | exact .inl rfl | exact .inr ⟨rfl, rfl⟩) yE yX0 (by first | exact zat zdt _ | exact zat zeq _ | exact zat Member.len _ | exact zat Sitting.len _ | exact zat Ruling.len _ | (simp only [List.mem_cons, List.not_mem_nil, or_false, forall_eq]; rfl) | simp) ⟨by (try simp only [List.length_map, List.length_cons, List.length_nil, List.length_append, List.length_take, List.length_drop]); omega, by decide⟩ ?_; simp only [zao, zaf, zah, Nat.reduceEqDiff, ↓reduceIte, zak, zal, zar, zaj, zai, zap, zam]) | (refine DS.store yR yE yE yE yE yU (by exact ⟨by with_unfolding_all rfl, by (try simp only [List.length_map, List.length_append, List.length_set, List.length_replicate, List.length_cons, List.length_nil]); omega⟩) ?_; simp only [zbo, zav, zaz, zbz, zbl, zbj, zbk]; try simp only [zao, zaf, zah, Nat.reduceEqDiff, ↓reduceIte, zak, zal, zar, zaj, zai, zap, zam]) | fail)
 ·(refine zkp (id := 10) (bs := bs) (x := x1) (by simp only [zae, zca, ↓reduceIte, *]) [0, 1, 2, 3, 4, 5] 6 (by kernel_rfl) zdq (by simp only [zbb, zbe, zbf, zbg, zba]; exact rfl) (by simp only [zax, zay, List.drop_nil]; exact rfl) ?_; simp only [zbn, zbs, ↓reduceIte, *])
  repeat' (first | (with_reducible refine ziq (t := 65) yU yE yE yE yE ?_; simp only [zby, zcl]) | (with_reducible first | refine zac yU yU yE ?_ | refine zab ?_ | refine zaa ?_ | refine DS.blk ?_) | (refine zfg yU yE yE ?_; simp only [go_sem, Nat.zero_add, Nat.reduceAdd]) | (refine DS.append (mm := false) yU yE yE yU (by decide) yE (by first | exact .inl rfl | exact .inr ⟨rfl, rfl⟩) yE yX0 (by first | exact zat zdt _ | exact zat zeq _ | exact zat Member.len _ | exact zat Sitting.len _ | exact zat Ruling.len _ | (simp only [List.mem_cons, List.not_mem_nil, or_false, forall_eq]; rfl) | simp) ⟨by (try simp only [List.length_map, List.length_cons, List.length_nil, List.length_append, List.length_take, List.length_drop]); omega, by decide⟩ ?_; simp only [zao, zaf, zah, Nat.reduceEqDiff, ↓reduceIte, zak, zal, zar, zaj, zai, zap, zam]) | (refine DS.store yR yE yE yE yE yU (by exact ⟨by with_unfolding_all rfl, by (try simp only [List.length_map, List.length_append, List.length_set, List.length_replicate, List.length_cons, List.length_nil]); omega⟩) ?_; simp only [zbo, zav, zaz, zbz, zbl, zbj, zbk]; try simp only [zao, zaf, zah, Nat.reduceEqDiff, ↓reduceIte, zak, zal, zar, zaj, zai, zap, zam]) | with_reducible refine zbw yU yU yU yE ?_ | (with_reducible refine DD.nil ?_; simp only [zas, zaw]) | (refine zoz inferInstance (zef bs x1 9 (by omega)) yU yT yT ?_; simp only [zcc, zcm, Nat.reduceEqDiff, ↓reduceIte]; (try simp only [zbn, zbs, ↓reduceIte, *])) | fail)
  simp only [setS, n5, n5', n4, n4', m5, m5', ↓reduceIte, zcl, zby]
  have hk : zds (zan x 5 * 10) k i x1 out sum = zds (zan x 5 * 10) (k - 1) (i + 1) (zag x1) (out ++ [(zan x 5 * 10).tdiv (i + 1) - zan x1 9]) (sum + ((zan x 5 * 10).tdiv (i + 1) - zan x1 9)) := by
   obtain ⟨k', rfl⟩ : ∃ k', k = k' + 1 := ⟨k - 1, by omega⟩
   rw [zds]; rfl
  refine DS.back (hB (k - 1, i + 1, zag x1, out ++ [(zan x 5 * 10).tdiv (i + 1) - zan x1 9], sum + ((zan x 5 * 10).tdiv (i + 1) - zan x1 9)) _ _ (by dsimp only; omega) ⟨by dsimp only; omega, by simp; omega, by dsimp only; omega, H.out.trans hk⟩ yS yS (fun d o e => ?_))
  dsimp only at e
  rw [List.map_append, List.map_singleton, cI] at e
  exact e
 ·simp only [setS, n5, n5', n4, n4', m5, m5', ↓reduceIte, zcl, zby]
  have hR := HR.out
  obtain rfl : k = 0 := by omega
  rw [H.out, zds] at hR
  dsimp only at hR
  refine zdy (E' := [(10, I 0), (0, ptr bs), (1, I most), (4, ptr b4), (5, ptr b5)]) (S' := [(bs, srcO x1), (b5, .cells (zgz sz st ab wi (out ++ [-sum]) sh (.v (.slice none 0 0)) (.v (.slice none 0 0))) 26), (b4, .cells zeb 26)]) (zek (by simp (disch := omega) only [go_sem, ↓reduceIte, Nat.reduceEqDiff, zew, zfk, and_self, zas, zaw])) (fun d o e => ?_) ?_
  ·rw [zgz, List.map_append, List.map_singleton, cI, ← Int.zero_sub] at e
   exact e
  ·exact zzx bs b4 b5 x1 most sz st ab wi sh (out ++ [-sum]) hm hszB hsz hst hwi (by rw [List.length_append, List.length_singleton]; omega) n4 n4' n5 n5' m5 m5' yR hR
end Go.XL
namespace Go.XL
open Go.Proofs
set_option maxRecDepth 100000
set_option maxHeartbeats 8000000
theorem ykl (bs : Nat) (x most : Int) (hm : 0 ≤ most ∧ most ≤ 3) :
  SC Tryz.prog 40 [ptr bs, I most] bs x (zet x most).1.val (zet x most).2 := by
 have k1 := zbv x 4
 have k2 := zbv (zag x) 5
 have k3 := zbv (zag (zag x)) 3
 have k4 := zbv (x5 x) 5
 refine DC.of_run Tryz.func40 rfl Tryz.ntmps40 Tryz.results40 (by simp) (fun _ => ?_); simp only [zaq, zau, go_sem, Nat.zero_add, Nat.reduceAdd]
 repeat' (first | (with_reducible first | refine DS.seq ?_ | refine zaa ?_) | fail)
 refine zeh yR yU yU (fun b4 h4 => ?_)
 have n4 : ¬ bs = b4 := fun e => by rw [zae, if_pos e] at h4; cases h4
 have n4' : ¬ b4 = bs := fun e => n4 e.symm
 clear h4
 repeat' (first | (with_reducible first | refine zac yU yU yX8 ?_ | refine zab ?_ | refine DS.seq ?_ | refine zaa ?_) | (refine zfd inferInstance (zef bs x 4 (by omega)) yR yX35 yX35 ?_; (try simp only [zbn, zbs, ↓reduceIte, *])) | (refine zfd inferInstance (zef bs (zag x) 5 (by omega)) yR yX35 yX35 ?_; (try simp only [zbn, zbs, ↓reduceIte, *])) | (refine zfd inferInstance (zef bs (zag (zag x)) 3 (by omega)) yR yX35 yX35 ?_; (try simp only [zbn, zbs, ↓reduceIte, *])) | (refine zfd inferInstance (zmw bs (zag (zag (zag x))) 2 (by omega)) yR yX35 yX35 ?_; (try simp only [zbn, zbs, ↓reduceIte, *])) | fail)
 refine zeh yR yU yU (fun b5 h5 => ?_)
 have n5 : ¬ bs = b5 := fun e => by simp only [zae, e, ↓reduceIte] at h5; first | (cases h5; done) | (split at h5 <;> cases h5)
 have n5' : ¬ b5 = bs := fun e => n5 e.symm
 have m5 : ¬ b4 = b5 := fun e => by simp only [zae, e, ↓reduceIte] at h5; first | (cases h5; done) | (split at h5 <;> cases h5)
 have m5' : ¬ b5 = b4 := fun e => m5 e.symm
 clear h5
 repeat' (first | (with_reducible first | refine zac yU yU yX8 ?_ | refine zab ?_ | refine DS.seq ?_ | refine zaa ?_ | (refine zbd yX8 ?_; refine yha (fun _ => ?_) (fun _ => ?_)) | refine DS.skip ?_) | (refine zfd inferInstance (zmw bs (zag (zag (zag (zag x)))) 4 (by omega)) yR yX33 yX33 ?_; (try simp only [zbn, zbs, ↓reduceIte, *])) | (refine DS.store yR yX8 yX8 yX8 yX8 yU (by exact ⟨by with_unfolding_all rfl, by (try simp only [List.length_map, List.length_append, List.length_set, List.length_replicate, List.length_cons, List.length_nil]); omega⟩) ?_; simp only [zbo, zav, zaz, zbz, zbl, zbj, zbk]; try simp only [zao, zaf, zah, Nat.reduceEqDiff, ↓reduceIte, zak, zal, zar, zaj, zai, zap, zam]) | fail)
 ·rename_i e0
  have hs : zgd x = 4 := by unfold zgd; rw [if_pos e0]
  have hR : (zet x most).1.val = (zet x most).1.val ∧ [(bs, srcO (zet x most).2)] = [(bs, srcO (zet x most).2)] := ⟨rfl, rfl⟩
  simp only [setS, zbn, zbs, n5, n5', n4, n4', m5, m5', ↓reduceIte, List.map_cons, List.map_nil, zcr, zav, zaz, zcl, zby, Nat.reduceAdd, Nat.zero_add]
  exact zdy (E' := [(34, ptr bs), (0, ptr bs), (1, I most), (4, ptr b4), (5, ptr b5)]) (S' := [(b5, .cells [I (zgd x), I (zan x 4 * 100), I (zan (zag x) 5 * 10 - 30), I (zan (zag (zag x)) 3), .v (.slice none 0 0), Bo (zqb (zag (zag (zag x))) 2), .v (.slice none 0 0), .v (.slice none 0 0)] 26), (bs, srcO (x5 x)), (b4, .cells zeb 26)]) (zek (by simp (disch := omega) only [go_sem, ↓reduceIte, Nat.reduceEqDiff, zew, zfk, and_self])) (fun d o e => by
    rw [hs] at e
    simp only [zae, zca] at e ⊢
    by_cases c0 : b5 = d
    ·subst c0; simp only [n5, m5, ↓reduceIte] at e ⊢; exact e
    by_cases c1 : bs = d
    ·subst c1; simp only [n5', n4', ↓reduceIte] at e ⊢; exact e
    by_cases c2 : b4 = d
    ·subst c2; simp only [m5', n4, ↓reduceIte] at e ⊢; exact e
    ·simp only [c0, c1, c2, ↓reduceIte] at e; cases e)
   (zsr bs b4 b5 (x5 x) most (zgd x) (zan x 4 * 100) (zan (zag x) 5 * 10 - 30) (zan (zag (zag x)) 3) (zqb (zag (zag (zag x))) 2) hm ⟨⟨4, by rw [hs]; rfl⟩⟩ (by rw [hs]; omega) (by omega) (by omega) n4 n4' n5 n5' m5 m5' yR yR yR hR)
 ·rename_i e0
  have hs : zgd x = 3 := by unfold zgd; rw [if_neg (by simp [e0])]
  have hR : (zet x most).1.val = (zet x most).1.val ∧ [(bs, srcO (zet x most).2)] = [(bs, srcO (zet x most).2)] := ⟨rfl, rfl⟩
  simp only [setS, zbn, zbs, n5, n5', n4, n4', m5, m5', ↓reduceIte, List.map_cons, List.map_nil, zcr, zav, zaz, zcl, zby, Nat.reduceAdd, Nat.zero_add]
  exact zdy (E' := [(34, ptr bs), (0, ptr bs), (1, I most), (4, ptr b4), (5, ptr b5)]) (S' := [(b5, .cells [I (zgd x), I (zan x 4 * 100), I (zan (zag x) 5 * 10 - 30), I (zan (zag (zag x)) 3), .v (.slice none 0 0), Bo (zqb (zag (zag (zag x))) 2), .v (.slice none 0 0), .v (.slice none 0 0)] 26), (bs, srcO (x5 x)), (b4, .cells zeb 26)]) (zek (by simp (disch := omega) only [go_sem, ↓reduceIte, Nat.reduceEqDiff, zew, zfk, and_self])) (fun d o e => by
    rw [hs] at e
    simp only [zae, zca] at e ⊢
    by_cases c0 : b5 = d
    ·subst c0; simp only [n5, m5, ↓reduceIte] at e ⊢; exact e
    by_cases c1 : bs = d
    ·subst c1; simp only [n5', n4', ↓reduceIte] at e ⊢; exact e
    by_cases c2 : b4 = d
    ·subst c2; simp only [m5', n4, ↓reduceIte] at e ⊢; exact e
    ·simp only [c0, c1, c2, ↓reduceIte] at e; cases e)
   (zsr bs b4 b5 (x5 x) most (zgd x) (zan x 4 * 100) (zan (zag x) 5 * 10 - 30) (zan (zag (zag x)) 3) (zqb (zag (zag (zag x))) 2) hm ⟨⟨3, by rw [hs]; rfl⟩⟩ (by rw [hs]; omega) (by omega) (by omega) n4 n4' n5 n5' m5 m5' yR yR yR hR)
end Go.XL
namespace Go.XL
open Go.Proofs
set_option maxRecDepth 100000
set_option maxHeartbeats 8000000
theorem ypt (l : List Int) : DC Tryz.prog 10 [ints l] [] (fun u S' => ∃ bs, u = .tup [ptr bs, (zet (newX l) 3).1.val] ∧ S' = [(bs, srcO (zet (newX l) 3).2)]) := by
 refine DC.of_run Tryz.func10 rfl Tryz.ntmps10 Tryz.results10 (by simp) (fun _ => ?_); simp only [zaq, zau, go_sem, Nat.zero_add, Nat.reduceAdd]
 repeat' (first | (with_reducible first | refine zac yU yU yE ?_ | refine DS.seq ?_ | refine zaa ?_) | fail)
 refine zeh yR yU yU (fun b3 h3 => ?_)
 clear h3
 repeat' (first | (with_reducible first | refine zac yU yU yE ?_ | refine zab ?_ | refine DS.seq ?_ | refine zaa ?_) | fail)
 refine DS.call (dst := some 6) [] [(b3, .cells (List.map V.v (Value.agg #[.int .i64 0, .int .i64 0, .int .i64 0, .int .i64 0, .slice none 0 0, .bool false, .slice none 0 0, .slice none 0 0]).cells.toList) 26)] inferInstance (zyp l) yR yH (fun _ _ e => by cases e) (fun _ _ e => ⟨e, rfl⟩) ?_
 rintro v S0 ⟨bs, rfl, rfl⟩ hdis
 have hn := hdis bs _ (by rw [zae, if_pos rfl])
 have n3 : ¬ b3 = bs := fun h => by rw [zae, if_pos h] at hn; cases hn
 have n3' : ¬ bs = b3 := fun h => n3 h.symm
 clear hn hdis
 simp only [zas, zaw, zcz]
 repeat' (first | (with_reducible first | refine zac yU yU yE ?_ | refine zab ?_ | refine DS.seq ?_ | refine zaa ?_) | (refine zfd inferInstance (ykl bs (newX l) 3 (by omega)) yR yT yT ?_; (try simp only [zbn, zbs, ↓reduceIte, *])) | (refine DS.store yR yE yE yE yE yU (by exact ⟨by with_unfolding_all rfl, by (try simp only [List.length_map, List.length_append, List.length_set, List.length_replicate, List.length_cons, List.length_nil]); omega⟩) ?_; simp only [zbo, zav, zaz, zbz, zbl, zbj, zbk]; try simp only [zao, zaf, zah, Nat.reduceEqDiff, ↓reduceIte, zak, zal, zar, zaj, zai, zap, zam]) | fail)
 simp only [Club.cells_eq, List.map_cons, List.map_nil, zcr, zbp, zav, zaz, zcl, zby, setS, n3', ↓reduceIte, Nat.reduceAdd, Nat.zero_add]
 refine znf [(bs, srcO (zet (newX l) 3).2)] (vs := [ptr bs, (zet (newX l) 3).1.val]) yH (fun d o e => ?_) ⟨bs, rfl, rfl⟩
 simp only [zae, zca] at e ⊢
 by_cases c0 : bs = d
 ·rw [if_pos c0] at e ⊢; exact e
 ·rw [if_neg c0] at e; cases e
theorem yrz : PC Tryz.prog 37 [] (.own false 3 1 ([1, 2, 3, 4, 5, 6, 7, 8, 9].map cI)) := by
 refine DC.of_run Tryz.func37 rfl Tryz.ntmps37 Tryz.results37 (by simp) (fun _ => ?_); simp only [zaq, zau, go_sem, Nat.zero_add, Nat.reduceAdd]
 repeat' (first | with_reducible (refine zdu (t := 0) yU yO yX8 ?_) | (with_reducible refine zeg (t := 0) yU yO yX8 ?_; simp only [zao, zaf, zah, Nat.reduceEqDiff, ↓reduceIte, zak, zal, zar, zaj, zai, zap, zam]) | (with_reducible first | refine zab ?_ | refine DS.seq ?_ | refine zaa ?_) | (refine zfg yU yX8 yX8 ?_; simp only [go_sem, Nat.zero_add, Nat.reduceAdd]) | refine zbi [] yX8 trivial ?_ | fail)
 all_goals rfl
end Go.XL
namespace Go.XL
open Go.Proofs
set_option maxRecDepth 100000
set_option maxHeartbeats 8000000
theorem zng {P : Program} {n : Nat} {r : Rr} {Q : VEnv → Sto → Prop} {k : List Fr} {E : VEnv} {S : Sto} {b : Nat} {l : List V} {T : TypeId} (f : V → V) (hf : ∀ hv v y, v.Rl hv y → (f v).Rl hv y) (hfr : ∀ v, (f v).free = true) (hS : zad S b = some (.cells l T)) (q : DS P n r Q k E (setS b (.cells (l.map f) T) S)) : DS P n r Q k E S := fun K W a w ⟨K', D, hv, hold, env, hbx, ha, s⟩ hw => by
 refine q K W a w ⟨K', D, hv, hold, env, hbx, ha, ⟨s.pre, s.slot, fun j o e => ?_, s.held, s.base, s.vbase⟩⟩ hw
 rw [zbh hS] at e
 split at e
 ·rename_i hj
  subst hj
  simp only [Option.some.injEq] at e; subst e
  obtain ⟨o1, o2, cs, o3, o4, o5, o6⟩ := s.obj _ _ hS
  have key : ∀ {l : List V} {cs : List Value}, RlL hv l cs → RlL hv (l.map f) cs := fun {l} => by
   induction l with
   | nil => exact fun h => h
   | cons v r ih =>
    intro cs h
    obtain ⟨z, zs, rfl, h1, h2⟩ := h.cons
    simp only [List.map_cons, RlL]
    exact ⟨z, zs, rfl, hf _ _ _ h1, ih h2⟩
  refine ⟨o1, o2, cs, o3, key o4, o5, fun i c u hc hu => ?_⟩
  obtain ⟨v, hv, rfl⟩ := List.mem_map.1 (List.mem_of_getElem? hc)
  exact V.free_Own (hfr v) u
 ·exact s.obj j o e
theorem yld {hv : VH} {f : V → V} (hf : ∀ v y, v.Rl hv y → (f v).Rl hv y) {p : Option Addr} : ∀ {c : List V} {i : Nat}, RlC hv p i c → RlC hv p i (c.map f)
 | [], _, _ => trivial
 | v :: r, i, h => by
  simp only [List.map_cons, RlC] at h ⊢
  obtain ⟨⟨u, h1, h2, h3⟩, h4⟩ := h
  exact ⟨⟨u, h1, hf _ _ h2, h3⟩, yld hf h4⟩
theorem ylc {hv : VH} {f : V → V} (hf : ∀ v y, v.Rl hv y → (f v).Rl hv y) {p : Option Addr} : ∀ {l : List (List V)} {i : Nat}, RlE hv p i l → RlE hv p i (l.map (·.map f))
 | [], _, _ => trivial
 | c :: r, i, h => by
  simp only [List.map_cons, RlE] at h ⊢
  exact ⟨yld hf h.1, by rw [List.length_map]; exact ylc hf h.2⟩
def inL (f : V → V) (v : V) : V := match v.peek with | .lst l => .lst (l.map (·.map f)) | w => w
theorem yjg {hv : VH} {f : V → V} (hf : ∀ v y, v.Rl hv y → (f v).Rl hv y) {v : V} {y : Value} (h : v.Rl hv y) : (inL f v).Rl hv y := by
 have h' := V.peek_Rl h
 unfold inL
 split
 ·rename_i l e
  rw [e] at h'
  simp only [V.Rl] at h' ⊢
  obtain ⟨p, cap, sz, h1, h2, h3, h4, h5⟩ := h'
  refine ⟨p, cap, sz, by rw [List.length_map]; exact h1, by rw [List.length_map]; exact h2, h3, fun c hc => ?_, ylc hf h5⟩
  obtain ⟨d, hd, rfl⟩ := List.mem_map.1 hc
  rw [List.length_map]; exact h4 d hd
 ·exact h'
theorem yne (f : V → V) (v : V) : (inL f v).free = true := by
 unfold inL
 split
 ·rfl
 ·exact zgs v
def deep : V → V := inL (inL (inL V.peek))
theorem yqm {hv : VH} {v : V} {y : Value} (h : v.Rl hv y) : (deep v).Rl hv y := yjg (fun _ _ h => yjg (fun _ _ h => yjg (fun _ _ h => V.peek_Rl h) h) h) h
def shownC : Club := ⟨3, 100, -50, 1, [30, 0, -30], true, [⟨1, 0, 0, -1⟩, ⟨2, 0, 0, -1⟩, ⟨3, 0, 0, -1⟩, ⟨4, 0, 0, -1⟩, ⟨5, 0, 0, -1⟩, ⟨6, 0, 0, -1⟩, ⟨7, 0, 0, -1⟩, ⟨8, 0, 0, -1⟩, ⟨9, 5, 0, -1⟩], [⟨[[1, 2, 3], [4, 5, 6], [7, 8, 9]], [[130, 100, 70], [120, 120, 60], []], []⟩]⟩
abbrev shC (m r : V) : List V := [I 3, I 100, I (-50), I 1, ints [30, 0, -30], Bo true, m, r]
def mems (n : Nat) : List Member := (List.range n).map fun i : Nat => ⟨(i : Int) + 1, 0, 0, -1⟩
structure MemI (b0 b1 n : Nat) (g : GR) : Prop where
 l : g.l = (mems n).map Member.cells
 ok : g.Ok 47 4 (SR 47 g)
 nb : NB b0 b0 b1 b1 g
theorem yX36 {p : Prop} (h : p := by (simp (disch := omega) only [go_sem, dopV, yV0, ↓reduceIte, Nat.reduceEqDiff, Nat.reduceLT, Nat.reduceLeDiff, Nat.reduceAdd, Nat.reduceMul, Nat.reduceSub, Int.reduceToNat, Int.reduceLT, Int.reduceLE, Int.reduceEq, IntWalk.toNatUp, IntWalk.iteOmega, IntWalk.i64_in, V.flat, V.one, *, Value.oneCell', GR.cell_copy]; exact rfl)) : p := h
theorem yX37 {p : Prop} (h : p := by (simp (disch := omega) only [go_sem, dopV, yV0, ↓reduceIte, Nat.reduceEqDiff, Nat.reduceLT, Nat.reduceLeDiff, Nat.reduceAdd, Nat.reduceMul, Nat.reduceSub, Int.reduceToNat, Int.reduceLT, Int.reduceLE, Int.reduceEq, IntWalk.toNatUp, IntWalk.iteOmega, IntWalk.i64_in, V.flat, V.one, Club.cells_eq]; try exact rfl)) : p := h
theorem ymb : PC Tryz.prog 36 [] shownC.val := by
 refine DC.of_run Tryz.func36 rfl Tryz.ntmps36 Tryz.results36 (by simp) (fun _ => ?_); simp only [zaq, zau, go_sem, Nat.zero_add, Nat.reduceAdd]
 repeat' (first | (with_reducible first | refine DS.seq ?_ | refine zaa ?_) | fail)
 refine zeh yR yU yU (fun b0 h0 => ?_)
 clear h0
 repeat' (first | (with_reducible first | refine zac yU yU yX8 ?_ | refine zab ?_ | refine DS.seq ?_ | refine zaa ?_) | (refine zfg yU yX8 yX8 ?_; simp only [go_sem, Nat.zero_add, Nat.reduceAdd]) | fail)
 refine zeh yR yU yU (fun b1 h1 => ?_)
 have n1 : ¬ b0 = b1 := fun e => by rw [zae, if_pos e] at h1; cases h1
 have n1' : ¬ b1 = b0 := fun e => n1 e.symm
 clear h1
 repeat' (first | (with_reducible first | refine zac yU yU yX8 ?_ | refine zab ?_ | refine DS.seq ?_ | refine zaa ?_ | refine DS.block ?_) | (refine DS.store yR yX8 yX8 yX8 yX8 yU (by exact ⟨by with_unfolding_all rfl, by (try simp only [List.length_map, List.length_append, List.length_set, List.length_replicate, List.length_cons, List.length_nil]); omega⟩) ?_; simp only [zbo, zav, zaz, zbz, zbl, zbj, zbk]; try simp only [zao, zaf, zah, Nat.reduceEqDiff, ↓reduceIte, zak, zal, zar, zaj, zai, zap, zam]) | fail)
 simp only [List.map_cons, List.map_nil, zcr, zbp, zav, zaz, zcl, zby, setS, n1', ↓reduceIte, Nat.reduceAdd, Nat.zero_add]
 refine zcq [0, 1] yN (fun (y : Nat × Int × GR) => [(2, I y.2.1)]) (fun (y : Nat × Int × GR) => (b1, .cells (shC y.2.2.cell (.v (.slice none 0 0))) 26) :: (b0, .cells zeb 26) :: SR 47 y.2.2) (fun (y : Nat × Int × GR) => y.1 ≤ 9 ∧ (y.2.1 ≤ y.1 + 1 ∧ (y.1 : Int) + 1 ≤ y.2.1) ∧ MemI b0 b1 y.1 y.2.2) (fun (y : Nat × Int × GR) => 9 - y.1) (0, 1, ⟨[], none⟩) yS (fun b o e => by exact e) ⟨by dsimp only; omega, by dsimp only; omega, ⟨rfl, rfl, fun _ _ _ e => by cases e⟩⟩ (fun y B hI hB => ?_); try dsimp only at hI hB; simp only [zas, zaw]
 obtain ⟨m, i, g⟩ := y
 dsimp only at hI hB ⊢
 obtain ⟨g1, g2, hg⟩ := hI
 repeat' (first | (with_reducible first | refine zac yU yU yX36 ?_ | refine zab ?_ | refine DS.seq ?_ | refine zaa ?_ | (refine zbd yX36 ?_; refine zel (fun _ => ?_) (fun _ => ?_)) | refine DS.block ?_ | refine DS.exit yU ?_ | refine DS.skip ?_) | (refine zfg yU yX36 yX36 ?_; simp only [go_sem, Nat.zero_add, Nat.reduceAdd]) | fail)
 ·have hgl : g.l.length = m := by rw [hg.l, List.length_map]; simp [mems]
  refine zea rfl rfl yR (zij (g := g) (ml := [Member.cells ⟨i, 0, 0, -1⟩]) rfl yH yH yR yR (by decide) yH (hg.ok.of fun d cap' jj h => ?_) yH yH (by exact Nat.zero_lt_succ _) (by intro c hc; obtain rfl := List.mem_singleton.1 hc; rfl) ⟨by rw [hgl, List.length_singleton]; omega, by decide⟩) (fun u2 E' S4 hu2 => ?_)
  ·have hn := hg.nb d cap' jj h
   rw [zae, if_neg (fun h' => hn.2.2.1 h'.symm), zae, if_neg (fun h' => hn.1 h'.symm)]
  obtain ⟨rfl, b', cap', junk', rfl, m1, m2, m3⟩ := hu2
  obtain rfl : i = (m : Int) + 1 := by omega
  have hml : g.l ++ [Member.cells ⟨(m : Int) + 1, 0, 0, -1⟩].map (fun x => List.map V.copy x) = (mems (m + 1)).map Member.cells := by
   rw [hg.l, mems, mems, List.range_succ, List.map_append, List.map_append]; rfl
  rw [hml] at m1 ⊢
  have hnl : ((mems (m + 1)).map Member.cells).length = m + 1 := by rw [List.length_map]; simp [mems]
  have e0 : b' ≠ b1 ∧ b' ≠ b0 := by
   rcases m2 with ⟨c, jj, h⟩ | h
   ·have hn := hg.nb _ _ _ h
    exact ⟨hn.2.2.1, hn.1⟩
   ·simp only [zae] at h
    refine ⟨fun h' => ?_, fun h' => ?_⟩
    ·rw [if_pos h'.symm] at h; cases h
    ·rw [if_neg (fun x => n1' (x.trans h')), if_pos h'.symm] at h; cases h
  obtain ⟨e1, e2⟩ := e0
  have hold : ∀ d, d ≠ b' → (d = b1 ∨ d = b0) → zad S4 d = zad ((b1, Ob.cells (shC g.cell (.v (.slice none 0 0))) 26) :: (b0, .cells zeb 26) :: SR 47 g) d := fun d hd hl =>
   m3 d hd fun c jj h => by
    have hn := hg.nb _ _ _ h
    rcases hl with rfl | rfl
    ·exact hn.2.2.1 rfl
    ·exact hn.1 rfl
  refine zer (S' := (b1, .cells (shC g.cell (.v (.slice none 0 0))) 26) :: (b0, .cells zeb 26) :: SR 47 ⟨(mems (m + 1)).map Member.cells, some (b', cap', junk')⟩) (fun d o e => ?_) ?_
  ·simp only [zae, zca, SR] at e
   by_cases c1 : b1 = d
   ·subst c1; rw [if_pos rfl] at e; rw [hold _ (fun h => e1 h.symm) (.inl rfl), zae, if_pos rfl]; exact e
   rw [if_neg c1] at e
   by_cases c2 : b0 = d
   ·subst c2; rw [if_pos rfl] at e; rw [hold _ (fun h => e2 h.symm) (.inr rfl), zae, if_neg c1, zae, if_pos rfl]; exact e
   rw [if_neg c2] at e
   by_cases c3 : b' = d
   ·subst c3; rw [if_pos rfl] at e; rw [m1.look]; exact e
   ·rw [if_neg c3] at e; cases e
  have hI2 : MemI b0 b1 (m + 1) ⟨(mems (m + 1)).map Member.cells, some (b', cap', junk')⟩ := ⟨rfl, ⟨by simp [SR, zad], m1.len, m1.le, m1.cap, m1.jf, m1.lf, m1.ll⟩, fun c1 c2 c3 h => by cases h; exact ⟨e2, e2, e1, e1⟩⟩
  have H := Box.mk hI2
  clear hI2 hml m1 m2 m3 hold hg
  simp only [GR.cell_some, zcz]
  repeat' (first | (with_reducible first | refine zac yU yU yE ?_ | refine zab ?_ | refine zaa ?_ | refine DS.blk ?_) | (refine DS.store yR yE yE yE yE yU (by exact ⟨by with_unfolding_all rfl, by (try simp only [List.length_map, List.length_append, List.length_set, List.length_replicate, List.length_cons, List.length_nil]); omega⟩) ?_; simp only [zbo, zav, zaz, zbz, zbl, zbj, zbk]; try simp only [zao, zaf, zah, Nat.reduceEqDiff, ↓reduceIte, zak, zal, zar, zaj, zai, zap, zam]) | fail)
  simp only [setS, ↓reduceIte, zcl, zby]
  refine DS.back (hB (m + 1, (m : Int) + 1 + 1, ⟨(mems (m + 1)).map Member.cells, some (b', cap', junk')⟩) _ _ (by dsimp only; omega) ⟨by dsimp only; omega, by dsimp only; omega, H.out⟩ yS yS (fun d o e => ?_))
  dsimp only at e
  rw [GR.cell_some, hnl] at e
  exact e
 ·obtain rfl : m = 9 := by omega
  obtain ⟨l, blk⟩ := g
  obtain rfl : l = (mems 9).map Member.cells := hg.l
  cases blk with
  | none =>
   have : (mems 9).map Member.cells = [] := hg.ok
   cases this
  | some y =>
   obtain ⟨bm, cap, j⟩ := y
   have hok : GR.At 47 4 (SR 47 ⟨(mems 9).map Member.cells, some (bm, cap, j)⟩) ((mems 9).map Member.cells) bm cap j := hg.ok
   have hb := hg.nb bm cap j rfl
   have o0 : ¬ b0 = bm := fun h => hb.1 h.symm
   have o1 : ¬ b1 = bm := fun h => hb.2.2.1 h.symm
   have o1' : ¬ bm = b1 := hb.2.2.1
   have hle := hok.le
   have hcap := hok.cap
   have hfl : ((mems 9).map Member.cells).flatten = [I 1, I 0, I 0, I (-1), I 2, I 0, I 0, I (-1), I 3, I 0, I 0, I (-1), I 4, I 0, I 0, I (-1), I 5, I 0, I 0, I (-1), I 6, I 0, I 0, I (-1), I 7, I 0, I 0, I (-1), I 8, I 0, I 0, I (-1), I 9, I 0, I 0, I (-1)] := by with_unfolding_all rfl
   have hl9 : ((mems 9).map Member.cells).length = 9 := by with_unfolding_all rfl
   simp only [GR.cell_some, SR, hfl, hl9]
   rw [hl9] at hle
   clear hg hok hfl hl9
   repeat' (first | (with_reducible first | refine zac yU yU yE ?_ | refine zab ?_ | refine DS.seq ?_ | refine zaa ?_) | (refine DS.store yR yE yE yE yE yU (by exact ⟨by with_unfolding_all rfl, by (try simp only [List.length_map, List.length_append, List.length_set, List.length_replicate, List.length_cons, List.length_nil]); omega⟩) ?_; simp only [zbo, zav, zaz, zbz, zbl, zbj, zbk]; try simp only [zao, zaf, zah, Nat.reduceEqDiff, ↓reduceIte, zak, zal, zar, zaj, zai, zap, zam]) | fail)
   simp only [setS, o1, ↓reduceIte]
   refine zis (b := bm) (b' := b1) (i := 6) (sz := 4) (len := 9) (cap := cap) (l' := shC (.v (.slice (some ⟨bm, 0, none⟩) 9 cap)) (.v (.slice none 0 0))) (l := [I 1, I 0, I 0, I (-1), I 2, I 0, I 0, I (-1), I 3, I 0, I 0, I (-1), I 4, I 0, I 0, I (-1), I 5, I 0, I 0, I (-1), I 6, I 0, I 0, I (-1), I 7, I 0, I 0, I (-1), I 8, I 0, I 0, I (-1), I 9, I 5, I 0, I (-1)] ++ j) (T := 47) (T' := 26) o1 (by simp only [zae, ↓reduceIte]) yR (by simp only [zae, o0, o1, ↓reduceIte]; rfl) (by simp) ⟨hle, hcap⟩ ?_
   have hch : chunk 4 9 (([I 1, I 0, I 0, I (-1), I 2, I 0, I 0, I (-1), I 3, I 0, I 0, I (-1), I 4, I 0, I 0, I (-1), I 5, I 0, I 0, I (-1), I 6, I 0, I 0, I (-1), I 7, I 0, I 0, I (-1), I 8, I 0, I 0, I (-1), I 9, I 5, I 0, I (-1)] ++ j).map V.copy) = shownC.members.map Member.cells := by with_unfolding_all rfl
   rw [hch]
   clear hch
   simp only [setS, zbn, zbs, o0, o1, ↓reduceIte, zcl, zby, shC]
   repeat' (first | (with_reducible first | refine zac yU yU yX8 ?_ | refine zab ?_ | refine DS.seq ?_ | refine zaa ?_) | (refine zfg yU yX8 yX8 ?_; simp only [go_sem, Nat.zero_add, Nat.reduceAdd]) | (refine DS.store yR yX8 yX8 yX8 yX8 yU (by exact ⟨by with_unfolding_all rfl, by (try simp only [List.length_map, List.length_append, List.length_set, List.length_replicate, List.length_cons, List.length_nil]); omega⟩) ?_; simp only [zbo, zav, zaz, zbz, zbl, zbj, zbk]; try simp only [zao, zaf, zah, Nat.reduceEqDiff, ↓reduceIte, zak, zal, zar, zaj, zai, zap, zam]) | fail)
   simp only [zeb, List.map_cons, List.map_nil, zcr, zbp, zbx, zav, zaz, zcl, zby, setS, n1, n1', ↓reduceIte, Nat.reduceAdd, Nat.zero_add]
   refine zng (b := b0) deep (fun _ _ _ h => yqm h) (fun v => yne _ v) (by simp only [zae, n1', ↓reduceIte]; exact rfl) ?_
   refine zer (S' := [(b0, .cells shownC.cells 26)]) (fun d o e => ?_) ?_
   ·simp only [setS, n1', ↓reduceIte, zae, zca] at e ⊢
    by_cases c0 : b0 = d
    ·subst c0
     simp only [n1', ↓reduceIte] at e ⊢
     rw [← e]; with_unfolding_all rfl
    ·rw [if_neg c0] at e; cases e
   ·exact znf [] (vs := [shownC.val]) yX37 (fun _ _ e => by cases e) rfl
end Go.XL
namespace Go.XL
def zps (sum many at_ : Int) : Int := if at_ < sum % many then sum / many + 1 else sum / many
def zpt (points places : List Int) (start : Int) (shared : Bool) (i : Nat) : Int :=
 points.getD i 0 - start + if shared then zps ((places.drop (zie points (points.getD i 0))).take (zdx points (points.getD i 0))).sum (zdx points (points.getD i 0)) (zdx (points.take i) (points.getD i 0))
  else places.getD (zie points (points.getD i 0) + zdx (points.take i) (points.getD i 0)) 0
def zjm (points places : List Int) (start : Int) (shared : Bool) : List Int :=
 if places.length < points.length then [] else (List.range points.length).map (zpt points places start shared)
theorem yms (l : List Int) (p : Int) : zie l p ≤ l.length := List.length_filter_le _ _
theorem zsg (l : List Int) (p : Int) : zdx l p ≤ l.length := List.length_filter_le _ _
theorem ygf {l : List Int} {k : Nat} (p : Int) (h : k < l.length) : zie (l.take (k + 1)) p = zie (l.take k) p + if p < l[k] then 1 else 0 := by
 rw [List.take_succ_eq_append_getElem h, zie, zie, List.filter_append, List.length_append]
 by_cases h1 : p < l[k] <;> simp [h1]
theorem zsf {l : List Int} {k : Nat} (p : Int) (h : k < l.length) : zdx (l.take (k + 1)) p = zdx (l.take k) p + if l[k] = p then 1 else 0 := by
 rw [List.take_succ_eq_append_getElem h, zdx, zdx, List.filter_append, List.length_append]
 by_cases h1 : l[k] = p <;> simp [h1]
theorem ymu : ∀ (l : List Int) (p : Int), zie l p + zdx l p ≤ l.length
 | [], p => by simp [zie, zdx]
 | x :: r, p => by
  have h := ymu r p
  simp only [zie, zdx, List.filter_cons, List.length_cons] at h ⊢
  by_cases h1 : p < x
  ·rw [if_pos (decide_eq_true h1), if_neg (by simp; omega)]; simp only [List.length_cons]; omega
  ·rw [if_neg (by simpa using h1)]; split <;> (try simp only [List.length_cons]) <;> omega
theorem zuw {l : List Int} {i : Nat} (h : i < l.length) : zdx (l.take i) l[i] < zdx l l[i] := by
 have e : l = l.take i ++ l[i] :: l.drop (i + 1) := by rw [← List.drop_eq_getElem_cons h, List.take_append_drop]
 have : zdx l l[i] = zdx (l.take i) l[i] + zdx (l[i] :: l.drop (i + 1)) l[i] := by
  conv => lhs; rw [zdx]
  have : ∀ p, ((l.filter fun x => decide (x = p)).length) = ((l.take i ++ l[i] :: l.drop (i + 1)).filter fun x => decide (x = p)).length := fun p => by rw [← e]
  rw [this, List.filter_append, List.length_append]; rfl
 rw [this]
 simp only [zdx, List.filter_cons, decide_true, if_true, List.length_cons]; omega
theorem yho {sum many at_ : Int} (hm : 0 < many) : zps sum many at_ = if (if sum.tmod many < 0 then (sum.tdiv many - 1, sum.tmod many + many) else (sum.tdiv many, sum.tmod many)).2 > at_ then (if sum.tmod many < 0 then (sum.tdiv many - 1, sum.tmod many + many) else (sum.tdiv many, sum.tmod many)).1 + 1 else (if sum.tmod many < 0 then (sum.tdiv many - 1, sum.tmod many + many) else (sum.tdiv many, sum.tmod many)).1 := by
 have h1 := Int.mul_tdiv_add_tmod sum many
 have h2 := Int.mul_ediv_add_emod sum many
 have h3 := Int.emod_nonneg sum (show many ≠ 0 by omega)
 have h4 := Int.emod_lt_of_pos sum hm
 have h5 : sum.tmod many < many := Int.tmod_lt_of_pos sum hm
 have h6 : -many < sum.tmod many := Int.lt_tmod_of_pos sum hm
 have key : ∀ a b r s : Int, many * a + r = many * b + s → 0 ≤ r → r < many → 0 ≤ s → s < many → a = b ∧ r = s := by
  intro a b r s e r0 r1 s0 s1
  have h : many * (a - b) = s - r := by rw [Int.mul_sub]; omega
  have hab : a - b = 0 := by
   rcases Int.lt_trichotomy (a - b) 0 with h7 | h7 | h7
   ·have : many * (a - b) ≤ many * (-1) := Int.mul_le_mul_of_nonneg_left (by omega) (by omega)
    omega
   ·exact h7
   ·have : many * 1 ≤ many * (a - b) := Int.mul_le_mul_of_nonneg_left (by omega) (by omega)
    omega
  have : a = b := by omega
  subst this
  exact ⟨rfl, by omega⟩
 rw [zps]
 by_cases h : sum.tmod many < 0
 ·simp only [if_pos h]
  obtain ⟨e1, e2⟩ := key (sum.tdiv many - 1) (sum / many) (sum.tmod many + many) (sum % many) (by rw [Int.mul_sub]; omega) (by omega) (by omega) h3 h4
  rw [e1, e2]
 ·simp only [if_neg h]
  obtain ⟨e1, e2⟩ := key (sum.tdiv many) (sum / many) (sum.tmod many) (sum % many) (by omega) (by omega) (by omega) h3 h4
  rw [e1, e2]
end Go.XL
namespace Go.XL
open Go.Proofs
set_option maxRecDepth 100000
set_option maxHeartbeats 8000000
theorem yeq (l : List Int) {i : Nat} (hi : i < l.length) (hl : l.length ≤ 1000000) : PC Tryz.prog 83 [ints l, I i] (.tup [I (zie l l[i]), I (zdx l l[i]), I (zdx (l.take i) l[i])]) := by
 refine DC.of_run Tryz.func83 rfl Tryz.ntmps83 Tryz.results83 (by simp) (fun _ => ?_); simp only [zaq, zau, go_sem, Nat.zero_add, Nat.reduceAdd]
 repeat' (first | (with_reducible first | refine zac yU yU yE ?_ | refine zab ?_ | refine DS.seq ?_ | refine zaa ?_ | refine DS.block ?_) | fail)
 refine zcn [0, 1, 9, 10] yN (fun (x : Nat × Nat × Nat × Nat) => [(4, I x.1), (5, I x.2.1), (6, I x.2.2.1), (11, I x.2.2.2)]) (fun (x : Nat × Nat × Nat × Nat) => x.2.2.2 ≤ l.length ∧ x.1 = zie (l.take x.2.2.2) l[i] ∧ x.2.1 = zdx (l.take x.2.2.2) l[i] ∧ x.2.2.1 = zdx (l.take (min i x.2.2.2)) l[i] ∧ x.1 ≤ 1000000 ∧ x.2.1 ≤ 1000000 ∧ x.2.2.1 ≤ 1000000) (fun (x : Nat × Nat × Nat × Nat) => l.length - x.2.2.2) (0, 0, 0, 0) yS (by simp [zie, zdx]) (fun x B hI hB => ?_); try dsimp only at hI hB; simp only [zas, zaw]
 obtain ⟨a, b, c, k⟩ := x
 dsimp only at hI hB
 obtain ⟨g1, g2, g3, g4, g5, g6, g7⟩ := hI
 have H := Box.mk (And.intro g2 (And.intro g3 g4))
 clear g2 g3 g4
 have hk1 : ∀ h : k < l.length, zie (l.take (k + 1)) l[i] = zie (l.take k) l[i] + if l[i] < l[k] then 1 else 0 := fun h => ygf _ h
 have hk2 : ∀ h : k < l.length, zdx (l.take (k + 1)) l[i] = zdx (l.take k) l[i] + if l[k] = l[i] then 1 else 0 := fun h => zsf _ h
 have hk3 : ∀ h : k < l.length, zdx (l.take (min i (k + 1))) l[i] = zdx (l.take (min i k)) l[i] + if k < i ∧ l[k] = l[i] then 1 else 0 := fun h => by
  by_cases hki : k < i
  ·rw [Nat.min_eq_right (by omega), Nat.min_eq_right (by omega), zsf _ h]
   by_cases h2 : l[k] = l[i]
   ·rw [if_pos h2, if_pos ⟨hki, h2⟩]
   ·rw [if_neg h2, if_neg (fun h => h2 h.2)]
  ·rw [Nat.min_eq_left (by omega), Nat.min_eq_left (by omega), if_neg (fun h => hki h.1)]; rfl
 have hz1 := yms (l.take k) l[i]
 have hz2 := zsg (l.take k) l[i]
 have hz3 := zsg (l.take (min i k)) l[i]
 have hlt : (l.take k).length ≤ k := by simp; omega
 have hlt2 : (l.take (min i k)).length ≤ k := by simp; omega
 have H2 := Box.mk (And.intro hk1 (And.intro hk2 (And.intro hk3 (And.intro hz1 (And.intro hz2 (And.intro hz3 (And.intro hlt hlt2)))))))
 clear hk1 hk2 hk3 hz1 hz2 hz3 hlt hlt2
 repeat' (first | (with_reducible first | refine zac yU yU yE ?_ | refine zab ?_ | refine DS.seq ?_ | refine zaa ?_ | (refine zbd yE ?_; refine zel (fun _ => ?_) (fun _ => ?_)) | refine DS.blk ?_ | refine DS.block ?_ | refine DS.exit yU ?_ | refine DS.skip ?_) | refine zbi [] yE trivial ?_ | fail)
 all_goals obtain ⟨h1, h2, h3⟩ := H.out
 all_goals obtain ⟨k1, k2, k3, k4, k5, k6, k7, k8⟩ := H2.out
 ·rename_i e1 e2
  exact DS.back (hB (a + 1, b, c, k + 1) _ _ (by dsimp only; omega) (⟨by dsimp only; omega, by dsimp only; rw [k1 (by omega), if_pos e2, h1], by dsimp only; rw [k2 (by omega), if_neg (by omega), h2]; rfl, by dsimp only; rw [k3 (by omega), if_neg (by omega), h3]; rfl, by dsimp only; omega, by dsimp only; omega, by dsimp only; omega⟩) yS yS (fun b o e => by first | exact e | (simp only [zae]; split <;> simp_all)))
 ·rename_i e1 e2 e3 e4
  exact DS.back (hB (a, b + 1, c + 1, k + 1) _ _ (by dsimp only; omega) (⟨by dsimp only; omega, by dsimp only; rw [k1 (by omega), if_neg (by omega), h1]; rfl, by dsimp only; rw [k2 (by omega), if_pos e3, h2], by dsimp only; rw [k3 (by omega), if_pos ⟨by omega, e3⟩, h3], by dsimp only; omega, by dsimp only; omega, by dsimp only; omega⟩) yS yS (fun b o e => by first | exact e | (simp only [zae]; split <;> simp_all)))
 ·rename_i e1 e2 e3 e4
  exact DS.back (hB (a, b + 1, c, k + 1) _ _ (by dsimp only; omega) (⟨by dsimp only; omega, by dsimp only; rw [k1 (by omega), if_neg (by omega), h1]; rfl, by dsimp only; rw [k2 (by omega), if_pos e3, h2], by dsimp only; rw [k3 (by omega), if_neg (by omega), h3]; rfl, by dsimp only; omega, by dsimp only; omega, by dsimp only; omega⟩) yS yS (fun b o e => by first | exact e | (simp only [zae]; split <;> simp_all)))
 ·rename_i e1 e2 e3
  exact DS.back (hB (a, b, c, k + 1) _ _ (by dsimp only; omega) (⟨by dsimp only; omega, by dsimp only; rw [k1 (by omega), if_neg (by omega), h1]; rfl, by dsimp only; rw [k2 (by omega), if_neg (by omega), h2]; rfl, by dsimp only; rw [k3 (by omega), if_neg (by omega), h3]; rfl, by dsimp only; omega, by dsimp only; omega, by dsimp only; omega⟩) yS yS (fun b o e => by first | exact e | (simp only [zae]; split <;> simp_all)))
 ·rename_i e1
  have hk : k = l.length := by omega
  subst hk
  rw [h1, h2, h3, List.take_of_length_le (Nat.le_refl _), Nat.min_eq_left (by omega)]; rfl
def Bd (n : Int) : Prop := -100000000000000 ≤ n ∧ n ≤ 100000000000000
theorem ymc (sum many at_ : Int) (hs : Bd sum) (hm : 0 < many ∧ many ≤ 1000000) (ha : Bd at_) : PC Tryz.prog 84 [I sum, I many, I at_] (I (zps sum many at_)) := by
 have e := yho (sum := sum) (at_ := at_) hm.1
 have h5 : sum.tmod many < many := Int.tmod_lt_of_pos sum hm.1
 have h6 : -many < sum.tmod many := Int.lt_tmod_of_pos sum hm.1
 have h7 : Bd (sum.tdiv many) := by
  have h1 := Int.natAbs_tdiv_le_natAbs sum many
  unfold Bd at *
  omega
 obtain ⟨hs1, hs2⟩ := hs
 obtain ⟨h71, h72⟩ := h7
 obtain ⟨ha1, ha2⟩ := ha
 have H := Box.mk e
 clear e
 refine DC.of_run Tryz.func84 rfl Tryz.ntmps84 Tryz.results84 (by simp) (fun _ => ?_); simp only [zaq, zau, go_sem, Nat.zero_add, Nat.reduceAdd]
 repeat' (first | (with_reducible first | refine zac yU yU yE ?_ | refine zab ?_ | refine DS.seq ?_ | refine zaa ?_ | (refine zbd yE ?_; refine zel (fun _ => ?_) (fun _ => ?_)) | refine DS.skip ?_) | refine zce (id := 1) [0, 1, 2, 3, 4, 5, 6] 7 (by kernel_rfl) zdq (by simp only [zbb, zbe, zbf, zbg, zba]; exact rfl) (by simp only [zax, zay, List.drop_nil]; exact rfl) ?_ | (with_reducible first | refine zbw yU yU yU yE ?_ | refine zdc ?_) | refine zbi [] yE trivial ?_ | fail)
 all_goals (rename_i e1 e2; rw [H.out]; simp only [e1, e2, if_true, if_false, gt_iff_lt]; rfl)
theorem yhp {sum many at_ : Int} (hs : Bd sum) (hm : 0 < many) : -100000000000000 ≤ zps sum many at_ ∧ zps sum many at_ ≤ 100000000000001 := by
 have h2 := Int.mul_ediv_add_emod sum many
 have h3 := Int.emod_nonneg sum (show many ≠ 0 by omega)
 have h4 := Int.emod_lt_of_pos sum hm
 obtain ⟨s1, s2⟩ := hs
 have k1 : -100000000000000 ≤ sum / many := by
  rcases Int.lt_or_le (sum / many) (-100000000000000) with h | h
  ·exfalso
   have h5 : many * (sum / many + 1) ≤ many * (-100000000000000) := Int.mul_le_mul_of_nonneg_left (by omega) (by omega)
   rw [Int.mul_add] at h5
   omega
  ·exact h
 have k2 : sum / many ≤ 100000000000000 := by
  rcases Int.lt_or_le 100000000000000 (sum / many) with h | h
  ·exfalso
   have h5 : many * 100000000000001 ≤ many * (sum / many) := Int.mul_le_mul_of_nonneg_left (by omega) (by omega)
   omega
  ·exact h
 rw [zps]
 split <;> omega
def B40 (n : Int) : Prop := -1099511627776 ≤ n ∧ n ≤ 1099511627776
theorem zvt {l : List Int} {k : Nat} (h : k < l.length) : (l.take (k + 1)).sum = (l.take k).sum + l[k] := by
 rw [List.take_succ_eq_append_getElem h, List.sum_append]; simp
theorem yX38 {p : Prop} (h : p := by (simp (disch := omega) only [go_sem, dopV, yV0, ↓reduceIte, Nat.reduceEqDiff, Nat.reduceLT, Nat.reduceLeDiff, Nat.reduceAdd, Nat.reduceMul, Nat.reduceSub, Int.reduceToNat, Int.reduceLT, Int.reduceLE, Int.reduceEq, IntWalk.toNatUp, IntWalk.iteOmega, IntWalk.i64_in, V.flat, V.one, *, List.forall_mem_map, implies_true, zdt]; exact rfl)) : p := h
theorem yX39 {p : Prop} (h : p := by first | exact rfl | (simp (disch := omega) only [go_sem, dopV, yV0, ↓reduceIte, Nat.reduceEqDiff, Nat.reduceLT, Nat.reduceLeDiff, Nat.reduceAdd, Nat.reduceMul, Nat.reduceSub, Int.reduceToNat, Int.reduceLT, Int.reduceLE, Int.reduceEq, IntWalk.toNatUp, IntWalk.iteOmega, IntWalk.i64_in, V.flat, V.one, *, List.forall_mem_map, implies_true, zdt]; exact rfl)) : p := h
theorem yX40 {p : Prop} (h : p := by (simp (disch := omega) only [go_sem, dopV, yV0, ↓reduceIte, Nat.reduceEqDiff, Nat.reduceLT, Nat.reduceLeDiff, Nat.reduceAdd, Nat.reduceMul, Nat.reduceSub, Int.reduceToNat, Int.reduceLT, Int.reduceLE, Int.reduceEq, IntWalk.toNatUp, IntWalk.iteOmega, IntWalk.i64_in, V.flat, V.one, *, List.forall_mem_map, implies_true, zdt]; try exact rfl)) : p := h
theorem zyh (points places : List Int) (start : Int) (shared : Bool) (hl : points.length ≤ 20) (hl2 : places.length ≤ 20) (hp : ∀ x ∈ points, B40 x) (hq : ∀ x ∈ places, B40 x) (hs : B40 start) :
  PC Tryz.prog 38 [ints points, ints places, I start, Bo shared] (.own false 3 1 ((zjm points places start shared).map cI)) := by
 obtain ⟨hs1, hs2⟩ := hs
 rw [zjm]
 refine DC.of_run Tryz.func38 rfl Tryz.ntmps38 Tryz.results38 (by simp) (fun _ => ?_); simp only [zaq, zau, go_sem, Nat.zero_add, Nat.reduceAdd]
 repeat' (first | (with_reducible first | (refine zdu (t := 8) yU yO yE ?_) | (refine zdu (t := 9) yU yO yE ?_) | refine zac yU yU yE ?_ | refine zab ?_ | refine DS.seq ?_ | refine zaa ?_ | (refine zbd yE ?_; refine zel (fun _ => ?_) (fun _ => ?_)) | refine DS.block ?_ | refine DS.skip ?_) | refine zbi [] yE trivial ?_ | fail)
 ·rename_i e1
  rw [if_pos (by omega)]; rfl
 ·rename_i e1
  rw [if_neg (by omega)]
  refine zcn [0, 1, 2, 3, 24, 25] yN (fun (x : List Int × Nat) => [(9, .own false 3 1 (x.1.map cI)), (26, I x.2)]) (fun (x : List Int × Nat) => x.2 ≤ points.length ∧ x.1 = (List.range x.2).map (zpt points places start shared) ∧ x.1.length = x.2) (fun (x : List Int × Nat) => points.length - x.2) ([], 0) yS (by simp) (fun x B hI hB => ?_); try dsimp only at hI hB; simp only [zas, zaw]
  obtain ⟨L, k⟩ := x
  dsimp only at hI hB
  obtain ⟨g1, g2, g3⟩ := hI
  have H := Box.mk g2
  clear g2
  by_cases hk : k < points.length
  ·have p1 := ymu points points[k]
   have p2 := zuw hk
   obtain ⟨p3, p4⟩ := hp _ (List.getElem_mem hk)
   obtain ⟨p5, p6⟩ := hq (places[zie points points[k] + zdx (points.take k) points[k]]'(by omega)) (List.getElem_mem _)
   have hB0 := hB
   clear hB
   obtain ⟨P, hPe⟩ : ∃ P, P = (places.drop (zie points points[k])).take (zdx points points[k]) := ⟨_, rfl⟩
   have hP : List.drop (zie points points[k]) (List.take (zie points points[k] + zdx points points[k]) (List.map cI places)) = P.map cI := by
    rw [List.drop_take, Nat.add_sub_cancel_left, hPe, List.map_take, List.map_drop]
   have hPl : P.length = zdx points points[k] := by rw [hPe, List.length_take, List.length_drop]; omega
   have hPb : ∀ x ∈ P, B40 x := fun x hx => hq x (List.mem_of_mem_drop (List.mem_of_mem_take (hPe ▸ hx)))
   have hnext : (List.range (k + 1)).map (zpt points places start shared) = L ++ [zpt points places start shared k] := by rw [List.range_succ, List.map_append, ← H.out]; rfl
   have hsc : zpt points places start shared k = points[k] - start + if shared then zps P.sum (zdx points points[k]) (zdx (points.take k) points[k]) else places[zie points points[k] + zdx (points.take k) points[k]]'(by omega) := by
    simp only [zpt, List.getD_eq_getElem?_getD, List.getElem?_eq_getElem hk, Option.getD_some]
    rw [← hPe, List.getElem?_eq_getElem (show zie points points[k] + zdx (points.take k) points[k] < places.length by omega)]; rfl
   have H2 := Box.mk (And.intro hPe (And.intro hPb (And.intro hnext hsc)))
   clear hPe hPb hnext hsc
   repeat' (first | (with_reducible refine zeg (t := 8) yU yO yX38 ?_; simp only [zao, zaf, zah, Nat.reduceEqDiff, ↓reduceIte, zak, zal, zar, zaj, zai, zap, zam]) | (with_reducible refine zeg (t := 9) yU yO yX38 ?_; simp only [zao, zaf, zah, Nat.reduceEqDiff, ↓reduceIte, zak, zal, zar, zaj, zai, zap, zam]) | (with_reducible refine zeg (t := 64) yU yO yX38 ?_; simp only [zao, zaf, zah, Nat.reduceEqDiff, ↓reduceIte, zak, zal, zar, zaj, zai, zap, zam]) | (with_reducible refine zeg (t := 73) yU yO yX38 ?_; simp only [zao, zaf, zah, Nat.reduceEqDiff, ↓reduceIte, zak, zal, zar, zaj, zai, zap, zam]) | (with_reducible first | refine zac yU yU yX38 ?_ | refine zab ?_ | refine DS.seq ?_ | refine zaa ?_ | (refine zbd yX38 ?_; first | refine zel (fun _ => ?_) (fun _ => ?_) | refine yha (fun _ => ?_) (fun _ => ?_)) | refine DS.blk ?_ | refine DS.block ?_ | refine DS.exit yU ?_ | refine DS.skip ?_) | (refine zfg yU yX38 yX38 ?_; simp only [go_sem, Nat.zero_add, Nat.reduceAdd]) | (refine DS.append (mm := false) yU yX38 yX38 yU (by decide) yX38 (by first | exact .inl rfl | exact .inr ⟨rfl, rfl⟩) yX38 yX39 (by first | exact zat zdt _ | exact zat zeq _ | exact zat Member.len _ | exact zat Sitting.len _ | exact zat Ruling.len _ | (simp only [List.mem_cons, List.not_mem_nil, or_false, forall_eq]; rfl) | simp) ⟨by (try simp only [List.length_map, List.length_cons, List.length_nil, List.length_append, List.length_take, List.length_drop]); omega, by decide⟩ ?_; simp only [zao, zaf, zah, Nat.reduceEqDiff, ↓reduceIte, zak, zal, zar, zaj, zai, zap, zam]) | refine zcf inferInstance (yeq points hk (by omega)) yR yX40 ?_ | refine zbi [] yX38 trivial ?_ | fail)
   all_goals first | (exfalso; omega) | skip
   ·rename_i e2 e3
    subst e3
    clear hP
    refine zcn [0, 1, 2, 3, 9, 11, 13, 14, 24, 25, 26, 50, 51] yN (fun (y : Int × Nat) => [(16, I y.1), (52, I y.2)]) (fun (y : Int × Nat) => y.2 ≤ P.length ∧ y.1 = (P.take y.2).sum ∧ -(y.2 : Int) * 1099511627776 ≤ y.1 ∧ y.1 ≤ (y.2 : Int) * 1099511627776) (fun (y : Int × Nat) => P.length - y.2) (0, 0) yS (by simp) (fun y B hI hB => ?_); try dsimp only at hI hB; simp only [zas, zaw]
    obtain ⟨a, j⟩ := y
    dsimp only at hI hB
    obtain ⟨j1, j2, j3, j4⟩ := hI
    have H3 := Box.mk j2
    clear j2
    by_cases hj : j < P.length
    ·obtain ⟨p7, p8⟩ := H2.out.2.1 _ (List.getElem_mem hj)
     repeat' (first | (with_reducible first | refine zac yU yU yE ?_ | refine zab ?_ | refine DS.seq ?_ | refine zaa ?_ | (refine zbd yE ?_; refine zel (fun _ => ?_) (fun _ => ?_)) | refine DS.blk ?_ | refine DS.block ?_ | refine DS.exit yU ?_ | refine DS.skip ?_) | fail)
     all_goals first | (exfalso; omega) | skip
     refine DS.back (hB (a + P[j], j + 1) _ _ (by dsimp only; omega) ⟨by dsimp only; omega, by dsimp only; rw [H3.out, zvt hj], by dsimp only; omega, by dsimp only; omega⟩ yS yS (fun b o e => by exact e))
    ·have hsh := ymc a (zdx points points[k] : Nat) (zdx (points.take k) points[k] : Nat) ⟨by omega, by omega⟩ (by omega) ⟨by omega, by omega⟩
     have hbd := yhp (sum := a) (many := (zdx points points[k] : Nat)) (at_ := (zdx (points.take k) points[k] : Nat)) ⟨by omega, by omega⟩ (by omega)
     obtain ⟨hb1, hb2⟩ := hbd
     repeat' (first | (with_reducible refine zeg (t := 9) yU yO yE ?_; simp only [zao, zaf, zah, Nat.reduceEqDiff, ↓reduceIte, zak, zal, zar, zaj, zai, zap, zam]) | (with_reducible refine zeg (t := 64) yU yO yE ?_; simp only [zao, zaf, zah, Nat.reduceEqDiff, ↓reduceIte, zak, zal, zar, zaj, zai, zap, zam]) | (with_reducible first | refine zac yU yU yE ?_ | refine zab ?_ | refine DS.seq ?_ | refine zaa ?_ | (refine zbd yE ?_; refine zel (fun _ => ?_) (fun _ => ?_)) | refine DS.blk ?_ | refine DS.block ?_ | refine DS.exit yU ?_ | refine DS.skip ?_) | (refine zfg yU yE yE ?_; simp only [go_sem, Nat.zero_add, Nat.reduceAdd]) | (refine DS.append (mm := false) yU yE yE yU (by decide) yE (by first | exact .inl rfl | exact .inr ⟨rfl, rfl⟩) yE yX0 (by first | exact zat zdt _ | exact zat zeq _ | exact zat Member.len _ | exact zat Sitting.len _ | exact zat Ruling.len _ | (simp only [List.mem_cons, List.not_mem_nil, or_false, forall_eq]; rfl) | simp) ⟨by (try simp only [List.length_map, List.length_cons, List.length_nil, List.length_append, List.length_take, List.length_drop]); omega, by decide⟩ ?_; simp only [zao, zaf, zah, Nat.reduceEqDiff, ↓reduceIte, zak, zal, zar, zaj, zai, zap, zam]) | refine zcf inferInstance (hsh) yR yT ?_ | fail)
     all_goals first | (exfalso; omega) | skip
     obtain ⟨h1, h2, h3, h4⟩ := H2.out
     have hjj : j = P.length := by omega
     have ha := H3.out
     rw [hjj, List.take_of_length_le (Nat.le_refl _)] at ha
     refine DS.back (hB0 (L ++ [zpt points places start true k], k + 1) _ _ (by dsimp only; omega) ⟨by dsimp only; omega, h3.symm, by simp; omega⟩ ?_ yS (fun b o e => by exact e))
     rw [h4, ← ha]
     simp only [zew, zfk, go_sem, ↓reduceIte, Nat.reduceEqDiff, List.map_append, Int.natCast_add, Int.natCast_one, and_self, if_true]
   ·rename_i e2 e3
    subst e3
    obtain ⟨h1, h2, h3, h4⟩ := H2.out
    refine DS.back (hB0 (L ++ [zpt points places start false k], k + 1) _ _ (by dsimp only; omega) ⟨by dsimp only; omega, h3.symm, by simp; omega⟩ ?_ yS (fun b o e => by exact e))
    rw [h4]
    simp only [zew, zfk, go_sem, ↓reduceIte, Nat.reduceEqDiff, List.map_append, Int.natCast_add, Int.natCast_one, and_self, if_false, Bool.false_eq_true]
  ·repeat' (first | (with_reducible refine zeg (t := 8) yU yO yE ?_; simp only [zao, zaf, zah, Nat.reduceEqDiff, ↓reduceIte, zak, zal, zar, zaj, zai, zap, zam]) | (with_reducible refine zeg (t := 73) yU yO yE ?_; simp only [zao, zaf, zah, Nat.reduceEqDiff, ↓reduceIte, zak, zal, zar, zaj, zai, zap, zam]) | (with_reducible first | refine zac yU yU yE ?_ | refine zab ?_ | refine DS.seq ?_ | refine zaa ?_ | (refine zbd yE ?_; refine zel (fun _ => ?_) (fun _ => ?_)) | refine DS.block ?_ | refine DS.exit yU ?_ | refine DS.skip ?_) | refine zbi [] yE trivial ?_ | fail)
   all_goals first | (exfalso; omega) | skip
   have h := H.out
   have hkk : k = points.length := by omega
   subst hkk
   rw [← h]; rfl
end Go.XL
namespace Go.XL
open Go.Proofs
set_option maxRecDepth 100000
set_option maxHeartbeats 8000000
theorem yX41 {p : Prop} (h : p := by (simp (disch := omega) only [go_sem, dopV, yV0, ↓reduceIte, Nat.reduceEqDiff, Nat.reduceLT, Nat.reduceLeDiff, Nat.reduceAdd, Nat.reduceMul, Nat.reduceSub, Int.reduceToNat, Int.reduceLT, Int.reduceLE, Int.reduceEq, IntWalk.toNatUp, IntWalk.iteOmega, IntWalk.i64_in, V.flat, V.one, *, yig, PRow.cell_copy]; exact rfl)) : p := h
theorem yhv {bx bp bm : Nat} {size : Nat} {rs : List (List Int)} {budget : Int} {n1 : Nat} (ih : yak bx bp bm size rs budget n1) {met : Int → Int → Bool} {w : W} {B : Int} {ps : List PRow} {r1 : Nat} {f : Int} {fr : List Int} (hg : GoodW B met w) (hB : B + (n1 + 1) ≤ 1000000000000) (hf : AscI (f :: fr))
  (hn : mzS rs r1 (f :: fr).length < n1 + 1) (hT : ∀ i (h : i < ps.length), ps[i].rows.length + (n1 + 1) ≤ 10000) (hps : ps.length = rs.length) (hr : r1 < rs.length) {b4 b5 b6 : Nat} {res : Int × Int × List (Nat × List Int)}
  {v1 : VH} {l : Nat} {rc : Loop} {c : Code} (hc : Tryz.f103.body.bind (zkc 12) = some c) (hst : rc.state = .ready) (hpend : rc.pending = none)
  {bf : Nat} {t : List Int} {X : List (List Int)} {S5 : Sto} {st : Int} {ps1 : List PRow} (e1 : ¬ st = budget) (htab : t.length = size ∧ t.Sublist (f :: fr) ∧ t.Pairwise (· < ·) ∧ t.headD 0 = (f :: fr).headD 0) (hpl : ps1.length = ps.length)
  (hrw : ∀ (i : Nat) (h : i < ps.length) (h' : i < ps1.length), ps1[i].rows = ps[i].rows) (hap : yci ps1 b5) (hsz : 3 ≤ size)
  (htry : tryL budget r1 (fun t s => srch size budget rs n1 (zjp met t) r1 ((f :: fr).filter fun id => !decide (id ∈ t)) s) (t :: X) st = res) (htabs : TabsOk size (f :: fr) X) (hr1 : r1 < ps1.length) {b' cap' : Nat} {junk' : List V}
  (g9 : SearchP S5 bx bp bm size rs budget (w64 (st + 1)) (addT 1 [] t w) (ps1.set r1 ⟨(ps1[r1]'hr1).rows ++ [t], some (b', cap', junk')⟩)) (oth : Oth S5 l b4 b5 b6 bf bx { rc with state := .busy } r1 (f :: fr)) (hb5 : b' ≠ b5) :
  DS Tryz.prog 108 ⟨some l, v1⟩ (fun _ _ => False) [.code c, .blk 3, .rnd (RndQ l (fun u S' => ((u = Bo true ∧ ∃ st ps1, FInv l b4 b5 b6 bx bp bm rc size rs budget w ps r1 (f :: fr) (fun t s => srch size budget rs n1 (zjp met t) r1 ((f :: fr).filter fun id => !decide (id ∈ t)) s) res X S' st ps1) ∨ (u = Bo false ∧ ∃ rc', FDone l b6 bx bp bm size rs budget w ps res S' rc')) ∧ zje S' bx l bf))]
   ((7, .plc [ints t]) :: eF bx b4 b5 b6) S5 := by
 obtain rfl := Option.some.inj ((show Tryz.f103.body.bind (zkc 12) = some _ from rfl).symm.trans hc)
 clear hc
 have hap5 : yci (ps1.set r1 ⟨(ps1[r1]'hr1).rows ++ [t], some (b', cap', junk')⟩) b5 := fun i h cap j e => by
  rw [List.getElem_set] at e
  split at e
  ·simp at e; exact hb5 e.1
  ·exact hap i (by simpa using h) cap j e
 have g5r : ∀ (i : Nat) (h : i < ps1.length) (h' : i < (ps1.set r1 ⟨(ps1[r1]'hr1).rows ++ [t], some (b', cap', junk')⟩).length), ((ps1.set r1 ⟨(ps1[r1]'hr1).rows ++ [t], some (b', cap', junk')⟩)[i]'h').rows = if r1 = i then (ps1[r1]'hr1).rows ++ [t] else (ps1[i]'h).rows := fun i h h' => by
  rw [List.getElem_set]; split <;> rfl
 have hl5 : (ps1.set r1 ⟨(ps1[r1]'hr1).rows ++ [t], some (b', cap', junk')⟩).length = ps.length := by rw [List.length_set]; exact hpl
 generalize ps1.set r1 ⟨(ps1[r1]'hr1).rows ++ [t], some (b', cap', junk')⟩ = ps5 at *
 have hin5 := oth.apart g9 hap5
 have hcl := ykm (f :: fr) (by have := hf.len; omega) (by simp)
 have hfl : ((f :: fr).filter fun id => !decide (id ∈ t)).length ≤ fr.length := by
  have h1 : t.headD 0 = f := htab.2.2.2
  have h2 : f ∈ t := by
   cases t with
   | nil => simp at htab; omega
   | cons a r => simp at h1; subst h1; simp
  rw [List.filter_cons, if_neg (by simp [h2])]; exact List.length_filter_le _ _
 have hasc : AscI ((f :: fr).filter fun id => !decide (id ∈ t)) := ⟨hf.asc.filter _, fun a ha => hf.in64 a (List.mem_filter.1 ha).1, Nat.le_trans (List.length_filter_le _ _) hf.len⟩
 have m4 := oth.o4
 have m5 := oth.o5
 have m6 := oth.o6
 have H := Box.mk (And.intro hg (And.intro hf (And.intro hT (And.intro hps (And.intro htab (And.intro hpl (And.intro hrw (And.intro hap (And.intro htry (And.intro htabs (And.intro g9 (And.intro oth (And.intro hap5 (And.intro g5r (And.intro hl5 (And.intro hin5 (And.intro hfl hasc)))))))))))))))))
 clear hg hf hT hps htab hpl hrw hap htry htabs g9 oth hap5 g5r hl5 hin5 hfl hasc
 repeat' (first | (with_reducible first | refine zac yU yU yE ?_ | refine DS.seq ?_ | refine zaa ?_) | fail)
 refine DS.call [] S5 inferInstance hcl yR yH (fun _ _ e => by cases e) (fun _ _ e => ⟨e, rfl⟩) ?_
 rintro u Sg ⟨g, rfl, gok, gl⟩ hdis
 simp only [zcz]
 repeat' (first | with_reducible refine zac yU yU yE ?_ | fail)
 have hde := zxa (f :: fr) g Sg gok (by simp) gl (g := 116) (fs := []) (cs := [.plc [ints t]]) (fun id => decide (id ∈ t)) inferInstance (fun x _ => ynr t x)
 refine DS.call Sg S5 inferInstance hde yR yH (fun b o e => by rw [zbr, e]) (fun b o e => ?_) ?_
 ·cases hb : zad Sg b with
  | none => exact ⟨by rw [zbr, hb]; exact e, rfl⟩
  | some o' => rw [hdis b o' hb] at e; cases e
 rintro u Sg2 rfl hdis2
 refine zqk hdis2 ?_
 clear hdis hdis2 gok gl hde hcl
 simp only [zcz]
 repeat' (first | (with_reducible first | refine zac yU yU yE ?_ | refine zab ?_ | refine DS.seq ?_ | refine zaa ?_) | fail)
 have hih := ih (zof (inP bx bp bm ps5) S5) (zjp met t) (addT 1 [] t w) (B + 1) (w64 (st + 1)) ps5 r1 ((f :: fr).filter fun id => !decide (id ∈ t)) H.out.2.2.2.2.2.2.2.2.2.2.1.keep (by rw [H.out.2.2.2.2.2.2.2.2.2.2.2.2.2.2.1, H.out.2.2.2.1]) hr (H.out.1.add (by omega) H.out.2.2.2.2.1.2.2.1) (by omega) H.out.2.2.2.2.2.2.2.2.2.2.2.2.2.2.2.2.2
  (by have h1 := H.out.2.2.2.2.2.2.2.2.2.2.2.2.2.2.2.2.1; simp only [mzS, List.length_cons] at hn ⊢; omega) (fun i h => by
   obtain ⟨_, _, hT, _, _, hpl, hrw, _, _, _, _, _, _, g5r, hl5, _⟩ := H.out
   have h2 : i < ps1.length := by omega
   have h3 := hT i (by omega)
   rw [g5r i h2 h]
   split
   ·rename_i hi
    subst hi
    rw [List.length_append, hrw r1 (by omega) h2, List.length_singleton]; omega
   ·rw [hrw i (by omega) h2]; omega)
 refine DS.call (zof (inP bx bp bm ps5) S5) (zof (fun b => !inP bx bp bm ps5 b) S5) inferInstance hih yR yH (fun b o e => ?_) (fun b o e => ?_) ?_
 ·rw [zhh] at e
  split at e
  ·exact e
  ·cases e
 ·rw [zhh] at e
  split at e
  ·rename_i hb
   refine ⟨e, ?_⟩
   rw [zhh, if_neg (by simpa using hb)]
  ·cases e
 rintro u S0 hu hdis
 obtain ⟨rfl, w2, ps2, h1, h2, h3, h4⟩ := hu
 clear hih ih
 generalize hr2 : srch size budget rs n1 (zjp met t) r1 ((f :: fr).filter fun id => !decide (id ∈ t)) (w64 (st + 1)) = res2 at *
 simp only [zcz]
 have hap2 : yci ps2 b5 := fun i h cap j e => by
  have h5 : zad (zof (fun b => !inP bx bp bm ps5 b) S5) b5 = some (.cells [ints (f :: fr)] 22) := by
   rw [zhh, if_pos (by rw [H.out.2.2.2.2.2.2.2.2.2.2.2.2.2.2.2.1 b5 (.inr (.inr (.inl rfl)))]; rfl)]; exact m5
  have h3 := h1.row i h
  generalize ps2[i] = p at e h3
  obtain ⟨T', blk⟩ := p
  dsimp only at e
  subst e
  rw [hdis b5 _ h3.1] at h5; cases h5
 have oth2 : Oth (S0 ++ zof (fun b => !inP bx bp bm ps5 b) S5) l b4 b5 b6 bf bx { rc with state := .busy } r1 (f :: fr) := H.out.2.2.2.2.2.2.2.2.2.2.2.1.of fun b hb => by
  have hib := H.out.2.2.2.2.2.2.2.2.2.2.2.2.2.2.2.1 b hb
  have h5 : zad (zof (fun b => !inP bx bp bm ps5 b) S5) b = zad S5 b := by rw [zhh, if_pos (by rw [hib]; rfl)]
  have oth := H.out.2.2.2.2.2.2.2.2.2.2.2.1
  have hsome : ∃ o, zad S5 b = some o := by
   rcases hb with rfl | rfl | rfl | rfl | rfl
   ·exact ⟨_, oth.lp⟩
   ·exact ⟨_, oth.o4⟩
   ·exact ⟨_, oth.o5⟩
   ·exact ⟨_, oth.o6⟩
   ·exact ⟨_, oth.sf⟩
  rw [zbr, ← h5]
  cases hb0 : zad S0 b with
  | none => rfl
  | some o =>
   exfalso
   rw [hdis b o hb0] at h5
   obtain ⟨o2, ho2⟩ := hsome
   rw [ho2] at h5; cases h5
 have g10 : SearchP (S0 ++ zof (fun b => !inP bx bp bm ps5 b) S5) bx bp bm size rs budget res2.2.1 w2 ps2 := h1.up fun b o e => by rw [zbr, e]
 generalize S0 ++ zof (fun b => !inP bx bp bm ps5 b) S5 = S6 at *
 have hlen2 : ps2.length = ps1.length := by rw [h2, H.out.2.2.2.2.2.2.2.2.2.2.2.2.2.2.1, H.out.2.2.2.2.2.1]
 have htry2 : (if res2.1 = 2 then tryL budget r1 (fun t s => srch size budget rs n1 (zjp met t) r1 ((f :: fr).filter fun id => !decide (id ∈ t)) s) X res2.2.1 else (res2.1, res2.2.1, (r1, t) :: res2.2.2)) = res := by
  have := H.out.2.2.2.2.2.2.2.2.1
  rw [tryL, if_neg e1] at this
  simp only [hr2] at this
  exact this
 have Ks := Box.mk (And.intro g10 (And.intro oth2 (And.intro hap2 (And.intro h3 (And.intro h4 (And.intro h2 (And.intro htry2 hr2)))))))
 have m4 := oth2.o4
 have m6 := oth2.o6
 clear g10 h1 h2 h3 h4 hdis htry2 hr2 oth2 hap2 m5
 clear m4 m6
 have m4 := Ks.out.2.1.o4
 have m6 := Ks.out.2.1.o6
 repeat' (first | (with_reducible first | refine zac yU yU yE ?_ | refine zab ?_ | refine DS.seq ?_ | refine zaa ?_ | (refine zbd yE ?_; refine zel (fun _ => ?_) (fun _ => ?_)) | refine DS.skip ?_) | (refine DS.store yR yE yE yE yE yU (by exact ⟨by with_unfolding_all rfl, by (try simp only [List.length_map, List.length_append, List.length_set, List.length_replicate, List.length_cons, List.length_nil]); omega⟩) ?_; simp only [zbo, zav, zaz, zbz, zbl, zbj, zbk]; try simp only [zao, zaf, zah, Nat.reduceEqDiff, ↓reduceIte, zak, zal, zar, zaj, zai, zap, zam]) | fail)
 ·rename_i e3
  obtain ⟨rfl, hrows2⟩ := Ks.out.2.2.2.1 e3
  have hr2' : r1 < ps2.length := hlen2 ▸ hr1
  have hr5 : r1 < ps5.length := by have := H.out.2.2.2.2.2.2.2.2.2.2.2.2.2.2.1; have := H.out.2.2.2.2.2.1; omega
  have hrow2 := hrows2 r1 hr5 hr2'
  rw [H.out.2.2.2.2.2.2.2.2.2.2.2.2.2.1 r1 hr1 hr5, if_pos rfl] at hrow2
  have hok2 := Ks.out.1.row r1 hr2'
  obtain ⟨b6', cap6, junk6, hblk⟩ : ∃ b6' cap6 junk6, (ps2[r1]'hr2').blk = some (b6', cap6, junk6) := by
   generalize ps2[r1]'hr2' = p2 at hok2 hrow2
   obtain ⟨T2, blk2⟩ := p2
   cases blk2 with
   | none => simp only [PRow.Ok] at hok2; subst hok2; simp at hrow2
   | some x => exact ⟨x.1, x.2.1, x.2.2, rfl⟩
  have hp2e : ps2[r1]'hr2' = ⟨(ps1[r1]'hr1).rows ++ [t], some (b6', cap6, junk6)⟩ := by
   generalize ps2[r1]'hr2' = p2 at hblk hrow2
   obtain ⟨T2, blk2⟩ := p2
   dsimp only at hblk hrow2; rw [hblk, hrow2]
  rw [hp2e] at hok2
  obtain ⟨o1, o2, o3, o4⟩ := hok2
  obtain ⟨ℓ, hℓ⟩ : ∃ ℓ, ℓ = (ps1[r1]'hr1).rows.length := ⟨_, rfl⟩
  have hc6 : (ps2[r1]'hr2').cell = .v (.slice (some ⟨b6', 0, none⟩) (ℓ + 1) cap6) := by rw [hp2e, PRow.cell_some, hℓ]; simp
  have hlc : ℓ + 1 ≤ cap6 := by rw [List.length_append, List.length_singleton] at o2; omega
  have hx6 := Ks.out.1.obj
  have hp6 := Ks.out.1.pln
  have hℓ2 : ℓ ≤ 10000 := by
   have h0 := H.out.2.2.2.2.2.1
   have h1 := H.out.2.2.1 r1 (by omega)
   rw [hℓ, H.out.2.2.2.2.2.2.1 r1 (by omega) hr1]; omega
  have Ku := Box.mk (And.intro hp2e (And.intro hblk (And.intro o1 (And.intro o2 (And.intro o3 (And.intro o4 (And.intro hrows2 hℓ)))))))
  clear hp2e hblk o1 o2 o3 o4 hrows2 hrow2 hℓ
  have Kl := Box.mk hlen2
  clear hlen2
  have m5 := Ks.out.2.1.o5
  repeat' (first | (with_reducible first | refine zac yU yU yX41 ?_ | refine zab ?_ | refine DS.seq ?_ | refine zaa ?_) | (refine DS.store yR yX41 yX41 yX41 yX41 yU (by exact ⟨by with_unfolding_all rfl, by (try simp only [List.length_map, List.length_append, List.length_set, List.length_replicate, List.length_cons, List.length_nil]); omega⟩) ?_; simp only [zbo, zav, zaz, zbz, zbl, zbj, zbk]; try simp only [zao, zaf, zah, Nat.reduceEqDiff, ↓reduceIte, zak, zal, zar, zaj, zai, zap, zam]) | refine zce (id := 16) [0, 1, 2, 3, 4, 5, 6, 7, 8, 9, 10, 11, 12, 13, 14, 15, 16, 17, 18, 19, 20, 21] 22 (by kernel_rfl) zdq (by simp only [zbb, zbe, zbf, zbg, zba]; exact rfl) (by simp only [zax, zay, List.drop_nil]; exact rfl) ?_ | (with_reducible first | refine zbw yU yU yU yX41 ?_ | refine zdc ?_) | fail)
  refine zer (S' := setS bp (.cells ((ps2.map PRow.cell).set r1 (.v (.slice (some ⟨b6', 0, none⟩) (ps1[r1]'hr1).rows.length cap6))) 49) S6) (fun b o e => by rw [← Ku.out.2.2.2.2.2.2.2] at e; exact e) ?_
  have hbp6 : b6' ≠ bp := (Ks.out.1.rx r1 hr2' b6' cap6 junk6 Ku.out.2.1).2
  have g14 : SearchP (setS bp (.cells ((ps2.map PRow.cell).set r1 (.v (.slice (some ⟨b6', 0, none⟩) (ps1[r1]'hr1).rows.length cap6))) 49) S6) bx bp bm size rs budget res2.2.1 (addT 1 [] t w) (ps2.set r1 ⟨(ps1[r1]'hr1).rows, some (b6', cap6, ints t :: junk6)⟩) := by
   refine Ks.out.1.turn hr2' (.inl ⟨cap6, junk6, Ku.out.2.1⟩) ⟨?_, ?_, Ku.out.2.2.2.2.1, ?_⟩ ?_ fun b e4 e5 e6 => ?_
   ·rw [zbh Ks.out.1.pln, if_neg hbp6, Ku.out.2.2.1]; simp
   ·have := Ku.out.2.2.2.1; simp only [List.length_append, List.length_cons, List.length_nil] at this ⊢; omega
   ·intro v hv
    rcases List.mem_cons.1 hv with rfl | hv
    ·rfl
    ·exact Ku.out.2.2.2.2.2.1 v hv
   ·rw [zbh Ks.out.1.pln, if_pos rfl]
   ·rw [zbh Ks.out.1.pln, if_neg e4]
  have hap14 : yci (ps2.set r1 ⟨(ps1[r1]'hr1).rows, some (b6', cap6, ints t :: junk6)⟩) b5 := fun i h cap j e => by
   rw [List.getElem_set] at e
   split at e
   ·simp only [Option.some.injEq, Prod.mk.injEq] at e
    exact Ks.out.2.2.1 r1 hr2' cap6 junk6 (e.1 ▸ Ku.out.2.1)
   ·exact Ks.out.2.2.1 i (by simpa using h) cap j e
  have oth14 := Ks.out.2.1.of (T' := setS bp (.cells ((ps2.map PRow.cell).set r1 (.v (.slice (some ⟨b6', 0, none⟩) (ps1[r1]'hr1).rows.length cap6))) 49) S6) (fun b hb => by
   rw [zbh Ks.out.1.pln, if_neg (zmz (Ks.out.2.1.apart Ks.out.1 Ks.out.2.2.1 b hb)).2.1])
  generalize setS bp (.cells ((ps2.map PRow.cell).set r1 (.v (.slice (some ⟨b6', 0, none⟩) (ps1[r1]'hr1).rows.length cap6))) 49) S6 = S7 at *
  clear m4 m5 m6 hx6 hp6 hc6
  have htk := yhe S7 g14.obj g14.map g14.xm t (-1) (fun a ha => H.out.2.1.in64 a (H.out.2.2.2.2.1.2.1.subset ha)) (by have := H.out.2.2.2.2.1.2.1.length_le; have := H.out.2.1.len; omega)
  refine zdv inferInstance htk yR yH (fun u4 S8 hu4 => ?_)
  have g15 := g14.counted hu4.1 hu4.2
  rw [yky H.out.1 (by omega) H.out.2.2.2.2.1.2.2.1] at g15
  have oth15 := oth14.of (T' := S8) (fun b hb => hu4.2 b (zmz (oth14.apart g14 hap14 b hb)).2.2.1)
  clear htk hu4 g14 oth14
  repeat' (first | (with_reducible first | refine zab ?_ | refine DS.exit yU ?_) | fail)
  refine yqv (ymi (st := res2.2.1) (ps1 := ps2.set r1 ⟨(ps1[r1]'hr1).rows, some (b6', cap6, ints t :: junk6)⟩) hst hpend oth15 g15 ?_ (fun i h h' => ?_) hap14 ?_ H.out.2.2.2.2.2.2.2.2.2.1)
  ·rw [List.length_set]; exact Kl.out.trans H.out.2.2.2.2.2.1
  ·have hi1 : i < ps1.length := by have := H.out.2.2.2.2.2.1; omega
   have hi2 : i < ps2.length := by simpa using h'
   have hi5 : i < ps5.length := by have := H.out.2.2.2.2.2.2.2.2.2.2.2.2.2.2.1; omega
   rw [List.getElem_set]
   by_cases hir : r1 = i
   ·subst hir; rw [if_pos rfl]; exact H.out.2.2.2.2.2.2.1 r1 h hi1
   ·rw [if_neg hir, Ku.out.2.2.2.2.2.2.1 i hi5 hi2, H.out.2.2.2.2.2.2.2.2.2.2.2.2.2.1 i hi1 hi5, if_neg hir]; exact H.out.2.2.2.2.2.2.1 i h hi1
  ·have h7 := Ks.out.2.2.2.2.2.2.1
   rw [if_pos e3] at h7
   exact h7
 ·rename_i e3
  obtain ⟨g10, oth2, hap2, h3, h4, h2, htry2, hr2⟩ := Ks.out
  obtain ⟨_, _, _, _, _, hpl, hrw, _, _, _, _, _, _, g5r, hl5, _⟩ := H.out
  rw [if_neg e3] at htry2
  subst htry2
  refine yll rfl (ycy (rc := rc) ?_ ?_ ?_ ?_)
  ·rw [zbh m6, if_neg (fun e => by rw [← e, oth2.lp] at m6; cases m6)]; exact oth2.lp
  ·rw [zbh m6, if_pos rfl]; rfl
  ·refine ⟨rfl, w2, ps2, g10.setI m6 _, hlen2.trans hpl, fun h => absurd h e3, fun h i h1 h2' => ?_⟩
   have hi1 : i < ps1.length := by omega
   have hi5 : i < ps5.length := by omega
   rw [h4 h i hi5 h2', g5r i hi1 hi5]
   by_cases hir : r1 = i
   ·subst hir
    rw [if_pos rfl, hrw r1 h1 hi1, List.filter_cons, if_pos (by simp)]; simp
   ·rw [if_neg hir, hrw i h1 hi1, List.filter_cons, if_neg (by simpa using hir)]
  ·have sf := oth2.sf
   simp only [zje] at sf ⊢
   rw [zbh m6, if_neg (fun e => by rw [e, m6] at sf; simp at sf)]; exact sf
end Go.XL
namespace Go.XL
open Go.Proofs
set_option maxRecDepth 100000
set_option maxHeartbeats 8000000
theorem ymg {bx bp bm : Nat} {size : Nat} {rs : List (List Int)} {budget : Int} (hsz : 3 ≤ size ∧ size ≤ 4) {n1 : Nat} (ih : yak bx bp bm size rs budget n1) {met : Int → Int → Bool} {w : W} {B : Int} {ps : List PRow} {r1 : Nat} {f : Int} {fr : List Int} (hg : GoodW B met w) (hB : B + (n1 + 1) ≤ 1000000000000) (hf : AscI (f :: fr))
  (hn : mzS rs r1 (f :: fr).length < n1 + 1) (hT : ∀ i (h : i < ps.length), ps[i].rows.length + (n1 + 1) ≤ 10000) (hps : ps.length = rs.length) (hr : r1 < rs.length) {b4 b5 b6 : Nat} {res : Int × Int × List (Nat × List Int)}
  {v1 : VH} {l : Nat} {rc : Loop} {x y : Code} (hxy : Tryz.f103.body.bind rfOf = some (x, y)) (hknow : yqt v1 108 (eF bx b4 b5 b6) rc.tmps) (hpar : rc.params = #[35]) (hass : rc.assign = x) (hbod : rc.body = y) (hst : rc.state = .ready) (hpend : rc.pending = none)
  (bf : Nat) (t : List Int) (X : List (List Int)) (T : Sto) (st : Int) (ps1 : List PRow) (ht : t.length = size) (hself : zje T bx l bf)
  (q : FInv l b4 b5 b6 bx bp bm rc size rs budget w ps r1 (f :: fr) (fun t s => srch size budget rs n1 (zjp met t) r1 ((f :: fr).filter fun id => !decide (id ∈ t)) s) res (t :: X) T st ps1) :
  YC v1 Tryz.prog l [ints t] T (fun u S' => ((u = Bo true ∧ ∃ st ps1, FInv l b4 b5 b6 bx bp bm rc size rs budget w ps r1 (f :: fr) (fun t s => srch size budget rs n1 (zjp met t) r1 ((f :: fr).filter fun id => !decide (id ∈ t)) s) res X S' st ps1) ∨ (u = Bo false ∧ ∃ rc', FDone l b6 bx bp bm size rs budget w ps res S' rc')) ∧ zje S' bx l bf) := by
 obtain ⟨rfl, rfl⟩ := Prod.mk.inj (Option.some.inj ((show Tryz.f103.body.bind rfOf = some (_, _) from rfl).symm.trans hxy))
 clear hxy
 generalize hrec : (fun t s => srch size budget rs n1 (zjp met t) r1 ((f :: fr).filter fun id => !decide (id ∈ t)) s) = rec at *
 refine YC.of_run (n := 108) (rc := rc) (E := eF bx b4 b5 b6) hknow.1 hknow.2 hst q.lp (by rw [hpar]; rfl) (by rw [hpar]; simp) ?_
 rw [hpar, hass, hbod]
 simp only [yif, ymp, zbp]
 clear hknow hpar hass hbod
 repeat' (first | (with_reducible first | refine zab ?_ | refine zaa ?_) | (refine zia (t := 7) yU yE yU (fun _ => yE) yE yU (by exact ⟨by with_unfolding_all rfl, by with_unfolding_all decide⟩) (fun _ => by simp only [go_sem, Nat.reduceEqDiff, ↓reduceIte]) ?_; simp only [go_sem]) | fail)
 refine DS.back ⟨rc, q.lp, hst, ?_⟩
 have q1 := q.s.setL q.lp (.raw (.loop { rc with state := .busy }))
 have nl : ∀ {b : Nat} {o : List V × TypeId}, zad T b = some (.cells o.1 o.2) → b ≠ l := fun {b o} h e => by rw [e, q.lp] at h; cases h
 have oth : Oth (setS l (.raw (.loop { rc with state := .busy })) T) l b4 b5 b6 bf bx { rc with state := .busy } r1 (f :: fr) :=
  ⟨by rw [zbh q.lp, if_pos rfl], by rw [zbh q.lp, if_neg (nl (o := ([I r1], 3)) q.o4)]; exact q.o4, by rw [zbh q.lp, if_neg (nl (o := ([ints (f :: fr)], 22)) q.o5)]; exact q.o5, by rw [zbh q.lp, if_neg (nl (o := ([I 0], 3)) q.o6)]; exact q.o6, by
   have h := hself
   simp only [zje] at h ⊢
   rw [zbh q.lp, if_neg (fun e => by rw [e, q.lp] at h; cases h)]; exact h⟩
 have htab := q.tabs.each t (List.mem_cons_self ..)
 have hpl := q.pl
 have hrw := q.rows
 have hap := q.ap
 have htry := q.try_
 have htabs : TabsOk size (f :: fr) X := ⟨fun x hx => q.tabs.each x (List.mem_cons_of_mem _ hx)⟩
 generalize setS l (.raw (.loop { rc with state := .busy })) T = T1 at *
 have hx1 := q1.obj
 have m4 := oth.o4
 have m5 := oth.o5
 have m6 := oth.o6
 have hr1 : r1 < ps1.length := by omega
 have H := Box.mk (And.intro oth (And.intro q1 (And.intro hg (And.intro hf (And.intro ih (And.intro hrec (And.intro htab (And.intro hrw (And.intro hap (And.intro htry (And.intro htabs (And.intro hT (And.intro hpl hps)))))))))))))
 clear q oth q1 hself nl hg hf hrec ih htab hrw hap htry htabs hT hpl hps
 repeat' (first | (with_reducible first | refine zac yU yU yX25 ?_ | refine zab ?_ | refine DS.seq ?_ | refine zaa ?_ | (refine zbd yX25 ?_; refine zel (fun _ => ?_) (fun _ => ?_)) | refine DS.block ?_ | refine DS.skip ?_) | (refine DS.store yR yX25 yX25 yX25 yX25 yU (by exact ⟨by with_unfolding_all rfl, by (try simp only [List.length_map, List.length_append, List.length_set, List.length_replicate, List.length_cons, List.length_nil]); omega⟩) ?_; simp only [zbo, zav, zaz, zbz, zbl, zbj, zbk]; try simp only [zao, zaf, zah, Nat.reduceEqDiff, ↓reduceIte, zak, zal, zar, zaj, zai, zap, zam]) | refine zce (id := 8) [0, 1, 2, 3, 4, 5, 6, 7] 8 (by kernel_rfl) zdq (by simp only [zbb, zbe, zbf, zbg, zba]; exact rfl) (by simp only [zax, zay, List.drop_nil]; exact rfl) ?_ | (with_reducible first | refine zbw yU yU yU yX25 ?_ | refine zdc ?_) | fail)
 ·rename_i e1
  obtain ⟨oth, q1, hg, hf, ih, hrec, htab, hrw, hap, htry, htabs, hT, hpl, hps⟩ := H.out
  rw [tryL, if_pos e1] at htry
  subst htry
  refine yll rfl (ycy (rc := rc) ?_ ?_ ?_ ?_)
  ·rw [zbh m6, if_neg (fun e => by rw [← e, oth.lp] at m6; cases m6)]; exact oth.lp
  ·rw [zbh m6, if_pos rfl]; rfl
  ·exact ⟨rfl, w, ps1, q1.setI m6 _, hpl, fun h => by simp at h, fun h => by simp at h⟩
  ·have sf := oth.sf
   simp only [zje] at sf ⊢
   rw [zbh m6, if_neg (fun e => by rw [e, m6] at sf; simp at sf)]; exact sf
 ·rename_i e1
  have g6 := H.out.2.1.steps' (w64 (st + 1))
  have oth2 := H.out.1.of (T' := setS bx (.cells (pC size budget (w64 (st + 1)) rs bp ps1.length bm) TP) T1) (fun b hb => by
   have := zmz (H.out.1.apart H.out.2.1 H.out.2.2.2.2.2.2.2.2.1 b hb)
   rw [zbh hx1, if_neg this.1])
  refine zer (S' := setS bx (.cells (pC size budget (w64 (st + 1)) rs bp ps1.length bm) TP) T1) (fun b o e => by exact e) ?_
  generalize setS bx (.cells (pC size budget (w64 (st + 1)) rs bp ps1.length bm) TP) T1 = T2 at *
  clear hx1 m4 m5 m6
  refine zdv inferInstance (yhe T2 g6.obj g6.map g6.xm t 1 (fun a ha => H.out.2.2.2.1.in64 a (H.out.2.2.2.2.2.2.1.2.1.subset ha)) (by omega)) yR yH (fun u S3 hu => ?_)
  have g7 := g6.counted hu.1 hu.2
  have oth3 := oth2.of (T' := S3) (fun b hb => hu.2 b (zmz (oth2.apart g6 H.out.2.2.2.2.2.2.2.2.1 b hb)).2.2.1)
  clear hu g6 oth2
  have hx3 := g7.obj
  have hp3 := g7.pln
  obtain ⟨p, hp⟩ : ∃ p, p = ps1[r1] := ⟨_, rfl⟩
  have hrow := g7.row r1 hr1
  rw [← hp] at hrow
  have hpc : (ps1.map PRow.cell)[r1]? = some p.cell := by rw [List.getElem?_map, List.getElem?_eq_getElem hr1, ← hp]; rfl
  obtain ⟨S0, Sr, k0, k1, k2, k3⟩ := PRow.split hrow
  have hx0 : zad S0 bx = _ := (k3 bx fun cap jk h => (g7.rx r1 hr1 bx cap jk (hp ▸ h)).1 rfl).1.trans hx3
  have hp0 : zad S0 bp = _ := (k3 bp fun cap jk h => (g7.rx r1 hr1 bp cap jk (hp ▸ h)).2 rfl).1.trans hp3
  have h40 : zad S0 b4 = _ := (k3 b4 fun cap jk h => (zmz (oth3.apart g7 H.out.2.2.2.2.2.2.2.2.1 b4 (.inr (.inl rfl)))).2.2.2 r1 hr1 cap jk (hp ▸ h)).1.trans oth3.o4
  have hpr : p.rows.length + (n1 + 1) ≤ 10000 := by rw [hp, H.out.2.2.2.2.2.2.2.1 r1 (H.out.2.2.2.2.2.2.2.2.2.2.2.2.2 ▸ hr) hr1]; exact H.out.2.2.2.2.2.2.2.2.2.2.2.1 r1 _
  subst hp
  have Kq := Box.mk (And.intro hrow (And.intro k3 (And.intro k2 (And.intro g7 (And.intro hpr oth3)))))
  have m4 := oth3.o4
  have m5 := oth3.o5
  have m6 := oth3.o6
  clear hx3 hp3 hrow k3 g7 k2 hpc hpr oth3
  repeat' (first | (with_reducible first | refine zab ?_ | refine DS.seq ?_) | fail)
  refine zgx (id := 12) (S0) (Sr) [0, 1, 2, 3, 4, 5, 6, 7, 8, 9, 10, 11, 12, 13, 14] 15 (by kernel_rfl) zdq (by simp only [zbb, zbe, zbf, zbg, zba]; exact rfl) (by simp only [zax, zay, List.drop_nil]; exact rfl) (k0) (k1) ?_
  repeat' (first | with_reducible refine zbw yU yU yU yX41 ?_ | (refine zhn yU yX41 yX41 ?_; simp only [go_sem, Nat.zero_add, Nat.reduceAdd]; simp only [zcc, zcm, Nat.reduceEqDiff, ↓reduceIte]) | fail)
  refine znh rfl rfl rfl yR (zvi (p := ps1[r1]'hr1) (tab := t) rfl yT yT yR yR yT Kq.out.2.2.1 yT yX17 ⟨by have := Kq.out.2.2.2.2.1; omega, by decide⟩) (fun u2 E' S4 hu2 hdis => ?_)
  obtain ⟨rfl, b', cap', junk', rfl, m1, m2, m3⟩ := hu2
  have hrowv : (ps1[r1]'hr1).rows = (ps[r1]'(by have := H.out.2.2.2.2.2.2.2.2.2.2.2.2.1; omega)).rows := H.out.2.2.2.2.2.2.2.1 r1 (by have := H.out.2.2.2.2.2.2.2.2.2.2.2.2.1; omega) hr1
  obtain ⟨g8, g9, g10⟩ := Kq.out.2.2.2.1.appended hr1 rfl Kq.out.2.1 hdis m1 m2 m3
  have hb5 : b' ≠ b5 := fun e => by
   have h5 : zad S0 b5 = _ := (Kq.out.2.1 b5 fun cap jk h => H.out.2.2.2.2.2.2.2.2.1 r1 hr1 cap jk h).1.trans Kq.out.2.2.2.2.2.o5
   have := m1.1
   rw [e, hdis b5 _ h5] at this; cases this
  clear m1 m2 m3 hdis hx0 hp0 h40 k0 k1 m4 m5 m6
  simp only [PRow.cell_some, zcz]
  refine zac yR yR yG ?_
  refine DS.store yR yG yG yG g8 yU ⟨by with_unfolding_all rfl, by simp only [List.length_map]; omega⟩ ?_
  refine zab ?_
  simp only [zbo, zav, zaz, zbz]
  refine zdy (E' := (7, .plc [ints t]) :: eF bx b4 b5 b6) (zek yS) (fun _ _ e => e) ?_
  obtain ⟨oth, q1, hg, hf, ih, hrec, htab, hrw, hap, htry, htabs, hT, hpl, hps⟩ := H.out
  subst hrec
  have oth5 := Kq.out.2.2.2.2.2.of (T' := setS bp (.cells ((ps1.map PRow.cell).set r1 (.v (.slice (some ⟨b', 0, none⟩) ((ps1[r1]'hr1).rows ++ [t]).length cap'))) 49) (S4 ++ S0)) (fun b hb => by
   have h1 := zmz (Kq.out.2.2.2.2.2.apart Kq.out.2.2.2.1 hap b hb)
   have hsome : ∃ o, zad S3 b = some o := by
    have oth := Kq.out.2.2.2.2.2
    rcases hb with rfl | rfl | rfl | rfl | rfl
    ·exact ⟨_, oth.lp⟩
    ·exact ⟨_, oth.o4⟩
    ·exact ⟨_, oth.o5⟩
    ·exact ⟨_, oth.o6⟩
    ·exact ⟨_, oth.sf⟩
   obtain ⟨o, ho⟩ := hsome
   rw [ho]
   exact g10 b o h1.2.1 (fun cap j h => h1.2.2.2 r1 hr1 cap j h) ho)
  exact yhv ih hg hB hf hn hT hps hr yR hst hpend e1 htab hpl hrw hap hsz.1 htry htabs hr1 g9 oth5 hb5
end Go.XL
