/- A part of a program logic over the kit's walk rules, and contracts of functions in it. Conditions: as each theorem says. -/
import Derived.Test.YtbbhoipphnbdiaaGreatDoorU8
import Derived.Test.YtbbhoipphnbdiaaGreatDoorRows
import Derived.WideKeyArgs
import Derived.OpenShut
import Derived.WalkKit
import Derived.ProofKit
import Derived.Laws.StructEq
import Derived.WideKeyElems2
import Derived.LaidMore
import Derived.Lay
import Derived.SevenTiedAt
import Derived.Stop.Joined
import Derived.LaidSub
set_option linter.all false
namespace Go.XL
open Go.Proofs
set_option maxRecDepth 100000
set_option maxHeartbeats 8000000
theorem zlm {L:List Int} {i:Nat} (h:i<L.length):L.getD i 0=L[i]:=by
 rw[List.getD_eq_getElem?_getD,List.getElem?_eq_getElem h];rfl
theorem yfh (h:House):h.CondsPC:=⟨zmh _ _,fun i hi=>zmh _ _⟩
theorem zsx (l : List Int) (dealer counters sticks : Int) (hdealer : -9223372036854775808 ≤ dealer ∧ dealer ≤ 9223372036854775807) (hcounters : -9223372036854775808 ≤ counters ∧ counters ≤ 9223372036854775807) (hsticks : -9223372036854775808 ≤ sticks ∧ sticks ≤ 9223372036854775807) : PC Tryz.prog 6 [ints l, I dealer, I counters, I sticks] (Bo true) := by
  have hi2 := zwb counters 101 hcounters (by omega)
  have hi3 := zwb sticks 4001 hsticks (by omega)
  have m3 := Int.emod_nonneg counters (show (101 : Int) ≠ 0 by omega)
  have m4 := Int.emod_lt_of_pos counters (show (0 : Int) < 101 by omega)
  have m5 := Int.emod_nonneg sticks (show (4001 : Int) ≠ 0 by omega)
  have m6 := Int.emod_lt_of_pos sticks (show (0 : Int) < 4001 by omega)
  generalize counters % 101 = c at *
  generalize sticks % 4001 = sk at *
  refine DC.of_run Tryz.func6 rfl Tryz.ntmps6 Tryz.results6 (by simp) (fun _ _ => ?_); simp only [zag, zai, go_sem, Nat.zero_add, Nat.reduceAdd]
  repeat' (first | refine yJ ?_ | fail)
  refine zzw inferInstance (yaq l) yR yH (fun u S' hu => ?_)
  obtain ⟨bs, x0, s, fs, h, hd, w, rfl, rfl, hs, hM, hH, hw⟩ := hu
  clear hH hw
  have hMB := Box.mk (And.intro hs hM)
  clear hs hM
  repeat' (first | refine yJ ?_ | fail)
  refine zbd yR yU yU (fun c1 g1 => ?_)
  have a1 : ¬ c1 = bs := fun e => by subst e; simp [zaf] at g1
  have a1' : ¬ bs = c1 := fun e => a1 e.symm
  clear g1
  refine zbs (S' := [(c1, Ob.cells zdl 38), (bs, srcO x0)]) (fun d o e => e) ?_
  skip
  refine zbd yR yU yU (fun c2 g2 => ?_)
  have g2 := zeu g2
  simp only [List.map_cons, List.map_nil, List.mem_cons, List.not_mem_nil, or_false, not_or] at g2
  obtain ⟨a2, a3⟩ := g2
  have a2' : ¬ c1 = c2 := fun e => a2 e.symm
  have a3' : ¬ bs = c2 := fun e => a3 e.symm
  refine zbs (S' := [(c2, Ob.cells [.v (.slice none 0 0), .v (.slice none 0 0)] 41), (c1, Ob.cells zdl 38), (bs, srcO x0)]) (fun d o e => e) ?_
  skip
  refine zbd yR yU yU (fun c3 g3 => ?_)
  have g3 := zeu g3
  simp only [List.map_cons, List.map_nil, List.mem_cons, List.not_mem_nil, or_false, not_or] at g3
  obtain ⟨a4, a5, a6⟩ := g3
  have a4' : ¬ c2 = c3 := fun e => a4 e.symm
  have a5' : ¬ c1 = c3 := fun e => a5 e.symm
  have a6' : ¬ bs = c3 := fun e => a6 e.symm
  refine zbs (S' := [(c3, Ob.cells [I 0, Bo false, I 0, I 0, .v (.slice none 0 0), I 0] 43), (c2, Ob.cells [.v (.slice none 0 0), .v (.slice none 0 0)] 41), (c1, Ob.cells zdl 38), (bs, srcO x0)]) (fun d o e => e) ?_
  repeat' (first | refine yJ ?_ | fail)
  refine DS.store (b := c1) (off := 0) (m := 46) (cl := zdl) (T' := 38) yR yH yG yU (by simp only [zaa, a2, a4, a5, ↓reduceIte]) yR ⟨by rfl, by decide⟩ ?_
  rw [zfi _ _ yR]
  simp only [setS, a2, a5, ↓reduceIte, zfo]
  refine zhr (t := 10) (b := c1) (l := h.cells) yH (by simp only [zaa, a2, a4, a5, ↓reduceIte]; rfl) ?_
  rw [show h.cells.map V.copy = h.cells from rfl]
  simp only [zab, zac, a1, a1', a2, a2', a3, a3', a4, a4', a5, a5', a6, a6', ↓reduceIte]
  repeat' (first | refine yJ ?_ | (refine DS.store yR yE yE yE yE yU yQ ?_; simp only [yS1]; try simp only [yS2, Nat.reduceEqDiff, ↓reduceIte]) | fail)
  simp only [setS, a1, a1', a2, a2', a3, a3', a4, a4', a5, a5', a6, a6', ↓reduceIte]
  refine zbs (S' := [(bs, srcO x0)]) (fun d o e => ?_) ?_
  · simp only [zaa, zah] at e ⊢
    split at e
    · rename_i hq; subst hq; simp only [a3, a6, ↓reduceIte]; exact e
    · cases e
  clear a1 a1' a2 a2' a3 a3' a4 a4' a5 a5' a6 a6' g2 g3
  have hn : 3 ≤ h.set.players ∧ h.set.players ≤ 4 := by rw [hMB.out.2.set]; exact (zca hMB.out.1).players
  have jd := zwb dealer h.set.players hdealer (by omega)
  have kd := Int.emod_nonneg dealer (show h.set.players ≠ 0 by omega)
  have ld := Int.emod_lt_of_pos dealer (show 0 < h.set.players by omega)
  generalize dealer % h.set.players = d at *
  have hst := (ycq (znl hMB.out.2.ok).pay).2
  simp only [Bool.and_eq_true, ptB, decide_eq_true_eq] at hst
  have hstk := hst.1.1.1.2
  have hm1 : 0 ≤ sk * h.pay.stick := Int.mul_nonneg m5 hstk.1
  have hm2 : sk * h.pay.stick ≤ 4000 * 1000000 := Int.mul_le_mul (by omega) hstk.2 hstk.1 (by omega)
  clear hst hstk
  have cr := zcd bs x0 1 (h.set.players - 1) (by omega)
  have br := zcn (x := x0) (lo := 1) (hi := h.set.players - 1) (by omega)
  obtain ⟨N, hN⟩ : ∃ N : Nat, (N : Int) = zbv x0 1 (h.set.players - 1) := ⟨(zbv x0 1 (h.set.players - 1)).toNat, by omega⟩
  rw [← hN] at cr br
  clear hN
  repeat' (first | (with_reducible (refine zbt (t := 14) yU yO yE ?_)) | refine yJ ?_ | refine zan inferInstance (hi2) yR yF ?_ | refine zan inferInstance (hi3) yR yF ?_ | refine zan inferInstance (jd) yR yF ?_ | (refine zkm yU yE yE yE yE yU yU ⟨by omega, by omega, by decide, by omega⟩ (fun _ hfr => ?_)) | fail)
  rename_i bo
  have n1 := zeu hfr
  simp only [List.map_cons, List.map_nil, List.mem_cons, List.not_mem_nil, or_false] at n1
  have n1' : ¬ bs = bo := fun e => n1 e.symm
  clear hfr hi2 hi3 jd
  rw [ylt (List.replicate h.set.players.toNat 0) rfl]
  refine zaw inferInstance cr yR yH (by simp only [zaa, n1, ↓reduceIte]) ?_
  simp only [zab, zac, n1, n1', ↓reduceIte]
  clear cr
  repeat' (first | refine yJ ?_ | fail)
  obtain ⟨K, hK⟩ : ∃ K, sk * h.pay.stick = K := ⟨_, rfl⟩
  have hKb : 0 ≤ K ∧ K ≤ 4000000000 := by omega
  have HK := Box.mk (And.intro hK (And.intro hm1 hm2))
  clear hm1 hm2
  refine zbl [1, 2, 3, 9, 10, 13, 15] yN (fun (y : Nat × Int × List WinRow × List Int × List Int) => [(14, .own false 68 5 (y.2.2.1.map WinRow.cells)), (16, I y.1)]) (fun (y : Nat × Int × List WinRow × List Int × List Int) => [(bs, srcO y.2.1), (bo, objI y.2.2.2.2)]) (fun (y : Nat × Int × List WinRow × List Int × List Int) => y.1 + y.2.2.1.length = N ∧ Sums h d c K y.2.2.1 y.2.2.2.1 y.2.2.2.2) (fun (y : Nat × Int × List WinRow × List Int × List Int) => y.1) (N, stepX x0, [], List.replicate h.set.players.toNat 0, List.replicate h.set.players.toNat 0) yS (fun b o e => by exact e) ⟨rfl, Sums.nil h d c K⟩ (fun y B hI hB => ?_); try dsimp only at hI hB; simp only [zad, zae]
  obtain ⟨i, z, rws, acc, W⟩ := y
  dsimp only at hI hB ⊢
  obtain ⟨hI, hS⟩ := hI
  have hWl := hS.wlen
  have hWb := hS.wbd hKb (by omega)
  have HB := Box.mk (And.intro hB (And.intro hS hWb))
  clear hB hS hWb
  by_cases hi : (0 : Int) < (i : Int)
  · obtain ⟨i, rfl⟩ : ∃ k, i = k + 1 := ⟨i - 1, by omega⟩
    have cw := zaz bs z h.set.players (by omega)
    have bw := zay (x := z) (n := h.set.players) (by omega)
    have cf := zaz bs (stepX z) h.set.players (by omega)
    have bf := zay (x := stepX z) (n := h.set.players) (by omega)
    have cp := zaz bs (stepX (stepX z)) 5000 (by omega)
    have bp := zay (x := stepX (stepX z)) (n := 5000) (by omega)
    obtain ⟨who, hwho⟩ : ∃ k : Nat, (k : Int) = zar z h.set.players := ⟨(zar z h.set.players).toNat, by omega⟩
    rw [← hwho] at cw bw
    generalize zar (stepX z) h.set.players = fr at *
    generalize zar (stepX (stepX z)) 5000 = pt at *
    generalize stepX (stepX (stepX z)) = z3 at *
    generalize stepX (stepX z) = z2 at *
    generalize stepX z = z1 at *
    clear hwho
    have hnx := HB.out.2.1.snoc hMB.out.2.ok ⟨kd, ld⟩ ⟨m3, by omega⟩ ⟨who, fr, 0, pt, -1⟩ bw bf ⟨bp.1, by dsimp only; omega⟩ rfl
    repeat' (first | refine yJT ?_ | fail)
    refine zaw inferInstance cw yR yH (by simp only [zaa, ↓reduceIte]) ?_
    simp only [zab, zac, n1, n1', ↓reduceIte]
    repeat' (first | refine yJ ?_ | fail)
    refine zaw inferInstance cf yR yH (by simp only [zaa, ↓reduceIte]) ?_
    simp only [zab, zac, n1, n1', ↓reduceIte]
    repeat' (first | refine yJ ?_ | fail)
    refine zaw inferInstance cp yR yH (by simp only [zaa, ↓reduceIte]) ?_
    simp only [zab, zac, n1, n1', ↓reduceIte]
    clear cw cf cp
    repeat' (first | refine yJ ?_ | (refine zbq (t := 17) yU yE yU (fun _ => yE) yE yU yV1 (fun _ => yN1) ?_; simp only [go_sem]) | fail)
    have hww : who < W.length := by omega
    by_cases hr : rws = []
    · subst hr
      rw [if_pos rfl, if_pos rfl] at hnx
      dsimp only at hnx
      rw [Int.toNat_natCast, zlm hww] at hnx
      obtain ⟨p, hp1, hp2, hp3, hp4⟩ := hnx
      have hq := zkb h (yfh h) pt d who fr c (-1)
      rw [hp1] at hq
      dsimp only at hq
      have e1 : (W.map I)[who]? = some (I W[who]) := zip hww
      have q1 := HB.out.2.2 _ (List.getElem_mem hww)
      have hK := HK.out.1
      have hlen0 : (([] : List WinRow).length : Int) = 0 := rfl
      have hpl : (p.length : Int) = h.set.players := by omega
      have HP := Box.mk (And.intro hp2 (And.intro hp3 hp4))
      clear hp2 hp3 hp4 hp1
      obtain ⟨W1, hW1⟩ : ∃ W1, W1 = W.set who (W[who] + K) := ⟨_, rfl⟩
      have hW1l : W1.length = W.length := by rw [hW1, List.length_set]
      have hW1b : LB 110000000000 W1 := by rw [hW1]; exact (HB.out.2.2.mono (by omega)).set (by omega)
      have HW1 := Box.mk hW1
      clear hW1
      repeat' (first | refine yJT ?_ | refine zan inferInstance (hq) yR yT ?_ | (refine DS.store yR yE yE yE yE yU yQ ?_; simp only [yS1]; try simp only [yS2, Nat.reduceEqDiff, ↓reduceIte]) | refine zbe (id := 13) [0, 1, 2, 3, 4, 5, 6, 7, 8, 9, 10, 11, 12, 13] 14 yKR mixed yP1 yP2 ?_ | (with_reducible first | refine zav yU yU yU yE ?_ | refine zbg ?_) | fail)
      simp only [setS, n1, n1', ↓reduceIte, zfo]
      rw [← List.map_set, ← HW1.out]
      clear e1 q1 hK hlen0 hq
      refine zbl [1, 2, 3, 9, 10, 13, 14, 15, 16, 17, 19] yN (fun (jj : Nat) => [(21, I jj)]) (fun (jj : Nat) => [(bs, srcO z3), (bo, objI (addN W1 p jj))]) (fun (jj : Nat) => (jj : Int) ≤ h.set.players) (fun (jj : Nat) => h.set.players.toNat - jj) 0 yS (fun b o e => by exact e) (by omega) (fun jj B hI hB => ?_); try dsimp only at hI hB; simp only [zad, zae]
      have HC := Box.mk hB
      clear hB
      have hAl := zfb W1 p jj
      have hAb := zpd hW1b HP.out.2.1 (by omega) (by omega) (k := jj) (by omega)
      have hnx := addN.eq_2 W1 p jj
      generalize hA : addN W1 p jj = A at *
      by_cases hj : (jj : Int) < h.set.players
      · have hjA : jj < A.length := by omega
        have hjX : jj < p.length := by omega
        have q1 := hAb _ (List.getElem_mem hjA)
        have q2 := HP.out.2.1 _ (List.getElem_mem hjX)
        rw [zlm hjA, zlm hjX] at hnx
        have e1 : (A.map I)[jj]? = some (I A[jj]) := zip hjA
        have HNX := Box.mk hnx
        clear hnx hAb hA
        repeat' (first | refine yJT ?_ | (refine DS.store yR yE yE yE yE yU yQ ?_; simp only [yS1]; try simp only [yS2, Nat.reduceEqDiff, ↓reduceIte]) | refine zbe (id := 20) [0, 1, 2, 3, 4, 5, 6, 7, 8, 9, 10] 11 yKR mixed yP1 yP2 ?_ | (with_reducible first | refine zav yU yU yU yE ?_ | refine zbg ?_) | fail)
        all_goals first
          | (exfalso; omega)
          | (refine DS.back (HC.out (jj + 1) _ _ (by omega) (by omega) yS yS (fun b o e => ?_))
             rw [HNX.out, objI, List.map_set] at e
             simp only [setS, n1, n1', ↓reduceIte]
             exact e)
          | trace_state
      · have hjn : jj = h.set.players.toNat := by omega
        have HA := Box.mk (And.intro hA hjn)
        clear hnx hAb hA HC hjn
        repeat' (first | (with_reducible refine zch (t := 14) yU yO yE ?_; simp only [yS2, Nat.reduceEqDiff, ↓reduceIte]) | (with_reducible refine zch (t := 117) yU yO yE ?_; simp only [yS2, Nat.reduceEqDiff, ↓reduceIte]) | refine yJT ?_ | (refine zbw yU yE yE ?_; simp only [go_sem, Nat.zero_add, Nat.reduceAdd]) | (refine DS.append (mm := false) yU yE yE yU (by decide) yE yO2 yE yX1 yLM yQ2 ?_; simp only [yS2, Nat.reduceEqDiff, ↓reduceIte]) | fail)
        simp only [show ((i + 1 : Nat) : Int) - 1 = (i : Int) by omega]
        refine DS.back (HB.out.1 (i, z3, [] ++ [⟨who, fr, 0, pt, -1⟩], addN acc p h.set.players.toNat, A) _ _ (by dsimp only; omega) ⟨by simp only [List.length_append, List.length_nil, List.length_singleton] at hI ⊢; omega, ?_⟩ yS yS (fun b o e => by exact e))
        have := HP.out.2.2
        rw [← HW1.out, ← HA.out.2, HA.out.1] at this
        rw [← HA.out.2]
        exact this
    · rw [if_neg hr, if_neg hr] at hnx
      dsimp only at hnx
      obtain ⟨p, hp1, hp2, hp3, hp4⟩ := hnx
      have hq := zkb h (yfh h) pt d who fr 0 (-1)
      rw [hp1] at hq
      dsimp only at hq
      have hrl : 0 < rws.length := List.length_pos_iff.2 hr
      have hrl' : ¬ (rws.length : Int) = 0 := by omega
      have hpl : (p.length : Int) = h.set.players := by omega
      have HP := Box.mk (And.intro hp2 (And.intro hp3 hp4))
      clear hp2 hp3 hp4 hp1 hr
      repeat' (first | refine yJT ?_ | refine zan inferInstance (hq) yR yT ?_ | fail)
      clear hq
      refine zbl [1, 2, 3, 9, 10, 13, 14, 15, 16, 17, 19] yN (fun (jj : Nat) => [(21, I jj)]) (fun (jj : Nat) => [(bs, srcO z3), (bo, objI (addN W p jj))]) (fun (jj : Nat) => (jj : Int) ≤ h.set.players) (fun (jj : Nat) => h.set.players.toNat - jj) 0 yS (fun b o e => by exact e) (by omega) (fun jj B hI hB => ?_); try dsimp only at hI hB; simp only [zad, zae]
      have HC := Box.mk hB
      clear hB
      have hAl := zfb W p jj
      have hAb := zpd HB.out.2.2 HP.out.2.1 (by omega) (by omega) (k := jj) (by omega)
      have hnx := addN.eq_2 W p jj
      generalize hA : addN W p jj = A at *
      by_cases hj : (jj : Int) < h.set.players
      · have hjA : jj < A.length := by omega
        have hjX : jj < p.length := by omega
        have q1 := hAb _ (List.getElem_mem hjA)
        have q2 := HP.out.2.1 _ (List.getElem_mem hjX)
        rw [zlm hjA, zlm hjX] at hnx
        have e1 : (A.map I)[jj]? = some (I A[jj]) := zip hjA
        have HNX := Box.mk hnx
        clear hnx hAb hA
        repeat' (first | refine yJT ?_ | (refine DS.store yR yE yE yE yE yU yQ ?_; simp only [yS1]; try simp only [yS2, Nat.reduceEqDiff, ↓reduceIte]) | refine zbe (id := 20) [0, 1, 2, 3, 4, 5, 6, 7, 8, 9, 10] 11 yKR mixed yP1 yP2 ?_ | (with_reducible first | refine zav yU yU yU yE ?_ | refine zbg ?_) | fail)
        all_goals first
          | (exfalso; omega)
          | (refine DS.back (HC.out (jj + 1) _ _ (by omega) (by omega) yS yS (fun b o e => ?_))
             rw [HNX.out, objI, List.map_set] at e
             simp only [setS, n1, n1', ↓reduceIte]
             exact e)
          | trace_state
      · have hjn : jj = h.set.players.toNat := by omega
        have HA := Box.mk (And.intro hA hjn)
        clear hnx hAb hA HC hjn
        repeat' (first | (with_reducible refine zch (t := 14) yU yO yE ?_; simp only [yS2, Nat.reduceEqDiff, ↓reduceIte]) | (with_reducible refine zch (t := 117) yU yO yE ?_; simp only [yS2, Nat.reduceEqDiff, ↓reduceIte]) | refine yJT ?_ | (refine zbw yU yE yE ?_; simp only [go_sem, Nat.zero_add, Nat.reduceAdd]) | (refine DS.append (mm := false) yU yE yE yU (by decide) yE yO2 yE yX1 yLM yQ2 ?_; simp only [yS2, Nat.reduceEqDiff, ↓reduceIte]) | fail)
        simp only [show ((i + 1 : Nat) : Int) - 1 = (i : Int) by omega]
        refine DS.back (HB.out.1 (i, z3, rws ++ [⟨who, fr, 0, pt, -1⟩], addN acc p h.set.players.toNat, A) _ _ (by dsimp only; omega) ⟨by simp only [List.length_append, List.length_nil, List.length_singleton] at hI ⊢; omega, ?_⟩ yS yS (fun b o e => by exact e))
        have := HP.out.2.2
        rw [← HA.out.2, HA.out.1] at this
        rw [← HA.out.2]
        exact this
  · have hi0 : i = 0 := by omega
    subst hi0
    have hNl : rws.length = N := by omega
    have hdone := HB.out.2.1
    rw [← HK.out.1] at hdone
    obtain ⟨d1, d2⟩ := hdone.done hMB.out.2.ok ⟨kd, ld⟩ ⟨m3, by omega⟩ ⟨m5, by omega⟩ ⟨by omega, by omega⟩
    have hs := ycf h d c sk rws
    rw [d1] at hs
    dsimp only at hs
    have ht := zja W (fun x hx => by have := HB.out.2.2 x hx; omega) (by omega)
    rw [d2] at ht
    have he := zkr W W
    simp only [decide_true] at he
    have hfin := HK.out
    have hwr : sk * h.pay.stick ≤ 4000000000 := by omega
    have HF := Box.mk (And.intro hNl (And.intro d1 d2))
    refine ziv (t := 15) (b := bo) (len := h.set.players.toNat) (cap := h.set.players.toNat) (sz := 1) (l := W.map I) (T := 3) yR (by simp only [zaa, n1, n1', ↓reduceIte]) (by simp [hWl]) ⟨Nat.le_refl _, by simp only [maxLen]; omega⟩ ?_
    rw [zmi _ _ hWl]
    have hm1 := HK.out.2.1
    have hm2 := HK.out.2.2
    clear hNl d1 d2 hdone hfin hwr HB hI
    repeat' (first | refine yJT ?_ | refine zan inferInstance (hs) yR yF ?_ | refine zan inferInstance (yfz) yR yF ?_ | refine zbe (id := 23) [0, 1, 2, 3, 4, 5, 6, 7, 8, 9, 10, 11, 12, 13, 14] 15 yKR mixed yP1 yP2 ?_ | (with_reducible first | refine zav yU yU yU yE ?_ | (refine zji yU yE ?_; refine DGG.run ?_) | refine zbg ?_) | refine zda inferInstance (ht) yU yF ?_ | refine zda inferInstance (he) yU yF ?_ | refine zao [] yE trivial ?_ | fail)
    all_goals first | rfl | (exfalso; omega)
end Go.XL
namespace Go.XL
open Go.Proofs Go.ChangeShapes Go.WideShapes Go.ChangeAt Go.RowKit
def hvW (W:World):VH:=fun b=>W.heap[b]?
def yqa (W:World) (k:Kn (hvW W)):Bs:=⟨fun b=>b<W.heap.size,W.heap,hvW W,k⟩
theorem stW (W:World) (k:Kn (hvW W)):St (yqa W k) (hvW W) (fun _=>none) [] [] [] W.heap where
 pre:=fun b o e=>⟨o,e,leO.refl o⟩
 slot:=fun t v e=>by cases e
 obj:=fun b o e=>by cases e
 held:=fun g x e=>by cases e
 base:=⟨fun b h=>h,Nat.le_refl _,fun b _=>rfl⟩
 vbase:=⟨PreV.refl _,fun _ _=>rfl⟩
structure KeptW (W W':World):Prop where
 os:W'.os=W.os
 output:W'.output=W.output
 size:W.heap.size≤W'.heap.size
 old: ∀b,b<W.heap.size→W'.heap[b]?=W.heap[b]?
theorem PC.door {P:Program} {f:FuncId} {vs:List V} {xs:List Value} (h:PC P f vs (.v (.bool true))) (W:World) (hx:RlL (hvW W) vs xs) (k:Kn (hvW W):=by exact kn_all _) :
  Calls P f xs.toArray W fun e w'=>e = .returned (.bool true)∧KeptW W w':=by
 refine(h (hvW W) (yqa W k) (hvW W) (fun _=>none) W.heap xs (PreV.refl _) hx (stW W k) W rfl).mono fun e w'=>?_
 rintro⟨y,rfl,⟨s1,s2,s3⟩,v,S',hv',hold',-,st,rfl⟩
 obtain⟨z,h1,h2,-⟩:=st.slot 0 (.v (.bool true)) rfl
 simp only[V.Rl]at h2
 subst h2
 have h3:look [(0,y)] 0=some y:=by simp[look]
 rw[h3]at h1
 cases h1
 exact⟨rfl,s1,s3,st.base.2.1,st.base.2.2⟩
theorem KeptW.keptBut {W W':World} (k:KeptW W W') (may:MemPlace→Prop):W.keptBut W' may:=by
 refine⟨k.os,k.output,fun i hi=>?_⟩
 rw[k.old i hi]
 generalize W.heap[i]?=o
 cases o with
 | none=>trivial
 | some o=>cases o <;> simp
theorem KeptW.cell {W W':World} (k:KeptW W W') {a:Addr} (h:a.block<W.heap.size):W'.cell? a=W.cell? a:=by
 unfold World.cell?
 rw[k.old _ h]
theorem KeptW.sameAt {W W':World} (k:KeptW W W') {p:MemPlace} (h:p.block<W.heap.size):W.sameAt W' p:=by
 cases p with
 | cell b off=>exact k.cell h
 | map b=>exact k.old _ h
section
variable {H:Type} {enc:TypeId×Value→H} {P:Program}
theorem zky (hl:laidOutB P=true) {W W':World} {sp:Nat→Bool}: ∀{ts:List TypeId} {vs:List Value} {ds:List (DataW H)} {ps:List MemPlace},(∀t∈ts,P.readableRec t=true∧t<P.types.size) →
  DataW.TrodAll enc P W 0 (fun _=>true) true ts vs ds ps→(∀p∈ps,W.sameAt W' p)→(∀p∈ps,sp p.block=true)→DataW.TrodAll enc P W' 0 sp true ts vs ds ps
 | [],vs,ds,ps,_,h,_,_=>by
  obtain⟨rfl,rfl,rfl⟩:=trodAll_nil h
  rfl
 | t::ts,vs,ds,ps,ht,h,h1,h2=>by
  obtain⟨v,vs',d,ds',p,q,rfl,rfl,rfl,h3,h4⟩:=trodAll_cons h
  obtain⟨r1,r2⟩:=ht t (List.mem_cons_self ..)
  exact⟨p,q,WideElems.Trod_stays hl r1 r2 h3 (fun x hx=>h1 x (List.mem_append_left _ hx)) (fun x hx=>h2 x (List.mem_append_left _ hx)),
   zky hl (fun t h=>ht t (List.mem_cons_of_mem _ h)) h4 (fun x hx=>h1 x (List.mem_append_right _ hx)) (fun x hx=>h2 x (List.mem_append_right _ hx)),rfl⟩
theorem yhu {f:Func} {s:ChangeSpec} {apart fresh handsOn:Bool} {W W':World} {args:Array Value} {ds gs:List (DataW H)} {before:List MemPlace} {tb:TypeId}
  (hW:DataW.Whole enc P f.params.toList s.vars apart W args.toList ds gs before) (hv:s.vars= []) (hs:s.fn H ds={results:= [.lit (.bool true)],args:=ds})
  (hrt:f.resultTypes= #[tb]) (hb:P.underlying tb=some .bool) (hl:laidOutB P=true) (hr: ∀t∈f.params.toList,P.readableRec t=true∧t<P.types.size) (k:KeptW W W') :
  s.post enc P f apart fresh handsOn false W args (.bool true) W':=by
 have hlt:=fun p hp=>hW.lt (p:=p) hp
 have hW':=hW
 obtain⟨p,q,hA,hV,rfl,-,-⟩:=hW
 rw[hv]at hV
 obtain⟨rfl,rfl⟩:=trodVars_none hV
 refine⟨ds,[],p++ [],[],p,[],hW',?_,?_,?_,k.keptBut _,fun h=>by cases h⟩
 ·rw[List.append_nil,hs,hrt]
  exact trodAll_mk1 (shut_bool hb _)
 ·rw[List.append_nil,hs]
  exact zky hl hr hA (fun x hx=>k.sameAt (hlt x (by simpa using hx))) (fun x hx=>by simpa using hlt x (by simpa using hx))
 ·rw[List.append_nil,hs,hv]
  rfl
def ygg (P:Program) (W:World) (H:Type) (enc:TypeId×Value→H) (t:TypeId) {α:Type} (f:α→List V) (G:α→Prop):Prop :=
 ∀fuel cs x,DataW.trod enc P W 0 (fun _=>true) true fuel t cs=some x→ ∃a,RlL (hvW W) (f a) cs∧(∀u∈cs,u.oneCell'=true)∧G a
variable {W:World} {t e:TypeId}
theorem ydc {k:IntKind} (ht:P.underlying t=some (.int k)):ygg P W H enc t (fun n:Int=> [.v (.int k n)]) (fun n=>(Lit.int k n).wf=true):=by
 intro fuel cs x h
 obtain⟨n,rfl,-,hw⟩:=DataW.trod_int ht h
 exact⟨n,by simp[RlL,V.Rl],by simp[Value.oneCell'],hw⟩
theorem RlL.len {hv:VH}: ∀{vs:List V} {cs:List Value},RlL hv vs cs→vs.length=cs.length
 | [],_,h=>by simp only[RlL]at h;subst h;rfl
 | v::vs,cs,h=>by
  simp only[RlL]at h
  obtain⟨z,zs,rfl,-,h⟩:=h
  simp[RlL.len h]
theorem zsd {n:Int} (h:(Lit.int .i64 n).wf=true) : -9223372036854775808≤n∧n≤9223372036854775807:=by
 have h1:IntKind.min .i64 = -9223372036854775808:=by decide
 have h2:IntKind.max .i64=9223372036854775807:=by decide
 simp only[Lit.wf,h1,h2,Bool.and_eq_true,decide_eq_true_eq]at h
 exact h
theorem RlL.one {hv:VH} {v:V} {y:Value} (h:v.Rl hv y):RlL hv [v] [y]:=by
 simp only[RlL];exact⟨y,[],rfl,h,rfl⟩
theorem RlL.cons_one {hv:VH} {v:V} {y:Value} {vs:List V} {ys:List Value} (h:RlL hv [v] [y]) (k:RlL hv vs ys):RlL hv (v::vs) (y::ys):=by
 simp only[RlL]at h ⊢
 obtain⟨z,zs,e,h1,h2⟩:=h
 cases e
 exact⟨_,_,rfl,h1,k⟩
theorem yma {a:Addr} {m:Nat}: ∀{vs:List V} {cs:List Value} {i:Nat},RlL (hvW W) vs cs→(∀u∈cs,u.oneCell'=true)→(∀j,j<cs.length→W.cell? (a.add (i+j))=cs[j]?)→RlC (hvW W) (some a) i vs
 | [],_,_,_,_,_=>by simp only[RlC]
 | v::vs,cs,i,h,h1,h2=>by
  simp only[RlL]at h
  obtain⟨z,zs,rfl,h3,h4⟩:=h
  simp only[RlC]
  refine⟨⟨z,?_,h3,h1 z (List.mem_cons_self ..)⟩,yma (m:=m) h4 (fun u hu=>h1 u (List.mem_cons_of_mem _ hu)) fun j hj=>?_⟩
  ·have:=h2 0 (by simp)
   rw[Nat.add_zero]at this
   exact this
  ·have:=h2 (j+1) (by simpa using hj)
   rw[show i+1+j=i+(j+1) by omega,this]
   rfl
theorem ylz {a:Addr} {sz:Nat}: ∀{l:List (List V)} {i:Nat},(∀(j:Nat) (h:j<l.length),l[j].length=sz∧RlC (hvW W) (some a) (i+j*sz) l[j])→RlE (hvW W) (some a) i l
 | [],_,_=>by simp only[RlE]
 | c::l,i,h=>by
  simp only[RlE]
  have h0:=h 0 (by simp)
  simp only[Nat.zero_mul,Nat.add_zero,List.getElem_cons_zero]at h0
  refine⟨h0.2,ylz (sz:=sz) fun j hj=>?_⟩
  have h1:=h (j+1) (by simpa using hj)
  simp only[List.getElem_cons_succ]at h1
  refine⟨h1.1,?_⟩
  have e:i+c.length+j*sz=i+(j+1)*sz:=by rw[h0.1,Nat.add_mul,Nat.one_mul];omega
  rw[e]
  exact h1.2
theorem zow {α β:Type} {R:Nat→α→Prop}: ∀(n:Nat),(∀i,i<n→ ∃a,R i a)→ ∃l:List α,l.length=n∧ ∀(i:Nat) (h:i<l.length),R i l[i]
 | 0,_=>⟨[],rfl,fun i h=>by cases h⟩
 | n+1,h=>by
  obtain⟨l,h1,h2⟩:=zow (β:=β) n fun i hi=>h i (by omega)
  obtain⟨a,ha⟩:=h n (by omega)
  refine⟨l++ [a],by simp[h1],fun i hi=>?_⟩
  rw[List.length_append,List.length_singleton]at hi
  by_cases h3:i<l.length
  ·rw[List.getElem_append_left h3];exact h2 i h3
  ·obtain rfl:i=l.length:=by omega
   simp only[List.getElem_concat_length]
   rw[h1];exact ha
theorem zvu {α:Type} {f:α→List V} {G:α→Prop} {sz:Nat} (ht:P.underlying t=some (.slice e)) (hc:P.cellsOf e=sz) (h:ygg P W H enc e f G) :
  ygg P W H enc t (fun l:List α=> [.lst (l.map f)]) (fun l=> ∀a∈l,G a):=by
 intro fuel cs x hx
 rcases DataW.trod_slice ht hx with⟨rfl,-⟩|⟨a,len,cap,elems,rest,n,rfl,rfl,-,-,h1,h2,h3,h4,-,-⟩
 ·refine⟨[],?_,by simp[Value.oneCell'],fun a h=>by cases h⟩
  simp only[RlL,V.Rl,List.map_nil]
  exact⟨_,[],rfl,⟨none,0,0,rfl,Nat.le_refl _,Nat.zero_le _,(fun c h=>by cases h),by simp only[RlE]⟩,rfl⟩
 ·obtain⟨l,hl,hk⟩:=zow (β:=Unit) (R:=fun i y=> ∃cs,W.cells? 0 (a.add (i*sz)) sz=some cs∧RlL (hvW W) (f y) cs∧(∀u∈cs,u.oneCell'=true)∧G y) len (fun i hi=>by
   have h5:=h4 i hi
   rw[List.getElem?_eq_getElem (by omega),Option.bind_eq_some_iff,hc]at h5
   obtain⟨cs,h6,h7⟩:=h5
   obtain⟨y,h8,h9,h10⟩:=h _ _ _ h7
   exact⟨y,cs,h6,h8,h9,h10⟩)
  have hlen: ∀y∈l,(f y).length=sz:=fun y hy=>by
   obtain⟨i,hi,rfl⟩:=List.mem_iff_getElem.1 hy
   obtain⟨cs,k1,k2,-,-⟩:=hk i hi
   rw[k2.len,(World.cells?_some k1).2.1]
  refine⟨l,?_,by simp[Value.oneCell'],fun y hy=>?_⟩
  ·simp only[RlL,V.Rl]
   refine⟨_,[],rfl,⟨some a,cap,sz,by rw[List.length_map,hl],by rw[List.length_map,hl];exact h1,h2,fun c hc=>?_,ylz (sz:=sz) fun j hj=>?_⟩,rfl⟩
   ·obtain⟨y,hy,rfl⟩:=List.mem_map.1 hc
    exact hlen y hy
   ·rw[List.length_map]at hj
    rw[List.getElem_map]
    obtain⟨cs,k1,k2,k3,k4⟩:=hk j hj
    obtain⟨-,k5,k6⟩:=World.cells?_some k1
    refine⟨hlen _ (List.getElem_mem hj),yma (m:=sz) k2 k3 fun i hi=>?_⟩
    rw[Nat.zero_add,←ygd]
    exact k6 i (by omega)
  ·obtain⟨i,hi,rfl⟩:=List.mem_iff_getElem.1 hy
   obtain⟨cs,-,-,-,k4⟩:=hk i hi
   exact k4
end
end Go.XL
namespace Go.XL
open Go.Proofs Go.ChangeShapes Go.WideShapes Go.ChangeAt Go.RowKit
set_option maxRecDepth 100000
abbrev N64 (n:Int):Prop := -9223372036854775808≤n∧n≤9223372036854775807
section
variable {H:Type} {enc:TypeId×Value→H} {W:World}
theorem oI :ygg Tryz.prog W H enc 3 cI N64:=fun fuel cs x h=>by
 obtain⟨a,h1,h2,h3⟩:=ydc Tryz.underlying3 fuel cs x h
 exact⟨a,h1,h2,zsd h3⟩
theorem oL :ygg Tryz.prog W H enc 22 (fun l=> [ints l]) (fun l=> ∀x∈l,N64 x):=zvu (sz:=1) Tryz.underlying22 yKR oI
end
end Go.XL
namespace Go.XL
open Go.Proofs Go.Proofs.YtbbhoipphnbdiaaGreatDoor Go.ChangeShapes Go.WideShapes Go.ChangeAt Go.RowKit Go.WideElems
open Go.Maps (Keyed)
theorem gModes :Tryz.prog.globalNamed "sparrow/score.modes" =some 1:=by kernel_rfl
theorem gBruijn :Tryz.prog.globalNamed "math/bits.deBruijn64tab" =some 0:=by kernel_rfl
theorem tModes :(Tryz.prog.globals[1]?).map (·.type)=some 132:=by kernel_rfl
theorem zuu (W:World) (a:Addr):zfu (hvW W) a=W.cell? a:=by
 unfold zfu hvW World.cell?
 rfl
theorem zwi {H:Type} {enc:TypeId×Value→H} {P:Program} {W:World} {n:Nat} {e:TypeId} {v:Value} {y:DataW H×List MemPlace} {ps rs:Array TypeId} {va:Bool}
  (he:P.underlying e=some (.func ps rs va)) (h:elemAt enc P W 0 (fun _=>true) true n e v=some y):DataW.trod enc P W 0 (fun _=>true) true n e [v]=some y:=by
 unfold elemAt at h
 split at h
 ·rename_i hf
  cases v <;> first|exact h|(simp[Value.formed,he]at hf)
 ·cases h
theorem zvw {H:Type} {p:Lit×DataW H}: ∀(l:List (Lit×DataW H)),p∈l.foldr DataW.insert []↔p∈l
 | []=>by simp
 | x::l=>by rw[List.foldr_cons,ChangeMaps.mem_insert_iff,zvw l,List.mem_cons]
theorem zru {W:World} {n:Nat} {e:TypeId} {ps rs:Array TypeId} {va:Bool} {es:Array MapEntry} {clock:Nat} {names:List (List UInt8)}
  (hT:Tryz.prog.underlying 132=some (.map 3 e)) (he:Tryz.prog.underlying e=some (.func ps rs va))
  (F:Fit Tryz.prog 3 (elemAt (funcToken Tryz.prog) Tryz.prog W 0 (fun _=>true) true n e) es clock)
  (m:Int) (hm:1≤m∧m≤3) {b:UInt8} {r:List UInt8} {f0:FuncId} {L:List (Lit×DataW (List UInt8))}
  (hone:((List.range Tryz.prog.funcs.size).filter fun f=>(Tryz.prog.funcs[f]?).any (·.name.toUTF8.data.toList == b::r))= [f0])
  (hL:(es.toList.map (rg Tryz.prog 3 (elemAt (funcToken Tryz.prog) Tryz.prog W 0 (fun _=>true) true n e))).foldr DataW.insert []=L)
  (hin:(Lit.int .i64 m,DataW.held (b::r))∈L) (huniq: ∀d,(Lit.int .i64 m,d)∈L→d=DataW.held (b::r)) :
  ∀(w:World) (bk:Nat),w.heap[bk]?=some (.map es clock)→(Instr.lookup 132 (.map (some bk)) (.int .i64 m) false).run Tryz.prog w = .ok (.func (.func f0) #[] #[]) w:=by
 intro w bk hb
 have K:Keyed Tryz.prog 3:=Go.Maps.int_keyed Tryz.underlying3
 have hw:(Lit.int .i64 m).wf=true:=by
  have h1:decide (IntKind.i64.min≤m)=true:=decide_eq_true (show(-9223372036854775808:Int)≤m by omega)
  have h2:decide (m≤IntKind.i64.max)=true:=decide_eq_true (show m≤(9223372036854775807:Int) by omega)
  simp only[Lit.wf,h1,h2,Bool.and_self]
 have hkey:keyOf Tryz.prog 3 (.int .i64 m)=some (.int .i64 m):=by simp[keyOf,mapKey,Tryz.underlying3,hw]
 have hkeys: ∀x∈es.toList,∃l,keyOf Tryz.prog 3 x.key=some l:=fun x hx=>by
  obtain⟨y,hy⟩:=F.reads x hx
  exact⟨_,rd_key hy⟩
 rcases K.find w hkey es.toList hkeys with⟨_,hno⟩|⟨j,e0,hf,hj,hk⟩
 ·rw[←hL]at hin
  obtain⟨x,hx,hxe⟩:=List.mem_map.1 ((zvw _).1 hin)
  obtain⟨y,hy⟩:=F.reads x hx
  have h1:=rd_key hy
  rw[rg_of hy]at hxe
  subst hxe
  exact absurd (K.inj h1 hkey) (hno x hx)
 ·have he0:=List.mem_of_getElem? hj
  obtain⟨y,hy⟩:=F.reads e0 he0
  have h1:=rd_key hy
  rw[hk,hkey]at h1
  have hm1:rg Tryz.prog 3 (elemAt (funcToken Tryz.prog) Tryz.prog W 0 (fun _=>true) true n e) e0∈L:=by
   rw[←hL]
   exact(zvw _).2 (List.mem_map.2 ⟨e0,he0,rfl⟩)
  rw[rg_of hy]at hm1
  obtain⟨k1,d1⟩:=y
  cases h1
  obtain rfl:=huniq _ hm1
  obtain⟨z,hz,hd⟩:=rd_val hy
  have h2:=zwi he hz
  obtain⟨z1,z2⟩:=z
  simp only at hd
  subst hd
  have h3:=func_of_trod he hone h2
  simp[Instr.lookup,run_underlying hT,MapKept.run_getObj_map hb,K.check w _ hkey,hf,h3,Result.andThen]
theorem getA {α:Type} {l:List α} {i:Nat} {a:α} (h:(l.drop i).take 1= [a]):l[i]?=some a:=by
 have h0:((l.drop i).take 1)[0]?=some a:=by rw[h];rfl
 simpa using h0
theorem zux {W:World} (h:laidMetH Tryz.prog [("math/bits.deBruijn64tab",Rows.laid_math_bits_deBruijn64tab)] W): ∀r,r<64→W.cell? ⟨0,r,none⟩=some (.int .u8 (bruijn.getD r 0)):=by
 intro r hr
 rw[MakeChecks.laidMetH_plain _ _ _ yKR]at h
 obtain⟨ps,⟨g,t,cs,fuel,p,q,hg,ht,hv,hd,_,_⟩,_,_⟩:=h
 obtain rfl:=Option.some.inj (gBruijn.symm.trans hg)
 obtain rfl:=Option.some.inj ((show(Tryz.prog.globals[0]?).map (·.type)=some 122 by kernel_rfl).symm.trans ht)
 obtain⟨xs,m,_,ex,_,hl,hel⟩:=DataW.trod_array Tryz.underlying122 hd
 have c5:Tryz.prog.cellsOf 5=1:=by kernel_rfl
 have hE:=hel r hr
 rw[c5,Nat.mul_one,List.getElem?_eq_getElem (by omega)]at hE
 obtain⟨z,e1,e2,_⟩:=DataW.trod_int Tryz.underlying5 hE
 have hlen:bruijn.length=64:=by decide
 have e0:(Rows.laid_math_bits_deBruijn64tab:DataW Unit) = .agg (bruijn.map fun n => .lit (.int .u8 n)):=rfl
 have e3:(xs.map (·.1))=bruijn.map fun n => .lit (.int .u8 n):=(DataW.agg.inj ((e0.symm.trans (Prod.mk.inj ex).1))).symm
 have e4:(xs.map (·.1))[r]?=(bruijn.map fun n=>(DataW.lit (.int .u8 n):DataW Unit))[r]?:=by rw[e3]
 rw[List.getElem?_map,List.getElem?_map,List.getElem?_eq_getElem (by omega:r<xs.length),List.getElem?_eq_getElem (by omega:r<bruijn.length),e2]at e4
 have hz:z=bruijn.getD r 0:=by
  simp only[Option.map_some,Option.some.injEq,DataW.lit.injEq,Lit.int.injEq,true_and]at e4
  rw[e4,List.getD,List.getElem?_eq_getElem (by omega:r<bruijn.length)];rfl
 rw[World.var?_cell hg hv r,←hz]
 have:=getA e1
 simpa using this
theorem zxm {hv:VH} {g:Nat}: ∀(l:List Int) (i:Nat),(∀r (h:r<l.length),zfu hv ⟨g,i+r,none⟩=some (.int .u8 l[r]))→RlC hv (some ⟨g,0,none⟩) i (l.map fun n=>V.v (.int .u8 n))
 | [],i,_=>by simp only[List.map_nil,RlC]
 | x::l,i,h=>by
  simp only[List.map_cons,RlC]
  have h0:=h 0 (by simp)
  refine⟨⟨_,?_,V.Rl_v,rfl⟩,zxm l (i+1) fun r hr=>?_⟩
  ·rw[Nat.add_zero]at h0
   have:(⟨g,0,none⟩:Addr).add i=⟨g,i,none⟩:=by unfold Addr.add;by_cases hi:i=0 <;> simp[hi]
   show zfu hv ((⟨g,0,none⟩:Addr).add i)=_
   rw[this];exact h0
  ·have:=h (r+1) (by simpa using hr)
   rw[show i+1+r=i+(r+1) by omega]
   simpa using this
theorem yrz {W:World} {l:List (String×DataW Unit)} (h:laidMetH Tryz.prog l W) (h1:(l.filter fun x=>x.1 == "math/bits.deBruijn64tab")= [("math/bits.deBruijn64tab",Rows.laid_math_bits_deBruijn64tab)]) (h2:("sparrow/score.modes",Rows.laid_sparrow_score_modes)∈l):Kn (hvW W):=by
 refine⟨fun g c hc=>?_,?_⟩
 ·unfold knC at hc
  split at hc
  ·rename_i hg;subst hg;cases hc
   have hb:=zux (h1▸h.filter fun x=>x.1 == "math/bits.deBruijn64tab")
   refine zxm _ _ fun r hr=>?_
   rw[Nat.zero_add,zuu,hb r hr,List.getD,List.getElem?_eq_getElem hr];rfl
  ·cases hc
 ·obtain⟨g,t,cs,fuel,p,hg,ht,hv,hd⟩:=h.funcs h2
  obtain rfl:=Option.some.inj (gModes.symm.trans hg)
  obtain rfl:=Option.some.inj (tModes.symm.trans ht)
  rcases open_map Tryz.underlying132 hd with⟨_,hx⟩|⟨b,es,clock,n,rfl,hcs,hb,_,F,hx⟩
  ·simp[DataW.funcsOut]at hx
  ·simp only[Prod.mk.injEq]at hx
   have hcell:=World.var?_cell hg hv 0
   rw[Array.eq_one_of_toList hcs]at hcell
   have hL:=(DataW.map.inj hx.1).symm
   refine⟨b,es,clock,by rw[zuu];simpa using hcell,hb,fun w m hb' m1 m2=>?_⟩
   have hm:m=1∨m=2∨m=3:=by omega
   rcases hm with rfl|rfl|rfl
   ·exact zru (names:= []) Tryz.underlying132 Tryz.underlying131 F 1 (by omega) (b:=40) (r:= [115,112,97,114,114,111,119,47,115,99,111,114,101,46,112,97,121,109,101,110,116,41,46,97,108,111,110,101]) yKR hL (by simp[DataW.funcsOutEntries,DataW.funcsOut]) (by simp[DataW.funcsOutEntries,DataW.funcsOut]) w b hb'
   ·exact zru (names:= []) Tryz.underlying132 Tryz.underlying131 F 2 (by omega) (b:=40) (r:= [115,112,97,114,114,111,119,47,115,99,111,114,101,46,112,97,121,109,101,110,116,41,46,97,108,108]) yKR hL (by simp[DataW.funcsOutEntries,DataW.funcsOut]) (by simp[DataW.funcsOutEntries,DataW.funcsOut]) w b hb'
   ·exact zru (names:= []) Tryz.underlying132 Tryz.underlying131 F 3 (by omega) (b:=40) (r:= [115,112,97,114,114,111,119,47,115,99,111,114,101,46,112,97,121,109,101,110,116,41,46,98,97,115,105,99]) yKR hL (by simp[DataW.funcsOutEntries,DataW.funcsOut]) (by simp[DataW.funcsOutEntries,DataW.funcsOut]) w b hb'
end Go.XL
