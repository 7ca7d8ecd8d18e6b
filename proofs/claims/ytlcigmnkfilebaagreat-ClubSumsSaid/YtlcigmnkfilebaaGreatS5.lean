/- A part of a program logic over the kit's walk rules, and contracts of functions in it. Conditions: as each theorem says. -/
import Derived.Test.YtlcigmnkfilebaaGreatS4
set_option linter.all false
namespace Go.XL
open Go.Proofs
set_option maxRecDepth 100000
set_option maxHeartbeats 8000000
theorem zvv (size : Int) : ∀ (n : Nat) (x : Int) (t rest : List Int), (t.length : Int) ≤ size → size ≤ (t.length : Int) + n → ((tabG size n x t rest).1.length : Int) = size
 | 0, x, t, rest, h1, h2 => by
  show (t.length : Int) = size
  omega
 | n + 1, x, t, rest, h1, h2 => by
  simp only [tabG]
  split
  ·exact zvv size n _ _ _ (by simp; omega) (by simp; omega)
  ·show (t.length : Int) = size
   omega
theorem yhl (size : Int) : ∀ (n : Nat) (x : Int) (t rest : List Int), ¬ (t.length : Int) < size → tabG size n x t rest = (t, rest, x)
 | 0, x, t, rest, h => rfl
 | n + 1, x, t, rest, h => by rw [tabG, if_neg h]
theorem yX13 {p : Prop} (h : p := by (simp (disch := omega) only [go_sem, dopV, Option.map_some, Option.map_none, Option.bind_some, Option.bind_none, ↓reduceIte, Nat.reduceEqDiff, Nat.reduceLT, Nat.reduceLeDiff, Nat.reduceAdd, Nat.reduceMul, Nat.reduceSub, Nat.zero_add, Nat.add_zero, Nat.zero_le, Nat.zero_mul, Nat.mul_one, Nat.one_mul, Int.natCast_zero, Int.toNat_zero, Int.reduceToNat, Int.reduceLT, Int.reduceLE, Int.reduceEq, decide_true, decide_false, true_and, and_true, Bool.and_self, Bool.and_true, Bool.true_and, Bool.not_true, Bool.not_false, IntWalk.toNatUp, IntWalk.iteOmega, IntWalk.i64_in, Option.isSome_some, not_true_eq_false, not_false_eq_true, Option.getD_some, Option.getD_none, Int.toNat_natCast, List.length_map, List.getElem?_map, List.getElem?_eq_getElem, V.flat, V.one, List.all_cons, List.all_nil, *, List.forall_mem_cons, List.forall_mem_map, implies_true, zgq, zdw, zhs, znl, List.take_length, List.length_singleton, and_self]; exact rfl)) : p := h
theorem yay (bs : Nat) (x : Int) (l : List Int) (size : Int) (hs : 3 ≤ size ∧ size ≤ 4) (hl : l.length ≤ 1000000) : SC Tryz.prog 109 [ptr bs, ints l, I size] bs x (.own false 22 1 ((zeq size x l).1.map cR)) (zeq size x l).2 := by
 unfold SC
 obtain ⟨hs1, hs2⟩ := hs
 refine DC.of_run Tryz.func109 rfl Tryz.ntmps109 Tryz.results109 (by simp) (fun _ => ?_); simp only [zaq, zau, go_sem, Nat.zero_add, Nat.reduceAdd]
 repeat' (first | (with_reducible first | (refine zdu (t := 6) yU yO yE ?_) | (refine zdu (t := 8) yU yO yE ?_) | refine zac yU yU yE ?_ | refine zab ?_ | refine DS.seq ?_ | refine zaa ?_ | refine DS.block ?_) | (refine zff yU yE yE ?_; simp only [go_sem, Nat.zero_add, Nat.reduceAdd]) | (refine DS.append (mm := false) yU yE yE yU (by decide) yE (by first | exact .inl rfl | exact .inr ⟨rfl, rfl⟩) yE yX0 (by first | exact zat zdw _ | exact zat zet _ | exact zat Member.len _ | exact zat Sitting.len _ | exact zat Ruling.len _ | (simp only [List.mem_cons, List.not_mem_nil, or_false, forall_eq]; rfl) | simp) ⟨by (try simp only [List.length_map, List.length_cons, List.length_nil, List.length_append, List.length_take, List.length_drop]); omega, by decide⟩ ?_; simp only [zao, zag, zah, Nat.reduceEqDiff, ↓reduceIte, zal, zam, zar, zak, zai, zap, zan]) | fail)
 refine zco [0, 2] yN (fun (y : Nat × Int × List Int × List (List Int)) => [(7, ints y.2.2.1), (8, .own false 22 1 (y.2.2.2.map cR))]) (fun (y : Nat × Int × List Int × List (List Int)) => [(bs, srcO y.2.1)]) (fun (y : Nat × Int × List Int × List (List Int)) => y.2.2.1.length < y.1 ∧ y.2.2.1.length + y.2.2.2.length ≤ l.length ∧ zeq size x l = zmx size y.1 y.2.1 y.2.2.1 y.2.2.2) (fun (y : Nat × Int × List Int × List (List Int)) => y.2.2.1.length) (l.length + 1, x, l, []) yS (fun b o e => by exact e) ⟨Nat.lt_succ_self _, Nat.le_refl _, rfl⟩ (fun y B hI hB => ?_); try dsimp only at hI hB; simp only [zas, zav]
 obtain ⟨n, x1, rest, out⟩ := y
 dsimp only at hI hB
 obtain ⟨g1, g2, g3⟩ := hI
 have H := Box.mk g3
 clear g3
 obtain ⟨n, rfl⟩ : ∃ n', n = n' + 1 := ⟨n - 1, by omega⟩
 have hB0 := hB
 clear hB
 by_cases h0 : size ≤ (rest.length : Int)
 ·obtain ⟨a, r, rfl⟩ : ∃ a r, rest = a :: r := by
   cases rest with
   | nil => simp at h0; omega
   | cons a r => exact ⟨a, r, rfl⟩
  have h0 : size ≤ ((r.length : Int) + 1) := by simpa using h0
  have g1 : r.length + 1 < n + 1 := by simpa using g1
  have g2 : r.length + 1 + out.length ≤ l.length := by simpa using g2
  repeat' (first | (with_reducible refine zee (t := 6) yU yO yX13 ?_; simp only [zao, zag, zah, Nat.reduceEqDiff, ↓reduceIte, zal, zam, zar, zak, zai, zap, zan]) | (with_reducible refine zee (t := 9) yU yO yX13 ?_; simp only [zao, zag, zah, Nat.reduceEqDiff, ↓reduceIte, zal, zam, zar, zak, zai, zap, zan]) | (with_reducible refine zee (t := 54) yU yO yX13 ?_; simp only [zao, zag, zah, Nat.reduceEqDiff, ↓reduceIte, zal, zam, zar, zak, zai, zap, zan]) | (with_reducible first | refine zac yU yU yX13 ?_ | refine zab ?_ | refine DS.seq ?_ | refine zaa ?_ | (refine zbc yX13 ?_; refine zeo (fun _ => ?_) (fun _ => ?_)) | refine DS.block ?_ | refine DS.exit yU ?_ | refine DS.skip ?_) | (refine zff yU yX13 yX13 ?_; simp only [go_sem, Nat.zero_add, Nat.reduceAdd]) | fail)
  all_goals first | (exfalso; omega) | skip
  refine zco [0, 2, 8] yN (fun (z : Nat × Int × List Int × List Int) => [(7, ints z.2.2.2), (9, .own false 3 1 (z.2.2.1.map cI))]) (fun (z : Nat × Int × List Int × List Int) => [(bs, srcO z.2.1)]) (fun (z : Nat × Int × List Int × List Int) => (z.2.2.1.length : Int) ≤ size ∧ size ≤ (z.2.2.1.length : Int) + z.1 ∧ size ≤ (z.2.2.1.length : Int) + z.2.2.2.length ∧ z.2.2.1.length + z.2.2.2.length = r.length + 1 ∧ tabG size size.toNat x1 [a] r = tabG size z.1 z.2.1 z.2.2.1 z.2.2.2) (fun (z : Nat × Int × List Int × List Int) => z.2.2.2.length) (size.toNat, x1, [a], r) yS (fun b o e => by exact e) ⟨by simp; omega, by simp; omega, by simp; omega, by simp; omega, rfl⟩ (fun z B hI hB => ?_); try dsimp only at hI hB; simp only [zas, zav]
  obtain ⟨m, x2, t, rest⟩ := z
  dsimp only at hI hB
  obtain ⟨k1, k2, k3, k4, k5⟩ := hI
  have K := Box.mk k5
  clear k5
  by_cases ht : (t.length : Int) < size
  ·obtain ⟨b1, b2, -⟩ := zbs x2 rest.length
   have b3 := b2 (by omega)
   obtain ⟨i, hi⟩ : ∃ i : Nat, zaj x2 rest.length = i := ⟨(zaj x2 rest.length).toNat, by omega⟩
   have hbl := zei bs x2 rest.length (by omega)
   have hdi := hi
   rw [hi] at b3 hbl
   have K2 := Box.mk hi
   clear hi b1 b2 hdi
   have hir : i < rest.length := by omega
   repeat' (first | (with_reducible refine zee (t := 9) yU yO yX10 ?_; simp only [zao, zag, zah, Nat.reduceEqDiff, ↓reduceIte, zal, zam, zar, zak, zai, zap, zan]) | (with_reducible refine zee (t := 32) yU yO yX10 ?_; simp only [zao, zag, zah, Nat.reduceEqDiff, ↓reduceIte, zal, zam, zar, zak, zai, zap, zan]) | (with_reducible first | refine zac yU yU yX10 ?_ | refine zab ?_ | refine DS.seq ?_ | refine zaa ?_ | (refine zbc yX10 ?_; refine zdh ?_) | refine DS.blk ?_ | refine DS.block ?_ | refine DS.skip ?_) | (refine zff yU yX10 yX10 ?_; simp only [go_sem, Nat.zero_add, Nat.reduceAdd]) | (refine DS.append (mm := false) yU yX10 yX10 yU (by decide) yX10 (by first | exact .inl rfl | exact .inr ⟨rfl, rfl⟩) yX10 yX11 (by first | exact zat zdw _ | exact zat zet _ | exact zat Member.len _ | exact zat Sitting.len _ | exact zat Ruling.len _ | (simp only [List.mem_cons, List.not_mem_nil, or_false, forall_eq]; rfl) | simp) ⟨by (try simp only [List.length_map, List.length_cons, List.length_nil, List.length_append, List.length_take, List.length_drop]); omega, by decide⟩ ?_; simp only [zao, zag, zah, Nat.reduceEqDiff, ↓reduceIte, zal, zam, zar, zak, zai, zap, zan]) | (refine zfe inferInstance (hbl) yR yX12 yX12 ?_; (try simp only [zbk, zbw, ↓reduceIte, *])) | refine zbz (id := 9) [1, 2, 3, 0, 4, 5, 6, 7, 8] 9 (by kernel_rfl) zdq (by simp only [zba, zbd, zbe, zbf, zaz]; exact rfl) (by simp only [zaw, zax, List.drop_nil]; exact rfl) ?_ | (with_reducible first | refine zbv yU yU yU yX10 ?_ | refine zdb ?_) | (refine zhz yU yX10 yX10 ?_; simp only [go_sem, Nat.zero_add, Nat.reduceAdd]; simp only [zci, zcs, Nat.reduceEqDiff, ↓reduceIte]) | (refine DD.append (mm := false) yU yX10 yX10 yU (by decide) yX10 (by first | exact .inl rfl | exact .inr ⟨rfl, rfl⟩) yX10 yX11 (by first | exact zat zdw _ | exact zat zet _ | exact zat Member.len _ | exact zat Sitting.len _ | exact zat Ruling.len _ | (simp only [List.mem_cons, List.not_mem_nil, or_false, forall_eq]; rfl) | simp) ⟨by (try simp only [List.length_map, List.length_cons, List.length_nil, List.length_append, List.length_take, List.length_drop]); omega, by decide⟩ ?_; simp only [zao, zag, zah, Nat.reduceEqDiff, ↓reduceIte, zal, zam, zar, zak, zai, zap, zan]; simp only [zci, zcs, Nat.reduceEqDiff, ↓reduceIte]) | fail)
   all_goals first | (exfalso; omega) | skip
   obtain ⟨m, rfl⟩ : ∃ m', m = m' + 1 := ⟨m - 1, by omega⟩
   have hk := K.out
   rw [tabG, if_pos ht, K2.out, Int.toNat_natCast, List.getD_eq_getElem?_getD, List.getElem?_eq_getElem hir, Option.getD_some] at hk
   refine DS.back (hB (m, zae x2, t ++ [rest[i]], rest.take i ++ rest.drop (i + 1)) _ _ (by simp; omega) ⟨by simp; omega, by simp; omega, by simp; omega, by simp; omega, hk⟩ yS yS (fun b o e => by exact e))
  ·repeat' (first | (with_reducible refine zee (t := 8) yU yO yX10 ?_; simp only [zao, zag, zah, Nat.reduceEqDiff, ↓reduceIte, zal, zam, zar, zak, zai, zap, zan]) | (with_reducible refine zee (t := 49) yU yO yX10 ?_; simp only [zao, zag, zah, Nat.reduceEqDiff, ↓reduceIte, zal, zam, zar, zak, zai, zap, zan]) | (with_reducible first | refine zac yU yU yX10 ?_ | refine zab ?_ | refine DS.seq ?_ | refine zaa ?_ | (refine zbc yX10 ?_; refine zdk ?_) | refine DS.blk ?_ | refine DS.exit yU ?_) | (refine zff yU yX10 yX10 ?_; simp only [go_sem, Nat.zero_add, Nat.reduceAdd]) | (refine DS.append (mm := false) yU yX10 yX10 yU (by decide) yX10 (by first | exact .inl rfl | exact .inr ⟨rfl, rfl⟩) yX10 yX11 (by first | exact zat zdw _ | exact zat zet _ | exact zat Member.len _ | exact zat Sitting.len _ | exact zat Ruling.len _ | (simp only [List.mem_cons, List.not_mem_nil, or_false, forall_eq]; rfl) | simp) ⟨by (try simp only [List.length_map, List.length_cons, List.length_nil, List.length_append, List.length_take, List.length_drop]); omega, by decide⟩ ?_; simp only [zao, zag, zah, Nat.reduceEqDiff, ↓reduceIte, zal, zam, zar, zak, zai, zap, zan]) | refine zcb inferInstance (yig t (by omega)) yR yX12 ?_ | fail)
   all_goals first | (exfalso; omega) | skip
   have hk := K.out
   rw [yhl size m x2 t rest ht] at hk
   have h := H.out
   rw [zmx, if_pos (by simpa using h0), List.headD_cons, List.drop_succ_cons, List.drop_zero, hk] at h
   refine DS.back (hB0 (n, x2, rest, out ++ [zfs t]) _ _ (by simp; omega) ⟨by simp; omega, by simp; omega, h⟩ yS yS (fun b o e => by exact e))
 ·repeat' (first | (with_reducible refine zee (t := 6) yU yO yE ?_; simp only [zao, zag, zah, Nat.reduceEqDiff, ↓reduceIte, zal, zam, zar, zak, zai, zap, zan]) | (with_reducible refine zee (t := 54) yU yO yE ?_; simp only [zao, zag, zah, Nat.reduceEqDiff, ↓reduceIte, zal, zam, zar, zak, zai, zap, zan]) | (with_reducible first | refine zac yU yU yE ?_ | refine zab ?_ | refine DS.seq ?_ | refine zaa ?_ | (refine zbc yE ?_; refine zdk ?_) | refine DS.exit yU ?_) | fail)
  all_goals first | (exfalso; omega) | skip
  have h := H.out
  rw [zmx, if_neg h0] at h
  refine zch yG ⟨by rw [h]; rfl, by rw [h]⟩
end Go.XL
namespace Go.XL
def ptsG (size start : Int) : Nat → Int → List (List Int) → List (List Int) × Int
 | 0, x, out => (out, x)
 | n + 1, x, out => if 0 < zaj x 5 then ptsG size start n (zfv size start (zae x)).2 (out ++ [(zfv size start (zae x)).1]) else ptsG size start n (zae x) (out ++ [[]])
def zdp (c : Club) (x : Int) : List Int × Int := zdt c.size x (zck c c.rounds.length)
def zay (c : Club) (x : Int) : List (List Int) × Int :=
 if (zdp c x).1.length ≤ 12 then
  (if 0 < zaj (zeq c.size (zdp c x).2 (zdp c x).1).2 3 ∧ (zjt c (zdp c x).1).2 = 0 then (zjt c (zdp c x).1).1 else (zeq c.size (zdp c x).2 (zdp c x).1).1, zae (zeq c.size (zdp c x).2 (zdp c x).1).2)
 else zeq c.size (zdp c x).2 (zdp c x).1
def zcn (c : Club) (x : Int) : List (List Int) × Int := ptsG c.size c.start (zay c x).1.length (zay c x).2 []
theorem ycs {budget : Int} {round n : Nat} {rec : List Int → Int → Int × Int × List (Nat × List Int)} (h : ∀ t s, (rec t s).2.2.length ≤ n) : ∀ (l : List (List Int)) (s : Int), (tryL budget round rec l s).2.2.length ≤ n + 1
 | [], s => by simp [tryL]
 | t :: r, s => by
  simp only [tryL]
  split
  ·simp
  split
  ·exact ycs h r _
  ·simp only [List.length_cons]; have := h t (w64 (s + 1)); omega
theorem zvz {size : Nat} {budget : Int} {rounds : List (List Int)} : ∀ (n : Nat) (met : Int → Int → Bool) (round : Nat) (ids : List Int) (s : Int), (srch size budget rounds n met round ids s).2.2.length ≤ n
 | 0, met, round, ids, s => by simp [srch]
 | n + 1, met, round, [], s => by
  rw [srch]
  split
  ·simp
  ·exact Nat.le_succ_of_le (zvz n met _ _ _)
 | n + 1, met, round, f :: fr, s => by
  rw [srch]
  exact ycs (fun t s => zvz n _ _ _ _) _ _
theorem yis (c : Club) (ids : List Int) : (zjt c ids).1.length ≤ ids.length + 2 := by
 unfold zjt
 repeat' split
 all_goals first | (simp; done) | skip
 simp only [List.length_map, runS]
 have := zvz (size := c.size.toNat) (budget := -1) (rounds := [ids]) (znc [ids]) (met0 c) 0 ([ids].headD []) 0
 simp [znc] at this ⊢
 omega
theorem zxt (size : Int) : ∀ (n : Nat) (x : Int) (rest : List Int) (out : List (List Int)), (zmx size n x rest out).1.length ≤ out.length + n
 | 0, x, rest, out => by simp [zmx]
 | n + 1, x, rest, out => by
  simp only [zmx]
  split
  ·have := zxt size n (tabG size size.toNat x [rest.headD 0] (rest.drop 1)).2.2 (tabG size size.toNat x [rest.headD 0] (rest.drop 1)).2.1 (out ++ [zfs (tabG size size.toNat x [rest.headD 0] (rest.drop 1)).1])
   simp only [List.length_append, List.length_singleton] at this
   omega
  ·show out.length ≤ _
   omega
theorem zvu (size x : Int) (l : List Int) : (zeq size x l).1.length ≤ l.length + 1 := by
 have := zxt size (l.length + 1) x l []
 simpa [zeq] using this
theorem znv (c : Club) (x : Int) : (zay c x).1.length ≤ c.members.length + 2 := by
 have h1 := (zgr c.size x (zck c c.rounds.length)).length_le
 have h2 : (zck c c.rounds.length).length ≤ c.members.length := by
  unfold zck
  repeat' split
  all_goals first | (simp; done) | skip
  rw [zer, List.length_map]
  exact List.length_filter_le _ _
 have h3 := yis c (zdp c x).1
 have h4 := zvu c.size (zdp c x).2 (zdp c x).1
 unfold zdp at *
 unfold zay zdp
 split
 ·dsimp only
  split <;> omega
 ·omega
end Go.XL
namespace Go.XL
open Go.Proofs
set_option maxRecDepth 100000
set_option maxHeartbeats 8000000
def mzS (rs : List (List Int)) (round k : Nat) : Nat := k + ((rs.drop (round + 1)).map List.length).sum + (rs.length - round)
def yst (bx bp : Nat) (c : Club) (rs : List (List Int)) (bs : List Nat) (budget : Int) (met : Int → Int → Bool) (ps : List PRow) (res : Int × Int × List (Nat × List Int)) (u : V) (S' : Sto) : Prop :=
 u = I res.1 ∧ ∃ met' ps', SearchR S' bx bp c rs bs budget res.2.1 met' ps' ∧ ps'.length = ps.length ∧ (res.1 = 2 → met' = met ∧ ∀ (i : Nat) (h : i < ps.length) (h' : i < ps'.length), ps'[i].rows = ps[i].rows) ∧
  (res.1 = 1 → ∀ (i : Nat) (h : i < ps.length) (h' : i < ps'.length), ps'[i].rows = ps[i].rows ++ (res.2.2.filter fun q => decide (q.1 = i)).map Prod.snd)
theorem zzg (ids : List Int) : zhf ids [] = ids := by simp [zhf]
theorem yds {rs : List (List Int)} {round : Nat} (h : round + 1 < rs.length) : mzS rs (round + 1) rs[round + 1].length + 1 = mzS rs round 0 := by
 simp only [mzS]
 rw [List.drop_eq_getElem_cons h, List.map_cons, List.sum_cons]
 omega
theorem zyt (st : List Int → Int → Bool) : ∀ (n : Nat) (t ids : List Int), ∀ x ∈ zgt st n t ids, x.Sublist ids
 | 0, t, ids, x, h => by simp only [zgt, List.mem_singleton] at h; subst h; exact List.nil_sublist _
 | n + 1, t, ids, x, h => by
  have key : ∀ l : List Int, ∀ x ∈ zgd st (zgt st n) t l, x.Sublist l := by
   intro l
   induction l with
   | nil => intro x h; simp [zgd] at h
   | cons id r ih =>
    intro x h
    simp only [zgd, List.mem_append] at h
    rcases h with h | h
    ·split at h
     ·obtain ⟨y, hy, rfl⟩ := List.mem_map.1 h
      exact (zyt st n _ _ y hy).cons_cons id
     ·simp at h
    ·exact (ih x h).cons id
  exact key ids x h
theorem zul (met : Int → Int → Bool) : ∀ (n : Nat) (t ids : List Int), t.Pairwise (fun a b => met a b = false) → ∀ x ∈ zgt (zby met) n t ids, (t ++ x).Pairwise fun a b => met a b = false
 | 0, t, ids, ht, x, h => by simp only [zgt, List.mem_singleton] at h; subst h; simpa using ht
 | n + 1, t, ids, ht, x, h => by
  have key : ∀ l : List Int, ∀ x ∈ zgd (zby met) (zgt (zby met) n) t l, (t ++ x).Pairwise fun a b => met a b = false := by
   intro l
   induction l with
   | nil => intro x h; simp [zgd] at h
   | cons id r ih =>
    intro x h
    simp only [zgd, List.mem_append] at h
    rcases h with h | h
    ·split at h
     ·rename_i hst
      obtain ⟨y, hy, rfl⟩ := List.mem_map.1 h
      have := zul met n (t ++ [id]) r (by
       rw [List.pairwise_append]
       refine ⟨ht, by simp, fun a ha b hb => ?_⟩
       rw [List.mem_singleton.1 hb]
       have := List.all_eq_true.1 hst a ha
       simpa using this) y hy
      rwa [List.append_assoc] at this
     ·simp at h
    ·exact ih x h
  exact key ids x h
theorem ygq {met : Int → Int → Bool} {t : List Int} (hp : t.Pairwise fun a b => met a b = false) (hs : ∀ a b, met a b = met b a) : zpi (zpi met t true) t false = met := by
 funext a b
 simp only [zpi]
 by_cases h : a ∈ t ∧ b ∈ t ∧ a ≠ b
 ·rw [if_pos h]
  obtain ⟨h1, h2, h3⟩ := h
  obtain ⟨i, hi, rfl⟩ := List.getElem_of_mem h1
  obtain ⟨j, hj, rfl⟩ := List.getElem_of_mem h2
  rcases Nat.lt_trichotomy i j with h4 | h4 | h4
  ·exact (List.pairwise_iff_getElem.1 hp i j hi hj h4).symm
  ·subst h4; exact absurd rfl h3
  ·rw [hs]; exact (List.pairwise_iff_getElem.1 hp j i hj hi h4).symm
 ·rw [if_neg h, if_neg h]
theorem yjd {met : Int → Int → Bool} {t : List Int} {v : Bool} (hs : ∀ a b, met a b = met b a) (a b : Int) : zpi met t v a b = zpi met t v b a := by
 simp only [zpi, hs a b]
 by_cases h : a ∈ t ∧ b ∈ t ∧ a ≠ b
 ·rw [if_pos h, if_pos ⟨h.2.1, h.1, h.2.2.symm⟩]
 ·rw [if_neg h, if_neg (fun h' => h ⟨h'.2.1, h'.1, h'.2.2.symm⟩)]
theorem ynj (met : Int → Int → Bool) (t : List Int) : zjl met t = zpi met t true := rfl
theorem yqo {S : Sto} {bx bp : Nat} {c : Club} {rs : List (List Int)} {bs : List Nat} {budget steps : Int} {met : Int → Int → Bool} {ps : List PRow} (s : SearchR S bx bp c rs bs budget steps met ps) :
  RC Tryz.prog 129 [.v (.pointer (some ⟨bx, 0, none⟩)), I rs.length] S (I 1) := by
 have hx := s.obj
 clear s
 refine DC.of_run Tryz.func129 rfl Tryz.ntmps129 Tryz.results129 (by simp) (fun _ => ?_); simp only [zaq, zau, go_sem, Nat.zero_add, Nat.reduceAdd]
 repeat' (first | (with_reducible first | refine zac yU yU yX1 ?_ | refine zab ?_ | refine DS.seq ?_ | refine zaa ?_ | (refine zbc yX1 ?_; refine zdh ?_)) | refine zch yX1 ⟨?_, rfl⟩ | fail)
 rfl
theorem yX14 {p : Prop} (h : p := by (simp (disch := omega) only [go_sem, dopV, Option.map_some, Option.map_none, Option.bind_some, Option.bind_none, ↓reduceIte, Nat.reduceEqDiff, Nat.reduceLT, Nat.reduceLeDiff, Nat.reduceAdd, Nat.reduceMul, Nat.reduceSub, Nat.zero_add, Nat.add_zero, Nat.zero_le, Nat.zero_mul, Nat.mul_one, Nat.one_mul, Int.natCast_zero, Int.toNat_zero, Int.reduceToNat, Int.reduceLT, Int.reduceLE, Int.reduceEq, decide_true, decide_false, true_and, and_true, Bool.and_self, Bool.and_true, Bool.true_and, Bool.not_true, Bool.not_false, IntWalk.toNatUp, IntWalk.iteOmega, IntWalk.i64_in, Option.isSome_some, not_true_eq_false, not_false_eq_true, Option.getD_some, Option.getD_none, Int.toNat_natCast, List.length_map, List.getElem?_map, List.getElem?_eq_getElem, V.flat, V.one, List.all_cons, List.all_nil, *, ztp, List.forall_mem_cons, List.forall_mem_map, implies_true, zgq]; exact rfl)) : p := h
theorem yX15 {p : Prop} (h : p := by (simp (disch := omega) only [go_sem, dopV, Option.map_some, Option.map_none, Option.bind_some, Option.bind_none, ↓reduceIte, Nat.reduceEqDiff, Nat.reduceLT, Nat.reduceLeDiff, Nat.reduceAdd, Nat.reduceMul, Nat.reduceSub, Nat.zero_add, Nat.add_zero, Nat.zero_le, Nat.zero_mul, Nat.mul_one, Nat.one_mul, Int.natCast_zero, Int.toNat_zero, Int.reduceToNat, Int.reduceLT, Int.reduceLE, Int.reduceEq, decide_true, decide_false, true_and, and_true, Bool.and_self, Bool.and_true, Bool.true_and, Bool.not_true, Bool.not_false, IntWalk.toNatUp, IntWalk.iteOmega, IntWalk.i64_in, Option.isSome_some, not_true_eq_false, not_false_eq_true, Option.getD_some, Option.getD_none, Int.toNat_natCast, List.length_map, List.getElem?_map, List.getElem?_eq_getElem, V.flat, V.one, List.all_cons, List.all_nil, *, ztp, List.forall_mem_cons, List.forall_mem_map, implies_true, zgq]; try exact rfl)) : p := h
theorem yX16 {p : Prop} (h : p := by (simp (disch := omega) only [go_sem, dopV, Option.map_some, Option.map_none, Option.bind_some, Option.bind_none, ↓reduceIte, Nat.reduceEqDiff, Nat.reduceLT, Nat.reduceLeDiff, Nat.reduceAdd, Nat.reduceMul, Nat.reduceSub, Nat.zero_add, Nat.add_zero, Nat.zero_le, Nat.zero_mul, Nat.mul_one, Nat.one_mul, Int.natCast_zero, Int.toNat_zero, Int.reduceToNat, Int.reduceLT, Int.reduceLE, Int.reduceEq, decide_true, decide_false, true_and, and_true, Bool.and_self, Bool.and_true, Bool.true_and, Bool.not_true, Bool.not_false, IntWalk.toNatUp, IntWalk.iteOmega, IntWalk.i64_in, Option.isSome_some, not_true_eq_false, not_false_eq_true, Option.getD_some, Option.getD_none, Int.toNat_natCast, List.length_map, List.getElem?_map, List.getElem?_eq_getElem, V.flat, V.one, List.all_cons, List.all_nil, *, ztp, PRow.cell_copy]; exact rfl)) : p := h
theorem yX17 {p : Prop} (h : p := by (simp (disch := omega) only [go_sem, dopV, Option.map_some, Option.map_none, Option.bind_some, Option.bind_none, ↓reduceIte, Nat.reduceEqDiff, Nat.reduceLT, Nat.reduceLeDiff, Nat.reduceAdd, Nat.reduceMul, Nat.reduceSub, Nat.zero_add, Nat.add_zero, Nat.zero_le, Nat.zero_mul, Nat.mul_one, Nat.one_mul, Int.natCast_zero, Int.toNat_zero, Int.reduceToNat, Int.reduceLT, Int.reduceLE, Int.reduceEq, decide_true, decide_false, true_and, and_true, Bool.and_self, Bool.and_true, Bool.true_and, Bool.not_true, Bool.not_false, IntWalk.toNatUp, IntWalk.iteOmega, IntWalk.i64_in, Option.isSome_some, not_true_eq_false, not_false_eq_true, Option.getD_some, Option.getD_none, Int.toNat_natCast, List.length_map, List.getElem?_map, List.getElem?_eq_getElem, V.flat, V.one, List.all_cons, List.all_nil, *, ints]; try exact rfl)) : p := h
theorem yX18 {p : Prop} (h : p := by (simp (disch := omega) only [go_sem, dopV, Option.map_some, Option.map_none, Option.bind_some, Option.bind_none, ↓reduceIte, Nat.reduceEqDiff, Nat.reduceLT, Nat.reduceLeDiff, Nat.reduceAdd, Nat.reduceMul, Nat.reduceSub, Nat.zero_add, Nat.add_zero, Nat.zero_le, Nat.zero_mul, Nat.mul_one, Nat.one_mul, Int.natCast_zero, Int.toNat_zero, Int.reduceToNat, Int.reduceLT, Int.reduceLE, Int.reduceEq, decide_true, decide_false, true_and, and_true, Bool.and_self, Bool.and_true, Bool.true_and, Bool.not_true, Bool.not_false, IntWalk.toNatUp, IntWalk.iteOmega, IntWalk.i64_in, Option.isSome_some, not_true_eq_false, not_false_eq_true, Option.getD_some, Option.getD_none, Int.toNat_natCast, List.length_map, List.getElem?_map, List.getElem?_eq_getElem, V.flat, V.one, List.all_cons, List.all_nil, *, ints, List.map_append]; try exact rfl)) : p := h
theorem yjw {bx bp : Nat} {c : Club} {rs : List (List Int)} {bs : List Nat} {budget : Int} (hs : c.Small) (ha : c.Asc) (hsz : 3 ≤ c.size ∧ c.size ≤ 4) (hrl : rs.length ≤ 1000) (hrs : ∀ ids ∈ rs, ids.length ≤ 40 ∧ ids.Nodup ∧ ∀ a ∈ ids, ¬ zhr c a < 0) :
  ∀ (n : Nat) (S : Sto) (met : Int → Int → Bool) (steps : Int) (ps : List PRow) (round : Nat) (s : SearchR S bx bp c rs bs budget steps met ps) (hps : ps.length = rs.length) (hr : round < rs.length) (hrest : ∀ i, round < i → ∀ h : i < ps.length, ps[i].rows = []) (hsym : ∀ a b, met a b = met b a)
   (hn : mzS rs round (zhf rs[round] (ps[round]'(hps ▸ hr)).rows).length < n) (hT : ∀ i (h : i < ps.length), ps[i].rows.length + n ≤ 10000),
  DC Tryz.prog 129 [.v (.pointer (some ⟨bx, 0, none⟩)), I round] S (yst bx bp c rs bs budget met ps (srch c.size.toNat budget rs n met round (zhf rs[round] (ps[round]'(hps ▸ hr)).rows) steps))
 | 0, S, met, steps, ps, round, s, hps, hr, hrest, hsym, hn, hT => by omega
 | n + 1, S, met, steps, ps, round, s, hps, hr, hrest, hsym, hn, hT => by
  have hr' : round < ps.length := hps ▸ hr
  have hx := s.obj
  have hrr := hrs _ (List.getElem_mem hr)
  have hfree := yqp S (mt := mtV bs c.members.length) s.obj s.pln hr' hr (s.row round hr') (by omega) (by have := hT round hr'; omega)
  generalize hids : zhf rs[round] (ps[round]'hr').rows = ids at *
  cases ids with
  | nil =>
   by_cases hend : round + 1 = rs.length
   ·have he := yqo s
    rw [srch, if_pos hend]
    have H := And.intro s (And.intro hps hend)
    clear s hrs hrest hsym hn hT hps
    have hend' : (round : Int) + 1 = rs.length := by omega
    refine DC.of_run Tryz.func129 rfl Tryz.ntmps129 Tryz.results129 (by simp) (fun _ => ?_); simp only [zaq, zau, go_sem, Nat.zero_add, Nat.reduceAdd]
    repeat' (first | (with_reducible first | refine zac yU yU yX1 ?_ | refine zab ?_ | refine DS.seq ?_ | refine zaa ?_ | (refine zbc yX1 ?_; first | refine zeo (fun _ => ?_) (fun _ => ?_) | refine zdh ?_) | refine DS.skip ?_) | refine zhv inferInstance (hfree) yR yX2 ?_ | refine zhv inferInstance (he) yR yX2 ?_ | fail)
    all_goals first | (exfalso; omega) | skip
    refine zch yG ⟨rfl, met, ps, H.1, rfl, fun h => by simp at h, fun _ i h h' => by simp⟩
   ·have hnx : round + 1 < rs.length := by omega
    have hf2 : zhf (rs[round + 1]'hnx) (ps[round + 1]'(hps ▸ hnx)).rows = rs[round + 1]'hnx := by rw [hrest (round + 1) (by omega) (hps ▸ hnx), zzg]
    have ih := yjw hs ha hsz hrl hrs n S met steps ps (round + 1) s hps hnx (fun i hi h => hrest i (by omega) h) hsym (by rw [hf2]; have := yds hnx; simp only [List.length_nil] at hn; omega) (fun i h => by have := hT i h; omega)
    rw [hf2] at ih
    rw [srch, if_neg hend, List.getD_eq_getElem?_getD, List.getElem?_eq_getElem hnx, Option.getD_some]
    clear s hrs hrest hsym hn hT hps hf2
    refine DC.of_run Tryz.func129 rfl Tryz.ntmps129 Tryz.results129 (by simp) (fun _ => ?_); simp only [zaq, zau, go_sem, Nat.zero_add, Nat.reduceAdd]
    repeat' (first | (with_reducible first | refine zac yU yU yX1 ?_ | refine zab ?_ | refine DS.seq ?_ | refine zaa ?_ | (refine zbc yX1 ?_; first | refine zeo (fun _ => ?_) (fun _ => ?_) | refine zdh ?_) | refine DS.skip ?_) | refine zhv inferInstance (hfree) yR yX2 ?_ | fail)
    all_goals first | (exfalso; omega) | skip
    refine zdx inferInstance ih yR (by simp (disch := omega) only [go_sem, dopV, Option.map_some, Option.map_none, Option.bind_some, Option.bind_none, ↓reduceIte, Nat.reduceEqDiff, Nat.reduceLT, Nat.reduceLeDiff, Nat.reduceAdd, Nat.reduceMul, Nat.reduceSub, Nat.zero_add, Nat.add_zero, Nat.zero_le, Nat.zero_mul, Nat.mul_one, Nat.one_mul, Int.natCast_zero, Int.toNat_zero, Int.reduceToNat, Int.reduceLT, Int.reduceLE, Int.reduceEq, decide_true, decide_false, true_and, and_true, Bool.and_self, Bool.and_true, Bool.true_and, Bool.not_true, Bool.not_false, IntWalk.toNatUp, IntWalk.iteOmega, IntWalk.i64_in, Option.isSome_some, not_true_eq_false, not_false_eq_true, Option.getD_some, Option.getD_none, Int.toNat_natCast, List.length_map, List.getElem?_map, List.getElem?_eq_getElem, V.flat, V.one, List.all_cons, List.all_nil, *, Int.natCast_add, Int.natCast_one]) (fun u S' hu => ?_)
    obtain ⟨rfl, hu2⟩ := hu
    repeat' (first | (with_reducible first | refine zac yU yU yE ?_ | refine zab ?_) | fail)
    refine zch yG ⟨rfl, hu2⟩
  | cons f fr =>
   generalize hres : srch c.size.toNat budget rs (n + 1) met round (f :: fr) steps = res
   rw [srch] at hres
   obtain ⟨k, hk⟩ : ∃ k : Nat, (k : Int) = c.size - 1 := ⟨(c.size - 1).toNat, by omega⟩
   have hk2 : c.size.toNat - 1 = k := by omega
   rw [hk2, zuu] at hres
   have hmem : ∀ a ∈ f :: fr, a ∈ rs[round] := fun a h => by rw [← hids] at h; exact (List.mem_filter.1 h).1
   have hlen : (f :: fr).length ≤ 40 := by rw [← hids]; exact Nat.le_trans (List.length_filter_le _ _) hrr.1
   have hm1 := yiu S hs s.obj s.mat k [f] fr (by omega) (by simp at hlen; omega) (by simp; omega) (fun a h => hrr.2.2 a (hmem a (by simp at h; simp [h]))) (fun a h => hrr.2.2 a (hmem a (List.mem_cons_of_mem _ h)))
   rw [hk] at hm1
   have hXl := zrs (zby met) k [f] fr
   have H := And.intro hres (And.intro hmem hids)
   clear hres hmem hids
   refine DC.of_run Tryz.func129 rfl Tryz.ntmps129 Tryz.results129 (by simp) (fun _ => ?_); simp only [zaq, zau, go_sem, Nat.zero_add, Nat.reduceAdd]
   repeat' (first | (with_reducible first | refine zac yU yU yX14 ?_ | refine zab ?_ | refine DS.seq ?_ | refine zaa ?_ | (refine zbc yX14 ?_; refine zeo (fun _ => ?_) (fun _ => ?_)) | refine DS.block ?_ | refine DS.skip ?_) | refine zhv inferInstance (hfree) yR yX15 ?_ | refine zhv inferInstance (hm1) yR yX15 ?_ | refine zbz (id := 6) [0, 1, 2, 3, 4, 5, 6, 7, 8, 9, 10] 11 (by kernel_rfl) zdq (by simp only [zba, zbd, zbe, zbf, zaz]; exact rfl) (by simp only [zaw, zax, List.drop_nil]; exact rfl) ?_ | (with_reducible first | refine zbv yU yU yU yX14 ?_ | refine zdb ?_) | fail)
   all_goals first | (exfalso; omega) | skip
   have hXs := zyt (zby met) k [f] fr
   have hXp := zul met k [f] fr (by simp)
   have hXm := zrr (zby met) k [f] fr
   have hXl2 : (zgt (zby met) k [f] fr).length ≤ 41 ^ 3 := Nat.le_trans hXl (Nat.le_trans (Nat.pow_le_pow_left (show fr.length + 1 ≤ 41 by simp at hlen; omega) _) (Nat.pow_le_pow_right (by omega) (by omega)))
   have hres := H.1
   have hids := H.2.2
   have hmem := H.2.1
   clear H hm1 hXl
   generalize zgt (zby met) k [f] fr = X at *
   have hndf : (f :: fr).Nodup := by rw [← hids]; exact hrr.2.1.filter _
   have H := And.intro hXs (And.intro hXp (And.intro hXm (And.intro hids (And.intro hmem hndf))))
   clear hXs hXp hXm hids hmem hndf
   refine zco [0, 1, 5, 6] yN (fun (x : Nat × Sto × Int × List PRow) => [(7, I x.1)]) (fun (x : Nat × Sto × Int × List PRow) => x.2.1) (fun (x : Nat × Sto × Int × List PRow) => x.1 ≤ X.length ∧ SearchR x.2.1 bx bp c rs bs budget x.2.2.1 met x.2.2.2 ∧ x.2.2.2.length = ps.length ∧ (∀ (i : Nat) (h : i < ps.length) (h' : i < x.2.2.2.length), x.2.2.2[i].rows = ps[i].rows) ∧ tryL budget round (fun t s => srch c.size.toNat budget rs n (zjl met t) round ((f :: fr).filter fun id => !decide (id ∈ t)) s) ((X.drop x.1).map ([f] ++ ·)) x.2.2.1 = res) (fun (x : Nat × Sto × Int × List PRow) => X.length - x.1) (0, S, steps, ps) yS (fun b o e => by exact e) ⟨Nat.zero_le _, s, rfl, fun _ _ _ => rfl, hres⟩ (fun x B hI hB => ?_); try dsimp only at hI hB; simp only [zas, zav]
   obtain ⟨j, S1, st1, ps1⟩ := x
   dsimp only at hI hB
   obtain ⟨g1, g2, g3, g4, g5⟩ := hI
   have hx1 := g2.obj
   have G := And.intro g2 (And.intro g4 g5)
   have Kp := And.intro hrest (And.intro hn (And.intro hT (And.intro hrs hsym)))
   clear g2 g4 g5 hres s hx hrs hrest hn hT hfree hsym
   simp only [zas, zav]
   have hr1 : round < ps1.length := g3 ▸ hr'
   repeat' (first | (with_reducible first | refine zac yU yU yX1 ?_ | refine zab ?_ | refine DS.seq ?_ | refine zaa ?_ | (refine zbc yX1 ?_; refine zeo (fun _ => ?_) (fun _ => ?_)) | refine DS.block ?_ | refine DS.exit yU ?_ | refine DS.skip ?_) | (refine DS.store yR yX1 yX1 yX1 yX1 yU (by exact ⟨by with_unfolding_all rfl, by (try simp only [List.length_map, List.length_append, List.length_set, List.length_replicate, List.length_cons, List.length_nil]); omega⟩) ?_; simp only [zbt, zbb, zbh, zcm, zbq, zbo, zbr]; try simp only [zao, zag, zah, Nat.reduceEqDiff, ↓reduceIte, zal, zam, zar, zak, zai, zap, zan]) | refine zbz (id := 10) [0, 1, 2, 3, 4, 5, 6, 7] 8 (by kernel_rfl) zdq (by simp only [zba, zbd, zbe, zbf, zaz]; exact rfl) (by simp only [zaw, zax, List.drop_nil]; exact rfl) ?_ | refine zbz (id := 13) [0, 1, 2, 4, 5, 6, 7, 3] 8 (by kernel_rfl) zdq (by simp only [zba, zbd, zbe, zbf, zaz]; exact rfl) (by simp only [zaw, zax, List.drop_nil]; exact rfl) ?_ | (with_reducible first | refine zbv yU yU yU yX1 ?_ | refine zdb ?_) | (refine zhz yU yX1 yX1 ?_; simp only [go_sem, Nat.zero_add, Nat.reduceAdd]; simp only [zci, zcs, Nat.reduceEqDiff, ↓reduceIte]) | fail)
   ·rename_i e1 e2
    have e3 : res = (3, st1, []) := by
     rw [← G.2.2, List.drop_eq_getElem_cons (show j < X.length by omega), List.map_cons, tryL, if_pos e2]
    rw [e3]
    refine zch yG ⟨rfl, met, ps1, G.1, g3, fun h => by simp at h, fun h => by simp at h⟩
   ·rename_i e1 e2
    have hj : j < X.length := by omega
    have hk3 := (H.2.2.1 _ (List.getElem_mem hj)).1
    have g6 := G.1.steps (w64 (st1 + 1)) (l := sC c rs bp ps1.length (mtV bs c.members.length) budget (w64 (st1 + 1))) rfl
    refine zfj (S' := setS bx (.cells (sC c rs bp ps1.length (mtV bs c.members.length) budget (w64 (st1 + 1))) TS) S1) (fun b o e => by rw [g3.trans hps] at e; exact e) ?_
    generalize setS bx (.cells (sC c rs bp ps1.length (mtV bs c.members.length) budget (w64 (st1 + 1))) TS) S1 = S2 at *
    repeat' (first | (with_reducible first | refine zac yU yU yX1 ?_ | refine zab ?_ | refine DS.seq ?_ | refine zaa ?_) | (refine DS.append (mm := false) yU yX1 yX1 yU (by decide) yX1 (by first | exact .inl rfl | exact .inr ⟨rfl, rfl⟩) yX1 yX3 (by first | exact zat zdw _ | exact zat zet _ | exact zat Member.len _ | exact zat Sitting.len _ | exact zat Ruling.len _ | (simp only [List.mem_cons, List.not_mem_nil, or_false, forall_eq]; rfl) | simp) ⟨by (try simp only [List.length_map, List.length_cons, List.length_nil, List.length_append, List.length_take, List.length_drop]); omega, by decide⟩ ?_; simp only [zao, zag, zah, Nat.reduceEqDiff, ↓reduceIte, zal, zam, zar, zak, zai, zap, zan]) | fail)
    have htab : ([f] ++ X[j]).Sublist (f :: fr) := (H.1 _ (List.getElem_mem hj)).cons_cons f
    have hmk := yjc S2 hs ha g6.nd g6.xb g6.obj g6.mat ([f] ++ X[j]) true (fun a h => hrr.2.2 a (H.2.2.2.2.1 a (htab.subset h))) (htab.nodup H.2.2.2.2.2) (by simp; omega)
    refine zdx inferInstance hmk yR (by simp (disch := omega) only [go_sem, dopV, Option.map_some, Option.map_none, Option.bind_some, Option.bind_none, ↓reduceIte, Nat.reduceEqDiff, Nat.reduceLT, Nat.reduceLeDiff, Nat.reduceAdd, Nat.reduceMul, Nat.reduceSub, Nat.zero_add, Nat.add_zero, Nat.zero_le, Nat.zero_mul, Nat.mul_one, Nat.one_mul, Int.natCast_zero, Int.toNat_zero, Int.reduceToNat, Int.reduceLT, Int.reduceLE, Int.reduceEq, decide_true, decide_false, true_and, and_true, Bool.and_self, Bool.and_true, Bool.true_and, Bool.not_true, Bool.not_false, IntWalk.toNatUp, IntWalk.iteOmega, IntWalk.i64_in, Option.isSome_some, not_true_eq_false, not_false_eq_true, Option.getD_some, Option.getD_none, Int.toNat_natCast, List.length_map, List.getElem?_map, List.getElem?_eq_getElem, V.flat, V.one, List.all_cons, List.all_nil, *, ints, List.map_append]) (fun u S3 hu => ?_)
    have g7 := g6.marked hu.1 hu.2
    clear hmk hu g6 hx1
    have hx3 := g7.obj
    have hp3 := g7.pln
    obtain ⟨p, hp⟩ : ∃ p, p = ps1[round] := ⟨_, rfl⟩
    have hrow := g7.row round hr1
    rw [← hp] at hrow
    have hpc : (ps1.map PRow.cell)[round]? = some p.cell := by rw [List.getElem?_map, List.getElem?_eq_getElem hr1, ← hp]; rfl
    obtain ⟨S0, Sr, k0, k1, k2, k3⟩ := PRow.split hrow
    have hx0 : zad S0 bx = _ := (k3 bx fun cap jk h => (g7.rx round hr1 bx cap jk (hp ▸ h)).1 rfl).1.trans hx3
    have hp0 : zad S0 bp = _ := (k3 bp fun cap jk h => (g7.rx round hr1 bp cap jk (hp ▸ h)).2.1 rfl).1.trans hp3
    have hpr : p.rows.length + (n + 1) ≤ 10000 := by rw [hp, G.2.1 round hr' hr1]; exact Kp.2.2.1 round hr'
    subst hp
    have Kq := And.intro hrow (And.intro k3 (And.intro k2 (And.intro g7 hpr)))
    clear hx3 hp3 hrow k3 g7 k2 hpc
    repeat' (first | (with_reducible first | refine zab ?_ | refine DS.seq ?_) | fail)
    refine zhw (id := 15) (S0) (Sr) [0, 1, 2, 3, 4, 5, 6, 7, 8, 9, 10, 11, 12, 13, 14] 15 (by kernel_rfl) zdq (by simp only [zba, zbd, zbe, zbf, zaz]; exact rfl) (by simp only [zaw, zax, List.drop_nil]; exact rfl) (k0) (k1) ?_
    repeat' (first | with_reducible refine zbv yU yU yU yX16 ?_ | (refine zhz yU yX16 yX16 ?_; simp only [go_sem, Nat.zero_add, Nat.reduceAdd]; simp only [zci, zcs, Nat.reduceEqDiff, ↓reduceIte]) | fail)
    refine zxm rfl rfl rfl yR (zvl (p := ps1[round]'hr1) (tab := [f] ++ X[j]) rfl yT yT yR yR yT Kq.2.2.1 yT yX17 ⟨by omega, by decide⟩) (fun u2 E' S4 hu2 hdis => ?_)
    obtain ⟨rfl, b', cap', junk', rfl, m1, m2, m3⟩ := hu2
    have g8 := Kq.2.2.2.1.appended hr1 rfl Kq.2.1 hdis m1 m2 m3
    have hbp4 := g8.1
    clear m1 m2 m3 hdis hx0 hp0 k0 k1
    simp only [PRow.cell_some, zdr]
    repeat' (first | (with_reducible first | refine zac yU yU yX1 ?_ | refine zab ?_ | refine DS.seq ?_ | refine zaa ?_) | (refine DS.store yR yX1 yX1 yX1 yX1 yU (by exact ⟨by with_unfolding_all rfl, by (try simp only [List.length_map, List.length_append, List.length_set, List.length_replicate, List.length_cons, List.length_nil]); omega⟩) ?_; simp only [zbt, zbb, zbh, zcm, zbq, zbo, zbr]; try simp only [zao, zag, zah, Nat.reduceEqDiff, ↓reduceIte, zal, zam, zar, zak, zai, zap, zan]) | fail)
    have hrow1 := G.2.1 round hr' hr1
    refine zfj (S' := setS bp (.cells ((ps1.map PRow.cell).set round (.v (.slice (some ⟨b', 0, none⟩) ((ps1[round]'hr1).rows ++ [[f] ++ X[j]]).length cap'))) 49) (S4 ++ S0)) (fun b o e => by rw [hrow1] at e; exact e) ?_
    have g9 := g8.2
    clear g8 hbp4
    generalize setS bp (.cells ((ps1.map PRow.cell).set round (.v (.slice (some ⟨b', 0, none⟩) ((ps1[round]'hr1).rows ++ [[f] ++ X[j]]).length cap'))) 49) (S4 ++ S0) = S5 at *
    have hr5 : round < (ps1.set round ⟨(ps1[round]'hr1).rows ++ [[f] ++ X[j]], some (b', cap', junk')⟩).length := by simpa using hr1
    have hrow5 : ((ps1.set round ⟨(ps1[round]'hr1).rows ++ [[f] ++ X[j]], some (b', cap', junk')⟩)[round]'hr5).rows = (ps1[round]'hr1).rows ++ [[f] ++ X[j]] := by rw [List.getElem_set_self]
    have hfree5 : zhf rs[round] ((ps1.set round ⟨(ps1[round]'hr1).rows ++ [[f] ++ X[j]], some (b', cap', junk')⟩)[round]'hr5).rows = (f :: fr).filter fun id => !decide (id ∈ [f] ++ X[j]) := by
     rw [hrow5, zzh, hrow1, H.2.2.2.1]
    have hlt5 : ((f :: fr).filter fun id => !decide (id ∈ [f] ++ X[j])).length ≤ fr.length := by
     rw [List.filter_cons, if_neg (by simp)]; exact List.length_filter_le _ _
    have ih := yjw hs ha hsz hrl Kp.2.2.2.1 n S5 (zpi met ([f] ++ X[j]) true) (w64 (st1 + 1)) (ps1.set round ⟨(ps1[round]'hr1).rows ++ [[f] ++ X[j]], some (b', cap', junk')⟩) round g9 (by rw [List.length_set]; exact g3.trans hps) hr
     (fun i hi h => by
      have h' : i < ps1.length := by simpa using h
      rw [List.getElem_set_ne (by omega), G.2.1 i (g3 ▸ h') h']; exact Kp.1 i hi _)
     (yjd Kp.2.2.2.2)
     (by rw [hfree5]; have := Kp.2.1; simp only [mzS, List.length_cons] at this ⊢; omega)
     (fun i h => by
      have h' : i < ps1.length := by simpa using h
      by_cases hir : round = i
      ·subst hir; rw [hrow5, hrow1]; have := Kp.2.2.1 round hr'; simp only [List.length_append, List.length_cons, List.length_nil]; omega
      ·rw [List.getElem_set_ne hir, G.2.1 i (g3 ▸ h') h']; have := Kp.2.2.1 i (g3 ▸ h'); omega)
    rw [hfree5] at ih
    have Kr := And.intro g9 (And.intro hrow1 (And.intro hrow5 hfree5))
    clear g9 hrow1 hrow5 hfree5
    refine zdx inferInstance ih yR yT (fun u3 S6 hu3 => ?_)
    obtain ⟨rfl, met2, ps2, g10, g11, g12, g13⟩ := hu3
    generalize hr2 : srch c.size.toNat budget rs n (zpi met ([f] ++ X[j]) true) round ((f :: fr).filter fun id => !decide (id ∈ [f] ++ X[j])) (w64 (st1 + 1)) = res2 at *
    have htry : tryL budget round (fun t s => srch c.size.toNat budget rs n (zjl met t) round ((f :: fr).filter fun id => !decide (id ∈ t)) s) ((X.drop j).map ([f] ++ ·)) st1 =
      if res2.1 = 2 then tryL budget round (fun t s => srch c.size.toNat budget rs n (zjl met t) round ((f :: fr).filter fun id => !decide (id ∈ t)) s) ((X.drop (j + 1)).map ([f] ++ ·)) res2.2.1 else (res2.1, res2.2.1, (round, [f] ++ X[j]) :: res2.2.2) := by
     rw [List.drop_eq_getElem_cons hj, List.map_cons, tryL, if_neg e2]
     simp only [ynj, hr2]
    have Ks := And.intro g10 (And.intro g12 (And.intro g13 (And.intro hr2 htry)))
    clear g10 g12 g13 hr2 htry ih
    have hlen2 : ps2.length = ps1.length := by rw [g11, List.length_set]
    clear g11
    have g5r : ∀ (i : Nat) (h : i < ps1.length) (h' : i < (ps1.set round ⟨(ps1[round]'hr1).rows ++ [[f] ++ X[j]], some (b', cap', junk')⟩).length), ((ps1.set round ⟨(ps1[round]'hr1).rows ++ [[f] ++ X[j]], some (b', cap', junk')⟩)[i]'h').rows = if round = i then (ps1[round]'hr1).rows ++ [[f] ++ X[j]] else (ps1[i]'h).rows := fun i h h' => by
     rw [List.getElem_set]; split <;> rfl
    have Kt := g5r
    clear g5r
    repeat' (first | (with_reducible first | refine zac yU yU yE ?_ | refine zab ?_ | refine DS.seq ?_ | refine zaa ?_ | (refine zbc yE ?_; refine zga (fun _ => ?_) (fun _ => ?_)) | refine DS.skip ?_) | fail)
    ·rename_i e3
     have e4 : res = (res2.1, res2.2.1, (round, [f] ++ X[j]) :: res2.2.2) := by rw [← G.2.2, Ks.2.2.2.2, if_neg e3]
     rw [e4]
     refine zch yG ⟨rfl, met2, ps2, Ks.1, hlen2.trans g3, fun h => absurd h e3, fun h i h1 h2 => ?_⟩
     have hi1 : i < ps1.length := g3 ▸ h1
     rw [Ks.2.2.1 h i (by simpa using hi1) h2, Kt i hi1 (by simpa using hi1)]
     by_cases hir : round = i
     ·subst hir
      rw [if_pos rfl, G.2.1 round h1 hi1, List.filter_cons, if_pos (by simp)]; simp
     ·rw [if_neg hir, G.2.1 i h1 hi1, List.filter_cons, if_neg (by simpa using hir)]
    ·rename_i e3
     obtain ⟨rfl, hrows2⟩ := Ks.2.1 e3
     have hr2' : round < ps2.length := hlen2 ▸ hr1
     have hrow2 := hrows2 round hr5 hr2'
     rw [Kt round hr1 hr5, if_pos rfl] at hrow2
     have hok2 := Ks.1.row round hr2'
     obtain ⟨b6, cap6, junk6, hblk⟩ : ∃ b6 cap6 junk6, (ps2[round]'hr2').blk = some (b6, cap6, junk6) := by
      generalize ps2[round]'hr2' = p2 at hok2 hrow2
      obtain ⟨T2, blk2⟩ := p2
      cases blk2 with
      | none => simp only [PRow.Ok] at hok2; subst hok2; simp at hrow2
      | some x => exact ⟨x.1, x.2.1, x.2.2, rfl⟩
     have hp2e : ps2[round]'hr2' = ⟨(ps1[round]'hr1).rows ++ [[f] ++ X[j]], some (b6, cap6, junk6)⟩ := by
      generalize ps2[round]'hr2' = p2 at hblk hrow2
      obtain ⟨T2, blk2⟩ := p2
      dsimp only at hblk hrow2; rw [hblk, hrow2]
     rw [hp2e] at hok2
     obtain ⟨o1, o2, o3, o4⟩ := hok2
     obtain ⟨ℓ, hℓ⟩ : ∃ ℓ, ℓ = (ps1[round]'hr1).rows.length := ⟨_, rfl⟩
     have hc6 : (ps2[round]'hr2').cell = .v (.slice (some ⟨b6, 0, none⟩) (ℓ + 1) cap6) := by rw [hp2e, PRow.cell_some, hℓ]; simp
     have hlc : ℓ + 1 ≤ cap6 := by rw [List.length_append, List.length_singleton] at o2; omega
     have hx6 := Ks.1.obj
     have hp6 := Ks.1.pln
     have Ku := Box.mk (And.intro hp2e (And.intro hblk (And.intro o1 (And.intro o2 (And.intro o3 (And.intro o4 hrows2))))))
     clear hp2e hblk o1 o2 o3 o4 hrows2 hrow2
     have hℓ2 : ℓ ≤ 10000 := by rw [hℓ, (G.2.1 round hr' hr1)]; have := Kp.2.2.1 round hr'; omega
     have Kv := Box.mk hℓ
     clear hℓ
     repeat' (first | (with_reducible first | refine zac yU yU yX16 ?_ | refine zab ?_ | refine zaa ?_) | (refine DS.store yR yX16 yX16 yX16 yX16 yU (by exact ⟨by with_unfolding_all rfl, by (try simp only [List.length_map, List.length_append, List.length_set, List.length_replicate, List.length_cons, List.length_nil]); omega⟩) ?_; simp only [zbt, zbb, zbh, zcm, zbq, zbo, zbr]; try simp only [zao, zag, zah, Nat.reduceEqDiff, ↓reduceIte, zal, zam, zar, zak, zai, zap, zan]) | refine zbz (id := 19) [0, 1, 2, 3, 4, 5, 6, 7, 8, 9, 10, 11, 12, 13, 14, 15, 16, 17, 18, 19, 20, 21] 22 (by kernel_rfl) zdq (by simp only [zba, zbd, zbe, zbf, zaz]; exact rfl) (by simp only [zaw, zax, List.drop_nil]; exact rfl) ?_ | (with_reducible first | refine zbv yU yU yU yX16 ?_ | refine zdb ?_) | fail)
     refine zfj (S' := setS bp (.cells ((ps2.map PRow.cell).set round (.v (.slice (some ⟨b6, 0, none⟩) (ps1[round]'hr1).rows.length cap6))) 49) S6) (fun b o e => by rw [← Kv.out] at e; exact e) ?_
     have hbp6 : b6 ≠ bp := (Ks.1.rx round hr2' b6 cap6 junk6 Ku.out.2.1).2.1
     have g14 : SearchR (setS bp (.cells ((ps2.map PRow.cell).set round (.v (.slice (some ⟨b6, 0, none⟩) (ps1[round]'hr1).rows.length cap6))) 49) S6) bx bp c rs bs budget res2.2.1 (zpi met ([f] ++ X[j]) true) (ps2.set round ⟨(ps1[round]'hr1).rows, some (b6, cap6, ints ([f] ++ X[j]) :: junk6)⟩) := by
      refine Ks.1.turn hr2' (.inl ⟨cap6, junk6, Ku.out.2.1⟩) ⟨?_, ?_, Ku.out.2.2.2.2.1, ?_⟩ ?_ fun b e4 e5 e6 => ?_
      ·rw [zbg Ks.1.pln, if_neg hbp6, Ku.out.2.2.1]; simp
      ·have := Ku.out.2.2.2.1; simp only [List.length_append, List.length_cons, List.length_nil] at this ⊢; omega
      ·intro v hv
       rcases List.mem_cons.1 hv with rfl | hv
       ·rfl
       ·exact Ku.out.2.2.2.2.2.1 v hv
      ·rw [zbg Ks.1.pln, if_pos rfl]
      ·rw [zbg Ks.1.pln, if_neg e4]
     generalize setS bp (.cells ((ps2.map PRow.cell).set round (.v (.slice (some ⟨b6, 0, none⟩) (ps1[round]'hr1).rows.length cap6))) 49) S6 = S7 at *
     have hmk2 := yjc S7 hs ha g14.nd g14.xb g14.obj g14.mat ([f] ++ X[j]) false (fun a h => hrr.2.2 a (H.2.2.2.2.1 a (htab.subset h))) (htab.nodup H.2.2.2.2.2) (by simp; omega)
     refine zdx inferInstance hmk2 yR yX18 (fun u4 S8 hu4 => ?_)
     have g15 := g14.marked hu4.1 hu4.2
     rw [ygq (H.2.1 _ (List.getElem_mem hj)) Kp.2.2.2.2] at g15
     have hrows8 : ∀ (i : Nat) (h : i < ps.length) (h' : i < (ps2.set round ⟨(ps1[round]'hr1).rows, some (b6, cap6, ints ([f] ++ X[j]) :: junk6)⟩).length), ((ps2.set round ⟨(ps1[round]'hr1).rows, some (b6, cap6, ints ([f] ++ X[j]) :: junk6)⟩)[i]'h').rows = (ps[i]'h).rows := fun i h h' => by
      have hi1 : i < ps1.length := g3 ▸ h
      have hi2 : i < ps2.length := by simpa using h'
      rw [List.getElem_set]
      by_cases hir : round = i
      ·subst hir; rw [if_pos rfl]; exact G.2.1 round h hi1
      ·rw [if_neg hir, Ku.out.2.2.2.2.2.2 i (by simpa using hi1) hi2, Kt i hi1 (by simpa using hi1), if_neg hir]; exact G.2.1 i h hi1
     have htry2 : tryL budget round (fun t s => srch c.size.toNat budget rs n (zjl met t) round ((f :: fr).filter fun id => !decide (id ∈ t)) s) ((X.drop (j + 1)).map ([f] ++ ·)) res2.2.1 = res := by
      rw [← G.2.2, Ks.2.2.2.2, if_pos e3]
     clear Ku Kv Kt Ks Kr hc6 hx6 hp6 hmk2 g14 hu4 Kq
     repeat' (first | (with_reducible first | refine zac yU yU yE ?_ | refine zab ?_ | refine zaa ?_ | refine DS.blk ?_) | fail)
     exact DS.back (hB (j + 1, S8, res2.2.1, ps2.set round ⟨(ps1[round]'hr1).rows, some (b6, cap6, ints ([f] ++ X[j]) :: junk6)⟩) _ _ (by simp; omega) ⟨by simp; omega, g15, by rw [List.length_set]; exact hlen2.trans g3, hrows8, htry2⟩ yS yS (fun b o e => by exact e))
   ·rename_i e1
    have e3 : res = (2, st1, []) := by
     rw [← G.2.2, List.drop_eq_nil_of_le (by omega)]; rfl
    rw [e3]
    refine zch yG ⟨rfl, met, ps1, G.1, g3, fun _ => ⟨rfl, fun i h h' => G.2.1 i h h'⟩, fun h => by simp at h⟩
end Go.XL
namespace Go.XL
open Go.Proofs
set_option maxRecDepth 100000
set_option maxHeartbeats 4000000
theorem yiw (a b : Int) : ∀ l : List (List Int), metT a b l ≤ l.length
 | [] => Nat.le_refl _
 | t :: r => by
  have := yiw a b r
  simp only [metT, List.length_cons]; split <;> omega
theorem ysg (c : Club) (hs : c.Small) (a b : Int) : PC Tryz.prog 66 [c.val, I a, I b] (I (metS c a b)) := by
 have q1 := hs.rounds
 refine DC.of_run Tryz.func66 rfl Tryz.ntmps66 Tryz.results66 (by simp) (fun _ => ?_); simp only [zaq, zau, go_sem, Nat.zero_add, Nat.reduceAdd]
 repeat' (first | (with_reducible first | refine zac yU yU yE ?_ | refine zab ?_ | refine DS.seq ?_ | refine zaa ?_ | refine DS.block ?_) | (refine zcz (t := 3) yU yE yU ?_; simp only [zbp, zct, zbn, zce, zbm, zbj, zbx, zbl, zcv, zcr, zca, zcq, zcd, zcc]) | fail)
 refine zcp [1, 2, 3] yN (fun (i : Nat × Nat) => [(7, I i.2), (8, I i.1)]) (fun (i : Nat × Nat) => i.1 ≤ c.rounds.length ∧ i.2 ≤ 1000000 * i.1 ∧ i.2 + zqd a b (c.rounds.drop i.1) = metS c a b) (fun (i : Nat × Nat) => c.rounds.length - i.1) (0, 0) yS (by simp [metS]) (fun i B hI hB => ?_); try dsimp only at hI hB; simp only [zas, zav]
 repeat' (first | (with_reducible first | refine zac yU yU yE ?_ | refine zab ?_ | refine DS.seq ?_ | refine zaa ?_ | (refine zbc yE ?_; refine zeo (fun _ => ?_) (fun _ => ?_)) | refine DS.block ?_ | refine DS.exit yU ?_ | refine DS.skip ?_) | refine zbi [] yE trivial ?_ | fail)
 ·rename_i e1
  have hi : i.1 < c.rounds.length := by omega
  have q2 := (hs.at hi).tables
  have q3 := yiw a b c.rounds[i.1].tables
  have hB0 := hB
  have hI0 := hI
  clear hB hI
  refine zcp [1, 2, 3, 8] yN (fun (k : Nat × Nat) => [(7, I k.2), (9, I k.1)]) (fun (k : Nat × Nat) => k.1 ≤ c.rounds[i.1].tables.length ∧ k.2 + metT a b (c.rounds[i.1].tables.drop k.1) = i.2 + metT a b c.rounds[i.1].tables) (fun (k : Nat × Nat) => c.rounds[i.1].tables.length - k.1) (0, i.2) yS (by simp) (fun k B hI hB => ?_); try dsimp only at hI hB; simp only [zas, zav]
  repeat' (first | (with_reducible first | refine zac yU yU yE ?_ | refine zab ?_ | refine DS.seq ?_ | refine zaa ?_ | (refine zbc yE ?_; first | refine zeo (fun _ => ?_) (fun _ => ?_) | refine zdk ?_) | (refine zdz yU yE ?_; first | refine ylv (fun _ => ?_) (fun _ => ?_) | refine zow (fun _ => ?_) (fun _ => ?_) | refine GG.run ?_ | refine zfx ?_) | refine DS.blk ?_ | refine DS.block ?_ | refine DS.exit yU ?_ | refine DS.skip ?_) | refine zcb inferInstance (yjv _ _) yR yT ?_ | fail)
  ·rename_i e2 e3 e4 e5
   obtain ⟨_, r, dr1, rfl, dr3⟩ := zcj (l := c.rounds[i.1].tables) (i := k.1) (by omega); rw [dr1] at hI
   exact DS.back (hB (k.1 + 1, k.2 + 1) _ _ (by simp; omega) (⟨by simp; omega, by rw [← hI.2, dr3, metT, if_pos ⟨e3, e4, e5⟩]; simp; omega⟩) yS yS (fun b o e => by first | exact e | (simp only [zaf]; split <;> simp_all)))
  ·rename_i e2 e3 e4 e5
   obtain ⟨_, r, dr1, rfl, dr3⟩ := zcj (l := c.rounds[i.1].tables) (i := k.1) (by omega); rw [dr1] at hI
   exact DS.back (hB (k.1 + 1, k.2) _ _ (by simp; omega) (⟨by simp; omega, by rw [← hI.2, dr3, metT, if_neg (fun h => e5 h.2.2)]; simp⟩) yS yS (fun b o e => by first | exact e | (simp only [zaf]; split <;> simp_all)))
  ·rename_i e2 e3 e4
   obtain ⟨_, r, dr1, rfl, dr3⟩ := zcj (l := c.rounds[i.1].tables) (i := k.1) (by omega); rw [dr1] at hI
   exact DS.back (hB (k.1 + 1, k.2) _ _ (by simp; omega) (⟨by simp; omega, by rw [← hI.2, dr3, metT, if_neg (fun h => e4 h.2.1)]; simp⟩) yS yS (fun b o e => by first | exact e | (simp only [zaf]; split <;> simp_all)))
  ·rename_i e2 e3
   obtain ⟨_, r, dr1, rfl, dr3⟩ := zcj (l := c.rounds[i.1].tables) (i := k.1) (by omega); rw [dr1] at hI
   exact DS.back (hB (k.1 + 1, k.2) _ _ (by simp; omega) (⟨by simp; omega, by rw [← hI.2, dr3, metT, if_neg (fun h => h.1 e3)]; simp⟩) yS yS (fun b o e => by first | exact e | (simp only [zaf]; split <;> simp_all)))
  ·rename_i e2
   have de1 := zek (l := c.rounds[i.1].tables) (i := k.1) (by omega); rw [de1] at hI
   have e3 : k.2 = i.2 + metT a b c.rounds[i.1].tables := by rw [← hI.2]; simp [metT]
   have e4 : i.2 + (metT a b c.rounds[i.1].tables + zqd a b (c.rounds.drop (i.1 + 1))) = metS c a b := by
    rw [← hI0.2.2, List.drop_eq_getElem_cons hi]; rfl
   refine DS.back (hB0 (i.1 + 1, k.2) _ _ (by simp; omega) ⟨by simp; omega, by simp; omega, by simp only [e3]; omega⟩ yS yS (fun b o e => by exact e))
 ·rename_i e1
  have de1 := zek (l := c.rounds) (i := i.1) (by omega); rw [de1] at hI
  simp only [zfk]; rw [← hI.2.2]; simp [zqd]
end Go.XL
namespace Go.XL
open Go.Proofs
set_option maxRecDepth 100000
set_option maxHeartbeats 8000000
theorem yiy (c : Club) (a b : Int) : decide (0 < (metS c a b : Int)) = met0 c a b := by
 simp only [met0, decide_eq_decide]; omega
structure Begun (S : Sto) (bx bp : Nat) (c : Club) (rs : List (List Int)) (budget : Int) (bs : List Nat) : Prop where
 obj : zad S bx = some (.cells (sC c rs bp rs.length (mtV bs c.members.length) budget 0) TS)
 pln : zad S bp = some (.cells (List.replicate rs.length (.v (.slice none 0 0))) 49)
 row : ∀ (i : Nat) (h : i < bs.length) (h' : i < c.members.length), zad S bs[i] = some (.cells (c.members.map fun m => Bo (met0 c c.members[i].id m.id)) 4)
 xp : bx ≠ bp
 xb : ¬ bx ∈ bs
 pb : ¬ bp ∈ bs
 nd : bs.Nodup
theorem yX19 {p : Prop} (h : p := by (simp (disch := omega) only [go_sem, dopV, Option.map_some, Option.map_none, Option.bind_some, Option.bind_none, ↓reduceIte, Nat.reduceEqDiff, Nat.reduceLT, Nat.reduceLeDiff, Nat.reduceAdd, Nat.reduceMul, Nat.reduceSub, Nat.zero_add, Nat.add_zero, Nat.zero_le, Nat.zero_mul, Nat.mul_one, Nat.one_mul, Int.natCast_zero, Int.toNat_zero, Int.reduceToNat, Int.reduceLT, Int.reduceLE, Int.reduceEq, decide_true, decide_false, true_and, and_true, Bool.and_self, Bool.and_true, Bool.true_and, Bool.not_true, Bool.not_false, IntWalk.toNatUp, IntWalk.iteOmega, IntWalk.i64_in, Option.isSome_some, not_true_eq_false, not_false_eq_true, Option.getD_some, Option.getD_none, Int.toNat_natCast, List.length_map, List.getElem?_map, List.getElem?_eq_getElem, V.flat, V.one, List.all_cons, List.all_nil, *, yiy]; exact rfl)) : p := h
theorem yX20 {p : Prop} (h : p := by (simp (disch := omega) only [go_sem, dopV, Option.map_some, Option.map_none, Option.bind_some, Option.bind_none, ↓reduceIte, Nat.reduceEqDiff, Nat.reduceLT, Nat.reduceLeDiff, Nat.reduceAdd, Nat.reduceMul, Nat.reduceSub, Nat.zero_add, Nat.add_zero, Nat.zero_le, Nat.zero_mul, Nat.mul_one, Nat.one_mul, Int.natCast_zero, Int.toNat_zero, Int.reduceToNat, Int.reduceLT, Int.reduceLE, Int.reduceEq, decide_true, decide_false, true_and, and_true, Bool.and_self, Bool.and_true, Bool.true_and, Bool.not_true, Bool.not_false, IntWalk.toNatUp, IntWalk.iteOmega, IntWalk.i64_in, Option.isSome_some, not_true_eq_false, not_false_eq_true, Option.getD_some, Option.getD_none, Int.toNat_natCast, List.length_map, List.getElem?_map, List.getElem?_eq_getElem, V.flat, V.one, List.all_cons, List.all_nil, *, yiy]; try exact rfl)) : p := h
theorem yoq (c : Club) (hs : c.Small) (rs : List (List Int)) (budget : Int) (hr : rs.length ≤ 1000) :
  DC Tryz.prog 128 [c.val, rows rs, I budget] [] (fun u S' => ∃ bx bp bs, u = .v (.pointer (some ⟨bx, 0, none⟩)) ∧ SearchR S' bx bp c rs bs budget 0 (met0 c) (List.replicate rs.length ⟨[], none⟩)) := by
 have q1 := hs.members
 refine DC.of_run Tryz.func128 rfl Tryz.ntmps128 Tryz.results128 (by simp) (fun _ => ?_); simp only [zaq, zau, go_sem, Nat.zero_add, Nat.reduceAdd]
 repeat' (first | (with_reducible first | refine zac yU yU yE ?_ | refine zab ?_ | refine DS.seq ?_ | refine zaa ?_) | (refine zcz (t := 3) yU yE yU ?_; simp only [zbp, zct, zbn, zce, zbm, zbj, zbx, zbl, zcv, zcr, zca, zcq, zcd, zcc]) | refine zbz (id := 1) [0, 1, 2, 3, 5, 4] 6 (by kernel_rfl) zdq (by simp only [zba, zbd, zbe, zbf, zaz]; exact rfl) (by simp only [zaw, zax, List.drop_nil]; exact rfl) ?_ | with_reducible refine zbv yU yU yU yE ?_ | fail)
 refine yth yU yG yG yG yG yU yU ⟨by omega, by omega, by decide, by omega⟩ (fun bp h1 h2 => ?_)
 repeat' (first | (with_reducible first | refine zac yU yU yX8 ?_ | refine zab ?_ | refine DS.seq ?_ | refine zaa ?_ | refine DS.block ?_) | (with_reducible refine zlq yU yX8 yU (fun _ hfr => ?_); have hfr := zme hfr; simp only [zit, zjx, and_true] at hfr; simp only [zbp, zct, zbn, zce, zbm, zbj, zbx, zbl, zcv, zcr, zca, zcq, zcd, zcc]) | (with_reducible refine DD.nil ?_; simp only [zas, zav]) | fail)
 rename_i bx hfr
 refine yap (b := bx) (off := 10) (e := 164) (sz := 1) yH yH ?_
 have B0 : Begun (setS bx (.cells (sC c rs bp rs.length (mtV [] c.members.length) budget 0) TS) [(bx, .cells (sC c rs bp rs.length (.v (.slice none 0 0)) budget 0) TS), (bp, .cells (zeu (Value.slice none 0 0) rs.length) 49)]) bx bp c rs budget [] := by
  refine ⟨by simp [setS, zad], ?_, fun i h => by simp at h, fun h => hfr.1 h.symm, by simp, by simp, by simp⟩
  simp only [setS, zad, if_true]
  rw [if_neg hfr.2, zpr]
 refine zfj (S' := setS bx (.cells (sC c rs bp rs.length (mtV [] c.members.length) budget 0) TS) [(bx, .cells (sC c rs bp rs.length (.v (.slice none 0 0)) budget 0) TS), (bp, .cells (zeu (Value.slice none 0 0) rs.length) 49)]) (fun b o e => by exact e) ?_
 generalize setS bx (.cells (sC c rs bp rs.length (mtV [] c.members.length) budget 0) TS) [(bx, .cells (sC c rs bp rs.length (.v (.slice none 0 0)) budget 0) TS), (bp, .cells (zeu (Value.slice none 0 0) rs.length) 49)] = S0 at *
 clear hfr h1 h2
 refine zco [3, 7] yN (fun (x : Nat × Sto × List Nat) => [(8, I x.1)]) (fun (x : Nat × Sto × List Nat) => x.2.1) (fun (x : Nat × Sto × List Nat) => x.1 ≤ c.members.length ∧ Begun x.2.1 bx bp c rs budget x.2.2 ∧ x.2.2.length = x.1) (fun (x : Nat × Sto × List Nat) => c.members.length - x.1) (0, S0, []) yS (fun b o e => by exact e) ⟨Nat.zero_le _, B0, rfl⟩ (fun x B hI hB => ?_); try dsimp only at hI hB; simp only [zas, zav]
 obtain ⟨i, S1, bs⟩ := x
 dsimp only at hI hB
 obtain ⟨g1, g2, g3⟩ := hI
 simp only [zas, zav]
 repeat' (first | (with_reducible first | refine zac yU yU yE ?_ | refine zab ?_ | refine DS.seq ?_ | refine zaa ?_ | (refine zbc yE ?_; refine zeo (fun _ => ?_) (fun _ => ?_)) | refine DS.block ?_ | refine DS.exit yU ?_ | refine DS.skip ?_) | (refine yma yU yE yE yE yE yU yU ⟨by omega, by omega, by decide, by omega⟩ (fun _ hfr => ?_)) | fail)
 ·rename_i e1 b
  have hfb := hfr
  clear hfr
  have hi : i < c.members.length := by omega
  have hnb : b ≠ bx ∧ b ≠ bp ∧ ¬ b ∈ bs := by
   refine ⟨?_, ?_, ?_⟩
   ·intro h; rw [h, g2.obj] at hfb; cases hfb
   ·intro h; rw [h, g2.pln] at hfb; cases hfb
   ·intro h
    obtain ⟨j, hj, rfl⟩ := List.getElem_of_mem h
    rw [g2.row j hj (by omega)] at hfb; cases hfb
  have hB0 := hB
  clear hB
  have hz : ((b, Ob.cells (zeu (Value.bool false) ((c.members.length : Int)).toNat) 4) :: S1) = ((b, .cells (List.replicate c.members.length (Bo false)) 4) :: S1) := by rw [Int.toNat_natCast, yat]
  rw [hz]
  clear hz
  refine zco [3, 7, 8, 9] yN (fun (y : Nat × Sto) => [(10, I y.1)]) (fun (y : Nat × Sto) => y.2) (fun (y : Nat × Sto) => y.1 ≤ c.members.length ∧ zad y.2 b = some (.cells (((c.members.map fun m => Bo (met0 c (c.members[i]'hi).id m.id)).take y.1) ++ List.replicate (c.members.length - y.1) (Bo false)) 4) ∧ ∀ b', b' ≠ b → zad y.2 b' = zad S1 b') (fun (y : Nat × Sto) => c.members.length - y.1) (0, (b, .cells (List.replicate c.members.length (Bo false)) 4) :: S1) yS (fun b o e => by exact e) ⟨Nat.zero_le _, by simp [zad], fun b' h => by simp only [zad]; rw [if_neg (fun h' => h h'.symm)]⟩ (fun y B hI hB => ?_); try dsimp only at hI hB; simp only [zas, zav]
  obtain ⟨k, S2⟩ := y
  dsimp only at hI hB
  obtain ⟨k1, k2, k3⟩ := hI
  simp only [zas, zav]
  have hx2 := (k3 bx hnb.1.symm).trans g2.obj
  repeat' (first | (with_reducible first | refine zac yU yU yX19 ?_ | refine zab ?_ | refine DS.seq ?_ | refine zaa ?_ | (refine zbc yX19 ?_; refine zeo (fun _ => ?_) (fun _ => ?_)) | refine DS.block ?_ | refine DS.exit yU ?_ | refine DS.skip ?_) | fail)
  ·rename_i e2
   have hk : k < c.members.length := by omega
   repeat' (first | with_reducible refine zac yU yU yX19 ?_ | refine zbz (id := 9) [0, 1, 2, 3, 4, 5, 6, 7, 8, 9, 10, 11, 12, 13, 14, 15, 16] 17 (by kernel_rfl) zdq (by simp only [zba, zbd, zbe, zbf, zaz]; exact rfl) (by simp only [zaw, zax, List.drop_nil]; exact rfl) ?_ | (with_reducible first | refine zbv yU yU yU yX19 ?_ | refine zdb ?_) | refine zlr inferInstance (ysg c hs _ _) yU yX20 ?_ | fail)
   refine DS.store yR yG yG yG k2 yU ⟨by with_unfolding_all rfl, by simp only [List.length_append, List.length_take, List.length_map, List.length_replicate]; omega⟩ ?_
   simp only [zbt, zbb, zbh, zcm]
   have hrow : (((c.members.map fun m => Bo (met0 c (c.members[i]'hi).id m.id)).take k) ++ List.replicate (c.members.length - k) (Bo false)).set k (.v (.bool (met0 c (c.members[i]'hi).id (c.members[k]'hk).id))) = (((c.members.map fun m => Bo (met0 c (c.members[i]'hi).id m.id)).take (k + 1)) ++ List.replicate (c.members.length - (k + 1)) (Bo false)) := by
    apply List.ext_getElem
    ·simp only [List.length_append, List.length_take, List.length_map, List.length_replicate, List.length_set]; omega
    ·intro j h1 h2
     simp only [List.getElem_set, List.getElem_append, List.getElem_take, List.getElem_map, List.getElem_replicate, List.length_take, List.length_map]
     by_cases hj : k = j
     ·subst hj
      rw [if_pos rfl, dif_pos (by omega)]
     ·rw [if_neg hj]
      by_cases hj2 : j < k
      ·rw [dif_pos (by omega), dif_pos (by omega)]
      ·rw [dif_neg (by omega), dif_neg (by omega)]
   refine zfj (S' := setS b (.cells (((c.members.map fun m => Bo (met0 c (c.members[i]'hi).id m.id)).take (k + 1)) ++ List.replicate (c.members.length - (k + 1)) (Bo false)) 4) S2) (fun b' o e => by rw [← hrow] at e; exact e) ?_
   have k2' : zad (setS b (.cells (((c.members.map fun m => Bo (met0 c (c.members[i]'hi).id m.id)).take (k + 1)) ++ List.replicate (c.members.length - (k + 1)) (Bo false)) 4) S2) b = some (.cells (((c.members.map fun m => Bo (met0 c (c.members[i]'hi).id m.id)).take (k + 1)) ++ List.replicate (c.members.length - (k + 1)) (Bo false)) 4) := by
    rw [zbg k2, if_pos rfl]
   have k3' : ∀ b', b' ≠ b → zad (setS b (.cells (((c.members.map fun m => Bo (met0 c (c.members[i]'hi).id m.id)).take (k + 1)) ++ List.replicate (c.members.length - (k + 1)) (Bo false)) 4) S2) b' = zad S1 b' := fun b' h => by
    rw [zbg k2, if_neg h]; exact k3 b' h
   generalize setS b (.cells (((c.members.map fun m => Bo (met0 c (c.members[i]'hi).id m.id)).take (k + 1)) ++ List.replicate (c.members.length - (k + 1)) (Bo false)) 4) S2 = S3 at *
   clear hrow hx2
   repeat' (first | (with_reducible first | refine zac yU yU yE ?_ | refine zab ?_ | refine zaa ?_ | refine DS.blk ?_) | fail)
   refine DS.back (hB (k + 1, S3) _ _ (by dsimp only; omega) ⟨by dsimp only; omega, k2', k3'⟩ yS yS (fun b o e => by exact e))
  ·rename_i e2
   have hke : k = c.members.length := by omega
   skip
   refine zik (t := 59) yR yG hx2 yU yG ?_
   repeat' (first | with_reducible refine zac yU yU yE ?_ | (refine zff yU yE yE ?_; simp only [go_sem, Nat.zero_add, Nat.reduceAdd]) | (refine DS.append (mm := false) yU yE yE yU (by decide) yE (by first | exact .inl rfl | exact .inr ⟨rfl, rfl⟩) yE yX0 (by first | exact zat zdw _ | exact zat zet _ | exact zat Member.len _ | exact zat Sitting.len _ | exact zat Ruling.len _ | (simp only [List.mem_cons, List.not_mem_nil, or_false, forall_eq]; rfl) | simp) ⟨by (try simp only [List.length_map, List.length_cons, List.length_nil, List.length_append, List.length_take, List.length_drop]); omega, by decide⟩ ?_; simp only [zao, zag, zah, Nat.reduceEqDiff, ↓reduceIte, zal, zam, zar, zak, zai, zap, zan]) | fail)
   have ho : zad (setS bx (.cells (sC c rs bp rs.length (.lst (bs.map (rowC c.members.length))) budget 0) TS) S2) bx = some (.cells (sC c rs bp rs.length (.lst (bs.map (rowC c.members.length))) budget 0) TS) := by rw [zbg hx2, if_pos rfl]
   have ho' : ∀ b', b' ≠ bx → zad (setS bx (.cells (sC c rs bp rs.length (.lst (bs.map (rowC c.members.length))) budget 0) TS) S2) b' = zad S2 b' := fun b' h => by rw [zbg hx2, if_neg h]
   refine zfj (S' := setS bx (.cells (sC c rs bp rs.length (.lst (bs.map (rowC c.members.length))) budget 0) TS) S2) (fun b' o e => by exact e) ?_
   generalize setS bx (.cells (sC c rs bp rs.length (.lst (bs.map (rowC c.members.length))) budget 0) TS) S2 = S3 at *
   refine DS.store yR yG yG yG ho yU ⟨by with_unfolding_all rfl, by simp only [ztp, List.length_cons, List.length_nil]; omega⟩ ?_
   simp only [zbt, zbb, zbh, zcm, zbq, zbo]
   have hm : List.map (rowC c.members.length) bs ++ [[V.v (Value.slice (some ⟨b, 0, none⟩) c.members.length c.members.length)]] = List.map (rowC c.members.length) (bs ++ [b]) := by rw [List.map_append]; rfl
   rw [hm]
   have hset : (sC c rs bp rs.length (.lst (bs.map (rowC c.members.length))) budget 0).set 10 (mtV (bs ++ [b]) c.members.length) = sC c rs bp rs.length (mtV (bs ++ [b]) c.members.length) budget 0 := rfl
   refine zfj (S' := setS bx (.cells (sC c rs bp rs.length (mtV (bs ++ [b]) c.members.length) budget 0) TS) S3) (fun b' o e => by rw [← hset] at e; exact e) ?_
   have hb1 : zad (setS bx (.cells (sC c rs bp rs.length (mtV (bs ++ [b]) c.members.length) budget 0) TS) S3) bx = some (.cells (sC c rs bp rs.length (mtV (bs ++ [b]) c.members.length) budget 0) TS) := by rw [zbg ho, if_pos rfl]
   have hb2 : ∀ b', b' ≠ bx → zad (setS bx (.cells (sC c rs bp rs.length (mtV (bs ++ [b]) c.members.length) budget 0) TS) S3) b' = zad S2 b' := fun b' h => by rw [zbg ho, if_neg h]; exact ho' b' h
   generalize setS bx (.cells (sC c rs bp rs.length (mtV (bs ++ [b]) c.members.length) budget 0) TS) S3 = S4 at *
   have G4 : Begun S4 bx bp c rs budget (bs ++ [b]) := by
    refine ⟨hb1, ((hb2 bp g2.xp.symm).trans (k3 bp hnb.2.1.symm)).trans g2.pln, fun j h h' => ?_, g2.xp, ?_, ?_, ?_⟩
    ·by_cases hj : j < bs.length
     ·have e : (bs ++ [b])[j] = bs[j] := by rw [List.getElem_append_left hj]
      have hm' : bs[j] ∈ bs := List.getElem_mem hj
      rw [e, hb2 _ (fun h => g2.xb (h ▸ hm')), k3 _ (fun h => hnb.2.2 (h ▸ hm'))]
      exact g2.row j hj h'
     ·have hje : j = i := by simp only [List.length_append, List.length_cons, List.length_nil] at h; omega
      subst hje
      have e : (bs ++ [b])[j] = b := by rw [List.getElem_append_right (by omega)]; simp only [g3, Nat.sub_self, List.getElem_cons_zero]
      rw [e, hb2 _ hnb.1, k2]
      have ht : List.take k (List.map (fun m => Bo (met0 c c.members[j].id m.id)) c.members) ++ List.replicate (c.members.length - k) (Bo false) = List.map (fun m => Bo (met0 c c.members[j].id m.id)) c.members := by
       rw [List.take_of_length_le (by rw [List.length_map]; omega), hke, Nat.sub_self]; simp
      rw [ht]
    ·simp only [List.mem_append, List.mem_singleton]; rintro (h | h)
     ·exact g2.xb h
     ·exact hnb.1 h.symm
    ·simp only [List.mem_append, List.mem_singleton]; rintro (h | h)
     ·exact g2.pb h
     ·exact hnb.2.1 h.symm
    ·rw [List.nodup_append]
     refine ⟨g2.nd, by simp, fun x hx y hy => ?_⟩
     rw [List.mem_singleton] at hy
     subst hy
     exact fun h => hnb.2.2 (h ▸ hx)
   clear hm hset hb1 hb2 ho ho' k2 k3 hx2 B0 hke
   repeat' (first | (with_reducible first | refine zac yU yU yE ?_ | refine zab ?_ | refine zaa ?_ | refine DS.blk ?_) | fail)
   refine DS.back (hB0 (i + 1, S4, bs ++ [b]) _ _ (by dsimp only; omega) ⟨by dsimp only; omega, G4, by simp only [List.length_append, List.length_cons, List.length_nil]; omega⟩ yS yS (fun b o e => by exact e))
 ·refine zch yG ⟨bx, bp, bs, rfl, ?_⟩
  have hl : bs.length = c.members.length := by omega
  refine ⟨by rw [List.length_replicate]; exact g2.obj, ⟨hl, g2.row⟩, ?_, fun j h => ?_, g2.xp, g2.xb, g2.pb, g2.nd, fun j h b cap jk hb => ?_, fun j k hj hk b cap cap2 jk jk2 hb _ => ?_⟩
  ·rw [g2.pln, List.map_replicate]; rfl
  ·rw [List.getElem_replicate]; rfl
  ·rw [List.getElem_replicate] at hb; cases hb
  ·rw [List.getElem_replicate] at hb; cases hb
end Go.XL
namespace Go.XL
open Go.Proofs
set_option maxRecDepth 100000
set_option maxHeartbeats 8000000
theorem znz : ∀ {l : List Member} {last : Int}, 0 ≤ last → zeb l last = 0 → l.Pairwise fun a b => a.id < b.id
 | [], _, _, _ => .nil
 | m :: l, last, h0, h => by
  have hf := zge h0 h
  have hm := hf.1 m (List.mem_cons_self ..)
  have h1 : 0 ≤ m.id := by omega
  simp only [zeb] at h
  repeat' split at h
  all_goals first
   | exact .cons (fun x hx => (zge h1 h).1 x hx) (znz h1 h)
   | exact absurd h (by decide)
theorem ylc {c : Club} (h : zey c.members = 0) : c.Asc := by
 unfold zey at h
 split at h
 ·cases h
 ·exact znz (Int.le_refl 0) h
theorem zfi {c : Club} (h : zdf c = 0) : zfq c = 0 ∧ zey c.members = 0 ∧ c.rounds.length ≤ 20 := by
 unfold zdf at h
 split at h
 ·contradiction
 split at h
 ·contradiction
 split at h
 ·cases h
 exact ⟨by omega, by omega, by omega⟩
theorem zyv (a b : Int) : ∀ T, metT a b T = metT b a T
 | [] => rfl
 | t :: r => by
  simp only [metT]
  rw [zyv a b r]
  congr 1
  by_cases h : a ≠ b ∧ a ∈ t ∧ b ∈ t
  ·rw [if_pos h, if_pos ⟨h.1.symm, h.2.2, h.2.1⟩]
  ·rw [if_neg h, if_neg (fun h' => h ⟨h'.1.symm, h'.2.2, h'.2.1⟩)]
theorem zyw (c : Club) (a b : Int) : metS c a b = metS c b a := by
 unfold metS
 generalize c.rounds = l
 induction l with
 | nil => rfl
 | cons s r ih => simp only [zqd, ih, zyv a b]
theorem zru (c : Club) (a b : Int) : met0 c a b = met0 c b a := by simp only [met0, zyw c a b]
theorem yhg {budget : Int} {round R : Nat} {rec : List Int → Int → Int × Int × List (Nat × List Int)} (hr : round < R) (h : ∀ t s, ∀ q ∈ (rec t s).2.2, q.1 < R) : ∀ (l : List (List Int)) (s : Int), ∀ q ∈ (tryL budget round rec l s).2.2, q.1 < R
 | [], s, q, hq => by simp [tryL] at hq
 | t :: r, s, q, hq => by
  simp only [tryL] at hq
  split at hq
  ·simp at hq
  split at hq
  ·exact yhg hr h r _ q hq
  ·rcases List.mem_cons.1 hq with rfl | hq
   ·exact hr
   ·exact h _ _ q hq
theorem zvy {size : Nat} {budget : Int} {rounds : List (List Int)} : ∀ (n : Nat) (met : Int → Int → Bool) (round : Nat) (ids : List Int) (s : Int), round < rounds.length → ∀ q ∈ (srch size budget rounds n met round ids s).2.2, q.1 < rounds.length
 | 0, met, round, ids, s, hr, q, hq => by simp [srch] at hq
 | n + 1, met, round, [], s, hr, q, hq => by
  rw [srch] at hq
  split at hq
  ·simp at hq
  ·exact zvy n met _ _ _ (by omega) q hq
 | n + 1, met, round, f :: fr, s, hr, q, hq => by
  rw [srch] at hq
  exact yhg hr (fun t s => zvy n _ _ _ _ hr) _ _ q hq
theorem zoh {c : Club} {round : Int} : ∀ {t : List Int} {pre : Option Int}, zec c round t pre = 0 → t.Pairwise (· < ·) ∧ ∀ p, pre = some p → ∀ x ∈ t, p < x
 | [], _, _ => ⟨.nil, fun _ _ _ h => (List.not_mem_nil h).elim⟩
 | x :: t, pre, e => by
  simp only [zec] at e
  split at e
  ·cases e
  split at e
  ·cases e
  split at e
  ·cases e
  rename_i h3
  obtain ⟨h4, h5⟩ := zoh e
  have h6 := h5 x rfl
  refine ⟨.cons h6 h4, fun p hp y hy => ?_⟩
  subst hp
  simp only [zht, decide_eq_true_eq] at h3
  rcases List.mem_cons.1 hy with rfl | hy
  ·omega
  ·have := h6 y hy; omega
theorem yld {t : List Int} (h : t.Pairwise (· < ·)) : t.Nodup := List.Pairwise.imp (fun h => by omega) h
theorem zpm : ∀ (T : List (List Int)) (jk : List V), chunk 1 T.length (List.map V.copy (List.map (fun t => ints t) T ++ jk)) = T.map cR
 | [], _ => rfl
 | t :: T, jk => by
  have := zpm T jk
  simp only [List.length_cons, chunk, List.map_cons, List.cons_append, List.take_succ_cons, List.take_zero, List.drop_succ_cons, List.drop_zero, this]
  rfl
theorem yng (c : Club) (hs : c.Small) (ids : List Int) (hl : ids.length ≤ 1000000) : PC Tryz.prog 110 [c.val, ints ids] (tupV [rows (zjt c ids).1, I (zjt c ids).2]) := by
 have q1 := hs.rounds
 have q2 := hs.members
 rw [zjt]
 by_cases hc : zdf c = 0
 ·obtain ⟨k1, k2, k3⟩ := zfi hc
  have f := zta hc
  have g := zke k1
  have ha := ylc k2
  rw [if_neg (by omega)]
  refine DC.of_run Tryz.func110 rfl Tryz.ntmps110 Tryz.results110 (by simp) (fun _ => ?_); simp only [zaq, zau, go_sem, Nat.zero_add, Nat.reduceAdd]
  repeat' (first | (with_reducible first | refine zac yU yU yE ?_ | refine zab ?_ | refine DS.seq ?_ | refine zaa ?_ | (refine zbc yE ?_; first | refine zeo (fun _ => ?_) (fun _ => ?_) | refine zdk ?_) | refine DS.block ?_ | refine DS.skip ?_) | refine zcb inferInstance (ztc c hs) yR yT ?_ | (refine zcz (t := 2) yU yE yU ?_; simp only [zbp, zct, zbn, zce, zbm, zbj, zbx, zbl, zcv, zcr, zca, zcq, zcd, zcc]) | refine zbi [] yE trivial ?_ | fail)
  ·rename_i e1
   rw [if_pos (by omega)]; rfl
  ·rename_i e1 e2
   rw [if_neg (by omega), if_pos (by omega)]; rfl
  rename_i e1 e2
  rw [if_neg (by omega), if_neg (by omega)]
  refine zcp [1, 2] yN (fun (j : Nat) => [(7, I j)]) (fun (j : Nat) => j ≤ ids.length ∧ zec c c.rounds.length ids none = zec c c.rounds.length (ids.drop j) (zmn ids j)) (fun (j : Nat) => ids.length - j) 0 yS (by simp [zmn]) (fun j B hI hB => ?_); try dsimp only at hI hB; simp only [zas, zav]
  repeat' (first | (with_reducible first | refine zac yU yU yE ?_ | refine zab ?_ | refine DS.seq ?_ | refine zaa ?_ | (refine zbc yE ?_; first | refine zga (fun _ => ?_) (fun _ => ?_) | refine zeo (fun _ => ?_) (fun _ => ?_)) | refine DS.block ?_ | refine DS.exit yU ?_ | refine DS.skip ?_) | (refine zff yU yE yE ?_; simp only [go_sem, Nat.zero_add, Nat.reduceAdd]) | refine zcb inferInstance (zju c _ (by omega)) yR yT ?_ | refine zbz (id := 11) [0, 1, 2, 3, 4] 5 (by kernel_rfl) zdq (by simp only [zba, zbd, zbe, zbf, zaz]; exact rfl) (by simp only [zaw, zax, List.drop_nil]; exact rfl) ?_ | refine zbz (id := 14) [0, 1, 2, 3, 4, 5, 6, 7] 8 (by kernel_rfl) zdq (by simp only [zba, zbd, zbe, zbf, zaz]; exact rfl) (by simp only [zaw, zax, List.drop_nil]; exact rfl) ?_ | (with_reducible first | refine zbv yU yU yU yE ?_ | refine zdb ?_) | refine zbi [] yE trivial ?_ | fail)
  ·rename_i e3 e4
   obtain ⟨_, r, dr1, rfl, dr3⟩ := zcj (l := ids) (i := j) (by omega); rw [dr1] at hI
   have hid : zec c c.rounds.length ids none = 7 := by rw [hI.2, zec, if_pos e4]
   rw [hid, if_pos (by decide)]; rfl
  ·rename_i e3 e4
   obtain ⟨m, hm, e5, -, e7⟩ := zgf e4
   have H := And.intro e5 e7
   simp only [e5]
   clear e5 e7 e4
   repeat' (first | (with_reducible first | refine zac yU yU yE ?_ | refine zab ?_ | refine DS.seq ?_ | refine zaa ?_ | (refine zbc yE ?_; first | refine zeo (fun _ => ?_) (fun _ => ?_) | refine zdk ?_ | refine yas (fun _ => ?_) (fun _ => ?_)) | (refine zdz yU yE ?_; first | refine GG.run ?_ | refine zfx ?_) | refine DS.blk ?_ | refine DS.skip ?_) | refine zcb inferInstance (zrh _ _) yR yT ?_ | refine zbz (id := 16) [0, 1, 2, 3, 4, 5, 6, 7, 8, 9, 10, 11] 12 (by kernel_rfl) zdq (by simp only [zba, zbd, zbe, zbf, zaz]; exact rfl) (by simp only [zaw, zax, List.drop_nil]; exact rfl) ?_ | (with_reducible first | refine zbv yU yU yU yE ?_ | (refine zpq yU yE ?_; first | refine zvo (fun _ => ?_) (fun _ => ?_) | refine DGG.run ?_ | refine zmv ?_) | refine zdb ?_) | refine zbi [] yE trivial ?_ | fail)
   all_goals have e8 := zpe (f.to _ (List.getElem_mem hm)) c.rounds.length
   all_goals obtain ⟨_, r, dr1, rfl, dr3⟩ := zcj (l := ids) (i := j) (by omega); rw [dr1] at hI
   ·rename_i e9
    rw [e8] at e9
    have hid : zec c c.rounds.length ids none = 10 := by rw [hI.2, zec, if_neg (by rw [H.1]; omega), if_pos (by rw [H.2]; exact e9)]
    rw [hid, if_pos (by decide)]; rfl
   ·rename_i e9 e10 e11
    rw [e8] at e9
    obtain ⟨e12, e13⟩ := zho (t := ids) (k := j) (by omega) (by omega)
    have hid : zec c c.rounds.length ids none = 11 := by rw [hI.2, zec, if_neg (by rw [H.1]; omega), if_neg (by rw [H.2, e9]; decide), if_pos (by rw [e13]; simp only [zht]; exact decide_eq_true e11)]
    rw [hid, if_pos (by decide)]; rfl
   ·rename_i e9 e10 e11
    rw [e8] at e9
    obtain ⟨e12, e13⟩ := zho (t := ids) (k := j) (by omega) (by omega)
    exact DS.back (hB (j + 1) _ _ (by omega) (⟨by omega, by rw [hI.2, dr3, zec, if_neg (by rw [H.1]; omega), if_neg (by rw [H.2, e9]; decide), if_neg (by rw [e13]; simp only [zht]; simpa using e11), zgm (by omega)]⟩) yS yS (fun b o e => by first | exact e | (simp only [zaf]; split <;> simp_all)))
   ·rename_i e9 e10
    rw [e8] at e9
    have e13 : zht (zmn ids j) ids[j] = false := by
     have : j = 0 := by omega
     subst this; rfl
    exact DS.back (hB (j + 1) _ _ (by omega) (⟨by omega, by rw [hI.2, dr3, zec, if_neg (by rw [H.1]; omega), if_neg (by rw [H.2, e9]; decide), if_neg (by rw [e13]; decide), zgm (by omega)]⟩) yS yS (fun b o e => by first | exact e | (simp only [zaf]; split <;> simp_all)))
  all_goals (rename_i e3 e4; have hid : zec c c.rounds.length ids none = 0 := by rw [hI.2, List.drop_eq_nil_of_le (by omega)]; rfl)
  ·rw [hid, if_neg (by decide), if_pos (by have := Int.tmod_nonneg (a := (ids.length : Int)) c.size (by omega); omega)]; rfl
  rw [hid, if_neg (by decide), if_neg (by omega)]
  have hmem := zog hid
  have hnd := yld (zoh hid).1
  refine zdx inferInstance (yoq c hs [ids] (-1) (by simp)) yR yG (fun u S' hu => ?_)
  obtain ⟨bx, bp, bs, rfl, s0⟩ := hu
  repeat' (first | (with_reducible first | refine zac yU yU yE ?_ | refine zab ?_ | refine DS.seq ?_ | refine zaa ?_) | fail)
  have hgo := yjw hs ha g.1 (rs := [ids]) (by simp) (fun x hx => by rw [List.mem_singleton] at hx; subst hx; exact ⟨by omega, hnd, hmem⟩) (znc [ids]) S' (met0 c) 0 (List.replicate 1 ⟨[], none⟩) 0 s0 rfl (by simp) (fun i h1 h2 => by simp at h2; omega) (zru c) (by simp [mzS, znc, zzg]; omega) (fun i h => by simp [znc]; omega)
  refine zdx inferInstance hgo yR (by simp (disch := omega) only [go_sem, dopV, Option.map_some, Option.map_none, Option.bind_some, Option.bind_none, ↓reduceIte, Nat.reduceEqDiff, Nat.reduceLT, Nat.reduceLeDiff, Nat.reduceAdd, Nat.reduceMul, Nat.reduceSub, Nat.zero_add, Nat.add_zero, Nat.zero_le, Nat.zero_mul, Nat.mul_one, Nat.one_mul, Int.natCast_zero, Int.toNat_zero, Int.reduceToNat, Int.reduceLT, Int.reduceLE, Int.reduceEq, decide_true, decide_false, true_and, and_true, Bool.and_self, Bool.and_true, Bool.true_and, Bool.not_true, Bool.not_false, IntWalk.toNatUp, IntWalk.iteOmega, IntWalk.i64_in, Option.isSome_some, not_true_eq_false, not_false_eq_true, Option.getD_some, Option.getD_none, Int.toNat_natCast, List.length_map, List.getElem?_map, List.getElem?_eq_getElem, V.flat, V.one, List.all_cons, List.all_nil]) (fun u S1 hu => ?_)
  obtain ⟨rfl, met1, ps1, s1, hp1, -, hp2⟩ := hu
  have hrun : srch c.size.toNat (-1) [ids] (znc [ids]) (met0 c) 0 (zhf [ids][0] (List.replicate 1 (⟨[], none⟩ : PRow))[0].rows) 0 = runS c [ids] (-1) := by
   rw [runS]; congr 1; simp [zhf]
  rw [hrun] at s1 hp2 ⊢
  have hlt : ∀ q ∈ (runS c [ids] (-1)).2.2, q.1 < 1 := zvy (rounds := [ids]) (znc [ids]) (met0 c) 0 _ 0 (by simp)
  clear hrun hgo
  repeat' (first | (with_reducible first | refine zac yU yU yE ?_ | refine zab ?_ | refine DS.seq ?_ | refine zaa ?_ | (refine zbc yE ?_; refine zga (fun _ => ?_) (fun _ => ?_)) | refine DS.skip ?_) | fail)
  ·rename_i e5
   rw [if_pos e5]
   refine zbi [] yG trivial rfl
  ·rename_i e5
   rw [if_neg (by omega)]
   have hps : 0 < ps1.length := by rw [hp1]; decide
   have hrows := hp2 e5 0 (by simp) hps
   have hfil : (runS c [ids] (-1)).2.2.filter (fun q => decide (q.1 = 0)) = (runS c [ids] (-1)).2.2 := List.filter_eq_self.2 fun q hq => by have := hlt q hq; exact decide_eq_true (by omega)
   rw [hfil] at hrows
   simp only [List.replicate, List.getElem_cons_zero, List.nil_append] at hrows
   rw [← hrows]
   have hpl1 : ps1.length = 1 := by simpa using hp1
   obtain ⟨p, rfl⟩ := List.length_eq_one_iff.1 hpl1
   have hx := s1.obj
   have hpl := s1.pln
   have hr := s1.row 0 hps
   simp only [List.length_singleton, List.map_cons, List.map_nil, List.getElem_cons_zero] at hx hpl hr ⊢
   clear hp2 hp1 hrows hfil hlt s1 hpl1
   obtain ⟨T, blk⟩ := p
   cases blk with
   | none =>
    simp only [PRow.Ok] at hr
    subst hr
    simp only [PRow.cell] at hpl
    repeat' (first | (with_reducible first | refine zac yU yU yX1 ?_ | refine zab ?_) | fail)
    refine zbi [] yG trivial rfl
   | some z =>
    obtain ⟨b, cap, jk⟩ := z
    simp only [PRow.Ok] at hr
    obtain ⟨r1, r2, r3, r4⟩ := hr
    simp only [PRow.cell] at hpl
    repeat' (first | (with_reducible first | refine zac yU yU yX1 ?_ | refine zab ?_) | fail)
    refine zjz (t := 4) (sz := 1) yR r1 (by simp) ⟨by omega, r3⟩ ?_
    refine zbi [] yG trivial ?_
    rw [zpm]
    rfl
 ·rw [if_pos hc]
  refine DC.of_run Tryz.func110 rfl Tryz.ntmps110 Tryz.results110 (by simp) (fun _ => ?_); simp only [zaq, zau, go_sem, Nat.zero_add, Nat.reduceAdd]
  repeat' (first | (with_reducible first | refine zac yU yU yE ?_ | refine zab ?_ | refine DS.seq ?_ | refine zaa ?_ | (refine zbc yE ?_; refine zdh ?_)) | refine zcb inferInstance (ztc c hs) yR yT ?_ | (refine zcz (t := 2) yU yE yU ?_; simp only [zbp, zct, zbn, zce, zbm, zbj, zbx, zbl, zcv, zcr, zca, zcq, zcd, zcc]) | refine zbi [] yE trivial ?_ | fail)
  rfl
end Go.XL
namespace Go.XL
open Go.Proofs
set_option maxRecDepth 100000
set_option maxHeartbeats 8000000
theorem yfp (S : Sto) (g : GR) (l : List Int) (n : Int) (ok : g.Ok 3 1 S) (hg : g.l = l.map cI) {b : Nat} {T : TypeId} (hb : zad S b = some (.cells [g.cell] T)) :
  RC Tryz.prog 90 [I n, .v (.pointer (some ⟨b, 0, none⟩))] S (Bo (decide (n ∈ l))) := by
 have h := ybz S g l n ok hg
 have hc := g.cell_copy
 clear ok hg
 obtain ⟨gl, blk⟩ := g
 cases blk with
 | none =>
  simp only [GR.cell, zwl] at h hb
  refine DC.of_run Tryz.func90 rfl Tryz.ntmps90 Tryz.results90 (by simp) (fun _ => ?_); simp only [zaq, zau, go_sem, Nat.zero_add, Nat.reduceAdd]
  repeat' (first | (with_reducible first | refine zac yU yU yE ?_ | refine zab ?_ | refine DS.seq ?_ | refine zaa ?_) | refine zhv inferInstance (h) yR yT ?_ | refine zch yE ⟨?_, rfl⟩ | fail)
  rfl
 | some x =>
  obtain ⟨b, cap, j⟩ := x
  simp only [GR.cell, zma] at h hb
  refine DC.of_run Tryz.func90 rfl Tryz.ntmps90 Tryz.results90 (by simp) (fun _ => ?_); simp only [zaq, zau, go_sem, Nat.zero_add, Nat.reduceAdd]
  repeat' (first | (with_reducible first | refine zac yU yU yE ?_ | refine zab ?_ | refine DS.seq ?_ | refine zaa ?_) | refine zhv inferInstance (h) yR yT ?_ | refine zch yE ⟨?_, rfl⟩ | fail)
  rfl
theorem yeq (c : Club) (id : Int) : PC Tryz.prog 73 [c.val, I id] (I (zhr c id)) := yqq c id
theorem yX21 {p : Prop} (h : p := by (simp (disch := omega) only [go_sem, dopV, Option.map_some, Option.map_none, Option.bind_some, Option.bind_none, ↓reduceIte, Nat.reduceEqDiff, Nat.reduceLT, Nat.reduceLeDiff, Nat.reduceAdd, Nat.reduceMul, Nat.reduceSub, Nat.zero_add, Nat.add_zero, Nat.zero_le, Nat.zero_mul, Nat.mul_one, Nat.one_mul, Int.natCast_zero, Int.toNat_zero, Int.reduceToNat, Int.reduceLT, Int.reduceLE, Int.reduceEq, decide_true, decide_false, true_and, and_true, Bool.and_self, Bool.and_true, Bool.true_and, Bool.not_true, Bool.not_false, IntWalk.toNatUp, IntWalk.iteOmega, IntWalk.i64_in, Option.isSome_some, not_true_eq_false, not_false_eq_true, Option.getD_some, Option.getD_none, Int.toNat_natCast, List.length_map, List.getElem?_map, List.getElem?_eq_getElem, V.flat, V.one, List.all_cons, List.all_nil, *, GR.cell_copy]; exact rfl)) : p := h
theorem yhk (c : Club) (hs : c.Small) (f : c.Fine) (h1 : c.size ≤ 4) (h2 : 3 ≤ c.size) {i : Nat} (hi : i < c.rounds.length) : PC Tryz.prog 46 [c.val, I i] (I (zev c i)) := by
 have q1 := hs.rounds
 have q2 := hs.at hi
 have q3 := q2.tables
 have q4 := hs.members
 rw [zev, c.round_at hi]
 refine DC.of_run Tryz.func46 rfl Tryz.ntmps46 Tryz.results46 (by simp) (fun _ => ?_); simp only [zaq, zau, go_sem, Nat.zero_add, Nat.reduceAdd]
 repeat' (first | (with_reducible first | refine zac yU yU yE ?_ | refine zab ?_ | refine DS.seq ?_ | refine zaa ?_) | (refine zcz (t := 2) yU yE yU ?_; simp only [zbp, zct, zbn, zce, zbm, zbj, zbx, zbl, zcv, zcr, zca, zcq, zcd, zcc]) | fail)
 refine zex yR yU yU (fun b5 hb5 => ?_)
 have hz : (List.map V.v (Value.slice none 0 0).cells.toList) = [GR.cell ⟨[], none⟩] := rfl
 rw [hz]
 clear hz hb5
 repeat' (first | (with_reducible first | refine zac yU yU yE ?_ | refine zab ?_ | refine DS.seq ?_ | refine zaa ?_ | refine DS.block ?_) | fail)
 refine zco [1, 2, 5, 17, 18] yN (fun (x : Nat × Int × List Int × GR × Sto) => [(6, I x.2.1), (19, I x.1)]) (fun (x : Nat × Int × List Int × GR × Sto) => x.2.2.2.2) (fun (x : Nat × Int × List Int × GR × Sto) => x.1 ≤ c.rounds[i].tables.length ∧ x.2.2.1.length ≤ 4 * x.1 ∧ zdn c i c.rounds[i].tables [] 0 = zdn c i (c.rounds[i].tables.drop x.1) x.2.2.1 x.2.1 ∧ x.2.2.2.1.l = x.2.2.1.map cI ∧ x.2.2.2.1.Ok 3 1 x.2.2.2.2 ∧ zad x.2.2.2.2 b5 = some (.cells [x.2.2.2.1.cell] 22) ∧ ∀ cap j, x.2.2.2.1.blk ≠ some (b5, cap, j)) (fun (x : Nat × Int × List Int × GR × Sto) => c.rounds[i].tables.length - x.1) (0, 0, [], ⟨[], none⟩, [(b5, .cells [GR.cell ⟨[], none⟩] 22)]) yS (fun b o e => by exact e) ⟨Nat.zero_le _, by simp, rfl, rfl, rfl, by simp [zad], fun _ _ h => by cases h⟩ (fun x B hI hB => ?_); try dsimp only at hI hB; simp only [zas, zav]
 obtain ⟨k, first, l, g, S⟩ := x
 dsimp only at hI hB
 obtain ⟨g1, g2, g3, g4, g5, g6, g7⟩ := hI
 have hI0 := And.intro g3 (And.intro g4 (And.intro g5 (And.intro g6 g7)))
 have hB0 := hB
 clear hB g3 g4 g5 g6 g7
 repeat' (first | (with_reducible first | refine zac yU yU yE ?_ | refine zab ?_ | refine DS.seq ?_ | refine zaa ?_ | (refine zbc yE ?_; first | refine zga (fun _ => ?_) (fun _ => ?_) | refine zeo (fun _ => ?_) (fun _ => ?_)) | refine DS.block ?_ | refine DS.exit yU ?_ | refine DS.skip ?_) | refine zbi [] yE trivial ?_ | fail)
 ·rename_i e1 e2
  obtain ⟨_, r0, dr4, rfl, dr6⟩ := zcj (l := c.rounds[i].tables) (i := k) (by omega); rw [dr4] at hI0
  rw [hI0.1, zps e2]; rfl
 ·rename_i e1 e2
  have hk : k < c.rounds[i].tables.length := by omega
  refine zcp [1, 2, 5, 6, 8, 17, 18, 19, 28, 29] yN (fun (j : Nat) => [(30, I j)]) (fun (j : Nat) => j ≤ c.rounds[i].tables[k].length ∧ zec c i c.rounds[i].tables[k] none = zec c i (c.rounds[i].tables[k].drop j) (zmn c.rounds[i].tables[k] j)) (fun (j : Nat) => c.rounds[i].tables[k].length - j) 0 yS (by simp [zmn]) (fun j B hI hB => ?_); try dsimp only at hI hB; simp only [zas, zav]
  repeat' (first | (with_reducible first | refine zac yU yU yE ?_ | refine zab ?_ | refine DS.seq ?_ | refine zaa ?_ | (refine zbc yE ?_; refine zeo (fun _ => ?_) (fun _ => ?_)) | refine DS.block ?_ | refine DS.exit yU ?_ | refine DS.skip ?_) | refine zcb inferInstance (yeq c _) yR yT ?_ | refine zbi [] yE trivial ?_ | fail)
  ·rename_i e3 e4
   obtain ⟨_, r, dr1, rfl, dr3⟩ := zcj (l := c.rounds[i].tables[k]) (i := j) (by omega); rw [dr1] at hI
   obtain ⟨_, r0, dr4, rfl, dr6⟩ := zcj (l := c.rounds[i].tables) (i := k) (by omega); rw [dr4] at hI0
   rw [hI0.1, zgj (e := 7) e2 (by rw [hI.2, zec, if_pos e4]) (by decide)]; rfl
  ·rename_i e3 e4
   obtain ⟨m, hm, e5, -, e7⟩ := zgf e4
   have H := And.intro e5 e7
   simp only [e5]
   clear e5 e7 e4
   repeat' (first | (with_reducible first | refine zac yU yU yE ?_ | refine zab ?_ | refine DS.seq ?_ | refine zaa ?_ | (refine zbc yE ?_; first | refine zeo (fun _ => ?_) (fun _ => ?_) | refine zdk ?_ | refine yas (fun _ => ?_) (fun _ => ?_)) | (refine zdz yU yE ?_; first | refine zow (fun _ => ?_) (fun _ => ?_) | refine GG.run ?_ | refine zfx ?_) | refine DS.blk ?_ | refine DS.skip ?_) | refine zcb inferInstance (zqn _ _) yR yT ?_ | refine zbi [] yE trivial ?_ | fail)
   all_goals obtain ⟨_, r, dr1, rfl, dr3⟩ := zcj (l := c.rounds[i].tables[k]) (i := j) (by omega); rw [dr1] at hI
   ·rename_i e9
    obtain ⟨_, r0, dr4, rfl, dr6⟩ := zcj (l := c.rounds[i].tables) (i := k) (by omega); rw [dr4] at hI0
    rw [hI0.1, zgj (e := 10) e2 (by rw [hI.2, zec, if_neg (by rw [H.1]; omega), if_pos (by rw [H.2]; exact e9)]) (by decide)]; rfl
   ·rename_i e9 e10 e11
    obtain ⟨e12, e13⟩ := zho (t := c.rounds[i].tables[k]) (k := j) (by omega) (by omega)
    obtain ⟨_, r0, dr4, rfl, dr6⟩ := zcj (l := c.rounds[i].tables) (i := k) (by omega); rw [dr4] at hI0
    rw [hI0.1, zgj (e := 11) e2 (by rw [hI.2, zec, if_neg (by rw [H.1]; omega), if_neg (by rw [H.2, e9]; decide), if_pos (by rw [e13]; simp only [zht]; exact decide_eq_true e11)]) (by decide)]; rfl
   ·rename_i e9 e10 e11
    obtain ⟨e12, e13⟩ := zho (t := c.rounds[i].tables[k]) (k := j) (by omega) (by omega)
    exact DS.back (hB (j + 1) _ _ (by omega) (⟨by omega, by rw [hI.2, dr3, zec, if_neg (by rw [H.1]; omega), if_neg (by rw [H.2, e9]; decide), if_neg (by rw [e13]; simp only [zht]; simpa using e11), zgm (by omega)]⟩) yS yS (fun b o e => by first | exact e | (simp only [zaf]; split <;> simp_all)))
   ·rename_i e9 e10
    have e13 : zht (zmn c.rounds[i].tables[k] j) c.rounds[i].tables[k][j] = false := by
     have : j = 0 := by omega
     subst this; rfl
    exact DS.back (hB (j + 1) _ _ (by omega) (⟨by omega, by rw [hI.2, dr3, zec, if_neg (by rw [H.1]; omega), if_neg (by rw [H.2, e9]; decide), if_neg (by rw [e13]; decide), zgm (by omega)]⟩) yS yS (fun b o e => by first | exact e | (simp only [zaf]; split <;> simp_all)))
  ·rename_i e3
   have hids : zec c i c.rounds[i].tables[k] none = 0 := by rw [hI.2, List.drop_eq_nil_of_le (by omega)]; rfl
   clear hI hB
   have hcf := zss S c.rounds[i].tables[k] (fun x => decide (x ∈ l)) inferInstance (g := 90) (fs := []) (cs := [.v (.pointer (some ⟨b5, 0, none⟩))]) (fun x => yfp S g l x hI0.2.2.1 hI0.2.1 hI0.2.2.2.1)
   repeat' (first | (with_reducible first | refine zac yU yU yE ?_ | refine zab ?_ | refine DS.seq ?_ | refine zaa ?_ | (refine zbc yE ?_; first | refine zeo (fun _ => ?_) (fun _ => ?_) | refine yfg (fun _ => ?_) (fun _ => ?_)) | refine DS.skip ?_) | refine zhv inferInstance (hcf) yR yT ?_ | refine zbi [] yE trivial ?_ | fail)
   ·rename_i e4
    obtain ⟨_, r0, dr4, rfl, dr6⟩ := zcj (l := c.rounds[i].tables) (i := k) (by omega); rw [dr4] at hI0
    obtain ⟨x, hx, hx2⟩ := List.any_eq_true.1 e4
    obtain ⟨j, hj, rfl⟩ := List.getElem_of_mem hx
    rw [hI0.1, zmr e2 hids (k := j) hj (by simpa using hx2)]; rfl
   all_goals rename_i e4 e5
   all_goals
    have hno : ∀ x ∈ c.rounds[i].tables[k], ¬ x ∈ l := fun x hx hx2 => by
     have : (c.rounds[i].tables[k].any fun x => decide (x ∈ l)) = true := List.any_eq_true.2 ⟨x, hx, by simpa using hx2⟩
     rw [this] at e4; cases e4
    have hhd := zsh (t := c.rounds[i].tables[k]) (by omega)
   ·obtain ⟨_, r0, dr4, rfl, dr6⟩ := zcj (l := c.rounds[i].tables) (i := k) (by omega); rw [dr4] at hI0
    rw [hI0.1, zmq e2 hids hno (by rw [hhd]; exact e5)]; rfl
   ·obtain ⟨p1, p2, p3, p4, p5⟩ := hI0
    obtain ⟨S0, S1, s0, s1, s2, s3⟩ := GR.split p3
    have hx0 : zad S0 b5 = some (.cells [g.cell] 22) := (s3 b5 p5).1.trans p4
    have hN := And.intro hids (And.intro hno (And.intro hhd (And.intro p1 (And.intro p2 (And.intro p3 (And.intro p4 (And.intro p5 s3)))))))
    clear hno hhd p1 p2 p3 p4 p5 s3 hids hcf e4
    skip
    refine zhw (id := 23) (S0) (S1) [0, 1, 2, 3, 4, 5] 6 (by kernel_rfl) zdq (by simp only [zba, zbd, zbe, zbf, zaz]; exact rfl) (by simp only [zaw, zax, List.drop_nil]; exact rfl) (s0) (s1) ?_
    repeat' (first | with_reducible refine zbv yU yU yU yX21 ?_ | fail)
    have hgl : g.l.length = l.length := by rw [hN.2.2.2.2.1, List.length_map]
    refine zxm rfl rfl rfl yR (zmi (g := g) (ml := c.rounds[i].tables[k].map cI) rfl yH yH yR yR (by decide) yH s2 yH yH (by rw [List.length_map]; omega) (by intro x hx; obtain ⟨y, -, rfl⟩ := List.mem_map.1 hx; rfl) ⟨by rw [List.length_map]; omega, by decide⟩) (fun u2 E' S4 hu2 hdis => ?_)
    obtain ⟨rfl, b', cap', junk', rfl, m1, m2, m3⟩ := hu2
    have hbs : zad (S4 ++ S0) b5 = some (.cells [g.cell] 22) := by rw [zbu, hdis b5 _ hx0]; exact hx0
    have hne : b' ≠ b5 := fun h => by
     have := m1.look
     rw [h, hdis b5 _ hx0] at this; cases this
    have hml : g.l ++ (c.rounds[i].tables[k].map cI).map (·.map V.copy) = (l ++ c.rounds[i].tables[k]).map cI := by
     rw [hN.2.2.2.2.1, List.map_append, List.map_map]; rfl
    rw [hml] at m1 ⊢
    simp only [GR.cell_some, zdr]
    clear hml hgl
    repeat' (first | (with_reducible first | refine zac yU yU yE ?_ | refine zab ?_ | refine zaa ?_ | refine DS.blk ?_) | (refine DS.store yR yE yE yE yE yU (by exact ⟨by with_unfolding_all rfl, by (try simp only [List.length_map, List.length_append, List.length_set, List.length_replicate, List.length_cons, List.length_nil]); omega⟩) ?_; simp only [zbt, zbb, zbh, zcm, zbq, zbo, zbr]; try simp only [zao, zag, zah, Nat.reduceEqDiff, ↓reduceIte, zal, zam, zar, zak, zai, zap, zan]) | fail)
    have hb1 : zad (setS b5 (.cells [GR.cell ⟨(l ++ c.rounds[i].tables[k]).map cI, some (b', cap', junk')⟩] 22) (S4 ++ S0)) b5 = some (.cells [GR.cell ⟨(l ++ c.rounds[i].tables[k]).map cI, some (b', cap', junk')⟩] 22) := by rw [zbg hbs, if_pos rfl]
    have hb2 : zad (setS b5 (.cells [GR.cell ⟨(l ++ c.rounds[i].tables[k]).map cI, some (b', cap', junk')⟩] 22) (S4 ++ S0)) b' = zad S4 b' := by rw [zbg hbs, if_neg hne, zbu, m1.look]
    refine zfj (S' := setS b5 (.cells [GR.cell ⟨(l ++ c.rounds[i].tables[k]).map cI, some (b', cap', junk')⟩] 22) (S4 ++ S0)) (fun b o e => by simp only [GR.cell, List.length_map] at e; exact e) ?_
    refine DS.back (hB0 (k + 1, c.rounds[i].tables[k][0], l ++ c.rounds[i].tables[k], ⟨(l ++ c.rounds[i].tables[k]).map cI, some (b', cap', junk')⟩, setS b5 (.cells [GR.cell ⟨(l ++ c.rounds[i].tables[k]).map cI, some (b', cap', junk')⟩] 22) (S4 ++ S0)) _ _ (by dsimp only; omega)
     ⟨by dsimp only; omega, by simp only [List.length_append]; omega, by dsimp only; rw [hN.2.2.2.1, List.drop_eq_getElem_cons hk, zkd e2 hN.1 hN.2.1 (by rw [hN.2.2.1]; exact e5), hN.2.2.1], rfl, m1.of (fun b cap j h => by cases h; exact hb2), hb1, fun cap j h => by cases h; exact hne rfl⟩ yS yS (fun b o e => by exact e))
 ·rename_i e1
  rw [hI0.1, List.drop_eq_nil_of_le (by omega)]; rfl
end Go.XL
namespace Go.XL
open Go.Proofs
set_option maxRecDepth 100000
set_option maxHeartbeats 4000000
theorem yfw {c : Club} {i : Nat} (h : i < c.rounds.length) (h1 : zev c i = 0) (h2 : ¬ zhx c i = 0) : zef c i (c.rounds.length - i) = zhx c i := by rw [zha h, if_neg (by omega), if_pos h2]
theorem yfv {c : Club} {i : Nat} (h : i < c.rounds.length) (h1 : zev c i = 0) (h2 : zhx c i = 0) : zef c i (c.rounds.length - i) = zef c (i + 1 : Nat) (c.rounds.length - (i + 1)) := by rw [zha h, if_neg (by omega), if_neg (by omega)]
theorem zor (c : Club) (hs : c.Small) : PC Tryz.prog 12 [c.val] (I (zdf c)) := by
 have q1 := hs.rounds
 have q2 := hs.members
 refine DC.of_run Tryz.func12 rfl Tryz.ntmps12 Tryz.results12 (by simp) (fun _ => ?_); simp only [zaq, zau, go_sem, Nat.zero_add, Nat.reduceAdd]
 repeat' (first | (with_reducible first | refine zac yU yU yE ?_ | refine zab ?_ | refine DS.seq ?_ | refine zaa ?_ | (refine zbc yE ?_; first | refine zga (fun _ => ?_) (fun _ => ?_) | refine zdh ?_) | (refine zdz yU yE ?_; first | refine zvm (fun _ => ?_) (fun _ => ?_) | refine GG.run ?_ | refine ztm ?_) | refine DS.skip ?_) | refine zcb inferInstance (zpk _ _ _) yR yT ?_ | (refine zcz (t := 1) yU yE yU ?_; simp only [zbp, zct, zbn, zce, zbm, zbj, zbx, zbl, zcv, zcr, zca, zcq, zcd, zcc]) | refine zbi [] yE trivial ?_ | fail)
 rotate_left 2
 ·rename_i e1 e2 e3
  have hr : zfq c = 2 := by rw [zfq, if_neg (by simpa using e1), if_neg (by simpa using e2), if_pos e3]
  rw [zdf, if_pos (by rw [hr]; decide), hr]; rfl
 ·rename_i e1 e2
  have hr : zfq c = 2 := by rw [zfq, if_neg (by simpa using e1), if_pos e2]
  rw [zdf, if_pos (by rw [hr]; decide), hr]; rfl
 ·rename_i e1
  have hr : zfq c = 2 := by rw [zfq, if_pos e1]
  rw [zdf, if_pos (by rw [hr]; decide), hr]; rfl
 ·rename_i e1 e2 e3 e4
  have hr : zfq c = 2 := by rw [zfq, if_neg (by simpa using e1), if_neg (by simpa using e2), if_neg (by simpa using e3), if_pos e4]
  rw [zdf, if_pos (by rw [hr]; decide), hr]; rfl
 ·rename_i e1 e2 e3 e4
  have hr : zfq c = zgi c.size c.places 1000000 0 := by rw [zfq, if_neg (by simpa using e1), if_neg (by simpa using e2), if_neg (by simpa using e3), if_neg (by simpa using e4)]
  have hz := hr
  clear hr
  repeat' (first | (with_reducible first | refine zac yU yU yE ?_ | refine zab ?_ | refine DS.seq ?_ | refine zaa ?_ | (refine zbc yE ?_; first | refine zga (fun _ => ?_) (fun _ => ?_) | refine zeo (fun _ => ?_) (fun _ => ?_)) | refine DS.block ?_ | refine DS.skip ?_) | refine zcb inferInstance (ycw c c.places 1000000 0 (by omega) (by decide) (by decide)) yR yT ?_ | refine zcb inferInstance (ygj c.members) yR yT ?_ | refine zbi [] yE trivial ?_ | fail)
  ·rename_i e5
   rw [zdf, if_pos (by omega), hz]; rfl
  ·rename_i e5 e6
   rw [zdf, if_neg (by omega), if_pos e6]; rfl
  ·rename_i e5 e6 e7
   rw [zdf, if_neg (by omega), if_neg (by omega), if_pos (by omega)]; rfl
  ·rename_i e5 e6 e7
   have f := zwz e6
   have hc : zdf c = zef c 0 c.rounds.length := by rw [zdf, if_neg (by omega), if_neg (by omega), if_neg (by omega)]
   rw [hc]
   clear hc hz
   refine zcp [1, 49] yN (fun (i : Nat) => [(50, I i)]) (fun (i : Nat) => i ≤ c.rounds.length ∧ zef c 0 c.rounds.length = zef c i (c.rounds.length - i)) (fun (i : Nat) => c.rounds.length - i) 0 yS ⟨Nat.zero_le _, rfl⟩ (fun i B hI hB => ?_); try dsimp only at hI hB; simp only [zas, zav]
   repeat' (first | (with_reducible first | refine zac yU yU yE ?_ | refine zab ?_ | refine DS.seq ?_ | refine zaa ?_ | (refine zbc yE ?_; first | refine zga (fun _ => ?_) (fun _ => ?_) | refine zeo (fun _ => ?_) (fun _ => ?_)) | refine DS.blk ?_ | refine DS.block ?_ | refine DS.exit yU ?_ | refine DS.skip ?_) | refine zcb inferInstance (yhk c hs f e1.2 e1.1 (i := i) (by omega)) yR yT ?_ | refine zcb inferInstance (ypy c hs e1.2 (by omega) e2 e4 (i := i) (by omega) (by omega)) yR yT ?_ | refine zbi [] yE trivial ?_ | fail)
   ·rename_i e8 e9
    rw [hI.2, zug (by omega) e9]; rfl
   ·rename_i e8 e9 e10
    rw [hI.2, yfw (by omega) e9 e10]; rfl
   ·rename_i e8 e9 e10
    exact DS.back (hB (i + 1) _ _ (by omega) (⟨by omega, by rw [hI.2, yfv (by omega) e9 e10]⟩) yS yS (fun b o e => by first | exact e | (simp only [zaf]; split <;> simp_all)))
   ·rename_i e8
    rw [hI.2, show c.rounds.length - i = 0 by omega]; rfl
theorem ygb (c : Club) (round : Int) (hm : c.members.length ≤ 1000000) : PC Tryz.prog 62 [c.val, I round] (.own false 3 1 ((zer c round).map cI)) := by
 refine DC.of_run Tryz.func62 rfl Tryz.ntmps62 Tryz.results62 (by simp) (fun _ => ?_); simp only [zaq, zau, go_sem, Nat.zero_add, Nat.reduceAdd]
 repeat' (first | (with_reducible first | (refine zdu (t := 4) yU yO yE ?_) | (refine zdu (t := 5) yU yO yE ?_) | refine zac yU yU yE ?_ | refine zab ?_ | refine DS.seq ?_ | refine zaa ?_ | refine DS.block ?_) | (refine zcz (t := 2) yU yE yU ?_; simp only [zbp, zct, zbn, zce, zbm, zbj, zbx, zbl, zcv, zcr, zca, zcq, zcd, zcc]) | fail)
 refine zcp [1, 9, 10] yN (fun (k : Nat × List Int) => [(5, .own false 3 1 (k.2.map cI)), (11, I k.1)]) (fun (k : Nat × List Int) => k.1 ≤ c.members.length ∧ k.2.length ≤ k.1 ∧ k.2 ++ ((c.members.drop k.1).filter (fun m => m.plays round)).map Member.id = zer c round) (fun (k : Nat × List Int) => c.members.length - k.1) (0, []) yS (by simp [zer]) (fun k B hI hB => ?_); try dsimp only at hI hB; simp only [zas, zav]
 repeat' (first | (with_reducible refine zee (t := 4) yU yO yE ?_; simp only [zao, zag, zah, Nat.reduceEqDiff, ↓reduceIte, zal, zam, zar, zak, zai, zap, zan]) | (with_reducible refine zee (t := 5) yU yO yE ?_; simp only [zao, zag, zah, Nat.reduceEqDiff, ↓reduceIte, zal, zam, zar, zak, zai, zap, zan]) | (with_reducible refine zee (t := 18) yU yO yE ?_; simp only [zao, zag, zah, Nat.reduceEqDiff, ↓reduceIte, zal, zam, zar, zak, zai, zap, zan]) | (with_reducible refine zee (t := 24) yU yO yE ?_; simp only [zao, zag, zah, Nat.reduceEqDiff, ↓reduceIte, zal, zam, zar, zak, zai, zap, zan]) | (with_reducible first | refine zac yU yU yE ?_ | refine zab ?_ | refine DS.seq ?_ | refine zaa ?_ | (refine zbc yE ?_; first | refine zeo (fun _ => ?_) (fun _ => ?_) | refine yfg (fun _ => ?_) (fun _ => ?_)) | refine DS.blk ?_ | refine DS.block ?_ | refine DS.exit yU ?_ | refine DS.skip ?_) | (refine zff yU yE yE ?_; simp only [go_sem, Nat.zero_add, Nat.reduceAdd]) | (refine DS.append (mm := false) yU yE yE yU (by decide) yE (by first | exact .inl rfl | exact .inr ⟨rfl, rfl⟩) yE yX0 (by first | exact zat zdw _ | exact zat zet _ | exact zat Member.len _ | exact zat Sitting.len _ | exact zat Ruling.len _ | (simp only [List.mem_cons, List.not_mem_nil, or_false, forall_eq]; rfl) | simp) ⟨by (try simp only [List.length_map, List.length_cons, List.length_nil, List.length_append, List.length_take, List.length_drop]); omega, by decide⟩ ?_; simp only [zao, zag, zah, Nat.reduceEqDiff, ↓reduceIte, zal, zam, zar, zak, zai, zap, zan]) | (refine zhj (t := 7) yU yE yU (fun _ => yE) yE yU (by exact ⟨by with_unfolding_all rfl, by with_unfolding_all decide⟩) (fun _ => by simp only [go_sem, Nat.reduceEqDiff, ↓reduceIte]) ?_; simp only [go_sem]) | refine zcb inferInstance (zqn _ _) yR yT ?_ | refine zbi [] yE trivial ?_ | fail)
 ·rename_i e2 e3
  obtain ⟨_, r, dr1, rfl, dr3⟩ := zcj (l := c.members) (i := k.1) (by omega); rw [dr1] at hI
  exact DS.back (hB (k.1 + 1, k.2 ++ [c.members[k.1].id]) _ _ (by simp; omega) (⟨by simp; omega, by simp; omega, by rw [← hI.2.2, dr3, List.filter_cons, if_pos e3]; simp⟩) yS yS (fun b o e => by first | exact e | (simp only [zaf]; split <;> simp_all)))
 ·rename_i e2 e3
  obtain ⟨_, r, dr1, rfl, dr3⟩ := zcj (l := c.members) (i := k.1) (by omega); rw [dr1] at hI
  exact DS.back (hB (k.1 + 1, k.2) _ _ (by simp; omega) (⟨by simp; omega, by simp; omega, by rw [← hI.2.2, dr3, List.filter_cons, if_neg (by simp [e3])]⟩) yS yS (fun b o e => by first | exact e | (simp only [zaf]; split <;> simp_all)))
 ·have de1 := zek (l := c.members) (i := k.1) (by omega); rw [de1] at hI
  rw [zfk, show k.2 = zer c round by have e := hI.2.2; simpa using e]
end Go.XL
namespace Go.XL
open Go.Proofs
set_option maxRecDepth 100000
set_option maxHeartbeats 8000000
structure Hid (p : Prop) : Prop where
 out : p
def kA (a b : Int) : Value := .agg #[.int .i64 a, .int .i64 b]
def In64 (a : Int) : Prop := -9223372036854775808 ≤ a ∧ a ≤ 9223372036854775807
structure MapW (S : Sto) (b : Nat) (w : W) : Prop where
 out : ∃ f es clock, zad S b = some (.raw (.map es clock)) ∧ MapIs Tryz.prog 90 f es clock ∧ ∀ x y, In64 x → In64 y → (f (kA x y)).getD (.int .i64 0) = .int .i64 (w x y)
theorem keyA {a b : Int} (ha : In64 a) (hb : In64 b) : zlp Tryz.prog 90 (kA a b) := by
 have hw : ∀ c : Int, In64 c → (Lit.int .i64 c).wf = true := fun c hc => by
  have h1 : decide (IntKind.i64.min ≤ c) = true := decide_eq_true (show (-9223372036854775808 : Int) ≤ c from hc.1)
  have h2 : decide (c ≤ IntKind.i64.max) = true := decide_eq_true (show c ≤ (9223372036854775807 : Int) from hc.2)
  simp only [Lit.wf, h1, h2, Bool.and_self]
 have h1 : Tryz.prog.underlying 90 = some (.array 2 3) := by with_unfolding_all rfl
 have h2 : Tryz.prog.keyType 90 = true := by with_unfolding_all rfl
 have h3 : Value.formed Tryz.prog 90 (kA a b) = true := by with_unfolding_all rfl
 have h4 : Tryz.prog.underlying 3 = some (.int .i64) := by with_unfolding_all rfl
 have h5 : Tryz.prog.cellsOf 90 = 2 := by with_unfolding_all rfl
 have h6 : Tryz.prog.cellsOf 3 = 1 := by with_unfolding_all rfl
 obtain ⟨m, hm⟩ : ∃ m, Tryz.prog.types.size = m + 1 := ⟨Tryz.prog.types.size - 1, by with_unfolding_all rfl⟩
 have k1 : ∀ c, In64 c → Tryz.prog.keyLits (m + 1) 3 [.int .i64 c] = some [.int .i64 c] := fun c hc => by
  unfold Program.keyLits
  rw [h4]
  simp [hw c hc]
 unfold zlp keyOf
 rw [h1]
 simp only [h2, h3, Bool.and_self, if_true]
 rw [hm]
 unfold Program.keyLits
 rw [h1]
 simp only [h5, h6]
 have hc : (kA a b).cells.toList = [.int .i64 a, .int .i64 b] := rfl
 rw [hc]
 have hr : List.range 2 = [0, 1] := rfl
 rw [hr]
 simp [k1 a ha, k1 b hb]
def yci (c : Club) : Prop := ∀ s ∈ c.rounds, ∀ t ∈ s.tables, ∀ x ∈ t, In64 x
theorem yX22 {p : Prop} (h : p := by (simp (disch := omega) only [go_sem, dopV, Option.map_some, Option.map_none, Option.bind_some, Option.bind_none, ↓reduceIte, Nat.reduceEqDiff, Nat.reduceLT, Nat.reduceLeDiff, Nat.reduceAdd, Nat.reduceMul, Nat.reduceSub, Nat.zero_add, Nat.add_zero, Nat.zero_le, Nat.zero_mul, Nat.mul_one, Nat.one_mul, Int.natCast_zero, Int.toNat_zero, Int.reduceToNat, Int.reduceLT, Int.reduceLE, Int.reduceEq, decide_true, decide_false, true_and, and_true, Bool.and_self, Bool.and_true, Bool.true_and, Bool.not_true, Bool.not_false, IntWalk.toNatUp, IntWalk.iteOmega, IntWalk.i64_in, Option.isSome_some, not_true_eq_false, not_false_eq_true, Option.getD_some, Option.getD_none, Int.toNat_natCast, List.length_map, List.getElem?_map, List.getElem?_eq_getElem, V.flat, V.one, List.all_cons, List.all_nil, *, List.forall_mem_map, implies_true, zdw, List.drop_zero]; exact rfl)) : p := h
theorem zrv (c : Club) (hs : c.Small) (hc : yci c) : DC Tryz.prog 64 [c.val] [] (fun u S' => ∃ b, u = .v (.map (some b)) ∧ MapW S' b (zts c)) := by
 have q1 := hs.rounds
 refine DC.of_run Tryz.func64 rfl Tryz.ntmps64 Tryz.results64 (by simp) (fun _ => ?_); simp only [zaq, zau, go_sem, Nat.zero_add, Nat.reduceAdd]
 repeat' (first | (with_reducible first | refine zac yU yU yE ?_ | refine zab ?_ | refine DS.seq ?_ | refine zaa ?_) | (refine zcz (t := 1) yU yE yU ?_; simp only [zbp, zct, zbn, zce, zbm, zbj, zbx, zbl, zcv, zcr, zca, zcq, zcd, zcc]) | fail)
 refine yoy yR (fun b hb => ?_)
 simp only [zdr]
 repeat' (first | (with_reducible first | refine zac yU yU yE ?_ | refine zab ?_ | refine DS.seq ?_ | refine zaa ?_ | refine DS.block ?_) | fail)
 have M0 : MapW [(b, .raw (.map #[] 0))] b (fun _ _ => 0) := ⟨_, _, _, by simp only [zad, if_true], MapIs.empty _ _, fun _ _ _ _ => rfl⟩
 refine zco [3, 14, 15] yN (fun (x : Nat × Sto × W) => [(16, I x.1)]) (fun (x : Nat × Sto × W) => x.2.1) (fun (x : Nat × Sto × W) => x.1 ≤ c.rounds.length ∧ MapW x.2.1 b x.2.2 ∧ zts c = addS (c.rounds.drop x.1) x.2.2) (fun (x : Nat × Sto × W) => c.rounds.length - x.1) (0, [(b, .raw (.map #[] 0))], fun _ _ => 0) yS (fun b o e => by exact e) ⟨Nat.zero_le _, M0, rfl⟩ (fun x B hI hB => ?_); try dsimp only at hI hB; simp only [zas, zav]
 obtain ⟨i, S, w⟩ := x
 dsimp only at hI hB
 obtain ⟨g1, g2, g3⟩ := hI
 repeat' (first | (with_reducible first | refine zac yU yU yE ?_ | refine zab ?_ | refine DS.seq ?_ | refine zaa ?_ | (refine zbc yE ?_; refine zeo (fun _ => ?_) (fun _ => ?_)) | refine DS.block ?_ | refine DS.exit yU ?_ | refine DS.skip ?_) | (refine zhj (t := 5) yU yE yU (fun _ => yE) yE yU (by exact ⟨by with_unfolding_all rfl, by with_unfolding_all decide⟩) (fun _ => by simp only [go_sem, Nat.reduceEqDiff, ↓reduceIte]) ?_; simp only [go_sem]) | fail)
 ·rename_i e1
  have hi : i < c.rounds.length := by omega
  have q2 := hs.at hi
  have q3 := q2.tables
  have hB0 := hB
  clear hB
  refine zco [3, 14, 15, 16, 21, 22] yN (fun (y : Nat × Sto × W) => [(23, I y.1)]) (fun (y : Nat × Sto × W) => y.2.1) (fun (y : Nat × Sto × W) => y.1 ≤ (c.rounds[i]'hi).tables.length ∧ MapW y.2.1 b y.2.2 ∧ zts c = addS (c.rounds.drop (i + 1)) (ztz ((c.rounds[i]'hi).tables.drop y.1) y.2.2)) (fun (y : Nat × Sto × W) => (c.rounds[i]'hi).tables.length - y.1) (0, S, w) yS (fun b o e => by exact e) ⟨Nat.zero_le _, g2, by rw [g3, List.drop_eq_getElem_cons hi]; rfl⟩ (fun y B hI hB => ?_); try dsimp only at hI hB; simp only [zas, zav]
  obtain ⟨k, S1, w1⟩ := y
  dsimp only at hI hB
  obtain ⟨k1, k2, k3⟩ := hI
  clear g2 g3 M0
  repeat' (first | (with_reducible first | refine zac yU yU yE ?_ | refine zab ?_ | refine DS.seq ?_ | refine zaa ?_ | (refine zbc yE ?_; refine zeo (fun _ => ?_) (fun _ => ?_)) | refine DS.blk ?_ | refine DS.block ?_ | refine DS.exit yU ?_ | refine DS.skip ?_) | fail)
  ·rename_i e2
   have hk : k < (c.rounds[i]'hi).tables.length := by omega
   have q4 := q2.table _ (List.getElem_mem hk)
   have hct := hc _ (List.getElem_mem hi) _ (List.getElem_mem hk)
   rw [List.drop_eq_getElem_cons hk, ztz] at k3
   have hB1 := hB
   clear hB
   refine zco [3, 7, 14, 15, 16, 21, 22, 23, 27, 28] yN (fun (z : Nat × Sto × W) => [(29, I z.1)]) (fun (z : Nat × Sto × W) => z.2.1) (fun (z : Nat × Sto × W) => z.1 ≤ ((c.rounds[i]'hi).tables[k]'hk).length ∧ MapW z.2.1 b z.2.2 ∧ zts c = addS (c.rounds.drop (i + 1)) (ztz ((c.rounds[i]'hi).tables.drop (k + 1)) (addT 1 (((c.rounds[i]'hi).tables[k]'hk).take z.1) (((c.rounds[i]'hi).tables[k]'hk).drop z.1) z.2.2))) (fun (z : Nat × Sto × W) => ((c.rounds[i]'hi).tables[k]'hk).length - z.1) (0, S1, w1) yS (fun b o e => by exact e) ⟨Nat.zero_le _, k2, k3⟩ (fun z B hI hB => ?_); try dsimp only at hI hB; simp only [zas, zav]
   obtain ⟨j, S2, w2⟩ := z
   dsimp only at hI hB
   obtain ⟨j1, j2, j3⟩ := hI
   clear k2 k3
   repeat' (first | (with_reducible first | refine zac yU yU yE ?_ | refine zab ?_ | refine DS.seq ?_ | refine zaa ?_ | (refine zbc yE ?_; refine zeo (fun _ => ?_) (fun _ => ?_)) | refine DS.blk ?_ | refine DS.block ?_ | refine DS.exit yU ?_ | refine DS.skip ?_) | fail)
   ·rename_i e3
    have hj : j < ((c.rounds[i]'hi).tables[k]'hk).length := by omega
    have hB2 := hB
    clear hB
    have hle : j ≤ ((c.rounds[i]'hi).tables[k]'hk).length := by omega
    obtain ⟨pre, hpre⟩ : ∃ pre, pre = ((c.rounds[i]'hi).tables[k]'hk).take j := ⟨_, rfl⟩
    have hpl : pre.length = j := by rw [hpre, List.length_take]; omega
    have hpi : ∀ x ∈ pre, In64 x := fun x hx => hct x (List.mem_of_mem_take (hpre ▸ hx))
    have htk : List.take j (List.map cI ((c.rounds[i]'hi).tables[k]'hk)) = pre.map cI := by rw [hpre, List.map_take]
    rw [← hpre] at j3
    have J0 := Hid.mk (And.intro hpre j3)
    clear hpre j3
    repeat' (first | (with_reducible first | refine zac yU yU yX22 ?_ | refine zab ?_ | refine DS.block ?_) | fail)
    clear htk
    refine zco [3, 7, 9, 14, 15, 16, 21, 22, 23, 27, 28, 29, 36, 37] yN (fun (u : Nat × Sto × W) => [(38, I u.1)]) (fun (u : Nat × Sto × W) => u.2.1) (fun (u : Nat × Sto × W) => u.1 ≤ j ∧ MapW u.2.1 b u.2.2 ∧ addR 1 (((c.rounds[i]'hi).tables[k]'hk)[j]'hj) pre w2 = addR 1 (((c.rounds[i]'hi).tables[k]'hk)[j]'hj) (pre.drop u.1) u.2.2) (fun (u : Nat × Sto × W) => j - u.1) (0, S2, w2) yS (fun b o e => by exact e) ⟨Nat.zero_le _, j2, rfl⟩ (fun u B hI hB => ?_); try dsimp only at hI hB; simp only [zas, zav]
    obtain ⟨p, S3, w3⟩ := u
    dsimp only at hI hB
    obtain ⟨p1, p2, p3⟩ := hI
    clear j2
    repeat' (first | (with_reducible first | refine zac yU yU yE ?_ | refine zab ?_ | refine DS.seq ?_ | refine zaa ?_ | (refine zbc yE ?_; refine zeo (fun _ => ?_) (fun _ => ?_)) | refine DS.blk ?_ | refine DS.block ?_ | refine DS.exit yU ?_ | refine DS.skip ?_) | fail)
    ·rename_i e4
     have hp : p < pre.length := by omega
     obtain ⟨fm, es, clock, m1, m2, m3⟩ := p2.out
     have hdel : ∀ b' o, zad (delS b S3) b' = some o → zad S3 b' = some o ∧ zad [(b, Ob.raw (.map es clock))] b' = none := fun b' o e => by
      rw [zda] at e
      split at e
      ·cases e
      ·rename_i hne
       exact ⟨e, by simp only [zad]; rw [if_neg (fun h => hne h.symm)]⟩
     have hone : ∀ b' o, zad [(b, Ob.raw (.map es clock))] b' = some o → zad S3 b' = some o := fun b' o e => by
      simp only [zad] at e
      split at e
      ·rename_i hbb; subst hbb; rw [m1]; exact e
      ·cases e
     have hMp : MpOk Tryz.prog [⟨b, 90, .int .i64 0, fun x => (fm x).getD (.int .i64 0)⟩] ([(b, Ob.raw (.map es clock))] ++ delS b S3) := fun m hm => by
      rw [List.mem_singleton] at hm
      subst hm
      exact ⟨_, by simp [zad], es, clock, fm, rfl, m2, fun _ => rfl⟩
     refine yan (id := 14) (delS b S3) ([(b, Ob.raw (.map es clock))]) ([⟨b, 90, .int .i64 0, fun x => (fm x).getD (.int .i64 0)⟩]) [0, 1, 2, 3, 4, 5, 6, 7] 8 (by kernel_rfl) zdq (by simp only [zba, zbd, zbe, zbf, zaz]; exact rfl) (by simp only [zaw, zax, List.drop_nil]; exact rfl) (hMp) (hdel) (hone) ?_
     repeat' (first | with_reducible refine zbv yU yU yU yX8 ?_ | fail)
     have hin1 := hpi _ (List.getElem_mem hp)
     have hin2 := hct _ (List.getElem_mem hj)
     have hkey := keyA hin1 hin2
     have hval := m3 _ _ hin1 hin2
     refine yff (me := ⟨b, 90, .int .i64 0, fun x => (fm x).getD (.int .i64 0)⟩) (key := kA pre[p] (((c.rounds[i]'hi).tables[k]'hk)[j]'hj)) (List.mem_singleton.2 rfl) kd90 yU yU yR yH yH (V.Is.two _ _) hkey ?_
     simp only [hval, zdr]
     repeat' (first | with_reducible refine zbv yU yU yU yE ?_ | fail)
     refine yar (key := kA pre[p] (((c.rounds[i]'hi).tables[k]'hk)[j]'hj)) kd90 yU yU m2 hkey yH yH (V.Is.two _ _) (by simp only [zad, if_true]) yR (fun me hme _ => by rw [List.mem_singleton] at hme; subst hme; exact ⟨rfl, rfl⟩) (fun st es1 clock1 n1 n2 => ?_)
     simp only [zdr]
     repeat' (first | with_reducible refine zjh yU yU yU yU yE ?_ | (with_reducible refine DD.nil ?_; simp only [zas, zav]) | fail)
     have hs2 : zad (setS b (Ob.raw (Obj.map es1 clock1)) [(b, Ob.raw (Obj.map es clock))] ++ delS b S3) b = some (Ob.raw (Obj.map es1 clock1)) := by simp [setS, zad]
     refine DS.entryStore n2 yH (by (simp (disch := omega) only [go_sem, dopV, Option.map_some, Option.map_none, Option.bind_some, Option.bind_none, ↓reduceIte, Nat.reduceEqDiff, Nat.reduceLT, Nat.reduceLeDiff, Nat.reduceAdd, Nat.reduceMul, Nat.reduceSub, Nat.zero_add, Nat.add_zero, Nat.zero_le, Nat.zero_mul, Nat.mul_one, Nat.one_mul, Int.natCast_zero, Int.toNat_zero, Int.reduceToNat, Int.reduceLT, Int.reduceLE, Int.reduceEq, decide_true, decide_false, true_and, and_true, Bool.and_self, Bool.and_true, Bool.true_and, Bool.not_true, Bool.not_false, IntWalk.toNatUp, IntWalk.iteOmega, IntWalk.i64_in, Option.isSome_some, not_true_eq_false, not_false_eq_true, Option.getD_some, Option.getD_none, Int.toNat_natCast, List.length_map, List.getElem?_map, List.getElem?_eq_getElem, V.flat, V.one, List.all_cons, List.all_nil, goInt]; try exact rfl)) yH hs2 yR (fun es2 n3 => ?_)
     have hW : MapW (setS b (Ob.raw (Obj.map es2 clock1)) (setS b (Ob.raw (Obj.map es1 clock1)) [(b, Ob.raw (Obj.map es clock))] ++ delS b S3)) b (addP 1 w3 pre[p] (((c.rounds[i]'hi).tables[k]'hk)[j]'hj)) := by
      refine ⟨_, es2, clock1, by rw [zbg hs2, if_pos rfl], n3, fun x y hx hy => ?_⟩
      by_cases hxy : x = pre[p] ∧ y = (((c.rounds[i]'hi).tables[k]'hk)[j]'hj)
      ·rw [addP, if_pos hxy, hxy.1, hxy.2, zia]; rfl
      ·rw [addP, if_neg hxy, zkm _ _ (fun h => hxy (by simp only [kA, Value.agg.injEq] at h; simp at h; exact h)), m3 x y hx hy]
     generalize setS b (Ob.raw (Obj.map es2 clock1)) (setS b (Ob.raw (Obj.map es1 clock1)) [(b, Ob.raw (Obj.map es clock))] ++ delS b S3) = S5 at *
     clear hs2 n3 n2 n1 m1 m2 m3 hMp hdel hone hval hkey
     simp only [zbt]
     repeat' (first | (with_reducible first | refine zac yU yU yE ?_ | refine zab ?_ | refine zaa ?_ | refine DS.blk ?_) | fail)
     refine DS.back (hB (p + 1, S5, addP 1 w3 pre[p] (((c.rounds[i]'hi).tables[k]'hk)[j]'hj)) _ _ (by dsimp only; omega) ⟨by dsimp only; omega, hW, by rw [p3, List.drop_eq_getElem_cons hp, addR]⟩ yS yS (fun b o e => by exact e))
    ·rename_i e4
     have hp : p = j := by omega
     have J := J0.out
     subst hp
     rw [List.drop_eq_nil_of_le (by omega)] at p3
     skip
     refine DS.back (hB2 (p + 1, S3, w3) _ _ (by dsimp only; omega) ⟨by dsimp only; omega, p2, by rw [J.2, List.drop_eq_getElem_cons hj, addT, p3, List.take_succ_eq_append_getElem hj, ← J.1]; rfl⟩ yS yS (fun b o e => by exact e))
   ·rename_i e3
    have hje : j = ((c.rounds[i]'hi).tables[k]'hk).length := by omega
    rw [show ((c.rounds[i]'hi).tables[k]'hk).drop j = [] from List.drop_eq_nil_of_le (by omega)] at j3
    refine DS.back (hB1 (k + 1, S2, w2) _ _ (by dsimp only; omega) ⟨by dsimp only; omega, j2, j3⟩ yS yS (fun b o e => by exact e))
  ·rename_i e2
   rw [show (c.rounds[i]'hi).tables.drop k = [] from List.drop_eq_nil_of_le (by omega)] at k3
   refine DS.back (hB0 (i + 1, S1, w1) _ _ (by dsimp only; omega) ⟨by dsimp only; omega, k2, k3⟩ yS yS (fun b o e => by exact e))
 ·refine zch yG ⟨b, rfl, ?_⟩
  rw [g3, List.drop_eq_nil_of_le (by omega)]
  exact g2
end Go.XL
namespace Go.XL
open Go.Proofs
set_option maxRecDepth 100000
set_option maxHeartbeats 8000000
theorem znn {c : Club} {r : Int} : ∀ {T : List (List Int)} {s : List Int} {f : Int}, zdn c r T s f = 0 → ∀ t ∈ T, (t.length : Int) = c.size ∧ zec c r t none = 0
 | [], _, _, _, _, h => (List.not_mem_nil h).elim
 | t :: l, s, f, e, x, h => by
  simp only [zdn] at e
  split at e
  ·cases e
  rename_i h1
  split at e
  ·rename_i h2; exact absurd e h2
  rename_i h2
  split at e
  ·cases e
  split at e
  ·cases e
  rcases List.mem_cons.1 h with rfl | h
  ·exact ⟨by omega, by omega⟩
  ·exact znn e x h
theorem znu {c : Club} : ∀ {n i : Nat}, zef c i n = 0 → ∀ k, i ≤ k → k < i + n → zev c k = 0 ∧ zhx c k = 0
 | 0, i, _, k, h1, h2 => by omega
 | n + 1, i, e, k, h1, h2 => by
  simp only [zef] at e
  split at e
  ·rename_i h; exact absurd e h
  rename_i h3
  split at e
  ·rename_i h; exact absurd e h
  rename_i h4
  by_cases hk : k = i
  ·subst hk; exact ⟨by omega, by omega⟩
  ·exact znu e k (by omega) (by omega)
theorem zxc {c : Club} (h : zdf c = 0) : zef c 0 c.rounds.length = 0 := by
 obtain ⟨h1, h2, h3⟩ := zfi h
 unfold zdf at h
 rwa [if_neg (by omega), if_neg (by omega), if_neg (by omega)] at h
theorem yad {c : Club} (h : zdf c = 0) {i : Nat} (hi : i < c.rounds.length) : ∀ t ∈ c.rounds[i].tables, (t.length : Int) = c.size ∧ zec c i t none = 0 := by
 have h1 := (znu (zxc h) i (Nat.zero_le _) (by omega)).1
 rw [zev, c.round_at hi] at h1
 exact znn h1
theorem ygx {c : Club} (h : zdf c = 0) : ∀ s ∈ c.rounds, yrp s.tables := fun s hs t ht => by
 obtain ⟨i, hi, rfl⟩ := List.getElem_of_mem hs
 exact (zoh (yad h hi t ht).2).1
theorem yhn {α : Type} (f : α → Nat) (m : Nat) : ∀ l : List α, (∀ x ∈ l, f x ≤ m) → (l.map f).sum ≤ l.length * m
 | [], _ => by simp
 | x :: r, h => by
  have := yhn f m r fun y hy => h y (List.mem_cons_of_mem _ hy)
  have h1 := h x (List.mem_cons_self ..)
  simp only [List.map_cons, List.sum_cons, List.length_cons, Nat.succ_mul]
  omega
theorem zwp {c : Club} (hs : c.Small) (h : zdf c = 0) (x y : Int) : zts c x y = if x < y then (metS c x y : Int) else 0 := by
 have h1 := yhn (fun s : Sitting => s.tables.length) 1000000 c.rounds fun s h => (hs.round s h).tables
 have h2 := hs.rounds
 have h3 : c.rounds.length * 1000000 ≤ 1000000 * 1000000 := Nat.mul_le_mul_right _ h2
 rw [zts, ylj c.rounds _ x y (ygx h) ⟨Int.le_refl _, by omega⟩]
 simp only [Int.zero_add]; rfl
theorem yix (c : Club) (a : Int) : metS c a a = 0 := by
 have k1 : ∀ T, metT a a T = 0 := fun T => by
  induction T with
  | nil => rfl
  | cons t r ih => simp [metT, ih]
 unfold metS
 generalize c.rounds = R
 induction R with
 | nil => rfl
 | cons s r ih => simp [zqd, ih, k1]
theorem zyx {c : Club} (hs : c.Small) (h : zdf c = 0) (a b : Int) : zts c (min a b) (max a b) = metS c a b := by
 rw [zwp hs h]
 rcases Int.lt_trichotomy a b with h1 | h1 | h1
 ·rw [Int.min_eq_left (by omega), Int.max_eq_right (by omega), if_pos h1]
 ·subst h1; rw [Int.min_self, Int.max_self, if_neg (by omega), yix]; rfl
 ·rw [Int.min_eq_right (by omega), Int.max_eq_left (by omega), if_pos h1, zyw]
theorem yqf (c : Club) (hs : c.Small) (hc : yci c) (a b : Int) (ha : In64 a) (hb : In64 b) : PC Tryz.prog 21 [c.val, I a, I b] (I (metX c a b)) := by
 rw [metX]
 refine DC.of_run Tryz.func21 rfl Tryz.ntmps21 Tryz.results21 (by simp) (fun _ => ?_); simp only [zaq, zau, go_sem, Nat.zero_add, Nat.reduceAdd]
 repeat' (first | (with_reducible first | refine zac yU yU yE ?_ | refine zab ?_ | refine DS.seq ?_ | refine zaa ?_ | (refine zbc yE ?_; refine zga (fun _ => ?_) (fun _ => ?_)) | refine DS.skip ?_) | refine zcb inferInstance (zor c hs) yR yT ?_ | (refine zcz (t := 3) yU yE yU ?_; simp only [zbp, zct, zbn, zce, zbm, zbj, zbx, zbl, zcv, zcr, zca, zcq, zcd, zcc]) | refine zbi [] yE trivial ?_ | fail)
 ·rename_i e1
  rw [if_pos e1]; rfl
 ·rename_i e1
  rw [if_neg (by omega)]
  refine zdx inferInstance (zrv c hs hc) yR yH (fun u S' hu => ?_)
  obtain ⟨m, rfl, hw⟩ := hu
  obtain ⟨f, es, clock, m1, m2, m3⟩ := hw.out
  have hin1 : In64 (min a b) := by unfold In64 at *; omega
  have hin2 : In64 (max a b) := by unfold In64 at *; omega
  have hkey := keyA hin1 hin2
  have hval := m3 _ _ hin1 hin2
  rw [zyx hs e1] at hval
  have e2 : min a b = (if b < a then b else a) := by split <;> omega
  have e3 : max a b = (if b > a then b else a) := by split <;> omega
  rw [e2, e3] at hkey hval
  have J := Hid.mk hval
  clear e2 e3 hin1 hin2 hval
  repeat' (first | with_reducible refine zac yU yU yX8 ?_ | fail)
  refine yfb (key := kA (if b < a then b else a) (if b > a then b else a)) kd90 yU yU m2 hkey yH yH (V.Is.two _ _) m1 yR ?_
  rw [J.out]
  simp only [zdr]
  clear m1 m2 m3 hw
  repeat' (first | (with_reducible first | refine zac yU yU yE ?_ | refine zab ?_) | refine zbi [] yE trivial ?_ | fail)
  rfl
end Go.XL
namespace Go.XL
structure GoodW (B : Int) (met : Int → Int → Bool) (w : W) : Prop where
 is : ∀ a b, a < b → met a b = decide (0 < w a b)
 bd : ∀ a b, 0 ≤ w a b ∧ w a b ≤ B
 sym : ∀ a b, met a b = met b a
theorem GoodW.mono {B B' : Int} {met : Int → Int → Bool} {w : W} (g : GoodW B met w) (h : B ≤ B') : GoodW B' met w := ⟨g.is, fun a b => ⟨(g.bd a b).1, Int.le_trans (g.bd a b).2 h⟩, g.sym⟩
theorem GoodW.add {B : Int} {met : Int → Int → Bool} {w : W} (g : GoodW B met w) (hB : B < 9223372036854775807) {t : List Int} (ht : t.Pairwise (· < ·)) : GoodW (B + 1) (zjl met t) (addT 1 [] t w) := by
 have e : ∀ x y, addT 1 [] t w x y = if x ∈ t ∧ y ∈ t ∧ x < y then w x y + 1 else w x y := fun x y => by
  have h := ztk 1 t [] w x y (by simpa using ht)
  simp only [List.nil_append] at h
  have hb := g.bd x y
  rw [h, zub (by omega)]
 refine ⟨fun a b hab => ?_, fun a b => ?_, fun a b => ?_⟩
 ·rw [e, zjl]
  have hb := g.bd a b
  by_cases h : a ∈ t ∧ b ∈ t
  ·rw [if_pos ⟨h.1, h.2, by omega⟩, if_pos ⟨h.1, h.2, hab⟩]
   exact (decide_eq_true (by omega)).symm
  ·rw [if_neg (fun h' => h ⟨h'.1, h'.2.1⟩), if_neg (fun h' => h ⟨h'.1, h'.2.1⟩)]
   exact g.is a b hab
 ·rw [e]
  have hb := g.bd a b
  split <;> omega
 ·simp only [zjl, g.sym a b]
  by_cases h : a ∈ t ∧ b ∈ t ∧ a ≠ b
  ·rw [if_pos h, if_pos ⟨h.2.1, h.1, h.2.2.symm⟩]
  ·rw [if_neg h, if_neg (fun h' => h ⟨h'.2.1, h'.1, h'.2.2.symm⟩)]
theorem yli {B : Int} {met : Int → Int → Bool} {w : W} (g : GoodW B met w) (hB : B < 9223372036854775807) {t : List Int} (ht : t.Pairwise (· < ·)) : addT (-1) [] t (addT 1 [] t w) = w := by
 funext x y
 have h1 := ztk 1 t [] w x y (by simpa using ht)
 have h2 := ztk (-1) t [] (addT 1 [] t w) x y (by simpa using ht)
 simp only [List.nil_append] at h1 h2
 have hb := g.bd x y
 rw [h2, h1]
 split
 ·rw [zub (n := w x y + 1) (by omega), zub (by omega)]; omega
 ·rfl
theorem yfr {B : Int} {met : Int → Int → Bool} {w : W} (g : GoodW B met w) {t : List Int} {id : Int} (h : ∀ a ∈ t, a < id) : zby met t id = !t.any fun a => decide (0 < w a id) := by
 induction t with
 | nil => rfl
 | cons a r ih =>
  have h1 := g.is a id (h a (List.mem_cons_self ..))
  have h2 := ih fun b hb => h b (List.mem_cons_of_mem _ hb)
  simp only [zby, List.all_cons, List.any_cons, h1] at h2 ⊢
  rw [h2]; simp
theorem zzo (st : List Int → Int → Bool) : ∀ (n : Nat) (t ids : List Int), (t ++ ids).Pairwise (· < ·) → ∀ x ∈ zgo st n t ids, x.length = t.length + n ∧ x.Sublist (t ++ ids) ∧ x.Pairwise (· < ·)
 | 0, t, ids, h, x, hx => by
  simp only [zgo, List.mem_singleton] at hx; subst hx
  exact ⟨rfl, List.sublist_append_left .., (List.pairwise_append.1 h).1⟩
 | n + 1, t, ids, h, x, hx => by
  have key : ∀ l : List Int, l.Sublist ids → ∀ x ∈ zfr st (zgo st n) t l, x.length = t.length + (n + 1) ∧ x.Sublist (t ++ l) ∧ x.Pairwise (· < ·) := by
   intro l
   induction l with
   | nil => intro _ x hx; simp [zfr] at hx
   | cons id r ih =>
    intro hl x hx
    simp only [zfr, List.mem_append] at hx
    rcases hx with hx | hx
    ·split at hx
     ·have hp : ((t ++ [id]) ++ r).Pairwise (· < ·) := by
       have : (t ++ id :: r).Pairwise (· < ·) := h.sublist (List.Sublist.append (List.Sublist.refl t) hl)
       simpa using this
      obtain ⟨h1, h2, h3⟩ := zzo st n (t ++ [id]) r hp x hx
      exact ⟨by simp at h1; omega, by simpa using h2, h3⟩
     ·simp at hx
    ·obtain ⟨h1, h2, h3⟩ := ih ((List.sublist_cons_self ..).trans hl) x hx
     exact ⟨h1, h2.trans (List.Sublist.append (List.Sublist.refl t) (List.sublist_cons_self ..)), h3⟩
  exact key ids (List.Sublist.refl _) x hx
theorem zzr {st : List Int → Int → Bool} {f : List Int → List Int → List (List Int)} {t l : List Int} {i : Nat} (h : i < l.length) : zfr st f t (l.drop i) = (if st t l[i] = true then f (t ++ [l[i]]) (l.drop (i + 1)) else []) ++ zfr st f t (l.drop (i + 1)) := by
 rw [List.drop_eq_getElem_cons h, zfr]
end Go.XL
namespace Go.XL
open Go.Proofs
set_option maxRecDepth 100000
set_option maxHeartbeats 8000000
def pC (size budget steps : Int) (rs : List (List Int)) (bp R bm : Nat) : List V := [I size, I budget, I steps, rows rs, .v (.slice (some ⟨bp, 0, none⟩) R R), .v (.map (some bm))]
@[go_sem] theorem yio (size budget steps : Int) (rs : List (List Int)) (bp R bm : Nat) : pC size budget steps rs bp R bm = [I size, I budget, I steps, rows rs, .v (.slice (some ⟨bp, 0, none⟩) R R), .v (.map (some bm))] := rfl
abbrev TP : Nat := 103
theorem yX23 {p : Prop} (h : p := by (simp (disch := omega) only [go_sem, dopV, Option.map_some, Option.map_none, Option.bind_some, Option.bind_none, ↓reduceIte, Nat.reduceEqDiff, Nat.reduceLT, Nat.reduceLeDiff, Nat.reduceAdd, Nat.reduceMul, Nat.reduceSub, Nat.zero_add, Nat.add_zero, Nat.zero_le, Nat.zero_mul, Nat.mul_one, Nat.one_mul, Int.natCast_zero, Int.toNat_zero, Int.reduceToNat, Int.reduceLT, Int.reduceLE, Int.reduceEq, decide_true, decide_false, true_and, and_true, Bool.and_self, Bool.and_true, Bool.true_and, Bool.not_true, Bool.not_false, IntWalk.toNatUp, IntWalk.iteOmega, IntWalk.i64_in, Option.isSome_some, not_true_eq_false, not_false_eq_true, Option.getD_some, Option.getD_none, Int.toNat_natCast, List.length_map, List.getElem?_map, List.getElem?_eq_getElem, V.flat, V.one, List.all_cons, List.all_nil, *, yio, Value.oneCell']; exact rfl)) : p := h
theorem zxx (S : Sto) {bx bp R bm : Nat} {size budget steps : Int} {rs : List (List Int)} {w : W} (hx : zad S bx = some (.cells (pC size budget steps rs bp R bm) TP)) (hw : MapW S bm w) (a id : Int) (ha : In64 a) (hid : In64 id) :
  RC Tryz.prog 141 [I a, .plc [.v (.pointer (some ⟨bx, 0, none⟩))], .plc [I id]] S (Bo (decide (0 < w a id))) := by
 obtain ⟨f, es, clock, m1, m2, m3⟩ := hw.out
 have hkey := keyA ha hid
 have hval := m3 _ _ ha hid
 have J := Hid.mk hval
 clear hval m3 hw
 refine DC.of_run Tryz.func141 rfl Tryz.ntmps141 Tryz.results141 (by simp) (fun _ => ?_); simp only [zaq, zau, go_sem, Nat.zero_add, Nat.reduceAdd]
 repeat' (first | (with_reducible first | refine zac yU yU yX23 ?_ | refine zab ?_ | refine DS.seq ?_ | refine zaa ?_) | refine zbz (id := 1) [0, 1, 2, 3, 4, 5, 6] 7 (by kernel_rfl) zdq (by simp only [zba, zbd, zbe, zbf, zaz]; exact rfl) (by simp only [zaw, zax, List.drop_nil]; exact rfl) ?_ | (with_reducible first | refine zbv yU yU yU yX23 ?_ | refine zdb ?_) | fail)
 refine yfb (key := kA a id) kd90 yU yU m2 hkey yH yH (V.Is.two _ _) m1 yR ?_
 rw [J.out]
 simp only [zdr]
 clear m1 m2 J hkey
 repeat' (first | (with_reducible first | refine zac yU yU yE ?_ | refine zab ?_) | refine zch yE ⟨?_, rfl⟩ | fail)
 rfl
theorem ztu (S : Sto) (l : List Int) {g : FuncId} {fs cs : List V} {fn : Func} (p : Int → Bool) (hf : FnOk Tryz.prog g fn) (h : ∀ x ∈ l, RC Tryz.prog g (fs ++ [I x] ++ cs) S (Bo (p x))) :
  RC Tryz.prog 111 [ints l, .fn g fs cs] S (I (idxF p l 0)) := by
 refine DC.of_run Tryz.func111 rfl Tryz.ntmps111 Tryz.results111 (by simp) (fun _ => ?_); simp only [zaq, zau, go_sem, Nat.zero_add, Nat.reduceAdd]
 refine ziy (t := 0) yG (.inl rfl) (fun hb0 => ?_); simp only [List.length_map] at hb0
 repeat' (first | (with_reducible first | refine zac yU yU yE ?_ | refine zab ?_ | refine DS.seq ?_ | refine zaa ?_ | refine DS.block ?_) | fail)
 refine zcp [0, 1, 7] yN (fun (i : Nat) => [(8, I i)]) (fun (i : Nat) => i ≤ l.length ∧ idxF p l 0 = idxF p (l.drop i) i) (fun (i : Nat) => l.length - i) 0 yS ⟨Nat.zero_le _, rfl⟩ (fun i B hI hB => ?_); try dsimp only at hI hB; simp only [zas, zav]
 repeat' (first | (with_reducible first | refine zac yU yU yE ?_ | refine zab ?_ | refine DS.seq ?_ | refine zaa ?_ | (refine zbc yE ?_; refine zeo (fun _ => ?_) (fun _ => ?_)) | refine DS.block ?_ | refine DS.exit yU ?_ | refine DS.skip ?_) | refine zch yE ⟨?_, rfl⟩ | fail)
 ·refine yly hf (by simp (disch := omega) only [go_sem, dopV, Option.map_some, Option.map_none, Option.bind_some, Option.bind_none, ↓reduceIte, Nat.reduceEqDiff, Nat.reduceLT, Nat.reduceLeDiff, Nat.reduceAdd, Nat.reduceMul, Nat.reduceSub, Nat.zero_add, Nat.add_zero, Nat.zero_le, Nat.zero_mul, Nat.mul_one, Nat.one_mul, Int.natCast_zero, Int.toNat_zero, Int.reduceToNat, Int.reduceLT, Int.reduceLE, Int.reduceEq, decide_true, decide_false, true_and, and_true, Bool.and_self, Bool.and_true, Bool.true_and, Bool.not_true, Bool.not_false, IntWalk.toNatUp, IntWalk.iteOmega, IntWalk.i64_in, Option.isSome_some, not_true_eq_false, not_false_eq_true, Option.getD_some, Option.getD_none, Int.toNat_natCast, List.length_map, List.getElem?_map, List.getElem?_eq_getElem, V.flat, V.one, List.all_cons, List.all_nil]) (h l[i] (List.getElem_mem _)) yR yH ?_
  repeat' (first | (with_reducible first | refine zac yU yU yE ?_ | refine zab ?_ | refine DS.seq ?_ | refine zaa ?_ | (refine zbc yE ?_; refine yfg (fun _ => ?_) (fun _ => ?_)) | refine DS.blk ?_ | refine DS.skip ?_) | refine zch yE ⟨?_, rfl⟩ | fail)
  ·rename_i h1 h2
   rw [hI.2, zmc (p := p) (l := l) (i := i) (by omega) h2]; rfl
  ·rename_i h1 h2
   exact DS.back (hB (i + 1) _ _ (by omega) (⟨by omega, by rw [hI.2, zjw (by omega) h2]⟩) yS yS (fun b o e => by first | exact e | (simp only [zaf]; split <;> simp_all)))
 ·rw [hI.2, zmd (p := p) (l := l) (i := i) (by omega)]; rfl
theorem zqe (S : Sto) (l : List Int) {g : FuncId} {fs cs : List V} {fn : Func} (p : Int → Bool) (hf : FnOk Tryz.prog g fn) (h : ∀ x ∈ l, RC Tryz.prog g (fs ++ [I x] ++ cs) S (Bo (p x))) :
  RC Tryz.prog 89 [ints l, .fn g fs cs] S (Bo (l.any p)) := by
 refine DC.of_run Tryz.func89 rfl Tryz.ntmps89 Tryz.results89 (by simp) (fun _ => ?_); simp only [zaq, zau, go_sem, Nat.zero_add, Nat.reduceAdd]
 repeat' (first | (with_reducible first | refine zac yU yU yE ?_ | refine zab ?_ | refine DS.seq ?_ | refine zaa ?_) | refine zhv inferInstance (ztu S l p hf h) yR yT ?_ | refine zch yE ⟨?_, rfl⟩ | fail)
 rw [zfk, zoe]
theorem ybc (S : Sto) {bx bp R bm : Nat} {size budget steps : Int} {rs : List (List Int)} {w : W} (hx : zad S bx = some (.cells (pC size budget steps rs bp R bm) TP)) (hw : MapW S bm w) (t : List Int) (id : Int) (ha : ∀ a ∈ t, In64 a) (hid : In64 id) :
  RC Tryz.prog 132 [.v (.pointer (some ⟨bx, 0, none⟩)), ints t, I id] S (Bo (!t.any fun a => decide (0 < w a id))) := by
 have hcf := zqe S t (fun a => decide (0 < w a id)) inferInstance (g := 141) (fs := []) (cs := [.plc [.v (.pointer (some ⟨bx, 0, none⟩))], .plc [I id]]) (fun x hx' => zxx S hx hw x id (ha x hx') hid)
 clear hx hw
 refine DC.of_run Tryz.func132 rfl Tryz.ntmps132 Tryz.results132 (by simp) (fun _ => ?_); simp only [zaq, zau, go_sem, Nat.zero_add, Nat.reduceAdd]
 repeat' (first | (with_reducible first | refine zac yU yU yE ?_ | refine zab ?_ | refine DS.seq ?_ | refine zaa ?_) | refine zhv inferInstance (hcf) yR yT ?_ | (refine zcz (t := 3) yU yE yU ?_; simp only [zbp, zct, zbn, zce, zbm, zbj, zbx, zbl, zcv, zcr, zca, zcq, zcd, zcc]) | (refine zcz (t := 5) yU yE yU ?_; simp only [zbp, zct, zbn, zce, zbm, zbj, zbx, zbl, zcv, zcr, zca, zcq, zcd, zcc]) | refine zch yE ⟨?_, rfl⟩ | fail)
 rfl
theorem yX24 {p : Prop} (h : p := by (simp (disch := omega) only [go_sem, dopV, Option.map_some, Option.map_none, Option.bind_some, Option.bind_none, ↓reduceIte, Nat.reduceEqDiff, Nat.reduceLT, Nat.reduceLeDiff, Nat.reduceAdd, Nat.reduceMul, Nat.reduceSub, Nat.zero_add, Nat.add_zero, Nat.zero_le, Nat.zero_mul, Nat.mul_one, Nat.one_mul, Int.natCast_zero, Int.toNat_zero, Int.reduceToNat, Int.reduceLT, Int.reduceLE, Int.reduceEq, decide_true, decide_false, true_and, and_true, Bool.and_self, Bool.and_true, Bool.true_and, Bool.not_true, Bool.not_false, IntWalk.toNatUp, IntWalk.iteOmega, IntWalk.i64_in, Option.isSome_some, not_true_eq_false, not_false_eq_true, Option.getD_some, Option.getD_none, Int.toNat_natCast, List.length_map, List.getElem?_map, List.getElem?_eq_getElem, V.flat, V.one, List.all_cons, List.all_nil, *, Value.oneCell', yio]; exact rfl)) : p := h
theorem yhj (S : Sto) {bx bp R bm : Nat} {size budget steps : Int} {rs : List (List Int)} {w : W} (hx : zad S bx = some (.cells (pC size budget steps rs bp R bm) TP)) (hw : MapW S bm w) (hbx : bx ≠ bm) (t : List Int) (by' : Int) (ht : ∀ a ∈ t, In64 a) (hl : t.length ≤ 1000000) :
  DC Tryz.prog 114 [.v (.pointer (some ⟨bx, 0, none⟩)), ints t, I by'] S (fun _ S' => MapW S' bm (addT by' [] t w) ∧ ∀ b, b ≠ bm → zad S' b = zad S b) := by
 refine DC.of_run Tryz.func114 rfl Tryz.ntmps114 Tryz.results114 (by simp) (fun _ => ?_); simp only [zaq, zau, go_sem, Nat.zero_add, Nat.reduceAdd]
 repeat' (first | (with_reducible first | refine zac yU yU yE ?_ | refine zab ?_ | refine DS.seq ?_ | refine zaa ?_ | refine DS.block ?_) | fail)
 refine zco [0, 1, 2, 10, 11] yN (fun (z : Nat × Sto × W) => [(12, I z.1)]) (fun (z : Nat × Sto × W) => z.2.1) (fun (z : Nat × Sto × W) => z.1 ≤ t.length ∧ MapW z.2.1 bm z.2.2 ∧ (∀ b, b ≠ bm → zad z.2.1 b = zad S b) ∧ addT by' [] t w = addT by' (t.take z.1) (t.drop z.1) z.2.2) (fun (z : Nat × Sto × W) => t.length - z.1) (0, S, w) yS (fun b o e => by exact e) ⟨Nat.zero_le _, hw, fun _ _ => rfl, rfl⟩ (fun z B hI hB => ?_); try dsimp only at hI hB; simp only [zas, zav]
 obtain ⟨j, S2, w2⟩ := z
 dsimp only at hI hB
 obtain ⟨j1, j2, j4, j3⟩ := hI
 repeat' (first | (with_reducible first | refine zac yU yU yE ?_ | refine zab ?_ | refine DS.seq ?_ | refine zaa ?_ | (refine zbc yE ?_; refine zeo (fun _ => ?_) (fun _ => ?_)) | refine DS.block ?_ | refine DS.exit yU ?_ | refine DS.skip ?_) | fail)
 ·rename_i e3
  have hj : j < t.length := by omega
  have hB2 := hB
  clear hB
  have hle : j ≤ t.length := by omega
  obtain ⟨pre, hpre⟩ : ∃ pre, pre = t.take j := ⟨_, rfl⟩
  have hpl : pre.length = j := by rw [hpre, List.length_take]; omega
  have hpi : ∀ x ∈ pre, In64 x := fun x hx => ht x (List.mem_of_mem_take (hpre ▸ hx))
  have htk : List.take j (List.map cI t) = pre.map cI := by rw [hpre, List.map_take]
  rw [← hpre] at j3
  have J0 := Hid.mk (And.intro hpre j3)
  have J1 := Hid.mk hx
  clear hpre j3 hx
  repeat' (first | (with_reducible first | refine zac yU yU yX22 ?_ | refine zab ?_ | refine DS.block ?_) | fail)
  clear htk
  refine zco [0, 1, 2, 7, 10, 11, 12, 19, 20] yN (fun (u : Nat × Sto × W) => [(21, I u.1)]) (fun (u : Nat × Sto × W) => u.2.1) (fun (u : Nat × Sto × W) => u.1 ≤ j ∧ MapW u.2.1 bm u.2.2 ∧ (∀ b, b ≠ bm → zad u.2.1 b = zad S b) ∧ addR by' (t[j]'hj) pre w2 = addR by' (t[j]'hj) (pre.drop u.1) u.2.2) (fun (u : Nat × Sto × W) => j - u.1) (0, S2, w2) yS (fun b o e => by exact e) ⟨Nat.zero_le _, j2, j4, rfl⟩ (fun u B hI hB => ?_); try dsimp only at hI hB; simp only [zas, zav]
  obtain ⟨p, S3, w3⟩ := u
  dsimp only at hI hB
  obtain ⟨p1, p2, p4, p3⟩ := hI
  clear j2 j4
  repeat' (first | (with_reducible first | refine zac yU yU yE ?_ | refine zab ?_ | refine DS.seq ?_ | refine zaa ?_ | (refine zbc yE ?_; refine zeo (fun _ => ?_) (fun _ => ?_)) | refine DS.blk ?_ | refine DS.block ?_ | refine DS.exit yU ?_ | refine DS.skip ?_) | fail)
  ·rename_i e4
   have hp : p < pre.length := by omega
   obtain ⟨fm, es, clock, m1, m2, m3⟩ := p2.out
   have hdel : ∀ b' o, zad (delS bm S3) b' = some o → zad S3 b' = some o ∧ zad [(bm, Ob.raw (.map es clock))] b' = none := fun b' o e => by
    rw [zda] at e
    split at e
    ·cases e
    ·rename_i hne
     exact ⟨e, by simp only [zad]; rw [if_neg (fun h => hne h.symm)]⟩
   have hone : ∀ b' o, zad [(bm, Ob.raw (.map es clock))] b' = some o → zad S3 b' = some o := fun b' o e => by
    simp only [zad] at e
    split at e
    ·rename_i hbb; subst hbb; rw [m1]; exact e
    ·cases e
   have hMp : MpOk Tryz.prog [⟨bm, 90, .int .i64 0, fun x => (fm x).getD (.int .i64 0)⟩] ([(bm, Ob.raw (.map es clock))] ++ delS bm S3) := fun m hm => by
    rw [List.mem_singleton] at hm
    subst hm
    exact ⟨_, by simp [zad], es, clock, fm, rfl, m2, fun _ => rfl⟩
   have hxd : zad (delS bm S3) bx = some (.cells (pC size budget steps rs bp R bm) TP) := by rw [zda, if_neg hbx, p4 bx hbx]; exact J1.out
   refine yan (id := 6) (delS bm S3) ([(bm, Ob.raw (.map es clock))]) ([⟨bm, 90, .int .i64 0, fun x => (fm x).getD (.int .i64 0)⟩]) [0, 1, 2, 3, 4, 5, 6, 7, 8, 9, 10, 11] 12 (by kernel_rfl) zdq (by simp only [zba, zbd, zbe, zbf, zaz]; exact rfl) (by simp only [zaw, zax, List.drop_nil]; exact rfl) (hMp) (hdel) (hone) ?_
   repeat' (first | with_reducible refine zbv yU yU yU yX24 ?_ | fail)
   have hin1 := hpi _ (List.getElem_mem hp)
   have hin2 := ht _ (List.getElem_mem hj)
   have hkey := keyA hin1 hin2
   have hval := m3 _ _ hin1 hin2
   refine yff (me := ⟨bm, 90, .int .i64 0, fun x => (fm x).getD (.int .i64 0)⟩) (key := kA pre[p] (t[j]'hj)) (List.mem_singleton.2 rfl) kd90 yU yU yR yH yH (V.Is.two _ _) hkey ?_
   simp only [hval, zdr]
   repeat' (first | with_reducible refine zbv yU yU yU yE ?_ | fail)
   refine yar (key := kA pre[p] (t[j]'hj)) kd90 yU yU m2 hkey yH yH (V.Is.two _ _) (by simp only [zad, if_true]) yR (fun me hme _ => by rw [List.mem_singleton] at hme; subst hme; exact ⟨rfl, rfl⟩) (fun st es1 clock1 n1 n2 => ?_)
   simp only [zdr]
   repeat' (first | with_reducible refine zjh yU yU yU yU yE ?_ | (with_reducible refine DD.nil ?_; simp only [zas, zav]) | fail)
   have hs2 : zad (setS bm (Ob.raw (Obj.map es1 clock1)) [(bm, Ob.raw (Obj.map es clock))] ++ delS bm S3) bm = some (Ob.raw (Obj.map es1 clock1)) := by simp [setS, zad]
   refine DS.entryStore n2 yH (by (simp (disch := omega) only [go_sem, dopV, Option.map_some, Option.map_none, Option.bind_some, Option.bind_none, ↓reduceIte, Nat.reduceEqDiff, Nat.reduceLT, Nat.reduceLeDiff, Nat.reduceAdd, Nat.reduceMul, Nat.reduceSub, Nat.zero_add, Nat.add_zero, Nat.zero_le, Nat.zero_mul, Nat.mul_one, Nat.one_mul, Int.natCast_zero, Int.toNat_zero, Int.reduceToNat, Int.reduceLT, Int.reduceLE, Int.reduceEq, decide_true, decide_false, true_and, and_true, Bool.and_self, Bool.and_true, Bool.true_and, Bool.not_true, Bool.not_false, IntWalk.toNatUp, IntWalk.iteOmega, IntWalk.i64_in, Option.isSome_some, not_true_eq_false, not_false_eq_true, Option.getD_some, Option.getD_none, Int.toNat_natCast, List.length_map, List.getElem?_map, List.getElem?_eq_getElem, V.flat, V.one, List.all_cons, List.all_nil, goInt]; try exact rfl)) yH hs2 yR (fun es2 n3 => ?_)
   have hW : MapW (setS bm (Ob.raw (Obj.map es2 clock1)) (setS bm (Ob.raw (Obj.map es1 clock1)) [(bm, Ob.raw (Obj.map es clock))] ++ delS bm S3)) bm (addP by' w3 pre[p] (t[j]'hj)) := by
    refine ⟨_, es2, clock1, by rw [zbg hs2, if_pos rfl], n3, fun x y hx hy => ?_⟩
    by_cases hxy : x = pre[p] ∧ y = (t[j]'hj)
    ·rw [addP, if_pos hxy, hxy.1, hxy.2, zia]; rfl
    ·rw [addP, if_neg hxy, zkm _ _ (fun h => hxy (by simp only [kA, Value.agg.injEq] at h; simp at h; exact h)), m3 x y hx hy]
   have hF : ∀ b, b ≠ bm → zad (setS bm (Ob.raw (Obj.map es2 clock1)) (setS bm (Ob.raw (Obj.map es1 clock1)) [(bm, Ob.raw (Obj.map es clock))] ++ delS bm S3)) b = zad S b := fun b hb => by
    rw [zbg hs2, if_neg hb, ← p4 b hb, zbu]
    have h1 : zad (setS bm (Ob.raw (Obj.map es1 clock1)) [(bm, Ob.raw (Obj.map es clock))]) b = none := by
     rw [zbg (o0 := Ob.raw (Obj.map es clock)) (by simp [zad]), if_neg hb]; simp only [zad]; rw [if_neg (fun h => hb h.symm)]
    rw [h1]
    simp only []
    rw [zda, if_neg hb]
   generalize setS bm (Ob.raw (Obj.map es2 clock1)) (setS bm (Ob.raw (Obj.map es1 clock1)) [(bm, Ob.raw (Obj.map es clock))] ++ delS bm S3) = S5 at *
   clear hs2 n3 n2 n1 m1 m2 m3 hMp hdel hone hval hkey hxd
   simp only [zbt]
   repeat' (first | (with_reducible first | refine zac yU yU yE ?_ | refine zab ?_ | refine zaa ?_ | refine DS.blk ?_) | fail)
   refine DS.back (hB (p + 1, S5, addP by' w3 pre[p] (t[j]'hj)) _ _ (by dsimp only; omega) ⟨by dsimp only; omega, hW, hF, by rw [p3, List.drop_eq_getElem_cons hp, addR]⟩ yS yS (fun b o e => by exact e))
  ·rename_i e4
   have hp : p = j := by omega
   have J := J0.out
   subst hp
   rw [List.drop_eq_nil_of_le (by omega)] at p3
   skip
   refine DS.back (hB2 (p + 1, S3, w3) _ _ (by dsimp only; omega) ⟨by dsimp only; omega, p2, p4, by rw [J.2, List.drop_eq_getElem_cons hj, addT, p3, List.take_succ_eq_append_getElem hj, ← J.1]; rfl⟩ yS yS (fun b o e => by exact e))
 ·rename_i e3
  rw [List.drop_eq_nil_of_le (by omega)] at j3
  refine zpp yG ⟨?_, j4⟩
  rw [j3]
  exact j2
end Go.XL
namespace Go.XL
open Go.Proofs
set_option maxRecDepth 100000
set_option maxHeartbeats 8000000
theorem yog (t : List Int) (id : Int) : PC Tryz.prog 116 [I id, .plc [ints t]] (Bo (decide (id ∈ t))) := by
 refine DC.of_run Tryz.func116 rfl Tryz.ntmps116 Tryz.results116 (by simp) (fun _ => ?_); simp only [zaq, zau, go_sem, Nat.zero_add, Nat.reduceAdd]
 repeat' (first | (with_reducible first | refine zac yU yU yE ?_ | refine zab ?_ | refine DS.seq ?_ | refine zaa ?_) | refine zcb inferInstance (yca t id) yR yT ?_ | refine zbi [] yE trivial ?_ | fail)
 rfl
def capF (bx l bf : Nat) : List V := [.plc [.v (.pointer (some ⟨bx, 0, none⟩))], .plc [V.yl l], .v (.pointer (some ⟨bf, 0, none⟩))]
structure FEnv (S : Sto) (bx l bf : Nat) (size : Int) (met : Int → Int → Bool) : Prop where
 self : zad S bf = some (.cells [.fn 131 [] (capF bx l bf)] 37)
 srch : ∃ budget steps rs bp R bm w B, zad S bx = some (.cells (pC size budget steps rs bp R bm) TP) ∧ MapW S bm w ∧ GoodW B met w ∧ bx ≠ bm ∧ bf ≠ bx ∧ bf ≠ bm
theorem yX25 {p : Prop} (h : p := by (simp (disch := omega) only [go_sem, dopV, Option.map_some, Option.map_none, Option.bind_some, Option.bind_none, ↓reduceIte, Nat.reduceEqDiff, Nat.reduceLT, Nat.reduceLeDiff, Nat.reduceAdd, Nat.reduceMul, Nat.reduceSub, Nat.zero_add, Nat.add_zero, Nat.zero_le, Nat.zero_mul, Nat.mul_one, Nat.one_mul, Int.natCast_zero, Int.toNat_zero, Int.reduceToNat, Int.reduceLT, Int.reduceLE, Int.reduceEq, decide_true, decide_false, true_and, and_true, Bool.and_self, Bool.and_true, Bool.true_and, Bool.not_true, Bool.not_false, IntWalk.toNatUp, IntWalk.iteOmega, IntWalk.i64_in, Option.isSome_some, not_true_eq_false, not_false_eq_true, Option.getD_some, Option.getD_none, Int.toNat_natCast, List.length_map, List.getElem?_map, List.getElem?_eq_getElem, V.flat, V.one, List.all_cons, List.all_nil, *, yio]; exact rfl)) : p := h
theorem yX26 {p : Prop} (h : p := by (simp (disch := omega) only [go_sem, dopV, Option.map_some, Option.map_none, Option.bind_some, Option.bind_none, ↓reduceIte, Nat.reduceEqDiff, Nat.reduceLT, Nat.reduceLeDiff, Nat.reduceAdd, Nat.reduceMul, Nat.reduceSub, Nat.zero_add, Nat.add_zero, Nat.zero_le, Nat.zero_mul, Nat.mul_one, Nat.one_mul, Int.natCast_zero, Int.toNat_zero, Int.reduceToNat, Int.reduceLT, Int.reduceLE, Int.reduceEq, decide_true, decide_false, true_and, and_true, Bool.and_self, Bool.and_true, Bool.true_and, Bool.not_true, Bool.not_false, IntWalk.toNatUp, IntWalk.iteOmega, IntWalk.i64_in, Option.isSome_some, not_true_eq_false, not_false_eq_true, Option.getD_some, Option.getD_none, Int.toNat_natCast, List.length_map, List.getElem?_map, List.getElem?_eq_getElem, V.flat, V.one, List.all_cons, List.all_nil, *, zhs, List.forall_mem_map, implies_true, zgq, zdw]; exact rfl)) : p := h
theorem yX27 {p : Prop} (h : p := by (simp (disch := omega) only [go_sem, dopV, Option.map_some, Option.map_none, Option.bind_some, Option.bind_none, ↓reduceIte, Nat.reduceEqDiff, Nat.reduceLT, Nat.reduceLeDiff, Nat.reduceAdd, Nat.reduceMul, Nat.reduceSub, Nat.zero_add, Nat.add_zero, Nat.zero_le, Nat.zero_mul, Nat.mul_one, Nat.one_mul, Int.natCast_zero, Int.toNat_zero, Int.reduceToNat, Int.reduceLT, Int.reduceLE, Int.reduceEq, decide_true, decide_false, true_and, and_true, Bool.and_self, Bool.and_true, Bool.true_and, Bool.not_true, Bool.not_false, IntWalk.toNatUp, IntWalk.iteOmega, IntWalk.i64_in, Option.isSome_some, not_true_eq_false, not_false_eq_true, Option.getD_some, Option.getD_none, Int.toNat_natCast, List.length_map, List.getElem?_map, List.getElem?_eq_getElem, V.flat, V.one, List.all_cons, List.all_nil, *, zhs, List.forall_mem_map, implies_true, zgq, zdw]; try exact rfl)) : p := h
theorem yX28 {p : Prop} (h : p := by first | exact rfl | (simp (disch := omega) only [go_sem, dopV, Option.map_some, Option.map_none, Option.bind_some, Option.bind_none, ↓reduceIte, Nat.reduceEqDiff, Nat.reduceLT, Nat.reduceLeDiff, Nat.reduceAdd, Nat.reduceMul, Nat.reduceSub, Nat.zero_add, Nat.add_zero, Nat.zero_le, Nat.zero_mul, Nat.mul_one, Nat.one_mul, Int.natCast_zero, Int.toNat_zero, Int.reduceToNat, Int.reduceLT, Int.reduceLE, Int.reduceEq, decide_true, decide_false, true_and, and_true, Bool.and_self, Bool.and_true, Bool.true_and, Bool.not_true, Bool.not_false, IntWalk.toNatUp, IntWalk.iteOmega, IntWalk.i64_in, Option.isSome_some, not_true_eq_false, not_false_eq_true, Option.getD_some, Option.getD_none, Int.toNat_natCast, List.length_map, List.getElem?_map, List.getElem?_eq_getElem, V.flat, V.one, List.all_cons, List.all_nil, *, zhs, List.forall_mem_map, implies_true, zgq, zdw]; exact rfl)) : p := h
theorem yX29 {p : Prop} (h : p := by (simp (disch := omega) only [go_sem, dopV, Option.map_some, Option.map_none, Option.bind_some, Option.bind_none, ↓reduceIte, Nat.reduceEqDiff, Nat.reduceLT, Nat.reduceLeDiff, Nat.reduceAdd, Nat.reduceMul, Nat.reduceSub, Nat.zero_add, Nat.add_zero, Nat.zero_le, Nat.zero_mul, Nat.mul_one, Nat.one_mul, Int.natCast_zero, Int.toNat_zero, Int.reduceToNat, Int.reduceLT, Int.reduceLE, Int.reduceEq, decide_true, decide_false, true_and, and_true, Bool.and_self, Bool.and_true, Bool.true_and, Bool.not_true, Bool.not_false, IntWalk.toNatUp, IntWalk.iteOmega, IntWalk.i64_in, Option.isSome_some, not_true_eq_false, not_false_eq_true, Option.getD_some, Option.getD_none, Int.toNat_natCast, List.length_map, List.getElem?_map, List.getElem?_eq_getElem, V.flat, V.one, List.all_cons, List.all_nil, capF]; try exact rfl)) : p := h
theorem yX30 {p : Prop} (h : p := by (simp (disch := omega) only [go_sem, dopV, Option.map_some, Option.map_none, Option.bind_some, Option.bind_none, ↓reduceIte, Nat.reduceEqDiff, Nat.reduceLT, Nat.reduceLeDiff, Nat.reduceAdd, Nat.reduceMul, Nat.reduceSub, Nat.zero_add, Nat.add_zero, Nat.zero_le, Nat.zero_mul, Nat.mul_one, Nat.one_mul, Int.natCast_zero, Int.toNat_zero, Int.reduceToNat, Int.reduceLT, Int.reduceLE, Int.reduceEq, decide_true, decide_false, true_and, and_true, Bool.and_self, Bool.and_true, Bool.true_and, Bool.not_true, Bool.not_false, IntWalk.toNatUp, IntWalk.iteOmega, IntWalk.i64_in, Option.isSome_some, not_true_eq_false, not_false_eq_true, Option.getD_some, Option.getD_none, Int.toNat_natCast, List.length_map, List.getElem?_map, List.getElem?_eq_getElem, V.flat, V.one, List.all_cons, List.all_nil, capF, List.map_append]; try exact rfl)) : p := h
theorem yet {v1 : VH} {l bx bf : Nat} {size : Nat} {met : Int → Int → Bool} (Inv : List (List Int) → Sto → Prop) (Done : Sto → Prop) (hE : ∀ X S, Inv X S → FEnv S bx l bf size met)
  (hY : ∀ t X S, t.length = size → Inv (t :: X) S → YC v1 Tryz.prog l [ints t] S (fun u S' => (u = Bo true ∧ Inv X S') ∨ (u = Bo false ∧ Done S'))) :
  ∀ (n : Nat) (t ids : List Int) (X : List (List Int)) (S : Sto), n ≤ 100 → (t ++ ids).Pairwise (· < ·) → (∀ a ∈ t ++ ids, In64 a) → t.length + n = size → size ≤ 100 → ids.length ≤ 1000000 → Inv (zgo (zby met) n t ids ++ X) S →
  DCh v1 Tryz.prog 131 [ints t, ints ids, .plc [.v (.pointer (some ⟨bx, 0, none⟩))], .plc [V.yl l], .v (.pointer (some ⟨bf, 0, none⟩))] S (fun u S' => (u = Bo true ∧ Inv X S') ∨ (u = Bo false ∧ Done S'))
 | 0, t, ids, X, S, hn, hp, hin, hl, hs, hil, hI => by
  have hI' : Inv (t :: X) S := by simpa [zgo] using hI
  obtain ⟨f1, budget, steps, rs, bp, R, bm, w, B, f2, f3, f4, f5, f6, f7⟩ := hE _ _ hI'
  have hY' := hY t X S (by omega) hI'
  have hlen : (t.length : Int) = size := by omega
  clear hI hI' hY hE f1 f3 f4
  refine DCh.of_run Tryz.func131 rfl Tryz.ntmps131 Tryz.results131 (by simp) ?_; simp only [zaq, zau, go_sem, Nat.zero_add, Nat.reduceAdd]
  repeat' (first | (with_reducible first | refine zac yU yU yX25 ?_ | refine zab ?_ | refine DS.seq ?_ | refine zaa ?_ | (refine zbc yX25 ?_; refine zdh ?_)) | fail)
  refine ylw yH hY' yR yH (fun u S' hu => ?_)
  clear hY' f2
  rcases hu with ⟨rfl, hu⟩ | ⟨rfl, hu⟩
  ·repeat' (first | (with_reducible first | refine zac yU yU yE ?_ | refine zab ?_) | fail)
   refine zch yG (.inl ⟨rfl, hu⟩)
  ·repeat' (first | (with_reducible first | refine zac yU yU yE ?_ | refine zab ?_) | fail)
   refine zch yG (.inr ⟨rfl, hu⟩)
 | n + 1, t, ids, X, S, hn, hp, hin, hl, hs, hil, hI => by
  have ih := yet Inv Done hE hY n
  have hlen : ¬ (t.length : Int) = size := by omega
  have hI0 : Inv (zfr (zby met) (zgo (zby met) n) t ids ++ X) S := by simpa [zgo] using hI
  obtain ⟨f1, budget, steps, rs, bp, R, bm, w, B, f2, f3, f4, f5, f6, f7⟩ := hE _ _ hI0
  have htl : t.length ≤ 100 := by omega
  clear hI hY f1 f3 f4
  refine DCh.of_run Tryz.func131 rfl Tryz.ntmps131 Tryz.results131 (by simp) ?_; simp only [zaq, zau, go_sem, Nat.zero_add, Nat.reduceAdd]
  repeat' (first | (with_reducible first | refine zac yU yU yX25 ?_ | refine zab ?_ | refine DS.seq ?_ | refine zaa ?_ | (refine zbc yX25 ?_; refine zdk ?_) | refine DS.block ?_ | refine DS.skip ?_) | fail)
  clear f2 f5 f6 f7
  refine zco [0, 1, 2, 4, 20, 21] yN (fun (x : Nat × Sto) => [(22, I x.1)]) (fun (x : Nat × Sto) => x.2) (fun (x : Nat × Sto) => x.1 ≤ ids.length ∧ Inv (zfr (zby met) (zgo (zby met) n) t (ids.drop x.1) ++ X) x.2) (fun (x : Nat × Sto) => ids.length - x.1) (0, S) yS (fun b o e => by exact e) ⟨Nat.zero_le _, hI0⟩ (fun x B hI hB => ?_); try dsimp only at hI hB; simp only [zas, zav]
  clear hI0
  obtain ⟨i, S1⟩ := x
  dsimp only at hI hB
  obtain ⟨g1, g2⟩ := hI
  repeat' (first | (with_reducible first | refine zac yU yU yE ?_ | refine zab ?_ | refine DS.seq ?_ | refine zaa ?_ | (refine zbc yE ?_; refine zeo (fun _ => ?_) (fun _ => ?_)) | refine DS.block ?_ | refine DS.exit yU ?_ | refine DS.skip ?_) | fail)
  ·rename_i e1
   have hi : i < ids.length := by omega
   obtain ⟨f1, budget, steps, rs, bp, R, bm, w, B, f2, f3, f4, f5, f6, f7⟩ := hE _ _ g2
   obtain ⟨fm, es, clock, m1, m2, m3⟩ := f3.out
   obtain ⟨k0, k1, k2, k3⟩ := ysb f2 m1 f5
   have hself := (k3 bf f6 f7).trans f1
   have hpt : (t ++ [ids[i]]).Pairwise (· < ·) ∧ (t ++ [ids[i]] ++ ids.drop (i + 1)).Pairwise (· < ·) := by
    have h1 : (t ++ ids.drop i).Pairwise (· < ·) := hp.sublist (List.Sublist.append (List.Sublist.refl t) (List.drop_sublist i ids))
    rw [List.drop_eq_getElem_cons hi] at h1
    have h2 : t ++ ids[i] :: ids.drop (i + 1) = t ++ [ids[i]] ++ ids.drop (i + 1) := by simp
    rw [h2] at h1
    exact ⟨h1.sublist (List.sublist_append_left ..), h1⟩
   have hlt : ∀ a ∈ t, a < ids[i] := fun a ha => (List.pairwise_append.1 hpt.1).2.2 a ha _ (by simp)
   have hst := ybc [(bx, .cells (pC size budget steps rs bp R bm) TP), (bm, .raw (.map es clock))] (bx := bx) (bp := bp) (R := R) (bm := bm) (size := size) (budget := budget) (steps := steps) (rs := rs) (w := w) (by simp only [zad, if_true]) ⟨fm, es, clock, by simp [zad, f5], m2, m3⟩ t ids[i] (fun a ha => hin a (by simp [ha])) (hin _ (by simp))
   rw [← yfr f4 hlt] at hst
   have H := And.intro hpt (And.intro hlt (And.intro f1 (And.intro f2 (And.intro m1 (And.intro k2 g2)))))
   clear hpt hlt f1 f2 f3 f4 m1 m2 m3 k2 k3 f5 f6 f7 g2 hE
   skip
   refine zhw (id := 6) (delS bx (delS bm S1)) ([(bx, .cells (pC size budget steps rs bp R bm) TP), (bm, .raw (.map es clock))]) [0, 1, 2, 3, 4, 5, 6, 7, 8, 9, 10, 11, 12, 13, 14] 15 (by kernel_rfl) zdq (by simp only [zba, zbd, zbe, zbf, zaz]; exact rfl) (by simp only [zaw, zax, List.drop_nil]; exact rfl) (k0) (k1) ?_
   repeat' (first | with_reducible refine zbv yU yU yU yE ?_ | fail)
   refine yrm inferInstance hst yR yH ?_
   repeat' (first | (with_reducible first | refine zac yU yU yX26 ?_ | refine zab ?_ | refine zaa ?_ | (refine zbc yX26 ?_; refine zdk ?_) | (refine zdz yU yX26 ?_; first | refine GG.run ?_ | refine zfx ?_) | refine DS.blk ?_ | refine DS.skip ?_ | refine zbv yU yU yU yX26 ?_ | (refine zpq yU yX26 ?_; first | refine DGG.run ?_ | refine zmv ?_ | refine ytg (fun _ => ?_) (fun _ => ?_))) | (with_reducible refine DD.nil ?_; simp only [zas, zav]) | refine yaq inferInstance (yac t (by omega)) yU yX27 ?_; simp only [zci, zcs, Nat.reduceEqDiff, ↓reduceIte] | (refine zhz yU yX26 yX26 ?_; simp only [go_sem, Nat.zero_add, Nat.reduceAdd]; simp only [zci, zcs, Nat.reduceEqDiff, ↓reduceIte]) | (refine DD.append (mm := false) yU yX26 yX26 yU (by decide) yX26 (by first | exact .inl rfl | exact .inr ⟨rfl, rfl⟩) yX26 yX28 (by first | exact zat zdw _ | exact zat zet _ | exact zat Member.len _ | exact zat Sitting.len _ | exact zat Ruling.len _ | (simp only [List.mem_cons, List.not_mem_nil, or_false, forall_eq]; rfl) | simp) ⟨by (try simp only [List.length_map, List.length_cons, List.length_nil, List.length_append, List.length_take, List.length_drop]); omega, by decide⟩ ?_; simp only [zao, zag, zah, Nat.reduceEqDiff, ↓reduceIte, zal, zam, zar, zak, zai, zap, zan]; simp only [zci, zcs, Nat.reduceEqDiff, ↓reduceIte]) | fail)
   ·rename_i e2
    refine zfj (S' := S1) (fun b o e => H.2.2.2.2.2.1 b o e) ?_
    have hih := ih (t ++ [ids[i]]) (ids.drop (i + 1)) (zfr (zby met) (zgo (zby met) n) t (ids.drop (i + 1)) ++ X) S1 (by omega) H.1.2 (fun a ha => hin a (by
     simp only [List.append_assoc, List.mem_append, List.mem_singleton] at ha ⊢
     rcases ha with h | h | h
     ·exact .inl h
     ·exact .inr (h ▸ List.getElem_mem _)
     ·exact .inr (List.mem_of_mem_drop h))) (by simp; omega) hs (by simp; omega) (by
     have h1 := H.2.2.2.2.2.2
     rw [zzr hi, if_pos e2, List.append_assoc] at h1
     exact h1)
    clear ih
    have ea : ints (t ++ [ids[i]]) = .lst (List.map cI t ++ [[.v (.int .i64 ids[i])]]) := by simp [cI]
    rw [ea] at hih
    refine zvn inferInstance yX29 hih yR yX30 (fun u S' hu => ?_)
    clear hih
    rcases hu with ⟨rfl, hu⟩ | ⟨rfl, hu⟩
    ·repeat' (first | (with_reducible first | refine zac yU yU yE ?_ | refine zab ?_ | refine zaa ?_ | (refine zbc yE ?_; refine zdk ?_) | (refine zdz yU yE ?_; refine GG.run ?_) | refine DS.blk ?_ | refine DS.skip ?_) | fail)
     refine DS.back (hB (i + 1, S') _ _ (by dsimp only; omega) ⟨by dsimp only; omega, hu⟩ yS yS (fun b o e => by exact e))
    ·repeat' (first | (with_reducible first | refine zac yU yU yE ?_ | refine zab ?_ | refine DS.seq ?_ | refine zaa ?_ | (refine zbc yE ?_; refine zdh ?_) | (refine zdz yU yE ?_; refine GG.run ?_)) | fail)
     refine zch yG (.inr ⟨rfl, hu⟩)
   ·rename_i e2
    refine zfj (S' := S1) (fun b o e => H.2.2.2.2.2.1 b o e) ?_
    have h1 := H.2.2.2.2.2.2
    rw [zzr hi, if_neg (by rw [e2]; decide), List.nil_append] at h1
    refine DS.back (hB (i + 1, S1) _ _ (by dsimp only; omega) ⟨by dsimp only; omega, h1⟩ yS yS (fun b o e => by exact e))
  ·rename_i e1
   rw [List.drop_eq_nil_of_le (by omega)] at g2
   refine zch yG (.inl ⟨rfl, by simpa [zfr] using g2⟩)
theorem ygt (bx : Nat) (t ids : List Int) : PC Tryz.prog 113 [.v (.pointer (some ⟨bx, 0, none⟩)), ints t, ints ids] (.fn 130 [] [.plc [.v (.pointer (some ⟨bx, 0, none⟩))], .plc [ints t], .plc [ints ids]]) := by
 refine DC.of_run Tryz.func113 rfl Tryz.ntmps113 Tryz.results113 (by simp) (fun _ => ?_); simp only [zaq, zau, go_sem, Nat.zero_add, Nat.reduceAdd]
 repeat' (first | (with_reducible first | refine zac yU yU yE ?_ | refine zab ?_ | refine DS.seq ?_ | refine zaa ?_) | (refine zcz (t := 3) yU yE yU ?_; simp only [zbp, zct, zbn, zce, zbm, zbj, zbx, zbl, zcv, zcr, zca, zcq, zcd, zcc]) | (refine zcz (t := 4) yU yE yU ?_; simp only [zbp, zct, zbn, zce, zbm, zbj, zbx, zbl, zcv, zcr, zca, zcq, zcd, zcc]) | (refine zcz (t := 5) yU yE yU ?_; simp only [zbp, zct, zbn, zce, zbm, zbj, zbx, zbl, zcv, zcr, zca, zcq, zcd, zcc]) | refine zbi [] yE trivial ?_ | fail)
 rfl
def zja (S : Sto) (bx l bf : Nat) : Prop := zad S bf = some (.cells [.fn 131 [] (capF bx l bf)] 37)
def yuk (S : Sto) (bx : Nat) (size : Int) (met : Int → Int → Bool) : Prop := ∃ budget steps rs bp R bm w B, zad S bx = some (.cells (pC size budget steps rs bp R bm) TP) ∧ MapW S bm w ∧ GoodW B met w ∧ bx ≠ bm
theorem ybu {v1 : VH} {l bx : Nat} {size : Nat} {met : Int → Int → Bool} (Inv : List (List Int) → Sto → Prop) (Done : Sto → Prop) (S : Sto) (n : Nat) (t ids : List Int) (hn : n ≤ 100) (hp : (t ++ ids).Pairwise (· < ·)) (hin : ∀ a ∈ t ++ ids, In64 a) (hl : t.length + n = size) (hs : size ≤ 100) (hil : ids.length ≤ 1000000)
  (hE : ∀ X S, Inv X S → yuk S bx size met)
  (hY : ∀ bf t X S, t.length = size → Inv (t :: X) S → zja S bx l bf → YC v1 Tryz.prog l [ints t] S (fun u S' => ((u = Bo true ∧ Inv X S') ∨ (u = Bo false ∧ Done S')) ∧ zja S' bx l bf))
  (hI : ∀ S', (∀ b o, zad S b = some o → zad S' b = some o) → Inv (zgo (zby met) n t ids) S') :
  DCh v1 Tryz.prog 130 [V.yl l, .plc [.v (.pointer (some ⟨bx, 0, none⟩))], .plc [ints t], .plc [ints ids]] S (fun _ S' => Inv [] S' ∨ Done S') := by
 refine DCh.of_run Tryz.func130 rfl Tryz.ntmps130 Tryz.results130 (by simp) ?_; simp only [zaq, zau, go_sem, Nat.zero_add, Nat.reduceAdd]
 repeat' (first | (with_reducible first | refine zab ?_ | refine DS.seq ?_ | refine zaa ?_) | (refine zcz (t := 4) yU yE yU ?_; simp only [zbp, zct, zbn, zce, zbm, zbj, zbx, zbl, zcv, zcr, zca, zcq, zcd, zcc]) | fail)
 refine zex yR yU yU (fun bf hbf => ?_)
 have hz : (List.map V.v (Value.nilFunc).cells.toList) = [.v .nilFunc] := rfl
 rw [hz]
 clear hz
 repeat' (first | (with_reducible first | refine zac yU yU yE ?_ | refine zab ?_ | refine DS.seq ?_ | refine zaa ?_) | (refine DS.store yR yE yE yE yE yU (by exact ⟨by with_unfolding_all rfl, by (try simp only [List.length_map, List.length_append, List.length_set, List.length_replicate, List.length_cons, List.length_nil]); omega⟩) ?_; simp only [zbt, zbb, zbh, zcm, zbq, zbo, zbr]; try simp only [zao, zag, zah, Nat.reduceEqDiff, ↓reduceIte, zal, zam, zar, zak, zai, zap, zan]) | fail)
 refine zfj (S' := (bf, .cells [.fn 131 [] (capF bx l bf)] 37) :: S) (fun b o e => by simp only [setS, if_true, yhy, zbb, zbh, zcl]; exact e) ?_
 have hS2 : zja ((bf, .cells [.fn 131 [] (capF bx l bf)] 37) :: S) bx l bf := by simp [zja, zad]
 have hI2 := hI ((bf, .cells [.fn 131 [] (capF bx l bf)] 37) :: S) (fun b o e => by
  simp only [zad]
  rw [if_neg (fun h => by subst h; rw [hbf] at e; cases e)]; exact e)
 generalize ((bf, Ob.cells [.fn 131 [] (capF bx l bf)] 37) :: S) = S2 at *
 have hd := yet (v1 := v1) (l := l) (bx := bx) (bf := bf) (size := size) (met := met) (fun X S => Inv X S ∧ zja S bx l bf) (fun S => Done S ∧ zja S bx l bf)
  (fun X S h => by
   obtain ⟨budget, steps, rs, bp, R, bm, w, B, f2, f3, f4, f5⟩ := hE X S h.1
   have hs := h.2
   refine ⟨h.2, budget, steps, rs, bp, R, bm, w, B, f2, f3, f4, f5, fun e => ?_, fun e => ?_⟩
   ·subst e
    simp only [zja] at hs
    rw [hs] at f2
    simp [pC] at f2
   ·subst e
    obtain ⟨_, _, _, m1, _⟩ := f3.out
    simp only [zja] at hs
    rw [hs] at m1
    simp at m1)
  (fun t X S h1 h2 K hv hold h xs a1 a2 a3 w a4 => by
   obtain ⟨f, tm, x, y, b1, b2⟩ := hY bf t X S h1 h2.1 h2.2 K hv hold h xs a1 a2 a3 w a4
   refine ⟨f, tm, x, y, b1, b2.mono fun e w' ⟨u, c1, c2, v, S', hv', hold', c3, c4, c5, c6⟩ => ⟨u, c1, c2, v, S', hv', hold', c3, c4, ?_⟩⟩
   rcases c5 with ⟨rfl, c5⟩ | ⟨rfl, c5⟩
   ·exact .inl ⟨rfl, c5, c6⟩
   ·exact .inr ⟨rfl, c5, c6⟩)
  n t ids [] S2 hn hp hin hl hs hil ⟨by simpa using hI2, hS2⟩
 clear hE hY hI hI2 hbf
 refine zvn inferInstance yX29 hd yR yX29 (fun u S' hu => ?_)
 repeat' (first | with_reducible refine zab ?_ | fail)
 refine zpp yG ?_
 rcases hu with ⟨rfl, hu⟩ | ⟨rfl, hu⟩
 ·exact .inl hu.1
 ·exact .inr hu.1
end Go.XL
namespace Go.XL
open Go.Proofs
set_option maxRecDepth 100000
set_option maxHeartbeats 8000000
structure SearchP (S : Sto) (bx bp bm : Nat) (size : Int) (rs : List (List Int)) (budget steps : Int) (w : W) (ps : List PRow) : Prop where
 obj : zad S bx = some (.cells (pC size budget steps rs bp ps.length bm) TP)
 map : MapW S bm w
 pln : zad S bp = some (.cells (ps.map PRow.cell) 49)
 row : ∀ (i : Nat) (h : i < ps.length), ps[i].Ok S
 xp : bx ≠ bp
 rx : ∀ (i : Nat) (h : i < ps.length) (b cap : Nat) (j : List V), ps[i].blk = some (b, cap, j) → b ≠ bx ∧ b ≠ bp
 rr : ∀ (i k : Nat) (hi : i < ps.length) (hk : k < ps.length) (b cap cap' : Nat) (j j' : List V), ps[i].blk = some (b, cap, j) → ps[k].blk = some (b, cap', j') → i = k
section
variable {S S' : Sto} {bx bp bm : Nat} {size budget steps : Int} {rs : List (List Int)} {w : W} {ps : List PRow}
theorem MapW.ne_cells {S : Sto} {b bm : Nat} {w : W} (m : MapW S bm w) {l : List V} {T : TypeId} (h : zad S b = some (.cells l T)) : b ≠ bm := fun e => by
 subst e
 obtain ⟨_, _, _, m1, _⟩ := m.out
 rw [h] at m1; simp at m1
theorem MapW.of {S S' : Sto} {bm : Nat} {w : W} (m : MapW S bm w) (e : zad S' bm = zad S bm) : MapW S' bm w := by
 obtain ⟨f, es, clock, m1, m2, m3⟩ := m.out
 exact ⟨f, es, clock, by rw [e]; exact m1, m2, m3⟩
theorem SearchP.xm (s : SearchP S bx bp bm size rs budget steps w ps) : bx ≠ bm := s.map.ne_cells s.obj
theorem SearchP.pm (s : SearchP S bx bp bm size rs budget steps w ps) : bp ≠ bm := s.map.ne_cells s.pln
theorem SearchP.rm (s : SearchP S bx bp bm size rs budget steps w ps) {i : Nat} (h : i < ps.length) {b cap : Nat} {j : List V} (hb : ps[i].blk = some (b, cap, j)) : b ≠ bm := by
 have h3 := s.row i h
 generalize ps[i] = p at hb h3
 obtain ⟨T', blk⟩ := p
 dsimp only at hb
 subst hb
 exact s.map.ne_cells h3.1
theorem SearchP.of (s : SearchP S bx bp bm size rs budget steps w ps) (e : ∀ b, b = bx ∨ b = bp ∨ b = bm ∨ (∃ (i : Nat) (h : i < ps.length) (cap : Nat) (j : List V), ps[i].blk = some (b, cap, j)) → zad S' b = zad S b) : SearchP S' bx bp bm size rs budget steps w ps :=
 ⟨by rw [e _ (.inl rfl)]; exact s.obj, s.map.of (e _ (.inr (.inr (.inl rfl)))), by rw [e _ (.inr (.inl rfl))]; exact s.pln, fun i h => (s.row i h).of fun b cap j hb => e b (.inr (.inr (.inr ⟨i, h, cap, j, hb⟩))), s.xp, s.rx, s.rr⟩
theorem SearchP.steps' (s : SearchP S bx bp bm size rs budget steps w ps) (n : Int) : SearchP (setS bx (.cells (pC size budget n rs bp ps.length bm) TP) S) bx bp bm size rs budget n w ps := by
 have e : ∀ b, b ≠ bx → zad (setS bx (.cells (pC size budget n rs bp ps.length bm) TP) S) b = zad S b := fun b hb => by rw [zbg s.obj, if_neg hb]
 refine ⟨by rw [zbg s.obj, if_pos rfl], s.map.of (e _ s.xm.symm), by rw [e _ s.xp.symm]; exact s.pln, fun i h => (s.row i h).of fun b cap j hb => e b (s.rx i h b cap j hb).1, s.xp, s.rx, s.rr⟩
theorem SearchP.counted {w' : W} (s : SearchP S bx bp bm size rs budget steps w ps) (m : MapW S' bm w') (e : ∀ b, b ≠ bm → zad S' b = zad S b) : SearchP S' bx bp bm size rs budget steps w' ps :=
 ⟨by rw [e _ s.xm]; exact s.obj, m, by rw [e _ s.pm]; exact s.pln, fun i h => (s.row i h).of fun b cap j hb => e b (s.rm h hb), s.xp, s.rx, s.rr⟩
theorem SearchP.turn (s : SearchP S bx bp bm size rs budget steps w ps) {r : Nat} (hr : r < ps.length) {T : List (List Int)} {b' cap' : Nat} {junk : List V}
  (hb : (∃ cap j, ps[r].blk = some (b', cap, j)) ∨ zad S b' = none) (hok : PRow.Ok S' ⟨T, some (b', cap', junk)⟩) (hp : zad S' bp = some (.cells ((ps.map PRow.cell).set r (.v (.slice (some ⟨b', 0, none⟩) T.length cap'))) 49))
  (e : ∀ b, b ≠ bp → b ≠ b' → (∀ cap j, ps[r].blk ≠ some (b, cap, j)) → zad S' b = zad S b) :
  SearchP S' bx bp bm size rs budget steps w (ps.set r ⟨T, some (b', cap', junk)⟩) := by
 have n1 : b' ≠ bx ∧ b' ≠ bp := by
  rcases hb with ⟨cap, j, h⟩ | h
  ·exact s.rx r hr b' cap j h
  ·refine ⟨?_, ?_⟩
   ·intro h'; rw [h', s.obj] at h; cases h
   ·intro h'; rw [h', s.pln] at h; cases h
 have nm : b' ≠ bm := by
  rcases hb with ⟨cap, j, h⟩ | h
  ·exact s.rm hr h
  ·intro h'
   obtain ⟨_, _, _, m1, _⟩ := s.map.out
   rw [h', m1] at h; cases h
 have nb : ∀ (i : Nat) (h : i < ps.length) (cap : Nat) (j : List V), ps[i].blk = some (b', cap, j) → i = r := fun i h cap j hi => by
  rcases hb with ⟨cap2, j2, h2⟩ | h2
  ·exact s.rr i r h hr b' cap cap2 j j2 hi h2
  ·have h3 := s.row i h
   generalize ps[i] = p at hi h3
   obtain ⟨T', blk⟩ := p
   dsimp only at hi
   subst hi
   rw [h3.1] at h2; cases h2
 have eb : ∀ (i : Nat) (h : i < ps.length) (b cap : Nat) (j : List V), i ≠ r → ps[i].blk = some (b, cap, j) → zad S' b = zad S b := fun i h b cap j hir hi => by
  refine e b (s.rx i h b cap j hi).2 (fun hbb => ?_) fun cap2 j2 h2 => hir (s.rr i r h hr b cap cap2 j j2 hi h2)
  subst hbb; exact hir (nb i h cap j hi)
 have gs : ∀ (i : Nat) (h : i < (ps.set r ⟨T, some (b', cap', junk)⟩).length), (ps.set r ⟨T, some (b', cap', junk)⟩)[i] = if r = i then ⟨T, some (b', cap', junk)⟩ else ps[i]'(by simpa using h) := fun i h => by rw [List.getElem_set]
 refine ⟨?_, s.map.of ?_, ?_, fun i h => ?_, s.xp, fun i h b cap j hi => ?_, fun i k hi hk b cap cap2 j j2 h1 h2 => ?_⟩
 ·rw [e bx s.xp n1.1.symm fun cap j h4 => (s.rx r hr bx cap j h4).1 rfl, s.obj, List.length_set]
 ·exact e bm s.pm.symm nm.symm fun cap j h4 => (s.rm hr h4) rfl
 ·rw [hp, List.map_set]; rfl
 ·rw [gs]
  have h' : i < ps.length := by simpa using h
  by_cases hir : r = i
  ·rw [if_pos hir]; exact hok
  ·rw [if_neg hir]; exact (s.row i h').of fun b cap j hi => eb i h' b cap j (Ne.symm hir) hi
 ·rw [gs] at hi
  have h' : i < ps.length := by simpa using h
  by_cases hir : r = i
  ·rw [if_pos hir] at hi; cases hi; exact n1
  ·rw [if_neg hir] at hi; exact s.rx i h' b cap j hi
 ·rw [gs] at h1 h2
  have hi' : i < ps.length := by simpa using hi
  have hk' : k < ps.length := by simpa using hk
  by_cases hir : r = i
  ·rw [if_pos hir] at h1
   by_cases hkr : r = k
   ·omega
   ·rw [if_neg hkr] at h2
    simp only [Option.some.injEq, Prod.mk.injEq] at h1
    obtain ⟨rfl, _⟩ := h1
    exact hir ▸ (nb k hk' cap2 j2 h2).symm
  ·rw [if_neg hir] at h1
   by_cases hkr : r = k
   ·rw [if_pos hkr] at h2
    simp only [Option.some.injEq, Prod.mk.injEq] at h2
    obtain ⟨rfl, _⟩ := h2
    exact hkr ▸ nb i hi' cap j h1
   ·rw [if_neg hkr] at h2
    exact s.rr i k hi' hk' b cap cap2 j j2 h1 h2
theorem SearchP.appended {S0 Sr S4 : Sto} (s : SearchP S bx bp bm size rs budget steps w ps) {r : Nat} (hr : r < ps.length) {p : PRow} (hp : p = ps[r])
  (k3 : ∀ b, (∀ cap j, p.blk ≠ some (b, cap, j)) → zad S0 b = zad S b ∧ zad Sr b = none) (hdis : ∀ b o, zad S0 b = some o → zad S4 b = none) {T : List (List Int)} {b' cap' : Nat} {junk : List V} (m1 : PRow.Ok S4 ⟨T, some (b', cap', junk)⟩)
  (m2 : (∃ cap j, p.blk = some (b', cap, j)) ∨ zad Sr b' = none) (m3 : ∀ b, b ≠ b' → (∀ cap j, p.blk ≠ some (b, cap, j)) → zad S4 b = zad Sr b) :
  zad (S4 ++ S0) bp = some (.cells (ps.map PRow.cell) 49) ∧
  SearchP (setS bp (.cells ((ps.map PRow.cell).set r (.v (.slice (some ⟨b', 0, none⟩) T.length cap'))) 49) (S4 ++ S0)) bx bp bm size rs budget steps w (ps.set r ⟨T, some (b', cap', junk)⟩) ∧
  ∀ b o, b ≠ bp → (∀ cap j, p.blk ≠ some (b, cap, j)) → zad S b = some o → zad (setS bp (.cells ((ps.map PRow.cell).set r (.v (.slice (some ⟨b', 0, none⟩) T.length cap'))) 49) (S4 ++ S0)) b = some o := by
 subst hp
 have hbp := k3 bp fun cap j h => (s.rx r hr bp cap j h).2 rfl
 have h0 : zad S0 bp = some (.cells (ps.map PRow.cell) 49) := hbp.1.trans s.pln
 have h1 : zad (S4 ++ S0) bp = some (.cells (ps.map PRow.cell) 49) := by rw [zbu, hdis bp _ h0]; exact h0
 have h2 : ∃ cap j, zad S4 b' = some (.cells ((T.map fun t => ints t) ++ j) cap) := ⟨_, _, m1.1⟩
 have h3 : b' ≠ bp := fun h => by
  obtain ⟨_, _, h2⟩ := h2
  rw [h, hdis bp _ h0] at h2; cases h2
 refine ⟨h1, s.turn hr ?_ (m1.of fun b cap j h => ?_) ?_ fun b e1 e2 e3 => ?_, fun b o e1 e2 e3 => ?_⟩
 ·by_cases hold : ∃ cap j, ps[r].blk = some (b', cap, j)
  ·exact .inl hold
  ·right
   have hk := k3 b' fun cap j h => hold ⟨cap, j, h⟩
   rw [← hk.1]
   cases hh : zad S0 b' with
   | none => rfl
   | some o =>
    obtain ⟨_, _, h2⟩ := h2
    rw [hdis b' o hh] at h2; cases h2
 ·simp only [Option.some.injEq, Prod.mk.injEq] at h
  obtain ⟨rfl, _⟩ := h
  rw [zbg h1, if_neg h3, zbu, m1.1]
 ·rw [zbg h1, if_pos rfl]
 ·rw [zbg h1, if_neg e1, zbu, m3 b e2 e3, (k3 b e3).2]
  exact (k3 b e3).1
 ·have h4 := (k3 b e2).1.trans e3
  rw [zbg h1, if_neg e1, zbu, hdis b o h4]
  exact h4
end
def zod (p : Nat → Bool) : Sto → Sto
 | [] => []
 | (d, x) :: r => if p d = true then (d, x) :: zod p r else zod p r
theorem zhd (p : Nat → Bool) (b : Nat) : ∀ S : Sto, zad (zod p S) b = if p b = true then zad S b else none
 | [] => by simp [zod, zad]
 | (d, x) :: r => by
  simp only [zod, zad]
  have ih := zhd p b r
  by_cases hd : p d = true
  ·rw [if_pos hd]
   simp only [zad]
   by_cases hb : d = b
   ·subst hb; rw [if_pos rfl, if_pos rfl, if_pos hd]
   ·rw [if_neg hb, if_neg hb, ih]
  ·rw [if_neg hd, ih]
   by_cases hb : d = b
   ·subst hb; rw [if_neg hd, if_neg hd]
   ·rw [if_neg hb]
def inP (bx bp bm : Nat) (ps : List PRow) (b : Nat) : Bool := decide (b = bx) || decide (b = bp) || decide (b = bm) || ps.any fun p => match p.blk with
 | some (c, _, _) => decide (b = c)
 | none => false
theorem yjp {bx bp bm : Nat} {ps : List PRow} {i : Nat} (h : i < ps.length) {b cap : Nat} {j : List V} (hb : ps[i].blk = some (b, cap, j)) : inP bx bp bm ps b = true := by
 have : (ps.any fun p => match p.blk with
  | some (c, _, _) => decide (b = c)
  | none => false) = true := List.any_eq_true.2 ⟨ps[i], List.getElem_mem h, by rw [hb]; simp⟩
 simp [inP, this]
theorem znb {bx bp bm : Nat} {ps : List PRow} {b : Nat} (h : inP bx bp bm ps b = false) : b ≠ bx ∧ b ≠ bp ∧ b ≠ bm ∧ ∀ (i : Nat) (hi : i < ps.length) (cap : Nat) (j : List V), ps[i].blk ≠ some (b, cap, j) := by
 refine ⟨fun e => ?_, fun e => ?_, fun e => ?_, fun i hi cap j e => ?_⟩
 ·subst e; simp [inP] at h
 ·subst e; simp [inP] at h
 ·subst e; simp [inP] at h
 ·rw [yjp hi e] at h; cases h
end Go.XL
namespace Go.XL
open Go.Proofs
set_option maxRecDepth 100000
set_option maxHeartbeats 8000000
@[go_sem] theorem selO_none (t : Nat) (r : VEnv) : selO t r none = r := rfl
theorem zpo {P : Program} {n : Nat} {r : Rr} {rs : List ResultVar} {R : V → Sto → Prop} {k : List Fr} {E : VEnv} {S : Sto} (T : Sto) {vs : List V} (h1 : resV P E S rs = some vs) (h2 : ∀ b o, zad T b = some o → zad S b = some o) (h3 : R (tupV vs) T) (hk : popR k = none := by rfl) : DS P n r (FinV P rs R) (.code .ret :: k) E S :=
 DS.ret hk ⟨vs, T, h1, h2, h3⟩
def zmj (bx bp bm : Nat) (size : Int) (rs : List (List Int)) (budget : Int) (w : W) (ps : List PRow) (res : Int × Int × List (Nat × List Int)) (u : V) (S' : Sto) : Prop :=
 u = I res.1 ∧ ∃ w' ps', SearchP S' bx bp bm size rs budget res.2.1 w' ps' ∧ ps'.length = ps.length ∧ (res.1 = 2 → w' = w ∧ ∀ (i : Nat) (h : i < ps.length) (h' : i < ps'.length), ps'[i].rows = ps[i].rows) ∧
  (res.1 = 1 → ∀ (i : Nat) (h : i < ps.length) (h' : i < ps'.length), ps'[i].rows = ps[i].rows ++ (res.2.2.filter fun q => decide (q.1 = i)).map Prod.snd)
structure AscI (l : List Int) : Prop where
 asc : l.Pairwise (· < ·)
 in64 : ∀ a ∈ l, In64 a
 len : l.length ≤ 40
section
variable {S S' : Sto} {bx bp bm : Nat} {size budget steps : Int} {rs : List (List Int)} {w : W} {ps : List PRow}
theorem SearchP.loopless (s : SearchP S bx bp bm size rs budget steps w ps) {l : Nat} {rc : Loop} (hl : zad S l = some (.raw (.loop rc))) : ∀ b, b = bx ∨ b = bp ∨ b = bm ∨ (∃ (i : Nat) (h : i < ps.length) (cap : Nat) (j : List V), ps[i].blk = some (b, cap, j)) → b ≠ l := by
 rintro b h rfl
 rcases h with h | h | h | ⟨i, h, cap, j, hb⟩
 ·subst h; rw [s.obj] at hl; cases hl
 ·subst h; rw [s.pln] at hl; cases hl
 ·subst h
  obtain ⟨_, _, _, m1, _⟩ := s.map.out
  rw [m1] at hl; cases hl
 ·have h3 := s.row i h
  generalize ps[i] = p at hb h3
  obtain ⟨T', blk⟩ := p
  dsimp only at hb
  subst hb
  rw [h3.1] at hl; cases hl
theorem SearchP.setL (s : SearchP S bx bp bm size rs budget steps w ps) {l : Nat} {rc : Loop} (hl : zad S l = some (.raw (.loop rc))) (o : Ob) : SearchP (setS l o S) bx bp bm size rs budget steps w ps :=
 s.of fun b hb => by rw [zbg hl, if_neg (s.loopless hl b hb)]
theorem SearchP.delL (s : SearchP S bx bp bm size rs budget steps w ps) {l : Nat} {rc : Loop} (hl : zad S l = some (.raw (.loop rc))) : SearchP (delS l S) bx bp bm size rs budget steps w ps :=
 s.of fun b hb => by rw [zda, if_neg (s.loopless hl b hb)]
theorem SearchP.intless (s : SearchP S bx bp bm size rs budget steps w ps) {b6 : Nat} {l : List V} (hl : zad S b6 = some (.cells l 3)) : ∀ b, b = bx ∨ b = bp ∨ b = bm ∨ (∃ (i : Nat) (h : i < ps.length) (cap : Nat) (j : List V), ps[i].blk = some (b, cap, j)) → b ≠ b6 := by
 rintro b h rfl
 rcases h with h | h | h | ⟨i, h, cap, j, hb⟩
 ·subst h; rw [s.obj] at hl; simp at hl; exact absurd hl.2 (by decide)
 ·subst h; rw [s.pln] at hl; simp at hl
 ·subst h
  obtain ⟨_, _, _, m1, _⟩ := s.map.out
  rw [m1] at hl; simp at hl
 ·have h3 := s.row i h
  generalize ps[i] = p at hb h3
  obtain ⟨T', blk⟩ := p
  dsimp only at hb
  subst hb
  rw [h3.1] at hl; simp at hl
theorem SearchP.setI (s : SearchP S bx bp bm size rs budget steps w ps) {b6 : Nat} {l : List V} (hl : zad S b6 = some (.cells l 3)) (o : Ob) : SearchP (setS b6 o S) bx bp bm size rs budget steps w ps :=
 s.of fun b hb => by rw [zbg hl, if_neg (s.intless hl b hb)]
theorem SearchP.up (s : SearchP S bx bp bm size rs budget steps w ps) (h : ∀ b o, zad S b = some o → zad S' b = some o) : SearchP S' bx bp bm size rs budget steps w ps := by
 refine s.of fun b hb => ?_
 have key : ∃ o, zad S b = some o := by
  rcases hb with h | h | h | ⟨i, hi, cap, j, hb⟩
  ·subst h; exact ⟨_, s.obj⟩
  ·subst h; exact ⟨_, s.pln⟩
  ·subst h
   obtain ⟨_, _, _, m1, _⟩ := s.map.out
   exact ⟨_, m1⟩
  ·have h3 := s.row i hi
   generalize ps[i] = p at hb h3
   obtain ⟨T', blk⟩ := p
   dsimp only at hb
   subst hb
   exact ⟨_, h3.1⟩
 obtain ⟨o, ho⟩ := key
 rw [ho]; exact h b o ho
theorem SearchP.keep (s : SearchP S bx bp bm size rs budget steps w ps) : SearchP (zod (inP bx bp bm ps) S) bx bp bm size rs budget steps w ps :=
 s.of fun b hb => by
  rw [zhd, if_pos]
  rcases hb with h | h | h | ⟨i, hi, cap, j, hb⟩
  ·subst h; simp [inP]
  ·subst h; simp [inP]
  ·subst h; simp [inP]
  ·exact yjp hi hb
end
structure TabsOk (size : Nat) (ids : List Int) (X : List (List Int)) : Prop where
 each : ∀ t ∈ X, t.length = size ∧ t.Sublist ids ∧ t.Pairwise (· < ·) ∧ t.headD 0 = ids.headD 0
def ycp (ps : List PRow) (b : Nat) : Prop := ∀ (i : Nat) (h : i < ps.length) (cap : Nat) (j : List V), ps[i].blk ≠ some (b, cap, j)
structure Oth (T : Sto) (l b4 b5 b6 bf bx : Nat) (rb : Loop) (r1 : Nat) (ids : List Int) : Prop where
 lp : zad T l = some (.raw (.loop rb))
 o4 : zad T b4 = some (.cells [I r1] 3)
 o5 : zad T b5 = some (.cells [ints ids] 22)
 o6 : zad T b6 = some (.cells [I 0] 3)
 sf : zja T bx l bf
section
variable {T T' : Sto} {l b4 b5 b6 bf bx bp bm : Nat} {rb : Loop} {r1 : Nat} {ids : List Int} {size budget steps : Int} {rs : List (List Int)} {w : W} {ps : List PRow}
theorem Oth.of (h : Oth T l b4 b5 b6 bf bx rb r1 ids) (e : ∀ b, b = l ∨ b = b4 ∨ b = b5 ∨ b = b6 ∨ b = bf → zad T' b = zad T b) : Oth T' l b4 b5 b6 bf bx rb r1 ids :=
 ⟨by rw [e _ (.inl rfl)]; exact h.lp, by rw [e _ (.inr (.inl rfl))]; exact h.o4, by rw [e _ (.inr (.inr (.inl rfl)))]; exact h.o5, by rw [e _ (.inr (.inr (.inr (.inl rfl))))]; exact h.o6, by have := h.sf; simp only [zja] at this ⊢; rw [e _ (.inr (.inr (.inr (.inr rfl))))]; exact this⟩
theorem Oth.apart (h : Oth T l b4 b5 b6 bf bx rb r1 ids) (s : SearchP T bx bp bm size rs budget steps w ps) (ap : ycp ps b5) : ∀ b, b = l ∨ b = b4 ∨ b = b5 ∨ b = b6 ∨ b = bf → inP bx bp bm ps b = false := fun b hb => by
 have key : ∀ c, c = bx ∨ c = bp ∨ c = bm ∨ (∃ (i : Nat) (h : i < ps.length) (cap : Nat) (j : List V), ps[i].blk = some (c, cap, j)) → c ≠ b := by
  rcases hb with rfl | rfl | rfl | rfl | rfl
  ·exact s.loopless h.lp
  ·exact s.intless h.o4
  ·rintro c hc rfl
   have h5 := h.o5
   rcases hc with hc | hc | hc | ⟨i, hi, cap, j, hc⟩
   ·subst hc; rw [s.obj] at h5; simp at h5; exact absurd h5.2 (by decide)
   ·subst hc; rw [s.pln] at h5; simp at h5
   ·subst hc
    obtain ⟨_, _, _, m1, _⟩ := s.map.out
    rw [m1] at h5; simp at h5
   ·exact ap i hi cap j hc
  ·exact s.intless h.o6
  ·rintro c hc rfl
   have h5 := h.sf
   simp only [zja] at h5
   rcases hc with hc | hc | hc | ⟨i, hi, cap, j, hc⟩
   ·subst hc; rw [s.obj] at h5; simp at h5; exact absurd h5.2 (by decide)
   ·subst hc; rw [s.pln] at h5; simp at h5
   ·subst hc
    obtain ⟨_, _, _, m1, _⟩ := s.map.out
    rw [m1] at h5; simp at h5
   ·have h3 := s.row i hi
    generalize ps[i] = p at hc h3
    obtain ⟨T', blk⟩ := p
    dsimp only at hc
    subst hc
    rw [h3.1] at h5; simp at h5
 cases hin : inP bx bp bm ps b with
 | false => rfl
 | true =>
  exfalso
  simp only [inP, Bool.or_eq_true, decide_eq_true_eq, List.any_eq_true] at hin
  rcases hin with ((hin | hin) | hin) | ⟨p, hp, hin⟩
  ·exact key b (.inl hin) rfl
  ·exact key b (.inr (.inl hin)) rfl
  ·exact key b (.inr (.inr (.inl hin))) rfl
  ·obtain ⟨i, hi, rfl⟩ := List.getElem_of_mem hp
   split at hin
   ·rename_i c cap j hc
    simp only [decide_eq_true_eq] at hin
    subst hin
    exact key b (.inr (.inr (.inr ⟨i, hi, cap, j, hc⟩))) rfl
   ·cases hin
end
structure FInv (l b4 b5 b6 bx bp bm : Nat) (rc : Loop) (size : Nat) (rs : List (List Int)) (budget : Int) (w : W) (ps : List PRow) (r1 : Nat) (ids : List Int) (rec : List Int → Int → Int × Int × List (Nat × List Int)) (res : Int × Int × List (Nat × List Int)) (X : List (List Int)) (T : Sto) (st : Int) (ps1 : List PRow) : Prop where
 lp : zad T l = some (.raw (.loop rc))
 o4 : zad T b4 = some (.cells [I r1] 3)
 o5 : zad T b5 = some (.cells [ints ids] 22)
 o6 : zad T b6 = some (.cells [I 0] 3)
 s : SearchP T bx bp bm size rs budget st w ps1
 pl : ps1.length = ps.length
 rows : ∀ (i : Nat) (h : i < ps.length) (h' : i < ps1.length), ps1[i].rows = ps[i].rows
 ap : ycp ps1 b5
 try_ : tryL budget r1 rec X st = res
 tabs : TabsOk size ids X
structure FDone (l b6 bx bp bm : Nat) (size : Nat) (rs : List (List Int)) (budget : Int) (w : W) (ps : List PRow) (res : Int × Int × List (Nat × List Int)) (T : Sto) (rc : Loop) : Prop where
 lp : zad T l = some (.raw (.loop rc))
 st : rc.state ≠ .busy
 pd : rc.pending = some .ret
 o6 : zad T b6 = some (.cells [I res.1] 3)
 post : zmj bx bp bm size rs budget w ps res (I res.1) T
section
variable {l b4 b5 b6 bf bx bp bm : Nat} {rc : Loop} {size : Nat} {rs : List (List Int)} {budget : Int} {w : W} {ps : List PRow} {r1 : Nat} {ids : List Int} {rec : List Int → Int → Int × Int × List (Nat × List Int)} {res : Int × Int × List (Nat × List Int)}
theorem ydg {A : Sto → Prop} {T : Sto} {E : VEnv} (h0 : zad T l = some (.raw (.loop { rc with state := .busy }))) (h6 : zad T b6 = some (.cells [I res.1] 3)) (hp : zmj bx bp bm size rs budget w ps res (I res.1) T) (hf : zja T bx l bf) :
  RndQ l (fun u S' => ((u = Bo true ∧ A S') ∨ (u = Bo false ∧ ∃ rc', FDone l b6 bx bp bm size rs budget w ps res S' rc')) ∧ zja S' bx l bf) .ret E T := by
 refine ⟨{ rc with state := .busy }, setS l (.raw (.loop (endR { rc with state := .busy } .ret))) T, h0, fun b o e => e, .inr ⟨rfl, endR { rc with state := .busy } .ret, ?_⟩, ?_⟩
 ·obtain ⟨e1, w', ps', p1, p2, p3, p4⟩ := hp
  refine ⟨by rw [zbg h0, if_pos rfl], by simp [endR], rfl, ?_, e1, w', ps', p1.setL h0 _, p2, p3, p4⟩
  rw [zbg h0, if_neg (fun e => by rw [e, h0] at h6; cases h6)]; exact h6
 ·have h := hf
  simp only [zja] at h ⊢
  rw [zbg h0, if_neg (fun e => by rw [e, h0] at h; cases h)]; exact h
theorem ymt {D : Sto → Prop} {X : List (List Int)} {T : Sto} {E : VEnv} {st : Int} {ps1 : List PRow} (hst : rc.state = .ready) (hpd : rc.pending = none) (h : Oth T l b4 b5 b6 bf bx { rc with state := .busy } r1 ids) (s : SearchP T bx bp bm size rs budget st w ps1) (pl : ps1.length = ps.length)
  (rows : ∀ (i : Nat) (h : i < ps.length) (h' : i < ps1.length), ps1[i].rows = ps[i].rows) (ap : ycp ps1 b5) (try_ : tryL budget r1 rec X st = res) (tabs : TabsOk size ids X) :
  RndQ l (fun u S' => ((u = Bo true ∧ ∃ st ps1, FInv l b4 b5 b6 bx bp bm rc size rs budget w ps r1 ids rec res X S' st ps1) ∨ (u = Bo false ∧ D S')) ∧ zja S' bx l bf) .normal E T := by
 have e0 : endR { rc with state := .busy } .normal = rc := by cases rc; simp only [endR] at *; subst hst; subst hpd; rfl
 have nl : ∀ {b : Nat} {o : List V × TypeId}, zad T b = some (.cells o.1 o.2) → b ≠ l := fun {b o} h' e => by rw [e, h.lp] at h'; cases h'
 have sf := h.sf
 refine ⟨_, setS l (.raw (.loop rc)) T, h.lp, fun b o e => by rw [e0]; exact e, .inl ⟨rfl, st, ps1, ?_⟩, ?_⟩
 ·exact ⟨by rw [zbg h.lp, if_pos rfl], by rw [zbg h.lp, if_neg (nl (o := ([I r1], 3)) h.o4)]; exact h.o4, by rw [zbg h.lp, if_neg (nl (o := ([ints ids], 22)) h.o5)]; exact h.o5, by rw [zbg h.lp, if_neg (nl (o := ([I 0], 3)) h.o6)]; exact h.o6, s.setL h.lp _, pl, rows, ap, try_, tabs⟩
 ·simp only [zja] at sf ⊢
  rw [zbg h.lp, if_neg (fun e => by rw [e, h.lp] at sf; cases sf)]; exact sf
end
def rfOf : Code → Option (Code × Code)
 | .rangeFunc _ _ a b => some (a, b)
 | .seq a b => match rfOf a with | some x => some x | none => rfOf b
 | .cond _ a b => match rfOf a with | some x => some x | none => rfOf b
 | .block _ c => rfOf c
 | .loop c => rfOf c
 | .scope c => rfOf c
 | _ => none
def ysk (id : Nat) : Code → Bool
 | .region i _ _ => i == id
 | _ => false
def zkc (id : Nat) : Code → Option Code
 | .seq a b => if ysk id a then some b else match zkc id a with | some x => some x | none => zkc id b
 | .rangeFunc _ _ a b => match zkc id a with | some x => some x | none => zkc id b
 | .cond _ a b => match zkc id a with | some x => some x | none => zkc id b
 | .block _ c => zkc id c
 | .loop c => zkc id c
 | .scope c => zkc id c
 | _ => none
def yal (bx bp bm : Nat) (size : Nat) (rs : List (List Int)) (budget : Int) (n : Nat) : Prop :=
 ∀ (S : Sto) (met : Int → Int → Bool) (w : W) (B : Int) (steps : Int) (ps : List PRow) (round : Nat) (free : List Int), SearchP S bx bp bm size rs budget steps w ps → ps.length = rs.length → round < rs.length → GoodW B met w → B + n ≤ 1000000000000 → AscI free →
  mzS rs round free.length < n → (∀ i (h : i < ps.length), ps[i].rows.length + n ≤ 10000) →
  DC Tryz.prog 103 [.v (.pointer (some ⟨bx, 0, none⟩)), I round, ints free] S (zmj bx bp bm size rs budget w ps (srch size budget rs n met round free steps))
abbrev eF (bx b4 b5 b6 : Nat) : VEnv := [(3, .plc [.v (.pointer (some ⟨bx, 0, none⟩))]), (4, .v (.pointer (some ⟨b4, 0, none⟩))), (5, .v (.pointer (some ⟨b5, 0, none⟩))), (6, .v (.pointer (some ⟨b6, 0, none⟩)))]
end Go.XL
