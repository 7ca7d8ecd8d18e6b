/- A part of a program logic over the kit's walk rules, and contracts of functions in it. Conditions: as each theorem says. -/
import Derived.Test.YtlcigmnkfilebaaGreatT4
set_option linter.all false
namespace Go.XL
def ptsG (size start : Int) : Nat → Int → List (List Int) → List (List Int) × Int
 | 0, x, out => (out, x)
 | n + 1, x, out => if 0 < zan x 5 then ptsG size start n (zfv size start (zag x)).2 (out ++ [(zfv size start (zag x)).1]) else ptsG size start n (zag x) (out ++ [[]])
def zdr (c : Club) (x : Int) : List Int × Int := zdp c.size x (zcs c c.rounds.length)
def zbc (c : Club) (x : Int) : List (List Int) × Int :=
 if (zdr c x).1.length ≤ 12 then
  (if 0 < zan (zep c.size (zdr c x).2 (zdr c x).1).2 3 ∧ (zhy c (zdr c x).1).2 = 0 then (zhy c (zdr c x).1).1 else (zep c.size (zdr c x).2 (zdr c x).1).1, zag (zep c.size (zdr c x).2 (zdr c x).1).2)
 else zep c.size (zdr c x).2 (zdr c x).1
def zcp (c : Club) (x : Int) : List (List Int) × Int := ptsG c.size c.start (zbc c x).1.length (zbc c x).2 []
theorem ycl {budget : Int} {round n : Nat} {rec : List Int → Int → Int × Int × List (Nat × List Int)} (h : ∀ t s, (rec t s).2.2.length ≤ n) : ∀ (l : List (List Int)) (s : Int), (tryL budget round rec l s).2.2.length ≤ n + 1
 | [], s => by simp [tryL]
 | t :: r, s => by
  simp only [tryL]
  split
  ·simp
  split
  ·exact ycl h r _
  ·simp only [List.length_cons]; have := h t (w64 (s + 1)); omega
theorem zvw {size : Nat} {budget : Int} {rounds : List (List Int)} : ∀ (n : Nat) (met : Int → Int → Bool) (round : Nat) (ids : List Int) (s : Int), (srch size budget rounds n met round ids s).2.2.length ≤ n
 | 0, met, round, ids, s => by simp [srch]
 | n + 1, met, round, [], s => by
  rw [srch]
  split
  ·simp
  ·exact Nat.le_succ_of_le (zvw n met _ _ _)
 | n + 1, met, round, f :: fr, s => by
  rw [srch]
  exact ycl (fun t s => zvw n _ _ _ _) _ _
theorem yik (c : Club) (ids : List Int) : (zhy c ids).1.length ≤ ids.length + 2 := by
 unfold zhy
 repeat' split
 all_goals first | (simp; done) | skip
 simp only [List.length_map, runS]
 have := zvw (size := c.size.toNat) (budget := -1) (rounds := [ids]) (zna [ids]) (met0 c) 0 ([ids].headD []) 0
 simp [zna] at this ⊢
 omega
theorem zxs (size : Int) : ∀ (n : Nat) (x : Int) (rest : List Int) (out : List (List Int)), (zmv size n x rest out).1.length ≤ out.length + n
 | 0, x, rest, out => by simp [zmv]
 | n + 1, x, rest, out => by
  simp only [zmv]
  split
  ·have := zxs size n (tabG size size.toNat x [rest.headD 0] (rest.drop 1)).2.2 (tabG size size.toNat x [rest.headD 0] (rest.drop 1)).2.1 (out ++ [zft (tabG size size.toNat x [rest.headD 0] (rest.drop 1)).1])
   simp only [List.length_append, List.length_singleton] at this
   omega
  ·show out.length ≤ _
   omega
theorem zvr (size x : Int) (l : List Int) : (zep size x l).1.length ≤ l.length + 1 := by
 have := zxs size (l.length + 1) x l []
 simpa [zep] using this
theorem znv (c : Club) (x : Int) : (zbc c x).1.length ≤ c.members.length + 2 := by
 have h1 := (zfy c.size x (zcs c c.rounds.length)).length_le
 have h2 : (zcs c c.rounds.length).length ≤ c.members.length := by
  unfold zcs
  repeat' split
  all_goals first | (simp; done) | skip
  rw [zfb, List.length_map]
  exact List.length_filter_le _ _
 have h3 := yik c (zdr c x).1
 have h4 := zvr c.size (zdr c x).2 (zdr c x).1
 unfold zdr at *
 unfold zbc zdr
 split
 ·dsimp only
  split <;> omega
 ·omega
end Go.XL
namespace Go.XL
open Go.Proofs
set_option maxRecDepth 100000
set_option maxHeartbeats 8000000
def mzS (rs : List (List Int)) (round k : Nat) : Nat := k + ((rs.drop (round + 1)).map List.length).sum + (rs.length - round)
def ysd (bx bp : Nat) (c : Club) (rs : List (List Int)) (bs : List Nat) (budget : Int) (met : Int → Int → Bool) (ps : List PRow) (res : Int × Int × List (Nat × List Int)) (u : V) (S' : Sto) : Prop :=
 u = I res.1 ∧ ∃ met' ps', SearchR S' bx bp c rs bs budget res.2.1 met' ps' ∧ ps'.length = ps.length ∧ (res.1 = 2 → met' = met ∧ ∀ (i : Nat) (h : i < ps.length) (h' : i < ps'.length), ps'[i].rows = ps[i].rows) ∧
  (res.1 = 1 → ∀ (i : Nat) (h : i < ps.length) (h' : i < ps'.length), ps'[i].rows = ps[i].rows ++ (res.2.2.filter fun q => decide (q.1 = i)).map Prod.snd)
theorem zzf (ids : List Int) : zhk ids [] = ids := by simp [zhk]
theorem ydj {rs : List (List Int)} {round : Nat} (h : round + 1 < rs.length) : mzS rs (round + 1) rs[round + 1].length + 1 = mzS rs round 0 := by
 simp only [mzS]
 rw [List.drop_eq_getElem_cons h, List.map_cons, List.sum_cons]
 omega
theorem zyq (st : List Int → Int → Bool) : ∀ (n : Nat) (t ids : List Int), ∀ x ∈ zgy st n t ids, x.Sublist ids
 | 0, t, ids, x, h => by simp only [zgy, List.mem_singleton] at h; subst h; exact List.nil_sublist _
 | n + 1, t, ids, x, h => by
  have key : ∀ l : List Int, ∀ x ∈ zge st (zgy st n) t l, x.Sublist l := by
   intro l
   induction l with
   | nil => intro x h; simp [zge] at h
   | cons id r ih =>
    intro x h
    simp only [zge, List.mem_append] at h
    rcases h with h | h
    ·split at h
     ·obtain ⟨y, hy, rfl⟩ := List.mem_map.1 h
      exact (zyq st n _ _ y hy).cons_cons id
     ·simp at h
    ·exact (ih x h).cons id
  exact key ids x h
theorem zuj (met : Int → Int → Bool) : ∀ (n : Nat) (t ids : List Int), t.Pairwise (fun a b => met a b = false) → ∀ x ∈ zgy (zcb met) n t ids, (t ++ x).Pairwise fun a b => met a b = false
 | 0, t, ids, ht, x, h => by simp only [zgy, List.mem_singleton] at h; subst h; simpa using ht
 | n + 1, t, ids, ht, x, h => by
  have key : ∀ l : List Int, ∀ x ∈ zge (zcb met) (zgy (zcb met) n) t l, (t ++ x).Pairwise fun a b => met a b = false := by
   intro l
   induction l with
   | nil => intro x h; simp [zge] at h
   | cons id r ih =>
    intro x h
    simp only [zge, List.mem_append] at h
    rcases h with h | h
    ·split at h
     ·rename_i hst
      obtain ⟨y, hy, rfl⟩ := List.mem_map.1 h
      have := zuj met n (t ++ [id]) r (by
       rw [List.pairwise_append]
       refine ⟨ht, by simp, fun a ha b hb => ?_⟩
       rw [List.mem_singleton.1 hb]
       have := List.all_eq_true.1 hst a ha
       simpa using this) y hy
      rwa [List.append_assoc] at this
     ·simp at h
    ·exact ih x h
  exact key ids x h
theorem ygn {met : Int → Int → Bool} {t : List Int} (hp : t.Pairwise fun a b => met a b = false) (hs : ∀ a b, met a b = met b a) : zpg (zpg met t true) t false = met := by
 funext a b
 simp only [zpg]
 by_cases h : a ∈ t ∧ b ∈ t ∧ a ≠ b
 ·rw [if_pos h]
  obtain ⟨h1, h2, h3⟩ := h
  obtain ⟨i, hi, rfl⟩ := List.getElem_of_mem h1
  obtain ⟨j, hj, rfl⟩ := List.getElem_of_mem h2
  rcases Nat.lt_trichotomy i j with h4 | h4 | h4
  ·exact (List.pairwise_iff_getElem.1 hp i j hi hj h4).symm
  ·subst h4; exact absurd rfl h3
  ·rw [hs]; exact (List.pairwise_iff_getElem.1 hp j i hj hi h4).symm
 ·rw [if_neg h, if_neg h]
theorem yit {met : Int → Int → Bool} {t : List Int} {v : Bool} (hs : ∀ a b, met a b = met b a) (a b : Int) : zpg met t v a b = zpg met t v b a := by
 simp only [zpg, hs a b]
 by_cases h : a ∈ t ∧ b ∈ t ∧ a ≠ b
 ·rw [if_pos h, if_pos ⟨h.2.1, h.1, h.2.2.symm⟩]
 ·rw [if_neg h, if_neg (fun h' => h ⟨h'.2.1, h'.1, h'.2.2.symm⟩)]
theorem ymv (met : Int → Int → Bool) (t : List Int) : zjp met t = zpg met t true := rfl
theorem yqd {S : Sto} {bx bp : Nat} {c : Club} {rs : List (List Int)} {bs : List Nat} {budget steps : Int} {met : Int → Int → Bool} {ps : List PRow} (s : SearchR S bx bp c rs bs budget steps met ps) :
  RC Tryz.prog 129 [.v (.pointer (some ⟨bx, 0, none⟩)), I rs.length] S (I 1) := by
 have hx := s.obj
 clear s
 refine DC.of_run Tryz.func129 rfl Tryz.ntmps129 Tryz.results129 (by simp) (fun _ => ?_); simp only [zaq, zau, go_sem, Nat.zero_add, Nat.reduceAdd]
 repeat' (first | (with_reducible first | refine zac yU yU yX1 ?_ | refine zab ?_ | refine DS.seq ?_ | refine zaa ?_ | (refine zbd yX1 ?_; refine zde ?_)) | refine zck yX1 ⟨?_, rfl⟩ | fail)
 rfl
theorem yX14 {p : Prop} (h : p := by (simp (disch := omega) only [go_sem, dopV, yV0, ↓reduceIte, Nat.reduceEqDiff, Nat.reduceLT, Nat.reduceLeDiff, Nat.reduceAdd, Nat.reduceMul, Nat.reduceSub, Int.reduceToNat, Int.reduceLT, Int.reduceLE, Int.reduceEq, IntWalk.toNatUp, IntWalk.iteOmega, IntWalk.i64_in, V.flat, V.one, *, ztj, List.forall_mem_cons, List.forall_mem_map, implies_true, zfx]; exact rfl)) : p := h
theorem yX15 {p : Prop} (h : p := by (simp (disch := omega) only [go_sem, dopV, yV0, ↓reduceIte, Nat.reduceEqDiff, Nat.reduceLT, Nat.reduceLeDiff, Nat.reduceAdd, Nat.reduceMul, Nat.reduceSub, Int.reduceToNat, Int.reduceLT, Int.reduceLE, Int.reduceEq, IntWalk.toNatUp, IntWalk.iteOmega, IntWalk.i64_in, V.flat, V.one, *, ztj, List.forall_mem_cons, List.forall_mem_map, implies_true, zfx]; try exact rfl)) : p := h
theorem yX16 {p : Prop} (h : p := by (simp (disch := omega) only [go_sem, dopV, yV0, ↓reduceIte, Nat.reduceEqDiff, Nat.reduceLT, Nat.reduceLeDiff, Nat.reduceAdd, Nat.reduceMul, Nat.reduceSub, Int.reduceToNat, Int.reduceLT, Int.reduceLE, Int.reduceEq, IntWalk.toNatUp, IntWalk.iteOmega, IntWalk.i64_in, V.flat, V.one, *, ztj, PRow.cell_copy]; exact rfl)) : p := h
theorem yX17 {p : Prop} (h : p := by (simp (disch := omega) only [go_sem, dopV, yV0, ↓reduceIte, Nat.reduceEqDiff, Nat.reduceLT, Nat.reduceLeDiff, Nat.reduceAdd, Nat.reduceMul, Nat.reduceSub, Int.reduceToNat, Int.reduceLT, Int.reduceLE, Int.reduceEq, IntWalk.toNatUp, IntWalk.iteOmega, IntWalk.i64_in, V.flat, V.one, *, ints]; try exact rfl)) : p := h
theorem yX18 {p : Prop} (h : p := by (simp (disch := omega) only [go_sem, dopV, yV0, ↓reduceIte, Nat.reduceEqDiff, Nat.reduceLT, Nat.reduceLeDiff, Nat.reduceAdd, Nat.reduceMul, Nat.reduceSub, Int.reduceToNat, Int.reduceLT, Int.reduceLE, Int.reduceEq, IntWalk.toNatUp, IntWalk.iteOmega, IntWalk.i64_in, V.flat, V.one, *, ints, List.map_append]; try exact rfl)) : p := h
theorem yjk {bx bp : Nat} {c : Club} {rs : List (List Int)} {bs : List Nat} {budget : Int} (hs : c.Small) (ha : c.Asc) (hsz : 3 ≤ c.size ∧ c.size ≤ 4) (hrl : rs.length ≤ 1000) (hrs : ∀ ids ∈ rs, ids.length ≤ 40 ∧ ids.Nodup ∧ ∀ a ∈ ids, ¬ zfs c a < 0) :
  ∀ (n : Nat) (S : Sto) (met : Int → Int → Bool) (steps : Int) (ps : List PRow) (round : Nat) (s : SearchR S bx bp c rs bs budget steps met ps) (hps : ps.length = rs.length) (hr : round < rs.length) (hrest : ∀ i, round < i → ∀ h : i < ps.length, ps[i].rows = []) (hsym : ∀ a b, met a b = met b a)
   (hn : mzS rs round (zhk rs[round] (ps[round]'(hps ▸ hr)).rows).length < n) (hT : ∀ i (h : i < ps.length), ps[i].rows.length + n ≤ 10000),
  DC Tryz.prog 129 [.v (.pointer (some ⟨bx, 0, none⟩)), I round] S (ysd bx bp c rs bs budget met ps (srch c.size.toNat budget rs n met round (zhk rs[round] (ps[round]'(hps ▸ hr)).rows) steps))
 | 0, S, met, steps, ps, round, s, hps, hr, hrest, hsym, hn, hT => by omega
 | n + 1, S, met, steps, ps, round, s, hps, hr, hrest, hsym, hn, hT => by
  have hr' : round < ps.length := hps ▸ hr
  have hx := s.obj
  have hrr := hrs _ (List.getElem_mem hr)
  have hfree := yqe S (mt := mtV bs c.members.length) s.obj s.pln hr' hr (s.row round hr') (by omega) (by have := hT round hr'; omega)
  generalize hids : zhk rs[round] (ps[round]'hr').rows = ids at *
  cases ids with
  | nil =>
   by_cases hend : round + 1 = rs.length
   ·have he := yqd s
    rw [srch, if_pos hend]
    have H := And.intro s (And.intro hps hend)
    clear s hrs hrest hsym hn hT hps
    have hend' : (round : Int) + 1 = rs.length := by omega
    refine DC.of_run Tryz.func129 rfl Tryz.ntmps129 Tryz.results129 (by simp) (fun _ => ?_); simp only [zaq, zau, go_sem, Nat.zero_add, Nat.reduceAdd]
    repeat' (first | (with_reducible first | refine zac yU yU yX1 ?_ | refine zab ?_ | refine DS.seq ?_ | refine zaa ?_ | (refine zbd yX1 ?_; first | refine zel (fun _ => ?_) (fun _ => ?_) | refine zde ?_) | refine DS.skip ?_) | refine zhx inferInstance (hfree) yR yX2 ?_ | refine zhx inferInstance (he) yR yX2 ?_ | fail)
    all_goals first | (exfalso; omega) | skip
    refine zck yG ⟨rfl, met, ps, H.1, rfl, fun h => by simp at h, fun _ i h h' => by simp⟩
   ·have hnx : round + 1 < rs.length := by omega
    have hf2 : zhk (rs[round + 1]'hnx) (ps[round + 1]'(hps ▸ hnx)).rows = rs[round + 1]'hnx := by rw [hrest (round + 1) (by omega) (hps ▸ hnx), zzf]
    have ih := yjk hs ha hsz hrl hrs n S met steps ps (round + 1) s hps hnx (fun i hi h => hrest i (by omega) h) hsym (by rw [hf2]; have := ydj hnx; simp only [List.length_nil] at hn; omega) (fun i h => by have := hT i h; omega)
    rw [hf2] at ih
    rw [srch, if_neg hend, List.getD_eq_getElem?_getD, List.getElem?_eq_getElem hnx, Option.getD_some]
    clear s hrs hrest hsym hn hT hps hf2
    refine DC.of_run Tryz.func129 rfl Tryz.ntmps129 Tryz.results129 (by simp) (fun _ => ?_); simp only [zaq, zau, go_sem, Nat.zero_add, Nat.reduceAdd]
    repeat' (first | (with_reducible first | refine zac yU yU yX1 ?_ | refine zab ?_ | refine DS.seq ?_ | refine zaa ?_ | (refine zbd yX1 ?_; first | refine zel (fun _ => ?_) (fun _ => ?_) | refine zde ?_) | refine DS.skip ?_) | refine zhx inferInstance (hfree) yR yX2 ?_ | fail)
    all_goals first | (exfalso; omega) | skip
    refine zdv inferInstance ih yR (by simp (disch := omega) only [go_sem, dopV, yV0, ↓reduceIte, Nat.reduceEqDiff, Nat.reduceLT, Nat.reduceLeDiff, Nat.reduceAdd, Nat.reduceMul, Nat.reduceSub, Int.reduceToNat, Int.reduceLT, Int.reduceLE, Int.reduceEq, IntWalk.toNatUp, IntWalk.iteOmega, IntWalk.i64_in, V.flat, V.one, *, Int.natCast_add, Int.natCast_one]) (fun u S' hu => ?_)
    obtain ⟨rfl, hu2⟩ := hu
    repeat' (first | (with_reducible first | refine zac yU yU yE ?_ | refine zab ?_) | fail)
    refine zck yG ⟨rfl, hu2⟩
  | cons f fr =>
   generalize hres : srch c.size.toNat budget rs (n + 1) met round (f :: fr) steps = res
   rw [srch] at hres
   obtain ⟨k, hk⟩ : ∃ k : Nat, (k : Int) = c.size - 1 := ⟨(c.size - 1).toNat, by omega⟩
   have hk2 : c.size.toNat - 1 = k := by omega
   rw [hk2, zus] at hres
   have hmem : ∀ a ∈ f :: fr, a ∈ rs[round] := fun a h => by rw [← hids] at h; exact (List.mem_filter.1 h).1
   have hlen : (f :: fr).length ≤ 40 := by rw [← hids]; exact Nat.le_trans (List.length_filter_le _ _) hrr.1
   have hm1 := yim S hs s.obj s.mat k [f] fr (by omega) (by simp at hlen; omega) (by simp; omega) (fun a h => hrr.2.2 a (hmem a (by simp at h; simp [h]))) (fun a h => hrr.2.2 a (hmem a (List.mem_cons_of_mem _ h)))
   rw [hk] at hm1
   have hXl := zrm (zcb met) k [f] fr
   have H := And.intro hres (And.intro hmem hids)
   clear hres hmem hids
   refine DC.of_run Tryz.func129 rfl Tryz.ntmps129 Tryz.results129 (by simp) (fun _ => ?_); simp only [zaq, zau, go_sem, Nat.zero_add, Nat.reduceAdd]
   repeat' (first | (with_reducible first | refine zac yU yU yX14 ?_ | refine zab ?_ | refine DS.seq ?_ | refine zaa ?_ | (refine zbd yX14 ?_; refine zel (fun _ => ?_) (fun _ => ?_)) | refine DS.block ?_ | refine DS.skip ?_) | refine zhx inferInstance (hfree) yR yX15 ?_ | refine zhx inferInstance (hm1) yR yX15 ?_ | refine zce (id := 6) [0, 1, 2, 3, 4, 5, 6, 7, 8, 9, 10] 11 (by kernel_rfl) zdq (by simp only [zbb, zbe, zbf, zbg, zba]; exact rfl) (by simp only [zax, zay, List.drop_nil]; exact rfl) ?_ | (with_reducible first | refine zbw yU yU yU yX14 ?_ | refine zdc ?_) | fail)
   all_goals first | (exfalso; omega) | skip
   have hXs := zyq (zcb met) k [f] fr
   have hXp := zuj met k [f] fr (by simp)
   have hXm := zrl (zcb met) k [f] fr
   have hXl2 : (zgy (zcb met) k [f] fr).length ≤ 41 ^ 3 := Nat.le_trans hXl (Nat.le_trans (Nat.pow_le_pow_left (show fr.length + 1 ≤ 41 by simp at hlen; omega) _) (Nat.pow_le_pow_right (by omega) (by omega)))
   have hres := H.1
   have hids := H.2.2
   have hmem := H.2.1
   clear H hm1 hXl
   generalize zgy (zcb met) k [f] fr = X at *
   have hndf : (f :: fr).Nodup := by rw [← hids]; exact hrr.2.1.filter _
   have H := And.intro hXs (And.intro hXp (And.intro hXm (And.intro hids (And.intro hmem hndf))))
   clear hXs hXp hXm hids hmem hndf
   refine zcq [0, 1, 5, 6] yN (fun (x : Nat × Sto × Int × List PRow) => [(7, I x.1)]) (fun (x : Nat × Sto × Int × List PRow) => x.2.1) (fun (x : Nat × Sto × Int × List PRow) => x.1 ≤ X.length ∧ SearchR x.2.1 bx bp c rs bs budget x.2.2.1 met x.2.2.2 ∧ x.2.2.2.length = ps.length ∧ (∀ (i : Nat) (h : i < ps.length) (h' : i < x.2.2.2.length), x.2.2.2[i].rows = ps[i].rows) ∧ tryL budget round (fun t s => srch c.size.toNat budget rs n (zjp met t) round ((f :: fr).filter fun id => !decide (id ∈ t)) s) ((X.drop x.1).map ([f] ++ ·)) x.2.2.1 = res) (fun (x : Nat × Sto × Int × List PRow) => X.length - x.1) (0, S, steps, ps) yS (fun b o e => by exact e) ⟨Nat.zero_le _, s, rfl, fun _ _ _ => rfl, hres⟩ (fun x B hI hB => ?_); try dsimp only at hI hB; simp only [zas, zaw]
   obtain ⟨j, S1, st1, ps1⟩ := x
   dsimp only at hI hB
   obtain ⟨g1, g2, g3, g4, g5⟩ := hI
   have hx1 := g2.obj
   have G := And.intro g2 (And.intro g4 g5)
   have Kp := And.intro hrest (And.intro hn (And.intro hT (And.intro hrs hsym)))
   clear g2 g4 g5 hres s hx hrs hrest hn hT hfree hsym
   simp only [zas, zaw]
   have hr1 : round < ps1.length := g3 ▸ hr'
   repeat' (first | (with_reducible first | refine zac yU yU yX1 ?_ | refine zab ?_ | refine DS.seq ?_ | refine zaa ?_ | (refine zbd yX1 ?_; refine zel (fun _ => ?_) (fun _ => ?_)) | refine DS.block ?_ | refine DS.exit yU ?_ | refine DS.skip ?_) | (refine DS.store yR yX1 yX1 yX1 yX1 yU (by exact ⟨by with_unfolding_all rfl, by (try simp only [List.length_map, List.length_append, List.length_set, List.length_replicate, List.length_cons, List.length_nil]); omega⟩) ?_; simp only [zbo, zav, zaz, zbz, zbl, zbj, zbk]; try simp only [zao, zaf, zah, Nat.reduceEqDiff, ↓reduceIte, zak, zal, zar, zaj, zai, zap, zam]) | refine zce (id := 10) [0, 1, 2, 3, 4, 5, 6, 7] 8 (by kernel_rfl) zdq (by simp only [zbb, zbe, zbf, zbg, zba]; exact rfl) (by simp only [zax, zay, List.drop_nil]; exact rfl) ?_ | refine zce (id := 13) [0, 1, 2, 4, 5, 6, 7, 3] 8 (by kernel_rfl) zdq (by simp only [zbb, zbe, zbf, zbg, zba]; exact rfl) (by simp only [zax, zay, List.drop_nil]; exact rfl) ?_ | (with_reducible first | refine zbw yU yU yU yX1 ?_ | refine zdc ?_) | (refine zhn yU yX1 yX1 ?_; simp only [go_sem, Nat.zero_add, Nat.reduceAdd]; simp only [zcc, zcm, Nat.reduceEqDiff, ↓reduceIte]) | fail)
   ·rename_i e1 e2
    have e3 : res = (3, st1, []) := by
     rw [← G.2.2, List.drop_eq_getElem_cons (show j < X.length by omega), List.map_cons, tryL, if_pos e2]
    rw [e3]
    refine zck yG ⟨rfl, met, ps1, G.1, g3, fun h => by simp at h, fun h => by simp at h⟩
   ·rename_i e1 e2
    have hj : j < X.length := by omega
    have hk3 := (H.2.2.1 _ (List.getElem_mem hj)).1
    have g6 := G.1.steps (w64 (st1 + 1)) (l := sC c rs bp ps1.length (mtV bs c.members.length) budget (w64 (st1 + 1))) rfl
    refine zer (S' := setS bx (.cells (sC c rs bp ps1.length (mtV bs c.members.length) budget (w64 (st1 + 1))) TS) S1) (fun b o e => by rw [g3.trans hps] at e; exact e) ?_
    generalize setS bx (.cells (sC c rs bp ps1.length (mtV bs c.members.length) budget (w64 (st1 + 1))) TS) S1 = S2 at *
    repeat' (first | (with_reducible first | refine zac yU yU yX1 ?_ | refine zab ?_ | refine DS.seq ?_ | refine zaa ?_) | (refine DS.append (mm := false) yU yX1 yX1 yU (by decide) yX1 (by first | exact .inl rfl | exact .inr ⟨rfl, rfl⟩) yX1 yX3 (by first | exact zat zdt _ | exact zat zeq _ | exact zat Member.len _ | exact zat Sitting.len _ | exact zat Ruling.len _ | (simp only [List.mem_cons, List.not_mem_nil, or_false, forall_eq]; rfl) | simp) ⟨by (try simp only [List.length_map, List.length_cons, List.length_nil, List.length_append, List.length_take, List.length_drop]); omega, by decide⟩ ?_; simp only [zao, zaf, zah, Nat.reduceEqDiff, ↓reduceIte, zak, zal, zar, zaj, zai, zap, zam]) | fail)
    have htab : ([f] ++ X[j]).Sublist (f :: fr) := (H.1 _ (List.getElem_mem hj)).cons_cons f
    have hmk := yis S2 hs ha g6.nd g6.xb g6.obj g6.mat ([f] ++ X[j]) true (fun a h => hrr.2.2 a (H.2.2.2.2.1 a (htab.subset h))) (htab.nodup H.2.2.2.2.2) (by simp; omega)
    refine zdv inferInstance hmk yR (by simp (disch := omega) only [go_sem, dopV, yV0, ↓reduceIte, Nat.reduceEqDiff, Nat.reduceLT, Nat.reduceLeDiff, Nat.reduceAdd, Nat.reduceMul, Nat.reduceSub, Int.reduceToNat, Int.reduceLT, Int.reduceLE, Int.reduceEq, IntWalk.toNatUp, IntWalk.iteOmega, IntWalk.i64_in, V.flat, V.one, *, ints, List.map_append]) (fun u S3 hu => ?_)
    have g7 := g6.marked hu.1 hu.2
    clear hmk hu g6 hx1
    have hx3 := g7.obj
    have hp3 := g7.pln
    obtain ⟨p, hp⟩ : ∃ p, p = ps1[round] := ⟨_, rfl⟩
    have hrow := g7.row round hr1
    rw [← hp] at hrow
    have hpc : (ps1.map PRow.cell)[round]? = some p.cell := by rw [List.getElem?_map, List.getElem?_eq_getElem hr1, ← hp]; rfl
    obtain ⟨S0, Sr, k0, k1, k2, k3⟩ := PRow.split hrow
    have hx0 : zad S0 bx = _ := (k3 bx fun cap jk h => (g7.rx round hr1 bx cap jk (hp ▸ h)).1 rfl).1.trans hx3
    have hp0 : zad S0 bp = _ := (k3 bp fun cap jk h => (g7.rx round hr1 bp cap jk (hp ▸ h)).2.1 rfl).1.trans hp3
    have hpr : p.rows.length + (n + 1) ≤ 10000 := by rw [hp, G.2.1 round hr' hr1]; exact Kp.2.2.1 round hr'
    subst hp
    have Kq := And.intro hrow (And.intro k3 (And.intro k2 (And.intro g7 hpr)))
    clear hx3 hp3 hrow k3 g7 k2 hpc
    repeat' (first | (with_reducible first | refine zab ?_ | refine DS.seq ?_) | fail)
    refine zgx (id := 15) (S0) (Sr) [0, 1, 2, 3, 4, 5, 6, 7, 8, 9, 10, 11, 12, 13, 14] 15 (by kernel_rfl) zdq (by simp only [zbb, zbe, zbf, zbg, zba]; exact rfl) (by simp only [zax, zay, List.drop_nil]; exact rfl) (k0) (k1) ?_
    repeat' (first | with_reducible refine zbw yU yU yU yX16 ?_ | (refine zhn yU yX16 yX16 ?_; simp only [go_sem, Nat.zero_add, Nat.reduceAdd]; simp only [zcc, zcm, Nat.reduceEqDiff, ↓reduceIte]) | fail)
    refine znh rfl rfl rfl yR (zvi (p := ps1[round]'hr1) (tab := [f] ++ X[j]) rfl yT yT yR yR yT Kq.2.2.1 yT yX17 ⟨by omega, by decide⟩) (fun u2 E' S4 hu2 hdis => ?_)
    obtain ⟨rfl, b', cap', junk', rfl, m1, m2, m3⟩ := hu2
    have g8 := Kq.2.2.2.1.appended hr1 rfl Kq.2.1 hdis m1 m2 m3
    have hbp4 := g8.1
    clear m1 m2 m3 hdis hx0 hp0 k0 k1
    simp only [PRow.cell_some, zcz]
    repeat' (first | (with_reducible first | refine zac yU yU yX1 ?_ | refine zab ?_ | refine DS.seq ?_ | refine zaa ?_) | (refine DS.store yR yX1 yX1 yX1 yX1 yU (by exact ⟨by with_unfolding_all rfl, by (try simp only [List.length_map, List.length_append, List.length_set, List.length_replicate, List.length_cons, List.length_nil]); omega⟩) ?_; simp only [zbo, zav, zaz, zbz, zbl, zbj, zbk]; try simp only [zao, zaf, zah, Nat.reduceEqDiff, ↓reduceIte, zak, zal, zar, zaj, zai, zap, zam]) | fail)
    have hrow1 := G.2.1 round hr' hr1
    refine zer (S' := setS bp (.cells ((ps1.map PRow.cell).set round (.v (.slice (some ⟨b', 0, none⟩) ((ps1[round]'hr1).rows ++ [[f] ++ X[j]]).length cap'))) 49) (S4 ++ S0)) (fun b o e => by rw [hrow1] at e; exact e) ?_
    have g9 := g8.2
    clear g8 hbp4
    generalize setS bp (.cells ((ps1.map PRow.cell).set round (.v (.slice (some ⟨b', 0, none⟩) ((ps1[round]'hr1).rows ++ [[f] ++ X[j]]).length cap'))) 49) (S4 ++ S0) = S5 at *
    have hr5 : round < (ps1.set round ⟨(ps1[round]'hr1).rows ++ [[f] ++ X[j]], some (b', cap', junk')⟩).length := by simpa using hr1
    have hrow5 : ((ps1.set round ⟨(ps1[round]'hr1).rows ++ [[f] ++ X[j]], some (b', cap', junk')⟩)[round]'hr5).rows = (ps1[round]'hr1).rows ++ [[f] ++ X[j]] := by rw [List.getElem_set_self]
    have hfree5 : zhk rs[round] ((ps1.set round ⟨(ps1[round]'hr1).rows ++ [[f] ++ X[j]], some (b', cap', junk')⟩)[round]'hr5).rows = (f :: fr).filter fun id => !decide (id ∈ [f] ++ X[j]) := by
     rw [hrow5, zzg, hrow1, H.2.2.2.1]
    have hlt5 : ((f :: fr).filter fun id => !decide (id ∈ [f] ++ X[j])).length ≤ fr.length := by
     rw [List.filter_cons, if_neg (by simp)]; exact List.length_filter_le _ _
    have ih := yjk hs ha hsz hrl Kp.2.2.2.1 n S5 (zpg met ([f] ++ X[j]) true) (w64 (st1 + 1)) (ps1.set round ⟨(ps1[round]'hr1).rows ++ [[f] ++ X[j]], some (b', cap', junk')⟩) round g9 (by rw [List.length_set]; exact g3.trans hps) hr
     (fun i hi h => by
      have h' : i < ps1.length := by simpa using h
      rw [List.getElem_set_ne (by omega), G.2.1 i (g3 ▸ h') h']; exact Kp.1 i hi _)
     (yit Kp.2.2.2.2)
     (by rw [hfree5]; have := Kp.2.1; simp only [mzS, List.length_cons] at this ⊢; omega)
     (fun i h => by
      have h' : i < ps1.length := by simpa using h
      by_cases hir : round = i
      ·subst hir; rw [hrow5, hrow1]; have := Kp.2.2.1 round hr'; simp only [List.length_append, List.length_cons, List.length_nil]; omega
      ·rw [List.getElem_set_ne hir, G.2.1 i (g3 ▸ h') h']; have := Kp.2.2.1 i (g3 ▸ h'); omega)
    rw [hfree5] at ih
    have Kr := And.intro g9 (And.intro hrow1 (And.intro hrow5 hfree5))
    clear g9 hrow1 hrow5 hfree5
    refine zdv inferInstance ih yR yT (fun u3 S6 hu3 => ?_)
    obtain ⟨rfl, met2, ps2, g10, g11, g12, g13⟩ := hu3
    generalize hr2 : srch c.size.toNat budget rs n (zpg met ([f] ++ X[j]) true) round ((f :: fr).filter fun id => !decide (id ∈ [f] ++ X[j])) (w64 (st1 + 1)) = res2 at *
    have htry : tryL budget round (fun t s => srch c.size.toNat budget rs n (zjp met t) round ((f :: fr).filter fun id => !decide (id ∈ t)) s) ((X.drop j).map ([f] ++ ·)) st1 =
      if res2.1 = 2 then tryL budget round (fun t s => srch c.size.toNat budget rs n (zjp met t) round ((f :: fr).filter fun id => !decide (id ∈ t)) s) ((X.drop (j + 1)).map ([f] ++ ·)) res2.2.1 else (res2.1, res2.2.1, (round, [f] ++ X[j]) :: res2.2.2) := by
     rw [List.drop_eq_getElem_cons hj, List.map_cons, tryL, if_neg e2]
     simp only [ymv, hr2]
    have Ks := And.intro g10 (And.intro g12 (And.intro g13 (And.intro hr2 htry)))
    clear g10 g12 g13 hr2 htry ih
    have hlen2 : ps2.length = ps1.length := by rw [g11, List.length_set]
    clear g11
    have g5r : ∀ (i : Nat) (h : i < ps1.length) (h' : i < (ps1.set round ⟨(ps1[round]'hr1).rows ++ [[f] ++ X[j]], some (b', cap', junk')⟩).length), ((ps1.set round ⟨(ps1[round]'hr1).rows ++ [[f] ++ X[j]], some (b', cap', junk')⟩)[i]'h').rows = if round = i then (ps1[round]'hr1).rows ++ [[f] ++ X[j]] else (ps1[i]'h).rows := fun i h h' => by
     rw [List.getElem_set]; split <;> rfl
    have Kt := g5r
    clear g5r
    repeat' (first | (with_reducible first | refine zac yU yU yE ?_ | refine zab ?_ | refine DS.seq ?_ | refine zaa ?_ | (refine zbd yE ?_; refine zgb (fun _ => ?_) (fun _ => ?_)) | refine DS.skip ?_) | fail)
    ·rename_i e3
     have e4 : res = (res2.1, res2.2.1, (round, [f] ++ X[j]) :: res2.2.2) := by rw [← G.2.2, Ks.2.2.2.2, if_neg e3]
     rw [e4]
     refine zck yG ⟨rfl, met2, ps2, Ks.1, hlen2.trans g3, fun h => absurd h e3, fun h i h1 h2 => ?_⟩
     have hi1 : i < ps1.length := g3 ▸ h1
     rw [Ks.2.2.1 h i (by simpa using hi1) h2, Kt i hi1 (by simpa using hi1)]
     by_cases hir : round = i
     ·subst hir
      rw [if_pos rfl, G.2.1 round h1 hi1, List.filter_cons, if_pos (by simp)]; simp
     ·rw [if_neg hir, G.2.1 i h1 hi1, List.filter_cons, if_neg (by simpa using hir)]
    ·rename_i e3
     obtain ⟨rfl, hrows2⟩ := Ks.2.1 e3
     have hr2' : round < ps2.length := hlen2 ▸ hr1
     have hrow2 := hrows2 round hr5 hr2'
     rw [Kt round hr1 hr5, if_pos rfl] at hrow2
     have hok2 := Ks.1.row round hr2'
     obtain ⟨b6, cap6, junk6, hblk⟩ : ∃ b6 cap6 junk6, (ps2[round]'hr2').blk = some (b6, cap6, junk6) := by
      generalize ps2[round]'hr2' = p2 at hok2 hrow2
      obtain ⟨T2, blk2⟩ := p2
      cases blk2 with
      | none => simp only [PRow.Ok] at hok2; subst hok2; simp at hrow2
      | some x => exact ⟨x.1, x.2.1, x.2.2, rfl⟩
     have hp2e : ps2[round]'hr2' = ⟨(ps1[round]'hr1).rows ++ [[f] ++ X[j]], some (b6, cap6, junk6)⟩ := by
      generalize ps2[round]'hr2' = p2 at hblk hrow2
      obtain ⟨T2, blk2⟩ := p2
      dsimp only at hblk hrow2; rw [hblk, hrow2]
     rw [hp2e] at hok2
     obtain ⟨o1, o2, o3, o4⟩ := hok2
     obtain ⟨ℓ, hℓ⟩ : ∃ ℓ, ℓ = (ps1[round]'hr1).rows.length := ⟨_, rfl⟩
     have hc6 : (ps2[round]'hr2').cell = .v (.slice (some ⟨b6, 0, none⟩) (ℓ + 1) cap6) := by rw [hp2e, PRow.cell_some, hℓ]; simp
     have hlc : ℓ + 1 ≤ cap6 := by rw [List.length_append, List.length_singleton] at o2; omega
     have hx6 := Ks.1.obj
     have hp6 := Ks.1.pln
     have Ku := Box.mk (And.intro hp2e (And.intro hblk (And.intro o1 (And.intro o2 (And.intro o3 (And.intro o4 hrows2))))))
     clear hp2e hblk o1 o2 o3 o4 hrows2 hrow2
     have hℓ2 : ℓ ≤ 10000 := by rw [hℓ, (G.2.1 round hr' hr1)]; have := Kp.2.2.1 round hr'; omega
     have Kv := Box.mk hℓ
     clear hℓ
     repeat' (first | (with_reducible first | refine zac yU yU yX16 ?_ | refine zab ?_ | refine zaa ?_) | (refine DS.store yR yX16 yX16 yX16 yX16 yU (by exact ⟨by with_unfolding_all rfl, by (try simp only [List.length_map, List.length_append, List.length_set, List.length_replicate, List.length_cons, List.length_nil]); omega⟩) ?_; simp only [zbo, zav, zaz, zbz, zbl, zbj, zbk]; try simp only [zao, zaf, zah, Nat.reduceEqDiff, ↓reduceIte, zak, zal, zar, zaj, zai, zap, zam]) | refine zce (id := 19) [0, 1, 2, 3, 4, 5, 6, 7, 8, 9, 10, 11, 12, 13, 14, 15, 16, 17, 18, 19, 20, 21] 22 (by kernel_rfl) zdq (by simp only [zbb, zbe, zbf, zbg, zba]; exact rfl) (by simp only [zax, zay, List.drop_nil]; exact rfl) ?_ | (with_reducible first | refine zbw yU yU yU yX16 ?_ | refine zdc ?_) | fail)
     refine zer (S' := setS bp (.cells ((ps2.map PRow.cell).set round (.v (.slice (some ⟨b6, 0, none⟩) (ps1[round]'hr1).rows.length cap6))) 49) S6) (fun b o e => by rw [← Kv.out] at e; exact e) ?_
     have hbp6 : b6 ≠ bp := (Ks.1.rx round hr2' b6 cap6 junk6 Ku.out.2.1).2.1
     have g14 : SearchR (setS bp (.cells ((ps2.map PRow.cell).set round (.v (.slice (some ⟨b6, 0, none⟩) (ps1[round]'hr1).rows.length cap6))) 49) S6) bx bp c rs bs budget res2.2.1 (zpg met ([f] ++ X[j]) true) (ps2.set round ⟨(ps1[round]'hr1).rows, some (b6, cap6, ints ([f] ++ X[j]) :: junk6)⟩) := by
      refine Ks.1.turn hr2' (.inl ⟨cap6, junk6, Ku.out.2.1⟩) ⟨?_, ?_, Ku.out.2.2.2.2.1, ?_⟩ ?_ fun b e4 e5 e6 => ?_
      ·rw [zbh Ks.1.pln, if_neg hbp6, Ku.out.2.2.1]; simp
      ·have := Ku.out.2.2.2.1; simp only [List.length_append, List.length_cons, List.length_nil] at this ⊢; omega
      ·intro v hv
       rcases List.mem_cons.1 hv with rfl | hv
       ·rfl
       ·exact Ku.out.2.2.2.2.2.1 v hv
      ·rw [zbh Ks.1.pln, if_pos rfl]
      ·rw [zbh Ks.1.pln, if_neg e4]
     generalize setS bp (.cells ((ps2.map PRow.cell).set round (.v (.slice (some ⟨b6, 0, none⟩) (ps1[round]'hr1).rows.length cap6))) 49) S6 = S7 at *
     have hmk2 := yis S7 hs ha g14.nd g14.xb g14.obj g14.mat ([f] ++ X[j]) false (fun a h => hrr.2.2 a (H.2.2.2.2.1 a (htab.subset h))) (htab.nodup H.2.2.2.2.2) (by simp; omega)
     refine zdv inferInstance hmk2 yR yX18 (fun u4 S8 hu4 => ?_)
     have g15 := g14.marked hu4.1 hu4.2
     rw [ygn (H.2.1 _ (List.getElem_mem hj)) Kp.2.2.2.2] at g15
     have hrows8 : ∀ (i : Nat) (h : i < ps.length) (h' : i < (ps2.set round ⟨(ps1[round]'hr1).rows, some (b6, cap6, ints ([f] ++ X[j]) :: junk6)⟩).length), ((ps2.set round ⟨(ps1[round]'hr1).rows, some (b6, cap6, ints ([f] ++ X[j]) :: junk6)⟩)[i]'h').rows = (ps[i]'h).rows := fun i h h' => by
      have hi1 : i < ps1.length := g3 ▸ h
      have hi2 : i < ps2.length := by simpa using h'
      rw [List.getElem_set]
      by_cases hir : round = i
      ·subst hir; rw [if_pos rfl]; exact G.2.1 round h hi1
      ·rw [if_neg hir, Ku.out.2.2.2.2.2.2 i (by simpa using hi1) hi2, Kt i hi1 (by simpa using hi1), if_neg hir]; exact G.2.1 i h hi1
     have htry2 : tryL budget round (fun t s => srch c.size.toNat budget rs n (zjp met t) round ((f :: fr).filter fun id => !decide (id ∈ t)) s) ((X.drop (j + 1)).map ([f] ++ ·)) res2.2.1 = res := by
      rw [← G.2.2, Ks.2.2.2.2, if_pos e3]
     clear Ku Kv Kt Ks Kr hc6 hx6 hp6 hmk2 g14 hu4 Kq
     repeat' (first | (with_reducible first | refine zac yU yU yE ?_ | refine zab ?_ | refine zaa ?_ | refine DS.blk ?_) | fail)
     exact DS.back (hB (j + 1, S8, res2.2.1, ps2.set round ⟨(ps1[round]'hr1).rows, some (b6, cap6, ints ([f] ++ X[j]) :: junk6)⟩) _ _ (by simp; omega) ⟨by simp; omega, g15, by rw [List.length_set]; exact hlen2.trans g3, hrows8, htry2⟩ yS yS (fun b o e => by exact e))
   ·rename_i e1
    have e3 : res = (2, st1, []) := by
     rw [← G.2.2, List.drop_eq_nil_of_le (by omega)]; rfl
    rw [e3]
    refine zck yG ⟨rfl, met, ps1, G.1, g3, fun _ => ⟨rfl, fun i h h' => G.2.1 i h h'⟩, fun h => by simp at h⟩
end Go.XL
namespace Go.XL
open Go.Proofs
set_option maxRecDepth 100000
set_option maxHeartbeats 4000000
theorem yin (a b : Int) : ∀ l : List (List Int), metT a b l ≤ l.length
 | [] => Nat.le_refl _
 | t :: r => by
  have := yin a b r
  simp only [metT, List.length_cons]; split <;> omega
theorem yrq (c : Club) (hs : c.Small) (a b : Int) : PC Tryz.prog 66 [c.val, I a, I b] (I (metS c a b)) := by
 have q1 := hs.rounds
 refine DC.of_run Tryz.func66 rfl Tryz.ntmps66 Tryz.results66 (by simp) (fun _ => ?_); simp only [zaq, zau, go_sem, Nat.zero_add, Nat.reduceAdd]
 repeat' (first | (with_reducible first | refine zac yU yU yE ?_ | refine zab ?_ | refine DS.seq ?_ | refine zaa ?_ | refine DS.block ?_) | (refine zdb (t := 3) yU yE yU ?_; simp only [zbu, zcx, zbt, zcj, zbq, zbm, zbx, zbp, zcr, zcv, zcd, zcu, zch, zcg]) | fail)
 refine zcn [1, 2, 3] yN (fun (i : Nat × Nat) => [(7, I i.2), (8, I i.1)]) (fun (i : Nat × Nat) => i.1 ≤ c.rounds.length ∧ i.2 ≤ 1000000 * i.1 ∧ i.2 + zqc a b (c.rounds.drop i.1) = metS c a b) (fun (i : Nat × Nat) => c.rounds.length - i.1) (0, 0) yS (by simp [metS]) (fun i B hI hB => ?_); try dsimp only at hI hB; simp only [zas, zaw]
 repeat' (first | (with_reducible first | refine zac yU yU yE ?_ | refine zab ?_ | refine DS.seq ?_ | refine zaa ?_ | (refine zbd yE ?_; refine zel (fun _ => ?_) (fun _ => ?_)) | refine DS.block ?_ | refine DS.exit yU ?_ | refine DS.skip ?_) | refine zbi [] yE trivial ?_ | fail)
 ·rename_i e1
  have hi : i.1 < c.rounds.length := by omega
  have q2 := (hs.at hi).tables
  have q3 := yin a b c.rounds[i.1].tables
  have hB0 := hB
  have hI0 := hI
  clear hB hI
  refine zcn [1, 2, 3, 8] yN (fun (k : Nat × Nat) => [(7, I k.2), (9, I k.1)]) (fun (k : Nat × Nat) => k.1 ≤ c.rounds[i.1].tables.length ∧ k.2 + metT a b (c.rounds[i.1].tables.drop k.1) = i.2 + metT a b c.rounds[i.1].tables) (fun (k : Nat × Nat) => c.rounds[i.1].tables.length - k.1) (0, i.2) yS (by simp) (fun k B hI hB => ?_); try dsimp only at hI hB; simp only [zas, zaw]
  repeat' (first | (with_reducible first | refine zac yU yU yE ?_ | refine zab ?_ | refine DS.seq ?_ | refine zaa ?_ | (refine zbd yE ?_; first | refine zel (fun _ => ?_) (fun _ => ?_) | refine zdk ?_) | (refine zdz yU yE ?_; first | refine ylj (fun _ => ?_) (fun _ => ?_) | refine zow (fun _ => ?_) (fun _ => ?_) | refine GG.run ?_ | refine zfo ?_) | refine DS.blk ?_ | refine DS.block ?_ | refine DS.exit yU ?_ | refine DS.skip ?_) | refine zcf inferInstance (yjj _ _) yR yT ?_ | fail)
  ·rename_i e2 e3 e4 e5
   obtain ⟨_, r, dr1, rfl, dr3⟩ := zco (l := c.rounds[i.1].tables) (i := k.1) (by omega); rw [dr1] at hI
   exact DS.back (hB (k.1 + 1, k.2 + 1) _ _ (by simp; omega) (⟨by simp; omega, by rw [← hI.2, dr3, metT, if_pos ⟨e3, e4, e5⟩]; simp; omega⟩) yS yS (fun b o e => by first | exact e | (simp only [zae]; split <;> simp_all)))
  ·rename_i e2 e3 e4 e5
   obtain ⟨_, r, dr1, rfl, dr3⟩ := zco (l := c.rounds[i.1].tables) (i := k.1) (by omega); rw [dr1] at hI
   exact DS.back (hB (k.1 + 1, k.2) _ _ (by simp; omega) (⟨by simp; omega, by rw [← hI.2, dr3, metT, if_neg (fun h => e5 h.2.2)]; simp⟩) yS yS (fun b o e => by first | exact e | (simp only [zae]; split <;> simp_all)))
  ·rename_i e2 e3 e4
   obtain ⟨_, r, dr1, rfl, dr3⟩ := zco (l := c.rounds[i.1].tables) (i := k.1) (by omega); rw [dr1] at hI
   exact DS.back (hB (k.1 + 1, k.2) _ _ (by simp; omega) (⟨by simp; omega, by rw [← hI.2, dr3, metT, if_neg (fun h => e4 h.2.1)]; simp⟩) yS yS (fun b o e => by first | exact e | (simp only [zae]; split <;> simp_all)))
  ·rename_i e2 e3
   obtain ⟨_, r, dr1, rfl, dr3⟩ := zco (l := c.rounds[i.1].tables) (i := k.1) (by omega); rw [dr1] at hI
   exact DS.back (hB (k.1 + 1, k.2) _ _ (by simp; omega) (⟨by simp; omega, by rw [← hI.2, dr3, metT, if_neg (fun h => h.1 e3)]; simp⟩) yS yS (fun b o e => by first | exact e | (simp only [zae]; split <;> simp_all)))
  ·rename_i e2
   have de1 := zeo (l := c.rounds[i.1].tables) (i := k.1) (by omega); rw [de1] at hI
   have e3 : k.2 = i.2 + metT a b c.rounds[i.1].tables := by rw [← hI.2]; simp [metT]
   have e4 : i.2 + (metT a b c.rounds[i.1].tables + zqc a b (c.rounds.drop (i.1 + 1))) = metS c a b := by
    rw [← hI0.2.2, List.drop_eq_getElem_cons hi]; rfl
   refine DS.back (hB0 (i.1 + 1, k.2) _ _ (by simp; omega) ⟨by simp; omega, by simp; omega, by simp only [e3]; omega⟩ yS yS (fun b o e => by exact e))
 ·rename_i e1
  have de1 := zeo (l := c.rounds) (i := i.1) (by omega); rw [de1] at hI
  simp only [zfp]; rw [← hI.2.2]; simp [zqc]
end Go.XL
namespace Go.XL
open Go.Proofs
set_option maxRecDepth 100000
set_option maxHeartbeats 8000000
theorem yip (c : Club) (a b : Int) : decide (0 < (metS c a b : Int)) = met0 c a b := by
 simp only [met0, decide_eq_decide]; omega
structure Begun (S : Sto) (bx bp : Nat) (c : Club) (rs : List (List Int)) (budget : Int) (bs : List Nat) : Prop where
 obj : zad S bx = some (.cells (sC c rs bp rs.length (mtV bs c.members.length) budget 0) TS)
 pln : zad S bp = some (.cells (List.replicate rs.length (.v (.slice none 0 0))) 49)
 row : ∀ (i : Nat) (h : i < bs.length) (h' : i < c.members.length), zad S bs[i] = some (.cells (c.members.map fun m => Bo (met0 c c.members[i].id m.id)) 4)
 xp : bx ≠ bp
 xb : ¬ bx ∈ bs
 pb : ¬ bp ∈ bs
 nd : bs.Nodup
theorem yX19 {p : Prop} (h : p := by (simp (disch := omega) only [go_sem, dopV, yV0, ↓reduceIte, Nat.reduceEqDiff, Nat.reduceLT, Nat.reduceLeDiff, Nat.reduceAdd, Nat.reduceMul, Nat.reduceSub, Int.reduceToNat, Int.reduceLT, Int.reduceLE, Int.reduceEq, IntWalk.toNatUp, IntWalk.iteOmega, IntWalk.i64_in, V.flat, V.one, *, yip]; exact rfl)) : p := h
theorem yX20 {p : Prop} (h : p := by (simp (disch := omega) only [go_sem, dopV, yV0, ↓reduceIte, Nat.reduceEqDiff, Nat.reduceLT, Nat.reduceLeDiff, Nat.reduceAdd, Nat.reduceMul, Nat.reduceSub, Int.reduceToNat, Int.reduceLT, Int.reduceLE, Int.reduceEq, IntWalk.toNatUp, IntWalk.iteOmega, IntWalk.i64_in, V.flat, V.one, *, yip]; try exact rfl)) : p := h
theorem yoc (c : Club) (hs : c.Small) (rs : List (List Int)) (budget : Int) (hr : rs.length ≤ 1000) :
  DC Tryz.prog 128 [c.val, rows rs, I budget] [] (fun u S' => ∃ bx bp bs, u = .v (.pointer (some ⟨bx, 0, none⟩)) ∧ SearchR S' bx bp c rs bs budget 0 (met0 c) (List.replicate rs.length ⟨[], none⟩)) := by
 have q1 := hs.members
 refine DC.of_run Tryz.func128 rfl Tryz.ntmps128 Tryz.results128 (by simp) (fun _ => ?_); simp only [zaq, zau, go_sem, Nat.zero_add, Nat.reduceAdd]
 repeat' (first | (with_reducible first | refine zac yU yU yE ?_ | refine zab ?_ | refine DS.seq ?_ | refine zaa ?_) | (refine zdb (t := 3) yU yE yU ?_; simp only [zbu, zcx, zbt, zcj, zbq, zbm, zbx, zbp, zcr, zcv, zcd, zcu, zch, zcg]) | refine zce (id := 1) [0, 1, 2, 3, 5, 4] 6 (by kernel_rfl) zdq (by simp only [zbb, zbe, zbf, zbg, zba]; exact rfl) (by simp only [zax, zay, List.drop_nil]; exact rfl) ?_ | with_reducible refine zbw yU yU yU yE ?_ | fail)
 refine ysr yU yG yG yG yG yU yU ⟨by omega, by omega, by decide, by omega⟩ (fun bp h1 h2 => ?_)
 repeat' (first | (with_reducible first | refine zac yU yU yX8 ?_ | refine zab ?_ | refine DS.seq ?_ | refine zaa ?_ | refine DS.block ?_) | (with_reducible refine zkq yU yX8 yU (fun _ hfr => ?_); have hfr := zkk hfr; simp only [zhj, zim, and_true] at hfr; simp only [zbu, zcx, zbt, zcj, zbq, zbm, zbx, zbp, zcr, zcv, zcd, zcu, zch, zcg]) | (with_reducible refine DD.nil ?_; simp only [zas, zaw]) | fail)
 rename_i bx hfr
 refine yao (b := bx) (off := 10) (e := 164) (sz := 1) yH yH ?_
 have B0 : Begun (setS bx (.cells (sC c rs bp rs.length (mtV [] c.members.length) budget 0) TS) [(bx, .cells (sC c rs bp rs.length (.v (.slice none 0 0)) budget 0) TS), (bp, .cells (zeu (Value.slice none 0 0) rs.length) 49)]) bx bp c rs budget [] := by
  refine ⟨by simp [setS, zad], ?_, fun i h => by simp at h, fun h => hfr.1 h.symm, by simp, by simp, by simp⟩
  simp only [setS, zad, if_true]
  rw [if_neg hfr.2, zpp]
 refine zer (S' := setS bx (.cells (sC c rs bp rs.length (mtV [] c.members.length) budget 0) TS) [(bx, .cells (sC c rs bp rs.length (.v (.slice none 0 0)) budget 0) TS), (bp, .cells (zeu (Value.slice none 0 0) rs.length) 49)]) (fun b o e => by exact e) ?_
 generalize setS bx (.cells (sC c rs bp rs.length (mtV [] c.members.length) budget 0) TS) [(bx, .cells (sC c rs bp rs.length (.v (.slice none 0 0)) budget 0) TS), (bp, .cells (zeu (Value.slice none 0 0) rs.length) 49)] = S0 at *
 clear hfr h1 h2
 refine zcq [3, 7] yN (fun (x : Nat × Sto × List Nat) => [(8, I x.1)]) (fun (x : Nat × Sto × List Nat) => x.2.1) (fun (x : Nat × Sto × List Nat) => x.1 ≤ c.members.length ∧ Begun x.2.1 bx bp c rs budget x.2.2 ∧ x.2.2.length = x.1) (fun (x : Nat × Sto × List Nat) => c.members.length - x.1) (0, S0, []) yS (fun b o e => by exact e) ⟨Nat.zero_le _, B0, rfl⟩ (fun x B hI hB => ?_); try dsimp only at hI hB; simp only [zas, zaw]
 obtain ⟨i, S1, bs⟩ := x
 dsimp only at hI hB
 obtain ⟨g1, g2, g3⟩ := hI
 simp only [zas, zaw]
 repeat' (first | (with_reducible first | refine zac yU yU yE ?_ | refine zab ?_ | refine DS.seq ?_ | refine zaa ?_ | (refine zbd yE ?_; refine zel (fun _ => ?_) (fun _ => ?_)) | refine DS.block ?_ | refine DS.exit yU ?_ | refine DS.skip ?_) | (refine ylp yU yE yE yE yE yU yU ⟨by omega, by omega, by decide, by omega⟩ (fun _ hfr => ?_)) | fail)
 ·rename_i e1 b
  have hfb := hfr
  clear hfr
  have hi : i < c.members.length := by omega
  have hnb : b ≠ bx ∧ b ≠ bp ∧ ¬ b ∈ bs := by
   refine ⟨?_, ?_, ?_⟩
   ·intro h; rw [h, g2.obj] at hfb; cases hfb
   ·intro h; rw [h, g2.pln] at hfb; cases hfb
   ·intro h
    obtain ⟨j, hj, rfl⟩ := List.getElem_of_mem h
    rw [g2.row j hj (by omega)] at hfb; cases hfb
  have hB0 := hB
  clear hB
  have hz : ((b, Ob.cells (zeu (Value.bool false) ((c.members.length : Int)).toNat) 4) :: S1) = ((b, .cells (List.replicate c.members.length (Bo false)) 4) :: S1) := by rw [Int.toNat_natCast, yar]
  rw [hz]
  clear hz
  refine zcq [3, 7, 8, 9] yN (fun (y : Nat × Sto) => [(10, I y.1)]) (fun (y : Nat × Sto) => y.2) (fun (y : Nat × Sto) => y.1 ≤ c.members.length ∧ zad y.2 b = some (.cells (((c.members.map fun m => Bo (met0 c (c.members[i]'hi).id m.id)).take y.1) ++ List.replicate (c.members.length - y.1) (Bo false)) 4) ∧ ∀ b', b' ≠ b → zad y.2 b' = zad S1 b') (fun (y : Nat × Sto) => c.members.length - y.1) (0, (b, .cells (List.replicate c.members.length (Bo false)) 4) :: S1) yS (fun b o e => by exact e) ⟨Nat.zero_le _, by simp [zad], fun b' h => by simp only [zad]; rw [if_neg (fun h' => h h'.symm)]⟩ (fun y B hI hB => ?_); try dsimp only at hI hB; simp only [zas, zaw]
  obtain ⟨k, S2⟩ := y
  dsimp only at hI hB
  obtain ⟨k1, k2, k3⟩ := hI
  simp only [zas, zaw]
  have hx2 := (k3 bx hnb.1.symm).trans g2.obj
  repeat' (first | (with_reducible first | refine zac yU yU yX19 ?_ | refine zab ?_ | refine DS.seq ?_ | refine zaa ?_ | (refine zbd yX19 ?_; refine zel (fun _ => ?_) (fun _ => ?_)) | refine DS.block ?_ | refine DS.exit yU ?_ | refine DS.skip ?_) | fail)
  ·rename_i e2
   have hk : k < c.members.length := by omega
   repeat' (first | with_reducible refine zac yU yU yX19 ?_ | refine zce (id := 9) [0, 1, 2, 3, 4, 5, 6, 7, 8, 9, 10, 11, 12, 13, 14, 15, 16] 17 (by kernel_rfl) zdq (by simp only [zbb, zbe, zbf, zbg, zba]; exact rfl) (by simp only [zax, zay, List.drop_nil]; exact rfl) ?_ | (with_reducible first | refine zbw yU yU yU yX19 ?_ | refine zdc ?_) | refine zkr inferInstance (yrq c hs _ _) yU yX20 ?_ | fail)
   refine DS.store yR yG yG yG k2 yU ⟨by with_unfolding_all rfl, by simp only [List.length_append, List.length_take, List.length_map, List.length_replicate]; omega⟩ ?_
   simp only [zbo, zav, zaz, zbz]
   have hrow : (((c.members.map fun m => Bo (met0 c (c.members[i]'hi).id m.id)).take k) ++ List.replicate (c.members.length - k) (Bo false)).set k (.v (.bool (met0 c (c.members[i]'hi).id (c.members[k]'hk).id))) = (((c.members.map fun m => Bo (met0 c (c.members[i]'hi).id m.id)).take (k + 1)) ++ List.replicate (c.members.length - (k + 1)) (Bo false)) := by
    apply List.ext_getElem
    ·simp only [List.length_append, List.length_take, List.length_map, List.length_replicate, List.length_set]; omega
    ·intro j h1 h2
     simp only [List.getElem_set, List.getElem_append, List.getElem_take, List.getElem_map, List.getElem_replicate, List.length_take, List.length_map]
     by_cases hj : k = j
     ·subst hj
      rw [if_pos rfl, dif_pos (by omega)]
     ·rw [if_neg hj]
      by_cases hj2 : j < k
      ·rw [dif_pos (by omega), dif_pos (by omega)]
      ·rw [dif_neg (by omega), dif_neg (by omega)]
   refine zer (S' := setS b (.cells (((c.members.map fun m => Bo (met0 c (c.members[i]'hi).id m.id)).take (k + 1)) ++ List.replicate (c.members.length - (k + 1)) (Bo false)) 4) S2) (fun b' o e => by rw [← hrow] at e; exact e) ?_
   have k2' : zad (setS b (.cells (((c.members.map fun m => Bo (met0 c (c.members[i]'hi).id m.id)).take (k + 1)) ++ List.replicate (c.members.length - (k + 1)) (Bo false)) 4) S2) b = some (.cells (((c.members.map fun m => Bo (met0 c (c.members[i]'hi).id m.id)).take (k + 1)) ++ List.replicate (c.members.length - (k + 1)) (Bo false)) 4) := by
    rw [zbh k2, if_pos rfl]
   have k3' : ∀ b', b' ≠ b → zad (setS b (.cells (((c.members.map fun m => Bo (met0 c (c.members[i]'hi).id m.id)).take (k + 1)) ++ List.replicate (c.members.length - (k + 1)) (Bo false)) 4) S2) b' = zad S1 b' := fun b' h => by
    rw [zbh k2, if_neg h]; exact k3 b' h
   generalize setS b (.cells (((c.members.map fun m => Bo (met0 c (c.members[i]'hi).id m.id)).take (k + 1)) ++ List.replicate (c.members.length - (k + 1)) (Bo false)) 4) S2 = S3 at *
   clear hrow hx2
   repeat' (first | (with_reducible first | refine zac yU yU yE ?_ | refine zab ?_ | refine zaa ?_ | refine DS.blk ?_) | fail)
   refine DS.back (hB (k + 1, S3) _ _ (by dsimp only; omega) ⟨by dsimp only; omega, k2', k3'⟩ yS yS (fun b o e => by exact e))
  ·rename_i e2
   have hke : k = c.members.length := by omega
   skip
   refine ziq (t := 59) yR yG hx2 yU yG ?_
   repeat' (first | with_reducible refine zac yU yU yE ?_ | (refine zfg yU yE yE ?_; simp only [go_sem, Nat.zero_add, Nat.reduceAdd]) | (refine DS.append (mm := false) yU yE yE yU (by decide) yE (by first | exact .inl rfl | exact .inr ⟨rfl, rfl⟩) yE yX0 (by first | exact zat zdt _ | exact zat zeq _ | exact zat Member.len _ | exact zat Sitting.len _ | exact zat Ruling.len _ | (simp only [List.mem_cons, List.not_mem_nil, or_false, forall_eq]; rfl) | simp) ⟨by (try simp only [List.length_map, List.length_cons, List.length_nil, List.length_append, List.length_take, List.length_drop]); omega, by decide⟩ ?_; simp only [zao, zaf, zah, Nat.reduceEqDiff, ↓reduceIte, zak, zal, zar, zaj, zai, zap, zam]) | fail)
   have ho : zad (setS bx (.cells (sC c rs bp rs.length (.lst (bs.map (rowC c.members.length))) budget 0) TS) S2) bx = some (.cells (sC c rs bp rs.length (.lst (bs.map (rowC c.members.length))) budget 0) TS) := by rw [zbh hx2, if_pos rfl]
   have ho' : ∀ b', b' ≠ bx → zad (setS bx (.cells (sC c rs bp rs.length (.lst (bs.map (rowC c.members.length))) budget 0) TS) S2) b' = zad S2 b' := fun b' h => by rw [zbh hx2, if_neg h]
   refine zer (S' := setS bx (.cells (sC c rs bp rs.length (.lst (bs.map (rowC c.members.length))) budget 0) TS) S2) (fun b' o e => by exact e) ?_
   generalize setS bx (.cells (sC c rs bp rs.length (.lst (bs.map (rowC c.members.length))) budget 0) TS) S2 = S3 at *
   refine DS.store yR yG yG yG ho yU ⟨by with_unfolding_all rfl, by simp only [ztj, List.length_cons, List.length_nil]; omega⟩ ?_
   simp only [zbo, zav, zaz, zbz, zbl, zbj]
   have hm : List.map (rowC c.members.length) bs ++ [[V.v (Value.slice (some ⟨b, 0, none⟩) c.members.length c.members.length)]] = List.map (rowC c.members.length) (bs ++ [b]) := by rw [List.map_append]; rfl
   rw [hm]
   have hset : (sC c rs bp rs.length (.lst (bs.map (rowC c.members.length))) budget 0).set 10 (mtV (bs ++ [b]) c.members.length) = sC c rs bp rs.length (mtV (bs ++ [b]) c.members.length) budget 0 := rfl
   refine zer (S' := setS bx (.cells (sC c rs bp rs.length (mtV (bs ++ [b]) c.members.length) budget 0) TS) S3) (fun b' o e => by rw [← hset] at e; exact e) ?_
   have hb1 : zad (setS bx (.cells (sC c rs bp rs.length (mtV (bs ++ [b]) c.members.length) budget 0) TS) S3) bx = some (.cells (sC c rs bp rs.length (mtV (bs ++ [b]) c.members.length) budget 0) TS) := by rw [zbh ho, if_pos rfl]
   have hb2 : ∀ b', b' ≠ bx → zad (setS bx (.cells (sC c rs bp rs.length (mtV (bs ++ [b]) c.members.length) budget 0) TS) S3) b' = zad S2 b' := fun b' h => by rw [zbh ho, if_neg h]; exact ho' b' h
   generalize setS bx (.cells (sC c rs bp rs.length (mtV (bs ++ [b]) c.members.length) budget 0) TS) S3 = S4 at *
   have G4 : Begun S4 bx bp c rs budget (bs ++ [b]) := by
    refine ⟨hb1, ((hb2 bp g2.xp.symm).trans (k3 bp hnb.2.1.symm)).trans g2.pln, fun j h h' => ?_, g2.xp, ?_, ?_, ?_⟩
    ·by_cases hj : j < bs.length
     ·have e : (bs ++ [b])[j] = bs[j] := by rw [List.getElem_append_left hj]
      have hm' : bs[j] ∈ bs := List.getElem_mem hj
      rw [e, hb2 _ (fun h => g2.xb (h ▸ hm')), k3 _ (fun h => hnb.2.2 (h ▸ hm'))]
      exact g2.row j hj h'
     ·have hje : j = i := by simp only [List.length_append, List.length_cons, List.length_nil] at h; omega
      subst hje
      have e : (bs ++ [b])[j] = b := by rw [List.getElem_append_right (by omega)]; simp only [g3, Nat.sub_self, List.getElem_cons_zero]
      rw [e, hb2 _ hnb.1, k2]
      have ht : List.take k (List.map (fun m => Bo (met0 c c.members[j].id m.id)) c.members) ++ List.replicate (c.members.length - k) (Bo false) = List.map (fun m => Bo (met0 c c.members[j].id m.id)) c.members := by
       rw [List.take_of_length_le (by rw [List.length_map]; omega), hke, Nat.sub_self]; simp
      rw [ht]
    ·simp only [List.mem_append, List.mem_singleton]; rintro (h | h)
     ·exact g2.xb h
     ·exact hnb.1 h.symm
    ·simp only [List.mem_append, List.mem_singleton]; rintro (h | h)
     ·exact g2.pb h
     ·exact hnb.2.1 h.symm
    ·rw [List.nodup_append]
     refine ⟨g2.nd, by simp, fun x hx y hy => ?_⟩
     rw [List.mem_singleton] at hy
     subst hy
     exact fun h => hnb.2.2 (h ▸ hx)
   clear hm hset hb1 hb2 ho ho' k2 k3 hx2 B0 hke
   repeat' (first | (with_reducible first | refine zac yU yU yE ?_ | refine zab ?_ | refine zaa ?_ | refine DS.blk ?_) | fail)
   refine DS.back (hB0 (i + 1, S4, bs ++ [b]) _ _ (by dsimp only; omega) ⟨by dsimp only; omega, G4, by simp only [List.length_append, List.length_cons, List.length_nil]; omega⟩ yS yS (fun b o e => by exact e))
 ·refine zck yG ⟨bx, bp, bs, rfl, ?_⟩
  have hl : bs.length = c.members.length := by omega
  refine ⟨by rw [List.length_replicate]; exact g2.obj, ⟨hl, g2.row⟩, ?_, fun j h => ?_, g2.xp, g2.xb, g2.pb, g2.nd, fun j h b cap jk hb => ?_, fun j k hj hk b cap cap2 jk jk2 hb _ => ?_⟩
  ·rw [g2.pln, List.map_replicate]; rfl
  ·rw [List.getElem_replicate]; rfl
  ·rw [List.getElem_replicate] at hb; cases hb
  ·rw [List.getElem_replicate] at hb; cases hb
end Go.XL
namespace Go.XL
open Go.Proofs
set_option maxRecDepth 100000
set_option maxHeartbeats 8000000
theorem znz : ∀ {l : List Member} {last : Int}, 0 ≤ last → zdi l last = 0 → l.Pairwise fun a b => a.id < b.id
 | [], _, _, _ => .nil
 | m :: l, last, h0, h => by
  have hf := zgf h0 h
  have hm := hf.1 m (List.mem_cons_self ..)
  have h1 : 0 ≤ m.id := by omega
  simp only [zdi] at h
  repeat' split at h
  all_goals first
   | exact .cons (fun x hx => (zgf h1 h).1 x hx) (znz h1 h)
   | exact absurd h (by decide)
theorem yks {c : Club} (h : zen c.members = 0) : c.Asc := by
 unfold zen at h
 split at h
 ·cases h
 ·exact znz (Int.le_refl 0) h
theorem zfj {c : Club} (h : zdd c = 0) : zfi c = 0 ∧ zen c.members = 0 ∧ c.rounds.length ≤ 20 := by
 unfold zdd at h
 split at h
 ·contradiction
 split at h
 ·contradiction
 split at h
 ·cases h
 exact ⟨by omega, by omega, by omega⟩
theorem zys (a b : Int) : ∀ T, metT a b T = metT b a T
 | [] => rfl
 | t :: r => by
  simp only [metT]
  rw [zys a b r]
  congr 1
  by_cases h : a ≠ b ∧ a ∈ t ∧ b ∈ t
  ·rw [if_pos h, if_pos ⟨h.1.symm, h.2.2, h.2.1⟩]
  ·rw [if_neg h, if_neg (fun h' => h ⟨h'.1.symm, h'.2.2, h'.2.1⟩)]
theorem zyt (c : Club) (a b : Int) : metS c a b = metS c b a := by
 unfold metS
 generalize c.rounds = l
 induction l with
 | nil => rfl
 | cons s r ih => simp only [zqc, ih, zys a b]
theorem zro (c : Club) (a b : Int) : met0 c a b = met0 c b a := by simp only [met0, zyt c a b]
theorem yhc {budget : Int} {round R : Nat} {rec : List Int → Int → Int × Int × List (Nat × List Int)} (hr : round < R) (h : ∀ t s, ∀ q ∈ (rec t s).2.2, q.1 < R) : ∀ (l : List (List Int)) (s : Int), ∀ q ∈ (tryL budget round rec l s).2.2, q.1 < R
 | [], s, q, hq => by simp [tryL] at hq
 | t :: r, s, q, hq => by
  simp only [tryL] at hq
  split at hq
  ·simp at hq
  split at hq
  ·exact yhc hr h r _ q hq
  ·rcases List.mem_cons.1 hq with rfl | hq
   ·exact hr
   ·exact h _ _ q hq
theorem zvv {size : Nat} {budget : Int} {rounds : List (List Int)} : ∀ (n : Nat) (met : Int → Int → Bool) (round : Nat) (ids : List Int) (s : Int), round < rounds.length → ∀ q ∈ (srch size budget rounds n met round ids s).2.2, q.1 < rounds.length
 | 0, met, round, ids, s, hr, q, hq => by simp [srch] at hq
 | n + 1, met, round, [], s, hr, q, hq => by
  rw [srch] at hq
  split at hq
  ·simp at hq
  ·exact zvv n met _ _ _ (by omega) q hq
 | n + 1, met, round, f :: fr, s, hr, q, hq => by
  rw [srch] at hq
  exact yhc hr (fun t s => zvv n _ _ _ _ hr) _ _ q hq
theorem zoi {c : Club} {round : Int} : ∀ {t : List Int} {pre : Option Int}, zdw c round t pre = 0 → t.Pairwise (· < ·) ∧ ∀ p, pre = some p → ∀ x ∈ t, p < x
 | [], _, _ => ⟨.nil, fun _ _ _ h => (List.not_mem_nil h).elim⟩
 | x :: t, pre, e => by
  simp only [zdw] at e
  split at e
  ·cases e
  split at e
  ·cases e
  split at e
  ·cases e
  rename_i h3
  obtain ⟨h4, h5⟩ := zoi e
  have h6 := h5 x rfl
  refine ⟨.cons h6 h4, fun p hp y hy => ?_⟩
  subst hp
  simp only [zib, decide_eq_true_eq] at h3
  rcases List.mem_cons.1 hy with rfl | hy
  ·omega
  ·have := h6 y hy; omega
theorem ykt {t : List Int} (h : t.Pairwise (· < ·)) : t.Nodup := List.Pairwise.imp (fun h => by omega) h
theorem zpm : ∀ (T : List (List Int)) (jk : List V), chunk 1 T.length (List.map V.copy (List.map (fun t => ints t) T ++ jk)) = T.map cR
 | [], _ => rfl
 | t :: T, jk => by
  have := zpm T jk
  simp only [List.length_cons, chunk, List.map_cons, List.cons_append, List.take_succ_cons, List.take_zero, List.drop_succ_cons, List.drop_zero, this]
  rfl
theorem ymr (c : Club) (hs : c.Small) (ids : List Int) (hl : ids.length ≤ 1000000) : PC Tryz.prog 110 [c.val, ints ids] (tupV [rows (zhy c ids).1, I (zhy c ids).2]) := by
 have q1 := hs.rounds
 have q2 := hs.members
 rw [zhy]
 by_cases hc : zdd c = 0
 ·obtain ⟨k1, k2, k3⟩ := zfj hc
  have f := zsu hc
  have g := zke k1
  have ha := yks k2
  rw [if_neg (by omega)]
  refine DC.of_run Tryz.func110 rfl Tryz.ntmps110 Tryz.results110 (by simp) (fun _ => ?_); simp only [zaq, zau, go_sem, Nat.zero_add, Nat.reduceAdd]
  repeat' (first | (with_reducible first | refine zac yU yU yE ?_ | refine zab ?_ | refine DS.seq ?_ | refine zaa ?_ | (refine zbd yE ?_; first | refine zel (fun _ => ?_) (fun _ => ?_) | refine zdk ?_) | refine DS.block ?_ | refine DS.skip ?_) | refine zcf inferInstance (zsw c hs) yR yT ?_ | (refine zdb (t := 2) yU yE yU ?_; simp only [zbu, zcx, zbt, zcj, zbq, zbm, zbx, zbp, zcr, zcv, zcd, zcu, zch, zcg]) | refine zbi [] yE trivial ?_ | fail)
  ·rename_i e1
   rw [if_pos (by omega)]; rfl
  ·rename_i e1 e2
   rw [if_neg (by omega), if_pos (by omega)]; rfl
  rename_i e1 e2
  rw [if_neg (by omega), if_neg (by omega)]
  refine zcn [1, 2] yN (fun (j : Nat) => [(7, I j)]) (fun (j : Nat) => j ≤ ids.length ∧ zdw c c.rounds.length ids none = zdw c c.rounds.length (ids.drop j) (zmk ids j)) (fun (j : Nat) => ids.length - j) 0 yS (by simp [zmk]) (fun j B hI hB => ?_); try dsimp only at hI hB; simp only [zas, zaw]
  repeat' (first | (with_reducible first | refine zac yU yU yE ?_ | refine zab ?_ | refine DS.seq ?_ | refine zaa ?_ | (refine zbd yE ?_; first | refine zgb (fun _ => ?_) (fun _ => ?_) | refine zel (fun _ => ?_) (fun _ => ?_)) | refine DS.block ?_ | refine DS.exit yU ?_ | refine DS.skip ?_) | (refine zfg yU yE yE ?_; simp only [go_sem, Nat.zero_add, Nat.reduceAdd]) | refine zcf inferInstance (zjt c _ (by omega)) yR yT ?_ | refine zce (id := 11) [0, 1, 2, 3, 4] 5 (by kernel_rfl) zdq (by simp only [zbb, zbe, zbf, zbg, zba]; exact rfl) (by simp only [zax, zay, List.drop_nil]; exact rfl) ?_ | refine zce (id := 14) [0, 1, 2, 3, 4, 5, 6, 7] 8 (by kernel_rfl) zdq (by simp only [zbb, zbe, zbf, zbg, zba]; exact rfl) (by simp only [zax, zay, List.drop_nil]; exact rfl) ?_ | (with_reducible first | refine zbw yU yU yU yE ?_ | refine zdc ?_) | refine zbi [] yE trivial ?_ | fail)
  ·rename_i e3 e4
   obtain ⟨_, r, dr1, rfl, dr3⟩ := zco (l := ids) (i := j) (by omega); rw [dr1] at hI
   have hid : zdw c c.rounds.length ids none = 7 := by rw [hI.2, zdw, if_pos e4]
   rw [hid, if_pos (by decide)]; rfl
  ·rename_i e3 e4
   obtain ⟨m, hm, e5, -, e7⟩ := zgu e4
   have H := And.intro e5 e7
   simp only [e5]
   clear e5 e7 e4
   repeat' (first | (with_reducible first | refine zac yU yU yE ?_ | refine zab ?_ | refine DS.seq ?_ | refine zaa ?_ | (refine zbd yE ?_; first | refine zel (fun _ => ?_) (fun _ => ?_) | refine zdk ?_ | refine yaq (fun _ => ?_) (fun _ => ?_)) | (refine zdz yU yE ?_; first | refine GG.run ?_ | refine zfo ?_) | refine DS.blk ?_ | refine DS.skip ?_) | refine zcf inferInstance (zqz _ _) yR yT ?_ | refine zce (id := 16) [0, 1, 2, 3, 4, 5, 6, 7, 8, 9, 10, 11] 12 (by kernel_rfl) zdq (by simp only [zbb, zbe, zbf, zbg, zba]; exact rfl) (by simp only [zax, zay, List.drop_nil]; exact rfl) ?_ | (with_reducible first | refine zbw yU yU yU yE ?_ | (refine zni yU yE ?_; first | refine zvl (fun _ => ?_) (fun _ => ?_) | refine DGG.run ?_ | refine zmt ?_) | refine zdc ?_) | refine zbi [] yE trivial ?_ | fail)
   all_goals have e8 := zpd (f.to _ (List.getElem_mem hm)) c.rounds.length
   all_goals obtain ⟨_, r, dr1, rfl, dr3⟩ := zco (l := ids) (i := j) (by omega); rw [dr1] at hI
   ·rename_i e9
    rw [e8] at e9
    have hid : zdw c c.rounds.length ids none = 10 := by rw [hI.2, zdw, if_neg (by rw [H.1]; omega), if_pos (by rw [H.2]; exact e9)]
    rw [hid, if_pos (by decide)]; rfl
   ·rename_i e9 e10 e11
    rw [e8] at e9
    obtain ⟨e12, e13⟩ := zht (t := ids) (k := j) (by omega) (by omega)
    have hid : zdw c c.rounds.length ids none = 11 := by rw [hI.2, zdw, if_neg (by rw [H.1]; omega), if_neg (by rw [H.2, e9]; decide), if_pos (by rw [e13]; simp only [zib]; exact decide_eq_true e11)]
    rw [hid, if_pos (by decide)]; rfl
   ·rename_i e9 e10 e11
    rw [e8] at e9
    obtain ⟨e12, e13⟩ := zht (t := ids) (k := j) (by omega) (by omega)
    exact DS.back (hB (j + 1) _ _ (by omega) (⟨by omega, by rw [hI.2, dr3, zdw, if_neg (by rw [H.1]; omega), if_neg (by rw [H.2, e9]; decide), if_neg (by rw [e13]; simp only [zib]; simpa using e11), zgm (by omega)]⟩) yS yS (fun b o e => by first | exact e | (simp only [zae]; split <;> simp_all)))
   ·rename_i e9 e10
    rw [e8] at e9
    have e13 : zib (zmk ids j) ids[j] = false := by
     have : j = 0 := by omega
     subst this; rfl
    exact DS.back (hB (j + 1) _ _ (by omega) (⟨by omega, by rw [hI.2, dr3, zdw, if_neg (by rw [H.1]; omega), if_neg (by rw [H.2, e9]; decide), if_neg (by rw [e13]; decide), zgm (by omega)]⟩) yS yS (fun b o e => by first | exact e | (simp only [zae]; split <;> simp_all)))
  all_goals (rename_i e3 e4; have hid : zdw c c.rounds.length ids none = 0 := by rw [hI.2, List.drop_eq_nil_of_le (by omega)]; rfl)
  ·rw [hid, if_neg (by decide), if_pos (by have := Int.tmod_nonneg (a := (ids.length : Int)) c.size (by omega); omega)]; rfl
  rw [hid, if_neg (by decide), if_neg (by omega)]
  have hmem := zoh hid
  have hnd := ykt (zoi hid).1
  refine zdv inferInstance (yoc c hs [ids] (-1) (by simp)) yR yG (fun u S' hu => ?_)
  obtain ⟨bx, bp, bs, rfl, s0⟩ := hu
  repeat' (first | (with_reducible first | refine zac yU yU yE ?_ | refine zab ?_ | refine DS.seq ?_ | refine zaa ?_) | fail)
  have hgo := yjk hs ha g.1 (rs := [ids]) (by simp) (fun x hx => by rw [List.mem_singleton] at hx; subst hx; exact ⟨by omega, hnd, hmem⟩) (zna [ids]) S' (met0 c) 0 (List.replicate 1 ⟨[], none⟩) 0 s0 rfl (by simp) (fun i h1 h2 => by simp at h2; omega) (zro c) (by simp [mzS, zna, zzf]; omega) (fun i h => by simp [zna]; omega)
  refine zdv inferInstance hgo yR (by simp (disch := omega) only [go_sem, dopV, yV0, ↓reduceIte, Nat.reduceEqDiff, Nat.reduceLT, Nat.reduceLeDiff, Nat.reduceAdd, Nat.reduceMul, Nat.reduceSub, Int.reduceToNat, Int.reduceLT, Int.reduceLE, Int.reduceEq, IntWalk.toNatUp, IntWalk.iteOmega, IntWalk.i64_in, V.flat, V.one]) (fun u S1 hu => ?_)
  obtain ⟨rfl, met1, ps1, s1, hp1, -, hp2⟩ := hu
  have hrun : srch c.size.toNat (-1) [ids] (zna [ids]) (met0 c) 0 (zhk [ids][0] (List.replicate 1 (⟨[], none⟩ : PRow))[0].rows) 0 = runS c [ids] (-1) := by
   rw [runS]; congr 1; simp [zhk]
  rw [hrun] at s1 hp2 ⊢
  have hlt : ∀ q ∈ (runS c [ids] (-1)).2.2, q.1 < 1 := zvv (rounds := [ids]) (zna [ids]) (met0 c) 0 _ 0 (by simp)
  clear hrun hgo
  repeat' (first | (with_reducible first | refine zac yU yU yE ?_ | refine zab ?_ | refine DS.seq ?_ | refine zaa ?_ | (refine zbd yE ?_; refine zgb (fun _ => ?_) (fun _ => ?_)) | refine DS.skip ?_) | fail)
  ·rename_i e5
   rw [if_pos e5]
   refine zbi [] yG trivial rfl
  ·rename_i e5
   rw [if_neg (by omega)]
   have hps : 0 < ps1.length := by rw [hp1]; decide
   have hrows := hp2 e5 0 (by simp) hps
   have hfil : (runS c [ids] (-1)).2.2.filter (fun q => decide (q.1 = 0)) = (runS c [ids] (-1)).2.2 := List.filter_eq_self.2 fun q hq => by have := hlt q hq; exact decide_eq_true (by omega)
   rw [hfil] at hrows
   simp only [List.replicate, List.getElem_cons_zero, List.nil_append] at hrows
   rw [← hrows]
   have hpl1 : ps1.length = 1 := by simpa using hp1
   obtain ⟨p, rfl⟩ := List.length_eq_one_iff.1 hpl1
   have hx := s1.obj
   have hpl := s1.pln
   have hr := s1.row 0 hps
   simp only [List.length_singleton, List.map_cons, List.map_nil, List.getElem_cons_zero] at hx hpl hr ⊢
   clear hp2 hp1 hrows hfil hlt s1 hpl1
   obtain ⟨T, blk⟩ := p
   cases blk with
   | none =>
    simp only [PRow.Ok] at hr
    subst hr
    simp only [PRow.cell] at hpl
    repeat' (first | (with_reducible first | refine zac yU yU yX1 ?_ | refine zab ?_) | fail)
    refine zbi [] yG trivial rfl
   | some z =>
    obtain ⟨b, cap, jk⟩ := z
    simp only [PRow.Ok] at hr
    obtain ⟨r1, r2, r3, r4⟩ := hr
    simp only [PRow.cell] at hpl
    repeat' (first | (with_reducible first | refine zac yU yU yX1 ?_ | refine zab ?_) | fail)
    refine zjb (t := 4) (sz := 1) yR r1 (by simp) ⟨by omega, r3⟩ ?_
    refine zbi [] yG trivial ?_
    rw [zpm]
    rfl
 ·rw [if_pos hc]
  refine DC.of_run Tryz.func110 rfl Tryz.ntmps110 Tryz.results110 (by simp) (fun _ => ?_); simp only [zaq, zau, go_sem, Nat.zero_add, Nat.reduceAdd]
  repeat' (first | (with_reducible first | refine zac yU yU yE ?_ | refine zab ?_ | refine DS.seq ?_ | refine zaa ?_ | (refine zbd yE ?_; refine zde ?_)) | refine zcf inferInstance (zsw c hs) yR yT ?_ | (refine zdb (t := 2) yU yE yU ?_; simp only [zbu, zcx, zbt, zcj, zbq, zbm, zbx, zbp, zcr, zcv, zcd, zcu, zch, zcg]) | refine zbi [] yE trivial ?_ | fail)
  rfl
end Go.XL
namespace Go.XL
open Go.Proofs
set_option maxRecDepth 100000
set_option maxHeartbeats 8000000
theorem yfj (S : Sto) (g : GR) (l : List Int) (n : Int) (ok : g.Ok 3 1 S) (hg : g.l = l.map cI) {b : Nat} {T : TypeId} (hb : zad S b = some (.cells [g.cell] T)) :
  RC Tryz.prog 90 [I n, .v (.pointer (some ⟨b, 0, none⟩))] S (Bo (decide (n ∈ l))) := by
 have h := ybr S g l n ok hg
 have hc := g.cell_copy
 clear ok hg
 obtain ⟨gl, blk⟩ := g
 cases blk with
 | none =>
  simp only [GR.cell, zwi] at h hb
  refine DC.of_run Tryz.func90 rfl Tryz.ntmps90 Tryz.results90 (by simp) (fun _ => ?_); simp only [zaq, zau, go_sem, Nat.zero_add, Nat.reduceAdd]
  repeat' (first | (with_reducible first | refine zac yU yU yE ?_ | refine zab ?_ | refine DS.seq ?_ | refine zaa ?_) | refine zhx inferInstance (h) yR yT ?_ | refine zck yE ⟨?_, rfl⟩ | fail)
  rfl
 | some x =>
  obtain ⟨b, cap, j⟩ := x
  simp only [GR.cell, zmc] at h hb
  refine DC.of_run Tryz.func90 rfl Tryz.ntmps90 Tryz.results90 (by simp) (fun _ => ?_); simp only [zaq, zau, go_sem, Nat.zero_add, Nat.reduceAdd]
  repeat' (first | (with_reducible first | refine zac yU yU yE ?_ | refine zab ?_ | refine DS.seq ?_ | refine zaa ?_) | refine zhx inferInstance (h) yR yT ?_ | refine zck yE ⟨?_, rfl⟩ | fail)
  rfl
theorem yej (c : Club) (id : Int) : PC Tryz.prog 73 [c.val, I id] (I (zfs c id)) := yqg c id
theorem yX21 {p : Prop} (h : p := by (simp (disch := omega) only [go_sem, dopV, yV0, ↓reduceIte, Nat.reduceEqDiff, Nat.reduceLT, Nat.reduceLeDiff, Nat.reduceAdd, Nat.reduceMul, Nat.reduceSub, Int.reduceToNat, Int.reduceLT, Int.reduceLE, Int.reduceEq, IntWalk.toNatUp, IntWalk.iteOmega, IntWalk.i64_in, V.flat, V.one, *, GR.cell_copy]; exact rfl)) : p := h
theorem yhf (c : Club) (hs : c.Small) (f : c.Fine) (h1 : c.size ≤ 4) (h2 : 3 ≤ c.size) {i : Nat} (hi : i < c.rounds.length) : PC Tryz.prog 46 [c.val, I i] (I (zex c i)) := by
 have q1 := hs.rounds
 have q2 := hs.at hi
 have q3 := q2.tables
 have q4 := hs.members
 rw [zex, c.round_at hi]
 refine DC.of_run Tryz.func46 rfl Tryz.ntmps46 Tryz.results46 (by simp) (fun _ => ?_); simp only [zaq, zau, go_sem, Nat.zero_add, Nat.reduceAdd]
 repeat' (first | (with_reducible first | refine zac yU yU yE ?_ | refine zab ?_ | refine DS.seq ?_ | refine zaa ?_) | (refine zdb (t := 2) yU yE yU ?_; simp only [zbu, zcx, zbt, zcj, zbq, zbm, zbx, zbp, zcr, zcv, zcd, zcu, zch, zcg]) | fail)
 refine zeh yR yU yU (fun b5 hb5 => ?_)
 have hz : (List.map V.v (Value.slice none 0 0).cells.toList) = [GR.cell ⟨[], none⟩] := rfl
 rw [hz]
 clear hz hb5
 repeat' (first | (with_reducible first | refine zac yU yU yE ?_ | refine zab ?_ | refine DS.seq ?_ | refine zaa ?_ | refine DS.block ?_) | fail)
 refine zcq [1, 2, 5, 17, 18] yN (fun (x : Nat × Int × List Int × GR × Sto) => [(6, I x.2.1), (19, I x.1)]) (fun (x : Nat × Int × List Int × GR × Sto) => x.2.2.2.2) (fun (x : Nat × Int × List Int × GR × Sto) => x.1 ≤ c.rounds[i].tables.length ∧ x.2.2.1.length ≤ 4 * x.1 ∧ zdl c i c.rounds[i].tables [] 0 = zdl c i (c.rounds[i].tables.drop x.1) x.2.2.1 x.2.1 ∧ x.2.2.2.1.l = x.2.2.1.map cI ∧ x.2.2.2.1.Ok 3 1 x.2.2.2.2 ∧ zad x.2.2.2.2 b5 = some (.cells [x.2.2.2.1.cell] 22) ∧ ∀ cap j, x.2.2.2.1.blk ≠ some (b5, cap, j)) (fun (x : Nat × Int × List Int × GR × Sto) => c.rounds[i].tables.length - x.1) (0, 0, [], ⟨[], none⟩, [(b5, .cells [GR.cell ⟨[], none⟩] 22)]) yS (fun b o e => by exact e) ⟨Nat.zero_le _, by simp, rfl, rfl, rfl, by simp [zad], fun _ _ h => by cases h⟩ (fun x B hI hB => ?_); try dsimp only at hI hB; simp only [zas, zaw]
 obtain ⟨k, first, l, g, S⟩ := x
 dsimp only at hI hB
 obtain ⟨g1, g2, g3, g4, g5, g6, g7⟩ := hI
 have hI0 := And.intro g3 (And.intro g4 (And.intro g5 (And.intro g6 g7)))
 have hB0 := hB
 clear hB g3 g4 g5 g6 g7
 repeat' (first | (with_reducible first | refine zac yU yU yE ?_ | refine zab ?_ | refine DS.seq ?_ | refine zaa ?_ | (refine zbd yE ?_; first | refine zgb (fun _ => ?_) (fun _ => ?_) | refine zel (fun _ => ?_) (fun _ => ?_)) | refine DS.block ?_ | refine DS.exit yU ?_ | refine DS.skip ?_) | refine zbi [] yE trivial ?_ | fail)
 ·rename_i e1 e2
  obtain ⟨_, r0, dr4, rfl, dr6⟩ := zco (l := c.rounds[i].tables) (i := k) (by omega); rw [dr4] at hI0
  rw [hI0.1, zpq e2]; rfl
 ·rename_i e1 e2
  have hk : k < c.rounds[i].tables.length := by omega
  refine zcn [1, 2, 5, 6, 8, 17, 18, 19, 28, 29] yN (fun (j : Nat) => [(30, I j)]) (fun (j : Nat) => j ≤ c.rounds[i].tables[k].length ∧ zdw c i c.rounds[i].tables[k] none = zdw c i (c.rounds[i].tables[k].drop j) (zmk c.rounds[i].tables[k] j)) (fun (j : Nat) => c.rounds[i].tables[k].length - j) 0 yS (by simp [zmk]) (fun j B hI hB => ?_); try dsimp only at hI hB; simp only [zas, zaw]
  repeat' (first | (with_reducible first | refine zac yU yU yE ?_ | refine zab ?_ | refine DS.seq ?_ | refine zaa ?_ | (refine zbd yE ?_; refine zel (fun _ => ?_) (fun _ => ?_)) | refine DS.block ?_ | refine DS.exit yU ?_ | refine DS.skip ?_) | refine zcf inferInstance (yej c _) yR yT ?_ | refine zbi [] yE trivial ?_ | fail)
  ·rename_i e3 e4
   obtain ⟨_, r, dr1, rfl, dr3⟩ := zco (l := c.rounds[i].tables[k]) (i := j) (by omega); rw [dr1] at hI
   obtain ⟨_, r0, dr4, rfl, dr6⟩ := zco (l := c.rounds[i].tables) (i := k) (by omega); rw [dr4] at hI0
   rw [hI0.1, zgi (e := 7) e2 (by rw [hI.2, zdw, if_pos e4]) (by decide)]; rfl
  ·rename_i e3 e4
   obtain ⟨m, hm, e5, -, e7⟩ := zgu e4
   have H := And.intro e5 e7
   simp only [e5]
   clear e5 e7 e4
   repeat' (first | (with_reducible first | refine zac yU yU yE ?_ | refine zab ?_ | refine DS.seq ?_ | refine zaa ?_ | (refine zbd yE ?_; first | refine zel (fun _ => ?_) (fun _ => ?_) | refine zdk ?_ | refine yaq (fun _ => ?_) (fun _ => ?_)) | (refine zdz yU yE ?_; first | refine zow (fun _ => ?_) (fun _ => ?_) | refine GG.run ?_ | refine zfo ?_) | refine DS.blk ?_ | refine DS.skip ?_) | refine zcf inferInstance (zwh _ _) yR yT ?_ | refine zbi [] yE trivial ?_ | fail)
   all_goals obtain ⟨_, r, dr1, rfl, dr3⟩ := zco (l := c.rounds[i].tables[k]) (i := j) (by omega); rw [dr1] at hI
   ·rename_i e9
    obtain ⟨_, r0, dr4, rfl, dr6⟩ := zco (l := c.rounds[i].tables) (i := k) (by omega); rw [dr4] at hI0
    rw [hI0.1, zgi (e := 10) e2 (by rw [hI.2, zdw, if_neg (by rw [H.1]; omega), if_pos (by rw [H.2]; exact e9)]) (by decide)]; rfl
   ·rename_i e9 e10 e11
    obtain ⟨e12, e13⟩ := zht (t := c.rounds[i].tables[k]) (k := j) (by omega) (by omega)
    obtain ⟨_, r0, dr4, rfl, dr6⟩ := zco (l := c.rounds[i].tables) (i := k) (by omega); rw [dr4] at hI0
    rw [hI0.1, zgi (e := 11) e2 (by rw [hI.2, zdw, if_neg (by rw [H.1]; omega), if_neg (by rw [H.2, e9]; decide), if_pos (by rw [e13]; simp only [zib]; exact decide_eq_true e11)]) (by decide)]; rfl
   ·rename_i e9 e10 e11
    obtain ⟨e12, e13⟩ := zht (t := c.rounds[i].tables[k]) (k := j) (by omega) (by omega)
    exact DS.back (hB (j + 1) _ _ (by omega) (⟨by omega, by rw [hI.2, dr3, zdw, if_neg (by rw [H.1]; omega), if_neg (by rw [H.2, e9]; decide), if_neg (by rw [e13]; simp only [zib]; simpa using e11), zgm (by omega)]⟩) yS yS (fun b o e => by first | exact e | (simp only [zae]; split <;> simp_all)))
   ·rename_i e9 e10
    have e13 : zib (zmk c.rounds[i].tables[k] j) c.rounds[i].tables[k][j] = false := by
     have : j = 0 := by omega
     subst this; rfl
    exact DS.back (hB (j + 1) _ _ (by omega) (⟨by omega, by rw [hI.2, dr3, zdw, if_neg (by rw [H.1]; omega), if_neg (by rw [H.2, e9]; decide), if_neg (by rw [e13]; decide), zgm (by omega)]⟩) yS yS (fun b o e => by first | exact e | (simp only [zae]; split <;> simp_all)))
  ·rename_i e3
   have hids : zdw c i c.rounds[i].tables[k] none = 0 := by rw [hI.2, List.drop_eq_nil_of_le (by omega)]; rfl
   clear hI hB
   have hcf := zsl S c.rounds[i].tables[k] (fun x => decide (x ∈ l)) inferInstance (g := 90) (fs := []) (cs := [.v (.pointer (some ⟨b5, 0, none⟩))]) (fun x => yfj S g l x hI0.2.2.1 hI0.2.1 hI0.2.2.2.1)
   repeat' (first | (with_reducible first | refine zac yU yU yE ?_ | refine zab ?_ | refine DS.seq ?_ | refine zaa ?_ | (refine zbd yE ?_; first | refine zel (fun _ => ?_) (fun _ => ?_) | refine yha (fun _ => ?_) (fun _ => ?_)) | refine DS.skip ?_) | refine zhx inferInstance (hcf) yR yT ?_ | refine zbi [] yE trivial ?_ | fail)
   ·rename_i e4
    obtain ⟨_, r0, dr4, rfl, dr6⟩ := zco (l := c.rounds[i].tables) (i := k) (by omega); rw [dr4] at hI0
    obtain ⟨x, hx, hx2⟩ := List.any_eq_true.1 e4
    obtain ⟨j, hj, rfl⟩ := List.getElem_of_mem hx
    rw [hI0.1, zmo e2 hids (k := j) hj (by simpa using hx2)]; rfl
   all_goals rename_i e4 e5
   all_goals
    have hno : ∀ x ∈ c.rounds[i].tables[k], ¬ x ∈ l := fun x hx hx2 => by
     have : (c.rounds[i].tables[k].any fun x => decide (x ∈ l)) = true := List.any_eq_true.2 ⟨x, hx, by simpa using hx2⟩
     rw [this] at e4; cases e4
    have hhd := zsa (t := c.rounds[i].tables[k]) (by omega)
   ·obtain ⟨_, r0, dr4, rfl, dr6⟩ := zco (l := c.rounds[i].tables) (i := k) (by omega); rw [dr4] at hI0
    rw [hI0.1, zmn e2 hids hno (by rw [hhd]; exact e5)]; rfl
   ·obtain ⟨p1, p2, p3, p4, p5⟩ := hI0
    obtain ⟨S0, S1, s0, s1, s2, s3⟩ := GR.split p3
    have hx0 : zad S0 b5 = some (.cells [g.cell] 22) := (s3 b5 p5).1.trans p4
    have hN := And.intro hids (And.intro hno (And.intro hhd (And.intro p1 (And.intro p2 (And.intro p3 (And.intro p4 (And.intro p5 s3)))))))
    clear hno hhd p1 p2 p3 p4 p5 s3 hids hcf e4
    skip
    refine zgx (id := 23) (S0) (S1) [0, 1, 2, 3, 4, 5] 6 (by kernel_rfl) zdq (by simp only [zbb, zbe, zbf, zbg, zba]; exact rfl) (by simp only [zax, zay, List.drop_nil]; exact rfl) (s0) (s1) ?_
    repeat' (first | with_reducible refine zbw yU yU yU yX21 ?_ | fail)
    have hgl : g.l.length = l.length := by rw [hN.2.2.2.2.1, List.length_map]
    refine znh rfl rfl rfl yR (zij (g := g) (ml := c.rounds[i].tables[k].map cI) rfl yH yH yR yR (by decide) yH s2 yH yH (by rw [List.length_map]; omega) (by intro x hx; obtain ⟨y, -, rfl⟩ := List.mem_map.1 hx; rfl) ⟨by rw [List.length_map]; omega, by decide⟩) (fun u2 E' S4 hu2 hdis => ?_)
    obtain ⟨rfl, b', cap', junk', rfl, m1, m2, m3⟩ := hu2
    have hbs : zad (S4 ++ S0) b5 = some (.cells [g.cell] 22) := by rw [zbr, hdis b5 _ hx0]; exact hx0
    have hne : b' ≠ b5 := fun h => by
     have := m1.look
     rw [h, hdis b5 _ hx0] at this; cases this
    have hml : g.l ++ (c.rounds[i].tables[k].map cI).map (·.map V.copy) = (l ++ c.rounds[i].tables[k]).map cI := by
     rw [hN.2.2.2.2.1, List.map_append, List.map_map]; rfl
    rw [hml] at m1 ⊢
    simp only [GR.cell_some, zcz]
    clear hml hgl
    repeat' (first | (with_reducible first | refine zac yU yU yE ?_ | refine zab ?_ | refine zaa ?_ | refine DS.blk ?_) | (refine DS.store yR yE yE yE yE yU (by exact ⟨by with_unfolding_all rfl, by (try simp only [List.length_map, List.length_append, List.length_set, List.length_replicate, List.length_cons, List.length_nil]); omega⟩) ?_; simp only [zbo, zav, zaz, zbz, zbl, zbj, zbk]; try simp only [zao, zaf, zah, Nat.reduceEqDiff, ↓reduceIte, zak, zal, zar, zaj, zai, zap, zam]) | fail)
    have hb1 : zad (setS b5 (.cells [GR.cell ⟨(l ++ c.rounds[i].tables[k]).map cI, some (b', cap', junk')⟩] 22) (S4 ++ S0)) b5 = some (.cells [GR.cell ⟨(l ++ c.rounds[i].tables[k]).map cI, some (b', cap', junk')⟩] 22) := by rw [zbh hbs, if_pos rfl]
    have hb2 : zad (setS b5 (.cells [GR.cell ⟨(l ++ c.rounds[i].tables[k]).map cI, some (b', cap', junk')⟩] 22) (S4 ++ S0)) b' = zad S4 b' := by rw [zbh hbs, if_neg hne, zbr, m1.look]
    refine zer (S' := setS b5 (.cells [GR.cell ⟨(l ++ c.rounds[i].tables[k]).map cI, some (b', cap', junk')⟩] 22) (S4 ++ S0)) (fun b o e => by simp only [GR.cell, List.length_map] at e; exact e) ?_
    refine DS.back (hB0 (k + 1, c.rounds[i].tables[k][0], l ++ c.rounds[i].tables[k], ⟨(l ++ c.rounds[i].tables[k]).map cI, some (b', cap', junk')⟩, setS b5 (.cells [GR.cell ⟨(l ++ c.rounds[i].tables[k]).map cI, some (b', cap', junk')⟩] 22) (S4 ++ S0)) _ _ (by dsimp only; omega)
     ⟨by dsimp only; omega, by simp only [List.length_append]; omega, by dsimp only; rw [hN.2.2.2.1, List.drop_eq_getElem_cons hk, zkd e2 hN.1 hN.2.1 (by rw [hN.2.2.1]; exact e5), hN.2.2.1], rfl, m1.of (fun b cap j h => by cases h; exact hb2), hb1, fun cap j h => by cases h; exact hne rfl⟩ yS yS (fun b o e => by exact e))
 ·rename_i e1
  rw [hI0.1, List.drop_eq_nil_of_le (by omega)]; rfl
end Go.XL
namespace Go.XL
open Go.Proofs
set_option maxRecDepth 100000
set_option maxHeartbeats 4000000
theorem yft {c : Club} {i : Nat} (h : i < c.rounds.length) (h1 : zex c i = 0) (h2 : ¬ zgr c i = 0) : zed c i (c.rounds.length - i) = zgr c i := by rw [zhe h, if_neg (by omega), if_pos h2]
theorem yfs {c : Club} {i : Nat} (h : i < c.rounds.length) (h1 : zex c i = 0) (h2 : zgr c i = 0) : zed c i (c.rounds.length - i) = zed c (i + 1 : Nat) (c.rounds.length - (i + 1)) := by rw [zhe h, if_neg (by omega), if_neg (by omega)]
theorem zqj (c : Club) (hs : c.Small) : PC Tryz.prog 12 [c.val] (I (zdd c)) := by
 have q1 := hs.rounds
 have q2 := hs.members
 refine DC.of_run Tryz.func12 rfl Tryz.ntmps12 Tryz.results12 (by simp) (fun _ => ?_); simp only [zaq, zau, go_sem, Nat.zero_add, Nat.reduceAdd]
 repeat' (first | (with_reducible first | refine zac yU yU yE ?_ | refine zab ?_ | refine DS.seq ?_ | refine zaa ?_ | (refine zbd yE ?_; first | refine zgb (fun _ => ?_) (fun _ => ?_) | refine zde ?_) | (refine zdz yU yE ?_; first | refine zvj (fun _ => ?_) (fun _ => ?_) | refine GG.run ?_ | refine ztg ?_) | refine DS.skip ?_) | refine zcf inferInstance (zpj _ _ _) yR yT ?_ | (refine zdb (t := 1) yU yE yU ?_; simp only [zbu, zcx, zbt, zcj, zbq, zbm, zbx, zbp, zcr, zcv, zcd, zcu, zch, zcg]) | refine zbi [] yE trivial ?_ | fail)
 rotate_left 2
 ·rename_i e1 e2 e3
  have hr : zfi c = 2 := by rw [zfi, if_neg (by simpa using e1), if_neg (by simpa using e2), if_pos e3]
  rw [zdd, if_pos (by rw [hr]; decide), hr]; rfl
 ·rename_i e1 e2
  have hr : zfi c = 2 := by rw [zfi, if_neg (by simpa using e1), if_pos e2]
  rw [zdd, if_pos (by rw [hr]; decide), hr]; rfl
 ·rename_i e1
  have hr : zfi c = 2 := by rw [zfi, if_pos e1]
  rw [zdd, if_pos (by rw [hr]; decide), hr]; rfl
 ·rename_i e1 e2 e3 e4
  have hr : zfi c = 2 := by rw [zfi, if_neg (by simpa using e1), if_neg (by simpa using e2), if_neg (by simpa using e3), if_pos e4]
  rw [zdd, if_pos (by rw [hr]; decide), hr]; rfl
 ·rename_i e1 e2 e3 e4
  have hr : zfi c = zgq c.size c.places 1000000 0 := by rw [zfi, if_neg (by simpa using e1), if_neg (by simpa using e2), if_neg (by simpa using e3), if_neg (by simpa using e4)]
  have hz := hr
  clear hr
  repeat' (first | (with_reducible first | refine zac yU yU yE ?_ | refine zab ?_ | refine DS.seq ?_ | refine zaa ?_ | (refine zbd yE ?_; first | refine zgb (fun _ => ?_) (fun _ => ?_) | refine zel (fun _ => ?_) (fun _ => ?_)) | refine DS.block ?_ | refine DS.skip ?_) | refine zcf inferInstance (ycp c c.places 1000000 0 (by omega) (by decide) (by decide)) yR yT ?_ | refine zcf inferInstance (ygg c.members) yR yT ?_ | refine zbi [] yE trivial ?_ | fail)
  ·rename_i e5
   rw [zdd, if_pos (by omega), hz]; rfl
  ·rename_i e5 e6
   rw [zdd, if_neg (by omega), if_pos e6]; rfl
  ·rename_i e5 e6 e7
   rw [zdd, if_neg (by omega), if_neg (by omega), if_pos (by omega)]; rfl
  ·rename_i e5 e6 e7
   have f := zwz e6
   have hc : zdd c = zed c 0 c.rounds.length := by rw [zdd, if_neg (by omega), if_neg (by omega), if_neg (by omega)]
   rw [hc]
   clear hc hz
   refine zcn [1, 49] yN (fun (i : Nat) => [(50, I i)]) (fun (i : Nat) => i ≤ c.rounds.length ∧ zed c 0 c.rounds.length = zed c i (c.rounds.length - i)) (fun (i : Nat) => c.rounds.length - i) 0 yS ⟨Nat.zero_le _, rfl⟩ (fun i B hI hB => ?_); try dsimp only at hI hB; simp only [zas, zaw]
   repeat' (first | (with_reducible first | refine zac yU yU yE ?_ | refine zab ?_ | refine DS.seq ?_ | refine zaa ?_ | (refine zbd yE ?_; first | refine zgb (fun _ => ?_) (fun _ => ?_) | refine zel (fun _ => ?_) (fun _ => ?_)) | refine DS.blk ?_ | refine DS.block ?_ | refine DS.exit yU ?_ | refine DS.skip ?_) | refine zcf inferInstance (yhf c hs f e1.2 e1.1 (i := i) (by omega)) yR yT ?_ | refine zcf inferInstance (ypm c hs e1.2 (by omega) e2 e4 (i := i) (by omega) (by omega)) yR yT ?_ | refine zbi [] yE trivial ?_ | fail)
   ·rename_i e8 e9
    rw [hI.2, zuc (by omega) e9]; rfl
   ·rename_i e8 e9 e10
    rw [hI.2, yft (by omega) e9 e10]; rfl
   ·rename_i e8 e9 e10
    exact DS.back (hB (i + 1) _ _ (by omega) (⟨by omega, by rw [hI.2, yfs (by omega) e9 e10]⟩) yS yS (fun b o e => by first | exact e | (simp only [zae]; split <;> simp_all)))
   ·rename_i e8
    rw [hI.2, show c.rounds.length - i = 0 by omega]; rfl
end Go.XL
namespace Go.XL
open Go.Proofs
set_option maxRecDepth 100000
set_option maxHeartbeats 8000000
structure Hid (p : Prop) : Prop where
 out : p
def kA (a b : Int) : Value := .agg #[.int .i64 a, .int .i64 b]
def In64 (a : Int) : Prop := -9223372036854775808 ≤ a ∧ a ≤ 9223372036854775807
structure MapW (S : Sto) (b : Nat) (w : W) : Prop where
 out : ∃ f es clock, zad S b = some (.raw (.map es clock)) ∧ MapIs Tryz.prog 90 f es clock ∧ ∀ x y, In64 x → In64 y → (f (kA x y)).getD (.int .i64 0) = .int .i64 (w x y)
theorem keyA {a b : Int} (ha : In64 a) (hb : In64 b) : zlt Tryz.prog 90 (kA a b) := by
 have hw : ∀ c : Int, In64 c → (Lit.int .i64 c).wf = true := fun c hc => by
  have h1 : decide (IntKind.i64.min ≤ c) = true := decide_eq_true (show (-9223372036854775808 : Int) ≤ c from hc.1)
  have h2 : decide (c ≤ IntKind.i64.max) = true := decide_eq_true (show c ≤ (9223372036854775807 : Int) from hc.2)
  simp only [Lit.wf, h1, h2, Bool.and_self]
 have h1 : Tryz.prog.underlying 90 = some (.array 2 3) := by with_unfolding_all rfl
 have h2 : Tryz.prog.keyType 90 = true := by with_unfolding_all rfl
 have h3 : Value.formed Tryz.prog 90 (kA a b) = true := by with_unfolding_all rfl
 have h4 : Tryz.prog.underlying 3 = some (.int .i64) := by with_unfolding_all rfl
 have h5 : Tryz.prog.cellsOf 90 = 2 := by with_unfolding_all rfl
 have h6 : Tryz.prog.cellsOf 3 = 1 := by with_unfolding_all rfl
 obtain ⟨m, hm⟩ : ∃ m, Tryz.prog.types.size = m + 1 := ⟨Tryz.prog.types.size - 1, by with_unfolding_all rfl⟩
 have k1 : ∀ c, In64 c → Tryz.prog.keyLits (m + 1) 3 [.int .i64 c] = some [.int .i64 c] := fun c hc => by
  unfold Program.keyLits
  rw [h4]
  simp [hw c hc]
 unfold zlt keyOf
 rw [h1]
 simp only [h2, h3, Bool.and_self, if_true]
 rw [hm]
 unfold Program.keyLits
 rw [h1]
 simp only [h5, h6]
 have hc : (kA a b).cells.toList = [.int .i64 a, .int .i64 b] := rfl
 rw [hc]
 have hr : List.range 2 = [0, 1] := rfl
 rw [hr]
 simp [k1 a ha, k1 b hb]
def ybz (c : Club) : Prop := ∀ s ∈ c.rounds, ∀ t ∈ s.tables, ∀ x ∈ t, In64 x
theorem yX22 {p : Prop} (h : p := by (simp (disch := omega) only [go_sem, dopV, yV0, ↓reduceIte, Nat.reduceEqDiff, Nat.reduceLT, Nat.reduceLeDiff, Nat.reduceAdd, Nat.reduceMul, Nat.reduceSub, Int.reduceToNat, Int.reduceLT, Int.reduceLE, Int.reduceEq, IntWalk.toNatUp, IntWalk.iteOmega, IntWalk.i64_in, V.flat, V.one, *, List.forall_mem_map, implies_true, zdt, List.drop_zero]; exact rfl)) : p := h
theorem zrp (c : Club) (hs : c.Small) (hc : ybz c) : DC Tryz.prog 64 [c.val] [] (fun u S' => ∃ b, u = .v (.map (some b)) ∧ MapW S' b (ztm c)) := by
 have q1 := hs.rounds
 refine DC.of_run Tryz.func64 rfl Tryz.ntmps64 Tryz.results64 (by simp) (fun _ => ?_); simp only [zaq, zau, go_sem, Nat.zero_add, Nat.reduceAdd]
 repeat' (first | (with_reducible first | refine zac yU yU yE ?_ | refine zab ?_ | refine DS.seq ?_ | refine zaa ?_) | (refine zdb (t := 1) yU yE yU ?_; simp only [zbu, zcx, zbt, zcj, zbq, zbm, zbx, zbp, zcr, zcv, zcd, zcu, zch, zcg]) | fail)
 refine yom yR (fun b hb => ?_)
 simp only [zcz]
 repeat' (first | (with_reducible first | refine zac yU yU yE ?_ | refine zab ?_ | refine DS.seq ?_ | refine zaa ?_ | refine DS.block ?_) | fail)
 have M0 : MapW [(b, .raw (.map #[] 0))] b (fun _ _ => 0) := ⟨_, _, _, by simp only [zad, if_true], MapIs.empty _ _, fun _ _ _ _ => rfl⟩
 refine zcq [3, 14, 15] yN (fun (x : Nat × Sto × W) => [(16, I x.1)]) (fun (x : Nat × Sto × W) => x.2.1) (fun (x : Nat × Sto × W) => x.1 ≤ c.rounds.length ∧ MapW x.2.1 b x.2.2 ∧ ztm c = addS (c.rounds.drop x.1) x.2.2) (fun (x : Nat × Sto × W) => c.rounds.length - x.1) (0, [(b, .raw (.map #[] 0))], fun _ _ => 0) yS (fun b o e => by exact e) ⟨Nat.zero_le _, M0, rfl⟩ (fun x B hI hB => ?_); try dsimp only at hI hB; simp only [zas, zaw]
 obtain ⟨i, S, w⟩ := x
 dsimp only at hI hB
 obtain ⟨g1, g2, g3⟩ := hI
 repeat' (first | (with_reducible first | refine zac yU yU yE ?_ | refine zab ?_ | refine DS.seq ?_ | refine zaa ?_ | (refine zbd yE ?_; refine zel (fun _ => ?_) (fun _ => ?_)) | refine DS.block ?_ | refine DS.exit yU ?_ | refine DS.skip ?_) | (refine zia (t := 5) yU yE yU (fun _ => yE) yE yU (by exact ⟨by with_unfolding_all rfl, by with_unfolding_all decide⟩) (fun _ => by simp only [go_sem, Nat.reduceEqDiff, ↓reduceIte]) ?_; simp only [go_sem]) | fail)
 ·rename_i e1
  have hi : i < c.rounds.length := by omega
  have q2 := hs.at hi
  have q3 := q2.tables
  have hB0 := hB
  clear hB
  refine zcq [3, 14, 15, 16, 21, 22] yN (fun (y : Nat × Sto × W) => [(23, I y.1)]) (fun (y : Nat × Sto × W) => y.2.1) (fun (y : Nat × Sto × W) => y.1 ≤ (c.rounds[i]'hi).tables.length ∧ MapW y.2.1 b y.2.2 ∧ ztm c = addS (c.rounds.drop (i + 1)) (ztv ((c.rounds[i]'hi).tables.drop y.1) y.2.2)) (fun (y : Nat × Sto × W) => (c.rounds[i]'hi).tables.length - y.1) (0, S, w) yS (fun b o e => by exact e) ⟨Nat.zero_le _, g2, by rw [g3, List.drop_eq_getElem_cons hi]; rfl⟩ (fun y B hI hB => ?_); try dsimp only at hI hB; simp only [zas, zaw]
  obtain ⟨k, S1, w1⟩ := y
  dsimp only at hI hB
  obtain ⟨k1, k2, k3⟩ := hI
  clear g2 g3 M0
  repeat' (first | (with_reducible first | refine zac yU yU yE ?_ | refine zab ?_ | refine DS.seq ?_ | refine zaa ?_ | (refine zbd yE ?_; refine zel (fun _ => ?_) (fun _ => ?_)) | refine DS.blk ?_ | refine DS.block ?_ | refine DS.exit yU ?_ | refine DS.skip ?_) | fail)
  ·rename_i e2
   have hk : k < (c.rounds[i]'hi).tables.length := by omega
   have q4 := q2.table _ (List.getElem_mem hk)
   have hct := hc _ (List.getElem_mem hi) _ (List.getElem_mem hk)
   rw [List.drop_eq_getElem_cons hk, ztv] at k3
   have hB1 := hB
   clear hB
   refine zcq [3, 7, 14, 15, 16, 21, 22, 23, 27, 28] yN (fun (z : Nat × Sto × W) => [(29, I z.1)]) (fun (z : Nat × Sto × W) => z.2.1) (fun (z : Nat × Sto × W) => z.1 ≤ ((c.rounds[i]'hi).tables[k]'hk).length ∧ MapW z.2.1 b z.2.2 ∧ ztm c = addS (c.rounds.drop (i + 1)) (ztv ((c.rounds[i]'hi).tables.drop (k + 1)) (addT 1 (((c.rounds[i]'hi).tables[k]'hk).take z.1) (((c.rounds[i]'hi).tables[k]'hk).drop z.1) z.2.2))) (fun (z : Nat × Sto × W) => ((c.rounds[i]'hi).tables[k]'hk).length - z.1) (0, S1, w1) yS (fun b o e => by exact e) ⟨Nat.zero_le _, k2, k3⟩ (fun z B hI hB => ?_); try dsimp only at hI hB; simp only [zas, zaw]
   obtain ⟨j, S2, w2⟩ := z
   dsimp only at hI hB
   obtain ⟨j1, j2, j3⟩ := hI
   clear k2 k3
   repeat' (first | (with_reducible first | refine zac yU yU yE ?_ | refine zab ?_ | refine DS.seq ?_ | refine zaa ?_ | (refine zbd yE ?_; refine zel (fun _ => ?_) (fun _ => ?_)) | refine DS.blk ?_ | refine DS.block ?_ | refine DS.exit yU ?_ | refine DS.skip ?_) | fail)
   ·rename_i e3
    have hj : j < ((c.rounds[i]'hi).tables[k]'hk).length := by omega
    have hB2 := hB
    clear hB
    have hle : j ≤ ((c.rounds[i]'hi).tables[k]'hk).length := by omega
    obtain ⟨pre, hpre⟩ : ∃ pre, pre = ((c.rounds[i]'hi).tables[k]'hk).take j := ⟨_, rfl⟩
    have hpl : pre.length = j := by rw [hpre, List.length_take]; omega
    have hpi : ∀ x ∈ pre, In64 x := fun x hx => hct x (List.mem_of_mem_take (hpre ▸ hx))
    have htk : List.take j (List.map cI ((c.rounds[i]'hi).tables[k]'hk)) = pre.map cI := by rw [hpre, List.map_take]
    rw [← hpre] at j3
    have J0 := Hid.mk (And.intro hpre j3)
    clear hpre j3
    repeat' (first | (with_reducible first | refine zac yU yU yX22 ?_ | refine zab ?_ | refine DS.block ?_) | fail)
    clear htk
    refine zcq [3, 7, 9, 14, 15, 16, 21, 22, 23, 27, 28, 29, 36, 37] yN (fun (u : Nat × Sto × W) => [(38, I u.1)]) (fun (u : Nat × Sto × W) => u.2.1) (fun (u : Nat × Sto × W) => u.1 ≤ j ∧ MapW u.2.1 b u.2.2 ∧ addR 1 (((c.rounds[i]'hi).tables[k]'hk)[j]'hj) pre w2 = addR 1 (((c.rounds[i]'hi).tables[k]'hk)[j]'hj) (pre.drop u.1) u.2.2) (fun (u : Nat × Sto × W) => j - u.1) (0, S2, w2) yS (fun b o e => by exact e) ⟨Nat.zero_le _, j2, rfl⟩ (fun u B hI hB => ?_); try dsimp only at hI hB; simp only [zas, zaw]
    obtain ⟨p, S3, w3⟩ := u
    dsimp only at hI hB
    obtain ⟨p1, p2, p3⟩ := hI
    clear j2
    repeat' (first | (with_reducible first | refine zac yU yU yE ?_ | refine zab ?_ | refine DS.seq ?_ | refine zaa ?_ | (refine zbd yE ?_; refine zel (fun _ => ?_) (fun _ => ?_)) | refine DS.blk ?_ | refine DS.block ?_ | refine DS.exit yU ?_ | refine DS.skip ?_) | fail)
    ·rename_i e4
     have hp : p < pre.length := by omega
     obtain ⟨fm, es, clock, m1, m2, m3⟩ := p2.out
     have hdel : ∀ b' o, zad (delS b S3) b' = some o → zad S3 b' = some o ∧ zad [(b, Ob.raw (.map es clock))] b' = none := fun b' o e => by
      rw [zda] at e
      split at e
      ·cases e
      ·rename_i hne
       exact ⟨e, by simp only [zad]; rw [if_neg (fun h => hne h.symm)]⟩
     have hone : ∀ b' o, zad [(b, Ob.raw (.map es clock))] b' = some o → zad S3 b' = some o := fun b' o e => by
      simp only [zad] at e
      split at e
      ·rename_i hbb; subst hbb; rw [m1]; exact e
      ·cases e
     have hMp : MpOk Tryz.prog [⟨b, 90, .int .i64 0, fun x => (fm x).getD (.int .i64 0)⟩] ([(b, Ob.raw (.map es clock))] ++ delS b S3) := fun m hm => by
      rw [List.mem_singleton] at hm
      subst hm
      exact ⟨_, by simp [zad], es, clock, fm, rfl, m2, fun _ => rfl⟩
     refine yam (id := 14) (delS b S3) ([(b, Ob.raw (.map es clock))]) ([⟨b, 90, .int .i64 0, fun x => (fm x).getD (.int .i64 0)⟩]) [0, 1, 2, 3, 4, 5, 6, 7] 8 (by kernel_rfl) zdq (by simp only [zbb, zbe, zbf, zbg, zba]; exact rfl) (by simp only [zax, zay, List.drop_nil]; exact rfl) (hMp) (hdel) (hone) ?_
     repeat' (first | with_reducible refine zbw yU yU yU yX8 ?_ | fail)
     have hin1 := hpi _ (List.getElem_mem hp)
     have hin2 := hct _ (List.getElem_mem hj)
     have hkey := keyA hin1 hin2
     have hval := m3 _ _ hin1 hin2
     refine yfa (me := ⟨b, 90, .int .i64 0, fun x => (fm x).getD (.int .i64 0)⟩) (key := kA pre[p] (((c.rounds[i]'hi).tables[k]'hk)[j]'hj)) (List.mem_singleton.2 rfl) kd90 yU yU yR yH yH (V.Is.two _ _) hkey ?_
     simp only [hval, zcz]
     repeat' (first | with_reducible refine zbw yU yU yU yE ?_ | fail)
     refine yap (key := kA pre[p] (((c.rounds[i]'hi).tables[k]'hk)[j]'hj)) kd90 yU yU m2 hkey yH yH (V.Is.two _ _) (by simp only [zad, if_true]) yR (fun me hme _ => by rw [List.mem_singleton] at hme; subst hme; exact ⟨rfl, rfl⟩) (fun st es1 clock1 n1 n2 => ?_)
     simp only [zcz]
     repeat' (first | with_reducible refine zks yU yU yU yU yE ?_ | (with_reducible refine DD.nil ?_; simp only [zas, zaw]) | fail)
     have hs2 : zad (setS b (Ob.raw (Obj.map es1 clock1)) [(b, Ob.raw (Obj.map es clock))] ++ delS b S3) b = some (Ob.raw (Obj.map es1 clock1)) := by simp [setS, zad]
     refine DS.entryStore n2 yH (by (simp (disch := omega) only [go_sem, dopV, yV0, ↓reduceIte, Nat.reduceEqDiff, Nat.reduceLT, Nat.reduceLeDiff, Nat.reduceAdd, Nat.reduceMul, Nat.reduceSub, Int.reduceToNat, Int.reduceLT, Int.reduceLE, Int.reduceEq, IntWalk.toNatUp, IntWalk.iteOmega, IntWalk.i64_in, V.flat, V.one, goInt]; try exact rfl)) yH hs2 yR (fun es2 n3 => ?_)
     have hW : MapW (setS b (Ob.raw (Obj.map es2 clock1)) (setS b (Ob.raw (Obj.map es1 clock1)) [(b, Ob.raw (Obj.map es clock))] ++ delS b S3)) b (addP 1 w3 pre[p] (((c.rounds[i]'hi).tables[k]'hk)[j]'hj)) := by
      refine ⟨_, es2, clock1, by rw [zbh hs2, if_pos rfl], n3, fun x y hx hy => ?_⟩
      by_cases hxy : x = pre[p] ∧ y = (((c.rounds[i]'hi).tables[k]'hk)[j]'hj)
      ·rw [addP, if_pos hxy, hxy.1, hxy.2, zic]; rfl
      ·rw [addP, if_neg hxy, zkt _ _ (fun h => hxy (by simp only [kA, Value.agg.injEq] at h; simp at h; exact h)), m3 x y hx hy]
     generalize setS b (Ob.raw (Obj.map es2 clock1)) (setS b (Ob.raw (Obj.map es1 clock1)) [(b, Ob.raw (Obj.map es clock))] ++ delS b S3) = S5 at *
     clear hs2 n3 n2 n1 m1 m2 m3 hMp hdel hone hval hkey
     simp only [zbo]
     repeat' (first | (with_reducible first | refine zac yU yU yE ?_ | refine zab ?_ | refine zaa ?_ | refine DS.blk ?_) | fail)
     refine DS.back (hB (p + 1, S5, addP 1 w3 pre[p] (((c.rounds[i]'hi).tables[k]'hk)[j]'hj)) _ _ (by dsimp only; omega) ⟨by dsimp only; omega, hW, by rw [p3, List.drop_eq_getElem_cons hp, addR]⟩ yS yS (fun b o e => by exact e))
    ·rename_i e4
     have hp : p = j := by omega
     have J := J0.out
     subst hp
     rw [List.drop_eq_nil_of_le (by omega)] at p3
     skip
     refine DS.back (hB2 (p + 1, S3, w3) _ _ (by dsimp only; omega) ⟨by dsimp only; omega, p2, by rw [J.2, List.drop_eq_getElem_cons hj, addT, p3, List.take_succ_eq_append_getElem hj, ← J.1]; rfl⟩ yS yS (fun b o e => by exact e))
   ·rename_i e3
    have hje : j = ((c.rounds[i]'hi).tables[k]'hk).length := by omega
    rw [show ((c.rounds[i]'hi).tables[k]'hk).drop j = [] from List.drop_eq_nil_of_le (by omega)] at j3
    refine DS.back (hB1 (k + 1, S2, w2) _ _ (by dsimp only; omega) ⟨by dsimp only; omega, j2, j3⟩ yS yS (fun b o e => by exact e))
  ·rename_i e2
   rw [show (c.rounds[i]'hi).tables.drop k = [] from List.drop_eq_nil_of_le (by omega)] at k3
   refine DS.back (hB0 (i + 1, S1, w1) _ _ (by dsimp only; omega) ⟨by dsimp only; omega, k2, k3⟩ yS yS (fun b o e => by exact e))
 ·refine zck yG ⟨b, rfl, ?_⟩
  rw [g3, List.drop_eq_nil_of_le (by omega)]
  exact g2
end Go.XL
namespace Go.XL
open Go.Proofs
set_option maxRecDepth 100000
set_option maxHeartbeats 8000000
theorem zno {c : Club} {r : Int} : ∀ {T : List (List Int)} {s : List Int} {f : Int}, zdl c r T s f = 0 → ∀ t ∈ T, (t.length : Int) = c.size ∧ zdw c r t none = 0
 | [], _, _, _, _, h => (List.not_mem_nil h).elim
 | t :: l, s, f, e, x, h => by
  simp only [zdl] at e
  split at e
  ·cases e
  rename_i h1
  split at e
  ·rename_i h2; exact absurd e h2
  rename_i h2
  split at e
  ·cases e
  split at e
  ·cases e
  rcases List.mem_cons.1 h with rfl | h
  ·exact ⟨by omega, by omega⟩
  ·exact zno e x h
theorem znu {c : Club} : ∀ {n i : Nat}, zed c i n = 0 → ∀ k, i ≤ k → k < i + n → zex c k = 0 ∧ zgr c k = 0
 | 0, i, _, k, h1, h2 => by omega
 | n + 1, i, e, k, h1, h2 => by
  simp only [zed] at e
  split at e
  ·rename_i h; exact absurd e h
  rename_i h3
  split at e
  ·rename_i h; exact absurd e h
  rename_i h4
  by_cases hk : k = i
  ·subst hk; exact ⟨by omega, by omega⟩
  ·exact znu e k (by omega) (by omega)
theorem zxd {c : Club} (h : zdd c = 0) : zed c 0 c.rounds.length = 0 := by
 obtain ⟨h1, h2, h3⟩ := zfj h
 unfold zdd at h
 rwa [if_neg (by omega), if_neg (by omega), if_neg (by omega)] at h
theorem yaa {c : Club} (h : zdd c = 0) {i : Nat} (hi : i < c.rounds.length) : ∀ t ∈ c.rounds[i].tables, (t.length : Int) = c.size ∧ zdw c i t none = 0 := by
 have h1 := (znu (zxd h) i (Nat.zero_le _) (by omega)).1
 rw [zex, c.round_at hi] at h1
 exact zno h1
theorem ygu {c : Club} (h : zdd c = 0) : ∀ s ∈ c.rounds, yra s.tables := fun s hs t ht => by
 obtain ⟨i, hi, rfl⟩ := List.getElem_of_mem hs
 exact (zoi (yaa h hi t ht).2).1
theorem yhi {α : Type} (f : α → Nat) (m : Nat) : ∀ l : List α, (∀ x ∈ l, f x ≤ m) → (l.map f).sum ≤ l.length * m
 | [], _ => by simp
 | x :: r, h => by
  have := yhi f m r fun y hy => h y (List.mem_cons_of_mem _ hy)
  have h1 := h x (List.mem_cons_self ..)
  simp only [List.map_cons, List.sum_cons, List.length_cons, Nat.succ_mul]
  omega
theorem zwo {c : Club} (hs : c.Small) (h : zdd c = 0) (x y : Int) : ztm c x y = if x < y then (metS c x y : Int) else 0 := by
 have h1 := yhi (fun s : Sitting => s.tables.length) 1000000 c.rounds fun s h => (hs.round s h).tables
 have h2 := hs.rounds
 have h3 : c.rounds.length * 1000000 ≤ 1000000 * 1000000 := Nat.mul_le_mul_right _ h2
 rw [ztm, ykz c.rounds _ x y (ygu h) ⟨Int.le_refl _, by omega⟩]
 simp only [Int.zero_add]; rfl
theorem yio (c : Club) (a : Int) : metS c a a = 0 := by
 have k1 : ∀ T, metT a a T = 0 := fun T => by
  induction T with
  | nil => rfl
  | cons t r ih => simp [metT, ih]
 unfold metS
 generalize c.rounds = R
 induction R with
 | nil => rfl
 | cons s r ih => simp [zqc, ih, k1]
theorem zyw {c : Club} (hs : c.Small) (h : zdd c = 0) (a b : Int) : ztm c (min a b) (max a b) = metS c a b := by
 rw [zwo hs h]
 rcases Int.lt_trichotomy a b with h1 | h1 | h1
 ·rw [Int.min_eq_left (by omega), Int.max_eq_right (by omega), if_pos h1]
 ·subst h1; rw [Int.min_self, Int.max_self, if_neg (by omega), yio]; rfl
 ·rw [Int.min_eq_right (by omega), Int.max_eq_left (by omega), if_pos h1, zyt]
theorem yps (c : Club) (hs : c.Small) (hc : ybz c) (a b : Int) (ha : In64 a) (hb : In64 b) : PC Tryz.prog 21 [c.val, I a, I b] (I (metX c a b)) := by
 rw [metX]
 refine DC.of_run Tryz.func21 rfl Tryz.ntmps21 Tryz.results21 (by simp) (fun _ => ?_); simp only [zaq, zau, go_sem, Nat.zero_add, Nat.reduceAdd]
 repeat' (first | (with_reducible first | refine zac yU yU yE ?_ | refine zab ?_ | refine DS.seq ?_ | refine zaa ?_ | (refine zbd yE ?_; refine zgb (fun _ => ?_) (fun _ => ?_)) | refine DS.skip ?_) | refine zcf inferInstance (zqj c hs) yR yT ?_ | (refine zdb (t := 3) yU yE yU ?_; simp only [zbu, zcx, zbt, zcj, zbq, zbm, zbx, zbp, zcr, zcv, zcd, zcu, zch, zcg]) | refine zbi [] yE trivial ?_ | fail)
 ·rename_i e1
  rw [if_pos e1]; rfl
 ·rename_i e1
  rw [if_neg (by omega)]
  refine zdv inferInstance (zrp c hs hc) yR yH (fun u S' hu => ?_)
  obtain ⟨m, rfl, hw⟩ := hu
  obtain ⟨f, es, clock, m1, m2, m3⟩ := hw.out
  have hin1 : In64 (min a b) := by unfold In64 at *; omega
  have hin2 : In64 (max a b) := by unfold In64 at *; omega
  have hkey := keyA hin1 hin2
  have hval := m3 _ _ hin1 hin2
  rw [zyw hs e1] at hval
  have e2 : min a b = (if b < a then b else a) := by split <;> omega
  have e3 : max a b = (if b > a then b else a) := by split <;> omega
  rw [e2, e3] at hkey hval
  have J := Hid.mk hval
  clear e2 e3 hin1 hin2 hval
  repeat' (first | with_reducible refine zac yU yU yX8 ?_ | fail)
  refine yev (key := kA (if b < a then b else a) (if b > a then b else a)) kd90 yU yU m2 hkey yH yH (V.Is.two _ _) m1 yR ?_
  rw [J.out]
  simp only [zcz]
  clear m1 m2 m3 hw
  repeat' (first | (with_reducible first | refine zac yU yU yE ?_ | refine zab ?_) | refine zbi [] yE trivial ?_ | fail)
  rfl
end Go.XL
namespace Go.XL
structure GoodW (B : Int) (met : Int → Int → Bool) (w : W) : Prop where
 is : ∀ a b, a < b → met a b = decide (0 < w a b)
 bd : ∀ a b, 0 ≤ w a b ∧ w a b ≤ B
 sym : ∀ a b, met a b = met b a
theorem GoodW.mono {B B' : Int} {met : Int → Int → Bool} {w : W} (g : GoodW B met w) (h : B ≤ B') : GoodW B' met w := ⟨g.is, fun a b => ⟨(g.bd a b).1, Int.le_trans (g.bd a b).2 h⟩, g.sym⟩
theorem GoodW.add {B : Int} {met : Int → Int → Bool} {w : W} (g : GoodW B met w) (hB : B < 9223372036854775807) {t : List Int} (ht : t.Pairwise (· < ·)) : GoodW (B + 1) (zjp met t) (addT 1 [] t w) := by
 have e : ∀ x y, addT 1 [] t w x y = if x ∈ t ∧ y ∈ t ∧ x < y then w x y + 1 else w x y := fun x y => by
  have h := zte 1 t [] w x y (by simpa using ht)
  simp only [List.nil_append] at h
  have hb := g.bd x y
  rw [h, ztx (by omega)]
 refine ⟨fun a b hab => ?_, fun a b => ?_, fun a b => ?_⟩
 ·rw [e, zjp]
  have hb := g.bd a b
  by_cases h : a ∈ t ∧ b ∈ t
  ·rw [if_pos ⟨h.1, h.2, by omega⟩, if_pos ⟨h.1, h.2, hab⟩]
   exact (decide_eq_true (by omega)).symm
  ·rw [if_neg (fun h' => h ⟨h'.1, h'.2.1⟩), if_neg (fun h' => h ⟨h'.1, h'.2.1⟩)]
   exact g.is a b hab
 ·rw [e]
  have hb := g.bd a b
  split <;> omega
 ·simp only [zjp, g.sym a b]
  by_cases h : a ∈ t ∧ b ∈ t ∧ a ≠ b
  ·rw [if_pos h, if_pos ⟨h.2.1, h.1, h.2.2.symm⟩]
  ·rw [if_neg h, if_neg (fun h' => h ⟨h'.2.1, h'.1, h'.2.2.symm⟩)]
theorem yky {B : Int} {met : Int → Int → Bool} {w : W} (g : GoodW B met w) (hB : B < 9223372036854775807) {t : List Int} (ht : t.Pairwise (· < ·)) : addT (-1) [] t (addT 1 [] t w) = w := by
 funext x y
 have h1 := zte 1 t [] w x y (by simpa using ht)
 have h2 := zte (-1) t [] (addT 1 [] t w) x y (by simpa using ht)
 simp only [List.nil_append] at h1 h2
 have hb := g.bd x y
 rw [h2, h1]
 split
 ·rw [ztx (n := w x y + 1) (by omega), ztx (by omega)]; omega
 ·rfl
theorem yfl {B : Int} {met : Int → Int → Bool} {w : W} (g : GoodW B met w) {t : List Int} {id : Int} (h : ∀ a ∈ t, a < id) : zcb met t id = !t.any fun a => decide (0 < w a id) := by
 induction t with
 | nil => rfl
 | cons a r ih =>
  have h1 := g.is a id (h a (List.mem_cons_self ..))
  have h2 := ih fun b hb => h b (List.mem_cons_of_mem _ hb)
  simp only [zcb, List.all_cons, List.any_cons, h1] at h2 ⊢
  rw [h2]; simp
theorem zzn (st : List Int → Int → Bool) : ∀ (n : Nat) (t ids : List Int), (t ++ ids).Pairwise (· < ·) → ∀ x ∈ zgo st n t ids, x.length = t.length + n ∧ x.Sublist (t ++ ids) ∧ x.Pairwise (· < ·)
 | 0, t, ids, h, x, hx => by
  simp only [zgo, List.mem_singleton] at hx; subst hx
  exact ⟨rfl, List.sublist_append_left .., (List.pairwise_append.1 h).1⟩
 | n + 1, t, ids, h, x, hx => by
  have key : ∀ l : List Int, l.Sublist ids → ∀ x ∈ zfr st (zgo st n) t l, x.length = t.length + (n + 1) ∧ x.Sublist (t ++ l) ∧ x.Pairwise (· < ·) := by
   intro l
   induction l with
   | nil => intro _ x hx; simp [zfr] at hx
   | cons id r ih =>
    intro hl x hx
    simp only [zfr, List.mem_append] at hx
    rcases hx with hx | hx
    ·split at hx
     ·have hp : ((t ++ [id]) ++ r).Pairwise (· < ·) := by
       have : (t ++ id :: r).Pairwise (· < ·) := h.sublist (List.Sublist.append (List.Sublist.refl t) hl)
       simpa using this
      obtain ⟨h1, h2, h3⟩ := zzn st n (t ++ [id]) r hp x hx
      exact ⟨by simp at h1; omega, by simpa using h2, h3⟩
     ·simp at hx
    ·obtain ⟨h1, h2, h3⟩ := ih ((List.sublist_cons_self ..).trans hl) x hx
     exact ⟨h1, h2.trans (List.Sublist.append (List.Sublist.refl t) (List.sublist_cons_self ..)), h3⟩
  exact key ids (List.Sublist.refl _) x hx
theorem zzq {st : List Int → Int → Bool} {f : List Int → List Int → List (List Int)} {t l : List Int} {i : Nat} (h : i < l.length) : zfr st f t (l.drop i) = (if st t l[i] = true then f (t ++ [l[i]]) (l.drop (i + 1)) else []) ++ zfr st f t (l.drop (i + 1)) := by
 rw [List.drop_eq_getElem_cons h, zfr]
end Go.XL
namespace Go.XL
open Go.Proofs
set_option maxRecDepth 100000
set_option maxHeartbeats 8000000
def pC (size budget steps : Int) (rs : List (List Int)) (bp R bm : Nat) : List V := [I size, I budget, I steps, rows rs, .v (.slice (some ⟨bp, 0, none⟩) R R), .v (.map (some bm))]
@[go_sem] theorem yig (size budget steps : Int) (rs : List (List Int)) (bp R bm : Nat) : pC size budget steps rs bp R bm = [I size, I budget, I steps, rows rs, .v (.slice (some ⟨bp, 0, none⟩) R R), .v (.map (some bm))] := rfl
abbrev TP : Nat := 103
theorem yX23 {p : Prop} (h : p := by (simp (disch := omega) only [go_sem, dopV, yV0, ↓reduceIte, Nat.reduceEqDiff, Nat.reduceLT, Nat.reduceLeDiff, Nat.reduceAdd, Nat.reduceMul, Nat.reduceSub, Int.reduceToNat, Int.reduceLT, Int.reduceLE, Int.reduceEq, IntWalk.toNatUp, IntWalk.iteOmega, IntWalk.i64_in, V.flat, V.one, *, yig, Value.oneCell']; exact rfl)) : p := h
theorem zxv (S : Sto) {bx bp R bm : Nat} {size budget steps : Int} {rs : List (List Int)} {w : W} (hx : zad S bx = some (.cells (pC size budget steps rs bp R bm) TP)) (hw : MapW S bm w) (a id : Int) (ha : In64 a) (hid : In64 id) :
  RC Tryz.prog 141 [I a, .plc [.v (.pointer (some ⟨bx, 0, none⟩))], .plc [I id]] S (Bo (decide (0 < w a id))) := by
 obtain ⟨f, es, clock, m1, m2, m3⟩ := hw.out
 have hkey := keyA ha hid
 have hval := m3 _ _ ha hid
 have J := Hid.mk hval
 clear hval m3 hw
 refine DC.of_run Tryz.func141 rfl Tryz.ntmps141 Tryz.results141 (by simp) (fun _ => ?_); simp only [zaq, zau, go_sem, Nat.zero_add, Nat.reduceAdd]
 repeat' (first | (with_reducible first | refine zac yU yU yX23 ?_ | refine zab ?_ | refine DS.seq ?_ | refine zaa ?_) | refine zce (id := 1) [0, 1, 2, 3, 4, 5, 6] 7 (by kernel_rfl) zdq (by simp only [zbb, zbe, zbf, zbg, zba]; exact rfl) (by simp only [zax, zay, List.drop_nil]; exact rfl) ?_ | (with_reducible first | refine zbw yU yU yU yX23 ?_ | refine zdc ?_) | fail)
 refine yev (key := kA a id) kd90 yU yU m2 hkey yH yH (V.Is.two _ _) m1 yR ?_
 rw [J.out]
 simp only [zcz]
 clear m1 m2 J hkey
 repeat' (first | (with_reducible first | refine zac yU yU yE ?_ | refine zab ?_) | refine zck yE ⟨?_, rfl⟩ | fail)
 rfl
theorem zto (S : Sto) (l : List Int) {g : FuncId} {fs cs : List V} {fn : Func} (p : Int → Bool) (hf : FnOk Tryz.prog g fn) (h : ∀ x ∈ l, RC Tryz.prog g (fs ++ [I x] ++ cs) S (Bo (p x))) :
  RC Tryz.prog 111 [ints l, .fn g fs cs] S (I (idxF p l 0)) := by
 refine DC.of_run Tryz.func111 rfl Tryz.ntmps111 Tryz.results111 (by simp) (fun _ => ?_); simp only [zaq, zau, go_sem, Nat.zero_add, Nat.reduceAdd]
 refine zjc (t := 0) yG (.inl rfl) (fun hb0 => ?_); simp only [List.length_map] at hb0
 repeat' (first | (with_reducible first | refine zac yU yU yE ?_ | refine zab ?_ | refine DS.seq ?_ | refine zaa ?_ | refine DS.block ?_) | fail)
 refine zcn [0, 1, 7] yN (fun (i : Nat) => [(8, I i)]) (fun (i : Nat) => i ≤ l.length ∧ idxF p l 0 = idxF p (l.drop i) i) (fun (i : Nat) => l.length - i) 0 yS ⟨Nat.zero_le _, rfl⟩ (fun i B hI hB => ?_); try dsimp only at hI hB; simp only [zas, zaw]
 repeat' (first | (with_reducible first | refine zac yU yU yE ?_ | refine zab ?_ | refine DS.seq ?_ | refine zaa ?_ | (refine zbd yE ?_; refine zel (fun _ => ?_) (fun _ => ?_)) | refine DS.block ?_ | refine DS.exit yU ?_ | refine DS.skip ?_) | refine zck yE ⟨?_, rfl⟩ | fail)
 ·refine ylm hf (by simp (disch := omega) only [go_sem, dopV, yV0, ↓reduceIte, Nat.reduceEqDiff, Nat.reduceLT, Nat.reduceLeDiff, Nat.reduceAdd, Nat.reduceMul, Nat.reduceSub, Int.reduceToNat, Int.reduceLT, Int.reduceLE, Int.reduceEq, IntWalk.toNatUp, IntWalk.iteOmega, IntWalk.i64_in, V.flat, V.one]) (h l[i] (List.getElem_mem _)) yR yH ?_
  repeat' (first | (with_reducible first | refine zac yU yU yE ?_ | refine zab ?_ | refine DS.seq ?_ | refine zaa ?_ | (refine zbd yE ?_; refine yha (fun _ => ?_) (fun _ => ?_)) | refine DS.blk ?_ | refine DS.skip ?_) | refine zck yE ⟨?_, rfl⟩ | fail)
  ·rename_i h1 h2
   rw [hI.2, zme (p := p) (l := l) (i := i) (by omega) h2]; rfl
  ·rename_i h1 h2
   exact DS.back (hB (i + 1) _ _ (by omega) (⟨by omega, by rw [hI.2, zjx (by omega) h2]⟩) yS yS (fun b o e => by first | exact e | (simp only [zae]; split <;> simp_all)))
 ·rw [hI.2, zmf (p := p) (l := l) (i := i) (by omega)]; rfl
theorem zqd (S : Sto) (l : List Int) {g : FuncId} {fs cs : List V} {fn : Func} (p : Int → Bool) (hf : FnOk Tryz.prog g fn) (h : ∀ x ∈ l, RC Tryz.prog g (fs ++ [I x] ++ cs) S (Bo (p x))) :
  RC Tryz.prog 89 [ints l, .fn g fs cs] S (Bo (l.any p)) := by
 refine DC.of_run Tryz.func89 rfl Tryz.ntmps89 Tryz.results89 (by simp) (fun _ => ?_); simp only [zaq, zau, go_sem, Nat.zero_add, Nat.reduceAdd]
 repeat' (first | (with_reducible first | refine zac yU yU yE ?_ | refine zab ?_ | refine DS.seq ?_ | refine zaa ?_) | refine zhx inferInstance (zto S l p hf h) yR yT ?_ | refine zck yE ⟨?_, rfl⟩ | fail)
 rw [zfp, zog]
theorem yax (S : Sto) {bx bp R bm : Nat} {size budget steps : Int} {rs : List (List Int)} {w : W} (hx : zad S bx = some (.cells (pC size budget steps rs bp R bm) TP)) (hw : MapW S bm w) (t : List Int) (id : Int) (ha : ∀ a ∈ t, In64 a) (hid : In64 id) :
  RC Tryz.prog 132 [.v (.pointer (some ⟨bx, 0, none⟩)), ints t, I id] S (Bo (!t.any fun a => decide (0 < w a id))) := by
 have hcf := zqd S t (fun a => decide (0 < w a id)) inferInstance (g := 141) (fs := []) (cs := [.plc [.v (.pointer (some ⟨bx, 0, none⟩))], .plc [I id]]) (fun x hx' => zxv S hx hw x id (ha x hx') hid)
 clear hx hw
 refine DC.of_run Tryz.func132 rfl Tryz.ntmps132 Tryz.results132 (by simp) (fun _ => ?_); simp only [zaq, zau, go_sem, Nat.zero_add, Nat.reduceAdd]
 repeat' (first | (with_reducible first | refine zac yU yU yE ?_ | refine zab ?_ | refine DS.seq ?_ | refine zaa ?_) | refine zhx inferInstance (hcf) yR yT ?_ | (refine zdb (t := 3) yU yE yU ?_; simp only [zbu, zcx, zbt, zcj, zbq, zbm, zbx, zbp, zcr, zcv, zcd, zcu, zch, zcg]) | (refine zdb (t := 5) yU yE yU ?_; simp only [zbu, zcx, zbt, zcj, zbq, zbm, zbx, zbp, zcr, zcv, zcd, zcu, zch, zcg]) | refine zck yE ⟨?_, rfl⟩ | fail)
 rfl
theorem yX24 {p : Prop} (h : p := by (simp (disch := omega) only [go_sem, dopV, yV0, ↓reduceIte, Nat.reduceEqDiff, Nat.reduceLT, Nat.reduceLeDiff, Nat.reduceAdd, Nat.reduceMul, Nat.reduceSub, Int.reduceToNat, Int.reduceLT, Int.reduceLE, Int.reduceEq, IntWalk.toNatUp, IntWalk.iteOmega, IntWalk.i64_in, V.flat, V.one, *, Value.oneCell', yig]; exact rfl)) : p := h
theorem yhe (S : Sto) {bx bp R bm : Nat} {size budget steps : Int} {rs : List (List Int)} {w : W} (hx : zad S bx = some (.cells (pC size budget steps rs bp R bm) TP)) (hw : MapW S bm w) (hbx : bx ≠ bm) (t : List Int) (by' : Int) (ht : ∀ a ∈ t, In64 a) (hl : t.length ≤ 1000000) :
  DC Tryz.prog 114 [.v (.pointer (some ⟨bx, 0, none⟩)), ints t, I by'] S (fun _ S' => MapW S' bm (addT by' [] t w) ∧ ∀ b, b ≠ bm → zad S' b = zad S b) := by
 refine DC.of_run Tryz.func114 rfl Tryz.ntmps114 Tryz.results114 (by simp) (fun _ => ?_); simp only [zaq, zau, go_sem, Nat.zero_add, Nat.reduceAdd]
 repeat' (first | (with_reducible first | refine zac yU yU yE ?_ | refine zab ?_ | refine DS.seq ?_ | refine zaa ?_ | refine DS.block ?_) | fail)
 refine zcq [0, 1, 2, 10, 11] yN (fun (z : Nat × Sto × W) => [(12, I z.1)]) (fun (z : Nat × Sto × W) => z.2.1) (fun (z : Nat × Sto × W) => z.1 ≤ t.length ∧ MapW z.2.1 bm z.2.2 ∧ (∀ b, b ≠ bm → zad z.2.1 b = zad S b) ∧ addT by' [] t w = addT by' (t.take z.1) (t.drop z.1) z.2.2) (fun (z : Nat × Sto × W) => t.length - z.1) (0, S, w) yS (fun b o e => by exact e) ⟨Nat.zero_le _, hw, fun _ _ => rfl, rfl⟩ (fun z B hI hB => ?_); try dsimp only at hI hB; simp only [zas, zaw]
 obtain ⟨j, S2, w2⟩ := z
 dsimp only at hI hB
 obtain ⟨j1, j2, j4, j3⟩ := hI
 repeat' (first | (with_reducible first | refine zac yU yU yE ?_ | refine zab ?_ | refine DS.seq ?_ | refine zaa ?_ | (refine zbd yE ?_; refine zel (fun _ => ?_) (fun _ => ?_)) | refine DS.block ?_ | refine DS.exit yU ?_ | refine DS.skip ?_) | fail)
 ·rename_i e3
  have hj : j < t.length := by omega
  have hB2 := hB
  clear hB
  have hle : j ≤ t.length := by omega
  obtain ⟨pre, hpre⟩ : ∃ pre, pre = t.take j := ⟨_, rfl⟩
  have hpl : pre.length = j := by rw [hpre, List.length_take]; omega
  have hpi : ∀ x ∈ pre, In64 x := fun x hx => ht x (List.mem_of_mem_take (hpre ▸ hx))
  have htk : List.take j (List.map cI t) = pre.map cI := by rw [hpre, List.map_take]
  rw [← hpre] at j3
  have J0 := Hid.mk (And.intro hpre j3)
  have J1 := Hid.mk hx
  clear hpre j3 hx
  repeat' (first | (with_reducible first | refine zac yU yU yX22 ?_ | refine zab ?_ | refine DS.block ?_) | fail)
  clear htk
  refine zcq [0, 1, 2, 7, 10, 11, 12, 19, 20] yN (fun (u : Nat × Sto × W) => [(21, I u.1)]) (fun (u : Nat × Sto × W) => u.2.1) (fun (u : Nat × Sto × W) => u.1 ≤ j ∧ MapW u.2.1 bm u.2.2 ∧ (∀ b, b ≠ bm → zad u.2.1 b = zad S b) ∧ addR by' (t[j]'hj) pre w2 = addR by' (t[j]'hj) (pre.drop u.1) u.2.2) (fun (u : Nat × Sto × W) => j - u.1) (0, S2, w2) yS (fun b o e => by exact e) ⟨Nat.zero_le _, j2, j4, rfl⟩ (fun u B hI hB => ?_); try dsimp only at hI hB; simp only [zas, zaw]
  obtain ⟨p, S3, w3⟩ := u
  dsimp only at hI hB
  obtain ⟨p1, p2, p4, p3⟩ := hI
  clear j2 j4
  repeat' (first | (with_reducible first | refine zac yU yU yE ?_ | refine zab ?_ | refine DS.seq ?_ | refine zaa ?_ | (refine zbd yE ?_; refine zel (fun _ => ?_) (fun _ => ?_)) | refine DS.blk ?_ | refine DS.block ?_ | refine DS.exit yU ?_ | refine DS.skip ?_) | fail)
  ·rename_i e4
   have hp : p < pre.length := by omega
   obtain ⟨fm, es, clock, m1, m2, m3⟩ := p2.out
   have hdel : ∀ b' o, zad (delS bm S3) b' = some o → zad S3 b' = some o ∧ zad [(bm, Ob.raw (.map es clock))] b' = none := fun b' o e => by
    rw [zda] at e
    split at e
    ·cases e
    ·rename_i hne
     exact ⟨e, by simp only [zad]; rw [if_neg (fun h => hne h.symm)]⟩
   have hone : ∀ b' o, zad [(bm, Ob.raw (.map es clock))] b' = some o → zad S3 b' = some o := fun b' o e => by
    simp only [zad] at e
    split at e
    ·rename_i hbb; subst hbb; rw [m1]; exact e
    ·cases e
   have hMp : MpOk Tryz.prog [⟨bm, 90, .int .i64 0, fun x => (fm x).getD (.int .i64 0)⟩] ([(bm, Ob.raw (.map es clock))] ++ delS bm S3) := fun m hm => by
    rw [List.mem_singleton] at hm
    subst hm
    exact ⟨_, by simp [zad], es, clock, fm, rfl, m2, fun _ => rfl⟩
   have hxd : zad (delS bm S3) bx = some (.cells (pC size budget steps rs bp R bm) TP) := by rw [zda, if_neg hbx, p4 bx hbx]; exact J1.out
   refine yam (id := 6) (delS bm S3) ([(bm, Ob.raw (.map es clock))]) ([⟨bm, 90, .int .i64 0, fun x => (fm x).getD (.int .i64 0)⟩]) [0, 1, 2, 3, 4, 5, 6, 7, 8, 9, 10, 11] 12 (by kernel_rfl) zdq (by simp only [zbb, zbe, zbf, zbg, zba]; exact rfl) (by simp only [zax, zay, List.drop_nil]; exact rfl) (hMp) (hdel) (hone) ?_
   repeat' (first | with_reducible refine zbw yU yU yU yX24 ?_ | fail)
   have hin1 := hpi _ (List.getElem_mem hp)
   have hin2 := ht _ (List.getElem_mem hj)
   have hkey := keyA hin1 hin2
   have hval := m3 _ _ hin1 hin2
   refine yfa (me := ⟨bm, 90, .int .i64 0, fun x => (fm x).getD (.int .i64 0)⟩) (key := kA pre[p] (t[j]'hj)) (List.mem_singleton.2 rfl) kd90 yU yU yR yH yH (V.Is.two _ _) hkey ?_
   simp only [hval, zcz]
   repeat' (first | with_reducible refine zbw yU yU yU yE ?_ | fail)
   refine yap (key := kA pre[p] (t[j]'hj)) kd90 yU yU m2 hkey yH yH (V.Is.two _ _) (by simp only [zad, if_true]) yR (fun me hme _ => by rw [List.mem_singleton] at hme; subst hme; exact ⟨rfl, rfl⟩) (fun st es1 clock1 n1 n2 => ?_)
   simp only [zcz]
   repeat' (first | with_reducible refine zks yU yU yU yU yE ?_ | (with_reducible refine DD.nil ?_; simp only [zas, zaw]) | fail)
   have hs2 : zad (setS bm (Ob.raw (Obj.map es1 clock1)) [(bm, Ob.raw (Obj.map es clock))] ++ delS bm S3) bm = some (Ob.raw (Obj.map es1 clock1)) := by simp [setS, zad]
   refine DS.entryStore n2 yH (by (simp (disch := omega) only [go_sem, dopV, yV0, ↓reduceIte, Nat.reduceEqDiff, Nat.reduceLT, Nat.reduceLeDiff, Nat.reduceAdd, Nat.reduceMul, Nat.reduceSub, Int.reduceToNat, Int.reduceLT, Int.reduceLE, Int.reduceEq, IntWalk.toNatUp, IntWalk.iteOmega, IntWalk.i64_in, V.flat, V.one, goInt]; try exact rfl)) yH hs2 yR (fun es2 n3 => ?_)
   have hW : MapW (setS bm (Ob.raw (Obj.map es2 clock1)) (setS bm (Ob.raw (Obj.map es1 clock1)) [(bm, Ob.raw (Obj.map es clock))] ++ delS bm S3)) bm (addP by' w3 pre[p] (t[j]'hj)) := by
    refine ⟨_, es2, clock1, by rw [zbh hs2, if_pos rfl], n3, fun x y hx hy => ?_⟩
    by_cases hxy : x = pre[p] ∧ y = (t[j]'hj)
    ·rw [addP, if_pos hxy, hxy.1, hxy.2, zic]; rfl
    ·rw [addP, if_neg hxy, zkt _ _ (fun h => hxy (by simp only [kA, Value.agg.injEq] at h; simp at h; exact h)), m3 x y hx hy]
   have hF : ∀ b, b ≠ bm → zad (setS bm (Ob.raw (Obj.map es2 clock1)) (setS bm (Ob.raw (Obj.map es1 clock1)) [(bm, Ob.raw (Obj.map es clock))] ++ delS bm S3)) b = zad S b := fun b hb => by
    rw [zbh hs2, if_neg hb, ← p4 b hb, zbr]
    have h1 : zad (setS bm (Ob.raw (Obj.map es1 clock1)) [(bm, Ob.raw (Obj.map es clock))]) b = none := by
     rw [zbh (o0 := Ob.raw (Obj.map es clock)) (by simp [zad]), if_neg hb]; simp only [zad]; rw [if_neg (fun h => hb h.symm)]
    rw [h1]
    simp only []
    rw [zda, if_neg hb]
   generalize setS bm (Ob.raw (Obj.map es2 clock1)) (setS bm (Ob.raw (Obj.map es1 clock1)) [(bm, Ob.raw (Obj.map es clock))] ++ delS bm S3) = S5 at *
   clear hs2 n3 n2 n1 m1 m2 m3 hMp hdel hone hval hkey hxd
   simp only [zbo]
   repeat' (first | (with_reducible first | refine zac yU yU yE ?_ | refine zab ?_ | refine zaa ?_ | refine DS.blk ?_) | fail)
   refine DS.back (hB (p + 1, S5, addP by' w3 pre[p] (t[j]'hj)) _ _ (by dsimp only; omega) ⟨by dsimp only; omega, hW, hF, by rw [p3, List.drop_eq_getElem_cons hp, addR]⟩ yS yS (fun b o e => by exact e))
  ·rename_i e4
   have hp : p = j := by omega
   have J := J0.out
   subst hp
   rw [List.drop_eq_nil_of_le (by omega)] at p3
   skip
   refine DS.back (hB2 (p + 1, S3, w3) _ _ (by dsimp only; omega) ⟨by dsimp only; omega, p2, p4, by rw [J.2, List.drop_eq_getElem_cons hj, addT, p3, List.take_succ_eq_append_getElem hj, ← J.1]; rfl⟩ yS yS (fun b o e => by exact e))
 ·rename_i e3
  rw [List.drop_eq_nil_of_le (by omega)] at j3
  refine zpo yG ⟨?_, j4⟩
  rw [j3]
  exact j2
end Go.XL
namespace Go.XL
open Go.Proofs
set_option maxRecDepth 100000
set_option maxHeartbeats 8000000
theorem ynr (t : List Int) (id : Int) : PC Tryz.prog 116 [I id, .plc [ints t]] (Bo (decide (id ∈ t))) := by
 refine DC.of_run Tryz.func116 rfl Tryz.ntmps116 Tryz.results116 (by simp) (fun _ => ?_); simp only [zaq, zau, go_sem, Nat.zero_add, Nat.reduceAdd]
 repeat' (first | (with_reducible first | refine zac yU yU yE ?_ | refine zab ?_ | refine DS.seq ?_ | refine zaa ?_) | refine zcf inferInstance (ybs t id) yR yT ?_ | refine zbi [] yE trivial ?_ | fail)
 rfl
def capF (bx l bf : Nat) : List V := [.plc [.v (.pointer (some ⟨bx, 0, none⟩))], .plc [V.yl l], .v (.pointer (some ⟨bf, 0, none⟩))]
structure FEnv (S : Sto) (bx l bf : Nat) (size : Int) (met : Int → Int → Bool) : Prop where
 self : zad S bf = some (.cells [.fn 131 [] (capF bx l bf)] 37)
 srch : ∃ budget steps rs bp R bm w B, zad S bx = some (.cells (pC size budget steps rs bp R bm) TP) ∧ MapW S bm w ∧ GoodW B met w ∧ bx ≠ bm ∧ bf ≠ bx ∧ bf ≠ bm
theorem yX25 {p : Prop} (h : p := by (simp (disch := omega) only [go_sem, dopV, yV0, ↓reduceIte, Nat.reduceEqDiff, Nat.reduceLT, Nat.reduceLeDiff, Nat.reduceAdd, Nat.reduceMul, Nat.reduceSub, Int.reduceToNat, Int.reduceLT, Int.reduceLE, Int.reduceEq, IntWalk.toNatUp, IntWalk.iteOmega, IntWalk.i64_in, V.flat, V.one, *, yig]; exact rfl)) : p := h
theorem yX26 {p : Prop} (h : p := by (simp (disch := omega) only [go_sem, dopV, yV0, ↓reduceIte, Nat.reduceEqDiff, Nat.reduceLT, Nat.reduceLeDiff, Nat.reduceAdd, Nat.reduceMul, Nat.reduceSub, Int.reduceToNat, Int.reduceLT, Int.reduceLE, Int.reduceEq, IntWalk.toNatUp, IntWalk.iteOmega, IntWalk.i64_in, V.flat, V.one, *, zhv, List.forall_mem_map, implies_true, zfx, zdt]; exact rfl)) : p := h
theorem yX27 {p : Prop} (h : p := by (simp (disch := omega) only [go_sem, dopV, yV0, ↓reduceIte, Nat.reduceEqDiff, Nat.reduceLT, Nat.reduceLeDiff, Nat.reduceAdd, Nat.reduceMul, Nat.reduceSub, Int.reduceToNat, Int.reduceLT, Int.reduceLE, Int.reduceEq, IntWalk.toNatUp, IntWalk.iteOmega, IntWalk.i64_in, V.flat, V.one, *, zhv, List.forall_mem_map, implies_true, zfx, zdt]; try exact rfl)) : p := h
theorem yX28 {p : Prop} (h : p := by first | exact rfl | (simp (disch := omega) only [go_sem, dopV, yV0, ↓reduceIte, Nat.reduceEqDiff, Nat.reduceLT, Nat.reduceLeDiff, Nat.reduceAdd, Nat.reduceMul, Nat.reduceSub, Int.reduceToNat, Int.reduceLT, Int.reduceLE, Int.reduceEq, IntWalk.toNatUp, IntWalk.iteOmega, IntWalk.i64_in, V.flat, V.one, *, zhv, List.forall_mem_map, implies_true, zfx, zdt]; exact rfl)) : p := h
theorem yX29 {p : Prop} (h : p := by (simp (disch := omega) only [go_sem, dopV, yV0, ↓reduceIte, Nat.reduceEqDiff, Nat.reduceLT, Nat.reduceLeDiff, Nat.reduceAdd, Nat.reduceMul, Nat.reduceSub, Int.reduceToNat, Int.reduceLT, Int.reduceLE, Int.reduceEq, IntWalk.toNatUp, IntWalk.iteOmega, IntWalk.i64_in, V.flat, V.one, capF]; try exact rfl)) : p := h
theorem yX30 {p : Prop} (h : p := by (simp (disch := omega) only [go_sem, dopV, yV0, ↓reduceIte, Nat.reduceEqDiff, Nat.reduceLT, Nat.reduceLeDiff, Nat.reduceAdd, Nat.reduceMul, Nat.reduceSub, Int.reduceToNat, Int.reduceLT, Int.reduceLE, Int.reduceEq, IntWalk.toNatUp, IntWalk.iteOmega, IntWalk.i64_in, V.flat, V.one, capF, List.map_append]; try exact rfl)) : p := h
theorem yel {v1 : VH} {l bx bf : Nat} {size : Nat} {met : Int → Int → Bool} (Inv : List (List Int) → Sto → Prop) (Done : Sto → Prop) (hE : ∀ X S, Inv X S → FEnv S bx l bf size met)
  (hY : ∀ t X S, t.length = size → Inv (t :: X) S → YC v1 Tryz.prog l [ints t] S (fun u S' => (u = Bo true ∧ Inv X S') ∨ (u = Bo false ∧ Done S'))) :
  ∀ (n : Nat) (t ids : List Int) (X : List (List Int)) (S : Sto), n ≤ 100 → (t ++ ids).Pairwise (· < ·) → (∀ a ∈ t ++ ids, In64 a) → t.length + n = size → size ≤ 100 → ids.length ≤ 1000000 → Inv (zgo (zcb met) n t ids ++ X) S →
  DCh v1 Tryz.prog 131 [ints t, ints ids, .plc [.v (.pointer (some ⟨bx, 0, none⟩))], .plc [V.yl l], .v (.pointer (some ⟨bf, 0, none⟩))] S (fun u S' => (u = Bo true ∧ Inv X S') ∨ (u = Bo false ∧ Done S'))
 | 0, t, ids, X, S, hn, hp, hin, hl, hs, hil, hI => by
  have hI' : Inv (t :: X) S := by simpa [zgo] using hI
  obtain ⟨f1, budget, steps, rs, bp, R, bm, w, B, f2, f3, f4, f5, f6, f7⟩ := hE _ _ hI'
  have hY' := hY t X S (by omega) hI'
  have hlen : (t.length : Int) = size := by omega
  clear hI hI' hY hE f1 f3 f4
  refine DCh.of_run Tryz.func131 rfl Tryz.ntmps131 Tryz.results131 (by simp) ?_; simp only [zaq, zau, go_sem, Nat.zero_add, Nat.reduceAdd]
  repeat' (first | (with_reducible first | refine zac yU yU yX25 ?_ | refine zab ?_ | refine DS.seq ?_ | refine zaa ?_ | (refine zbd yX25 ?_; refine zde ?_)) | fail)
  refine ylk yH hY' yR yH (fun u S' hu => ?_)
  clear hY' f2
  rcases hu with ⟨rfl, hu⟩ | ⟨rfl, hu⟩
  ·repeat' (first | (with_reducible first | refine zac yU yU yE ?_ | refine zab ?_) | fail)
   refine zck yG (.inl ⟨rfl, hu⟩)
  ·repeat' (first | (with_reducible first | refine zac yU yU yE ?_ | refine zab ?_) | fail)
   refine zck yG (.inr ⟨rfl, hu⟩)
 | n + 1, t, ids, X, S, hn, hp, hin, hl, hs, hil, hI => by
  have ih := yel Inv Done hE hY n
  have hlen : ¬ (t.length : Int) = size := by omega
  have hI0 : Inv (zfr (zcb met) (zgo (zcb met) n) t ids ++ X) S := by simpa [zgo] using hI
  obtain ⟨f1, budget, steps, rs, bp, R, bm, w, B, f2, f3, f4, f5, f6, f7⟩ := hE _ _ hI0
  have htl : t.length ≤ 100 := by omega
  clear hI hY f1 f3 f4
  refine DCh.of_run Tryz.func131 rfl Tryz.ntmps131 Tryz.results131 (by simp) ?_; simp only [zaq, zau, go_sem, Nat.zero_add, Nat.reduceAdd]
  repeat' (first | (with_reducible first | refine zac yU yU yX25 ?_ | refine zab ?_ | refine DS.seq ?_ | refine zaa ?_ | (refine zbd yX25 ?_; refine zdk ?_) | refine DS.block ?_ | refine DS.skip ?_) | fail)
  clear f2 f5 f6 f7
  refine zcq [0, 1, 2, 4, 20, 21] yN (fun (x : Nat × Sto) => [(22, I x.1)]) (fun (x : Nat × Sto) => x.2) (fun (x : Nat × Sto) => x.1 ≤ ids.length ∧ Inv (zfr (zcb met) (zgo (zcb met) n) t (ids.drop x.1) ++ X) x.2) (fun (x : Nat × Sto) => ids.length - x.1) (0, S) yS (fun b o e => by exact e) ⟨Nat.zero_le _, hI0⟩ (fun x B hI hB => ?_); try dsimp only at hI hB; simp only [zas, zaw]
  clear hI0
  obtain ⟨i, S1⟩ := x
  dsimp only at hI hB
  obtain ⟨g1, g2⟩ := hI
  repeat' (first | (with_reducible first | refine zac yU yU yE ?_ | refine zab ?_ | refine DS.seq ?_ | refine zaa ?_ | (refine zbd yE ?_; refine zel (fun _ => ?_) (fun _ => ?_)) | refine DS.block ?_ | refine DS.exit yU ?_ | refine DS.skip ?_) | fail)
  ·rename_i e1
   have hi : i < ids.length := by omega
   obtain ⟨f1, budget, steps, rs, bp, R, bm, w, B, f2, f3, f4, f5, f6, f7⟩ := hE _ _ g2
   obtain ⟨fm, es, clock, m1, m2, m3⟩ := f3.out
   obtain ⟨k0, k1, k2, k3⟩ := yrk f2 m1 f5
   have hself := (k3 bf f6 f7).trans f1
   have hpt : (t ++ [ids[i]]).Pairwise (· < ·) ∧ (t ++ [ids[i]] ++ ids.drop (i + 1)).Pairwise (· < ·) := by
    have h1 : (t ++ ids.drop i).Pairwise (· < ·) := hp.sublist (List.Sublist.append (List.Sublist.refl t) (List.drop_sublist i ids))
    rw [List.drop_eq_getElem_cons hi] at h1
    have h2 : t ++ ids[i] :: ids.drop (i + 1) = t ++ [ids[i]] ++ ids.drop (i + 1) := by simp
    rw [h2] at h1
    exact ⟨h1.sublist (List.sublist_append_left ..), h1⟩
   have hlt : ∀ a ∈ t, a < ids[i] := fun a ha => (List.pairwise_append.1 hpt.1).2.2 a ha _ (by simp)
   have hst := yax [(bx, .cells (pC size budget steps rs bp R bm) TP), (bm, .raw (.map es clock))] (bx := bx) (bp := bp) (R := R) (bm := bm) (size := size) (budget := budget) (steps := steps) (rs := rs) (w := w) (by simp only [zad, if_true]) ⟨fm, es, clock, by simp [zad, f5], m2, m3⟩ t ids[i] (fun a ha => hin a (by simp [ha])) (hin _ (by simp))
   rw [← yfl f4 hlt] at hst
   have H := And.intro hpt (And.intro hlt (And.intro f1 (And.intro f2 (And.intro m1 (And.intro k2 g2)))))
   clear hpt hlt f1 f2 f3 f4 m1 m2 m3 k2 k3 f5 f6 f7 g2 hE
   skip
   refine zgx (id := 6) (delS bx (delS bm S1)) ([(bx, .cells (pC size budget steps rs bp R bm) TP), (bm, .raw (.map es clock))]) [0, 1, 2, 3, 4, 5, 6, 7, 8, 9, 10, 11, 12, 13, 14] 15 (by kernel_rfl) zdq (by simp only [zbb, zbe, zbf, zbg, zba]; exact rfl) (by simp only [zax, zay, List.drop_nil]; exact rfl) (k0) (k1) ?_
   repeat' (first | with_reducible refine zbw yU yU yU yE ?_ | fail)
   refine yqx inferInstance hst yR yH ?_
   repeat' (first | (with_reducible first | refine zac yU yU yX26 ?_ | refine zab ?_ | refine zaa ?_ | (refine zbd yX26 ?_; refine zdk ?_) | (refine zdz yU yX26 ?_; first | refine GG.run ?_ | refine zfo ?_) | refine DS.blk ?_ | refine DS.skip ?_ | refine zbw yU yU yU yX26 ?_ | (refine zni yU yX26 ?_; first | refine DGG.run ?_ | refine zmt ?_ | refine ysq (fun _ => ?_) (fun _ => ?_))) | (with_reducible refine DD.nil ?_; simp only [zas, zaw]) | refine zpa inferInstance (zzz t (by omega)) yU yX27 ?_; simp only [zcc, zcm, Nat.reduceEqDiff, ↓reduceIte] | (refine zhn yU yX26 yX26 ?_; simp only [go_sem, Nat.zero_add, Nat.reduceAdd]; simp only [zcc, zcm, Nat.reduceEqDiff, ↓reduceIte]) | (refine DD.append (mm := false) yU yX26 yX26 yU (by decide) yX26 (by first | exact .inl rfl | exact .inr ⟨rfl, rfl⟩) yX26 yX28 (by first | exact zat zdt _ | exact zat zeq _ | exact zat Member.len _ | exact zat Sitting.len _ | exact zat Ruling.len _ | (simp only [List.mem_cons, List.not_mem_nil, or_false, forall_eq]; rfl) | simp) ⟨by (try simp only [List.length_map, List.length_cons, List.length_nil, List.length_append, List.length_take, List.length_drop]); omega, by decide⟩ ?_; simp only [zao, zaf, zah, Nat.reduceEqDiff, ↓reduceIte, zak, zal, zar, zaj, zai, zap, zam]; simp only [zcc, zcm, Nat.reduceEqDiff, ↓reduceIte]) | fail)
   ·rename_i e2
    refine zer (S' := S1) (fun b o e => H.2.2.2.2.2.1 b o e) ?_
    have hih := ih (t ++ [ids[i]]) (ids.drop (i + 1)) (zfr (zcb met) (zgo (zcb met) n) t (ids.drop (i + 1)) ++ X) S1 (by omega) H.1.2 (fun a ha => hin a (by
     simp only [List.append_assoc, List.mem_append, List.mem_singleton] at ha ⊢
     rcases ha with h | h | h
     ·exact .inl h
     ·exact .inr (h ▸ List.getElem_mem _)
     ·exact .inr (List.mem_of_mem_drop h))) (by simp; omega) hs (by simp; omega) (by
     have h1 := H.2.2.2.2.2.2
     rw [zzq hi, if_pos e2, List.append_assoc] at h1
     exact h1)
    clear ih
    have ea : ints (t ++ [ids[i]]) = .lst (List.map cI t ++ [[.v (.int .i64 ids[i])]]) := by simp [cI]
    rw [ea] at hih
    refine zvk inferInstance yX29 hih yR yX30 (fun u S' hu => ?_)
    clear hih
    rcases hu with ⟨rfl, hu⟩ | ⟨rfl, hu⟩
    ·repeat' (first | (with_reducible first | refine zac yU yU yE ?_ | refine zab ?_ | refine zaa ?_ | (refine zbd yE ?_; refine zdk ?_) | (refine zdz yU yE ?_; refine GG.run ?_) | refine DS.blk ?_ | refine DS.skip ?_) | fail)
     refine DS.back (hB (i + 1, S') _ _ (by dsimp only; omega) ⟨by dsimp only; omega, hu⟩ yS yS (fun b o e => by exact e))
    ·repeat' (first | (with_reducible first | refine zac yU yU yE ?_ | refine zab ?_ | refine DS.seq ?_ | refine zaa ?_ | (refine zbd yE ?_; refine zde ?_) | (refine zdz yU yE ?_; refine GG.run ?_)) | fail)
     refine zck yG (.inr ⟨rfl, hu⟩)
   ·rename_i e2
    refine zer (S' := S1) (fun b o e => H.2.2.2.2.2.1 b o e) ?_
    have h1 := H.2.2.2.2.2.2
    rw [zzq hi, if_neg (by rw [e2]; decide), List.nil_append] at h1
    refine DS.back (hB (i + 1, S1) _ _ (by dsimp only; omega) ⟨by dsimp only; omega, h1⟩ yS yS (fun b o e => by exact e))
  ·rename_i e1
   rw [List.drop_eq_nil_of_le (by omega)] at g2
   refine zck yG (.inl ⟨rfl, by simpa [zfr] using g2⟩)
theorem ygp (bx : Nat) (t ids : List Int) : PC Tryz.prog 113 [.v (.pointer (some ⟨bx, 0, none⟩)), ints t, ints ids] (.fn 130 [] [.plc [.v (.pointer (some ⟨bx, 0, none⟩))], .plc [ints t], .plc [ints ids]]) := by
 refine DC.of_run Tryz.func113 rfl Tryz.ntmps113 Tryz.results113 (by simp) (fun _ => ?_); simp only [zaq, zau, go_sem, Nat.zero_add, Nat.reduceAdd]
 repeat' (first | (with_reducible first | refine zac yU yU yE ?_ | refine zab ?_ | refine DS.seq ?_ | refine zaa ?_) | (refine zdb (t := 3) yU yE yU ?_; simp only [zbu, zcx, zbt, zcj, zbq, zbm, zbx, zbp, zcr, zcv, zcd, zcu, zch, zcg]) | (refine zdb (t := 4) yU yE yU ?_; simp only [zbu, zcx, zbt, zcj, zbq, zbm, zbx, zbp, zcr, zcv, zcd, zcu, zch, zcg]) | (refine zdb (t := 5) yU yE yU ?_; simp only [zbu, zcx, zbt, zcj, zbq, zbm, zbx, zbp, zcr, zcv, zcd, zcu, zch, zcg]) | refine zbi [] yE trivial ?_ | fail)
 rfl
def zje (S : Sto) (bx l bf : Nat) : Prop := zad S bf = some (.cells [.fn 131 [] (capF bx l bf)] 37)
def ytv (S : Sto) (bx : Nat) (size : Int) (met : Int → Int → Bool) : Prop := ∃ budget steps rs bp R bm w B, zad S bx = some (.cells (pC size budget steps rs bp R bm) TP) ∧ MapW S bm w ∧ GoodW B met w ∧ bx ≠ bm
theorem ybn {v1 : VH} {l bx : Nat} {size : Nat} {met : Int → Int → Bool} (Inv : List (List Int) → Sto → Prop) (Done : Sto → Prop) (S : Sto) (n : Nat) (t ids : List Int) (hn : n ≤ 100) (hp : (t ++ ids).Pairwise (· < ·)) (hin : ∀ a ∈ t ++ ids, In64 a) (hl : t.length + n = size) (hs : size ≤ 100) (hil : ids.length ≤ 1000000)
  (hE : ∀ X S, Inv X S → ytv S bx size met)
  (hY : ∀ bf t X S, t.length = size → Inv (t :: X) S → zje S bx l bf → YC v1 Tryz.prog l [ints t] S (fun u S' => ((u = Bo true ∧ Inv X S') ∨ (u = Bo false ∧ Done S')) ∧ zje S' bx l bf))
  (hI : ∀ S', (∀ b o, zad S b = some o → zad S' b = some o) → Inv (zgo (zcb met) n t ids) S') :
  DCh v1 Tryz.prog 130 [V.yl l, .plc [.v (.pointer (some ⟨bx, 0, none⟩))], .plc [ints t], .plc [ints ids]] S (fun _ S' => Inv [] S' ∨ Done S') := by
 refine DCh.of_run Tryz.func130 rfl Tryz.ntmps130 Tryz.results130 (by simp) ?_; simp only [zaq, zau, go_sem, Nat.zero_add, Nat.reduceAdd]
 repeat' (first | (with_reducible first | refine zab ?_ | refine DS.seq ?_ | refine zaa ?_) | (refine zdb (t := 4) yU yE yU ?_; simp only [zbu, zcx, zbt, zcj, zbq, zbm, zbx, zbp, zcr, zcv, zcd, zcu, zch, zcg]) | fail)
 refine zeh yR yU yU (fun bf hbf => ?_)
 have hz : (List.map V.v (Value.nilFunc).cells.toList) = [.v .nilFunc] := rfl
 rw [hz]
 clear hz
 repeat' (first | (with_reducible first | refine zac yU yU yE ?_ | refine zab ?_ | refine DS.seq ?_ | refine zaa ?_) | (refine DS.store yR yE yE yE yE yU (by exact ⟨by with_unfolding_all rfl, by (try simp only [List.length_map, List.length_append, List.length_set, List.length_replicate, List.length_cons, List.length_nil]); omega⟩) ?_; simp only [zbo, zav, zaz, zbz, zbl, zbj, zbk]; try simp only [zao, zaf, zah, Nat.reduceEqDiff, ↓reduceIte, zak, zal, zar, zaj, zai, zap, zam]) | fail)
 refine zer (S' := (bf, .cells [.fn 131 [] (capF bx l bf)] 37) :: S) (fun b o e => by simp only [setS, if_true, yhq, zav, zaz, zby]; exact e) ?_
 have hS2 : zje ((bf, .cells [.fn 131 [] (capF bx l bf)] 37) :: S) bx l bf := by simp [zje, zad]
 have hI2 := hI ((bf, .cells [.fn 131 [] (capF bx l bf)] 37) :: S) (fun b o e => by
  simp only [zad]
  rw [if_neg (fun h => by subst h; rw [hbf] at e; cases e)]; exact e)
 generalize ((bf, Ob.cells [.fn 131 [] (capF bx l bf)] 37) :: S) = S2 at *
 have hd := yel (v1 := v1) (l := l) (bx := bx) (bf := bf) (size := size) (met := met) (fun X S => Inv X S ∧ zje S bx l bf) (fun S => Done S ∧ zje S bx l bf)
  (fun X S h => by
   obtain ⟨budget, steps, rs, bp, R, bm, w, B, f2, f3, f4, f5⟩ := hE X S h.1
   have hs := h.2
   refine ⟨h.2, budget, steps, rs, bp, R, bm, w, B, f2, f3, f4, f5, fun e => ?_, fun e => ?_⟩
   ·subst e
    simp only [zje] at hs
    rw [hs] at f2
    simp [pC] at f2
   ·subst e
    obtain ⟨_, _, _, m1, _⟩ := f3.out
    simp only [zje] at hs
    rw [hs] at m1
    simp at m1)
  (fun t X S h1 h2 K hv hold h xs a1 a2 a3 w a4 => by
   obtain ⟨f, tm, x, y, b1, b2⟩ := hY bf t X S h1 h2.1 h2.2 K hv hold h xs a1 a2 a3 w a4
   refine ⟨f, tm, x, y, b1, b2.mono fun e w' ⟨u, c1, c2, v, S', hv', hold', c3, c4, c5, c6⟩ => ⟨u, c1, c2, v, S', hv', hold', c3, c4, ?_⟩⟩
   rcases c5 with ⟨rfl, c5⟩ | ⟨rfl, c5⟩
   ·exact .inl ⟨rfl, c5, c6⟩
   ·exact .inr ⟨rfl, c5, c6⟩)
  n t ids [] S2 hn hp hin hl hs hil ⟨by simpa using hI2, hS2⟩
 clear hE hY hI hI2 hbf
 refine zvk inferInstance yX29 hd yR yX29 (fun u S' hu => ?_)
 repeat' (first | with_reducible refine zab ?_ | fail)
 refine zpo yG ?_
 rcases hu with ⟨rfl, hu⟩ | ⟨rfl, hu⟩
 ·exact .inl hu.1
 ·exact .inr hu.1
end Go.XL
namespace Go.XL
open Go.Proofs
set_option maxRecDepth 100000
set_option maxHeartbeats 8000000
structure SearchP (S : Sto) (bx bp bm : Nat) (size : Int) (rs : List (List Int)) (budget steps : Int) (w : W) (ps : List PRow) : Prop where
 obj : zad S bx = some (.cells (pC size budget steps rs bp ps.length bm) TP)
 map : MapW S bm w
 pln : zad S bp = some (.cells (ps.map PRow.cell) 49)
 row : ∀ (i : Nat) (h : i < ps.length), ps[i].Ok S
 xp : bx ≠ bp
 rx : ∀ (i : Nat) (h : i < ps.length) (b cap : Nat) (j : List V), ps[i].blk = some (b, cap, j) → b ≠ bx ∧ b ≠ bp
 rr : ∀ (i k : Nat) (hi : i < ps.length) (hk : k < ps.length) (b cap cap' : Nat) (j j' : List V), ps[i].blk = some (b, cap, j) → ps[k].blk = some (b, cap', j') → i = k
section
variable {S S' : Sto} {bx bp bm : Nat} {size budget steps : Int} {rs : List (List Int)} {w : W} {ps : List PRow}
theorem MapW.ne_cells {S : Sto} {b bm : Nat} {w : W} (m : MapW S bm w) {l : List V} {T : TypeId} (h : zad S b = some (.cells l T)) : b ≠ bm := fun e => by
 subst e
 obtain ⟨_, _, _, m1, _⟩ := m.out
 rw [h] at m1; simp at m1
theorem MapW.of {S S' : Sto} {bm : Nat} {w : W} (m : MapW S bm w) (e : zad S' bm = zad S bm) : MapW S' bm w := by
 obtain ⟨f, es, clock, m1, m2, m3⟩ := m.out
 exact ⟨f, es, clock, by rw [e]; exact m1, m2, m3⟩
theorem SearchP.xm (s : SearchP S bx bp bm size rs budget steps w ps) : bx ≠ bm := s.map.ne_cells s.obj
theorem SearchP.pm (s : SearchP S bx bp bm size rs budget steps w ps) : bp ≠ bm := s.map.ne_cells s.pln
theorem SearchP.rm (s : SearchP S bx bp bm size rs budget steps w ps) {i : Nat} (h : i < ps.length) {b cap : Nat} {j : List V} (hb : ps[i].blk = some (b, cap, j)) : b ≠ bm := by
 have h3 := s.row i h
 generalize ps[i] = p at hb h3
 obtain ⟨T', blk⟩ := p
 dsimp only at hb
 subst hb
 exact s.map.ne_cells h3.1
theorem SearchP.of (s : SearchP S bx bp bm size rs budget steps w ps) (e : ∀ b, b = bx ∨ b = bp ∨ b = bm ∨ (∃ (i : Nat) (h : i < ps.length) (cap : Nat) (j : List V), ps[i].blk = some (b, cap, j)) → zad S' b = zad S b) : SearchP S' bx bp bm size rs budget steps w ps :=
 ⟨by rw [e _ (.inl rfl)]; exact s.obj, s.map.of (e _ (.inr (.inr (.inl rfl)))), by rw [e _ (.inr (.inl rfl))]; exact s.pln, fun i h => (s.row i h).of fun b cap j hb => e b (.inr (.inr (.inr ⟨i, h, cap, j, hb⟩))), s.xp, s.rx, s.rr⟩
theorem SearchP.steps' (s : SearchP S bx bp bm size rs budget steps w ps) (n : Int) : SearchP (setS bx (.cells (pC size budget n rs bp ps.length bm) TP) S) bx bp bm size rs budget n w ps := by
 have e : ∀ b, b ≠ bx → zad (setS bx (.cells (pC size budget n rs bp ps.length bm) TP) S) b = zad S b := fun b hb => by rw [zbh s.obj, if_neg hb]
 refine ⟨by rw [zbh s.obj, if_pos rfl], s.map.of (e _ s.xm.symm), by rw [e _ s.xp.symm]; exact s.pln, fun i h => (s.row i h).of fun b cap j hb => e b (s.rx i h b cap j hb).1, s.xp, s.rx, s.rr⟩
theorem SearchP.counted {w' : W} (s : SearchP S bx bp bm size rs budget steps w ps) (m : MapW S' bm w') (e : ∀ b, b ≠ bm → zad S' b = zad S b) : SearchP S' bx bp bm size rs budget steps w' ps :=
 ⟨by rw [e _ s.xm]; exact s.obj, m, by rw [e _ s.pm]; exact s.pln, fun i h => (s.row i h).of fun b cap j hb => e b (s.rm h hb), s.xp, s.rx, s.rr⟩
theorem SearchP.turn (s : SearchP S bx bp bm size rs budget steps w ps) {r : Nat} (hr : r < ps.length) {T : List (List Int)} {b' cap' : Nat} {junk : List V}
  (hb : (∃ cap j, ps[r].blk = some (b', cap, j)) ∨ zad S b' = none) (hok : PRow.Ok S' ⟨T, some (b', cap', junk)⟩) (hp : zad S' bp = some (.cells ((ps.map PRow.cell).set r (.v (.slice (some ⟨b', 0, none⟩) T.length cap'))) 49))
  (e : ∀ b, b ≠ bp → b ≠ b' → (∀ cap j, ps[r].blk ≠ some (b, cap, j)) → zad S' b = zad S b) :
  SearchP S' bx bp bm size rs budget steps w (ps.set r ⟨T, some (b', cap', junk)⟩) := by
 have n1 : b' ≠ bx ∧ b' ≠ bp := by
  rcases hb with ⟨cap, j, h⟩ | h
  ·exact s.rx r hr b' cap j h
  ·refine ⟨?_, ?_⟩
   ·intro h'; rw [h', s.obj] at h; cases h
   ·intro h'; rw [h', s.pln] at h; cases h
 have nm : b' ≠ bm := by
  rcases hb with ⟨cap, j, h⟩ | h
  ·exact s.rm hr h
  ·intro h'
   obtain ⟨_, _, _, m1, _⟩ := s.map.out
   rw [h', m1] at h; cases h
 have nb : ∀ (i : Nat) (h : i < ps.length) (cap : Nat) (j : List V), ps[i].blk = some (b', cap, j) → i = r := fun i h cap j hi => by
  rcases hb with ⟨cap2, j2, h2⟩ | h2
  ·exact s.rr i r h hr b' cap cap2 j j2 hi h2
  ·have h3 := s.row i h
   generalize ps[i] = p at hi h3
   obtain ⟨T', blk⟩ := p
   dsimp only at hi
   subst hi
   rw [h3.1] at h2; cases h2
 have eb : ∀ (i : Nat) (h : i < ps.length) (b cap : Nat) (j : List V), i ≠ r → ps[i].blk = some (b, cap, j) → zad S' b = zad S b := fun i h b cap j hir hi => by
  refine e b (s.rx i h b cap j hi).2 (fun hbb => ?_) fun cap2 j2 h2 => hir (s.rr i r h hr b cap cap2 j j2 hi h2)
  subst hbb; exact hir (nb i h cap j hi)
 have gs : ∀ (i : Nat) (h : i < (ps.set r ⟨T, some (b', cap', junk)⟩).length), (ps.set r ⟨T, some (b', cap', junk)⟩)[i] = if r = i then ⟨T, some (b', cap', junk)⟩ else ps[i]'(by simpa using h) := fun i h => by rw [List.getElem_set]
 refine ⟨?_, s.map.of ?_, ?_, fun i h => ?_, s.xp, fun i h b cap j hi => ?_, fun i k hi hk b cap cap2 j j2 h1 h2 => ?_⟩
 ·rw [e bx s.xp n1.1.symm fun cap j h4 => (s.rx r hr bx cap j h4).1 rfl, s.obj, List.length_set]
 ·exact e bm s.pm.symm nm.symm fun cap j h4 => (s.rm hr h4) rfl
 ·rw [hp, List.map_set]; rfl
 ·rw [gs]
  have h' : i < ps.length := by simpa using h
  by_cases hir : r = i
  ·rw [if_pos hir]; exact hok
  ·rw [if_neg hir]; exact (s.row i h').of fun b cap j hi => eb i h' b cap j (Ne.symm hir) hi
 ·rw [gs] at hi
  have h' : i < ps.length := by simpa using h
  by_cases hir : r = i
  ·rw [if_pos hir] at hi; cases hi; exact n1
  ·rw [if_neg hir] at hi; exact s.rx i h' b cap j hi
 ·rw [gs] at h1 h2
  have hi' : i < ps.length := by simpa using hi
  have hk' : k < ps.length := by simpa using hk
  by_cases hir : r = i
  ·rw [if_pos hir] at h1
   by_cases hkr : r = k
   ·omega
   ·rw [if_neg hkr] at h2
    simp only [Option.some.injEq, Prod.mk.injEq] at h1
    obtain ⟨rfl, _⟩ := h1
    exact hir ▸ (nb k hk' cap2 j2 h2).symm
  ·rw [if_neg hir] at h1
   by_cases hkr : r = k
   ·rw [if_pos hkr] at h2
    simp only [Option.some.injEq, Prod.mk.injEq] at h2
    obtain ⟨rfl, _⟩ := h2
    exact hkr ▸ nb i hi' cap j h1
   ·rw [if_neg hkr] at h2
    exact s.rr i k hi' hk' b cap cap2 j j2 h1 h2
theorem SearchP.appended {S0 Sr S4 : Sto} (s : SearchP S bx bp bm size rs budget steps w ps) {r : Nat} (hr : r < ps.length) {p : PRow} (hp : p = ps[r])
  (k3 : ∀ b, (∀ cap j, p.blk ≠ some (b, cap, j)) → zad S0 b = zad S b ∧ zad Sr b = none) (hdis : ∀ b o, zad S0 b = some o → zad S4 b = none) {T : List (List Int)} {b' cap' : Nat} {junk : List V} (m1 : PRow.Ok S4 ⟨T, some (b', cap', junk)⟩)
  (m2 : (∃ cap j, p.blk = some (b', cap, j)) ∨ zad Sr b' = none) (m3 : ∀ b, b ≠ b' → (∀ cap j, p.blk ≠ some (b, cap, j)) → zad S4 b = zad Sr b) :
  zad (S4 ++ S0) bp = some (.cells (ps.map PRow.cell) 49) ∧
  SearchP (setS bp (.cells ((ps.map PRow.cell).set r (.v (.slice (some ⟨b', 0, none⟩) T.length cap'))) 49) (S4 ++ S0)) bx bp bm size rs budget steps w (ps.set r ⟨T, some (b', cap', junk)⟩) ∧
  ∀ b o, b ≠ bp → (∀ cap j, p.blk ≠ some (b, cap, j)) → zad S b = some o → zad (setS bp (.cells ((ps.map PRow.cell).set r (.v (.slice (some ⟨b', 0, none⟩) T.length cap'))) 49) (S4 ++ S0)) b = some o := by
 subst hp
 have hbp := k3 bp fun cap j h => (s.rx r hr bp cap j h).2 rfl
 have h0 : zad S0 bp = some (.cells (ps.map PRow.cell) 49) := hbp.1.trans s.pln
 have h1 : zad (S4 ++ S0) bp = some (.cells (ps.map PRow.cell) 49) := by rw [zbr, hdis bp _ h0]; exact h0
 have h2 : ∃ cap j, zad S4 b' = some (.cells ((T.map fun t => ints t) ++ j) cap) := ⟨_, _, m1.1⟩
 have h3 : b' ≠ bp := fun h => by
  obtain ⟨_, _, h2⟩ := h2
  rw [h, hdis bp _ h0] at h2; cases h2
 refine ⟨h1, s.turn hr ?_ (m1.of fun b cap j h => ?_) ?_ fun b e1 e2 e3 => ?_, fun b o e1 e2 e3 => ?_⟩
 ·by_cases hold : ∃ cap j, ps[r].blk = some (b', cap, j)
  ·exact .inl hold
  ·right
   have hk := k3 b' fun cap j h => hold ⟨cap, j, h⟩
   rw [← hk.1]
   cases hh : zad S0 b' with
   | none => rfl
   | some o =>
    obtain ⟨_, _, h2⟩ := h2
    rw [hdis b' o hh] at h2; cases h2
 ·simp only [Option.some.injEq, Prod.mk.injEq] at h
  obtain ⟨rfl, _⟩ := h
  rw [zbh h1, if_neg h3, zbr, m1.1]
 ·rw [zbh h1, if_pos rfl]
 ·rw [zbh h1, if_neg e1, zbr, m3 b e2 e3, (k3 b e3).2]
  exact (k3 b e3).1
 ·have h4 := (k3 b e2).1.trans e3
  rw [zbh h1, if_neg e1, zbr, hdis b o h4]
  exact h4
end
def zof (p : Nat → Bool) : Sto → Sto
 | [] => []
 | (d, x) :: r => if p d = true then (d, x) :: zof p r else zof p r
theorem zhh (p : Nat → Bool) (b : Nat) : ∀ S : Sto, zad (zof p S) b = if p b = true then zad S b else none
 | [] => by simp [zof, zad]
 | (d, x) :: r => by
  simp only [zof, zad]
  have ih := zhh p b r
  by_cases hd : p d = true
  ·rw [if_pos hd]
   simp only [zad]
   by_cases hb : d = b
   ·subst hb; rw [if_pos rfl, if_pos rfl, if_pos hd]
   ·rw [if_neg hb, if_neg hb, ih]
  ·rw [if_neg hd, ih]
   by_cases hb : d = b
   ·subst hb; rw [if_neg hd, if_neg hd]
   ·rw [if_neg hb]
def inP (bx bp bm : Nat) (ps : List PRow) (b : Nat) : Bool := decide (b = bx) || decide (b = bp) || decide (b = bm) || ps.any fun p => match p.blk with
 | some (c, _, _) => decide (b = c)
 | none => false
theorem yjf {bx bp bm : Nat} {ps : List PRow} {i : Nat} (h : i < ps.length) {b cap : Nat} {j : List V} (hb : ps[i].blk = some (b, cap, j)) : inP bx bp bm ps b = true := by
 have : (ps.any fun p => match p.blk with
  | some (c, _, _) => decide (b = c)
  | none => false) = true := List.any_eq_true.2 ⟨ps[i], List.getElem_mem h, by rw [hb]; simp⟩
 simp [inP, this]
theorem zmz {bx bp bm : Nat} {ps : List PRow} {b : Nat} (h : inP bx bp bm ps b = false) : b ≠ bx ∧ b ≠ bp ∧ b ≠ bm ∧ ∀ (i : Nat) (hi : i < ps.length) (cap : Nat) (j : List V), ps[i].blk ≠ some (b, cap, j) := by
 refine ⟨fun e => ?_, fun e => ?_, fun e => ?_, fun i hi cap j e => ?_⟩
 ·subst e; simp [inP] at h
 ·subst e; simp [inP] at h
 ·subst e; simp [inP] at h
 ·rw [yjf hi e] at h; cases h
end Go.XL
namespace Go.XL
open Go.Proofs
set_option maxRecDepth 100000
set_option maxHeartbeats 8000000
@[go_sem] theorem selO_none (t : Nat) (r : VEnv) : selO t r none = r := rfl
theorem znf {P : Program} {n : Nat} {r : Rr} {rs : List ResultVar} {R : V → Sto → Prop} {k : List Fr} {E : VEnv} {S : Sto} (T : Sto) {vs : List V} (h1 : resV P E S rs = some vs) (h2 : ∀ b o, zad T b = some o → zad S b = some o) (h3 : R (tupV vs) T) (hk : popR k = none := by rfl) : DS P n r (FinV P rs R) (.code .ret :: k) E S :=
 DS.ret hk ⟨vs, T, h1, h2, h3⟩
def zmj (bx bp bm : Nat) (size : Int) (rs : List (List Int)) (budget : Int) (w : W) (ps : List PRow) (res : Int × Int × List (Nat × List Int)) (u : V) (S' : Sto) : Prop :=
 u = I res.1 ∧ ∃ w' ps', SearchP S' bx bp bm size rs budget res.2.1 w' ps' ∧ ps'.length = ps.length ∧ (res.1 = 2 → w' = w ∧ ∀ (i : Nat) (h : i < ps.length) (h' : i < ps'.length), ps'[i].rows = ps[i].rows) ∧
  (res.1 = 1 → ∀ (i : Nat) (h : i < ps.length) (h' : i < ps'.length), ps'[i].rows = ps[i].rows ++ (res.2.2.filter fun q => decide (q.1 = i)).map Prod.snd)
structure AscI (l : List Int) : Prop where
 asc : l.Pairwise (· < ·)
 in64 : ∀ a ∈ l, In64 a
 len : l.length ≤ 40
section
variable {S S' : Sto} {bx bp bm : Nat} {size budget steps : Int} {rs : List (List Int)} {w : W} {ps : List PRow}
theorem SearchP.loopless (s : SearchP S bx bp bm size rs budget steps w ps) {l : Nat} {rc : Loop} (hl : zad S l = some (.raw (.loop rc))) : ∀ b, b = bx ∨ b = bp ∨ b = bm ∨ (∃ (i : Nat) (h : i < ps.length) (cap : Nat) (j : List V), ps[i].blk = some (b, cap, j)) → b ≠ l := by
 rintro b h rfl
 rcases h with h | h | h | ⟨i, h, cap, j, hb⟩
 ·subst h; rw [s.obj] at hl; cases hl
 ·subst h; rw [s.pln] at hl; cases hl
 ·subst h
  obtain ⟨_, _, _, m1, _⟩ := s.map.out
  rw [m1] at hl; cases hl
 ·have h3 := s.row i h
  generalize ps[i] = p at hb h3
  obtain ⟨T', blk⟩ := p
  dsimp only at hb
  subst hb
  rw [h3.1] at hl; cases hl
theorem SearchP.setL (s : SearchP S bx bp bm size rs budget steps w ps) {l : Nat} {rc : Loop} (hl : zad S l = some (.raw (.loop rc))) (o : Ob) : SearchP (setS l o S) bx bp bm size rs budget steps w ps :=
 s.of fun b hb => by rw [zbh hl, if_neg (s.loopless hl b hb)]
theorem SearchP.delL (s : SearchP S bx bp bm size rs budget steps w ps) {l : Nat} {rc : Loop} (hl : zad S l = some (.raw (.loop rc))) : SearchP (delS l S) bx bp bm size rs budget steps w ps :=
 s.of fun b hb => by rw [zda, if_neg (s.loopless hl b hb)]
theorem SearchP.intless (s : SearchP S bx bp bm size rs budget steps w ps) {b6 : Nat} {l : List V} (hl : zad S b6 = some (.cells l 3)) : ∀ b, b = bx ∨ b = bp ∨ b = bm ∨ (∃ (i : Nat) (h : i < ps.length) (cap : Nat) (j : List V), ps[i].blk = some (b, cap, j)) → b ≠ b6 := by
 rintro b h rfl
 rcases h with h | h | h | ⟨i, h, cap, j, hb⟩
 ·subst h; rw [s.obj] at hl; simp at hl; exact absurd hl.2 (by decide)
 ·subst h; rw [s.pln] at hl; simp at hl
 ·subst h
  obtain ⟨_, _, _, m1, _⟩ := s.map.out
  rw [m1] at hl; simp at hl
 ·have h3 := s.row i h
  generalize ps[i] = p at hb h3
  obtain ⟨T', blk⟩ := p
  dsimp only at hb
  subst hb
  rw [h3.1] at hl; simp at hl
theorem SearchP.setI (s : SearchP S bx bp bm size rs budget steps w ps) {b6 : Nat} {l : List V} (hl : zad S b6 = some (.cells l 3)) (o : Ob) : SearchP (setS b6 o S) bx bp bm size rs budget steps w ps :=
 s.of fun b hb => by rw [zbh hl, if_neg (s.intless hl b hb)]
theorem SearchP.up (s : SearchP S bx bp bm size rs budget steps w ps) (h : ∀ b o, zad S b = some o → zad S' b = some o) : SearchP S' bx bp bm size rs budget steps w ps := by
 refine s.of fun b hb => ?_
 have key : ∃ o, zad S b = some o := by
  rcases hb with h | h | h | ⟨i, hi, cap, j, hb⟩
  ·subst h; exact ⟨_, s.obj⟩
  ·subst h; exact ⟨_, s.pln⟩
  ·subst h
   obtain ⟨_, _, _, m1, _⟩ := s.map.out
   exact ⟨_, m1⟩
  ·have h3 := s.row i hi
   generalize ps[i] = p at hb h3
   obtain ⟨T', blk⟩ := p
   dsimp only at hb
   subst hb
   exact ⟨_, h3.1⟩
 obtain ⟨o, ho⟩ := key
 rw [ho]; exact h b o ho
theorem SearchP.keep (s : SearchP S bx bp bm size rs budget steps w ps) : SearchP (zof (inP bx bp bm ps) S) bx bp bm size rs budget steps w ps :=
 s.of fun b hb => by
  rw [zhh, if_pos]
  rcases hb with h | h | h | ⟨i, hi, cap, j, hb⟩
  ·subst h; simp [inP]
  ·subst h; simp [inP]
  ·subst h; simp [inP]
  ·exact yjf hi hb
end
structure TabsOk (size : Nat) (ids : List Int) (X : List (List Int)) : Prop where
 each : ∀ t ∈ X, t.length = size ∧ t.Sublist ids ∧ t.Pairwise (· < ·) ∧ t.headD 0 = ids.headD 0
def yci (ps : List PRow) (b : Nat) : Prop := ∀ (i : Nat) (h : i < ps.length) (cap : Nat) (j : List V), ps[i].blk ≠ some (b, cap, j)
structure Oth (T : Sto) (l b4 b5 b6 bf bx : Nat) (rb : Loop) (r1 : Nat) (ids : List Int) : Prop where
 lp : zad T l = some (.raw (.loop rb))
 o4 : zad T b4 = some (.cells [I r1] 3)
 o5 : zad T b5 = some (.cells [ints ids] 22)
 o6 : zad T b6 = some (.cells [I 0] 3)
 sf : zje T bx l bf
section
variable {T T' : Sto} {l b4 b5 b6 bf bx bp bm : Nat} {rb : Loop} {r1 : Nat} {ids : List Int} {size budget steps : Int} {rs : List (List Int)} {w : W} {ps : List PRow}
theorem Oth.of (h : Oth T l b4 b5 b6 bf bx rb r1 ids) (e : ∀ b, b = l ∨ b = b4 ∨ b = b5 ∨ b = b6 ∨ b = bf → zad T' b = zad T b) : Oth T' l b4 b5 b6 bf bx rb r1 ids :=
 ⟨by rw [e _ (.inl rfl)]; exact h.lp, by rw [e _ (.inr (.inl rfl))]; exact h.o4, by rw [e _ (.inr (.inr (.inl rfl)))]; exact h.o5, by rw [e _ (.inr (.inr (.inr (.inl rfl))))]; exact h.o6, by have := h.sf; simp only [zje] at this ⊢; rw [e _ (.inr (.inr (.inr (.inr rfl))))]; exact this⟩
theorem Oth.apart (h : Oth T l b4 b5 b6 bf bx rb r1 ids) (s : SearchP T bx bp bm size rs budget steps w ps) (ap : yci ps b5) : ∀ b, b = l ∨ b = b4 ∨ b = b5 ∨ b = b6 ∨ b = bf → inP bx bp bm ps b = false := fun b hb => by
 have key : ∀ c, c = bx ∨ c = bp ∨ c = bm ∨ (∃ (i : Nat) (h : i < ps.length) (cap : Nat) (j : List V), ps[i].blk = some (c, cap, j)) → c ≠ b := by
  rcases hb with rfl | rfl | rfl | rfl | rfl
  ·exact s.loopless h.lp
  ·exact s.intless h.o4
  ·rintro c hc rfl
   have h5 := h.o5
   rcases hc with hc | hc | hc | ⟨i, hi, cap, j, hc⟩
   ·subst hc; rw [s.obj] at h5; simp at h5; exact absurd h5.2 (by decide)
   ·subst hc; rw [s.pln] at h5; simp at h5
   ·subst hc
    obtain ⟨_, _, _, m1, _⟩ := s.map.out
    rw [m1] at h5; simp at h5
   ·exact ap i hi cap j hc
  ·exact s.intless h.o6
  ·rintro c hc rfl
   have h5 := h.sf
   simp only [zje] at h5
   rcases hc with hc | hc | hc | ⟨i, hi, cap, j, hc⟩
   ·subst hc; rw [s.obj] at h5; simp at h5; exact absurd h5.2 (by decide)
   ·subst hc; rw [s.pln] at h5; simp at h5
   ·subst hc
    obtain ⟨_, _, _, m1, _⟩ := s.map.out
    rw [m1] at h5; simp at h5
   ·have h3 := s.row i hi
    generalize ps[i] = p at hc h3
    obtain ⟨T', blk⟩ := p
    dsimp only at hc
    subst hc
    rw [h3.1] at h5; simp at h5
 cases hin : inP bx bp bm ps b with
 | false => rfl
 | true =>
  exfalso
  simp only [inP, Bool.or_eq_true, decide_eq_true_eq, List.any_eq_true] at hin
  rcases hin with ((hin | hin) | hin) | ⟨p, hp, hin⟩
  ·exact key b (.inl hin) rfl
  ·exact key b (.inr (.inl hin)) rfl
  ·exact key b (.inr (.inr (.inl hin))) rfl
  ·obtain ⟨i, hi, rfl⟩ := List.getElem_of_mem hp
   split at hin
   ·rename_i c cap j hc
    simp only [decide_eq_true_eq] at hin
    subst hin
    exact key b (.inr (.inr (.inr ⟨i, hi, cap, j, hc⟩))) rfl
   ·cases hin
end
structure FInv (l b4 b5 b6 bx bp bm : Nat) (rc : Loop) (size : Nat) (rs : List (List Int)) (budget : Int) (w : W) (ps : List PRow) (r1 : Nat) (ids : List Int) (rec : List Int → Int → Int × Int × List (Nat × List Int)) (res : Int × Int × List (Nat × List Int)) (X : List (List Int)) (T : Sto) (st : Int) (ps1 : List PRow) : Prop where
 lp : zad T l = some (.raw (.loop rc))
 o4 : zad T b4 = some (.cells [I r1] 3)
 o5 : zad T b5 = some (.cells [ints ids] 22)
 o6 : zad T b6 = some (.cells [I 0] 3)
 s : SearchP T bx bp bm size rs budget st w ps1
 pl : ps1.length = ps.length
 rows : ∀ (i : Nat) (h : i < ps.length) (h' : i < ps1.length), ps1[i].rows = ps[i].rows
 ap : yci ps1 b5
 try_ : tryL budget r1 rec X st = res
 tabs : TabsOk size ids X
structure FDone (l b6 bx bp bm : Nat) (size : Nat) (rs : List (List Int)) (budget : Int) (w : W) (ps : List PRow) (res : Int × Int × List (Nat × List Int)) (T : Sto) (rc : Loop) : Prop where
 lp : zad T l = some (.raw (.loop rc))
 st : rc.state ≠ .busy
 pd : rc.pending = some .ret
 o6 : zad T b6 = some (.cells [I res.1] 3)
 post : zmj bx bp bm size rs budget w ps res (I res.1) T
section
variable {l b4 b5 b6 bf bx bp bm : Nat} {rc : Loop} {size : Nat} {rs : List (List Int)} {budget : Int} {w : W} {ps : List PRow} {r1 : Nat} {ids : List Int} {rec : List Int → Int → Int × Int × List (Nat × List Int)} {res : Int × Int × List (Nat × List Int)}
theorem ycy {A : Sto → Prop} {T : Sto} {E : VEnv} (h0 : zad T l = some (.raw (.loop { rc with state := .busy }))) (h6 : zad T b6 = some (.cells [I res.1] 3)) (hp : zmj bx bp bm size rs budget w ps res (I res.1) T) (hf : zje T bx l bf) :
  RndQ l (fun u S' => ((u = Bo true ∧ A S') ∨ (u = Bo false ∧ ∃ rc', FDone l b6 bx bp bm size rs budget w ps res S' rc')) ∧ zje S' bx l bf) .ret E T := by
 refine ⟨{ rc with state := .busy }, setS l (.raw (.loop (endR { rc with state := .busy } .ret))) T, h0, fun b o e => e, .inr ⟨rfl, endR { rc with state := .busy } .ret, ?_⟩, ?_⟩
 ·obtain ⟨e1, w', ps', p1, p2, p3, p4⟩ := hp
  refine ⟨by rw [zbh h0, if_pos rfl], by simp [endR], rfl, ?_, e1, w', ps', p1.setL h0 _, p2, p3, p4⟩
  rw [zbh h0, if_neg (fun e => by rw [e, h0] at h6; cases h6)]; exact h6
 ·have h := hf
  simp only [zje] at h ⊢
  rw [zbh h0, if_neg (fun e => by rw [e, h0] at h; cases h)]; exact h
theorem ymi {D : Sto → Prop} {X : List (List Int)} {T : Sto} {E : VEnv} {st : Int} {ps1 : List PRow} (hst : rc.state = .ready) (hpd : rc.pending = none) (h : Oth T l b4 b5 b6 bf bx { rc with state := .busy } r1 ids) (s : SearchP T bx bp bm size rs budget st w ps1) (pl : ps1.length = ps.length)
  (rows : ∀ (i : Nat) (h : i < ps.length) (h' : i < ps1.length), ps1[i].rows = ps[i].rows) (ap : yci ps1 b5) (try_ : tryL budget r1 rec X st = res) (tabs : TabsOk size ids X) :
  RndQ l (fun u S' => ((u = Bo true ∧ ∃ st ps1, FInv l b4 b5 b6 bx bp bm rc size rs budget w ps r1 ids rec res X S' st ps1) ∨ (u = Bo false ∧ D S')) ∧ zje S' bx l bf) .normal E T := by
 have e0 : endR { rc with state := .busy } .normal = rc := by cases rc; simp only [endR] at *; subst hst; subst hpd; rfl
 have nl : ∀ {b : Nat} {o : List V × TypeId}, zad T b = some (.cells o.1 o.2) → b ≠ l := fun {b o} h' e => by rw [e, h.lp] at h'; cases h'
 have sf := h.sf
 refine ⟨_, setS l (.raw (.loop rc)) T, h.lp, fun b o e => by rw [e0]; exact e, .inl ⟨rfl, st, ps1, ?_⟩, ?_⟩
 ·exact ⟨by rw [zbh h.lp, if_pos rfl], by rw [zbh h.lp, if_neg (nl (o := ([I r1], 3)) h.o4)]; exact h.o4, by rw [zbh h.lp, if_neg (nl (o := ([ints ids], 22)) h.o5)]; exact h.o5, by rw [zbh h.lp, if_neg (nl (o := ([I 0], 3)) h.o6)]; exact h.o6, s.setL h.lp _, pl, rows, ap, try_, tabs⟩
 ·simp only [zje] at sf ⊢
  rw [zbh h.lp, if_neg (fun e => by rw [e, h.lp] at sf; cases sf)]; exact sf
end
def rfOf : Code → Option (Code × Code)
 | .rangeFunc _ _ a b => some (a, b)
 | .seq a b => match rfOf a with | some x => some x | none => rfOf b
 | .cond _ a b => match rfOf a with | some x => some x | none => rfOf b
 | .block _ c => rfOf c
 | .loop c => rfOf c
 | .scope c => rfOf c
 | _ => none
def yru (id : Nat) : Code → Bool
 | .region i _ _ => i == id
 | _ => false
def zkc (id : Nat) : Code → Option Code
 | .seq a b => if yru id a then some b else match zkc id a with | some x => some x | none => zkc id b
 | .rangeFunc _ _ a b => match zkc id a with | some x => some x | none => zkc id b
 | .cond _ a b => match zkc id a with | some x => some x | none => zkc id b
 | .block _ c => zkc id c
 | .loop c => zkc id c
 | .scope c => zkc id c
 | _ => none
def yak (bx bp bm : Nat) (size : Nat) (rs : List (List Int)) (budget : Int) (n : Nat) : Prop :=
 ∀ (S : Sto) (met : Int → Int → Bool) (w : W) (B : Int) (steps : Int) (ps : List PRow) (round : Nat) (free : List Int), SearchP S bx bp bm size rs budget steps w ps → ps.length = rs.length → round < rs.length → GoodW B met w → B + n ≤ 1000000000000 → AscI free →
  mzS rs round free.length < n → (∀ i (h : i < ps.length), ps[i].rows.length + n ≤ 10000) →
  DC Tryz.prog 103 [.v (.pointer (some ⟨bx, 0, none⟩)), I round, ints free] S (zmj bx bp bm size rs budget w ps (srch size budget rs n met round free steps))
abbrev eF (bx b4 b5 b6 : Nat) : VEnv := [(3, .plc [.v (.pointer (some ⟨bx, 0, none⟩))]), (4, .v (.pointer (some ⟨b4, 0, none⟩))), (5, .v (.pointer (some ⟨b5, 0, none⟩))), (6, .v (.pointer (some ⟨b6, 0, none⟩)))]
end Go.XL
namespace Go.XL
open Go.Proofs
set_option maxRecDepth 100000
set_option maxHeartbeats 4000000
theorem ymz {h : Heap} {p : Option Addr} : ∀ (k i j : Nat) (zs : List Value), ldN h p (k + i) j = some zs → ldN h p k j = some (zs.take k) := by
 intro k
 induction k with
 | zero => intro i j zs _; simp [ldN]
 | succ k ih =>
  intro i j zs hz
  rw [show k + 1 + i = (k + i) + 1 by omega] at hz
  simp only [ldN] at hz ⊢
  cases hl : ld h (at? p j) with
  | none => rw [hl] at hz; simp at hz
  | some u =>
   cases hr : ldN h p (k + i) (j + 1) with
   | none => rw [hl, hr] at hz; simp at hz
   | some us =>
    rw [hl, hr] at hz
    simp only [Option.bind_some, Option.map_some, Option.some.injEq] at hz
    subst hz
    simp only [Option.bind_some, ih i (j + 1) us hr, Option.map_some, List.take_succ_cons]
theorem yae {P : Program} {hv : VH} {h : Heap} {T m : Nat} {p : Option Addr} {c : List V} (hc : ∃ ys, ldN h p c.length 0 = some ys ∧ RlL hv c ys) (ht : tsz P T = some (true, m + 1)) (hl : m + 1 ≤ c.length) :
  ∃ y, ldT P h T p = some y ∧ (V.agg ((c.take (m + 1)).map V.copy)).Rl hv y := by
 obtain ⟨ys, h1, h2⟩ := hc
 have h3 := ymz (m + 1) (c.length - (m + 1)) 0 ys (by rw [show m + 1 + (c.length - (m + 1)) = c.length by omega]; exact h1)
 refine ⟨.agg (ys.take (m + 1)).toArray, by simp only [ldT, ht, h3, Option.map_some], ?_⟩
 simp only [V.Rl]
 exact ⟨_, rfl, zgg (h2.take (m + 1))⟩
section
variable {P : Program} {n : Nat} {r : Rr} {Q : VEnv → Sto → Prop} {k : List Fr} {E : VEnv} {S : Sto} {ty : TypeId} {pos : String} {af : Array Edge} {ops l : List Oper} {t : Nat}
theorem yew {T m : Nat} {x : Operand} {c : List V} (hd : decide (t < n) = true) (hx : evV E x = some (.plc c)) (ht : tsz P T = some (true, m + 1)) (hl : m + 1 ≤ c.length)
  (q : DS P n r Q (.ops ops l :: k) ((t, .agg ((c.take (m + 1)).map V.copy)) :: E) S) : DS P n r Q (.ops ops (⟨some t, .load T x, ty, pos, af, none⟩ :: l) :: k) E S := fun K W a w ⟨K', D, hvv, hold, env, hb, ha, s⟩ hw => by
 obtain ⟨y0, e1, e2⟩ := s.rl _ _ hx
 simp only [V.Rl] at e2
 obtain ⟨p, rfl, _, e3⟩ := e2
 obtain ⟨y, h2, h3⟩ := yae (P := P) (e3.loads s.pre) ht hl
 have h2' : dop P w.heap (ev env) (.load T x) = some y := by simp only [dop, e1]; exact h2
 have hr := ziz (P := P) (o := ⟨some t, .load T x, ty, pos, af, none⟩) ha h2'
 refine zvo (zmu rfl a) ⟨fun _ _ => trivial, ?_⟩
 rw [Oper.semAt_eq _ _ _ (zhg (zup rfl)), hr]
 exact q K W _ w ⟨K', D, hvv, hold, XL.put env (some t) y, hb, ha.put' (d := some t) hd y, s.put (some t) h3 fun t _ => V.free_Own rfl y⟩ hw
end
def FinC (P : Program) (a T : Nat) (R : V → Sto → Prop) (E : VEnv) (S : Sto) : Prop :=
 ∃ c T' b m S', zdg E a = some (.v (.pointer (some ⟨b, 0, none⟩))) ∧ zad S b = some (.cells c T') ∧ tsz P T = some (true, m + 1) ∧ m + 1 ≤ c.length ∧ (∀ b o, zad S' b = some o → zad S b = some o) ∧ R (.agg ((c.take (m + 1)).map V.copy)) S'
theorem yce {P : Program} {n : Nat} {r : Rr} {a T : Nat} {R : V → Sto → Prop} {k : List Fr} {E : VEnv} {S : Sto} (S' : Sto) {c : List V} {T' b m : Nat} (h1 : zdg E a = some (.v (.pointer (some ⟨b, 0, none⟩)))) (h2 : zad S b = some (.cells c T')) (h3 : tsz P T = some (true, m + 1)) (h4 : m + 1 ≤ c.length)
  (h5 : ∀ b o, zad S' b = some o → zad S b = some o) (h6 : R (.agg ((c.take (m + 1)).map V.copy)) S') (hk : popR k = none := by rfl) : DS P n r (FinC P a T R) (.code .ret :: k) E S :=
 DS.ret hk ⟨c, T', b, m, S', h1, h2, h3, h4, h5, h6⟩
theorem DCh.of_runC {v0 : VH} {P : Program} {f : FuncId} {fn : Func} {c : Code} {args : List V} {S : Sto} {R : V → Sto → Prop} (hf : P.funcs[f]? = some fn) (hb : fn.body = some c) {m : Nat} (hm : fn.ntmps = m) {rs : List ResultVar} (hrs : fn.results = rs.toArray) (hn : args.length ≤ m) {a0 T0 : Nat} (hr0 : rs = [.cell a0 T0])
  (q : DS P m ⟨none, v0⟩ (FinC P a0 T0 R) [.code c] (argV 0 args) S) : DCh v0 P f args S R := by
 intro K hv hold h xs hfl hargs st w hw
 subst hm
 have hrs' : fn.results.toList = [.cell a0 T0] := by rw [hrs, hr0]
 subst hw
 refine callsIn_fw.1 (callsIn_of_wp_marks (F := FW none) (n := 0) hf hb trivial ?_ rfl)
 have st' : St ⟨K.B, K.h0, hv⟩ hv hold (argV 0 args) S (zor 0 xs) w.heap := ⟨st.pre, ztb 0 hargs, st.obj, st.held, st.base, PreV.refl hv, fun _ _ => rfl⟩
 have hk2 : c.wpIn (FW none) 0 P (ksem P fn.ntmps ⟨none, v0⟩ ⟨K.B, K.h0, hv⟩ w (FinC P a0 T0 R) []) { tmps := xs.toArray ++ Array.replicate (fn.ntmps - xs.toArray.size) undef, defers := [] } w :=
  q ⟨K.B, K.h0, hv⟩ w _ w ⟨⟨K.B, K.h0, hv⟩, [], hv, hold, _, Bx.refl hfl st.base.1, ztd (by rw [hargs.length]; exact hn), st'⟩ (Same.refl w)
 refine wpIn_mono hk2 fun e a w' t => ?_
 have key : Fin fn.ntmps ⟨none, v0⟩ ⟨K.B, K.h0, hv⟩ w (FinC P a0 T0 R) a w' → LeavesInM (FW none) 0 P fn a.tmps (fun e w' => ∃ u, e = .returned u ∧ Same w w' ∧ ∃ v' S' hv' hold', PreV hv hv' ∧ St K hv' hold' [(0, v')] S' [(0, u)] w'.heap ∧ R v' S') a.defers .returning w' := by
  rintro ⟨E, S0, ⟨K', D, hv', hold', env, hbx, ha, s0⟩, hs, c1, T', b1, m1, S', g1, g2, g3, g4, hsub, hR⟩
  rw [ha.defers]
  refine zlg w' (fun w2 hw2 s0 => ?_) D K' w' hbx s0 (Same.refl w')
  obtain ⟨y0, e1, e2, _⟩ := s0.slot a0 _ g1
  simp only [V.Rl] at e2; subst e2
  obtain ⟨y, h7, h8⟩ := yae (P := P) (T := T0) (p := some ⟨b1, 0, none⟩) (c := c1) (by simpa using zyo (off := 0) (s0.objs b1 _ g2)) g3 g4
  have h1 : resR P env w2.heap fn.results.toList = some [y] := by rw [hrs']; simp only [resR, e1, h7, Option.bind_some, Option.map_some]
  have s := s0.weaken (fun _ _ e => e) hsub
  refine ⟨_, zqx ha h1, _, rfl, hs.trans hw2, _, S', hv', fun g => match hold' g with | some (.slot _) => some (.slot 0) | x => x, s.vbase.1, ⟨s.pre, fun t v e => ?_, fun b o e => ?_, fun g x e => ?_, s.base, st.vbase.1.trans s.vbase.1, fun b hb => (s.vbase.2 b hb).trans (st.vbase.2 b hb)⟩, hR⟩
  ·simp only [zdg] at e
   split at e
   ·rename_i ht; subst ht; cases e
    exact ⟨y, by simp [look, tupR], h8, trivial⟩
   ·cases e
  ·obtain ⟨q1, q2, q3⟩ := s.obj b o e
   exact ⟨q1, q2, Ob.keep q3 (PreV.refl hv') rfl fun g i ob a1 a2 a3 => ⟨rfl, rfl, by simp [a1]⟩⟩
  ·cases hg : hold' g with
   | none => simp [hg] at e
   | some z => exact s.held g z hg
 cases e with
 | normal => exact key t
 | ret => exact key t
 | _ => exact t.elim
theorem DC.of_runC {P : Program} {f : FuncId} {fn : Func} {c : Code} {args : List V} {S : Sto} {R : V → Sto → Prop} (hf : P.funcs[f]? = some fn) (hb : fn.body = some c) {m : Nat} (hm : fn.ntmps = m) {rs : List ResultVar} (hrs : fn.results = rs.toArray) (hn : args.length ≤ m) {a0 T0 : Nat} (hr0 : rs = [.cell a0 T0])
  (q : ∀ v0, DS P m ⟨none, v0⟩ (FinC P a0 T0 R) [.code c] (argV 0 args) S) : DC P f args S R := fun v0 => .of_runC hf hb hm hrs hn hr0 (q v0)
structure Th (b : Nat) (l : List V) (hv hv3 : VH) : Prop where
 blk : ∃ cs T, hv b = some (.cells (List.toArray cs) T (0, 0)) ∧ RlL hv l cs
 ne : ∀ j, j ≠ b → hv3 j = hv j
def Safe (b : Nat) (l : List V) (c : V) : Prop := ∀ hv hv3, Th b l hv hv3 → ∀ y, c.Rl hv y → c.Rl hv3 y
theorem Safe.v {b : Nat} {l : List V} (x : Value) : Safe b l (.v x) := fun _ _ _ _ h => by simp only [V.Rl] at h ⊢; exact h
theorem Safe.list {b : Nat} {l : List V} {hv hv3 : VH} (t : Th b l hv hv3) : ∀ {c : List V} {ys : List Value}, (∀ v ∈ c, Safe b l v) → RlL hv c ys → RlL hv3 c ys
 | [], _, _, h => h
 | v :: r, _, hs, h => by
  obtain ⟨z, zs, rfl, h1, h2⟩ := h.cons
  simp only [RlL]
  exact ⟨z, zs, rfl, hs v (List.mem_cons_self ..) _ _ t _ h1, Safe.list t (fun u hu => hs u (List.mem_cons_of_mem _ hu)) h2⟩
theorem Safe.agg {b : Nat} {l c : List V} (h : ∀ v ∈ c, Safe b l v) : Safe b l (.agg c) := fun _ _ t _ e => by
 simp only [V.Rl] at e ⊢
 obtain ⟨ys, rfl, e2⟩ := e
 exact ⟨ys, rfl, Safe.list t h e2⟩
open Classical in
theorem yoh {v0 : VH} {P : Program} {n : Nat} {E : VEnv} {S : Sto} {dst : Option Tmp} {ty : TypeId} {pos : String} {af : Array Edge} {ts : Array TypeId} {g : FuncId} {xs : Array Operand} {fn : Func} {S1 S2 : Sto} {R : V → Sto → Prop} {x0 : V} {pre l : List V} {b len cap sz T : Nat} {cl : List (List V)}
  (hf : FnOk P g fn) (he : evsV (evV E) xs.toList = some [x0, .agg (pre ++ [.v (.slice (some ⟨b, 0, none⟩) len cap)])]) (hc : DCh v0 P g [x0.peek, .agg (pre ++ [.lst cl])] S1 R)
  (hS : zad S b = some (.cells l T)) (hfree : ∀ v ∈ l, v.free = true) (hlen : cl.length = len) (hsz : ∀ c ∈ cl, c.length = sz) (hflat : cl.flatten = (l.take (len * sz)).map V.peek) (hcap : len ≤ cap ∧ cap ≤ maxLen)
  (h1 : ∀ j o, zad S1 j = some o → zad (delS b S) j = some o) (h2 : ∀ j o, zad S2 j = some o → zad (delS b S) j = some o ∧ zad S1 j = none)
  (hsR : ∀ v S', R v S' → Safe b (l.take (len * sz)) v ∧ v.free = true ∧ ∀ j c T', zad S' j = some (.cells c T') → ∀ v ∈ c, Safe b (l.take (len * sz)) v)
  (hs2 : ∀ j c T', zad S2 j = some (.cells c T') → ∀ v ∈ c, Safe b (l.take (len * sz)) v) :
  OpS v0 P n ⟨dst, .call { callee := .value (.func g), args := xs, argTypes := ts }, ty, pos, af, none⟩ E S (fun v E' S' => E' = E ∧ ∃ S0, S' = (b, .cells l T) :: (S0 ++ S2) ∧ R v S0 ∧ (∀ j o, zad S0 j = some o → zad S2 j = none ∧ j ≠ b)) := by
 intro K D hv hold env a w hfl ha s
 obtain ⟨ax, e5, e6⟩ := ziy s.rl he
 obtain ⟨o1, o2, cs, o3, o4, o5, o6⟩ := s.obj b _ hS
 have hpre : PreV hv (addB hv b (.cells (cs.take (len * sz)).toArray T (0, 0))) := zmi (.inl o2)
 have hlt := (Array.getElem?_eq_some_iff.1 o3).1
 have s1 : St ⟨fun j => K.B j ∨ j = b, w.heap, addB hv b (.cells (cs.take (len * sz)).toArray T (0, 0))⟩ (addB hv b (.cells (cs.take (len * sz)).toArray T (0, 0))) (fun g => if g = b then none else hold g) E (delS b S) env w.heap := by
  refine ⟨zot s.pre o3 ⟨(cs.drop (len * sz)).toArray, by rw [List.append_toArray, List.take_append_drop]⟩, fun t v e => ?_, fun b' o e => ?_, fun g x e => ?_, ⟨fun j hj => ?_, Nat.le_refl _, fun _ _ => rfl⟩, PreV.refl _, fun _ _ => rfl⟩
  ·obtain ⟨y, q1, q2, q3⟩ := s.slot t v e
   refine ⟨y, q1, V.Rl_mono hpre v y q2, q3.keep fun g ob a1 a2 a3 => ?_⟩
   have hne : g ≠ b := fun e => by subst e; rw [o2] at a2; cases a2
   exact ⟨rfl, zgc _ hne, by simp [hne, a1]⟩
  ·rw [zda] at e
   split at e
   ·cases e
   ·rename_i hb
    obtain ⟨r1, r2, r3⟩ := s.obj b' o e
    refine ⟨fun h => h.elim r1 hb, by rw [zgc _ hb]; exact r2, Ob.keep r3 hpre rfl fun g i ob a1 a2 a3 => ?_⟩
    have hne : g ≠ b := fun e => by subst e; rw [o2] at a2; cases a2
    exact ⟨rfl, zgc _ hne, by simp [hne, a1]⟩
  ·have e' : (if g = b then none else hold g) = some x := e
   split at e'
   ·cases e'
   ·rename_i hne
    exact fun h => h.elim (s.held g x e') hne
  ·rcases hj with hj | rfl
   ·exact Nat.lt_of_lt_of_le (s.base.1 j hj) s.base.2.1
   ·exact hlt
 obtain ⟨K', hcl, s2, back⟩ := s1.call h1 h2
 obtain ⟨y0, ys, rfl, a1, a2⟩ := e6.cons
 obtain ⟨y1, ys2, rfl, a3, a4⟩ := a2.cons
 have a5 : ys2 = [] := by simpa only [RlL] using a4
 subst a5
 have hargs : RlL (addB hv b (.cells (cs.take (len * sz)).toArray T (0, 0))) [x0.peek, .agg (pre ++ [.lst cl])] [y0, y1] := by
  simp only [V.Rl] at a3
  obtain ⟨zs, rfl, a6⟩ := a3
  have hz := a6.length
  have a7 := a6.take pre.length
  have a8 := a6.drop pre.length
  rw [List.take_left' rfl] at a7
  rw [List.drop_left' rfl] at a8
  obtain ⟨z, zs', e1, a9, a10⟩ := a8.cons
  have a11 : zs' = [] := by simpa only [RlL] using a10
  subst a11
  simp only [V.Rl] at a9; subst a9
  have hzs : zs = zs.take pre.length ++ [.slice (some ⟨b, 0, none⟩) len cap] := by rw [← e1, List.take_append_drop]
  have hC : RlC (addB hv b (.cells (cs.take (len * sz)).toArray T (0, 0))) (some ⟨b, 0, none⟩) 0 ((l.take (len * sz)).map V.peek) := zne (T := T) (f := (0, 0)) (cs := cs.take (len * sz)) (i := 0) ⟨#[], by simp [addB]⟩ rfl (zjk (zfc hpre _ _ (o4.take _))) (fun u hu => o5 u (List.mem_of_mem_take hu))
  have hlst : (V.lst cl).Rl (addB hv b (.cells (cs.take (len * sz)).toArray T (0, 0))) (.slice (some ⟨b, 0, none⟩) len cap) := by
   simp only [V.Rl]
   refine ⟨_, cap, sz, by rw [hlen], by rw [hlen]; exact hcap.1, hcap.2, hsz, RlE.of_flat ?_⟩
   rw [hflat]
   exact hC
  simp only [RlL]
  refine ⟨y0, _, rfl, V.peek_Rl (V.Rl_mono hpre _ _ a1), _, _, rfl, ?_, rfl⟩
  simp only [V.Rl]
  refine ⟨zs, rfl, ?_⟩
  rw [hzs]
  refine (zfc hpre _ _ a7).app ?_
  simp only [RlL]
  exact ⟨_, _, rfl, hlst, rfl⟩
 have hfl' : PreV v0 (addB hv b (.cells (cs.take (len * sz)).toArray T (0, 0))) := hfl.trans hpre
 refine zql (fs := []) (cs := []) (args := [y0, y1]) ha hf rfl e5 ?_
 refine (hc K' _ hcl w.heap _ hfl' (by simpa using hargs) s2 w rfl).mono fun e w' ⟨v, ev, hs, u, S', hv', hold', p1, p2, p3⟩ => ?_
 obtain ⟨hold2, q1, q2⟩ := back (d := dst) p1 p2
 obtain ⟨g1, g2, g3⟩ := hsR u S' p3
 have hb1 : hv' b = some (.cells (cs.take (len * sz)).toArray T (0, 0)) := by rw [q1.vbase.2 b (.inr rfl)]; exact zhw ..
 have hb2 : w'.heap[b]? = some (.cells cs.toArray T (0, 0)) := by rw [q1.base.2.2 b (.inr rfl)]; exact o3
 have m1 : PreV hv (fun j => if j = b then none else hv' j) := fun j o e => by
  have hne : j ≠ b := fun e1 => by subst e1; rw [o2] at e; cases e
  obtain ⟨o', r1, r2⟩ := (hpre.trans p1) j o e
  exact ⟨o', by simp [hne, r1], r2⟩
 have th : Th b (l.take (len * sz)) hv' (fun j => if j = b then none else hv' j) := ⟨⟨cs.take (len * sz), T, hb1, zfc (hpre.trans p1) _ _ (o4.take _)⟩, fun j hj => by simp [hj]⟩
 have kO : ∀ {x : Hd} {u : V} {z : Value}, Own hv' w'.heap hold2 x u z → Own (fun j => if j = b then none else hv' j) w'.heap hold2 x u z := fun ho =>
  ho.keep fun g ob a1 a2 a3 => by
   have hne : g ≠ b := fun e1 => q1.held g _ a1 (.inr e1)
   exact ⟨rfl, by simp [hne], a1⟩
 refine ⟨v, ev, hs, u, E, _, _, hold2, m1, ⟨fun j o e => ?_, fun t x e => ?_, fun j o e => ?_, fun g x e h => q1.held g x e (.inl h), ⟨s.base.1, Nat.le_trans s.base.2.1 q1.base.2.1, fun j hj => (q1.base.2.2 j (.inl hj)).trans (s.base.2.2 j hj)⟩, s.vbase.1.trans m1, fun j hj => ?_⟩, rfl, S', rfl, p3, fun j o e => ⟨q2 j o e, fun e1 => ?_⟩⟩
 ·have e' : (if j = b then none else hv' j) = some o := e
  split at e'
  ·cases e'
  ·exact q1.pre j o e'
 ·obtain ⟨y, r1, r2, r3⟩ := q1.slot t x e
  refine ⟨y, r1, ?_, kO r3⟩
  have old : ∀ {t x y}, zdg E t = some x → XL.look env t = some y → x.Rl (fun j => if j = b then none else hv' j) y := fun {t x y} e1 e2 => by
   obtain ⟨y', f1, f2, _⟩ := s.slot t x e1
   rw [f1] at e2; cases e2
   exact V.Rl_mono m1 _ _ f2
  cases dst with
  | none => exact old e r1
  | some d =>
   simp only [putV, zdg] at e
   simp only [XL.put, XL.look] at r1
   by_cases hd : d = t
   ·simp only [hd, if_true, Option.some.injEq] at e
    subst e
    exact g1 _ _ th _ r2
   ·rw [if_neg hd] at e r1
    exact old e r1
 ·simp only [zad] at e
  split at e
  ·rename_i hj; subst hj
   simp only [Option.some.injEq] at e; subst e
   exact ⟨o1, by simp, cs, hb2, zfc m1 _ _ o4, o5, fun i c u hc hu => V.free_Own (hfree c (List.mem_of_getElem? hc)) u⟩
  ·rename_i hj
   obtain ⟨r1, r2, r3⟩ := q1.obj j o e
   have hj' : j ≠ b := fun h => hj h.symm
   refine ⟨fun h => r1 (.inl h), by simp only [hj', if_false]; exact r2, ?_⟩
   cases o with
   | raw o => exact r3
   | cells c T' =>
    obtain ⟨cs', u1, u2, u3, u4⟩ := r3
    have hsafe : ∀ v ∈ c, Safe b (l.take (len * sz)) v := by
     rw [zbr] at e
     cases e1 : zad S' j with
     | some o' => rw [e1] at e; simp only [Option.some.injEq] at e; subst e; exact g3 j c T' e1
     | none => rw [e1] at e; exact hs2 j c T' e
    exact ⟨cs', u1, Safe.list th hsafe u2, u3, fun i c u hc hu => kO (u4 i c u hc hu)⟩
 ·have hne : j ≠ b := fun e => by subst e; exact o1 hj
  simp only [hne, if_false]
  exact (q1.vbase.2 j (.inl hj)).trans ((zgc _ hne).trans (s.vbase.2 j hj))
 ·subst e1
  have := (p2.obj j o e).2.1
  rw [hb1] at this; cases this
theorem ygz {P : Program} {n : Nat} {r : Rr} {Q : VEnv → Sto → Prop} {k : List Fr} {E : VEnv} {S : Sto} {t b i len cap sz : Nat} {l l' : List V} {T : TypeId} (hE : zdg E t = some (.agg l')) (hi : l'[i]? = some (.v (.slice (some ⟨b, 0, none⟩) len cap))) (hS : zad S b = some (.cells l T)) (hl : len * sz ≤ l.length) (hc : len ≤ cap ∧ cap ≤ maxLen)
  (q : DS P n r Q k ((t, .agg (l'.set i (.lst (chunk sz len (l.map V.peek))))) :: E) (delS b S)) : DS P n r Q k E S := fun K W a w ⟨K', D, hv, hold, env, hb, ha, s⟩ hw => by
 obtain ⟨hv', h1, h2, h3'⟩ := s.freeze hS
 have h3 : RlC hv' (some ⟨b, 0, none⟩) 0 (l.map V.peek) := by
  have := zxg h3'
  rw [List.map_map, show (V.peek ∘ V.copy) = V.peek from funext fun v => by cases v <;> rfl] at this
  exact this
 obtain ⟨y, e1, e2, _⟩ := h2.slot t _ hE
 refine q K W a w ⟨K', D, hv', hold, env, hb, ha, ⟨h2.pre, fun u v e => ?_, h2.obj, h2.held, h2.base, h2.vbase⟩⟩ hw
 simp only [zdg] at e
 by_cases hu : t = u
 ·subst hu
  simp only [if_true, Option.some.injEq] at e; subst e
  refine ⟨y, e1, ?_, trivial⟩
  simp only [V.Rl] at e2 ⊢
  obtain ⟨ys, rfl, e3⟩ := e2
  refine ⟨ys, rfl, ?_⟩
  obtain ⟨z, z1, z2⟩ := e3.get hi
  simp only [V.Rl] at z2; subst z2
  refine RlL.setL e3 z1 ?_
  obtain ⟨f1, f2⟩ := zio sz len ((l.map V.peek).take (len * sz)) (by simp; omega)
  have f3 : chunk sz len ((l.map V.peek).take (len * sz)) = chunk sz len (l.map V.peek) := by
   have key : ∀ (len m : Nat) (l : List V), len * sz ≤ m → chunk sz len (l.take m) = chunk sz len l := by
    intro len
    induction len with
    | zero => intro m l _; rfl
    | succ len ih =>
     intro m l hm
     rw [Nat.succ_mul] at hm
     simp only [chunk]
     rw [List.take_take, Nat.min_eq_left (by omega), List.drop_take, ih _ _ (by omega)]
   exact key len _ _ (Nat.le_refl _)
  simp only [V.Rl]
  refine ⟨_, cap, sz, by rw [zdj], by rw [zdj]; exact hc.1, hc.2, by rw [← f3]; exact f2, RlE.of_flat ?_⟩
  rw [← f3, f1]
  exact h3.take _
 ·rw [if_neg hu] at e; exact h2.slot u v e
def SlV (v : V) : Prop := (∃ x, v = .lst x) ∨ v = .v (.slice none 0 0)
def NumV (v : V) : Prop := ∃ x, v = .v x ∧ ∀ p n c, x ≠ .slice p n c
theorem SlV.val {hv : VH} {v : V} {u : Value} (h : SlV v) (e : v.Rl hv u) : ∃ p n c, u = .slice p n c := by
 rcases h with ⟨x, rfl⟩ | rfl
 ·simp only [V.Rl] at e; obtain ⟨p, c, _, rfl, _⟩ := e; exact ⟨_, _, _, rfl⟩
 ·simp only [V.Rl] at e; exact ⟨_, _, _, e⟩
theorem Th.ldH {b : Nat} {l : List V} {hv hv3 : VH} (t : Th b l hv hv3) {q : Option Addr} {u : Value} (e : ldH hv q = some u) : ldH hv3 q = some u ∨ ∃ v ∈ l, v.Rl hv u := by
 cases q with
 | none => simp [XL.ldH] at e
 | some a =>
  by_cases hb : a.block = b
  ·obtain ⟨cs, T, h1, h2⟩ := t.blk
   refine .inr ?_
   simp only [XL.ldH, Option.bind_some, zsx, hb, h1] at e
   split at e
   ·cases e
   ·have hlt : a.off < cs.length := by
     have := (Array.getElem?_eq_some_iff.1 e).1; simpa using this
    have hl : a.off < l.length := by rw [← h2.length]; exact hlt
    obtain ⟨y, y1, y2⟩ := h2.get (List.getElem?_eq_getElem hl)
    have : cs[a.off]? = some u := by simpa using e
    rw [this] at y1; cases y1
    exact ⟨_, List.getElem_mem hl, y2⟩
  ·refine .inl ?_
   simp only [XL.ldH, Option.bind_some, zsx] at e ⊢
   rw [t.ne _ hb]; exact e
theorem Th.nums {b : Nat} {l : List V} {hv hv3 : VH} (t : Th b l hv hv3) (hl : ∀ v ∈ l, SlV v) {p : Option Addr} : ∀ {c : List V} {i : Nat}, (∀ v ∈ c, NumV v) → RlC hv p i c → RlC hv3 p i c
 | [], _, _, _ => trivial
 | v :: r, i, h, e => by
  simp only [RlC] at e ⊢
  obtain ⟨⟨u, e1, e2, e3⟩, e4⟩ := e
  obtain ⟨x, rfl, hx⟩ := h v (List.mem_cons_self ..)
  simp only [V.Rl] at e2; subst e2
  refine ⟨⟨u, (t.ldH e1).resolve_right ?_, by simp only [V.Rl], e3⟩, Th.nums t hl (fun w hw => h w (List.mem_cons_of_mem _ hw)) e4⟩
  rintro ⟨w, hw, hw2⟩
  obtain ⟨p', n', c', h'⟩ := (hl w hw).val hw2
  exact hx _ _ _ h'
theorem Safe.nums {b : Nat} {l : List V} (hl : ∀ v ∈ l, SlV v) {cl : List (List V)} (h : ∀ c ∈ cl, ∀ v ∈ c, NumV v) : Safe b l (.lst cl) := fun hv hv3 t y e => by
 simp only [V.Rl] at e ⊢
 obtain ⟨p, cap, sz, e1, e2, e3, e4, e5⟩ := e
 exact ⟨p, cap, sz, e1, e2, e3, e4, RlE.of_flat (t.nums hl (fun v hv => by obtain ⟨c, h1, h2⟩ := List.mem_flatten.1 hv; exact h c h1 v h2) e5.flat)⟩
theorem Safe.own {b : Nat} {l : List V} {m : Bool} {e sz : Nat} {cl : List (List V)} (h : Safe b l (.lst cl)) : Safe b l (.own m e sz cl) := fun hv hv3 t y r => by
 have := h hv hv3 t y (by simpa only [V.Rl] using r)
 simpa only [V.Rl] using this
theorem Safe.ints {b : Nat} {l : List V} (hl : ∀ v ∈ l, SlV v) (L : List Int) : Safe b l (ints L) := Safe.nums hl fun c hc v hv => by
 obtain ⟨n, _, rfl⟩ := List.mem_map.1 hc
 simp only [cI, List.mem_singleton] at hv
 exact ⟨_, hv, fun _ _ _ h => by cases h⟩
theorem zzc : ∀ L : List Int, (L.map cI).flatten = L.map I
 | [] => rfl
 | a :: r => by
  simp only [List.map_cons, List.flatten_cons, zzc r]; rfl
def NoInt (v : V) : Prop := ∀ hv u L, 3 ≤ L.length → v.Rl hv u → (XL.ints L).Rl hv u → False
theorem NoInt.nil : NoInt (.v (.slice none 0 0)) := fun hv u L hL h1 h2 => by
 simp only [V.Rl] at h1 h2; subst h1
 obtain ⟨p, cap, _, e, _⟩ := h2
 simp only [Value.slice.injEq, List.length_map] at e
 omega
theorem NoInt.lst {x : List (List V)} {j : Nat} (hj : j < 3) (h : 3 ≤ x.length → ∃ v, x.flatten[j]? = some v ∧ SlV v) : NoInt (.lst x) := fun hv u L hL h1 h2 => by
 simp only [V.Rl] at h1 h2
 obtain ⟨p, cap, _, rfl, _, _, _, e5⟩ := h1
 obtain ⟨p', cap', _, e, _, _, _, f5⟩ := h2
 simp only [Value.slice.injEq, List.length_map] at e
 obtain ⟨rfl, e1, rfl⟩ := e
 obtain ⟨v, v1, v2⟩ := h (by omega)
 obtain ⟨u, u1, u2, _⟩ := e5.flat.get v1
 have f6 := f5.flat
 rw [zzc] at f6
 have hlt : j < L.length := by omega
 obtain ⟨w, w1, w2, _⟩ := f6.get (j := j) (v := I L[j]) (by rw [List.getElem?_map, List.getElem?_eq_getElem hlt]; rfl)
 rw [u1] at w1; cases w1
 simp only [V.Rl] at w2
 obtain ⟨_, _, _, h'⟩ := v2.val u2
 rw [w2] at h'; cases h'
theorem NoInt.rows (M : List (List Int)) : NoInt (rows M) := NoInt.lst (j := 0) (by omega) fun h => by
 cases M with
 | nil => simp at h
 | cons a r => exact ⟨XL.ints a, rfl, .inl ⟨_, rfl⟩⟩
theorem NoInt.rulings (M : List Ruling) : NoInt (.lst (M.map Ruling.cells)) := NoInt.lst (j := 2) (by omega) fun h => by
 cases M with
 | nil => simp at h
 | cons a r => exact ⟨XL.ints a.points, rfl, .inl ⟨_, rfl⟩⟩
theorem Safe.rows {b : Nat} {l : List V} (hl : ∀ v ∈ l, SlV v ∧ NoInt v) {M : List (List Int)} (hM : ∀ r ∈ M, 3 ≤ r.length) : Safe b l (rows M) := fun hv hv3 t y e => by
 simp only [V.Rl] at e ⊢
 obtain ⟨p, cap, sz, e1, e2, e3, e4, e5⟩ := e
 refine ⟨p, cap, sz, e1, e2, e3, e4, ?_⟩
 clear e1 e2 e4
 revert e5
 generalize 0 = i
 induction M generalizing i with
 | nil => exact fun h => h
 | cons a r ih =>
  intro h
  simp only [List.map_cons, RlE, cR, RlC, List.length_singleton] at h ⊢
  obtain ⟨⟨⟨u, u1, u2, u3⟩, _⟩, h2⟩ := h
  refine ⟨⟨⟨u, (t.ldH u1).resolve_right ?_, Safe.ints (fun v hv => (hl v hv).1) a _ _ t _ u2, u3⟩, trivial⟩, ih (fun r' hr' => hM r' (List.mem_cons_of_mem _ hr')) _ h2⟩
  rintro ⟨w, hw, hw2⟩
  exact (hl w hw).2 hv u a (hM a (List.mem_cons_self ..)) hw2 u2
theorem yma (R : List Sitting) : ∀ v ∈ (R.map Sitting.cells).flatten, SlV v ∧ NoInt v := fun v hv => by
 obtain ⟨c, h1, h2⟩ := List.mem_flatten.1 hv
 obtain ⟨s, _, rfl⟩ := List.mem_map.1 h1
 simp only [Sitting.cells, List.mem_cons, List.not_mem_nil, or_false] at h2
 rcases h2 with rfl | rfl | rfl
 ·exact ⟨.inl ⟨_, rfl⟩, NoInt.rows _⟩
 ·exact ⟨.inl ⟨_, rfl⟩, NoInt.rows _⟩
 ·exact ⟨.inl ⟨_, rfl⟩, NoInt.rulings _⟩
end Go.XL
