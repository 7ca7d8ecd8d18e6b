/- A part of a program logic over the kit's walk rules, and contracts of functions in it. Conditions: as each theorem says. -/
import Derived.Test.YtdkmlmmelehcbaaA7
import Derived.Test.YtdkmlmmelehcbaaRows
import Derived.WideKeyArgs
import Derived.OpenShut
import Derived.WalkKit
import Derived.ProofKit
set_option linter.all false
namespace Go.XL
set_option maxHeartbeats 4000000
theorem ztq {budget : Int} {round : Nat} {Q : Int → Prop} {rec : List Int → Int → Int × Int × List (Nat × List Int)} (h : ∀ t s, ∀ q ∈ (rec t s).2.2, ∀ x ∈ q.2, Q x) : ∀ (l : List (List Int)) (s : Int), (∀ t ∈ l, ∀ x ∈ t, Q x) → ∀ q ∈ (tryL budget round rec l s).2.2, ∀ x ∈ q.2, Q x
  | [], s, _, q, hq => by simp [tryL] at hq
  | t :: r, s, hl, q, hq => by
    simp only [tryL] at hq
    split at hq
    · cases hq
    split at hq
    · exact ztq h r _ (fun t' ht => hl t' (List.mem_cons_of_mem _ ht)) q hq
    · rcases List.mem_cons.1 hq with rfl | hq
      · exact hl t (List.mem_cons_self ..)
      · exact h _ _ q hq
theorem zsk {st : List Int → Int → Bool} {Q : Int → Prop} {x : List Int} : ∀ (n : Nat) (t ids : List Int), (∀ a ∈ t, Q a) → (∀ a ∈ ids, Q a) → x ∈ zfb st n t ids → ∀ a ∈ x, Q a
  | 0, t, ids, h1, _, h => by
    simp only [zfb, List.mem_singleton] at h; subst h; exact h1
  | n + 1, t, ids, h1, h2, h => by
    rw [zfb] at h
    induction ids with
    | nil => simp [zeh] at h
    | cons id r ih =>
      rw [zeh] at h
      rcases List.mem_append.1 h with h | h
      · split at h
        · refine zsk n _ _ (fun a ha => ?_) (fun a ha => h2 a (List.mem_cons_of_mem _ ha)) h
          rcases List.mem_append.1 ha with ha | ha
          · exact h1 a ha
          · obtain rfl := List.mem_singleton.1 ha
            exact h2 a (List.mem_cons_self ..)
        · cases h
      · exact ih (fun a ha => h2 a (List.mem_cons_of_mem _ ha)) h
theorem zqi {size : Nat} {budget : Int} {rounds : List (List Int)} {Q : Int → Prop} (hr : ∀ l ∈ rounds, ∀ x ∈ l, Q x) : ∀ (n : Nat) (met : Int → Int → Bool) (round : Nat) (ids : List Int) (s : Int), (∀ x ∈ ids, Q x) → ∀ q ∈ (srch size budget rounds n met round ids s).2.2, ∀ x ∈ q.2, Q x
  | 0, met, round, ids, s, _, q, hq => by simp [srch] at hq
  | n + 1, met, round, [], s, _, q, hq => by
    rw [srch] at hq
    split at hq
    · cases hq
    · refine zqi hr n met _ _ _ (fun x hx => ?_) q hq
      rw [List.getD_eq_getElem?_getD] at hx
      cases e : rounds[round + 1]? with
      | none => rw [e] at hx; cases hx
      | some l => rw [e] at hx; exact hr l (List.mem_of_getElem? e) x hx
  | n + 1, met, round, f :: fr, s, hi, q, hq => by
    rw [srch] at hq
    refine ztq (fun t s => zqi hr n _ _ _ _ fun x hx => hi x (List.mem_filter.1 hx).1) _ _ (fun t ht => ?_) q hq
    exact zsk _ _ _ (fun a ha => by obtain rfl := List.mem_singleton.1 ha; exact hi _ (List.mem_cons_self ..)) (fun a ha => hi a (List.mem_cons_of_mem _ ha)) ht
theorem nextS_all (c : Club) {Q : Int → Prop} (ids : List Int) (h : ∀ x ∈ ids, Q x) : ∀ t ∈ (zhf c ids).1, ∀ x ∈ t, Q x := by
  intro t ht
  unfold zhf at ht
  repeat' split at ht
  all_goals first | (cases ht; done) | skip
  obtain ⟨q, hq, rfl⟩ := List.mem_map.1 ht
  exact zqi (fun l hl => by obtain rfl := List.mem_singleton.1 hl; exact h) _ _ _ _ _ h q hq
theorem insS_all {Q : Int → Prop} {out : List Int} {n : Int} (h : ∀ x ∈ out, Q x) (hn : Q n) : ∀ x ∈ insS out n, Q x := by
  intro x hx
  rw [insS] at hx
  rcases List.mem_append.1 hx with hx | hx
  · exact h x (List.mem_of_mem_take hx)
  · rcases List.mem_cons.1 hx with rfl | hx
    · exact hn
    · exact h x (List.mem_of_mem_drop hx)
theorem zlh {Q : Int → Prop} : ∀ (l out : List Int), (∀ x ∈ out, Q x) → (∀ x ∈ l, Q x) → ∀ x ∈ l.foldl insS out, Q x
  | [], out, h, _ => h
  | a :: r, out, h, hl => zlh r _ (insS_all h (hl a (List.mem_cons_self ..))) fun x hx => hl x (List.mem_cons_of_mem _ hx)
theorem getD_all {Q : Int → Prop} (h0 : Q 0) {l : List Int} (h : ∀ x ∈ l, Q x) (i : Nat) : Q (l.getD i 0) := by
  rw [List.getD_eq_getElem?_getD]
  cases e : l[i]? with
  | none => exact h0
  | some x => exact h x (List.mem_of_getElem? e)
theorem ztt {Q : Int → Prop} (h0 : Q 0) (size : Int) : ∀ (n : Nat) (x : Int) (t rest : List Int), (∀ a ∈ t, Q a) → (∀ a ∈ rest, Q a) → (∀ a ∈ (tabG size n x t rest).1, Q a) ∧ ∀ a ∈ (tabG size n x t rest).2.1, Q a
  | 0, x, t, rest, h1, h2 => ⟨h1, h2⟩
  | n + 1, x, t, rest, h1, h2 => by
    rw [tabG]
    split
    · refine ztt h0 size n _ _ _ (fun a ha => ?_) (fun a ha => ?_)
      · rcases List.mem_append.1 ha with ha | ha
        · exact h1 a ha
        · obtain rfl := List.mem_singleton.1 ha
          exact getD_all h0 h2 _
      · rcases List.mem_append.1 ha with ha | ha
        · exact h2 a (List.mem_of_mem_take ha)
        · exact h2 a (List.mem_of_mem_drop ha)
    · exact ⟨h1, h2⟩
theorem zmz {Q : Int → Prop} (h0 : Q 0) (size : Int) : ∀ (n : Nat) (x : Int) (rest : List Int) (out : List (List Int)), (∀ a ∈ rest, Q a) → (∀ t ∈ out, ∀ a ∈ t, Q a) → ∀ t ∈ (zlt size n x rest out).1, ∀ a ∈ t, Q a
  | 0, x, rest, out, h1, h2 => h2
  | n + 1, x, rest, out, h1, h2 => by
    simp only [zlt]
    split
    · have h3 := ztt h0 size size.toNat x [rest.headD 0] (rest.drop 1) (fun a ha => by
        obtain rfl := List.mem_singleton.1 ha
        cases rest with
        | nil => exact h0
        | cons b r => exact h1 b (List.mem_cons_self ..)) (fun a ha => h1 a (List.mem_of_mem_drop ha))
      refine zmz h0 size n _ _ _ h3.2 fun t ht => ?_
      rcases List.mem_append.1 ht with ht | ht
      · exact h2 t ht
      · obtain rfl := List.mem_singleton.1 ht
        exact zlh _ _ (fun x hx => by cases hx) h3.1
    · exact h2
theorem roundTabs_all {Q : Int → Prop} (h0 : Q 0) (c : Club) (x : Int) (h : ∀ m ∈ c.members, Q m.id) : ∀ t ∈ (zaz c x).1, ∀ a ∈ t, Q a := by
  have h1 : ∀ a ∈ (zdj c x).1, Q a := fun a ha => by
    have h2 := (zib c.size x (zcd c c.rounds.length)).subset ha
    unfold zcd at h2
    repeat' split at h2
    all_goals first | (cases h2; done) | skip
    obtain ⟨m, hm, rfl⟩ := List.mem_map.1 h2
    exact h m (List.mem_filter.1 hm).1
  unfold zaz
  split
  · dsimp only
    split
    · exact nextS_all c _ h1
    · exact zmz h0 c.size _ _ _ _ h1 (fun t ht => by cases ht)
  · exact zmz h0 c.size _ _ _ _ h1 (fun t ht => by cases ht)
structure MadeQ (c : Club) (Q : Int → Prop) (L : Nat) (s : Sitting) : Prop where
  made : MadeR c.size L s
  ids : ∀ t ∈ s.tables, ∀ a ∈ t, Q a
theorem zmf {Q : Int → Prop} (h0 : Q 0) (c : Club) (L : Nat) (hs : 1 ≤ c.size) (hL : c.members.length + 2 ≤ L) (hm : ∀ m ∈ c.members, Q m.id) : ∀ (k : Nat) (x : Int) (R : List Sitting), (∀ s ∈ R, MadeQ c Q L s) →
    (∀ s ∈ (zed c k x R).1, MadeQ c Q L s) ∧ (zed c k x R).1.length = R.length + k
  | 0, x, R, h => ⟨h, rfl⟩
  | k + 1, x, R, h => by
    rw [zed]
    have h1 := znf c x R L hs hL fun s hs => (h s hs).made
    have h2 := zmf h0 c L hs hL hm k (zit c x R).2 (R ++ [⟨(zaz (zdi c R) x).1, (zco (zdi c R) x).1, (zit c x R).1⟩]) fun s hs => by
      rcases List.mem_append.1 hs with hs | hs
      · exact h s hs
      · obtain rfl := List.mem_singleton.1 hs
        exact ⟨h1, roundTabs_all h0 (zdi c R) x hm⟩
    exact ⟨h2.1, by rw [h2.2, List.length_append, List.length_singleton]; omega⟩
theorem zla : ∀ (k : Nat) (id x : Int) (out : List Member), (0 ≤ id ∧ ∀ m ∈ out, 0 ≤ m.id ∧ m.id ≤ id) → (zcn k id x out).1.length = out.length + k ∧ ∀ m ∈ (zcn k id x out).1, 0 ≤ m.id ∧ m.id ≤ id + 3 * k
  | 0, id, x, out, h => ⟨rfl, fun m hm => by have := h.2 m hm; omega⟩
  | k + 1, id, x, out, h => by
    rw [zcn]
    have h1 := zcm x (3 - 1 + 1)
    have h2 : 1 ≤ zcp x 1 3 ∧ zcp x 1 3 ≤ 3 := by unfold zcp; omega
    have h3 := zla k (id + zcp x 1 3) (zov (zmo (zae x)).2).2 (out ++ [⟨id + zcp x 1 3, (zmo (zae x)).1, (zov (zmo (zae x)).2).1.1, (zov (zmo (zae x)).2).1.2⟩]) ⟨by omega, fun m hm => by
      rcases List.mem_append.1 hm with hm | hm
      · have := h.2 m hm; omega
      · obtain rfl := List.mem_singleton.1 hm
        dsimp only; omega⟩
    refine ⟨by rw [h3.1, List.length_append, List.length_singleton]; omega, fun m hm => ?_⟩
    have := h3.2 m hm
    omega
structure MClub (c : Club) : Prop where
  size : c.size = 3 ∨ c.size = 4
  mem : c.members.length ≤ 13
  id : ∀ m ∈ c.members, 0 ≤ m.id ∧ m.id ≤ 39
  rounds : c.rounds.length ≤ 3
  round : ∀ s ∈ c.rounds, MadeQ c (fun n => 0 ≤ n ∧ n ≤ 39) 15 s
  places : (c.places.length : Int) = c.size
theorem zty (x : Int) : zhy x = 3 ∨ zhy x = 4 := by unfold zhy; split <;> simp
theorem placesS_len (x : Int) : ((zev x).1.length : Int) = zhy x := by
  rcases zty x with h | h <;> (rw [zev, h]; rfl)
theorem clubOf_m (x : Int) : MClub (zep x 3).1 := by
  have h1 := zty x
  have h2 := zcm (zev x).2 (3 - 1 + 1)
  have h3 := zcm (zae (zev x).2) 2
  have h4 : 1 ≤ zcp (zev x).2 1 3 ∧ zcp (zev x).2 1 3 ≤ 3 := by unfold zcp; omega
  have h5 : 0 ≤ zhy x * zcp (zev x).2 1 3 ∧ zhy x * zcp (zev x).2 1 3 ≤ 12 := by
    rcases h1 with h | h <;> rw [h] <;> omega
  have h6 := zla (zhy x * zcp (zev x).2 1 3 + zak (zae (zev x).2) 2).toNat 0 (zae (zae (zev x).2)) [] ⟨Int.le_refl _, fun m hm => by cases hm⟩
  have h7 : (zgd x).1.length ≤ 13 := by rw [zgd, h6.1]; simp only [List.length_nil]; omega
  have h8 : ∀ m ∈ (zgd x).1, 0 ≤ m.id ∧ m.id ≤ 39 := fun m hm => by have := h6.2 m hm; omega
  have h9 := zcm (zgd x).2 (3 + 1)
  have h10 := zmf (Q := fun n => 0 ≤ n ∧ n ≤ 39) (by omega) (zxb x) 15 (by show 1 ≤ zhy x; omega) (by show (zgd x).1.length + 2 ≤ 15; omega) h8 (zak (zgd x).2 (3 + 1)).toNat (zae (zgd x).2) [] (fun s hs => by cases hs)
  refine ⟨h1, h7, h8, ?_, fun s hs => ⟨(h10.1 s hs).made, (h10.1 s hs).ids⟩, placesS_len x⟩
  show (zed (zxb x) (zak (zgd x).2 (3 + 1)).toNat (zae (zgd x).2) []).1.length ≤ 3
  rw [h10.2]; simp only [List.length_nil]; omega
theorem MClub.small {c : Club} (h : MClub c) : c.Small where
  places := by have := h.places; have := h.size; omega
  members := Nat.le_trans h.mem (by omega)
  rounds := Nat.le_trans h.rounds (by omega)
  round := fun s hs => (h.round s hs).made.small (by have := h.size; omega) (by omega)
theorem MClub.tab {c : Club} (h : MClub c) : zmp c := by
  intro s hs t ht x hx
  have := (h.round s hs).ids t ht x hx
  unfold In64; omega
theorem MClub.in64 {c : Club} (h : MClub c) : ∀ m ∈ c.members, In64 m.id := fun m hm => by
  have := h.id m hm
  unfold In64; omega
end Go.XL
namespace Go.XL
open Go.Proofs
set_option maxRecDepth 100000
set_option maxHeartbeats 8000000
theorem fair_pc (c : Club) (hs : c.Small) (hc : zmp c) (h0 : zcs c = 0) (t : List Int) (ht : ∀ x ∈ t, In64 x) (hl : t.length ≤ 1000000) : PC Try.prog 25 [c.val, ints t] (Bo (zhi (met0 c) t)) := by
  have hm : ∀ a b, metX c a b = (metS c a b : Int) := fun a b => by rw [metX, if_neg (by omega)]
  refine DC.of_run Try.func25 rfl Try.ntmps25 Try.results25 (by simp) (fun _ => ?_); simp only [zap, zar, go_sem, Nat.zero_add, Nat.reduceAdd]
  repeat' (first | (with_reducible first | refine DS.fltS yU yU yE ?_ | refine DS.opsNil ?_ | refine DS.seq ?_ | refine DS.regionL ?_ | refine DS.block ?_) | (refine DS.boxF (t := 2) yU yE yU ?_; simp only [zbl, zch, zbk, zbx, zbh, zbb, zbq, zbg, zci, zcg, zbt, zcf, zbw, zbv]) | fail)
  refine DS.loopK [1, 2] (by (simp only [go_sem, Nat.reduceEqDiff, ↓reduceIte]; exact rfl)) (fun (i : Nat) => [(5, I i)]) (fun (i : Nat) => i ≤ t.length ∧ zhi (met0 c) t = zhi (met0 c) (t.drop i)) (fun (i : Nat) => t.length - i) 0 yS ⟨Nat.zero_le _, rfl⟩ (fun i B hI hB => ?_); try dsimp only at hI hB; simp only [zaq, zat]
  obtain ⟨g1, g2⟩ := hI
  have H := Box.mk g2
  clear g2
  have hB0 := hB
  clear hB
  by_cases hi : (i : Int) < (t.length : Int)
  · have hi' : i < t.length := by omega
    repeat' (first | (with_reducible first | refine DS.fltS yU yU yE ?_ | refine DS.opsNil ?_ | refine DS.seq ?_ | refine DS.regionL ?_ | (refine DS.cE yE ?_; refine CG.yes ?_) | refine DS.block ?_ | refine DS.skip ?_) | fail)
    refine DS.loopK [1, 2, 5] (by (simp only [go_sem, Nat.reduceEqDiff, ↓reduceIte]; exact rfl)) (fun (k : Nat) => [(6, I k)]) (fun (k : Nat) => i + 1 ≤ k ∧ k ≤ t.length ∧ ((t.drop (i + 1)).all fun b => !met0 c t[i] b) = ((t.drop k).all fun b => !met0 c t[i] b)) (fun (k : Nat) => t.length - k) (i + 1) yS ⟨Nat.le_refl _, by omega, rfl⟩ (fun k B hI hB => ?_); try dsimp only at hI hB; simp only [zaq, zat]
    obtain ⟨f1, f2, f3⟩ := hI
    have H2 := Box.mk f3
    clear f3
    by_cases hk : (k : Int) < (t.length : Int)
    · have hk' : k < t.length := by omega
      have hmp := zvv c hs hc (t[i]'(by omega)) (t[k]'(by omega)) (ht _ (List.getElem_mem _)) (ht _ (List.getElem_mem _))
      rw [hm] at hmp
      repeat' (first | (with_reducible first | refine DS.fltS yU yU yE ?_ | refine DS.opsNil ?_ | refine DS.seq ?_ | refine DS.regionL ?_ | (refine DS.cE yE ?_; first | refine CG.p (fun _ => ?_) (fun _ => ?_) | refine CG.yes ?_) | refine DS.blk ?_ | refine DS.block ?_ | refine DS.skip ?_) | refine DS.pcS inferInstance (hmp) yR yT ?_ | refine DS.drawL (id := 7) [0, 1, 2, 3, 4, 5, 6, 7, 8] 9 (by kernel_rfl) zcy (by simp only [zay, zbc, zbd, zbe, zax]; exact rfl) (by simp only [zau, zav, List.drop_nil]; exact rfl) ?_ | (with_reducible first | refine DD.fltS yU yU yU yE ?_ | refine DD.nil0 ?_) | refine DS.retT [] yE trivial ?_ | fail)
      · rename_i e1
        have e2 : ((t.drop (i + 1)).all fun b => !met0 c (t[i]'(by omega)) b) = false := by
          rw [H2.out, List.drop_eq_getElem_cons hk', List.all_cons]
          have : met0 c (t[i]'(by omega)) (t[k]'(by omega)) = true := decide_eq_true (by omega)
          rw [this]; rfl
        rw [H.out, List.drop_eq_getElem_cons hi', zhi, e2]; rfl
      · rename_i e1
        refine DS.back (hB (k + 1) _ _ (by omega) ⟨by omega, by omega, ?_⟩ yS yS (fun d o e => by exact e))
        rw [H2.out, List.drop_eq_getElem_cons hk', List.all_cons]
        have : met0 c (t[i]'(by omega)) (t[k]'(by omega)) = false := decide_eq_false (by omega)
        rw [this]; rfl
    · repeat' (first | (with_reducible first | refine DS.fltS yU yU yE ?_ | refine DS.opsNil ?_ | refine DS.seq ?_ | refine DS.regionL ?_ | (refine DS.cE yE ?_; refine CG.no ?_) | refine DS.blk ?_ | refine DS.exit yU ?_) | fail)
      refine DS.back (hB0 (i + 1) _ _ (by omega) ⟨by omega, ?_⟩ yS yS (fun d o e => by exact e))
      rw [H.out, List.drop_eq_getElem_cons hi', zhi, H2.out, List.drop_eq_nil_of_le (by omega)]; rfl
  · repeat' (first | (with_reducible first | refine DS.fltS yU yU yE ?_ | refine DS.opsNil ?_ | refine DS.seq ?_ | refine DS.regionL ?_ | (refine DS.cE yE ?_; refine CG.no ?_) | refine DS.exit yU ?_) | refine DS.retT [] yE trivial ?_ | fail)
    rw [H.out, List.drop_eq_nil_of_le (by omega)]; rfl
abbrev mC (c : Club) : List V := [I c.size, I c.start, I c.absent, I c.window, ints c.places, Bo c.share, .lst (c.members.map Member.cells), .lst (c.rounds.map Sitting.cells)]
end Go.XL
namespace Go.XL
open Go.Proofs
set_option maxRecDepth 100000
set_option maxHeartbeats 8000000
theorem into_pc (n m : Int) (hn : In64 n) (hm : 1 ≤ m ∧ m ≤ 1000000) : PC Try.prog 32 [I n, I m] (I (n % m)) := by
  have h1 := Int.emod_nonneg n (show m ≠ 0 by omega)
  have h2 := Int.emod_lt_of_pos n (show 0 < m by omega)
  have h3 : n.tmod m < m := Int.tmod_lt_of_pos n (show 0 < m by omega)
  have h4 : -m < n.tmod m := Int.lt_tmod_of_pos n (show 0 < m by omega)
  have h5 : n % m = n.tmod m ∨ n % m = n.tmod m + m := by
    rw [Int.tmod_eq_emod]
    split <;> omega
  refine DC.of_run Try.func32 rfl Try.ntmps32 Try.results32 (by simp) (fun _ => ?_); simp only [zap, zar, go_sem, Nat.zero_add, Nat.reduceAdd]
  repeat' (first | (with_reducible first | refine DS.fltS yU yU yE ?_ | refine DS.opsNil ?_ | refine DS.seq ?_ | refine DS.regionL ?_ | (refine DS.cE yE ?_; refine CG.p (fun _ => ?_) (fun _ => ?_)) | refine DS.skip ?_) | refine DS.retT [] yE trivial ?_ | fail)
  · have h6 : n.tmod m + m = n % m := by omega
    rw [h6]; rfl
  · have h6 : n.tmod m = n % m := by omega
    rw [h6]; rfl
end Go.XL
namespace Go.XL
open Go.Proofs
set_option maxHeartbeats 4000000
section
variable {v0 : VH} {P : Program} {n : Nat} {E : VEnv} {S : Sto} {dst : Option Tmp} {ty : TypeId} {pos : String} {af : Array Edge}
theorem OpS.mono {o : Oper} {R R' : V → VEnv → Sto → Prop} (h : OpS v0 P n o E S R) (k : ∀ u E' S', R u E' S' → R' u E' S') : OpS v0 P n o E S R' := fun K D hv hold env a w h1 h2 h3 =>
  (h K D hv hold env a w h1 h2 h3).mono fun _ _ ⟨hs, u, E', S', hv', hold', p, q, r⟩ => ⟨hs, u, E', S', hv', hold', p, q, k _ _ _ r⟩
theorem OpS.appE {g : GR} {T t by_ e sz : Nat} {sx x : Operand} {vx : V} (hd : dst = some t) (ht : tel P T = some (e, sz, by_))
    (hs : evV E sx = some g.cell) (hok : g.Ok e sz S) (hx : evV E x = some vx) (hxl : zdz vx = some []) :
    OpS v0 P n ⟨dst, .call { callee := .builtin .append, args := #[sx, x], argTypes := #[T, T] }, ty, pos, af, none⟩ E S (fun u E' S' => E' = E ∧ u = g.cell ∧ S' = S) := by
  subst hd
  intro K D hv hold env a w hfl ha s
  obtain ⟨yx, g3, g3'⟩ := s.rl _ _ hx
  have hxR := zfy hxl g3'
  obtain ⟨hu, i, hi, hisz, hiby⟩ := zhv ht
  obtain ⟨ao, c, sz', rfl, x1, x2, x3, x4⟩ := hxR
  simp only [List.length_nil] at g3
  have key : ∀ y, g.cell.Rl hv y → ev env sx = some y → (Builtin.append_ #[T, T] ty #[y, .slice ao 0 c]).run P w = .ok y w → Yields P ⟨some t, .call { callee := .builtin .append, args := #[sx, x], argTypes := #[T, T] }, ty, pos, af, none⟩ a w fun y' w' => Same w w' ∧ ∃ u E' S' hv' hold', PreV hv hv' ∧ St K hv' hold' (putV E' (some t) u) S' (put env (some t) y') w'.heap ∧ (E' = E ∧ u = g.cell ∧ S' = S) := fun y h1 h2 hr => by
    have hrun : (execOp a.eval ⟨some t, .call { callee := .builtin .append, args := #[sx, x], argTypes := #[T, T] }, ty, pos, af, none⟩).run P w = .ok (.value y) w := by
      simp [execOp, resolve, invoke, builtin, ha.ev h2, ha.ev g3, hr]
    refine zdy hrun ⟨Same.refl w, g.cell, E, S, hv, hold, PreV.refl hv, s.put (some t) h1 fun u hu => ?_, rfl, rfl, rfl⟩
    obtain ⟨l, blk⟩ := g
    cases blk <;> exact trivial
  obtain ⟨y, g2, g2'⟩ := s.rl _ _ hs
  refine key y g2' g2 ?_
  obtain ⟨l, blk⟩ := g
  cases blk with
  | none =>
    simp only [GR.cell, V.Rl] at g2'; subst g2'
    cases ao <;> simp [Builtin.append_, run_underlying hu, sizeOf, typeInfo, hi, Builtin.lenOf, Builtin.firstCells, loadCells, loadCellsFrom]
  | some z =>
    obtain ⟨b, cap, j⟩ := z
    simp only [GR.cell, V.Rl] at g2'; subst g2'
    have hle := hok.le
    cases ao <;> simp [Builtin.append_, run_underlying hu, sizeOf, typeInfo, hi, Builtin.lenOf, Builtin.firstCells, loadCells, loadCellsFrom, hle, storeCells]
theorem OpS.appA {g : GR} {T t by_ e sz : Nat} {z : Value} {sx x : Operand} {vx : V} {ml : List (List V)} (hd : dst = some t) (ht : tel P T = some (e, sz, by_)) (hz : zdl P e = some z) (hzs : z.cells.size = sz) (hzo : zgh z.cells.toList = true) (hsz : 0 < sz)
    (hs : evV E sx = some g.cell) (hok : g.Ok e sz S) (hx : evV E x = some vx) (hxl : zdz vx = some ml) (hml : ∀ c ∈ ml, c.length = sz) (hfit : g.l.length + ml.length ≤ 2147483648 ∧ by_ ≤ 65536) :
    OpS v0 P n ⟨dst, .call { callee := .builtin .append, args := #[sx, x], argTypes := #[T, T] }, ty, pos, af, none⟩ E S
      (fun u E' S' => E' = E ∧ ∃ g' : GR, u = g'.cell ∧ g'.l = g.l ++ ml.map (·.map V.copy) ∧ g'.Ok e sz S' ∧ (∀ b cap j, g'.blk = some (b, cap, j) → (∃ cap j, g.blk = some (b, cap, j)) ∨ zaa S b = none) ∧
        ∀ b, (∀ cap j, g'.blk ≠ some (b, cap, j)) → (∀ cap j, g.blk ≠ some (b, cap, j)) → zaa S' b = zaa S b) := by
  cases ml with
  | nil =>
    refine (OpS.appE hd ht hs hok hx hxl).mono ?_
    rintro u E' S' ⟨rfl, rfl, rfl⟩
    exact ⟨rfl, g, rfl, by simp, hok, fun b cap j h => .inl ⟨cap, j, h⟩, fun _ _ _ => rfl⟩
  | cons c r =>
    refine (OpS.appG hd ht hz hzs hzo hsz hs hok hx hxl (by simp) hml hfit).mono ?_
    rintro u E' S' ⟨rfl, b', cap', junk, rfl, m1, m2, m3⟩
    exact ⟨rfl, _, rfl, rfl, m1, fun b cap j h => by cases h; exact m2, fun b h1 h2 => m3 b (fun h => h1 cap' junk (by rw [h])) h2⟩
end
end Go.XL
namespace Go.XL
open Go.Proofs
set_option maxRecDepth 100000
set_option maxHeartbeats 8000000
theorem ne_cells {α : Type} {f : α → List V} (hf : ∀ a, f a ≠ []) (l : List α) : ∀ c ∈ l.map f, c ≠ [] := fun c hc => by
  obtain ⟨x, _, rfl⟩ := List.mem_map.1 hc; exact hf x
theorem cloneL_dc (l : List (List Int)) (hl : l.length ≤ 2147483647) : DC Try.prog 106 [.lst (l.map cR)] [] (fun u S' => ∃ g : GR, u = g.cell ∧ g.Ok 22 1 S' ∧ g.l = l.map cR) := by
  refine DC.of_run Try.func106 rfl Try.ntmps106 Try.results106 (by simp) (fun _ => ?_); simp only [zap, zar, go_sem, Nat.zero_add, Nat.reduceAdd]
  repeat' (first | (with_reducible first | refine DS.fltS yU yU yE ?_ | refine DS.opsNil ?_ | refine DS.seq ?_ | refine DS.regionL ?_) | fail)
  refine DS.eqNil yR yU yG yR (ne_cells (fun _ h => by cases h) l) (fun b hb => ?_)
  cases b with
  | true =>
    have hb := hb rfl
    rw [hb]
    repeat' (first | (with_reducible first | refine DS.fltS yU yU yE ?_ | refine DS.opsNil ?_ | refine DS.seq ?_ | refine DS.regionL ?_ | (refine DS.cE yE ?_; refine CG.yes ?_)) | fail)
    refine DS.retA yG ⟨⟨[], none⟩, rfl, rfl, rfl⟩
  | false =>
    clear hb
    repeat' (first | (with_reducible first | refine DS.opsNil ?_ | refine DS.seq ?_ | refine DS.regionL ?_ | (refine DS.cE yE ?_; refine CG.no ?_) | refine DS.skip ?_) | fail)
    refine DS.bslO yR yG yG (fun b hb => ?_)
    repeat' (first | with_reducible refine DS.fltS yU yU yE ?_ | fail)
    have G : GR.Ok 22 1 [(b, .cells [] 22)] ⟨[], some (b, 0, [])⟩ := ⟨by simp [zaa], rfl, Nat.le_refl _, Nat.zero_le _, by simp, by simp, by simp⟩
    refine DS.step rfl rfl yR (OpS.appA (g := ⟨[], some (b, 0, [])⟩) (ml := l.map cR) rfl yH yH yR yR (by decide) yH G yH yH (by intro x hx; obtain ⟨y, -, rfl⟩ := List.mem_map.1 hx; rfl) ⟨by simp only [List.length_map, List.length_nil]; omega, by decide⟩) (fun u2 E' S4 hu2 => ?_)
    obtain ⟨rfl, g, rfl, m1, m2, -⟩ := hu2
    simp only [zcq]
    repeat' (first | (with_reducible first | refine DS.fltS yU yU yE ?_ | refine DS.opsNil ?_) | fail)
    refine DS.retA yG ⟨g, (by exact g.cell_copy), m2, ?_⟩
    rw [m1, List.nil_append, List.map_map]; rfl
theorem cloneM_pc (l : List Member) (hl : l.length ≤ 2147483647) : PC Try.prog 103 [.lst (l.map Member.cells)] (.own false 88 4 (l.map Member.cells)) := by
  refine DC.of_run Try.func103 rfl Try.ntmps103 Try.results103 (by simp) (fun _ => ?_); simp only [zap, zar, go_sem, Nat.zero_add, Nat.reduceAdd]
  repeat' (first | (with_reducible first | (refine DS.nilOwn (t := 2) yU (by first | exact .inl rfl | exact .inr rfl) yE ?_) | refine DS.fltS yU yU yE ?_ | refine DS.opsNil ?_ | refine DS.seq ?_ | refine DS.regionL ?_) | fail)
  refine DS.eqNil yR yU yG yR (ne_cells (fun _ h => by cases h) l) (fun b hb => ?_)
  cases b with
  | true =>
    have hb := hb rfl
    simp only [List.map_eq_nil_iff] at hb
    subst hb
    repeat' (first | (with_reducible first | (refine DS.nilOwn (t := 2) yU (by first | exact .inl rfl | exact .inr rfl) yE ?_) | refine DS.opsNil ?_ | refine DS.seq ?_ | refine DS.regionL ?_ | (refine DS.cE yE ?_; refine CG.yes ?_)) | refine DS.retT [] yE trivial ?_ | fail)
    rfl
  | false =>
    clear hb
    repeat' (first | (with_reducible refine DS.mv (t := 2) yU (by first | exact .inl rfl | exact .inr rfl) yE ?_; simp only [zal, zac, zad, Nat.reduceEqDiff, ↓reduceIte, zah, zai, zan, zag, zaf, zam, zaj]) | (with_reducible first | refine DS.fltS yU yU yE ?_ | refine DS.opsNil ?_ | refine DS.seq ?_ | refine DS.regionL ?_ | (refine DS.cE yE ?_; refine CG.no ?_) | refine DS.skip ?_) | (refine DS.bsl yU yE yE ?_; simp only [go_sem, Nat.zero_add, Nat.reduceAdd]) | (refine DS.append (mm := false) yU yE yE yU (by decide) yE (by first | exact .inl rfl | exact .inr ⟨rfl, rfl⟩) yE yX0 (by first | exact zao zct _ | exact zao zdn _ | exact zao Member.len _ | exact zao Sitting.len _ | exact zao Ruling.len _ | (simp only [List.mem_cons, List.not_mem_nil, or_false, forall_eq]; rfl) | simp) ⟨by (try simp only [List.length_map, List.length_cons, List.length_nil, List.length_append, List.length_take, List.length_drop]); omega, by decide⟩ ?_; simp only [zal, zac, zad, Nat.reduceEqDiff, ↓reduceIte, zah, zai, zan, zag, zaf, zam, zaj]) | refine DS.retT [] yE trivial ?_ | fail)
    rfl
theorem cloneS_dc (l : List Sitting) (hl : l.length ≤ 2147483647) : DC Try.prog 104 [.lst (l.map Sitting.cells)] [] (fun u S' => ∃ g : GR, u = g.cell ∧ g.Ok 81 3 S' ∧ g.l = l.map Sitting.cells) := by
  refine DC.of_run Try.func104 rfl Try.ntmps104 Try.results104 (by simp) (fun _ => ?_); simp only [zap, zar, go_sem, Nat.zero_add, Nat.reduceAdd]
  repeat' (first | (with_reducible first | refine DS.fltS yU yU yE ?_ | refine DS.opsNil ?_ | refine DS.seq ?_ | refine DS.regionL ?_) | fail)
  refine DS.eqNil yR yU yG yR (ne_cells (fun _ h => by cases h) l) (fun b hb => ?_)
  cases b with
  | true =>
    have hb := hb rfl
    rw [hb]
    repeat' (first | (with_reducible first | refine DS.fltS yU yU yE ?_ | refine DS.opsNil ?_ | refine DS.seq ?_ | refine DS.regionL ?_ | (refine DS.cE yE ?_; refine CG.yes ?_)) | fail)
    refine DS.retA yG ⟨⟨[], none⟩, rfl, rfl, rfl⟩
  | false =>
    clear hb
    repeat' (first | (with_reducible first | refine DS.opsNil ?_ | refine DS.seq ?_ | refine DS.regionL ?_ | (refine DS.cE yE ?_; refine CG.no ?_) | refine DS.skip ?_) | fail)
    refine DS.bslO yR yG yG (fun b hb => ?_)
    repeat' (first | with_reducible refine DS.fltS yU yU yE ?_ | fail)
    have G : GR.Ok 81 3 [(b, .cells [] 81)] ⟨[], some (b, 0, [])⟩ := ⟨by simp [zaa], rfl, Nat.le_refl _, Nat.zero_le _, by simp, by simp, by simp⟩
    refine DS.step rfl rfl yR (OpS.appA (g := ⟨[], some (b, 0, [])⟩) (ml := l.map Sitting.cells) rfl yH yH yR yR (by decide) yH G yH yH (by intro x hx; obtain ⟨y, -, rfl⟩ := List.mem_map.1 hx; rfl) ⟨by simp only [List.length_map, List.length_nil]; omega, by decide⟩) (fun u2 E' S4 hu2 => ?_)
    obtain ⟨rfl, g, rfl, m1, m2, -⟩ := hu2
    simp only [zcq]
    repeat' (first | (with_reducible first | refine DS.fltS yU yU yE ?_ | refine DS.opsNil ?_) | fail)
    refine DS.retA yG ⟨g, (by exact g.cell_copy), m2, ?_⟩
    rw [m1, List.nil_append, List.map_map]; rfl
theorem cloneR_dc (l : List Ruling) (hl : l.length ≤ 2147483647) : DC Try.prog 105 [.lst (l.map Ruling.cells)] [] (fun u S' => ∃ g : GR, u = g.cell ∧ g.Ok 78 3 S' ∧ g.l = l.map Ruling.cells) := by
  refine DC.of_run Try.func105 rfl Try.ntmps105 Try.results105 (by simp) (fun _ => ?_); simp only [zap, zar, go_sem, Nat.zero_add, Nat.reduceAdd]
  repeat' (first | (with_reducible first | refine DS.fltS yU yU yE ?_ | refine DS.opsNil ?_ | refine DS.seq ?_ | refine DS.regionL ?_) | fail)
  refine DS.eqNil yR yU yG yR (ne_cells (fun _ h => by cases h) l) (fun b hb => ?_)
  cases b with
  | true =>
    have hb := hb rfl
    rw [hb]
    repeat' (first | (with_reducible first | refine DS.fltS yU yU yE ?_ | refine DS.opsNil ?_ | refine DS.seq ?_ | refine DS.regionL ?_ | (refine DS.cE yE ?_; refine CG.yes ?_)) | fail)
    refine DS.retA yG ⟨⟨[], none⟩, rfl, rfl, rfl⟩
  | false =>
    clear hb
    repeat' (first | (with_reducible first | refine DS.opsNil ?_ | refine DS.seq ?_ | refine DS.regionL ?_ | (refine DS.cE yE ?_; refine CG.no ?_) | refine DS.skip ?_) | fail)
    refine DS.bslO yR yG yG (fun b hb => ?_)
    repeat' (first | with_reducible refine DS.fltS yU yU yE ?_ | fail)
    have G : GR.Ok 78 3 [(b, .cells [] 78)] ⟨[], some (b, 0, [])⟩ := ⟨by simp [zaa], rfl, Nat.le_refl _, Nat.zero_le _, by simp, by simp, by simp⟩
    refine DS.step rfl rfl yR (OpS.appA (g := ⟨[], some (b, 0, [])⟩) (ml := l.map Ruling.cells) rfl yH yH yR yR (by decide) yH G yH yH (by intro x hx; obtain ⟨y, -, rfl⟩ := List.mem_map.1 hx; rfl) ⟨by simp only [List.length_map, List.length_nil]; omega, by decide⟩) (fun u2 E' S4 hu2 => ?_)
    obtain ⟨rfl, g, rfl, m1, m2, -⟩ := hu2
    simp only [zcq]
    repeat' (first | (with_reducible first | refine DS.fltS yU yU yE ?_ | refine DS.opsNil ?_) | fail)
    refine DS.retA yG ⟨g, (by exact g.cell_copy), m2, ?_⟩
    rw [m1, List.nil_append, List.map_map]; rfl
end Go.XL
namespace Go.XL
section
variable {P : Program} {ops : Array Oper} {Rd : Heap → Prop} {W : World}
def zoe (ops : Array Oper) (pre ord : List Nat) (m : Nat) : Bool :=
  decide (m ≤ ops.size ∧ ord.length + pre.length ≤ m) && zvs ops (zcl ops.toList []) pre ord && ord.all (fun i => decide (i < m) && !pre.contains i) && (List.range m).all (fun i => ord.contains i || pre.contains i) && pre.all (fun i => decide (i < m)) &&
    ((List.range ops.size).all fun i => decide (i < m) || (match ops[i]? with
      | some oi => zox (zcl ops.toList []) i oi && (zem oi).all (fun j => decide (j < i)) && (List.range i).all fun j => pre.contains j || ((zcl ops.toList []).getD i []).contains j
      | none => false)) &&
    pre.all fun p => match ops[p]? with
      | some o => zox (zcl ops.toList []) p o && (zem o).isEmpty && (List.range ops.size).all fun j => match ops[j]? with
          | some oj => decide (j = p) || (zem oj).contains p || (zkz oj && o.apart ops oj)
          | none => false
      | none => false
structure OkFactsP (ops : Array Oper) (pre ord : List Nat) (m : Nat) : Prop where
  size : m ≤ ops.size
  len : ord.length + pre.length ≤ m
  mem : ∀ i, i ∈ ord ↔ i < m ∧ i ∉ pre
  prelt : ∀ p ∈ pre, p < m
  all : ∀ i oi, ops[i]? = some oi → zkz oi = true ∧
      (∀ j ∈ (zcl ops.toList []).getD i [], j ∈ zem oi ∨ ∃ m ∈ zem oi, j ∈ (zcl ops.toList []).getD m [])
  ord : ∀ A i B oi, ord = A ++ i :: B → ops[i]? = some oi → (∀ j ∈ zem oi, j ∈ pre ++ A) ∧ i ∉ A ∧
      ∀ j ∈ A, ∀ oj, ops[j]? = some oj → j ∈ (zcl ops.toList []).getD i [] ∨ (oj.apart ops oi = true ∧ (zdm oj = false ∨ zdm oi = false ∨ zfq oi.op = true))
  later : ∀ i oi, ops[i]? = some oi → m ≤ i → ∀ j ∈ zem oi, j < i
  tail : ∀ i, i < ops.size → m ≤ i → ∀ j, j < i → j ∉ pre → j ∈ (zcl ops.toList []).getD i []
  pre0 : ∀ p ∈ pre, ∃ o, ops[p]? = some o ∧ zem o = [] ∧ ∀ j oj, ops[j]? = some oj → j ≠ p → p ∈ zem oj ∨ o.apart ops oj = true
theorem okFactsP {pre ord : List Nat} {m : Nat} (hok : zoe ops pre ord m = true) : OkFactsP ops pre ord m := by
  unfold zoe at hok
  simp only [Bool.and_eq_true, decide_eq_true_eq] at hok
  obtain ⟨⟨⟨⟨⟨⟨hm, ho⟩, ha⟩, hb⟩, hpl⟩, ht⟩, hp0⟩ := hok
  have hpl' : ∀ p ∈ pre, p < m := fun p hp => by simpa using List.all_eq_true.1 hpl p hp
  have hmem : ∀ i, i ∈ ord ↔ i < m ∧ i ∉ pre := fun i => ⟨fun h => by simpa using List.all_eq_true.1 ha i h, fun h => by
    have h1 := List.all_eq_true.1 hb i (List.mem_range.2 h.1)
    simp only [Bool.or_eq_true, List.contains_iff_mem] at h1
    rcases h1 with h1 | h1
    · exact h1
    · exact (h.2 h1).elim⟩
  rw [List.all_eq_true] at ht hp0
  have hl : ∀ i oi, ops[i]? = some oi → m ≤ i → zox (zcl ops.toList []) i oi = true ∧ (∀ j ∈ zem oi, j < i) ∧ ∀ j, j < i → j ∉ pre → j ∈ (zcl ops.toList []).getD i [] := fun i oi hoi hi => by
    have := ht i (List.mem_range.2 (Array.getElem?_eq_some_iff.1 hoi).1)
    simp only [hoi, Bool.or_eq_true, decide_eq_true_eq, Bool.and_eq_true, List.all_eq_true, List.contains_iff_mem, List.mem_range] at this
    rcases this with h | h
    · omega
    · exact ⟨h.1.1, h.1.2, fun j hj hjp => (h.2 j hj).resolve_left hjp⟩
  have hp : ∀ p ∈ pre, ∃ o, ops[p]? = some o ∧ zox (zcl ops.toList []) p o = true ∧ zem o = [] ∧ ∀ j oj, ops[j]? = some oj → j ≠ p → p ∈ zem oj ∨ o.apart ops oj = true := fun p hp => by
    have h1 := hp0 p hp
    split at h1
    · rename_i o ho
      simp only [Bool.and_eq_true, List.isEmpty_iff, List.all_eq_true] at h1
      refine ⟨o, ho, h1.1.1, h1.1.2, fun j oj hoj hj => ?_⟩
      have h2 := h1.2 j (List.mem_range.2 (Array.getElem?_eq_some_iff.1 hoj).1)
      rw [hoj] at h2
      simp only [Bool.or_eq_true, decide_eq_true_eq, List.contains_iff_mem, Bool.and_eq_true] at h2
      rcases h2 with (h2 | h2) | h2
      · exact (hj h2).elim
      · exact .inl h2
      · exact .inr h2.2
    · cases h1
  refine ⟨hm.1, hm.2, hmem, hpl', fun i oi hoi => ?_, fun A i B oi e hoi => ?_, fun i oi hoi hi => (hl i oi hoi hi).2.1, fun i hi hmi => (hl i _ (Array.getElem?_eq_getElem hi) hmi).2.2, fun p h => let ⟨o, a, _, b⟩ := hp p h; ⟨o, a, b⟩⟩
  · rcases Nat.lt_or_ge i m with h | h
    · by_cases hip : i ∈ pre
      · obtain ⟨o, h1, h2, -⟩ := hp i hip
        rw [hoi] at h1; cases h1
        exact zhn h2
      · obtain ⟨A, B, e⟩ := List.append_of_mem ((hmem i).2 ⟨h, hip⟩)
        obtain ⟨oi', h1, h2, _⟩ := zhm ho A i B e
        rw [hoi] at h1; cases h1
        exact zhn h2
    · exact zhn (hl i oi hoi h).1
  · obtain ⟨oi', h1, _, h3, h4, h5⟩ := zhm ho A i B e
    rw [hoi] at h1; cases h1
    refine ⟨h3, fun h => h4 (List.mem_append_right _ h), fun j hj oj hoj => ?_⟩
    have := h5 j (List.mem_append_right _ hj) oj hoj
    simp only [zuh, Bool.or_eq_true, Bool.and_eq_true, List.contains_iff_mem, Bool.not_eq_eq_eq_not, Bool.not_true] at this
    rcases this with q | ⟨q1, (q2 | q2) | q2⟩
    · exact .inl q
    · exact .inr ⟨q1, .inl q2⟩
    · exact .inr ⟨q1, .inr (.inl q2)⟩
    · exact .inr ⟨q1, .inr (.inr q2)⟩
theorem rem_setP {pre ord : List Nat} {m : Nat} (ok : OkFactsP ops pre ord m) {listed : Array Bool} {i : Nat} {R1 R2 : List Nat} (hi : i < listed.size) {o : Oper} (ho : ops[i]? = some o) (h : rem ord listed = R1 ++ i :: R2) : rem ord (listed.setIfInBounds i true) = R1 ++ R2 := by
  obtain ⟨A, B, e, h1, h2⟩ := zhl h
  have hA : i ∉ A := (ok.ord A i B o e ho).2.1
  have hB : i ∉ B := fun hb => by
    obtain ⟨B1, B2, rfl⟩ := List.append_of_mem hb
    exact (ok.ord (A ++ i :: B1) i B2 o (by simp [e]) ho).2.1 (by simp)
  have hs : rem [i] (listed.setIfInBounds i true) = [] := by unfold rem; simp [hi]
  have : ord = A ++ ([i] ++ B) := by simp [e]
  rw [this]
  have app : ∀ (l1 l2 : List Nat) (q : Array Bool), rem (l1 ++ l2) q = rem l1 q ++ rem l2 q := fun l1 l2 q => List.filter_append ..
  rw [app, app, hs, zqn hA, zqn hB, h1, h2, List.nil_append]
theorem zia {pre ord : List Nat} {m : Nat} (ok : OkFactsP ops pre ord m) {listed : Array Bool} (hcl : ziu (zcl ops.toList []) listed) {i : Nat} (hi : i ∈ Region.ready .any ops listed) :
    ∀ j ∈ (zcl ops.toList []).getD i [], listed.getD j false = true := by
  obtain ⟨hun, o, ho, hall⟩ := mem_ready.1 hi
  obtain ⟨k1, k3⟩ := ok.all i o ho
  intro j hj
  have pl : ∀ m ∈ zem o, listed.getD m false = true := by
    intro m hm'
    obtain ⟨e, he, rfl⟩ := List.mem_map.1 hm'
    obtain ⟨he1, he2⟩ := List.mem_filter.1 he
    exact hall e (by simpa using he1) he2
  rcases k3 j hj with h' | ⟨m, hm', hjm⟩
  · exact pl j h'
  · exact hcl m (pl m hm') j hjm
theorem zog {pre ord : List Nat} {m : Nat} (ok : OkFactsP ops pre ord m) {listed : Array Bool} (hcl : ziu (zcl ops.toList []) listed) {i : Nat} (hi : i ∈ Region.ready .any ops listed) :
    ziu (zcl ops.toList []) (listed.setIfInBounds i true) := by
  intro m hm' j hj
  by_cases hmi : i = m
  · subst hmi; exact getD_set_true (zia ok hcl hi j hj)
  · rw [getD_set_ne false hmi] at hm'; exact getD_set_true (hcl m hm' j hj)
theorem zmx {rr : Option Nat} {pre ord : List Nat} {m : Nat} (ok : OkFactsP ops pre ord m) {Q' : Exit → Act → World → Prop} : ∀ (fuel k : Nat) (listed : Array Bool) (a : Act) (w : World), ops.size - k ≤ fuel → m ≤ k → k ≤ ops.size → listed.size = ops.size →
    (∀ j, j < k → listed.getD j false = true) → (∀ j, k ≤ j → j < ops.size → listed.getD j true = false) → ziu (zcl ops.toList []) listed →
    wpL rr P ops Q' (ops.toList.drop k) a w → wpAnyIn (FW rr) 0 P .any ops Q' fuel listed a w := by
  intro fuel
  have ready_lt : ∀ (k : Nat) (listed : Array Bool), m ≤ k → listed.size = ops.size → (∀ j, j < k → listed.getD j false = true) → (∀ j, k ≤ j → j < ops.size → listed.getD j true = false) → ziu (zcl ops.toList []) listed →
      ∀ i ∈ Region.ready .any ops listed, i = k := by
    intro k listed hmk hsz hlo hhi hcl i hi
    obtain ⟨hun, o, ho, hall⟩ := mem_ready.1 hi
    have hlt := (Array.getElem?_eq_some_iff.1 ho).1
    rcases Nat.lt_trichotomy i k with h | h | h
    · have h1 := hlo i h
      have := zek (by omega) hun h1
      cases this
    · exact h
    · have hin := ok.tail i hlt (by omega) k h (fun hp => by have := ok.prelt _ hp; omega)
      have h1 := zia ok hcl hi k hin
      have h2 := hhi k (Nat.le_refl _) (by omega)
      have := zek (by omega) h2 h1
      cases this
  have ready_k : ∀ (k : Nat) (listed : Array Bool), m ≤ k → k < ops.size → (∀ j, j < k → listed.getD j false = true) → (∀ j, k ≤ j → j < ops.size → listed.getD j true = false) → k ∈ Region.ready .any ops listed := by
    intro k listed hmk hk hlo hhi
    have hoi : ops[k]? = some ops[k] := Array.getElem?_eq_getElem hk
    rw [mem_ready]
    refine ⟨hhi k (Nat.le_refl _) hk, _, hoi, fun e he hb => ?_⟩
    have hp : e.on ∈ zem ops[k] := List.mem_map.2 ⟨e, List.mem_filter.2 ⟨by simpa using he, hb⟩, rfl⟩
    exact hlo _ (ok.later k _ hoi hmk _ hp)
  induction fuel with
  | zero =>
    intro k listed a w hf hmk hk hsz hlo hhi hcl h
    have hk' : k = ops.size := by omega
    refine ⟨?_, ?_⟩
    · cases hr : Region.ready .any ops listed with
      | nil => rfl
      | cons j r =>
        have hj : j ∈ Region.ready .any ops listed := by rw [hr]; exact List.mem_cons_self ..
        obtain ⟨_, o, ho, _⟩ := mem_ready.1 hj
        have := (Array.getElem?_eq_some_iff.1 ho).1
        have := ready_lt k listed hmk hsz hlo hhi hcl j hj
        omega
    · rw [List.drop_eq_nil_of_le (by simp; omega)] at h; exact h
  | succ fuel ih =>
    intro k listed a w hf hmk hk hsz hlo hhi hcl h
    refine ⟨fun hr => ?_, fun i hi => ?_⟩
    · rcases Nat.lt_or_ge k ops.size with hlt | hge
      · have := ready_k k listed hmk hlt hlo hhi
        rw [hr] at this; cases this
      · rw [List.drop_eq_nil_of_le (by simpa using hge)] at h; exact h
    · have hik := ready_lt k listed hmk hsz hlo hhi hcl i hi
      subst hik
      obtain ⟨hun, o, ho, hall⟩ := mem_ready.1 hi
      have hlt := (Array.getElem?_eq_some_iff.1 ho).1
      have hd : ops.toList.drop i = o :: ops.toList.drop (i + 1) := by
        rw [List.drop_eq_getElem_cons (by simpa using hlt)]
        congr 1
        have := (Array.getElem?_eq_some_iff.1 ho).2
        simpa using this
      rw [hd] at h
      have next : ∀ a' w', wpL rr P ops Q' (ops.toList.drop (i + 1)) a' w' → wpAnyIn (FW rr) 0 P .any ops Q' fuel (listed.setIfInBounds i true) a' w' := fun a' w' h' =>
        ih (i + 1) _ a' w' (by omega) (by omega) (by omega) (by simpa using hsz)
          (fun j hj => by
            by_cases hij : i = j
            · subst hij; simp [show i < listed.size by omega]
            · exact getD_set_true (hlo j (by omega)))
          (fun j hj hj2 => by rw [getD_set_ne true (by omega)]; exact hhi j (by omega) hj2) (zog ok hcl hi) h'
      unfold wpOpIn
      simp only [ho]
      unfold wpL at h
      split
      · rename_i hw
        rw [if_pos hw] at h
        exact Oper.wpIn_mono next h
      · rename_i hw
        rw [if_neg hw] at h
        exact ⟨fun _ _ => trivial, next _ _ h⟩
theorem wpAny_of_SWP {rr : Option Nat} {pre ord : List Nat} {m : Nat} {K : Act → SP → Prop} {Q' : Exit → Act → World → Prop} (ok : OkFactsP ops pre ord m)
    (hK : ∀ a S w, K a S → Live Rd W S → S noF w.heap → Same W w → wpL rr P ops Q' (ops.toList.drop m) a w) : ∀ (fuel : Nat) (listed : Array Bool) (a : Act) (w : World) (S : SP),
    (rem ord listed).length + (ops.size - m) ≤ fuel → listed.size = ops.size → (∀ p ∈ pre, listed.getD p false = true) → (∀ j, m ≤ j → j < ops.size → listed.getD j true = false) → ziu (zcl ops.toList []) listed → Live Rd W S → S noF w.heap → Same W w →
    SW P ops Rd W K ((rem ord listed).filterMap (ops[·]?)) S a → wpAnyIn (FW rr) 0 P .any ops Q' fuel listed a w := by
  have selOf : ∀ o : Oper, zkz o = true → ∀ cs b, o.op ≠ .select cs b := by
    intro o h cs b e
    unfold zkz at h
    rw [e] at h
    simp at h
  have defOf : ∀ o : Oper, zkz o = true → zqq o = true := fun o h => by
    unfold zkz at h
    rw [Bool.and_eq_true] at h
    exact h.2
  have done : ∀ (listed : Array Bool), listed.size = ops.size → (∀ p ∈ pre, listed.getD p false = true) → rem ord listed = [] → ∀ j, j < m → listed.getD j false = true := by
    intro listed hsz hpre hrem j hj
    by_cases hjp : j ∈ pre
    · exact hpre j hjp
    have : j ∉ rem ord listed := by rw [hrem]; exact List.not_mem_nil
    rw [rem_mem] at this
    have hjs : j < listed.size := by have := ok.size; omega
    cases hv : listed[j] with
    | true => simp [hjs, hv]
    | false => exact absurd ⟨(ok.mem j).2 ⟨hj, hjp⟩, by simp [hjs, hv]⟩ this
  intro fuel
  induction fuel with
  | zero =>
    intro listed a w S hlen hsz hpre hun hcl hl hS hw h
    have hrem : rem ord listed = [] := List.eq_nil_of_length_eq_zero (by omega)
    rw [hrem] at h
    exact zmx ok 0 m listed a w (by omega) (Nat.le_refl _) ok.size hsz (done listed hsz hpre hrem) hun hcl (hK _ _ _ h hl hS hw)
  | succ fuel ih =>
    intro listed a w S hlen hsz hpre hun hcl hl hS hw h
    by_cases hrem : rem ord listed = []
    · rw [hrem] at h
      exact zmx ok (fuel + 1) m listed a w (by rw [hrem] at hlen; simpa using hlen) (Nat.le_refl _) ok.size hsz (done listed hsz hpre hrem) hun hcl (hK _ _ _ h hl hS hw)
    · obtain ⟨i0, r0, hr0⟩ := List.exists_cons_of_ne_nil hrem
      have hi0 : i0 ∈ rem ord listed := by rw [hr0]; exact List.mem_cons_self ..
      obtain ⟨hin0, hun0⟩ := rem_mem.1 hi0
      obtain ⟨hlt0, hnp0⟩ := (ok.mem i0).1 hin0
      refine ⟨fun hr => ?_, fun i hi => ?_⟩
      · exfalso
        have hi0s : i0 < ops.size := by have := ok.size; omega
        have hoi : ops[i0]? = some ops[i0] := Array.getElem?_eq_getElem hi0s
        obtain ⟨A, B, eo, hA, _⟩ := zhl (R1 := []) (R2 := r0) (by rw [hr0]; rfl)
        have : i0 ∈ Region.ready .any ops listed := by
          rw [mem_ready]
          refine ⟨hun0, _, hoi, fun e he hb => ?_⟩
          have hp : e.on ∈ zem ops[i0] := List.mem_map.2 ⟨e, List.mem_filter.2 ⟨by simpa using he, hb⟩, rfl⟩
          rcases List.mem_append.1 ((ok.ord A i0 B _ eo hoi).1 _ hp) with hinP | hinA
          · exact hpre _ hinP
          have hltm : e.on < m := ((ok.mem _).1 (by rw [eo]; exact List.mem_append_left _ hinA)).1
          have hnot : e.on ∉ rem A listed := by rw [hA]; exact List.not_mem_nil
          rw [rem_mem] at hnot
          have hsz' : e.on < listed.size := by have := ok.size; omega
          cases hv : listed[e.on] with
          | true => simp [hsz', hv]
          | false => exact absurd ⟨hinA, by simp [hsz', hv]⟩ hnot
        rw [hr] at this
        cases this
      · obtain ⟨hun1, o, ho, hall⟩ := mem_ready.1 hi
        have hlt := (Array.getElem?_eq_some_iff.1 ho).1
        have hcli := zia ok hcl hi
        have him : i < m := by
          rcases Nat.lt_or_ge i m with h' | h'
          · exact h'
          · exfalso
            have h1 := hcli i0 (ok.tail i hlt h' i0 (by omega) hnp0)
            have := zek (by have := ok.size; omega) hun0 h1
            cases this
        have hip : i ∉ pre := fun hp => by
          have := zek (by omega) hun1 (hpre i hp)
          cases this
        have hin : i ∈ rem ord listed := rem_mem.2 ⟨(ok.mem i).2 ⟨him, hip⟩, hun1⟩
        obtain ⟨R1, R2, hR⟩ := List.append_of_mem hin
        obtain ⟨k1, k3⟩ := ok.all i o ho
        have hset := rem_setP ok (by omega) ho hR
        have hcl' := zog ok hcl hi
        obtain ⟨A, B, eo, hA, _⟩ := zhl hR
        obtain ⟨_, _, k4⟩ := ok.ord A i B o eo ho
        rw [hR, List.filterMap_append, List.filterMap_cons, ho] at h
        simp only at h
        have hf := SW.take (selOf o k1) (R1.filterMap (ops[·]?)) S a (fun x hx => by
          obtain ⟨j, hj, hxj⟩ := List.mem_filterMap.1 hx
          rw [← hA] at hj
          obtain ⟨hjA, hjun⟩ := rem_mem.1 hj
          have hjs : j < listed.size := by rw [hsz]; exact (Array.getElem?_eq_some_iff.1 hxj).1
          refine ⟨?_, selOf x (ok.all j x hxj).1, ?_⟩
          all_goals
            rcases k4 j hjA x hxj with h' | h'
            · have h2 := hcli j h'
              have := zek hjs hjun h2
              cases this
            · first | exact h'.1 | exact h'.2) hl h
        rw [← List.filterMap_append, ← hset] at hf
        have hlen' : (rem ord (listed.setIfInBounds i true)).length + (ops.size - m) ≤ fuel := by
          rw [hset]; rw [hR] at hlen; simp at hlen ⊢; omega
        have hun' : ∀ j, m ≤ j → j < ops.size → (listed.setIfInBounds i true).getD j true = false := fun j hj hj2 => by rw [getD_set_ne true (by omega)]; exact hun j hj hj2
        have hpre' : ∀ p ∈ pre, (listed.setIfInBounds i true).getD p false = true := fun p hp => getD_set_true (hpre p hp)
        unfold wpOpIn
        simp only [ho]
        unfold Front at hf
        split
        · rename_i hwant
          rw [if_pos hwant] at hf
          split at hf
          · obtain ⟨val, T, s1, s3⟩ := hf
            have g := s1.good hl.2
            unfold Spec at s1
            split at s1
            · obtain ⟨ob, vb, b1, b2, rfl, rfl⟩ := s1
              have hw' : Same W { w with heap := w.heap.push ob } := hw.trans ⟨rfl, rfl, rfl⟩
              have hb : zgu S w.heap.size ob noF (w.heap.push ob) := ⟨hl.2.push _ _ ob hS, fun x => x, by simp⟩
              refine ⟨fun _ _ => trivial, ?_⟩
              rw [Oper.semAt_eq _ _ _ (zfo (defOf o k1)), b2 w]
              exact ih _ _ _ (zgu S w.heap.size ob) hlen' (by simpa using hsz) hpre' hun' hcl' ⟨⟨_, hw', hb⟩, g w.heap.size undef⟩ hb hw' (s3 w.heap.size undef ⟨_, hw', hb⟩)
            · obtain ⟨rfl, T', rfl, g1, g2⟩ := s1
              refine (g2 w noF hS hw).wpIn (defOf o k1) fun v w' ⟨hs, hv, _⟩ => ?_
              exact ih _ _ _ (T' v) hlen' (by simpa using hsz) hpre' hun' hcl' ⟨⟨w', hw.trans hs, hv⟩, g1 v⟩ hv (hw.trans hs) (s3 0 v ⟨w', hw.trans hs, hv⟩)
          · obtain ⟨v, q1, q2⟩ := hf
            refine ⟨fun _ _ => trivial, ?_⟩
            rw [Oper.semAt_eq _ _ _ (zfo (defOf o k1)), q1 w (hl.2.ext _ _ hS)]
            exact ih _ _ _ S hlen' (by simpa using hsz) hpre' hun' hcl' hl hS hw q2
        · rename_i hwant
          rw [if_neg hwant] at hf
          exact ⟨fun _ _ => trivial, ih _ _ _ S hlen' (by simpa using hsz) hpre' hun' hcl' hl hS hw hf⟩
def zvh (P : Program) (ops : Array Oper) : List Nat → Act → Act → Prop
  | [], a, a' => a' = a
  | p :: r, a, a' => ∃ o v, ops[p]? = some o ∧ YieldsFenced P ops o v a ∧ zvh P ops r (a.put o.dst v) a'
def setL (listed : Array Bool) : List Nat → Array Bool
  | [] => listed
  | p :: r => setL (listed.setIfInBounds p true) r
theorem zrm : ∀ (l : List Nat) (q : Array Bool), (setL q l).size = q.size
  | [], q => rfl
  | p :: r, q => by rw [setL, zrm r]; simp
theorem zqk : ∀ (l : List Nat) (q : Array Bool) (j : Nat) (d : Bool), j ∉ l → (setL q l).getD j d = q.getD j d
  | [], q, j, d, _ => rfl
  | p :: r, q, j, d, h => by
    have hne : p ≠ j := fun e => h (by rw [← e]; exact List.mem_cons_self ..)
    rw [setL, zqk r _ j d (fun hj => h (List.mem_cons_of_mem _ hj)), getD_set_ne d hne]
theorem zrl : ∀ (l : List Nat) (q : Array Bool) (j : Nat), q.getD j false = true → (setL q l).getD j false = true
  | [], q, j, h => h
  | p :: r, q, j, h => by rw [setL]; exact zrl r _ j (getD_set_true h)
theorem ztz : ∀ (l : List Nat) (q : Array Bool) (j : Nat), j ∈ l → j < q.size → (setL q l).getD j false = true
  | p :: r, q, j, h, hs => by
    rw [setL]
    rcases List.mem_cons.1 h with rfl | h
    · exact zrl r _ _ (by simp [hs])
    · exact ztz r _ j h (by simpa using hs)
theorem zsh {pre ord : List Nat} {m : Nat} (ok : OkFactsP ops pre ord m) {Q : Exit → Act → World → Prop} (hQ : ∀ c a w, ¬ Q (.panic c) a w) : ∀ (l : List Nat) (fuel : Nat) (listed : Array Bool) (a a' : Act) (w : World), (∀ p ∈ l, p ∈ pre) → l.Nodup → (∀ p ∈ l, listed.getD p true = false) →
    zvh P ops l a a' → wpAnyIn (FW none) 0 P .any ops Q fuel (setL listed l) a' w → wpAnyIn (FW none) 0 P .any ops Q (fuel + l.length) listed a w
  | [], fuel, listed, a, a', w, _, _, _, hp, h => by
    have e : a' = a := hp
    subst e; exact h
  | p :: r, fuel, listed, a, a', w, hl, hn, hu, hp, h => by
    obtain ⟨hn1, hn2⟩ := List.nodup_cons.1 hn
    obtain ⟨o, v, ho, hy, hp⟩ := hp
    obtain ⟨o', ho', hp0, hap⟩ := ok.pre0 p (hl p (List.mem_cons_self ..))
    rw [ho] at ho'; cases ho'
    have selOf : ∀ (j : Nat) (o : Oper) cs b, ops[j]? = some o → o.op ≠ .select cs b := fun j o cs b hj e => by
      have h := (ok.all j o hj).1
      unfold zkz at h
      rw [e] at h
      simp at h
    have ih := zsh ok hQ r fuel (listed.setIfInBounds p true) (a.put o.dst v) a' w (fun q hq => hl q (List.mem_cons_of_mem _ hq)) hn2 (fun q hq => by
      have hne : p ≠ q := fun e => hn1 (by rw [e]; exact hq)
      rw [getD_set_ne true hne]
      exact hu q (List.mem_cons_of_mem _ hq)) hp h
    refine wpAnyIn_first rfl ho selOf (fun c a w h => (hQ _ _ _ h).elim) (fuel + r.length) listed a w (fun j oj hoj hj hju hnot => ?_) ?_ hy ih
    · rcases hap j oj hoj hj with h1 | h1
      · obtain ⟨e, he, he2⟩ := List.mem_map.1 h1
        obtain ⟨he3, he4⟩ := List.mem_filter.1 he
        exact (hnot e (by simpa using he3) he4 he2).elim
      · exact h1
    · rw [mem_ready]
      refine ⟨hu p (List.mem_cons_self ..), o, ho, fun e he hb => ?_⟩
      have : e.on ∈ zem o := List.mem_map.2 ⟨e, List.mem_filter.2 ⟨by simpa using he, hb⟩, rfl⟩
      rw [hp0] at this
      cases this
theorem wp_drawP {K : Act → SP → Prop} {Q' : Exit → Act → World → Prop} {id m : Nat} {pre ord : List Nat} {a a' : Act} {w : World} {S0 : SP} (hm' : P.follows .mixedOrders = true) (hok : zoe ops pre ord m = true) (hnd : pre.Nodup) (hQ : ∀ c a w, ¬ Q' (.panic c) a w) (hpr : zvh P ops pre a a') (hS0 : S0 noF w.heap) (hx : Good Rd S0) (hW : Same W w)
    (hK : ∀ a S w', K a S → Live Rd W S → S noF w'.heap → Same W w' → wpL none P ops Q' (ops.toList.drop m) a w') (h : SW P ops Rd W K (ord.filterMap (ops[·]?)) S0 a') :
    (Code.region id ops true).wpIn (FW none) 0 P Q' a w := by
  have ok := okFactsP hok
  have hsz := ok.size
  have hlen := ok.len
  have e : rem ord (setL (Array.replicate ops.size false) pre) = ord := by
    unfold rem
    refine List.filter_eq_self.2 fun x hx => ?_
    obtain ⟨h1, h2⟩ := (ok.mem x).1 hx
    rw [zqk _ _ _ _ h2]
    have : x < ops.size := by omega
    simp [this]
  refine wpIn_region_any hm' ?_
  have hf : ops.size = (ops.size - pre.length) + pre.length := by omega
  have key := zsh (P := P) ok hQ pre (ops.size - pre.length) (Array.replicate ops.size false) a a' { w with drawn := w.drawn + 1 } (fun _ h => h) hnd (fun p hp => by
    have := ok.prelt p hp
    simp [show p < ops.size by omega]) hpr
  rw [← hf] at key
  refine key (wpAny_of_SWP (W := W) (Rd := Rd) (K := K) ok hK (ops.size - pre.length) (setL (Array.replicate ops.size false) pre) a' _ S0 ?_ (by rw [zrm]; simp) (fun p hp => ztz _ _ _ hp (by have := ok.prelt p hp; simp; omega)) ?_ ?_ ⟨⟨w, hW, hS0⟩, hx⟩ hS0 hW ?_)
  · rw [e]; omega
  · intro j hj hj2
    rw [zqk _ _ _ _ (fun hp => by have := ok.prelt j hp; omega)]
    simp [hj2]
  · intro q hq
    by_cases hqp : q ∈ pre
    · obtain ⟨o, ho, h0, -⟩ := ok.pre0 q hqp
      intro j hj
      rcases (ok.all q o ho).2 j hj with h1 | ⟨_, h1, -⟩
      · rw [h0] at h1; cases h1
      · rw [h0] at h1; cases h1
    · exfalso
      rw [zqk _ _ _ _ hqp, Array.getD_eq_getD_getElem?, Array.getElem?_replicate] at hq
      split at hq <;> simp at hq
  · rw [e]; exact h
end
end Go.XL
namespace Go.XL
section
variable {P : Program} {n : Nat} {r : Rr} {Q : VEnv → Sto → Prop} {k : List Fr} {E0 E : VEnv} {S : Sto}
theorem zhp {K0 : Bs} {W : World} : ∀ (k : List Fr) (c : List PanicEntry) (a : Act) (w : World), ¬ ksem P n r K0 W Q k (.panic c) a w
  | [], c, a, w, h => h
  | .code _ :: k, c, a, w, h => zhp k c a w h
  | .ops _ _ :: k, c, a, w, h => zhp k c a w h
  | .blk _ :: k, c, a, w, h => zhp k c a w h
  | .back _ :: k, c, a, w, h => zhp k c a w h
  | .rnd _ :: k, c, a, w, h => h
def PreE (os : Array Oper) (n : Nat) : List Nat → VEnv → VEnv → Prop
  | [], E, E' => E' = E
  | p :: l, E, E' => ∃ t x ty pos af v, os[p]? = some ⟨some t, .move x, ty, pos, af, none⟩ ∧ decide (t < n) = true ∧ evV E x = some v ∧ PreE os n l ((t, v.copy) :: E) E'
theorem PreE.run {os : Array Oper} {D : List Deferred} {K : Bs} {hv : VH} {hold : Nat → Option Hd} {h : Heap} : ∀ {pre : List Nat} {E E' : VEnv} {env : Env} {a : Act}, PreE os n pre E E' → Agree D n env a → St K hv hold E S env h →
    ∃ env' a', zvh P os pre a a' ∧ Agree D n env' a' ∧ St K hv hold E' S env' h
  | [], E, E', env, a, hp, ha, s => by
    have e : E' = E := hp
    subst e
    exact ⟨env, a, rfl, ha, s⟩
  | p :: l, E, E', env, a, hp, ha, s => by
    obtain ⟨t, x, ty, pos, af, v, ho, hd, hx, hp⟩ := hp
    have hdv : dopV P [] (evV E) (.move x) = some v.copy := by simp [dopV, hx]
    obtain ⟨y, h2, h3⟩ := zjh (S := []) s.pre (fun _ _ e => by cases e) s.rl hdv
    have run : ∀ w : World, (execOp a.eval ⟨some t, .move x, ty, pos, af, none⟩).run P w = .ok (.value y) w := fun w => zhj ha (zqa rfl h2)
    have hd' : dok n (some t) = true := hd
    obtain ⟨env', a', h4, h5, h6⟩ := PreE.run hp (ha.put' hd' y) (s.put (some t) h3 fun _ _ => V.free_Own (zll hdv) y)
    exact ⟨env', a', ⟨_, y, ho, ⟨.inl ⟨rfl, run⟩, fun w => rfl⟩, h4⟩, h5, h6⟩
theorem DS.drawP {id : Nat} {os : Array Oper} (S0 S1 : Sto) (pre ord : List Nat) (m : Nat) {E' : VEnv} (hr : r.rd = none) (hok : zoe os pre ord m = true) (hnd : pre.Nodup) (hm : P.follows .mixedOrders = true) (h0 : ∀ b o, zaa S0 b = some o → zaa S b = some o ∧ zaa S1 b = none) (h1 : ∀ b o, zaa S1 b = some o → zaa S b = some o)
    (hpre : PreE os n pre E E') (q : DD P n r Q os.toList S0 [] (ord.filterMap (os[·]?)) (.ops os.toList (os.toList.drop m) :: k) E' E' S1) : DS P n r Q (.code (.region id os true) :: k) E S := fun K W a w ⟨K', D, hv, hold, env, hb, ha, s⟩ hw => by
  have s0 : St K' hv hold E (S1 ++ S0) env w.heap := s.weaken (fun _ _ e => e) fun b o e => by
    rw [zbo] at e
    cases e1 : zaa S1 b with
    | some o' => rw [e1] at e; cases e; exact h1 b _ e1
    | none => rw [e1] at e; exact (h0 b o e).1
  obtain ⟨env', a', hpr, ha', s'⟩ := PreE.run (P := P) hpre ha s0
  obtain ⟨-, -, s2⟩ := PreE.run (P := P) hpre ha s
  have hR : ∀ (F : Nat → Prop) h1, RunS P [] D n K' hv w.heap S0 E' S1 a' F h1 → RunS P [] D n K' hv w.heap S0 E' S1 a' F h1 := fun _ _ h => h
  have start : RunS P [] D n K' hv w.heap S0 E' S1 a' noF w.heap := ⟨fun b hb => hb.elim, ⟨Nat.le_refl _, MpOk.nil⟩, hv, hold, env', ha', s', PreV.refl hv, fun b hb => hb.elim, fun b o e => ⟨rfl, (h0 b o e).2, Ob.lt (s.obj b o (h0 b o e).1).2.2⟩⟩
  show (Code.region id os true).wpIn (FW r.rd) 0 P (ksem P n r K W Q k) a w
  rw [hr]
  refine wp_drawP (m := m) (pre := pre) (ord := ord) (a' := a') (Rd := RdOf P [] hv w.heap S0) (W := W) (K := fun a' S' => ∀ w', S' noF w'.heap → Same W w' → ksem P n r K W Q (.ops os.toList (os.toList.drop m) :: k) .normal a' w') hm hok hnd (fun c a w => zhp k c a w) hpr start (RunS.good P [] D n K' hv w.heap S0 E' S1 a') hw
    (fun a' S' w' hK _ hS hsame => by have := hK w' hS hsame; simpa [ksem, hr] using this) ?_
  have := q K K' D W hv w.heap a' _ hb (hb.floor s) ⟨env', ha', fun t v e => let ⟨y, a, b, _⟩ := s'.slot t v e; ⟨y, a, b⟩⟩ s.pre (fun b o e => let ⟨_, r2, r3⟩ := s.obj b o (h0 b o e).1; ⟨r2, Ob.lt r3, Ob.Real.rd r3⟩) s.base.2.1 ⟨w, hw, start⟩ hR
  simpa using this
theorem DS.drawPL {id : Nat} {os l1 l2 : List Oper} (S0 S1 : Sto) (pre ord : List Nat) (m : Nat) {E' : VEnv} (hr : r.rd = none) (hok : zoe os.toArray pre ord m = true) (hnd : pre.Nodup) (hm : P.follows .mixedOrders = true) (h0 : ∀ b o, zaa S0 b = some o → zaa S b = some o ∧ zaa S1 b = none) (h1 : ∀ b o, zaa S1 b = some o → zaa S b = some o)
    (hpre : PreE os.toArray n pre E E') (k1 : zlw os ord = l1) (k2 : os.drop m = l2) (q : DD P n r Q os S0 [] l1 (.ops os l2 :: k) E' E' S1) : DS P n r Q (.code (.region id os.toArray true) :: k) E S :=
  DS.drawP S0 S1 pre ord m hr hok hnd hm h0 h1 hpre (by rw [zky, k1]; simpa [k2] using q)
end
end Go.XL
namespace Go.XL
open Go.Proofs
set_option maxRecDepth 100000
set_option maxHeartbeats 8000000
theorem zmv {sz : Nat} : ∀ (n : Nat) (L : List V) (R : List (List V)), R.length = n → (∀ (k : Nat) (h : k < R.length), (L.drop (k * sz)).take sz = R[k]) → chunk sz n L = R
  | 0, L, R, hl, _ => by
    obtain rfl := List.eq_nil_of_length_eq_zero hl
    rfl
  | n + 1, L, [], hl, _ => by cases hl
  | n + 1, L, c :: R, hl, h => by
    have h0 := h 0 (by simp)
    rw [Nat.zero_mul, List.drop_zero, List.getElem_cons_zero] at h0
    have h1 := zmv n (L.drop sz) R (by simpa using hl) fun k hk => by
      have h2 := h (k + 1) (by simpa using hk)
      rw [List.getElem_cons_succ] at h2
      rw [List.drop_drop, ← h2]
      congr 2
      rw [Nat.succ_mul]; omega
    rw [chunk, h0, h1]
theorem PC.peek {P : Program} {f : FuncId} {args : List V} {v : V} (h : PC P f args v) : PC P f args v.peek := by
  intro v0 K hv hold hp xs hx ha s
  refine (h v0 K hv hold hp xs hx ha s).mono ?_
  rintro y h' ⟨u, S', hv', hold', p, st, rfl⟩
  refine ⟨u.peek, S', hv', hold', p, ⟨st.pre, fun t w e => ?_, st.obj, st.held, st.base, st.vbase⟩, rfl⟩
  rw [zad] at e
  split at e
  · rename_i ht
    cases e
    obtain ⟨z, h1, h2, -⟩ := st.slot t u (by rw [zad, if_pos ht])
    exact ⟨z, h1, V.peek_Rl h2, V.free_Own (zdx u) z⟩
  · cases e
theorem flat_cR (l : List (List Int)) : (l.map cR).flatten = l.map fun t => ints t := by
  induction l with
  | nil => rfl
  | cons a r ih => rw [List.map_cons, List.flatten_cons, ih]; rfl
theorem set_peek {l : List (List Int)} {L : List V} {i k : Nat} {hk : k < l.length} {hi : i < l.length} {m : Bool} {T s : Nat} (hl : i < L.length) (h : L[k]? = some (ints l[k])) :
    ((L.set i (.own m T s (l[i].map cI))).map V.peek)[k]? = some (ints l[k]) := by
  rw [List.getElem?_map, List.getElem?_set]
  split
  · rename_i e
    subst e
    first | rfl | (rw [if_pos hl]; rfl)
  · rw [h]; rfl
theorem zsg {α : Type} {f : α → List V} (hf : ∀ a, (f a).length = 3) (junk : List V) : ∀ (R : List α) (k : Nat) (h : k < R.length) (j : Nat), j < 3 → ((R.map f).flatten ++ junk)[k * 3 + j]? = (f R[k])[j]?
  | [], k, h, _, _ => by cases h
  | a :: R, 0, h, j, hj => by
    rw [List.map_cons, List.flatten_cons, List.append_assoc, Nat.zero_mul, Nat.zero_add, List.getElem?_append_left (by rw [hf]; exact hj)]
    rfl
  | a :: R, k + 1, h, j, hj => by
    have h1 := zsg hf junk R k (by simpa using h) j hj
    rw [List.map_cons, List.flatten_cons, List.append_assoc, List.getElem?_append_right (by rw [hf]; omega), hf, show (k + 1) * 3 + j - 3 = k * 3 + j by omega, h1]
    rfl
theorem zgt {α : Type} {f : α → List V} (hf : ∀ a, (f a).length = 3) (R : List α) : (R.map f).flatten.length = R.length * 3 := by
  rw [zgs (sz := 3) (fun c hc => by obtain ⟨a, -, rfl⟩ := List.mem_map.1 hc; exact hf a), List.length_map]
structure SitAt (L : List V) (R : List Sitting) : Prop where
  len : R.length * 3 ≤ L.length
  tab : ∀ (k : Nat) (h : k < R.length), L[k * 3]? = some (rows R[k].tables)
  pts : ∀ (k : Nat) (h : k < R.length), L[k * 3 + 1]? = some (rows R[k].points)
  rul : ∀ (k : Nat) (h : k < R.length), L[k * 3 + 2]? = some (.lst (R[k].rulings.map Ruling.cells))
theorem zpd (R : List Sitting) (junk : List V) : SitAt ((R.map Sitting.cells).flatten ++ junk) R where
  len := by rw [List.length_append, zgt Sitting.len]; omega
  tab := fun k h => by have := zsg Sitting.len junk R k h 0 (by omega); rw [Nat.add_zero] at this; rw [this]; rfl
  pts := fun k h => by rw [zsg Sitting.len junk R k h 1 (by omega)]; rfl
  rul := fun k h => by rw [zsg Sitting.len junk R k h 2 (by omega)]; rfl
structure RulAt (L : List V) (R : List Ruling) : Prop where
  len : R.length * 3 ≤ L.length
  rnd : ∀ (k : Nat) (h : k < R.length), L[k * 3]? = some (I R[k].round)
  tab : ∀ (k : Nat) (h : k < R.length), L[k * 3 + 1]? = some (I R[k].table)
  pts : ∀ (k : Nat) (h : k < R.length), L[k * 3 + 2]? = some (ints R[k].points)
theorem rulAt_flat (R : List Ruling) (junk : List V) : RulAt ((R.map Ruling.cells).flatten ++ junk) R where
  len := by rw [List.length_append, zgt Ruling.len]; omega
  rnd := fun k h => by have := zsg Ruling.len junk R k h 0 (by omega); rw [Nat.add_zero] at this; rw [this]; rfl
  tab := fun k h => by rw [zsg Ruling.len junk R k h 1 (by omega)]; rfl
  pts := fun k h => by rw [zsg Ruling.len junk R k h 2 (by omega)]; rfl
theorem zpz {L : List V} {i : Nat} {a b c : V} (h0 : L[i]? = some a) (h1 : L[i + 1]? = some b) (h2 : L[i + 2]? = some c) : (L.drop i).take 3 = [a, b, c] := by
  obtain ⟨k0, e0⟩ := List.getElem?_eq_some_iff.1 h0
  obtain ⟨k1, e1⟩ := List.getElem?_eq_some_iff.1 h1
  obtain ⟨k2, e2⟩ := List.getElem?_eq_some_iff.1 h2
  rw [List.drop_eq_getElem_cons k0, List.drop_eq_getElem_cons k1, List.drop_eq_getElem_cons k2, e0, e1, e2]
  rfl
theorem zjv {L : List V} {i : Nat} {a : V} (h : L[i]? = some a) : (L.map V.copy)[i]? = some a.copy := by rw [List.getElem?_map, h]; rfl
theorem SitAt.chunk {L : List V} {R : List Sitting} (h : SitAt L R) : chunk 3 R.length (L.map V.copy) = R.map Sitting.cells :=
  zmv _ _ _ (by rw [List.length_map]) fun k hk => by
    rw [List.length_map] at hk
    rw [zpz (zjv (h.tab k hk)) (zjv (h.pts k hk)) (zjv (h.rul k hk)), List.getElem_map]
    rfl
theorem RulAt.chunk {L : List V} {R : List Ruling} (h : RulAt L R) : chunk 3 R.length (L.map V.copy) = R.map Ruling.cells :=
  zmv _ _ _ (by rw [List.length_map]) fun k hk => by
    rw [List.length_map] at hk
    rw [zpz (zjv (h.rnd k hk)) (zjv (h.tab k hk)) (zjv (h.pts k hk)), List.getElem_map]
    rfl
theorem zis {α : Type} {L : List α} {i j : Nat} {x y : α} (h : L[j]? = some y) (hi : i ≠ j) : (L.set i x)[j]? = some y := by
  rw [List.getElem?_set_ne hi]; exact h
theorem zjn {α : Type} {L : List α} {i : Nat} {x : α} (h : i < L.length) : (L.set i x)[i]? = some x := by
  rw [List.getElem?_set, if_pos rfl, if_pos h]
theorem SitAt.put {L : List V} {R : List Sitting} {i : Nat} (h : SitAt L R) (hi : i < R.length) :
    SitAt (((L.set (i * 3) (.lst (R[i].tables.map cR))).set (i * 3 + 1) (.lst (R[i].points.map cR))).set (i * 3 + 2) (.lst (R[i].rulings.map Ruling.cells))) R where
  len := by simp only [List.length_set]; exact h.len
  tab := fun k hk => by
    have hl := h.len
    refine zis (zis ?_ (by omega)) (by omega)
    by_cases e : i = k
    · subst e; exact zjn (by omega)
    · exact zis (h.tab k hk) (by omega)
  pts := fun k hk => by
    have hl := h.len
    refine zis ?_ (by omega)
    by_cases e : i = k
    · subst e; exact zjn (by simp only [List.length_set]; omega)
    · exact zis (zis (h.pts k hk) (by omega)) (by omega)
  rul := fun k hk => by
    have hl := h.len
    by_cases e : i = k
    · subst e; exact zjn (by simp only [List.length_set]; omega)
    · exact zis (zis (zis (h.rul k hk) (by omega)) (by omega)) (by omega)
theorem znu {L : List V} {i : Nat} {x : V} (h : L[i]? = some x) : (L.map V.peek)[i]? = some x.peek := by rw [List.getElem?_map, h]; rfl
theorem SitAt.peek {L : List V} {R : List Sitting} (h : SitAt L R) : SitAt (L.map V.peek) R where
  len := by rw [List.length_map]; exact h.len
  tab := fun k hk => znu (h.tab k hk)
  pts := fun k hk => znu (h.pts k hk)
  rul := fun k hk => znu (h.rul k hk)
theorem RulAt.put {L : List V} {R : List Ruling} {i : Nat} {m : Bool} {T s : Nat} (h : RulAt L R) (hi : i < R.length) :
    RulAt ((L.set (i * 3 + 2) (.own m T s (R[i].points.map cI))).map V.peek) R where
  len := by rw [List.length_map, List.length_set]; exact h.len
  rnd := fun k hk => znu (zis (h.rnd k hk) (by omega))
  tab := fun k hk => znu (zis (h.tab k hk) (by omega))
  pts := fun k hk => by
    have hl := h.len
    by_cases e : i = k
    · subst e; exact znu (zjn (by omega))
    · exact znu (zis (h.pts k hk) (by omega))
theorem yX49 {p : Prop} (h : p := by (simp (disch := omega) only [go_sem, dopV, Option.map_some, Option.map_none, Option.bind_some, Option.bind_none, ↓reduceIte, Nat.reduceEqDiff, Nat.reduceLT, Nat.reduceLeDiff, Nat.reduceAdd, Nat.reduceMul, Nat.reduceSub, Nat.zero_add, Nat.add_zero, Nat.zero_le, Nat.zero_mul, Nat.mul_one, Nat.one_mul, Int.natCast_zero, Int.toNat_zero, Int.reduceToNat, Int.reduceLT, Int.reduceLE, Int.reduceEq, decide_true, decide_false, true_and, and_true, Bool.and_self, Bool.and_true, Bool.true_and, Bool.not_true, Bool.not_false, IntWalk.toNatUp, IntWalk.iteOmega, IntWalk.i64_in, Option.isSome_some, not_true_eq_false, not_false_eq_true, Option.getD_some, Option.getD_none, Int.toNat_natCast, List.length_map, List.getElem?_map, List.getElem?_eq_getElem, V.flat, V.one, List.all_cons, List.all_nil, *, List.forall_mem_map, implies_true, zej, Value.oneCell']; exact rfl)) : p := h
theorem yX50 {p : Prop} (h : p := by (simp (disch := omega) only [go_sem, dopV, Option.map_some, Option.map_none, Option.bind_some, Option.bind_none, ↓reduceIte, Nat.reduceEqDiff, Nat.reduceLT, Nat.reduceLeDiff, Nat.reduceAdd, Nat.reduceMul, Nat.reduceSub, Nat.zero_add, Nat.add_zero, Nat.zero_le, Nat.zero_mul, Nat.mul_one, Nat.one_mul, Int.natCast_zero, Int.toNat_zero, Int.reduceToNat, Int.reduceLT, Int.reduceLE, Int.reduceEq, decide_true, decide_false, true_and, and_true, Bool.and_self, Bool.and_true, Bool.true_and, Bool.not_true, Bool.not_false, IntWalk.toNatUp, IntWalk.iteOmega, IntWalk.i64_in, Option.isSome_some, not_true_eq_false, not_false_eq_true, Option.getD_some, Option.getD_none, Int.toNat_natCast, List.length_map, List.getElem?_map, List.getElem?_eq_getElem, V.flat, V.one, List.all_cons, List.all_nil, *, List.forall_mem_map, implies_true, zej, Value.oneCell']; try exact rfl)) : p := h
end Go.XL
namespace Go.XL
open Go.Proofs
set_option maxRecDepth 100000
set_option maxHeartbeats 8000000
theorem PC.of_peek {P : Program} {f : FuncId} {args : List V} {v : V} (h : DC P f args [] fun u _ => u.peek = v) : PC P f args v := by
  intro v0 K hv hold hp xs hx ha s
  refine (h v0 K hv hold hp xs hx ha s).mono ?_
  rintro y h' ⟨u, S', hv', hold', p, st, rfl⟩
  refine ⟨u.peek, S', hv', hold', p, ⟨st.pre, fun t w e => ?_, st.obj, st.held, st.base, st.vbase⟩, rfl⟩
  rw [zad] at e
  split at e
  · rename_i ht
    cases e
    obtain ⟨z, h1, h2, -⟩ := st.slot t u (by rw [zad, if_pos ht])
    exact ⟨z, h1, V.peek_Rl h2, V.free_Own (zdx u) z⟩
  · cases e
theorem zkg (l : List (List Int)) (hl : l.length ≤ 1000000) (hr : ∀ t ∈ l, t.length ≤ 1000000) : PC Try.prog 69 [rows l] (rows l) := by
  refine PC.of_peek ?_
  refine DC.of_run Try.func69 rfl Try.ntmps69 Try.results69 (by simp) (fun _ => ?_); simp only [zap, zar, go_sem, Nat.zero_add, Nat.reduceAdd]
  repeat' (first | (with_reducible first | refine DS.fltS yU yU yE ?_ | refine DS.opsNil ?_ | refine DS.seq ?_ | refine DS.regionL ?_) | fail)
  refine DS.callA inferInstance (cloneL_dc l (by omega)) yR yH (fun u S' hu => ?_)
  obtain ⟨⟨R, blk⟩, rfl, gok, rfl⟩ := hu
  cases blk with
  | none =>
    have h0 : l = [] := List.map_eq_nil_iff.1 gok
    subst h0
    simp only [List.map_nil, GR.cell_none]
    repeat' (first | (with_reducible first | refine DS.fltS yU yU yE ?_ | refine DS.opsNil ?_ | refine DS.seq ?_ | refine DS.regionL ?_ | refine DS.block ?_) | fail)
    refine DS.loopK [3, 8] (by (simp only [go_sem, Nat.reduceEqDiff, ↓reduceIte]; exact rfl)) (fun (y : Nat) => [(9, I y)]) (fun (y : Nat) => y = 0) (fun (y : Nat) => y) 0 yS rfl (fun y B hI hB => ?_); try dsimp only at hI hB; simp only [zaq, zat]
    subst hI
    repeat' (first | (with_reducible first | refine DS.fltS yU yU yE ?_ | refine DS.opsNil ?_ | refine DS.seq ?_ | refine DS.regionL ?_ | (refine DS.cE yE ?_; refine CG.no ?_) | refine DS.exit yU ?_) | refine DS.retT [] yE trivial ?_ | fail)
    rfl
  | some z =>
  obtain ⟨b, cap, junk⟩ := z
  have k1 := gok.look
  have k2 := gok.le
  have k3 := gok.cap
  rw [flat_cR] at k1
  rw [List.length_map] at k2
  simp only [GR.cell_some, List.length_map]
  refine DS.reS (S' := [(b, .cells ((l.map fun t => ints t) ++ junk) 22)]) (fun d o e => by
    simp only [zab, zce] at e
    split at e
    · rename_i h; subst h; rw [k1]; exact e
    · cases e) ?_
  clear gok k1
  repeat' (first | (with_reducible first | refine DS.fltS yU yU yE ?_ | refine DS.opsNil ?_ | refine DS.seq ?_ | refine DS.regionL ?_ | refine DS.block ?_) | fail)
  refine DS.loopS [3, 8] (by (simp only [go_sem, Nat.reduceEqDiff, ↓reduceIte]; exact rfl)) (fun (y : Nat × List V) => [(9, I y.1)]) (fun (y : Nat × List V) => [(b, .cells y.2 22)]) (fun (y : Nat × List V) => y.1 ≤ l.length ∧ l.length ≤ y.2.length ∧ ∀ (k : Nat) (h : k < l.length), y.2[k]? = some (ints l[k])) (fun (y : Nat × List V) => l.length - y.1) (0, (l.map fun t => ints t) ++ junk) yS (fun b o e => by exact e) ⟨Nat.zero_le _, by simp, fun k h => zpk h⟩ (fun y B hI hB => ?_); try dsimp only at hI hB; simp only [zaq, zat]
  obtain ⟨i, L⟩ := y
  dsimp only at hI hB ⊢
  obtain ⟨g1, g2, g3⟩ := hI
  have H := Box.mk g3
  clear g3
  by_cases hi : (i : Int) < (l.length : Int)
  · have hi' : i < l.length := by omega
    have h1 := H.out i hi'
    have h2 := hr _ (List.getElem_mem hi')
    repeat' (first | (with_reducible first | refine DS.fltS yU yU yE ?_ | refine DS.opsNil ?_ | refine DS.seq ?_ | refine DS.regionL ?_ | (refine DS.cE yE ?_; refine CG.yes ?_) | refine DS.blk ?_ | refine DS.block ?_ | refine DS.skip ?_) | refine DS.pcS inferInstance (zlm _ (Nat.le_trans h2 (by decide))) yR yT ?_ | (refine DS.store yR yE yE yE yE yU (by exact ⟨by with_unfolding_all rfl, by (try simp only [List.length_map, List.length_append, List.length_set, List.length_replicate, List.length_cons, List.length_nil]); omega⟩) ?_; simp only [zbn, zas, zaw, zbz, zbm, zbi, zbj]; try simp only [zal, zac, zad, Nat.reduceEqDiff, ↓reduceIte, zah, zai, zan, zag, zaf, zam, zaj]) | fail)
    simp only [setS, ↓reduceIte]
    refine DS.mapO (b := b) V.peek (fun _ _ _ h => V.peek_Rl h) zdx (by simp only [zab, ↓reduceIte]; exact rfl) ?_
    simp only [setS, ↓reduceIte]
    refine DS.back (hB (i + 1, (L.set i (.own false 3 1 (l[i].map cI))).map V.peek) _ _ (by dsimp only; omega) ⟨by dsimp only; omega, by simp; omega, fun k hk => set_peek (by omega) (H.out k hk)⟩ yS yS (fun d o e => by exact e))
  · refine DS.freeze (b := b) (l := L) (T := 22) (len := l.length) (t := 3) (sz := 1) yR (by simp only [zab, ↓reduceIte]) (by omega) ⟨k2, k3⟩ ?_
    have hch : chunk 1 l.length (L.map V.copy) = l.map cR := zmv _ _ _ (by rw [List.length_map]) fun k hk => by
      rw [List.length_map] at hk
      have h1 := H.out k hk
      obtain ⟨hk2, h3⟩ := List.getElem?_eq_some_iff.1 h1
      rw [Nat.mul_one, List.drop_eq_getElem_cons (by rw [List.length_map]; exact hk2), List.take_succ_cons, List.take_zero, List.getElem_map, h3, List.getElem_map]
      rfl
    rw [hch]
    repeat' (first | (with_reducible first | refine DS.fltS yU yU yE ?_ | refine DS.opsNil ?_ | refine DS.seq ?_ | refine DS.regionL ?_ | (refine DS.cE yE ?_; refine CG.no ?_) | refine DS.exit yU ?_) | refine DS.retT [] yE trivial ?_ | fail)
    rfl
end Go.XL
namespace Go.XL
open Go.Proofs
set_option maxRecDepth 100000
set_option maxHeartbeats 8000000
section
variable {P : Program} {n : Nat} {r : Rr} {Q : VEnv → Sto → Prop} {ops : List Oper} {S0 S1 : Sto} {k : List Fr} {E0 E : VEnv} {dst : Option Tmp} {ty : TypeId} {pos : String} {af : Array Edge} {ts : Array TypeId}
theorem DD.callL {g : FuncId} {args : List V} {xs : Array Operand} {fn : Func} {R : V → Sto → Prop} (hf : FnOk P g fn) (hc : DC P g args [] R) (hd : dok n dst = true) (he : (evsV (evV E) xs.toList).map (·.map V.peek) = some args)
    (q : ∀ v Sg, R v Sg → (∀ b o, zaa S0 b = some o → zaa Sg b = none) → DS P n r Q k (putV E dst v) (Sg ++ S0)) : DD P n r Q ops S0 [] [⟨dst, .call { callee := .value (.func g), args := xs, argTypes := ts }, ty, pos, af, none⟩] k E0 E S1 := by
  rw [Option.map_eq_some_iff] at he
  obtain ⟨ws, e1, e2⟩ := he
  refine DD.last rfl rfl rfl hd (OpS.call (fs := []) (cs := []) hf rfl e1 (S1 := []) (S2 := []) (R := R) (by simpa [e2] using hc _) (fun _ _ e => by cases e) (fun _ _ e => by cases e)) fun v E' S' h hdis => ?_
  obtain ⟨rfl, Sg, rfl, h1, -⟩ := h
  rw [List.append_nil] at hdis ⊢
  exact q v Sg h1 hdis
end
theorem zpa {Sg S0 : Sto} (hdis : ∀ b o, zaa S0 b = some o → zaa Sg b = none) {b : Nat} {o : Ob} (h : zaa S0 b = some o) : zaa (Sg ++ S0) b = some o := by rw [zbo, hdis b o h]; exact h
theorem app_l {Sg S0 : Sto} {b : Nat} {o : Ob} (h : zaa Sg b = some o) : zaa (Sg ++ S0) b = some o := by rw [zbo, h]
theorem zst {Sg S0 : Sto} (hdis : ∀ b o, zaa S0 b = some o → zaa Sg b = none) {b d : Nat} {o o' : Ob} (h : zaa Sg b = some o) (h0 : zaa S0 d = some o') : ¬ b = d := fun e => by
  subst e; rw [hdis _ _ h0] at h; cases h
abbrev gC (c : Club) (v : V) : List V := [I c.size, I c.start, I c.absent, I c.window, ints c.places, Bo c.share, .lst (c.members.map Member.cells), v]
theorem SitAt.flat {L : List V} {R : List Sitting} (h : SitAt L R) : L = (R.map Sitting.cells).flatten ++ L.drop (R.length * 3) := by
  apply List.ext_getElem?
  intro i
  by_cases hi : i < R.length * 3
  · obtain ⟨k, j, hj, rfl⟩ : ∃ k j, j < 3 ∧ i = k * 3 + j := ⟨i / 3, i % 3, by omega, by omega⟩
    have hk : k < R.length := by omega
    rw [zsg Sitting.len _ R k hk j hj]
    rcases (by omega : j = 0 ∨ j = 1 ∨ j = 2) with rfl | rfl | rfl
    · rw [Nat.add_zero, h.tab k hk]; rfl
    · rw [h.pts k hk]; rfl
    · rw [h.rul k hk]; rfl
  · rw [List.getElem?_append_right (by rw [zgt Sitting.len]; omega), zgt Sitting.len, List.getElem?_drop]
    congr 1; omega
theorem sits_rows (R : List Sitting) : ∀ v ∈ (R.map Sitting.cells).flatten, v.free = true := fun v hv => by
  obtain ⟨l, h1, h2⟩ := List.mem_flatten.1 hv
  obtain ⟨s, -, rfl⟩ := List.mem_map.1 h1
  simp only [Sitting.cells, List.mem_cons, List.not_mem_nil, or_false] at h2
  rcases h2 with rfl | rfl | rfl <;> rfl
theorem SitAt.ok {L : List V} {R : List Sitting} (h : SitAt L R) {b cap : Nat} {S : Sto} {e : Nat} (hS : zaa S b = some (.cells (L.map V.peek) e)) (hl : L.length = cap * 3) (hc : R.length ≤ cap ∧ cap ≤ maxLen) : ∃ g : GR, g.cell = .v (.slice (some ⟨b, 0, none⟩) R.length cap) ∧ g.Ok e 3 S ∧ g.l = R.map Sitting.cells := by
  have hp := h.peek
  have hln := h.len
  refine ⟨⟨R.map Sitting.cells, some (b, cap, (L.map V.peek).drop (R.length * 3))⟩, by rw [GR.cell_some, List.length_map], ⟨by rw [hS]; congr 2; exact hp.flat, ?_, by rw [List.length_map]; exact hc.1, hc.2, fun v hv => ?_, sits_rows R, fun c hc => ?_⟩, rfl⟩
  · rw [List.length_map, List.length_drop, List.length_map]; omega
  · obtain ⟨u, -, rfl⟩ := List.mem_map.1 (List.mem_of_mem_drop hv)
    exact zdx u
  · obtain ⟨s, -, rfl⟩ := List.mem_map.1 hc; rfl
theorem copyP_dc (c : Club) (hs : c.Small) : DC Try.prog 68 [c.val] [] (fun u S' => ∃ g : GR, u = .agg (gC c g.cell) ∧ g.Ok 81 3 S' ∧ g.l = c.rounds.map Sitting.cells) := by
  have q1 := hs.rounds
  have q2 := hs.members
  have q3 := hs.places
  refine DC.of_runC Try.func68 rfl Try.ntmps68 Try.results68 (by simp) rfl (fun _ => ?_); simp only [zap, zar, go_sem, Nat.zero_add, Nat.reduceAdd]
  repeat' (first | (with_reducible first | refine DS.seq ?_ | refine DS.regionL ?_) | (with_reducible refine DS.boxS yU yE yU (fun _ hfr => ?_); have hfr := zik hfr; simp only [zfr, zgl, and_true] at hfr; simp only [zbl, zch, zbk, zbx, zbh, zbb, zbq, zbg, zci, zcg, zbt, zcf, zbw, zbv]) | fail)
  rename_i b1 hb1
  refine DS.allocS yR yU yU (fun b2 h2 => ?_)
  have n1 : ¬ b1 = b2 := fun e => by rw [zab, if_pos e] at h2; cases h2
  have n1' : ¬ b2 = b1 := fun e => n1 e.symm
  clear h2 hb1
  have e0 : (Value.agg #[.int .i64 0, .int .i64 0, .int .i64 0, .int .i64 0, .slice none 0 0, .bool false, .slice none 0 0, .slice none 0 0]).cells.toList.map V.v = zcu := rfl
  rw [e0]
  clear e0
  repeat' (first | (with_reducible first | refine DS.opsNil ?_ | refine DS.seq ?_) | refine DS.drawL (id := 1) [0, 1, 2, 3, 4, 5, 6, 7, 9, 8] 10 (by kernel_rfl) zcy (by simp only [zay, zbc, zbd, zbe, zax]; exact rfl) (by simp only [zau, zav, List.drop_nil]; exact rfl) ?_ | with_reducible refine DD.fltS yU yU yU yX49 ?_ | refine DD.pcS inferInstance (zlm c.places (by omega)) yU yX50 ?_; simp only [zbr, zby, Nat.reduceEqDiff, ↓reduceIte] | refine DD.pcS inferInstance (cloneM_pc c.members (by omega)) yU yX50 ?_; simp only [zbr, zby, Nat.reduceEqDiff, ↓reduceIte] | fail)
  refine DD.callL inferInstance (cloneS_dc c.rounds (by omega)) yR yH (fun u Sg hu hdis => ?_)
  obtain ⟨⟨R, blk⟩, rfl, gok, rfl⟩ := hu
  simp only [zcq]
  have l1 : zaa [(b2, Ob.cells zcu 26), (b1, .cells (gC c (.lst (c.rounds.map Sitting.cells))) 26)] b1 = some (.cells (gC c (.lst (c.rounds.map Sitting.cells))) 26) := by simp only [zab, n1', ↓reduceIte]
  have l2 : zaa [(b2, Ob.cells zcu 26), (b1, .cells (gC c (.lst (c.rounds.map Sitting.cells))) 26)] b2 = some (.cells zcu 26) := by simp only [zab, ↓reduceIte]
  cases blk with
  | none =>
    have h0 : c.rounds = [] := List.map_eq_nil_iff.1 gok
    refine DS.reS (S' := [(b1, .cells (gC c (.lst (c.rounds.map Sitting.cells))) 26), (b2, .cells zcu 26)]) (zfd ⟨zpa hdis l1, zpa hdis l2, trivial⟩) ?_
    clear hdis gok l1 l2
    simp only [GR.cell_none]
    repeat' (first | (with_reducible first | refine DS.fltS yU yU yE ?_ | refine DS.opsNil ?_ | refine DS.seq ?_ | refine DS.regionL ?_ | refine DS.block ?_) | (refine DS.store yR yE yE yE yE yU (by exact ⟨by with_unfolding_all rfl, by (try simp only [List.length_map, List.length_append, List.length_set, List.length_replicate, List.length_cons, List.length_nil]); omega⟩) ?_; simp only [zbn, zas, zaw, zbz, zbm, zbi, zbj]; try simp only [zal, zac, zad, Nat.reduceEqDiff, ↓reduceIte, zah, zai, zan, zag, zaf, zam, zaj]) | fail)
    simp only [setS, n1, n1', ↓reduceIte, zcc, zbu]
    refine DS.mapO (b := b1) V.copy (fun _ _ _ h => V.copy_Rl h) zfg (by simp only [zab, n1, n1', ↓reduceIte]; exact rfl) ?_
    simp only [setS, n1, n1', ↓reduceIte]
    refine DS.loopS [1, 2, 20] (by (simp only [go_sem, Nat.reduceEqDiff, ↓reduceIte]; exact rfl)) (fun (y : Nat) => [(21, I y)]) (fun (y : Nat) => [(b1, .cells (gC c (.v (.slice none 0 0))) 26), (b2, .cells zcu 26)]) (fun (y : Nat) => y = 0) (fun (y : Nat) => y) 0 yS (fun b o e => by exact e) rfl (fun y B hI hB => ?_); try dsimp only at hI hB; simp only [zaq, zat]
    subst hI
    refine DS.freezeP (t := 1) yE yE ?_; simp only [zbf, zbp, ↓reduceIte, *, zbh, zbb, zbq, zbg, zci, zcg, zbt, zcf]
    repeat' (first | (refine DS.ldC (t := 78) yU yE yU (by simp only [List.length_cons, List.length_nil]; omega) ?_; simp only [List.take_succ_cons, List.take_zero, List.map_cons, List.map_nil, zbq, zbg, zci, Nat.reduceAdd]) | (with_reducible first | refine DS.fltS yU yU yE ?_ | refine DS.opsNil ?_ | refine DS.seq ?_ | refine DS.regionL ?_ | (refine DS.cE yE ?_; refine CG.no ?_) | refine DS.exit yU ?_) | (refine DS.store yR yE yE yE yE yU (by exact ⟨by with_unfolding_all rfl, by (try simp only [List.length_map, List.length_append, List.length_set, List.length_replicate, List.length_cons, List.length_nil]); omega⟩) ?_; simp only [zbn, zas, zaw, zbz, zbm, zbi, zbj]; try simp only [zal, zac, zad, Nat.reduceEqDiff, ↓reduceIte, zah, zai, zan, zag, zaf, zam, zaj]) | fail)
    simp only [setS, n1, n1', ↓reduceIte, zas, zaw, zbu, zcc, zcu, Nat.reduceAdd, Nat.zero_add]
    refine DS.retC [] yH yH yH yH (fun d o e => by cases e) ⟨⟨[], none⟩, rfl, rfl, by first | rfl | (rw [h0]; rfl)⟩
  | some z =>
  obtain ⟨b, cap, junk⟩ := z
  have k1 := gok.look
  have k2 := gok.le
  have k3 := gok.cap
  have k4 := gok.len
  rw [List.length_map] at k2 k4
  simp only [GR.cell_some, List.length_map]
  have e1 := zst hdis k1 l1
  have e2 := zst hdis k1 l2
  have e1' : ¬ b1 = b := fun h => e1 h.symm
  have e2' : ¬ b2 = b := fun h => e2 h.symm
  refine DS.reS (S' := [(b1, .cells (gC c (.lst (c.rounds.map Sitting.cells))) 26), (b2, .cells zcu 26), (b, .cells ((c.rounds.map Sitting.cells).flatten ++ junk) 81)]) (zfd ⟨zpa hdis l1, zpa hdis l2, app_l k1, trivial⟩) ?_
  clear hdis gok k1 l1 l2
  repeat' (first | (with_reducible first | refine DS.fltS yU yU yE ?_ | refine DS.opsNil ?_ | refine DS.seq ?_ | refine DS.regionL ?_ | refine DS.block ?_) | (refine DS.store yR yE yE yE yE yU (by exact ⟨by with_unfolding_all rfl, by (try simp only [List.length_map, List.length_append, List.length_set, List.length_replicate, List.length_cons, List.length_nil]); omega⟩) ?_; simp only [zbn, zas, zaw, zbz, zbm, zbi, zbj]; try simp only [zal, zac, zad, Nat.reduceEqDiff, ↓reduceIte, zah, zai, zan, zag, zaf, zam, zaj]) | fail)
  simp only [setS, ↓reduceIte, zcc, zbu]
  refine DS.mapO (b := b1) V.copy (fun _ _ _ h => V.copy_Rl h) zfg (by simp only [zab, n1, n1', e1', ↓reduceIte]; exact rfl) ?_
  simp only [setS, n1, n1', ↓reduceIte]
  refine DS.loopS [1, 2, 20] (by (simp only [go_sem, Nat.reduceEqDiff, ↓reduceIte]; exact rfl)) (fun (y : Nat × List V) => [(21, I y.1)]) (fun (y : Nat × List V) => [(b1, .cells (gC c (.v (.slice (some ⟨b, 0, none⟩) c.rounds.length cap))) 26), (b2, .cells zcu 26), (b, .cells y.2 81)]) (fun (y : Nat × List V) => y.1 ≤ c.rounds.length ∧ SitAt y.2 c.rounds ∧ y.2.length = cap * 3) (fun (y : Nat × List V) => c.rounds.length - y.1) (0, (c.rounds.map Sitting.cells).flatten ++ junk) yS (fun b o e => by exact e) ⟨Nat.zero_le _, zpd _ _, by rw [List.length_append, zgt Sitting.len]; exact k4⟩ (fun y B hI hB => ?_); try dsimp only at hI hB; simp only [zaq, zat]
  obtain ⟨i, L⟩ := y
  dsimp only at hI hB ⊢
  have hB0 := hB
  clear hB
  obtain ⟨g1, g2, gl⟩ := hI
  by_cases hi : (i : Int) < (c.rounds.length : Int)
  · have hi' : i < c.rounds.length := by omega
    have hsm := hs.round _ (List.getElem_mem hi')
    have hL := g2.len
    have h1 := g2.tab i hi'
    have h2 := g2.pts i hi'
    have h3 := g2.rul i hi'
    repeat' (first | (with_reducible first | refine DS.fltS yU yU yE ?_ | refine DS.opsNil ?_ | refine DS.seq ?_ | refine DS.regionL ?_ | (refine DS.cE yE ?_; refine CG.yes ?_) | refine DS.block ?_ | refine DS.skip ?_) | fail)
    refine DS.drawPL (id := 6) [(b1, .cells (gC c (.v (.slice (some ⟨b, 0, none⟩) c.rounds.length cap))) 26), (b2, .cells zcu 26), (b, .cells L 81)] [] [1, 2] [0, 3, 4, 5, 6, 7, 8, 9, 10, 11, 12, 13, 14, 15, 16, 17] 18 rfl (by kernel_rfl) (by decide) zcy (fun _ _ e => ⟨e, rfl⟩) (fun _ _ e => by cases e)
      ⟨_, _, _, _, _, _, rfl, rfl, yG, _, _, _, _, _, _, rfl, rfl, yG, rfl⟩ (by simp only [zay, zbc, zbd, zbe, zax]; exact rfl) (by simp only [zau, zav, List.drop_nil]; exact rfl) ?_
    have q5 := hsm.rulings
    repeat' (first | with_reducible refine DD.fltS yU yU yU yE ?_ | refine DD.pcS inferInstance (zkg c.rounds[i].tables hsm.tables hsm.table) yU yF ?_; simp only [zbr, zby, Nat.reduceEqDiff, ↓reduceIte] | refine DD.pcS inferInstance (zkg c.rounds[i].points hsm.points hsm.point) yU yF ?_; simp only [zbr, zby, Nat.reduceEqDiff, ↓reduceIte] | fail)
    refine DD.callL inferInstance (cloneR_dc c.rounds[i].rulings (by omega)) yR yH (fun u Sg hu hdis => ?_)
    obtain ⟨⟨R, blk⟩, rfl, gok, rfl⟩ := hu
    simp only [zcq]
    have l1 : zaa [(b1, .cells (gC c (.v (.slice (some ⟨b, 0, none⟩) c.rounds.length cap))) 26), (b2, .cells zcu 26), (b, .cells L 81)] b1 = some (.cells (gC c (.v (.slice (some ⟨b, 0, none⟩) c.rounds.length cap))) 26) := by simp only [zab, ↓reduceIte]
    have l2 : zaa [(b1, .cells (gC c (.v (.slice (some ⟨b, 0, none⟩) c.rounds.length cap))) 26), (b2, .cells zcu 26), (b, .cells L 81)] b2 = some (.cells zcu 26) := by simp only [zab, n1, ↓reduceIte]
    have l3 : zaa [(b1, .cells (gC c (.v (.slice (some ⟨b, 0, none⟩) c.rounds.length cap))) 26), (b2, .cells zcu 26), (b, .cells L 81)] b = some (.cells L 81) := by simp only [zab, e1', e2', ↓reduceIte]
    cases blk with
    | none =>
      have hr0 : c.rounds[i].rulings = [] := List.map_eq_nil_iff.1 gok
      refine DS.reS (S' := [(b1, .cells (gC c (.v (.slice (some ⟨b, 0, none⟩) c.rounds.length cap))) 26), (b2, .cells zcu 26), (b, .cells L 81)]) (zfd ⟨zpa hdis l1, zpa hdis l2, zpa hdis l3, trivial⟩) ?_
      clear hdis gok l1 l2 l3
      simp only [GR.cell_none]
      repeat' (first | (with_reducible first | refine DS.fltS yU yU yE ?_ | refine DS.opsNil ?_ | refine DS.seq ?_ | refine DS.regionL ?_) | (refine DS.store yR yE yE yE yE yU (by exact ⟨by with_unfolding_all rfl, by (try simp only [List.length_map, List.length_append, List.length_set, List.length_replicate, List.length_cons, List.length_nil]); omega⟩) ?_; simp only [zbn, zas, zaw, zbz, zbm, zbi, zbj]; try simp only [zal, zac, zad, Nat.reduceEqDiff, ↓reduceIte, zah, zai, zan, zag, zaf, zam, zaj]) | fail)
      simp only [setS, e1, e2, e1', e2', ↓reduceIte]
      have g3 := g2.put hi'
      refine DS.mapO (b := b) V.peek (fun _ _ _ h => V.peek_Rl h) zdx (by simp only [zab, e1', e2', ↓reduceIte]; exact rfl) ?_
      have hL' : (((L.set (i * 3) (.lst (c.rounds[i].tables.map cR))).set (i * 3 + 1) (.lst (c.rounds[i].points.map cR))).set (i * 3 + 2) (.v (.slice none 0 0))).map V.peek = (((L.set (i * 3) (.lst (c.rounds[i].tables.map cR))).set (i * 3 + 1) (.lst (c.rounds[i].points.map cR))).set (i * 3 + 2) (.lst (List.map Ruling.cells c.rounds[i].rulings))).map V.peek := by
        rw [hr0]; simp only [List.map_set]; rfl
      have g4 := g3.peek
      rw [← hL'] at g4
      have gl4 : ((((L.set (i * 3) (.lst (c.rounds[i].tables.map cR))).set (i * 3 + 1) (.lst (c.rounds[i].points.map cR))).set (i * 3 + 2) (.v (.slice none 0 0))).map V.peek).length = cap * 3 := by simp only [List.length_map, List.length_set]; exact gl
      clear hL' g3
      generalize hgL : (((L.set (i * 3) (.lst (c.rounds[i].tables.map cR))).set (i * 3 + 1) (.lst (c.rounds[i].points.map cR))).set (i * 3 + 2) (.v (.slice none 0 0))).map V.peek = L' at g4 gl4
      simp only [setS, e1, e2, e1', e2', ↓reduceIte, hgL]
      have h6 := g4.rul i hi'
      rw [hr0] at h6
      clear hgL
      repeat' (first | (with_reducible first | refine DS.fltS yU yU yE ?_ | refine DS.opsNil ?_ | refine DS.block ?_) | fail)
      refine DS.loopS [1, 2, 4, 20, 21, 56] (by (simp only [go_sem, Nat.reduceEqDiff, ↓reduceIte]; exact rfl)) (fun (y : Nat) => [(57, I y)]) (fun (y : Nat) => [(b1, .cells (gC c (.v (.slice (some ⟨b, 0, none⟩) c.rounds.length cap))) 26), (b2, .cells zcu 26), (b, .cells L' 81)]) (fun (y : Nat) => y = 0) (fun (y : Nat) => y) 0 yS (fun b o e => by exact e) rfl (fun y B hI hB => ?_); try dsimp only at hI hB; simp only [zaq, zat]
      subst hI
      repeat' (first | (with_reducible first | refine DS.fltS yU yU yE ?_ | refine DS.opsNil ?_ | refine DS.seq ?_ | refine DS.regionL ?_ | (refine DS.cE yE ?_; refine CG.no ?_) | refine DS.blk ?_ | refine DS.exit yU ?_) | fail)
      refine DS.back (hB0 (i + 1, L') _ _ (by dsimp only; omega) ⟨by dsimp only; omega, g4, gl4⟩ yS yS (fun d o e => by exact e))
    | some z =>
    obtain ⟨bk, capk, junkk⟩ := z
    have k1 := gok.look
    have k6 := gok.le
    have k7 := gok.cap
    rw [List.length_map] at k6
    simp only [GR.cell_some, List.length_map]
    have u1 := zst hdis k1 l1
    have u2 := zst hdis k1 l2
    have u3 := zst hdis k1 l3
    have u1' : ¬ b1 = bk := fun h => u1 h.symm
    have u2' : ¬ b2 = bk := fun h => u2 h.symm
    have u3' : ¬ b = bk := fun h => u3 h.symm
    refine DS.reS (S' := [(b1, .cells (gC c (.v (.slice (some ⟨b, 0, none⟩) c.rounds.length cap))) 26), (b2, .cells zcu 26), (b, .cells L 81), (bk, .cells ((c.rounds[i].rulings.map Ruling.cells).flatten ++ junkk) 78)]) (zfd ⟨zpa hdis l1, zpa hdis l2, zpa hdis l3, app_l k1, trivial⟩) ?_
    clear hdis gok k1 l1 l2 l3
    repeat' (first | (with_reducible first | refine DS.fltS yU yU yE ?_ | refine DS.opsNil ?_ | refine DS.seq ?_ | refine DS.regionL ?_) | (refine DS.store yR yE yE yE yE yU (by exact ⟨by with_unfolding_all rfl, by (try simp only [List.length_map, List.length_append, List.length_set, List.length_replicate, List.length_cons, List.length_nil]); omega⟩) ?_; simp only [zbn, zas, zaw, zbz, zbm, zbi, zbj]; try simp only [zal, zac, zad, Nat.reduceEqDiff, ↓reduceIte, zah, zai, zan, zag, zaf, zam, zaj]) | fail)
    simp only [setS, e1, e2, e1', e2', u1, u2, u3, u1', u2', u3', ↓reduceIte]
    have h6 := zjn (L := (L.set (i * 3) (.lst (c.rounds[i].tables.map cR))).set (i * 3 + 1) (.lst (c.rounds[i].points.map cR))) (i := i * 3 + 2) (x := V.v (.slice (some ⟨bk, 0, none⟩) c.rounds[i].rulings.length capk)) (by simp only [List.length_set]; omega)
    have g4 := g2.put hi'
    have hgL : ((L.set (i * 3) (.lst (c.rounds[i].tables.map cR))).set (i * 3 + 1) (.lst (c.rounds[i].points.map cR))).set (i * 3 + 2) (.lst (c.rounds[i].rulings.map Ruling.cells)) = (((L.set (i * 3) (.lst (c.rounds[i].tables.map cR))).set (i * 3 + 1) (.lst (c.rounds[i].points.map cR))).set (i * 3 + 2) (V.v (.slice (some ⟨bk, 0, none⟩) c.rounds[i].rulings.length capk))).set (i * 3 + 2) (.lst (c.rounds[i].rulings.map Ruling.cells)) := by rw [List.set_set]
    rw [hgL] at g4
    clear hgL
    have h7 : i * 3 + 2 < (((L.set (i * 3) (.lst (c.rounds[i].tables.map cR))).set (i * 3 + 1) (.lst (c.rounds[i].points.map cR))).set (i * 3 + 2) (V.v (.slice (some ⟨bk, 0, none⟩) c.rounds[i].rulings.length capk))).length := by simp only [List.length_set]; omega
    have gl5 : (((L.set (i * 3) (.lst (c.rounds[i].tables.map cR))).set (i * 3 + 1) (.lst (c.rounds[i].points.map cR))).set (i * 3 + 2) (V.v (.slice (some ⟨bk, 0, none⟩) c.rounds[i].rulings.length capk))).length = cap * 3 := by simp only [List.length_set]; exact gl
    generalize hgL : ((L.set (i * 3) (.lst (c.rounds[i].tables.map cR))).set (i * 3 + 1) (.lst (c.rounds[i].points.map cR))).set (i * 3 + 2) (V.v (.slice (some ⟨bk, 0, none⟩) c.rounds[i].rulings.length capk)) = L' at h6 g4 h7 gl5
    try simp only [hgL]
    clear hgL
    repeat' (first | (with_reducible first | refine DS.fltS yU yU yE ?_ | refine DS.opsNil ?_ | refine DS.block ?_) | fail)
    refine DS.loopS [1, 2, 4, 20, 21, 56] (by (simp only [go_sem, Nat.reduceEqDiff, ↓reduceIte]; exact rfl)) (fun (y : Nat × List V) => [(57, I y.1)]) (fun (y : Nat × List V) => [(b1, .cells (gC c (.v (.slice (some ⟨b, 0, none⟩) c.rounds.length cap))) 26), (b2, .cells zcu 26), (b, .cells L' 81), (bk, .cells y.2 78)]) (fun (y : Nat × List V) => y.1 ≤ c.rounds[i].rulings.length ∧ RulAt y.2 c.rounds[i].rulings) (fun (y : Nat × List V) => c.rounds[i].rulings.length - y.1) (0, (c.rounds[i].rulings.map Ruling.cells).flatten ++ junkk) yS (fun b o e => by exact e) ⟨Nat.zero_le _, rulAt_flat _ _⟩ (fun y B hI hB => ?_); try dsimp only at hI hB; simp only [zaq, zat]
    obtain ⟨k, M⟩ := y
    dsimp only at hI hB ⊢
    obtain ⟨p1, p2⟩ := hI
    by_cases hk : (k : Int) < (c.rounds[i].rulings.length : Int)
    · have hk' : k < c.rounds[i].rulings.length := by omega
      have hM := p2.len
      have h8 := p2.pts k hk'
      have h9 := hsm.ruling _ (List.getElem_mem hk')
      repeat' (first | (with_reducible first | refine DS.fltS yU yU yE ?_ | refine DS.opsNil ?_ | refine DS.seq ?_ | refine DS.regionL ?_ | (refine DS.cE yE ?_; refine CG.yes ?_) | refine DS.blk ?_ | refine DS.block ?_ | refine DS.skip ?_) | (refine DS.store yR yE yE yE yE yU (by exact ⟨by with_unfolding_all rfl, by (try simp only [List.length_map, List.length_append, List.length_set, List.length_replicate, List.length_cons, List.length_nil]); omega⟩) ?_; simp only [zbn, zas, zaw, zbz, zbm, zbi, zbj]; try simp only [zal, zac, zad, Nat.reduceEqDiff, ↓reduceIte, zah, zai, zan, zag, zaf, zam, zaj]) | refine DS.drawL (id := 10) [0, 1, 2, 3, 4, 5, 6, 7, 8, 9, 10, 11, 12, 13] 14 (by kernel_rfl) zcy (by simp only [zay, zbc, zbd, zbe, zax]; exact rfl) (by simp only [zau, zav, List.drop_nil]; exact rfl) ?_ | (with_reducible first | refine DD.fltS yU yU yU yE ?_ | refine DD.nil0 ?_) | refine DD.pcS inferInstance (zlm c.rounds[i].rulings[k].points (Nat.le_trans h9 (by decide))) yU yT ?_; simp only [zbr, zby, Nat.reduceEqDiff, ↓reduceIte] | fail)
      simp only [setS, u1', u2', u3', ↓reduceIte]
      refine DS.mapO (b := bk) V.peek (fun _ _ _ h => V.peek_Rl h) zdx (by simp only [zab, u1', u2', u3', ↓reduceIte]; exact rfl) ?_
      simp only [setS, u1', u2', u3', ↓reduceIte]
      refine DS.back (hB (k + 1, (M.set (k * 3 + 2) (.own false 3 1 (c.rounds[i].rulings[k].points.map cI))).map V.peek) _ _ (by dsimp only; omega) ⟨by dsimp only; omega, p2.put hk'⟩ yS yS (fun d o e => by exact e))
    · obtain rfl : k = c.rounds[i].rulings.length := by omega
      refine DS.freezeC (b := bk) (b' := b) (i := i * 3 + 2) (sz := 3) (len := c.rounds[i].rulings.length) (cap := capk) (l := M) (T := 78) (l' := L') (T' := 81) u3' (by simp only [zab, e1', e2', ↓reduceIte]) h6 (by simp only [zab, u1', u2', u3', ↓reduceIte]) p2.len ⟨k6, k7⟩ ?_
      rw [p2.chunk]
      simp only [setS, zbf, zbp, e1, e2, e1', e2', u1, u2, u3, u1', u2', u3', ↓reduceIte]
      have h6' := zjn (x := V.lst (c.rounds[i].rulings.map Ruling.cells)) h7
      clear h6 hB
      repeat' (first | (with_reducible first | refine DS.fltS yU yU yE ?_ | refine DS.opsNil ?_ | refine DS.seq ?_ | refine DS.regionL ?_ | (refine DS.cE yE ?_; refine CG.no ?_) | refine DS.blk ?_ | refine DS.exit yU ?_) | fail)
      refine DS.back (hB0 (i + 1, L'.set (i * 3 + 2) (.lst (c.rounds[i].rulings.map Ruling.cells))) _ _ (by dsimp only; omega) ⟨by dsimp only; omega, g4, by rw [List.length_set]; exact gl5⟩ yS yS (fun d o e => by exact e))
  · obtain rfl : i = c.rounds.length := by omega
    refine DS.mapO (b := b) V.peek (fun _ _ _ h => V.peek_Rl h) zdx (by simp only [zab, e1', e2', ↓reduceIte]; exact rfl) ?_
    simp only [setS, e1', e2', ↓reduceIte]
    clear hB0
    repeat' (first | (with_reducible first | refine DS.fltS yU yU yE ?_ | refine DS.opsNil ?_ | refine DS.seq ?_ | refine DS.regionL ?_ | (refine DS.cE yE ?_; refine CG.no ?_) | refine DS.exit yU ?_) | (refine DS.store yR yE yE yE yE yU (by exact ⟨by with_unfolding_all rfl, by (try simp only [List.length_map, List.length_append, List.length_set, List.length_replicate, List.length_cons, List.length_nil]); omega⟩) ?_; simp only [zbn, zas, zaw, zbz, zbm, zbi, zbj]; try simp only [zal, zac, zad, Nat.reduceEqDiff, ↓reduceIte, zah, zai, zan, zag, zaf, zam, zaj]) | fail)
    obtain ⟨g, z1, z2, z3⟩ := g2.ok (S := [(b, .cells (L.map V.peek) 81)]) (b := b) (e := 81) (by simp only [zab, ↓reduceIte]) gl ⟨k2, k3⟩
    simp only [setS, n1, n1', e1', e2', ↓reduceIte, zas, zaw, zbu, zcc, zcu, Nat.reduceAdd, Nat.zero_add]
    refine DS.retC [(b, .cells (L.map V.peek) 81)] yH yH yH yH (zfd ⟨?_, trivial⟩) ⟨g, by rw [z1]; rfl, z2, z3⟩
    simp only [zab, e1', e2', ↓reduceIte]
end Go.XL
namespace Go.XL
set_option maxHeartbeats 4000000
structure RoundOk (size : Nat) (met : Int → Int → Bool) (ids : List Int) (T : List (List Int)) : Prop where
  perm : T.flatten.Perm ids
  heads : T.Pairwise fun a b => a.headD 0 < b.headD 0
  len : ∀ t ∈ T, t.length = size
  asc : ∀ t ∈ T, t.Pairwise (· < ·)
  fair : ∀ t ∈ T, zhi met t = true
inductive Fnd (size : Nat) (rounds : List (List Int)) : (Int → Int → Bool) → Nat → List Int → List (Nat × List Int) → Prop
  | done {met : Int → Int → Bool} {round : Nat} : round + 1 = rounds.length → Fnd size rounds met round [] []
  | next {met : Int → Int → Bool} {round : Nat} {Q : List (Nat × List Int)} : round + 1 ≠ rounds.length → Fnd size rounds met (round + 1) (rounds.getD (round + 1) []) Q → Fnd size rounds met round [] Q
  | table {met : Int → Int → Bool} {round : Nat} {f : Int} {fr t : List Int} {Q : List (Nat × List Int)} : t ∈ zfb (zbs met) (size - 1) [f] fr → Fnd size rounds (zgi met t) round ((f :: fr).filter fun id => !decide (id ∈ t)) Q → Fnd size rounds met round (f :: fr) ((round, t) :: Q)
theorem ztp {budget : Int} {round : Nat} {rec : List Int → Int → Int × Int × List (Nat × List Int)} : ∀ (l : List (List Int)) (s : Int), (tryL budget round rec l s).1 = 1 → ∃ t ∈ l, ∃ s', (rec t s').1 = 1 ∧ (tryL budget round rec l s).2.2 = (round, t) :: (rec t s').2.2
  | [], s, h => by simp [tryL] at h
  | t :: r, s, h => by
    rw [tryL] at h ⊢
    by_cases h1 : s = budget
    · rw [if_pos h1] at h; cases h
    rw [if_neg h1] at h ⊢
    by_cases h2 : (rec t (w64 (s + 1))).1 = 2
    · rw [if_pos h2] at h ⊢
      obtain ⟨t', ht, s', h3, h4⟩ := ztp r _ h
      exact ⟨t', List.mem_cons_of_mem _ ht, s', h3, h4⟩
    · rw [if_neg h2] at h ⊢
      exact ⟨t, List.mem_cons_self .., _, h, rfl⟩
theorem zqh {size : Nat} {budget : Int} {rounds : List (List Int)} : ∀ (n : Nat) (met : Int → Int → Bool) (round : Nat) (ids : List Int) (s : Int), (srch size budget rounds n met round ids s).1 = 1 → Fnd size rounds met round ids (srch size budget rounds n met round ids s).2.2
  | 0, met, round, ids, s, h => by simp [srch] at h
  | n + 1, met, round, [], s, h => by
    rw [srch] at h ⊢
    by_cases h1 : round + 1 = rounds.length
    · rw [if_pos h1]; exact .done h1
    · rw [if_neg h1] at h ⊢; exact .next h1 (zqh n _ _ _ _ h)
  | n + 1, met, round, f :: fr, s, h => by
    rw [srch] at h ⊢
    obtain ⟨t, ht, s', h1, h2⟩ := ztp _ _ h
    rw [h2]
    exact .table ht (zqh n _ _ _ _ h1)
theorem Fnd.ge {size : Nat} {rounds : List (List Int)} {met : Int → Int → Bool} {round : Nat} {ids : List Int} {Q : List (Nat × List Int)} (h : Fnd size rounds met round ids Q) : ∀ q ∈ Q, round ≤ q.1 := by
  induction h with
  | done => intro q hq; cases hq
  | next _ _ ih => intro q hq; have := ih q hq; omega
  | table _ _ ih =>
    intro q hq
    rcases List.mem_cons.1 hq with rfl | hq
    · exact Nat.le_refl _
    · exact ih q hq
theorem sub_filter : ∀ {l t : List Int}, l.Nodup → t.Sublist l → (l.filter fun id => decide (id ∈ t)) = t := by
  intro l t hn hs
  induction hs with
  | slnil => rfl
  | cons a h ih =>
    rename_i t r
    obtain ⟨h1, h2⟩ := List.nodup_cons.1 hn
    rw [List.filter_cons, if_neg (by simp; exact fun h4 => h1 (h.subset h4))]
    exact ih h2
  | cons_cons a h ih =>
    rename_i t r
    obtain ⟨h1, h2⟩ := List.nodup_cons.1 hn
    rw [List.filter_cons, if_pos (by simp)]
    congr 1
    rw [← ih h2]
    exact List.filter_congr fun x hx => by
      have : x ≠ a := fun h5 => h1 (h5 ▸ hx)
      rw [ih h2]
      simp [this]
theorem zli (met : Int → Int → Bool) : ∀ t : List Int, zhi met t = true ↔ t.Pairwise fun a b => met a b = false
  | [] => by simp [zhi]
  | a :: r => by
    rw [zhi, Bool.and_eq_true, List.pairwise_cons, zli met r, List.all_eq_true]
    simp
theorem fairT_mono {met met' : Int → Int → Bool} (h : ∀ a b, met' a b = false → met a b = false) {t : List Int} (ht : zhi met' t = true) : zhi met t = true :=
  (zli _ _).2 (((zli _ _).1 ht).imp fun h1 => h _ _ h1)
theorem fills_ok {size : Nat} (hs : 1 ≤ size) {met : Int → Int → Bool} {f : Int} {fr t : List Int} (h : t ∈ zfb (zbs met) (size - 1) [f] fr) : ∃ ch, t = f :: ch ∧ ch.Sublist fr ∧ t.length = size ∧ zhi met t = true := by
  rw [fills_one] at h
  obtain ⟨ch, h1, rfl⟩ := List.mem_map.1 h
  obtain ⟨h2, h3⟩ := List.mem_filter.1 h1
  obtain ⟨h4, h5⟩ := zji fr _ ch h2
  exact ⟨ch, rfl, h4, by simp [h5]; omega, h3⟩
theorem fnd_round {size : Nat} {rounds : List (List Int)} (hs : 1 ≤ size) {met : Int → Int → Bool} {round : Nat} {ids : List Int} {Q : List (Nat × List Int)} (h : Fnd size rounds met round ids Q) (ha : ids.Pairwise (· < ·)) :
    ∃ T Q', Q = T.map (fun t => (round, t)) ++ Q' ∧ RoundOk size met ids T ∧ ((round + 1 = rounds.length ∧ Q' = []) ∨ (round + 1 ≠ rounds.length ∧ Fnd size rounds (T.foldl zgi met) (round + 1) (rounds.getD (round + 1) []) Q')) := by
  induction h with
  | done h1 => exact ⟨[], [], rfl, ⟨.refl _, .nil, by simp, by simp, by simp⟩, .inl ⟨h1, rfl⟩⟩
  | next h1 h2 => exact ⟨[], _, rfl, ⟨.refl _, .nil, by simp, by simp, by simp⟩, .inr ⟨h1, h2⟩⟩
  | @table met round f fr t Q h1 h2 ih =>
    obtain ⟨ch, rfl, h3, h4, h5⟩ := fills_ok hs h1
    obtain ⟨h6, h7⟩ := List.pairwise_cons.1 ha
    have hnd : (f :: fr).Nodup := ha.imp fun h => by omega
    obtain ⟨T, Q', rfl, h8, h9⟩ := ih (ha.filter _)
    refine ⟨(f :: ch) :: T, Q', rfl, ⟨?_, ?_, ?_, ?_, ?_⟩, ?_⟩
    · rw [List.flatten_cons]
      refine (h8.perm.append_left _).trans ?_
      have h10 := sub_filter hnd (h3.cons_cons f)
      have h11 := List.filter_append_perm (fun id => decide (id ∈ f :: ch)) (f :: fr)
      rw [h10] at h11
      exact h11
    · refine .cons (fun t ht => ?_) h8.heads
      have h10 := h8.len t ht
      cases t with
      | nil => simp at h10; omega
      | cons x r =>
        have h11 : x ∈ T.flatten := List.mem_flatten.2 ⟨_, ht, List.mem_cons_self ..⟩
        have h12 := h8.perm.mem_iff.1 h11
        obtain ⟨h13, h14⟩ := List.mem_filter.1 h12
        rcases List.mem_cons.1 h13 with rfl | h13
        · simp at h14
        · exact h6 x h13
    · intro t ht
      rcases List.mem_cons.1 ht with rfl | ht
      · exact h4
      · exact h8.len t ht
    · intro t ht
      rcases List.mem_cons.1 ht with rfl | ht
      · exact List.Pairwise.sublist (h3.cons_cons f) ha
      · exact h8.asc t ht
    · intro t ht
      rcases List.mem_cons.1 ht with rfl | ht
      · exact h5
      · refine fairT_mono (fun a b h => ?_) (h8.fair t ht)
        simp only [zgi] at h
        split at h
        · cases h
        · exact h
    · exact h9
def Club.sat (c : Club) (T : List (List Int)) : Club := { c with rounds := c.rounds ++ [⟨T, List.replicate T.length [], []⟩] }
def noClub : Club := ⟨0, 0, 0, 0, [], false, [], []⟩
def zql (c : Club) (T : List (List Int)) : Club × Int :=
  if zcs c ≠ 0 then (noClub, zcs c) else if c.rounds.length = 20 then (noClub, 8) else if zcs (c.sat T) ≠ 0 then (noClub, zcs (c.sat T)) else (c.sat T, 0)
theorem zpj (a b : Int) (s : Sitting) : ∀ l, ziy a b (l ++ [s]) = ziy a b l + metT a b s.tables
  | [] => by simp [ziy]
  | x :: r => by rw [List.cons_append, ziy, ziy, zpj a b s r]; omega
theorem metS_sat (c : Club) (T : List (List Int)) (a b : Int) : metS (c.sat T) a b = metS c a b + metT a b T := zpj a b _ _
theorem zps (a b : Int) : ∀ (T : List (List Int)) (met : Int → Int → Bool), (T.foldl zgi met) a b = (met a b || decide (0 < metT a b T))
  | [], met => by simp [metT]
  | t :: T, met => by
    rw [List.foldl_cons, zps a b T, zgi, metT]
    by_cases h : a ≠ b ∧ a ∈ t ∧ b ∈ t
    · rw [if_pos ⟨h.2.1, h.2.2, h.1⟩, if_pos h, Bool.true_or, decide_eq_true (show 0 < 1 + metT a b T by omega), Bool.or_true]
    · rw [if_neg (fun h' => h ⟨h'.2.2, h'.1, h'.2.1⟩), if_neg h, Nat.zero_add]
theorem met0_sat (c : Club) (T : List (List Int)) : met0 (c.sat T) = T.foldl zgi (met0 c) := by
  funext a b
  rw [zps, met0, met0, metS_sat, Bool.eq_iff_iff]
  simp only [decide_eq_true_eq, Bool.or_eq_true]
  omega
theorem znw {c d : Club} (h : c.members = d.members) (round : Int) : ∀ (t : List Int) (pre : Option Int), zdb c round t pre = zdb d round t pre
  | [], _ => rfl
  | id :: l, pre => by rw [zdb, zdb, zga, zga, Club.mem, Club.mem, h, znw h round l]
theorem zhe {c d : Club} (h : c.members = d.members) (hs : c.size = d.size) (round : Int) : ∀ (T : List (List Int)) (seated : List Int) (first : Int), zcz c round T seated first = zcz d round T seated first
  | [], _, _ => rfl
  | t :: l, seated, first => by rw [zcz, zcz, znw h, hs, zhe h hs round l]
theorem zkd {c d : Club} (hs : c.size = d.size) (hst : c.start = d.start) : ∀ (l : List (List Int)), zdk c l = zdk d l
  | [] => rfl
  | l :: r => by rw [zdk, zdk, zhb, zhb, hs, hst, zkd hs hst r]
theorem zna {d : Club} {round : Int} : ∀ {T : List (List Int)} {seated : List Int} {first : Int}, (∀ t ∈ T, (t.length : Int) = d.size) → (∀ t ∈ T, zdb d round t none = 0) → (seated ++ T.flatten).Nodup → (∀ t ∈ T, first < t.headD 0) → T.Pairwise (fun a b => a.headD 0 < b.headD 0) → zcz d round T seated first = 0
  | [], _, _, _, _, _, _, _ => rfl
  | t :: T, seated, first, h1, h2, h3, h4, h5 => by
    obtain ⟨h6, h7⟩ := List.pairwise_cons.1 h5
    have m := List.mem_cons_self (a := t) (l := T)
    have h8 := h1 t m
    have h9 := h2 t m
    have h10 := h4 t m
    rw [List.flatten_cons, ← List.append_assoc] at h3
    have h11 : ¬ (t.any fun id => decide (id ∈ seated)) = true := by
      intro h
      obtain ⟨x, hx, hx2⟩ := List.any_eq_true.1 h
      have h12 := (List.nodup_append.1 (List.nodup_append.1 h3).1).2.2
      exact h12 x (of_decide_eq_true hx2) x hx rfl
    rw [zcz, if_neg (by omega), if_neg (by omega), if_neg h11, if_neg (by omega)]
    exact zna (fun t ht => h1 t (List.mem_cons_of_mem _ ht)) (fun t ht => h2 t (List.mem_cons_of_mem _ ht)) h3 (fun t ht => h6 t ht) h7
theorem zha (c : Club) : ∀ (n i : Nat), zdd c i n = 0 ↔ ∀ k : Nat, i ≤ k → k < i + n → zdw c k = 0 ∧ zgw c k = 0
  | 0, i => ⟨fun _ k h1 h2 => by omega, fun _ => rfl⟩
  | n + 1, i => by
    rw [zdd]
    constructor
    · intro h k h1 h2
      split at h
      · contradiction
      split at h
      · contradiction
      by_cases hk : k = i
      · subst hk; exact ⟨by omega, by omega⟩
      · exact (zha c n (i + 1)).1 h k (by omega) (by omega)
    · intro h
      have h1 := h i (Nat.le_refl _) (by omega)
      rw [if_neg (by omega), if_neg (by omega)]
      exact (zha c n (i + 1)).2 fun k h2 h3 => h k (by omega) (by omega)
theorem zro (c : Club) (T : List (List Int)) {k : Int} (h0 : 0 ≤ k) (h : k < c.rounds.length) : (c.sat T).round k = c.round k := by
  rw [Club.round, Club.round, Club.sat]
  dsimp only
  rw [List.getD_eq_getElem?_getD, List.getD_eq_getElem?_getD, List.getElem?_append_left (by omega)]
theorem played_sat (c : Club) (T : List (List Int)) {k : Int} (h : k < c.rounds.length) (table : Int) : zfn (c.sat T) k table = zfn c k table := by
  by_cases h0 : 0 ≤ k
  · rw [zfn, zfn, zro c T h0 h, decide_eq_decide]
    have h1 : (c.sat T).rounds.length = c.rounds.length + 1 := by simp [Club.sat]
    rw [h1]
    constructor
    · rintro ⟨-, h2⟩; exact ⟨⟨h0, by omega⟩, h2⟩
    · rintro ⟨-, h2⟩; exact ⟨⟨h0, by omega⟩, h2⟩
  · rw [zfn, zfn, decide_eq_false (by omega), decide_eq_false (by omega)]
theorem zkv (c : Club) (T : List (List Int)) {k : Int} (h : k < c.rounds.length) : ∀ l, zdc (c.sat T) k l = zdc c k l
  | [] => rfl
  | x :: r => by
    rw [zdc, zdc, zkv c T h r]
    have hw : (c.sat T).window = c.window := rfl
    have hr : zhb (c.sat T) x.points = zhb c x.points := rfl
    rw [hw, hr]
    by_cases h1 : ¬ (max 0 (k - c.window) ≤ x.round ∧ x.round ≤ k)
    · rw [if_pos h1, if_pos h1]
    · rw [if_neg h1, if_neg h1, played_sat c T (by have := (Decidable.not_not.1 h1).2; omega)]
theorem zmg (c : Club) : ∀ n, zdk c (List.replicate n []) = 0
  | 0 => rfl
  | n + 1 => by rw [List.replicate_succ, zdk, if_pos yR, zmg c n]
theorem checkS_sat {c : Club} (hc : zcs c = 0) (hz : 1 ≤ c.size) (hm : c.members.Pairwise fun a b => a.id < b.id) (hp : ∀ m ∈ c.members, 0 < m.id) (hl : c.rounds.length < 20) {met : Int → Int → Bool} {ids : List Int} {T : List (List Int)} (h : RoundOk c.size.toNat met ids T) (hn : ids.Nodup)
    (hsub : ∀ x ∈ ids, x ∈ zca c c.rounds.length) : zcs (c.sat T) = 0 := by
  have hr : zel (c.sat T) = zel c := rfl
  have h1 : (c.sat T).rounds.length = c.rounds.length + 1 := by simp [Club.sat]
  rw [zcs] at hc
  split at hc
  · contradiction
  split at hc
  · contradiction
  split at hc
  · cases hc
  rename_i k1 k2 k3
  have h3 := (zha c c.rounds.length 0).1 hc
  rw [zcs, hr, if_neg k1, show (c.sat T).members = c.members from rfl, if_neg k2, h1, if_neg (by omega)]
  refine (zha (c.sat T) _ 0).2 fun k _ hk => ?_
  by_cases hk2 : k < c.rounds.length
  · obtain ⟨h4, h5⟩ := h3 k (Nat.zero_le _) (by omega)
    have e := zro c T (k := k) (by omega) (by omega)
    constructor
    · rw [zdw, e, zhe (c := c.sat T) (d := c) rfl rfl]; exact h4
    · rw [zgw, zen, zef, e, zkv c T (by omega), zkd (c := c.sat T) (d := c) rfl rfl]
      exact h5
  · obtain rfl : k = c.rounds.length := by omega
    have e : (c.sat T).round (c.rounds.length : Int) = ⟨T, List.replicate T.length [], []⟩ := by
      rw [Club.round_at (c.sat T) (by omega)]
      simp [Club.sat]
    have mem : ∀ t ∈ T, ∀ x ∈ t, x ∈ zca c c.rounds.length := fun t ht x hx => hsub x (h.perm.mem_iff.1 (List.mem_flatten.2 ⟨t, ht, hx⟩))
    constructor
    · rw [zdw, e, zhe (c := c.sat T) (d := c) rfl rfl]
      refine zna (fun t ht => by have := h.len t ht; omega) (fun t ht => zii hm _ (mem t ht) (h.asc t ht) fun p hp => by cases hp) ?_ (fun t ht => ?_) h.heads
      · rw [List.nil_append]; exact h.perm.nodup_iff.2 hn
      · have h5 := h.len t ht
        cases t with
        | nil => simp at h5; omega
        | cons x r =>
          obtain ⟨m, hm1, hm2⟩ := List.mem_map.1 (mem _ ht x (List.mem_cons_self ..))
          have := hp m (List.mem_filter.1 hm1).1
          simp only [List.headD_cons]; omega
    · rw [zgw, zen, zef, e]
      dsimp only
      have hp0 : (if (List.replicate T.length ([] : List Int)).length ≠ T.length then (3 : Int) else zdk (c.sat T) (List.replicate T.length [])) = 0 := by rw [if_neg (by simp), zmg]
      rw [hp0]
      rfl
theorem RoundOk.count {size : Nat} {met : Int → Int → Bool} {ids : List Int} {T : List (List Int)} (h : RoundOk size met ids T) : T.length * size = ids.length := by
  rw [← h.perm.length_eq]
  have key : ∀ L : List (List Int), (∀ t ∈ L, t.length = size) → L.length * size = L.flatten.length := by
    intro L
    induction L with
    | nil => intro _; simp
    | cons a r ih =>
      intro hl
      rw [List.flatten_cons, List.length_append, ← ih fun t ht => hl t (List.mem_cons_of_mem _ ht), hl a (List.mem_cons_self ..), List.length_cons, Nat.succ_mul]
      omega
  exact key T h.len
end Go.XL
namespace Go.XL
set_option maxHeartbeats 4000000
theorem znq {a b : Int} : ∀ {T : List (List Int)}, (∀ t ∈ T, ¬ (a ∈ t ∧ b ∈ t)) → metT a b T = 0
  | [], _ => rfl
  | t :: T, h => by
    rw [metT, if_neg (fun h1 => h t (List.mem_cons_self ..) h1.2), znq fun t ht => h t (List.mem_cons_of_mem _ ht)]
theorem zul {a b : Int} : ∀ {T : List (List Int)}, T.flatten.Nodup → metT a b T ≤ 1
  | [], _ => by simp [metT]
  | t :: T, h => by
    rw [List.flatten_cons] at h
    obtain ⟨h1, h2, h3⟩ := List.nodup_append.1 h
    rw [metT]
    by_cases h4 : a ≠ b ∧ a ∈ t ∧ b ∈ t
    · rw [if_pos h4, znq fun t' ht h5 => h3 a h4.2.1 a (List.mem_flatten.2 ⟨t', ht, h5.1⟩) rfl]
      omega
    · rw [if_neg h4]
      have := zul (a := a) (b := b) h2
      omega
theorem RoundOk.met {c : Club} {size : Nat} {ids : List Int} {T : List (List Int)} (h : RoundOk size (met0 c) ids T) (hn : ids.Nodup) {a b : Int} (hab : a ≠ b) : metT a b T ≤ 1 ∧ (0 < metS c a b → metT a b T = 0) := by
  refine ⟨zul (h.perm.nodup_iff.2 hn), fun h1 => znq fun t ht h2 => ?_⟩
  have h3 := List.pairwise_iff_getElem.1 ((zli _ _).1 (h.fair t ht))
  obtain ⟨i, hi, rfl⟩ := List.getElem_of_mem h2.1
  obtain ⟨j, hj, rfl⟩ := List.getElem_of_mem h2.2
  have h4 : met0 c t[i] t[j] = true := decide_eq_true h1
  rcases Nat.lt_trichotomy i j with h5 | h5 | h5
  · rw [h3 i j hi hj h5] at h4; cases h4
  · subst h5; exact hab rfl
  · rw [znr, h3 j i hj hi h5] at h4; cases h4
theorem zrn {c : Club} (h : c.Small) (hr : c.rounds.length ≤ 25) {T : List (List Int)} (hT : T.length ≤ 1000000) (ht : ∀ t ∈ T, t.length ≤ 1000000) : (c.sat T).Small where
  places := h.places
  members := h.members
  rounds := by simp [Club.sat]; omega
  round := fun s hs => by
    simp only [Club.sat, List.mem_append, List.mem_singleton] at hs
    rcases hs with hs | rfl
    · exact h.round s hs
    · refine ⟨hT, by simpa using hT, by simp, ht, fun t h1 => ?_, fun x h1 => by cases h1⟩
      obtain ⟨-, rfl⟩ := List.mem_replicate.1 h1
      simp
theorem sat_tab {c : Club} (h : zmp c) {T : List (List Int)} (ht : ∀ t ∈ T, ∀ x ∈ t, In64 x) : zmp (c.sat T) := by
  intro s hs t h1 x hx
  simp only [Club.sat, List.mem_append, List.mem_singleton] at hs
  rcases hs with hs | rfl
  · exact h s hs t h1 x hx
  · exact ht t h1 x hx
theorem ztn {b : Int} {round : Nat} {rec rec' : List Int → Int → Int × Int × List (Nat × List Int)} (hb : b ≤ 100000) (h : ∀ t s, 0 ≤ s → s ≤ b → (rec t s).1 ≠ 3 → rec' t s = rec t s) (hi : ∀ t s, 0 ≤ s → s ≤ b → zsx b s (rec t s)) :
    ∀ (l : List (List Int)) (s : Int), 0 ≤ s → s ≤ b → (tryL b round rec l s).1 ≠ 3 → tryL (-1) round rec' l s = tryL b round rec l s
  | [], s, h0, h1, _ => rfl
  | t :: r, s, h0, h1, h2 => by
    rw [tryL] at h2 ⊢
    rw [tryL, if_neg (show ¬ s = -1 by omega)]
    by_cases h3 : s = b
    · rw [if_pos h3] at h2; exact absurd rfl h2
    rw [if_neg h3] at h2 ⊢
    rw [zre (by omega)] at h2 ⊢
    have h4 := hi t (s + 1) (by omega) (by omega)
    unfold zsx at h4
    by_cases h5 : (rec t (s + 1)).1 = 2
    · rw [if_pos h5] at h2 ⊢
      rw [h t (s + 1) (by omega) (by omega) (by omega), if_pos h5]
      exact ztn hb h hi r _ (by omega) (by omega) h2
    · rw [if_neg h5] at h2 ⊢
      rw [h t (s + 1) (by omega) (by omega) h2, if_neg h5]
theorem zqf {b : Int} {size : Nat} {rounds : List (List Int)} (hb : b ≤ 100000) : ∀ (n : Nat) (met : Int → Int → Bool) (round : Nat) (ids : List Int) (s : Int), 0 ≤ s → s ≤ b → (srch size b rounds n met round ids s).1 ≠ 3 → srch size (-1) rounds n met round ids s = srch size b rounds n met round ids s
  | 0, met, round, ids, s, _, _, _ => rfl
  | n + 1, met, round, [], s, h0, h1, h2 => by
    rw [srch] at h2 ⊢
    rw [srch]
    split
    · rfl
    · rename_i h3
      rw [if_neg h3] at h2
      exact zqf hb n _ _ _ _ h0 h1 h2
  | n + 1, met, round, f :: fr, s, h0, h1, h2 => by
    rw [srch] at h2 ⊢
    rw [srch]
    exact ztn hb (fun t s h0 h1 h2 => zqf hb n _ _ _ _ h0 h1 h2) (fun t s h0 h1 => ztc hb n _ _ _ _ h0 h1) _ _ h0 h1 h2
theorem zuf {c : Club} {n b : Int} (h : (zgx c n b).2.2.2 = 0) : zcs c = 0 ∧ (1 ≤ n ∧ n ≤ 5) ∧ (c.rounds.length : Int) + n ≤ 20 ∧ zfa c (idsP c n.toNat) = 0 ∧
    zgx c n b = (if (runS c (idsP c n.toNat) b).1 = 1 then zeg n.toNat (runS c (idsP c n.toNat) b).2.2 else [], (runS c (idsP c n.toNat) b).1, (runS c (idsP c n.toNat) b).2.1, 0) := by
  rw [zgx] at h ⊢
  split at h
  · contradiction
  rename_i h1
  split at h
  · cases h
  rename_i h2
  split at h
  · cases h
  rename_i h3
  split at h
  · cases h
  rename_i h4
  split at h
  · contradiction
  rename_i h5
  rw [if_neg h1, if_neg h2, if_neg h3, if_neg h4, if_neg h5]
  exact ⟨by omega, by omega, by omega, by omega, rfl⟩
theorem planS_none {c : Club} {n b : Int} (h : ¬ ((zgx c n b).2.2.2 = 0 ∧ (zgx c n b).2.1 = 1)) : (zgx c n b).1 = [] := by
  rw [zgx] at h ⊢
  repeat' split
  all_goals first | rfl | skip
  exfalso
  simp_all
theorem zpq {c : Club} : ∀ {l : List (List Int)}, zfa c l = 0 → ∀ x ∈ l, ¬ 0 < (x.length : Int).tmod c.size
  | [], _, x, h => by cases h
  | a :: r, h, x, hx => by
    rw [zfa] at h
    split at h
    · cases h
    split at h
    · cases h
    rename_i h2
    split at h
    · cases h
    rcases List.mem_cons.1 hx with rfl | hx
    · exact h2
    · exact zpq h x hx
theorem zop {c : Club} (hm : c.members.Pairwise fun a b => a.id < b.id) (r : Int) : (zca c r).Pairwise (· < ·) := by
  rw [zca, List.pairwise_map]
  exact hm.filter _
theorem plan_next {c : Club} (hz : 1 ≤ c.size) {b : Int} (hb : 0 ≤ b ∧ b ≤ 1000) (h : (zgx c 1 b).2.2.2 = 0) (h3 : (zgx c 1 b).2.1 ≠ 3) (hl : (zcd c c.rounds.length).length ≤ 12) :
    ((zgx c 1 b).2.1 = 1 ↔ (zhf c (zcd c c.rounds.length)).2 = 0) ∧ ((zgx c 1 b).2.1 = 1 → (zgx c 1 b).1 = [(zhf c (zcd c c.rounds.length)).1]) := by
  obtain ⟨h1, -, -, h4, h5⟩ := zuf h
  have hpx : zcd c c.rounds.length = zca c c.rounds.length := by rw [zcd, if_neg (by omega), if_neg (by omega)]
  rw [hpx] at hl ⊢
  obtain ⟨k1, k2, k3⟩ := zea h1
  have hma := zwq k2
  have hids := zop hma c.rounds.length
  have e1 : idsP c (1 : Int).toNat = [zca c c.rounds.length] := rfl
  rw [e1] at h4 h5
  have h6 := (znx h4 _ (List.mem_singleton.2 rfl)).1
  have h7 := zpq h4 _ (List.mem_singleton.2 rfl)
  rw [h5] at h3 ⊢
  dsimp only at h3 ⊢
  have h8 : runS c [zca c c.rounds.length] (-1) = runS c [zca c c.rounds.length] b := zqf (by omega) _ _ _ _ _ (Int.le_refl _) hb.1 h3
  have h9 : zhf c (zca c c.rounds.length) = if (runS c [zca c c.rounds.length] (-1)).1 ≠ 1 then ([], 12) else ((runS c [zca c c.rounds.length] (-1)).2.2.map Prod.snd, 0) := by
    rw [zhf, if_neg (by omega), if_neg (by omega), if_neg (by omega), if_neg, if_neg h7]
    rw [zii hma _ (fun x hx => hx) hids fun p hp => by cases hp]; decide
  rw [h9, h8]
  by_cases h10 : (runS c [zca c c.rounds.length] b).1 = 1
  · rw [if_neg (by omega), if_pos h10]
    refine ⟨⟨fun _ => rfl, fun _ => h10⟩, fun _ => ?_⟩
    have hlt : ∀ q ∈ (runS c [zca c c.rounds.length] b).2.2, q.1 < 1 := znc (rounds := [zca c c.rounds.length]) _ (met0 c) 0 _ 0 (by simp)
    have hfil : (runS c [zca c c.rounds.length] b).2.2.filter (fun q => decide (q.1 = 0)) = (runS c [zca c c.rounds.length] b).2.2 := List.filter_eq_self.2 fun q hq => by have := hlt q hq; exact decide_eq_true (by omega)
    show zeg 1 _ = _
    simp only [zeg, List.range_one, List.map_cons, List.map_nil, hfil]
  · rw [if_pos (by omega)]
    refine ⟨⟨fun h => absurd h h10, fun h => by cases h⟩, fun h => absurd h h10⟩
structure AheadI (n : Nat) (P : List (List (List Int))) (c : Club) (i : Nat) : Prop where
  chk : zcs c = 0
  size : c.size = 3 ∨ c.size = 4
  asc : c.members.Pairwise fun a b => a.id < b.id
  pos : ∀ m ∈ c.members, 0 < m.id
  len : i ≤ n ∧ c.rounds.length + (n - i) ≤ 20
  small : c.Small
  tab : zmp c
  ids : ∀ m ∈ c.members, In64 m.id
  mem : c.members.length ≤ 1000
  plan : P.length = n
  fnd : i < n → ∃ rounds Q, rounds.length = n ∧ (∀ j, i ≤ j → j < n → rounds.getD j [] = zca c ((c.rounds.length : Int) + ((j - i : Nat) : Int))) ∧ Fnd c.size.toNat rounds (met0 c) i (zca c c.rounds.length) Q ∧ ∀ j, i ≤ j → j < n → P.getD j [] = (Q.filter fun q => decide (q.1 = j)).map Prod.snd
theorem ahead_step {n : Nat} {P : List (List (List Int))} {c : Club} {i : Nat} (h : AheadI n P c i) (hi : i < n) : RoundOk c.size.toNat (met0 c) (zca c c.rounds.length) (P.getD i []) ∧ (zca c c.rounds.length).Nodup ∧ zcs (c.sat (P.getD i [])) = 0 ∧ AheadI n P (c.sat (P.getD i [])) (i + 1) := by
  obtain ⟨rounds, Q, h1, h2, h3, h4⟩ := h.fnd hi
  have hids := zop h.asc (c.rounds.length : Int)
  have hsz := h.size
  have hlen := h.len
  obtain ⟨T, Q', rfl, h5, h6⟩ := fnd_round (by omega) h3 hids
  have hge : ∀ q ∈ Q', i + 1 ≤ q.1 := fun q hq => by
    rcases h6 with ⟨-, rfl⟩ | ⟨-, h6⟩
    · cases hq
    · exact h6.ge q hq
  have e1 : P.getD i [] = T := by
    rw [h4 i (Nat.le_refl _) hi, List.filter_append]
    have k1 : (T.map fun t => (i, t)).filter (fun q => decide (q.1 = i)) = T.map fun t => (i, t) := List.filter_eq_self.2 fun q hq => by
      obtain ⟨t, -, rfl⟩ := List.mem_map.1 hq
      simp
    have k2 : Q'.filter (fun q => decide (q.1 = i)) = [] := List.filter_eq_nil_iff.2 fun q hq => by
      have := hge q hq
      simp; omega
    rw [k1, k2, List.append_nil, List.map_map]
    simp [Function.comp_def]
  have e2 : ∀ j, i + 1 ≤ j → ((T.map (fun t => (i, t)) ++ Q').filter fun q => decide (q.1 = j)) = Q'.filter fun q => decide (q.1 = j) := fun j hj => by
    rw [List.filter_append]
    have k1 : (T.map fun t => (i, t)).filter (fun q => decide (q.1 = j)) = [] := List.filter_eq_nil_iff.2 fun q hq => by
      obtain ⟨t, -, rfl⟩ := List.mem_map.1 hq
      simp; omega
    rw [k1, List.nil_append]
  have hnd : (zca c c.rounds.length).Nodup := hids.imp fun h => by omega
  have hck := checkS_sat h.chk (by omega) h.asc h.pos (by omega) h5 hnd fun x hx => hx
  have hcnt := h5.count
  have hmemb : (zca c c.rounds.length).length ≤ 1000 := by
    rw [zca, List.length_map]
    exact Nat.le_trans (List.length_filter_le ..) h.mem
  have hTl : T.length ≤ 1000 := by
    have := Nat.le_mul_of_pos_right T.length (show 0 < c.size.toNat by omega)
    omega
  have hin : ∀ t ∈ T, ∀ x ∈ t, In64 x := fun t ht x hx => by
    have h7 := h5.perm.mem_iff.1 (List.mem_flatten.2 ⟨t, ht, hx⟩)
    obtain ⟨m, hm, rfl⟩ := List.mem_map.1 h7
    exact h.ids m (List.mem_filter.1 hm).1
  have hr1 : (c.sat T).rounds.length = c.rounds.length + 1 := by simp [Club.sat]
  rw [e1]
  refine ⟨h5, hnd, hck, ⟨hck, h.size, h.asc, h.pos, by rw [hr1]; omega, zrn h.small (by omega) (by omega) (fun t ht => by have := h5.len t ht; omega), sat_tab h.tab hin, h.ids, h.mem, h.plan, fun hi2 => ?_⟩⟩
  rcases h6 with ⟨h6, -⟩ | ⟨-, h6⟩
  · omega
  refine ⟨rounds, Q', h1, fun j hj hjn => ?_, ?_, fun j hj hjn => ?_⟩
  · rw [h2 j (by omega) hjn, hr1]
    show zca c _ = zca c _
    congr 1
    omega
  · rw [met0_sat]
    have k := h2 (i + 1) (by omega) hi2
    have e3 : ((i + 1 - i : Nat) : Int) = 1 := by omega
    rw [e3] at k
    rw [k] at h6
    rw [hr1]
    exact h6
  · rw [h4 j (by omega) hjn, e2 j hj]
theorem ahead_first {c : Club} {n : Nat} (hz : c.size = 3 ∨ c.size = 4) (hs : c.Small) (ht : zmp c) (hi : ∀ m ∈ c.members, In64 m.id) (hm : c.members.length ≤ 1000) {b : Int} (h : (zgx c n b).2.2.2 = 0) (h1 : (zgx c n b).2.1 = 1) : AheadI n (zgx c n b).1 c 0 := by
  obtain ⟨k1, k2, k3, k4, k5⟩ := zuf h
  rw [k5] at h1 ⊢
  dsimp only at h1
  rw [if_pos h1]
  obtain ⟨c1, c2, c3⟩ := zea k1
  have hma := zwq c2
  have hf := zqy c2
  rw [Int.toNat_natCast] at *
  refine ⟨k1, hz, hma, hf.pos, by omega, hs, ht, hi, hm, by simp [zeg], fun hn => ?_⟩
  refine ⟨idsP c n, (runS c (idsP c n) b).2.2, zih c n, fun j _ hj => ?_, ?_, fun j _ hj => ?_⟩
  · simp [idsP, List.getD_eq_getElem?_getD, hj]
  · have k6 := zqh (size := c.size.toNat) (budget := b) (rounds := idsP c n) (zgy (idsP c n)) (met0 c) 0 ((idsP c n).headD []) 0 h1
    have e : (idsP c n).headD [] = zca c c.rounds.length := by
      cases n with
      | zero => omega
      | succ n => simp [idsP, List.range_succ_eq_map]
    rw [e] at k6
    have e2 : runS c (idsP c n) b = srch c.size.toNat b (idsP c n) (zgy (idsP c n)) (met0 c) 0 (zca c c.rounds.length) 0 := by rw [runS, e]
    rw [e2]
    exact k6
  · simp [zeg, List.getD_eq_getElem?_getD, hj]
end Go.XL
namespace Go.XL
open Go.Proofs
set_option maxRecDepth 100000
set_option maxHeartbeats 8000000
theorem seatP_pc (c : Club) (hs : c.Small) (T : List (List Int)) (hT : T.length ≤ 1000000) (ht : ∀ t ∈ T, t.length ≤ 1000000) : PC Try.prog 29 [c.val, rows T] (tupV [(zql c T).1.val, I (zql c T).2]) := by
  have q1 := hs.rounds
  have hck := zfx c hs
  generalize hR : zql c T = R
  have HR := Box.mk hR
  clear hR
  have e0 : (Value.agg #[.int .i64 0, .int .i64 0, .int .i64 0, .int .i64 0, .slice none 0 0, .bool false, .slice none 0 0, .slice none 0 0]).cells.toList.map V.v = zcu := rfl
  refine DC.of_run Try.func29 rfl Try.ntmps29 Try.results29 (by simp) (fun _ => ?_); simp only [zap, zar, go_sem, Nat.zero_add, Nat.reduceAdd]
  repeat' (first | (with_reducible first | refine DS.seq ?_ | refine DS.regionL ?_) | (refine DS.boxF (t := 2) yU yE yU ?_; simp only [zbl, zch, zbk, zbx, zbh, zbb, zbq, zbg, zci, zcg, zbt, zcf, zbw, zbv]) | fail)
  refine DS.allocS yR yU yU (fun b4 h4 => ?_)
  rw [e0]
  clear h4
  repeat' (first | (with_reducible first | refine DS.fltS yU yU yE ?_ | refine DS.opsNil ?_ | refine DS.seq ?_ | refine DS.regionL ?_ | (refine DS.cE yE ?_; first | refine CG.np (fun _ => ?_) (fun _ => ?_) | refine CG.p (fun _ => ?_) (fun _ => ?_)) | refine DS.skip ?_) | refine DS.pcS inferInstance (hck) yR yT ?_ | (refine DS.store yR yE yE yE yE yU (by exact ⟨by with_unfolding_all rfl, by (try simp only [List.length_map, List.length_append, List.length_set, List.length_replicate, List.length_cons, List.length_nil]); omega⟩) ?_; simp only [zbn, zas, zaw, zbz, zbm, zbi, zbj]; try simp only [zal, zac, zad, Nat.reduceEqDiff, ↓reduceIte, zah, zai, zan, zag, zaf, zam, zaj]) | fail)
  · rename_i e1
    refine DS.retW [] (vs := [noClub.val, I (zcs c)]) (by simp only [setS, ↓reduceIte, zas, zaw, zbu, zcc, zcu, List.map_cons, List.map_nil, zci, Nat.reduceAdd, Nat.zero_add]; (simp (disch := omega) only [go_sem, dopV, Option.map_some, Option.map_none, Option.bind_some, Option.bind_none, ↓reduceIte, Nat.reduceEqDiff, Nat.reduceLT, Nat.reduceLeDiff, Nat.reduceAdd, Nat.reduceMul, Nat.reduceSub, Nat.zero_add, Nat.add_zero, Nat.zero_le, Nat.zero_mul, Nat.mul_one, Nat.one_mul, Int.natCast_zero, Int.toNat_zero, Int.reduceToNat, Int.reduceLT, Int.reduceLE, Int.reduceEq, decide_true, decide_false, true_and, and_true, Bool.and_self, Bool.and_true, Bool.true_and, Bool.not_true, Bool.not_false, IntWalk.toNatUp, IntWalk.iteOmega, IntWalk.i64_in, Option.isSome_some, not_true_eq_false, not_false_eq_true, Option.getD_some, Option.getD_none, Int.toNat_natCast, List.length_map, List.getElem?_map, List.getElem?_eq_getElem, V.flat, V.one, List.all_cons, List.all_nil]; try exact rfl)) (fun d o e => by cases e) (by rw [← HR.out, zql, if_pos e1]; rfl)
  · rename_i e1 e2
    refine DS.retW [] (vs := [noClub.val, I 8]) (by simp only [setS, ↓reduceIte, zas, zaw, zbu, zcc, zcu, List.map_cons, List.map_nil, zci, Nat.reduceAdd, Nat.zero_add]; (simp (disch := omega) only [go_sem, dopV, Option.map_some, Option.map_none, Option.bind_some, Option.bind_none, ↓reduceIte, Nat.reduceEqDiff, Nat.reduceLT, Nat.reduceLeDiff, Nat.reduceAdd, Nat.reduceMul, Nat.reduceSub, Nat.zero_add, Nat.add_zero, Nat.zero_le, Nat.zero_mul, Nat.mul_one, Nat.one_mul, Int.natCast_zero, Int.toNat_zero, Int.reduceToNat, Int.reduceLT, Int.reduceLE, Int.reduceEq, decide_true, decide_false, true_and, and_true, Bool.and_self, Bool.and_true, Bool.true_and, Bool.not_true, Bool.not_false, IntWalk.toNatUp, IntWalk.iteOmega, IntWalk.i64_in, Option.isSome_some, not_true_eq_false, not_false_eq_true, Option.getD_some, Option.getD_none, Int.toNat_natCast, List.length_map, List.getElem?_map, List.getElem?_eq_getElem, V.flat, V.one, List.all_cons, List.all_nil]; try exact rfl)) (fun d o e => by cases e) (by rw [← HR.out, zql, if_neg (by omega), if_pos (by omega)]; rfl)
  rename_i e1 e2
  obtain ⟨k1, k2, k3⟩ := zea e1
  have hck2 := zfx (c.sat T) (zrn hs (by omega) hT ht)
  refine DS.call (dst := some 21) [] [(b4, .cells zcu 26)] inferInstance (copyP_dc c hs) yR yH (fun _ _ e => by cases e) (fun _ _ e => ⟨e, rfl⟩) ?_
  rintro v Sg ⟨g, rfl, gok, gl⟩ hdis
  have n4 : zaa Sg b4 = none := by
    cases h : zaa Sg b4 with
    | none => rfl
    | some o => have := hdis b4 o h; rw [zab, if_pos rfl] at this; cases this
  obtain ⟨xg, hxg, hone⟩ : ∃ x : Value, g.cell = .v x ∧ x.oneCell' = true := by obtain ⟨l, blk⟩ := g; cases blk <;> exact ⟨_, rfl, rfl⟩
  simp only [gC, hxg]
  simp only [zcq]
  refine DS.reS (S' := (b4, .cells zcu 26) :: Sg) (fun d o e => by
    rw [zab] at e
    rw [zbo]
    split at e
    · rename_i h; subst h; rw [n4, zab, if_pos rfl]; exact e
    · rw [e]) ?_
  clear hdis
  skip
  refine DS.allocS yR yU yU (fun b7 h7 => ?_)
  rw [e0]
  rw [zab] at h7
  have n1 : ¬ b4 = b7 := fun e => by rw [if_pos e] at h7; cases h7
  have n1' : ¬ b7 = b4 := fun e => n1 e.symm
  rw [if_neg n1] at h7
  skip
  refine DS.store yR yH yH yH yH (by simp only [V.flat, V.one, List.all_cons, List.all_nil, hone]; rfl) ⟨by rfl, by simp [zcu]⟩ ?_
  simp only [zbn, zas, zaw, zbj, zal, zad, Nat.reduceEqDiff, ↓reduceIte, zaf, setS, zbu, zcc, zcu, List.map_cons, List.map_nil, zci, zbg, Nat.reduceAdd, Nat.zero_add]
  repeat' (first | (with_reducible first | refine DS.opsNil ?_ | refine DS.seq ?_) | refine DS.drawL (id := 7) [0, 1, 2, 3, 4, 5, 6, 7, 8] 9 (by kernel_rfl) zcy (by simp only [zay, zbc, zbd, zbe, zax]; exact rfl) (by simp only [zau, zav, List.drop_nil]; exact rfl) ?_ | with_reducible refine DD.fltS yU yU yU yE ?_ | refine DD.pcS inferInstance (zkg T hT ht) yU yT ?_; simp only [zbr, zby, Nat.reduceEqDiff, ↓reduceIte] | fail)
  refine DD.mk yU yG yG yG yG yU yU ⟨by omega, by omega, by decide, by omega⟩ (fun u u1 u2 => ?_)
  simp only [Int.toNat_natCast]
  rw [zab] at u2
  have m7 : ¬ b7 = u := fun e => by rw [if_pos e] at u2; cases u2
  rw [if_neg m7, zab] at u2
  have m4 : ¬ b4 = u := fun e => by rw [if_pos e] at u2; cases u2
  rw [if_neg m4] at u2
  have U := Box.mk u2
  have N := Box.mk (And.intro n4 h7)
  clear u1 u2 e0 n4 h7
  refine DD.flt1S yU yU yU yU yG ?_
  simp only [zbr, zby, Nat.reduceEqDiff, ↓reduceIte]
  refine DD.bslS yU yG yG ?_
  simp only [go_sem, Nat.zero_add, Nat.reduceAdd, zbr, zby, Nat.reduceEqDiff, ↓reduceIte]
  refine DD.nil ?_
  simp only [zaq, zat]
  have gok' : g.Ok 81 3 ((u, .cells (List.replicate T.length (.v (.slice none 0 0))) 22) :: (b7, .cells (gC c (.v xg)) 26) :: (b4, .cells zcu 26) :: Sg) := gok.of fun b cap j hb => by
    have hb2 : ∃ o, zaa Sg b = some o := by obtain ⟨l, blk⟩ := g; cases hb; exact ⟨_, gok.look⟩
    obtain ⟨o, ho⟩ := hb2
    rw [zab, if_neg (fun e => by subst e; rw [U.out] at ho; cases ho), zab, if_neg (fun e => by subst e; rw [N.out.2] at ho; cases ho), zab, if_neg (fun e => by subst e; rw [N.out.1] at ho; cases ho)]
  have gne : ∀ d, zaa Sg d = none → ∀ cap j, g.blk ≠ some (d, cap, j) := fun d hd cap j hb => by
    obtain ⟨l, blk⟩ := g; cases hb; have h := gok.look; rw [hd] at h; cases h
  have hgl : g.l.length = c.rounds.length := by rw [gl, List.length_map]
  refine DS.step rfl rfl yR (OpS.appG (g := g) (ml := [[rows T, .v (.slice (some ⟨u, 0, none⟩) T.length T.length), .v (.slice none 0 0)]]) rfl yH yH yR yR (by decide) (by rw [hxg]; (simp (disch := omega) only [go_sem, dopV, Option.map_some, Option.map_none, Option.bind_some, Option.bind_none, ↓reduceIte, Nat.reduceEqDiff, Nat.reduceLT, Nat.reduceLeDiff, Nat.reduceAdd, Nat.reduceMul, Nat.reduceSub, Nat.zero_add, Nat.add_zero, Nat.zero_le, Nat.zero_mul, Nat.mul_one, Nat.one_mul, Int.natCast_zero, Int.toNat_zero, Int.reduceToNat, Int.reduceLT, Int.reduceLE, Int.reduceEq, decide_true, decide_false, true_and, and_true, Bool.and_self, Bool.and_true, Bool.true_and, Bool.not_true, Bool.not_false, IntWalk.toNatUp, IntWalk.iteOmega, IntWalk.i64_in, Option.isSome_some, not_true_eq_false, not_false_eq_true, Option.getD_some, Option.getD_none, Int.toNat_natCast, List.length_map, List.getElem?_map, List.getElem?_eq_getElem, V.flat, V.one, List.all_cons, List.all_nil]; try exact rfl)) gok' yH yH (by simp) (by simp) ⟨by rw [hgl]; simp only [List.length_singleton]; omega, by decide⟩) (fun u2 E' S4 hu2 => ?_)
  obtain ⟨rfl, b, cap, junk, rfl, m1, m2, m3⟩ := hu2
  have k4 := m1.look
  have k5 := m1.le
  have k6 := m1.cap
  simp only [GR.cell_some, zcq, List.length_append, List.length_map, List.length_singleton, hgl] at k5 ⊢
  have z7 := m3 b7
  have z4 := m3 b4
  have zu := m3 u
  have ne : ∀ d o, zaa Sg d = none → zaa ((u, .cells (List.replicate T.length (.v (.slice none 0 0))) 22) :: (b7, .cells (gC c (.v xg)) 26) :: (b4, .cells zcu 26) :: Sg) d = some o → ¬ d = b := fun d o h1 h2 e => by
    subst e
    rcases m2 with ⟨cap, j, h⟩ | h
    · exact gne d h1 _ _ h
    · rw [h2] at h; cases h
  have m7' : ¬ u = b7 := fun h => m7 h.symm
  have m4' : ¬ u = b4 := fun h => m4 h.symm
  have w7 := ne b7 (.cells (gC c (.v xg)) 26) N.out.2 (by simp only [zab, m7', ↓reduceIte])
  have w4 := ne b4 (.cells zcu 26) N.out.1 (by simp only [zab, m4', n1', ↓reduceIte])
  have wu := ne u (.cells (List.replicate T.length (.v (.slice none 0 0))) 22) U.out (by simp only [zab, ↓reduceIte])
  have w7' : ¬ b = b7 := fun h => w7 h.symm
  have w4' : ¬ b = b4 := fun h => w4 h.symm
  have wu' : ¬ b = u := fun h => wu h.symm
  replace z7 := z7 w7 (gne b7 N.out.2)
  replace z4 := z4 w4 (gne b4 N.out.1)
  replace zu := zu wu (gne u U.out)
  simp only [zab, m7', m4', n1', ↓reduceIte] at z7 z4 zu
  rw [gl] at k4
  refine DS.reS (S' := [(b7, .cells (gC c (.v xg)) 26), (b4, .cells zcu 26), (u, .cells (List.replicate T.length (.v (.slice none 0 0))) 22), (b, .cells ((c.rounds.map Sitting.cells).flatten ++ (rows T :: .v (.slice (some ⟨u, 0, none⟩) T.length T.length) :: .v (.slice none 0 0) :: junk)) 81)]) (zfd ⟨z7, z4, zu, by rw [k4]; simp; exact ⟨rfl, rfl, rfl⟩, trivial⟩) ?_
  clear m1 m2 m3 ne gne gok gok' U N z7 z4 zu hgl gl
  refine DS.fltS yU yU yG ?_
  refine DS.store yR yH yH yH yH yR ⟨by rfl, by simp [gC]⟩ ?_
  simp only [zbn, zas, zaw, zbz, zal, zad, Nat.reduceEqDiff, ↓reduceIte, zan, setS, gC, zcc, zbu, Nat.reduceAdd, Nat.zero_add]
  have r1 : (List.replicate T.length (V.v (.slice none 0 0))).map V.peek = (List.replicate T.length ([] : List Int)).map fun t => ints t := by simp only [List.map_replicate]; rfl
  have r2 : chunk 1 T.length (((List.replicate T.length ([] : List Int)).map fun t => ints t).map V.copy) = (List.replicate T.length ([] : List Int)).map cR := by
    have h := zhs (List.replicate T.length ([] : List Int)) []
    rw [List.length_replicate, List.append_nil] at h
    exact h
  have r3 : ((c.rounds.map Sitting.cells).flatten ++ (rows T :: .lst ((List.replicate T.length ([] : List Int)).map cR) :: .v (.slice none 0 0) :: junk)).map V.peek = ((c.sat T).rounds.map Sitting.cells).flatten ++ junk.map V.peek := by
    rw [List.map_append, znd]
    simp only [Club.sat, List.map_append, List.map_cons, List.map_nil, List.flatten_append, List.flatten_cons, List.flatten_nil, List.append_nil, List.append_assoc]
    rfl
  have r4 : (c.sat T).rounds.length = c.rounds.length + 1 := by simp [Club.sat]
  have r5 : chunk 3 (c.rounds.length + 1) ((((c.sat T).rounds.map Sitting.cells).flatten ++ junk.map V.peek).map V.copy) = (c.sat T).rounds.map Sitting.cells := by
    rw [← r4]; exact (zpd _ _).chunk
  have r6 : ((c.rounds.map Sitting.cells).flatten).length = c.rounds.length * 3 := zgt Sitting.len _
  refine DS.mapO (b := u) V.peek (fun _ _ _ h => V.peek_Rl h) zdx (by simp only [zab, m7, m4, ↓reduceIte]; exact rfl) ?_
  simp only [setS, m7, m4, ↓reduceIte, r1]
  refine DS.freezeC (b := u) (b' := b) (i := c.rounds.length * 3 + 1) (sz := 1) (len := T.length) (cap := T.length) (l := (List.replicate T.length ([] : List Int)).map fun t => ints t) (T := 22) (l' := (c.rounds.map Sitting.cells).flatten ++ (rows T :: .v (.slice (some ⟨u, 0, none⟩) T.length T.length) :: .v (.slice none 0 0) :: junk)) (T' := 81) wu' (by simp only [zab, w7, w4, wu, ↓reduceIte]) (by rw [List.getElem?_append_right (by omega), r6, Nat.add_sub_cancel_left]; rfl) (by simp only [zab, m7, m4, ↓reduceIte]) (by simp) ⟨Nat.le_refl _, by unfold maxLen; omega⟩ ?_
  rw [r2, List.set_append_right _ _ (by omega), r6, Nat.add_sub_cancel_left, List.set_cons_succ, List.set_cons_zero]
  simp only [setS, zbf, zbp, m7, m4, m7', m4', w7, w4, wu, w7', w4', wu', ↓reduceIte]
  refine DS.mapO (b := b) V.peek (fun _ _ _ h => V.peek_Rl h) zdx (by simp only [zab, w7, w4, ↓reduceIte]; exact rfl) ?_
  simp only [setS, w7, w4, ↓reduceIte, r3]
  refine DS.freezeC (b := b) (b' := b7) (i := 7) (sz := 3) (len := c.rounds.length + 1) (cap := cap) (l := ((c.sat T).rounds.map Sitting.cells).flatten ++ junk.map V.peek) (T := 81) (l' := gC c (.v (.slice (some ⟨b, 0, none⟩) (c.rounds.length + 1) cap))) (T' := 26) w7 (by simp only [zab, ↓reduceIte]) yR (by simp only [zab, w7, w4, ↓reduceIte]) (by rw [List.length_append, zgt Sitting.len, r4]; omega) ⟨k5, k6⟩ ?_
  rw [r5]
  simp only [setS, zbf, zbp, w7, w4, w7', w4', ↓reduceIte, zcc, zbu]
  repeat' (first | (with_reducible first | refine DS.fltS yU yU yE ?_ | refine DS.opsNil ?_ | refine DS.seq ?_ | refine DS.regionL ?_ | (refine DS.cE yE ?_; refine CG.np (fun _ => ?_) (fun _ => ?_)) | refine DS.skip ?_) | refine DS.pcS inferInstance (hck2) yR yT ?_ | (refine DS.store yR yE yE yE yE yU (by exact ⟨by with_unfolding_all rfl, by (try simp only [List.length_map, List.length_append, List.length_set, List.length_replicate, List.length_cons, List.length_nil]); omega⟩) ?_; simp only [zbn, zas, zaw, zbz, zbm, zbi, zbj]; try simp only [zal, zac, zad, Nat.reduceEqDiff, ↓reduceIte, zah, zai, zan, zag, zaf, zam, zaj]) | fail)
  · rename_i e3
    refine DS.retW [] (vs := [noClub.val, I (zcs (c.sat T))]) (by simp only [setS, w7', w4', n1, n1', ↓reduceIte, zas, zaw, zbu, zcc, zcu, List.map_cons, List.map_nil, zci, Nat.reduceAdd, Nat.zero_add]; (simp (disch := omega) only [go_sem, dopV, Option.map_some, Option.map_none, Option.bind_some, Option.bind_none, ↓reduceIte, Nat.reduceEqDiff, Nat.reduceLT, Nat.reduceLeDiff, Nat.reduceAdd, Nat.reduceMul, Nat.reduceSub, Nat.zero_add, Nat.add_zero, Nat.zero_le, Nat.zero_mul, Nat.mul_one, Nat.one_mul, Int.natCast_zero, Int.toNat_zero, Int.reduceToNat, Int.reduceLT, Int.reduceLE, Int.reduceEq, decide_true, decide_false, true_and, and_true, Bool.and_self, Bool.and_true, Bool.true_and, Bool.not_true, Bool.not_false, IntWalk.toNatUp, IntWalk.iteOmega, IntWalk.i64_in, Option.isSome_some, not_true_eq_false, not_false_eq_true, Option.getD_some, Option.getD_none, Int.toNat_natCast, List.length_map, List.getElem?_map, List.getElem?_eq_getElem, V.flat, V.one, List.all_cons, List.all_nil]; try exact rfl)) (fun d o e => by cases e) (by rw [← HR.out, zql, if_neg (by omega), if_neg (by omega), if_pos e3]; rfl)
  · rename_i e3
    refine DS.retW [] (vs := [(c.sat T).val, I 0]) (by simp only [setS, w7', w4', n1, n1', ↓reduceIte, zas, zaw, zbu, zcc, zcu, List.map_cons, List.map_nil, zci, zbg, Nat.reduceAdd, Nat.zero_add]; (simp (disch := omega) only [go_sem, dopV, Option.map_some, Option.map_none, Option.bind_some, Option.bind_none, ↓reduceIte, Nat.reduceEqDiff, Nat.reduceLT, Nat.reduceLeDiff, Nat.reduceAdd, Nat.reduceMul, Nat.reduceSub, Nat.zero_add, Nat.add_zero, Nat.zero_le, Nat.zero_mul, Nat.mul_one, Nat.one_mul, Int.natCast_zero, Int.toNat_zero, Int.reduceToNat, Int.reduceLT, Int.reduceLE, Int.reduceEq, decide_true, decide_false, true_and, and_true, Bool.and_self, Bool.and_true, Bool.true_and, Bool.not_true, Bool.not_false, IntWalk.toNatUp, IntWalk.iteOmega, IntWalk.i64_in, Option.isSome_some, not_true_eq_false, not_false_eq_true, Option.getD_some, Option.getD_none, Int.toNat_natCast, List.length_map, List.getElem?_map, List.getElem?_eq_getElem, V.flat, V.one, List.all_cons, List.all_nil]; try exact rfl)) (fun d o e => by cases e) (by rw [← HR.out, zql, if_neg (by omega), if_neg (by omega), if_neg (by omega)]; rfl)
end Go.XL
namespace Go.XL
open Go.Proofs
set_option maxRecDepth 100000
set_option maxHeartbeats 8000000
theorem znk (c : Club) (hs : c.Small) (round : Int) : PC Try.prog 40 [c.val, I round] (ints (zcd c round)) := by
  refine PC.of_peek ?_
  have hck := zfx c hs
  have hpl := zpf c round hs.members
  rw [zcd]
  refine DC.of_run Try.func40 rfl Try.ntmps40 Try.results40 (by simp) (fun _ => ?_); simp only [zap, zar, go_sem, Nat.zero_add, Nat.reduceAdd]
  repeat' (first | (with_reducible first | refine DS.fltS yU yU yE ?_ | refine DS.opsNil ?_ | refine DS.seq ?_ | refine DS.regionL ?_ | (refine DS.cE yE ?_; first | refine CG.np (fun _ => ?_) (fun _ => ?_) | refine CG.yes ?_) | (refine DS.gE yU yE ?_; first | refine GG.pF (fun _ => ?_) (fun _ => ?_) | refine GG.run ?_ | refine GG.sT ?_) | refine DS.skip ?_) | refine DS.pcS inferInstance (hck) yR yT ?_ | refine DS.pcS inferInstance (hpl) yR yT ?_ | (refine DS.boxF (t := 2) yU yE yU ?_; simp only [zbl, zch, zbk, zbx, zbh, zbb, zbq, zbg, zci, zcg, zbt, zcf, zbw, zbv]) | refine DS.retT [] yE trivial ?_ | fail)
  · rw [if_neg (by omega), if_pos (by assumption)]; rfl
  · rw [if_neg (by omega), if_neg (by omega)]; rfl
  · rw [if_pos (by assumption)]; rfl
end Go.XL
namespace Go.XL
section
variable {P : Program} {n : Nat} {r : Rr} {Q : VEnv → Sto → Prop} {k : List Fr} {E : VEnv} {S : Sto}
theorem DS.join {x : Code} (F : VEnv) (T : Sto) (h1 : DS P n r Q (.code x :: .back (fun E' S' => subV F E' ∧ subS T S') :: k) E S) (h2 : DS P n r Q k F T) : DS P n r Q (.code x :: k) E S := fun K W a w hs hw => by
  refine wpIn_mono (h1 K W a w hs hw) fun e a2 w2 t => ?_
  cases e with
  | normal => obtain ⟨E3, S3, q1, q2, q3, q4⟩ := t; exact DS.weak q3 q4 h2 K W a2 w2 q1 q2
  | _ => exact t
end
end Go.XL
namespace Go.XL
open Go.Proofs
set_option maxRecDepth 100000
set_option maxHeartbeats 8000000
theorem zix (c : Club) (r : Int) : (zcd c r).length ≤ c.members.length := by
  unfold zcd
  split
  · simp
  split
  · simp
  · rw [zca, List.length_map]; exact List.length_filter_le ..
theorem clubAhead_pc (nums : List Int) (rounds : Int) (hr : In64 rounds) : PC Try.prog 10 [ints nums, I rounds] (Bo true) := by
  have hz := clubOf_m (newX nums)
  refine DC.of_run Try.func10 rfl Try.ntmps10 Try.results10 (by simp) (fun _ => ?_); simp only [zap, zar, go_sem, Nat.zero_add, Nat.reduceAdd]
  repeat' (first | (with_reducible first | refine DS.fltS yU yU yE ?_ | refine DS.opsNil ?_ | refine DS.seq ?_ | refine DS.regionL ?_) | fail)
  refine DS.call (dst := some 25) [] [] inferInstance (made_dc nums) yR yH (fun _ _ e => by cases e) (fun _ _ e => by cases e) ?_
  rintro v S0 ⟨bs, rfl, rfl⟩ -
  refine DS.reS (S' := []) (fun _ _ e => by cases e) ?_
  generalize (zep (newX nums) 3).1 = c at hz ⊢
  have hsm := hz.small
  have htb := hz.tab
  have hid := hz.in64
  have hsz := hz.size
  have hmem := hz.mem
  clear hz
  simp only [zcq]
  repeat' (first | with_reducible refine DS.fltS yU yU yE ?_ | fail)
  refine DS.allocS yR yU yU (fun b6 h6 => ?_)
  have e0 : (Value.agg #[.int .i64 0, .int .i64 0, .int .i64 0, .int .i64 0, .slice none 0 0, .bool false, .slice none 0 0, .slice none 0 0]).cells.toList.map V.v = zcu := rfl
  rw [e0]
  clear e0 h6
  have n1 := Int.emod_nonneg rounds (show (3 : Int) ≠ 0 by omega)
  have n2 := Int.emod_lt_of_pos rounds (show (0 : Int) < 3 by omega)
  have i1 := into_pc rounds 3 hr (by omega)
  generalize rounds % 3 = q at *
  obtain ⟨n, hn⟩ : ∃ n : Nat, (n : Int) = 1 + q := ⟨(1 + q).toNat, by omega⟩
  have p1 := zug c hsm htb hid (1 + q) 300 ⟨by unfold In64; omega, by unfold In64; omega⟩
  have p2 := zug c hsm htb hid 1 300 ⟨by unfold In64; omega, by unfold In64; omega⟩
  have pl := znk c hsm c.rounds.length
  have hnx := zuj c hsm htb hid (zcd c c.rounds.length) (Nat.le_trans (zix c _) (by omega))
  have PN := plan_next (c := c) (by omega) (b := 300) (by omega)
  have AF := ahead_first (c := c) (n := n) hsz hsm htb hid (by omega) (b := 300)
  have AN := planS_none (c := c) (n := 1 + q) (b := 300)
  rw [hn] at AF
  repeat' (first | (with_reducible first | refine DS.fltS yU yU yE ?_ | refine DS.opsNil ?_ | refine DS.seq ?_ | refine DS.regionL ?_) | refine DS.pcS inferInstance (i1) yR yF ?_ | refine DS.pcS inferInstance (p1) yR yF ?_ | refine DS.pcS inferInstance (p2) yR yF ?_ | (refine DS.store yR yE yE yE yE yU (by exact ⟨by with_unfolding_all rfl, by (try simp only [List.length_map, List.length_append, List.length_set, List.length_replicate, List.length_cons, List.length_nil]); omega⟩) ?_; simp only [zbn, zas, zaw, zbz, zbm, zbi, zbj]; try simp only [zal, zac, zad, Nat.reduceEqDiff, ↓reduceIte, zah, zai, zan, zag, zaf, zam, zaj]) | fail)
  refine DS.pcS inferInstance pl yR yH ?_
  refine DS.fltS yU yU yG ?_
  refine DS.opsNil ?_
  clear i1 p1 p2 pl hr
  generalize zgx c (1 + q) 300 = A at *
  generalize zgx c 1 300 = A1 at *
  have hidl := zix c c.rounds.length
  generalize zcd c c.rounds.length = ids at *
  generalize zhf c ids = N at *
  simp only [setS, ↓reduceIte, zcc, zbu, zas, zaw, zcu]
  refine DS.seq ?_
  refine DS.join [(1, I (1 + q)), (6, .v (.pointer (some ⟨b6, 0, none⟩))), (7, plans A.1), (8, I A.2.1), (10, I A.2.2.2)] [(b6, .cells (mC c) 26)] ?_ ?_
  · clear AF AN
    by_cases a1 : A1.2.2.2 = 0
    · by_cases a2 : A1.2.1 = 3
      · repeat' (first | (with_reducible first | refine DS.fltS yU yU yE ?_ | refine DS.opsNil ?_ | refine DS.seq ?_ | refine DS.regionL ?_ | (refine DS.cE yE ?_; refine CG.no ?_) | (refine DS.gE yU yE ?_; first | refine GG.run ?_ | refine GG.sF ?_) | refine DS.skip ?_) | fail)
        refine DS.back ⟨yS, yS⟩
      · by_cases a3 : (ids.length : Int) ≤ 12
        · obtain ⟨o1, o2⟩ := PN a1 a2 (by omega)
          by_cases a4 : A1.2.1 = 1
          · have a5 := o1.1 a4
            have a6 := o2 a4
            clear o1 o2 PN
            have s1 := zlq N.1 N.1
            rw [decide_eq_true rfl] at s1
            repeat' (first | (with_reducible first | refine DS.fltS yU yU (by (simp (disch := omega) only [go_sem, dopV, Option.map_some, Option.map_none, Option.bind_some, Option.bind_none, ↓reduceIte, Nat.reduceEqDiff, Nat.reduceLT, Nat.reduceLeDiff, Nat.reduceAdd, Nat.reduceMul, Nat.reduceSub, Nat.zero_add, Nat.add_zero, Nat.zero_le, Nat.zero_mul, Nat.mul_one, Nat.one_mul, Int.natCast_zero, Int.toNat_zero, Int.reduceToNat, Int.reduceLT, Int.reduceLE, Int.reduceEq, decide_true, decide_false, true_and, and_true, Bool.and_self, Bool.and_true, Bool.true_and, Bool.not_true, Bool.not_false, IntWalk.toNatUp, IntWalk.iteOmega, IntWalk.i64_in, Option.isSome_some, not_true_eq_false, not_false_eq_true, Option.getD_some, Option.getD_none, Int.toNat_natCast, List.length_map, List.getElem?_map, List.getElem?_eq_getElem, V.flat, V.one, List.all_cons, List.all_nil, *, bne_self_eq_false]; exact rfl)) ?_ | refine DS.opsNil ?_ | refine DS.seq ?_ | refine DS.regionL ?_) | (with_reducible refine DS.cE (by (simp (disch := omega) only [go_sem, dopV, Option.map_some, Option.map_none, Option.bind_some, Option.bind_none, ↓reduceIte, Nat.reduceEqDiff, Nat.reduceLT, Nat.reduceLeDiff, Nat.reduceAdd, Nat.reduceMul, Nat.reduceSub, Nat.zero_add, Nat.add_zero, Nat.zero_le, Nat.zero_mul, Nat.mul_one, Nat.one_mul, Int.natCast_zero, Int.toNat_zero, Int.reduceToNat, Int.reduceLT, Int.reduceLE, Int.reduceEq, decide_true, decide_false, true_and, and_true, Bool.and_self, Bool.and_true, Bool.true_and, Bool.not_true, Bool.not_false, IntWalk.toNatUp, IntWalk.iteOmega, IntWalk.i64_in, Option.isSome_some, not_true_eq_false, not_false_eq_true, Option.getD_some, Option.getD_none, Int.toNat_natCast, List.length_map, List.getElem?_map, List.getElem?_eq_getElem, V.flat, V.one, List.all_cons, List.all_nil, *, bne_self_eq_false]; exact rfl)) ?_; first | with_reducible refine CG.yes ?_ | with_reducible refine CG.no ?_) | (with_reducible refine DS.gE yU (by (simp (disch := omega) only [go_sem, dopV, Option.map_some, Option.map_none, Option.bind_some, Option.bind_none, ↓reduceIte, Nat.reduceEqDiff, Nat.reduceLT, Nat.reduceLeDiff, Nat.reduceAdd, Nat.reduceMul, Nat.reduceSub, Nat.zero_add, Nat.add_zero, Nat.zero_le, Nat.zero_mul, Nat.mul_one, Nat.one_mul, Int.natCast_zero, Int.toNat_zero, Int.reduceToNat, Int.reduceLT, Int.reduceLE, Int.reduceEq, decide_true, decide_false, true_and, and_true, Bool.and_self, Bool.and_true, Bool.true_and, Bool.not_true, Bool.not_false, IntWalk.toNatUp, IntWalk.iteOmega, IntWalk.i64_in, Option.isSome_some, not_true_eq_false, not_false_eq_true, Option.getD_some, Option.getD_none, Int.toNat_natCast, List.length_map, List.getElem?_map, List.getElem?_eq_getElem, V.flat, V.one, List.all_cons, List.all_nil, *, bne_self_eq_false]; exact rfl)) ?_; first | with_reducible refine GG.npF (fun _ => ?_) (fun _ => ?_) | with_reducible refine GG.run ?_ | with_reducible refine GG.sT ?_) | with_reducible refine DS.skip ?_ | refine DS.pcS inferInstance (hnx) yR (by (simp (disch := omega) only [go_sem, dopV, Option.map_some, Option.map_none, Option.bind_some, Option.bind_none, ↓reduceIte, Nat.reduceEqDiff, Nat.reduceLT, Nat.reduceLeDiff, Nat.reduceAdd, Nat.reduceMul, Nat.reduceSub, Nat.zero_add, Nat.add_zero, Nat.zero_le, Nat.zero_mul, Nat.mul_one, Nat.one_mul, Int.natCast_zero, Int.toNat_zero, Int.reduceToNat, Int.reduceLT, Int.reduceLE, Int.reduceEq, decide_true, decide_false, true_and, and_true, Bool.and_self, Bool.and_true, Bool.true_and, Bool.not_true, Bool.not_false, IntWalk.toNatUp, IntWalk.iteOmega, IntWalk.i64_in, Option.isSome_some, not_true_eq_false, not_false_eq_true, Option.getD_some, Option.getD_none, Int.toNat_natCast, List.length_map, List.getElem?_map, List.getElem?_eq_getElem, V.flat, V.one, List.all_cons, List.all_nil, *, bne_self_eq_false]; try exact rfl)) ?_ | refine DS.pcS inferInstance (s1) yR (by (simp (disch := omega) only [go_sem, dopV, Option.map_some, Option.map_none, Option.bind_some, Option.bind_none, ↓reduceIte, Nat.reduceEqDiff, Nat.reduceLT, Nat.reduceLeDiff, Nat.reduceAdd, Nat.reduceMul, Nat.reduceSub, Nat.zero_add, Nat.add_zero, Nat.zero_le, Nat.zero_mul, Nat.mul_one, Nat.one_mul, Int.natCast_zero, Int.toNat_zero, Int.reduceToNat, Int.reduceLT, Int.reduceLE, Int.reduceEq, decide_true, decide_false, true_and, and_true, Bool.and_self, Bool.and_true, Bool.true_and, Bool.not_true, Bool.not_false, IntWalk.toNatUp, IntWalk.iteOmega, IntWalk.i64_in, Option.isSome_some, not_true_eq_false, not_false_eq_true, Option.getD_some, Option.getD_none, Int.toNat_natCast, List.length_map, List.getElem?_map, List.getElem?_eq_getElem, V.flat, V.one, List.all_cons, List.all_nil, *, bne_self_eq_false]; try exact rfl)) ?_ | fail)
            all_goals first | (exfalso; omega) | refine DS.back ⟨yS, yS⟩
          · have a5 : ¬ N.2 = 0 := fun h => a4 (o1.2 h)
            clear o1 o2 PN
            repeat' (first | (with_reducible first | refine DS.fltS yU yU (by (simp (disch := omega) only [go_sem, dopV, Option.map_some, Option.map_none, Option.bind_some, Option.bind_none, ↓reduceIte, Nat.reduceEqDiff, Nat.reduceLT, Nat.reduceLeDiff, Nat.reduceAdd, Nat.reduceMul, Nat.reduceSub, Nat.zero_add, Nat.add_zero, Nat.zero_le, Nat.zero_mul, Nat.mul_one, Nat.one_mul, Int.natCast_zero, Int.toNat_zero, Int.reduceToNat, Int.reduceLT, Int.reduceLE, Int.reduceEq, decide_true, decide_false, true_and, and_true, Bool.and_self, Bool.and_true, Bool.true_and, Bool.not_true, Bool.not_false, IntWalk.toNatUp, IntWalk.iteOmega, IntWalk.i64_in, Option.isSome_some, not_true_eq_false, not_false_eq_true, Option.getD_some, Option.getD_none, Int.toNat_natCast, List.length_map, List.getElem?_map, List.getElem?_eq_getElem, V.flat, V.one, List.all_cons, List.all_nil, *, bne_self_eq_false]; exact rfl)) ?_ | refine DS.opsNil ?_ | refine DS.seq ?_ | refine DS.regionL ?_) | (with_reducible refine DS.cE (by (simp (disch := omega) only [go_sem, dopV, Option.map_some, Option.map_none, Option.bind_some, Option.bind_none, ↓reduceIte, Nat.reduceEqDiff, Nat.reduceLT, Nat.reduceLeDiff, Nat.reduceAdd, Nat.reduceMul, Nat.reduceSub, Nat.zero_add, Nat.add_zero, Nat.zero_le, Nat.zero_mul, Nat.mul_one, Nat.one_mul, Int.natCast_zero, Int.toNat_zero, Int.reduceToNat, Int.reduceLT, Int.reduceLE, Int.reduceEq, decide_true, decide_false, true_and, and_true, Bool.and_self, Bool.and_true, Bool.true_and, Bool.not_true, Bool.not_false, IntWalk.toNatUp, IntWalk.iteOmega, IntWalk.i64_in, Option.isSome_some, not_true_eq_false, not_false_eq_true, Option.getD_some, Option.getD_none, Int.toNat_natCast, List.length_map, List.getElem?_map, List.getElem?_eq_getElem, V.flat, V.one, List.all_cons, List.all_nil, *, bne_self_eq_false]; exact rfl)) ?_; first | with_reducible refine CG.yes ?_ | with_reducible refine CG.no ?_) | (with_reducible refine DS.gE yU (by (simp (disch := omega) only [go_sem, dopV, Option.map_some, Option.map_none, Option.bind_some, Option.bind_none, ↓reduceIte, Nat.reduceEqDiff, Nat.reduceLT, Nat.reduceLeDiff, Nat.reduceAdd, Nat.reduceMul, Nat.reduceSub, Nat.zero_add, Nat.add_zero, Nat.zero_le, Nat.zero_mul, Nat.mul_one, Nat.one_mul, Int.natCast_zero, Int.toNat_zero, Int.reduceToNat, Int.reduceLT, Int.reduceLE, Int.reduceEq, decide_true, decide_false, true_and, and_true, Bool.and_self, Bool.and_true, Bool.true_and, Bool.not_true, Bool.not_false, IntWalk.toNatUp, IntWalk.iteOmega, IntWalk.i64_in, Option.isSome_some, not_true_eq_false, not_false_eq_true, Option.getD_some, Option.getD_none, Int.toNat_natCast, List.length_map, List.getElem?_map, List.getElem?_eq_getElem, V.flat, V.one, List.all_cons, List.all_nil, *, bne_self_eq_false]; exact rfl)) ?_; first | with_reducible refine GG.sU ?_ | with_reducible refine GG.run ?_ | with_reducible refine GG.sF ?_) | with_reducible refine DS.skip ?_ | refine DS.pcS inferInstance (hnx) yR (by (simp (disch := omega) only [go_sem, dopV, Option.map_some, Option.map_none, Option.bind_some, Option.bind_none, ↓reduceIte, Nat.reduceEqDiff, Nat.reduceLT, Nat.reduceLeDiff, Nat.reduceAdd, Nat.reduceMul, Nat.reduceSub, Nat.zero_add, Nat.add_zero, Nat.zero_le, Nat.zero_mul, Nat.mul_one, Nat.one_mul, Int.natCast_zero, Int.toNat_zero, Int.reduceToNat, Int.reduceLT, Int.reduceLE, Int.reduceEq, decide_true, decide_false, true_and, and_true, Bool.and_self, Bool.and_true, Bool.true_and, Bool.not_true, Bool.not_false, IntWalk.toNatUp, IntWalk.iteOmega, IntWalk.i64_in, Option.isSome_some, not_true_eq_false, not_false_eq_true, Option.getD_some, Option.getD_none, Int.toNat_natCast, List.length_map, List.getElem?_map, List.getElem?_eq_getElem, V.flat, V.one, List.all_cons, List.all_nil, *, bne_self_eq_false]; try exact rfl)) ?_ | fail)
            refine DS.back ⟨yS, yS⟩
        · repeat' (first | (with_reducible first | refine DS.fltS yU yU yE ?_ | refine DS.opsNil ?_ | refine DS.seq ?_ | refine DS.regionL ?_ | (refine DS.cE yE ?_; refine CG.no ?_) | (refine DS.gE yU yE ?_; refine GG.run ?_) | refine DS.skip ?_) | fail)
          refine DS.back ⟨yS, yS⟩
    · repeat' (first | (with_reducible first | refine DS.fltS yU yU yE ?_ | refine DS.opsNil ?_ | refine DS.seq ?_ | refine DS.regionL ?_ | (refine DS.cE yE ?_; refine CG.no ?_) | (refine DS.gE yU yE ?_; refine GG.sF ?_) | refine DS.skip ?_) | fail)
      refine DS.back ⟨yS, yS⟩
  · clear PN hnx
    by_cases a1 : A.2.2.2 = 0
    · by_cases a2 : A.2.1 = 1
      · have AI := AF a1 a2
        have hP := AI.plan
        clear AF AN hsm htb hid hmem
        obtain ⟨P, w1, w2, w3⟩ := A
        dsimp only at a1 a2 AI hP ⊢
        subst a1 a2
        have hPl : (P.length : Int) = 1 + q := by omega
        repeat' (first | (with_reducible first | refine DS.fltS yU yU yE ?_ | refine DS.opsNil ?_ | refine DS.seq ?_ | refine DS.regionL ?_ | (refine DS.cE yE ?_; refine CG.no ?_) | (refine DS.gE yU yE ?_; refine GG.run ?_) | refine DS.block ?_ | refine DS.skip ?_) | fail)
        refine DS.loopS [1, 6, 7] (by (simp only [go_sem, Nat.reduceEqDiff, ↓reduceIte]; exact rfl)) (fun (y : Nat × Club) => [(18, I y.1)]) (fun (y : Nat × Club) => [(b6, .cells (mC y.2) 26)]) (fun (y : Nat × Club) => y.1 ≤ n ∧ AheadI n P y.2 y.1) (fun (y : Nat × Club) => n - y.1) (0, c) yS (fun b o e => by exact e) ⟨Nat.zero_le _, AI⟩ (fun y B hI hB => ?_); try dsimp only at hI hB; simp only [zaq, zat]
        clear AI
        obtain ⟨i, d⟩ := y
        dsimp only at hI hB ⊢
        obtain ⟨g1, g2⟩ := hI
        have hB0 := hB
        clear hB
        by_cases hi : (i : Int) < 1 + q
        · have hi' : i < n := by omega
          have hiP : i < P.length := by omega
          obtain ⟨f1, f2, f3, f4⟩ := ahead_step g2 hi'
          have hg : P.getD i [] = P[i] := by rw [List.getD_eq_getElem?_getD, List.getElem?_eq_getElem hiP]; rfl
          rw [hg] at f1 f3 f4
          have hds := g2.size
          have hcnt := f1.count
          have hdm := g2.mem
          have hdl := g2.len
          have hdr : d.rounds.length < 20 := by omega
          have hpx : zcd d d.rounds.length = zca d d.rounds.length := by rw [zcd, if_neg (by omega), if_neg (by have := g2.chk; omega)]
          have hpl := znk d g2.small d.rounds.length
          have hpn := zix d d.rounds.length
          rw [hpx] at hpl hpn
          have hTl : P[i].length ≤ 1000 := by
            have := Nat.le_mul_of_pos_right P[i].length (show 0 < d.size.toNat by omega)
            omega
          have hlt : ∀ t ∈ P[i], t.length ≤ 1000000 := fun t ht => by have := f1.len t ht; omega
          have hin : ∀ t ∈ P[i], ∀ x ∈ t, In64 x := fun t ht x hx => by
            obtain ⟨m, hm1, rfl⟩ := List.mem_map.1 (f1.perm.mem_iff.1 (List.mem_flatten.2 ⟨t, ht, hx⟩))
            exact g2.ids m (List.mem_filter.1 hm1).1
          have hse := seatP_pc d g2.small P[i] (by omega) hlt
          have hse2 : zql d P[i] = (d.sat P[i], 0) := by rw [zql, if_neg (by have := g2.chk; omega), if_neg (by omega), if_neg (by omega)]
          rw [hse2] at hse
          have hfr := fun t ht => fair_pc d g2.small g2.tab g2.chk t (hin t ht) (hlt t ht)
          have hcz : (P[i].length : Int) * d.size = ((zca d d.rounds.length).length : Int) := by
            rw [← hcnt, Int.natCast_mul]; congr 1; omega
          have HF := Box.mk (And.intro hfr f1.fair)
          have HZ := Box.mk hcz
          have F4 := Box.mk f4
          clear f4
          clear hin hlt hse2 hfr f1 f2 hcz hcnt hpx hg hdr hdl
          generalize zca d d.rounds.length = ids at *
          repeat' (first | (with_reducible first | refine DS.fltS yU yU yE ?_ | refine DS.opsNil ?_ | refine DS.seq ?_ | refine DS.regionL ?_ | (refine DS.cE yE ?_; refine CG.yes ?_) | refine DS.block ?_ | refine DS.skip ?_) | fail)
          refine DS.loopK [1, 6, 7, 18] (by (simp only [go_sem, Nat.reduceEqDiff, ↓reduceIte]; exact rfl)) (fun (k : Nat) => [(19, I k)]) (fun (k : Nat) => k ≤ P[i].length) (fun (k : Nat) => P[i].length - k) 0 yS (Nat.zero_le _) (fun k B hI hB => ?_); try dsimp only at hI hB; simp only [zaq, zat]
          by_cases hk : (k : Int) < (P[i].length : Int)
          · have hk' : k < P[i].length := by omega
            have fp := HF.out.1 _ (List.getElem_mem hk')
            rw [HF.out.2 _ (List.getElem_mem hk')] at fp
            repeat' (first | (with_reducible first | refine DS.fltS yU yU yE ?_ | refine DS.opsNil ?_ | refine DS.seq ?_ | refine DS.regionL ?_ | (refine DS.cE yE ?_; first | refine CG.yes ?_ | refine CG.no ?_) | refine DS.blk ?_ | refine DS.block ?_ | refine DS.skip ?_) | refine DS.pcS inferInstance (fp) yR yT ?_ | refine DS.drawL (id := 20) [0, 1, 2, 3, 4, 5, 6, 7] 8 (by kernel_rfl) zcy (by simp only [zay, zbc, zbd, zbe, zax]; exact rfl) (by simp only [zau, zav, List.drop_nil]; exact rfl) ?_ | (with_reducible first | refine DD.fltS yU yU yU yE ?_ | refine DD.nil0 ?_) | fail)
            refine DS.back (hB (k + 1) _ _ (by omega) (by omega) yS yS (fun q o e => by exact e))
          · clear hB
            repeat' (first | (with_reducible first | refine DS.fltS yU yU yE ?_ | refine DS.opsNil ?_ | refine DS.seq ?_ | refine DS.regionL ?_ | (refine DS.cE yE ?_; refine CG.no ?_) | refine DS.exit yU ?_) | refine DS.pcS inferInstance (hpl) yR yT ?_ | refine DS.drawL (id := 23) [0, 1, 2, 3, 4, 5, 6, 7, 8, 9, 10] 11 (by kernel_rfl) zcy (by simp only [zay, zbc, zbd, zbe, zax]; exact rfl) (by simp only [zau, zav, List.drop_nil]; exact rfl) ?_ | (with_reducible first | refine DD.fltS yU yU yU yE ?_ | refine DD.flt1S yU yU yU yU yE ?_) | refine DD.pcS inferInstance (hse) yU yT ?_; simp only [zbr, zby, Nat.reduceEqDiff, ↓reduceIte] | fail)
            refine DD.alloc yR yU yU (fun u a1 a2 => ?_)
            have m6 : ¬ b6 = u := fun e => by simp only [zab, e, ↓reduceIte] at a2; cases a2
            have m6' : ¬ u = b6 := fun e => m6 e.symm
            clear a1 a2
            have e0 : (Value.agg #[.int .i64 0, .int .i64 0, .int .i64 0, .int .i64 0, .slice none 0 0, .bool false, .slice none 0 0, .slice none 0 0]).cells.toList.map V.v = zcu := rfl
            rw [e0]
            clear e0
            refine DD.store (b := u) (off := 0) (m := 8) (cl := zcu) (T' := 26) yR yH yG yU (by simp only [zab, ↓reduceIte]) yR ⟨by rfl, by decide⟩ (fun _ => MpOk.nil) ?_
            simp only [zal, zad, Nat.reduceEqDiff, ↓reduceIte, zaf, zbn, setS, zas, zaw, zbu, zcc, zcu, zbj, List.map_cons, List.map_nil, zci, zbg, Nat.reduceAdd, Nat.zero_add]
            have hcz := HZ.out
            refine DD.nil ?_
            simp only [zaq, zat]
            repeat' (first | (with_reducible first | refine DS.fltS yU yU yE ?_ | refine DS.opsNil ?_ | refine DS.seq ?_ | refine DS.regionL ?_ | (refine DS.cE yE ?_; refine CG.no ?_) | (refine DS.gE yU yE ?_; refine GG.run ?_) | refine DS.blk ?_ | refine DS.skip ?_) | (refine DS.store yR yE yE yE yE yU (by exact ⟨by with_unfolding_all rfl, by (try simp only [List.length_map, List.length_append, List.length_set, List.length_replicate, List.length_cons, List.length_nil]); omega⟩) ?_; simp only [zbn, zas, zaw, zbz, zbm, zbi, zbj]; try simp only [zal, zac, zad, Nat.reduceEqDiff, ↓reduceIte, zah, zai, zan, zag, zaf, zam, zaj]) | refine DS.drawL (id := 24) [0, 1, 2, 3, 4, 5, 6, 7, 8, 9, 10, 11, 12] 13 (by kernel_rfl) zcy (by simp only [zay, zbc, zbd, zbe, zax]; exact rfl) (by simp only [zau, zav, List.drop_nil]; exact rfl) ?_ | (with_reducible first | refine DD.fltS yU yU yU yE ?_ | (refine DD.gE yU yE ?_; refine DGG.run ?_) | refine DD.nil0 ?_) | fail)
            refine DS.back (hB0 (i + 1, d.sat P[i]) _ _ (by dsimp only; omega) ⟨by dsimp only; omega, F4.out⟩ yS yS (fun p o e => ?_))
            rw [zab] at e
            by_cases hp : b6 = p
            · subst hp
              rw [if_pos rfl] at e
              simp only [setS, m6', zab, ↓reduceIte]
              exact e
            · rw [if_neg hp] at e; cases e
        · repeat' (first | (with_reducible first | refine DS.fltS yU yU yE ?_ | refine DS.opsNil ?_ | refine DS.seq ?_ | refine DS.regionL ?_ | (refine DS.cE yE ?_; refine CG.no ?_) | refine DS.exit yU ?_) | refine DS.pcS inferInstance (zqz) yR yT ?_ | refine DS.retT [] yE trivial ?_ | fail)
          rfl
      · have h0 := AN (fun h => a2 h.2)
        clear AF AN
        obtain ⟨P, w1, w2, w3⟩ := A
        dsimp only at a1 a2 h0 ⊢
        subst h0 a1
        repeat' (first | (with_reducible first | refine DS.fltS yU yU yE ?_ | refine DS.opsNil ?_ | refine DS.seq ?_ | refine DS.regionL ?_ | (refine DS.cE yE ?_; refine CG.yes ?_) | (refine DS.gE yU yE ?_; refine GG.run ?_)) | refine DS.pcS inferInstance (zqz) yR yT ?_ | refine DS.retT [] yE trivial ?_ | fail)
        rfl
    · have h0 := AN (fun h => a1 h.1)
      clear AF AN
      obtain ⟨P, w1, w2, w3⟩ := A
      dsimp only at a1 h0 ⊢
      subst h0
      repeat' (first | (with_reducible first | refine DS.fltS yU yU yE ?_ | refine DS.opsNil ?_ | refine DS.seq ?_ | refine DS.regionL ?_ | (refine DS.cE yE ?_; refine CG.yes ?_) | (refine DS.gE yU yE ?_; first | refine GG.run ?_ | refine GG.sT ?_)) | refine DS.pcS inferInstance (zqz) yR yT ?_ | refine DS.retT [] yE trivial ?_ | fail)
      rfl
end Go.XL
namespace Go.XL
open Go.Proofs Go.ChangeShapes Go.WideShapes Go.ChangeAt Go.RowKit
def hvW (W : World) : VH := fun b => W.heap[b]?
def baseW (W : World) : Bs := ⟨fun b => b < W.heap.size, W.heap, hvW W⟩
theorem stW (W : World) : St (baseW W) (hvW W) (fun _ => none) [] [] [] W.heap where
  pre := fun b o e => ⟨o, e, leO.refl o⟩
  slot := fun t v e => by cases e
  obj := fun b o e => by cases e
  held := fun g x e => by cases e
  base := ⟨fun b h => h, Nat.le_refl _, fun b _ => rfl⟩
  vbase := ⟨PreV.refl _, fun _ _ => rfl⟩
structure KeptW (W W' : World) : Prop where
  os : W'.os = W.os
  output : W'.output = W.output
  size : W.heap.size ≤ W'.heap.size
  old : ∀ b, b < W.heap.size → W'.heap[b]? = W.heap[b]?
theorem PC.door {P : Program} {f : FuncId} {vs : List V} {xs : List Value} (h : PC P f vs (.v (.bool true))) (W : World) (hx : RlL (hvW W) vs xs) :
    Calls P f xs.toArray W fun e w' => e = .returned (.bool true) ∧ KeptW W w' := by
  refine (h (hvW W) (baseW W) (hvW W) (fun _ => none) W.heap xs (PreV.refl _) hx (stW W) W rfl).mono fun e w' => ?_
  rintro ⟨y, rfl, ⟨s1, s2, s3⟩, v, S', hv', hold', -, st, rfl⟩
  obtain ⟨z, h1, h2, -⟩ := st.slot 0 (.v (.bool true)) rfl
  simp only [V.Rl] at h2
  subst h2
  have h3 : look [(0, y)] 0 = some y := by simp [look]
  rw [h3] at h1
  cases h1
  exact ⟨rfl, s1, s3, st.base.2.1, st.base.2.2⟩
theorem KeptW.keptBut {W W' : World} (k : KeptW W W') (may : MemPlace → Prop) : W.keptBut W' may := by
  refine ⟨k.os, k.output, fun i hi => ?_⟩
  rw [k.old i hi]
  generalize W.heap[i]? = o
  cases o with
  | none => trivial
  | some o => cases o <;> simp
theorem KeptW.cell {W W' : World} (k : KeptW W W') {a : Addr} (h : a.block < W.heap.size) : W'.cell? a = W.cell? a := by
  unfold World.cell?
  rw [k.old _ h]
theorem KeptW.sameAt {W W' : World} (k : KeptW W W') {p : MemPlace} (h : p.block < W.heap.size) : W.sameAt W' p := by
  cases p with
  | cell b off => exact k.cell h
  | map b => exact k.old _ h
section
variable {H : Type} {enc : TypeId × Value → H} {P : Program}
theorem zko (hl : laidOutB P = true) {W W' : World} {sp : Nat → Bool} : ∀ {ts : List TypeId} {vs : List Value} {ds : List (DataW H)} {ps : List MemPlace}, (∀ t ∈ ts, P.readableRec t = true ∧ t < P.types.size) →
    DataW.TrodAll enc P W 0 (fun _ => true) true ts vs ds ps → (∀ p ∈ ps, W.sameAt W' p) → (∀ p ∈ ps, sp p.block = true) → DataW.TrodAll enc P W' 0 sp true ts vs ds ps
  | [], vs, ds, ps, _, h, _, _ => by
    obtain ⟨rfl, rfl, rfl⟩ := trodAll_nil h
    rfl
  | t :: ts, vs, ds, ps, ht, h, h1, h2 => by
    obtain ⟨v, vs', d, ds', p, q, rfl, rfl, rfl, h3, h4⟩ := trodAll_cons h
    obtain ⟨r1, r2⟩ := ht t (List.mem_cons_self ..)
    exact ⟨p, q, WideElems.Trod_stays hl r1 r2 h3 (fun x hx => h1 x (List.mem_append_left _ hx)) (fun x hx => h2 x (List.mem_append_left _ hx)),
      zko hl (fun t h => ht t (List.mem_cons_of_mem _ h)) h4 (fun x hx => h1 x (List.mem_append_right _ hx)) (fun x hx => h2 x (List.mem_append_right _ hx)), rfl⟩
theorem post_law {f : Func} {s : ChangeSpec} {apart fresh handsOn : Bool} {W W' : World} {args : Array Value} {ds gs : List (DataW H)} {before : List MemPlace} {tb : TypeId}
    (hW : DataW.Whole enc P f.params.toList s.vars apart W args.toList ds gs before) (hv : s.vars = []) (hs : s.fn H ds = { results := [.lit (.bool true)], args := ds })
    (hrt : f.resultTypes = #[tb]) (hb : P.underlying tb = some .bool) (hl : laidOutB P = true) (hr : ∀ t ∈ f.params.toList, P.readableRec t = true ∧ t < P.types.size) (k : KeptW W W') :
    s.post enc P f apart fresh handsOn false W args (.bool true) W' := by
  have hlt := fun p hp => hW.lt (p := p) hp
  have hW' := hW
  obtain ⟨p, q, hA, hV, rfl, -, -⟩ := hW
  rw [hv] at hV
  obtain ⟨rfl, rfl⟩ := trodVars_none hV
  refine ⟨ds, [], p ++ [], [], p, [], hW', ?_, ?_, ?_, k.keptBut _, fun h => by cases h⟩
  · rw [List.append_nil, hs, hrt]
    exact trodAll_mk1 (shut_bool hb _)
  · rw [List.append_nil, hs]
    exact zko hl hr hA (fun x hx => k.sameAt (hlt x (by simpa using hx))) (fun x hx => by simpa using hlt x (by simpa using hx))
  · rw [List.append_nil, hs, hv]
    rfl
def Opens (P : Program) (W : World) (H : Type) (enc : TypeId × Value → H) (t : TypeId) {α : Type} (f : α → List V) (G : α → Prop) : Prop :=
  ∀ fuel cs x, DataW.trod enc P W 0 (fun _ => true) true fuel t cs = some x → ∃ a, RlL (hvW W) (f a) cs ∧ (∀ u ∈ cs, u.oneCell' = true) ∧ G a
variable {W : World} {t e : TypeId}
theorem opens_int {k : IntKind} (ht : P.underlying t = some (.int k)) : Opens P W H enc t (fun n : Int => [.v (.int k n)]) (fun n => (Lit.int k n).wf = true) := by
  intro fuel cs x h
  obtain ⟨n, rfl, -, hw⟩ := DataW.trod_int ht h
  exact ⟨n, by simp [RlL, V.Rl], by simp [Value.oneCell'], hw⟩
theorem RlL.len {hv : VH} : ∀ {vs : List V} {cs : List Value}, RlL hv vs cs → vs.length = cs.length
  | [], _, h => by simp only [RlL] at h; subst h; rfl
  | v :: vs, cs, h => by
    simp only [RlL] at h
    obtain ⟨z, zs, rfl, -, h⟩ := h
    simp [RlL.len h]
theorem in64_wf {n : Int} (h : (Lit.int .i64 n).wf = true) : -9223372036854775808 ≤ n ∧ n ≤ 9223372036854775807 := by
  have h1 : IntKind.min .i64 = -9223372036854775808 := by decide
  have h2 : IntKind.max .i64 = 9223372036854775807 := by decide
  simp only [Lit.wf, h1, h2, Bool.and_eq_true, decide_eq_true_eq] at h
  exact h
theorem RlL.one {hv : VH} {v : V} {y : Value} (h : v.Rl hv y) : RlL hv [v] [y] := by
  simp only [RlL]; exact ⟨y, [], rfl, h, rfl⟩
theorem RlL.cons_one {hv : VH} {v : V} {y : Value} {vs : List V} {ys : List Value} (h : RlL hv [v] [y]) (k : RlL hv vs ys) : RlL hv (v :: vs) (y :: ys) := by
  simp only [RlL] at h ⊢
  obtain ⟨z, zs, e, h1, h2⟩ := h
  cases e
  exact ⟨_, _, rfl, h1, k⟩
theorem rlC_of {a : Addr} {m : Nat} : ∀ {vs : List V} {cs : List Value} {i : Nat}, RlL (hvW W) vs cs → (∀ u ∈ cs, u.oneCell' = true) → (∀ j, j < cs.length → W.cell? (a.add (i + j)) = cs[j]?) → RlC (hvW W) (some a) i vs
  | [], _, _, _, _, _ => by simp only [RlC]
  | v :: vs, cs, i, h, h1, h2 => by
    simp only [RlL] at h
    obtain ⟨z, zs, rfl, h3, h4⟩ := h
    simp only [RlC]
    refine ⟨⟨z, ?_, h3, h1 z (List.mem_cons_self ..)⟩, rlC_of (m := m) h4 (fun u hu => h1 u (List.mem_cons_of_mem _ hu)) fun j hj => ?_⟩
    · have := h2 0 (by simp)
      rw [Nat.add_zero] at this
      exact this
    · have := h2 (j + 1) (by simpa using hj)
      rw [show i + 1 + j = i + (j + 1) by omega, this]
      rfl
theorem rlE_of {a : Addr} {sz : Nat} : ∀ {l : List (List V)} {i : Nat}, (∀ (j : Nat) (h : j < l.length), l[j].length = sz ∧ RlC (hvW W) (some a) (i + j * sz) l[j]) → RlE (hvW W) (some a) i l
  | [], _, _ => by simp only [RlE]
  | c :: l, i, h => by
    simp only [RlE]
    have h0 := h 0 (by simp)
    simp only [Nat.zero_mul, Nat.add_zero, List.getElem_cons_zero] at h0
    refine ⟨h0.2, rlE_of (sz := sz) fun j hj => ?_⟩
    have h1 := h (j + 1) (by simpa using hj)
    simp only [List.getElem_cons_succ] at h1
    refine ⟨h1.1, ?_⟩
    have e : i + c.length + j * sz = i + (j + 1) * sz := by rw [h0.1, Nat.add_mul, Nat.one_mul]; omega
    rw [e]
    exact h1.2
theorem zoj {α β : Type} {R : Nat → α → Prop} : ∀ (n : Nat), (∀ i, i < n → ∃ a, R i a) → ∃ l : List α, l.length = n ∧ ∀ (i : Nat) (h : i < l.length), R i l[i]
  | 0, _ => ⟨[], rfl, fun i h => by cases h⟩
  | n + 1, h => by
    obtain ⟨l, h1, h2⟩ := zoj (β := β) n fun i hi => h i (by omega)
    obtain ⟨a, ha⟩ := h n (by omega)
    refine ⟨l ++ [a], by simp [h1], fun i hi => ?_⟩
    rw [List.length_append, List.length_singleton] at hi
    by_cases h3 : i < l.length
    · rw [List.getElem_append_left h3]; exact h2 i h3
    · obtain rfl : i = l.length := by omega
      simp only [List.getElem_concat_length]
      rw [h1]; exact ha
theorem opens_slice {α : Type} {f : α → List V} {G : α → Prop} {sz : Nat} (ht : P.underlying t = some (.slice e)) (hc : P.cellsOf e = sz) (h : Opens P W H enc e f G) :
    Opens P W H enc t (fun l : List α => [.lst (l.map f)]) (fun l => ∀ a ∈ l, G a) := by
  intro fuel cs x hx
  rcases DataW.trod_slice ht hx with ⟨rfl, -⟩ | ⟨a, len, cap, elems, rest, n, rfl, rfl, -, -, h1, h2, h3, h4, -, -⟩
  · refine ⟨[], ?_, by simp [Value.oneCell'], fun a h => by cases h⟩
    simp only [RlL, V.Rl, List.map_nil]
    exact ⟨_, [], rfl, ⟨none, 0, 0, rfl, Nat.le_refl _, Nat.zero_le _, (fun c h => by cases h), by simp only [RlE]⟩, rfl⟩
  · obtain ⟨l, hl, hk⟩ := zoj (β := Unit) (R := fun i y => ∃ cs, W.cells? 0 (a.add (i * sz)) sz = some cs ∧ RlL (hvW W) (f y) cs ∧ (∀ u ∈ cs, u.oneCell' = true) ∧ G y) len (fun i hi => by
      have h5 := h4 i hi
      rw [List.getElem?_eq_getElem (by omega), Option.bind_eq_some_iff, hc] at h5
      obtain ⟨cs, h6, h7⟩ := h5
      obtain ⟨y, h8, h9, h10⟩ := h _ _ _ h7
      exact ⟨y, cs, h6, h8, h9, h10⟩)
    have hlen : ∀ y ∈ l, (f y).length = sz := fun y hy => by
      obtain ⟨i, hi, rfl⟩ := List.mem_iff_getElem.1 hy
      obtain ⟨cs, k1, k2, -, -⟩ := hk i hi
      rw [k2.len, (World.cells?_some k1).2.1]
    refine ⟨l, ?_, by simp [Value.oneCell'], fun y hy => ?_⟩
    · simp only [RlL, V.Rl]
      refine ⟨_, [], rfl, ⟨some a, cap, sz, by rw [List.length_map, hl], by rw [List.length_map, hl]; exact h1, h2, fun c hc => ?_, rlE_of (sz := sz) fun j hj => ?_⟩, rfl⟩
      · obtain ⟨y, hy, rfl⟩ := List.mem_map.1 hc
        exact hlen y hy
      · rw [List.length_map] at hj
        rw [List.getElem_map]
        obtain ⟨cs, k1, k2, k3, k4⟩ := hk j hj
        obtain ⟨-, k5, k6⟩ := World.cells?_some k1
        refine ⟨hlen _ (List.getElem_mem hj), rlC_of (m := sz) k2 k3 fun i hi => ?_⟩
        rw [Nat.zero_add, ← zws]
        exact k6 i (by omega)
    · obtain ⟨i, hi, rfl⟩ := List.mem_iff_getElem.1 hy
      obtain ⟨cs, -, -, -, k4⟩ := hk i hi
      exact k4
end
end Go.XL
namespace Go.Proofs.Ytdkmlmmelehcbaa
open Go.XL Go.ChangeShapes Go.WideShapes Go.ChangeAt Go.RowKit
theorem own : ownKnob Try.prog.godebug = none := by kernel_rfl
theorem laid : laidOutB Try.prog = true := by kernel_rfl
set_option maxRecDepth 100000 in
theorem clubAhead_lifted (os : Os) (started : os.Started) (H : Type) (enc : TypeId × Value → H) :
    ReturnsInHanded {} Try.checked os 10 .any (Rows.clubAheadSpec.pre6 enc Try.prog Try.f10 Rows.clubAheadRow.domain false) (Rows.clubAheadSpec.post enc Try.prog Try.f10 false true false false) := by
  refine returnsInHanded_of_change (C := Try.checked) own started (by kernel_rfl) Try.func10
    (ChangeSpec.witness6 (enc := enc) (C := Try.checked) false ⟨#[], #[.slice none 0 0, .int .i64 0], []⟩ 8 (by kernel_rfl) (by kernel_rfl) (by kernel_rfl) (by kernel_rfl)) ?_
  intro W base args ds gs before hval0 hW hcnd _
  have hW' := hW
  obtain ⟨p, q, hA, -, -, -, -⟩ := hW'
  have hval : ∀ (j : Nat) t v, Try.f10.params[j]? = some t → args[j]? = some v → Value.okWide Try.prog W .any base t v := hval0
  have hA1 : DataW.TrodAll enc Try.prog W 0 (fun _ => true) true Try.f10.params.toList args.toList ds p := hA
  rw [Try.params10] at hA1 hval
  obtain ⟨v0, vs0, d0, ds0, p0, q0, hargs, rfl, -, h0, r0⟩ := trodAll_cons hA1
  obtain ⟨v1, vs1, d1, ds1, p1, q1, rfl, rfl, -, h1, r1⟩ := trodAll_cons r0
  obtain ⟨rfl, rfl, -⟩ := trodAll_nil r1
  obtain rfl : args = #[v0, v1] := by cases args; simp_all
  obtain ⟨a0, len0, cap0, rfl⟩ := okWide_slice Try.underlying22 (hval 0 22 v0 rfl rfl)
  obtain ⟨fuel0, hf0⟩ := h0
  obtain ⟨x0, e0, -, w0⟩ := opens_slice (sz := 1) Try.underlying22 (by kernel_rfl) (opens_int Try.underlying3) _ _ _ hf0
  obtain ⟨x1, rfl, -, -, w1⟩ := open_int Try.underlying3 (hval 1 3 v1 rfl rfl) h1
  refine (PC.door (clubAhead_pc x0 x1 (in64_wf w1)) W (xs := [.slice a0 len0 cap0, .int .i64 x1]) (RlL.cons_one e0 (RlL.one V.Rl_v))).mono fun e W' ⟨he, k⟩ => ⟨_, he, ?_⟩
  exact post_law hW rfl rfl rfl Try.underlying4 laid (by rw [show Try.f10.params = _ from Try.params10]; intro t ht; simp only [List.mem_cons, List.not_mem_nil, or_false] at ht; rcases ht with rfl | rfl <;> exact ⟨by kernel_rfl, of_decide_eq_true (by kernel_rfl)⟩) k
theorem clubAhead_holds : Rows.ClubAheadSaid :=
  OpenClaim.holds_of_wide 10 Try.f10 rfl rfl rfl rfl rfl rfl rfl ⟨rfl, rfl, rfl, rfl, rfl⟩ rfl rfl rfl rfl rfl (by kernel_rfl) Try.func10 (by kernel_rfl)
    (of_decide_eq_true (by kernel_rfl)) (by unfold Func.isWrapper; first | (rw [if_pos (by decide +kernel)]; kernel_rfl) | (rw [if_neg (by decide +kernel)]; exact ⟨rfl, rfl⟩))
    (fun os started H enc _ => clubAhead_lifted os started H enc)
end Go.Proofs.Ytdkmlmmelehcbaa
