/- A part of a program logic over the kit's walk rules, and contracts of functions in it. Conditions: as each theorem says. -/
import Derived.Test.YtdkmlmmelehcbaaP7
import Derived.Laws.StructEq
import Derived.Test.YtdkmlmmelehcbaaRows
import Derived.WideKeyArgs
import Derived.OpenShut
import Derived.WalkKit
import Derived.ProofKit
set_option linter.all false
namespace Go.XL
section
variable {P : Program} {ops : Array Oper} {Rd : Heap → Prop} {W : World}
def zob (ops : Array Oper) (pre ord : List Nat) (m : Nat) : Bool :=
  decide (m ≤ ops.size ∧ ord.length + pre.length ≤ m) && zvg ops (zcj ops.toList []) pre ord && ord.all (fun i => decide (i < m) && !pre.contains i) && (List.range m).all (fun i => ord.contains i || pre.contains i) && pre.all (fun i => decide (i < m)) &&
    ((List.range ops.size).all fun i => decide (i < m) || (match ops[i]? with
      | some oi => zor (zcj ops.toList []) i oi && (zem oi).all (fun j => decide (j < i)) && (List.range i).all fun j => pre.contains j || ((zcj ops.toList []).getD i []).contains j
      | none => false)) &&
    pre.all fun p => match ops[p]? with
      | some o => zor (zcj ops.toList []) p o && (zem o).isEmpty && (List.range ops.size).all fun j => match ops[j]? with
          | some oj => decide (j = p) || (zem oj).contains p || (zku oj && o.apart ops oj)
          | none => false
      | none => false
structure OkFactsP (ops : Array Oper) (pre ord : List Nat) (m : Nat) : Prop where
  size : m ≤ ops.size
  len : ord.length + pre.length ≤ m
  mem : ∀ i, i ∈ ord ↔ i < m ∧ i ∉ pre
  prelt : ∀ p ∈ pre, p < m
  all : ∀ i oi, ops[i]? = some oi → zku oi = true ∧
      (∀ j ∈ (zcj ops.toList []).getD i [], j ∈ zem oi ∨ ∃ m ∈ zem oi, j ∈ (zcj ops.toList []).getD m [])
  ord : ∀ A i B oi, ord = A ++ i :: B → ops[i]? = some oi → (∀ j ∈ zem oi, j ∈ pre ++ A) ∧ i ∉ A ∧
      ∀ j ∈ A, ∀ oj, ops[j]? = some oj → j ∈ (zcj ops.toList []).getD i [] ∨ (oj.apart ops oi = true ∧ (zdg oj = false ∨ zdg oi = false ∨ zfp oi.op = true))
  later : ∀ i oi, ops[i]? = some oi → m ≤ i → ∀ j ∈ zem oi, j < i
  tail : ∀ i, i < ops.size → m ≤ i → ∀ j, j < i → j ∉ pre → j ∈ (zcj ops.toList []).getD i []
  pre0 : ∀ p ∈ pre, ∃ o, ops[p]? = some o ∧ zem o = [] ∧ ∀ j oj, ops[j]? = some oj → j ≠ p → p ∈ zem oj ∨ o.apart ops oj = true
theorem okFactsP {pre ord : List Nat} {m : Nat} (hok : zob ops pre ord m = true) : OkFactsP ops pre ord m := by
  unfold zob at hok
  simp only [Bool.and_eq_true, decide_eq_true_eq] at hok
  obtain ⟨⟨⟨⟨⟨⟨hm, ho⟩, ha⟩, hb⟩, hpl⟩, ht⟩, hp0⟩ := hok
  have hpl' : ∀ p ∈ pre, p < m := fun p hp => by simpa using List.all_eq_true.1 hpl p hp
  have hmem : ∀ i, i ∈ ord ↔ i < m ∧ i ∉ pre := fun i => ⟨fun h => by simpa using List.all_eq_true.1 ha i h, fun h => by
    have h1 := List.all_eq_true.1 hb i (List.mem_range.2 h.1)
    simp only [Bool.or_eq_true, List.contains_iff_mem] at h1
    rcases h1 with h1 | h1
    · exact h1
    · exact (h.2 h1).elim⟩
  rw [List.all_eq_true] at ht hp0
  have hl : ∀ i oi, ops[i]? = some oi → m ≤ i → zor (zcj ops.toList []) i oi = true ∧ (∀ j ∈ zem oi, j < i) ∧ ∀ j, j < i → j ∉ pre → j ∈ (zcj ops.toList []).getD i [] := fun i oi hoi hi => by
    have := ht i (List.mem_range.2 (Array.getElem?_eq_some_iff.1 hoi).1)
    simp only [hoi, Bool.or_eq_true, decide_eq_true_eq, Bool.and_eq_true, List.all_eq_true, List.contains_iff_mem, List.mem_range] at this
    rcases this with h | h
    · omega
    · exact ⟨h.1.1, h.1.2, fun j hj hjp => (h.2 j hj).resolve_left hjp⟩
  have hp : ∀ p ∈ pre, ∃ o, ops[p]? = some o ∧ zor (zcj ops.toList []) p o = true ∧ zem o = [] ∧ ∀ j oj, ops[j]? = some oj → j ≠ p → p ∈ zem oj ∨ o.apart ops oj = true := fun p hp => by
    have h1 := hp0 p hp
    split at h1
    · rename_i o ho
      simp only [Bool.and_eq_true, List.isEmpty_iff, List.all_eq_true] at h1
      refine ⟨o, ho, h1.1.1, h1.1.2, fun j oj hoj hj => ?_⟩
      have h2 := h1.2 j (List.mem_range.2 (Array.getElem?_eq_some_iff.1 hoj).1)
      rw [hoj] at h2
      simp only [Bool.or_eq_true, decide_eq_true_eq, List.contains_iff_mem, Bool.and_eq_true] at h2
      rcases h2 with (h2 | h2) | h2
      · exact (hj h2).elim
      · exact .inl h2
      · exact .inr h2.2
    · cases h1
  refine ⟨hm.1, hm.2, hmem, hpl', fun i oi hoi => ?_, fun A i B oi e hoi => ?_, fun i oi hoi hi => (hl i oi hoi hi).2.1, fun i hi hmi => (hl i _ (Array.getElem?_eq_getElem hi) hmi).2.2, fun p h => let ⟨o, a, _, b⟩ := hp p h; ⟨o, a, b⟩⟩
  · rcases Nat.lt_or_ge i m with h | h
    · by_cases hip : i ∈ pre
      · obtain ⟨o, h1, h2, -⟩ := hp i hip
        rw [hoi] at h1; cases h1
        exact zhg h2
      · obtain ⟨A, B, e⟩ := List.append_of_mem ((hmem i).2 ⟨h, hip⟩)
        obtain ⟨oi', h1, h2, _⟩ := zhf ho A i B e
        rw [hoi] at h1; cases h1
        exact zhg h2
    · exact zhg (hl i oi hoi h).1
  · obtain ⟨oi', h1, _, h3, h4, h5⟩ := zhf ho A i B e
    rw [hoi] at h1; cases h1
    refine ⟨h3, fun h => h4 (List.mem_append_right _ h), fun j hj oj hoj => ?_⟩
    have := h5 j (List.mem_append_right _ hj) oj hoj
    simp only [ztt, Bool.or_eq_true, Bool.and_eq_true, List.contains_iff_mem, Bool.not_eq_eq_eq_not, Bool.not_true] at this
    rcases this with q | ⟨q1, (q2 | q2) | q2⟩
    · exact .inl q
    · exact .inr ⟨q1, .inl q2⟩
    · exact .inr ⟨q1, .inr (.inl q2)⟩
    · exact .inr ⟨q1, .inr (.inr q2)⟩
theorem rem_setP {pre ord : List Nat} {m : Nat} (ok : OkFactsP ops pre ord m) {listed : Array Bool} {i : Nat} {R1 R2 : List Nat} (hi : i < listed.size) {o : Oper} (ho : ops[i]? = some o) (h : rem ord listed = R1 ++ i :: R2) : rem ord (listed.setIfInBounds i true) = R1 ++ R2 := by
  obtain ⟨A, B, e, h1, h2⟩ := zhe h
  have hA : i ∉ A := (ok.ord A i B o e ho).2.1
  have hB : i ∉ B := fun hb => by
    obtain ⟨B1, B2, rfl⟩ := List.append_of_mem hb
    exact (ok.ord (A ++ i :: B1) i B2 o (by simp [e]) ho).2.1 (by simp)
  have hs : rem [i] (listed.setIfInBounds i true) = [] := by unfold rem; simp [hi]
  have : ord = A ++ ([i] ++ B) := by simp [e]
  rw [this]
  have app : ∀ (l1 l2 : List Nat) (q : Array Bool), rem (l1 ++ l2) q = rem l1 q ++ rem l2 q := fun l1 l2 q => List.filter_append ..
  rw [app, app, hs, zpz hA, zpz hB, h1, h2, List.nil_append]
theorem zhu {pre ord : List Nat} {m : Nat} (ok : OkFactsP ops pre ord m) {listed : Array Bool} (hcl : zil (zcj ops.toList []) listed) {i : Nat} (hi : i ∈ Region.ready .any ops listed) :
    ∀ j ∈ (zcj ops.toList []).getD i [], listed.getD j false = true := by
  obtain ⟨hun, o, ho, hall⟩ := mem_ready.1 hi
  obtain ⟨k1, k3⟩ := ok.all i o ho
  intro j hj
  have pl : ∀ m ∈ zem o, listed.getD m false = true := by
    intro m hm'
    obtain ⟨e, he, rfl⟩ := List.mem_map.1 hm'
    obtain ⟨he1, he2⟩ := List.mem_filter.1 he
    exact hall e (by simpa using he1) he2
  rcases k3 j hj with h' | ⟨m, hm', hjm⟩
  · exact pl j h'
  · exact hcl m (pl m hm') j hjm
theorem zod {pre ord : List Nat} {m : Nat} (ok : OkFactsP ops pre ord m) {listed : Array Bool} (hcl : zil (zcj ops.toList []) listed) {i : Nat} (hi : i ∈ Region.ready .any ops listed) :
    zil (zcj ops.toList []) (listed.setIfInBounds i true) := by
  intro m hm' j hj
  by_cases hmi : i = m
  · subst hmi; exact getD_set_true (zhu ok hcl hi j hj)
  · rw [getD_set_ne false hmi] at hm'; exact getD_set_true (hcl m hm' j hj)
theorem zmu {rr : Option Nat} {pre ord : List Nat} {m : Nat} (ok : OkFactsP ops pre ord m) {Q' : Exit → Act → World → Prop} : ∀ (fuel k : Nat) (listed : Array Bool) (a : Act) (w : World), ops.size - k ≤ fuel → m ≤ k → k ≤ ops.size → listed.size = ops.size →
    (∀ j, j < k → listed.getD j false = true) → (∀ j, k ≤ j → j < ops.size → listed.getD j true = false) → zil (zcj ops.toList []) listed →
    wpL rr P ops Q' (ops.toList.drop k) a w → wpAnyIn (FW rr) 0 P .any ops Q' fuel listed a w := by
  intro fuel
  have ready_lt : ∀ (k : Nat) (listed : Array Bool), m ≤ k → listed.size = ops.size → (∀ j, j < k → listed.getD j false = true) → (∀ j, k ≤ j → j < ops.size → listed.getD j true = false) → zil (zcj ops.toList []) listed →
      ∀ i ∈ Region.ready .any ops listed, i = k := by
    intro k listed hmk hsz hlo hhi hcl i hi
    obtain ⟨hun, o, ho, hall⟩ := mem_ready.1 hi
    have hlt := (Array.getElem?_eq_some_iff.1 ho).1
    rcases Nat.lt_trichotomy i k with h | h | h
    · have h1 := hlo i h
      have := zej (by omega) hun h1
      cases this
    · exact h
    · have hin := ok.tail i hlt (by omega) k h (fun hp => by have := ok.prelt _ hp; omega)
      have h1 := zhu ok hcl hi k hin
      have h2 := hhi k (Nat.le_refl _) (by omega)
      have := zej (by omega) h2 h1
      cases this
  have ready_k : ∀ (k : Nat) (listed : Array Bool), m ≤ k → k < ops.size → (∀ j, j < k → listed.getD j false = true) → (∀ j, k ≤ j → j < ops.size → listed.getD j true = false) → k ∈ Region.ready .any ops listed := by
    intro k listed hmk hk hlo hhi
    have hoi : ops[k]? = some ops[k] := Array.getElem?_eq_getElem hk
    rw [mem_ready]
    refine ⟨hhi k (Nat.le_refl _) hk, _, hoi, fun e he hb => ?_⟩
    have hp : e.on ∈ zem ops[k] := List.mem_map.2 ⟨e, List.mem_filter.2 ⟨by simpa using he, hb⟩, rfl⟩
    exact hlo _ (ok.later k _ hoi hmk _ hp)
  induction fuel with
  | zero =>
    intro k listed a w hf hmk hk hsz hlo hhi hcl h
    have hk' : k = ops.size := by omega
    refine ⟨?_, ?_⟩
    · cases hr : Region.ready .any ops listed with
      | nil => rfl
      | cons j r =>
        have hj : j ∈ Region.ready .any ops listed := by rw [hr]; exact List.mem_cons_self ..
        obtain ⟨_, o, ho, _⟩ := mem_ready.1 hj
        have := (Array.getElem?_eq_some_iff.1 ho).1
        have := ready_lt k listed hmk hsz hlo hhi hcl j hj
        omega
    · rw [List.drop_eq_nil_of_le (by simp; omega)] at h; exact h
  | succ fuel ih =>
    intro k listed a w hf hmk hk hsz hlo hhi hcl h
    refine ⟨fun hr => ?_, fun i hi => ?_⟩
    · rcases Nat.lt_or_ge k ops.size with hlt | hge
      · have := ready_k k listed hmk hlt hlo hhi
        rw [hr] at this; cases this
      · rw [List.drop_eq_nil_of_le (by simpa using hge)] at h; exact h
    · have hik := ready_lt k listed hmk hsz hlo hhi hcl i hi
      subst hik
      obtain ⟨hun, o, ho, hall⟩ := mem_ready.1 hi
      have hlt := (Array.getElem?_eq_some_iff.1 ho).1
      have hd : ops.toList.drop i = o :: ops.toList.drop (i + 1) := by
        rw [List.drop_eq_getElem_cons (by simpa using hlt)]
        congr 1
        have := (Array.getElem?_eq_some_iff.1 ho).2
        simpa using this
      rw [hd] at h
      have next : ∀ a' w', wpL rr P ops Q' (ops.toList.drop (i + 1)) a' w' → wpAnyIn (FW rr) 0 P .any ops Q' fuel (listed.setIfInBounds i true) a' w' := fun a' w' h' =>
        ih (i + 1) _ a' w' (by omega) (by omega) (by omega) (by simpa using hsz)
          (fun j hj => by
            by_cases hij : i = j
            · subst hij; simp [show i < listed.size by omega]
            · exact getD_set_true (hlo j (by omega)))
          (fun j hj hj2 => by rw [getD_set_ne true (by omega)]; exact hhi j (by omega) hj2) (zod ok hcl hi) h'
      unfold wpOpIn
      simp only [ho]
      unfold wpL at h
      split
      · rename_i hw
        rw [if_pos hw] at h
        exact Oper.wpIn_mono next h
      · rename_i hw
        rw [if_neg hw] at h
        exact ⟨fun _ _ => trivial, next _ _ h⟩
theorem wpAny_of_SWP {rr : Option Nat} {pre ord : List Nat} {m : Nat} {K : Act → SP → Prop} {Q' : Exit → Act → World → Prop} (ok : OkFactsP ops pre ord m)
    (hK : ∀ a S w, K a S → Live Rd W S → S noF w.heap → Same W w → wpL rr P ops Q' (ops.toList.drop m) a w) : ∀ (fuel : Nat) (listed : Array Bool) (a : Act) (w : World) (S : SP),
    (rem ord listed).length + (ops.size - m) ≤ fuel → listed.size = ops.size → (∀ p ∈ pre, listed.getD p false = true) → (∀ j, m ≤ j → j < ops.size → listed.getD j true = false) → zil (zcj ops.toList []) listed → Live Rd W S → S noF w.heap → Same W w →
    SW P ops Rd W K ((rem ord listed).filterMap (ops[·]?)) S a → wpAnyIn (FW rr) 0 P .any ops Q' fuel listed a w := by
  have selOf : ∀ o : Oper, zku o = true → ∀ cs b, o.op ≠ .select cs b := by
    intro o h cs b e
    unfold zku at h
    rw [e] at h
    simp at h
  have defOf : ∀ o : Oper, zku o = true → zqc o = true := fun o h => by
    unfold zku at h
    rw [Bool.and_eq_true] at h
    exact h.2
  have done : ∀ (listed : Array Bool), listed.size = ops.size → (∀ p ∈ pre, listed.getD p false = true) → rem ord listed = [] → ∀ j, j < m → listed.getD j false = true := by
    intro listed hsz hpre hrem j hj
    by_cases hjp : j ∈ pre
    · exact hpre j hjp
    have : j ∉ rem ord listed := by rw [hrem]; exact List.not_mem_nil
    rw [rem_mem] at this
    have hjs : j < listed.size := by have := ok.size; omega
    cases hv : listed[j] with
    | true => simp [hjs, hv]
    | false => exact absurd ⟨(ok.mem j).2 ⟨hj, hjp⟩, by simp [hjs, hv]⟩ this
  intro fuel
  induction fuel with
  | zero =>
    intro listed a w S hlen hsz hpre hun hcl hl hS hw h
    have hrem : rem ord listed = [] := List.eq_nil_of_length_eq_zero (by omega)
    rw [hrem] at h
    exact zmu ok 0 m listed a w (by omega) (Nat.le_refl _) ok.size hsz (done listed hsz hpre hrem) hun hcl (hK _ _ _ h hl hS hw)
  | succ fuel ih =>
    intro listed a w S hlen hsz hpre hun hcl hl hS hw h
    by_cases hrem : rem ord listed = []
    · rw [hrem] at h
      exact zmu ok (fuel + 1) m listed a w (by rw [hrem] at hlen; simpa using hlen) (Nat.le_refl _) ok.size hsz (done listed hsz hpre hrem) hun hcl (hK _ _ _ h hl hS hw)
    · obtain ⟨i0, r0, hr0⟩ := List.exists_cons_of_ne_nil hrem
      have hi0 : i0 ∈ rem ord listed := by rw [hr0]; exact List.mem_cons_self ..
      obtain ⟨hin0, hun0⟩ := rem_mem.1 hi0
      obtain ⟨hlt0, hnp0⟩ := (ok.mem i0).1 hin0
      refine ⟨fun hr => ?_, fun i hi => ?_⟩
      · exfalso
        have hi0s : i0 < ops.size := by have := ok.size; omega
        have hoi : ops[i0]? = some ops[i0] := Array.getElem?_eq_getElem hi0s
        obtain ⟨A, B, eo, hA, _⟩ := zhe (R1 := []) (R2 := r0) (by rw [hr0]; rfl)
        have : i0 ∈ Region.ready .any ops listed := by
          rw [mem_ready]
          refine ⟨hun0, _, hoi, fun e he hb => ?_⟩
          have hp : e.on ∈ zem ops[i0] := List.mem_map.2 ⟨e, List.mem_filter.2 ⟨by simpa using he, hb⟩, rfl⟩
          rcases List.mem_append.1 ((ok.ord A i0 B _ eo hoi).1 _ hp) with hinP | hinA
          · exact hpre _ hinP
          have hltm : e.on < m := ((ok.mem _).1 (by rw [eo]; exact List.mem_append_left _ hinA)).1
          have hnot : e.on ∉ rem A listed := by rw [hA]; exact List.not_mem_nil
          rw [rem_mem] at hnot
          have hsz' : e.on < listed.size := by have := ok.size; omega
          cases hv : listed[e.on] with
          | true => simp [hsz', hv]
          | false => exact absurd ⟨hinA, by simp [hsz', hv]⟩ hnot
        rw [hr] at this
        cases this
      · obtain ⟨hun1, o, ho, hall⟩ := mem_ready.1 hi
        have hlt := (Array.getElem?_eq_some_iff.1 ho).1
        have hcli := zhu ok hcl hi
        have him : i < m := by
          rcases Nat.lt_or_ge i m with h' | h'
          · exact h'
          · exfalso
            have h1 := hcli i0 (ok.tail i hlt h' i0 (by omega) hnp0)
            have := zej (by have := ok.size; omega) hun0 h1
            cases this
        have hip : i ∉ pre := fun hp => by
          have := zej (by omega) hun1 (hpre i hp)
          cases this
        have hin : i ∈ rem ord listed := rem_mem.2 ⟨(ok.mem i).2 ⟨him, hip⟩, hun1⟩
        obtain ⟨R1, R2, hR⟩ := List.append_of_mem hin
        obtain ⟨k1, k3⟩ := ok.all i o ho
        have hset := rem_setP ok (by omega) ho hR
        have hcl' := zod ok hcl hi
        obtain ⟨A, B, eo, hA, _⟩ := zhe hR
        obtain ⟨_, _, k4⟩ := ok.ord A i B o eo ho
        rw [hR, List.filterMap_append, List.filterMap_cons, ho] at h
        simp only at h
        have hf := SW.take (selOf o k1) (R1.filterMap (ops[·]?)) S a (fun x hx => by
          obtain ⟨j, hj, hxj⟩ := List.mem_filterMap.1 hx
          rw [← hA] at hj
          obtain ⟨hjA, hjun⟩ := rem_mem.1 hj
          have hjs : j < listed.size := by rw [hsz]; exact (Array.getElem?_eq_some_iff.1 hxj).1
          refine ⟨?_, selOf x (ok.all j x hxj).1, ?_⟩
          all_goals
            rcases k4 j hjA x hxj with h' | h'
            · have h2 := hcli j h'
              have := zej hjs hjun h2
              cases this
            · first | exact h'.1 | exact h'.2) hl h
        rw [← List.filterMap_append, ← hset] at hf
        have hlen' : (rem ord (listed.setIfInBounds i true)).length + (ops.size - m) ≤ fuel := by
          rw [hset]; rw [hR] at hlen; simp at hlen ⊢; omega
        have hun' : ∀ j, m ≤ j → j < ops.size → (listed.setIfInBounds i true).getD j true = false := fun j hj hj2 => by rw [getD_set_ne true (by omega)]; exact hun j hj hj2
        have hpre' : ∀ p ∈ pre, (listed.setIfInBounds i true).getD p false = true := fun p hp => getD_set_true (hpre p hp)
        unfold wpOpIn
        simp only [ho]
        unfold Front at hf
        split
        · rename_i hwant
          rw [if_pos hwant] at hf
          split at hf
          · obtain ⟨val, T, s1, s3⟩ := hf
            have g := s1.good hl.2
            unfold Spec at s1
            split at s1
            · obtain ⟨ob, vb, b1, b2, rfl, rfl⟩ := s1
              have hw' : Same W { w with heap := w.heap.push ob } := hw.trans ⟨rfl, rfl, rfl⟩
              have hb : zgt S w.heap.size ob noF (w.heap.push ob) := ⟨hl.2.push _ _ ob hS, fun x => x, by simp⟩
              refine ⟨fun _ _ => trivial, ?_⟩
              rw [Oper.semAt_eq _ _ _ (zfa (defOf o k1)), b2 w]
              exact ih _ _ _ (zgt S w.heap.size ob) hlen' (by simpa using hsz) hpre' hun' hcl' ⟨⟨_, hw', hb⟩, g w.heap.size undef⟩ hb hw' (s3 w.heap.size undef ⟨_, hw', hb⟩)
            · obtain ⟨rfl, T', rfl, g1, g2⟩ := s1
              refine (g2 w noF hS hw).wpIn (defOf o k1) fun v w' ⟨hs, hv, _⟩ => ?_
              exact ih _ _ _ (T' v) hlen' (by simpa using hsz) hpre' hun' hcl' ⟨⟨w', hw.trans hs, hv⟩, g1 v⟩ hv (hw.trans hs) (s3 0 v ⟨w', hw.trans hs, hv⟩)
          · obtain ⟨v, q1, q2⟩ := hf
            refine ⟨fun _ _ => trivial, ?_⟩
            rw [Oper.semAt_eq _ _ _ (zfa (defOf o k1)), q1 w (hl.2.ext _ _ hS)]
            exact ih _ _ _ S hlen' (by simpa using hsz) hpre' hun' hcl' hl hS hw q2
        · rename_i hwant
          rw [if_neg hwant] at hf
          exact ⟨fun _ _ => trivial, ih _ _ _ S hlen' (by simpa using hsz) hpre' hun' hcl' hl hS hw hf⟩
def zuv (P : Program) (ops : Array Oper) : List Nat → Act → Act → Prop
  | [], a, a' => a' = a
  | p :: r, a, a' => ∃ o v, ops[p]? = some o ∧ YieldsFenced P ops o v a ∧ zuv P ops r (a.put o.dst v) a'
def setL (listed : Array Bool) : List Nat → Array Bool
  | [] => listed
  | p :: r => setL (listed.setIfInBounds p true) r
theorem zqy : ∀ (l : List Nat) (q : Array Bool), (setL q l).size = q.size
  | [], q => rfl
  | p :: r, q => by rw [setL, zqy r]; simp
theorem zpx : ∀ (l : List Nat) (q : Array Bool) (j : Nat) (d : Bool), j ∉ l → (setL q l).getD j d = q.getD j d
  | [], q, j, d, _ => rfl
  | p :: r, q, j, d, h => by
    have hne : p ≠ j := fun e => h (by rw [← e]; exact List.mem_cons_self ..)
    rw [setL, zpx r _ j d (fun hj => h (List.mem_cons_of_mem _ hj)), getD_set_ne d hne]
theorem zqx : ∀ (l : List Nat) (q : Array Bool) (j : Nat), q.getD j false = true → (setL q l).getD j false = true
  | [], q, j, h => h
  | p :: r, q, j, h => by rw [setL]; exact zqx r _ j (getD_set_true h)
theorem ztl : ∀ (l : List Nat) (q : Array Bool) (j : Nat), j ∈ l → j < q.size → (setL q l).getD j false = true
  | p :: r, q, j, h, hs => by
    rw [setL]
    rcases List.mem_cons.1 h with rfl | h
    · exact zqx r _ _ (by simp [hs])
    · exact ztl r _ j h (by simpa using hs)
theorem zrv {pre ord : List Nat} {m : Nat} (ok : OkFactsP ops pre ord m) {Q : Exit → Act → World → Prop} (hQ : ∀ c a w, ¬ Q (.panic c) a w) : ∀ (l : List Nat) (fuel : Nat) (listed : Array Bool) (a a' : Act) (w : World), (∀ p ∈ l, p ∈ pre) → l.Nodup → (∀ p ∈ l, listed.getD p true = false) →
    zuv P ops l a a' → wpAnyIn (FW none) 0 P .any ops Q fuel (setL listed l) a' w → wpAnyIn (FW none) 0 P .any ops Q (fuel + l.length) listed a w
  | [], fuel, listed, a, a', w, _, _, _, hp, h => by
    have e : a' = a := hp
    subst e; exact h
  | p :: r, fuel, listed, a, a', w, hl, hn, hu, hp, h => by
    obtain ⟨hn1, hn2⟩ := List.nodup_cons.1 hn
    obtain ⟨o, v, ho, hy, hp⟩ := hp
    obtain ⟨o', ho', hp0, hap⟩ := ok.pre0 p (hl p (List.mem_cons_self ..))
    rw [ho] at ho'; cases ho'
    have selOf : ∀ (j : Nat) (o : Oper) cs b, ops[j]? = some o → o.op ≠ .select cs b := fun j o cs b hj e => by
      have h := (ok.all j o hj).1
      unfold zku at h
      rw [e] at h
      simp at h
    have ih := zrv ok hQ r fuel (listed.setIfInBounds p true) (a.put o.dst v) a' w (fun q hq => hl q (List.mem_cons_of_mem _ hq)) hn2 (fun q hq => by
      have hne : p ≠ q := fun e => hn1 (by rw [e]; exact hq)
      rw [getD_set_ne true hne]
      exact hu q (List.mem_cons_of_mem _ hq)) hp h
    refine wpAnyIn_first rfl ho selOf (fun c a w h => (hQ _ _ _ h).elim) (fuel + r.length) listed a w (fun j oj hoj hj hju hnot => ?_) ?_ hy ih
    · rcases hap j oj hoj hj with h1 | h1
      · obtain ⟨e, he, he2⟩ := List.mem_map.1 h1
        obtain ⟨he3, he4⟩ := List.mem_filter.1 he
        exact (hnot e (by simpa using he3) he4 he2).elim
      · exact h1
    · rw [mem_ready]
      refine ⟨hu p (List.mem_cons_self ..), o, ho, fun e he hb => ?_⟩
      have : e.on ∈ zem o := List.mem_map.2 ⟨e, List.mem_filter.2 ⟨by simpa using he, hb⟩, rfl⟩
      rw [hp0] at this
      cases this
theorem wp_drawP {K : Act → SP → Prop} {Q' : Exit → Act → World → Prop} {id m : Nat} {pre ord : List Nat} {a a' : Act} {w : World} {S0 : SP} (hm' : P.follows .mixedOrders = true) (hok : zob ops pre ord m = true) (hnd : pre.Nodup) (hQ : ∀ c a w, ¬ Q' (.panic c) a w) (hpr : zuv P ops pre a a') (hS0 : S0 noF w.heap) (hx : Good Rd S0) (hW : Same W w)
    (hK : ∀ a S w', K a S → Live Rd W S → S noF w'.heap → Same W w' → wpL none P ops Q' (ops.toList.drop m) a w') (h : SW P ops Rd W K (ord.filterMap (ops[·]?)) S0 a') :
    (Code.region id ops true).wpIn (FW none) 0 P Q' a w := by
  have ok := okFactsP hok
  have hsz := ok.size
  have hlen := ok.len
  have e : rem ord (setL (Array.replicate ops.size false) pre) = ord := by
    unfold rem
    refine List.filter_eq_self.2 fun x hx => ?_
    obtain ⟨h1, h2⟩ := (ok.mem x).1 hx
    rw [zpx _ _ _ _ h2]
    have : x < ops.size := by omega
    simp [this]
  refine wpIn_region_any hm' ?_
  have hf : ops.size = (ops.size - pre.length) + pre.length := by omega
  have key := zrv (P := P) ok hQ pre (ops.size - pre.length) (Array.replicate ops.size false) a a' { w with drawn := w.drawn + 1 } (fun _ h => h) hnd (fun p hp => by
    have := ok.prelt p hp
    simp [show p < ops.size by omega]) hpr
  rw [← hf] at key
  refine key (wpAny_of_SWP (W := W) (Rd := Rd) (K := K) ok hK (ops.size - pre.length) (setL (Array.replicate ops.size false) pre) a' _ S0 ?_ (by rw [zqy]; simp) (fun p hp => ztl _ _ _ hp (by have := ok.prelt p hp; simp; omega)) ?_ ?_ ⟨⟨w, hW, hS0⟩, hx⟩ hS0 hW ?_)
  · rw [e]; omega
  · intro j hj hj2
    rw [zpx _ _ _ _ (fun hp => by have := ok.prelt j hp; omega)]
    simp [hj2]
  · intro q hq
    by_cases hqp : q ∈ pre
    · obtain ⟨o, ho, h0, -⟩ := ok.pre0 q hqp
      intro j hj
      rcases (ok.all q o ho).2 j hj with h1 | ⟨_, h1, -⟩
      · rw [h0] at h1; cases h1
      · rw [h0] at h1; cases h1
    · exfalso
      rw [zpx _ _ _ _ hqp, Array.getD_eq_getD_getElem?, Array.getElem?_replicate] at hq
      split at hq <;> simp at hq
  · rw [e]; exact h
end
end Go.XL
namespace Go.XL
section
variable {P : Program} {n : Nat} {r : Rr} {Q : VEnv → Sto → Prop} {k : List Fr} {E0 E : VEnv} {S : Sto}
theorem zhi {K0 : Bs} {W : World} : ∀ (k : List Fr) (c : List PanicEntry) (a : Act) (w : World), ¬ ksem P n r K0 W Q k (.panic c) a w
  | [], c, a, w, h => h
  | .code _ :: k, c, a, w, h => zhi k c a w h
  | .ops _ _ :: k, c, a, w, h => zhi k c a w h
  | .blk _ :: k, c, a, w, h => zhi k c a w h
  | .back _ :: k, c, a, w, h => zhi k c a w h
  | .rnd _ :: k, c, a, w, h => h
def PreE (os : Array Oper) (n : Nat) : List Nat → VEnv → VEnv → Prop
  | [], E, E' => E' = E
  | p :: l, E, E' => ∃ t x ty pos af v, os[p]? = some ⟨some t, .move x, ty, pos, af, none⟩ ∧ decide (t < n) = true ∧ evV E x = some v ∧ PreE os n l ((t, v.copy) :: E) E'
theorem PreE.run {os : Array Oper} {D : List Deferred} {K : Bs} {hv : VH} {hold : Nat → Option Hd} {h : Heap} : ∀ {pre : List Nat} {E E' : VEnv} {env : Env} {a : Act}, PreE os n pre E E' → Agree D n env a → St K hv hold E S env h →
    ∃ env' a', zuv P os pre a a' ∧ Agree D n env' a' ∧ St K hv hold E' S env' h
  | [], E, E', env, a, hp, ha, s => by
    have e : E' = E := hp
    subst e
    exact ⟨env, a, rfl, ha, s⟩
  | p :: l, E, E', env, a, hp, ha, s => by
    obtain ⟨t, x, ty, pos, af, v, ho, hd, hx, hp⟩ := hp
    have hdv : dopV P [] (evV E) (.move x) = some v.copy := by simp [dopV, hx]
    obtain ⟨y, h2, h3⟩ := ziy (S := []) s.pre (fun _ _ e => by cases e) s.rl hdv
    have run : ∀ w : World, (execOp a.eval ⟨some t, .move x, ty, pos, af, none⟩).run P w = .ok (.value y) w := fun w => zhc ha (zpo rfl h2)
    have hd' : dok n (some t) = true := hd
    obtain ⟨env', a', h4, h5, h6⟩ := PreE.run hp (ha.put' hd' y) (s.put (some t) h3 fun _ _ => V.free_Own (zlg hdv) y)
    exact ⟨env', a', ⟨_, y, ho, ⟨.inl ⟨rfl, run⟩, fun w => rfl⟩, h4⟩, h5, h6⟩
theorem DS.drawP {id : Nat} {os : Array Oper} (S0 S1 : Sto) (pre ord : List Nat) (m : Nat) {E' : VEnv} (hr : r.rd = none) (hok : zob os pre ord m = true) (hnd : pre.Nodup) (hm : P.follows .mixedOrders = true) (h0 : ∀ b o, zaa S0 b = some o → zaa S b = some o ∧ zaa S1 b = none) (h1 : ∀ b o, zaa S1 b = some o → zaa S b = some o)
    (hpre : PreE os n pre E E') (q : DD P n r Q os.toList S0 [] (ord.filterMap (os[·]?)) (.ops os.toList (os.toList.drop m) :: k) E' E' S1) : DS P n r Q (.code (.region id os true) :: k) E S := fun K W a w ⟨K', D, hv, hold, env, hb, ha, s⟩ hw => by
  have s0 : St K' hv hold E (S1 ++ S0) env w.heap := s.weaken (fun _ _ e => e) fun b o e => by
    rw [zbt] at e
    cases e1 : zaa S1 b with
    | some o' => rw [e1] at e; cases e; exact h1 b _ e1
    | none => rw [e1] at e; exact (h0 b o e).1
  obtain ⟨env', a', hpr, ha', s'⟩ := PreE.run (P := P) hpre ha s0
  obtain ⟨-, -, s2⟩ := PreE.run (P := P) hpre ha s
  have hR : ∀ (F : Nat → Prop) h1, RunS P [] D n K' hv w.heap S0 E' S1 a' F h1 → RunS P [] D n K' hv w.heap S0 E' S1 a' F h1 := fun _ _ h => h
  have start : RunS P [] D n K' hv w.heap S0 E' S1 a' noF w.heap := ⟨fun b hb => hb.elim, ⟨Nat.le_refl _, MpOk.nil⟩, hv, hold, env', ha', s', PreV.refl hv, fun b hb => hb.elim, fun b o e => ⟨rfl, (h0 b o e).2, Ob.lt (s.obj b o (h0 b o e).1).2.2⟩⟩
  show (Code.region id os true).wpIn (FW r.rd) 0 P (ksem P n r K W Q k) a w
  rw [hr]
  refine wp_drawP (m := m) (pre := pre) (ord := ord) (a' := a') (Rd := RdOf P [] hv w.heap S0) (W := W) (K := fun a' S' => ∀ w', S' noF w'.heap → Same W w' → ksem P n r K W Q (.ops os.toList (os.toList.drop m) :: k) .normal a' w') hm hok hnd (fun c a w => zhi k c a w) hpr start (RunS.good P [] D n K' hv w.heap S0 E' S1 a') hw
    (fun a' S' w' hK _ hS hsame => by have := hK w' hS hsame; simpa [ksem, hr] using this) ?_
  have := q K K' D W hv w.heap a' _ hb (hb.floor s) ⟨env', ha', fun t v e => let ⟨y, a, b, _⟩ := s'.slot t v e; ⟨y, a, b⟩⟩ s.pre (fun b o e => let ⟨_, r2, r3⟩ := s.obj b o (h0 b o e).1; ⟨r2, Ob.lt r3, Ob.Real.rd r3⟩) s.base.2.1 ⟨w, hw, start⟩ hR
  simpa using this
theorem DS.drawPL {id : Nat} {os l1 l2 : List Oper} (S0 S1 : Sto) (pre ord : List Nat) (m : Nat) {E' : VEnv} (hr : r.rd = none) (hok : zob os.toArray pre ord m = true) (hnd : pre.Nodup) (hm : P.follows .mixedOrders = true) (h0 : ∀ b o, zaa S0 b = some o → zaa S b = some o ∧ zaa S1 b = none) (h1 : ∀ b o, zaa S1 b = some o → zaa S b = some o)
    (hpre : PreE os.toArray n pre E E') (k1 : zlr os ord = l1) (k2 : os.drop m = l2) (q : DD P n r Q os S0 [] l1 (.ops os l2 :: k) E' E' S1) : DS P n r Q (.code (.region id os.toArray true) :: k) E S :=
  DS.drawP S0 S1 pre ord m hr hok hnd hm h0 h1 hpre (by rw [zkt, k1]; simpa [k2] using q)
end
end Go.XL
namespace Go.XL
open Go.Proofs
set_option maxRecDepth 100000
set_option maxHeartbeats 8000000
theorem zms {sz : Nat} : ∀ (n : Nat) (L : List V) (R : List (List V)), R.length = n → (∀ (k : Nat) (h : k < R.length), (L.drop (k * sz)).take sz = R[k]) → chunk sz n L = R
  | 0, L, R, hl, _ => by
    obtain rfl := List.eq_nil_of_length_eq_zero hl
    rfl
  | n + 1, L, [], hl, _ => by cases hl
  | n + 1, L, c :: R, hl, h => by
    have h0 := h 0 (by simp)
    rw [Nat.zero_mul, List.drop_zero, List.getElem_cons_zero] at h0
    have h1 := zms n (L.drop sz) R (by simpa using hl) fun k hk => by
      have h2 := h (k + 1) (by simpa using hk)
      rw [List.getElem_cons_succ] at h2
      rw [List.drop_drop, ← h2]
      congr 2
      rw [Nat.succ_mul]; omega
    rw [chunk, h0, h1]
theorem PC.peek {P : Program} {f : FuncId} {args : List V} {v : V} (h : PC P f args v) : PC P f args v.peek := by
  intro v0 K hv hold hp xs hx ha s
  refine (h v0 K hv hold hp xs hx ha s).mono ?_
  rintro y h' ⟨u, S', hv', hold', p, st, rfl⟩
  refine ⟨u.peek, S', hv', hold', p, ⟨st.pre, fun t w e => ?_, st.obj, st.held, st.base, st.vbase⟩, rfl⟩
  rw [zad] at e
  split at e
  · rename_i ht
    cases e
    obtain ⟨z, h1, h2, -⟩ := st.slot t u (by rw [zad, if_pos ht])
    exact ⟨z, h1, V.peek_Rl h2, V.free_Own (zeo u) z⟩
  · cases e
theorem flat_cR (l : List (List Int)) : (l.map cR).flatten = l.map fun t => ints t := by
  induction l with
  | nil => rfl
  | cons a r ih => rw [List.map_cons, List.flatten_cons, ih]; rfl
theorem set_peek {l : List (List Int)} {L : List V} {i k : Nat} {hk : k < l.length} {hi : i < l.length} {m : Bool} {T s : Nat} (hl : i < L.length) (h : L[k]? = some (ints l[k])) :
    ((L.set i (.own m T s (l[i].map cI))).map V.peek)[k]? = some (ints l[k]) := by
  rw [List.getElem?_map, List.getElem?_set]
  split
  · rename_i e
    subst e
    first | rfl | (rw [if_pos hl]; rfl)
  · rw [h]; rfl
theorem zmp (l : List (List Int)) (hl : l.length ≤ 1000000) (hr : ∀ t ∈ l, t.length ≤ 1000000) : PC Try.prog 52 [rows l] (rows l) := by
  by_cases h0 : l = []
  · subst h0
    have h : PC Try.prog 52 [rows []] (.own false 22 1 []) := by
      refine DC.of_run Try.func52 rfl Try.ntmps52 Try.results52 (by simp) (fun _ => ?_); simp only [zap, zar, go_sem, Nat.zero_add, Nat.reduceAdd]
      repeat' (first | with_reducible (refine DS.nilOwn (t := 2) yU (by first | exact .inl rfl | exact .inr rfl) yE ?_) | (with_reducible refine DS.mv (t := 3) yU (by first | exact .inl rfl | exact .inr rfl) yE ?_; simp only [zak, zac, zad, Nat.reduceEqDiff, ↓reduceIte, zaf, zag, zao, zae, zai, zal, zah]) | (with_reducible first | refine DS.fltS yU yU yE ?_ | refine DS.opsNil ?_ | refine DS.seq ?_ | refine DS.regionL ?_ | refine DS.block ?_) | (refine DS.append (mm := false) yU yE yE yU (by decide) yE (by first | exact .inl rfl | exact .inr ⟨rfl, rfl⟩) yE yX0 (by first | exact zan zcq _ | exact zan zcx _ | exact zan Member.len _ | exact zan Sitting.len _ | exact zan Ruling.len _ | (simp only [List.mem_cons, List.not_mem_nil, or_false, forall_eq]; rfl) | simp) ⟨by (try simp only [List.length_map, List.length_cons, List.length_nil, List.length_append, List.length_take, List.length_drop]); omega, by decide⟩ ?_; simp only [zak, zac, zad, Nat.reduceEqDiff, ↓reduceIte, zaf, zag, zao, zae, zai, zal, zah]) | fail)
      refine DS.loopK [3] (by (simp only [go_sem, Nat.reduceEqDiff, ↓reduceIte]; exact rfl)) (fun (y : Nat) => [(4, I y)]) (fun (y : Nat) => y = 0) (fun (y : Nat) => y) 0 yS rfl (fun y B hI hB => ?_); try dsimp only at hI hB; simp only [zaq, zau]
      subst hI
      repeat' (first | (with_reducible refine DS.mv (t := 2) yU (by first | exact .inl rfl | exact .inr rfl) yE ?_; simp only [zak, zac, zad, Nat.reduceEqDiff, ↓reduceIte, zaf, zag, zao, zae, zai, zal, zah]) | (with_reducible refine DS.mv (t := 21) yU (by first | exact .inl rfl | exact .inr rfl) yE ?_; simp only [zak, zac, zad, Nat.reduceEqDiff, ↓reduceIte, zaf, zag, zao, zae, zai, zal, zah]) | (with_reducible first | refine DS.fltS yU yU yE ?_ | refine DS.opsNil ?_ | refine DS.seq ?_ | refine DS.regionL ?_ | (refine DS.cE yE ?_; refine CG.no ?_) | refine DS.exit yU ?_) | refine DS.retT [] yE trivial ?_ | fail)
      rfl
    exact h.peek
  have hpos : 0 < l.length := List.length_pos_iff.2 h0
  refine DC.of_run Try.func52 rfl Try.ntmps52 Try.results52 (by simp) (fun _ => ?_); simp only [zap, zar, go_sem, Nat.zero_add, Nat.reduceAdd]
  repeat' (first | (with_reducible first | refine DS.fltS yU yU yE ?_ | refine DS.opsNil ?_ | refine DS.seq ?_ | refine DS.regionL ?_) | fail)
  refine DS.step rfl rfl yR (OpS.appG (g := ⟨[], none⟩) (ml := l.map cR) rfl yH yH yR yR (by decide) yH rfl yH yH (by rw [List.length_map]; omega) (by intro x hx; obtain ⟨y, -, rfl⟩ := List.mem_map.1 hx; rfl) ⟨by simp only [List.length_map, List.length_nil]; omega, by decide⟩) (fun u2 E' S4 hu2 => ?_)
  obtain ⟨rfl, b, cap, junk, rfl, m1, m2, m3⟩ := hu2
  have hml : ([] : List (List V)) ++ (l.map cR).map (·.map V.copy) = l.map cR := by
    rw [List.nil_append, List.map_map]; rfl
  rw [hml] at m1 ⊢
  have k1 := m1.look
  have k2 := m1.le
  have k3 := m1.cap
  rw [flat_cR] at k1
  rw [List.length_map] at k2
  simp only [GR.cell_some, zct, List.length_map]
  refine DS.reS (S' := [(b, .cells ((l.map fun t => ints t) ++ junk) 22)]) (fun d o e => by
    simp only [zab, zca] at e
    split at e
    · rename_i h; subst h; rw [k1]; exact e
    · cases e) ?_
  clear m1 m2 m3 k1 hml
  repeat' (first | (with_reducible first | refine DS.fltS yU yU yE ?_ | refine DS.opsNil ?_ | refine DS.seq ?_ | refine DS.regionL ?_ | refine DS.block ?_) | fail)
  refine DS.loopS [3] (by (simp only [go_sem, Nat.reduceEqDiff, ↓reduceIte]; exact rfl)) (fun (y : Nat × List V) => [(4, I y.1)]) (fun (y : Nat × List V) => [(b, .cells y.2 22)]) (fun (y : Nat × List V) => y.1 ≤ l.length ∧ l.length ≤ y.2.length ∧ ∀ (k : Nat) (h : k < l.length), y.2[k]? = some (ints l[k])) (fun (y : Nat × List V) => l.length - y.1) (0, (l.map fun t => ints t) ++ junk) yS (fun b o e => by exact e) ⟨Nat.zero_le _, by simp, fun k h => zpb h⟩ (fun y B hI hB => ?_); try dsimp only at hI hB; simp only [zaq, zau]
  obtain ⟨i, L⟩ := y
  dsimp only at hI hB ⊢
  obtain ⟨g1, g2, g3⟩ := hI
  have H := Box.mk g3
  clear g3
  by_cases hi : (i : Int) < (l.length : Int)
  · have hi' : i < l.length := by omega
    have h1 := H.out i hi'
    have h2 := hr _ (List.getElem_mem hi')
    repeat' (first | (with_reducible first | refine DS.fltS yU yU yE ?_ | refine DS.opsNil ?_ | refine DS.seq ?_ | refine DS.regionL ?_ | (refine DS.cE yE ?_; refine CG.yes ?_) | refine DS.blk ?_ | refine DS.block ?_ | refine DS.skip ?_) | refine DS.pcS inferInstance (zqj _ (Nat.le_trans h2 (by decide))) yR yT ?_ | (refine DS.store yR yE yE yE yE yU (by exact ⟨by with_unfolding_all rfl, by (try simp only [List.length_map, List.length_append, List.length_set, List.length_replicate, List.length_cons, List.length_nil]); omega⟩) ?_; simp only [zbu, zax, zbe, zcd, zbm, zbl, zbn]; try simp only [zak, zac, zad, Nat.reduceEqDiff, ↓reduceIte, zaf, zag, zao, zae, zai, zal, zah]) | fail)
    simp only [setS, ↓reduceIte]
    refine DS.mapO (b := b) V.peek (fun _ _ _ h => V.peek_Rl h) zeo (by simp only [zab, ↓reduceIte]; exact rfl) ?_
    simp only [setS, ↓reduceIte]
    refine DS.back (hB (i + 1, (L.set i (.own false 3 1 (l[i].map cI))).map V.peek) _ _ (by dsimp only; omega) ⟨by dsimp only; omega, by simp; omega, fun k hk => set_peek (by omega) (H.out k hk)⟩ yS yS (fun d o e => by exact e))
  · refine DS.freeze (b := b) (l := L) (T := 22) (len := l.length) (t := 3) (sz := 1) yR (by simp only [zab, ↓reduceIte]) (by omega) ⟨k2, k3⟩ ?_
    have hch : chunk 1 l.length (L.map V.copy) = l.map cR := zms _ _ _ (by rw [List.length_map]) fun k hk => by
      rw [List.length_map] at hk
      have h1 := H.out k hk
      obtain ⟨hk2, h3⟩ := List.getElem?_eq_some_iff.1 h1
      rw [Nat.mul_one, List.drop_eq_getElem_cons (by rw [List.length_map]; exact hk2), List.take_succ_cons, List.take_zero, List.getElem_map, h3, List.getElem_map]
      rfl
    rw [hch]
    repeat' (first | (with_reducible first | refine DS.fltS yU yU yE ?_ | refine DS.opsNil ?_ | refine DS.seq ?_ | refine DS.regionL ?_ | (refine DS.cE yE ?_; refine CG.no ?_) | refine DS.exit yU ?_) | refine DS.retT [] yE trivial ?_ | fail)
    rfl
theorem zsu {α : Type} {f : α → List V} (hf : ∀ a, (f a).length = 3) (junk : List V) : ∀ (R : List α) (k : Nat) (h : k < R.length) (j : Nat), j < 3 → ((R.map f).flatten ++ junk)[k * 3 + j]? = (f R[k])[j]?
  | [], k, h, _, _ => by cases h
  | a :: R, 0, h, j, hj => by
    rw [List.map_cons, List.flatten_cons, List.append_assoc, Nat.zero_mul, Nat.zero_add, List.getElem?_append_left (by rw [hf]; exact hj)]
    rfl
  | a :: R, k + 1, h, j, hj => by
    have h1 := zsu hf junk R k (by simpa using h) j hj
    rw [List.map_cons, List.flatten_cons, List.append_assoc, List.getElem?_append_right (by rw [hf]; omega), hf, show (k + 1) * 3 + j - 3 = k * 3 + j by omega, h1]
    rfl
theorem zru {α : Type} {f : α → List V} (hf : ∀ a, (f a).length = 3) (R : List α) : (R.map f).flatten.length = R.length * 3 := by
  rw [zgq (sz := 3) (fun c hc => by obtain ⟨a, -, rfl⟩ := List.mem_map.1 hc; exact hf a), List.length_map]
structure SitAt (L : List V) (R : List Sitting) : Prop where
  len : R.length * 3 ≤ L.length
  tab : ∀ (k : Nat) (h : k < R.length), L[k * 3]? = some (rows R[k].tables)
  pts : ∀ (k : Nat) (h : k < R.length), L[k * 3 + 1]? = some (rows R[k].points)
  rul : ∀ (k : Nat) (h : k < R.length), L[k * 3 + 2]? = some (.lst (R[k].rulings.map Ruling.cells))
theorem sitAt_flat (R : List Sitting) (junk : List V) : SitAt ((R.map Sitting.cells).flatten ++ junk) R where
  len := by rw [List.length_append, zru Sitting.len]; omega
  tab := fun k h => by have := zsu Sitting.len junk R k h 0 (by omega); rw [Nat.add_zero] at this; rw [this]; rfl
  pts := fun k h => by rw [zsu Sitting.len junk R k h 1 (by omega)]; rfl
  rul := fun k h => by rw [zsu Sitting.len junk R k h 2 (by omega)]; rfl
structure RulAt (L : List V) (R : List Ruling) : Prop where
  len : R.length * 3 ≤ L.length
  rnd : ∀ (k : Nat) (h : k < R.length), L[k * 3]? = some (I R[k].round)
  tab : ∀ (k : Nat) (h : k < R.length), L[k * 3 + 1]? = some (I R[k].table)
  pts : ∀ (k : Nat) (h : k < R.length), L[k * 3 + 2]? = some (ints R[k].points)
theorem rulAt_flat (R : List Ruling) (junk : List V) : RulAt ((R.map Ruling.cells).flatten ++ junk) R where
  len := by rw [List.length_append, zru Ruling.len]; omega
  rnd := fun k h => by have := zsu Ruling.len junk R k h 0 (by omega); rw [Nat.add_zero] at this; rw [this]; rfl
  tab := fun k h => by rw [zsu Ruling.len junk R k h 1 (by omega)]; rfl
  pts := fun k h => by rw [zsu Ruling.len junk R k h 2 (by omega)]; rfl
theorem zpn {L : List V} {i : Nat} {a b c : V} (h0 : L[i]? = some a) (h1 : L[i + 1]? = some b) (h2 : L[i + 2]? = some c) : (L.drop i).take 3 = [a, b, c] := by
  obtain ⟨k0, e0⟩ := List.getElem?_eq_some_iff.1 h0
  obtain ⟨k1, e1⟩ := List.getElem?_eq_some_iff.1 h1
  obtain ⟨k2, e2⟩ := List.getElem?_eq_some_iff.1 h2
  rw [List.drop_eq_getElem_cons k0, List.drop_eq_getElem_cons k1, List.drop_eq_getElem_cons k2, e0, e1, e2]
  rfl
theorem zjm {L : List V} {i : Nat} {a : V} (h : L[i]? = some a) : (L.map V.copy)[i]? = some a.copy := by rw [List.getElem?_map, h]; rfl
theorem SitAt.chunk {L : List V} {R : List Sitting} (h : SitAt L R) : chunk 3 R.length (L.map V.copy) = R.map Sitting.cells :=
  zms _ _ _ (by rw [List.length_map]) fun k hk => by
    rw [List.length_map] at hk
    rw [zpn (zjm (h.tab k hk)) (zjm (h.pts k hk)) (zjm (h.rul k hk)), List.getElem_map]
    rfl
theorem RulAt.chunk {L : List V} {R : List Ruling} (h : RulAt L R) : chunk 3 R.length (L.map V.copy) = R.map Ruling.cells :=
  zms _ _ _ (by rw [List.length_map]) fun k hk => by
    rw [List.length_map] at hk
    rw [zpn (zjm (h.rnd k hk)) (zjm (h.tab k hk)) (zjm (h.pts k hk)), List.getElem_map]
    rfl
theorem zij {α : Type} {L : List α} {i j : Nat} {x y : α} (h : L[j]? = some y) (hi : i ≠ j) : (L.set i x)[j]? = some y := by
  rw [List.getElem?_set_ne hi]; exact h
theorem zje {α : Type} {L : List α} {i : Nat} {x : α} (h : i < L.length) : (L.set i x)[i]? = some x := by
  rw [List.getElem?_set, if_pos rfl, if_pos h]
theorem SitAt.put {L : List V} {R : List Sitting} {i : Nat} (h : SitAt L R) (hi : i < R.length) :
    SitAt (((L.set (i * 3) (.lst (R[i].tables.map cR))).set (i * 3 + 1) (.lst (R[i].points.map cR))).set (i * 3 + 2) (.lst (R[i].rulings.map Ruling.cells))) R where
  len := by simp only [List.length_set]; exact h.len
  tab := fun k hk => by
    have hl := h.len
    refine zij (zij ?_ (by omega)) (by omega)
    by_cases e : i = k
    · subst e; exact zje (by omega)
    · exact zij (h.tab k hk) (by omega)
  pts := fun k hk => by
    have hl := h.len
    refine zij ?_ (by omega)
    by_cases e : i = k
    · subst e; exact zje (by simp only [List.length_set]; omega)
    · exact zij (zij (h.pts k hk) (by omega)) (by omega)
  rul := fun k hk => by
    have hl := h.len
    by_cases e : i = k
    · subst e; exact zje (by simp only [List.length_set]; omega)
    · exact zij (zij (zij (h.rul k hk) (by omega)) (by omega)) (by omega)
theorem znq {L : List V} {i : Nat} {x : V} (h : L[i]? = some x) : (L.map V.peek)[i]? = some x.peek := by rw [List.getElem?_map, h]; rfl
theorem SitAt.peek {L : List V} {R : List Sitting} (h : SitAt L R) : SitAt (L.map V.peek) R where
  len := by rw [List.length_map]; exact h.len
  tab := fun k hk => znq (h.tab k hk)
  pts := fun k hk => znq (h.pts k hk)
  rul := fun k hk => znq (h.rul k hk)
theorem RulAt.put {L : List V} {R : List Ruling} {i : Nat} {m : Bool} {T s : Nat} (h : RulAt L R) (hi : i < R.length) :
    RulAt ((L.set (i * 3 + 2) (.own m T s (R[i].points.map cI))).map V.peek) R where
  len := by rw [List.length_map, List.length_set]; exact h.len
  rnd := fun k hk => znq (zij (h.rnd k hk) (by omega))
  tab := fun k hk => znq (zij (h.tab k hk) (by omega))
  pts := fun k hk => by
    have hl := h.len
    by_cases e : i = k
    · subst e; exact znq (zje (by omega))
    · exact znq (zij (h.pts k hk) (by omega))
abbrev cpC (c : Club) (v : V) : List V := [I c.size, I c.start, I c.absent, I c.window, .own false 3 1 (c.places.map cI), Bo c.share, .own false 88 4 (c.members.map Member.cells), v]
theorem yX49 {p : Prop} (h : p := by (simp (disch := omega) only [go_sem, dopV, Option.map_some, Option.map_none, Option.bind_some, Option.bind_none, ↓reduceIte, Nat.reduceEqDiff, Nat.reduceLT, Nat.reduceLeDiff, Nat.reduceAdd, Nat.reduceMul, Nat.reduceSub, Nat.zero_add, Nat.add_zero, Nat.zero_le, Nat.zero_mul, Nat.mul_one, Nat.one_mul, Int.natCast_zero, Int.toNat_zero, Int.reduceToNat, Int.reduceLT, Int.reduceLE, Int.reduceEq, decide_true, decide_false, true_and, and_true, Bool.and_self, Bool.and_true, Bool.true_and, Bool.not_true, Bool.not_false, IntWalk.toNatUp, IntWalk.iteOmega, IntWalk.i64_in, Option.isSome_some, not_true_eq_false, not_false_eq_true, Option.getD_some, Option.getD_none, Int.toNat_natCast, List.length_map, List.getElem?_map, List.getElem?_eq_getElem, V.flat, V.one, List.all_cons, List.all_nil, *, List.forall_mem_map, implies_true, zec, Value.oneCell']; exact rfl)) : p := h
theorem yX50 {p : Prop} (h : p := by (simp (disch := omega) only [go_sem, dopV, Option.map_some, Option.map_none, Option.bind_some, Option.bind_none, ↓reduceIte, Nat.reduceEqDiff, Nat.reduceLT, Nat.reduceLeDiff, Nat.reduceAdd, Nat.reduceMul, Nat.reduceSub, Nat.zero_add, Nat.add_zero, Nat.zero_le, Nat.zero_mul, Nat.mul_one, Nat.one_mul, Int.natCast_zero, Int.toNat_zero, Int.reduceToNat, Int.reduceLT, Int.reduceLE, Int.reduceEq, decide_true, decide_false, true_and, and_true, Bool.and_self, Bool.and_true, Bool.true_and, Bool.not_true, Bool.not_false, IntWalk.toNatUp, IntWalk.iteOmega, IntWalk.i64_in, Option.isSome_some, not_true_eq_false, not_false_eq_true, Option.getD_some, Option.getD_none, Int.toNat_natCast, List.length_map, List.getElem?_map, List.getElem?_eq_getElem, V.flat, V.one, List.all_cons, List.all_nil, *, List.forall_mem_map, implies_true, zec, Value.oneCell']; try exact rfl)) : p := h
theorem yX51 {p : Prop} (h : p := by first | exact rfl | (simp (disch := omega) only [go_sem, dopV, Option.map_some, Option.map_none, Option.bind_some, Option.bind_none, ↓reduceIte, Nat.reduceEqDiff, Nat.reduceLT, Nat.reduceLeDiff, Nat.reduceAdd, Nat.reduceMul, Nat.reduceSub, Nat.zero_add, Nat.add_zero, Nat.zero_le, Nat.zero_mul, Nat.mul_one, Nat.one_mul, Int.natCast_zero, Int.toNat_zero, Int.reduceToNat, Int.reduceLT, Int.reduceLE, Int.reduceEq, decide_true, decide_false, true_and, and_true, Bool.and_self, Bool.and_true, Bool.true_and, Bool.not_true, Bool.not_false, IntWalk.toNatUp, IntWalk.iteOmega, IntWalk.i64_in, Option.isSome_some, not_true_eq_false, not_false_eq_true, Option.getD_some, Option.getD_none, Int.toNat_natCast, List.length_map, List.getElem?_map, List.getElem?_eq_getElem, V.flat, V.one, List.all_cons, List.all_nil, *, List.forall_mem_map, implies_true, zec, Value.oneCell']; exact rfl)) : p := h
theorem zwb (c : Club) (hs : c.Small) : PC Try.prog 17 [c.val] c.val := by
  have q1 := hs.rounds
  have q2 := hs.members
  have q3 := hs.places
  refine DC.of_run Try.func17 rfl Try.ntmps17 Try.results17 (by simp) (fun _ => ?_); simp only [zap, zar, go_sem, Nat.zero_add, Nat.reduceAdd]
  repeat' (first | (with_reducible first | refine DS.seq ?_ | refine DS.regionL ?_) | (with_reducible refine DS.boxS yU yE yU (fun _ hfr => ?_); have hfr := zib hfr; simp only [zfq, zgf, and_true] at hfr; simp only [zbh, zbz, zbg, zbs, zbf, zba, zbk, zbi, zce, zby, zbp, zbx, zbr, zbq]) | fail)
  rename_i b1 hb1
  refine DS.allocS yR yU yU (fun b2 h2 => ?_)
  have n1 : ¬ b1 = b2 := fun e => by rw [zab, if_pos e] at h2; cases h2
  have n1' : ¬ b2 = b1 := fun e => n1 e.symm
  clear h2 hb1
  have e0 : (Value.agg #[.int .i64 0, .int .i64 0, .int .i64 0, .int .i64 0, .slice none 0 0, .bool false, .slice none 0 0, .slice none 0 0]).cells.toList.map V.v = zdn := rfl
  rw [e0]
  clear e0
  repeat' (first | (with_reducible first | refine DS.fltS yU yU yX49 ?_ | refine DS.opsNil ?_ | refine DS.seq ?_ | refine DS.regionL ?_) | (refine DS.store yR yX49 yX49 yX49 yX49 yU (by exact ⟨by with_unfolding_all rfl, by (try simp only [List.length_map, List.length_append, List.length_set, List.length_replicate, List.length_cons, List.length_nil]); omega⟩) ?_; simp only [zbu, zax, zbe, zcd, zbm, zbl, zbn]; try simp only [zak, zac, zad, Nat.reduceEqDiff, ↓reduceIte, zaf, zag, zao, zae, zai, zal, zah]) | refine DS.drawL (id := 1) [0, 1, 2, 3, 4, 5, 6] 7 (by kernel_rfl) zcr (by simp only [zaw, zbb, zbc, zbd, zav]; exact rfl) (by simp only [zas, zat, List.drop_nil]; exact rfl) ?_ | (with_reducible first | refine DD.fltS yU yU yU yX49 ?_ | refine DD.nil0 ?_) | refine DD.pcS inferInstance (zqj c.places (by omega)) yU yX50 ?_; simp only [zbo, zbw, Nat.reduceEqDiff, ↓reduceIte] | (refine DD.append (mm := false) yU yX49 yX49 yU (by decide) yX49 (by first | exact .inl rfl | exact .inr ⟨rfl, rfl⟩) yX49 yX51 (by first | exact zan zcq _ | exact zan zcx _ | exact zan Member.len _ | exact zan Sitting.len _ | exact zan Ruling.len _ | (simp only [List.mem_cons, List.not_mem_nil, or_false, forall_eq]; rfl) | simp) ⟨by (try simp only [List.length_map, List.length_cons, List.length_nil, List.length_append, List.length_take, List.length_drop]); omega, by decide⟩ ?_; simp only [zak, zac, zad, Nat.reduceEqDiff, ↓reduceIte, zaf, zag, zao, zae, zai, zal, zah]; simp only [zbo, zbw, Nat.reduceEqDiff, ↓reduceIte]) | fail)
  simp only [setS, n1, n1', ↓reduceIte, zch, zcc, List.nil_append]
  by_cases h0 : c.rounds = []
  · simp only [h0, List.map_nil]
    repeat' (first | (with_reducible first | refine DS.fltS yU yU yE ?_ | refine DS.opsNil ?_ | refine DS.seq ?_ | refine DS.regionL ?_ | refine DS.block ?_) | (refine DS.append (mm := false) yU yE yE yU (by decide) yE (by first | exact .inl rfl | exact .inr ⟨rfl, rfl⟩) yE yX0 (by first | exact zan zcq _ | exact zan zcx _ | exact zan Member.len _ | exact zan Sitting.len _ | exact zan Ruling.len _ | (simp only [List.mem_cons, List.not_mem_nil, or_false, forall_eq]; rfl) | simp) ⟨by (try simp only [List.length_map, List.length_cons, List.length_nil, List.length_append, List.length_take, List.length_drop]); omega, by decide⟩ ?_; simp only [zak, zac, zad, Nat.reduceEqDiff, ↓reduceIte, zaf, zag, zao, zae, zai, zal, zah]) | (refine DS.store yR yE yE yE yE yU (by exact ⟨by with_unfolding_all rfl, by (try simp only [List.length_map, List.length_append, List.length_set, List.length_replicate, List.length_cons, List.length_nil]); omega⟩) ?_; simp only [zbu, zax, zbe, zcd, zbm, zbl, zbn]; try simp only [zak, zac, zad, Nat.reduceEqDiff, ↓reduceIte, zaf, zag, zao, zae, zai, zal, zah]) | fail)
    try simp only [setS, n1, n1', ↓reduceIte, zch, zcc]
    refine DS.mapO (b := b1) V.peek (fun _ _ _ h => V.peek_Rl h) zeo (by simp only [zab, n1, n1', ↓reduceIte]; exact rfl) ?_
    simp only [setS, n1, n1', ↓reduceIte]
    refine DS.loopS [1, 2] (by (simp only [go_sem, Nat.reduceEqDiff, ↓reduceIte]; exact rfl)) (fun (y : Nat) => [(3, I y)]) (fun (y : Nat) => [(b2, .cells zdn 26), (b1, .cells ((cpC c (.own false 81 3 [])).map V.peek) 26)]) (fun (y : Nat) => y = 0) (fun (y : Nat) => y) 0 yS (fun b o e => by exact e) rfl (fun y B hI hB => ?_); try dsimp only at hI hB; simp only [zaq, zau]
    subst hI
    simp only [cpC, List.map_cons, List.map_nil]
    repeat' (first | (with_reducible first | refine DS.fltS yU yU yE ?_ | refine DS.opsNil ?_ | refine DS.seq ?_ | refine DS.regionL ?_ | (refine DS.cE yE ?_; refine CG.no ?_) | refine DS.exit yU ?_) | (refine DS.store yR yE yE yE yE yU (by exact ⟨by with_unfolding_all rfl, by (try simp only [List.length_map, List.length_append, List.length_set, List.length_replicate, List.length_cons, List.length_nil]); omega⟩) ?_; simp only [zbu, zax, zbe, zcd, zbm, zbl, zbn]; try simp only [zak, zac, zad, Nat.reduceEqDiff, ↓reduceIte, zaf, zag, zao, zae, zai, zal, zah]) | fail)
    refine DS.retW [] (vs := [.agg [I c.size, I c.start, I c.absent, I c.window, .lst (c.places.map cI), Bo c.share, .lst (c.members.map Member.cells), .lst []]]) (by simp only [setS, n1, n1', ↓reduceIte, zax, zbe, zcc, zch, zdn, List.map_cons, List.map_nil, zce, zbi, Nat.reduceAdd, Nat.zero_add]; (simp (disch := omega) only [go_sem, dopV, Option.map_some, Option.map_none, Option.bind_some, Option.bind_none, ↓reduceIte, Nat.reduceEqDiff, Nat.reduceLT, Nat.reduceLeDiff, Nat.reduceAdd, Nat.reduceMul, Nat.reduceSub, Nat.zero_add, Nat.add_zero, Nat.zero_le, Nat.zero_mul, Nat.mul_one, Nat.one_mul, Int.natCast_zero, Int.toNat_zero, Int.reduceToNat, Int.reduceLT, Int.reduceLE, Int.reduceEq, decide_true, decide_false, true_and, and_true, Bool.and_self, Bool.and_true, Bool.true_and, Bool.not_true, Bool.not_false, IntWalk.toNatUp, IntWalk.iteOmega, IntWalk.i64_in, Option.isSome_some, not_true_eq_false, not_false_eq_true, Option.getD_some, Option.getD_none, Int.toNat_natCast, List.length_map, List.getElem?_map, List.getElem?_eq_getElem, V.flat, V.one, List.all_cons, List.all_nil]; try exact rfl)) (fun d o e => by cases e) ?_
    show _ = c.val
    rw [Club.val, Club.cells, h0]
    rfl
  have hpos : 0 < c.rounds.length := List.length_pos_iff.2 h0
  refine DS.step rfl rfl yR (OpS.appG (g := ⟨[], none⟩) (ml := c.rounds.map Sitting.cells) rfl yH yH yR yR (by decide) yH rfl yH yH (by rw [List.length_map]; omega) (by intro x hx; obtain ⟨y, -, rfl⟩ := List.mem_map.1 hx; rfl) ⟨by simp only [List.length_map, List.length_nil]; omega, by decide⟩) (fun u2 E' S4 hu2 => ?_)
  obtain ⟨rfl, b, cap, junk, rfl, m1, m2, m3⟩ := hu2
  have hml : ([] : List (List V)) ++ (c.rounds.map Sitting.cells).map (·.map V.copy) = c.rounds.map Sitting.cells := by
    rw [List.nil_append, List.map_map]; rfl
  rw [hml] at m1 ⊢
  have k1 := m1.look
  have k2 := m1.le
  have k3 := m1.cap
  rw [List.length_map] at k2
  simp only [GR.cell_some, zct, List.length_map]
  have e1 : ¬ b = b1 := fun h => by
    rcases m2 with ⟨_, _, h2⟩ | h2
    · cases h2
    · rw [h, zab, if_neg n1', zab, if_pos rfl] at h2; cases h2
  have e2 : ¬ b = b2 := fun h => by
    rcases m2 with ⟨_, _, h2⟩ | h2
    · cases h2
    · rw [h, zab, if_pos rfl] at h2; cases h2
  have e1' : ¬ b1 = b := fun h => e1 h.symm
  have e2' : ¬ b2 = b := fun h => e2 h.symm
  have f1 := m3 b1 e1' (fun _ _ h => by cases h)
  have f2 := m3 b2 e2' (fun _ _ h => by cases h)
  simp only [zab, n1', ↓reduceIte] at f1 f2
  refine DS.reS (S' := [(b1, .cells (cpC c (.lst (c.rounds.map Sitting.cells))) 26), (b2, .cells zdn 26), (b, .cells ((c.rounds.map Sitting.cells).flatten ++ junk) 81)]) (fun d o e => by
    simp only [zab, zca] at e
    split at e
    · rename_i h; subst h; rw [f1]; exact e
    split at e
    · rename_i h; subst h; rw [f2]; exact e
    split at e
    · rename_i h; subst h; rw [k1]; exact e
    · cases e) ?_
  clear m1 m2 m3 k1 hml f1 f2
  repeat' (first | (with_reducible first | refine DS.fltS yU yU yE ?_ | refine DS.opsNil ?_ | refine DS.seq ?_ | refine DS.regionL ?_ | refine DS.block ?_) | (refine DS.store yR yE yE yE yE yU (by exact ⟨by with_unfolding_all rfl, by (try simp only [List.length_map, List.length_append, List.length_set, List.length_replicate, List.length_cons, List.length_nil]); omega⟩) ?_; simp only [zbu, zax, zbe, zcd, zbm, zbl, zbn]; try simp only [zak, zac, zad, Nat.reduceEqDiff, ↓reduceIte, zaf, zag, zao, zae, zai, zal, zah]) | fail)
  simp only [setS, ↓reduceIte, zch, zcc]
  refine DS.loopS [1, 2] (by (simp only [go_sem, Nat.reduceEqDiff, ↓reduceIte]; exact rfl)) (fun (y : Nat × List V) => [(3, I y.1)]) (fun (y : Nat × List V) => [(b1, .cells (cpC c (.v (.slice (some ⟨b, 0, none⟩) c.rounds.length cap))) 26), (b2, .cells zdn 26), (b, .cells y.2 81)]) (fun (y : Nat × List V) => y.1 ≤ c.rounds.length ∧ SitAt y.2 c.rounds) (fun (y : Nat × List V) => c.rounds.length - y.1) (0, (c.rounds.map Sitting.cells).flatten ++ junk) yS (fun b o e => by exact e) ⟨Nat.zero_le _, sitAt_flat _ _⟩ (fun y B hI hB => ?_); try dsimp only at hI hB; simp only [zaq, zau]
  obtain ⟨i, L⟩ := y
  dsimp only at hI hB ⊢
  have hB0 := hB
  clear hB
  obtain ⟨g1, g2⟩ := hI
  by_cases hi : (i : Int) < (c.rounds.length : Int)
  · have hi' : i < c.rounds.length := by omega
    have hsm := hs.round _ (List.getElem_mem hi')
    have hL := g2.len
    have h1 := g2.tab i hi'
    have h2 := g2.pts i hi'
    have h3 := g2.rul i hi'
    repeat' (first | (with_reducible first | refine DS.fltS yU yU yE ?_ | refine DS.opsNil ?_ | refine DS.seq ?_ | refine DS.regionL ?_ | (refine DS.cE yE ?_; refine CG.yes ?_) | refine DS.block ?_ | refine DS.skip ?_) | fail)
    refine DS.drawPL (id := 7) [(b1, .cells (cpC c (.v (.slice (some ⟨b, 0, none⟩) c.rounds.length cap))) 26), (b2, .cells zdn 26), (b, .cells L 81)] [] [1, 2] [0, 3, 4, 5, 6, 7, 8, 9, 10, 11, 12, 13, 14, 15, 16, 17] 18 rfl (by kernel_rfl) (by decide) zcr (fun _ _ e => ⟨e, rfl⟩) (fun _ _ e => by cases e)
      ⟨_, _, _, _, _, _, rfl, rfl, yG, _, _, _, _, _, _, rfl, rfl, yG, rfl⟩ (by simp only [zaw, zbb, zbc, zbd, zav]; exact rfl) (by simp only [zas, zat, List.drop_nil]; exact rfl) ?_
    have q5 := hsm.rulings
    by_cases hr0 : c.rounds[i].rulings = []
    · repeat' (first | (with_reducible first | refine DS.fltS yU yU yE ?_ | refine DS.opsNil ?_ | refine DS.seq ?_ | refine DS.regionL ?_ | refine DS.block ?_) | (refine DS.store yR yE yE yE yE yU (by exact ⟨by with_unfolding_all rfl, by (try simp only [List.length_map, List.length_append, List.length_set, List.length_replicate, List.length_cons, List.length_nil]); omega⟩) ?_; simp only [zbu, zax, zbe, zcd, zbm, zbl, zbn]; try simp only [zak, zac, zad, Nat.reduceEqDiff, ↓reduceIte, zaf, zag, zao, zae, zai, zal, zah]) | (with_reducible first | refine DD.fltS yU yU yU yE ?_ | refine DD.nil0 ?_) | refine DD.pcS inferInstance (zmp c.rounds[i].tables hsm.tables hsm.table) yU yF ?_; simp only [zbo, zbw, Nat.reduceEqDiff, ↓reduceIte] | refine DD.pcS inferInstance (zmp c.rounds[i].points hsm.points hsm.point) yU yF ?_; simp only [zbo, zbw, Nat.reduceEqDiff, ↓reduceIte] | (refine DD.append (mm := false) yU yE yE yU (by decide) yE (by first | exact .inl rfl | exact .inr ⟨rfl, rfl⟩) yE yX0 (by first | exact zan zcq _ | exact zan zcx _ | exact zan Member.len _ | exact zan Sitting.len _ | exact zan Ruling.len _ | (simp only [List.mem_cons, List.not_mem_nil, or_false, forall_eq]; rfl) | simp) ⟨by (try simp only [List.length_map, List.length_cons, List.length_nil, List.length_append, List.length_take, List.length_drop]); omega, by decide⟩ ?_; simp only [zak, zac, zad, Nat.reduceEqDiff, ↓reduceIte, zaf, zag, zao, zae, zai, zal, zah]; simp only [zbo, zbw, Nat.reduceEqDiff, ↓reduceIte]) | fail)
      simp only [setS, e1, e2, e1', e2', ↓reduceIte]
      refine DS.mapO (b := b) V.peek (fun _ _ _ h => V.peek_Rl h) zeo (by simp only [zab, e1, e2, e1', e2', ↓reduceIte]; exact rfl) ?_
      have g3 := g2.put hi'
      rw [hr0] at g3
      have hL' : (((L.set (i * 3) (.lst (c.rounds[i].tables.map cR))).set (i * 3 + 1) (.lst (c.rounds[i].points.map cR))).set (i * 3 + 2) (.own false 78 3 [])).map V.peek = (((L.set (i * 3) (.lst (c.rounds[i].tables.map cR))).set (i * 3 + 1) (.lst (c.rounds[i].points.map cR))).set (i * 3 + 2) (.lst (List.map Ruling.cells []))).map V.peek := by
        simp only [List.map_set]; rfl
      have g4 := g3.peek
      rw [← hL'] at g4
      clear hL' g3
      generalize hgL : (((L.set (i * 3) (.lst (c.rounds[i].tables.map cR))).set (i * 3 + 1) (.lst (c.rounds[i].points.map cR))).set (i * 3 + 2) (.own false 78 3 [])).map V.peek = L' at g4
      simp only [setS, e1, e2, e1', e2', ↓reduceIte, hgL]
      have h6 := g4.rul i hi'
      rw [hr0] at h6
      clear hgL
      refine DS.loopS [1, 2, 3, 4] (by (simp only [go_sem, Nat.reduceEqDiff, ↓reduceIte]; exact rfl)) (fun (y : Nat) => [(5, I y)]) (fun (y : Nat) => [(b1, .cells (cpC c (.v (.slice (some ⟨b, 0, none⟩) c.rounds.length cap))) 26), (b2, .cells zdn 26), (b, .cells L' 81)]) (fun (y : Nat) => y = 0) (fun (y : Nat) => y) 0 yS (fun b o e => by exact e) rfl (fun y B hI hB => ?_); try dsimp only at hI hB; simp only [zaq, zau]
      subst hI
      repeat' (first | (with_reducible first | refine DS.fltS yU yU yE ?_ | refine DS.opsNil ?_ | refine DS.seq ?_ | refine DS.regionL ?_ | (refine DS.cE yE ?_; refine CG.no ?_) | refine DS.blk ?_ | refine DS.exit yU ?_) | fail)
      refine DS.back (hB0 (i + 1, L') _ _ (by dsimp only; omega) ⟨by dsimp only; omega, g4⟩ yS yS (fun d o e => by exact e))
    have hrpos : 0 < c.rounds[i].rulings.length := List.length_pos_iff.2 hr0
    repeat' (first | with_reducible refine DD.fltS yU yU yU yE ?_ | refine DD.pcS inferInstance (zmp c.rounds[i].tables hsm.tables hsm.table) yU yF ?_; simp only [zbo, zbw, Nat.reduceEqDiff, ↓reduceIte] | refine DD.pcS inferInstance (zmp c.rounds[i].points hsm.points hsm.point) yU yF ?_; simp only [zbo, zbw, Nat.reduceEqDiff, ↓reduceIte] | fail)
    refine DD.last rfl rfl rfl yR (OpS.appG (g := ⟨[], none⟩) (ml := c.rounds[i].rulings.map Ruling.cells) rfl yH yH yR yR (by decide) yH rfl yH yH (by rw [List.length_map]; omega) (by intro x hx; obtain ⟨y, -, rfl⟩ := List.mem_map.1 hx; rfl) ⟨by simp only [List.length_map, List.length_nil]; omega, by decide⟩) (fun u2 E' S4 hu2 hdis => ?_)
    obtain ⟨rfl, bk, capk, junkk, rfl, m1, m2, m3⟩ := hu2
    have hmlk : ([] : List (List V)) ++ (c.rounds[i].rulings.map Ruling.cells).map (·.map V.copy) = c.rounds[i].rulings.map Ruling.cells := by
      rw [List.nil_append, List.map_map]; rfl
    rw [hmlk] at m1 ⊢
    have k1 := m1.look
    have k4 := m1.le
    have k5 := m1.cap
    rw [List.length_map] at k4
    simp only [GR.cell_some, zct, List.length_map]
    have nk : ∀ d o, zaa [(b1, .cells (cpC c (.v (.slice (some ⟨b, 0, none⟩) c.rounds.length cap))) 26), (b2, .cells zdn 26), (b, .cells L 81)] d = some o → ¬ bk = d := fun d o e h => by
      subst h
      have h2 := hdis bk _ e
      rw [k1] at h2; cases h2
    have u1 := nk b1 (.cells (cpC c (.v (.slice (some ⟨b, 0, none⟩) c.rounds.length cap))) 26) (by simp only [zab, ↓reduceIte])
    have u2 := nk b2 (.cells zdn 26) (by simp only [zab, n1, ↓reduceIte])
    have u3 := nk b (.cells L 81) (by simp only [zab, e1', e2', ↓reduceIte])
    clear nk
    have u1' : ¬ b1 = bk := fun h => u1 h.symm
    have u2' : ¬ b2 = bk := fun h => u2 h.symm
    have u3' : ¬ b = bk := fun h => u3 h.symm
    refine DS.reS (S' := [(b1, .cells (cpC c (.v (.slice (some ⟨b, 0, none⟩) c.rounds.length cap))) 26), (b2, .cells zdn 26), (b, .cells L 81), (bk, .cells ((c.rounds[i].rulings.map Ruling.cells).flatten ++ junkk) 78)]) (fun d o e => by
      rw [zbt]
      by_cases hd : d = bk
      · subst hd
        simp only [zab, zca, u1', u2', u3', ↓reduceIte] at e
        rw [k1]; exact e
      · have e2 : zaa [(b1, .cells (cpC c (.v (.slice (some ⟨b, 0, none⟩) c.rounds.length cap))) 26), (b2, .cells zdn 26), (b, .cells L 81)] d = some o := by
          have hd' : ¬ bk = d := fun h => hd h.symm
          simpa only [zab, zca, hd', ↓reduceIte] using e
        rw [hdis d o e2]; exact e2) ?_
    clear m1 m2 m3 k1 hmlk hdis
    repeat' (first | (with_reducible first | refine DS.fltS yU yU yE ?_ | refine DS.opsNil ?_ | refine DS.seq ?_ | refine DS.regionL ?_ | refine DS.block ?_) | (refine DS.store yR yE yE yE yE yU (by exact ⟨by with_unfolding_all rfl, by (try simp only [List.length_map, List.length_append, List.length_set, List.length_replicate, List.length_cons, List.length_nil]); omega⟩) ?_; simp only [zbu, zax, zbe, zcd, zbm, zbl, zbn]; try simp only [zak, zac, zad, Nat.reduceEqDiff, ↓reduceIte, zaf, zag, zao, zae, zai, zal, zah]) | fail)
    simp only [setS, e1, e2, e1', e2', u1, u2, u3, u1', u2', u3', ↓reduceIte]
    have h6 := zje (L := (L.set (i * 3) (.lst (c.rounds[i].tables.map cR))).set (i * 3 + 1) (.lst (c.rounds[i].points.map cR))) (i := i * 3 + 2) (x := V.v (.slice (some ⟨bk, 0, none⟩) c.rounds[i].rulings.length capk)) (by simp only [List.length_set]; omega)
    have g4 := g2.put hi'
    have hgL : ((L.set (i * 3) (.lst (c.rounds[i].tables.map cR))).set (i * 3 + 1) (.lst (c.rounds[i].points.map cR))).set (i * 3 + 2) (.lst (c.rounds[i].rulings.map Ruling.cells)) = (((L.set (i * 3) (.lst (c.rounds[i].tables.map cR))).set (i * 3 + 1) (.lst (c.rounds[i].points.map cR))).set (i * 3 + 2) (V.v (.slice (some ⟨bk, 0, none⟩) c.rounds[i].rulings.length capk))).set (i * 3 + 2) (.lst (c.rounds[i].rulings.map Ruling.cells)) := by rw [List.set_set]
    rw [hgL] at g4
    clear hgL
    have h7 : i * 3 + 2 < (((L.set (i * 3) (.lst (c.rounds[i].tables.map cR))).set (i * 3 + 1) (.lst (c.rounds[i].points.map cR))).set (i * 3 + 2) (V.v (.slice (some ⟨bk, 0, none⟩) c.rounds[i].rulings.length capk))).length := by simp only [List.length_set]; omega
    generalize hgL : ((L.set (i * 3) (.lst (c.rounds[i].tables.map cR))).set (i * 3 + 1) (.lst (c.rounds[i].points.map cR))).set (i * 3 + 2) (V.v (.slice (some ⟨bk, 0, none⟩) c.rounds[i].rulings.length capk)) = L' at h6 g4 h7
    try simp only [hgL]
    clear hgL
    refine DS.loopS [1, 2, 3, 4] (by (simp only [go_sem, Nat.reduceEqDiff, ↓reduceIte]; exact rfl)) (fun (y : Nat × List V) => [(5, I y.1)]) (fun (y : Nat × List V) => [(b1, .cells (cpC c (.v (.slice (some ⟨b, 0, none⟩) c.rounds.length cap))) 26), (b2, .cells zdn 26), (b, .cells L' 81), (bk, .cells y.2 78)]) (fun (y : Nat × List V) => y.1 ≤ c.rounds[i].rulings.length ∧ RulAt y.2 c.rounds[i].rulings) (fun (y : Nat × List V) => c.rounds[i].rulings.length - y.1) (0, (c.rounds[i].rulings.map Ruling.cells).flatten ++ junkk) yS (fun b o e => by exact e) ⟨Nat.zero_le _, rulAt_flat _ _⟩ (fun y B hI hB => ?_); try dsimp only at hI hB; simp only [zaq, zau]
    obtain ⟨k, M⟩ := y
    dsimp only at hI hB ⊢
    obtain ⟨p1, p2⟩ := hI
    by_cases hk : (k : Int) < (c.rounds[i].rulings.length : Int)
    · have hk' : k < c.rounds[i].rulings.length := by omega
      have hM := p2.len
      have h8 := p2.pts k hk'
      have h9 := hsm.ruling _ (List.getElem_mem hk')
      repeat' (first | (with_reducible first | refine DS.fltS yU yU yE ?_ | refine DS.opsNil ?_ | refine DS.seq ?_ | refine DS.regionL ?_ | (refine DS.cE yE ?_; refine CG.yes ?_) | refine DS.blk ?_ | refine DS.block ?_ | refine DS.skip ?_) | (refine DS.store yR yE yE yE yE yU (by exact ⟨by with_unfolding_all rfl, by (try simp only [List.length_map, List.length_append, List.length_set, List.length_replicate, List.length_cons, List.length_nil]); omega⟩) ?_; simp only [zbu, zax, zbe, zcd, zbm, zbl, zbn]; try simp only [zak, zac, zad, Nat.reduceEqDiff, ↓reduceIte, zaf, zag, zao, zae, zai, zal, zah]) | refine DS.drawL (id := 11) [0, 1, 2, 3, 4, 5, 6, 7, 8, 9, 10, 11, 12, 13] 14 (by kernel_rfl) zcr (by simp only [zaw, zbb, zbc, zbd, zav]; exact rfl) (by simp only [zas, zat, List.drop_nil]; exact rfl) ?_ | (with_reducible first | refine DD.fltS yU yU yU yE ?_ | refine DD.nil0 ?_) | refine DD.pcS inferInstance (zqj c.rounds[i].rulings[k].points (Nat.le_trans h9 (by decide))) yU yT ?_; simp only [zbo, zbw, Nat.reduceEqDiff, ↓reduceIte] | fail)
      simp only [setS, u1', u2', u3', ↓reduceIte]
      refine DS.mapO (b := bk) V.peek (fun _ _ _ h => V.peek_Rl h) zeo (by simp only [zab, u1', u2', u3', ↓reduceIte]; exact rfl) ?_
      simp only [setS, u1', u2', u3', ↓reduceIte]
      refine DS.back (hB (k + 1, (M.set (k * 3 + 2) (.own false 3 1 (c.rounds[i].rulings[k].points.map cI))).map V.peek) _ _ (by dsimp only; omega) ⟨by dsimp only; omega, p2.put hk'⟩ yS yS (fun d o e => by exact e))
    · obtain rfl : k = c.rounds[i].rulings.length := by omega
      refine DS.freezeC (b := bk) (b' := b) (i := i * 3 + 2) (sz := 3) (len := c.rounds[i].rulings.length) (cap := capk) (l := M) (T := 78) (l' := L') (T' := 81) u3' (by simp only [zab, e1', e2', ↓reduceIte]) h6 (by simp only [zab, u1', u2', u3', ↓reduceIte]) p2.len ⟨k4, k5⟩ ?_
      rw [p2.chunk]
      simp only [setS, zbj, zbv, e1, e2, e1', e2', u1, u2, u3, u1', u2', u3', ↓reduceIte]
      have h6' := zje (x := V.lst (c.rounds[i].rulings.map Ruling.cells)) h7
      clear h6 hB
      repeat' (first | (with_reducible first | refine DS.fltS yU yU yE ?_ | refine DS.opsNil ?_ | refine DS.seq ?_ | refine DS.regionL ?_ | (refine DS.cE yE ?_; refine CG.no ?_) | refine DS.blk ?_ | refine DS.exit yU ?_) | fail)
      refine DS.back (hB0 (i + 1, L'.set (i * 3 + 2) (.lst (c.rounds[i].rulings.map Ruling.cells))) _ _ (by dsimp only; omega) ⟨by dsimp only; omega, g4⟩ yS yS (fun d o e => by exact e))
  · obtain rfl : i = c.rounds.length := by omega
    refine DS.freezeC (b := b) (b' := b1) (i := 7) (sz := 3) (len := c.rounds.length) (cap := cap) (l := L) (T := 81) (l' := cpC c (.v (.slice (some ⟨b, 0, none⟩) c.rounds.length cap))) (T' := 26) e1' (by simp only [zab, ↓reduceIte]) yR (by simp only [zab, e1', e2', ↓reduceIte]) g2.len ⟨k2, k3⟩ ?_
    rw [g2.chunk]
    simp only [setS, zbj, zbv, e1, e2, e1', e2', ↓reduceIte, zch, zcc]
    repeat' (first | (with_reducible first | refine DS.fltS yU yU yE ?_ | refine DS.opsNil ?_ | refine DS.seq ?_ | refine DS.regionL ?_ | (refine DS.cE yE ?_; refine CG.no ?_) | refine DS.exit yU ?_) | (refine DS.store yR yE yE yE yE yU (by exact ⟨by with_unfolding_all rfl, by (try simp only [List.length_map, List.length_append, List.length_set, List.length_replicate, List.length_cons, List.length_nil]); omega⟩) ?_; simp only [zbu, zax, zbe, zcd, zbm, zbl, zbn]; try simp only [zak, zac, zad, Nat.reduceEqDiff, ↓reduceIte, zaf, zag, zao, zae, zai, zal, zah]) | fail)
    refine DS.retW [] (vs := [c.val]) (by simp only [setS, n1, n1', ↓reduceIte, zax, zbe, zcc, zch, zdn, List.map_cons, List.map_nil, zce, zbi, Nat.reduceAdd, Nat.zero_add]; (simp (disch := omega) only [go_sem, dopV, Option.map_some, Option.map_none, Option.bind_some, Option.bind_none, ↓reduceIte, Nat.reduceEqDiff, Nat.reduceLT, Nat.reduceLeDiff, Nat.reduceAdd, Nat.reduceMul, Nat.reduceSub, Nat.zero_add, Nat.add_zero, Nat.zero_le, Nat.zero_mul, Nat.mul_one, Nat.one_mul, Int.natCast_zero, Int.toNat_zero, Int.reduceToNat, Int.reduceLT, Int.reduceLE, Int.reduceEq, decide_true, decide_false, true_and, and_true, Bool.and_self, Bool.and_true, Bool.true_and, Bool.not_true, Bool.not_false, IntWalk.toNatUp, IntWalk.iteOmega, IntWalk.i64_in, Option.isSome_some, not_true_eq_false, not_false_eq_true, Option.getD_some, Option.getD_none, Int.toNat_natCast, List.length_map, List.getElem?_map, List.getElem?_eq_getElem, V.flat, V.one, List.all_cons, List.all_nil]; try exact rfl)) (fun d o e => by cases e) rfl
end Go.XL
namespace Go.XL
open Go.Proofs
set_option maxRecDepth 100000
set_option maxHeartbeats 8000000
def zwp (P : Program) (n : Nat) (fs : List Field) : Bool := fs.all fun f => decide (f.offset < n) && match P.underlying f.type with | some (.int _) => true | _ => false
theorem zle {P : Program} (d : Nat) (xs : Array Value) (hx : ∀ (i : Nat) (h : i < xs.size), ∃ k a, xs[i] = .int k a) (w : World) : ∀ (fs : List Field), zwp P xs.size fs = true → (Op.eqFields (d + 1) xs xs fs).run P w = .ok true w
  | [], _ => by simp [Op.eqFields]
  | f :: fs, h => by
    rw [zwp, List.all_cons, Bool.and_eq_true, Bool.and_eq_true] at h
    obtain ⟨⟨h1, h2⟩, h3⟩ := h
    have h1 := of_decide_eq_true h1
    obtain ⟨k, a, hv⟩ := hx f.offset h1
    have hg : xs[f.offset]? = some (.int k a) := by rw [Array.getElem?_eq_getElem h1, hv]
    have ih := zle d xs hx w fs h3
    cases hu : P.underlying f.type with
    | none => rw [hu] at h2; cases h2
    | some u =>
      rw [hu] at h2
      cases u with
      | int k' =>
        have hp : (part f.type xs f.offset).run P w = .ok (.int k a) w := by simp [part, isAgg, run_underlying hu, hg]
        rw [Op.eqFields]
        split
        · simp [hp, run_equalIn_int w d f.type k k' a a hu, ih]
        · exact ih
      | _ => cases h2
theorem neq_agg_run {P : Program} {T : TypeId} {x y : Operand} {xs : Array Value} (hx : ∀ (i : Nat) (h : i < xs.size), ∃ k a, xs[i] = .int k a) (hm : P.eqGuardType P.depth T = false) (ht : P.underlying T = some (.struct (P.fieldsOf T))) (hp : P.stoodInHeld T = false) (hf : zwp P xs.size (P.fieldsOf T).toList = true) (w : World) :
    (do eqGuard .neq T x y (.agg xs) (.agg xs); binOp .neq T (.agg xs) (.agg xs) : Sem Value).run P w = .ok (.bool false) w := by
  rw [Sem.run_bind, run_eqGuard_agg w _ _ _ _ _ _ hm, Result.andThen_ok, run_neq_struct, run_equalIn_agg w _ _ _ _ ht hp, zle 9998 xs hx w _ hf]
  rfl
theorem DS.neqI {P : Program} {n : Nat} {r : Rr} {Q : VEnv → Sto → Prop} {k : List Fr} {E : VEnv} {S : Sto} {ops l : List Oper} {t : Tmp} {T T' ty : TypeId} {x y : Operand} {pos : String} {af : Array Edge} {cs : List Value}
    (hx : evV E x = some (.agg (cs.map V.v))) (hy : evV E y = some (.agg (cs.map V.v))) (hd : decide (t < n) = true) (hc : ∀ c ∈ cs, ∃ k a, c = .int k a)
    (hm : P.eqGuardType P.depth T = false) (ht : P.underlying T = some (.struct (P.fieldsOf T))) (hp : P.stoodInHeld T = false) (hf : zwp P cs.length (P.fieldsOf T).toList = true)
    (q : DS P n r Q (.ops ops l :: k) ((t, .v (.bool false)) :: E) S) : DS P n r Q (.ops ops (⟨some t, .binOp .neq T x y T', ty, pos, af, none⟩ :: l) :: k) E S := fun K W a w ⟨K', D, hvv, hold, env, hb, ha, s⟩ hw => by
  have hrl : ∀ (cs : List Value) (ys : List Value), RlL hvv (cs.map V.v) ys → ys = cs := by
    intro cs
    induction cs with
    | nil => intro ys h; simpa only [List.map_nil, RlL] using h
    | cons c cs ih =>
      intro ys h
      simp only [List.map_cons, RlL] at h
      obtain ⟨z, zs, rfl, h2, h3⟩ := h
      simp only [V.Rl] at h2
      rw [ih zs h3, h2]
  obtain ⟨v1, e1, r1⟩ := s.rl _ _ hx
  obtain ⟨v2, e2, r2⟩ := s.rl _ _ hy
  simp only [V.Rl] at r1 r2
  obtain ⟨y1, rfl, r1⟩ := r1
  obtain ⟨y2, rfl, r2⟩ := r2
  obtain rfl := hrl _ _ r1
  obtain rfl := hrl _ _ r2
  have hr : (execOp a.eval ⟨some t, .binOp .neq T x y T', ty, pos, af, none⟩).run P w = .ok (.value (.bool false)) w := by
    have hb := neq_agg_run (x := x) (y := y) (xs := y2.toArray) (fun i h => hc _ (by simp)) hm ht hp (by simpa using hf) w
    simp only [execOp, ha.ev e1, ha.ev e2, Sem.run_bind] at hb ⊢
    simp only [hb, Result.andThen_ok, Sem.run_pure]
  refine zml (zhn rfl a) ⟨fun _ _ => trivial, ?_⟩
  rw [Oper.semAt_eq _ _ _ (zfa yR), hr]
  have hd' : dok n (some t) = true := hd
  exact q K W _ w ⟨K', D, hvv, hold, XL.put env (some t) (.bool false), hb, ha.put' hd' _, s.put (some t) (V.Rl_v) fun _ _ => V.free_Own rfl _⟩ hw
theorem sameRounds_refl (s : Sitting) (hs : s.Small) : PC Try.prog 63 [.agg s.cells, .agg s.cells] (Bo true) := by
  have q := hs.rulings
  refine DC.of_run Try.func63 rfl Try.ntmps63 Try.results63 (by simp) (fun _ => ?_); simp only [zap, zar, go_sem, Nat.zero_add, Nat.reduceAdd]
  repeat' (first | (with_reducible first | refine DS.fltS yU yU yE ?_ | refine DS.opsNil ?_ | refine DS.seq ?_ | refine DS.regionL ?_ | (refine DS.cE yE ?_; refine CG.no ?_) | (refine DS.gE yU yE ?_; refine GG.run ?_) | refine DS.block ?_ | refine DS.skip ?_) | refine DS.pcS inferInstance (zmg _ _) yR yT ?_ | (refine DS.boxF (t := 2) yU yE yU ?_; simp only [zbh, zbz, zbg, zbs, zbf, zba, zbk, zbi, zce, zby, zbp, zbx, zbr, zbq]) | (refine DS.boxF (t := 3) yU yE yU ?_; simp only [zbh, zbz, zbg, zbs, zbf, zba, zbk, zbi, zce, zby, zbp, zbx, zbr, zbq]) | fail)
  refine DS.loopK [2, 3] (by (simp only [go_sem, Nat.reduceEqDiff, ↓reduceIte]; exact rfl)) (fun (i : Nat) => [(5, I i)]) (fun (i : Nat) => i ≤ s.rulings.length) (fun (i : Nat) => s.rulings.length - i) 0 yS (Nat.zero_le _) (fun i B hI hB => ?_); try dsimp only at hI hB; simp only [zaq, zau]
  by_cases hi : (i : Int) < (s.rulings.length : Int)
  · have hi' : i < s.rulings.length := by omega
    repeat' (first | (with_reducible first | refine DS.fltS yU yU yE ?_ | refine DS.opsNil ?_ | refine DS.seq ?_ | refine DS.regionL ?_ | (refine DS.cE yE ?_; refine CG.yes ?_) | refine DS.block ?_ | refine DS.skip ?_) | refine DS.drawL (id := 6) [0, 1, 2, 3, 4, 5, 6, 7, 8, 9, 10, 11, 12] 13 (by kernel_rfl) zcr (by simp only [zaw, zbb, zbc, zbd, zav]; exact rfl) (by simp only [zas, zat, List.drop_nil]; exact rfl) ?_ | with_reducible refine DD.fltS yU yU yU yE ?_ | fail)
    refine DD.alloc yR yU yU (fun u1 a1 a1' => ?_)
    refine DD.alloc yR yU yU (fun u2 a2 a2' => ?_)
    have n1 : ¬ u1 = u2 := fun e => by rw [zab, if_pos e] at a2; cases a2
    have n1' : ¬ u2 = u1 := fun e => n1 e.symm
    clear a1 a1' a2 a2'
    have e0 : (Value.agg #[.int .i64 0, .int .i64 0, .slice none 0 0]).cells.toList.map V.v = [I 0, I 0, .v (.slice none 0 0)] := rfl
    rw [e0]
    clear e0
    refine DD.store (b := u1) (off := 0) (m := 3) (cl := [I 0, I 0, .v (.slice none 0 0)]) (T' := 78) yR yH yG yU (by simp only [zab, n1', ↓reduceIte]) yR ⟨by rfl, by decide⟩ (fun _ => MpOk.nil) ?_
    simp only [setS, n1', ↓reduceIte, zbn, zax, zbe, zcc, zch, Nat.reduceAdd, Nat.zero_add]
    repeat' (first | (with_reducible first | refine DS.fltS yU yU yE ?_ | refine DS.opsNil ?_ | refine DS.seq ?_ | refine DS.regionL ?_ | (refine DS.cE yE ?_; refine CG.no ?_) | (refine DS.gE yU yE ?_; refine GG.run ?_) | refine DS.blk ?_ | refine DS.skip ?_) | refine DS.pcS inferInstance (zjz _ _) yR yT ?_ | (refine DS.store yR yE yE yE yE yU (by exact ⟨by with_unfolding_all rfl, by (try simp only [List.length_map, List.length_append, List.length_set, List.length_replicate, List.length_cons, List.length_nil]); omega⟩) ?_; simp only [zbu, zax, zbe, zcd, zbm, zbl, zbn]; try simp only [zak, zac, zad, Nat.reduceEqDiff, ↓reduceIte, zaf, zag, zao, zae, zai, zal, zah]) | (with_reducible refine DD.nil ?_; simp only [zaq, zau]) | fail)
    refine DS.back (hB (i + 1) _ _ (by omega) (by omega) yS yS (fun d o e => by cases e))
  · repeat' (first | (with_reducible first | refine DS.fltS yU yU yE ?_ | refine DS.opsNil ?_ | refine DS.seq ?_ | refine DS.regionL ?_ | (refine DS.cE yE ?_; refine CG.no ?_) | refine DS.exit yU ?_) | refine DS.retT [] yE trivial ?_ | fail)
    rfl
theorem yX52 {p : Prop} (h : p := by (simp (disch := omega) only [go_sem, dopV, Option.map_some, Option.map_none, Option.bind_some, Option.bind_none, ↓reduceIte, Nat.reduceEqDiff, Nat.reduceLT, Nat.reduceLeDiff, Nat.reduceAdd, Nat.reduceMul, Nat.reduceSub, Nat.zero_add, Nat.add_zero, Nat.zero_le, Nat.zero_mul, Nat.mul_one, Nat.one_mul, Int.natCast_zero, Int.toNat_zero, Int.reduceToNat, Int.reduceLT, Int.reduceLE, Int.reduceEq, decide_true, decide_false, true_and, and_true, Bool.and_self, Bool.and_true, Bool.true_and, Bool.not_true, Bool.not_false, IntWalk.toNatUp, IntWalk.iteOmega, IntWalk.i64_in, Option.isSome_some, not_true_eq_false, not_false_eq_true, Option.getD_some, Option.getD_none, Int.toNat_natCast, List.length_map, List.getElem?_map, List.getElem?_eq_getElem, V.flat, V.one, List.all_cons, List.all_nil, Member.cells]; try exact rfl)) : p := h
theorem zqz (c : Club) (hs : c.Small) : PC Try.prog 21 [c.val, c.val] (Bo true) := by
  have q1 := hs.rounds
  have q2 := hs.members
  have q3 := hs.places
  refine DC.of_run Try.func21 rfl Try.ntmps21 Try.results21 (by simp) (fun _ => ?_); simp only [zap, zar, go_sem, Nat.zero_add, Nat.reduceAdd]
  repeat' (first | (with_reducible first | refine DS.fltS yU yU (by (simp (disch := omega) only [go_sem, dopV, Option.map_some, Option.map_none, Option.bind_some, Option.bind_none, ↓reduceIte, Nat.reduceEqDiff, Nat.reduceLT, Nat.reduceLeDiff, Nat.reduceAdd, Nat.reduceMul, Nat.reduceSub, Nat.zero_add, Nat.add_zero, Nat.zero_le, Nat.zero_mul, Nat.mul_one, Nat.one_mul, Int.natCast_zero, Int.toNat_zero, Int.reduceToNat, Int.reduceLT, Int.reduceLE, Int.reduceEq, decide_true, decide_false, true_and, and_true, Bool.and_self, Bool.and_true, Bool.true_and, Bool.not_true, Bool.not_false, IntWalk.toNatUp, IntWalk.iteOmega, IntWalk.i64_in, Option.isSome_some, not_true_eq_false, not_false_eq_true, Option.getD_some, Option.getD_none, Int.toNat_natCast, List.length_map, List.getElem?_map, List.getElem?_eq_getElem, V.flat, V.one, List.all_cons, List.all_nil, *, bne_self_eq_false]; exact rfl)) ?_ | refine DS.opsNil ?_ | refine DS.seq ?_ | refine DS.regionL ?_) | (with_reducible refine DS.cE (by (simp (disch := omega) only [go_sem, dopV, Option.map_some, Option.map_none, Option.bind_some, Option.bind_none, ↓reduceIte, Nat.reduceEqDiff, Nat.reduceLT, Nat.reduceLeDiff, Nat.reduceAdd, Nat.reduceMul, Nat.reduceSub, Nat.zero_add, Nat.add_zero, Nat.zero_le, Nat.zero_mul, Nat.mul_one, Nat.one_mul, Int.natCast_zero, Int.toNat_zero, Int.reduceToNat, Int.reduceLT, Int.reduceLE, Int.reduceEq, decide_true, decide_false, true_and, and_true, Bool.and_self, Bool.and_true, Bool.true_and, Bool.not_true, Bool.not_false, IntWalk.toNatUp, IntWalk.iteOmega, IntWalk.i64_in, Option.isSome_some, not_true_eq_false, not_false_eq_true, Option.getD_some, Option.getD_none, Int.toNat_natCast, List.length_map, List.getElem?_map, List.getElem?_eq_getElem, V.flat, V.one, List.all_cons, List.all_nil, *, bne_self_eq_false]; exact rfl)) ?_; with_reducible refine CG.no ?_) | (with_reducible refine DS.gE yU (by (simp (disch := omega) only [go_sem, dopV, Option.map_some, Option.map_none, Option.bind_some, Option.bind_none, ↓reduceIte, Nat.reduceEqDiff, Nat.reduceLT, Nat.reduceLeDiff, Nat.reduceAdd, Nat.reduceMul, Nat.reduceSub, Nat.zero_add, Nat.add_zero, Nat.zero_le, Nat.zero_mul, Nat.mul_one, Nat.one_mul, Int.natCast_zero, Int.toNat_zero, Int.reduceToNat, Int.reduceLT, Int.reduceLE, Int.reduceEq, decide_true, decide_false, true_and, and_true, Bool.and_self, Bool.and_true, Bool.true_and, Bool.not_true, Bool.not_false, IntWalk.toNatUp, IntWalk.iteOmega, IntWalk.i64_in, Option.isSome_some, not_true_eq_false, not_false_eq_true, Option.getD_some, Option.getD_none, Int.toNat_natCast, List.length_map, List.getElem?_map, List.getElem?_eq_getElem, V.flat, V.one, List.all_cons, List.all_nil, *, bne_self_eq_false]; exact rfl)) ?_; with_reducible refine GG.run ?_) | (with_reducible first | refine DS.block ?_ | refine DS.skip ?_) | refine DS.pcS inferInstance (zjz _ _) yR (by (simp (disch := omega) only [go_sem, dopV, Option.map_some, Option.map_none, Option.bind_some, Option.bind_none, ↓reduceIte, Nat.reduceEqDiff, Nat.reduceLT, Nat.reduceLeDiff, Nat.reduceAdd, Nat.reduceMul, Nat.reduceSub, Nat.zero_add, Nat.add_zero, Nat.zero_le, Nat.zero_mul, Nat.mul_one, Nat.one_mul, Int.natCast_zero, Int.toNat_zero, Int.reduceToNat, Int.reduceLT, Int.reduceLE, Int.reduceEq, decide_true, decide_false, true_and, and_true, Bool.and_self, Bool.and_true, Bool.true_and, Bool.not_true, Bool.not_false, IntWalk.toNatUp, IntWalk.iteOmega, IntWalk.i64_in, Option.isSome_some, not_true_eq_false, not_false_eq_true, Option.getD_some, Option.getD_none, Int.toNat_natCast, List.length_map, List.getElem?_map, List.getElem?_eq_getElem, V.flat, V.one, List.all_cons, List.all_nil, *, bne_self_eq_false]; try exact rfl)) ?_ | (refine DS.boxF (t := 2) yU (by (simp (disch := omega) only [go_sem, dopV, Option.map_some, Option.map_none, Option.bind_some, Option.bind_none, ↓reduceIte, Nat.reduceEqDiff, Nat.reduceLT, Nat.reduceLeDiff, Nat.reduceAdd, Nat.reduceMul, Nat.reduceSub, Nat.zero_add, Nat.add_zero, Nat.zero_le, Nat.zero_mul, Nat.mul_one, Nat.one_mul, Int.natCast_zero, Int.toNat_zero, Int.reduceToNat, Int.reduceLT, Int.reduceLE, Int.reduceEq, decide_true, decide_false, true_and, and_true, Bool.and_self, Bool.and_true, Bool.true_and, Bool.not_true, Bool.not_false, IntWalk.toNatUp, IntWalk.iteOmega, IntWalk.i64_in, Option.isSome_some, not_true_eq_false, not_false_eq_true, Option.getD_some, Option.getD_none, Int.toNat_natCast, List.length_map, List.getElem?_map, List.getElem?_eq_getElem, V.flat, V.one, List.all_cons, List.all_nil, *, bne_self_eq_false]; exact rfl)) yU ?_; simp only [zbh, zbz, zbg, zbs, zbf, zba, zbk, zbi, zce, zby, zbp, zbx, zbr, zbq]) | (refine DS.boxF (t := 3) yU (by (simp (disch := omega) only [go_sem, dopV, Option.map_some, Option.map_none, Option.bind_some, Option.bind_none, ↓reduceIte, Nat.reduceEqDiff, Nat.reduceLT, Nat.reduceLeDiff, Nat.reduceAdd, Nat.reduceMul, Nat.reduceSub, Nat.zero_add, Nat.add_zero, Nat.zero_le, Nat.zero_mul, Nat.mul_one, Nat.one_mul, Int.natCast_zero, Int.toNat_zero, Int.reduceToNat, Int.reduceLT, Int.reduceLE, Int.reduceEq, decide_true, decide_false, true_and, and_true, Bool.and_self, Bool.and_true, Bool.true_and, Bool.not_true, Bool.not_false, IntWalk.toNatUp, IntWalk.iteOmega, IntWalk.i64_in, Option.isSome_some, not_true_eq_false, not_false_eq_true, Option.getD_some, Option.getD_none, Int.toNat_natCast, List.length_map, List.getElem?_map, List.getElem?_eq_getElem, V.flat, V.one, List.all_cons, List.all_nil, *, bne_self_eq_false]; exact rfl)) yU ?_; simp only [zbh, zbz, zbg, zbs, zbf, zba, zbk, zbi, zce, zby, zbp, zbx, zbr, zbq]) | fail)
  refine DS.loopK [2, 3] (by (simp only [go_sem, Nat.reduceEqDiff, ↓reduceIte]; exact rfl)) (fun (i : Nat) => [(5, I i)]) (fun (i : Nat) => i ≤ c.members.length) (fun (i : Nat) => c.members.length - i) 0 yS (Nat.zero_le _) (fun i B hI hB => ?_); try dsimp only at hI hB; simp only [zaq, zau]
  by_cases hi : (i : Int) < (c.members.length : Int)
  · have hi' : i < c.members.length := by omega
    repeat' (first | (with_reducible first | refine DS.fltS yU yU (by (simp (disch := omega) only [go_sem, dopV, Option.map_some, Option.map_none, Option.bind_some, Option.bind_none, ↓reduceIte, Nat.reduceEqDiff, Nat.reduceLT, Nat.reduceLeDiff, Nat.reduceAdd, Nat.reduceMul, Nat.reduceSub, Nat.zero_add, Nat.add_zero, Nat.zero_le, Nat.zero_mul, Nat.mul_one, Nat.one_mul, Int.natCast_zero, Int.toNat_zero, Int.reduceToNat, Int.reduceLT, Int.reduceLE, Int.reduceEq, decide_true, decide_false, true_and, and_true, Bool.and_self, Bool.and_true, Bool.true_and, Bool.not_true, Bool.not_false, IntWalk.toNatUp, IntWalk.iteOmega, IntWalk.i64_in, Option.isSome_some, not_true_eq_false, not_false_eq_true, Option.getD_some, Option.getD_none, Int.toNat_natCast, List.length_map, List.getElem?_map, List.getElem?_eq_getElem, V.flat, V.one, List.all_cons, List.all_nil, *, bne_self_eq_false]; exact rfl)) ?_ | refine DS.opsNil ?_ | refine DS.seq ?_ | refine DS.regionL ?_) | (with_reducible refine DS.cE (by (simp (disch := omega) only [go_sem, dopV, Option.map_some, Option.map_none, Option.bind_some, Option.bind_none, ↓reduceIte, Nat.reduceEqDiff, Nat.reduceLT, Nat.reduceLeDiff, Nat.reduceAdd, Nat.reduceMul, Nat.reduceSub, Nat.zero_add, Nat.add_zero, Nat.zero_le, Nat.zero_mul, Nat.mul_one, Nat.one_mul, Int.natCast_zero, Int.toNat_zero, Int.reduceToNat, Int.reduceLT, Int.reduceLE, Int.reduceEq, decide_true, decide_false, true_and, and_true, Bool.and_self, Bool.and_true, Bool.true_and, Bool.not_true, Bool.not_false, IntWalk.toNatUp, IntWalk.iteOmega, IntWalk.i64_in, Option.isSome_some, not_true_eq_false, not_false_eq_true, Option.getD_some, Option.getD_none, Int.toNat_natCast, List.length_map, List.getElem?_map, List.getElem?_eq_getElem, V.flat, V.one, List.all_cons, List.all_nil, *, bne_self_eq_false]; exact rfl)) ?_; with_reducible refine CG.yes ?_) | (with_reducible first | refine DS.block ?_ | refine DS.skip ?_) | refine DS.drawL (id := 6) [0, 1, 2, 3, 4, 5, 6, 7, 8, 9] 10 (by kernel_rfl) zcr (by simp only [zaw, zbb, zbc, zbd, zav]; exact rfl) (by simp only [zas, zat, List.drop_nil]; exact rfl) ?_ | (with_reducible first | refine DD.fltS yU yU yU (by (simp (disch := omega) only [go_sem, dopV, Option.map_some, Option.map_none, Option.bind_some, Option.bind_none, ↓reduceIte, Nat.reduceEqDiff, Nat.reduceLT, Nat.reduceLeDiff, Nat.reduceAdd, Nat.reduceMul, Nat.reduceSub, Nat.zero_add, Nat.add_zero, Nat.zero_le, Nat.zero_mul, Nat.mul_one, Nat.one_mul, Int.natCast_zero, Int.toNat_zero, Int.reduceToNat, Int.reduceLT, Int.reduceLE, Int.reduceEq, decide_true, decide_false, true_and, and_true, Bool.and_self, Bool.and_true, Bool.true_and, Bool.not_true, Bool.not_false, IntWalk.toNatUp, IntWalk.iteOmega, IntWalk.i64_in, Option.isSome_some, not_true_eq_false, not_false_eq_true, Option.getD_some, Option.getD_none, Int.toNat_natCast, List.length_map, List.getElem?_map, List.getElem?_eq_getElem, V.flat, V.one, List.all_cons, List.all_nil, *, bne_self_eq_false]; exact rfl)) ?_ | refine DD.nil0 ?_) | fail)
    refine DS.neqI (cs := [.int .i64 c.members[i].id, .int .i64 c.members[i].hand, .int .i64 c.members[i].from_, .int .i64 c.members[i].to]) yX52 yX52 (by decide) (fun x hx => by simp only [List.mem_cons, List.not_mem_nil, or_false] at hx; rcases hx with rfl | rfl | rfl | rfl <;> exact ⟨_, _, rfl⟩) (by kernel_rfl) (by kernel_rfl) (by kernel_rfl) (by kernel_rfl) ?_
    repeat' (first | (with_reducible first | refine DS.fltS yU yU yE ?_ | refine DS.opsNil ?_ | refine DS.regionL ?_ | (refine DS.cE yE ?_; refine CG.no ?_) | refine DS.blk ?_ | refine DS.skip ?_) | fail)
    exact DS.back (hB (i + 1) _ _ (by omega) (by omega) yS yS (fun b o e => by first | exact e | (simp only [zab]; split <;> simp_all)))
  clear hB
  repeat' (first | (with_reducible first | refine DS.fltS yU yU yE ?_ | refine DS.opsNil ?_ | refine DS.seq ?_ | refine DS.regionL ?_ | (refine DS.cE yE ?_; refine CG.no ?_) | refine DS.block ?_ | refine DS.exit yU ?_) | fail)
  refine DS.loopK [2, 3] (by (simp only [go_sem, Nat.reduceEqDiff, ↓reduceIte]; exact rfl)) (fun (k : Nat) => [(6, I k)]) (fun (k : Nat) => k ≤ c.rounds.length) (fun (k : Nat) => c.rounds.length - k) 0 yS (Nat.zero_le _) (fun k B hI hB => ?_); try dsimp only at hI hB; simp only [zaq, zau]
  by_cases hk : (k : Int) < (c.rounds.length : Int)
  · have hk' : k < c.rounds.length := by omega
    repeat' (first | (with_reducible first | refine DS.fltS yU yU yE ?_ | refine DS.opsNil ?_ | refine DS.seq ?_ | refine DS.regionL ?_ | (refine DS.cE yE ?_; first | refine CG.yes ?_ | refine CG.no ?_) | refine DS.blk ?_ | refine DS.block ?_ | refine DS.skip ?_) | refine DS.pcS inferInstance (sameRounds_refl c.rounds[k] (hs.at hk')) yR yT ?_ | refine DS.drawL (id := 11) [0, 1, 2, 3, 4, 5, 6, 7, 8, 9] 10 (by kernel_rfl) zcr (by simp only [zaw, zbb, zbc, zbd, zav]; exact rfl) (by simp only [zas, zat, List.drop_nil]; exact rfl) ?_ | (with_reducible first | refine DD.fltS yU yU yU yE ?_ | refine DD.nil0 ?_) | fail)
    exact DS.back (hB (k + 1) _ _ (by omega) (by omega) yS yS (fun b o e => by first | exact e | (simp only [zab]; split <;> simp_all)))
  · repeat' (first | (with_reducible first | refine DS.fltS yU yU yE ?_ | refine DS.opsNil ?_ | refine DS.seq ?_ | refine DS.regionL ?_ | (refine DS.cE yE ?_; refine CG.no ?_) | refine DS.exit yU ?_) | refine DS.retT [] yE trivial ?_ | fail)
    rfl
def BigT (s : Sitting) : Prop := 20 < s.tables.length ∨ 20 < s.points.length ∨ 30 < s.rulings.length ∨ (∃ t ∈ s.tables, 10 < t.length) ∨ (∃ t ∈ s.points, 10 < t.length) ∨ ∃ r ∈ s.rulings, 10 < r.points.length
def BigP (c : Club) : Prop := 10 < c.places.length ∨ 50 < c.members.length ∨ 25 < c.rounds.length ∨ ∃ s ∈ c.rounds, BigT s
noncomputable def bigS (c : Club) : Bool := @decide (BigP c) (Classical.propDecidable _)
theorem zlh {c : Club} (h : BigP c) : bigS c = true := @decide_eq_true _ (Classical.propDecidable _) h
theorem bigS_false {c : Club} (h : ¬ BigP c) : bigS c = false := @decide_eq_false _ (Classical.propDecidable _) h
theorem not_big {c : Club} (h : bigS c = false) : ¬ BigP c := @of_decide_eq_false _ (Classical.propDecidable _) h
theorem zww (c : Club) : PC Try.prog 12 [c.val] (Bo (bigS c)) := by
  refine DC.of_run Try.func12 rfl Try.ntmps12 Try.results12 (by simp) (fun _ => ?_); simp only [zap, zar, go_sem, Nat.zero_add, Nat.reduceAdd]
  repeat' (first | (with_reducible first | refine DS.fltS yU yU yE ?_ | refine DS.opsNil ?_ | refine DS.seq ?_ | refine DS.regionL ?_ | (refine DS.cE yE ?_; first | refine CG.p (fun _ => ?_) (fun _ => ?_) | refine CG.yes ?_) | (refine DS.gE yU yE ?_; first | refine GG.pF (fun _ => ?_) (fun _ => ?_) | refine GG.run ?_ | refine GG.sT ?_) | refine DS.block ?_ | refine DS.skip ?_) | (refine DS.boxF (t := 1) yU yE yU ?_; simp only [zbh, zbz, zbg, zbs, zbf, zba, zbk, zbi, zce, zby, zbp, zbx, zbr, zbq]) | fail)
  · repeat' (first | refine DS.retT [] yE trivial ?_ | fail)
    rw [zlh (.inr (.inr (.inl (by omega))))]; rfl
  · rename_i w1 w2 w3
    refine DS.loopK [1] (by (simp only [go_sem, Nat.reduceEqDiff, ↓reduceIte]; exact rfl)) (fun (i : Nat) => [(3, I i)]) (fun (i : Nat) => i ≤ c.rounds.length ∧ ∀ (j : Nat) (h : j < c.rounds.length), j < i → ¬ BigT c.rounds[j]) (fun (i : Nat) => c.rounds.length - i) 0 yS ⟨Nat.zero_le _, fun j h h2 => by omega⟩ (fun i B hI hB => ?_); try dsimp only at hI hB; simp only [zaq, zau]
    obtain ⟨hI, hI2⟩ := hI
    by_cases hi : (i : Int) < (c.rounds.length : Int)
    · have hi' : i < c.rounds.length := by omega
      have hmem : c.rounds[i] ∈ c.rounds := List.getElem_mem hi'
      have big : BigT c.rounds[i] → bigS c = true := fun h => zlh (.inr (.inr (.inr ⟨_, hmem, h⟩)))
      have hB0 := hB
      clear hB
      repeat' (first | (with_reducible first | refine DS.fltS yU yU yE ?_ | refine DS.opsNil ?_ | refine DS.seq ?_ | refine DS.regionL ?_ | (refine DS.cE yE ?_; first | refine CG.p (fun _ => ?_) (fun _ => ?_) | refine CG.yes ?_) | (refine DS.gE yU yE ?_; first | refine GG.pF (fun _ => ?_) (fun _ => ?_) | refine GG.run ?_ | refine GG.sT ?_) | refine DS.block ?_ | refine DS.skip ?_) | (refine DS.letF (t := 4) yU yE yU (fun _ => by (simp (disch := omega) only [go_sem, dopV, Option.map_some, Option.map_none, Option.bind_some, Option.bind_none, ↓reduceIte, Nat.reduceEqDiff, Nat.reduceLT, Nat.reduceLeDiff, Nat.reduceAdd, Nat.reduceMul, Nat.reduceSub, Nat.zero_add, Nat.add_zero, Nat.zero_le, Nat.zero_mul, Nat.mul_one, Nat.one_mul, Int.natCast_zero, Int.toNat_zero, Int.reduceToNat, Int.reduceLT, Int.reduceLE, Int.reduceEq, decide_true, decide_false, true_and, and_true, Bool.and_self, Bool.and_true, Bool.true_and, Bool.not_true, Bool.not_false, IntWalk.toNatUp, IntWalk.iteOmega, IntWalk.i64_in, Option.isSome_some, not_true_eq_false, not_false_eq_true, Option.getD_some, Option.getD_none, Int.toNat_natCast, List.length_map, List.getElem?_map, List.getElem?_eq_getElem, V.flat, V.one, List.all_cons, List.all_nil, *]; exact rfl)) yE yU (by exact ⟨by with_unfolding_all rfl, by with_unfolding_all decide⟩) (fun _ => by simp only [go_sem, Nat.reduceEqDiff, ↓reduceIte]) ?_; simp only [go_sem]) | fail)
      · repeat' (first | refine DS.retT [] yE trivial ?_ | fail)
        rw [big (.inr (.inr (.inl (by omega))))]; rfl
      · rename_i w4 w5 w6
        refine DS.loopK [1, 3, 4] (by (simp only [go_sem, Nat.reduceEqDiff, ↓reduceIte]; exact rfl)) (fun (k : Nat) => [(5, I k)]) (fun (k : Nat) => k ≤ c.rounds[i].tables.length ∧ ∀ (j : Nat) (h : j < c.rounds[i].tables.length), j < k → ¬ 10 < c.rounds[i].tables[j].length) (fun (k : Nat) => c.rounds[i].tables.length - k) 0 yS ⟨Nat.zero_le _, fun j h h2 => by omega⟩ (fun k B hI hB => ?_); try dsimp only at hI hB; simp only [zaq, zau]
        obtain ⟨hI, hI3⟩ := hI
        by_cases hk : (k : Int) < (c.rounds[i].tables.length : Int)
        · have hk' : k < c.rounds[i].tables.length := by omega
          repeat' (first | (with_reducible first | refine DS.fltS yU yU yE ?_ | refine DS.opsNil ?_ | refine DS.seq ?_ | refine DS.regionL ?_ | (refine DS.cE yE ?_; first | refine CG.p (fun _ => ?_) (fun _ => ?_) | refine CG.yes ?_) | refine DS.blk ?_ | refine DS.block ?_ | refine DS.skip ?_) | fail)
          · repeat' (first | refine DS.retT [] yE trivial ?_ | fail)
            rw [big (.inr (.inr (.inr (.inl ⟨_, List.getElem_mem hk', by omega⟩))))]; rfl
          · exact DS.back (hB (k + 1) _ _ (by omega) (⟨by omega, fun j h h2 => if e : j = k then by subst e; omega else hI3 j h (by omega)⟩) yS yS (fun b o e => by first | exact e | (simp only [zab]; split <;> simp_all)))
        clear hB
        have hI4 : ∀ t ∈ c.rounds[i].tables, ¬ 10 < t.length := fun t ht => by
          obtain ⟨j, hj, rfl⟩ := List.getElem_of_mem ht
          exact hI3 j hj (by omega)
        clear hI3
        repeat' (first | (with_reducible first | refine DS.fltS yU yU yE ?_ | refine DS.opsNil ?_ | refine DS.seq ?_ | refine DS.regionL ?_ | (refine DS.cE yE ?_; refine CG.no ?_) | refine DS.block ?_ | refine DS.exit yU ?_) | fail)
        refine DS.loopK [1, 3, 4] (by (simp only [go_sem, Nat.reduceEqDiff, ↓reduceIte]; exact rfl)) (fun (k2 : Nat) => [(6, I k2)]) (fun (k2 : Nat) => k2 ≤ c.rounds[i].points.length ∧ ∀ (j : Nat) (h : j < c.rounds[i].points.length), j < k2 → ¬ 10 < c.rounds[i].points[j].length) (fun (k2 : Nat) => c.rounds[i].points.length - k2) 0 yS ⟨Nat.zero_le _, fun j h h2 => by omega⟩ (fun k2 B hI hB => ?_); try dsimp only at hI hB; simp only [zaq, zau]
        obtain ⟨hI, hI3⟩ := hI
        by_cases hk2 : (k2 : Int) < (c.rounds[i].points.length : Int)
        · have hk' : k2 < c.rounds[i].points.length := by omega
          repeat' (first | (with_reducible first | refine DS.fltS yU yU yE ?_ | refine DS.opsNil ?_ | refine DS.seq ?_ | refine DS.regionL ?_ | (refine DS.cE yE ?_; first | refine CG.p (fun _ => ?_) (fun _ => ?_) | refine CG.yes ?_) | refine DS.blk ?_ | refine DS.block ?_ | refine DS.skip ?_) | fail)
          · repeat' (first | refine DS.retT [] yE trivial ?_ | fail)
            rw [big (.inr (.inr (.inr (.inr (.inl ⟨_, List.getElem_mem hk', by omega⟩)))))]; rfl
          · exact DS.back (hB (k2 + 1) _ _ (by omega) (⟨by omega, fun j h h2 => if e : j = k2 then by subst e; omega else hI3 j h (by omega)⟩) yS yS (fun b o e => by first | exact e | (simp only [zab]; split <;> simp_all)))
        clear hB
        have hI5 : ∀ t ∈ c.rounds[i].points, ¬ 10 < t.length := fun t ht => by
          obtain ⟨j, hj, rfl⟩ := List.getElem_of_mem ht
          exact hI3 j hj (by omega)
        clear hI3
        repeat' (first | (with_reducible first | refine DS.fltS yU yU yE ?_ | refine DS.opsNil ?_ | refine DS.seq ?_ | refine DS.regionL ?_ | (refine DS.cE yE ?_; refine CG.no ?_) | refine DS.block ?_ | refine DS.exit yU ?_) | fail)
        refine DS.loopK [1, 3, 4] (by (simp only [go_sem, Nat.reduceEqDiff, ↓reduceIte]; exact rfl)) (fun (k3 : Nat) => [(7, I k3)]) (fun (k3 : Nat) => k3 ≤ c.rounds[i].rulings.length ∧ ∀ (j : Nat) (h : j < c.rounds[i].rulings.length), j < k3 → ¬ 10 < c.rounds[i].rulings[j].points.length) (fun (k3 : Nat) => c.rounds[i].rulings.length - k3) 0 yS ⟨Nat.zero_le _, fun j h h2 => by omega⟩ (fun k3 B hI hB => ?_); try dsimp only at hI hB; simp only [zaq, zau]
        obtain ⟨hI, hI3⟩ := hI
        by_cases hk3 : (k3 : Int) < (c.rounds[i].rulings.length : Int)
        · have hk' : k3 < c.rounds[i].rulings.length := by omega
          repeat' (first | (with_reducible first | refine DS.fltS yU yU yE ?_ | refine DS.opsNil ?_ | refine DS.seq ?_ | refine DS.regionL ?_ | (refine DS.cE yE ?_; first | refine CG.p (fun _ => ?_) (fun _ => ?_) | refine CG.yes ?_) | refine DS.blk ?_ | refine DS.block ?_ | refine DS.skip ?_) | fail)
          · repeat' (first | refine DS.retT [] yE trivial ?_ | fail)
            rw [big (.inr (.inr (.inr (.inr (.inr ⟨_, List.getElem_mem hk', by omega⟩)))))]; rfl
          · exact DS.back (hB (k3 + 1) _ _ (by omega) (⟨by omega, fun j h h2 => if e : j = k3 then by subst e; omega else hI3 j h (by omega)⟩) yS yS (fun b o e => by first | exact e | (simp only [zab]; split <;> simp_all)))
        clear hB
        have hI6 : ∀ t ∈ c.rounds[i].rulings, ¬ 10 < t.points.length := fun t ht => by
          obtain ⟨j, hj, rfl⟩ := List.getElem_of_mem ht
          exact hI3 j hj (by omega)
        clear hI3 big
        repeat' (first | (with_reducible first | refine DS.fltS yU yU yE ?_ | refine DS.opsNil ?_ | refine DS.seq ?_ | refine DS.regionL ?_ | (refine DS.cE yE ?_; refine CG.no ?_) | refine DS.blk ?_ | refine DS.exit yU ?_) | fail)
        refine DS.back (hB0 (i + 1) _ _ (by omega) ⟨by omega, fun j h h2 => if e : j = i then by
          subst e
          rintro (h | h | h | ⟨t, h, h2⟩ | ⟨t, h, h2⟩ | ⟨t, h, h2⟩)
          · omega
          · omega
          · omega
          · exact hI4 t h h2
          · exact hI5 t h h2
          · exact hI6 t h h2
          else hI2 j h (by omega)⟩ yS yS (fun d o e => by cases e))
      · repeat' (first | refine DS.retT [] yE trivial ?_ | fail)
        rw [big (.inr (.inl (by omega)))]; rfl
      · repeat' (first | refine DS.retT [] yE trivial ?_ | fail)
        rw [big (.inl (by omega))]; rfl
    · repeat' (first | (with_reducible first | refine DS.fltS yU yU yE ?_ | refine DS.opsNil ?_ | refine DS.seq ?_ | refine DS.regionL ?_ | (refine DS.cE yE ?_; refine CG.no ?_) | refine DS.exit yU ?_) | refine DS.retT [] yE trivial ?_ | fail)
      rw [bigS_false]; rfl
      rintro (h | h | h | ⟨s, h, h2⟩)
      · omega
      · omega
      · omega
      · obtain ⟨j, hj, rfl⟩ := List.getElem_of_mem h
        exact hI2 j hj (by omega) h2
  · repeat' (first | refine DS.retT [] yE trivial ?_ | fail)
    rw [zlh (.inr (.inl (by omega)))]; rfl
  · repeat' (first | refine DS.retT [] yE trivial ?_ | fail)
    rw [zlh (.inl (by omega))]; rfl
end Go.XL
namespace Go.XL
open Go.Proofs Go.ChangeShapes Go.WideShapes Go.ChangeAt Go.RowKit
def hvW (W : World) : VH := fun b => W.heap[b]?
def baseW (W : World) : Bs := ⟨fun b => b < W.heap.size, W.heap, hvW W⟩
theorem stW (W : World) : St (baseW W) (hvW W) (fun _ => none) [] [] [] W.heap where
  pre := fun b o e => ⟨o, e, leO.refl o⟩
  slot := fun t v e => by cases e
  obj := fun b o e => by cases e
  held := fun g x e => by cases e
  base := ⟨fun b h => h, Nat.le_refl _, fun b _ => rfl⟩
  vbase := ⟨PreV.refl _, fun _ _ => rfl⟩
structure KeptW (W W' : World) : Prop where
  os : W'.os = W.os
  output : W'.output = W.output
  size : W.heap.size ≤ W'.heap.size
  old : ∀ b, b < W.heap.size → W'.heap[b]? = W.heap[b]?
theorem PC.door {P : Program} {f : FuncId} {vs : List V} {xs : List Value} (h : PC P f vs (.v (.bool true))) (W : World) (hx : RlL (hvW W) vs xs) :
    Calls P f xs.toArray W fun e w' => e = .returned (.bool true) ∧ KeptW W w' := by
  refine (h (hvW W) (baseW W) (hvW W) (fun _ => none) W.heap xs (PreV.refl _) hx (stW W) W rfl).mono fun e w' => ?_
  rintro ⟨y, rfl, ⟨s1, s2, s3⟩, v, S', hv', hold', -, st, rfl⟩
  obtain ⟨z, h1, h2, -⟩ := st.slot 0 (.v (.bool true)) rfl
  simp only [V.Rl] at h2
  subst h2
  have h3 : look [(0, y)] 0 = some y := by simp [look]
  rw [h3] at h1
  cases h1
  exact ⟨rfl, s1, s3, st.base.2.1, st.base.2.2⟩
theorem KeptW.keptBut {W W' : World} (k : KeptW W W') (may : MemPlace → Prop) : W.keptBut W' may := by
  refine ⟨k.os, k.output, fun i hi => ?_⟩
  rw [k.old i hi]
  generalize W.heap[i]? = o
  cases o with
  | none => trivial
  | some o => cases o <;> simp
theorem KeptW.cell {W W' : World} (k : KeptW W W') {a : Addr} (h : a.block < W.heap.size) : W'.cell? a = W.cell? a := by
  unfold World.cell?
  rw [k.old _ h]
theorem KeptW.sameAt {W W' : World} (k : KeptW W W') {p : MemPlace} (h : p.block < W.heap.size) : W.sameAt W' p := by
  cases p with
  | cell b off => exact k.cell h
  | map b => exact k.old _ h
section
variable {H : Type} {enc : TypeId × Value → H} {P : Program}
theorem zkl (hl : laidOutB P = true) {W W' : World} {sp : Nat → Bool} : ∀ {ts : List TypeId} {vs : List Value} {ds : List (DataW H)} {ps : List MemPlace}, (∀ t ∈ ts, P.readableRec t = true ∧ t < P.types.size) →
    DataW.TrodAll enc P W 0 (fun _ => true) true ts vs ds ps → (∀ p ∈ ps, W.sameAt W' p) → (∀ p ∈ ps, sp p.block = true) → DataW.TrodAll enc P W' 0 sp true ts vs ds ps
  | [], vs, ds, ps, _, h, _, _ => by
    obtain ⟨rfl, rfl, rfl⟩ := trodAll_nil h
    rfl
  | t :: ts, vs, ds, ps, ht, h, h1, h2 => by
    obtain ⟨v, vs', d, ds', p, q, rfl, rfl, rfl, h3, h4⟩ := trodAll_cons h
    obtain ⟨r1, r2⟩ := ht t (List.mem_cons_self ..)
    exact ⟨p, q, WideElems.Trod_stays hl r1 r2 h3 (fun x hx => h1 x (List.mem_append_left _ hx)) (fun x hx => h2 x (List.mem_append_left _ hx)),
      zkl hl (fun t h => ht t (List.mem_cons_of_mem _ h)) h4 (fun x hx => h1 x (List.mem_append_right _ hx)) (fun x hx => h2 x (List.mem_append_right _ hx)), rfl⟩
theorem post_law {f : Func} {s : ChangeSpec} {apart fresh handsOn : Bool} {W W' : World} {args : Array Value} {ds gs : List (DataW H)} {before : List MemPlace} {tb : TypeId}
    (hW : DataW.Whole enc P f.params.toList s.vars apart W args.toList ds gs before) (hv : s.vars = []) (hs : s.fn H ds = { results := [.lit (.bool true)], args := ds })
    (hrt : f.resultTypes = #[tb]) (hb : P.underlying tb = some .bool) (hl : laidOutB P = true) (hr : ∀ t ∈ f.params.toList, P.readableRec t = true ∧ t < P.types.size) (k : KeptW W W') :
    s.post enc P f apart fresh handsOn false W args (.bool true) W' := by
  have hlt := fun p hp => hW.lt (p := p) hp
  have hW' := hW
  obtain ⟨p, q, hA, hV, rfl, -, -⟩ := hW
  rw [hv] at hV
  obtain ⟨rfl, rfl⟩ := trodVars_none hV
  refine ⟨ds, [], p ++ [], [], p, [], hW', ?_, ?_, ?_, k.keptBut _, fun h => by cases h⟩
  · rw [List.append_nil, hs, hrt]
    exact trodAll_mk1 (shut_bool hb _)
  · rw [List.append_nil, hs]
    exact zkl hl hr hA (fun x hx => k.sameAt (hlt x (by simpa using hx))) (fun x hx => by simpa using hlt x (by simpa using hx))
  · rw [List.append_nil, hs, hv]
    rfl
def zoo (P : Program) (W : World) (H : Type) (enc : TypeId × Value → H) (t : TypeId) {α : Type} (f : α → List V) (G : α → Prop) : Prop :=
  ∀ fuel cs x, DataW.trod enc P W 0 (fun _ => true) true fuel t cs = some x → ∃ a, RlL (hvW W) (f a) cs ∧ (∀ u ∈ cs, u.oneCell' = true) ∧ G a
variable {W : World} {t e : TypeId}
theorem zrc {k : IntKind} (ht : P.underlying t = some (.int k)) : zoo P W H enc t (fun n : Int => [.v (.int k n)]) (fun n => (Lit.int k n).wf = true) := by
  intro fuel cs x h
  obtain ⟨n, rfl, -, hw⟩ := DataW.trod_int ht h
  exact ⟨n, by simp [RlL, V.Rl], by simp [Value.oneCell'], hw⟩
theorem opens_bool (ht : P.underlying t = some .bool) : zoo P W H enc t (fun b : Bool => [.v (.bool b)]) (fun _ => True) := by
  intro fuel cs x h
  obtain ⟨b, rfl, -⟩ := DataW.trod_bool ht h
  exact ⟨b, by simp [RlL, V.Rl], by simp [Value.oneCell'], trivial⟩
theorem RlL.len {hv : VH} : ∀ {vs : List V} {cs : List Value}, RlL hv vs cs → vs.length = cs.length
  | [], _, h => by simp only [RlL] at h; subst h; rfl
  | v :: vs, cs, h => by
    simp only [RlL] at h
    obtain ⟨z, zs, rfl, -, h⟩ := h
    simp [RlL.len h]
theorem zss {n : Int} (h : (Lit.int .i64 n).wf = true) : -9223372036854775808 ≤ n ∧ n ≤ 9223372036854775807 := by
  have h1 : IntKind.min .i64 = -9223372036854775808 := by decide
  have h2 : IntKind.max .i64 = 9223372036854775807 := by decide
  simp only [Lit.wf, h1, h2, Bool.and_eq_true, decide_eq_true_eq] at h
  exact h
theorem RlL.one {hv : VH} {v : V} {y : Value} (h : v.Rl hv y) : RlL hv [v] [y] := by
  simp only [RlL]; exact ⟨y, [], rfl, h, rfl⟩
theorem RlL.cons_one {hv : VH} {v : V} {y : Value} {vs : List V} {ys : List Value} (h : RlL hv [v] [y]) (k : RlL hv vs ys) : RlL hv (v :: vs) (y :: ys) := by
  simp only [RlL] at h ⊢
  obtain ⟨z, zs, e, h1, h2⟩ := h
  cases e
  exact ⟨_, _, rfl, h1, k⟩
theorem zwv {a : Addr} {m : Nat} : ∀ {vs : List V} {cs : List Value} {i : Nat}, RlL (hvW W) vs cs → (∀ u ∈ cs, u.oneCell' = true) → (∀ j, j < cs.length → W.cell? (a.add (i + j)) = cs[j]?) → RlC (hvW W) (some a) i vs
  | [], _, _, _, _, _ => by simp only [RlC]
  | v :: vs, cs, i, h, h1, h2 => by
    simp only [RlL] at h
    obtain ⟨z, zs, rfl, h3, h4⟩ := h
    simp only [RlC]
    refine ⟨⟨z, ?_, h3, h1 z (List.mem_cons_self ..)⟩, zwv (m := m) h4 (fun u hu => h1 u (List.mem_cons_of_mem _ hu)) fun j hj => ?_⟩
    · have := h2 0 (by simp)
      rw [Nat.add_zero] at this
      exact this
    · have := h2 (j + 1) (by simpa using hj)
      rw [show i + 1 + j = i + (j + 1) by omega, this]
      rfl
theorem zwu {a : Addr} {sz : Nat} : ∀ {l : List (List V)} {i : Nat}, (∀ (j : Nat) (h : j < l.length), l[j].length = sz ∧ RlC (hvW W) (some a) (i + j * sz) l[j]) → RlE (hvW W) (some a) i l
  | [], _, _ => by simp only [RlE]
  | c :: l, i, h => by
    simp only [RlE]
    have h0 := h 0 (by simp)
    simp only [Nat.zero_mul, Nat.add_zero, List.getElem_cons_zero] at h0
    refine ⟨h0.2, zwu (sz := sz) fun j hj => ?_⟩
    have h1 := h (j + 1) (by simpa using hj)
    simp only [List.getElem_cons_succ] at h1
    refine ⟨h1.1, ?_⟩
    have e : i + c.length + j * sz = i + (j + 1) * sz := by rw [h0.1, Nat.add_mul, Nat.one_mul]; omega
    rw [e]
    exact h1.2
theorem zof {α β : Type} {R : Nat → α → Prop} : ∀ (n : Nat), (∀ i, i < n → ∃ a, R i a) → ∃ l : List α, l.length = n ∧ ∀ (i : Nat) (h : i < l.length), R i l[i]
  | 0, _ => ⟨[], rfl, fun i h => by cases h⟩
  | n + 1, h => by
    obtain ⟨l, h1, h2⟩ := zof (β := β) n fun i hi => h i (by omega)
    obtain ⟨a, ha⟩ := h n (by omega)
    refine ⟨l ++ [a], by simp [h1], fun i hi => ?_⟩
    rw [List.length_append, List.length_singleton] at hi
    by_cases h3 : i < l.length
    · rw [List.getElem_append_left h3]; exact h2 i h3
    · obtain rfl : i = l.length := by omega
      simp only [List.getElem_concat_length]
      rw [h1]; exact ha
theorem zfn {α : Type} {f : α → List V} {G : α → Prop} {sz : Nat} (ht : P.underlying t = some (.slice e)) (hc : P.cellsOf e = sz) (h : zoo P W H enc e f G) :
    zoo P W H enc t (fun l : List α => [.lst (l.map f)]) (fun l => ∀ a ∈ l, G a) := by
  intro fuel cs x hx
  rcases DataW.trod_slice ht hx with ⟨rfl, -⟩ | ⟨a, len, cap, elems, rest, n, rfl, rfl, -, -, h1, h2, h3, h4, -, -⟩
  · refine ⟨[], ?_, by simp [Value.oneCell'], fun a h => by cases h⟩
    simp only [RlL, V.Rl, List.map_nil]
    exact ⟨_, [], rfl, ⟨none, 0, 0, rfl, Nat.le_refl _, Nat.zero_le _, (fun c h => by cases h), by simp only [RlE]⟩, rfl⟩
  · obtain ⟨l, hl, hk⟩ := zof (β := Unit) (R := fun i y => ∃ cs, W.cells? 0 (a.add (i * sz)) sz = some cs ∧ RlL (hvW W) (f y) cs ∧ (∀ u ∈ cs, u.oneCell' = true) ∧ G y) len (fun i hi => by
      have h5 := h4 i hi
      rw [List.getElem?_eq_getElem (by omega), Option.bind_eq_some_iff, hc] at h5
      obtain ⟨cs, h6, h7⟩ := h5
      obtain ⟨y, h8, h9, h10⟩ := h _ _ _ h7
      exact ⟨y, cs, h6, h8, h9, h10⟩)
    have hlen : ∀ y ∈ l, (f y).length = sz := fun y hy => by
      obtain ⟨i, hi, rfl⟩ := List.mem_iff_getElem.1 hy
      obtain ⟨cs, k1, k2, -, -⟩ := hk i hi
      rw [k2.len, (World.cells?_some k1).2.1]
    refine ⟨l, ?_, by simp [Value.oneCell'], fun y hy => ?_⟩
    · simp only [RlL, V.Rl]
      refine ⟨_, [], rfl, ⟨some a, cap, sz, by rw [List.length_map, hl], by rw [List.length_map, hl]; exact h1, h2, fun c hc => ?_, zwu (sz := sz) fun j hj => ?_⟩, rfl⟩
      · obtain ⟨y, hy, rfl⟩ := List.mem_map.1 hc
        exact hlen y hy
      · rw [List.length_map] at hj
        rw [List.getElem_map]
        obtain ⟨cs, k1, k2, k3, k4⟩ := hk j hj
        obtain ⟨-, k5, k6⟩ := World.cells?_some k1
        refine ⟨hlen _ (List.getElem_mem hj), zwv (m := sz) k2 k3 fun i hi => ?_⟩
        rw [Nat.zero_add, ← zwe]
        exact k6 i (by omega)
    · obtain ⟨i, hi, rfl⟩ := List.mem_iff_getElem.1 hy
      obtain ⟨cs, -, -, -, k4⟩ := hk i hi
      exact k4
end
end Go.XL
namespace Go.XL
open Go.Proofs Go.ChangeShapes Go.WideShapes Go.ChangeAt Go.RowKit
set_option maxRecDepth 100000
def zwo (P : Program) : List Field → Nat → List TypeId → Bool
  | [], _, [] => true
  | f :: fs, i, t :: ts => f.offset == i && P.cellsOf f.type == 1 && f.type == t && zwo P fs (i + 1) ts
  | _, _, _ => false
theorem zrd {P : Program} : ∀ {fs : List Field} {k : Nat} {ts : List TypeId}, zwo P fs k ts = true → ∀ {i : Nat} {t : TypeId}, ts[i]? = some t → ∃ f, fs[i]? = some f ∧ f.offset = k + i ∧ P.cellsOf f.type = 1 ∧ f.type = t
  | [], k, [], _, i, t, e => by simp at e
  | [], k, _ :: _, h, i, t, e => by cases h
  | _ :: _, k, [], h, i, t, e => by cases h
  | f :: fs, k, u :: ts, h, i, t, e => by
    simp only [zwo, Bool.and_eq_true, beq_iff_eq] at h
    obtain ⟨⟨⟨h1, h2⟩, h3⟩, h4⟩ := h
    cases i with
    | zero =>
      simp only [List.getElem?_cons_zero, Option.some.injEq] at e
      subst e
      exact ⟨f, rfl, by omega, h2, h3⟩
    | succ i =>
      rw [List.getElem?_cons_succ] at e
      obtain ⟨g, g1, g2, g3, g4⟩ := zrd h4 e
      exact ⟨g, by rw [List.getElem?_cons_succ]; exact g1, by omega, g3, g4⟩
section
variable {H : Type} {enc : TypeId × Value → H} {P : Program} {W : World} {t : TypeId}
theorem zhr {fuel : Nat} {cs : List Value} {x : DataW H × List MemPlace} {ts : List TypeId} (ht : P.underlying t = some (.struct (P.fieldsOf t))) (hf : zwo P (P.fieldsOf t).toList 0 ts = true) (hn : P.cellsOf t = ts.length)
    (h : DataW.trod enc P W 0 (fun _ => true) true fuel t cs = some x) : cs.length = ts.length ∧ ∃ n, ∀ (i : Nat) t' c, ts[i]? = some t' → cs[i]? = some c → ∃ y, DataW.trod enc P W 0 (fun _ => true) true n t' [c] = some y := by
  obtain ⟨xs, n, -, -, h1, h2, h3⟩ := DataW.trod_struct ht h
  refine ⟨by rw [h1, hn], n, fun i t' c e1 e2 => ?_⟩
  obtain ⟨f, g1, g2, g3, rfl⟩ := zrd hf e1
  have g1' : (P.fieldsOf t)[i]? = some f := by simpa using g1
  have h4 := h3 i f g1'
  obtain ⟨k1, k2⟩ := List.getElem?_eq_some_iff.1 e2
  rw [g3, g2, Nat.zero_add, List.drop_eq_getElem_cons k1, List.take_succ_cons, List.take_zero, k2] at h4
  have h5 : i < xs.length := by
    rw [h2]
    exact (Array.getElem?_eq_some_iff.1 g1').1
  exact ⟨xs[i], by rw [h4, List.getElem?_eq_getElem h5]⟩
end
def zuw (m : Member) : Prop := In64 m.id ∧ In64 m.hand ∧ In64 m.from_ ∧ In64 m.to
def zut (r : Ruling) : Prop := In64 r.round ∧ In64 r.table ∧ ∀ x ∈ r.points, In64 x
def SitIn (s : Sitting) : Prop := (∀ t ∈ s.tables, ∀ x ∈ t, In64 x) ∧ (∀ t ∈ s.points, ∀ x ∈ t, In64 x) ∧ ∀ r ∈ s.rulings, zut r
structure ClubIn (c : Club) : Prop where
  size : In64 c.size
  start : In64 c.start
  absent : In64 c.absent
  window : In64 c.window
  places : ∀ x ∈ c.places, In64 x
  members : ∀ m ∈ c.members, zuw m
  rounds : ∀ s ∈ c.rounds, SitIn s
section
variable {H : Type} {enc : TypeId × Value → H} {W : World}
theorem zni : zoo Try.prog W H enc 3 cI In64 := fun fuel cs x h => by
  obtain ⟨a, h1, h2, h3⟩ := zrc Try.underlying3 fuel cs x h
  exact ⟨a, h1, h2, zss h3⟩
theorem zxb : zoo Try.prog W H enc 22 (fun l => [ints l]) (fun l => ∀ x ∈ l, In64 x) := zfn (sz := 1) Try.underlying22 (by kernel_rfl) zni
theorem openR : zoo Try.prog W H enc 35 (fun l => [rows l]) (fun l => ∀ t ∈ l, ∀ x ∈ t, In64 x) := zfn (sz := 1) Try.underlying35 (by kernel_rfl) zxb
theorem openM : zoo Try.prog W H enc 88 Member.cells zuw := fun fuel cs x h => by
  obtain ⟨hl, n, hg⟩ := zhr (ts := [3, 3, 3, 3]) (by kernel_rfl) (by kernel_rfl) (by kernel_rfl) h
  obtain ⟨c0, c1, c2, c3, rfl⟩ : ∃ c0 c1 c2 c3, cs = [c0, c1, c2, c3] := by
    rcases cs with _ | ⟨a, _ | ⟨b, _ | ⟨c, _ | ⟨d, _ | ⟨e, r⟩⟩⟩⟩⟩ <;> first | (exact ⟨_, _, _, _, rfl⟩) | (simp at hl)
  obtain ⟨y0, h0⟩ := hg 0 _ _ rfl rfl
  obtain ⟨y1, h1⟩ := hg 1 _ _ rfl rfl
  obtain ⟨y2, h2⟩ := hg 2 _ _ rfl rfl
  obtain ⟨y3, h3⟩ := hg 3 _ _ rfl rfl
  obtain ⟨a0, r0, f0, w0⟩ := zni _ _ _ h0
  obtain ⟨a1, r1, f1, w1⟩ := zni _ _ _ h1
  obtain ⟨a2, r2, f2, w2⟩ := zni _ _ _ h2
  obtain ⟨a3, r3, f3, w3⟩ := zni _ _ _ h3
  refine ⟨⟨a0, a1, a2, a3⟩, RlL.cons_one r0 (RlL.cons_one r1 (RlL.cons_one r2 r3)), fun u hu => ?_, w0, w1, w2, w3⟩
  simp only [List.mem_cons, List.not_mem_nil, or_false] at hu f0 f1 f2 f3
  rcases hu with rfl | rfl | rfl | rfl
  · exact f0 _ rfl
  · exact f1 _ rfl
  · exact f2 _ rfl
  · exact f3 _ rfl
theorem openRu : zoo Try.prog W H enc 78 Ruling.cells zut := fun fuel cs x h => by
  obtain ⟨hl, n, hg⟩ := zhr (ts := [3, 3, 22]) (by kernel_rfl) (by kernel_rfl) (by kernel_rfl) h
  obtain ⟨c0, c1, c2, rfl⟩ : ∃ c0 c1 c2, cs = [c0, c1, c2] := by
    rcases cs with _ | ⟨a, _ | ⟨b, _ | ⟨c, _ | ⟨e, r⟩⟩⟩⟩ <;> first | (exact ⟨_, _, _, rfl⟩) | (simp at hl)
  obtain ⟨y0, h0⟩ := hg 0 _ _ rfl rfl
  obtain ⟨y1, h1⟩ := hg 1 _ _ rfl rfl
  obtain ⟨y2, h2⟩ := hg 2 _ _ rfl rfl
  obtain ⟨a0, r0, f0, w0⟩ := zni _ _ _ h0
  obtain ⟨a1, r1, f1, w1⟩ := zni _ _ _ h1
  obtain ⟨a2, r2, f2, w2⟩ := zxb _ _ _ h2
  refine ⟨⟨a0, a1, a2⟩, RlL.cons_one r0 (RlL.cons_one r1 r2), fun u hu => ?_, w0, w1, w2⟩
  simp only [List.mem_cons, List.not_mem_nil, or_false] at hu f0 f1 f2
  rcases hu with rfl | rfl | rfl
  · exact f0 _ rfl
  · exact f1 _ rfl
  · exact f2 _ rfl
theorem openS : zoo Try.prog W H enc 81 Sitting.cells SitIn := fun fuel cs x h => by
  obtain ⟨hl, n, hg⟩ := zhr (ts := [35, 35, 79]) (by kernel_rfl) (by kernel_rfl) (by kernel_rfl) h
  obtain ⟨c0, c1, c2, rfl⟩ : ∃ c0 c1 c2, cs = [c0, c1, c2] := by
    rcases cs with _ | ⟨a, _ | ⟨b, _ | ⟨c, _ | ⟨e, r⟩⟩⟩⟩ <;> first | (exact ⟨_, _, _, rfl⟩) | (simp at hl)
  obtain ⟨y0, h0⟩ := hg 0 _ _ rfl rfl
  obtain ⟨y1, h1⟩ := hg 1 _ _ rfl rfl
  obtain ⟨y2, h2⟩ := hg 2 _ _ rfl rfl
  obtain ⟨a0, r0, f0, w0⟩ := openR _ _ _ h0
  obtain ⟨a1, r1, f1, w1⟩ := openR _ _ _ h1
  obtain ⟨a2, r2, f2, w2⟩ := (zfn (sz := 3) Try.underlying79 (by kernel_rfl) openRu) _ _ _ h2
  refine ⟨⟨a0, a1, a2⟩, RlL.cons_one r0 (RlL.cons_one r1 r2), fun u hu => ?_, w0, w1, w2⟩
  simp only [List.mem_cons, List.not_mem_nil, or_false] at hu f0 f1 f2
  rcases hu with rfl | rfl | rfl
  · exact f0 _ rfl
  · exact f1 _ rfl
  · exact f2 _ rfl
theorem openC : zoo Try.prog W H enc 26 Club.cells ClubIn := fun fuel cs x h => by
  obtain ⟨hl, n, hg⟩ := zhr (ts := [3, 3, 3, 3, 22, 4, 23, 24]) (by kernel_rfl) (by kernel_rfl) (by kernel_rfl) h
  obtain ⟨c0, c1, c2, c3, c4, c5, c6, c7, rfl⟩ : ∃ c0 c1 c2 c3 c4 c5 c6 c7, cs = [c0, c1, c2, c3, c4, c5, c6, c7] := by
    rcases cs with _ | ⟨a, _ | ⟨b, _ | ⟨c, _ | ⟨d, _ | ⟨a, _ | ⟨b, _ | ⟨c, _ | ⟨d, _ | ⟨e, r⟩⟩⟩⟩⟩⟩⟩⟩⟩ <;> first | (exact ⟨_, _, _, _, _, _, _, _, rfl⟩) | (simp at hl)
  obtain ⟨y0, h0⟩ := hg 0 _ _ rfl rfl
  obtain ⟨y1, h1⟩ := hg 1 _ _ rfl rfl
  obtain ⟨y2, h2⟩ := hg 2 _ _ rfl rfl
  obtain ⟨y3, h3⟩ := hg 3 _ _ rfl rfl
  obtain ⟨y4, h4⟩ := hg 4 _ _ rfl rfl
  obtain ⟨y5, h5⟩ := hg 5 _ _ rfl rfl
  obtain ⟨y6, h6⟩ := hg 6 _ _ rfl rfl
  obtain ⟨y7, h7⟩ := hg 7 _ _ rfl rfl
  obtain ⟨a0, r0, f0, w0⟩ := zni _ _ _ h0
  obtain ⟨a1, r1, f1, w1⟩ := zni _ _ _ h1
  obtain ⟨a2, r2, f2, w2⟩ := zni _ _ _ h2
  obtain ⟨a3, r3, f3, w3⟩ := zni _ _ _ h3
  obtain ⟨a4, r4, f4, w4⟩ := zxb _ _ _ h4
  obtain ⟨a5, r5, f5, -⟩ := opens_bool Try.underlying4 _ _ _ h5
  obtain ⟨a6, r6, f6, w6⟩ := (zfn (sz := 4) Try.underlying23 (by kernel_rfl) openM) _ _ _ h6
  obtain ⟨a7, r7, f7, w7⟩ := (zfn (sz := 3) Try.underlying24 (by kernel_rfl) openS) _ _ _ h7
  refine ⟨⟨a0, a1, a2, a3, a4, a5, a6, a7⟩, RlL.cons_one r0 (RlL.cons_one r1 (RlL.cons_one r2 (RlL.cons_one r3 (RlL.cons_one r4 (RlL.cons_one r5 (RlL.cons_one r6 r7)))))), fun u hu => ?_, ⟨w0, w1, w2, w3, w4, w6, w7⟩⟩
  simp only [List.mem_cons, List.not_mem_nil, or_false] at hu f0 f1 f2 f3 f4 f5 f6 f7
  rcases hu with rfl | rfl | rfl | rfl | rfl | rfl | rfl | rfl
  · exact f0 _ rfl
  · exact f1 _ rfl
  · exact f2 _ rfl
  · exact f3 _ rfl
  · exact f4 _ rfl
  · exact f5 _ rfl
  · exact f6 _ rfl
  · exact f7 _ rfl
theorem open_club {v : Value} {fuel : Nat} {x : DataW H × List MemPlace} (h : DataW.trod enc Try.prog W 0 (fun _ => true) true fuel 26 v.cells.toList = some x) : ∃ c : Club, RlL (hvW W) [c.val] [v] ∧ ClubIn c := by
  obtain ⟨c, h1, -, h3⟩ := openC _ _ _ h
  have hl := h1.len
  have hs : ∃ xs, v = .agg xs := by
    cases v <;> first | exact ⟨_, rfl⟩ | (simp [Value.cells, Club.cells] at hl)
  obtain ⟨xs, rfl⟩ := hs
  refine ⟨c, RlL.one ?_, h3⟩
  simp only [V.Rl]
  exact ⟨xs.toList, rfl, h1⟩
end
end Go.XL
namespace Go.XL
open Go.Proofs
set_option maxRecDepth 100000
set_option maxHeartbeats 8000000
theorem small_of_not_big {c : Club} (h : bigS c = false) : c.Small := by
  have h := not_big h
  have h1 : ¬ 10 < c.places.length := fun e => h (.inl e)
  have h2 : ¬ 50 < c.members.length := fun e => h (.inr (.inl e))
  have h3 : ¬ 25 < c.rounds.length := fun e => h (.inr (.inr (.inl e)))
  refine ⟨by omega, by omega, by omega, fun s hs => ?_⟩
  have h4 : ¬ BigT s := fun e => h (.inr (.inr (.inr ⟨s, hs, e⟩)))
  refine ⟨?_, ?_, ?_, ?_, ?_, ?_⟩ <;> first | (intro t ht; refine Nat.le_of_lt_succ (Nat.lt_of_not_le fun e => h4 ?_)) | (refine Nat.le_of_lt_succ (Nat.lt_of_not_le fun e => h4 ?_))
  all_goals first
    | exact .inl (by omega)
    | exact .inr (.inl (by omega))
    | exact .inr (.inr (.inl (by omega)))
    | exact .inr (.inr (.inr (.inl ⟨t, ht, by omega⟩)))
    | exact .inr (.inr (.inr (.inr (.inl ⟨t, ht, by omega⟩))))
    | exact .inr (.inr (.inr (.inr (.inr ⟨t, ht, by omega⟩))))
structure NextOk (p : Club × List Int) : Prop where
  small : p.1.Small
  tab : zov p.1
  ids : ∀ m ∈ p.1.members, In64 m.id
  len : p.2.length ≤ 1000000
end Go.XL
namespace Go.XL
open Go.Proofs
set_option maxRecDepth 100000
set_option maxHeartbeats 8000000
theorem zns (n m : Int) (hn : In64 n) (hm : 1 ≤ m ∧ m ≤ 1000000) : PC Try.prog 32 [I n, I m] (I (n % m)) := by
  have h1 := Int.emod_nonneg n (show m ≠ 0 by omega)
  have h2 := Int.emod_lt_of_pos n (show 0 < m by omega)
  have h3 : n.tmod m < m := Int.tmod_lt_of_pos n (show 0 < m by omega)
  have h4 : -m < n.tmod m := Int.lt_tmod_of_pos n (show 0 < m by omega)
  have h5 : n % m = n.tmod m ∨ n % m = n.tmod m + m := by
    rw [Int.tmod_eq_emod]
    split <;> omega
  refine DC.of_run Try.func32 rfl Try.ntmps32 Try.results32 (by simp) (fun _ => ?_); simp only [zap, zar, go_sem, Nat.zero_add, Nat.reduceAdd]
  repeat' (first | (with_reducible first | refine DS.fltS yU yU yE ?_ | refine DS.opsNil ?_ | refine DS.seq ?_ | refine DS.regionL ?_ | (refine DS.cE yE ?_; refine CG.p (fun _ => ?_) (fun _ => ?_)) | refine DS.skip ?_) | refine DS.retT [] yE trivial ?_ | fail)
  · have h6 : n.tmod m + m = n % m := by omega
    rw [h6]; rfl
  · have h6 : n.tmod m = n % m := by omega
    rw [h6]; rfl
theorem zmb (a b : List (List (List Int))) : PC Try.prog 35 [zwn a, zwn b] (Bo (decide (a = b))) := by
  refine DC.of_run Try.func35 rfl Try.ntmps35 Try.results35 (by simp) (fun _ => ?_); simp only [zap, zar, go_sem, Nat.zero_add, Nat.reduceAdd]
  refine DS.bnd (t := 0) yG (.inl rfl) (fun hb0 => ?_); simp only [List.length_map] at hb0
  repeat' (first | (with_reducible first | refine DS.fltS yU yU yE ?_ | refine DS.opsNil ?_ | refine DS.seq ?_ | refine DS.regionL ?_ | (refine DS.cE yE ?_; refine CG.np (fun _ => ?_) (fun _ => ?_)) | refine DS.block ?_ | refine DS.skip ?_) | refine DS.retT [] yE trivial ?_ | fail)
  · rename_i h; have : a ≠ b := fun e => by subst e; exact h rfl
    simp [tupV, this]
  refine DS.loopK [0, 1] (by (simp only [go_sem, Nat.reduceEqDiff, ↓reduceIte]; exact rfl)) (fun (i : Nat) => [(5, I i)]) (fun (i : Nat) => i ≤ a.length ∧ a.take i = b.take i) (fun (i : Nat) => a.length - i) 0 yS (by simp) (fun i B hI hB => ?_); try dsimp only at hI hB; simp only [zaq, zau]
  repeat' (first | (with_reducible first | refine DS.fltS yU yU yE ?_ | refine DS.opsNil ?_ | refine DS.seq ?_ | refine DS.regionL ?_ | (refine DS.cE yE ?_; first | refine CG.np (fun _ => ?_) (fun _ => ?_) | refine CG.p (fun _ => ?_) (fun _ => ?_)) | refine DS.blk ?_ | refine DS.block ?_ | refine DS.exit yU ?_ | refine DS.skip ?_) | refine DS.pcS inferInstance (zll _ _) yR yT ?_ | refine DS.drawL (id := 6) [0, 1, 2, 3, 4, 5, 6, 7] 8 (by kernel_rfl) zcr (by simp only [zaw, zbb, zbc, zbd, zav]; exact rfl) (by simp only [zas, zat, List.drop_nil]; exact rfl) ?_ | (with_reducible first | refine DD.fltS yU yU yU yE ?_ | refine DD.nil0 ?_) | refine DS.retT [] yE trivial ?_ | fail)
  · rename_i h1 h2
    have : a ≠ b := fun e => h2 (by subst e; rfl)
    simp [tupV, this]
  · rename_i h1 h2
    exact DS.back (hB (i + 1) _ _ (by omega) (⟨by omega, zho hI.2 (by omega) (by omega) h2⟩) yS yS (fun b o e => by first | exact e | (simp only [zab]; split <;> simp_all)))
  · rename_i h1
    have := zlv hI.2 (by omega) (by omega)
    simp [tupV, this]
end Go.XL
namespace Go.XL
open Go.Proofs
set_option maxRecDepth 100000
set_option maxHeartbeats 8000000
theorem ztr (c : Club) (hs : c.Small) (n budget : Int) :
    PC Try.prog 34 [c.val, I n, I budget] (tupV [zwn (zjs c n budget).1, I (zjs c n budget).2.1, I (zjs c n budget).2.2.1, I (zjs c n budget).2.2.2]) := by
  have q1 := hs.rounds
  have q2 := hs.members
  rw [zjs]
  by_cases hc0 : zdj c = 0
  · obtain ⟨k1, k2, k3⟩ := zfb hc0
    have f := zkg hc0
    have g := zgj k1
    have ha := zwx k2
    rw [if_neg (by omega)]
    by_cases hn : 1 ≤ n ∧ n ≤ 5
    · rw [if_neg (by omega)]
      by_cases hb : 0 ≤ budget ∧ budget ≤ 20000
      · rw [if_neg (by omega)]
        obtain ⟨N, rfl⟩ : ∃ N : Nat, n = N := ⟨n.toNat, by omega⟩
        refine DC.of_run Try.func34 rfl Try.ntmps34 Try.results34 (by simp) (fun _ => ?_); simp only [zap, zar, go_sem, Nat.zero_add, Nat.reduceAdd]
        generalize hR : (if 20 < (c.rounds.length : Int) + (N : Int) then ([], 0, 0, 8) else if zdx c (idsP c (N : Int).toNat) ≠ 0 then ([], 0, 0, zdx c (idsP c (N : Int).toNat)) else
          (if (runS c (idsP c (N : Int).toNat) budget).1 = 1 then zdt (N : Int).toNat (runS c (idsP c (N : Int).toNat) budget).2.2 else [], (runS c (idsP c (N : Int).toNat) budget).1, (runS c (idsP c (N : Int).toNat) budget).2.1, 0) : List (List (List Int)) × Int × Int × Int) = R
        rw [Int.toNat_natCast] at hR
        have HR := Box.mk hR
        clear hR
        repeat' (first | (with_reducible first | (refine DS.nilOwn (t := 11) yU (by first | exact .inl rfl | exact .inr rfl) yE ?_) | refine DS.fltS yU yU yE ?_ | refine DS.opsNil ?_ | refine DS.seq ?_ | refine DS.regionL ?_ | (refine DS.cE yE ?_; first | refine CG.p (fun _ => ?_) (fun _ => ?_) | refine CG.no ?_) | (refine DS.gE yU yE ?_; refine GG.run ?_) | refine DS.block ?_ | refine DS.skip ?_) | refine DS.pcS inferInstance (zgs c hs) yR yT ?_ | refine DS.pcS inferInstance (zeb _ _ _) yR yT ?_ | (refine DS.boxF (t := 3) yU yE yU ?_; simp only [zbh, zbz, zbg, zbs, zbf, zba, zbk, zbi, zce, zby, zbp, zbx, zbr, zbq]) | fail)
        · rename_i e1
          rw [← HR.out, if_pos e1]
          refine DS.retT [] yG trivial rfl
        rename_i e1
        refine DS.loopK [1, 2, 3] (by (simp only [go_sem, Nat.reduceEqDiff, ↓reduceIte]; exact rfl)) (fun (j : Nat × List (List Int)) => [(11, .own false 22 1 (j.2.map cR)), (12, I j.1)]) (fun (j : Nat × List (List Int)) => j.1 ≤ N ∧ j.2 = idsP c j.1 ∧ zdx c (idsP c N) = zdx c ((idsP c N).drop j.1)) (fun (j : Nat × List (List Int)) => N - j.1) (0, []) yS ⟨Nat.zero_le _, rfl, rfl⟩ (fun j B hI hB => ?_); try dsimp only at hI hB; simp only [zaq, zau]
        obtain ⟨j, L⟩ := j
        dsimp only at hI hB ⊢
        obtain ⟨g1, rfl, g2⟩ := hI
        have H := Box.mk g2
        have hl := zfe c j
        clear g2
        by_cases hjj : (j : Int) < (N : Int)
        · have hj : j < N := by omega
          have hd := zrp c hj
          have hpl := zng c hs ((c.rounds.length : Int) + j)
          have hpn : (zdk c ((c.rounds.length : Int) + j)).length ≤ 1000000 := by rw [zdk, List.length_map]; exact Nat.le_trans (List.length_filter_le _ _) q2
          have hs2 := zro c j
          rw [zcl, if_neg (by omega), if_neg (by omega)] at hpl
          generalize zdk c ((c.rounds.length : Int) + j) = ids at *
          have HD := Box.mk (And.intro hd hs2)
          clear hd hs2
          repeat' (first | (with_reducible refine DS.mv (t := 11) yU (by first | exact .inl rfl | exact .inr rfl) yE ?_; simp only [zak, zac, zad, Nat.reduceEqDiff, ↓reduceIte, zaf, zag, zao, zae, zai, zal, zah]) | (with_reducible refine DS.mv (t := 63) yU (by first | exact .inl rfl | exact .inr rfl) yE ?_; simp only [zak, zac, zad, Nat.reduceEqDiff, ↓reduceIte, zaf, zag, zao, zae, zai, zal, zah]) | (with_reducible first | refine DS.fltS yU yU yE ?_ | refine DS.opsNil ?_ | refine DS.seq ?_ | refine DS.regionL ?_ | (refine DS.cE yE ?_; first | refine CG.np (fun _ => ?_) (fun _ => ?_) | refine CG.p (fun _ => ?_) (fun _ => ?_) | refine CG.yes ?_) | (refine DS.gE yU yE ?_; first | refine GG.pF (fun _ => ?_) (fun _ => ?_) | refine GG.run ?_ | refine GG.sT ?_) | refine DS.blk ?_ | refine DS.block ?_ | refine DS.skip ?_) | (refine DS.bsl yU yE yE ?_; simp only [go_sem, Nat.zero_add, Nat.reduceAdd]) | (refine DS.append (mm := false) yU yE yE yU (by decide) yE (by first | exact .inl rfl | exact .inr ⟨rfl, rfl⟩) yE yX0 (by first | exact zan zcq _ | exact zan zcx _ | exact zan Member.len _ | exact zan Sitting.len _ | exact zan Ruling.len _ | (simp only [List.mem_cons, List.not_mem_nil, or_false, forall_eq]; rfl) | simp) ⟨by (try simp only [List.length_map, List.length_cons, List.length_nil, List.length_append, List.length_take, List.length_drop]); omega, by decide⟩ ?_; simp only [zak, zac, zad, Nat.reduceEqDiff, ↓reduceIte, zaf, zag, zao, zae, zai, zal, zah]) | refine DS.pcS inferInstance (hpl) yR yT ?_ | fail)
          all_goals first
            | (have hid : zdx c (idsP c N) = 8 := by rw [H.out, HD.out.1, zdx, if_neg (by omega), if_neg (by have := Int.tmod_nonneg (a := (ids.length : Int)) c.size (by omega); omega), if_pos (by omega)]
               rw [← HR.out, if_neg e1, if_pos (by rw [hid]; decide), hid]
               exact DS.retT [] yG trivial rfl)
            | exact DS.back (hB (j + 1, idsP c (j + 1)) _ _ (by dsimp only; omega) ⟨by dsimp only; omega, rfl, by rw [H.out, HD.out.1, zdx, if_neg (by omega), if_neg (by have := Int.tmod_nonneg (a := (ids.length : Int)) c.size (by omega); omega), if_neg (by omega)]⟩ (by dsimp only; rw [HD.out.2]; exact yS) yS (fun d o e => by exact e))
            | (have hid : zdx c (idsP c N) = 3 := by
                 rw [H.out, HD.out.1, zdx]
                 by_cases h0 : ids.length = 0
                 · rw [if_pos h0]
                 · rw [if_neg h0, if_pos (by first | (have := Int.tmod_nonneg (a := (ids.length : Int)) c.size (by omega); omega) | (rw [Int.tmod_eq_of_lt (by omega) (by omega)]; omega))]
               rw [← HR.out, if_neg e1, if_pos (by rw [hid]; decide), hid]
               exact DS.retT [] yG trivial rfl)
        · obtain rfl : j = N := by omega
          have hie : zdx c (idsP c j) = 0 := by rw [H.out, List.drop_eq_nil_of_le (by omega)]; rfl
          have hok := znt hie
          rw [if_neg e1, if_neg (by omega)] at HR
          repeat' (first | (with_reducible first | refine DS.fltS yU yU yE ?_ | refine DS.opsNil ?_ | refine DS.seq ?_ | refine DS.regionL ?_ | (refine DS.cE yE ?_; refine CG.no ?_) | refine DS.exit yU ?_) | fail)
          refine DS.callA inferInstance (zur c hs (idsP c j) budget (by omega)) yR yH (fun u S' hu => ?_)
          obtain ⟨bx, bp, bs, rfl, s0⟩ := hu
          repeat' (first | (with_reducible first | refine DS.fltS yU yU yE ?_ | refine DS.opsNil ?_ | refine DS.seq ?_ | refine DS.regionL ?_) | fail)
          have hsum := zps (idsP c j) fun x hx => (hok x hx).2
          have hrs : ∀ ids ∈ idsP c j, ids.length ≤ 40 ∧ ids.Nodup ∧ ∀ a ∈ ids, ¬ zgb c a < 0 := fun ids hx => by
            have h1 := (hok ids hx).2
            obtain ⟨i, -, rfl⟩ := List.mem_map.1 hx
            refine ⟨by omega, zsh (znf k2 _), fun a ha2 => ?_⟩
            obtain ⟨m, hm1, rfl⟩ := List.mem_map.1 ha2
            have hm2 := (List.mem_filter.1 hm1).1
            have h3 : 0 ≤ zgb c m.id := zvu hm2 (decide_eq_true rfl)
            omega
          have hj0 : 0 < (idsP c j).length := by omega
          have hfr0 : zfg ((idsP c j)[0]'hj0) ((List.replicate (idsP c j).length (⟨[], none⟩ : PRow))[0]'(by simpa using hj0)).rows = (idsP c j)[0]'hj0 := by
            rw [List.getElem_replicate]; exact znx _
          have hgo := ztz hs ha g.1 (rs := idsP c j) (by omega) hrs (zgp (idsP c j)) S' (met0 c) 0 (List.replicate (idsP c j).length ⟨[], none⟩) 0 s0 (by simp) hj0 (fun i h1 h2 => by simp) (znn c) (by rw [hfr0]; exact ztv hj0) (fun i h => by simp only [List.getElem_replicate, List.length_nil, zgp]; omega)
          have hrun : srch c.size.toNat budget (idsP c j) (zgp (idsP c j)) (met0 c) 0 (zfg ((idsP c j)[0]'hj0) ((List.replicate (idsP c j).length (⟨[], none⟩ : PRow))[0]'(by simpa using hj0)).rows) 0 = runS c (idsP c j) budget := by
            rw [hfr0, runS, List.headD_eq_head?_getD, List.head?_eq_getElem?, List.getElem?_eq_getElem hj0]; rfl
          rw [hrun] at hgo
          clear hrun hfr0
          generalize runS c (idsP c j) budget = X at *
          refine DS.callA inferInstance hgo yR (by simp (disch := omega) only [go_sem, dopV, Option.map_some, Option.map_none, Option.bind_some, Option.bind_none, ↓reduceIte, Nat.reduceEqDiff, Nat.reduceLT, Nat.reduceLeDiff, Nat.reduceAdd, Nat.reduceMul, Nat.reduceSub, Nat.zero_add, Nat.add_zero, Nat.zero_le, Nat.zero_mul, Nat.mul_one, Nat.one_mul, Int.natCast_zero, Int.toNat_zero, Int.reduceToNat, Int.reduceLT, Int.reduceLE, Int.reduceEq, decide_true, decide_false, true_and, and_true, Bool.and_self, Bool.and_true, Bool.true_and, Bool.not_true, Bool.not_false, IntWalk.toNatUp, IntWalk.iteOmega, IntWalk.i64_in, Option.isSome_some, not_true_eq_false, not_false_eq_true, Option.getD_some, Option.getD_none, Int.toNat_natCast, List.length_map, List.getElem?_map, List.getElem?_eq_getElem, V.flat, V.one, List.all_cons, List.all_nil]) (fun u S1 hu => ?_)
          obtain ⟨rfl, met1, ps1, s1, hp1, -, hp2⟩ := hu
          rw [← HR.out]
          clear hgo hB s0
          have hx := s1.obj
          repeat' (first | (with_reducible first | refine DS.fltS yU yU yX1 ?_ | refine DS.opsNil ?_ | refine DS.seq ?_ | refine DS.regionL ?_) | (with_reducible refine DS.cE yX1 ?_; with_reducible refine CG.np (fun _ => ?_) (fun _ => ?_)) | with_reducible refine DS.skip ?_ | refine DS.drawL (id := 21) [0, 1, 2, 3, 4, 5, 6] 7 (by kernel_rfl) zcr (by simp only [zaw, zbb, zbc, zbd, zav]; exact rfl) (by simp only [zas, zat, List.drop_nil]; exact rfl) ?_ | refine DS.drawL (id := 22) [0, 1, 2, 3, 4, 5, 6, 7, 8, 9, 10] 11 (by kernel_rfl) zcr (by simp only [zaw, zbb, zbc, zbd, zav]; exact rfl) (by simp only [zas, zat, List.drop_nil]; exact rfl) ?_ | (with_reducible first | refine DD.fltS yU yU yU yX1 ?_ | refine DD.nil0 ?_) | fail)
          · rename_i e5
            rw [if_neg e5]
            refine DS.retT [] yG trivial rfl
          · rename_i e5
            have hrow : ps1.map PRow.rows = zdt j X.2.2 := by
              have hl1 : ps1.length = j := by simpa [zfe] using hp1
              apply List.ext_getElem
              · simp [zdt, hl1]
              · intro i h1 h2
                rw [List.length_map] at h1
                have h3 := hp2 (by omega) i (by simp [zfe]; omega) h1
                simp only [List.getElem_map, zdt, List.getElem_range, h3, List.getElem_replicate, List.nil_append]
            have e6 : X.1 = 1 := by omega
            refine DS.freezeRows (fun i h b cap j e => (s1.rx i h b cap j e).2.1) s1.rr ps1.length 0 S1 (by omega) (by simpa using s1.pln) (fun j h _ => s1.row j h) (fun S' h1 h2 => ?_)
            refine DS.mapO V.peek (fun _ _ _ h => V.peek_Rl h) (fun v => zeo v) h1 ?_
            have hm1 : (ps1.map PRow.froz).map V.peek = (zdt j X.2.2).map fun t => XL.rows t := by
              rw [← hrow, List.map_map, List.map_map]
              apply List.map_congr_left
              intro p hp
              obtain ⟨i, hi, rfl⟩ := List.mem_iff_getElem.1 hp
              exact PRow.froz_peek (s1.row i hi)
            rw [hm1]
            have hlen : ps1.length = (zdt j X.2.2).length := by rw [← hrow, List.length_map]
            have hlen2 : (List.replicate j (⟨[], none⟩ : PRow)).length = (zdt j X.2.2).length := by rw [← hlen, hp1, List.length_replicate, List.length_replicate, zfe]
            rw [hlen2]
            generalize zdt j X.2.2 = PL at *
            rw [if_pos e6]
            refine DS.freeze (b := bp) (t := 6) (sz := 1) yR (by rw [zaz h1, if_pos rfl]) (by simp) ⟨Nat.le_refl _, by rw [← hlen, hp1, List.length_replicate, zfe]; unfold maxLen; omega⟩ ?_
            rw [zkf]
            refine DS.retT [] yG trivial (by rw [e6]; rfl)
      · rw [if_pos (by omega)]
        refine DC.of_run Try.func34 rfl Try.ntmps34 Try.results34 (by simp) (fun _ => ?_); simp only [zap, zar, go_sem, Nat.zero_add, Nat.reduceAdd]
        repeat' (first | (with_reducible first | refine DS.fltS yU yU yE ?_ | refine DS.opsNil ?_ | refine DS.seq ?_ | refine DS.regionL ?_ | (refine DS.cE yE ?_; first | refine CG.yes ?_ | refine CG.no ?_) | (refine DS.gE yU yE ?_; refine GG.run ?_) | refine DS.skip ?_) | refine DS.pcS inferInstance (zgs c hs) yR yT ?_ | refine DS.pcS inferInstance (zeb _ _ _) yR yT ?_ | (refine DS.boxF (t := 3) yU yE yU ?_; simp only [zbh, zbz, zbg, zbs, zbf, zba, zbk, zbi, zce, zby, zbp, zbx, zbr, zbq]) | refine DS.retT [] yE trivial ?_ | fail)
        rfl
    · rw [if_pos (by omega)]
      refine DC.of_run Try.func34 rfl Try.ntmps34 Try.results34 (by simp) (fun _ => ?_); simp only [zap, zar, go_sem, Nat.zero_add, Nat.reduceAdd]
      repeat' (first | (with_reducible first | refine DS.fltS yU yU yE ?_ | refine DS.opsNil ?_ | refine DS.seq ?_ | refine DS.regionL ?_ | (refine DS.cE yE ?_; first | refine CG.yes ?_ | refine CG.no ?_) | (refine DS.gE yU yE ?_; refine GG.sT ?_) | refine DS.skip ?_) | refine DS.pcS inferInstance (zgs c hs) yR yT ?_ | refine DS.pcS inferInstance (zeb _ _ _) yR yT ?_ | (refine DS.boxF (t := 3) yU yE yU ?_; simp only [zbh, zbz, zbg, zbs, zbf, zba, zbk, zbi, zce, zby, zbp, zbx, zbr, zbq]) | refine DS.retT [] yE trivial ?_ | fail)
      rfl
  · rw [if_pos hc0]
    refine DC.of_run Try.func34 rfl Try.ntmps34 Try.results34 (by simp) (fun _ => ?_); simp only [zap, zar, go_sem, Nat.zero_add, Nat.reduceAdd]
    repeat' (first | (with_reducible first | refine DS.fltS yU yU yE ?_ | refine DS.opsNil ?_ | refine DS.seq ?_ | refine DS.regionL ?_ | (refine DS.cE yE ?_; refine CG.yes ?_)) | refine DS.pcS inferInstance (zgs c hs) yR yT ?_ | (refine DS.boxF (t := 3) yU yE yU ?_; simp only [zbh, zbz, zbg, zbs, zbf, zba, zbk, zbi, zce, zby, zbp, zbx, zbr, zbq]) | refine DS.retT [] yE trivial ?_ | fail)
    rfl
end Go.XL
namespace Go.XL
open Go.Proofs
set_option maxRecDepth 100000
set_option maxHeartbeats 8000000
structure PlOk (p : Club × Int × Int) : Prop where
  small : p.1.Small
  tab : zov p.1
  ids : ∀ m ∈ p.1.members, In64 m.id
  nums : In64 p.2.1 ∧ In64 p.2.2
theorem clubPlans0_pc (c : Club) (nums : List Int) (rounds budget : Int) (hc : zov c) (hm : ∀ m ∈ c.members, In64 m.id) (hr : In64 rounds) (hb : In64 budget) :
    PC Try.prog 7 [c.val, ints nums, I rounds, I budget] (Bo true) := by
  have hz := clubOf_m (newX nums)
  refine DC.of_run Try.func7 rfl Try.ntmps7 Try.results7 (by simp) (fun _ => ?_); simp only [zap, zar, go_sem, Nat.zero_add, Nat.reduceAdd]
  cases hbig : bigS c with
  | true =>
    have hb := zww c
    rw [hbig] at hb
    repeat' (first | (with_reducible first | refine DS.fltS yU yU yE ?_ | refine DS.opsNil ?_ | refine DS.seq ?_ | refine DS.regionL ?_ | (refine DS.cE yE ?_; refine CG.yes ?_)) | refine DS.pcS inferInstance (hb) yR yT ?_ | refine DS.pcS inferInstance (zql) yR yT ?_ | (refine DS.boxF (t := 4) yU yE yU ?_; simp only [zbh, zbz, zbg, zbs, zbf, zba, zbk, zbi, zce, zby, zbp, zbx, zbr, zbq]) | refine DS.retT [] yE trivial ?_ | fail)
    rfl
  | false =>
  have hbg := zww c
  rw [hbig] at hbg
  have hsm := small_of_not_big hbig
  clear hbig
  repeat' (first | (with_reducible first | refine DS.fltS yU yU yE ?_ | refine DS.opsNil ?_ | refine DS.seq ?_ | refine DS.regionL ?_ | (refine DS.cE yE ?_; refine CG.no ?_) | refine DS.skip ?_) | refine DS.pcS inferInstance (hbg) yR yT ?_ | (refine DS.boxF (t := 4) yU yE yU ?_; simp only [zbh, zbz, zbg, zbs, zbf, zba, zbk, zbi, zce, zby, zbp, zbx, zbr, zbq]) | fail)
  clear hbg
  refine DS.call (dst := some 29) [] [] inferInstance (made_dc nums) yR yH (fun _ _ e => by cases e) (fun _ _ e => by cases e) ?_
  rintro v S0 ⟨bs, rfl, rfl⟩ -
  refine DS.reS (S' := []) (fun _ _ e => by cases e) ?_
  simp only [zaq, zau, zct]
  generalize (zei (newX nums) 3).1 = d at hz ⊢
  generalize (zei (newX nums) 3).2 = x
  repeat' (first | with_reducible refine DS.fltS yU yU yE ?_ | fail)
  refine DS.allocS yR yU yU (fun b8 h8 => ?_)
  have e0 : (Value.agg #[.int .i64 0, .int .i64 0, .int .i64 0, .int .i64 0, .slice none 0 0, .bool false, .slice none 0 0, .slice none 0 0]).cells.toList.map V.v = zdn := rfl
  rw [e0]
  clear e0 h8
  have i1 := zns rounds 3 hr (by omega)
  have n1 := Int.emod_nonneg rounds (show (3 : Int) ≠ 0 by omega)
  have n2 := Int.emod_lt_of_pos rounds (show (0 : Int) < 3 by omega)
  repeat' (first | (with_reducible first | refine DS.fltS yU yU yE ?_ | refine DS.opsNil ?_ | refine DS.seq ?_ | refine DS.regionL ?_ | (refine DS.cE yE ?_; refine CG.p (fun _ => ?_) (fun _ => ?_)) | refine DS.skip ?_) | (refine DS.bsl yU yE yE ?_; simp only [go_sem, Nat.zero_add, Nat.reduceAdd]) | (refine DS.store yR yE yE yE yE yU (by exact ⟨by with_unfolding_all rfl, by (try simp only [List.length_map, List.length_append, List.length_set, List.length_replicate, List.length_cons, List.length_nil]); omega⟩) ?_; simp only [zbu, zax, zbe, zcd, zbm, zbl, zbn]; try simp only [zak, zac, zad, Nat.reduceEqDiff, ↓reduceIte, zaf, zag, zao, zae, zai, zal, zah]) | fail)
  · have t1 := Int.tmod_lt_of_pos budget (show (0 : Int) < 301 by omega)
    have t2 := Int.lt_tmod_of_pos budget (show (0 : Int) < 301 by omega)
    have hw64 : In64 (if budget.tmod 301 < budget then budget.tmod 301 else budget) := by
      unfold In64 at hb ⊢
      split <;> omega
    clear t1 t2 hb
    generalize (if budget.tmod 301 < budget then budget.tmod 301 else budget) = w at *
    have i2 := zns w 200 hw64 (by omega)
    have i3 := zns w 5 hw64 (by omega)
    have n3 := Int.emod_nonneg w (show (200 : Int) ≠ 0 by omega)
    have n4 := Int.emod_lt_of_pos w (show (0 : Int) < 200 by omega)
    have n5 := Int.emod_nonneg w (show (5 : Int) ≠ 0 by omega)
    have n6 := Int.emod_lt_of_pos w (show (0 : Int) < 5 by omega)
    have hX : ∃ X : List (Club × Int × Int), [mC c, mC d, mC d, mC d] = X.map (fun p => mC p.1) ∧ [[I rounds], [I (1 + rounds % 3)], [I rounds], [I 1]] = X.map (fun p => [I p.2.1]) ∧ [[I w], [I (w % 200)], [I w], [I (w % 5)]] = X.map (fun p => [I p.2.2]) ∧ X.length ≤ 1000 ∧ ∀ p ∈ X, PlOk p := by
      refine ⟨[(c, rounds, w), (d, 1 + rounds % 3, w % 200), (d, rounds, w), (d, 1, w % 5)], rfl, rfl, rfl, by simp, fun p hp => ?_⟩
      simp only [List.mem_cons, List.not_mem_nil, or_false] at hp
      have k1 : In64 (1 + rounds % 3) := by unfold In64; omega
      have k2 : In64 (w % 200) := by unfold In64; omega
      have k3 : In64 (w % 5) := by unfold In64; omega
      have k4 : In64 1 := by unfold In64; omega
      rcases hp with rfl | rfl | rfl | rfl
      · exact ⟨hsm, hc, hm, hr, hw64⟩
      · exact ⟨hz.small, hz.tab, hz.in64, k1, k2⟩
      · exact ⟨hz.small, hz.tab, hz.in64, hr, hw64⟩
      · exact ⟨hz.small, hz.tab, hz.in64, k4, k3⟩
    obtain ⟨X, hX1, hX2, hX3, hX4, hX5⟩ := hX
    generalize rounds % 3 = r at *
    generalize w % 200 = w1 at *
    generalize w % 5 = w2 at *
    repeat' (first | (with_reducible first | refine DS.fltS yU yU yE ?_ | refine DS.opsNil ?_ | refine DS.seq ?_ | refine DS.regionL ?_ | refine DS.block ?_) | (refine DS.bsl yU yE yE ?_; simp only [go_sem, Nat.zero_add, Nat.reduceAdd]) | refine DS.pcS inferInstance (i1) yR yF ?_ | refine DS.pcS inferInstance (i2) yR yF ?_ | refine DS.pcS inferInstance (i3) yR yF ?_ | fail)
    simp only [mC] at hX1
    rw [hX1, hX2, hX3]
    clear hX1 hX2 hX3 hz hsm hc hm hr hw64 i1 i2 i3 n1 n2 n3 n4 n5 n6
    refine DS.loopK [11, 12, 13] (by (simp only [go_sem, Nat.reduceEqDiff, ↓reduceIte]; exact rfl)) (fun (i : Nat) => [(14, I i)]) (fun (i : Nat) => i ≤ X.length) (fun (i : Nat) => X.length - i) 0 yS (Nat.zero_le _) (fun i B hI hB => ?_); try dsimp only at hI hB; simp only [zaq, zau]
    by_cases hi : (i : Int) < (X.length : Int)
    · have hi' : i < X.length := by omega
      obtain ⟨o1, o2, o3, o4⟩ := hX5 _ (List.getElem_mem hi')
      have cp := zwb X[i].1 o1
      have pp := zts X[i].1 o1 o2 o3 X[i].2.1 X[i].2.2 o4
      have pr := ztr X[i].1 o1 X[i].2.1 X[i].2.2
      have sm := zqz X[i].1 o1
      have s1 := zmb (zjs X[i].1 X[i].2.1 X[i].2.2).1 (zjs X[i].1 X[i].2.1 X[i].2.2).1
      rw [decide_eq_true rfl] at s1
      generalize zjs X[i].1 X[i].2.1 X[i].2.2 = A at *
      repeat' (first | (with_reducible first | refine DS.fltS yU yU yE ?_ | refine DS.opsNil ?_ | refine DS.seq ?_ | refine DS.regionL ?_ | (refine DS.cE yE ?_; first | refine CG.yes ?_ | refine CG.no ?_) | (refine DS.gE yU yE ?_; refine GG.run ?_) | refine DS.blk ?_ | refine DS.block ?_ | refine DS.skip ?_) | (refine DS.letF (t := 15) yU yE yU (fun _ => by (simp (disch := omega) only [go_sem, dopV, Option.map_some, Option.map_none, Option.bind_some, Option.bind_none, ↓reduceIte, Nat.reduceEqDiff, Nat.reduceLT, Nat.reduceLeDiff, Nat.reduceAdd, Nat.reduceMul, Nat.reduceSub, Nat.zero_add, Nat.add_zero, Nat.zero_le, Nat.zero_mul, Nat.mul_one, Nat.one_mul, Int.natCast_zero, Int.toNat_zero, Int.reduceToNat, Int.reduceLT, Int.reduceLE, Int.reduceEq, decide_true, decide_false, true_and, and_true, Bool.and_self, Bool.and_true, Bool.true_and, Bool.not_true, Bool.not_false, IntWalk.toNatUp, IntWalk.iteOmega, IntWalk.i64_in, Option.isSome_some, not_true_eq_false, not_false_eq_true, Option.getD_some, Option.getD_none, Int.toNat_natCast, List.length_map, List.getElem?_map, List.getElem?_eq_getElem, V.flat, V.one, List.all_cons, List.all_nil, *]; exact rfl)) yE yU (by exact ⟨by with_unfolding_all rfl, by with_unfolding_all decide⟩) (fun _ => by simp only [go_sem, Nat.reduceEqDiff, ↓reduceIte]) ?_; simp only [go_sem]) | refine DS.pcS inferInstance (cp) yR yT ?_ | refine DS.pcS inferInstance (sm) yR yT ?_ | refine DS.drawL (id := 12) [0, 1, 2, 3, 4, 5, 6, 7, 8, 9, 10, 11, 12, 13, 14, 15, 16, 17] 18 (by kernel_rfl) zcr (by simp only [zaw, zbb, zbc, zbd, zav]; exact rfl) (by simp only [zas, zat, List.drop_nil]; exact rfl) ?_ | refine DS.drawL (id := 13) [0, 1, 2, 3, 4, 5, 6, 7, 8, 9, 10, 11, 12, 13, 14, 15, 16, 17, 18, 19, 20] 21 (by kernel_rfl) zcr (by simp only [zaw, zbb, zbc, zbd, zav]; exact rfl) (by simp only [zas, zat, List.drop_nil]; exact rfl) ?_ | refine DS.drawL (id := 14) [0, 1, 2, 3, 4, 5, 6, 7, 8, 9, 10, 11, 12, 13, 14, 15, 16, 17, 18, 19, 20, 21, 22, 23, 24] 25 (by kernel_rfl) zcr (by simp only [zaw, zbb, zbc, zbd, zav]; exact rfl) (by simp only [zas, zat, List.drop_nil]; exact rfl) ?_ | (with_reducible first | refine DD.fltS yU yU yU yE ?_ | refine DD.flt1S yU yU yU yU yE ?_ | (refine DD.gE yU yE ?_; refine DGG.run ?_) | refine DD.nil0 ?_) | refine DD.pcV0 inferInstance (s1) yU yT ?_ | refine DD.pcS inferInstance (pp) yU yT ?_; simp only [zbo, zbw, Nat.reduceEqDiff, ↓reduceIte] | refine DD.pcS inferInstance (pr) yU yT ?_; simp only [zbo, zbw, Nat.reduceEqDiff, ↓reduceIte] | fail)
      refine DS.back (hB (i + 1) _ _ (by omega) (by omega) yS yS (fun q o e => by exact e))
    · repeat' (first | (with_reducible first | refine DS.fltS yU yU yE ?_ | refine DS.opsNil ?_ | refine DS.seq ?_ | refine DS.regionL ?_ | (refine DS.cE yE ?_; refine CG.no ?_) | refine DS.exit yU ?_) | refine DS.pcS inferInstance (zql) yR yT ?_ | refine DS.retT [] yE trivial ?_ | fail)
      rfl
  · have hw64 := hb
    clear hb
    generalize budget = w at *
    have i2 := zns w 200 hw64 (by omega)
    have i3 := zns w 5 hw64 (by omega)
    have n3 := Int.emod_nonneg w (show (200 : Int) ≠ 0 by omega)
    have n4 := Int.emod_lt_of_pos w (show (0 : Int) < 200 by omega)
    have n5 := Int.emod_nonneg w (show (5 : Int) ≠ 0 by omega)
    have n6 := Int.emod_lt_of_pos w (show (0 : Int) < 5 by omega)
    have hX : ∃ X : List (Club × Int × Int), [mC c, mC d, mC d, mC d] = X.map (fun p => mC p.1) ∧ [[I rounds], [I (1 + rounds % 3)], [I rounds], [I 1]] = X.map (fun p => [I p.2.1]) ∧ [[I w], [I (w % 200)], [I w], [I (w % 5)]] = X.map (fun p => [I p.2.2]) ∧ X.length ≤ 1000 ∧ ∀ p ∈ X, PlOk p := by
      refine ⟨[(c, rounds, w), (d, 1 + rounds % 3, w % 200), (d, rounds, w), (d, 1, w % 5)], rfl, rfl, rfl, by simp, fun p hp => ?_⟩
      simp only [List.mem_cons, List.not_mem_nil, or_false] at hp
      have k1 : In64 (1 + rounds % 3) := by unfold In64; omega
      have k2 : In64 (w % 200) := by unfold In64; omega
      have k3 : In64 (w % 5) := by unfold In64; omega
      have k4 : In64 1 := by unfold In64; omega
      rcases hp with rfl | rfl | rfl | rfl
      · exact ⟨hsm, hc, hm, hr, hw64⟩
      · exact ⟨hz.small, hz.tab, hz.in64, k1, k2⟩
      · exact ⟨hz.small, hz.tab, hz.in64, hr, hw64⟩
      · exact ⟨hz.small, hz.tab, hz.in64, k4, k3⟩
    obtain ⟨X, hX1, hX2, hX3, hX4, hX5⟩ := hX
    generalize rounds % 3 = r at *
    generalize w % 200 = w1 at *
    generalize w % 5 = w2 at *
    repeat' (first | (with_reducible first | refine DS.fltS yU yU yE ?_ | refine DS.opsNil ?_ | refine DS.seq ?_ | refine DS.regionL ?_ | refine DS.block ?_) | (refine DS.bsl yU yE yE ?_; simp only [go_sem, Nat.zero_add, Nat.reduceAdd]) | refine DS.pcS inferInstance (i1) yR yF ?_ | refine DS.pcS inferInstance (i2) yR yF ?_ | refine DS.pcS inferInstance (i3) yR yF ?_ | fail)
    simp only [mC] at hX1
    rw [hX1, hX2, hX3]
    clear hX1 hX2 hX3 hz hsm hc hm hr hw64 i1 i2 i3 n1 n2 n3 n4 n5 n6
    refine DS.loopK [11, 12, 13] (by (simp only [go_sem, Nat.reduceEqDiff, ↓reduceIte]; exact rfl)) (fun (i : Nat) => [(14, I i)]) (fun (i : Nat) => i ≤ X.length) (fun (i : Nat) => X.length - i) 0 yS (Nat.zero_le _) (fun i B hI hB => ?_); try dsimp only at hI hB; simp only [zaq, zau]
    by_cases hi : (i : Int) < (X.length : Int)
    · have hi' : i < X.length := by omega
      obtain ⟨o1, o2, o3, o4⟩ := hX5 _ (List.getElem_mem hi')
      have cp := zwb X[i].1 o1
      have pp := zts X[i].1 o1 o2 o3 X[i].2.1 X[i].2.2 o4
      have pr := ztr X[i].1 o1 X[i].2.1 X[i].2.2
      have sm := zqz X[i].1 o1
      have s1 := zmb (zjs X[i].1 X[i].2.1 X[i].2.2).1 (zjs X[i].1 X[i].2.1 X[i].2.2).1
      rw [decide_eq_true rfl] at s1
      generalize zjs X[i].1 X[i].2.1 X[i].2.2 = A at *
      repeat' (first | (with_reducible first | refine DS.fltS yU yU yE ?_ | refine DS.opsNil ?_ | refine DS.seq ?_ | refine DS.regionL ?_ | (refine DS.cE yE ?_; first | refine CG.yes ?_ | refine CG.no ?_) | (refine DS.gE yU yE ?_; refine GG.run ?_) | refine DS.blk ?_ | refine DS.block ?_ | refine DS.skip ?_) | (refine DS.letF (t := 15) yU yE yU (fun _ => by (simp (disch := omega) only [go_sem, dopV, Option.map_some, Option.map_none, Option.bind_some, Option.bind_none, ↓reduceIte, Nat.reduceEqDiff, Nat.reduceLT, Nat.reduceLeDiff, Nat.reduceAdd, Nat.reduceMul, Nat.reduceSub, Nat.zero_add, Nat.add_zero, Nat.zero_le, Nat.zero_mul, Nat.mul_one, Nat.one_mul, Int.natCast_zero, Int.toNat_zero, Int.reduceToNat, Int.reduceLT, Int.reduceLE, Int.reduceEq, decide_true, decide_false, true_and, and_true, Bool.and_self, Bool.and_true, Bool.true_and, Bool.not_true, Bool.not_false, IntWalk.toNatUp, IntWalk.iteOmega, IntWalk.i64_in, Option.isSome_some, not_true_eq_false, not_false_eq_true, Option.getD_some, Option.getD_none, Int.toNat_natCast, List.length_map, List.getElem?_map, List.getElem?_eq_getElem, V.flat, V.one, List.all_cons, List.all_nil, *]; exact rfl)) yE yU (by exact ⟨by with_unfolding_all rfl, by with_unfolding_all decide⟩) (fun _ => by simp only [go_sem, Nat.reduceEqDiff, ↓reduceIte]) ?_; simp only [go_sem]) | refine DS.pcS inferInstance (cp) yR yT ?_ | refine DS.pcS inferInstance (sm) yR yT ?_ | refine DS.drawL (id := 12) [0, 1, 2, 3, 4, 5, 6, 7, 8, 9, 10, 11, 12, 13, 14, 15, 16, 17] 18 (by kernel_rfl) zcr (by simp only [zaw, zbb, zbc, zbd, zav]; exact rfl) (by simp only [zas, zat, List.drop_nil]; exact rfl) ?_ | refine DS.drawL (id := 13) [0, 1, 2, 3, 4, 5, 6, 7, 8, 9, 10, 11, 12, 13, 14, 15, 16, 17, 18, 19, 20] 21 (by kernel_rfl) zcr (by simp only [zaw, zbb, zbc, zbd, zav]; exact rfl) (by simp only [zas, zat, List.drop_nil]; exact rfl) ?_ | refine DS.drawL (id := 14) [0, 1, 2, 3, 4, 5, 6, 7, 8, 9, 10, 11, 12, 13, 14, 15, 16, 17, 18, 19, 20, 21, 22, 23, 24] 25 (by kernel_rfl) zcr (by simp only [zaw, zbb, zbc, zbd, zav]; exact rfl) (by simp only [zas, zat, List.drop_nil]; exact rfl) ?_ | (with_reducible first | refine DD.fltS yU yU yU yE ?_ | refine DD.flt1S yU yU yU yU yE ?_ | (refine DD.gE yU yE ?_; refine DGG.run ?_) | refine DD.nil0 ?_) | refine DD.pcV0 inferInstance (s1) yU yT ?_ | refine DD.pcS inferInstance (pp) yU yT ?_; simp only [zbo, zbw, Nat.reduceEqDiff, ↓reduceIte] | refine DD.pcS inferInstance (pr) yU yT ?_; simp only [zbo, zbw, Nat.reduceEqDiff, ↓reduceIte] | fail)
      refine DS.back (hB (i + 1) _ _ (by omega) (by omega) yS yS (fun q o e => by exact e))
    · repeat' (first | (with_reducible first | refine DS.fltS yU yU yE ?_ | refine DS.opsNil ?_ | refine DS.seq ?_ | refine DS.regionL ?_ | (refine DS.cE yE ?_; refine CG.no ?_) | refine DS.exit yU ?_) | refine DS.pcS inferInstance (zql) yR yT ?_ | refine DS.retT [] yE trivial ?_ | fail)
      rfl
theorem clubPlans_pc (c : Club) (nums : List Int) (rounds budget : Int) (h : ClubIn c) (hr : In64 rounds) (hb : In64 budget) : PC Try.prog 7 [c.val, ints nums, I rounds, I budget] (Bo true) :=
  clubPlans0_pc c nums rounds budget (fun s hs => (h.rounds s hs).1) (fun m hm => (h.members m hm).1) hr hb
end Go.XL
namespace Go.Proofs.Ytdkmlmmelehcbaa
open Go.XL Go.ChangeShapes Go.WideShapes Go.ChangeAt Go.RowKit
theorem own : ownKnob Try.prog.godebug = none := by kernel_rfl
theorem laid : laidOutB Try.prog = true := by kernel_rfl
set_option maxRecDepth 100000 in
theorem clubPlans_lifted (os : Os) (started : os.Started) (H : Type) (enc : TypeId × Value → H) :
    ReturnsInHanded {} Try.checked os 7 .any (Rows.clubPlansSpec.pre6 enc Try.prog Try.f7 Rows.clubPlansRow.domain false) (Rows.clubPlansSpec.post enc Try.prog Try.f7 false true false false) := by
  refine returnsInHanded_of_change (C := Try.checked) own started (by kernel_rfl) Try.func7
    (ChangeSpec.witness6 (enc := enc) (C := Try.checked) false ⟨#[], #[.agg #[.int .i64 0, .int .i64 0, .int .i64 0, .int .i64 0, .slice none 0 0, .bool false, .slice none 0 0, .slice none 0 0], .slice none 0 0, .int .i64 0, .int .i64 0], []⟩ 8 (by kernel_rfl) (by kernel_rfl) (by kernel_rfl) (by kernel_rfl)) ?_
  intro W base args ds gs before hval0 hW hcnd _
  have hW' := hW
  obtain ⟨p, q, hA, -, -, -, -⟩ := hW'
  have hval : ∀ (j : Nat) t v, Try.f7.params[j]? = some t → args[j]? = some v → Value.okWide Try.prog W .any base t v := hval0
  have hA1 : DataW.TrodAll enc Try.prog W 0 (fun _ => true) true Try.f7.params.toList args.toList ds p := hA
  rw [Try.params7] at hA1 hval
  obtain ⟨v0, vs0, d0, ds0, p0, q0, hargs, rfl, -, h0, r0⟩ := trodAll_cons hA1
  obtain ⟨v1, vs1, d1, ds1, p1, q1, rfl, rfl, -, h1, r1⟩ := trodAll_cons r0
  obtain ⟨v2, vs2, d2, ds2, p2, q2, rfl, rfl, -, h2, r2⟩ := trodAll_cons r1
  obtain ⟨v3, vs3, d3, ds3, p3, q3, rfl, rfl, -, h3, r3⟩ := trodAll_cons r2
  obtain ⟨rfl, rfl, -⟩ := trodAll_nil r3
  obtain rfl : args = #[v0, v1, v2, v3] := by cases args; simp_all
  obtain ⟨fuel0, hf0⟩ := h0
  obtain ⟨x0, e0, w0⟩ := open_club hf0
  obtain ⟨a1, len1, cap1, rfl⟩ := okWide_slice Try.underlying22 (hval 1 22 v1 rfl rfl)
  obtain ⟨fuel1, hf1⟩ := h1
  obtain ⟨x1, e1, -, w1⟩ := zfn (sz := 1) Try.underlying22 (by kernel_rfl) (zrc Try.underlying3) _ _ _ hf1
  obtain ⟨x2, rfl, -, -, w2⟩ := open_int Try.underlying3 (hval 2 3 v2 rfl rfl) h2
  obtain ⟨x3, rfl, -, -, w3⟩ := open_int Try.underlying3 (hval 3 3 v3 rfl rfl) h3
  refine (PC.door (clubPlans_pc x0 x1 x2 x3 w0 (zss w2) (zss w3)) W (xs := [v0, .slice a1 len1 cap1, .int .i64 x2, .int .i64 x3]) (RlL.cons_one e0 (RlL.cons_one e1 (RlL.cons_one (RlL.one V.Rl_v) (RlL.one V.Rl_v))))).mono fun e W' ⟨he, k⟩ => ⟨_, he, ?_⟩
  exact post_law hW rfl rfl rfl Try.underlying4 laid (by rw [show Try.f7.params = _ from Try.params7]; intro t ht; simp only [List.mem_cons, List.not_mem_nil, or_false] at ht; rcases ht with rfl | rfl | rfl | rfl <;> exact ⟨by kernel_rfl, of_decide_eq_true (by kernel_rfl)⟩) k
theorem clubPlans_holds : Rows.ClubPlansSaid :=
  OpenClaim.holds_of_wide 7 Try.f7 rfl rfl rfl rfl rfl rfl rfl ⟨rfl, rfl, rfl, rfl, rfl⟩ rfl rfl rfl rfl rfl (by kernel_rfl) Try.func7 (by kernel_rfl)
    (of_decide_eq_true (by kernel_rfl)) (by unfold Func.isWrapper; first | (rw [if_pos (by decide +kernel)]; kernel_rfl) | (rw [if_neg (by decide +kernel)]; exact ⟨rfl, rfl⟩))
    (fun os started H enc _ => clubPlans_lifted os started H enc)
end Go.Proofs.Ytdkmlmmelehcbaa
