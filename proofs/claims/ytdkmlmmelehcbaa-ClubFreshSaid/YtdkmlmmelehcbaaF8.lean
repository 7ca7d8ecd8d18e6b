/- A part of a program logic over the kit's walk rules, and contracts of functions in it. Conditions: as each theorem says. -/
import Derived.Test.YtdkmlmmelehcbaaF7
import Derived.Test.YtdkmlmmelehcbaaRows
import Derived.WideKeyArgs
import Derived.OpenShut
import Derived.WalkKit
import Derived.ProofKit
set_option linter.all false
namespace Go.XL
open Go.Proofs
set_option maxRecDepth 100000
set_option maxHeartbeats 8000000
theorem ne_cells {α : Type} {f : α → List V} (hf : ∀ a, f a ≠ []) (l : List α) : ∀ c ∈ l.map f, c ≠ [] := fun c hc => by
  obtain ⟨x, _, rfl⟩ := List.mem_map.1 hc; exact hf x
theorem cloneL_dc (l : List (List Int)) (hl : l.length ≤ 2147483647) : DC Try.prog 106 [.lst (l.map cR)] [] (fun u S' => ∃ g : GR, u = g.cell ∧ g.Ok 22 1 S' ∧ g.l = l.map cR) := by
  refine DC.of_run Try.func106 rfl Try.ntmps106 Try.results106 (by simp) (fun _ => ?_); simp only [zap, zau, go_sem, Nat.zero_add, Nat.reduceAdd]
  repeat' (first | (with_reducible first | refine DS.fltS yU yU yE ?_ | refine DS.opsNil ?_ | refine DS.seq ?_ | refine DS.regionL ?_) | fail)
  refine DS.eqNil yR yU yG yR (ne_cells (fun _ h => by cases h) l) (fun b hb => ?_)
  cases b with
  | true =>
    have hb := hb rfl
    rw [hb]
    repeat' (first | (with_reducible first | refine DS.fltS yU yU yE ?_ | refine DS.opsNil ?_ | refine DS.seq ?_ | refine DS.regionL ?_ | (refine DS.cE yE ?_; refine CG.yes ?_)) | fail)
    refine DS.retA yG ⟨⟨[], none⟩, rfl, rfl, rfl⟩
  | false =>
    clear hb
    repeat' (first | (with_reducible first | refine DS.opsNil ?_ | refine DS.seq ?_ | refine DS.regionL ?_ | (refine DS.cE yE ?_; refine CG.no ?_) | refine DS.skip ?_) | fail)
    refine DS.bslO yR yG yG (fun b hb => ?_)
    repeat' (first | with_reducible refine DS.fltS yU yU yE ?_ | fail)
    have G : GR.Ok 22 1 [(b, .cells [] 22)] ⟨[], some (b, 0, [])⟩ := ⟨by simp [zaa], rfl, Nat.le_refl _, Nat.zero_le _, by simp, by simp, by simp⟩
    refine DS.step rfl rfl yR (OpS.appA (g := ⟨[], some (b, 0, [])⟩) (ml := l.map cR) rfl yH yH yR yR (by decide) yH G yH yH (by intro x hx; obtain ⟨y, -, rfl⟩ := List.mem_map.1 hx; rfl) ⟨by simp only [List.length_map, List.length_nil]; omega, by decide⟩) (fun u2 E' S4 hu2 => ?_)
    obtain ⟨rfl, g, rfl, m1, m2, -⟩ := hu2
    simp only [zcn]
    repeat' (first | (with_reducible first | refine DS.fltS yU yU yE ?_ | refine DS.opsNil ?_) | fail)
    refine DS.retA yG ⟨g, (by exact g.cell_copy), m2, ?_⟩
    rw [m1, List.nil_append, List.map_map]; rfl
theorem cloneM_pc (l : List Member) (hl : l.length ≤ 2147483647) : PC Try.prog 103 [.lst (l.map Member.cells)] (.own false 88 4 (l.map Member.cells)) := by
  refine DC.of_run Try.func103 rfl Try.ntmps103 Try.results103 (by simp) (fun _ => ?_); simp only [zap, zau, go_sem, Nat.zero_add, Nat.reduceAdd]
  repeat' (first | (with_reducible first | (refine DS.nilOwn (t := 2) yU (by first | exact .inl rfl | exact .inr rfl) yE ?_) | refine DS.fltS yU yU yE ?_ | refine DS.opsNil ?_ | refine DS.seq ?_ | refine DS.regionL ?_) | fail)
  refine DS.eqNil yR yU yG yR (ne_cells (fun _ h => by cases h) l) (fun b hb => ?_)
  cases b with
  | true =>
    have hb := hb rfl
    simp only [List.map_eq_nil_iff] at hb
    subst hb
    repeat' (first | (with_reducible first | (refine DS.nilOwn (t := 2) yU (by first | exact .inl rfl | exact .inr rfl) yE ?_) | refine DS.opsNil ?_ | refine DS.seq ?_ | refine DS.regionL ?_ | (refine DS.cE yE ?_; refine CG.yes ?_)) | refine DS.retT [] yE trivial ?_ | fail)
    rfl
  | false =>
    clear hb
    repeat' (first | (with_reducible refine DS.mv (t := 2) yU (by first | exact .inl rfl | exact .inr rfl) yE ?_; simp only [zal, zac, zae, Nat.reduceEqDiff, ↓reduceIte, zah, zai, zan, zag, zaf, zam, zaj]) | (with_reducible first | refine DS.fltS yU yU yE ?_ | refine DS.opsNil ?_ | refine DS.seq ?_ | refine DS.regionL ?_ | (refine DS.cE yE ?_; refine CG.no ?_) | refine DS.skip ?_) | (refine DS.bsl yU yE yE ?_; simp only [go_sem, Nat.zero_add, Nat.reduceAdd]) | (refine DS.append (mm := false) yU yE yE yU (by decide) yE (by first | exact .inl rfl | exact .inr ⟨rfl, rfl⟩) yE yX0 (by first | exact zao zcs _ | exact zao zdm _ | exact zao Member.len _ | exact zao Sitting.len _ | exact zao Ruling.len _ | (simp only [List.mem_cons, List.not_mem_nil, or_false, forall_eq]; rfl) | simp) ⟨by (try simp only [List.length_map, List.length_cons, List.length_nil, List.length_append, List.length_take, List.length_drop]); omega, by decide⟩ ?_; simp only [zal, zac, zae, Nat.reduceEqDiff, ↓reduceIte, zah, zai, zan, zag, zaf, zam, zaj]) | refine DS.retT [] yE trivial ?_ | fail)
    rfl
theorem cloneS_dc (l : List Sitting) (hl : l.length ≤ 2147483647) : DC Try.prog 104 [.lst (l.map Sitting.cells)] [] (fun u S' => ∃ g : GR, u = g.cell ∧ g.Ok 81 3 S' ∧ g.l = l.map Sitting.cells) := by
  refine DC.of_run Try.func104 rfl Try.ntmps104 Try.results104 (by simp) (fun _ => ?_); simp only [zap, zau, go_sem, Nat.zero_add, Nat.reduceAdd]
  repeat' (first | (with_reducible first | refine DS.fltS yU yU yE ?_ | refine DS.opsNil ?_ | refine DS.seq ?_ | refine DS.regionL ?_) | fail)
  refine DS.eqNil yR yU yG yR (ne_cells (fun _ h => by cases h) l) (fun b hb => ?_)
  cases b with
  | true =>
    have hb := hb rfl
    rw [hb]
    repeat' (first | (with_reducible first | refine DS.fltS yU yU yE ?_ | refine DS.opsNil ?_ | refine DS.seq ?_ | refine DS.regionL ?_ | (refine DS.cE yE ?_; refine CG.yes ?_)) | fail)
    refine DS.retA yG ⟨⟨[], none⟩, rfl, rfl, rfl⟩
  | false =>
    clear hb
    repeat' (first | (with_reducible first | refine DS.opsNil ?_ | refine DS.seq ?_ | refine DS.regionL ?_ | (refine DS.cE yE ?_; refine CG.no ?_) | refine DS.skip ?_) | fail)
    refine DS.bslO yR yG yG (fun b hb => ?_)
    repeat' (first | with_reducible refine DS.fltS yU yU yE ?_ | fail)
    have G : GR.Ok 81 3 [(b, .cells [] 81)] ⟨[], some (b, 0, [])⟩ := ⟨by simp [zaa], rfl, Nat.le_refl _, Nat.zero_le _, by simp, by simp, by simp⟩
    refine DS.step rfl rfl yR (OpS.appA (g := ⟨[], some (b, 0, [])⟩) (ml := l.map Sitting.cells) rfl yH yH yR yR (by decide) yH G yH yH (by intro x hx; obtain ⟨y, -, rfl⟩ := List.mem_map.1 hx; rfl) ⟨by simp only [List.length_map, List.length_nil]; omega, by decide⟩) (fun u2 E' S4 hu2 => ?_)
    obtain ⟨rfl, g, rfl, m1, m2, -⟩ := hu2
    simp only [zcn]
    repeat' (first | (with_reducible first | refine DS.fltS yU yU yE ?_ | refine DS.opsNil ?_) | fail)
    refine DS.retA yG ⟨g, (by exact g.cell_copy), m2, ?_⟩
    rw [m1, List.nil_append, List.map_map]; rfl
theorem cloneR_dc (l : List Ruling) (hl : l.length ≤ 2147483647) : DC Try.prog 105 [.lst (l.map Ruling.cells)] [] (fun u S' => ∃ g : GR, u = g.cell ∧ g.Ok 78 3 S' ∧ g.l = l.map Ruling.cells) := by
  refine DC.of_run Try.func105 rfl Try.ntmps105 Try.results105 (by simp) (fun _ => ?_); simp only [zap, zau, go_sem, Nat.zero_add, Nat.reduceAdd]
  repeat' (first | (with_reducible first | refine DS.fltS yU yU yE ?_ | refine DS.opsNil ?_ | refine DS.seq ?_ | refine DS.regionL ?_) | fail)
  refine DS.eqNil yR yU yG yR (ne_cells (fun _ h => by cases h) l) (fun b hb => ?_)
  cases b with
  | true =>
    have hb := hb rfl
    rw [hb]
    repeat' (first | (with_reducible first | refine DS.fltS yU yU yE ?_ | refine DS.opsNil ?_ | refine DS.seq ?_ | refine DS.regionL ?_ | (refine DS.cE yE ?_; refine CG.yes ?_)) | fail)
    refine DS.retA yG ⟨⟨[], none⟩, rfl, rfl, rfl⟩
  | false =>
    clear hb
    repeat' (first | (with_reducible first | refine DS.opsNil ?_ | refine DS.seq ?_ | refine DS.regionL ?_ | (refine DS.cE yE ?_; refine CG.no ?_) | refine DS.skip ?_) | fail)
    refine DS.bslO yR yG yG (fun b hb => ?_)
    repeat' (first | with_reducible refine DS.fltS yU yU yE ?_ | fail)
    have G : GR.Ok 78 3 [(b, .cells [] 78)] ⟨[], some (b, 0, [])⟩ := ⟨by simp [zaa], rfl, Nat.le_refl _, Nat.zero_le _, by simp, by simp, by simp⟩
    refine DS.step rfl rfl yR (OpS.appA (g := ⟨[], some (b, 0, [])⟩) (ml := l.map Ruling.cells) rfl yH yH yR yR (by decide) yH G yH yH (by intro x hx; obtain ⟨y, -, rfl⟩ := List.mem_map.1 hx; rfl) ⟨by simp only [List.length_map, List.length_nil]; omega, by decide⟩) (fun u2 E' S4 hu2 => ?_)
    obtain ⟨rfl, g, rfl, m1, m2, -⟩ := hu2
    simp only [zcn]
    repeat' (first | (with_reducible first | refine DS.fltS yU yU yE ?_ | refine DS.opsNil ?_) | fail)
    refine DS.retA yG ⟨g, (by exact g.cell_copy), m2, ?_⟩
    rw [m1, List.nil_append, List.map_map]; rfl
end Go.XL
namespace Go.XL
section
variable {P : Program} {ops : Array Oper} {Rd : Heap → Prop} {W : World}
def zny (ops : Array Oper) (pre ord : List Nat) (m : Nat) : Bool :=
  decide (m ≤ ops.size ∧ ord.length + pre.length ≤ m) && zvd ops (zcl ops.toList []) pre ord && ord.all (fun i => decide (i < m) && !pre.contains i) && (List.range m).all (fun i => ord.contains i || pre.contains i) && pre.all (fun i => decide (i < m)) &&
    ((List.range ops.size).all fun i => decide (i < m) || (match ops[i]? with
      | some oi => zop (zcl ops.toList []) i oi && (zel oi).all (fun j => decide (j < i)) && (List.range i).all fun j => pre.contains j || ((zcl ops.toList []).getD i []).contains j
      | none => false)) &&
    pre.all fun p => match ops[p]? with
      | some o => zop (zcl ops.toList []) p o && (zel o).isEmpty && (List.range ops.size).all fun j => match ops[j]? with
          | some oj => decide (j = p) || (zel oj).contains p || (zkr oj && o.apart ops oj)
          | none => false
      | none => false
structure OkFactsP (ops : Array Oper) (pre ord : List Nat) (m : Nat) : Prop where
  size : m ≤ ops.size
  len : ord.length + pre.length ≤ m
  mem : ∀ i, i ∈ ord ↔ i < m ∧ i ∉ pre
  prelt : ∀ p ∈ pre, p < m
  all : ∀ i oi, ops[i]? = some oi → zkr oi = true ∧
      (∀ j ∈ (zcl ops.toList []).getD i [], j ∈ zel oi ∨ ∃ m ∈ zel oi, j ∈ (zcl ops.toList []).getD m [])
  ord : ∀ A i B oi, ord = A ++ i :: B → ops[i]? = some oi → (∀ j ∈ zel oi, j ∈ pre ++ A) ∧ i ∉ A ∧
      ∀ j ∈ A, ∀ oj, ops[j]? = some oj → j ∈ (zcl ops.toList []).getD i [] ∨ (oj.apart ops oi = true ∧ (zdl oj = false ∨ zdl oi = false ∨ zfp oi.op = true))
  later : ∀ i oi, ops[i]? = some oi → m ≤ i → ∀ j ∈ zel oi, j < i
  tail : ∀ i, i < ops.size → m ≤ i → ∀ j, j < i → j ∉ pre → j ∈ (zcl ops.toList []).getD i []
  pre0 : ∀ p ∈ pre, ∃ o, ops[p]? = some o ∧ zel o = [] ∧ ∀ j oj, ops[j]? = some oj → j ≠ p → p ∈ zel oj ∨ o.apart ops oj = true
theorem okFactsP {pre ord : List Nat} {m : Nat} (hok : zny ops pre ord m = true) : OkFactsP ops pre ord m := by
  unfold zny at hok
  simp only [Bool.and_eq_true, decide_eq_true_eq] at hok
  obtain ⟨⟨⟨⟨⟨⟨hm, ho⟩, ha⟩, hb⟩, hpl⟩, ht⟩, hp0⟩ := hok
  have hpl' : ∀ p ∈ pre, p < m := fun p hp => by simpa using List.all_eq_true.1 hpl p hp
  have hmem : ∀ i, i ∈ ord ↔ i < m ∧ i ∉ pre := fun i => ⟨fun h => by simpa using List.all_eq_true.1 ha i h, fun h => by
    have h1 := List.all_eq_true.1 hb i (List.mem_range.2 h.1)
    simp only [Bool.or_eq_true, List.contains_iff_mem] at h1
    rcases h1 with h1 | h1
    · exact h1
    · exact (h.2 h1).elim⟩
  rw [List.all_eq_true] at ht hp0
  have hl : ∀ i oi, ops[i]? = some oi → m ≤ i → zop (zcl ops.toList []) i oi = true ∧ (∀ j ∈ zel oi, j < i) ∧ ∀ j, j < i → j ∉ pre → j ∈ (zcl ops.toList []).getD i [] := fun i oi hoi hi => by
    have := ht i (List.mem_range.2 (Array.getElem?_eq_some_iff.1 hoi).1)
    simp only [hoi, Bool.or_eq_true, decide_eq_true_eq, Bool.and_eq_true, List.all_eq_true, List.contains_iff_mem, List.mem_range] at this
    rcases this with h | h
    · omega
    · exact ⟨h.1.1, h.1.2, fun j hj hjp => (h.2 j hj).resolve_left hjp⟩
  have hp : ∀ p ∈ pre, ∃ o, ops[p]? = some o ∧ zop (zcl ops.toList []) p o = true ∧ zel o = [] ∧ ∀ j oj, ops[j]? = some oj → j ≠ p → p ∈ zel oj ∨ o.apart ops oj = true := fun p hp => by
    have h1 := hp0 p hp
    split at h1
    · rename_i o ho
      simp only [Bool.and_eq_true, List.isEmpty_iff, List.all_eq_true] at h1
      refine ⟨o, ho, h1.1.1, h1.1.2, fun j oj hoj hj => ?_⟩
      have h2 := h1.2 j (List.mem_range.2 (Array.getElem?_eq_some_iff.1 hoj).1)
      rw [hoj] at h2
      simp only [Bool.or_eq_true, decide_eq_true_eq, List.contains_iff_mem, Bool.and_eq_true] at h2
      rcases h2 with (h2 | h2) | h2
      · exact (hj h2).elim
      · exact .inl h2
      · exact .inr h2.2
    · cases h1
  refine ⟨hm.1, hm.2, hmem, hpl', fun i oi hoi => ?_, fun A i B oi e hoi => ?_, fun i oi hoi hi => (hl i oi hoi hi).2.1, fun i hi hmi => (hl i _ (Array.getElem?_eq_getElem hi) hmi).2.2, fun p h => let ⟨o, a, _, b⟩ := hp p h; ⟨o, a, b⟩⟩
  · rcases Nat.lt_or_ge i m with h | h
    · by_cases hip : i ∈ pre
      · obtain ⟨o, h1, h2, -⟩ := hp i hip
        rw [hoi] at h1; cases h1
        exact zhg h2
      · obtain ⟨A, B, e⟩ := List.append_of_mem ((hmem i).2 ⟨h, hip⟩)
        obtain ⟨oi', h1, h2, _⟩ := zhf ho A i B e
        rw [hoi] at h1; cases h1
        exact zhg h2
    · exact zhg (hl i oi hoi h).1
  · obtain ⟨oi', h1, _, h3, h4, h5⟩ := zhf ho A i B e
    rw [hoi] at h1; cases h1
    refine ⟨h3, fun h => h4 (List.mem_append_right _ h), fun j hj oj hoj => ?_⟩
    have := h5 j (List.mem_append_right _ hj) oj hoj
    simp only [ztr, Bool.or_eq_true, Bool.and_eq_true, List.contains_iff_mem, Bool.not_eq_eq_eq_not, Bool.not_true] at this
    rcases this with q | ⟨q1, (q2 | q2) | q2⟩
    · exact .inl q
    · exact .inr ⟨q1, .inl q2⟩
    · exact .inr ⟨q1, .inr (.inl q2)⟩
    · exact .inr ⟨q1, .inr (.inr q2)⟩
theorem rem_setP {pre ord : List Nat} {m : Nat} (ok : OkFactsP ops pre ord m) {listed : Array Bool} {i : Nat} {R1 R2 : List Nat} (hi : i < listed.size) {o : Oper} (ho : ops[i]? = some o) (h : rem ord listed = R1 ++ i :: R2) : rem ord (listed.setIfInBounds i true) = R1 ++ R2 := by
  obtain ⟨A, B, e, h1, h2⟩ := zhe h
  have hA : i ∉ A := (ok.ord A i B o e ho).2.1
  have hB : i ∉ B := fun hb => by
    obtain ⟨B1, B2, rfl⟩ := List.append_of_mem hb
    exact (ok.ord (A ++ i :: B1) i B2 o (by simp [e]) ho).2.1 (by simp)
  have hs : rem [i] (listed.setIfInBounds i true) = [] := by unfold rem; simp [hi]
  have : ord = A ++ ([i] ++ B) := by simp [e]
  rw [this]
  have app : ∀ (l1 l2 : List Nat) (q : Array Bool), rem (l1 ++ l2) q = rem l1 q ++ rem l2 q := fun l1 l2 q => List.filter_append ..
  rw [app, app, hs, zqd hA, zqd hB, h1, h2, List.nil_append]
theorem zht {pre ord : List Nat} {m : Nat} (ok : OkFactsP ops pre ord m) {listed : Array Bool} (hcl : zig (zcl ops.toList []) listed) {i : Nat} (hi : i ∈ Region.ready .any ops listed) :
    ∀ j ∈ (zcl ops.toList []).getD i [], listed.getD j false = true := by
  obtain ⟨hun, o, ho, hall⟩ := mem_ready.1 hi
  obtain ⟨k1, k3⟩ := ok.all i o ho
  intro j hj
  have pl : ∀ m ∈ zel o, listed.getD m false = true := by
    intro m hm'
    obtain ⟨e, he, rfl⟩ := List.mem_map.1 hm'
    obtain ⟨he1, he2⟩ := List.mem_filter.1 he
    exact hall e (by simpa using he1) he2
  rcases k3 j hj with h' | ⟨m, hm', hjm⟩
  · exact pl j h'
  · exact hcl m (pl m hm') j hjm
theorem zoa {pre ord : List Nat} {m : Nat} (ok : OkFactsP ops pre ord m) {listed : Array Bool} (hcl : zig (zcl ops.toList []) listed) {i : Nat} (hi : i ∈ Region.ready .any ops listed) :
    zig (zcl ops.toList []) (listed.setIfInBounds i true) := by
  intro m hm' j hj
  by_cases hmi : i = m
  · subst hmi; exact getD_set_true (zht ok hcl hi j hj)
  · rw [getD_set_ne false hmi] at hm'; exact getD_set_true (hcl m hm' j hj)
theorem zmq {rr : Option Nat} {pre ord : List Nat} {m : Nat} (ok : OkFactsP ops pre ord m) {Q' : Exit → Act → World → Prop} : ∀ (fuel k : Nat) (listed : Array Bool) (a : Act) (w : World), ops.size - k ≤ fuel → m ≤ k → k ≤ ops.size → listed.size = ops.size →
    (∀ j, j < k → listed.getD j false = true) → (∀ j, k ≤ j → j < ops.size → listed.getD j true = false) → zig (zcl ops.toList []) listed →
    wpL rr P ops Q' (ops.toList.drop k) a w → wpAnyIn (FW rr) 0 P .any ops Q' fuel listed a w := by
  intro fuel
  have ready_lt : ∀ (k : Nat) (listed : Array Bool), m ≤ k → listed.size = ops.size → (∀ j, j < k → listed.getD j false = true) → (∀ j, k ≤ j → j < ops.size → listed.getD j true = false) → zig (zcl ops.toList []) listed →
      ∀ i ∈ Region.ready .any ops listed, i = k := by
    intro k listed hmk hsz hlo hhi hcl i hi
    obtain ⟨hun, o, ho, hall⟩ := mem_ready.1 hi
    have hlt := (Array.getElem?_eq_some_iff.1 ho).1
    rcases Nat.lt_trichotomy i k with h | h | h
    · have h1 := hlo i h
      have := zej (by omega) hun h1
      cases this
    · exact h
    · have hin := ok.tail i hlt (by omega) k h (fun hp => by have := ok.prelt _ hp; omega)
      have h1 := zht ok hcl hi k hin
      have h2 := hhi k (Nat.le_refl _) (by omega)
      have := zej (by omega) h2 h1
      cases this
  have ready_k : ∀ (k : Nat) (listed : Array Bool), m ≤ k → k < ops.size → (∀ j, j < k → listed.getD j false = true) → (∀ j, k ≤ j → j < ops.size → listed.getD j true = false) → k ∈ Region.ready .any ops listed := by
    intro k listed hmk hk hlo hhi
    have hoi : ops[k]? = some ops[k] := Array.getElem?_eq_getElem hk
    rw [mem_ready]
    refine ⟨hhi k (Nat.le_refl _) hk, _, hoi, fun e he hb => ?_⟩
    have hp : e.on ∈ zel ops[k] := List.mem_map.2 ⟨e, List.mem_filter.2 ⟨by simpa using he, hb⟩, rfl⟩
    exact hlo _ (ok.later k _ hoi hmk _ hp)
  induction fuel with
  | zero =>
    intro k listed a w hf hmk hk hsz hlo hhi hcl h
    have hk' : k = ops.size := by omega
    refine ⟨?_, ?_⟩
    · cases hr : Region.ready .any ops listed with
      | nil => rfl
      | cons j r =>
        have hj : j ∈ Region.ready .any ops listed := by rw [hr]; exact List.mem_cons_self ..
        obtain ⟨_, o, ho, _⟩ := mem_ready.1 hj
        have := (Array.getElem?_eq_some_iff.1 ho).1
        have := ready_lt k listed hmk hsz hlo hhi hcl j hj
        omega
    · rw [List.drop_eq_nil_of_le (by simp; omega)] at h; exact h
  | succ fuel ih =>
    intro k listed a w hf hmk hk hsz hlo hhi hcl h
    refine ⟨fun hr => ?_, fun i hi => ?_⟩
    · rcases Nat.lt_or_ge k ops.size with hlt | hge
      · have := ready_k k listed hmk hlt hlo hhi
        rw [hr] at this; cases this
      · rw [List.drop_eq_nil_of_le (by simpa using hge)] at h; exact h
    · have hik := ready_lt k listed hmk hsz hlo hhi hcl i hi
      subst hik
      obtain ⟨hun, o, ho, hall⟩ := mem_ready.1 hi
      have hlt := (Array.getElem?_eq_some_iff.1 ho).1
      have hd : ops.toList.drop i = o :: ops.toList.drop (i + 1) := by
        rw [List.drop_eq_getElem_cons (by simpa using hlt)]
        congr 1
        have := (Array.getElem?_eq_some_iff.1 ho).2
        simpa using this
      rw [hd] at h
      have next : ∀ a' w', wpL rr P ops Q' (ops.toList.drop (i + 1)) a' w' → wpAnyIn (FW rr) 0 P .any ops Q' fuel (listed.setIfInBounds i true) a' w' := fun a' w' h' =>
        ih (i + 1) _ a' w' (by omega) (by omega) (by omega) (by simpa using hsz)
          (fun j hj => by
            by_cases hij : i = j
            · subst hij; simp [show i < listed.size by omega]
            · exact getD_set_true (hlo j (by omega)))
          (fun j hj hj2 => by rw [getD_set_ne true (by omega)]; exact hhi j (by omega) hj2) (zoa ok hcl hi) h'
      unfold wpOpIn
      simp only [ho]
      unfold wpL at h
      split
      · rename_i hw
        rw [if_pos hw] at h
        exact Oper.wpIn_mono next h
      · rename_i hw
        rw [if_neg hw] at h
        exact ⟨fun _ _ => trivial, next _ _ h⟩
theorem wpAny_of_SWP {rr : Option Nat} {pre ord : List Nat} {m : Nat} {K : Act → SP → Prop} {Q' : Exit → Act → World → Prop} (ok : OkFactsP ops pre ord m)
    (hK : ∀ a S w, K a S → Live Rd W S → S noF w.heap → Same W w → wpL rr P ops Q' (ops.toList.drop m) a w) : ∀ (fuel : Nat) (listed : Array Bool) (a : Act) (w : World) (S : SP),
    (rem ord listed).length + (ops.size - m) ≤ fuel → listed.size = ops.size → (∀ p ∈ pre, listed.getD p false = true) → (∀ j, m ≤ j → j < ops.size → listed.getD j true = false) → zig (zcl ops.toList []) listed → Live Rd W S → S noF w.heap → Same W w →
    SW P ops Rd W K ((rem ord listed).filterMap (ops[·]?)) S a → wpAnyIn (FW rr) 0 P .any ops Q' fuel listed a w := by
  have selOf : ∀ o : Oper, zkr o = true → ∀ cs b, o.op ≠ .select cs b := by
    intro o h cs b e
    unfold zkr at h
    rw [e] at h
    simp at h
  have defOf : ∀ o : Oper, zkr o = true → zqf o = true := fun o h => by
    unfold zkr at h
    rw [Bool.and_eq_true] at h
    exact h.2
  have done : ∀ (listed : Array Bool), listed.size = ops.size → (∀ p ∈ pre, listed.getD p false = true) → rem ord listed = [] → ∀ j, j < m → listed.getD j false = true := by
    intro listed hsz hpre hrem j hj
    by_cases hjp : j ∈ pre
    · exact hpre j hjp
    have : j ∉ rem ord listed := by rw [hrem]; exact List.not_mem_nil
    rw [rem_mem] at this
    have hjs : j < listed.size := by have := ok.size; omega
    cases hv : listed[j] with
    | true => simp [hjs, hv]
    | false => exact absurd ⟨(ok.mem j).2 ⟨hj, hjp⟩, by simp [hjs, hv]⟩ this
  intro fuel
  induction fuel with
  | zero =>
    intro listed a w S hlen hsz hpre hun hcl hl hS hw h
    have hrem : rem ord listed = [] := List.eq_nil_of_length_eq_zero (by omega)
    rw [hrem] at h
    exact zmq ok 0 m listed a w (by omega) (Nat.le_refl _) ok.size hsz (done listed hsz hpre hrem) hun hcl (hK _ _ _ h hl hS hw)
  | succ fuel ih =>
    intro listed a w S hlen hsz hpre hun hcl hl hS hw h
    by_cases hrem : rem ord listed = []
    · rw [hrem] at h
      exact zmq ok (fuel + 1) m listed a w (by rw [hrem] at hlen; simpa using hlen) (Nat.le_refl _) ok.size hsz (done listed hsz hpre hrem) hun hcl (hK _ _ _ h hl hS hw)
    · obtain ⟨i0, r0, hr0⟩ := List.exists_cons_of_ne_nil hrem
      have hi0 : i0 ∈ rem ord listed := by rw [hr0]; exact List.mem_cons_self ..
      obtain ⟨hin0, hun0⟩ := rem_mem.1 hi0
      obtain ⟨hlt0, hnp0⟩ := (ok.mem i0).1 hin0
      refine ⟨fun hr => ?_, fun i hi => ?_⟩
      · exfalso
        have hi0s : i0 < ops.size := by have := ok.size; omega
        have hoi : ops[i0]? = some ops[i0] := Array.getElem?_eq_getElem hi0s
        obtain ⟨A, B, eo, hA, _⟩ := zhe (R1 := []) (R2 := r0) (by rw [hr0]; rfl)
        have : i0 ∈ Region.ready .any ops listed := by
          rw [mem_ready]
          refine ⟨hun0, _, hoi, fun e he hb => ?_⟩
          have hp : e.on ∈ zel ops[i0] := List.mem_map.2 ⟨e, List.mem_filter.2 ⟨by simpa using he, hb⟩, rfl⟩
          rcases List.mem_append.1 ((ok.ord A i0 B _ eo hoi).1 _ hp) with hinP | hinA
          · exact hpre _ hinP
          have hltm : e.on < m := ((ok.mem _).1 (by rw [eo]; exact List.mem_append_left _ hinA)).1
          have hnot : e.on ∉ rem A listed := by rw [hA]; exact List.not_mem_nil
          rw [rem_mem] at hnot
          have hsz' : e.on < listed.size := by have := ok.size; omega
          cases hv : listed[e.on] with
          | true => simp [hsz', hv]
          | false => exact absurd ⟨hinA, by simp [hsz', hv]⟩ hnot
        rw [hr] at this
        cases this
      · obtain ⟨hun1, o, ho, hall⟩ := mem_ready.1 hi
        have hlt := (Array.getElem?_eq_some_iff.1 ho).1
        have hcli := zht ok hcl hi
        have him : i < m := by
          rcases Nat.lt_or_ge i m with h' | h'
          · exact h'
          · exfalso
            have h1 := hcli i0 (ok.tail i hlt h' i0 (by omega) hnp0)
            have := zej (by have := ok.size; omega) hun0 h1
            cases this
        have hip : i ∉ pre := fun hp => by
          have := zej (by omega) hun1 (hpre i hp)
          cases this
        have hin : i ∈ rem ord listed := rem_mem.2 ⟨(ok.mem i).2 ⟨him, hip⟩, hun1⟩
        obtain ⟨R1, R2, hR⟩ := List.append_of_mem hin
        obtain ⟨k1, k3⟩ := ok.all i o ho
        have hset := rem_setP ok (by omega) ho hR
        have hcl' := zoa ok hcl hi
        obtain ⟨A, B, eo, hA, _⟩ := zhe hR
        obtain ⟨_, _, k4⟩ := ok.ord A i B o eo ho
        rw [hR, List.filterMap_append, List.filterMap_cons, ho] at h
        simp only at h
        have hf := SW.take (selOf o k1) (R1.filterMap (ops[·]?)) S a (fun x hx => by
          obtain ⟨j, hj, hxj⟩ := List.mem_filterMap.1 hx
          rw [← hA] at hj
          obtain ⟨hjA, hjun⟩ := rem_mem.1 hj
          have hjs : j < listed.size := by rw [hsz]; exact (Array.getElem?_eq_some_iff.1 hxj).1
          refine ⟨?_, selOf x (ok.all j x hxj).1, ?_⟩
          all_goals
            rcases k4 j hjA x hxj with h' | h'
            · have h2 := hcli j h'
              have := zej hjs hjun h2
              cases this
            · first | exact h'.1 | exact h'.2) hl h
        rw [← List.filterMap_append, ← hset] at hf
        have hlen' : (rem ord (listed.setIfInBounds i true)).length + (ops.size - m) ≤ fuel := by
          rw [hset]; rw [hR] at hlen; simp at hlen ⊢; omega
        have hun' : ∀ j, m ≤ j → j < ops.size → (listed.setIfInBounds i true).getD j true = false := fun j hj hj2 => by rw [getD_set_ne true (by omega)]; exact hun j hj hj2
        have hpre' : ∀ p ∈ pre, (listed.setIfInBounds i true).getD p false = true := fun p hp => getD_set_true (hpre p hp)
        unfold wpOpIn
        simp only [ho]
        unfold Front at hf
        split
        · rename_i hwant
          rw [if_pos hwant] at hf
          split at hf
          · obtain ⟨val, T, s1, s3⟩ := hf
            have g := s1.good hl.2
            unfold Spec at s1
            split at s1
            · obtain ⟨ob, vb, b1, b2, rfl, rfl⟩ := s1
              have hw' : Same W { w with heap := w.heap.push ob } := hw.trans ⟨rfl, rfl, rfl⟩
              have hb : zgs S w.heap.size ob noF (w.heap.push ob) := ⟨hl.2.push _ _ ob hS, fun x => x, by simp⟩
              refine ⟨fun _ _ => trivial, ?_⟩
              rw [Oper.semAt_eq _ _ _ (zfn (defOf o k1)), b2 w]
              exact ih _ _ _ (zgs S w.heap.size ob) hlen' (by simpa using hsz) hpre' hun' hcl' ⟨⟨_, hw', hb⟩, g w.heap.size undef⟩ hb hw' (s3 w.heap.size undef ⟨_, hw', hb⟩)
            · obtain ⟨rfl, T', rfl, g1, g2⟩ := s1
              refine (g2 w noF hS hw).wpIn (defOf o k1) fun v w' ⟨hs, hv, _⟩ => ?_
              exact ih _ _ _ (T' v) hlen' (by simpa using hsz) hpre' hun' hcl' ⟨⟨w', hw.trans hs, hv⟩, g1 v⟩ hv (hw.trans hs) (s3 0 v ⟨w', hw.trans hs, hv⟩)
          · obtain ⟨v, q1, q2⟩ := hf
            refine ⟨fun _ _ => trivial, ?_⟩
            rw [Oper.semAt_eq _ _ _ (zfn (defOf o k1)), q1 w (hl.2.ext _ _ hS)]
            exact ih _ _ _ S hlen' (by simpa using hsz) hpre' hun' hcl' hl hS hw q2
        · rename_i hwant
          rw [if_neg hwant] at hf
          exact ⟨fun _ _ => trivial, ih _ _ _ S hlen' (by simpa using hsz) hpre' hun' hcl' hl hS hw hf⟩
def zut (P : Program) (ops : Array Oper) : List Nat → Act → Act → Prop
  | [], a, a' => a' = a
  | p :: r, a, a' => ∃ o v, ops[p]? = some o ∧ YieldsFenced P ops o v a ∧ zut P ops r (a.put o.dst v) a'
def setL (listed : Array Bool) : List Nat → Array Bool
  | [] => listed
  | p :: r => setL (listed.setIfInBounds p true) r
theorem zra : ∀ (l : List Nat) (q : Array Bool), (setL q l).size = q.size
  | [], q => rfl
  | p :: r, q => by rw [setL, zra r]; simp
theorem zqa : ∀ (l : List Nat) (q : Array Bool) (j : Nat) (d : Bool), j ∉ l → (setL q l).getD j d = q.getD j d
  | [], q, j, d, _ => rfl
  | p :: r, q, j, d, h => by
    have hne : p ≠ j := fun e => h (by rw [← e]; exact List.mem_cons_self ..)
    rw [setL, zqa r _ j d (fun hj => h (List.mem_cons_of_mem _ hj)), getD_set_ne d hne]
theorem zqz : ∀ (l : List Nat) (q : Array Bool) (j : Nat), q.getD j false = true → (setL q l).getD j false = true
  | [], q, j, h => h
  | p :: r, q, j, h => by rw [setL]; exact zqz r _ j (getD_set_true h)
theorem ztk : ∀ (l : List Nat) (q : Array Bool) (j : Nat), j ∈ l → j < q.size → (setL q l).getD j false = true
  | p :: r, q, j, h, hs => by
    rw [setL]
    rcases List.mem_cons.1 h with rfl | h
    · exact zqz r _ _ (by simp [hs])
    · exact ztk r _ j h (by simpa using hs)
theorem zrw {pre ord : List Nat} {m : Nat} (ok : OkFactsP ops pre ord m) {Q : Exit → Act → World → Prop} (hQ : ∀ c a w, ¬ Q (.panic c) a w) : ∀ (l : List Nat) (fuel : Nat) (listed : Array Bool) (a a' : Act) (w : World), (∀ p ∈ l, p ∈ pre) → l.Nodup → (∀ p ∈ l, listed.getD p true = false) →
    zut P ops l a a' → wpAnyIn (FW none) 0 P .any ops Q fuel (setL listed l) a' w → wpAnyIn (FW none) 0 P .any ops Q (fuel + l.length) listed a w
  | [], fuel, listed, a, a', w, _, _, _, hp, h => by
    have e : a' = a := hp
    subst e; exact h
  | p :: r, fuel, listed, a, a', w, hl, hn, hu, hp, h => by
    obtain ⟨hn1, hn2⟩ := List.nodup_cons.1 hn
    obtain ⟨o, v, ho, hy, hp⟩ := hp
    obtain ⟨o', ho', hp0, hap⟩ := ok.pre0 p (hl p (List.mem_cons_self ..))
    rw [ho] at ho'; cases ho'
    have selOf : ∀ (j : Nat) (o : Oper) cs b, ops[j]? = some o → o.op ≠ .select cs b := fun j o cs b hj e => by
      have h := (ok.all j o hj).1
      unfold zkr at h
      rw [e] at h
      simp at h
    have ih := zrw ok hQ r fuel (listed.setIfInBounds p true) (a.put o.dst v) a' w (fun q hq => hl q (List.mem_cons_of_mem _ hq)) hn2 (fun q hq => by
      have hne : p ≠ q := fun e => hn1 (by rw [e]; exact hq)
      rw [getD_set_ne true hne]
      exact hu q (List.mem_cons_of_mem _ hq)) hp h
    refine wpAnyIn_first rfl ho selOf (fun c a w h => (hQ _ _ _ h).elim) (fuel + r.length) listed a w (fun j oj hoj hj hju hnot => ?_) ?_ hy ih
    · rcases hap j oj hoj hj with h1 | h1
      · obtain ⟨e, he, he2⟩ := List.mem_map.1 h1
        obtain ⟨he3, he4⟩ := List.mem_filter.1 he
        exact (hnot e (by simpa using he3) he4 he2).elim
      · exact h1
    · rw [mem_ready]
      refine ⟨hu p (List.mem_cons_self ..), o, ho, fun e he hb => ?_⟩
      have : e.on ∈ zel o := List.mem_map.2 ⟨e, List.mem_filter.2 ⟨by simpa using he, hb⟩, rfl⟩
      rw [hp0] at this
      cases this
theorem wp_drawP {K : Act → SP → Prop} {Q' : Exit → Act → World → Prop} {id m : Nat} {pre ord : List Nat} {a a' : Act} {w : World} {S0 : SP} (hm' : P.follows .mixedOrders = true) (hok : zny ops pre ord m = true) (hnd : pre.Nodup) (hQ : ∀ c a w, ¬ Q' (.panic c) a w) (hpr : zut P ops pre a a') (hS0 : S0 noF w.heap) (hx : Good Rd S0) (hW : Same W w)
    (hK : ∀ a S w', K a S → Live Rd W S → S noF w'.heap → Same W w' → wpL none P ops Q' (ops.toList.drop m) a w') (h : SW P ops Rd W K (ord.filterMap (ops[·]?)) S0 a') :
    (Code.region id ops true).wpIn (FW none) 0 P Q' a w := by
  have ok := okFactsP hok
  have hsz := ok.size
  have hlen := ok.len
  have e : rem ord (setL (Array.replicate ops.size false) pre) = ord := by
    unfold rem
    refine List.filter_eq_self.2 fun x hx => ?_
    obtain ⟨h1, h2⟩ := (ok.mem x).1 hx
    rw [zqa _ _ _ _ h2]
    have : x < ops.size := by omega
    simp [this]
  refine wpIn_region_any hm' ?_
  have hf : ops.size = (ops.size - pre.length) + pre.length := by omega
  have key := zrw (P := P) ok hQ pre (ops.size - pre.length) (Array.replicate ops.size false) a a' { w with drawn := w.drawn + 1 } (fun _ h => h) hnd (fun p hp => by
    have := ok.prelt p hp
    simp [show p < ops.size by omega]) hpr
  rw [← hf] at key
  refine key (wpAny_of_SWP (W := W) (Rd := Rd) (K := K) ok hK (ops.size - pre.length) (setL (Array.replicate ops.size false) pre) a' _ S0 ?_ (by rw [zra]; simp) (fun p hp => ztk _ _ _ hp (by have := ok.prelt p hp; simp; omega)) ?_ ?_ ⟨⟨w, hW, hS0⟩, hx⟩ hS0 hW ?_)
  · rw [e]; omega
  · intro j hj hj2
    rw [zqa _ _ _ _ (fun hp => by have := ok.prelt j hp; omega)]
    simp [hj2]
  · intro q hq
    by_cases hqp : q ∈ pre
    · obtain ⟨o, ho, h0, -⟩ := ok.pre0 q hqp
      intro j hj
      rcases (ok.all q o ho).2 j hj with h1 | ⟨_, h1, -⟩
      · rw [h0] at h1; cases h1
      · rw [h0] at h1; cases h1
    · exfalso
      rw [zqa _ _ _ _ hqp, Array.getD_eq_getD_getElem?, Array.getElem?_replicate] at hq
      split at hq <;> simp at hq
  · rw [e]; exact h
end
end Go.XL
namespace Go.XL
section
variable {P : Program} {n : Nat} {r : Rr} {Q : VEnv → Sto → Prop} {k : List Fr} {E0 E : VEnv} {S : Sto}
theorem zhi {K0 : Bs} {W : World} : ∀ (k : List Fr) (c : List PanicEntry) (a : Act) (w : World), ¬ ksem P n r K0 W Q k (.panic c) a w
  | [], c, a, w, h => h
  | .code _ :: k, c, a, w, h => zhi k c a w h
  | .ops _ _ :: k, c, a, w, h => zhi k c a w h
  | .blk _ :: k, c, a, w, h => zhi k c a w h
  | .back _ :: k, c, a, w, h => zhi k c a w h
  | .rnd _ :: k, c, a, w, h => h
def PreE (os : Array Oper) (n : Nat) : List Nat → VEnv → VEnv → Prop
  | [], E, E' => E' = E
  | p :: l, E, E' => ∃ t x ty pos af v, os[p]? = some ⟨some t, .move x, ty, pos, af, none⟩ ∧ decide (t < n) = true ∧ evV E x = some v ∧ PreE os n l ((t, v.copy) :: E) E'
theorem PreE.run {os : Array Oper} {D : List Deferred} {K : Bs} {hv : VH} {hold : Nat → Option Hd} {h : Heap} : ∀ {pre : List Nat} {E E' : VEnv} {env : Env} {a : Act}, PreE os n pre E E' → Agree D n env a → St K hv hold E S env h →
    ∃ env' a', zut P os pre a a' ∧ Agree D n env' a' ∧ St K hv hold E' S env' h
  | [], E, E', env, a, hp, ha, s => by
    have e : E' = E := hp
    subst e
    exact ⟨env, a, rfl, ha, s⟩
  | p :: l, E, E', env, a, hp, ha, s => by
    obtain ⟨t, x, ty, pos, af, v, ho, hd, hx, hp⟩ := hp
    have hdv : dopV P [] (evV E) (.move x) = some v.copy := by simp [dopV, hx]
    obtain ⟨y, h2, h3⟩ := ziv (S := []) s.pre (fun _ _ e => by cases e) s.rl hdv
    have run : ∀ w : World, (execOp a.eval ⟨some t, .move x, ty, pos, af, none⟩).run P w = .ok (.value y) w := fun w => zhc ha (zpq rfl h2)
    have hd' : dok n (some t) = true := hd
    obtain ⟨env', a', h4, h5, h6⟩ := PreE.run hp (ha.put' hd' y) (s.put (some t) h3 fun _ _ => V.free_Own (zlf hdv) y)
    exact ⟨env', a', ⟨_, y, ho, ⟨.inl ⟨rfl, run⟩, fun w => rfl⟩, h4⟩, h5, h6⟩
theorem DS.drawP {id : Nat} {os : Array Oper} (S0 S1 : Sto) (pre ord : List Nat) (m : Nat) {E' : VEnv} (hr : r.rd = none) (hok : zny os pre ord m = true) (hnd : pre.Nodup) (hm : P.follows .mixedOrders = true) (h0 : ∀ b o, zaa S0 b = some o → zaa S b = some o ∧ zaa S1 b = none) (h1 : ∀ b o, zaa S1 b = some o → zaa S b = some o)
    (hpre : PreE os n pre E E') (q : DD P n r Q os.toList S0 [] (ord.filterMap (os[·]?)) (.ops os.toList (os.toList.drop m) :: k) E' E' S1) : DS P n r Q (.code (.region id os true) :: k) E S := fun K W a w ⟨K', D, hv, hold, env, hb, ha, s⟩ hw => by
  have s0 : St K' hv hold E (S1 ++ S0) env w.heap := s.weaken (fun _ _ e => e) fun b o e => by
    rw [zbk] at e
    cases e1 : zaa S1 b with
    | some o' => rw [e1] at e; cases e; exact h1 b _ e1
    | none => rw [e1] at e; exact (h0 b o e).1
  obtain ⟨env', a', hpr, ha', s'⟩ := PreE.run (P := P) hpre ha s0
  obtain ⟨-, -, s2⟩ := PreE.run (P := P) hpre ha s
  have hR : ∀ (F : Nat → Prop) h1, RunS P [] D n K' hv w.heap S0 E' S1 a' F h1 → RunS P [] D n K' hv w.heap S0 E' S1 a' F h1 := fun _ _ h => h
  have start : RunS P [] D n K' hv w.heap S0 E' S1 a' noF w.heap := ⟨fun b hb => hb.elim, ⟨Nat.le_refl _, MpOk.nil⟩, hv, hold, env', ha', s', PreV.refl hv, fun b hb => hb.elim, fun b o e => ⟨rfl, (h0 b o e).2, Ob.lt (s.obj b o (h0 b o e).1).2.2⟩⟩
  show (Code.region id os true).wpIn (FW r.rd) 0 P (ksem P n r K W Q k) a w
  rw [hr]
  refine wp_drawP (m := m) (pre := pre) (ord := ord) (a' := a') (Rd := RdOf P [] hv w.heap S0) (W := W) (K := fun a' S' => ∀ w', S' noF w'.heap → Same W w' → ksem P n r K W Q (.ops os.toList (os.toList.drop m) :: k) .normal a' w') hm hok hnd (fun c a w => zhi k c a w) hpr start (RunS.good P [] D n K' hv w.heap S0 E' S1 a') hw
    (fun a' S' w' hK _ hS hsame => by have := hK w' hS hsame; simpa [ksem, hr] using this) ?_
  have := q K K' D W hv w.heap a' _ hb (hb.floor s) ⟨env', ha', fun t v e => let ⟨y, a, b, _⟩ := s'.slot t v e; ⟨y, a, b⟩⟩ s.pre (fun b o e => let ⟨_, r2, r3⟩ := s.obj b o (h0 b o e).1; ⟨r2, Ob.lt r3, Ob.Real.rd r3⟩) s.base.2.1 ⟨w, hw, start⟩ hR
  simpa using this
theorem DS.drawPL {id : Nat} {os l1 l2 : List Oper} (S0 S1 : Sto) (pre ord : List Nat) (m : Nat) {E' : VEnv} (hr : r.rd = none) (hok : zny os.toArray pre ord m = true) (hnd : pre.Nodup) (hm : P.follows .mixedOrders = true) (h0 : ∀ b o, zaa S0 b = some o → zaa S b = some o ∧ zaa S1 b = none) (h1 : ∀ b o, zaa S1 b = some o → zaa S b = some o)
    (hpre : PreE os.toArray n pre E E') (k1 : zlq os ord = l1) (k2 : os.drop m = l2) (q : DD P n r Q os S0 [] l1 (.ops os l2 :: k) E' E' S1) : DS P n r Q (.code (.region id os.toArray true) :: k) E S :=
  DS.drawP S0 S1 pre ord m hr hok hnd hm h0 h1 hpre (by rw [zkq, k1]; simpa [k2] using q)
end
end Go.XL
namespace Go.XL
open Go.Proofs
set_option maxRecDepth 100000
set_option maxHeartbeats 8000000
theorem zmo {sz : Nat} : ∀ (n : Nat) (L : List V) (R : List (List V)), R.length = n → (∀ (k : Nat) (h : k < R.length), (L.drop (k * sz)).take sz = R[k]) → chunk sz n L = R
  | 0, L, R, hl, _ => by
    obtain rfl := List.eq_nil_of_length_eq_zero hl
    rfl
  | n + 1, L, [], hl, _ => by cases hl
  | n + 1, L, c :: R, hl, h => by
    have h0 := h 0 (by simp)
    rw [Nat.zero_mul, List.drop_zero, List.getElem_cons_zero] at h0
    have h1 := zmo n (L.drop sz) R (by simpa using hl) fun k hk => by
      have h2 := h (k + 1) (by simpa using hk)
      rw [List.getElem_cons_succ] at h2
      rw [List.drop_drop, ← h2]
      congr 2
      rw [Nat.succ_mul]; omega
    rw [chunk, h0, h1]
theorem PC.peek {P : Program} {f : FuncId} {args : List V} {v : V} (h : PC P f args v) : PC P f args v.peek := by
  intro v0 K hv hold hp xs hx ha s
  refine (h v0 K hv hold hp xs hx ha s).mono ?_
  rintro y h' ⟨u, S', hv', hold', p, st, rfl⟩
  refine ⟨u.peek, S', hv', hold', p, ⟨st.pre, fun t w e => ?_, st.obj, st.held, st.base, st.vbase⟩, rfl⟩
  rw [zae] at e
  split at e
  · rename_i ht
    cases e
    obtain ⟨z, h1, h2, -⟩ := st.slot t u (by rw [zae, if_pos ht])
    exact ⟨z, h1, V.peek_Rl h2, V.free_Own (zec u) z⟩
  · cases e
theorem flat_cR (l : List (List Int)) : (l.map cR).flatten = l.map fun t => ints t := by
  induction l with
  | nil => rfl
  | cons a r ih => rw [List.map_cons, List.flatten_cons, ih]; rfl
theorem set_peek {l : List (List Int)} {L : List V} {i k : Nat} {hk : k < l.length} {hi : i < l.length} {m : Bool} {T s : Nat} (hl : i < L.length) (h : L[k]? = some (ints l[k])) :
    ((L.set i (.own m T s (l[i].map cI))).map V.peek)[k]? = some (ints l[k]) := by
  rw [List.getElem?_map, List.getElem?_set]
  split
  · rename_i e
    subst e
    first | rfl | (rw [if_pos hl]; rfl)
  · rw [h]; rfl
theorem zrv {α : Type} {f : α → List V} (hf : ∀ a, (f a).length = 3) (junk : List V) : ∀ (R : List α) (k : Nat) (h : k < R.length) (j : Nat), j < 3 → ((R.map f).flatten ++ junk)[k * 3 + j]? = (f R[k])[j]?
  | [], k, h, _, _ => by cases h
  | a :: R, 0, h, j, hj => by
    rw [List.map_cons, List.flatten_cons, List.append_assoc, Nat.zero_mul, Nat.zero_add, List.getElem?_append_left (by rw [hf]; exact hj)]
    rfl
  | a :: R, k + 1, h, j, hj => by
    have h1 := zrv hf junk R k (by simpa using h) j hj
    rw [List.map_cons, List.flatten_cons, List.append_assoc, List.getElem?_append_right (by rw [hf]; omega), hf, show (k + 1) * 3 + j - 3 = k * 3 + j by omega, h1]
    rfl
theorem zgr {α : Type} {f : α → List V} (hf : ∀ a, (f a).length = 3) (R : List α) : (R.map f).flatten.length = R.length * 3 := by
  rw [zgq (sz := 3) (fun c hc => by obtain ⟨a, -, rfl⟩ := List.mem_map.1 hc; exact hf a), List.length_map]
structure SitAt (L : List V) (R : List Sitting) : Prop where
  len : R.length * 3 ≤ L.length
  tab : ∀ (k : Nat) (h : k < R.length), L[k * 3]? = some (rows R[k].tables)
  pts : ∀ (k : Nat) (h : k < R.length), L[k * 3 + 1]? = some (rows R[k].points)
  rul : ∀ (k : Nat) (h : k < R.length), L[k * 3 + 2]? = some (.lst (R[k].rulings.map Ruling.cells))
theorem zow (R : List Sitting) (junk : List V) : SitAt ((R.map Sitting.cells).flatten ++ junk) R where
  len := by rw [List.length_append, zgr Sitting.len]; omega
  tab := fun k h => by have := zrv Sitting.len junk R k h 0 (by omega); rw [Nat.add_zero] at this; rw [this]; rfl
  pts := fun k h => by rw [zrv Sitting.len junk R k h 1 (by omega)]; rfl
  rul := fun k h => by rw [zrv Sitting.len junk R k h 2 (by omega)]; rfl
structure RulAt (L : List V) (R : List Ruling) : Prop where
  len : R.length * 3 ≤ L.length
  rnd : ∀ (k : Nat) (h : k < R.length), L[k * 3]? = some (I R[k].round)
  tab : ∀ (k : Nat) (h : k < R.length), L[k * 3 + 1]? = some (I R[k].table)
  pts : ∀ (k : Nat) (h : k < R.length), L[k * 3 + 2]? = some (ints R[k].points)
theorem rulAt_flat (R : List Ruling) (junk : List V) : RulAt ((R.map Ruling.cells).flatten ++ junk) R where
  len := by rw [List.length_append, zgr Ruling.len]; omega
  rnd := fun k h => by have := zrv Ruling.len junk R k h 0 (by omega); rw [Nat.add_zero] at this; rw [this]; rfl
  tab := fun k h => by rw [zrv Ruling.len junk R k h 1 (by omega)]; rfl
  pts := fun k h => by rw [zrv Ruling.len junk R k h 2 (by omega)]; rfl
theorem zpp {L : List V} {i : Nat} {a b c : V} (h0 : L[i]? = some a) (h1 : L[i + 1]? = some b) (h2 : L[i + 2]? = some c) : (L.drop i).take 3 = [a, b, c] := by
  obtain ⟨k0, e0⟩ := List.getElem?_eq_some_iff.1 h0
  obtain ⟨k1, e1⟩ := List.getElem?_eq_some_iff.1 h1
  obtain ⟨k2, e2⟩ := List.getElem?_eq_some_iff.1 h2
  rw [List.drop_eq_getElem_cons k0, List.drop_eq_getElem_cons k1, List.drop_eq_getElem_cons k2, e0, e1, e2]
  rfl
theorem zjk {L : List V} {i : Nat} {a : V} (h : L[i]? = some a) : (L.map V.copy)[i]? = some a.copy := by rw [List.getElem?_map, h]; rfl
theorem SitAt.chunk {L : List V} {R : List Sitting} (h : SitAt L R) : chunk 3 R.length (L.map V.copy) = R.map Sitting.cells :=
  zmo _ _ _ (by rw [List.length_map]) fun k hk => by
    rw [List.length_map] at hk
    rw [zpp (zjk (h.tab k hk)) (zjk (h.pts k hk)) (zjk (h.rul k hk)), List.getElem_map]
    rfl
theorem RulAt.chunk {L : List V} {R : List Ruling} (h : RulAt L R) : chunk 3 R.length (L.map V.copy) = R.map Ruling.cells :=
  zmo _ _ _ (by rw [List.length_map]) fun k hk => by
    rw [List.length_map] at hk
    rw [zpp (zjk (h.rnd k hk)) (zjk (h.tab k hk)) (zjk (h.pts k hk)), List.getElem_map]
    rfl
theorem zie {α : Type} {L : List α} {i j : Nat} {x y : α} (h : L[j]? = some y) (hi : i ≠ j) : (L.set i x)[j]? = some y := by
  rw [List.getElem?_set_ne hi]; exact h
theorem zjb {α : Type} {L : List α} {i : Nat} {x : α} (h : i < L.length) : (L.set i x)[i]? = some x := by
  rw [List.getElem?_set, if_pos rfl, if_pos h]
theorem SitAt.put {L : List V} {R : List Sitting} {i : Nat} (h : SitAt L R) (hi : i < R.length) :
    SitAt (((L.set (i * 3) (.lst (R[i].tables.map cR))).set (i * 3 + 1) (.lst (R[i].points.map cR))).set (i * 3 + 2) (.lst (R[i].rulings.map Ruling.cells))) R where
  len := by simp only [List.length_set]; exact h.len
  tab := fun k hk => by
    have hl := h.len
    refine zie (zie ?_ (by omega)) (by omega)
    by_cases e : i = k
    · subst e; exact zjb (by omega)
    · exact zie (h.tab k hk) (by omega)
  pts := fun k hk => by
    have hl := h.len
    refine zie ?_ (by omega)
    by_cases e : i = k
    · subst e; exact zjb (by simp only [List.length_set]; omega)
    · exact zie (zie (h.pts k hk) (by omega)) (by omega)
  rul := fun k hk => by
    have hl := h.len
    by_cases e : i = k
    · subst e; exact zjb (by simp only [List.length_set]; omega)
    · exact zie (zie (zie (h.rul k hk) (by omega)) (by omega)) (by omega)
theorem znn {L : List V} {i : Nat} {x : V} (h : L[i]? = some x) : (L.map V.peek)[i]? = some x.peek := by rw [List.getElem?_map, h]; rfl
theorem SitAt.peek {L : List V} {R : List Sitting} (h : SitAt L R) : SitAt (L.map V.peek) R where
  len := by rw [List.length_map]; exact h.len
  tab := fun k hk => znn (h.tab k hk)
  pts := fun k hk => znn (h.pts k hk)
  rul := fun k hk => znn (h.rul k hk)
theorem RulAt.put {L : List V} {R : List Ruling} {i : Nat} {m : Bool} {T s : Nat} (h : RulAt L R) (hi : i < R.length) :
    RulAt ((L.set (i * 3 + 2) (.own m T s (R[i].points.map cI))).map V.peek) R where
  len := by rw [List.length_map, List.length_set]; exact h.len
  rnd := fun k hk => znn (zie (h.rnd k hk) (by omega))
  tab := fun k hk => znn (zie (h.tab k hk) (by omega))
  pts := fun k hk => by
    have hl := h.len
    by_cases e : i = k
    · subst e; exact znn (zjb (by omega))
    · exact znn (zie (h.pts k hk) (by omega))
theorem yX49 {p : Prop} (h : p := by (simp (disch := omega) only [go_sem, dopV, Option.map_some, Option.map_none, Option.bind_some, Option.bind_none, ↓reduceIte, Nat.reduceEqDiff, Nat.reduceLT, Nat.reduceLeDiff, Nat.reduceAdd, Nat.reduceMul, Nat.reduceSub, Nat.zero_add, Nat.add_zero, Nat.zero_le, Nat.zero_mul, Nat.mul_one, Nat.one_mul, Int.natCast_zero, Int.toNat_zero, Int.reduceToNat, Int.reduceLT, Int.reduceLE, Int.reduceEq, decide_true, decide_false, true_and, and_true, Bool.and_self, Bool.and_true, Bool.true_and, Bool.not_true, Bool.not_false, IntWalk.toNatUp, IntWalk.iteOmega, IntWalk.i64_in, Option.isSome_some, not_true_eq_false, not_false_eq_true, Option.getD_some, Option.getD_none, Int.toNat_natCast, List.length_map, List.getElem?_map, List.getElem?_eq_getElem, V.flat, V.one, List.all_cons, List.all_nil, *, List.forall_mem_map, implies_true, zee, Value.oneCell']; exact rfl)) : p := h
theorem yX50 {p : Prop} (h : p := by (simp (disch := omega) only [go_sem, dopV, Option.map_some, Option.map_none, Option.bind_some, Option.bind_none, ↓reduceIte, Nat.reduceEqDiff, Nat.reduceLT, Nat.reduceLeDiff, Nat.reduceAdd, Nat.reduceMul, Nat.reduceSub, Nat.zero_add, Nat.add_zero, Nat.zero_le, Nat.zero_mul, Nat.mul_one, Nat.one_mul, Int.natCast_zero, Int.toNat_zero, Int.reduceToNat, Int.reduceLT, Int.reduceLE, Int.reduceEq, decide_true, decide_false, true_and, and_true, Bool.and_self, Bool.and_true, Bool.true_and, Bool.not_true, Bool.not_false, IntWalk.toNatUp, IntWalk.iteOmega, IntWalk.i64_in, Option.isSome_some, not_true_eq_false, not_false_eq_true, Option.getD_some, Option.getD_none, Int.toNat_natCast, List.length_map, List.getElem?_map, List.getElem?_eq_getElem, V.flat, V.one, List.all_cons, List.all_nil, *, List.forall_mem_map, implies_true, zee, Value.oneCell']; try exact rfl)) : p := h
end Go.XL
namespace Go.XL
open Go.Proofs
set_option maxRecDepth 100000
set_option maxHeartbeats 8000000
theorem PC.of_peek {P : Program} {f : FuncId} {args : List V} {v : V} (h : DC P f args [] fun u _ => u.peek = v) : PC P f args v := by
  intro v0 K hv hold hp xs hx ha s
  refine (h v0 K hv hold hp xs hx ha s).mono ?_
  rintro y h' ⟨u, S', hv', hold', p, st, rfl⟩
  refine ⟨u.peek, S', hv', hold', p, ⟨st.pre, fun t w e => ?_, st.obj, st.held, st.base, st.vbase⟩, rfl⟩
  rw [zae] at e
  split at e
  · rename_i ht
    cases e
    obtain ⟨z, h1, h2, -⟩ := st.slot t u (by rw [zae, if_pos ht])
    exact ⟨z, h1, V.peek_Rl h2, V.free_Own (zec u) z⟩
  · cases e
theorem zjy (l : List (List Int)) (hl : l.length ≤ 1000000) (hr : ∀ t ∈ l, t.length ≤ 1000000) : PC Try.prog 69 [rows l] (rows l) := by
  refine PC.of_peek ?_
  refine DC.of_run Try.func69 rfl Try.ntmps69 Try.results69 (by simp) (fun _ => ?_); simp only [zap, zau, go_sem, Nat.zero_add, Nat.reduceAdd]
  repeat' (first | (with_reducible first | refine DS.fltS yU yU yE ?_ | refine DS.opsNil ?_ | refine DS.seq ?_ | refine DS.regionL ?_) | fail)
  refine DS.callA inferInstance (cloneL_dc l (by omega)) yR yH (fun u S' hu => ?_)
  obtain ⟨⟨R, blk⟩, rfl, gok, rfl⟩ := hu
  cases blk with
  | none =>
    have h0 : l = [] := List.map_eq_nil_iff.1 gok
    subst h0
    simp only [List.map_nil, GR.cell_none]
    repeat' (first | (with_reducible first | refine DS.fltS yU yU yE ?_ | refine DS.opsNil ?_ | refine DS.seq ?_ | refine DS.regionL ?_ | refine DS.block ?_) | fail)
    refine DS.loopK [3, 8] (by (simp only [go_sem, Nat.reduceEqDiff, ↓reduceIte]; exact rfl)) (fun (y : Nat) => [(9, I y)]) (fun (y : Nat) => y = 0) (fun (y : Nat) => y) 0 yS rfl (fun y B hI hB => ?_); try dsimp only at hI hB; simp only [zaq, zav]
    subst hI
    repeat' (first | (with_reducible first | refine DS.fltS yU yU yE ?_ | refine DS.opsNil ?_ | refine DS.seq ?_ | refine DS.regionL ?_ | (refine DS.cE yE ?_; refine CG.no ?_) | refine DS.exit yU ?_) | refine DS.retT [] yE trivial ?_ | fail)
    rfl
  | some z =>
  obtain ⟨b, cap, junk⟩ := z
  have k1 := gok.look
  have k2 := gok.le
  have k3 := gok.cap
  rw [flat_cR] at k1
  rw [List.length_map] at k2
  simp only [GR.cell_some, List.length_map]
  refine DS.reS (S' := [(b, .cells ((l.map fun t => ints t) ++ junk) 22)]) (fun d o e => by
    simp only [zab, zbu] at e
    split at e
    · rename_i h; subst h; rw [k1]; exact e
    · cases e) ?_
  clear gok k1
  repeat' (first | (with_reducible first | refine DS.fltS yU yU yE ?_ | refine DS.opsNil ?_ | refine DS.seq ?_ | refine DS.regionL ?_ | refine DS.block ?_) | fail)
  refine DS.loopS [3, 8] (by (simp only [go_sem, Nat.reduceEqDiff, ↓reduceIte]; exact rfl)) (fun (y : Nat × List V) => [(9, I y.1)]) (fun (y : Nat × List V) => [(b, .cells y.2 22)]) (fun (y : Nat × List V) => y.1 ≤ l.length ∧ l.length ≤ y.2.length ∧ ∀ (k : Nat) (h : k < l.length), y.2[k]? = some (ints l[k])) (fun (y : Nat × List V) => l.length - y.1) (0, (l.map fun t => ints t) ++ junk) yS (fun b o e => by exact e) ⟨Nat.zero_le _, by simp, fun k h => zpc h⟩ (fun y B hI hB => ?_); try dsimp only at hI hB; simp only [zaq, zav]
  obtain ⟨i, L⟩ := y
  dsimp only at hI hB ⊢
  obtain ⟨g1, g2, g3⟩ := hI
  have H := Box.mk g3
  clear g3
  by_cases hi : (i : Int) < (l.length : Int)
  · have hi' : i < l.length := by omega
    have h1 := H.out i hi'
    have h2 := hr _ (List.getElem_mem hi')
    repeat' (first | (with_reducible first | refine DS.fltS yU yU yE ?_ | refine DS.opsNil ?_ | refine DS.seq ?_ | refine DS.regionL ?_ | (refine DS.cE yE ?_; refine CG.yes ?_) | refine DS.blk ?_ | refine DS.block ?_ | refine DS.skip ?_) | refine DS.pcS inferInstance (zlg _ (Nat.le_trans h2 (by decide))) yR yT ?_ | (refine DS.store yR yE yE yE yE yU (by exact ⟨by with_unfolding_all rfl, by (try simp only [List.length_map, List.length_append, List.length_set, List.length_replicate, List.length_cons, List.length_nil]); omega⟩) ?_; simp only [zbj, zar, zay, zbw, zbi, zbg, zbh]; try simp only [zal, zac, zae, Nat.reduceEqDiff, ↓reduceIte, zah, zai, zan, zag, zaf, zam, zaj]) | fail)
    simp only [setS, ↓reduceIte]
    refine DS.mapO (b := b) V.peek (fun _ _ _ h => V.peek_Rl h) zec (by simp only [zab, ↓reduceIte]; exact rfl) ?_
    simp only [setS, ↓reduceIte]
    refine DS.back (hB (i + 1, (L.set i (.own false 3 1 (l[i].map cI))).map V.peek) _ _ (by dsimp only; omega) ⟨by dsimp only; omega, by simp; omega, fun k hk => set_peek (by omega) (H.out k hk)⟩ yS yS (fun d o e => by exact e))
  · refine DS.freeze (b := b) (l := L) (T := 22) (len := l.length) (t := 3) (sz := 1) yR (by simp only [zab, ↓reduceIte]) (by omega) ⟨k2, k3⟩ ?_
    have hch : chunk 1 l.length (L.map V.copy) = l.map cR := zmo _ _ _ (by rw [List.length_map]) fun k hk => by
      rw [List.length_map] at hk
      have h1 := H.out k hk
      obtain ⟨hk2, h3⟩ := List.getElem?_eq_some_iff.1 h1
      rw [Nat.mul_one, List.drop_eq_getElem_cons (by rw [List.length_map]; exact hk2), List.take_succ_cons, List.take_zero, List.getElem_map, h3, List.getElem_map]
      rfl
    rw [hch]
    repeat' (first | (with_reducible first | refine DS.fltS yU yU yE ?_ | refine DS.opsNil ?_ | refine DS.seq ?_ | refine DS.regionL ?_ | (refine DS.cE yE ?_; refine CG.no ?_) | refine DS.exit yU ?_) | refine DS.retT [] yE trivial ?_ | fail)
    rfl
end Go.XL
namespace Go.XL
open Go.Proofs
set_option maxRecDepth 100000
set_option maxHeartbeats 8000000
section
variable {P : Program} {n : Nat} {r : Rr} {Q : VEnv → Sto → Prop} {ops : List Oper} {S0 S1 : Sto} {k : List Fr} {E0 E : VEnv} {dst : Option Tmp} {ty : TypeId} {pos : String} {af : Array Edge} {ts : Array TypeId}
theorem DD.callL {g : FuncId} {args : List V} {xs : Array Operand} {fn : Func} {R : V → Sto → Prop} (hf : FnOk P g fn) (hc : DC P g args [] R) (hd : dok n dst = true) (he : (evsV (evV E) xs.toList).map (·.map V.peek) = some args)
    (q : ∀ v Sg, R v Sg → (∀ b o, zaa S0 b = some o → zaa Sg b = none) → DS P n r Q k (putV E dst v) (Sg ++ S0)) : DD P n r Q ops S0 [] [⟨dst, .call { callee := .value (.func g), args := xs, argTypes := ts }, ty, pos, af, none⟩] k E0 E S1 := by
  rw [Option.map_eq_some_iff] at he
  obtain ⟨ws, e1, e2⟩ := he
  refine DD.last rfl rfl rfl hd (OpS.call (fs := []) (cs := []) hf rfl e1 (S1 := []) (S2 := []) (R := R) (by simpa [e2] using hc _) (fun _ _ e => by cases e) (fun _ _ e => by cases e)) fun v E' S' h hdis => ?_
  obtain ⟨rfl, Sg, rfl, h1, -⟩ := h
  rw [List.append_nil] at hdis ⊢
  exact q v Sg h1 hdis
end
theorem zos {Sg S0 : Sto} (hdis : ∀ b o, zaa S0 b = some o → zaa Sg b = none) {b : Nat} {o : Ob} (h : zaa S0 b = some o) : zaa (Sg ++ S0) b = some o := by rw [zbk, hdis b o h]; exact h
theorem app_l {Sg S0 : Sto} {b : Nat} {o : Ob} (h : zaa Sg b = some o) : zaa (Sg ++ S0) b = some o := by rw [zbk, h]
theorem zsh {Sg S0 : Sto} (hdis : ∀ b o, zaa S0 b = some o → zaa Sg b = none) {b d : Nat} {o o' : Ob} (h : zaa Sg b = some o) (h0 : zaa S0 d = some o') : ¬ b = d := fun e => by
  subst e; rw [hdis _ _ h0] at h; cases h
abbrev gC (c : Club) (v : V) : List V := [I c.size, I c.start, I c.absent, I c.window, ints c.places, Bo c.share, .lst (c.members.map Member.cells), v]
theorem SitAt.flat {L : List V} {R : List Sitting} (h : SitAt L R) : L = (R.map Sitting.cells).flatten ++ L.drop (R.length * 3) := by
  apply List.ext_getElem?
  intro i
  by_cases hi : i < R.length * 3
  · obtain ⟨k, j, hj, rfl⟩ : ∃ k j, j < 3 ∧ i = k * 3 + j := ⟨i / 3, i % 3, by omega, by omega⟩
    have hk : k < R.length := by omega
    rw [zrv Sitting.len _ R k hk j hj]
    rcases (by omega : j = 0 ∨ j = 1 ∨ j = 2) with rfl | rfl | rfl
    · rw [Nat.add_zero, h.tab k hk]; rfl
    · rw [h.pts k hk]; rfl
    · rw [h.rul k hk]; rfl
  · rw [List.getElem?_append_right (by rw [zgr Sitting.len]; omega), zgr Sitting.len, List.getElem?_drop]
    congr 1; omega
theorem sits_rows (R : List Sitting) : ∀ v ∈ (R.map Sitting.cells).flatten, v.free = true := fun v hv => by
  obtain ⟨l, h1, h2⟩ := List.mem_flatten.1 hv
  obtain ⟨s, -, rfl⟩ := List.mem_map.1 h1
  simp only [Sitting.cells, List.mem_cons, List.not_mem_nil, or_false] at h2
  rcases h2 with rfl | rfl | rfl <;> rfl
theorem SitAt.ok {L : List V} {R : List Sitting} (h : SitAt L R) {b cap : Nat} {S : Sto} {e : Nat} (hS : zaa S b = some (.cells (L.map V.peek) e)) (hl : L.length = cap * 3) (hc : R.length ≤ cap ∧ cap ≤ maxLen) : ∃ g : GR, g.cell = .v (.slice (some ⟨b, 0, none⟩) R.length cap) ∧ g.Ok e 3 S ∧ g.l = R.map Sitting.cells := by
  have hp := h.peek
  have hln := h.len
  refine ⟨⟨R.map Sitting.cells, some (b, cap, (L.map V.peek).drop (R.length * 3))⟩, by rw [GR.cell_some, List.length_map], ⟨by rw [hS]; congr 2; exact hp.flat, ?_, by rw [List.length_map]; exact hc.1, hc.2, fun v hv => ?_, sits_rows R, fun c hc => ?_⟩, rfl⟩
  · rw [List.length_map, List.length_drop, List.length_map]; omega
  · obtain ⟨u, -, rfl⟩ := List.mem_map.1 (List.mem_of_mem_drop hv)
    exact zec u
  · obtain ⟨s, -, rfl⟩ := List.mem_map.1 hc; rfl
theorem copyP_dc (c : Club) (hs : c.Small) : DC Try.prog 68 [c.val] [] (fun u S' => ∃ g : GR, u = .agg (gC c g.cell) ∧ g.Ok 81 3 S' ∧ g.l = c.rounds.map Sitting.cells) := by
  have q1 := hs.rounds
  have q2 := hs.members
  have q3 := hs.places
  refine DC.of_runC Try.func68 rfl Try.ntmps68 Try.results68 (by simp) rfl (fun _ => ?_); simp only [zap, zau, go_sem, Nat.zero_add, Nat.reduceAdd]
  repeat' (first | (with_reducible first | refine DS.seq ?_ | refine DS.regionL ?_) | (with_reducible refine DS.boxS yU yE yU (fun _ hfr => ?_); have hfr := zhx hfr; simp only [zfq, zgj, and_true] at hfr; simp only [zbr, zch, zbq, zcc, zbn, zbf, zbt, zbm, zce, zcg, zbx, zcf, zcb, zca]) | fail)
  rename_i b1 hb1
  refine DS.allocS yR yU yU (fun b2 h2 => ?_)
  have n1 : ¬ b1 = b2 := fun e => by rw [zab, if_pos e] at h2; cases h2
  have n1' : ¬ b2 = b1 := fun e => n1 e.symm
  clear h2 hb1
  have e0 : (Value.agg #[.int .i64 0, .int .i64 0, .int .i64 0, .int .i64 0, .slice none 0 0, .bool false, .slice none 0 0, .slice none 0 0]).cells.toList.map V.v = zct := rfl
  rw [e0]
  clear e0
  repeat' (first | (with_reducible first | refine DS.opsNil ?_ | refine DS.seq ?_) | refine DS.drawL (id := 1) [0, 1, 2, 3, 4, 5, 6, 7, 9, 8] 10 (by kernel_rfl) zcv (by simp only [zax, zbb, zbc, zbd, zaw]; exact rfl) (by simp only [zas, zat, List.drop_nil]; exact rfl) ?_ | with_reducible refine DD.fltS yU yU yU yX49 ?_ | refine DD.pcS inferInstance (zlg c.places (by omega)) yU yX50 ?_; simp only [zbo, zbv, Nat.reduceEqDiff, ↓reduceIte] | refine DD.pcS inferInstance (cloneM_pc c.members (by omega)) yU yX50 ?_; simp only [zbo, zbv, Nat.reduceEqDiff, ↓reduceIte] | fail)
  refine DD.callL inferInstance (cloneS_dc c.rounds (by omega)) yR yH (fun u Sg hu hdis => ?_)
  obtain ⟨⟨R, blk⟩, rfl, gok, rfl⟩ := hu
  simp only [zcn]
  have l1 : zaa [(b2, Ob.cells zct 26), (b1, .cells (gC c (.lst (c.rounds.map Sitting.cells))) 26)] b1 = some (.cells (gC c (.lst (c.rounds.map Sitting.cells))) 26) := by simp only [zab, n1', ↓reduceIte]
  have l2 : zaa [(b2, Ob.cells zct 26), (b1, .cells (gC c (.lst (c.rounds.map Sitting.cells))) 26)] b2 = some (.cells zct 26) := by simp only [zab, ↓reduceIte]
  cases blk with
  | none =>
    have h0 : c.rounds = [] := List.map_eq_nil_iff.1 gok
    refine DS.reS (S' := [(b1, .cells (gC c (.lst (c.rounds.map Sitting.cells))) 26), (b2, .cells zct 26)]) (zfb ⟨zos hdis l1, zos hdis l2, trivial⟩) ?_
    clear hdis gok l1 l2
    simp only [GR.cell_none]
    repeat' (first | (with_reducible first | refine DS.fltS yU yU yE ?_ | refine DS.opsNil ?_ | refine DS.seq ?_ | refine DS.regionL ?_ | refine DS.block ?_) | (refine DS.store yR yE yE yE yE yU (by exact ⟨by with_unfolding_all rfl, by (try simp only [List.length_map, List.length_append, List.length_set, List.length_replicate, List.length_cons, List.length_nil]); omega⟩) ?_; simp only [zbj, zar, zay, zbw, zbi, zbg, zbh]; try simp only [zal, zac, zae, Nat.reduceEqDiff, ↓reduceIte, zah, zai, zan, zag, zaf, zam, zaj]) | fail)
    simp only [setS, n1, n1', ↓reduceIte, zby, zbs]
    refine DS.mapO (b := b1) V.copy (fun _ _ _ h => V.copy_Rl h) zff (by simp only [zab, n1, n1', ↓reduceIte]; exact rfl) ?_
    simp only [setS, n1, n1', ↓reduceIte]
    refine DS.loopS [1, 2, 20] (by (simp only [go_sem, Nat.reduceEqDiff, ↓reduceIte]; exact rfl)) (fun (y : Nat) => [(21, I y)]) (fun (y : Nat) => [(b1, .cells (gC c (.v (.slice none 0 0))) 26), (b2, .cells zct 26)]) (fun (y : Nat) => y = 0) (fun (y : Nat) => y) 0 yS (fun b o e => by exact e) rfl (fun y B hI hB => ?_); try dsimp only at hI hB; simp only [zaq, zav]
    subst hI
    refine DS.freezeP (t := 1) yE yE ?_; simp only [zbe, zbl, ↓reduceIte, *, zbn, zbf, zbt, zbm, zce, zcg, zbx, zcf]
    repeat' (first | (refine DS.ldC (t := 78) yU yE yU (by simp only [List.length_cons, List.length_nil]; omega) ?_; simp only [List.take_succ_cons, List.take_zero, List.map_cons, List.map_nil, zbt, zbm, zce, Nat.reduceAdd]) | (with_reducible first | refine DS.fltS yU yU yE ?_ | refine DS.opsNil ?_ | refine DS.seq ?_ | refine DS.regionL ?_ | (refine DS.cE yE ?_; refine CG.no ?_) | refine DS.exit yU ?_) | (refine DS.store yR yE yE yE yE yU (by exact ⟨by with_unfolding_all rfl, by (try simp only [List.length_map, List.length_append, List.length_set, List.length_replicate, List.length_cons, List.length_nil]); omega⟩) ?_; simp only [zbj, zar, zay, zbw, zbi, zbg, zbh]; try simp only [zal, zac, zae, Nat.reduceEqDiff, ↓reduceIte, zah, zai, zan, zag, zaf, zam, zaj]) | fail)
    simp only [setS, n1, n1', ↓reduceIte, zar, zay, zbs, zby, zct, Nat.reduceAdd, Nat.zero_add]
    refine DS.retC [] yH yH yH yH (fun d o e => by cases e) ⟨⟨[], none⟩, rfl, rfl, by first | rfl | (rw [h0]; rfl)⟩
  | some z =>
  obtain ⟨b, cap, junk⟩ := z
  have k1 := gok.look
  have k2 := gok.le
  have k3 := gok.cap
  have k4 := gok.len
  rw [List.length_map] at k2 k4
  simp only [GR.cell_some, List.length_map]
  have e1 := zsh hdis k1 l1
  have e2 := zsh hdis k1 l2
  have e1' : ¬ b1 = b := fun h => e1 h.symm
  have e2' : ¬ b2 = b := fun h => e2 h.symm
  refine DS.reS (S' := [(b1, .cells (gC c (.lst (c.rounds.map Sitting.cells))) 26), (b2, .cells zct 26), (b, .cells ((c.rounds.map Sitting.cells).flatten ++ junk) 81)]) (zfb ⟨zos hdis l1, zos hdis l2, app_l k1, trivial⟩) ?_
  clear hdis gok k1 l1 l2
  repeat' (first | (with_reducible first | refine DS.fltS yU yU yE ?_ | refine DS.opsNil ?_ | refine DS.seq ?_ | refine DS.regionL ?_ | refine DS.block ?_) | (refine DS.store yR yE yE yE yE yU (by exact ⟨by with_unfolding_all rfl, by (try simp only [List.length_map, List.length_append, List.length_set, List.length_replicate, List.length_cons, List.length_nil]); omega⟩) ?_; simp only [zbj, zar, zay, zbw, zbi, zbg, zbh]; try simp only [zal, zac, zae, Nat.reduceEqDiff, ↓reduceIte, zah, zai, zan, zag, zaf, zam, zaj]) | fail)
  simp only [setS, ↓reduceIte, zby, zbs]
  refine DS.mapO (b := b1) V.copy (fun _ _ _ h => V.copy_Rl h) zff (by simp only [zab, n1, n1', e1', ↓reduceIte]; exact rfl) ?_
  simp only [setS, n1, n1', ↓reduceIte]
  refine DS.loopS [1, 2, 20] (by (simp only [go_sem, Nat.reduceEqDiff, ↓reduceIte]; exact rfl)) (fun (y : Nat × List V) => [(21, I y.1)]) (fun (y : Nat × List V) => [(b1, .cells (gC c (.v (.slice (some ⟨b, 0, none⟩) c.rounds.length cap))) 26), (b2, .cells zct 26), (b, .cells y.2 81)]) (fun (y : Nat × List V) => y.1 ≤ c.rounds.length ∧ SitAt y.2 c.rounds ∧ y.2.length = cap * 3) (fun (y : Nat × List V) => c.rounds.length - y.1) (0, (c.rounds.map Sitting.cells).flatten ++ junk) yS (fun b o e => by exact e) ⟨Nat.zero_le _, zow _ _, by rw [List.length_append, zgr Sitting.len]; exact k4⟩ (fun y B hI hB => ?_); try dsimp only at hI hB; simp only [zaq, zav]
  obtain ⟨i, L⟩ := y
  dsimp only at hI hB ⊢
  have hB0 := hB
  clear hB
  obtain ⟨g1, g2, gl⟩ := hI
  by_cases hi : (i : Int) < (c.rounds.length : Int)
  · have hi' : i < c.rounds.length := by omega
    have hsm := hs.round _ (List.getElem_mem hi')
    have hL := g2.len
    have h1 := g2.tab i hi'
    have h2 := g2.pts i hi'
    have h3 := g2.rul i hi'
    repeat' (first | (with_reducible first | refine DS.fltS yU yU yE ?_ | refine DS.opsNil ?_ | refine DS.seq ?_ | refine DS.regionL ?_ | (refine DS.cE yE ?_; refine CG.yes ?_) | refine DS.block ?_ | refine DS.skip ?_) | fail)
    refine DS.drawPL (id := 6) [(b1, .cells (gC c (.v (.slice (some ⟨b, 0, none⟩) c.rounds.length cap))) 26), (b2, .cells zct 26), (b, .cells L 81)] [] [1, 2] [0, 3, 4, 5, 6, 7, 8, 9, 10, 11, 12, 13, 14, 15, 16, 17] 18 rfl (by kernel_rfl) (by decide) zcv (fun _ _ e => ⟨e, rfl⟩) (fun _ _ e => by cases e)
      ⟨_, _, _, _, _, _, rfl, rfl, yG, _, _, _, _, _, _, rfl, rfl, yG, rfl⟩ (by simp only [zax, zbb, zbc, zbd, zaw]; exact rfl) (by simp only [zas, zat, List.drop_nil]; exact rfl) ?_
    have q5 := hsm.rulings
    repeat' (first | with_reducible refine DD.fltS yU yU yU yE ?_ | refine DD.pcS inferInstance (zjy c.rounds[i].tables hsm.tables hsm.table) yU yF ?_; simp only [zbo, zbv, Nat.reduceEqDiff, ↓reduceIte] | refine DD.pcS inferInstance (zjy c.rounds[i].points hsm.points hsm.point) yU yF ?_; simp only [zbo, zbv, Nat.reduceEqDiff, ↓reduceIte] | fail)
    refine DD.callL inferInstance (cloneR_dc c.rounds[i].rulings (by omega)) yR yH (fun u Sg hu hdis => ?_)
    obtain ⟨⟨R, blk⟩, rfl, gok, rfl⟩ := hu
    simp only [zcn]
    have l1 : zaa [(b1, .cells (gC c (.v (.slice (some ⟨b, 0, none⟩) c.rounds.length cap))) 26), (b2, .cells zct 26), (b, .cells L 81)] b1 = some (.cells (gC c (.v (.slice (some ⟨b, 0, none⟩) c.rounds.length cap))) 26) := by simp only [zab, ↓reduceIte]
    have l2 : zaa [(b1, .cells (gC c (.v (.slice (some ⟨b, 0, none⟩) c.rounds.length cap))) 26), (b2, .cells zct 26), (b, .cells L 81)] b2 = some (.cells zct 26) := by simp only [zab, n1, ↓reduceIte]
    have l3 : zaa [(b1, .cells (gC c (.v (.slice (some ⟨b, 0, none⟩) c.rounds.length cap))) 26), (b2, .cells zct 26), (b, .cells L 81)] b = some (.cells L 81) := by simp only [zab, e1', e2', ↓reduceIte]
    cases blk with
    | none =>
      have hr0 : c.rounds[i].rulings = [] := List.map_eq_nil_iff.1 gok
      refine DS.reS (S' := [(b1, .cells (gC c (.v (.slice (some ⟨b, 0, none⟩) c.rounds.length cap))) 26), (b2, .cells zct 26), (b, .cells L 81)]) (zfb ⟨zos hdis l1, zos hdis l2, zos hdis l3, trivial⟩) ?_
      clear hdis gok l1 l2 l3
      simp only [GR.cell_none]
      repeat' (first | (with_reducible first | refine DS.fltS yU yU yE ?_ | refine DS.opsNil ?_ | refine DS.seq ?_ | refine DS.regionL ?_) | (refine DS.store yR yE yE yE yE yU (by exact ⟨by with_unfolding_all rfl, by (try simp only [List.length_map, List.length_append, List.length_set, List.length_replicate, List.length_cons, List.length_nil]); omega⟩) ?_; simp only [zbj, zar, zay, zbw, zbi, zbg, zbh]; try simp only [zal, zac, zae, Nat.reduceEqDiff, ↓reduceIte, zah, zai, zan, zag, zaf, zam, zaj]) | fail)
      simp only [setS, e1, e2, e1', e2', ↓reduceIte]
      have g3 := g2.put hi'
      refine DS.mapO (b := b) V.peek (fun _ _ _ h => V.peek_Rl h) zec (by simp only [zab, e1', e2', ↓reduceIte]; exact rfl) ?_
      have hL' : (((L.set (i * 3) (.lst (c.rounds[i].tables.map cR))).set (i * 3 + 1) (.lst (c.rounds[i].points.map cR))).set (i * 3 + 2) (.v (.slice none 0 0))).map V.peek = (((L.set (i * 3) (.lst (c.rounds[i].tables.map cR))).set (i * 3 + 1) (.lst (c.rounds[i].points.map cR))).set (i * 3 + 2) (.lst (List.map Ruling.cells c.rounds[i].rulings))).map V.peek := by
        rw [hr0]; simp only [List.map_set]; rfl
      have g4 := g3.peek
      rw [← hL'] at g4
      have gl4 : ((((L.set (i * 3) (.lst (c.rounds[i].tables.map cR))).set (i * 3 + 1) (.lst (c.rounds[i].points.map cR))).set (i * 3 + 2) (.v (.slice none 0 0))).map V.peek).length = cap * 3 := by simp only [List.length_map, List.length_set]; exact gl
      clear hL' g3
      generalize hgL : (((L.set (i * 3) (.lst (c.rounds[i].tables.map cR))).set (i * 3 + 1) (.lst (c.rounds[i].points.map cR))).set (i * 3 + 2) (.v (.slice none 0 0))).map V.peek = L' at g4 gl4
      simp only [setS, e1, e2, e1', e2', ↓reduceIte, hgL]
      have h6 := g4.rul i hi'
      rw [hr0] at h6
      clear hgL
      repeat' (first | (with_reducible first | refine DS.fltS yU yU yE ?_ | refine DS.opsNil ?_ | refine DS.block ?_) | fail)
      refine DS.loopS [1, 2, 4, 20, 21, 56] (by (simp only [go_sem, Nat.reduceEqDiff, ↓reduceIte]; exact rfl)) (fun (y : Nat) => [(57, I y)]) (fun (y : Nat) => [(b1, .cells (gC c (.v (.slice (some ⟨b, 0, none⟩) c.rounds.length cap))) 26), (b2, .cells zct 26), (b, .cells L' 81)]) (fun (y : Nat) => y = 0) (fun (y : Nat) => y) 0 yS (fun b o e => by exact e) rfl (fun y B hI hB => ?_); try dsimp only at hI hB; simp only [zaq, zav]
      subst hI
      repeat' (first | (with_reducible first | refine DS.fltS yU yU yE ?_ | refine DS.opsNil ?_ | refine DS.seq ?_ | refine DS.regionL ?_ | (refine DS.cE yE ?_; refine CG.no ?_) | refine DS.blk ?_ | refine DS.exit yU ?_) | fail)
      refine DS.back (hB0 (i + 1, L') _ _ (by dsimp only; omega) ⟨by dsimp only; omega, g4, gl4⟩ yS yS (fun d o e => by exact e))
    | some z =>
    obtain ⟨bk, capk, junkk⟩ := z
    have k1 := gok.look
    have k6 := gok.le
    have k7 := gok.cap
    rw [List.length_map] at k6
    simp only [GR.cell_some, List.length_map]
    have u1 := zsh hdis k1 l1
    have u2 := zsh hdis k1 l2
    have u3 := zsh hdis k1 l3
    have u1' : ¬ b1 = bk := fun h => u1 h.symm
    have u2' : ¬ b2 = bk := fun h => u2 h.symm
    have u3' : ¬ b = bk := fun h => u3 h.symm
    refine DS.reS (S' := [(b1, .cells (gC c (.v (.slice (some ⟨b, 0, none⟩) c.rounds.length cap))) 26), (b2, .cells zct 26), (b, .cells L 81), (bk, .cells ((c.rounds[i].rulings.map Ruling.cells).flatten ++ junkk) 78)]) (zfb ⟨zos hdis l1, zos hdis l2, zos hdis l3, app_l k1, trivial⟩) ?_
    clear hdis gok k1 l1 l2 l3
    repeat' (first | (with_reducible first | refine DS.fltS yU yU yE ?_ | refine DS.opsNil ?_ | refine DS.seq ?_ | refine DS.regionL ?_) | (refine DS.store yR yE yE yE yE yU (by exact ⟨by with_unfolding_all rfl, by (try simp only [List.length_map, List.length_append, List.length_set, List.length_replicate, List.length_cons, List.length_nil]); omega⟩) ?_; simp only [zbj, zar, zay, zbw, zbi, zbg, zbh]; try simp only [zal, zac, zae, Nat.reduceEqDiff, ↓reduceIte, zah, zai, zan, zag, zaf, zam, zaj]) | fail)
    simp only [setS, e1, e2, e1', e2', u1, u2, u3, u1', u2', u3', ↓reduceIte]
    have h6 := zjb (L := (L.set (i * 3) (.lst (c.rounds[i].tables.map cR))).set (i * 3 + 1) (.lst (c.rounds[i].points.map cR))) (i := i * 3 + 2) (x := V.v (.slice (some ⟨bk, 0, none⟩) c.rounds[i].rulings.length capk)) (by simp only [List.length_set]; omega)
    have g4 := g2.put hi'
    have hgL : ((L.set (i * 3) (.lst (c.rounds[i].tables.map cR))).set (i * 3 + 1) (.lst (c.rounds[i].points.map cR))).set (i * 3 + 2) (.lst (c.rounds[i].rulings.map Ruling.cells)) = (((L.set (i * 3) (.lst (c.rounds[i].tables.map cR))).set (i * 3 + 1) (.lst (c.rounds[i].points.map cR))).set (i * 3 + 2) (V.v (.slice (some ⟨bk, 0, none⟩) c.rounds[i].rulings.length capk))).set (i * 3 + 2) (.lst (c.rounds[i].rulings.map Ruling.cells)) := by rw [List.set_set]
    rw [hgL] at g4
    clear hgL
    have h7 : i * 3 + 2 < (((L.set (i * 3) (.lst (c.rounds[i].tables.map cR))).set (i * 3 + 1) (.lst (c.rounds[i].points.map cR))).set (i * 3 + 2) (V.v (.slice (some ⟨bk, 0, none⟩) c.rounds[i].rulings.length capk))).length := by simp only [List.length_set]; omega
    have gl5 : (((L.set (i * 3) (.lst (c.rounds[i].tables.map cR))).set (i * 3 + 1) (.lst (c.rounds[i].points.map cR))).set (i * 3 + 2) (V.v (.slice (some ⟨bk, 0, none⟩) c.rounds[i].rulings.length capk))).length = cap * 3 := by simp only [List.length_set]; exact gl
    generalize hgL : ((L.set (i * 3) (.lst (c.rounds[i].tables.map cR))).set (i * 3 + 1) (.lst (c.rounds[i].points.map cR))).set (i * 3 + 2) (V.v (.slice (some ⟨bk, 0, none⟩) c.rounds[i].rulings.length capk)) = L' at h6 g4 h7 gl5
    try simp only [hgL]
    clear hgL
    repeat' (first | (with_reducible first | refine DS.fltS yU yU yE ?_ | refine DS.opsNil ?_ | refine DS.block ?_) | fail)
    refine DS.loopS [1, 2, 4, 20, 21, 56] (by (simp only [go_sem, Nat.reduceEqDiff, ↓reduceIte]; exact rfl)) (fun (y : Nat × List V) => [(57, I y.1)]) (fun (y : Nat × List V) => [(b1, .cells (gC c (.v (.slice (some ⟨b, 0, none⟩) c.rounds.length cap))) 26), (b2, .cells zct 26), (b, .cells L' 81), (bk, .cells y.2 78)]) (fun (y : Nat × List V) => y.1 ≤ c.rounds[i].rulings.length ∧ RulAt y.2 c.rounds[i].rulings) (fun (y : Nat × List V) => c.rounds[i].rulings.length - y.1) (0, (c.rounds[i].rulings.map Ruling.cells).flatten ++ junkk) yS (fun b o e => by exact e) ⟨Nat.zero_le _, rulAt_flat _ _⟩ (fun y B hI hB => ?_); try dsimp only at hI hB; simp only [zaq, zav]
    obtain ⟨k, M⟩ := y
    dsimp only at hI hB ⊢
    obtain ⟨p1, p2⟩ := hI
    by_cases hk : (k : Int) < (c.rounds[i].rulings.length : Int)
    · have hk' : k < c.rounds[i].rulings.length := by omega
      have hM := p2.len
      have h8 := p2.pts k hk'
      have h9 := hsm.ruling _ (List.getElem_mem hk')
      repeat' (first | (with_reducible first | refine DS.fltS yU yU yE ?_ | refine DS.opsNil ?_ | refine DS.seq ?_ | refine DS.regionL ?_ | (refine DS.cE yE ?_; refine CG.yes ?_) | refine DS.blk ?_ | refine DS.block ?_ | refine DS.skip ?_) | (refine DS.store yR yE yE yE yE yU (by exact ⟨by with_unfolding_all rfl, by (try simp only [List.length_map, List.length_append, List.length_set, List.length_replicate, List.length_cons, List.length_nil]); omega⟩) ?_; simp only [zbj, zar, zay, zbw, zbi, zbg, zbh]; try simp only [zal, zac, zae, Nat.reduceEqDiff, ↓reduceIte, zah, zai, zan, zag, zaf, zam, zaj]) | refine DS.drawL (id := 10) [0, 1, 2, 3, 4, 5, 6, 7, 8, 9, 10, 11, 12, 13] 14 (by kernel_rfl) zcv (by simp only [zax, zbb, zbc, zbd, zaw]; exact rfl) (by simp only [zas, zat, List.drop_nil]; exact rfl) ?_ | (with_reducible first | refine DD.fltS yU yU yU yE ?_ | refine DD.nil0 ?_) | refine DD.pcS inferInstance (zlg c.rounds[i].rulings[k].points (Nat.le_trans h9 (by decide))) yU yT ?_; simp only [zbo, zbv, Nat.reduceEqDiff, ↓reduceIte] | fail)
      simp only [setS, u1', u2', u3', ↓reduceIte]
      refine DS.mapO (b := bk) V.peek (fun _ _ _ h => V.peek_Rl h) zec (by simp only [zab, u1', u2', u3', ↓reduceIte]; exact rfl) ?_
      simp only [setS, u1', u2', u3', ↓reduceIte]
      refine DS.back (hB (k + 1, (M.set (k * 3 + 2) (.own false 3 1 (c.rounds[i].rulings[k].points.map cI))).map V.peek) _ _ (by dsimp only; omega) ⟨by dsimp only; omega, p2.put hk'⟩ yS yS (fun d o e => by exact e))
    · obtain rfl : k = c.rounds[i].rulings.length := by omega
      refine DS.freezeC (b := bk) (b' := b) (i := i * 3 + 2) (sz := 3) (len := c.rounds[i].rulings.length) (cap := capk) (l := M) (T := 78) (l' := L') (T' := 81) u3' (by simp only [zab, e1', e2', ↓reduceIte]) h6 (by simp only [zab, u1', u2', u3', ↓reduceIte]) p2.len ⟨k6, k7⟩ ?_
      rw [p2.chunk]
      simp only [setS, zbe, zbl, e1, e2, e1', e2', u1, u2, u3, u1', u2', u3', ↓reduceIte]
      have h6' := zjb (x := V.lst (c.rounds[i].rulings.map Ruling.cells)) h7
      clear h6 hB
      repeat' (first | (with_reducible first | refine DS.fltS yU yU yE ?_ | refine DS.opsNil ?_ | refine DS.seq ?_ | refine DS.regionL ?_ | (refine DS.cE yE ?_; refine CG.no ?_) | refine DS.blk ?_ | refine DS.exit yU ?_) | fail)
      refine DS.back (hB0 (i + 1, L'.set (i * 3 + 2) (.lst (c.rounds[i].rulings.map Ruling.cells))) _ _ (by dsimp only; omega) ⟨by dsimp only; omega, g4, by rw [List.length_set]; exact gl5⟩ yS yS (fun d o e => by exact e))
  · obtain rfl : i = c.rounds.length := by omega
    refine DS.mapO (b := b) V.peek (fun _ _ _ h => V.peek_Rl h) zec (by simp only [zab, e1', e2', ↓reduceIte]; exact rfl) ?_
    simp only [setS, e1', e2', ↓reduceIte]
    clear hB0
    repeat' (first | (with_reducible first | refine DS.fltS yU yU yE ?_ | refine DS.opsNil ?_ | refine DS.seq ?_ | refine DS.regionL ?_ | (refine DS.cE yE ?_; refine CG.no ?_) | refine DS.exit yU ?_) | (refine DS.store yR yE yE yE yE yU (by exact ⟨by with_unfolding_all rfl, by (try simp only [List.length_map, List.length_append, List.length_set, List.length_replicate, List.length_cons, List.length_nil]); omega⟩) ?_; simp only [zbj, zar, zay, zbw, zbi, zbg, zbh]; try simp only [zal, zac, zae, Nat.reduceEqDiff, ↓reduceIte, zah, zai, zan, zag, zaf, zam, zaj]) | fail)
    obtain ⟨g, z1, z2, z3⟩ := g2.ok (S := [(b, .cells (L.map V.peek) 81)]) (b := b) (e := 81) (by simp only [zab, ↓reduceIte]) gl ⟨k2, k3⟩
    simp only [setS, n1, n1', e1', e2', ↓reduceIte, zar, zay, zbs, zby, zct, Nat.reduceAdd, Nat.zero_add]
    refine DS.retC [(b, .cells (L.map V.peek) 81)] yH yH yH yH (zfb ⟨?_, trivial⟩) ⟨g, by rw [z1]; rfl, z2, z3⟩
    simp only [zab, e1', e2', ↓reduceIte]
end Go.XL
namespace Go.XL
set_option maxHeartbeats 4000000
structure RoundOk (size : Nat) (met : Int → Int → Bool) (ids : List Int) (T : List (List Int)) : Prop where
  perm : T.flatten.Perm ids
  heads : T.Pairwise fun a b => a.headD 0 < b.headD 0
  len : ∀ t ∈ T, t.length = size
  asc : ∀ t ∈ T, t.Pairwise (· < ·)
  fair : ∀ t ∈ T, zjq met t = true
inductive Fnd (size : Nat) (rounds : List (List Int)) : (Int → Int → Bool) → Nat → List Int → List (Nat × List Int) → Prop
  | done {met : Int → Int → Bool} {round : Nat} : round + 1 = rounds.length → Fnd size rounds met round [] []
  | next {met : Int → Int → Bool} {round : Nat} {Q : List (Nat × List Int)} : round + 1 ≠ rounds.length → Fnd size rounds met (round + 1) (rounds.getD (round + 1) []) Q → Fnd size rounds met round [] Q
  | table {met : Int → Int → Bool} {round : Nat} {f : Int} {fr t : List Int} {Q : List (Nat × List Int)} : t ∈ zez (zbp met) (size - 1) [f] fr → Fnd size rounds (zhb met t) round ((f :: fr).filter fun id => !decide (id ∈ t)) Q → Fnd size rounds met round (f :: fr) ((round, t) :: Q)
theorem ztb {budget : Int} {round : Nat} {rec : List Int → Int → Int × Int × List (Nat × List Int)} : ∀ (l : List (List Int)) (s : Int), (tryL budget round rec l s).1 = 1 → ∃ t ∈ l, ∃ s', (rec t s').1 = 1 ∧ (tryL budget round rec l s).2.2 = (round, t) :: (rec t s').2.2
  | [], s, h => by simp [tryL] at h
  | t :: r, s, h => by
    rw [tryL] at h ⊢
    by_cases h1 : s = budget
    · rw [if_pos h1] at h; cases h
    rw [if_neg h1] at h ⊢
    by_cases h2 : (rec t (w64 (s + 1))).1 = 2
    · rw [if_pos h2] at h ⊢
      obtain ⟨t', ht, s', h3, h4⟩ := ztb r _ h
      exact ⟨t', List.mem_cons_of_mem _ ht, s', h3, h4⟩
    · rw [if_neg h2] at h ⊢
      exact ⟨t, List.mem_cons_self .., _, h, rfl⟩
theorem zpx {size : Nat} {budget : Int} {rounds : List (List Int)} : ∀ (n : Nat) (met : Int → Int → Bool) (round : Nat) (ids : List Int) (s : Int), (srch size budget rounds n met round ids s).1 = 1 → Fnd size rounds met round ids (srch size budget rounds n met round ids s).2.2
  | 0, met, round, ids, s, h => by simp [srch] at h
  | n + 1, met, round, [], s, h => by
    rw [srch] at h ⊢
    by_cases h1 : round + 1 = rounds.length
    · rw [if_pos h1]; exact .done h1
    · rw [if_neg h1] at h ⊢; exact .next h1 (zpx n _ _ _ _ h)
  | n + 1, met, round, f :: fr, s, h => by
    rw [srch] at h ⊢
    obtain ⟨t, ht, s', h1, h2⟩ := ztb _ _ h
    rw [h2]
    exact .table ht (zpx n _ _ _ _ h1)
theorem sub_filter : ∀ {l t : List Int}, l.Nodup → t.Sublist l → (l.filter fun id => decide (id ∈ t)) = t := by
  intro l t hn hs
  induction hs with
  | slnil => rfl
  | cons a h ih =>
    rename_i t r
    obtain ⟨h1, h2⟩ := List.nodup_cons.1 hn
    rw [List.filter_cons, if_neg (by simp; exact fun h4 => h1 (h.subset h4))]
    exact ih h2
  | cons_cons a h ih =>
    rename_i t r
    obtain ⟨h1, h2⟩ := List.nodup_cons.1 hn
    rw [List.filter_cons, if_pos (by simp)]
    congr 1
    rw [← ih h2]
    exact List.filter_congr fun x hx => by
      have : x ≠ a := fun h5 => h1 (h5 ▸ hx)
      rw [ih h2]
      simp [this]
theorem zlc (met : Int → Int → Bool) : ∀ t : List Int, zjq met t = true ↔ t.Pairwise fun a b => met a b = false
  | [] => by simp [zjq]
  | a :: r => by
    rw [zjq, Bool.and_eq_true, List.pairwise_cons, zlc met r, List.all_eq_true]
    simp
theorem fairT_mono {met met' : Int → Int → Bool} (h : ∀ a b, met' a b = false → met a b = false) {t : List Int} (ht : zjq met' t = true) : zjq met t = true :=
  (zlc _ _).2 (((zlc _ _).1 ht).imp fun h1 => h _ _ h1)
theorem fills_ok {size : Nat} (hs : 1 ≤ size) {met : Int → Int → Bool} {f : Int} {fr t : List Int} (h : t ∈ zez (zbp met) (size - 1) [f] fr) : ∃ ch, t = f :: ch ∧ ch.Sublist fr ∧ t.length = size ∧ zjq met t = true := by
  rw [fills_one] at h
  obtain ⟨ch, h1, rfl⟩ := List.mem_map.1 h
  obtain ⟨h2, h3⟩ := List.mem_filter.1 h1
  obtain ⟨h4, h5⟩ := ziw fr _ ch h2
  exact ⟨ch, rfl, h4, by simp [h5]; omega, h3⟩
theorem fnd_round {size : Nat} {rounds : List (List Int)} (hs : 1 ≤ size) {met : Int → Int → Bool} {round : Nat} {ids : List Int} {Q : List (Nat × List Int)} (h : Fnd size rounds met round ids Q) (ha : ids.Pairwise (· < ·)) :
    ∃ T Q', Q = T.map (fun t => (round, t)) ++ Q' ∧ RoundOk size met ids T ∧ ((round + 1 = rounds.length ∧ Q' = []) ∨ (round + 1 ≠ rounds.length ∧ Fnd size rounds (T.foldl zhb met) (round + 1) (rounds.getD (round + 1) []) Q')) := by
  induction h with
  | done h1 => exact ⟨[], [], rfl, ⟨.refl _, .nil, by simp, by simp, by simp⟩, .inl ⟨h1, rfl⟩⟩
  | next h1 h2 => exact ⟨[], _, rfl, ⟨.refl _, .nil, by simp, by simp, by simp⟩, .inr ⟨h1, h2⟩⟩
  | @table met round f fr t Q h1 h2 ih =>
    obtain ⟨ch, rfl, h3, h4, h5⟩ := fills_ok hs h1
    obtain ⟨h6, h7⟩ := List.pairwise_cons.1 ha
    have hnd : (f :: fr).Nodup := ha.imp fun h => by omega
    obtain ⟨T, Q', rfl, h8, h9⟩ := ih (ha.filter _)
    refine ⟨(f :: ch) :: T, Q', rfl, ⟨?_, ?_, ?_, ?_, ?_⟩, ?_⟩
    · rw [List.flatten_cons]
      refine (h8.perm.append_left _).trans ?_
      have h10 := sub_filter hnd (h3.cons_cons f)
      have h11 := List.filter_append_perm (fun id => decide (id ∈ f :: ch)) (f :: fr)
      rw [h10] at h11
      exact h11
    · refine .cons (fun t ht => ?_) h8.heads
      have h10 := h8.len t ht
      cases t with
      | nil => simp at h10; omega
      | cons x r =>
        have h11 : x ∈ T.flatten := List.mem_flatten.2 ⟨_, ht, List.mem_cons_self ..⟩
        have h12 := h8.perm.mem_iff.1 h11
        obtain ⟨h13, h14⟩ := List.mem_filter.1 h12
        rcases List.mem_cons.1 h13 with rfl | h13
        · simp at h14
        · exact h6 x h13
    · intro t ht
      rcases List.mem_cons.1 ht with rfl | ht
      · exact h4
      · exact h8.len t ht
    · intro t ht
      rcases List.mem_cons.1 ht with rfl | ht
      · exact List.Pairwise.sublist (h3.cons_cons f) ha
      · exact h8.asc t ht
    · intro t ht
      rcases List.mem_cons.1 ht with rfl | ht
      · exact h5
      · refine fairT_mono (fun a b h => ?_) (h8.fair t ht)
        simp only [zhb] at h
        split at h
        · cases h
        · exact h
    · exact h9
def Club.sat (c : Club) (T : List (List Int)) : Club := { c with rounds := c.rounds ++ [⟨T, List.replicate T.length [], []⟩] }
def noClub : Club := ⟨0, 0, 0, 0, [], false, [], []⟩
def zqb (c : Club) (T : List (List Int)) : Club × Int :=
  if zcw c ≠ 0 then (noClub, zcw c) else if c.rounds.length = 20 then (noClub, 8) else if zcw (c.sat T) ≠ 0 then (noClub, zcw (c.sat T)) else (c.sat T, 0)
theorem zpb (a b : Int) (s : Sitting) : ∀ l, zil a b (l ++ [s]) = zil a b l + metT a b s.tables
  | [] => by simp [zil]
  | x :: r => by rw [List.cons_append, zil, zil, zpb a b s r]; omega
theorem metS_sat (c : Club) (T : List (List Int)) (a b : Int) : metS (c.sat T) a b = metS c a b + metT a b T := zpb a b _ _
theorem znr {c d : Club} (h : c.members = d.members) (round : Int) : ∀ (t : List Int) (pre : Option Int), zda c round t pre = zda d round t pre
  | [], _ => rfl
  | id :: l, pre => by rw [zda, zda, zfy, zfy, Club.mem, Club.mem, h, znr h round l]
theorem zgz {c d : Club} (h : c.members = d.members) (hs : c.size = d.size) (round : Int) : ∀ (T : List (List Int)) (seated : List Int) (first : Int), zcy c round T seated first = zcy d round T seated first
  | [], _, _ => rfl
  | t :: l, seated, first => by rw [zcy, zcy, znr h, hs, zgz h hs round l]
theorem zju {c d : Club} (hs : c.size = d.size) (hst : c.start = d.start) : ∀ (l : List (List Int)), zdi c l = zdi d l
  | [] => rfl
  | l :: r => by rw [zdi, zdi, zgx, zgx, hs, hst, zju hs hst r]
theorem zmt {d : Club} {round : Int} : ∀ {T : List (List Int)} {seated : List Int} {first : Int}, (∀ t ∈ T, (t.length : Int) = d.size) → (∀ t ∈ T, zda d round t none = 0) → (seated ++ T.flatten).Nodup → (∀ t ∈ T, first < t.headD 0) → T.Pairwise (fun a b => a.headD 0 < b.headD 0) → zcy d round T seated first = 0
  | [], _, _, _, _, _, _, _ => rfl
  | t :: T, seated, first, h1, h2, h3, h4, h5 => by
    obtain ⟨h6, h7⟩ := List.pairwise_cons.1 h5
    have m := List.mem_cons_self (a := t) (l := T)
    have h8 := h1 t m
    have h9 := h2 t m
    have h10 := h4 t m
    rw [List.flatten_cons, ← List.append_assoc] at h3
    have h11 : ¬ (t.any fun id => decide (id ∈ seated)) = true := by
      intro h
      obtain ⟨x, hx, hx2⟩ := List.any_eq_true.1 h
      have h12 := (List.nodup_append.1 (List.nodup_append.1 h3).1).2.2
      exact h12 x (of_decide_eq_true hx2) x hx rfl
    rw [zcy, if_neg (by omega), if_neg (by omega), if_neg h11, if_neg (by omega)]
    exact zmt (fun t ht => h1 t (List.mem_cons_of_mem _ ht)) (fun t ht => h2 t (List.mem_cons_of_mem _ ht)) h3 (fun t ht => h6 t ht) h7
theorem zgw (c : Club) : ∀ (n i : Nat), zdc c i n = 0 ↔ ∀ k : Nat, i ≤ k → k < i + n → zdv c k = 0 ∧ zgu c k = 0
  | 0, i => ⟨fun _ k h1 h2 => by omega, fun _ => rfl⟩
  | n + 1, i => by
    rw [zdc]
    constructor
    · intro h k h1 h2
      split at h
      · contradiction
      split at h
      · contradiction
      by_cases hk : k = i
      · subst hk; exact ⟨by omega, by omega⟩
      · exact (zgw c n (i + 1)).1 h k (by omega) (by omega)
    · intro h
      have h1 := h i (Nat.le_refl _) (by omega)
      rw [if_neg (by omega), if_neg (by omega)]
      exact (zgw c n (i + 1)).2 fun k h2 h3 => h k (by omega) (by omega)
theorem zrc (c : Club) (T : List (List Int)) {k : Int} (h0 : 0 ≤ k) (h : k < c.rounds.length) : (c.sat T).round k = c.round k := by
  rw [Club.round, Club.round, Club.sat]
  dsimp only
  rw [List.getD_eq_getElem?_getD, List.getD_eq_getElem?_getD, List.getElem?_append_left (by omega)]
theorem played_sat (c : Club) (T : List (List Int)) {k : Int} (h : k < c.rounds.length) (table : Int) : zfm (c.sat T) k table = zfm c k table := by
  by_cases h0 : 0 ≤ k
  · rw [zfm, zfm, zrc c T h0 h, decide_eq_decide]
    have h1 : (c.sat T).rounds.length = c.rounds.length + 1 := by simp [Club.sat]
    rw [h1]
    constructor
    · rintro ⟨-, h2⟩; exact ⟨⟨h0, by omega⟩, h2⟩
    · rintro ⟨-, h2⟩; exact ⟨⟨h0, by omega⟩, h2⟩
  · rw [zfm, zfm, decide_eq_false (by omega), decide_eq_false (by omega)]
theorem zkn (c : Club) (T : List (List Int)) {k : Int} (h : k < c.rounds.length) : ∀ l, zdb (c.sat T) k l = zdb c k l
  | [] => rfl
  | x :: r => by
    rw [zdb, zdb, zkn c T h r]
    have hw : (c.sat T).window = c.window := rfl
    have hr : zgx (c.sat T) x.points = zgx c x.points := rfl
    rw [hw, hr]
    by_cases h1 : ¬ (max 0 (k - c.window) ≤ x.round ∧ x.round ≤ k)
    · rw [if_pos h1, if_pos h1]
    · rw [if_neg h1, if_neg h1, played_sat c T (by have := (Decidable.not_not.1 h1).2; omega)]
theorem zmc (c : Club) : ∀ n, zdi c (List.replicate n []) = 0
  | 0 => rfl
  | n + 1 => by rw [List.replicate_succ, zdi, if_pos yR, zmc c n]
theorem checkS_sat {c : Club} (hc : zcw c = 0) (hz : 1 ≤ c.size) (hm : c.members.Pairwise fun a b => a.id < b.id) (hp : ∀ m ∈ c.members, 0 < m.id) (hl : c.rounds.length < 20) {met : Int → Int → Bool} {ids : List Int} {T : List (List Int)} (h : RoundOk c.size.toNat met ids T) (hn : ids.Nodup)
    (hsub : ∀ x ∈ ids, x ∈ zeg c c.rounds.length) : zcw (c.sat T) = 0 := by
  have hr : zek (c.sat T) = zek c := rfl
  have h1 : (c.sat T).rounds.length = c.rounds.length + 1 := by simp [Club.sat]
  rw [zcw] at hc
  split at hc
  · contradiction
  split at hc
  · contradiction
  split at hc
  · cases hc
  rename_i k1 k2 k3
  have h3 := (zgw c c.rounds.length 0).1 hc
  rw [zcw, hr, if_neg k1, show (c.sat T).members = c.members from rfl, if_neg k2, h1, if_neg (by omega)]
  refine (zgw (c.sat T) _ 0).2 fun k _ hk => ?_
  by_cases hk2 : k < c.rounds.length
  · obtain ⟨h4, h5⟩ := h3 k (Nat.zero_le _) (by omega)
    have e := zrc c T (k := k) (by omega) (by omega)
    constructor
    · rw [zdv, e, zgz (c := c.sat T) (d := c) rfl rfl]; exact h4
    · rw [zgu, zem, zef, e, zkn c T (by omega), zju (c := c.sat T) (d := c) rfl rfl]
      exact h5
  · obtain rfl : k = c.rounds.length := by omega
    have e : (c.sat T).round (c.rounds.length : Int) = ⟨T, List.replicate T.length [], []⟩ := by
      rw [Club.round_at (c.sat T) (by omega)]
      simp [Club.sat]
    have mem : ∀ t ∈ T, ∀ x ∈ t, x ∈ zeg c c.rounds.length := fun t ht x hx => hsub x (h.perm.mem_iff.1 (List.mem_flatten.2 ⟨t, ht, hx⟩))
    constructor
    · rw [zdv, e, zgz (c := c.sat T) (d := c) rfl rfl]
      refine zmt (fun t ht => by have := h.len t ht; omega) (fun t ht => zkx hm _ (mem t ht) (h.asc t ht) fun p hp => by cases hp) ?_ (fun t ht => ?_) h.heads
      · rw [List.nil_append]; exact h.perm.nodup_iff.2 hn
      · have h5 := h.len t ht
        cases t with
        | nil => simp at h5; omega
        | cons x r =>
          obtain ⟨m, hm1, hm2⟩ := List.mem_map.1 (mem _ ht x (List.mem_cons_self ..))
          have := hp m (List.mem_filter.1 hm1).1
          simp only [List.headD_cons]; omega
    · rw [zgu, zem, zef, e]
      dsimp only
      have hp0 : (if (List.replicate T.length ([] : List Int)).length ≠ T.length then (3 : Int) else zdi (c.sat T) (List.replicate T.length [])) = 0 := by rw [if_neg (by simp), zmc]
      rw [hp0]
      rfl
theorem RoundOk.count {size : Nat} {met : Int → Int → Bool} {ids : List Int} {T : List (List Int)} (h : RoundOk size met ids T) : T.length * size = ids.length := by
  rw [← h.perm.length_eq]
  have key : ∀ L : List (List Int), (∀ t ∈ L, t.length = size) → L.length * size = L.flatten.length := by
    intro L
    induction L with
    | nil => intro _; simp
    | cons a r ih =>
      intro hl
      rw [List.flatten_cons, List.length_append, ← ih fun t ht => hl t (List.mem_cons_of_mem _ ht), hl a (List.mem_cons_self ..), List.length_cons, Nat.succ_mul]
      omega
  exact key T h.len
end Go.XL
namespace Go.XL
set_option maxHeartbeats 4000000
theorem zov (n : Int) (out : List Int) : ∀ k : Nat, zih n out k ≤ k ∧ (∀ a : Nat, zih n out k ≤ a → a < k → n < out.getD a 0) ∧ (zih n out k = 0 ∨ out.getD (zih n out k - 1) 0 ≤ n)
  | 0 => ⟨Nat.le_refl _, fun a _ h => by omega, .inl rfl⟩
  | k + 1 => by
    rw [zih]
    split
    · rename_i h
      obtain ⟨h1, h2, h3⟩ := zov n out k
      refine ⟨by omega, fun a ha hk => ?_, h3⟩
      by_cases e : a = k
      · subst e; exact h
      · exact h2 a ha (by omega)
    · rename_i h
      exact ⟨Nat.le_refl _, fun a _ _ => by omega, .inr (by simpa using Int.not_lt.1 h)⟩
theorem insS_perm (out : List Int) (n : Int) : (insS out n).Perm (n :: out) := by
  rw [insS]
  refine List.perm_middle.trans ?_
  rw [List.take_append_drop]
theorem insS_sorted {out : List Int} (h : out.Pairwise (· ≤ ·)) (n : Int) : (insS out n).Pairwise (· ≤ ·) := by
  obtain ⟨h1, h2, h3⟩ := zov n out out.length
  rw [insS]
  generalize zih n out out.length = p at *
  have hp := List.pairwise_iff_getElem.1 h
  rw [List.pairwise_append]
  refine ⟨List.Pairwise.sublist (List.take_sublist ..) h, .cons (fun x hx => ?_) (List.Pairwise.sublist (List.drop_sublist ..) h), fun x hx y hy => ?_⟩
  · obtain ⟨i, hi, rfl⟩ := List.mem_iff_getElem.1 hx
    rw [List.length_drop] at hi
    have := h2 (p + i) (by omega) (by omega)
    rw [List.getD_eq_getElem?_getD, List.getElem?_eq_getElem (by omega), Option.getD_some] at this
    rw [List.getElem_drop]; omega
  · obtain ⟨i, hi, rfl⟩ := List.mem_iff_getElem.1 hx
    rw [List.length_take] at hi
    rw [List.getElem_take]
    have hx2 : out[i]'(by omega) ≤ n := by
      rcases h3 with h3 | h3
      · omega
      · rw [List.getD_eq_getElem?_getD, List.getElem?_eq_getElem (by omega), Option.getD_some] at h3
        by_cases e : i = p - 1
        · subst e; exact h3
        · have := hp i (p - 1) (by omega) (by omega) (by omega)
          omega
    rcases List.mem_cons.1 hy with rfl | hy
    · exact hx2
    · obtain ⟨j, hj, rfl⟩ := List.mem_iff_getElem.1 hy
      rw [List.length_drop] at hj
      rw [List.getElem_drop]
      exact hp i (p + j) (by omega) (by omega) (by omega)
theorem zru : ∀ (l out : List Int), out.Pairwise (· ≤ ·) → (l.foldl insS out).Pairwise (· ≤ ·) ∧ (l.foldl insS out).Perm (l ++ out)
  | [], out, h => ⟨h, .refl _⟩
  | n :: l, out, h => by
    obtain ⟨h1, h2⟩ := zru l (insS out n) (insS_sorted h n)
    refine ⟨h1, h2.trans ?_⟩
    refine ((insS_perm out n).append_left l).trans ?_
    exact List.perm_middle
theorem risingS_eq {l ids : List Int} (h : l.Perm ids) (ha : ids.Pairwise (· < ·)) : zhs l = ids := by
  obtain ⟨h1, h2⟩ := zru l [] .nil
  rw [List.append_nil] at h2
  exact List.Perm.eq_of_pairwise (le := (· ≤ ·)) (fun a b _ _ h1 h2 => by omega) h1 (ha.imp fun h => by omega) (h2.trans h)
theorem znj {a b : Int} : ∀ {T : List (List Int)}, (∀ t ∈ T, ¬ (a ∈ t ∧ b ∈ t)) → metT a b T = 0
  | [], _ => rfl
  | t :: T, h => by
    rw [metT, if_neg (fun h1 => h t (List.mem_cons_self ..) h1.2), znj fun t ht => h t (List.mem_cons_of_mem _ ht)]
theorem ztv {a b : Int} : ∀ {T : List (List Int)}, T.flatten.Nodup → metT a b T ≤ 1
  | [], _ => by simp [metT]
  | t :: T, h => by
    rw [List.flatten_cons] at h
    obtain ⟨h1, h2, h3⟩ := List.nodup_append.1 h
    rw [metT]
    by_cases h4 : a ≠ b ∧ a ∈ t ∧ b ∈ t
    · rw [if_pos h4, znj fun t' ht h5 => h3 a h4.2.1 a (List.mem_flatten.2 ⟨t', ht, h5.1⟩) rfl]
      omega
    · rw [if_neg h4]
      have := ztv (a := a) (b := b) h2
      omega
theorem RoundOk.met {c : Club} {size : Nat} {ids : List Int} {T : List (List Int)} (h : RoundOk size (met0 c) ids T) (hn : ids.Nodup) {a b : Int} (hab : a ≠ b) : metT a b T ≤ 1 ∧ (0 < metS c a b → metT a b T = 0) := by
  refine ⟨ztv (h.perm.nodup_iff.2 hn), fun h1 => znj fun t ht h2 => ?_⟩
  have h3 := List.pairwise_iff_getElem.1 ((zlc _ _).1 (h.fair t ht))
  obtain ⟨i, hi, rfl⟩ := List.getElem_of_mem h2.1
  obtain ⟨j, hj, rfl⟩ := List.getElem_of_mem h2.2
  have h4 : met0 c t[i] t[j] = true := decide_eq_true h1
  rcases Nat.lt_trichotomy i j with h5 | h5 | h5
  · rw [h3 i j hi hj h5] at h4; cases h4
  · subst h5; exact hab rfl
  · rw [znk, h3 j i hj hi h5] at h4; cases h4
theorem nextS_round {c : Club} {ids : List Int} (hz : 1 ≤ c.size) (ha : ids.Pairwise (· < ·)) (h : (zfc c ids).2 = 0) : zcw c = 0 ∧ RoundOk c.size.toNat (met0 c) ids (zfc c ids).1 := by
  by_cases h1 : zcw c = 0
  · refine ⟨h1, ?_⟩
    rw [zfc, if_neg (by omega)] at h ⊢
    split at h
    · cases h
    rename_i h2
    rw [if_neg h2]
    split at h
    · cases h
    rename_i h3
    rw [if_neg h3]
    split at h
    · contradiction
    rename_i h4
    rw [if_neg h4]
    split at h
    · cases h
    rename_i h5
    rw [if_neg h5]
    split at h
    · cases h
    rename_i h6
    rw [if_neg h6]
    have h7 := zpx (size := c.size.toNat) (budget := -1) (rounds := [ids]) (zkc [ids]) (met0 c) 0 ids 0 (by rw [runS] at h6; exact Decidable.not_not.1 h6)
    obtain ⟨T, Q', e, h8, h9⟩ := fnd_round (by omega) h7 ha
    have e2 : (runS c [ids] (-1)).2.2 = T.map (fun t => (0, t)) ++ Q' := e
    rcases h9 with ⟨-, rfl⟩ | ⟨h9, -⟩
    · rw [e2]
      simpa [Function.comp_def] using h8
    · exact absurd rfl h9
  · rw [zfc, if_pos h1] at h
    exact absurd h h1
theorem nextS_err {c : Club} {ids : List Int} (h : (zfc c ids).2 ≠ 0) : (zfc c ids).1 = [] := by
  rw [zfc] at h ⊢
  repeat' split
  all_goals first | rfl | skip
  exfalso
  simp_all
theorem zrb {c : Club} (h : c.Small) (hr : c.rounds.length ≤ 25) {T : List (List Int)} (hT : T.length ≤ 1000000) (ht : ∀ t ∈ T, t.length ≤ 1000000) : (c.sat T).Small where
  places := h.places
  members := h.members
  rounds := by simp [Club.sat]; omega
  round := fun s hs => by
    simp only [Club.sat, List.mem_append, List.mem_singleton] at hs
    rcases hs with hs | rfl
    · exact h.round s hs
    · refine ⟨hT, by simpa using hT, by simp, ht, fun t h1 => ?_, fun x h1 => by cases h1⟩
      obtain ⟨-, rfl⟩ := List.mem_replicate.1 h1
      simp
theorem sat_tab {c : Club} (h : zqo c) {T : List (List Int)} (ht : ∀ t ∈ T, ∀ x ∈ t, In64 x) : zqo (c.sat T) := by
  intro s hs t h1 x hx
  simp only [Club.sat, List.mem_append, List.mem_singleton] at hs
  rcases hs with hs | rfl
  · exact h s hs t h1 x hx
  · exact ht t h1 x hx
theorem asc_playing {c : Club} (hm : c.members.Pairwise fun a b => a.id < b.id) (r : Int) : (zeg c r).Pairwise (· < ·) := by
  rw [zeg, List.pairwise_map]
  exact hm.filter _
structure AheadI (n : Nat) (P : List (List (List Int))) (c : Club) (i : Nat) : Prop where
  chk : zcw c = 0
  size : c.size = 3 ∨ c.size = 4
  asc : c.members.Pairwise fun a b => a.id < b.id
  pos : ∀ m ∈ c.members, 0 < m.id
  len : i ≤ n ∧ c.rounds.length + (n - i) ≤ 20
  small : c.Small
  tab : zqo c
  ids : ∀ m ∈ c.members, In64 m.id
  mem : c.members.length ≤ 1000
  plan : P.length = n
  fnd : i < n → ∃ rounds Q, rounds.length = n ∧ (∀ j, i ≤ j → j < n → rounds.getD j [] = zeg c ((c.rounds.length : Int) + ((j - i : Nat) : Int))) ∧ Fnd c.size.toNat rounds (met0 c) i (zeg c c.rounds.length) Q ∧ ∀ j, i ≤ j → j < n → P.getD j [] = (Q.filter fun q => decide (q.1 = j)).map Prod.snd
end Go.XL
namespace Go.XL
open Go.Proofs
set_option maxRecDepth 100000
set_option maxHeartbeats 8000000
theorem seatP_pc (c : Club) (hs : c.Small) (T : List (List Int)) (hT : T.length ≤ 1000000) (ht : ∀ t ∈ T, t.length ≤ 1000000) : PC Try.prog 29 [c.val, rows T] (tupV [(zqb c T).1.val, I (zqb c T).2]) := by
  have q1 := hs.rounds
  have hck := zlh c hs
  generalize hR : zqb c T = R
  have HR := Box.mk hR
  clear hR
  have e0 : (Value.agg #[.int .i64 0, .int .i64 0, .int .i64 0, .int .i64 0, .slice none 0 0, .bool false, .slice none 0 0, .slice none 0 0]).cells.toList.map V.v = zct := rfl
  refine DC.of_run Try.func29 rfl Try.ntmps29 Try.results29 (by simp) (fun _ => ?_); simp only [zap, zau, go_sem, Nat.zero_add, Nat.reduceAdd]
  repeat' (first | (with_reducible first | refine DS.seq ?_ | refine DS.regionL ?_) | (refine DS.boxF (t := 2) yU yE yU ?_; simp only [zbr, zch, zbq, zcc, zbn, zbf, zbt, zbm, zce, zcg, zbx, zcf, zcb, zca]) | fail)
  refine DS.allocS yR yU yU (fun b4 h4 => ?_)
  rw [e0]
  clear h4
  repeat' (first | (with_reducible first | refine DS.fltS yU yU yE ?_ | refine DS.opsNil ?_ | refine DS.seq ?_ | refine DS.regionL ?_ | (refine DS.cE yE ?_; first | refine CG.np (fun _ => ?_) (fun _ => ?_) | refine CG.p (fun _ => ?_) (fun _ => ?_)) | refine DS.skip ?_) | refine DS.pcS inferInstance (hck) yR yT ?_ | (refine DS.store yR yE yE yE yE yU (by exact ⟨by with_unfolding_all rfl, by (try simp only [List.length_map, List.length_append, List.length_set, List.length_replicate, List.length_cons, List.length_nil]); omega⟩) ?_; simp only [zbj, zar, zay, zbw, zbi, zbg, zbh]; try simp only [zal, zac, zae, Nat.reduceEqDiff, ↓reduceIte, zah, zai, zan, zag, zaf, zam, zaj]) | fail)
  · rename_i e1
    refine DS.retW [] (vs := [noClub.val, I (zcw c)]) (by simp only [setS, ↓reduceIte, zar, zay, zbs, zby, zct, List.map_cons, List.map_nil, zce, Nat.reduceAdd, Nat.zero_add]; (simp (disch := omega) only [go_sem, dopV, Option.map_some, Option.map_none, Option.bind_some, Option.bind_none, ↓reduceIte, Nat.reduceEqDiff, Nat.reduceLT, Nat.reduceLeDiff, Nat.reduceAdd, Nat.reduceMul, Nat.reduceSub, Nat.zero_add, Nat.add_zero, Nat.zero_le, Nat.zero_mul, Nat.mul_one, Nat.one_mul, Int.natCast_zero, Int.toNat_zero, Int.reduceToNat, Int.reduceLT, Int.reduceLE, Int.reduceEq, decide_true, decide_false, true_and, and_true, Bool.and_self, Bool.and_true, Bool.true_and, Bool.not_true, Bool.not_false, IntWalk.toNatUp, IntWalk.iteOmega, IntWalk.i64_in, Option.isSome_some, not_true_eq_false, not_false_eq_true, Option.getD_some, Option.getD_none, Int.toNat_natCast, List.length_map, List.getElem?_map, List.getElem?_eq_getElem, V.flat, V.one, List.all_cons, List.all_nil]; try exact rfl)) (fun d o e => by cases e) (by rw [← HR.out, zqb, if_pos e1]; rfl)
  · rename_i e1 e2
    refine DS.retW [] (vs := [noClub.val, I 8]) (by simp only [setS, ↓reduceIte, zar, zay, zbs, zby, zct, List.map_cons, List.map_nil, zce, Nat.reduceAdd, Nat.zero_add]; (simp (disch := omega) only [go_sem, dopV, Option.map_some, Option.map_none, Option.bind_some, Option.bind_none, ↓reduceIte, Nat.reduceEqDiff, Nat.reduceLT, Nat.reduceLeDiff, Nat.reduceAdd, Nat.reduceMul, Nat.reduceSub, Nat.zero_add, Nat.add_zero, Nat.zero_le, Nat.zero_mul, Nat.mul_one, Nat.one_mul, Int.natCast_zero, Int.toNat_zero, Int.reduceToNat, Int.reduceLT, Int.reduceLE, Int.reduceEq, decide_true, decide_false, true_and, and_true, Bool.and_self, Bool.and_true, Bool.true_and, Bool.not_true, Bool.not_false, IntWalk.toNatUp, IntWalk.iteOmega, IntWalk.i64_in, Option.isSome_some, not_true_eq_false, not_false_eq_true, Option.getD_some, Option.getD_none, Int.toNat_natCast, List.length_map, List.getElem?_map, List.getElem?_eq_getElem, V.flat, V.one, List.all_cons, List.all_nil]; try exact rfl)) (fun d o e => by cases e) (by rw [← HR.out, zqb, if_neg (by omega), if_pos (by omega)]; rfl)
  rename_i e1 e2
  obtain ⟨k1, k2, k3⟩ := zey e1
  have hck2 := zlh (c.sat T) (zrb hs (by omega) hT ht)
  refine DS.call (dst := some 21) [] [(b4, .cells zct 26)] inferInstance (copyP_dc c hs) yR yH (fun _ _ e => by cases e) (fun _ _ e => ⟨e, rfl⟩) ?_
  rintro v Sg ⟨g, rfl, gok, gl⟩ hdis
  have n4 : zaa Sg b4 = none := by
    cases h : zaa Sg b4 with
    | none => rfl
    | some o => have := hdis b4 o h; rw [zab, if_pos rfl] at this; cases this
  obtain ⟨xg, hxg, hone⟩ : ∃ x : Value, g.cell = .v x ∧ x.oneCell' = true := by obtain ⟨l, blk⟩ := g; cases blk <;> exact ⟨_, rfl, rfl⟩
  simp only [gC, hxg]
  simp only [zcn]
  refine DS.reS (S' := (b4, .cells zct 26) :: Sg) (fun d o e => by
    rw [zab] at e
    rw [zbk]
    split at e
    · rename_i h; subst h; rw [n4, zab, if_pos rfl]; exact e
    · rw [e]) ?_
  clear hdis
  skip
  refine DS.allocS yR yU yU (fun b7 h7 => ?_)
  rw [e0]
  rw [zab] at h7
  have n1 : ¬ b4 = b7 := fun e => by rw [if_pos e] at h7; cases h7
  have n1' : ¬ b7 = b4 := fun e => n1 e.symm
  rw [if_neg n1] at h7
  skip
  refine DS.store yR yH yH yH yH (by simp only [V.flat, V.one, List.all_cons, List.all_nil, hone]; rfl) ⟨by rfl, by simp [zct]⟩ ?_
  simp only [zbj, zar, zay, zbh, zal, zae, Nat.reduceEqDiff, ↓reduceIte, zaf, setS, zbs, zby, zct, List.map_cons, List.map_nil, zce, zbm, Nat.reduceAdd, Nat.zero_add]
  repeat' (first | (with_reducible first | refine DS.opsNil ?_ | refine DS.seq ?_) | refine DS.drawL (id := 7) [0, 1, 2, 3, 4, 5, 6, 7, 8] 9 (by kernel_rfl) zcv (by simp only [zax, zbb, zbc, zbd, zaw]; exact rfl) (by simp only [zas, zat, List.drop_nil]; exact rfl) ?_ | with_reducible refine DD.fltS yU yU yU yE ?_ | refine DD.pcS inferInstance (zjy T hT ht) yU yT ?_; simp only [zbo, zbv, Nat.reduceEqDiff, ↓reduceIte] | fail)
  refine DD.mk yU yG yG yG yG yU yU ⟨by omega, by omega, by decide, by omega⟩ (fun u u1 u2 => ?_)
  simp only [Int.toNat_natCast]
  rw [zab] at u2
  have m7 : ¬ b7 = u := fun e => by rw [if_pos e] at u2; cases u2
  rw [if_neg m7, zab] at u2
  have m4 : ¬ b4 = u := fun e => by rw [if_pos e] at u2; cases u2
  rw [if_neg m4] at u2
  have U := Box.mk u2
  have N := Box.mk (And.intro n4 h7)
  clear u1 u2 e0 n4 h7
  refine DD.flt1S yU yU yU yU yG ?_
  simp only [zbo, zbv, Nat.reduceEqDiff, ↓reduceIte]
  refine DD.bslS yU yG yG ?_
  simp only [go_sem, Nat.zero_add, Nat.reduceAdd, zbo, zbv, Nat.reduceEqDiff, ↓reduceIte]
  refine DD.nil ?_
  simp only [zaq, zav]
  have gok' : g.Ok 81 3 ((u, .cells (List.replicate T.length (.v (.slice none 0 0))) 22) :: (b7, .cells (gC c (.v xg)) 26) :: (b4, .cells zct 26) :: Sg) := gok.of fun b cap j hb => by
    have hb2 : ∃ o, zaa Sg b = some o := by obtain ⟨l, blk⟩ := g; cases hb; exact ⟨_, gok.look⟩
    obtain ⟨o, ho⟩ := hb2
    rw [zab, if_neg (fun e => by subst e; rw [U.out] at ho; cases ho), zab, if_neg (fun e => by subst e; rw [N.out.2] at ho; cases ho), zab, if_neg (fun e => by subst e; rw [N.out.1] at ho; cases ho)]
  have gne : ∀ d, zaa Sg d = none → ∀ cap j, g.blk ≠ some (d, cap, j) := fun d hd cap j hb => by
    obtain ⟨l, blk⟩ := g; cases hb; have h := gok.look; rw [hd] at h; cases h
  have hgl : g.l.length = c.rounds.length := by rw [gl, List.length_map]
  refine DS.step rfl rfl yR (OpS.appG (g := g) (ml := [[rows T, .v (.slice (some ⟨u, 0, none⟩) T.length T.length), .v (.slice none 0 0)]]) rfl yH yH yR yR (by decide) (by rw [hxg]; (simp (disch := omega) only [go_sem, dopV, Option.map_some, Option.map_none, Option.bind_some, Option.bind_none, ↓reduceIte, Nat.reduceEqDiff, Nat.reduceLT, Nat.reduceLeDiff, Nat.reduceAdd, Nat.reduceMul, Nat.reduceSub, Nat.zero_add, Nat.add_zero, Nat.zero_le, Nat.zero_mul, Nat.mul_one, Nat.one_mul, Int.natCast_zero, Int.toNat_zero, Int.reduceToNat, Int.reduceLT, Int.reduceLE, Int.reduceEq, decide_true, decide_false, true_and, and_true, Bool.and_self, Bool.and_true, Bool.true_and, Bool.not_true, Bool.not_false, IntWalk.toNatUp, IntWalk.iteOmega, IntWalk.i64_in, Option.isSome_some, not_true_eq_false, not_false_eq_true, Option.getD_some, Option.getD_none, Int.toNat_natCast, List.length_map, List.getElem?_map, List.getElem?_eq_getElem, V.flat, V.one, List.all_cons, List.all_nil]; try exact rfl)) gok' yH yH (by simp) (by simp) ⟨by rw [hgl]; simp only [List.length_singleton]; omega, by decide⟩) (fun u2 E' S4 hu2 => ?_)
  obtain ⟨rfl, b, cap, junk, rfl, m1, m2, m3⟩ := hu2
  have k4 := m1.look
  have k5 := m1.le
  have k6 := m1.cap
  simp only [GR.cell_some, zcn, List.length_append, List.length_map, List.length_singleton, hgl] at k5 ⊢
  have z7 := m3 b7
  have z4 := m3 b4
  have zu := m3 u
  have ne : ∀ d o, zaa Sg d = none → zaa ((u, .cells (List.replicate T.length (.v (.slice none 0 0))) 22) :: (b7, .cells (gC c (.v xg)) 26) :: (b4, .cells zct 26) :: Sg) d = some o → ¬ d = b := fun d o h1 h2 e => by
    subst e
    rcases m2 with ⟨cap, j, h⟩ | h
    · exact gne d h1 _ _ h
    · rw [h2] at h; cases h
  have m7' : ¬ u = b7 := fun h => m7 h.symm
  have m4' : ¬ u = b4 := fun h => m4 h.symm
  have w7 := ne b7 (.cells (gC c (.v xg)) 26) N.out.2 (by simp only [zab, m7', ↓reduceIte])
  have w4 := ne b4 (.cells zct 26) N.out.1 (by simp only [zab, m4', n1', ↓reduceIte])
  have wu := ne u (.cells (List.replicate T.length (.v (.slice none 0 0))) 22) U.out (by simp only [zab, ↓reduceIte])
  have w7' : ¬ b = b7 := fun h => w7 h.symm
  have w4' : ¬ b = b4 := fun h => w4 h.symm
  have wu' : ¬ b = u := fun h => wu h.symm
  replace z7 := z7 w7 (gne b7 N.out.2)
  replace z4 := z4 w4 (gne b4 N.out.1)
  replace zu := zu wu (gne u U.out)
  simp only [zab, m7', m4', n1', ↓reduceIte] at z7 z4 zu
  rw [gl] at k4
  refine DS.reS (S' := [(b7, .cells (gC c (.v xg)) 26), (b4, .cells zct 26), (u, .cells (List.replicate T.length (.v (.slice none 0 0))) 22), (b, .cells ((c.rounds.map Sitting.cells).flatten ++ (rows T :: .v (.slice (some ⟨u, 0, none⟩) T.length T.length) :: .v (.slice none 0 0) :: junk)) 81)]) (zfb ⟨z7, z4, zu, by rw [k4]; simp; exact ⟨rfl, rfl, rfl⟩, trivial⟩) ?_
  clear m1 m2 m3 ne gne gok gok' U N z7 z4 zu hgl gl
  refine DS.fltS yU yU yG ?_
  refine DS.store yR yH yH yH yH yR ⟨by rfl, by simp [gC]⟩ ?_
  simp only [zbj, zar, zay, zbw, zal, zae, Nat.reduceEqDiff, ↓reduceIte, zan, setS, gC, zby, zbs, Nat.reduceAdd, Nat.zero_add]
  have r1 : (List.replicate T.length (V.v (.slice none 0 0))).map V.peek = (List.replicate T.length ([] : List Int)).map fun t => ints t := by simp only [List.map_replicate]; rfl
  have r2 : chunk 1 T.length (((List.replicate T.length ([] : List Int)).map fun t => ints t).map V.copy) = (List.replicate T.length ([] : List Int)).map cR := by
    have h := zjl (List.replicate T.length ([] : List Int)) []
    rw [List.length_replicate, List.append_nil] at h
    exact h
  have r3 : ((c.rounds.map Sitting.cells).flatten ++ (rows T :: .lst ((List.replicate T.length ([] : List Int)).map cR) :: .v (.slice none 0 0) :: junk)).map V.peek = ((c.sat T).rounds.map Sitting.cells).flatten ++ junk.map V.peek := by
    rw [List.map_append, zmv]
    simp only [Club.sat, List.map_append, List.map_cons, List.map_nil, List.flatten_append, List.flatten_cons, List.flatten_nil, List.append_nil, List.append_assoc]
    rfl
  have r4 : (c.sat T).rounds.length = c.rounds.length + 1 := by simp [Club.sat]
  have r5 : chunk 3 (c.rounds.length + 1) ((((c.sat T).rounds.map Sitting.cells).flatten ++ junk.map V.peek).map V.copy) = (c.sat T).rounds.map Sitting.cells := by
    rw [← r4]; exact (zow _ _).chunk
  have r6 : ((c.rounds.map Sitting.cells).flatten).length = c.rounds.length * 3 := zgr Sitting.len _
  refine DS.mapO (b := u) V.peek (fun _ _ _ h => V.peek_Rl h) zec (by simp only [zab, m7, m4, ↓reduceIte]; exact rfl) ?_
  simp only [setS, m7, m4, ↓reduceIte, r1]
  refine DS.freezeC (b := u) (b' := b) (i := c.rounds.length * 3 + 1) (sz := 1) (len := T.length) (cap := T.length) (l := (List.replicate T.length ([] : List Int)).map fun t => ints t) (T := 22) (l' := (c.rounds.map Sitting.cells).flatten ++ (rows T :: .v (.slice (some ⟨u, 0, none⟩) T.length T.length) :: .v (.slice none 0 0) :: junk)) (T' := 81) wu' (by simp only [zab, w7, w4, wu, ↓reduceIte]) (by rw [List.getElem?_append_right (by omega), r6, Nat.add_sub_cancel_left]; rfl) (by simp only [zab, m7, m4, ↓reduceIte]) (by simp) ⟨Nat.le_refl _, by unfold maxLen; omega⟩ ?_
  rw [r2, List.set_append_right _ _ (by omega), r6, Nat.add_sub_cancel_left, List.set_cons_succ, List.set_cons_zero]
  simp only [setS, zbe, zbl, m7, m4, m7', m4', w7, w4, wu, w7', w4', wu', ↓reduceIte]
  refine DS.mapO (b := b) V.peek (fun _ _ _ h => V.peek_Rl h) zec (by simp only [zab, w7, w4, ↓reduceIte]; exact rfl) ?_
  simp only [setS, w7, w4, ↓reduceIte, r3]
  refine DS.freezeC (b := b) (b' := b7) (i := 7) (sz := 3) (len := c.rounds.length + 1) (cap := cap) (l := ((c.sat T).rounds.map Sitting.cells).flatten ++ junk.map V.peek) (T := 81) (l' := gC c (.v (.slice (some ⟨b, 0, none⟩) (c.rounds.length + 1) cap))) (T' := 26) w7 (by simp only [zab, ↓reduceIte]) yR (by simp only [zab, w7, w4, ↓reduceIte]) (by rw [List.length_append, zgr Sitting.len, r4]; omega) ⟨k5, k6⟩ ?_
  rw [r5]
  simp only [setS, zbe, zbl, w7, w4, w7', w4', ↓reduceIte, zby, zbs]
  repeat' (first | (with_reducible first | refine DS.fltS yU yU yE ?_ | refine DS.opsNil ?_ | refine DS.seq ?_ | refine DS.regionL ?_ | (refine DS.cE yE ?_; refine CG.np (fun _ => ?_) (fun _ => ?_)) | refine DS.skip ?_) | refine DS.pcS inferInstance (hck2) yR yT ?_ | (refine DS.store yR yE yE yE yE yU (by exact ⟨by with_unfolding_all rfl, by (try simp only [List.length_map, List.length_append, List.length_set, List.length_replicate, List.length_cons, List.length_nil]); omega⟩) ?_; simp only [zbj, zar, zay, zbw, zbi, zbg, zbh]; try simp only [zal, zac, zae, Nat.reduceEqDiff, ↓reduceIte, zah, zai, zan, zag, zaf, zam, zaj]) | fail)
  · rename_i e3
    refine DS.retW [] (vs := [noClub.val, I (zcw (c.sat T))]) (by simp only [setS, w7', w4', n1, n1', ↓reduceIte, zar, zay, zbs, zby, zct, List.map_cons, List.map_nil, zce, Nat.reduceAdd, Nat.zero_add]; (simp (disch := omega) only [go_sem, dopV, Option.map_some, Option.map_none, Option.bind_some, Option.bind_none, ↓reduceIte, Nat.reduceEqDiff, Nat.reduceLT, Nat.reduceLeDiff, Nat.reduceAdd, Nat.reduceMul, Nat.reduceSub, Nat.zero_add, Nat.add_zero, Nat.zero_le, Nat.zero_mul, Nat.mul_one, Nat.one_mul, Int.natCast_zero, Int.toNat_zero, Int.reduceToNat, Int.reduceLT, Int.reduceLE, Int.reduceEq, decide_true, decide_false, true_and, and_true, Bool.and_self, Bool.and_true, Bool.true_and, Bool.not_true, Bool.not_false, IntWalk.toNatUp, IntWalk.iteOmega, IntWalk.i64_in, Option.isSome_some, not_true_eq_false, not_false_eq_true, Option.getD_some, Option.getD_none, Int.toNat_natCast, List.length_map, List.getElem?_map, List.getElem?_eq_getElem, V.flat, V.one, List.all_cons, List.all_nil]; try exact rfl)) (fun d o e => by cases e) (by rw [← HR.out, zqb, if_neg (by omega), if_neg (by omega), if_pos e3]; rfl)
  · rename_i e3
    refine DS.retW [] (vs := [(c.sat T).val, I 0]) (by simp only [setS, w7', w4', n1, n1', ↓reduceIte, zar, zay, zbs, zby, zct, List.map_cons, List.map_nil, zce, zbm, Nat.reduceAdd, Nat.zero_add]; (simp (disch := omega) only [go_sem, dopV, Option.map_some, Option.map_none, Option.bind_some, Option.bind_none, ↓reduceIte, Nat.reduceEqDiff, Nat.reduceLT, Nat.reduceLeDiff, Nat.reduceAdd, Nat.reduceMul, Nat.reduceSub, Nat.zero_add, Nat.add_zero, Nat.zero_le, Nat.zero_mul, Nat.mul_one, Nat.one_mul, Int.natCast_zero, Int.toNat_zero, Int.reduceToNat, Int.reduceLT, Int.reduceLE, Int.reduceEq, decide_true, decide_false, true_and, and_true, Bool.and_self, Bool.and_true, Bool.true_and, Bool.not_true, Bool.not_false, IntWalk.toNatUp, IntWalk.iteOmega, IntWalk.i64_in, Option.isSome_some, not_true_eq_false, not_false_eq_true, Option.getD_some, Option.getD_none, Int.toNat_natCast, List.length_map, List.getElem?_map, List.getElem?_eq_getElem, V.flat, V.one, List.all_cons, List.all_nil]; try exact rfl)) (fun d o e => by cases e) (by rw [← HR.out, zqb, if_neg (by omega), if_neg (by omega), if_neg (by omega)]; rfl)
end Go.XL
namespace Go.XL
open Go.Proofs
set_option maxRecDepth 100000
set_option maxHeartbeats 8000000
theorem clubFresh_pc (nums : List Int) : PC Try.prog 6 [ints nums] (Bo true) := by
  have hz := zup (newX nums)
  refine DC.of_run Try.func6 rfl Try.ntmps6 Try.results6 (by simp) (fun _ => ?_); simp only [zap, zau, go_sem, Nat.zero_add, Nat.reduceAdd]
  repeat' (first | (with_reducible first | refine DS.fltS yU yU yE ?_ | refine DS.opsNil ?_ | refine DS.seq ?_ | refine DS.regionL ?_) | fail)
  refine DS.call (dst := some 17) [] [] inferInstance (comers_dc nums 12 (by omega)) yR yH (fun _ _ e => by cases e) (fun _ _ e => by cases e) ?_
  rintro v S0 ⟨bs, x, ids, rfl, rfl, hcm⟩ -
  refine DS.reS (S' := []) (fun _ _ e => by cases e) ?_
  generalize (zdw (newX nums) 3).1 = c at hz hcm ⊢
  have hsm := hz.small
  have htb := hz.tab
  have hid := hz.in64
  have hsz := hz.size
  have hrl := hz.rounds
  have hlen := hcm.len
  simp only [zcn]
  have hnx := ztt c hsm htb hid ids (by omega)
  by_cases h0 : (zfc c ids).2 = 0
  · have hck : zcw c = 0 := by
      by_cases h : zcw c = 0
      · exact h
      · rw [zfc, if_pos h] at h0; exact absurd h0 h
    obtain ⟨k1, k2, k3⟩ := zey hck
    have hma := zwp k2
    have hf := zqn k2
    have hsub : ids.Sublist (zeg c c.rounds.length) := by
      have := hcm.sub
      rw [zcd, if_neg (by omega), if_neg (by omega)] at this
      exact this
    have hasc : ids.Pairwise (· < ·) := List.Pairwise.sublist hsub (asc_playing hma _)
    have hnd : ids.Nodup := hasc.imp fun h => by omega
    have hidm : ∀ x ∈ ids, In64 x := fun x hx => by
      obtain ⟨m, hm1, rfl⟩ := List.mem_map.1 (hsub.subset hx)
      exact hid m (List.mem_filter.1 hm1).1
    have hro := (nextS_round (by omega) hasc h0).2
    have hl0 : zfc c ids = ((zfc c ids).1, 0) := by rw [← h0]
    rw [hl0] at hnx
    generalize (zfc c ids).1 = l at *
    have hcs := checkS_sat hck (by omega) hma hf.pos (by omega) hro hnd (fun x hx => hsub.subset hx)
    have hcnt := hro.count
    have hll : l.length ≤ 12 := by
      have := Nat.le_mul_of_pos_right l.length (show 0 < c.size.toNat by omega)
      omega
    have hlt : ∀ t ∈ l, t.length ≤ 1000000 := fun t ht => by have := hro.len t ht; omega
    have hse := seatP_pc c hsm l (by omega) hlt
    have hse2 : zqb c l = (c.sat l, 0) := by rw [zqb, if_neg (by omega), if_neg (by omega), if_neg (by omega)]
    rw [hse2] at hse
    have hri := risingS_eq hro.perm hasc
    have hfl : l.flatten.length = ids.length := hro.perm.length_eq
    have hrp := zrd l.flatten (by omega)
    rw [hri] at hrp
    have hin : ∀ t ∈ l, ∀ x ∈ t, In64 x := fun t ht x hx => hidm x (hro.perm.mem_iff.1 (List.mem_flatten.2 ⟨t, ht, hx⟩))
    have m1 := fun a b ha hb => zsq c hsm htb a b ha hb
    have m2 := fun a b ha hb => zsq (c.sat l) (zrb hsm (by omega) (by omega) hlt) (sat_tab htb hin) a b ha hb
    have e1 : ∀ a b, metX c a b = (metS c a b : Int) := fun a b => by rw [metX, if_neg (by omega)]
    have e2 : ∀ a b, metX (c.sat l) a b = (metS c a b : Int) + (metT a b l : Int) := fun a b => by rw [metX, if_neg (by omega), metS_sat]; omega
    simp only [e1] at m1
    simp only [e2] at m2
    have hmm : ∀ a b, a ≠ b → metT a b l ≤ 1 ∧ (0 < metS c a b → metT a b l = 0) := fun a b h => hro.met hnd h
    have hr1 : (c.sat l).rounds.length = c.rounds.length + 1 := by simp [Club.sat]
    have HX := Box.mk (And.intro hmm (And.intro m1 (And.intro m2 (And.intro hidm hnd))))
    clear hmm m1 m2 hidm hnd e1 e2 hin hse2 hri hcs hma hf hsub hasc hro hcnt hlt k1 k2 k3 hid htb hsm hz hcm
    repeat' (first | with_reducible refine DS.fltS yU yU yE ?_ | fail)
    refine DS.allocS yR yU yU (fun b4 h4 => ?_)
    clear h4
    repeat' (first | (with_reducible first | (refine DS.nilOwn (t := 10) yU (by first | exact .inl rfl | exact .inr rfl) yE ?_) | refine DS.fltS yU yU yE ?_ | refine DS.opsNil ?_ | refine DS.seq ?_ | refine DS.regionL ?_ | (refine DS.cE yE ?_; first | refine CG.np (fun _ => ?_) (fun _ => ?_) | refine CG.no ?_) | (refine DS.gE yU yE ?_; refine GG.run ?_) | refine DS.block ?_ | refine DS.skip ?_) | (refine DS.letF (t := 8) yU yE yU (fun _ => by (simp (disch := omega) only [go_sem, dopV, Option.map_some, Option.map_none, Option.bind_some, Option.bind_none, ↓reduceIte, Nat.reduceEqDiff, Nat.reduceLT, Nat.reduceLeDiff, Nat.reduceAdd, Nat.reduceMul, Nat.reduceSub, Nat.zero_add, Nat.add_zero, Nat.zero_le, Nat.zero_mul, Nat.mul_one, Nat.one_mul, Int.natCast_zero, Int.toNat_zero, Int.reduceToNat, Int.reduceLT, Int.reduceLE, Int.reduceEq, decide_true, decide_false, true_and, and_true, Bool.and_self, Bool.and_true, Bool.true_and, Bool.not_true, Bool.not_false, IntWalk.toNatUp, IntWalk.iteOmega, IntWalk.i64_in, Option.isSome_some, not_true_eq_false, not_false_eq_true, Option.getD_some, Option.getD_none, Int.toNat_natCast, List.length_map, List.getElem?_map, List.getElem?_eq_getElem, V.flat, V.one, List.all_cons, List.all_nil, *]; exact rfl)) yE yU (by exact ⟨by with_unfolding_all rfl, by with_unfolding_all decide⟩) (fun _ => by simp only [go_sem, Nat.reduceEqDiff, ↓reduceIte]) ?_; simp only [go_sem]) | refine DS.pcS inferInstance (hnx) yR yT ?_ | refine DS.pcS inferInstance (hse) yR yT ?_ | (refine DS.store yR yE yE yE yE yU (by exact ⟨by with_unfolding_all rfl, by (try simp only [List.length_map, List.length_append, List.length_set, List.length_replicate, List.length_cons, List.length_nil]); omega⟩) ?_; simp only [zbj, zar, zay, zbw, zbi, zbg, zbh]; try simp only [zal, zac, zae, Nat.reduceEqDiff, ↓reduceIte, zah, zai, zan, zag, zaf, zam, zaj]) | fail)
    · exfalso; omega
    clear hnx hse
    refine DS.loopK [4, 5, 6, 8] (by (simp only [go_sem, Nat.reduceEqDiff, ↓reduceIte]; exact rfl)) (fun (i : Nat) => [(10, .own false 3 1 ((l.take i).flatten.map cI)), (11, I i)]) (fun (i : Nat) => i ≤ l.length) (fun (i : Nat) => l.length - i) 0 yS (Nat.zero_le _) (fun i B hI hB => ?_); try dsimp only at hI hB; simp only [zaq, zav]
    by_cases hi : (i : Int) < (l.length : Int)
    · have hi' : i < l.length := by omega
      have h1 : (l.take (i + 1)).flatten = (l.take i).flatten ++ l[i] := by rw [List.take_succ_eq_append_getElem hi', List.flatten_append, List.flatten_singleton]
      have h2 : ((l.take i).flatten ++ l[i]).length ≤ 12 := by
        have h3 : l.flatten.length = (l.take (i + 1)).flatten.length + (l.drop (i + 1)).flatten.length := by rw [← List.length_append, ← List.flatten_append, List.take_append_drop]
        rw [← h1]; omega
      rw [List.length_append] at h2
      have HI := Box.mk h1
      clear h1
      repeat' (first | (with_reducible refine DS.mv (t := 10) yU (by first | exact .inl rfl | exact .inr rfl) yE ?_; simp only [zal, zac, zae, Nat.reduceEqDiff, ↓reduceIte, zah, zai, zan, zag, zaf, zam, zaj]) | (with_reducible refine DS.mv (t := 59) yU (by first | exact .inl rfl | exact .inr rfl) yE ?_; simp only [zal, zac, zae, Nat.reduceEqDiff, ↓reduceIte, zah, zai, zan, zag, zaf, zam, zaj]) | (with_reducible first | refine DS.fltS yU yU yE ?_ | refine DS.opsNil ?_ | refine DS.seq ?_ | refine DS.regionL ?_ | (refine DS.cE yE ?_; refine CG.yes ?_) | refine DS.blk ?_ | refine DS.block ?_ | refine DS.skip ?_) | (refine DS.append (mm := false) yU yE yE yU (by decide) yE (by first | exact .inl rfl | exact .inr ⟨rfl, rfl⟩) yE yX0 (by first | exact zao zcs _ | exact zao zdm _ | exact zao Member.len _ | exact zao Sitting.len _ | exact zao Ruling.len _ | (simp only [List.mem_cons, List.not_mem_nil, or_false, forall_eq]; rfl) | simp) ⟨by (try simp only [List.length_map, List.length_cons, List.length_nil, List.length_append, List.length_take, List.length_drop]); omega, by decide⟩ ?_; simp only [zal, zac, zae, Nat.reduceEqDiff, ↓reduceIte, zah, zai, zan, zag, zaf, zam, zaj]) | fail)
      refine DS.back (hB (i + 1) _ _ (by omega) (by omega) (by rw [HI.out]; exact yS) yS (fun d o e => by exact e))
    · obtain rfl : i = l.length := by omega
      rw [List.take_length]
      clear hB
      repeat' (first | (with_reducible first | refine DS.fltS yU yU yE ?_ | refine DS.opsNil ?_ | refine DS.seq ?_ | refine DS.regionL ?_ | (refine DS.cE yE ?_; refine CG.no ?_) | refine DS.block ?_ | refine DS.exit yU ?_ | refine DS.skip ?_) | refine DS.pcS inferInstance (hrp) yR yT ?_ | refine DS.pcS inferInstance (znp ids ids) yR yT ?_ | fail)
      refine DS.loopK [4, 5, 8] (by (simp only [go_sem, Nat.reduceEqDiff, ↓reduceIte]; exact rfl)) (fun (i : Nat) => [(12, I i)]) (fun (i : Nat) => i ≤ ids.length) (fun (i : Nat) => ids.length - i) 0 yS (Nat.zero_le _) (fun i B hI hB => ?_); try dsimp only at hI hB; simp only [zaq, zav]
      have hB0 := hB
      clear hB
      by_cases hi : (i : Int) < (ids.length : Int)
      · have hi' : i < ids.length := by omega
        repeat' (first | (with_reducible first | refine DS.fltS yU yU yE ?_ | refine DS.opsNil ?_ | refine DS.seq ?_ | refine DS.regionL ?_ | (refine DS.cE yE ?_; refine CG.yes ?_) | refine DS.block ?_ | refine DS.skip ?_) | fail)
        refine DS.loopK [4, 5, 8, 12] (by (simp only [go_sem, Nat.reduceEqDiff, ↓reduceIte]; exact rfl)) (fun (k : Nat) => [(13, I k)]) (fun (k : Nat) => k ≤ ids.length) (fun (k : Nat) => ids.length - k) 0 yS (Nat.zero_le _) (fun k B hI hB => ?_); try dsimp only at hI hB; simp only [zaq, zav]
        by_cases hk : (k : Int) < (ids.length : Int)
        · have hk' : k < ids.length := by omega
          have m1 := HX.out.2.1 (ids[i]'(by omega)) (ids[k]'(by omega)) (HX.out.2.2.2.1 _ (List.getElem_mem _)) (HX.out.2.2.2.1 _ (List.getElem_mem _))
          have m2 := HX.out.2.2.1 (ids[i]'(by omega)) (ids[k]'(by omega)) (HX.out.2.2.2.1 _ (List.getElem_mem _)) (HX.out.2.2.2.1 _ (List.getElem_mem _))
          have hmm := HX.out.1 (ids[i]'(by omega)) (ids[k]'(by omega))
          have hne : i ≠ k → ids[i]'(by omega) ≠ ids[k]'(by omega) := fun h e => by
            rcases Nat.lt_or_gt_of_ne h with h | h
            · exact List.pairwise_iff_getElem.1 HX.out.2.2.2.2 i k hi' hk' h e
            · exact List.pairwise_iff_getElem.1 HX.out.2.2.2.2 k i hk' hi' h e.symm
          generalize metS c (ids[i]'(by omega)) (ids[k]'(by omega)) = p at *
          generalize metT (ids[i]'(by omega)) (ids[k]'(by omega)) l = q at *
          by_cases hik : i = k
          · have hik2 : (i : Int) = (k : Int) := by omega
            repeat' (first | (with_reducible first | refine DS.fltS yU yU yE ?_ | refine DS.opsNil ?_ | refine DS.seq ?_ | refine DS.regionL ?_ | (refine DS.cE yE ?_; first | refine CG.yes ?_ | refine CG.no ?_) | (refine DS.gE yU yE ?_; first | refine GG.sU ?_ | refine GG.sF ?_) | refine DS.blk ?_ | refine DS.block ?_ | refine DS.skip ?_) | refine DS.pcS inferInstance (m1) yR yT ?_ | refine DS.drawL (id := 21) [0, 1, 2, 3, 4, 5, 6, 7, 8] 9 (by kernel_rfl) zcv (by simp only [zax, zbb, zbc, zbd, zaw]; exact rfl) (by simp only [zas, zat, List.drop_nil]; exact rfl) ?_ | refine DS.drawL (id := 22) [0, 1, 2, 3, 4, 5, 6, 7, 8, 9, 10, 11, 12, 13, 14, 15, 16, 17, 18, 19, 20, 21, 22, 23, 24, 25, 26, 27, 28, 29, 30, 31] 32 (by kernel_rfl) zcv (by simp only [zax, zbb, zbc, zbd, zaw]; exact rfl) (by simp only [zas, zat, List.drop_nil]; exact rfl) ?_ | (with_reducible first | refine DD.fltS yU yU yU yE ?_ | (refine DD.gE yU yE ?_; first | refine DGG.sU ?_ | refine DGG.sF ?_) | refine DD.nil0 ?_) | fail)
            refine DS.back (hB (k + 1) _ _ (by omega) (by omega) yS yS (fun d o e => by exact e))
          · have hik2 : ¬ (i : Int) = (k : Int) := by omega
            obtain ⟨f1, f2⟩ := hmm (hne hik)
            clear hne hmm
            by_cases hp : 0 < p
            · obtain rfl := f2 hp
              simp only [Int.natCast_zero, Int.add_zero] at m2
              obtain ⟨P, hP⟩ : ∃ P : Int, P = p := ⟨_, rfl⟩
              rw [← hP] at m1 m2
              have hP2 : 0 < P := by omega
              by_cases hP3 : 1 < P
              · have hP4 : ¬ P > P := by omega
                repeat' (first | (with_reducible first | refine DS.fltS yU yU yE ?_ | refine DS.opsNil ?_ | refine DS.seq ?_ | refine DS.regionL ?_ | (refine DS.cE yE ?_; first | refine CG.yes ?_ | refine CG.no ?_) | (refine DS.gE yU yE ?_; first | refine GG.sU ?_ | refine GG.run ?_ | refine GG.sF ?_ | refine GG.sT ?_) | refine DS.blk ?_ | refine DS.block ?_ | refine DS.skip ?_) | refine DS.pcS inferInstance (m1) yR yF ?_ | refine DS.drawL (id := 21) [0, 1, 2, 3, 4, 5, 6, 7, 8] 9 (by kernel_rfl) zcv (by simp only [zax, zbb, zbc, zbd, zaw]; exact rfl) (by simp only [zas, zat, List.drop_nil]; exact rfl) ?_ | refine DS.drawL (id := 22) [0, 1, 2, 3, 4, 5, 6, 7, 8, 9, 10, 11, 12, 13, 14, 15, 16, 17, 18, 19, 20, 21, 22, 23, 24, 25, 26, 27, 28, 29, 30, 31] 32 (by kernel_rfl) zcv (by simp only [zax, zbb, zbc, zbd, zaw]; exact rfl) (by simp only [zas, zat, List.drop_nil]; exact rfl) ?_ | (with_reducible first | refine DD.fltS yU yU yU yE ?_ | (refine DD.gE yU yE ?_; first | refine DGG.sU ?_ | refine DGG.pT (fun _ => ?_) (fun _ => ?_) | refine DGG.pF (fun _ => ?_) (fun _ => ?_) | refine DGG.run ?_ | refine DGG.sF ?_ | refine DGG.sT ?_) | refine DD.nil0 ?_) | refine DD.pcV0 inferInstance (m2) yU yF ?_ | fail)
                all_goals first | (exfalso; omega) | skip
                refine DS.back (hB (k + 1) _ _ (by omega) (by omega) yS yS (fun d o e => by exact e))
              · obtain rfl : P = 1 := by omega
                repeat' (first | (with_reducible first | refine DS.fltS yU yU yE ?_ | refine DS.opsNil ?_ | refine DS.seq ?_ | refine DS.regionL ?_ | (refine DS.cE yE ?_; first | refine CG.yes ?_ | refine CG.no ?_) | (refine DS.gE yU yE ?_; first | refine GG.sU ?_ | refine GG.run ?_ | refine GG.sF ?_ | refine GG.sT ?_) | refine DS.blk ?_ | refine DS.block ?_ | refine DS.skip ?_) | refine DS.pcS inferInstance (m1) yR yF ?_ | refine DS.drawL (id := 21) [0, 1, 2, 3, 4, 5, 6, 7, 8] 9 (by kernel_rfl) zcv (by simp only [zax, zbb, zbc, zbd, zaw]; exact rfl) (by simp only [zas, zat, List.drop_nil]; exact rfl) ?_ | refine DS.drawL (id := 22) [0, 1, 2, 3, 4, 5, 6, 7, 8, 9, 10, 11, 12, 13, 14, 15, 16, 17, 18, 19, 20, 21, 22, 23, 24, 25, 26, 27, 28, 29, 30, 31] 32 (by kernel_rfl) zcv (by simp only [zax, zbb, zbc, zbd, zaw]; exact rfl) (by simp only [zas, zat, List.drop_nil]; exact rfl) ?_ | (with_reducible first | refine DD.fltS yU yU yU yE ?_ | (refine DD.gE yU yE ?_; first | refine DGG.sU ?_ | refine DGG.pT (fun _ => ?_) (fun _ => ?_) | refine DGG.pF (fun _ => ?_) (fun _ => ?_) | refine DGG.run ?_ | refine DGG.sF ?_ | refine DGG.sT ?_) | refine DD.nil0 ?_) | refine DD.pcV0 inferInstance (m2) yU yF ?_ | fail)
                all_goals first | (exfalso; omega) | skip
                refine DS.back (hB (k + 1) _ _ (by omega) (by omega) yS yS (fun d o e => by exact e))
            · obtain rfl : p = 0 := by omega
              simp only [Int.natCast_zero, Int.zero_add] at m1 m2
              have hq : ¬ (q : Int) > 1 := by omega
              repeat' (first | (with_reducible first | refine DS.fltS yU yU yE ?_ | refine DS.opsNil ?_ | refine DS.seq ?_ | refine DS.regionL ?_ | (refine DS.cE yE ?_; first | refine CG.yes ?_ | refine CG.no ?_) | (refine DS.gE yU yE ?_; first | refine GG.run ?_ | refine GG.sF ?_) | refine DS.blk ?_ | refine DS.block ?_ | refine DS.skip ?_) | refine DS.pcS inferInstance (m1) yR yF ?_ | refine DS.drawL (id := 21) [0, 1, 2, 3, 4, 5, 6, 7, 8] 9 (by kernel_rfl) zcv (by simp only [zax, zbb, zbc, zbd, zaw]; exact rfl) (by simp only [zas, zat, List.drop_nil]; exact rfl) ?_ | refine DS.drawL (id := 22) [0, 1, 2, 3, 4, 5, 6, 7, 8, 9, 10, 11, 12, 13, 14, 15, 16, 17, 18, 19, 20, 21, 22, 23, 24, 25, 26, 27, 28, 29, 30, 31] 32 (by kernel_rfl) zcv (by simp only [zax, zbb, zbc, zbd, zaw]; exact rfl) (by simp only [zas, zat, List.drop_nil]; exact rfl) ?_ | (with_reducible first | refine DD.fltS yU yU yU yE ?_ | (refine DD.gE yU yE ?_; first | refine DGG.run ?_ | refine DGG.sF ?_) | refine DD.nil0 ?_) | refine DD.pcV0 inferInstance (m2) yU yF ?_ | fail)
              all_goals first | (exfalso; omega) | skip
              refine DS.back (hB (k + 1) _ _ (by omega) (by omega) yS yS (fun d o e => by exact e))
        · repeat' (first | (with_reducible first | refine DS.fltS yU yU yE ?_ | refine DS.opsNil ?_ | refine DS.seq ?_ | refine DS.regionL ?_ | (refine DS.cE yE ?_; refine CG.no ?_) | refine DS.blk ?_ | refine DS.exit yU ?_) | fail)
          refine DS.back (hB0 (i + 1) _ _ (by omega) (by omega) yS yS (fun d o e => by exact e))
      · repeat' (first | (with_reducible first | refine DS.fltS yU yU yE ?_ | refine DS.opsNil ?_ | refine DS.seq ?_ | refine DS.regionL ?_ | (refine DS.cE yE ?_; refine CG.no ?_) | refine DS.exit yU ?_) | refine DS.pcS inferInstance (zuq) yR yT ?_ | refine DS.retT [] yE trivial ?_ | fail)
        rfl
  · have h1 := nextS_err h0
    generalize zfc c ids = N at *
    obtain ⟨l, e⟩ := N
    dsimp only at h0 h1 hnx
    subst h1
    repeat' (first | with_reducible refine DS.fltS yU yU yE ?_ | fail)
    refine DS.allocS yR yU yU (fun b4 h4 => ?_)
    clear h4
    repeat' (first | (with_reducible first | refine DS.fltS yU yU yE ?_ | refine DS.opsNil ?_ | refine DS.seq ?_ | refine DS.regionL ?_ | (refine DS.cE yE ?_; refine CG.yes ?_) | (refine DS.gE yU yE ?_; refine GG.run ?_)) | refine DS.pcS inferInstance (hnx) yR yT ?_ | refine DS.pcS inferInstance (zuq) yR yT ?_ | (refine DS.store yR yE yE yE yE yU (by exact ⟨by with_unfolding_all rfl, by (try simp only [List.length_map, List.length_append, List.length_set, List.length_replicate, List.length_cons, List.length_nil]); omega⟩) ?_; simp only [zbj, zar, zay, zbw, zbi, zbg, zbh]; try simp only [zal, zac, zae, Nat.reduceEqDiff, ↓reduceIte, zah, zai, zan, zag, zaf, zam, zaj]) | refine DS.retT [] yE trivial ?_ | fail)
    rfl
end Go.XL
namespace Go.XL
open Go.Proofs Go.ChangeShapes Go.WideShapes Go.ChangeAt Go.RowKit
def hvW (W : World) : VH := fun b => W.heap[b]?
def baseW (W : World) : Bs := ⟨fun b => b < W.heap.size, W.heap, hvW W⟩
theorem stW (W : World) : St (baseW W) (hvW W) (fun _ => none) [] [] [] W.heap where
  pre := fun b o e => ⟨o, e, leO.refl o⟩
  slot := fun t v e => by cases e
  obj := fun b o e => by cases e
  held := fun g x e => by cases e
  base := ⟨fun b h => h, Nat.le_refl _, fun b _ => rfl⟩
  vbase := ⟨PreV.refl _, fun _ _ => rfl⟩
structure KeptW (W W' : World) : Prop where
  os : W'.os = W.os
  output : W'.output = W.output
  size : W.heap.size ≤ W'.heap.size
  old : ∀ b, b < W.heap.size → W'.heap[b]? = W.heap[b]?
theorem PC.door {P : Program} {f : FuncId} {vs : List V} {xs : List Value} (h : PC P f vs (.v (.bool true))) (W : World) (hx : RlL (hvW W) vs xs) :
    Calls P f xs.toArray W fun e w' => e = .returned (.bool true) ∧ KeptW W w' := by
  refine (h (hvW W) (baseW W) (hvW W) (fun _ => none) W.heap xs (PreV.refl _) hx (stW W) W rfl).mono fun e w' => ?_
  rintro ⟨y, rfl, ⟨s1, s2, s3⟩, v, S', hv', hold', -, st, rfl⟩
  obtain ⟨z, h1, h2, -⟩ := st.slot 0 (.v (.bool true)) rfl
  simp only [V.Rl] at h2
  subst h2
  have h3 : look [(0, y)] 0 = some y := by simp [look]
  rw [h3] at h1
  cases h1
  exact ⟨rfl, s1, s3, st.base.2.1, st.base.2.2⟩
theorem KeptW.keptBut {W W' : World} (k : KeptW W W') (may : MemPlace → Prop) : W.keptBut W' may := by
  refine ⟨k.os, k.output, fun i hi => ?_⟩
  rw [k.old i hi]
  generalize W.heap[i]? = o
  cases o with
  | none => trivial
  | some o => cases o <;> simp
theorem KeptW.cell {W W' : World} (k : KeptW W W') {a : Addr} (h : a.block < W.heap.size) : W'.cell? a = W.cell? a := by
  unfold World.cell?
  rw [k.old _ h]
theorem KeptW.sameAt {W W' : World} (k : KeptW W W') {p : MemPlace} (h : p.block < W.heap.size) : W.sameAt W' p := by
  cases p with
  | cell b off => exact k.cell h
  | map b => exact k.old _ h
section
variable {H : Type} {enc : TypeId × Value → H} {P : Program}
theorem zkh (hl : laidOutB P = true) {W W' : World} {sp : Nat → Bool} : ∀ {ts : List TypeId} {vs : List Value} {ds : List (DataW H)} {ps : List MemPlace}, (∀ t ∈ ts, P.readableRec t = true ∧ t < P.types.size) →
    DataW.TrodAll enc P W 0 (fun _ => true) true ts vs ds ps → (∀ p ∈ ps, W.sameAt W' p) → (∀ p ∈ ps, sp p.block = true) → DataW.TrodAll enc P W' 0 sp true ts vs ds ps
  | [], vs, ds, ps, _, h, _, _ => by
    obtain ⟨rfl, rfl, rfl⟩ := trodAll_nil h
    rfl
  | t :: ts, vs, ds, ps, ht, h, h1, h2 => by
    obtain ⟨v, vs', d, ds', p, q, rfl, rfl, rfl, h3, h4⟩ := trodAll_cons h
    obtain ⟨r1, r2⟩ := ht t (List.mem_cons_self ..)
    exact ⟨p, q, WideElems.Trod_stays hl r1 r2 h3 (fun x hx => h1 x (List.mem_append_left _ hx)) (fun x hx => h2 x (List.mem_append_left _ hx)),
      zkh hl (fun t h => ht t (List.mem_cons_of_mem _ h)) h4 (fun x hx => h1 x (List.mem_append_right _ hx)) (fun x hx => h2 x (List.mem_append_right _ hx)), rfl⟩
theorem post_law {f : Func} {s : ChangeSpec} {apart fresh handsOn : Bool} {W W' : World} {args : Array Value} {ds gs : List (DataW H)} {before : List MemPlace} {tb : TypeId}
    (hW : DataW.Whole enc P f.params.toList s.vars apart W args.toList ds gs before) (hv : s.vars = []) (hs : s.fn H ds = { results := [.lit (.bool true)], args := ds })
    (hrt : f.resultTypes = #[tb]) (hb : P.underlying tb = some .bool) (hl : laidOutB P = true) (hr : ∀ t ∈ f.params.toList, P.readableRec t = true ∧ t < P.types.size) (k : KeptW W W') :
    s.post enc P f apart fresh handsOn false W args (.bool true) W' := by
  have hlt := fun p hp => hW.lt (p := p) hp
  have hW' := hW
  obtain ⟨p, q, hA, hV, rfl, -, -⟩ := hW
  rw [hv] at hV
  obtain ⟨rfl, rfl⟩ := trodVars_none hV
  refine ⟨ds, [], p ++ [], [], p, [], hW', ?_, ?_, ?_, k.keptBut _, fun h => by cases h⟩
  · rw [List.append_nil, hs, hrt]
    exact trodAll_mk1 (shut_bool hb _)
  · rw [List.append_nil, hs]
    exact zkh hl hr hA (fun x hx => k.sameAt (hlt x (by simpa using hx))) (fun x hx => by simpa using hlt x (by simpa using hx))
  · rw [List.append_nil, hs, hv]
    rfl
def zwy (P : Program) (W : World) (H : Type) (enc : TypeId × Value → H) (t : TypeId) {α : Type} (f : α → List V) (G : α → Prop) : Prop :=
  ∀ fuel cs x, DataW.trod enc P W 0 (fun _ => true) true fuel t cs = some x → ∃ a, RlL (hvW W) (f a) cs ∧ (∀ u ∈ cs, u.oneCell' = true) ∧ G a
variable {W : World} {t e : TypeId}
theorem opens_int {k : IntKind} (ht : P.underlying t = some (.int k)) : zwy P W H enc t (fun n : Int => [.v (.int k n)]) (fun n => (Lit.int k n).wf = true) := by
  intro fuel cs x h
  obtain ⟨n, rfl, -, hw⟩ := DataW.trod_int ht h
  exact ⟨n, by simp [RlL, V.Rl], by simp [Value.oneCell'], hw⟩
theorem RlL.len {hv : VH} : ∀ {vs : List V} {cs : List Value}, RlL hv vs cs → vs.length = cs.length
  | [], _, h => by simp only [RlL] at h; subst h; rfl
  | v :: vs, cs, h => by
    simp only [RlL] at h
    obtain ⟨z, zs, rfl, -, h⟩ := h
    simp [RlL.len h]
theorem RlL.one {hv : VH} {v : V} {y : Value} (h : v.Rl hv y) : RlL hv [v] [y] := by
  simp only [RlL]; exact ⟨y, [], rfl, h, rfl⟩
theorem zwo {a : Addr} {m : Nat} : ∀ {vs : List V} {cs : List Value} {i : Nat}, RlL (hvW W) vs cs → (∀ u ∈ cs, u.oneCell' = true) → (∀ j, j < cs.length → W.cell? (a.add (i + j)) = cs[j]?) → RlC (hvW W) (some a) i vs
  | [], _, _, _, _, _ => by simp only [RlC]
  | v :: vs, cs, i, h, h1, h2 => by
    simp only [RlL] at h
    obtain ⟨z, zs, rfl, h3, h4⟩ := h
    simp only [RlC]
    refine ⟨⟨z, ?_, h3, h1 z (List.mem_cons_self ..)⟩, zwo (m := m) h4 (fun u hu => h1 u (List.mem_cons_of_mem _ hu)) fun j hj => ?_⟩
    · have := h2 0 (by simp)
      rw [Nat.add_zero] at this
      exact this
    · have := h2 (j + 1) (by simpa using hj)
      rw [show i + 1 + j = i + (j + 1) by omega, this]
      rfl
theorem zwn {a : Addr} {sz : Nat} : ∀ {l : List (List V)} {i : Nat}, (∀ (j : Nat) (h : j < l.length), l[j].length = sz ∧ RlC (hvW W) (some a) (i + j * sz) l[j]) → RlE (hvW W) (some a) i l
  | [], _, _ => by simp only [RlE]
  | c :: l, i, h => by
    simp only [RlE]
    have h0 := h 0 (by simp)
    simp only [Nat.zero_mul, Nat.add_zero, List.getElem_cons_zero] at h0
    refine ⟨h0.2, zwn (sz := sz) fun j hj => ?_⟩
    have h1 := h (j + 1) (by simpa using hj)
    simp only [List.getElem_cons_succ] at h1
    refine ⟨h1.1, ?_⟩
    have e : i + c.length + j * sz = i + (j + 1) * sz := by rw [h0.1, Nat.add_mul, Nat.one_mul]; omega
    rw [e]
    exact h1.2
theorem zoc {α β : Type} {R : Nat → α → Prop} : ∀ (n : Nat), (∀ i, i < n → ∃ a, R i a) → ∃ l : List α, l.length = n ∧ ∀ (i : Nat) (h : i < l.length), R i l[i]
  | 0, _ => ⟨[], rfl, fun i h => by cases h⟩
  | n + 1, h => by
    obtain ⟨l, h1, h2⟩ := zoc (β := β) n fun i hi => h i (by omega)
    obtain ⟨a, ha⟩ := h n (by omega)
    refine ⟨l ++ [a], by simp [h1], fun i hi => ?_⟩
    rw [List.length_append, List.length_singleton] at hi
    by_cases h3 : i < l.length
    · rw [List.getElem_append_left h3]; exact h2 i h3
    · obtain rfl : i = l.length := by omega
      simp only [List.getElem_concat_length]
      rw [h1]; exact ha
theorem opens_slice {α : Type} {f : α → List V} {G : α → Prop} {sz : Nat} (ht : P.underlying t = some (.slice e)) (hc : P.cellsOf e = sz) (h : zwy P W H enc e f G) :
    zwy P W H enc t (fun l : List α => [.lst (l.map f)]) (fun l => ∀ a ∈ l, G a) := by
  intro fuel cs x hx
  rcases DataW.trod_slice ht hx with ⟨rfl, -⟩ | ⟨a, len, cap, elems, rest, n, rfl, rfl, -, -, h1, h2, h3, h4, -, -⟩
  · refine ⟨[], ?_, by simp [Value.oneCell'], fun a h => by cases h⟩
    simp only [RlL, V.Rl, List.map_nil]
    exact ⟨_, [], rfl, ⟨none, 0, 0, rfl, Nat.le_refl _, Nat.zero_le _, (fun c h => by cases h), by simp only [RlE]⟩, rfl⟩
  · obtain ⟨l, hl, hk⟩ := zoc (β := Unit) (R := fun i y => ∃ cs, W.cells? 0 (a.add (i * sz)) sz = some cs ∧ RlL (hvW W) (f y) cs ∧ (∀ u ∈ cs, u.oneCell' = true) ∧ G y) len (fun i hi => by
      have h5 := h4 i hi
      rw [List.getElem?_eq_getElem (by omega), Option.bind_eq_some_iff, hc] at h5
      obtain ⟨cs, h6, h7⟩ := h5
      obtain ⟨y, h8, h9, h10⟩ := h _ _ _ h7
      exact ⟨y, cs, h6, h8, h9, h10⟩)
    have hlen : ∀ y ∈ l, (f y).length = sz := fun y hy => by
      obtain ⟨i, hi, rfl⟩ := List.mem_iff_getElem.1 hy
      obtain ⟨cs, k1, k2, -, -⟩ := hk i hi
      rw [k2.len, (World.cells?_some k1).2.1]
    refine ⟨l, ?_, by simp [Value.oneCell'], fun y hy => ?_⟩
    · simp only [RlL, V.Rl]
      refine ⟨_, [], rfl, ⟨some a, cap, sz, by rw [List.length_map, hl], by rw [List.length_map, hl]; exact h1, h2, fun c hc => ?_, zwn (sz := sz) fun j hj => ?_⟩, rfl⟩
      · obtain ⟨y, hy, rfl⟩ := List.mem_map.1 hc
        exact hlen y hy
      · rw [List.length_map] at hj
        rw [List.getElem_map]
        obtain ⟨cs, k1, k2, k3, k4⟩ := hk j hj
        obtain ⟨-, k5, k6⟩ := World.cells?_some k1
        refine ⟨hlen _ (List.getElem_mem hj), zwo (m := sz) k2 k3 fun i hi => ?_⟩
        rw [Nat.zero_add, ← zwb]
        exact k6 i (by omega)
    · obtain ⟨i, hi, rfl⟩ := List.mem_iff_getElem.1 hy
      obtain ⟨cs, -, -, -, k4⟩ := hk i hi
      exact k4
end
end Go.XL
namespace Go.Proofs.Ytdkmlmmelehcbaa
open Go.XL Go.ChangeShapes Go.WideShapes Go.ChangeAt Go.RowKit
theorem own : ownKnob Try.prog.godebug = none := by kernel_rfl
theorem laid : laidOutB Try.prog = true := by kernel_rfl
set_option maxRecDepth 100000 in
theorem clubFresh_lifted (os : Os) (started : os.Started) (H : Type) (enc : TypeId × Value → H) :
    ReturnsInHanded {} Try.checked os 6 .any (Rows.clubFreshSpec.pre6 enc Try.prog Try.f6 Rows.clubFreshRow.domain false) (Rows.clubFreshSpec.post enc Try.prog Try.f6 false true false false) := by
  refine returnsInHanded_of_change (C := Try.checked) own started (by kernel_rfl) Try.func6
    (ChangeSpec.witness6 (enc := enc) (C := Try.checked) false ⟨#[], #[.slice none 0 0], []⟩ 8 (by kernel_rfl) (by kernel_rfl) (by kernel_rfl) (by kernel_rfl)) ?_
  intro W base args ds gs before hval0 hW hcnd _
  have hW' := hW
  obtain ⟨p, q, hA, -, -, -, -⟩ := hW'
  have hval : ∀ (j : Nat) t v, Try.f6.params[j]? = some t → args[j]? = some v → Value.okWide Try.prog W .any base t v := hval0
  have hA1 : DataW.TrodAll enc Try.prog W 0 (fun _ => true) true Try.f6.params.toList args.toList ds p := hA
  rw [Try.params6] at hA1 hval
  obtain ⟨v0, vs0, d0, ds0, p0, q0, hargs, rfl, -, h0, r0⟩ := trodAll_cons hA1
  obtain ⟨rfl, rfl, -⟩ := trodAll_nil r0
  obtain rfl : args = #[v0] := by cases args; simp_all
  obtain ⟨a0, len0, cap0, rfl⟩ := okWide_slice Try.underlying22 (hval 0 22 v0 rfl rfl)
  obtain ⟨fuel0, hf0⟩ := h0
  obtain ⟨x0, e0, -, w0⟩ := opens_slice (sz := 1) Try.underlying22 (by kernel_rfl) (opens_int Try.underlying3) _ _ _ hf0
  refine (PC.door (clubFresh_pc x0 ) W (xs := [.slice a0 len0 cap0]) e0).mono fun e W' ⟨he, k⟩ => ⟨_, he, ?_⟩
  exact post_law hW rfl rfl rfl Try.underlying4 laid (by rw [show Try.f6.params = _ from Try.params6]; intro t ht; simp only [List.mem_cons, List.not_mem_nil, or_false] at ht; rcases ht with rfl <;> exact ⟨by kernel_rfl, of_decide_eq_true (by kernel_rfl)⟩) k
theorem clubFresh_holds : Rows.ClubFreshSaid :=
  OpenClaim.holds_of_wide 6 Try.f6 rfl rfl rfl rfl rfl rfl rfl ⟨rfl, rfl, rfl, rfl, rfl⟩ rfl rfl rfl rfl rfl (by kernel_rfl) Try.func6 (by kernel_rfl)
    (of_decide_eq_true (by kernel_rfl)) (by unfold Func.isWrapper; first | (rw [if_pos (by decide +kernel)]; kernel_rfl) | (rw [if_neg (by decide +kernel)]; exact ⟨rfl, rfl⟩))
    (fun os started H enc _ => clubFresh_lifted os started H enc)
end Go.Proofs.Ytdkmlmmelehcbaa
