/- A part of a program logic over the kit's walk rules, and contracts of functions in it. Conditions: as each theorem says. -/
import Derived.Test.YtdkmlmmelehcbaaL8
import Derived.Test.YtdkmlmmelehcbaaRows
import Derived.WideKeyArgs
import Derived.OpenShut
import Derived.WalkKit
import Derived.ProofKit
set_option linter.all false
namespace Go.XL
open Go.Proofs Go.ChangeShapes Go.WideShapes Go.ChangeAt Go.RowKit
set_option linter.unusedVariables false
def hvW (W : World) : VH := fun b => W.heap[b]?
def baseW (W : World) : Bs := ⟨fun b => b < W.heap.size, W.heap, hvW W⟩
theorem stW (W : World) : St (baseW W) (hvW W) (fun _ => none) [] [] [] W.heap where
  pre := fun b o e => ⟨o, e, leO.refl o⟩
  slot := fun t v e => by cases e
  obj := fun b o e => by cases e
  held := fun g x e => by cases e
  base := ⟨fun b h => h, Nat.le_refl _, fun b _ => rfl⟩
  vbase := ⟨PreV.refl _, fun _ _ => rfl⟩
structure KeptW (W W' : World) : Prop where
  os : W'.os = W.os
  output : W'.output = W.output
  size : W.heap.size ≤ W'.heap.size
  old : ∀ b, b < W.heap.size → W'.heap[b]? = W.heap[b]?
theorem PC.door {P : Program} {f : FuncId} {vs : List V} {xs : List Value} (h : PC P f vs (.v (.bool true))) (W : World) (hx : RlL (hvW W) vs xs) :
    Calls P f xs.toArray W fun e w' => e = .returned (.bool true) ∧ KeptW W w' := by
  refine (h (hvW W) (baseW W) (hvW W) (fun _ => none) W.heap xs (PreV.refl _) hx (stW W) W rfl).mono fun e w' => ?_
  rintro ⟨y, rfl, ⟨s1, s2, s3⟩, v, S', hv', hold', -, st, rfl⟩
  obtain ⟨z, h1, h2, -⟩ := st.slot 0 (.v (.bool true)) rfl
  simp only [V.Rl] at h2
  subst h2
  have h3 : look [(0, y)] 0 = some y := by simp [look]
  rw [h3] at h1
  cases h1
  exact ⟨rfl, s1, s3, st.base.2.1, st.base.2.2⟩
theorem KeptW.keptBut {W W' : World} (k : KeptW W W') (may : MemPlace → Prop) : W.keptBut W' may := by
  refine ⟨k.os, k.output, fun i hi => ?_⟩
  rw [k.old i hi]
  generalize W.heap[i]? = o
  cases o with
  | none => trivial
  | some o => cases o <;> simp
theorem KeptW.cell {W W' : World} (k : KeptW W W') {a : Addr} (h : a.block < W.heap.size) : W'.cell? a = W.cell? a := by
  unfold World.cell?
  rw [k.old _ h]
theorem KeptW.sameAt {W W' : World} (k : KeptW W W') {p : MemPlace} (h : p.block < W.heap.size) : W.sameAt W' p := by
  cases p with
  | cell b off => exact k.cell h
  | map b => exact k.old _ h
section
variable {H : Type} {enc : TypeId × Value → H} {P : Program}
theorem trodAll_stays (hl : laidOutB P = true) {W W' : World} {sp : Nat → Bool} : ∀ {ts : List TypeId} {vs : List Value} {ds : List (DataW H)} {ps : List MemPlace}, (∀ t ∈ ts, P.readableRec t = true ∧ t < P.types.size) →
    DataW.TrodAll enc P W 0 (fun _ => true) true ts vs ds ps → (∀ p ∈ ps, W.sameAt W' p) → (∀ p ∈ ps, sp p.block = true) → DataW.TrodAll enc P W' 0 sp true ts vs ds ps
  | [], vs, ds, ps, _, h, _, _ => by
    obtain ⟨rfl, rfl, rfl⟩ := trodAll_nil h
    rfl
  | t :: ts, vs, ds, ps, ht, h, h1, h2 => by
    obtain ⟨v, vs', d, ds', p, q, rfl, rfl, rfl, h3, h4⟩ := trodAll_cons h
    obtain ⟨r1, r2⟩ := ht t (List.mem_cons_self ..)
    exact ⟨p, q, WideElems.Trod_stays hl r1 r2 h3 (fun x hx => h1 x (List.mem_append_left _ hx)) (fun x hx => h2 x (List.mem_append_left _ hx)),
      trodAll_stays hl (fun t h => ht t (List.mem_cons_of_mem _ h)) h4 (fun x hx => h1 x (List.mem_append_right _ hx)) (fun x hx => h2 x (List.mem_append_right _ hx)), rfl⟩
theorem post_law {f : Func} {s : ChangeSpec} {apart fresh handsOn : Bool} {W W' : World} {args : Array Value} {ds gs : List (DataW H)} {before : List MemPlace} {tb : TypeId}
    (hW : DataW.Whole enc P f.params.toList s.vars apart W args.toList ds gs before) (hv : s.vars = []) (hs : s.fn H ds = { results := [.lit (.bool true)], args := ds })
    (hrt : f.resultTypes = #[tb]) (hb : P.underlying tb = some .bool) (hl : laidOutB P = true) (hr : ∀ t ∈ f.params.toList, P.readableRec t = true ∧ t < P.types.size) (k : KeptW W W') :
    s.post enc P f apart fresh handsOn false W args (.bool true) W' := by
  have hlt := fun p hp => hW.lt (p := p) hp
  have hW' := hW
  obtain ⟨p, q, hA, hV, rfl, -, -⟩ := hW
  rw [hv] at hV
  obtain ⟨rfl, rfl⟩ := trodVars_none hV
  refine ⟨ds, [], p ++ [], [], p, [], hW', ?_, ?_, ?_, k.keptBut _, fun h => by cases h⟩
  · rw [List.append_nil, hs, hrt]
    exact trodAll_mk1 (shut_bool hb _)
  · rw [List.append_nil, hs]
    exact trodAll_stays hl hr hA (fun x hx => k.sameAt (hlt x (by simpa using hx))) (fun x hx => by simpa using hlt x (by simpa using hx))
  · rw [List.append_nil, hs, hv]
    rfl
def Opens (P : Program) (W : World) (H : Type) (enc : TypeId × Value → H) (t : TypeId) {α : Type} (f : α → List V) (G : α → Prop) : Prop :=
  ∀ fuel cs x, DataW.trod enc P W 0 (fun _ => true) true fuel t cs = some x → ∃ a, RlL (hvW W) (f a) cs ∧ (∀ u ∈ cs, u.oneCell' = true) ∧ G a
variable {W : World} {t e : TypeId}
theorem opens_int {k : IntKind} (ht : P.underlying t = some (.int k)) : Opens P W H enc t (fun n : Int => [.v (.int k n)]) (fun n => (Lit.int k n).wf = true) := by
  intro fuel cs x h
  obtain ⟨n, rfl, -, hw⟩ := DataW.trod_int ht h
  exact ⟨n, by simp [RlL, V.Rl], by simp [Value.oneCell'], hw⟩
theorem RlL.len {hv : VH} : ∀ {vs : List V} {cs : List Value}, RlL hv vs cs → vs.length = cs.length
  | [], _, h => by simp only [RlL] at h; subst h; rfl
  | v :: vs, cs, h => by
    simp only [RlL] at h
    obtain ⟨z, zs, rfl, -, h⟩ := h
    simp [RlL.len h]
theorem RlL.one {hv : VH} {v : V} {y : Value} (h : v.Rl hv y) : RlL hv [v] [y] := by
  simp only [RlL]; exact ⟨y, [], rfl, h, rfl⟩
theorem rlC_of {a : Addr} {m : Nat} : ∀ {vs : List V} {cs : List Value} {i : Nat}, RlL (hvW W) vs cs → (∀ u ∈ cs, u.oneCell' = true) → (∀ j, j < cs.length → W.cell? (a.add (i + j)) = cs[j]?) → RlC (hvW W) (some a) i vs
  | [], _, _, _, _, _ => by simp only [RlC]
  | v :: vs, cs, i, h, h1, h2 => by
    simp only [RlL] at h
    obtain ⟨z, zs, rfl, h3, h4⟩ := h
    simp only [RlC]
    refine ⟨⟨z, ?_, h3, h1 z (List.mem_cons_self ..)⟩, rlC_of (m := m) h4 (fun u hu => h1 u (List.mem_cons_of_mem _ hu)) fun j hj => ?_⟩
    · have := h2 0 (by simp)
      rw [Nat.add_zero] at this
      exact this
    · have := h2 (j + 1) (by simpa using hj)
      rw [show i + 1 + j = i + (j + 1) by omega, this]
      rfl
theorem rlE_of {a : Addr} {sz : Nat} : ∀ {l : List (List V)} {i : Nat}, (∀ (j : Nat) (h : j < l.length), l[j].length = sz ∧ RlC (hvW W) (some a) (i + j * sz) l[j]) → RlE (hvW W) (some a) i l
  | [], _, _ => by simp only [RlE]
  | c :: l, i, h => by
    simp only [RlE]
    have h0 := h 0 (by simp)
    simp only [Nat.zero_mul, Nat.add_zero, List.getElem_cons_zero] at h0
    refine ⟨h0.2, rlE_of (sz := sz) fun j hj => ?_⟩
    have h1 := h (j + 1) (by simpa using hj)
    simp only [List.getElem_cons_succ] at h1
    refine ⟨h1.1, ?_⟩
    have e : i + c.length + j * sz = i + (j + 1) * sz := by rw [h0.1, Nat.add_mul, Nat.one_mul]; omega
    rw [e]
    exact h1.2
theorem choose_list {α β : Type} {R : Nat → α → Prop} : ∀ (n : Nat), (∀ i, i < n → ∃ a, R i a) → ∃ l : List α, l.length = n ∧ ∀ (i : Nat) (h : i < l.length), R i l[i]
  | 0, _ => ⟨[], rfl, fun i h => by cases h⟩
  | n + 1, h => by
    obtain ⟨l, h1, h2⟩ := choose_list (β := β) n fun i hi => h i (by omega)
    obtain ⟨a, ha⟩ := h n (by omega)
    refine ⟨l ++ [a], by simp [h1], fun i hi => ?_⟩
    rw [List.length_append, List.length_singleton] at hi
    by_cases h3 : i < l.length
    · rw [List.getElem_append_left h3]; exact h2 i h3
    · obtain rfl : i = l.length := by omega
      simp only [List.getElem_concat_length]
      rw [h1]; exact ha
theorem opens_slice {α : Type} {f : α → List V} {G : α → Prop} {sz : Nat} (ht : P.underlying t = some (.slice e)) (hc : P.cellsOf e = sz) (h : Opens P W H enc e f G) :
    Opens P W H enc t (fun l : List α => [.lst (l.map f)]) (fun l => ∀ a ∈ l, G a) := by
  intro fuel cs x hx
  rcases DataW.trod_slice ht hx with ⟨rfl, -⟩ | ⟨a, len, cap, elems, rest, n, rfl, rfl, -, -, h1, h2, h3, h4, -, -⟩
  · refine ⟨[], ?_, by simp [Value.oneCell'], fun a h => by cases h⟩
    simp only [RlL, V.Rl, List.map_nil]
    exact ⟨_, [], rfl, ⟨none, 0, 0, rfl, Nat.le_refl _, Nat.zero_le _, (fun c h => by cases h), by simp only [RlE]⟩, rfl⟩
  · obtain ⟨l, hl, hk⟩ := choose_list (β := Unit) (R := fun i y => ∃ cs, W.cells? 0 (a.add (i * sz)) sz = some cs ∧ RlL (hvW W) (f y) cs ∧ (∀ u ∈ cs, u.oneCell' = true) ∧ G y) len (fun i hi => by
      have h5 := h4 i hi
      rw [List.getElem?_eq_getElem (by omega), Option.bind_eq_some_iff, hc] at h5
      obtain ⟨cs, h6, h7⟩ := h5
      obtain ⟨y, h8, h9, h10⟩ := h _ _ _ h7
      exact ⟨y, cs, h6, h8, h9, h10⟩)
    have hlen : ∀ y ∈ l, (f y).length = sz := fun y hy => by
      obtain ⟨i, hi, rfl⟩ := List.mem_iff_getElem.1 hy
      obtain ⟨cs, k1, k2, -, -⟩ := hk i hi
      rw [k2.len, (World.cells?_some k1).2.1]
    refine ⟨l, ?_, by simp [Value.oneCell'], fun y hy => ?_⟩
    · simp only [RlL, V.Rl]
      refine ⟨_, [], rfl, ⟨some a, cap, sz, by rw [List.length_map, hl], by rw [List.length_map, hl]; exact h1, h2, fun c hc => ?_, rlE_of (sz := sz) fun j hj => ?_⟩, rfl⟩
      · obtain ⟨y, hy, rfl⟩ := List.mem_map.1 hc
        exact hlen y hy
      · rw [List.length_map] at hj
        rw [List.getElem_map]
        obtain ⟨cs, k1, k2, k3, k4⟩ := hk j hj
        obtain ⟨-, k5, k6⟩ := World.cells?_some k1
        refine ⟨hlen _ (List.getElem_mem hj), rlC_of (m := sz) k2 k3 fun i hi => ?_⟩
        rw [Nat.zero_add, ← add_add]
        exact k6 i (by omega)
    · obtain ⟨i, hi, rfl⟩ := List.mem_iff_getElem.1 hy
      obtain ⟨cs, -, -, -, k4⟩ := hk i hi
      exact k4
end
end Go.XL
namespace Go.Proofs.Ytdkmlmmelehcbaa
open Go.XL Go.ChangeShapes Go.WideShapes Go.ChangeAt Go.RowKit
theorem own : ownKnob Try.prog.godebug = none := by kernel_rfl
theorem laid : laidOutB Try.prog = true := by kernel_rfl
set_option maxRecDepth 100000 in
theorem clubLeast_lifted (os : Os) (started : os.Started) (H : Type) (enc : TypeId × Value → H) :
    ReturnsInHanded {} Try.checked os 4 .any (Rows.clubLeastSpec.pre6 enc Try.prog Try.f4 Rows.clubLeastRow.domain false) (Rows.clubLeastSpec.post enc Try.prog Try.f4 false true false false) := by
  refine returnsInHanded_of_change (C := Try.checked) own started (by kernel_rfl) Try.func4
    (ChangeSpec.witness6 (enc := enc) (C := Try.checked) false ⟨#[], #[.slice none 0 0], []⟩ 8 (by kernel_rfl) (by kernel_rfl) (by kernel_rfl) (by kernel_rfl)) ?_
  intro W base args ds gs before hval0 hW hcnd _
  have hW' := hW
  obtain ⟨p, q, hA, -, -, -, -⟩ := hW'
  have hval : ∀ (j : Nat) t v, Try.f4.params[j]? = some t → args[j]? = some v → Value.okWide Try.prog W .any base t v := hval0
  have hA1 : DataW.TrodAll enc Try.prog W 0 (fun _ => true) true Try.f4.params.toList args.toList ds p := hA
  rw [Try.params4] at hA1 hval
  obtain ⟨v0, vs0, d0, ds0, p0, q0, hargs, rfl, -, h0, r0⟩ := trodAll_cons hA1
  obtain ⟨rfl, rfl, -⟩ := trodAll_nil r0
  obtain rfl : args = #[v0] := by cases args; simp_all
  obtain ⟨a0, len0, cap0, rfl⟩ := okWide_slice Try.underlying22 (hval 0 22 v0 rfl rfl)
  obtain ⟨fuel0, hf0⟩ := h0
  obtain ⟨x0, e0, -, w0⟩ := opens_slice (sz := 1) Try.underlying22 (by kernel_rfl) (opens_int Try.underlying3) _ _ _ hf0
  refine (PC.door (clubLeast_pc x0 ) W (xs := [.slice a0 len0 cap0]) e0).mono fun e W' ⟨he, k⟩ => ⟨_, he, ?_⟩
  exact post_law hW rfl rfl rfl Try.underlying4 laid (by rw [show Try.f4.params = _ from Try.params4]; intro t ht; simp only [List.mem_cons, List.not_mem_nil, or_false] at ht; rcases ht with rfl <;> exact ⟨by kernel_rfl, of_decide_eq_true (by kernel_rfl)⟩) k
theorem clubLeast_holds : Rows.ClubLeastSaid :=
  OpenClaim.holds_of_wide 4 Try.f4 rfl rfl rfl rfl rfl rfl rfl ⟨rfl, rfl, rfl, rfl, rfl⟩ rfl rfl rfl rfl rfl (by kernel_rfl) Try.func4 (by kernel_rfl)
    (of_decide_eq_true (by kernel_rfl)) (by unfold Func.isWrapper; first | (rw [if_pos (by decide +kernel)]; kernel_rfl) | (rw [if_neg (by decide +kernel)]; exact ⟨rfl, rfl⟩))
    (fun os started H enc _ => clubLeast_lifted os started H enc)
end Go.Proofs.Ytdkmlmmelehcbaa
