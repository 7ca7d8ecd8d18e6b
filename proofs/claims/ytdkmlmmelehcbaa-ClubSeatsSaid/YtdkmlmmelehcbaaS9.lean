/- A part of a program logic over the kit's walk rules, and contracts of functions in it. Conditions: as each theorem says. -/
import Derived.Test.YtdkmlmmelehcbaaS8
import Derived.Test.YtdkmlmmelehcbaaRows
import Derived.WideKeyArgs
import Derived.OpenShut
import Derived.WalkKit
import Derived.ProofKit
import Derived.Laws.StructEq
set_option linter.all false
namespace Go.XL
open Go.Proofs Go.ChangeShapes Go.WideShapes Go.ChangeAt Go.RowKit
def hvW (W : World) : VH := fun b => W.heap[b]?
def baseW (W : World) : Bs := ⟨fun b => b < W.heap.size, W.heap, hvW W⟩
theorem stW (W : World) : St (baseW W) (hvW W) (fun _ => none) [] [] [] W.heap where
  pre := fun b o e => ⟨o, e, leO.refl o⟩
  slot := fun t v e => by cases e
  obj := fun b o e => by cases e
  held := fun g x e => by cases e
  base := ⟨fun b h => h, Nat.le_refl _, fun b _ => rfl⟩
  vbase := ⟨PreV.refl _, fun _ _ => rfl⟩
structure KeptW (W W' : World) : Prop where
  os : W'.os = W.os
  output : W'.output = W.output
  size : W.heap.size ≤ W'.heap.size
  old : ∀ b, b < W.heap.size → W'.heap[b]? = W.heap[b]?
theorem PC.door {P : Program} {f : FuncId} {vs : List V} {xs : List Value} (h : PC P f vs (.v (.bool true))) (W : World) (hx : RlL (hvW W) vs xs) :
    Calls P f xs.toArray W fun e w' => e = .returned (.bool true) ∧ KeptW W w' := by
  refine (h (hvW W) (baseW W) (hvW W) (fun _ => none) W.heap xs (PreV.refl _) hx (stW W) W rfl).mono fun e w' => ?_
  rintro ⟨y, rfl, ⟨s1, s2, s3⟩, v, S', hv', hold', -, st, rfl⟩
  obtain ⟨z, h1, h2, -⟩ := st.slot 0 (.v (.bool true)) rfl
  simp only [V.Rl] at h2
  subst h2
  have h3 : look [(0, y)] 0 = some y := by simp [look]
  rw [h3] at h1
  cases h1
  exact ⟨rfl, s1, s3, st.base.2.1, st.base.2.2⟩
theorem KeptW.keptBut {W W' : World} (k : KeptW W W') (may : MemPlace → Prop) : W.keptBut W' may := by
  refine ⟨k.os, k.output, fun i hi => ?_⟩
  rw [k.old i hi]
  generalize W.heap[i]? = o
  cases o with
  | none => trivial
  | some o => cases o <;> simp
theorem KeptW.cell {W W' : World} (k : KeptW W W') {a : Addr} (h : a.block < W.heap.size) : W'.cell? a = W.cell? a := by
  unfold World.cell?
  rw [k.old _ h]
theorem KeptW.sameAt {W W' : World} (k : KeptW W W') {p : MemPlace} (h : p.block < W.heap.size) : W.sameAt W' p := by
  cases p with
  | cell b off => exact k.cell h
  | map b => exact k.old _ h
section
variable {H : Type} {enc : TypeId × Value → H} {P : Program}
theorem zkq (hl : laidOutB P = true) {W W' : World} {sp : Nat → Bool} : ∀ {ts : List TypeId} {vs : List Value} {ds : List (DataW H)} {ps : List MemPlace}, (∀ t ∈ ts, P.readableRec t = true ∧ t < P.types.size) →
    DataW.TrodAll enc P W 0 (fun _ => true) true ts vs ds ps → (∀ p ∈ ps, W.sameAt W' p) → (∀ p ∈ ps, sp p.block = true) → DataW.TrodAll enc P W' 0 sp true ts vs ds ps
  | [], vs, ds, ps, _, h, _, _ => by
    obtain ⟨rfl, rfl, rfl⟩ := trodAll_nil h
    rfl
  | t :: ts, vs, ds, ps, ht, h, h1, h2 => by
    obtain ⟨v, vs', d, ds', p, q, rfl, rfl, rfl, h3, h4⟩ := trodAll_cons h
    obtain ⟨r1, r2⟩ := ht t (List.mem_cons_self ..)
    exact ⟨p, q, WideElems.Trod_stays hl r1 r2 h3 (fun x hx => h1 x (List.mem_append_left _ hx)) (fun x hx => h2 x (List.mem_append_left _ hx)),
      zkq hl (fun t h => ht t (List.mem_cons_of_mem _ h)) h4 (fun x hx => h1 x (List.mem_append_right _ hx)) (fun x hx => h2 x (List.mem_append_right _ hx)), rfl⟩
theorem post_law {f : Func} {s : ChangeSpec} {apart fresh handsOn : Bool} {W W' : World} {args : Array Value} {ds gs : List (DataW H)} {before : List MemPlace} {tb : TypeId}
    (hW : DataW.Whole enc P f.params.toList s.vars apart W args.toList ds gs before) (hv : s.vars = []) (hs : s.fn H ds = { results := [.lit (.bool true)], args := ds })
    (hrt : f.resultTypes = #[tb]) (hb : P.underlying tb = some .bool) (hl : laidOutB P = true) (hr : ∀ t ∈ f.params.toList, P.readableRec t = true ∧ t < P.types.size) (k : KeptW W W') :
    s.post enc P f apart fresh handsOn false W args (.bool true) W' := by
  have hlt := fun p hp => hW.lt (p := p) hp
  have hW' := hW
  obtain ⟨p, q, hA, hV, rfl, -, -⟩ := hW
  rw [hv] at hV
  obtain ⟨rfl, rfl⟩ := trodVars_none hV
  refine ⟨ds, [], p ++ [], [], p, [], hW', ?_, ?_, ?_, k.keptBut _, fun h => by cases h⟩
  · rw [List.append_nil, hs, hrt]
    exact trodAll_mk1 (shut_bool hb _)
  · rw [List.append_nil, hs]
    exact zkq hl hr hA (fun x hx => k.sameAt (hlt x (by simpa using hx))) (fun x hx => by simpa using hlt x (by simpa using hx))
  · rw [List.append_nil, hs, hv]
    rfl
def zoz (P : Program) (W : World) (H : Type) (enc : TypeId × Value → H) (t : TypeId) {α : Type} (f : α → List V) (G : α → Prop) : Prop :=
  ∀ fuel cs x, DataW.trod enc P W 0 (fun _ => true) true fuel t cs = some x → ∃ a, RlL (hvW W) (f a) cs ∧ (∀ u ∈ cs, u.oneCell' = true) ∧ G a
variable {W : World} {t e : TypeId}
theorem zrm {k : IntKind} (ht : P.underlying t = some (.int k)) : zoz P W H enc t (fun n : Int => [.v (.int k n)]) (fun n => (Lit.int k n).wf = true) := by
  intro fuel cs x h
  obtain ⟨n, rfl, -, hw⟩ := DataW.trod_int ht h
  exact ⟨n, by simp [RlL, V.Rl], by simp [Value.oneCell'], hw⟩
theorem opens_bool (ht : P.underlying t = some .bool) : zoz P W H enc t (fun b : Bool => [.v (.bool b)]) (fun _ => True) := by
  intro fuel cs x h
  obtain ⟨b, rfl, -⟩ := DataW.trod_bool ht h
  exact ⟨b, by simp [RlL, V.Rl], by simp [Value.oneCell'], trivial⟩
theorem RlL.len {hv : VH} : ∀ {vs : List V} {cs : List Value}, RlL hv vs cs → vs.length = cs.length
  | [], _, h => by simp only [RlL] at h; subst h; rfl
  | v :: vs, cs, h => by
    simp only [RlL] at h
    obtain ⟨z, zs, rfl, -, h⟩ := h
    simp [RlL.len h]
theorem ztb {n : Int} (h : (Lit.int .i64 n).wf = true) : -9223372036854775808 ≤ n ∧ n ≤ 9223372036854775807 := by
  have h1 : IntKind.min .i64 = -9223372036854775808 := by decide
  have h2 : IntKind.max .i64 = 9223372036854775807 := by decide
  simp only [Lit.wf, h1, h2, Bool.and_eq_true, decide_eq_true_eq] at h
  exact h
theorem RlL.one {hv : VH} {v : V} {y : Value} (h : v.Rl hv y) : RlL hv [v] [y] := by
  simp only [RlL]; exact ⟨y, [], rfl, h, rfl⟩
theorem RlL.cons_one {hv : VH} {v : V} {y : Value} {vs : List V} {ys : List Value} (h : RlL hv [v] [y]) (k : RlL hv vs ys) : RlL hv (v :: vs) (y :: ys) := by
  simp only [RlL] at h ⊢
  obtain ⟨z, zs, e, h1, h2⟩ := h
  cases e
  exact ⟨_, _, rfl, h1, k⟩
theorem zxc {a : Addr} {m : Nat} : ∀ {vs : List V} {cs : List Value} {i : Nat}, RlL (hvW W) vs cs → (∀ u ∈ cs, u.oneCell' = true) → (∀ j, j < cs.length → W.cell? (a.add (i + j)) = cs[j]?) → RlC (hvW W) (some a) i vs
  | [], _, _, _, _, _ => by simp only [RlC]
  | v :: vs, cs, i, h, h1, h2 => by
    simp only [RlL] at h
    obtain ⟨z, zs, rfl, h3, h4⟩ := h
    simp only [RlC]
    refine ⟨⟨z, ?_, h3, h1 z (List.mem_cons_self ..)⟩, zxc (m := m) h4 (fun u hu => h1 u (List.mem_cons_of_mem _ hu)) fun j hj => ?_⟩
    · have := h2 0 (by simp)
      rw [Nat.add_zero] at this
      exact this
    · have := h2 (j + 1) (by simpa using hj)
      rw [show i + 1 + j = i + (j + 1) by omega, this]
      rfl
theorem zxb {a : Addr} {sz : Nat} : ∀ {l : List (List V)} {i : Nat}, (∀ (j : Nat) (h : j < l.length), l[j].length = sz ∧ RlC (hvW W) (some a) (i + j * sz) l[j]) → RlE (hvW W) (some a) i l
  | [], _, _ => by simp only [RlE]
  | c :: l, i, h => by
    simp only [RlE]
    have h0 := h 0 (by simp)
    simp only [Nat.zero_mul, Nat.add_zero, List.getElem_cons_zero] at h0
    refine ⟨h0.2, zxb (sz := sz) fun j hj => ?_⟩
    have h1 := h (j + 1) (by simpa using hj)
    simp only [List.getElem_cons_succ] at h1
    refine ⟨h1.1, ?_⟩
    have e : i + c.length + j * sz = i + (j + 1) * sz := by rw [h0.1, Nat.add_mul, Nat.one_mul]; omega
    rw [e]
    exact h1.2
theorem zop {α β : Type} {R : Nat → α → Prop} : ∀ (n : Nat), (∀ i, i < n → ∃ a, R i a) → ∃ l : List α, l.length = n ∧ ∀ (i : Nat) (h : i < l.length), R i l[i]
  | 0, _ => ⟨[], rfl, fun i h => by cases h⟩
  | n + 1, h => by
    obtain ⟨l, h1, h2⟩ := zop (β := β) n fun i hi => h i (by omega)
    obtain ⟨a, ha⟩ := h n (by omega)
    refine ⟨l ++ [a], by simp [h1], fun i hi => ?_⟩
    rw [List.length_append, List.length_singleton] at hi
    by_cases h3 : i < l.length
    · rw [List.getElem_append_left h3]; exact h2 i h3
    · obtain rfl : i = l.length := by omega
      simp only [List.getElem_concat_length]
      rw [h1]; exact ha
theorem zfo {α : Type} {f : α → List V} {G : α → Prop} {sz : Nat} (ht : P.underlying t = some (.slice e)) (hc : P.cellsOf e = sz) (h : zoz P W H enc e f G) :
    zoz P W H enc t (fun l : List α => [.lst (l.map f)]) (fun l => ∀ a ∈ l, G a) := by
  intro fuel cs x hx
  rcases DataW.trod_slice ht hx with ⟨rfl, -⟩ | ⟨a, len, cap, elems, rest, n, rfl, rfl, -, -, h1, h2, h3, h4, -, -⟩
  · refine ⟨[], ?_, by simp [Value.oneCell'], fun a h => by cases h⟩
    simp only [RlL, V.Rl, List.map_nil]
    exact ⟨_, [], rfl, ⟨none, 0, 0, rfl, Nat.le_refl _, Nat.zero_le _, (fun c h => by cases h), by simp only [RlE]⟩, rfl⟩
  · obtain ⟨l, hl, hk⟩ := zop (β := Unit) (R := fun i y => ∃ cs, W.cells? 0 (a.add (i * sz)) sz = some cs ∧ RlL (hvW W) (f y) cs ∧ (∀ u ∈ cs, u.oneCell' = true) ∧ G y) len (fun i hi => by
      have h5 := h4 i hi
      rw [List.getElem?_eq_getElem (by omega), Option.bind_eq_some_iff, hc] at h5
      obtain ⟨cs, h6, h7⟩ := h5
      obtain ⟨y, h8, h9, h10⟩ := h _ _ _ h7
      exact ⟨y, cs, h6, h8, h9, h10⟩)
    have hlen : ∀ y ∈ l, (f y).length = sz := fun y hy => by
      obtain ⟨i, hi, rfl⟩ := List.mem_iff_getElem.1 hy
      obtain ⟨cs, k1, k2, -, -⟩ := hk i hi
      rw [k2.len, (World.cells?_some k1).2.1]
    refine ⟨l, ?_, by simp [Value.oneCell'], fun y hy => ?_⟩
    · simp only [RlL, V.Rl]
      refine ⟨_, [], rfl, ⟨some a, cap, sz, by rw [List.length_map, hl], by rw [List.length_map, hl]; exact h1, h2, fun c hc => ?_, zxb (sz := sz) fun j hj => ?_⟩, rfl⟩
      · obtain ⟨y, hy, rfl⟩ := List.mem_map.1 hc
        exact hlen y hy
      · rw [List.length_map] at hj
        rw [List.getElem_map]
        obtain ⟨cs, k1, k2, k3, k4⟩ := hk j hj
        obtain ⟨-, k5, k6⟩ := World.cells?_some k1
        refine ⟨hlen _ (List.getElem_mem hj), zxc (m := sz) k2 k3 fun i hi => ?_⟩
        rw [Nat.zero_add, ← zwn]
        exact k6 i (by omega)
    · obtain ⟨i, hi, rfl⟩ := List.mem_iff_getElem.1 hy
      obtain ⟨cs, -, -, -, k4⟩ := hk i hi
      exact k4
end
end Go.XL
namespace Go.XL
open Go.Proofs Go.ChangeShapes Go.WideShapes Go.ChangeAt Go.RowKit
set_option maxRecDepth 100000
def zww (P : Program) : List Field → Nat → List TypeId → Bool
  | [], _, [] => true
  | f :: fs, i, t :: ts => f.offset == i && P.cellsOf f.type == 1 && f.type == t && zww P fs (i + 1) ts
  | _, _, _ => false
theorem zrn {P : Program} : ∀ {fs : List Field} {k : Nat} {ts : List TypeId}, zww P fs k ts = true → ∀ {i : Nat} {t : TypeId}, ts[i]? = some t → ∃ f, fs[i]? = some f ∧ f.offset = k + i ∧ P.cellsOf f.type = 1 ∧ f.type = t
  | [], k, [], _, i, t, e => by simp at e
  | [], k, _ :: _, h, i, t, e => by cases h
  | _ :: _, k, [], h, i, t, e => by cases h
  | f :: fs, k, u :: ts, h, i, t, e => by
    simp only [zww, Bool.and_eq_true, beq_iff_eq] at h
    obtain ⟨⟨⟨h1, h2⟩, h3⟩, h4⟩ := h
    cases i with
    | zero =>
      simp only [List.getElem?_cons_zero, Option.some.injEq] at e
      subst e
      exact ⟨f, rfl, by omega, h2, h3⟩
    | succ i =>
      rw [List.getElem?_cons_succ] at e
      obtain ⟨g, g1, g2, g3, g4⟩ := zrn h4 e
      exact ⟨g, by rw [List.getElem?_cons_succ]; exact g1, by omega, g3, g4⟩
section
variable {H : Type} {enc : TypeId × Value → H} {P : Program} {W : World} {t : TypeId}
theorem zhx {fuel : Nat} {cs : List Value} {x : DataW H × List MemPlace} {ts : List TypeId} (ht : P.underlying t = some (.struct (P.fieldsOf t))) (hf : zww P (P.fieldsOf t).toList 0 ts = true) (hn : P.cellsOf t = ts.length)
    (h : DataW.trod enc P W 0 (fun _ => true) true fuel t cs = some x) : cs.length = ts.length ∧ ∃ n, ∀ (i : Nat) t' c, ts[i]? = some t' → cs[i]? = some c → ∃ y, DataW.trod enc P W 0 (fun _ => true) true n t' [c] = some y := by
  obtain ⟨xs, n, -, -, h1, h2, h3⟩ := DataW.trod_struct ht h
  refine ⟨by rw [h1, hn], n, fun i t' c e1 e2 => ?_⟩
  obtain ⟨f, g1, g2, g3, rfl⟩ := zrn hf e1
  have g1' : (P.fieldsOf t)[i]? = some f := by simpa using g1
  have h4 := h3 i f g1'
  obtain ⟨k1, k2⟩ := List.getElem?_eq_some_iff.1 e2
  rw [g3, g2, Nat.zero_add, List.drop_eq_getElem_cons k1, List.take_succ_cons, List.take_zero, k2] at h4
  have h5 : i < xs.length := by
    rw [h2]
    exact (Array.getElem?_eq_some_iff.1 g1').1
  exact ⟨xs[i], by rw [h4, List.getElem?_eq_getElem h5]⟩
end
def zvd (m : Member) : Prop := In64 m.id ∧ In64 m.hand ∧ In64 m.from_ ∧ In64 m.to
def zva (r : Ruling) : Prop := In64 r.round ∧ In64 r.table ∧ ∀ x ∈ r.points, In64 x
def SitIn (s : Sitting) : Prop := (∀ t ∈ s.tables, ∀ x ∈ t, In64 x) ∧ (∀ t ∈ s.points, ∀ x ∈ t, In64 x) ∧ ∀ r ∈ s.rulings, zva r
structure ClubIn (c : Club) : Prop where
  size : In64 c.size
  start : In64 c.start
  absent : In64 c.absent
  window : In64 c.window
  places : ∀ x ∈ c.places, In64 x
  members : ∀ m ∈ c.members, zvd m
  rounds : ∀ s ∈ c.rounds, SitIn s
section
variable {H : Type} {enc : TypeId × Value → H} {W : World}
theorem znr : zoz Try.prog W H enc 3 cI In64 := fun fuel cs x h => by
  obtain ⟨a, h1, h2, h3⟩ := zrm Try.underlying3 fuel cs x h
  exact ⟨a, h1, h2, ztb h3⟩
theorem openL : zoz Try.prog W H enc 22 (fun l => [ints l]) (fun l => ∀ x ∈ l, In64 x) := zfo (sz := 1) Try.underlying22 (by kernel_rfl) znr
theorem openR : zoz Try.prog W H enc 35 (fun l => [rows l]) (fun l => ∀ t ∈ l, ∀ x ∈ t, In64 x) := zfo (sz := 1) Try.underlying35 (by kernel_rfl) openL
theorem openM : zoz Try.prog W H enc 88 Member.cells zvd := fun fuel cs x h => by
  obtain ⟨hl, n, hg⟩ := zhx (ts := [3, 3, 3, 3]) (by kernel_rfl) (by kernel_rfl) (by kernel_rfl) h
  obtain ⟨c0, c1, c2, c3, rfl⟩ : ∃ c0 c1 c2 c3, cs = [c0, c1, c2, c3] := by
    rcases cs with _ | ⟨a, _ | ⟨b, _ | ⟨c, _ | ⟨d, _ | ⟨e, r⟩⟩⟩⟩⟩ <;> first | (exact ⟨_, _, _, _, rfl⟩) | (simp at hl)
  obtain ⟨y0, h0⟩ := hg 0 _ _ rfl rfl
  obtain ⟨y1, h1⟩ := hg 1 _ _ rfl rfl
  obtain ⟨y2, h2⟩ := hg 2 _ _ rfl rfl
  obtain ⟨y3, h3⟩ := hg 3 _ _ rfl rfl
  obtain ⟨a0, r0, f0, w0⟩ := znr _ _ _ h0
  obtain ⟨a1, r1, f1, w1⟩ := znr _ _ _ h1
  obtain ⟨a2, r2, f2, w2⟩ := znr _ _ _ h2
  obtain ⟨a3, r3, f3, w3⟩ := znr _ _ _ h3
  refine ⟨⟨a0, a1, a2, a3⟩, RlL.cons_one r0 (RlL.cons_one r1 (RlL.cons_one r2 r3)), fun u hu => ?_, w0, w1, w2, w3⟩
  simp only [List.mem_cons, List.not_mem_nil, or_false] at hu f0 f1 f2 f3
  rcases hu with rfl | rfl | rfl | rfl
  · exact f0 _ rfl
  · exact f1 _ rfl
  · exact f2 _ rfl
  · exact f3 _ rfl
theorem openRu : zoz Try.prog W H enc 78 Ruling.cells zva := fun fuel cs x h => by
  obtain ⟨hl, n, hg⟩ := zhx (ts := [3, 3, 22]) (by kernel_rfl) (by kernel_rfl) (by kernel_rfl) h
  obtain ⟨c0, c1, c2, rfl⟩ : ∃ c0 c1 c2, cs = [c0, c1, c2] := by
    rcases cs with _ | ⟨a, _ | ⟨b, _ | ⟨c, _ | ⟨e, r⟩⟩⟩⟩ <;> first | (exact ⟨_, _, _, rfl⟩) | (simp at hl)
  obtain ⟨y0, h0⟩ := hg 0 _ _ rfl rfl
  obtain ⟨y1, h1⟩ := hg 1 _ _ rfl rfl
  obtain ⟨y2, h2⟩ := hg 2 _ _ rfl rfl
  obtain ⟨a0, r0, f0, w0⟩ := znr _ _ _ h0
  obtain ⟨a1, r1, f1, w1⟩ := znr _ _ _ h1
  obtain ⟨a2, r2, f2, w2⟩ := openL _ _ _ h2
  refine ⟨⟨a0, a1, a2⟩, RlL.cons_one r0 (RlL.cons_one r1 r2), fun u hu => ?_, w0, w1, w2⟩
  simp only [List.mem_cons, List.not_mem_nil, or_false] at hu f0 f1 f2
  rcases hu with rfl | rfl | rfl
  · exact f0 _ rfl
  · exact f1 _ rfl
  · exact f2 _ rfl
theorem openS : zoz Try.prog W H enc 81 Sitting.cells SitIn := fun fuel cs x h => by
  obtain ⟨hl, n, hg⟩ := zhx (ts := [35, 35, 79]) (by kernel_rfl) (by kernel_rfl) (by kernel_rfl) h
  obtain ⟨c0, c1, c2, rfl⟩ : ∃ c0 c1 c2, cs = [c0, c1, c2] := by
    rcases cs with _ | ⟨a, _ | ⟨b, _ | ⟨c, _ | ⟨e, r⟩⟩⟩⟩ <;> first | (exact ⟨_, _, _, rfl⟩) | (simp at hl)
  obtain ⟨y0, h0⟩ := hg 0 _ _ rfl rfl
  obtain ⟨y1, h1⟩ := hg 1 _ _ rfl rfl
  obtain ⟨y2, h2⟩ := hg 2 _ _ rfl rfl
  obtain ⟨a0, r0, f0, w0⟩ := openR _ _ _ h0
  obtain ⟨a1, r1, f1, w1⟩ := openR _ _ _ h1
  obtain ⟨a2, r2, f2, w2⟩ := (zfo (sz := 3) Try.underlying79 (by kernel_rfl) openRu) _ _ _ h2
  refine ⟨⟨a0, a1, a2⟩, RlL.cons_one r0 (RlL.cons_one r1 r2), fun u hu => ?_, w0, w1, w2⟩
  simp only [List.mem_cons, List.not_mem_nil, or_false] at hu f0 f1 f2
  rcases hu with rfl | rfl | rfl
  · exact f0 _ rfl
  · exact f1 _ rfl
  · exact f2 _ rfl
theorem openC : zoz Try.prog W H enc 26 Club.cells ClubIn := fun fuel cs x h => by
  obtain ⟨hl, n, hg⟩ := zhx (ts := [3, 3, 3, 3, 22, 4, 23, 24]) (by kernel_rfl) (by kernel_rfl) (by kernel_rfl) h
  obtain ⟨c0, c1, c2, c3, c4, c5, c6, c7, rfl⟩ : ∃ c0 c1 c2 c3 c4 c5 c6 c7, cs = [c0, c1, c2, c3, c4, c5, c6, c7] := by
    rcases cs with _ | ⟨a, _ | ⟨b, _ | ⟨c, _ | ⟨d, _ | ⟨a, _ | ⟨b, _ | ⟨c, _ | ⟨d, _ | ⟨e, r⟩⟩⟩⟩⟩⟩⟩⟩⟩ <;> first | (exact ⟨_, _, _, _, _, _, _, _, rfl⟩) | (simp at hl)
  obtain ⟨y0, h0⟩ := hg 0 _ _ rfl rfl
  obtain ⟨y1, h1⟩ := hg 1 _ _ rfl rfl
  obtain ⟨y2, h2⟩ := hg 2 _ _ rfl rfl
  obtain ⟨y3, h3⟩ := hg 3 _ _ rfl rfl
  obtain ⟨y4, h4⟩ := hg 4 _ _ rfl rfl
  obtain ⟨y5, h5⟩ := hg 5 _ _ rfl rfl
  obtain ⟨y6, h6⟩ := hg 6 _ _ rfl rfl
  obtain ⟨y7, h7⟩ := hg 7 _ _ rfl rfl
  obtain ⟨a0, r0, f0, w0⟩ := znr _ _ _ h0
  obtain ⟨a1, r1, f1, w1⟩ := znr _ _ _ h1
  obtain ⟨a2, r2, f2, w2⟩ := znr _ _ _ h2
  obtain ⟨a3, r3, f3, w3⟩ := znr _ _ _ h3
  obtain ⟨a4, r4, f4, w4⟩ := openL _ _ _ h4
  obtain ⟨a5, r5, f5, -⟩ := opens_bool Try.underlying4 _ _ _ h5
  obtain ⟨a6, r6, f6, w6⟩ := (zfo (sz := 4) Try.underlying23 (by kernel_rfl) openM) _ _ _ h6
  obtain ⟨a7, r7, f7, w7⟩ := (zfo (sz := 3) Try.underlying24 (by kernel_rfl) openS) _ _ _ h7
  refine ⟨⟨a0, a1, a2, a3, a4, a5, a6, a7⟩, RlL.cons_one r0 (RlL.cons_one r1 (RlL.cons_one r2 (RlL.cons_one r3 (RlL.cons_one r4 (RlL.cons_one r5 (RlL.cons_one r6 r7)))))), fun u hu => ?_, ⟨w0, w1, w2, w3, w4, w6, w7⟩⟩
  simp only [List.mem_cons, List.not_mem_nil, or_false] at hu f0 f1 f2 f3 f4 f5 f6 f7
  rcases hu with rfl | rfl | rfl | rfl | rfl | rfl | rfl | rfl
  · exact f0 _ rfl
  · exact f1 _ rfl
  · exact f2 _ rfl
  · exact f3 _ rfl
  · exact f4 _ rfl
  · exact f5 _ rfl
  · exact f6 _ rfl
  · exact f7 _ rfl
theorem open_club {v : Value} {fuel : Nat} {x : DataW H × List MemPlace} (h : DataW.trod enc Try.prog W 0 (fun _ => true) true fuel 26 v.cells.toList = some x) : ∃ c : Club, RlL (hvW W) [c.val] [v] ∧ ClubIn c := by
  obtain ⟨c, h1, -, h3⟩ := openC _ _ _ h
  have hl := h1.len
  have hs : ∃ xs, v = .agg xs := by
    cases v <;> first | exact ⟨_, rfl⟩ | (simp [Value.cells, Club.cells] at hl)
  obtain ⟨xs, rfl⟩ := hs
  refine ⟨c, RlL.one ?_, h3⟩
  simp only [V.Rl]
  exact ⟨xs.toList, rfl, h1⟩
end
end Go.XL
namespace Go.XL
open Go.Proofs
set_option maxRecDepth 100000
set_option maxHeartbeats 8000000
theorem small_of_not_big {c : Club} (h : bigS c = false) : c.Small := by
  have h := not_big h
  have h1 : ¬ 10 < c.places.length := fun e => h (.inl e)
  have h2 : ¬ 50 < c.members.length := fun e => h (.inr (.inl e))
  have h3 : ¬ 25 < c.rounds.length := fun e => h (.inr (.inr (.inl e)))
  refine ⟨by omega, by omega, by omega, fun s hs => ?_⟩
  have h4 : ¬ BigT s := fun e => h (.inr (.inr (.inr ⟨s, hs, e⟩)))
  refine ⟨?_, ?_, ?_, ?_, ?_, ?_⟩ <;> first | (intro t ht; refine Nat.le_of_lt_succ (Nat.lt_of_not_le fun e => h4 ?_)) | (refine Nat.le_of_lt_succ (Nat.lt_of_not_le fun e => h4 ?_))
  all_goals first
    | exact .inl (by omega)
    | exact .inr (.inl (by omega))
    | exact .inr (.inr (.inl (by omega)))
    | exact .inr (.inr (.inr (.inl ⟨t, ht, by omega⟩)))
    | exact .inr (.inr (.inr (.inr (.inl ⟨t, ht, by omega⟩))))
    | exact .inr (.inr (.inr (.inr (.inr ⟨t, ht, by omega⟩))))
structure NextOk (p : Club × List Int) : Prop where
  small : p.1.Small
  tab : zss p.1
  ids : ∀ m ∈ p.1.members, In64 m.id
  len : p.2.length ≤ 1000000
end Go.XL
namespace Go.XL
open Go.Proofs
set_option maxRecDepth 100000
set_option maxHeartbeats 8000000
structure SeatOk (p : Club × List (List Int)) : Prop where
  small : p.1.Small
  len : p.2.length ≤ 1000000
  rows : ∀ t ∈ p.2, t.length ≤ 1000000
theorem seatS_small (c : Club) (hs : c.Small) (T : List (List Int)) (hT : T.length ≤ 1000000) (ht : ∀ t ∈ T, t.length ≤ 1000000) : (zir c T).1.Small := by
  have h0 : noClub.Small := ⟨by simp [noClub], by simp [noClub], by simp [noClub], fun s h => by cases h⟩
  rw [zir]
  split
  · exact h0
  split
  · exact h0
  split
  · exact h0
  · rename_i h1 _ _
    obtain ⟨_, _, k3⟩ := zel (Decidable.not_not.1 h1)
    exact znj hs (by omega) hT ht
theorem clubSeats0_pc (c : Club) (T : List (List Int)) (nums : List Int) (round table : Int) (hr : In64 round) (ht : In64 table) :
    PC Try.prog 9 [c.val, rows T, ints nums, I round, I table] (Bo true) := by
  have hz := clubOf_m (newX nums)
  refine DC.of_run Try.func9 rfl Try.ntmps9 Try.results9 (by simp) (fun _ => ?_); simp only [zan, zas, go_sem, Nat.zero_add, Nat.reduceAdd]
  refine DS.bnd (t := 1) yG (.inl rfl) (fun hb1 => ?_); simp only [List.length_map] at hb1
  cases hbig : bigS c with
  | true =>
    have hb := big_pc c
    rw [hbig] at hb
    repeat' (first | (with_reducible first | refine DS.fltS yU yU yE ?_ | refine DS.opsNil ?_ | refine DS.seq ?_ | refine DS.regionL ?_ | (refine DS.cE yE ?_; refine CG.yes ?_) | (refine DS.gE yU yE ?_; refine GG.sT ?_)) | refine DS.pcS inferInstance (hb) yR yT ?_ | refine DS.pcS inferInstance (znb) yR yT ?_ | (refine DS.boxF (t := 5) yU yE yU ?_; simp only [zbk, zcd, zbi, zbu, zbf, zaz, zbp, zbb, zca, zcc, zbq, zcb, zbt, zbs]) | refine DS.retT [] yE trivial ?_ | fail)
    rfl
  | false =>
  have hb := big_pc c
  rw [hbig] at hb
  have hsm := small_of_not_big hbig
  clear hbig
  by_cases hl : (20 : Int) < (T.length : Int)
  · repeat' (first | (with_reducible first | refine DS.fltS yU yU yE ?_ | refine DS.opsNil ?_ | refine DS.seq ?_ | refine DS.regionL ?_ | (refine DS.cE yE ?_; refine CG.yes ?_) | (refine DS.gE yU yE ?_; refine GG.run ?_)) | refine DS.pcS inferInstance (hb) yR yT ?_ | refine DS.pcS inferInstance (znb) yR yT ?_ | (refine DS.boxF (t := 5) yU yE yU ?_; simp only [zbk, zcd, zbi, zbu, zbf, zaz, zbp, zbb, zca, zcc, zbq, zcb, zbt, zbs]) | refine DS.retT [] yE trivial ?_ | fail)
    rfl
  repeat' (first | (with_reducible first | refine DS.fltS yU yU yE ?_ | refine DS.opsNil ?_ | refine DS.seq ?_ | refine DS.regionL ?_ | (refine DS.cE yE ?_; refine CG.no ?_) | (refine DS.gE yU yE ?_; refine GG.run ?_) | refine DS.block ?_ | refine DS.skip ?_) | refine DS.pcS inferInstance (hb) yR yT ?_ | (refine DS.boxF (t := 5) yU yE yU ?_; simp only [zbk, zcd, zbi, zbu, zbf, zaz, zbp, zbb, zca, zcc, zbq, zcb, zbt, zbs]) | fail)
  clear hb
  refine DS.loopK [1, 2, 3, 4, 5] (by (simp only [go_sem, Nat.reduceEqDiff, ↓reduceIte]; exact rfl)) (fun (i : Nat) => [(11, I i)]) (fun (i : Nat) => i ≤ T.length ∧ ∀ j (h : j < T.length), j < i → T[j].length ≤ 10) (fun (i : Nat) => T.length - i) 0 yS ⟨Nat.zero_le _, fun j h h2 => by omega⟩ (fun i B hI hB => ?_); try dsimp only at hI hB; simp only [zap, zau]
  obtain ⟨g1, g2⟩ := hI
  have H := Box.mk g2
  clear g2
  by_cases hi : (i : Int) < (T.length : Int)
  · have hi' : i < T.length := by omega
    by_cases h10 : (10 : Int) < (T[i].length : Int)
    · repeat' (first | (with_reducible first | refine DS.fltS yU yU yE ?_ | refine DS.opsNil ?_ | refine DS.seq ?_ | refine DS.regionL ?_ | (refine DS.cE yE ?_; refine CG.yes ?_) | refine DS.block ?_ | refine DS.skip ?_) | refine DS.pcS inferInstance (znb) yR yT ?_ | refine DS.retT [] yE trivial ?_ | fail)
      rfl
    · repeat' (first | (with_reducible first | refine DS.fltS yU yU yE ?_ | refine DS.opsNil ?_ | refine DS.seq ?_ | refine DS.regionL ?_ | (refine DS.cE yE ?_; first | refine CG.yes ?_ | refine CG.no ?_) | refine DS.blk ?_ | refine DS.block ?_ | refine DS.skip ?_) | fail)
      refine DS.back (hB (i + 1) _ _ (by omega) ⟨by omega, fun j h h2 => ?_⟩ yS yS (fun d o e => by exact e))
      by_cases hj : j = i
      · subst hj; omega
      · exact H.out j h (by omega)
  have hTr : ∀ t ∈ T, t.length ≤ 1000000 := fun t h => by
    obtain ⟨j, hj, rfl⟩ := List.mem_iff_getElem.1 h
    exact Nat.le_trans (H.out j hj (by omega)) (by omega)
  clear H hB
  repeat' (first | (with_reducible first | refine DS.fltS yU yU yE ?_ | refine DS.opsNil ?_ | refine DS.seq ?_ | refine DS.regionL ?_ | (refine DS.cE yE ?_; refine CG.no ?_) | refine DS.exit yU ?_) | fail)
  refine DS.call (dst := some 53) [] [] inferInstance (made_dc nums) yR yH (fun _ _ e => by cases e) (fun _ _ e => by cases e) ?_
  rintro v S0 ⟨bs, rfl, rfl⟩ -
  simp only [zap, zau, zcj]
  generalize (zek (newX nums) 3).1 = d at hz ⊢
  generalize (zek (newX nums) 3).2 = x
  repeat' (first | with_reducible refine DS.fltS yU yU yE ?_ | fail)
  refine DS.allocS yR yU yU (fun b8 h8 => ?_)
  have e0 : (Value.agg #[.int .i64 0, .int .i64 0, .int .i64 0, .int .i64 0, .slice none 0 0, .bool false, .slice none 0 0, .slice none 0 0]).cells.toList.map V.v = zci := rfl
  rw [e0]
  have n8 : ¬ bs = b8 := fun e => by simp only [zaa, e, ↓reduceIte] at h8; first | (cases h8; done) | (split at h8 <;> cases h8)
  have n8' : ¬ b8 = bs := fun e => n8 e.symm
  clear h8
  have hsz := hz.size
  have hdm : d.Small := hz.small
  have hpl : (zch d d.rounds.length).length ≤ 1000000 := by
    unfold zch
    repeat' split
    all_goals first | (simp; done) | skip
    rw [zge, List.length_map]
    have := List.length_filter_le (fun m : Member => m.plays d.rounds.length) d.members
    have := hz.mem
    omega
  repeat' (first | (with_reducible first | refine DS.fltS yU yU yE ?_ | refine DS.opsNil ?_ | refine DS.seq ?_) | (refine DS.store yR yE yE yE yE yU (by exact ⟨by with_unfolding_all rfl, by (try simp only [List.length_map, List.length_append, List.length_set, List.length_replicate, List.length_cons, List.length_nil]); omega⟩) ?_; simp only [zbm, zaq, zat, zbz, zbn, zbl, zbh]; try simp only [zak, zac, zad, Nat.reduceEqDiff, ↓reduceIte, zag, zah, zao, zaf, zae, zal, zai]) | fail)
  simp only [Club.cells_eq, zci, List.map_cons, List.map_nil, zca, zbb, zaq, zat, zbx, zbr, setS, n8, n8', ↓reduceIte, Nat.reduceAdd, Nat.zero_add]
  have hms := zns bs x (zch d d.rounds.length) d.size (by omega) hpl
  have hsub := zgg d.size x (zch d d.rounds.length)
  have hml := hsub.length_le
  generalize zcs d.size x (zch d d.rounds.length) = M at *
  obtain ⟨ids2, x'⟩ := M
  dsimp only at hms hsub hml
  clear hsub
  have hts := zng bs x' ids2 d.size (by omega) (by omega)
  have htl := zkt d.size x' ids2
  have htr : ∀ t ∈ (zda d.size x' ids2).1, (t.length : Int) = d.size := zjj d.size (by omega) _ x' ids2 [] (fun t h => by cases h)
  have hmem := hz.mem
  have hpx : (zch d d.rounds.length).length ≤ d.members.length := by
    unfold zch
    repeat' split
    all_goals first | (simp; done) | (rw [zge, List.length_map]; exact List.length_filter_le ..)
  generalize zda d.size x' ids2 = M2 at *
  obtain ⟨T2, x2⟩ := M2
  dsimp only at hts htl htr
  (refine DS.drawX (id := 9) (bs := bs) (x := x) (by simp only [zaa, zce, ↓reduceIte, *]) [0, 1, 2, 3, 4, 5, 6, 7, 8, 9, 10, 11] 12 (by kernel_rfl) zct (by simp only [zay, zbc, zbd, zbe, zax]; exact rfl) (by simp only [zav, zaw, List.drop_nil]; exact rfl) ?_; simp only [zbj, zbv, ↓reduceIte, *])
  repeat' (first | (with_reducible first | refine DS.fltS yU yU yE ?_ | refine DS.opsNil ?_ | refine DS.seq ?_ | refine DS.regionL ?_ | refine DS.block ?_) | (refine DS.bsl yU yE yE ?_; simp only [go_sem, Nat.zero_add, Nat.reduceAdd]) | (refine DS.scS inferInstance (hts) yR yF yF ?_; (try simp only [zbj, zbv, ↓reduceIte, *])) | with_reducible refine DD.fltS yU yU yU yE ?_ | (with_reducible refine DD.nil ?_; simp only [zap, zau]) | (refine DD.scS inferInstance (hms) yU yF yF ?_; simp only [zbo, zbw, Nat.reduceEqDiff, ↓reduceIte]; (try simp only [zbj, zbv, ↓reduceIte, *])) | refine DD.pcS inferInstance (znp d hdm d.rounds.length) yU yF ?_; simp only [zbo, zbw, Nat.reduceEqDiff, ↓reduceIte] | fail)
  refine DS.reS (S' := []) (fun _ _ e => by cases e) ?_
  have hX : ∃ X : List (Club × List (List Int)), [mC c, mC d, mC d] = X.map (fun p => mC p.1) ∧ [[V.lst (List.map cR T)], [V.lst (List.map cR T2)], [V.lst (List.map cR T)]] = X.map (fun p => [V.lst (List.map cR p.2)]) ∧ X.length ≤ 1000 ∧ ∀ p ∈ X, SeatOk p := by
    refine ⟨[(c, T), (d, T2), (d, T)], rfl, rfl, by simp, fun p hp => ?_⟩
    simp only [List.mem_cons, List.not_mem_nil, or_false] at hp
    rcases hp with rfl | rfl | rfl
    · exact ⟨hsm, by dsimp only; omega, hTr⟩
    · exact ⟨hdm, by dsimp only; omega, fun t h => by have := htr t h; omega⟩
    · exact ⟨hdm, by dsimp only; omega, hTr⟩
  obtain ⟨X, hX1, hX2, hX3, hX4⟩ := hX
  simp only [mC] at hX1
  rw [hX1, hX2]
  have i1 := zvy round 4 hr (by omega)
  have i2 := zvy table 4 ht (by omega)
  clear hX1 hX2 hz hml hpl hsz hdm hsm hl hms hts htl htr hmem hpx hTr hr ht hi g1
  generalize round % 4 = r1 at *
  generalize table % 4 = t1 at *
  refine DS.loopK [3, 4, 15, 16] (by (simp only [go_sem, Nat.reduceEqDiff, ↓reduceIte]; exact rfl)) (fun (i : Nat) => [(17, I i)]) (fun (i : Nat) => i ≤ X.length) (fun (i : Nat) => X.length - i) 0 yS (Nat.zero_le _) (fun i B hI hB => ?_); try dsimp only at hI hB; simp only [zap, zau]
  have hB0 := hB
  clear hB
  by_cases hi : (i : Int) < (X.length : Int)
  · have hi' : i < X.length := by omega
    obtain ⟨o1, o2, o3⟩ := hX4 _ (List.getElem_mem hi')
    have cp := copy_pc' X[i].1 o1
    have sp := seatP_pc X[i].1 o1 X[i].2 o2 o3
    have sr := seatR_pc X[i].1 o1 X[i].2 o2 o3
    have s1 := zri X[i].1 o1
    have s2 := zri _ (seatS_small X[i].1 o1 X[i].2 o2 o3)
    have C1 := CountedP_pc X[i].1 o1
    have C2 := CountedR_pc X[i].1 o1
    have HC := Box.mk (And.intro C1 C2)
    clear C1 C2 o1 o2 o3
    generalize zir X[i].1 X[i].2 = A at *
    repeat' (first | (with_reducible first | refine DS.fltS yU yU yE ?_ | refine DS.opsNil ?_ | refine DS.seq ?_ | refine DS.regionL ?_ | (refine DS.cE yE ?_; refine CG.yes ?_) | refine DS.block ?_ | refine DS.skip ?_) | (refine DS.letF (t := 18) yU yE yU (fun _ => by (simp (disch := omega) only [go_sem, dopV, Option.map_some, Option.map_none, Option.bind_some, Option.bind_none, ↓reduceIte, Nat.reduceEqDiff, Nat.reduceLT, Nat.reduceLeDiff, Nat.reduceAdd, Nat.reduceMul, Nat.reduceSub, Nat.zero_add, Nat.add_zero, Nat.zero_le, Nat.zero_mul, Nat.mul_one, Nat.one_mul, Int.natCast_zero, Int.toNat_zero, Int.reduceToNat, Int.reduceLT, Int.reduceLE, Int.reduceEq, decide_true, decide_false, true_and, and_true, Bool.and_self, Bool.and_true, Bool.true_and, Bool.not_true, Bool.not_false, IntWalk.toNatUp, IntWalk.iteOmega, IntWalk.i64_in, Option.isSome_some, not_true_eq_false, not_false_eq_true, Option.getD_some, Option.getD_none, Int.toNat_natCast, List.length_map, List.getElem?_map, List.getElem?_eq_getElem, V.flat, V.one, List.all_cons, List.all_nil, *]; exact rfl)) yE yU (by exact ⟨by with_unfolding_all rfl, by with_unfolding_all decide⟩) (fun _ => by simp only [go_sem, Nat.reduceEqDiff, ↓reduceIte]) ?_; simp only [go_sem]) | refine DS.pcS inferInstance (cp) yR yT ?_ | refine DS.drawL (id := 15) [0, 1, 2, 3, 4, 5, 6, 7, 8, 9, 10] 11 (by kernel_rfl) zct (by simp only [zay, zbc, zbd, zbe, zax]; exact rfl) (by simp only [zav, zaw, List.drop_nil]; exact rfl) ?_ | (with_reducible first | refine DD.fltS yU yU yU yE ?_ | refine DD.flt1S yU yU yU yU yE ?_) | refine DD.pcS inferInstance (sp) yU yT ?_; simp only [zbo, zbw, Nat.reduceEqDiff, ↓reduceIte] | fail)
    refine DD.alloc yR yU yU (fun u a1 a2 => ?_)
    clear a1 a2
    rw [e0]
    refine DD.store (b := u) (off := 0) (m := 8) (cl := zci) (T' := 26) yR yH yG yU (by simp only [zaa, ↓reduceIte]) yR ⟨by rfl, by decide⟩ (fun _ => MpOk.nil) ?_
    simp only [zak, zad, Nat.reduceEqDiff, ↓reduceIte, zae, zbm, setS, zaq, zat, zbr, zbx, zci, zbh, List.map_cons, List.map_nil, zca, zbb, Nat.reduceAdd, Nat.zero_add]
    refine DD.nil ?_
    simp only [zap, zau]
    repeat' (first | (with_reducible first | refine DS.fltS yU yU yE ?_ | refine DS.opsNil ?_ | refine DS.seq ?_) | refine DS.drawL (id := 16) [0, 1, 2, 3, 4, 5, 6, 7, 8, 9, 10, 11, 12, 13] 14 (by kernel_rfl) zct (by simp only [zay, zbc, zbd, zbe, zax]; exact rfl) (by simp only [zav, zaw, List.drop_nil]; exact rfl) ?_ | (with_reducible first | refine DD.fltS yU yU yU yE ?_ | refine DD.flt1S yU yU yU yU yE ?_) | refine DD.pcS inferInstance (sr) yU yT ?_; simp only [zbo, zbw, Nat.reduceEqDiff, ↓reduceIte] | fail)
    refine DD.alloc yR yU yU (fun w a1 a2 => ?_)
    have m1 : ¬ u = w := fun e => by simp only [zaa, e, ↓reduceIte] at a2; cases a2
    have m1' : ¬ w = u := fun e => m1 e.symm
    clear a1 a2
    rw [e0]
    refine DD.store (b := w) (off := 0) (m := 8) (cl := zci) (T' := 26) yR yH yG yU (by simp only [zaa, ↓reduceIte]) yR ⟨by rfl, by decide⟩ (fun _ => MpOk.nil) ?_
    simp only [zak, zad, Nat.reduceEqDiff, ↓reduceIte, zae, zbm, setS, zaq, zat, zbr, zbx, zci, zbh, List.map_cons, List.map_nil, zca, zbb, Nat.reduceAdd, Nat.zero_add]
    refine DD.nil ?_
    simp only [zap, zau]
    repeat' (first | (with_reducible first | refine DS.fltS yU yU yE ?_ | refine DS.opsNil ?_ | refine DS.seq ?_ | refine DS.regionL ?_ | (refine DS.cE yE ?_; refine CG.no ?_) | (refine DS.gE yU yE ?_; refine GG.run ?_) | refine DS.block ?_ | refine DS.skip ?_) | (refine DS.bsl yU yE yE ?_; simp only [go_sem, Nat.zero_add, Nat.reduceAdd]) | refine DS.pcS inferInstance (s1) yR yF ?_ | refine DS.pcS inferInstance (i1) yR yF ?_ | refine DS.pcS inferInstance (i2) yR yF ?_ | refine DS.drawL (id := 17) [0, 1, 2, 3, 4, 5, 6, 7, 8, 9, 10, 11, 12, 13, 14] 15 (by kernel_rfl) zct (by simp only [zay, zbc, zbd, zbe, zax]; exact rfl) (by simp only [zav, zaw, List.drop_nil]; exact rfl) ?_ | (with_reducible first | refine DD.fltS yU yU yU yE ?_ | (refine DD.gE yU yE ?_; refine DGG.run ?_) | refine DD.nil0 ?_) | refine DD.pcV0 inferInstance (s2) yU yF ?_ | fail)
    refine DS.reS (S' := []) (fun _ _ e => by cases e) ?_
    clear cp sp sr s1 s2
    have hY : ∃ Y : List (Int × Int), [[I round], [I r1]] = Y.map (fun p => [I p.1]) ∧ [[I table], [I t1]] = Y.map (fun p => [I p.2]) ∧ Y.length = 2 := ⟨[(round, table), (r1, t1)], rfl, rfl, rfl⟩
    obtain ⟨Y, hY1, hY2, hY3⟩ := hY
    rw [hY1, hY2]
    clear hY1 hY2
    refine DS.loopK [3, 4, 15, 16, 17, 18, 23, 24] (by (simp only [go_sem, Nat.reduceEqDiff, ↓reduceIte]; exact rfl)) (fun (k : Nat) => [(25, I k)]) (fun (k : Nat) => k ≤ 2) (fun (k : Nat) => 2 - k) 0 yS (Nat.zero_le _) (fun k B hI hB => ?_); try dsimp only at hI hB; simp only [zap, zau]
    by_cases hk : (k : Int) < 2
    · have hk' : k < Y.length := by omega
      have c1 := HC.out.1 Y[k].1 Y[k].2
      have c2 := HC.out.2 Y[k].1 Y[k].2
      have ke := zod (zgi X[i].1 Y[k].1 Y[k].2).1 (zgi X[i].1 Y[k].1 Y[k].2).1
      rw [decide_eq_true rfl] at ke
      generalize zgi X[i].1 Y[k].1 Y[k].2 = B1 at *
      repeat' (first | (with_reducible first | refine DS.fltS yU yU yE ?_ | refine DS.opsNil ?_ | refine DS.seq ?_ | refine DS.regionL ?_ | (refine DS.cE yE ?_; first | refine CG.yes ?_ | refine CG.no ?_) | (refine DS.gE yU yE ?_; refine GG.run ?_) | refine DS.blk ?_ | refine DS.block ?_ | refine DS.skip ?_) | refine DS.pcS inferInstance (ke) yR yT ?_ | refine DS.drawL (id := 23) [0, 1, 2, 3, 4, 5, 6, 7, 8, 9, 10, 11, 12, 13] 14 (by kernel_rfl) zct (by simp only [zay, zbc, zbd, zbe, zax]; exact rfl) (by simp only [zav, zaw, List.drop_nil]; exact rfl) ?_ | refine DS.drawL (id := 24) [0, 1, 2, 3, 4, 5, 6, 7, 8, 9, 10, 11, 12, 13, 14, 15, 16] 17 (by kernel_rfl) zct (by simp only [zay, zbc, zbd, zbe, zax]; exact rfl) (by simp only [zav, zaw, List.drop_nil]; exact rfl) ?_ | (with_reducible first | refine DD.fltS yU yU yU yE ?_ | refine DD.flt1S yU yU yU yU yE ?_ | refine DD.nil0 ?_) | refine DD.pcS inferInstance (c1) yU yT ?_; simp only [zbo, zbw, Nat.reduceEqDiff, ↓reduceIte] | refine DD.pcS inferInstance (c2) yU yT ?_; simp only [zbo, zbw, Nat.reduceEqDiff, ↓reduceIte] | fail)
      refine DS.back (hB (k + 1) _ _ (by omega) (by omega) yS yS (fun q o e => by exact e))
    · repeat' (first | (with_reducible first | refine DS.fltS yU yU yE ?_ | refine DS.opsNil ?_ | refine DS.seq ?_ | refine DS.regionL ?_ | (refine DS.cE yE ?_; refine CG.no ?_) | refine DS.blk ?_ | refine DS.exit yU ?_) | fail)
      refine DS.back (hB0 (i + 1) _ _ (by omega) (by omega) yS yS (fun q o e => by exact e))
  · repeat' (first | (with_reducible first | refine DS.fltS yU yU yE ?_ | refine DS.opsNil ?_ | refine DS.seq ?_ | refine DS.regionL ?_ | (refine DS.cE yE ?_; refine CG.no ?_) | refine DS.exit yU ?_) | refine DS.pcS inferInstance (znb) yR yT ?_ | refine DS.retT [] yE trivial ?_ | fail)
    rfl
theorem clubSeats_pc (c : Club) (T : List (List Int)) (nums : List Int) (round table : Int) (h : ClubIn c) (hr : In64 round) (ht : In64 table) : PC Try.prog 9 [c.val, rows T, ints nums, I round, I table] (Bo true) :=
  clubSeats0_pc c T nums round table hr ht
end Go.XL
namespace Go.Proofs.Ytdkmlmmelehcbaa
open Go.XL Go.ChangeShapes Go.WideShapes Go.ChangeAt Go.RowKit
theorem own : ownKnob Try.prog.godebug = none := by kernel_rfl
theorem laid : laidOutB Try.prog = true := by kernel_rfl
set_option maxRecDepth 100000 in
theorem clubSeats_lifted (os : Os) (started : os.Started) (H : Type) (enc : TypeId × Value → H) :
    ReturnsInHanded {} Try.checked os 9 .any (Rows.clubSeatsSpec.pre6 enc Try.prog Try.f9 Rows.clubSeatsRow.domain false) (Rows.clubSeatsSpec.post enc Try.prog Try.f9 false true false false) := by
  refine returnsInHanded_of_change (C := Try.checked) own started (by kernel_rfl) Try.func9
    (ChangeSpec.witness6 (enc := enc) (C := Try.checked) false ⟨#[], #[.agg #[.int .i64 0, .int .i64 0, .int .i64 0, .int .i64 0, .slice none 0 0, .bool false, .slice none 0 0, .slice none 0 0], .slice none 0 0, .slice none 0 0, .int .i64 0, .int .i64 0], []⟩ 8 (by kernel_rfl) (by kernel_rfl) (by kernel_rfl) (by kernel_rfl)) ?_
  intro W base args ds gs before hval0 hW hcnd _
  have hW' := hW
  obtain ⟨p, q, hA, -, -, -, -⟩ := hW'
  have hval : ∀ (j : Nat) t v, Try.f9.params[j]? = some t → args[j]? = some v → Value.okWide Try.prog W .any base t v := hval0
  have hA1 : DataW.TrodAll enc Try.prog W 0 (fun _ => true) true Try.f9.params.toList args.toList ds p := hA
  rw [Try.params9] at hA1 hval
  obtain ⟨v0, vs0, d0, ds0, p0, q0, hargs, rfl, -, h0, r0⟩ := trodAll_cons hA1
  obtain ⟨v1, vs1, d1, ds1, p1, q1, rfl, rfl, -, h1, r1⟩ := trodAll_cons r0
  obtain ⟨v2, vs2, d2, ds2, p2, q2, rfl, rfl, -, h2, r2⟩ := trodAll_cons r1
  obtain ⟨v3, vs3, d3, ds3, p3, q3, rfl, rfl, -, h3, r3⟩ := trodAll_cons r2
  obtain ⟨v4, vs4, d4, ds4, p4, q4, rfl, rfl, -, h4, r4⟩ := trodAll_cons r3
  obtain ⟨rfl, rfl, -⟩ := trodAll_nil r4
  obtain rfl : args = #[v0, v1, v2, v3, v4] := by cases args; simp_all
  obtain ⟨fuel0, hf0⟩ := h0
  obtain ⟨x0, e0, w0⟩ := open_club hf0
  obtain ⟨a1, len1, cap1, rfl⟩ := okWide_slice Try.underlying35 (hval 1 35 v1 rfl rfl)
  obtain ⟨fuel1, hf1⟩ := h1
  obtain ⟨x1, e1, -, w1⟩ := openR _ _ _ hf1
  obtain ⟨a2, len2, cap2, rfl⟩ := okWide_slice Try.underlying22 (hval 2 22 v2 rfl rfl)
  obtain ⟨fuel2, hf2⟩ := h2
  obtain ⟨x2, e2, -, w2⟩ := zfo (sz := 1) Try.underlying22 (by kernel_rfl) (zrm Try.underlying3) _ _ _ hf2
  obtain ⟨x3, rfl, -, -, w3⟩ := open_int Try.underlying3 (hval 3 3 v3 rfl rfl) h3
  obtain ⟨x4, rfl, -, -, w4⟩ := open_int Try.underlying3 (hval 4 3 v4 rfl rfl) h4
  refine (PC.door (clubSeats_pc x0 x1 x2 x3 x4 w0 (ztb w3) (ztb w4)) W (xs := [v0, .slice a1 len1 cap1, .slice a2 len2 cap2, .int .i64 x3, .int .i64 x4]) (RlL.cons_one e0 (RlL.cons_one e1 (RlL.cons_one e2 (RlL.cons_one (RlL.one V.Rl_v) (RlL.one V.Rl_v)))))).mono fun e W' ⟨he, k⟩ => ⟨_, he, ?_⟩
  exact post_law hW rfl rfl rfl Try.underlying4 laid (by rw [show Try.f9.params = _ from Try.params9]; intro t ht; simp only [List.mem_cons, List.not_mem_nil, or_false] at ht; rcases ht with rfl | rfl | rfl | rfl | rfl <;> exact ⟨by kernel_rfl, of_decide_eq_true (by kernel_rfl)⟩) k
theorem clubSeats_holds : Rows.ClubSeatsSaid :=
  OpenClaim.holds_of_wide 9 Try.f9 rfl rfl rfl rfl rfl rfl rfl ⟨rfl, rfl, rfl, rfl, rfl⟩ rfl rfl rfl rfl rfl (by kernel_rfl) Try.func9 (by kernel_rfl)
    (of_decide_eq_true (by kernel_rfl)) (by unfold Func.isWrapper; first | (rw [if_pos (by decide +kernel)]; kernel_rfl) | (rw [if_neg (by decide +kernel)]; exact ⟨rfl, rfl⟩))
    (fun os started H enc _ => clubSeats_lifted os started H enc)
end Go.Proofs.Ytdkmlmmelehcbaa
