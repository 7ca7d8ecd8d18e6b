/- A part of a program logic over the kit's walk rules, and contracts of functions in it. Conditions: as each theorem says. -/
import Derived.Test.YtdkmlmmelehcbaaN3
set_option linter.all false
namespace Go.XL
theorem yU {p : Prop} (h : p := by with_unfolding_all rfl) : p := h
theorem yR {p : Prop} (h : p := by rfl) : p := h
theorem yE {p : Prop} (h : p := by (simp (disch := omega) only [go_sem, dopV, Option.map_some, Option.map_none, Option.bind_some, Option.bind_none, ↓reduceIte, Nat.reduceEqDiff, Nat.reduceLT, Nat.reduceLeDiff, Nat.reduceAdd, Nat.reduceMul, Nat.reduceSub, Nat.zero_add, Nat.add_zero, Nat.zero_le, Nat.zero_mul, Nat.mul_one, Nat.one_mul, Int.natCast_zero, Int.toNat_zero, Int.reduceToNat, Int.reduceLT, Int.reduceLE, Int.reduceEq, decide_true, decide_false, true_and, and_true, Bool.and_self, Bool.and_true, Bool.true_and, Bool.not_true, Bool.not_false, IntWalk.toNatUp, IntWalk.iteOmega, IntWalk.i64_in, Option.isSome_some, not_true_eq_false, not_false_eq_true, Option.getD_some, Option.getD_none, Int.toNat_natCast, List.length_map, List.getElem?_map, List.getElem?_eq_getElem, V.flat, V.one, List.all_cons, List.all_nil, *]; exact rfl)) : p := h
theorem yG {p : Prop} (h : p := by (simp (disch := omega) only [go_sem, dopV, Option.map_some, Option.map_none, Option.bind_some, Option.bind_none, ↓reduceIte, Nat.reduceEqDiff, Nat.reduceLT, Nat.reduceLeDiff, Nat.reduceAdd, Nat.reduceMul, Nat.reduceSub, Nat.zero_add, Nat.add_zero, Nat.zero_le, Nat.zero_mul, Nat.mul_one, Nat.one_mul, Int.natCast_zero, Int.toNat_zero, Int.reduceToNat, Int.reduceLT, Int.reduceLE, Int.reduceEq, decide_true, decide_false, true_and, and_true, Bool.and_self, Bool.and_true, Bool.true_and, Bool.not_true, Bool.not_false, IntWalk.toNatUp, IntWalk.iteOmega, IntWalk.i64_in, Option.isSome_some, not_true_eq_false, not_false_eq_true, Option.getD_some, Option.getD_none, Int.toNat_natCast, List.length_map, List.getElem?_map, List.getElem?_eq_getElem, V.flat, V.one, List.all_cons, List.all_nil]; exact rfl)) : p := h
theorem yT {p : Prop} (h : p := by (simp (disch := omega) only [go_sem, dopV, Option.map_some, Option.map_none, Option.bind_some, Option.bind_none, ↓reduceIte, Nat.reduceEqDiff, Nat.reduceLT, Nat.reduceLeDiff, Nat.reduceAdd, Nat.reduceMul, Nat.reduceSub, Nat.zero_add, Nat.add_zero, Nat.zero_le, Nat.zero_mul, Nat.mul_one, Nat.one_mul, Int.natCast_zero, Int.toNat_zero, Int.reduceToNat, Int.reduceLT, Int.reduceLE, Int.reduceEq, decide_true, decide_false, true_and, and_true, Bool.and_self, Bool.and_true, Bool.true_and, Bool.not_true, Bool.not_false, IntWalk.toNatUp, IntWalk.iteOmega, IntWalk.i64_in, Option.isSome_some, not_true_eq_false, not_false_eq_true, Option.getD_some, Option.getD_none, Int.toNat_natCast, List.length_map, List.getElem?_map, List.getElem?_eq_getElem, V.flat, V.one, List.all_cons, List.all_nil, *]; try exact rfl)) : p := h
theorem yH {p : Prop} (h : p := by (simp (disch := omega) only [go_sem, dopV, Option.map_some, Option.map_none, Option.bind_some, Option.bind_none, ↓reduceIte, Nat.reduceEqDiff, Nat.reduceLT, Nat.reduceLeDiff, Nat.reduceAdd, Nat.reduceMul, Nat.reduceSub, Nat.zero_add, Nat.add_zero, Nat.zero_le, Nat.zero_mul, Nat.mul_one, Nat.one_mul, Int.natCast_zero, Int.toNat_zero, Int.reduceToNat, Int.reduceLT, Int.reduceLE, Int.reduceEq, decide_true, decide_false, true_and, and_true, Bool.and_self, Bool.and_true, Bool.true_and, Bool.not_true, Bool.not_false, IntWalk.toNatUp, IntWalk.iteOmega, IntWalk.i64_in, Option.isSome_some, not_true_eq_false, not_false_eq_true, Option.getD_some, Option.getD_none, Int.toNat_natCast, List.length_map, List.getElem?_map, List.getElem?_eq_getElem, V.flat, V.one, List.all_cons, List.all_nil]; try exact rfl)) : p := h
theorem yF {p : Prop} (h : p := by (simp (disch := omega) only [go_sem, dopV, Option.map_some, Option.map_none, Option.bind_some, Option.bind_none, ↓reduceIte, Nat.reduceEqDiff, Nat.reduceLT, Nat.reduceLeDiff, Nat.reduceAdd, Nat.reduceMul, Nat.reduceSub, Nat.zero_add, Nat.add_zero, Nat.zero_le, Nat.zero_mul, Nat.mul_one, Nat.one_mul, Int.natCast_zero, Int.toNat_zero, Int.reduceToNat, Int.reduceLT, Int.reduceLE, Int.reduceEq, decide_true, decide_false, true_and, and_true, Bool.and_self, Bool.and_true, Bool.true_and, Bool.not_true, Bool.not_false, IntWalk.toNatUp, IntWalk.iteOmega, IntWalk.i64_in, Option.isSome_some, not_true_eq_false, not_false_eq_true, Option.getD_some, Option.getD_none, Int.toNat_natCast, List.length_map, List.getElem?_map, List.getElem?_eq_getElem, V.flat, V.one, List.all_cons, List.all_nil, *]; first | done | exact rfl)) : p := h
theorem yS {p : Prop} (h : p := by simp (disch := omega) only [go_sem, dopV, Option.map_some, Option.map_none, Option.bind_some, Option.bind_none, ↓reduceIte, Nat.reduceEqDiff, Nat.reduceLT, Nat.reduceLeDiff, Nat.reduceAdd, Nat.reduceMul, Nat.reduceSub, Nat.zero_add, Nat.add_zero, Nat.zero_le, Nat.zero_mul, Nat.mul_one, Nat.one_mul, Int.natCast_zero, Int.toNat_zero, Int.reduceToNat, Int.reduceLT, Int.reduceLE, Int.reduceEq, decide_true, decide_false, true_and, and_true, Bool.and_self, Bool.and_true, Bool.true_and, Bool.not_true, Bool.not_false, IntWalk.toNatUp, IntWalk.iteOmega, IntWalk.i64_in, Option.isSome_some, not_true_eq_false, not_false_eq_true, Option.getD_some, Option.getD_none, Int.toNat_natCast, List.length_map, List.getElem?_map, List.getElem?_eq_getElem, V.flat, V.one, List.all_cons, List.all_nil, zdw, zeg, subS_cons, subS_nil, and_self, Int.natCast_add, Int.natCast_one, Int.natCast_zero, List.map_append, ints, rows, *]) : p := h
end Go.XL
namespace Go.XL
def zeb (most : Int) : List Int → Int → Int
  | [], want => if want = 0 then 0 else 12
  | n :: l, want => if ((-most) ≤ n ∧ n ≤ most) then zeb most l (want - n) else 2
def zhg (size : Int) (l : List Int) (most want : Int) : Int := if (l.length : Int) = size then zeb most l want else 3
def zjs (c : Club) (l : List Int) : Int := zhg c.size l 1099511627776 (c.size * c.start)
def zdl : List Member → Int → Int
  | [], _ => 0
  | m :: l, last => if m.id ≤ last then 11 else
      if ¬ ((-10000) ≤ m.hand ∧ m.hand ≤ 10000) then 2 else if ¬ (0 ≤ m.from_ ∧ m.from_ ≤ 20) then 2 else if m.to = -1 then zdl l m.id else if (m.from_ ≤ m.to ∧ m.to ≤ 20) then zdl l m.id else 2
def zed (l : List Member) : Int := if l.length > 40 then 8 else zdl l 0
def zgy (c : Club) (id : Int) : Int := idxF (fun m => decide (m.id = id)) c.members 0
def Club.mem (c : Club) (i : Int) : Member := c.members.getD i.toNat ⟨0, 0, 0, 0⟩
def zhc : Option Int → Int → Bool
  | none, _ => false
  | some p, id => decide (id ≤ p)
def zdn (c : Club) (round : Int) : List Int → Option Int → Int
  | [], _ => 0
  | id :: l, pre => if zgy c id < 0 then 7 else if (c.mem (zgy c id)).plays round = false then 10 else
      if zhc pre id = true then 11 else zdn c round l (some id)
def zdv (c : Club) (round : Int) : List (List Int) → List Int → Int → Int
  | [], _, _ => 0
  | t :: l, seated, first => if (t.length : Int) ≠ c.size then 3 else
      if zdn c round t none ≠ 0 then zdn c round t none else
      if t.any (fun id => decide (id ∈ seated)) = true then 12 else
      if t.headD 0 ≤ first then 11 else zdv c round l (seated ++ t) (t.headD 0)
def noSit : Sitting := ⟨[], [], []⟩
def Club.round (c : Club) (i : Int) : Sitting := c.rounds.getD i.toNat noSit
def zem (c : Club) (round : Int) : Int := zdv c round (c.round round).tables [] 0
def zjw (c : Club) (round table : Int) : Bool :=
  decide ((0 ≤ round ∧ round ≤ (c.rounds.length : Int) - 1) ∧ (0 ≤ table ∧ table ≤ ((c.round round).points.length : Int) - 1) ∧ 0 < ((c.round round).points.getD table.toNat []).length)
def zej (c : Club) : List (List Int) → Int
  | [] => 0
  | l :: r => if l.length = 0 then zej c r else if zjs c l ≠ 0 then zjs c l else zej c r
def zdx (c : Club) (round : Int) : List Ruling → Int
  | [] => 0
  | x :: r => if ¬ ((max 0 (round - c.window)) ≤ x.round ∧ x.round ≤ round) then 2 else if zjw c x.round x.table = false then 7 else if zjs c x.points ≠ 0 then zjs c x.points else zdx c round r
def zfh (c : Club) (round : Int) : Int := if (c.round round).points.length ≠ (c.round round).tables.length then 3 else zej c (c.round round).points
def zew (c : Club) (round : Int) : Int := if (c.round round).rulings.length > 20 then 8 else zdx c round (c.round round).rulings
def zhv (c : Club) (round : Int) : Int := if zfh c round ≠ 0 then zfh c round else zew c round
def zdi (c : Club) : Nat → Nat → Int
  | _, 0 => 0
  | i, n + 1 => if zem c i ≠ 0 then zem c i else if zhv c i ≠ 0 then zhv c i else zdi c (i + 1) n
def zfd (c : Club) : Int :=
  if ¬ (3 ≤ c.size ∧ c.size ≤ 4) then 2 else if ¬ (0 ≤ c.start ∧ c.start ≤ 1000000) then 2 else if ¬ ((-1000000) ≤ c.absent ∧ c.absent ≤ 1000000) then 2 else if ¬ (0 ≤ c.window ∧ c.window ≤ 20) then 2 else
  zhg c.size c.places 1000000 0
def zdy (c : Club) : Int :=
  if zfd c ≠ 0 then zfd c else if zed c.members ≠ 0 then zed c.members else if c.rounds.length > 20 then 8 else zdi c 0 c.rounds.length
def zjc (c : Club) (round : Int) : List Int := (c.members.filter (fun m => m.plays round)).map Member.id
def zcn (c : Club) (round : Int) : List Int := if round < 0 then [] else if zdy c ≠ 0 then [] else zjc c round
structure Sitting.Small (s : Sitting) : Prop where
  tables : s.tables.length ≤ 1000000
  points : s.points.length ≤ 1000000
  rulings : s.rulings.length ≤ 1000000
  table : ∀ t ∈ s.tables, t.length ≤ 1000000
  point : ∀ t ∈ s.points, t.length ≤ 1000000
  ruling : ∀ x ∈ s.rulings, x.points.length ≤ 1000000
structure Club.Small (c : Club) : Prop where
  places : c.places.length ≤ 1000000
  members : c.members.length ≤ 1000000
  rounds : c.rounds.length ≤ 1000000
  round : ∀ s ∈ c.rounds, s.Small
theorem Club.round_at (c : Club) {i : Nat} (h : i < c.rounds.length) : c.round (i : Int) = c.rounds[i] := by
  simp [Club.round, List.getD_eq_getElem?_getD, List.getElem?_eq_getElem h]
theorem Club.Small.at {c : Club} (s : c.Small) {i : Nat} (h : i < c.rounds.length) : c.rounds[i].Small := s.round _ (List.getElem_mem h)
theorem idxF_lt {α : Type} (p : α → Bool) : ∀ (l : List α) (i : Nat), idxF p l i = -1 ∨ ∃ j x, l[j]? = some x ∧ p x = true ∧ idxF p l i = (i + j : Nat)
  | [], i => .inl rfl
  | x :: r, i => by
    simp only [idxF]
    by_cases h : p x = true
    · rw [if_pos h]; exact .inr ⟨0, x, rfl, h, by simp⟩
    · rw [if_neg h]
      rcases idxF_lt p r (i + 1) with e | ⟨j, y, e1, e2, e3⟩
      · exact .inl e
      · exact .inr ⟨j + 1, y, by simpa using e1, e2, by rw [e3]; congr 1; omega⟩
theorem zga {c : Club} {id : Int} (h : ¬ zgy c id < 0) : ∃ (i : Nat) (hi : i < c.members.length), zgy c id = i ∧ c.members[i].id = id ∧ c.mem (zgy c id) = c.members[i] := by
  rcases idxF_lt (fun m : Member => decide (m.id = id)) c.members 0 with e | ⟨j, x, e1, e2, e3⟩
  · exact absurd (show zgy c id < 0 by rw [zgy, e]; decide) h
  · obtain ⟨hj, rfl⟩ := List.getElem?_eq_some_iff.1 e1
    have e4 : zgy c id = j := by rw [zgy, e3]; simp
    exact ⟨j, hj, e4, by simpa using e2, by rw [e4]; simp [Club.mem, List.getD_eq_getElem?_getD, List.getElem?_eq_getElem hj]⟩
theorem zll {m : Member} (h : m.to = -1 ∨ 0 ≤ m.to) (r : Int) : m.playsR r = m.plays r := by
  have e : decide (m.to = -1) = decide (m.to < 0) := by
    rcases h with h | h
    · simp [h]
    · simp only [decide_eq_decide]; omega
  simp [Member.playsR, Member.plays, e]
structure Club.Fine (c : Club) : Prop where
  pos : ∀ m ∈ c.members, 0 < m.id
  to : ∀ m ∈ c.members, m.to = -1 ∨ 0 ≤ m.to
theorem zeu : ∀ {l : List Member} {last : Int}, 0 ≤ last → zdl l last = 0 → (∀ m ∈ l, last < m.id) ∧ ∀ m ∈ l, m.to = -1 ∨ 0 ≤ m.to
  | [], _, _, _ => ⟨fun _ h => (List.not_mem_nil h).elim, fun _ h => (List.not_mem_nil h).elim⟩
  | m :: l, last, h0, h => by
    simp only [zdl] at h
    split at h
    · cases h
    rename_i h1
    split at h
    · cases h
    split at h
    · cases h
    rename_i h3
    replace h3 := Decidable.not_not.1 h3
    split at h
    · rename_i h4
      have ih := zeu (l := l) (last := m.id) (by omega) h
      refine ⟨fun x hx => ?_, fun x hx => ?_⟩
      · rcases List.mem_cons.1 hx with rfl | hx
        · omega
        · have := ih.1 x hx; omega
      · rcases List.mem_cons.1 hx with rfl | hx
        · exact .inl h4
        · exact ih.2 x hx
    · split at h
      · rename_i h4 h5
        have ih := zeu (l := l) (last := m.id) (by omega) h
        refine ⟨fun x hx => ?_, fun x hx => ?_⟩
        · rcases List.mem_cons.1 hx with rfl | hx
          · omega
          · have := ih.1 x hx; omega
        · rcases List.mem_cons.1 hx with rfl | hx
          · exact .inr (by omega)
          · exact ih.2 x hx
      · cases h
theorem zth {c : Club} (h : zed c.members = 0) : c.Fine := by
  unfold zed at h
  split at h
  · cases h
  · have := zeu (Int.le_refl 0) h
    exact ⟨this.1, this.2⟩
end Go.XL
namespace Go.XL
def w64 (n : Int) : Int := IntKind.i64.wrap n
def metT (a b : Int) : List (List Int) → Nat
  | [] => 0
  | t :: r => (if a ≠ b ∧ a ∈ t ∧ b ∈ t then 1 else 0) + metT a b r
def zmd (a b : Int) : List Sitting → Nat
  | [] => 0
  | s :: r => metT a b s.tables + zmd a b r
def metS (c : Club) (a b : Int) : Nat := zmd a b c.rounds
def metX (c : Club) (a b : Int) : Int := if zdy c ≠ 0 then 0 else metS c a b
def zcm (met : Int → Int → Bool) (t : List Int) (id : Int) : Bool := t.all fun a => !met a id
def zeq (st : List Int → Int → Bool) (f : List Int → List Int → List (List Int)) (t : List Int) : List Int → List (List Int)
  | [] => []
  | id :: r => (if st t id = true then f (t ++ [id]) r else []) ++ zeq st f t r
def zgi (st : List Int → Int → Bool) : Nat → List Int → List Int → List (List Int)
  | 0, t, _ => [t]
  | n + 1, t, ids => zeq st (zgi st n) t ids
def zii (met : Int → Int → Bool) (t : List Int) : Int → Int → Bool := fun a b => if a ∈ t ∧ b ∈ t ∧ a ≠ b then true else met a b
def tryL (budget : Int) (round : Nat) (rec : List Int → Int → Int × Int × List (Nat × List Int)) : List (List Int) → Int → Int × Int × List (Nat × List Int)
  | [], steps => (2, steps, [])
  | t :: r, steps => if steps = budget then (3, steps, []) else
      if (rec t (w64 (steps + 1))).1 = 2 then tryL budget round rec r (rec t (w64 (steps + 1))).2.1
      else ((rec t (w64 (steps + 1))).1, (rec t (w64 (steps + 1))).2.1, (round, t) :: (rec t (w64 (steps + 1))).2.2)
def srch (size : Nat) (budget : Int) (rounds : List (List Int)) : Nat → (Int → Int → Bool) → Nat → List Int → Int → Int × Int × List (Nat × List Int)
  | 0, _, _, _, steps => (2, steps, [])
  | n + 1, met, round, [], steps => if round + 1 = rounds.length then (1, steps, []) else srch size budget rounds n met (round + 1) (rounds.getD (round + 1) []) steps
  | n + 1, met, round, f :: fr, steps => tryL budget round (fun t s => srch size budget rounds n (zii met t) round ((f :: fr).filter fun id => !decide (id ∈ t)) s) (zgi (zcm met) (size - 1) [f] fr) steps
def zkv (rounds : List (List Int)) : Nat := 1 + rounds.length + (rounds.map List.length).sum
def met0 (c : Club) : Int → Int → Bool := fun a b => decide (0 < metS c a b)
def runS (c : Club) (rounds : List (List Int)) (budget : Int) : Int × Int × List (Nat × List Int) := srch c.size.toNat budget rounds (zkv rounds) (met0 c) 0 (rounds.headD []) 0
def zjn (c : Club) (ids : List Int) : List (List Int) × Int :=
  if zdy c ≠ 0 then ([], zdy c) else if ids.length = 0 then ([], 6) else if ids.length > 12 then ([], 8) else
  if zdn c c.rounds.length ids none ≠ 0 then ([], zdn c c.rounds.length ids none) else
  if 0 < (ids.length : Int).tmod c.size then ([], 3) else
  if (runS c [ids] (-1)).1 ≠ 1 then ([], 12) else ((runS c [ids] (-1)).2.2.map Prod.snd, 0)
def zhd (l : List Int) (p : Int) : Nat := (l.filter fun x => decide (p < x)).length
def zdc (l : List Int) (p : Int) : Nat := (l.filter fun x => decide (x = p)).length
end Go.XL
namespace Go.XL
abbrev W : Type := Int → Int → Int
def addP (n : Int) (w : W) (a b : Int) : W := fun x y => if x = a ∧ y = b then w64 (w a b + n) else w x y
def addR (n : Int) (b : Int) : List Int → W → W
  | [], w => w
  | a :: r, w => addR n b r (addP n w a b)
def addT (n : Int) : List Int → List Int → W → W
  | _, [], w => w
  | pre, b :: r, w => addT n (pre ++ [b]) r (addR n b pre w)
def zoo : List (List Int) → W → W
  | [], w => w
  | t :: r, w => zoo r (addT 1 [] t w)
def addS : List Sitting → W → W
  | [], w => w
  | s :: r, w => addS r (zoo s.tables w)
def zom (c : Club) : W := addS c.rounds fun _ _ => 0
end Go.XL
namespace Go.XL
theorem zqk {n : Int} (h : -9223372036854775808 ≤ n ∧ n ≤ 9223372036854775807) : w64 n = n := by
  have h1 : (2 : Int) ^ 64 = 18446744073709551616 := by decide
  have h2 : (2 : Int) ^ 63 = 9223372036854775808 := by decide
  simp only [w64, IntKind.wrap, IntKind.bits, IntKind.signed, Bool.true_and, decide_eq_true_eq, Nat.reduceSub, h1, h2]
  split <;> omega
theorem addR_at (n b : Int) : ∀ (pre : List Int) (w : W) (x y : Int), pre.Nodup → addR n b pre w x y = if x ∈ pre ∧ y = b then w64 (w x y + n) else w x y
  | [], w, x, y, _ => by simp [addR]
  | a :: r, w, x, y, h => by
    obtain ⟨h1, h2⟩ := List.nodup_cons.1 h
    rw [addR, addR_at n b r _ x y h2]
    by_cases hx : x = a
    · subst hx
      rw [if_neg (fun h => h1 h.1), addP]
      by_cases hy : y = b
      · subst hy; rw [if_pos ⟨rfl, rfl⟩, if_pos ⟨List.mem_cons_self .., rfl⟩]
      · rw [if_neg (fun h => hy h.2), if_neg (fun h => hy h.2)]
    · have e : addP n w a b x y = w x y := by rw [addP, if_neg (fun h => hx h.1)]
      rw [e]
      by_cases h3 : x ∈ r ∧ y = b
      · rw [if_pos h3, if_pos ⟨List.mem_cons_of_mem _ h3.1, h3.2⟩]
      · rw [if_neg h3, if_neg (fun h => h3 ⟨(List.mem_cons.1 h.1).resolve_left hx, h.2⟩)]
theorem zog (n : Int) : ∀ (rest pre : List Int) (w : W) (x y : Int), (pre ++ rest).Pairwise (· < ·) → addT n pre rest w x y = if x ∈ pre ++ rest ∧ y ∈ rest ∧ x < y then w64 (w x y + n) else w x y
  | [], pre, w, x, y, _ => by simp [addT]
  | b :: r, pre, w, x, y, h => by
    have h' : ((pre ++ [b]) ++ r).Pairwise (· < ·) := by simpa using h
    have hp := (List.pairwise_append.1 h)
    have hnd : pre.Nodup := List.Pairwise.imp (fun h => by omega) hp.1
    have hlt : ∀ z ∈ pre, z < b := fun z hz => hp.2.2 z hz b (List.mem_cons_self ..)
    have hr := (List.pairwise_cons.1 hp.2.1).1
    rw [addT, zog n r (pre ++ [b]) _ x y h', addR_at n b pre w x y hnd]
    have hm : x ∈ (pre ++ [b]) ++ r ↔ x ∈ pre ++ b :: r := by simp
    by_cases hy : y = b
    · subst hy
      have hyr : ¬ y ∈ r := fun h => by have := hr y h; omega
      rw [if_neg (fun h => hyr h.2.1)]
      by_cases hx : x ∈ pre
      · rw [if_pos ⟨hx, rfl⟩, if_pos ⟨List.mem_append_left _ hx, List.mem_cons_self .., hlt x hx⟩]
      · rw [if_neg (fun h => hx h.1), if_neg]
        rintro ⟨h1, -, h3⟩
        rcases List.mem_append.1 h1 with h1 | h1
        · exact hx h1
        · rcases List.mem_cons.1 h1 with h1 | h1
          · omega
          · have := hr x h1; omega
    · have e : (if x ∈ pre ∧ y = b then w64 (w x y + n) else w x y) = w x y := if_neg (fun h => hy h.2)
      rw [e]
      by_cases h1 : x ∈ pre ++ b :: r ∧ y ∈ b :: r ∧ x < y
      · rw [if_pos h1, if_pos ⟨hm.2 h1.1, (List.mem_cons.1 h1.2.1).resolve_left hy, h1.2.2⟩]
      · rw [if_neg h1, if_neg (fun h => h1 ⟨hm.1 h.1, List.mem_cons_of_mem _ h.2.1, h.2.2⟩)]
def AscTs (T : List (List Int)) : Prop := ∀ t ∈ T, t.Pairwise (· < ·)
theorem zpv (a b : Int) : ∀ T, metT a b T ≤ T.length
  | [] => Nat.le_refl _
  | t :: r => by
    have := zpv a b r
    simp only [metT, List.length_cons]
    split <;> omega
theorem zxa : ∀ (T : List (List Int)) (w : W) (x y : Int), AscTs T → (0 ≤ w x y ∧ w x y + T.length ≤ 9223372036854775807) → zoo T w x y = if x < y then w x y + metT x y T else w x y
  | [], w, x, y, _, _ => by simp [zoo, metT]
  | t :: r, w, x, y, h, hb => by
    have ht := zog 1 t [] w x y (by simpa using h t (List.mem_cons_self ..))
    simp only [List.nil_append] at ht
    simp only [List.length_cons] at hb
    have hw : addT 1 [] t w x y = if x < y then w x y + (if x ≠ y ∧ x ∈ t ∧ y ∈ t then 1 else 0 : Nat) else w x y := by
      rw [ht]
      by_cases hxy : x < y
      · rw [if_pos hxy]
        by_cases hm : x ∈ t ∧ y ∈ t
        · rw [if_pos ⟨hm.1, hm.2, hxy⟩, if_pos ⟨by omega, hm⟩, zqk (by omega)]; rfl
        · rw [if_neg (fun h => hm ⟨h.1, h.2.1⟩), if_neg (fun h => hm h.2)]; simp
      · rw [if_neg hxy, if_neg (fun h => hxy h.2.2)]
    have hbd : 0 ≤ addT 1 [] t w x y ∧ addT 1 [] t w x y + r.length ≤ 9223372036854775807 := by
      rw [hw]; split
      · split <;> omega
      · omega
    rw [zoo, zxa r _ x y (fun s hs => h s (List.mem_cons_of_mem _ hs)) hbd, hw]
    by_cases hxy : x < y
    · simp only [if_pos hxy, metT]; split <;> omega
    · simp only [if_neg hxy]
theorem addS_at : ∀ (R : List Sitting) (w : W) (x y : Int), (∀ s ∈ R, AscTs s.tables) → (0 ≤ w x y ∧ w x y + (R.map fun s => s.tables.length).sum ≤ 9223372036854775807) → addS R w x y = if x < y then w x y + zmd x y R else w x y
  | [], w, x, y, _, _ => by simp [addS, zmd]
  | s :: r, w, x, y, h, hb => by
    simp only [List.map_cons, List.sum_cons] at hb
    have h1 := zxa s.tables w x y (h s (List.mem_cons_self ..)) ⟨hb.1, by omega⟩
    have h2 := zpv x y s.tables
    have hbd : 0 ≤ zoo s.tables w x y ∧ zoo s.tables w x y + (r.map fun s => s.tables.length).sum ≤ 9223372036854775807 := by
      rw [h1]; split <;> omega
    rw [addS, addS_at r _ x y (fun s hs => h s (List.mem_cons_of_mem _ hs)) hbd, h1]
    by_cases hxy : x < y
    · simp only [if_pos hxy, zmd]; omega
    · simp only [if_neg hxy]
end Go.XL
namespace Go.XL
def xorI (k : IntKind) (a b : Int) : Int := k.wrap ((BitVec.ofInt k.bits a ^^^ BitVec.ofInt k.bits b).toNat)
def zad (x : Int) : Int := IntKind.u64.wrap (IntKind.u64.wrap (x * 15074714826142052245) + 7146057691288625177)
def mixX (x : Int) : Int := (xorI .u64 x (x.fdiv 2147483648)).fdiv 1048576
def zak (x n : Int) : Int := if n < 1 then 0 else mixX (zad x) % n
def zmc (x n : Int) : Bool := decide (zak x n = 0)
def zcu (x lo hi : Int) : Int := lo + zak x (hi - lo + 1)
theorem wrapU_bd (m : Int) : 0 ≤ IntKind.u64.wrap m ∧ IntKind.u64.wrap m < 18446744073709551616 := by
  have h1 : (2 : Int) ^ 64 = 18446744073709551616 := by decide
  simp only [IntKind.wrap, IntKind.bits, IntKind.signed, Bool.false_and, Bool.false_eq_true, if_false, h1]
  omega
theorem wrapU_id {m : Int} (h : 0 ≤ m ∧ m < 18446744073709551616) : IntKind.u64.wrap m = m := by
  have h1 : (2 : Int) ^ 64 = 18446744073709551616 := by decide
  simp only [IntKind.wrap, IntKind.bits, IntKind.signed, Bool.false_and, Bool.false_eq_true, if_false, h1]
  omega
theorem mixX_bd (x : Int) : 0 ≤ mixX x ∧ mixX x < 18446744073709551616 := by
  have h := wrapU_bd ((BitVec.ofInt IntKind.u64.bits x ^^^ BitVec.ofInt IntKind.u64.bits (x.fdiv 2147483648)).toNat)
  have e : xorI .u64 x (x.fdiv 2147483648) = IntKind.u64.wrap ((BitVec.ofInt IntKind.u64.bits x ^^^ BitVec.ofInt IntKind.u64.bits (x.fdiv 2147483648)).toNat) := rfl
  rw [mixX, e, Int.fdiv_eq_ediv_of_nonneg _ (by decide)]
  omega
theorem zcr (x n : Int) : 0 ≤ zak x n ∧ (1 ≤ n → zak x n < n) ∧ (n < 1 → zak x n = 0) := by
  rw [zak]
  split
  · exact ⟨Int.le_refl _, fun h => by omega, fun _ => rfl⟩
  · exact ⟨Int.emod_nonneg _ (by omega), fun h => Int.emod_lt_of_pos _ (by omega), fun h => by omega⟩
def seedX : List Int → Int → Int
  | [], x => x
  | n :: l, x => seedX l (xorI .u64 (IntKind.u64.wrap (xorI .u64 x (IntKind.u64.wrap n) * 11400714819323198485)) ((IntKind.u64.wrap (xorI .u64 x (IntKind.u64.wrap n) * 11400714819323198485)).fdiv 536870912))
def newX (l : List Int) : Int := seedX l 2685821657736338717
end Go.XL
namespace Go.XL
def znf (size : Int) : Nat → Int → List Int → List Int × Int
  | 0, x, l => (l, x)
  | n + 1, x, l => if l.length = 0 then (l, x) else
      if (l.length : Int) % size ≠ 0 then znf size n (zad x) (l.take (zak x l.length).toNat ++ l.drop ((zak x l.length).toNat + 1))
      else if zmc x 9 = true then znf size n (zad (zad x)) (l.take (zak (zad x) l.length).toNat ++ l.drop ((zak (zad x) l.length).toNat + 1)) else (l, zad x)
def zcy (size x : Int) (l : List Int) : List Int × Int := znf size (l.length + 1) x l
theorem zne (size : Int) : ∀ (n : Nat) (x : Int) (l : List Int), (znf size n x l).1.Sublist l
  | 0, x, l => List.Sublist.refl _
  | n + 1, x, l => by
    have key : ∀ i : Nat, (l.take i ++ l.drop (i + 1)).Sublist l := fun i => by
      conv => rhs; rw [← List.take_append_drop i l]
      exact List.Sublist.append (List.Sublist.refl _) (by
        rw [show l.drop (i + 1) = (l.drop i).drop 1 by rw [List.drop_drop, Nat.add_comm]]
        exact List.drop_sublist _ _)
    simp only [znf]
    split
    · exact List.Sublist.refl _
    split
    · exact (zne size n _ _).trans (key _)
    split
    · exact (zne size n _ _).trans (key _)
    · exact List.Sublist.refl _
theorem zgh (size x : Int) (l : List Int) : (zcy size x l).1.Sublist l := zne size _ _ _
end Go.XL
namespace Go.XL
def zmb (n : Int) (out : List Int) : Nat → Nat
  | 0 => 0
  | a + 1 => if n < out.getD a 0 then zmb n out a else a + 1
def insS (out : List Int) (n : Int) : List Int := out.take (zmb n out out.length) ++ n :: out.drop (zmb n out out.length)
def zik (l : List Int) : List Int := l.foldl insS []
def tabG (size : Int) : Nat → Int → List Int → List Int → List Int × List Int × Int
  | 0, x, t, rest => (t, rest, x)
  | n + 1, x, t, rest => if (t.length : Int) < size then tabG size n (zad x) (t ++ [rest.getD (zak x rest.length).toNat 0]) (rest.take (zak x rest.length).toNat ++ rest.drop ((zak x rest.length).toNat + 1)) else (t, rest, x)
def zlj (size : Int) : Nat → Int → List Int → List (List Int) → List (List Int) × Int
  | 0, x, rest, out => (out, x)
  | n + 1, x, rest, out => if size ≤ (rest.length : Int) then zlj size n (tabG size size.toNat x [rest.headD 0] (rest.drop 1)).2.2 (tabG size size.toNat x [rest.headD 0] (rest.drop 1)).2.1 (out ++ [zik (tabG size size.toNat x [rest.headD 0] (rest.drop 1)).1]) else (out, x)
def zdt (size x : Int) (l : List Int) : List (List Int) × Int := zlj size (l.length + 1) x l []
def znr (start : Int) : Nat → Int → List Int → List Int × Int
  | 0, x, out => (out, x)
  | n + 1, x, out => znr start n (zad x) (out ++ [start + (zak x 7 - 3) * 10])
def zev (size start x : Int) : List Int × Int := ((size * start - (znr start (size.toNat - 1) x []).1.sum) :: (znr start (size.toNat - 1) x []).1, (znr start (size.toNat - 1) x []).2)
end Go.XL
namespace Go.XL
def RC (P : Program) (f : FuncId) (args : List V) (S : Sto) (v : V) : Prop := DC P f args S fun u S' => u = v ∧ S' = S
section
variable {P : Program} {n : Nat} {r : Rr} {Q : VEnv → Sto → Prop} {k : List Fr} {E0 E : VEnv} {S S0 S1 : Sto} {Mp : List MpE} {ops l : List Oper} {t : Nat} {dst : Option Tmp} {op : Op} {ty : TypeId} {pos : String} {af : Array Edge} {ts : Array TypeId}
theorem DS.rcS {g : FuncId} {args : List V} {xs : Array Operand} {fn : Func} {v : V} (hf : FnOk P g fn) (hc : RC P g args S v) (hd : decide (t < n) = true) (he : (evsV (evV E) xs.toList).map (·.map V.peek) = some args)
    (q : DS P n r Q (.ops ops l :: k) ((t, v) :: E) S) : DS P n r Q (.ops ops (⟨some t, .call { callee := .value (.func g), args := xs, argTypes := ts }, ty, pos, af, none⟩ :: l) :: k) E S := by
  refine DS.call (dst := some t) S [] hf hc hd he (fun _ _ e => e) (fun _ _ e => by cases e) ?_
  rintro u S' ⟨rfl, rfl⟩ -
  simpa [putV] using q
theorem DS.callA {g : FuncId} {args : List V} {xs : Array Operand} {fn : Func} {R : V → Sto → Prop} (hf : FnOk P g fn) (hc : DC P g args S R) (hd : decide (t < n) = true) (he : (evsV (evV E) xs.toList).map (·.map V.peek) = some args)
    (q : ∀ u S', R u S' → DS P n r Q (.ops ops l :: k) ((t, u) :: E) S') : DS P n r Q (.ops ops (⟨some t, .call { callee := .value (.func g), args := xs, argTypes := ts }, ty, pos, af, none⟩ :: l) :: k) E S := by
  refine DS.call (dst := some t) S [] hf hc hd he (fun _ _ e => e) (fun _ _ e => by cases e) ?_
  intro u S' h _
  simpa [putV] using q u S' h
theorem DS.retA {rs : List ResultVar} {R : V → Sto → Prop} {vs : List V} (h1 : resV P E S rs = some vs) (h3 : R (tupV vs) S) (hk : popR k = none := by rfl) : DS P n r (FinV P rs R) (.code .ret :: k) E S :=
  DS.ret hk ⟨vs, S, h1, fun _ _ e => e, h3⟩
theorem DS.nilA {rs : List ResultVar} {R : V → Sto → Prop} {vs : List V} (h1 : resV P E S rs = some vs) (h3 : R (tupV vs) S) : DS P n r (FinV P rs R) [] E S :=
  DS.nil ⟨vs, S, h1, fun _ _ e => e, h3⟩
theorem DS.reS {S' : Sto} (h : ∀ b o, zaa S' b = some o → zaa S b = some o) (q : DS P n r Q k E S') : DS P n r Q k E S := DS.weaken (fun _ _ e => e) h q
theorem DS.loopS {α : Type} {c : Code} (ts : List Nat) {F : VEnv} (hF : selV E ts = F) (Ex : α → VEnv) (Sx : α → Sto) (I : α → Prop) (μ : α → Nat) (x0 : α) (hE : subV (Ex x0) E) (hS : ∀ b o, zaa (Sx x0) b = some o → zaa S b = some o) (hI : I x0)
    (body : ∀ (x : α) (B : VEnv → Sto → Prop), I x → (∀ x' E' S', μ x' < μ x → I x' → subV (Ex x') E' → subV F E' → (∀ b o, zaa (Sx x') b = some o → zaa S' b = some o) → B E' S') → DS P n r Q (.code c :: .back B :: k) (Ex x ++ F) (Sx x)) : DS P n r Q (.code (.loop c) :: k) E S := by
  subst hF
  refine DS.loop (fun m E' S' => ∃ x, μ x = m ∧ I x ∧ subV (Ex x ++ selV E ts) E' ∧ ∀ b o, zaa (Sx x) b = some o → zaa S' b = some o) (μ x0) ⟨x0, rfl, hI, zkh hE (zmg E ts), hS⟩ ?_
  rintro m E' S' ⟨x, rfl, h1, h2, h3⟩
  exact DS.weaken (zdf h2) h3 (body x _ h1 fun x' E2 S2 a b c d e => ⟨_, a, x', rfl, b, zkh c d, e⟩)
theorem DD.last {o : Oper} {T : V → VEnv → Sto → Prop} (hg : o.guard = none) (hc : zdm o = true) (hb : zfq o.op = false) (hd : dok n o.dst = true) (ho : OpS r.v0 P n o E S1 T) (q : ∀ v E' S', T v E' S' → (∀ b o, zaa S0 b = some o → zaa S' b = none) → DS P n r Q k (putV E' o.dst v) (S' ++ S0)) :
    DD P n r Q ops S0 [] [o] k E0 E S1 := fun K0 K D W hv0 hs a SPs hbx hfl hE hp hS0 hz hl hR => by
  show SW P ops.toArray _ W _ [o] SPs a
  unfold SW Front
  rw [if_pos (by simp [Region.wanted, hg]), if_pos hc]
  refine ⟨fun _ y => y, fun _ y => fun F h1 => ∃ v E' S', T v E' S' ∧ RunS P [] D n K hv0 hs S0 (putV E' o.dst v) S' (a.put o.dst y) F h1, ?_, fun _ y ⟨w', hw', hT⟩ => ?_⟩
  · unfold Spec
    rw [if_neg (by simp [hb])]
    have G := fun v E' S' y => RunS.good P [] D n K hv0 hs S0 (putV E' o.dst v) S' (a.put o.dst y)
    refine ⟨rfl, _, rfl, fun y => ⟨fun F h ⟨v, E', S', _, h2⟩ => (G v E' S' y).ext F h h2, fun F h ob ⟨v, E', S', h1, h2⟩ => ⟨v, E', S', h1, (G v E' S' y).push F h ob h2⟩, fun F F' h hF ⟨v, E', S', h1, h2⟩ => ⟨v, E', S', h1, (G v E' S' y).less F F' h hF h2⟩⟩, fun w F hF hw => ?_⟩
    obtain ⟨p1, p2, hv', hold, env', ha', s, p, f, g⟩ := hR F w.heap hF
    obtain ⟨K', hc', s', hprot, hK1, hK2, back⟩ := s.frame fun b o e => (g b o e).2.1
    refine (ho K' D hv' hc' env' a w (hfl.trans p) ha' s').mono fun y w' ⟨hsame, u, E2, S2, hv2, hold2, q1, q2, e1⟩ => ?_
    obtain ⟨hold3, t1, t2⟩ := back q1 q2
    have stay : ∀ b, K'.B b → w'.heap[b]? = w.heap[b]? ∧ hv2 b = hv' b := fun b hb => ⟨by rw [q2.base.2.2 b hb, hK1], by rw [q2.vbase.2 b hb, hK2]⟩
    have hFp : ∀ b, F b → K'.B b := fun b hb => hprot b (p1 b hb).2 (f b hb).1 (by
      have := (f b hb).2; rw [zbv] at this
      cases e : zaa S1 b with
      | none => rfl
      | some o => rw [e] at this; cases this)
    have hSp : ∀ b o, zaa S0 b = some o → K'.B b := fun b o e => hprot b (Nat.lt_of_lt_of_le (g b o e).2.2 p2.1) (s.obj b o (by rw [zbv, (g b o e).2.1]; exact e)).2.1 (g b o e).2.1
    have hsz : w.heap.size ≤ w'.heap.size := by have := q2.base.2.1; rwa [hK1] at this
    refine ⟨hsame, ⟨u, E2, S2, e1, fun b hb => ⟨(p1 b hb).1, Nat.lt_of_lt_of_le (p1 b hb).2 hsz⟩, ⟨Nat.le_trans p2.1 hsz, MpOk.nil⟩, hv2, hold3, _, ha'.put' hd y, t1, p.trans q1, fun b hb => ?_, fun b o e => ?_⟩, fun b o hb eb _ => ?_⟩
    · refine ⟨by rw [(stay b (hFp b hb)).2]; exact (f b hb).1, ?_⟩
      have hb2 := (f b hb).2
      rw [zbv] at hb2 ⊢
      cases e : zaa S2 b with
      | some o => exact absurd (hFp b hb) (q2.obj b o e).1
      | none =>
        cases e1 : zaa S1 b with
        | some o => rw [e1] at hb2; cases hb2
        | none => rw [e1] at hb2; exact hb2
    · obtain ⟨g1, g2, g3⟩ := g b o e
      exact ⟨(stay b (hSp b o e)).1.trans g1, t2 b o e, g3⟩
    · rw [(stay b (hFp b hb)).1]; exact eb
  · intro w2 ⟨v, E', S', h1, h2⟩ hw2
    obtain ⟨_, _, hv, hold, env, ha, s, _, _, hg⟩ := h2
    exact q v E' S' h1 (fun b o e => (hg b o e).2.1) K0 W _ w2 ⟨K, D, hv, hold, env, hbx, ha, s⟩ hw2
theorem DD.mvS {x : Operand} {v : V} (hd : decide (t < n) = true) (hop : op = .move x ∨ op = .assign x) (hx : evV E x = some v) (q : DD P n r Q ops S0 Mp l k (delV t E0) ((t, v) :: zgx E x) S1) :
    DD P n r Q ops S0 Mp (⟨some t, op, ty, pos, af, none⟩ :: l) k E0 E S1 := fun K0 K D W hv0 hs a SPs hbx hfl hE hp hS0 hz hl hR => by
  obtain ⟨w1, hw1, hSP⟩ := hl
  have ev0 : ∀ {F h1}, SPs F h1 → ∃ env, Agree D n env a ∧ ev env x = some (a.eval x) := fun {F h1} hF => by
    obtain ⟨_, _, hv, hold, env, ha, s, _⟩ := hR F h1 hF
    obtain ⟨y, h2, _⟩ := s.rl _ _ hx
    exact ⟨env, ha, by rw [ha.ev h2]; exact h2⟩
  have run : ∀ w : World, (execOp a.eval ⟨some t, op, ty, pos, af, none⟩).run P w = .ok (.value (a.eval x)) w := fun w => by
    obtain ⟨env, ha, h2⟩ := ev0 hSP
    refine zhe ha ?_
    rcases hop with rfl | rfl <;> simp only [dop, h2]
  have hf : zdm ⟨some t, op, ty, pos, af, none⟩ = false := by rcases hop with rfl | rfl <;> rfl
  show SW P ops.toArray _ W _ (_ :: l) SPs a
  unfold SW Front
  rw [if_pos (by simp [Region.wanted]), if_neg (by simp [hf])]
  refine ⟨a.eval x, fun w' _ => run w', ?_⟩
  refine q K0 K D W hv0 hs _ SPs hbx hfl (by simpa [delO] using zsi (dst := some t) hE hd (a.eval x)) hp hS0 hz ⟨w1, hw1, hSP⟩ fun F h1 hF => ?_
  obtain ⟨p1, p2, hv', hold, env', ha', s, p, f, g⟩ := hR F h1 hF
  obtain ⟨y, h2, h3⟩ := s.rl _ _ hx
  have hy : a.eval x = y := ha'.ev h2
  obtain ⟨hold', s', ho⟩ := s.move hx h2 (.slot t)
  rw [hy]
  exact ⟨p1, p2, hv', hold', _, ha'.put' (d := some t) hd y, s'.put (some t) h3 (fun u hu => by cases hu; exact ho), p, f, g⟩
theorem DD.bslS {T len : Nat} {ps : Array (Nat × Operand)} {qs : List (Nat × V)} {e sz : Nat} {c : List V} (hd : decide (t < n) = true) (hp : zgr (evV E) ps.toList = some qs) (hb : bslV P T len qs = some (e, sz, c))
    (q : DD P n r Q ops S0 Mp l k (delV t E0) ((t, .own false e sz (chunk sz len c)) :: E) S1) : DD P n r Q ops S0 Mp (⟨some t, .buildSlice T len ps, ty, pos, af, none⟩ :: l) k E0 E S1 := DD.bsl hd hp hb q
theorem zqh {hv : VH} {p : Option Addr} : ∀ {c : List V} {i : Nat}, RlC hv p i c → RlC hv p i (c.map V.peek)
  | [], _, h => h
  | v :: r, i, h => by
    simp only [RlC, List.map_cons] at h ⊢
    obtain ⟨⟨u, h1, h2, h3⟩, h4⟩ := h
    exact ⟨⟨u, h1, V.peek_Rl h2, h3⟩, zqh h4⟩
theorem zxc {hv : VH} {p : Option Addr} : ∀ {l : List (List V)} {i : Nat}, RlE hv p i l → RlE hv p i (l.map (·.map V.peek))
  | [], _, h => h
  | c :: r, i, h => by
    simp only [RlE, List.map_cons, List.length_map] at h ⊢
    exact ⟨zqh h.1, zxc h.2⟩
theorem DS.nrm {m : Bool} {e sz : Nat} {cl : List (List V)} (hE : zcp E t = some (.own m e sz cl)) (q : DS P n r Q k ((t, .own m e sz (cl.map (·.map V.peek))) :: E) S) : DS P n r Q k E S := fun K W a w ⟨K', D, hv, hold, env, hb, ha, s⟩ hw => by
  obtain ⟨y, e1, e2, e3⟩ := s.slot t _ hE
  refine q K W a w ⟨K', D, hv, hold, env, hb, ha, ⟨s.pre, fun u v e => ?_, s.obj, s.held, s.base, s.vbase⟩⟩ hw
  simp only [zcp] at e
  by_cases hu : t = u
  · subst hu
    simp only [if_true, Option.some.injEq] at e; subst e
    refine ⟨y, e1, ?_, ?_⟩
    · simp only [V.Rl] at e2 ⊢
      obtain ⟨p, cap, s2, h1, h2, h3, h4, h5⟩ := e2
      exact ⟨p, cap, s2, by simpa using h1, by simpa using h2, h3, fun c hc => by obtain ⟨d, hd, rfl⟩ := List.mem_map.1 hc; simpa using h4 d hd, zxc h5⟩
    · rcases e3 with ⟨h1, h2⟩ | ⟨g, cap, cur, pre, h1, h2, h3, h4, h5, h6, h7, h8, h9⟩
      · exact .inl ⟨h1, by rw [h2]; rfl⟩
      · exact .inr ⟨g, cap, cur, pre, by simpa using h1, h2, h3, by simpa using h4, h5, h6, h7, by simpa using h8, fun c hc => by obtain ⟨d, hd, rfl⟩ := List.mem_map.1 hc; simpa using h9 d hd⟩
  · rw [if_neg hu] at e; exact s.slot u v e
end
end Go.XL
namespace Go.XL
section
variable {P : Program} {n : Nat} {r : Rr} {Q : VEnv → Sto → Prop} {k : List Fr} {E0 E : VEnv} {S S0 S1 : Sto} {Mp : List MpE} {ops l : List Oper} {t : Nat} {dst : Option Tmp} {op : Op} {ty : TypeId} {pos : String} {af : Array Edge} {ts : Array TypeId}
theorem DD.mk {T : TypeId} {x y : Operand} {kl kc : IntKind} {i c : Int} {e sz by_ : Nat} {z : Value} (hd : decide (t < n) = true) (hx : evV E x = some (.v (.int kl i))) (hy : evV E y = some (.v (.int kc c))) (ht : tel P T = some (e, sz, by_)) (hz : zbx P e = some z) (ho : zgs z.cells.toList = true) (hzs : z.cells.size = sz)
    (hb : 0 ≤ i ∧ i ≤ c ∧ by_ ≤ 65536 ∧ c ≤ 2147483648)
    (q : ∀ u, zaa S1 u = none → zaa S0 u = none → DD P n r Q ops S0 Mp l k ((t, .v (.slice (some ⟨u, 0, none⟩) i.toNat c.toNat)) :: E0) ((t, .v (.slice (some ⟨u, 0, none⟩) i.toNat c.toNat)) :: E) ((u, .cells (zdp z c.toNat) e) :: S1)) :
    DD P n r Q ops S0 Mp (⟨some t, .makeSlice T x y, ty, pos, af, none⟩ :: l) k E0 E S1 := by
  refine DD.bornO (o := ⟨some t, .makeSlice T x y, ty, pos, af, none⟩) (vb := fun u => .slice (some ⟨u, 0, none⟩) i.toNat c.toNat) rfl rfl rfl hd (fun hv D env a ha rl => ?_) (zhp z c.toNat) q
  obtain ⟨u1, h1, h1'⟩ := rl _ _ hx
  obtain ⟨u2, h2, h2'⟩ := rl _ _ hy
  simp only [V.Rl] at h1' h2'; subst h1'; subst h2'
  have hc : (by_ : Int) * c ≤ 281474976710656 ∧ c ≤ 9223372036854775807 := by
    refine ⟨?_, by omega⟩
    have q1 : (by_ : Int) * c ≤ 65536 * 2147483648 := Int.mul_le_mul (by omega) hb.2.2.2 (by omega) (by omega)
    omega
  have hcells : madeCells z.cells (c.toNat * sz) = ((List.replicate c.toNat z.cells.toList).flatten).toArray := by
    have := zho z.cells c.toNat
    rw [hzs] at this
    unfold madeCells
    rw [← this]
    simp only [Array.toArray_toList]
    rw [hzs]
  refine ⟨(List.replicate c.toNat z.cells.toList).flatten, zkd z c.toNat, zix ho c.toNat, fun w => ?_⟩
  refine zky (P := P) (y := fun u => .slice (some ⟨u, 0, none⟩) i.toNat c.toNat) ha (fun i => by simp [undef]) (fun h1' => ?_) w
  simp only [hop, h1, h2, ht, hz]; rw [if_pos ⟨hb.1, hb.2.1, hc⟩, hcells]
theorem DS.mkS {T : TypeId} {x y : Operand} {kl kc : IntKind} {i c : Int} {e sz by_ : Nat} {z : Value} (hd : decide (t < n) = true) (hx : evV E x = some (.v (.int kl i))) (hy : evV E y = some (.v (.int kc c))) (ht : tel P T = some (e, sz, by_)) (hz : zbx P e = some z) (ho : zgs z.cells.toList = true) (hzs : z.cells.size = sz)
    (hb : 0 ≤ i ∧ i ≤ c ∧ by_ ≤ 65536 ∧ c ≤ 2147483648) (q : ∀ b, zaa S b = none → DS P n r Q (.ops ops l :: k) ((t, .v (.slice (some ⟨b, 0, none⟩) i.toNat c.toNat)) :: E) ((b, .cells (zdp z c.toNat) e) :: S)) :
    DS P n r Q (.ops ops (⟨some t, .makeSlice T x y, ty, pos, af, none⟩ :: l) :: k) E S := DS.mk (dst := some t) hd hx hy ht hz ho hzs hb q
theorem RlL.setL {hv : VH} {cl : List V} {cs : List Value} (h : RlL hv cl cs) {off : Nat} {v : V} {y : Value} (hy : cs[off]? = some y) (hv' : v.Rl hv y) : RlL hv (cl.set off v) cs := by
  have e : cs.set off y = cs := by
    apply List.ext_getElem?
    intro i
    rw [List.getElem?_set]
    by_cases hi : off = i
    · subst hi
      have := (List.getElem?_eq_some_iff.1 hy).1
      rw [if_pos rfl, if_pos this, hy]
    · rw [if_neg hi]
  have := h.set off hv'
  rwa [e] at this
theorem DS.adoptC {b off e sz : Nat} {cl : List V} {T' : TypeId} (hS : zaa S b = some (.cells cl T')) (hc : cl[off]? = some (.v (.slice none 0 0))) (q : DS P n r Q k E (setS b (.cells (cl.set off (.own false e sz [])) T') S)) : DS P n r Q k E S := fun K W a w ⟨K', D, hv, hold, env, hb, ha, s⟩ hw => by
  refine q K W a w ⟨K', D, hv, hold, env, hb, ha, ⟨s.pre, s.slot, fun j o e1 => ?_, s.held, s.base, s.vbase⟩⟩ hw
  rw [zba hS] at e1
  by_cases hj : j = b
  · subst hj
    rw [if_pos rfl] at e1
    simp only [Option.some.injEq] at e1; subst e1
    obtain ⟨o1, o2, cs, o3, o4, o5, o6⟩ := s.obj j _ hS
    obtain ⟨y, hy, hr⟩ := o4.get hc
    simp only [V.Rl] at hr; subst hr
    refine ⟨o1, o2, cs, o3, o4.setL hy (by simp only [V.Rl]; exact ⟨none, 0, 0, rfl, Nat.le_refl _, Nat.zero_le _, by simp, by simp [RlE]⟩), o5, fun i c u hc' hu => ?_⟩
    rw [List.getElem?_set] at hc'
    by_cases hi : off = i
    · rw [if_pos hi] at hc'
      split at hc'
      · simp only [Option.some.injEq] at hc'; subst hc'; subst hi
        rw [hy] at hu; cases hu
        exact .inl ⟨rfl, rfl⟩
      · cases hc'
    · rw [if_neg hi] at hc'
      exact o6 i c u hc' hu
  · rw [if_neg hj] at e1; exact s.obj j o e1
theorem St.moveC {K : Bs} {hv : VH} {hold : Nat → Option Hd} {env : Env} {h : Heap} (s : St K hv hold E S env h) {b off : Nat} {cl : List V} {T' : TypeId} (hS : zaa S b = some (.cells cl T')) {m : Bool} {e sz : Nat} {l : List (List V)} (hc : cl[off]? = some (.own m e sz l)) (z : Hd) :
    ∃ (hold' : Nat → Option Hd) (cs : List Value) (y : Value), h[b]? = some (.cells cs.toArray T' (0, 0)) ∧ cs[off]? = some y ∧ St K hv hold' E (setS b (.cells (cl.set off (.lst l)) T') S) env h ∧ Own hv h hold' z (.own m e sz l) y ∧ (V.own m e sz l).Rl hv y := by
  obtain ⟨o1, o2, cs, o3, o4, o5, o6⟩ := s.obj b _ hS
  obtain ⟨y, hy, hr⟩ := o4.get hc
  have hl : (V.lst l).Rl hv y := by simpa only [V.Rl] using hr
  have key : ∀ hold' : Nat → Option Hd, (∀ g x, hold g = some x → x ≠ .cell b off → hold' g = some x) → (∀ g x, hold' g = some x → ¬ K.B g) → St K hv hold' E (setS b (.cells (cl.set off (.lst l)) T') S) env h := by
    intro hold' hk hB
    refine ⟨s.pre, fun u w e1 => ?_, fun j o e1 => ?_, hB, s.base, s.vbase⟩
    · obtain ⟨y2, r1, r2, r3⟩ := s.slot u w e1
      exact ⟨y2, r1, r2, r3.keep fun g ob a1 a2 a3 => ⟨rfl, rfl, hk g _ a1 (by simp)⟩⟩
    · rw [zba hS] at e1
      by_cases hj : j = b
      · subst hj
        rw [if_pos rfl] at e1
        simp only [Option.some.injEq] at e1; subst e1
        refine ⟨o1, o2, cs, o3, o4.setL hy hl, o5, fun i c u hc' hu => ?_⟩
        rw [List.getElem?_set] at hc'
        by_cases hi : off = i
        · rw [if_pos hi] at hc'
          split at hc'
          · simp only [Option.some.injEq] at hc'; subst hc'; exact trivial
          · cases hc'
        · rw [if_neg hi] at hc'
          exact (o6 i c u hc' hu).keep fun g ob a1 a2 a3 => ⟨rfl, rfl, hk g _ a1 (by simp; omega)⟩
      · rw [if_neg hj] at e1
        obtain ⟨r1, r2, r3⟩ := s.obj j o e1
        exact ⟨r1, r2, Ob.keep r3 (PreV.refl hv) rfl fun g i ob a1 a2 a3 => ⟨rfl, rfl, hk g _ a1 (by simp; intro h; exact absurd h hj)⟩⟩
  rcases o6 off _ y hc hy with o | ⟨g, cap, cur, pr, q1, q2, q3, q4, q5, q6, q7, q8⟩
  · exact ⟨hold, cs, y, o3, hy, key hold (fun _ _ h _ => h) s.held, .inl o, hr⟩
  · refine ⟨fun j => if j = g then some z else hold j, cs, y, o3, hy, key _ (fun g' x h1 h2 => ?_) (fun g' x h1 => ?_), .inr ⟨g, cap, cur, pr, q1, by simp, q3, q4, q5, q6, q7, q8⟩, hr⟩
    · have : g' ≠ g := fun e1 => by subst e1; rw [q2] at h1; cases h1; exact h2 rfl
      simp [this, h1]
    · by_cases hj : g' = g
      · subst hj; exact s.held _ _ q2
      · simp only [hj, if_false] at h1; exact s.held g' x h1
theorem OpS.loadOwn {v0 : VH} {T : TypeId} {p : Operand} {b off mm : Nat} {cl : List V} {T' : TypeId} {m : Bool} {e sz : Nat} {l : List (List V)} (hp : evV E p = some (.v (.pointer (some ⟨b, off, none⟩)))) (hS : zaa S b = some (.cells cl T')) (hc : cl[off]? = some (.own m e sz l)) (ht : tsz P T = some (false, mm)) :
    OpS v0 P n ⟨some t, .load T p, ty, pos, af, none⟩ E S (fun u E' S' => u = .own m e sz l ∧ E' = E ∧ S' = setS b (.cells (cl.set off (.lst l)) T') S) := by
  intro K D hv hold env a w hfl ha s
  obtain ⟨y0, h2, h2'⟩ := s.rl _ _ hp
  simp only [V.Rl] at h2'; subst h2'
  obtain ⟨hold', cs, y, c1, c2, c3, c4, c5⟩ := s.moveC hS hc (.slot t)
  have hr : (execOp a.eval ⟨some t, .load T p, ty, pos, af, none⟩).run P w = .ok (.value y) w := by
    refine zhe ha ?_
    simp only [dop, h2, ldT, ht, ld, Option.bind_some, XL.cell, c1]
    simpa using c2
  unfold Yields
  rw [hr]
  exact ⟨⟨rfl, rfl, rfl⟩, _, _, _, hv, hold', PreV.refl hv, c3.put (some t) c5 (fun u hu => by cases hu; exact c4), rfl, rfl, rfl⟩
theorem DS.loadOwn {T : TypeId} {p : Operand} {b off mm : Nat} {cl : List V} {T' : TypeId} {m : Bool} {e sz : Nat} {cll : List (List V)} (hd : decide (t < n) = true) (hp : evV E p = some (.v (.pointer (some ⟨b, off, none⟩)))) (hS : zaa S b = some (.cells cl T')) (hc : cl[off]? = some (.own m e sz cll)) (ht : tsz P T = some (false, mm))
    (q : DS P n r Q (.ops ops l :: k) ((t, .own m e sz cll) :: E) (setS b (.cells (cl.set off (.lst cll)) T') S)) : DS P n r Q (.ops ops (⟨some t, .load T p, ty, pos, af, none⟩ :: l) :: k) E S := by
  refine DS.step rfl rfl hd (OpS.loadOwn hp hS hc ht) fun u E' S' ⟨h1, h2, h3⟩ => ?_
  subst h1; subst h2; subst h3; exact q
end
end Go.XL
namespace Go.XL
open Go.Proofs
set_option maxRecDepth 100000
set_option maxHeartbeats 4000000
section
variable {P : Program} {n : Nat} {r : Rr} {Q : VEnv → Sto → Prop} {k : List Fr} {E0 E : VEnv} {S S0 S1 : Sto} {Mp : List MpE} {ops l : List Oper} {t : Nat} {dst : Option Tmp} {op : Op} {ty : TypeId} {pos : String} {af : Array Edge} {ts : Array TypeId}
theorem DS.rcVS {cx : Operand} {g : FuncId} {fs cs args : List V} {xs : Array Operand} {fn : Func} {v : V} (hf : FnOk P g fn) (hcx : evV E cx = some (.fn g fs cs)) (hc : RC P g (fs ++ args ++ cs) S v) (hd : decide (t < n) = true)
    (he : (evsV (evV E) xs.toList).map (·.map V.peek) = some args) (q : DS P n r Q (.ops ops l :: k) ((t, v) :: E) S) :
    DS P n r Q (.ops ops (⟨some t, .call { callee := .value cx, args := xs, argTypes := ts }, ty, pos, af, none⟩ :: l) :: k) E S := by
  refine DS.callV (dst := some t) S [] hf hcx hc hd he (fun _ _ e => e) (fun _ _ e => by cases e) ?_
  rintro u S' ⟨rfl, rfl⟩ -
  simpa [putV] using q
end
theorem zou {α β : Type} {f : α → β} {T : List α} {j : List β} {k : Nat} (h : k < T.length) : ((T.map f) ++ j)[k]? = some (f T[k]) := by
  rw [List.getElem?_append_left (by simpa using h), List.getElem?_map, List.getElem?_eq_getElem h]; rfl
structure GR where
  l : List (List V)
  blk : Option (Nat × Nat × List V)
def GR.cell : GR → V
  | ⟨_, none⟩ => .v (.slice none 0 0)
  | ⟨l, some (b, cap, _)⟩ => .v (.slice (some ⟨b, 0, none⟩) l.length cap)
structure GR.At (e sz : Nat) (S : Sto) (l : List (List V)) (b cap : Nat) (j : List V) : Prop where
  look : zaa S b = some (.cells (l.flatten ++ j) e)
  len : l.length * sz + j.length = cap * sz
  le : l.length ≤ cap
  cap : cap ≤ maxLen
  jf : ∀ v ∈ j, v.free = true
  lf : ∀ v ∈ l.flatten, v.free = true
  ll : ∀ c ∈ l, c.length = sz
def GR.Ok (e sz : Nat) (S : Sto) : GR → Prop
  | ⟨l, none⟩ => l = []
  | ⟨l, some (b, cap, j)⟩ => GR.At e sz S l b cap j
theorem GR.cell_copy (g : GR) : g.cell.copy = g.cell := by obtain ⟨l, blk⟩ := g; cases blk <;> rfl
theorem GR.cell_some (l : List (List V)) (b cap : Nat) (j : List V) : GR.cell ⟨l, some (b, cap, j)⟩ = .v (.slice (some ⟨b, 0, none⟩) l.length cap) := rfl
theorem GR.cell_none (l : List (List V)) : GR.cell ⟨l, none⟩ = .v (.slice none 0 0) := rfl
theorem GR.Ok.of {e sz : Nat} {S S' : Sto} {g : GR} (h : g.Ok e sz S) (eq : ∀ b cap j, g.blk = some (b, cap, j) → zaa S' b = zaa S b) : g.Ok e sz S' := by
  obtain ⟨l, blk⟩ := g
  cases blk with
  | none => exact h
  | some x =>
    obtain ⟨b, cap, j⟩ := x
    exact ⟨by rw [eq b cap j rfl]; exact h.look, h.len, h.le, h.cap, h.jf, h.lf, h.ll⟩
theorem GR.split {e sz : Nat} {S : Sto} {g : GR} (h : g.Ok e sz S) : ∃ S0 S1, (∀ b o, zaa S0 b = some o → zaa S b = some o ∧ zaa S1 b = none) ∧ (∀ b o, zaa S1 b = some o → zaa S b = some o) ∧ g.Ok e sz S1 ∧
    ∀ b, (∀ cap j, g.blk ≠ some (b, cap, j)) → zaa S0 b = zaa S b ∧ zaa S1 b = none := by
  obtain ⟨l, blk⟩ := g
  cases blk with
  | none => exact ⟨S, [], fun _ _ e => ⟨e, rfl⟩, (fun _ _ e => by cases e), h, fun _ _ => ⟨rfl, rfl⟩⟩
  | some x =>
    obtain ⟨b0, cap, j⟩ := x
    have h1 := h.look
    refine ⟨delS b0 S, [(b0, .cells (l.flatten ++ j) e)], fun b o e => ?_, fun b o e => ?_, ⟨by simp [zaa], h.len, h.le, h.cap, h.jf, h.lf, h.ll⟩, fun b hb => ?_⟩
    · rw [zco] at e
      split at e
      · cases e
      · rename_i hne
        exact ⟨e, by simp only [zaa]; rw [if_neg (fun h => hne h.symm)]⟩
    · simp only [zaa] at e
      split at e
      · rename_i hbb; subst hbb; rw [h1]; exact e
      · cases e
    · have hne : ¬ b0 = b := fun h => hb cap j (by rw [h])
      exact ⟨by rw [zco, if_neg (fun h => hne h.symm)], by simp only [zaa]; rw [if_neg hne]⟩
theorem zgu {sz : Nat} : ∀ {l : List (List V)}, (∀ c ∈ l, c.length = sz) → l.flatten.length = l.length * sz
  | [], _ => by simp
  | c :: r, h => by
    have := zgu (sz := sz) (l := r) fun c hc => h c (List.mem_cons_of_mem _ hc)
    rw [List.flatten_cons, List.length_append, this, h c (List.mem_cons_self ..), List.length_cons, Nat.succ_mul, Nat.add_comm]
theorem zfz (ml : List (List V)) : ml.flatten.map V.copy = (ml.map (·.map V.copy)).flatten := by rw [List.map_flatten]
section
variable {v0 : VH} {P : Program} {n : Nat} {E : VEnv} {S : Sto} {dst : Option Tmp} {ty : TypeId} {pos : String} {af : Array Edge}
theorem OpS.appG {g : GR} {T t by_ e sz : Nat} {z : Value} {sx x : Operand} {vx : V} {ml : List (List V)} (hd : dst = some t) (ht : tel P T = some (e, sz, by_)) (hz : zbx P e = some z) (hzs : z.cells.size = sz) (hzo : zgs z.cells.toList = true) (hsz : 0 < sz)
    (hs : evV E sx = some g.cell) (hok : g.Ok e sz S) (hx : evV E x = some vx) (hxl : zee vx = some ml) (hm : 0 < ml.length) (hml : ∀ c ∈ ml, c.length = sz) (hfit : g.l.length + ml.length ≤ 2147483648 ∧ by_ ≤ 65536) :
    OpS v0 P n ⟨dst, .call { callee := .builtin .append, args := #[sx, x], argTypes := #[T, T] }, ty, pos, af, none⟩ E S
      (fun u E' S' => E' = E ∧ ∃ b' cap' junk, u = GR.cell ⟨g.l ++ ml.map (·.map V.copy), some (b', cap', junk)⟩ ∧ GR.Ok e sz S' ⟨g.l ++ ml.map (·.map V.copy), some (b', cap', junk)⟩ ∧ ((∃ cap j, g.blk = some (b', cap, j)) ∨ zaa S b' = none) ∧
        ∀ b, b ≠ b' → (∀ cap j, g.blk ≠ some (b, cap, j)) → zaa S' b = zaa S b) := by
  obtain ⟨R, blk⟩ := g
  intro K D hv hold env a w hfl ha s
  cases blk with
  | none =>
    simp only [GR.Ok] at hok
    subst hok
    refine (OpS.appN hd ht hz hzs hzo hsz hs hx hxl hm hml (by simpa [Fits] using hfit) K D hv hold env a w hfl ha s).mono ?_
    rintro y w' ⟨hsame, u, E2, S2, hv2, hold2, q1, q2, h1, b', cap', junk, h2, h3, h4, h5, h6, h7, h8⟩
    refine ⟨hsame, u, E2, S2, hv2, hold2, q1, q2, h1, b', cap', junk, ?_, ?_, ?_, ?_⟩
    · rw [h2]; simp [GR.cell]
    · subst h3
      refine ⟨?_, ?_, ?_, h7, h8, ?_, ?_⟩
      · simp only [zaa, if_true, List.nil_append, Nat.zero_mul, List.take_zero, zfz]
      · simpa using h5
      · simpa using h6
      · rw [List.nil_append, ← zfz]; exact zlz _
      · intro c hc
        rw [List.nil_append] at hc
        obtain ⟨d, hd, rfl⟩ := List.mem_map.1 hc
        rw [List.length_map]; exact hml d hd
    · exact .inr (h4.resolve_left (by simp))
    · intro b hb _
      subst h3
      simp only [zaa, delB]
      rw [if_neg (fun h => hb h.symm)]
  | some x =>
    obtain ⟨b0, cap0, j0⟩ := x
    have hfl' := zgu hok.ll
    refine (OpS.appC hd ht hz hzs hzo hsz hs hok.look (by rw [List.length_append, hfl']; exact hok.len) hok.le hok.cap (fun v hv => (List.mem_append.1 hv).elim (hok.lf v) (hok.jf v)) hx hxl hm hml (by simpa [Fits] using hfit) K D hv hold env a w hfl ha s).mono ?_
    rintro y w' ⟨hsame, u, E2, S2, hv2, hold2, q1, q2, h1, b', cap', junk, h2, h3, h4, h5, h6, h7, h8⟩
    refine ⟨hsame, u, E2, S2, hv2, hold2, q1, q2, h1, b', cap', junk, ?_, ?_, ?_, ?_⟩
    · rw [h2]; simp [GR.cell]
    · subst h3
      refine ⟨?_, ?_, ?_, h7, h8, ?_, ?_⟩
      · simp only [zaa, if_true, Option.some.injEq, Ob.cells.injEq, and_true]
        rw [List.take_append_of_le_length (by omega), List.take_of_length_le (by omega), zfz, List.flatten_append]
      · simpa using h5
      · simpa using h6
      · rw [List.flatten_append, ← zfz]
        exact fun v hv => (List.mem_append.1 hv).elim (hok.lf v) (zlz _ v)
      · intro c hc
        rcases List.mem_append.1 hc with hc | hc
        · exact hok.ll c hc
        · obtain ⟨d, hd, rfl⟩ := List.mem_map.1 hc
          rw [List.length_map]; exact hml d hd
    · rcases h4 with h4 | h4
      · cases h4; exact .inl ⟨_, _, rfl⟩
      · exact .inr h4
    · intro b hb hnb
      subst h3
      simp only [zaa, delB]
      rw [if_neg (fun h => hb h.symm), zco, if_neg]
      intro h; subst h; exact hnb _ _ rfl
end
end Go.XL
namespace Go.XL
open Go.Proofs
open Go.Maps (Keyed)
open Go.ChangeMaps (setBlock)
def V.Is (v : V) (x : Value) : Prop := ∀ hv y, v.Rl hv y → y = x
theorem V.Is.v (x : Value) : (V.v x).Is x := fun hv y h => by simpa only [V.Rl] using h
theorem V.Is.two (x y : Value) : (V.agg [.v x, .v y]).Is (.agg #[x, y]) := fun hv z h => by
  simp only [V.Rl, RlL] at h
  obtain ⟨ys, rfl, a, ar, rfl, rfl, b, br, rfl, rfl, rfl⟩ := h
  rfl
theorem DS.drawLM {P : Program} {n : Nat} {r : Rr} {Q : VEnv → Sto → Prop} {k : List Fr} {E : VEnv} {S : Sto} {id : Nat} {os l1 l2 : List Oper} (S0 S1 : Sto) (Mp : List MpE) (ord : List Nat) (m : Nat) (hok : zla os.toArray ord m = true) (hm : P.follows .mixedOrders = true) (h1 : zlm os ord = l1) (h2 : os.drop m = l2)
    (hM : MpOk P Mp (S1 ++ S0)) (h0 : ∀ b o, zaa S0 b = some o → zaa S b = some o ∧ zaa S1 b = none) (h3 : ∀ b o, zaa S1 b = some o → zaa S b = some o)
    (q : DD P n r Q os S0 Mp l1 (.ops os l2 :: k) E E S1) : DS P n r Q (.code (.region id os.toArray true) :: k) E S :=
  DS.draw S0 S1 Mp hM ord m hok hm h0 h3 (by rw [zkm, h1]; simpa [h2] using q)
section
variable {v0 : VH} {P : Program} {n : Nat} {r : Rr} {Q : VEnv → Sto → Prop} {k : List Fr} {E E0 : VEnv} {S S0 S1 : Sto} {Mp : List MpE} {dst : Option Tmp} {ty : TypeId} {pos : String} {af : Array Edge} {ops l : List Oper}
theorem OpS.lookK {T kt e : TypeId} {mx kx : Operand} {b : Nat} {f : Value → Option Value} {es : Array MapEntry} {clock : Nat} {key z : Value} {kv : V} (K : Keyed P kt) (ht : P.underlying T = some (.map kt e)) (hz : zbx P e = some z) (M : MapIs P kt f es clock) (hk : ziw P kt key)
    (h1 : evV E mx = some (.v (.map (some b)))) (h2 : evV E kx = some kv) (hkv : kv.Is key) (hS : zaa S b = some (.raw (.map es clock))) :
    OpS v0 P n ⟨dst, .lookup T mx kx false, ty, pos, af, none⟩ E S (fun u E' S' => u = .v ((f key).getD z) ∧ E' = E ∧ S' = S) := by
  intro K1 D hv hold env a w hfl ha s
  obtain ⟨y1, a1, b1⟩ := s.rl _ _ h1
  obtain ⟨y2, a2, b2⟩ := s.rl _ _ h2
  simp only [V.Rl] at b1
  subst b1
  have b2 := hkv _ _ b2
  subst b2
  have hb : w.heap[b]? = some (.map es clock) := (s.obj b _ hS).2.2
  have := zje K ht (fun w => zfg hz w) M hk w hb
  refine zel (w' := w) (by simp [execOp, ha.ev a1, ha.ev a2, this]) ⟨Same.refl w, _, E, S, hv, hold, PreV.refl hv, s.put dst V.Rl_v fun _ _ => trivial, rfl, rfl, rfl⟩
theorem DS.lookK {T kt e : TypeId} {mx kx : Operand} {b : Nat} {f : Value → Option Value} {es : Array MapEntry} {clock : Nat} {key z : Value} {kv : V} (K : Keyed P kt) (ht : P.underlying T = some (.map kt e)) (hz : zbx P e = some z) (M : MapIs P kt f es clock) (hk : ziw P kt key)
    (h1 : evV E mx = some (.v (.map (some b)))) (h2 : evV E kx = some kv) (hkv : kv.Is key) (hS : zaa S b = some (.raw (.map es clock))) (hd : dok n dst = true) (q : DS P n r Q (.ops ops l :: k) (putV E dst (.v ((f key).getD z))) S) :
    DS P n r Q (.ops ops (⟨dst, .lookup T mx kx false, ty, pos, af, none⟩ :: l) :: k) E S := by
  refine DS.step rfl rfl hd (OpS.lookK K ht hz M hk h1 h2 hkv hS) fun u E' S' ⟨h1, h2, h3⟩ => ?_
  subst h1; subst h2; subst h3; exact q
theorem OpS.entryK {T kt e : TypeId} {mx kx : Operand} {b : Nat} {f : Value → Option Value} {es : Array MapEntry} {clock : Nat} {key z : Value} {kv : V} (K : Keyed P kt) (ht : P.underlying T = some (.map kt e)) (hz : zbx P e = some z) (M : MapIs P kt f es clock) (hk : ziw P kt key)
    (h1 : evV E mx = some (.v (.map (some b)))) (h2 : evV E kx = some kv) (hkv : kv.Is key) (hS : zaa S b = some (.raw (.map es clock))) :
    ∃ st es1 clock1, MapIs P kt (upd f key ((f key).getD z)) es1 clock1 ∧ EntSt P T kt b f key st es1 clock1 ∧
      OpS v0 P n ⟨dst, .mapEntry T mx kx, ty, pos, af, none⟩ E S (fun u E' S' => u = .tup [.v ((f key).getD z), .v (goInt st)] ∧ E' = E ∧ S' = setS b (.raw (.map es1 clock1)) S) := by
  obtain ⟨st, es1, clock1, q1, q2, q3⟩ := zsh (b := b) K ht (fun w => zfg hz w) M hk
  refine ⟨st, es1, clock1, q1, q3, ?_⟩
  intro K1 D hv hold env a w hfl ha s
  obtain ⟨y1, a1, b1⟩ := s.rl _ _ h1
  obtain ⟨y2, a2, b2⟩ := s.rl _ _ h2
  simp only [V.Rl] at b1
  subst b1
  have b2 := hkv _ _ b2
  subst b2
  obtain ⟨hb, s'⟩ := s.putObj (o' := .map es1 clock1) hS
  have := q2 w hb
  refine zel (w' := setBlock w b (.map es1 clock1)) (by simp [execOp, ha.ev a1, ha.ev a2, this]; rfl) ⟨⟨rfl, rfl, rfl⟩, _, E, _, hv, hold, PreV.refl hv, s'.put dst (by simp only [V.Rl, RlL]; exact ⟨_, rfl, _, _, rfl, rfl, _, _, rfl, rfl, rfl⟩) fun _ _ => V.free_Own (v := .tup [.v ((f y2).getD z), .v (goInt st)]) rfl _, rfl, rfl, rfl⟩
theorem DD.entryK {T kt e : TypeId} {mx kx : Operand} {b : Nat} {f : Value → Option Value} {es : Array MapEntry} {clock : Nat} {key z : Value} {kv : V} (K : Keyed P kt) (ht : P.underlying T = some (.map kt e)) (hz : zbx P e = some z) (M : MapIs P kt f es clock) (hk : ziw P kt key)
    (h1 : evV E mx = some (.v (.map (some b)))) (h2 : evV E kx = some kv) (hkv : kv.Is key) (hS : zaa S1 b = some (.raw (.map es clock))) (hd : dok n dst = true) (hMp : ∀ me ∈ Mp, me.b = b → me.k = kt ∧ me.z = z)
    (q : ∀ st es1 clock1, MapIs P kt (upd f key ((f key).getD z)) es1 clock1 → EntSt P T kt b f key st es1 clock1 → DD P n r Q ops S0 Mp l k (delO dst E0) (putV E dst (.tup [.v ((f key).getD z), .v (goInt st)])) (setS b (.raw (.map es1 clock1)) S1)) :
    DD P n r Q ops S0 Mp (⟨dst, .mapEntry T mx kx, ty, pos, af, none⟩ :: l) k E0 E S1 := by
  obtain ⟨st, es1, clock1, q1, q2, q3⟩ := OpS.entryK (v0 := r.v0) (n := n) (dst := dst) (ty := ty) (pos := pos) (af := af) K ht hz M hk h1 h2 hkv hS
  refine DD.step rfl rfl rfl hd q3 (fun hM me hme => ?_) (q st es1 clock1 q1 q2)
  obtain ⟨o, ho, hof⟩ := hM me hme
  have hset : zaa (setS b (.raw (.map es1 clock1)) S1 ++ S0) me.b = if me.b = b then some (.raw (.map es1 clock1)) else zaa (S1 ++ S0) me.b := by
    rw [zbv, zba hS]
    by_cases hb : me.b = b
    · rw [if_pos hb, if_pos hb]
    · rw [if_neg hb, if_neg hb, zbv]
  by_cases hb : me.b = b
  · obtain ⟨e1, e2⟩ := hMp me hme hb
    refine ⟨_, by rw [hset, if_pos hb], es1, clock1, _, rfl, by rw [e1]; exact q1, fun x => ?_⟩
    rw [zbv, hb, hS] at ho
    simp only [Option.some.injEq, Ob.raw.injEq] at ho
    subst ho
    obtain ⟨es', clock', f', e3, M', hg⟩ := hof
    cases e3
    have := M.det M'
    subst this
    rw [← hg x, e2]
    by_cases hx : x = key
    · subst hx; rw [zgg]; rfl
    · rw [zie _ _ hx]
  · exact ⟨o, by rw [hset, if_neg hb]; exact ho, hof⟩
theorem DD.lookK {T : TypeId} {mx kx : Operand} {me : MpE} {e : TypeId} {key : Value} {kv : V} (hm : me ∈ Mp) (K : Maps.Keyed P me.k) (ht : P.underlying T = some (.map me.k e)) (hz : zbx P e = some me.z) (hd : dok n dst = true)
    (h1 : evV E0 mx = some (.v (.map (some me.b)))) (h2 : evV E0 kx = some kv) (hkv : kv.Is key) (hk : ziw P me.k key) (q : DD P n r Q ops S0 Mp l k (putV E0 dst (.v (me.g key))) (putV E dst (.v (me.g key))) S1) :
    DD P n r Q ops S0 Mp (⟨dst, .lookup T mx kx false, ty, pos, af, none⟩ :: l) k E0 E S1 := fun K0 K1 D W hv0 hs a SPs hbx hfl hE hp hS0 hzz hl hR => by
  obtain ⟨env, ha, hE'⟩ := hE
  have rl : RlO hv0 (evV E0) (ev env) := by
    intro x u e
    cases x with
    | tmp t => exact hE' t u e
    | const c => simp only [evV, Option.some.injEq] at e; subst e; exact ⟨c, rfl, V.Rl_v⟩
    | global g => simp only [evV, Option.some.injEq] at e; subst e; exact ⟨_, rfl, V.Rl_v⟩
    | func g => simp only [evV, Option.some.injEq] at e; subst e; exact ⟨_, rfl, by simp only [V.Rl]; exact ⟨[], [], rfl, by simp [RlL], by simp [RlL]⟩⟩
  obtain ⟨y1, a1, b1⟩ := rl _ _ h1
  obtain ⟨y2, a2, b2⟩ := rl _ _ h2
  simp only [V.Rl] at b1
  subst b1
  have b2 := hkv _ _ b2
  subst b2
  have run : ∀ w : World, RdOf P Mp hv0 hs S0 w.heap → (execOp a.eval ⟨dst, .lookup T mx kx false, ty, pos, af, none⟩).run P w = .ok (.value (me.g y2)) w := fun w hr => by
    obtain ⟨o, ho, es, clock, f, rfl, M, hg⟩ := hr.2.2 me hm
    have := zje K ht (fun w => zfg hz w) M hk w ho
    rw [hg] at this
    simp [execOp, ha.ev a1, ha.ev a2, this]
  show SW P ops.toArray _ W _ (_ :: l) SPs a
  unfold SW Front
  rw [if_pos (by simp [Region.wanted]), if_neg (by simp [zdm, zir, isLook, zte])]
  refine ⟨_, fun w' hw' => run w' hw', ?_⟩
  refine q K0 K1 D W hv0 hs _ SPs hbx hfl (zpg ⟨env, ha, hE'⟩ hd V.Rl_v) hp hS0 hzz hl fun F h1 hF => ?_
  obtain ⟨p1, p2, hv', hold, env', ha', s, p, f, g⟩ := hR F h1 hF
  exact ⟨p1, p2, hv', hold, _, ha'.put' hd _, s.put dst V.Rl_v fun _ _ => trivial, p, f, g⟩
end
end Go.XL
namespace Go.XL
open Go.Proofs
section
variable {v0 : VH} {P : Program} {n : Nat} {r : Rr} {Q : VEnv → Sto → Prop} {k : List Fr} {E0 E : VEnv} {S S0 S1 : Sto} {Mp : List MpE} {ops l : List Oper} {t : Nat} {dst : Option Tmp} {op : Op} {ty : TypeId} {pos : String} {af : Array Edge} {ts : Array TypeId}
theorem reads_nil {hv : VH} {l : List (List V)} {y : Value} (h : ReadsL hv l y) (hs : ∀ c ∈ l, c ≠ []) : ∃ p n c, y = .slice p n c ∧ (p.isNone = true → l = []) := by
  obtain ⟨p, cap, sz, rfl, _, _, _, h4⟩ := h
  refine ⟨p, _, _, rfl, fun hp => ?_⟩
  cases l with
  | nil => rfl
  | cons c r =>
    exfalso
    cases p with
    | some a => cases hp
    | none =>
      have hc := hs c (List.mem_cons_self ..)
      cases c with
      | nil => exact hc rfl
      | cons v c =>
        simp only [RlE, RlC] at h4
        obtain ⟨⟨⟨u, hu, _⟩, _⟩, _⟩ := h4
        simp [ldH, at?] at hu
theorem DS.eqNil {T e : TypeId} {x : Operand} {v : V} {d : TypeId} {li : List (List V)} (hd : decide (t < n) = true) (hT : P.underlying T = some (.slice e)) (hx : evV E x = some v) (hl : zee v = some li) (hs : ∀ c ∈ li, c ≠ [])
    (q : ∀ b : Bool, (b = true → li = []) → DS P n r Q (.ops ops l :: k) ((t, .v (.bool b)) :: E) S) :
    DS P n r Q (.ops ops (⟨some t, .binOp .eql T x (.const (.slice none 0 0)) d, ty, pos, af, none⟩ :: l) :: k) E S := by
  refine DS.step (T := fun v E' S' => ∃ b : Bool, (b = true → li = []) ∧ v = .v (.bool b) ∧ E' = E ∧ S' = S) rfl rfl hd ?_ ?_
  · intro K D hv hold env a w hfl ha s
    obtain ⟨y, h1, h2⟩ := s.rl _ _ hx
    obtain ⟨p, m, c, rfl, h3⟩ := reads_nil (zgo hl h2) hs
    have hr : (execOp a.eval ⟨some t, .binOp .eql T x (.const (.slice none 0 0)) d, ty, pos, af, none⟩).run P w = .ok (.value (.bool p.isNone)) w := by
      refine zhe ha ?_
      simp only [dop, h1, ev_const]
      exact bop_eqlN hT
    unfold Yields
    rw [hr]
    exact ⟨⟨rfl, rfl, rfl⟩, _, _, _, hv, hold, PreV.refl hv, s.put (some t) V.Rl_v fun _ _ => trivial, p.isNone, h3, rfl, rfl, rfl⟩
  · rintro u E' S' ⟨b, h1, rfl, rfl, rfl⟩
    exact q b h1
theorem OpS.bslO {T len : Nat} {ps : Array (Nat × Operand)} {qs : List (Nat × V)} {e sz : Nat} {c : List V} (hp : zgr (evV E) ps.toList = some qs) (hb : bslV P T len qs = some (e, sz, c)) :
    OpS v0 P n ⟨dst, .buildSlice T len ps, ty, pos, af, none⟩ E S (fun u E' S' => ∃ b, zaa S b = none ∧ u = .v (.slice (some ⟨b, 0, none⟩) len len) ∧ E' = E ∧ S' = (b, .cells c e) :: S) := by
  intro K D hv hold env a w hfl ha s
  obtain ⟨rs, h1, h2⟩ := zgq s.rl hp
  obtain ⟨x, h3, h4, h5, h6, h7, h8, by_, ht⟩ := zob h2 hb
  refine zfl ha (y := .slice (some ⟨w.heap.size, 0, none⟩) len len) (h' := w.heap.push (.cells x.toArray e)) (by simp only [hop, h1, h3]) ⟨⟨rfl, rfl, rfl⟩, ?_⟩
  obtain ⟨s', hn⟩ := s.born (zgj (h := w.heap) (hold := hold) (T := e) h4 h5 h8)
  exact ⟨_, E, _, hv, hold, PreV.refl hv, s'.put dst V.Rl_v fun _ _ => trivial, _, hn, rfl, rfl, rfl⟩
theorem DS.bslO {T len : Nat} {ps : Array (Nat × Operand)} {qs : List (Nat × V)} {e sz : Nat} {c : List V} (hd : decide (t < n) = true) (hp : zgr (evV E) ps.toList = some qs) (hb : bslV P T len qs = some (e, sz, c))
    (q : ∀ b, zaa S b = none → DS P n r Q (.ops ops l :: k) ((t, .v (.slice (some ⟨b, 0, none⟩) len len)) :: E) ((b, .cells c e) :: S)) : DS P n r Q (.ops ops (⟨some t, .buildSlice T len ps, ty, pos, af, none⟩ :: l) :: k) E S := by
  refine DS.step rfl rfl hd (OpS.bslO hp hb) ?_
  rintro u E' S' ⟨b, h1, rfl, rfl, rfl⟩
  exact q b h1
theorem St.write {K : Bs} {hv : VH} {hold : Nat → Option Hd} {env : Env} {h : Heap} (s : St K hv hold E S env h) {b off : Nat} {cl rl : List V} {rs : List Value} {T : TypeId} (hS : zaa S b = some (.cells cl T)) (hr : RlL hv rl rs) (ho : Ones rs) (hf : ∀ v ∈ rl, v.free = true) (hm : off + rl.length ≤ cl.length) :
    ∃ h', stl h ⟨b, off, none⟩ rs 0 = some h' ∧ St K hv hold E (setS b (.cells (setAll cl off rl) T) S) env h' := by
  obtain ⟨o1, o2, cs, o3, o4, o5, o6⟩ := s.obj b _ hS
  have hcl := o4.length
  have hrl := hr.length
  obtain ⟨h', q1, q2, q3, q4⟩ := zta (o := off) rs 0 cs h o3 (by omega) ho
  refine ⟨h', q1, ⟨fun j oj ej => ?_, fun t vv e => ?_, fun j o e => ?_, s.held, ?_, s.vbase⟩⟩
  · obtain ⟨o', r1, r2⟩ := s.pre j oj ej
    refine ⟨o', ?_, r2⟩
    rw [q3 j (fun e => by subst e; rw [o2] at ej; cases ej)]; exact r1
  · obtain ⟨y2, r1, r2, r3⟩ := s.slot t vv e
    refine ⟨y2, r1, r2, r3.keep fun g ob a1 a2 a3 => ⟨q3 g (fun e => by subst e; rw [o2] at a2; cases a2), rfl, a1⟩⟩
  · rw [zba hS] at e
    by_cases hj : j = b
    · subst hj
      simp only [if_true, Option.some.injEq] at e; subst e
      refine ⟨o1, o2, _, q4, ?_, ?_, fun i c u hc hu => ?_⟩
      · rw [Nat.add_zero]; exact o4.setAll off hr
      · exact Ones.setAll (l := cs) _ o5 ho
      · rw [Nat.add_zero] at hu
        rw [zfn _ _ _ _ hm] at hc
        rw [zfn _ _ _ _ (by omega)] at hu
        rw [hrl] at hu
        by_cases hi : off ≤ i ∧ i < off + rl.length
        · rw [if_pos hi] at hc
          exact V.free_Own (hf c (List.mem_of_getElem? hc)) u
        · rw [if_neg hi] at hc hu
          exact (o6 i c u hc hu).keep fun g ob a1 a2 a3 => ⟨q3 g (fun e => by subst e; rw [o2] at a2; cases a2), rfl, a1⟩
    · rw [if_neg hj] at e
      obtain ⟨r1, r2, r3⟩ := s.obj j o e
      exact ⟨r1, r2, Ob.keep r3 (PreV.refl hv) (q3 j hj) fun g i ob a1 a2 a3 => ⟨q3 g (fun e => by subst e; rw [o2] at a2; cases a2), rfl, a1⟩⟩
  · refine ⟨s.base.1, by rw [q2]; exact s.base.2.1, fun j hj => ?_⟩
    rw [q3 j fun e => o1 (e ▸ hj)]; exact s.base.2.2 j hj
theorem run_clear {w : World} {h' : Heap} {T e : TypeId} {z : Value} (ht : P.underlying T = some (.slice e)) (hz : zbx P e = some z) (hz1 : z.cells = #[z]) {b o m c : Nat} (hm : 0 < m) (hst : stl w.heap ⟨b, o, none⟩ (List.replicate m z) 0 = some h') (tt : TypeId) :
    (Builtin.clear_ #[T] tt #[.slice (some ⟨b, o, none⟩) m c]).run P w = .ok (.tuple #[]) { w with heap := h' } := by
  have hzc : (Builtin.zeroCells z.cells m).toList = List.replicate m z := by
    rw [hz1]
    simp [Builtin.zeroCells]
    apply List.ext_getElem
    · simp
    · intro i h1 h2
      simp [Nat.mod_one]
  have h2 := zsz (P := P) _ _ w hst
  obtain ⟨m, rfl⟩ : ∃ m', m = m' + 1 := ⟨m - 1, by omega⟩
  simp [Builtin.clear_, run_underlying ht, zfg hz, hzc, h2]
theorem DS.clear {T e : TypeId} {x : Operand} {b o m c : Nat} {z : Value} {cl : List V} {T' : TypeId} (hT : P.underlying T = some (.slice e)) (hz : zbx P e = some z) (hz1 : z.cells = #[z]) (ho1 : z.oneCell' = true) (hm : 0 < m) (hx : evV E x = some (.v (.slice (some ⟨b, o, none⟩) m c))) (hS : zaa S b = some (.cells cl T')) (hfit : o + m ≤ cl.length)
    (q : DS P n r Q (.ops ops l :: k) E (setS b (.cells (setAll cl o (List.replicate m (.v z))) T') S)) :
    DS P n r Q (.ops ops (⟨none, .call { callee := .builtin .clear, args := #[x], argTypes := #[T] }, ty, pos, af, none⟩ :: l) :: k) E S := by
  refine DS.step (T := fun v E' S' => E' = E ∧ S' = setS b (.cells (setAll cl o (List.replicate m (.v z))) T') S) rfl rfl rfl ?_ ?_
  · intro K D hv hold env a w hfl ha s
    obtain ⟨y, h1, h2⟩ := s.rl _ _ hx
    simp only [V.Rl] at h2; subst h2
    have hR : RlL hv (List.replicate m (V.v z)) (List.replicate m z) := by
      have := zic (hv := hv) (List.replicate m z)
      rwa [List.map_replicate] at this
    obtain ⟨h', q1, q2⟩ := s.write hS hR (fun u hu => by rw [List.eq_of_mem_replicate hu]; exact ho1) (fun v hv => by rw [List.eq_of_mem_replicate hv]; rfl) (by simpa using hfit)
    have hrun : ∀ tt, (execOp a.eval ⟨none, .call { callee := .builtin .clear, args := #[x], argTypes := #[T] }, tt, pos, af, none⟩).run P w = .ok (.value (.tuple #[])) { w with heap := h' } := fun tt => by
      have := run_clear (P := P) (w := w) hT hz hz1 (c := c) hm q1 tt
      simp [execOp, resolve, invoke, builtin, ha.ev h1, this]
    unfold Yields
    rw [hrun]
    exact ⟨⟨rfl, rfl, rfl⟩, .v (.tuple #[]), E, _, hv, hold, PreV.refl hv, q2, rfl, rfl⟩
  · rintro u E' S' ⟨rfl, rfl⟩
    exact q
theorem DD.rcV0 {g : FuncId} {args : List V} {xs : Array Operand} {fn : Func} {x : Value} (hf : FnOk P g fn) (hc : RC P g args S1 (.v x)) (hd : decide (t < n) = true) (he : (evsV (evV E) xs.toList).map (·.map V.peek) = some args)
    (q : DD P n r Q ops S0 Mp l k ((t, .v x) :: E0) ((t, .v x) :: E) S1) :
    DD P n r Q ops S0 Mp (⟨some t, .call { callee := .value (.func g), args := xs, argTypes := ts }, ty, pos, af, none⟩ :: l) k E0 E S1 := by
  rw [Option.map_eq_some_iff] at he
  obtain ⟨ax, e1, e2⟩ := he
  refine DD.stepV (x := x) (E' := E) (S1' := S1) rfl rfl rfl hd rfl (fun K D hv hold env a w hfl ha s => ?_) id q
  refine (OpS.call (fs := []) (cs := []) hf rfl e1 (S1 := S1) (S2 := []) (R := fun u S' => u = .v x ∧ S' = S1) (by simpa [e2] using hc _) (fun _ _ e => e) (fun _ _ e => by cases e) K D hv hold env a w hfl ha s).mono fun y w' ⟨hs, u, E', S', hv', hold', p1, p2, p3, S2, p4, ⟨p5, p6⟩, _⟩ => ?_
  subst p3; subst p4; subst p5; subst p6
  rw [List.append_nil] at p2
  exact ⟨hs, _, _, _, hv', hold', p1, p2, rfl, rfl, rfl⟩
theorem DS.callVHA {cx : Operand} {g : FuncId} {fs cs args : List V} {xs : Array Operand} {fn : Func} {R : V → Sto → Prop} (hf : FnOk P g fn) (hcx : evV E cx = some (.fn g fs cs)) (hc : DCh r.v0 P g (fs ++ args ++ cs) S R) (hd : decide (t < n) = true)
    (he : (evsV (evV E) xs.toList).map (·.map V.peek) = some args) (q : ∀ u S', R u S' → DS P n r Q (.ops ops l :: k) ((t, u) :: E) S') :
    DS P n r Q (.ops ops (⟨some t, .call { callee := .value cx, args := xs, argTypes := ts }, ty, pos, af, none⟩ :: l) :: k) E S := by
  refine DS.callVH (dst := some t) S [] hf hcx hc hd he (fun _ _ e => e) (fun _ _ e => by cases e) ?_
  intro u S' h _
  simpa [putV] using q u S' h
theorem DS.yieldA {cx : Operand} {y : Nat} {args : List V} {xs : Array Operand} {R : V → Sto → Prop} (hcx : evV E cx = some (.yl y)) (hc : YC r.v0 P y args S R) (hd : decide (t < n) = true)
    (he : (evsV (evV E) xs.toList).map (·.map V.peek) = some args) (q : ∀ u S', R u S' → DS P n r Q (.ops ops l :: k) ((t, u) :: E) S') :
    DS P n r Q (.ops ops (⟨some t, .call { callee := .value cx, args := xs, argTypes := ts }, ty, pos, af, none⟩ :: l) :: k) E S := by
  refine DS.yield (dst := some t) S [] hcx hc hd he (fun _ _ e => e) (fun _ _ e => by cases e) ?_
  intro u S' h _
  simpa [putV] using q u S' h
end
theorem split2 {S : Sto} {b1 b2 : Nat} {o1 o2 : Ob} (h1 : zaa S b1 = some o1) (h2 : zaa S b2 = some o2) (hne : b1 ≠ b2) :
    (∀ b o, zaa (delS b1 (delS b2 S)) b = some o → zaa S b = some o ∧ zaa [(b1, o1), (b2, o2)] b = none) ∧ (∀ b o, zaa [(b1, o1), (b2, o2)] b = some o → zaa S b = some o) ∧
    (∀ b o, zaa S b = some o → zaa ([(b1, o1), (b2, o2)] ++ delS b1 (delS b2 S)) b = some o) ∧ ∀ b, b ≠ b1 → b ≠ b2 → zaa (delS b1 (delS b2 S)) b = zaa S b := by
  refine ⟨fun b o e => ?_, fun b o e => ?_, fun b o e => ?_, fun b n1 n2 => by rw [zco, if_neg n1, zco, if_neg n2]⟩
  · rw [zco] at e
    split at e
    · cases e
    rename_i n1
    rw [zco] at e
    split at e
    · cases e
    rename_i n2
    refine ⟨e, ?_⟩
    simp only [zaa]
    rw [if_neg (fun h => n1 h.symm), if_neg (fun h => n2 h.symm)]
  · simp only [zaa] at e
    split at e
    · rename_i h; subst h; rw [h1]; exact e
    split at e
    · rename_i h; subst h; rw [h2]; exact e
    · cases e
  · rw [zbv]
    simp only [zaa]
    by_cases n1 : b1 = b
    · subst n1; rw [if_pos rfl]; rw [h1] at e; exact e
    · rw [if_neg n1]
      by_cases n2 : b2 = b
      · subst n2; rw [if_pos rfl]; rw [h2] at e; exact e
      · rw [if_neg n2]
        simp only []
        rw [zco, if_neg (fun h => n1 h.symm), zco, if_neg (fun h => n2 h.symm)]
        exact e
end Go.XL
namespace Go.XL
open Go.Proofs
section
variable {v0 : VH} {P : Program} {n : Nat} {r : Rr} {Q : VEnv → Sto → Prop} {k : List Fr} {E0 E : VEnv} {S S0 S1 : Sto} {Mp : List MpE} {ops l : List Oper} {t : Nat} {dst : Option Tmp} {op : Op} {ty : TypeId} {pos : String} {af : Array Edge} {ts : Array TypeId}
theorem mk_exec {D : List Deferred} {env : Env} {a : Act} {T : TypeId} {x y : Operand} {kl kc : IntKind} {i c : Int} {e sz by_ : Nat} {z : Value} (ha : Agree D n env a) (h1 : ev env x = some (.int kl i)) (h2 : ev env y = some (.int kc c)) (ht : tel P T = some (e, sz, by_)) (hz : zbx P e = some z) (hzs : z.cells.size = sz)
    (hb : 0 ≤ i ∧ i ≤ c ∧ by_ ≤ 65536 ∧ c ≤ 2147483648) (w : World) :
    (execOp a.eval ⟨some t, .makeSlice T x y, ty, pos, af, none⟩).run P w = .ok (.value (.slice (some ⟨w.heap.size, 0, none⟩) i.toNat c.toNat)) { w with heap := w.heap.push (.cells ((List.replicate c.toNat z.cells.toList).flatten).toArray e) } := by
  have hc : (by_ : Int) * c ≤ 281474976710656 ∧ c ≤ 9223372036854775807 := by
    refine ⟨?_, by omega⟩
    have q1 : (by_ : Int) * c ≤ 65536 * 2147483648 := Int.mul_le_mul (by omega) hb.2.2.2 (by omega) (by omega)
    omega
  have hcells : madeCells z.cells (c.toNat * sz) = ((List.replicate c.toNat z.cells.toList).flatten).toArray := by
    have := zho z.cells c.toNat
    rw [hzs] at this
    unfold madeCells
    rw [← this]
    simp only [Array.toArray_toList]
    rw [hzs]
  refine zky (P := P) (y := fun u => .slice (some ⟨u, 0, none⟩) i.toNat c.toNat) ha (fun i => by simp [undef]) (fun h1' => ?_) w
  simp only [hop, h1, h2, ht, hz]; rw [if_pos ⟨hb.1, hb.2.1, hc⟩, hcells]
theorem DD.lastMk {o : Oper} {R : V → VEnv → Sto → Prop} {T : TypeId} {x y : Operand} {kl kc : IntKind} {i c : Int} {e sz by_ : Nat} {z : Value} (hg : o.guard = none) (hc : zdm o = true) (hb : zfq o.op = false) (hd : dok n o.dst = true) (ho : OpS r.v0 P n o E S1 R) (hd2 : decide (t < n) = true)
    (hE0 : ∀ u v, zcp (delO o.dst E0) u = some v → zcp E0 u = some v) (hx : evV (delO o.dst E0) x = some (.v (.int kl i))) (hy : evV (delO o.dst E0) y = some (.v (.int kc c))) (ht : tel P T = some (e, sz, by_)) (hz : zbx P e = some z) (ho1 : zgs z.cells.toList = true) (hzs : z.cells.size = sz)
    (hbd : 0 ≤ i ∧ i ≤ c ∧ by_ ≤ 65536 ∧ c ≤ 2147483648)
    (q : ∀ v E' S' u, R v E' S' → zaa S' u = none → zaa S0 u = none → DS P n r Q k ((t, .v (.slice (some ⟨u, 0, none⟩) i.toNat c.toNat)) :: putV E' o.dst v) ((u, .cells (zdp z c.toNat) e) :: (S' ++ S0))) :
    DD P n r Q ops S0 [] [o, ⟨some t, .makeSlice T x y, ty, pos, af, none⟩] k E0 E S1 := fun K0 K D W hv0 hs a SPs hbx hfl hE hp hS0 hzz hl hR => by
  show SW P ops.toArray _ W _ [o, _] SPs a
  unfold SW Front
  rw [if_pos (by simp [Region.wanted, hg]), if_pos hc]
  refine ⟨fun _ y => y, fun _ y => fun F h1 => ∃ v E' S', R v E' S' ∧ RunS P [] D n K hv0 hs S0 (putV E' o.dst v) S' (a.put o.dst y) F h1, ?_, fun _ y0 hT => ?_⟩
  · unfold Spec
    rw [if_neg (by simp [hb])]
    have G := fun v E' S' y => RunS.good P [] D n K hv0 hs S0 (putV E' o.dst v) S' (a.put o.dst y)
    refine ⟨rfl, _, rfl, fun y => ⟨fun F h ⟨v, E', S', _, h2⟩ => (G v E' S' y).ext F h h2, fun F h ob ⟨v, E', S', h1, h2⟩ => ⟨v, E', S', h1, (G v E' S' y).push F h ob h2⟩, fun F F' h hF ⟨v, E', S', h1, h2⟩ => ⟨v, E', S', h1, (G v E' S' y).less F F' h hF h2⟩⟩, fun w F hF hw => ?_⟩
    obtain ⟨p1, p2, hv', hold, env', ha', s, p, f, g⟩ := hR F w.heap hF
    obtain ⟨K', hc', s', hprot, hK1, hK2, back⟩ := s.frame fun b o e => (g b o e).2.1
    refine (ho K' D hv' hc' env' a w (hfl.trans p) ha' s').mono fun y w' ⟨hsame, u, E2, S2, hv2, hold2, q1, q2, e1⟩ => ?_
    obtain ⟨hold3, t1, t2⟩ := back q1 q2
    have stay : ∀ b, K'.B b → w'.heap[b]? = w.heap[b]? ∧ hv2 b = hv' b := fun b hb => ⟨by rw [q2.base.2.2 b hb, hK1], by rw [q2.vbase.2 b hb, hK2]⟩
    have hFp : ∀ b, F b → K'.B b := fun b hb => hprot b (p1 b hb).2 (f b hb).1 (by
      have := (f b hb).2; rw [zbv] at this
      cases e : zaa S1 b with
      | none => rfl
      | some o => rw [e] at this; cases this)
    have hSp : ∀ b o, zaa S0 b = some o → K'.B b := fun b o e => hprot b (Nat.lt_of_lt_of_le (g b o e).2.2 p2.1) (s.obj b o (by rw [zbv, (g b o e).2.1]; exact e)).2.1 (g b o e).2.1
    have hsz : w.heap.size ≤ w'.heap.size := by have := q2.base.2.1; rwa [hK1] at this
    refine ⟨hsame, ⟨u, E2, S2, e1, fun b hb => ⟨(p1 b hb).1, Nat.lt_of_lt_of_le (p1 b hb).2 hsz⟩, ⟨Nat.le_trans p2.1 hsz, MpOk.nil⟩, hv2, hold3, _, ha'.put' hd y, t1, p.trans q1, fun b hb => ?_, fun b o e => ?_⟩, fun b o hb eb _ => ?_⟩
    · refine ⟨by rw [(stay b (hFp b hb)).2]; exact (f b hb).1, ?_⟩
      have hb2 := (f b hb).2
      rw [zbv] at hb2 ⊢
      cases e : zaa S2 b with
      | some o => exact absurd (hFp b hb) (q2.obj b o e).1
      | none =>
        cases e1 : zaa S1 b with
        | some o => rw [e1] at hb2; cases hb2
        | none => rw [e1] at hb2; exact hb2
    · obtain ⟨g1, g2, g3⟩ := g b o e
      exact ⟨(stay b (hSp b o e)).1.trans g1, t2 b o e, g3⟩
    · rw [(stay b (hFp b hb)).1]; exact eb
  ·
    obtain ⟨env2, ha2, hE2⟩ := zsi hE hd y0
    have rl : ∀ x v, evV (delO o.dst E0) x = some (.v v) → ev env2 x = some v := by
      intro x v h
      cases x with
      | tmp u =>
        obtain ⟨y, h1, h2⟩ := hE2 u _ h
        simp only [V.Rl] at h2
        subst h2; exact h1
      | const u => simp only [evV, Option.some.injEq, V.v.injEq] at h; subst h; rfl
      | global g => simp only [evV, Option.some.injEq, V.v.injEq] at h; subst h; rfl
      | func g => cases h
    have hrun := fun w => mk_exec (P := P) (t := t) (ty := ty) (pos := pos) (af := af) ha2 (rl _ _ hx) (rl _ _ hy) ht hz hzs hbd w
    show SW P ops.toArray _ W _ [_] _ _
    unfold SW Front
    rw [if_pos (by simp [Region.wanted]), if_pos yR]
    refine ⟨fun u _ => .slice (some ⟨u, 0, none⟩) i.toNat c.toNat, fun u _ => zgw (fun F h1 => ∃ v E' S', R v E' S' ∧ RunS P [] D n K hv0 hs S0 (putV E' o.dst v) S' (a.put o.dst y0) F h1) u (.cells ((List.replicate c.toNat z.cells.toList).flatten).toArray e), ?_, fun u _ hT2 => ?_⟩
    · unfold Spec
      rw [if_pos yR]
      exact ⟨.cells ((List.replicate c.toNat z.cells.toList).flatten).toArray e, fun u => .slice (some ⟨u, 0, none⟩) i.toNat c.toNat, rfl, hrun, rfl, rfl⟩
    · show SW P ops.toArray _ W _ [] _ _
      unfold SW
      intro w2 ⟨⟨v, E', S', h1, h2⟩, _, t3⟩ hw2
      obtain ⟨p1, p2, hv', hold, env', ha', s, p, f, g⟩ := h2
      have hu := p1 u (.inr rfl)
      have fu := f u (.inr rfl)
      have hB : ¬ K.B u := fun hb => by
        have := s.base.1 u hb
        omega
      have nS : zaa S' u = none ∧ zaa S0 u = none := by
        have := fu.2
        rw [zbv] at this
        cases e : zaa S' u with
        | some o => rw [e] at this; cases this
        | none => rw [e] at this; exact ⟨rfl, this⟩
      exact q v E' S' u h1 nS.1 nS.2 K0 W _ w2 ⟨K, D, hv', hold, _, hbx, ha'.put' (d := some t) (by simpa [dok] using hd2) _, (s.adoptO t3 hB fu.1 (zkd z c.toNat) (zix ho1 c.toNat) (zhp z c.toNat)).put (some t) V.Rl_v fun _ _ => trivial⟩ hw2
end
end Go.XL
namespace Go.XL
open Go.Proofs
@[go_sem] theorem bop_xor {P : Program} {T : TypeId} {k : IntKind} {a b : Int} : bop P .xor T (.int k a) (.int k b) = some (.int k (xorI k a b)) := by
  simp only [bop, zkb, if_true]; rfl
theorem ztl {P : Program} {T : TypeId} {k' : IntKind} {a b : Int} (h : ¬ b < 0) : bop P .shr T (.int .u64 a) (.int k' b) = some (.int .u64 (a.fdiv (2 ^ (min b.toNat 64)))) := by
  simp only [bop, Op.shift]
  rw [if_neg h]
  rfl
@[go_sem] theorem bop_shr31 {P : Program} {T : TypeId} {k' : IntKind} {a : Int} : bop P .shr T (.int .u64 a) (.int k' 31) = some (.int .u64 (a.fdiv 2147483648)) := ztl (by decide)
@[go_sem] theorem bop_shr29 {P : Program} {T : TypeId} {k' : IntKind} {a : Int} : bop P .shr T (.int .u64 a) (.int k' 29) = some (.int .u64 (a.fdiv 536870912)) := ztl (by decide)
@[go_sem] theorem bop_shr20 {P : Program} {T : TypeId} {k' : IntKind} {a : Int} : bop P .shr T (.int .u64 a) (.int k' 20) = some (.int .u64 (a.fdiv 1048576)) := ztl (by decide)
abbrev U (x : Int) : V := .v (.int .u64 x)
abbrev TSrc : Nat := 108
abbrev srcO (x : Int) : Ob := .cells [U x] TSrc
def SC (P : Program) (f : FuncId) (args : List V) (bs : Nat) (x : Int) (v : V) (x' : Int) : Prop := DC P f args [(bs, srcO x)] fun u S' => u = v ∧ S' = [(bs, srcO x')]
section
variable {P : Program} {n : Nat} {r : Rr} {Q : VEnv → Sto → Prop} {k : List Fr} {E0 E : VEnv} {S S0 S1 : Sto} {Mp : List MpE} {ops l : List Oper} {t : Nat} {dst : Option Tmp} {op : Op} {ty : TypeId} {pos : String} {af : Array Edge} {ts : Array TypeId}
theorem zos {bs : Nat} {o : Ob} (hS : zaa S bs = some o) : (∀ b o', zaa [(bs, o)] b = some o' → zaa S b = some o') ∧ (∀ b o', zaa (delS bs S) b = some o' → zaa S b = some o' ∧ zaa [(bs, o)] b = none) := by
  refine ⟨fun b o' e => ?_, fun b o' e => ?_⟩
  · simp only [zaa] at e
    split at e
    · rename_i h; subst h; rw [hS]; exact e
    · cases e
  · rw [zco] at e
    split at e
    · cases e
    · rename_i h
      exact ⟨e, by simp only [zaa]; rw [if_neg (fun h' => h h'.symm)]⟩
theorem DS.scS {g : FuncId} {args : List V} {xs : Array Operand} {fn : Func} {bs : Nat} {x x' : Int} {v : V} (hf : FnOk P g fn) (hc : SC P g args bs x v x') (hd : decide (t < n) = true) (he : (evsV (evV E) xs.toList).map (·.map V.peek) = some args) (hS : zaa S bs = some (srcO x))
    (q : DS P n r Q (.ops ops l :: k) ((t, v) :: E) ((bs, srcO x') :: delS bs S)) :
    DS P n r Q (.ops ops (⟨some t, .call { callee := .value (.func g), args := xs, argTypes := ts }, ty, pos, af, none⟩ :: l) :: k) E S := by
  refine DS.call (dst := some t) [(bs, srcO x)] (delS bs S) hf hc hd he (zos hS).1 (zos hS).2 ?_
  rintro u S' ⟨rfl, rfl⟩ -
  exact q
theorem DD.scS {g : FuncId} {args : List V} {xs : Array Operand} {fn : Func} {bs : Nat} {x x' : Int} {v : V} (hf : FnOk P g fn) (hc : SC P g args bs x v x') (hd : decide (t < n) = true) (he : (evsV (evV E) xs.toList).map (·.map V.peek) = some args) (hS : zaa S1 bs = some (srcO x))
    (q : DD P n r Q ops S0 [] l k (delV t E0) ((t, v) :: E) ((bs, srcO x') :: delS bs S1)) :
    DD P n r Q ops S0 [] (⟨some t, .call { callee := .value (.func g), args := xs, argTypes := ts }, ty, pos, af, none⟩ :: l) k E0 E S1 :=
  DD.call (dst := some t) [(bs, srcO x)] (delS bs S1) hf hc hd he (zos hS).1 (zos hS).2 (fun _ => MpOk.nil) q
end
end Go.XL
namespace Go.XL
open Go.Proofs
theorem take_succ_eq {l m : List Int} {i : Nat} (h : l.take i = m.take i) (hl : i < l.length) (hm : i < m.length) (e : l[i] = m[i]) : l.take (i + 1) = m.take (i + 1) := by
  rw [List.take_succ_eq_append_getElem hl, List.take_succ_eq_append_getElem hm, h, e]
theorem znm (a b : List Int) : PC Try.prog 22 [ints a, ints b] (Bo (decide (a = b))) := by
  refine DC.of_run Try.func22 rfl Try.ntmps22 Try.results22 (by simp) (fun _ => ?_); simp only [zaq, zas, go_sem, Nat.zero_add, Nat.reduceAdd]
  refine DS.bnd (t := 0) yG (.inl rfl) (fun hb0 => ?_); simp only [List.length_map] at hb0
  repeat' (first | (with_reducible first | refine DS.fltS yU yU yE ?_ | refine DS.opsNil ?_ | refine DS.seq ?_ | refine DS.regionL ?_ | (refine DS.cE yE ?_; refine CG.np (fun _ => ?_) (fun _ => ?_)) | refine DS.block ?_ | refine DS.skip ?_) | refine DS.retT [] yE trivial ?_ | fail)
  · simp_all [tupV]; intro h; subst h; simp_all
  refine DS.loopG (fun (i : Nat) => [(0, ints a), (1, ints b), (5, I i)]) (fun (i : Nat) => []) (fun (i : Nat) => i ≤ a.length ∧ a.take i = b.take i) (fun (i : Nat) => a.length - i) 0 yS yS (by simp) (fun i B hI hB => ?_); try dsimp only at hI hB ⊢
  repeat' (first | (with_reducible first | refine DS.fltS yU yU yE ?_ | refine DS.opsNil ?_ | refine DS.seq ?_ | refine DS.regionL ?_ | (refine DS.cE yE ?_; first | refine CG.np (fun _ => ?_) (fun _ => ?_) | refine CG.p (fun _ => ?_) (fun _ => ?_)) | refine DS.blk ?_ | refine DS.block ?_ | refine DS.exit yU ?_ | refine DS.skip ?_) | refine DS.drawL (id := 6) [0, 1, 2, 3, 4, 5, 6, 7] 8 (by kernel_rfl) zdb (by simp only [zay, zbf, zbg, zbh, zax]; exact rfl) (by simp only [zat, zau, List.drop_nil]; exact rfl) ?_ | (with_reducible first | refine DD.fltS yU yU yU yE ?_ | refine DD.nil0 ?_) | refine DS.retT [] yE trivial ?_ | fail)
  · rename_i h1 h2
    have : a ≠ b := fun e => h2 (by subst e; rfl)
    simp [tupV, this]
  · exact DS.back (hB (i + 1) _ _ (by omega) ⟨by omega, take_succ_eq hI.2 (by omega) (by omega) (by simp_all)⟩ yS yS)
  · have : i = a.length := by omega
    have : a = b := by
      have h := hI.2
      rw [List.take_of_length_le (by omega), List.take_of_length_le (by omega)] at h
      exact h
    simp [tupV, this]
theorem zlo (n lo hi : Int) : PC Try.prog 71 [I n, I lo, I hi] (Bo (decide (lo ≤ n ∧ n ≤ hi))) := by
  refine DC.of_run Try.func71 rfl Try.ntmps71 Try.results71 (by simp) (fun _ => ?_); simp only [zaq, zas, go_sem, Nat.zero_add, Nat.reduceAdd]
  repeat' (first | (with_reducible first | refine DS.fltS yU yU yE ?_ | refine DS.opsNil ?_ | refine DS.seq ?_ | refine DS.regionL ?_ | (refine DS.gE yU yE ?_; first | refine GG.pT (fun _ => ?_) (fun _ => ?_) | refine GG.run ?_ | refine GG.sF ?_)) | refine DS.retT [] yE trivial ?_ | fail)
  all_goals first | (simp_all [tupV]; done) | (simp_all [tupV]; omega)
theorem zfu (n lo hi : Int) : PC Try.prog 73 [I n, I lo, I hi] (Bo (decide (lo ≤ n ∧ n ≤ hi))) := by
  refine DC.of_run Try.func73 rfl Try.ntmps73 Try.results73 (by simp) (fun _ => ?_); simp only [zaq, zas, go_sem, Nat.zero_add, Nat.reduceAdd]
  repeat' (first | (with_reducible first | refine DS.fltS yU yU yE ?_ | refine DS.opsNil ?_ | refine DS.seq ?_ | refine DS.regionL ?_ | (refine DS.gE yU yE ?_; first | refine GG.pT (fun _ => ?_) (fun _ => ?_) | refine GG.run ?_ | refine GG.sF ?_)) | refine DS.retT [] yE trivial ?_ | fail)
  all_goals first | (simp_all [tupV]; done) | (simp_all [tupV]; omega)
theorem zuc (m : Member) (r : Int) : PC Try.prog 55 [m.val, I r] (Bo (m.plays r)) := by
  refine DC.of_run Try.func55 rfl Try.ntmps55 Try.results55 (by simp) (fun _ => ?_); simp only [zaq, zas, go_sem, Nat.zero_add, Nat.reduceAdd]
  repeat' (first | (with_reducible first | refine DS.fltS yU yU yE ?_ | refine DS.opsNil ?_ | refine DS.seq ?_ | refine DS.regionL ?_ | (refine DS.gE yU yE ?_; first | refine GG.sU ?_ | refine GG.pT (fun _ => ?_) (fun _ => ?_) | refine GG.pF (fun _ => ?_) (fun _ => ?_) | refine GG.run ?_ | refine GG.sF ?_ | refine GG.sT ?_)) | (refine DS.boxF (t := 2) yU yE yU ?_; simp only [zbp, zcj, zbo, zcc, zbl, zbi, zbw, zbm, zcl, zci, zbz, zch, zcb, zca]) | refine DS.retT [] yE trivial ?_ | fail)
  all_goals first | (simp_all [tupV, Member.plays]; done) | (simp_all [tupV, Member.plays]; omega)
theorem zmy (m : Member) (r : Int) : PC Try.prog 50 [m.val, I r] (Bo (m.playsR r)) := by
  refine DC.of_run Try.func50 rfl Try.ntmps50 Try.results50 (by simp) (fun _ => ?_); simp only [zaq, zas, go_sem, Nat.zero_add, Nat.reduceAdd]
  repeat' (first | (with_reducible first | refine DS.fltS yU yU yE ?_ | refine DS.opsNil ?_ | refine DS.seq ?_ | refine DS.regionL ?_ | (refine DS.gE yU yE ?_; first | refine GG.sU ?_ | refine GG.pT (fun _ => ?_) (fun _ => ?_) | refine GG.pF (fun _ => ?_) (fun _ => ?_) | refine GG.run ?_ | refine GG.sF ?_ | refine GG.sT ?_)) | (refine DS.boxF (t := 2) yU yE yU ?_; simp only [zbp, zcj, zbo, zcc, zbl, zbi, zbw, zbm, zcl, zci, zbz, zch, zcb, zca]) | refine DS.retT [] yE trivial ?_ | fail)
  all_goals first | (simp_all [tupV, Member.playsR]; done) | (simp_all [tupV, Member.playsR]; omega)
end Go.XL
namespace Go.XL
open Go.Proofs
theorem has_pc (l : List Int) (x : Int) : PC Try.prog 113 [ints l, I x] (Bo (decide (x ∈ l))) := by
  refine DC.of_run Try.func113 rfl Try.ntmps113 Try.results113 (by simp) (fun _ => ?_); simp only [zaq, zas, go_sem, Nat.zero_add, Nat.reduceAdd]
  refine DS.bnd (t := 0) yG (.inl rfl) (fun hb0 => ?_); simp only [List.length_map] at hb0
  repeat' (first | (with_reducible first | refine DS.fltS yU yU yE ?_ | refine DS.opsNil ?_ | refine DS.seq ?_ | refine DS.regionL ?_ | refine DS.block ?_) | fail)
  refine DS.loopK [0, 1] (by (simp only [go_sem, Nat.reduceEqDiff, ↓reduceIte]; exact rfl)) (fun (i : Nat) => [(5, I i)]) (fun (i : Nat) => i ≤ l.length ∧ decide (x ∈ l) = decide (x ∈ l.drop i)) (fun (i : Nat) => l.length - i) 0 yS (by simp) (fun i B hI hB => ?_); try dsimp only at hI hB; simp only [zap, zar]
  repeat' (first | (with_reducible first | refine DS.fltS yU yU yE ?_ | refine DS.opsNil ?_ | refine DS.seq ?_ | refine DS.regionL ?_ | (refine DS.cE yE ?_; refine CG.p (fun _ => ?_) (fun _ => ?_)) | refine DS.blk ?_ | refine DS.block ?_ | refine DS.exit yU ?_ | refine DS.skip ?_) | refine DS.retT [] yE trivial ?_ | fail)
  · rename_i h1 h2
    obtain ⟨_, r, dr1, rfl, dr3⟩ := zcg (l := l) (i := i) (by omega); rw [dr1] at hI
    rw [hI.2]; simp [tupV, h2]
  · rename_i h1 h2
    obtain ⟨_, r, dr1, rfl, dr3⟩ := zcg (l := l) (i := i) (by omega); rw [dr1] at hI
    exact DS.back (hB (i + 1) _ _ (by omega) (⟨by omega, by rw [hI.2, dr3]; simp [Ne.symm h2]⟩) yS yS (fun b o e => by first | exact e | (simp only [zab]; split <;> simp_all)))
  · have de1 := zdk (l := l) (i := i) (by omega); rw [de1] at hI
    rw [hI.2]; simp [tupV]
theorem zhk (c : Club) (id : Int) (hm : c.members.length ≤ 4611686018427387904) : PC Try.prog 58 [c.val, I id] (I (zgy c id)) := by
  refine DC.of_run Try.func58 rfl Try.ntmps58 Try.results58 (by simp) (fun _ => ?_); simp only [zaq, zas, go_sem, Nat.zero_add, Nat.reduceAdd]
  repeat' (first | (with_reducible first | refine DS.fltS yU yU yE ?_ | refine DS.opsNil ?_ | refine DS.seq ?_ | refine DS.regionL ?_ | refine DS.block ?_) | (refine DS.boxF (t := 2) yU yE yU ?_; simp only [zbp, zcj, zbo, zcc, zbl, zbi, zbw, zbm, zcl, zci, zbz, zch, zcb, zca]) | fail)
  refine DS.loopK [1, 2] (by (simp only [go_sem, Nat.reduceEqDiff, ↓reduceIte]; exact rfl)) (fun (i : Nat) => [(5, I i)]) (fun (i : Nat) => i ≤ c.members.length ∧ zgy c id = idxF (fun m => decide (m.id = id)) (c.members.drop i) i) (fun (i : Nat) => c.members.length - i) 0 yS (by simp [zgy]) (fun i B hI hB => ?_); try dsimp only at hI hB; simp only [zap, zar]
  repeat' (first | (with_reducible first | refine DS.fltS yU yU yE ?_ | refine DS.opsNil ?_ | refine DS.seq ?_ | refine DS.regionL ?_ | (refine DS.cE yE ?_; refine CG.p (fun _ => ?_) (fun _ => ?_)) | refine DS.blk ?_ | refine DS.block ?_ | refine DS.exit yU ?_ | refine DS.skip ?_) | refine DS.retT [] yE trivial ?_ | fail)
  · obtain ⟨_, r, dr1, rfl, dr3⟩ := zcg (l := c.members) (i := i) (by omega); rw [dr1] at hI
    rw [hI.2]; simp [tupV, idxF, *]
  · obtain ⟨_, r, dr1, rfl, dr3⟩ := zcg (l := c.members) (i := i) (by omega); rw [dr1] at hI
    exact DS.back (hB (i + 1) _ _ (by omega) (⟨by omega, by rw [hI.2, dr3]; simp [idxF, *]⟩) yS yS (fun b o e => by first | exact e | (simp only [zab]; split <;> simp_all)))
  · have de1 := zdk (l := c.members) (i := i) (by omega); rw [de1] at hI
    rw [hI.2]; simp [tupV, idxF]
end Go.XL
namespace Go.XL
open Go.Proofs
theorem ztz (c : Club) (l : List Int) (h1 : c.size ≤ 4) (h2 : 0 ≤ c.size) (h3 : 0 ≤ c.start ∧ c.start ≤ 1000000) : PC Try.prog 114 [c.val, ints l] (I (zjs c l)) := by
  have hm : 0 ≤ c.size * c.start ∧ c.size * c.start ≤ 4 * 1000000 := ⟨Int.mul_nonneg h2 h3.1, Int.mul_le_mul h1 h3.2 h3.1 (by decide)⟩
  refine DC.of_run Try.func114 rfl Try.ntmps114 Try.results114 (by simp) (fun _ => ?_); simp only [zaq, zas, go_sem, Nat.zero_add, Nat.reduceAdd]
  refine DS.bnd (t := 1) yG (.inl rfl) (fun hb1 => ?_); simp only [List.length_map] at hb1
  repeat' (first | (with_reducible first | refine DS.fltS yU yU yE ?_ | refine DS.opsNil ?_ | refine DS.seq ?_ | refine DS.regionL ?_ | (refine DS.cE yE ?_; refine CG.np (fun _ => ?_) (fun _ => ?_)) | refine DS.block ?_ | refine DS.skip ?_) | (refine DS.boxF (t := 2) yU yE yU ?_; simp only [zbp, zcj, zbo, zcc, zbl, zbi, zbw, zbm, zcl, zci, zbz, zch, zcb, zca]) | refine DS.retT [] yE trivial ?_ | fail)
  · simp [tupV, zjs, zhg, *]
  refine DS.loopK [1, 2] (by (simp only [go_sem, Nat.reduceEqDiff, ↓reduceIte]; exact rfl)) (fun (i : Nat × Int) => [(5, I i.2), (6, I i.1)]) (fun (i : Nat × Int) => i.1 ≤ l.length ∧ zjs c l = zeb 1099511627776 (l.drop i.1) (c.size * c.start - i.2) ∧ -1099511627776 * i.1 ≤ i.2 ∧ i.2 ≤ 1099511627776 * i.1) (fun (i : Nat × Int) => l.length - i.1) (0, 0) yS (by simp [zjs, zhg, *]) (fun i B hI hB => ?_); try dsimp only at hI hB; simp only [zap, zar]
  repeat' (first | (with_reducible first | refine DS.fltS yU yU yE ?_ | refine DS.opsNil ?_ | refine DS.seq ?_ | refine DS.regionL ?_ | (refine DS.cE yE ?_; first | refine CG.np (fun _ => ?_) (fun _ => ?_) | refine CG.p (fun _ => ?_) (fun _ => ?_)) | refine DS.blk ?_ | refine DS.block ?_ | refine DS.exit yU ?_ | refine DS.skip ?_) | refine DS.pcS inferInstance (zfu _ _ _) yR yT ?_ | refine DS.retT [] yE trivial ?_ | fail)
  · rename_i q1 q2
    obtain ⟨_, r, dr1, rfl, dr3⟩ := zcg (l := l) (i := i.1) (by omega); rw [dr1] at hI
    rw [hI.2.1]; simp [zeb, tupV, q2]
  · rename_i q1 q2
    obtain ⟨_, r, dr1, rfl, dr3⟩ := zcg (l := l) (i := i.1) (by omega); rw [dr1] at hI
    have q3 := q2
    have q4 := q3
    exact DS.back (hB (i.1 + 1, i.2 + l[i.1]) _ _ (by simp; omega) (⟨by simp; omega, by rw [hI.2.1, dr3, zeb, if_pos q3]; congr 1; omega, by simp; omega, by simp; omega⟩) yS yS (fun b o e => by first | exact e | (simp only [zab]; split <;> simp_all)))
  · have de1 := zdk (l := l) (i := i.1) (by omega); rw [de1] at hI
    rw [hI.2.1, zeb, if_neg (by omega)]; rfl
  · have de1 := zdk (l := l) (i := i.1) (by omega); rw [de1] at hI
    rw [hI.2.1, zeb, if_pos (by omega)]; rfl
end Go.XL
namespace Go.XL
open Go.Proofs
theorem zib (c : Club) : PC Try.prog 85 [c.val] (I (zfd c)) := by
  refine DC.of_run Try.func85 rfl Try.ntmps85 Try.results85 (by simp) (fun _ => ?_); simp only [zaq, zas, go_sem, Nat.zero_add, Nat.reduceAdd]
  repeat' (first | (with_reducible first | refine DS.fltS yU yU yE ?_ | refine DS.opsNil ?_ | refine DS.seq ?_ | refine DS.regionL ?_ | (refine DS.cE yE ?_; first | refine CG.np (fun _ => ?_) (fun _ => ?_) | refine CG.yes ?_) | (refine DS.gE yU yE ?_; first | refine GG.npF (fun _ => ?_) (fun _ => ?_) | refine GG.run ?_ | refine GG.sT ?_) | refine DS.block ?_ | refine DS.skip ?_) | refine DS.pcS inferInstance (zfu _ _ _) yR yT ?_ | (refine DS.boxF (t := 1) yU yE yU ?_; simp only [zbp, zcj, zbo, zcc, zbl, zbi, zbw, zbm, zcl, zci, zbz, zch, zcb, zca]) | refine DS.retT [] yE trivial ?_ | fail)
  all_goals try (simp [tupV, zfd, zhg, *]; done)
  rename_i g1 g2 g3 g4 g5
  refine DS.loopK [1] (by (simp only [go_sem, Nat.reduceEqDiff, ↓reduceIte]; exact rfl)) (fun (i : Nat × Int) => [(3, I i.2), (4, I i.1)]) (fun (i : Nat × Int) => i.1 ≤ c.places.length ∧ zfd c = zeb 1000000 (c.places.drop i.1) (0 - i.2) ∧ -1000000 * i.1 ≤ i.2 ∧ i.2 ≤ 1000000 * i.1) (fun (i : Nat × Int) => c.places.length - i.1) (0, 0) yS (by simp [zfd, zhg, *]) (fun i B hI hB => ?_); try dsimp only at hI hB; simp only [zap, zar]
  repeat' (first | (with_reducible first | refine DS.fltS yU yU yE ?_ | refine DS.opsNil ?_ | refine DS.seq ?_ | refine DS.regionL ?_ | (refine DS.cE yE ?_; first | refine CG.np (fun _ => ?_) (fun _ => ?_) | refine CG.p (fun _ => ?_) (fun _ => ?_)) | refine DS.blk ?_ | refine DS.block ?_ | refine DS.exit yU ?_ | refine DS.skip ?_) | refine DS.pcS inferInstance (zfu _ _ _) yR yT ?_ | refine DS.retT [] yE trivial ?_ | fail)
  · rename_i q1 q2
    obtain ⟨_, r, dr1, rfl, dr3⟩ := zcg (l := c.places) (i := i.1) (by omega); rw [dr1] at hI
    rw [hI.2.1]; simp [zeb, tupV, q2]
  · rename_i q1 q2
    obtain ⟨_, r, dr1, rfl, dr3⟩ := zcg (l := c.places) (i := i.1) (by omega); rw [dr1] at hI
    have q4 := q2
    exact DS.back (hB (i.1 + 1, i.2 + c.places[i.1]) _ _ (by simp; omega) (⟨by simp; omega, by rw [hI.2.1, dr3, zeb, if_pos q2]; congr 1; omega, by simp; omega, by simp; omega⟩) yS yS (fun b o e => by first | exact e | (simp only [zab]; split <;> simp_all)))
  · have de1 := zdk (l := c.places) (i := i.1) (by omega); rw [de1] at hI
    rw [hI.2.1, zeb, if_neg (by omega)]; rfl
  · have de1 := zdk (l := c.places) (i := i.1) (by omega); rw [de1] at hI
    rw [hI.2.1, zeb, if_pos (by omega)]; rfl
theorem ziv (c : Club) (hm : c.members.length ≤ 1000000) : PC Try.prog 86 [c.val] (I (zed c.members)) := by
  refine DC.of_run Try.func86 rfl Try.ntmps86 Try.results86 (by simp) (fun _ => ?_); simp only [zaq, zas, go_sem, Nat.zero_add, Nat.reduceAdd]
  repeat' (first | (with_reducible first | refine DS.fltS yU yU yE ?_ | refine DS.opsNil ?_ | refine DS.seq ?_ | refine DS.regionL ?_ | (refine DS.cE yE ?_; refine CG.p (fun _ => ?_) (fun _ => ?_)) | refine DS.block ?_ | refine DS.skip ?_) | (refine DS.boxF (t := 1) yU yE yU ?_; simp only [zbp, zcj, zbo, zcc, zbl, zbi, zbw, zbm, zcl, zci, zbz, zch, zcb, zca]) | refine DS.retT [] yE trivial ?_ | fail)
  · rename_i q; rw [zed, if_pos (by omega)]; rfl
  refine DS.loopK [1] (by (simp only [go_sem, Nat.reduceEqDiff, ↓reduceIte]; exact rfl)) (fun (i : Nat × Int) => [(3, I i.2), (4, I i.1)]) (fun (i : Nat × Int) => i.1 ≤ c.members.length ∧ zed c.members = zdl (c.members.drop i.1) i.2) (fun (i : Nat × Int) => c.members.length - i.1) (0, 0) yS (by simp [zed]; omega) (fun i B hI hB => ?_); try dsimp only at hI hB; simp only [zap, zar]
  repeat' (first | (with_reducible first | refine DS.fltS yU yU yE ?_ | refine DS.opsNil ?_ | refine DS.seq ?_ | refine DS.regionL ?_ | (refine DS.cE yE ?_; first | refine CG.np (fun _ => ?_) (fun _ => ?_) | refine CG.p (fun _ => ?_) (fun _ => ?_) | refine CG.yes ?_ | refine CG.no ?_) | (refine DS.gE yU yE ?_; first | refine GG.sU ?_ | refine GG.npT (fun _ => ?_) (fun _ => ?_) | refine GG.npF (fun _ => ?_) (fun _ => ?_) | refine GG.run ?_ | refine GG.sF ?_ | refine GG.sT ?_) | refine DS.blk ?_ | refine DS.block ?_ | refine DS.exit yU ?_ | refine DS.skip ?_) | (refine DS.letF (t := 5) yU yE yU (fun _ => by (simp (disch := omega) only [go_sem, dopV, Option.map_some, Option.map_none, Option.bind_some, Option.bind_none, ↓reduceIte, Nat.reduceEqDiff, Nat.reduceLT, Nat.reduceLeDiff, Nat.reduceAdd, Nat.reduceMul, Nat.reduceSub, Nat.zero_add, Nat.add_zero, Nat.zero_le, Nat.zero_mul, Nat.mul_one, Nat.one_mul, Int.natCast_zero, Int.toNat_zero, Int.reduceToNat, Int.reduceLT, Int.reduceLE, Int.reduceEq, decide_true, decide_false, true_and, and_true, Bool.and_self, Bool.and_true, Bool.true_and, Bool.not_true, Bool.not_false, IntWalk.toNatUp, IntWalk.iteOmega, IntWalk.i64_in, Option.isSome_some, not_true_eq_false, not_false_eq_true, Option.getD_some, Option.getD_none, Int.toNat_natCast, List.length_map, List.getElem?_map, List.getElem?_eq_getElem, V.flat, V.one, List.all_cons, List.all_nil, *]; exact rfl)) yE yU (by exact ⟨by with_unfolding_all rfl, by with_unfolding_all decide⟩) (fun _ => by simp only [go_sem, Nat.reduceEqDiff, ↓reduceIte]) ?_; simp only [go_sem]) | refine DS.pcS inferInstance (zfu _ _ _) yR yT ?_ | refine DS.retT [] yE trivial ?_ | fail)
  all_goals try first | (clear hB; obtain ⟨_, r, dr1, rfl, dr3⟩ := zcg (l := c.members) (i := i.1) (by omega); rw [dr1] at hI; rw [hI.2]; simp [tupV, zdl, *]; done) | (clear hB; have de1 := zdk (l := c.members) (i := i.1) (by omega); rw [de1] at hI; rw [hI.2]; simp [tupV, zdl, *]; done)
  · obtain ⟨_, r, dr1, rfl, dr3⟩ := zcg (l := c.members) (i := i.1) (by omega); rw [dr1] at hI
    exact DS.back (hB (i.1 + 1, c.members[i.1].id) _ _ (by simp; omega) (⟨by simp; omega, by rw [hI.2, dr3]; simp [zdl, *]⟩) yS yS (fun b o e => by first | exact e | (simp only [zab]; split <;> simp_all)))
  · obtain ⟨_, r, dr1, rfl, dr3⟩ := zcg (l := c.members) (i := i.1) (by omega); rw [dr1] at hI
    exact DS.back (hB (i.1 + 1, c.members[i.1].id) _ _ (by simp; omega) (⟨by simp; omega, by rw [hI.2, dr3]; simp [zdl, *]⟩) yS yS (fun b o e => by first | exact e | (simp only [zab]; split <;> simp_all)))
theorem zna {c : Club} {a b : Int} (h : ¬ (0 ≤ a ∧ a ≤ (c.rounds.length : Int) - 1)) : zjw c a b = false := by simp only [zjw, h, false_and, decide_false]
theorem zor {c : Club} {i : Nat} (h : i < c.rounds.length) (b : Int) : zjw c i b = decide ((0 ≤ b ∧ b ≤ (c.rounds[i].points.length : Int) - 1) ∧ 0 < (c.rounds[i].points.getD b.toNat []).length) := by
  have h1 : (0 : Int) ≤ i ∧ (i : Int) ≤ (c.rounds.length : Int) - 1 := by omega
  simp only [zjw, h1, true_and, and_self, c.round_at h]
theorem played_pcR (c : Club) (hs : c.Small) (a b : Int) : PC Try.prog 76 [c.val, I a, I b] (Bo (zjw c a b)) := by
  have h1 := hs.rounds
  by_cases ha : 0 ≤ a ∧ a ≤ (c.rounds.length : Int) - 1
  · obtain ⟨i, rfl⟩ := Int.eq_ofNat_of_zero_le ha.1
    have hi : i < c.rounds.length := by omega
    have h2 := (hs.at hi).points
    rw [zor hi]
    refine DC.of_run Try.func76 rfl Try.ntmps76 Try.results76 (by simp) (fun _ => ?_); simp only [zaq, zas, go_sem, Nat.zero_add, Nat.reduceAdd]
    repeat' (first | (with_reducible first | refine DS.fltS yU yU yE ?_ | refine DS.opsNil ?_ | refine DS.seq ?_ | refine DS.regionL ?_ | (refine DS.gE yU yE ?_; first | refine GG.pT (fun _ => ?_) (fun _ => ?_) | refine GG.run ?_ | refine GG.sF ?_)) | refine DS.pcS inferInstance (zfu _ _ _) yR yT ?_ | (refine DS.boxF (t := 3) yU yE yU ?_; simp only [zbp, zcj, zbo, zcc, zbl, zbi, zbw, zbm, zcl, zci, zbz, zch, zcb, zca]) | refine DS.retT [] yE trivial ?_ | fail)
    · rename_i q1 q2
      have : b.toNat < c.rounds[i].points.length := by omega
      simp [tupV, List.getD_eq_getElem?_getD, *]
    · simp [tupV, *]
  · rw [zna ha]
    refine DC.of_run Try.func76 rfl Try.ntmps76 Try.results76 (by simp) (fun _ => ?_); simp only [zaq, zas, go_sem, Nat.zero_add, Nat.reduceAdd]
    repeat' (first | (with_reducible first | refine DS.fltS yU yU yE ?_ | refine DS.opsNil ?_ | refine DS.seq ?_ | refine DS.regionL ?_ | (refine DS.gE yU yE ?_; refine GG.sF ?_)) | refine DS.pcS inferInstance (zfu _ _ _) yR yT ?_ | (refine DS.boxF (t := 3) yU yE yU ?_; simp only [zbp, zcj, zbo, zcc, zbl, zbi, zbw, zbm, zcl, zci, zbz, zch, zcb, zca]) | refine DS.retT [] yE trivial ?_ | fail)
    all_goals first | rfl | omega
theorem checkPoints_pc (c : Club) (hs : c.Small) (h1 : c.size ≤ 4) (h2 : 0 ≤ c.size) (h3 : 0 ≤ c.start ∧ c.start ≤ 1000000) {i : Nat} (hi : i < c.rounds.length) : PC Try.prog 88 [c.val, I i] (I (zfh c i)) := by
  have q1 := hs.rounds
  have q2 := hs.at hi
  have q3 := q2.points
  have q4 := q2.tables
  rw [zfh, c.round_at hi]
  refine DC.of_run Try.func88 rfl Try.ntmps88 Try.results88 (by simp) (fun _ => ?_); simp only [zaq, zas, go_sem, Nat.zero_add, Nat.reduceAdd]
  repeat' (first | (with_reducible first | refine DS.fltS yU yU yE ?_ | refine DS.opsNil ?_ | refine DS.seq ?_ | refine DS.regionL ?_ | (refine DS.cE yE ?_; refine CG.np (fun _ => ?_) (fun _ => ?_)) | refine DS.block ?_ | refine DS.skip ?_) | (refine DS.letF (t := 5) yU yE yU (fun _ => by (simp (disch := omega) only [go_sem, dopV, Option.map_some, Option.map_none, Option.bind_some, Option.bind_none, ↓reduceIte, Nat.reduceEqDiff, Nat.reduceLT, Nat.reduceLeDiff, Nat.reduceAdd, Nat.reduceMul, Nat.reduceSub, Nat.zero_add, Nat.add_zero, Nat.zero_le, Nat.zero_mul, Nat.mul_one, Nat.one_mul, Int.natCast_zero, Int.toNat_zero, Int.reduceToNat, Int.reduceLT, Int.reduceLE, Int.reduceEq, decide_true, decide_false, true_and, and_true, Bool.and_self, Bool.and_true, Bool.true_and, Bool.not_true, Bool.not_false, IntWalk.toNatUp, IntWalk.iteOmega, IntWalk.i64_in, Option.isSome_some, not_true_eq_false, not_false_eq_true, Option.getD_some, Option.getD_none, Int.toNat_natCast, List.length_map, List.getElem?_map, List.getElem?_eq_getElem, V.flat, V.one, List.all_cons, List.all_nil, *]; exact rfl)) yE yU (by exact ⟨by with_unfolding_all rfl, by with_unfolding_all decide⟩) (fun _ => by simp only [go_sem, Nat.reduceEqDiff, ↓reduceIte]) ?_; simp only [go_sem]) | (refine DS.boxF (t := 2) yU yE yU ?_; simp only [zbp, zcj, zbo, zcc, zbl, zbi, zbw, zbm, zcl, zci, zbz, zch, zcb, zca]) | refine DS.retT [] yE trivial ?_ | fail)
  · rename_i q; rw [if_pos (by omega)]; simp [tupV]
  refine DS.loopK [2, 5] (by (simp only [go_sem, Nat.reduceEqDiff, ↓reduceIte]; exact rfl)) (fun (k : Nat) => [(6, I k)]) (fun (k : Nat) => k ≤ c.rounds[i].points.length ∧ zej c c.rounds[i].points = zej c (c.rounds[i].points.drop k)) (fun (k : Nat) => c.rounds[i].points.length - k) 0 yS (by simp) (fun k B hI hB => ?_); try dsimp only at hI hB; simp only [zap, zar]
  repeat' (first | (with_reducible first | refine DS.fltS yU yU yE ?_ | refine DS.opsNil ?_ | refine DS.seq ?_ | refine DS.regionL ?_ | (refine DS.cE yE ?_; first | refine CG.np (fun _ => ?_) (fun _ => ?_) | refine CG.p (fun _ => ?_) (fun _ => ?_)) | refine DS.blk ?_ | refine DS.block ?_ | refine DS.exit yU ?_ | refine DS.skip ?_) | refine DS.pcS inferInstance (ztz c _ h1 h2 h3) yR yT ?_ | refine DS.drawL (id := 8) [0, 1, 2, 3, 4, 5] 6 (by kernel_rfl) zdb (by simp only [zay, zbf, zbg, zbh, zax]; exact rfl) (by simp only [zat, zau, List.drop_nil]; exact rfl) ?_ | (with_reducible first | refine DD.fltS yU yU yU yE ?_ | refine DD.nil0 ?_) | refine DS.retT [] yE trivial ?_ | fail)
  · rename_i e1 e2 e3
    obtain ⟨_, r, dr1, rfl, dr3⟩ := zcg (l := c.rounds[i].points) (i := k) (by omega); rw [dr1] at hI
    exact DS.back (hB (k + 1) _ _ (by omega) (⟨by omega, by rw [hI.2, dr3, zej, if_pos (by omega)]⟩) yS yS (fun b o e => by first | exact e | (simp only [zab]; split <;> simp_all)))
  · rename_i e1 e2 e3 e4
    obtain ⟨_, r, dr1, rfl, dr3⟩ := zcg (l := c.rounds[i].points) (i := k) (by omega); rw [dr1] at hI
    rw [if_neg (by omega), hI.2, zej, if_neg (by omega), if_pos e4]; rfl
  · rename_i e1 e2 e3 e4
    obtain ⟨_, r, dr1, rfl, dr3⟩ := zcg (l := c.rounds[i].points) (i := k) (by omega); rw [dr1] at hI
    exact DS.back (hB (k + 1) _ _ (by omega) (⟨by omega, by rw [hI.2, dr3, zej, if_neg (by omega), if_neg (by omega)]⟩) yS yS (fun b o e => by first | exact e | (simp only [zab]; split <;> simp_all)))
  · rename_i e1 e2
    have de1 := zdk (l := c.rounds[i].points) (i := k) (by omega); rw [de1] at hI
    rw [if_neg (by omega), hI.2]; rfl
theorem checkRulings_pc (c : Club) (hs : c.Small) (h1 : c.size ≤ 4) (h2 : 0 ≤ c.size) (h3 : 0 ≤ c.start ∧ c.start ≤ 1000000) (h4 : 0 ≤ c.window ∧ c.window ≤ 20) {i : Nat} (hi : i < c.rounds.length) : PC Try.prog 89 [c.val, I i] (I (zew c i)) := by
  have q1 := hs.rounds
  have q2 := hs.at hi
  have q3 := q2.rulings
  rw [zew, c.round_at hi]
  refine DC.of_run Try.func89 rfl Try.ntmps89 Try.results89 (by simp) (fun _ => ?_); simp only [zaq, zas, go_sem, Nat.zero_add, Nat.reduceAdd]
  repeat' (first | (with_reducible first | refine DS.fltS yU yU yE ?_ | refine DS.opsNil ?_ | refine DS.seq ?_ | refine DS.regionL ?_ | (refine DS.cE yE ?_; refine CG.p (fun _ => ?_) (fun _ => ?_)) | refine DS.block ?_ | refine DS.skip ?_) | (refine DS.boxF (t := 2) yU yE yU ?_; simp only [zbp, zcj, zbo, zcc, zbl, zbi, zbw, zbm, zcl, zci, zbz, zch, zcb, zca]) | refine DS.retT [] yE trivial ?_ | fail)
  · rename_i q; rw [if_pos (by omega)]; simp [tupV]
  refine DS.loopK [1, 2, 5] (by (simp only [go_sem, Nat.reduceEqDiff, ↓reduceIte]; exact rfl)) (fun (k : Nat) => [(6, I k)]) (fun (k : Nat) => k ≤ c.rounds[i].rulings.length ∧ zdx c i c.rounds[i].rulings = zdx c i (c.rounds[i].rulings.drop k)) (fun (k : Nat) => c.rounds[i].rulings.length - k) 0 yS (by simp) (fun k B hI hB => ?_); try dsimp only at hI hB; simp only [zap, zar]
  repeat' (first | (with_reducible first | refine DS.fltS yU yU yE ?_ | refine DS.opsNil ?_ | refine DS.seq ?_ | refine DS.regionL ?_ | (refine DS.cE yE ?_; first | refine CG.np (fun _ => ?_) (fun _ => ?_) | refine CG.p (fun _ => ?_) (fun _ => ?_) | refine CG.nb (fun _ => ?_) (fun _ => ?_)) | refine DS.blk ?_ | refine DS.block ?_ | refine DS.exit yU ?_ | refine DS.skip ?_) | refine DS.pcS inferInstance (zfu _ _ _) yR yT ?_ | refine DS.pcS inferInstance (ztz c _ h1 h2 h3) yR yT ?_ | refine DS.pcS inferInstance (played_pcR c hs _ _) yR yT ?_ | refine DS.drawL (id := 11) [0, 1, 2, 3, 4, 5] 6 (by kernel_rfl) zdb (by simp only [zay, zbf, zbg, zbh, zax]; exact rfl) (by simp only [zat, zau, List.drop_nil]; exact rfl) ?_ | refine DS.drawL (id := 7) [0, 1, 2, 3, 4, 5, 6, 7, 8, 9, 10] 11 (by kernel_rfl) zdb (by simp only [zay, zbf, zbg, zbh, zax]; exact rfl) (by simp only [zat, zau, List.drop_nil]; exact rfl) ?_ | refine DS.drawL (id := 9) [0, 1, 2, 3, 4, 5, 6, 7, 8, 9, 10] 11 (by kernel_rfl) zdb (by simp only [zay, zbf, zbg, zbh, zax]; exact rfl) (by simp only [zat, zau, List.drop_nil]; exact rfl) ?_ | (with_reducible first | refine DD.fltS yU yU yU yE ?_ | refine DD.nil0 ?_) | refine DS.retT [] yE trivial ?_ | fail)
  · rename_i e1 e2 e3
    obtain ⟨_, r, dr1, rfl, dr3⟩ := zcg (l := c.rounds[i].rulings) (i := k) (by omega); rw [dr1] at hI
    rw [if_neg (by omega), hI.2, zdx, if_pos (by omega)]; rfl
  · rename_i e1 e2 e3 e4
    obtain ⟨_, r, dr1, rfl, dr3⟩ := zcg (l := c.rounds[i].rulings) (i := k) (by omega); rw [dr1] at hI
    rw [if_neg (by omega), hI.2, zdx, if_neg (by omega), if_pos e4]; rfl
  · rename_i e1 e2 e3 e4 e5
    obtain ⟨_, r, dr1, rfl, dr3⟩ := zcg (l := c.rounds[i].rulings) (i := k) (by omega); rw [dr1] at hI
    rw [if_neg (by omega), hI.2, zdx, if_neg (by omega), if_neg (by simp [e4]), if_pos e5]; rfl
  · rename_i e1 e2 e3 e4 e5
    obtain ⟨_, r, dr1, rfl, dr3⟩ := zcg (l := c.rounds[i].rulings) (i := k) (by omega); rw [dr1] at hI
    exact DS.back (hB (k + 1) _ _ (by omega) (⟨by omega, by rw [hI.2, dr3, zdx, if_neg (by omega), if_neg (by simp [e4]), if_neg (by omega)]⟩) yS yS (fun b o e => by first | exact e | (simp only [zab]; split <;> simp_all)))
  · rename_i e1 e2
    have de1 := zdk (l := c.rounds[i].rulings) (i := k) (by omega); rw [de1] at hI
    rw [if_neg (by omega), hI.2]; rfl
end Go.XL
namespace Go.XL
open Go.Proofs
set_option maxRecDepth 100000
set_option maxHeartbeats 4000000
theorem any_hit {t : List Int} {p : Int → Bool} {k : Nat} (h : k < t.length) (e : p t[k] = true) : t.any p = true := List.any_eq_true.2 ⟨_, List.getElem_mem h, e⟩
theorem znn {t : List Int} (h : 0 < t.length) : t.headD 0 = t[0] := by
  cases t with
  | nil => simp at h
  | cons a r => rfl
def zjm (t : List Int) (k : Nat) : Option Int := if k = 0 then none else t[k - 1]?
theorem zfe {t : List Int} {k : Nat} (h : k < t.length) : zjm t (k + 1) = some t[k] := by simp [zjm, List.getElem?_eq_getElem h]
theorem zgb {t : List Int} {k : Nat} (h : k < t.length) (hk : 0 < k) : ∃ hk' : k - 1 < t.length, zjm t k = some t[k - 1] := ⟨by omega, by simp [zjm, Nat.pos_iff_ne_zero.1 hk, List.getElem?_eq_getElem (show k - 1 < t.length by omega)]⟩
theorem zkt {c : Club} {round : Int} : ∀ {t : List Int} {pre : Option Int}, zdn c round t pre = 0 → ∀ id ∈ t, ¬ zgy c id < 0
  | [], _, _, _, h => (List.not_mem_nil h).elim
  | x :: t, pre, e, id, h => by
    simp only [zdn] at e
    split at e
    · cases e
    rename_i h1
    split at e
    · cases e
    split at e
    · cases e
    rcases List.mem_cons.1 h with rfl | h
    · exact h1
    · exact zkt e id h
theorem member_pos {c : Club} (f : c.Fine) {id : Int} (h : ¬ zgy c id < 0) : 0 < id := by
  obtain ⟨i, hi, _, e, _⟩ := zga h
  have := f.pos _ (List.getElem_mem hi)
  omega
theorem zlt {c : Club} {round first : Int} {t : List Int} {l : List (List Int)} {s : List Int} (h : ¬ (t.length : Int) = c.size) : zdv c round (t :: l) s first = 3 := by rw [zdv, if_pos h]
theorem zfa {c : Club} {round first e : Int} {t : List Int} {l : List (List Int)} {s : List Int} (h : (t.length : Int) = c.size) (h1 : zdn c round t none = e) (h2 : e ≠ 0) : zdv c round (t :: l) s first = e := by
  rw [zdv, if_neg (by omega), if_pos (by rw [h1]; exact h2), h1]
theorem zjr {c : Club} {round first : Int} {t : List Int} {l : List (List Int)} {s : List Int} (h : (t.length : Int) = c.size) (h1 : zdn c round t none = 0) {k : Nat} (hk : k < t.length) (h2 : t[k] ∈ s) : zdv c round (t :: l) s first = 12 := by
  rw [zdv, if_neg (by omega), if_neg (by omega), if_pos (any_hit hk (by simpa using h2))]
theorem zjq {c : Club} {round first : Int} {t : List Int} {l : List (List Int)} {s : List Int} (h : (t.length : Int) = c.size) (h1 : zdn c round t none = 0) (h2 : ∀ x ∈ t, ¬ x ∈ s) (h3 : t.headD 0 ≤ first) : zdv c round (t :: l) s first = 11 := by
  rw [zdv, if_neg (by omega), if_neg (by omega), if_neg (by simp only [List.any_eq_true, not_exists, not_and]; intro x hx; simpa using h2 x hx), if_pos h3]
theorem zhs {c : Club} {round first : Int} {t : List Int} {l : List (List Int)} {s : List Int} (h : (t.length : Int) = c.size) (h1 : zdn c round t none = 0) (h2 : ∀ x ∈ t, ¬ x ∈ s) (h3 : ¬ t.headD 0 ≤ first) : zdv c round (t :: l) s first = zdv c round l (s ++ t) (t.headD 0) := by
  rw [zdv, if_neg (by omega), if_neg (by omega), if_neg (by simp only [List.any_eq_true, not_exists, not_and]; intro x hx; simpa using h2 x hx), if_neg h3]
def zka (T : List (List Int)) (k : Nat) : Int := if k = 0 then 0 else (T.getD (k - 1) []).headD 0
theorem zis {T : List (List Int)} {k : Nat} (h : k < T.length) : zka T (k + 1) = T[k].headD 0 := by
  simp [zka, List.getD_eq_getElem?_getD, List.getElem?_eq_getElem h]
theorem yX0 {p : Prop} (h : p := by first | exact rfl | (simp (disch := omega) only [go_sem, dopV, Option.map_some, Option.map_none, Option.bind_some, Option.bind_none, ↓reduceIte, Nat.reduceEqDiff, Nat.reduceLT, Nat.reduceLeDiff, Nat.reduceAdd, Nat.reduceMul, Nat.reduceSub, Nat.zero_add, Nat.add_zero, Nat.zero_le, Nat.zero_mul, Nat.mul_one, Nat.one_mul, Int.natCast_zero, Int.toNat_zero, Int.reduceToNat, Int.reduceLT, Int.reduceLE, Int.reduceEq, decide_true, decide_false, true_and, and_true, Bool.and_self, Bool.and_true, Bool.true_and, Bool.not_true, Bool.not_false, IntWalk.toNatUp, IntWalk.iteOmega, IntWalk.i64_in, Option.isSome_some, not_true_eq_false, not_false_eq_true, Option.getD_some, Option.getD_none, Int.toNat_natCast, List.length_map, List.getElem?_map, List.getElem?_eq_getElem, V.flat, V.one, List.all_cons, List.all_nil, *]; exact rfl)) : p := h
theorem checkTables_pc (c : Club) (hs : c.Small) (f : c.Fine) (h1 : c.size ≤ 4) (h2 : 3 ≤ c.size) {i : Nat} (hi : i < c.rounds.length) : PC Try.prog 87 [c.val, I i] (I (zem c i)) := by
  have q1 := hs.rounds
  have q2 := hs.at hi
  have q3 := q2.tables
  have q4 := hs.members
  rw [zem, c.round_at hi]
  refine DC.of_run Try.func87 rfl Try.ntmps87 Try.results87 (by simp) (fun _ => ?_); simp only [zaq, zas, go_sem, Nat.zero_add, Nat.reduceAdd]
  repeat' (first | (with_reducible first | (refine DS.nilOwn (t := 5) yU (by first | exact .inl rfl | exact .inr rfl) yE ?_) | refine DS.fltS yU yU yE ?_ | refine DS.opsNil ?_ | refine DS.seq ?_ | refine DS.regionL ?_ | refine DS.block ?_) | (refine DS.boxF (t := 2) yU yE yU ?_; simp only [zbp, zcj, zbo, zcc, zbl, zbi, zbw, zbm, zcl, zci, zbz, zch, zcb, zca]) | fail)
  refine DS.loopK [1, 2, 6] (by (simp only [go_sem, Nat.reduceEqDiff, ↓reduceIte]; exact rfl)) (fun (k : Nat × List Int) => [(5, .own false 3 1 (k.2.map cI)), (7, I k.1)]) (fun (k : Nat × List Int) => k.1 ≤ c.rounds[i].tables.length ∧ k.2.length ≤ 4 * k.1 ∧ zdv c i c.rounds[i].tables [] 0 = zdv c i (c.rounds[i].tables.drop k.1) k.2 (zka c.rounds[i].tables k.1) ∧ (∀ j, j < k.1 → ∀ h : j < c.rounds[i].tables.length, 0 < c.rounds[i].tables[j].length)) (fun (k : Nat × List Int) => c.rounds[i].tables.length - k.1) (0, []) yS (by simp [zka]) (fun k B hI hB => ?_); try dsimp only at hI hB; simp only [zap, zar]
  have hB0 := hB
  have hI0 := hI
  repeat' (first | (with_reducible first | refine DS.fltS yU yU yE ?_ | refine DS.opsNil ?_ | refine DS.seq ?_ | refine DS.regionL ?_ | (refine DS.cE yE ?_; first | refine CG.np (fun _ => ?_) (fun _ => ?_) | refine CG.p (fun _ => ?_) (fun _ => ?_)) | refine DS.block ?_ | refine DS.exit yU ?_ | refine DS.skip ?_) | refine DS.drawL (id := 6) [0, 1, 2, 3, 4, 5, 6] 7 (by kernel_rfl) zdb (by simp only [zay, zbf, zbg, zbh, zax]; exact rfl) (by simp only [zat, zau, List.drop_nil]; exact rfl) ?_ | (with_reducible first | refine DD.fltS yU yU yU yE ?_ | refine DD.nil0 ?_) | refine DS.retT [] yE trivial ?_ | fail)
  · rename_i e1 e2
    obtain ⟨_, r, dr1, rfl, dr3⟩ := zcg (l := c.rounds[i].tables) (i := k.1) (by omega); rw [dr1] at hI
    rw [hI.2.2.1, zlt e2]; rfl
  · rename_i e1 e2
    have hk : k.1 < c.rounds[i].tables.length := by omega
    refine DS.loopK [1, 2, 5, 6, 7] (by (simp only [go_sem, Nat.reduceEqDiff, ↓reduceIte]; exact rfl)) (fun (j : Nat) => [(8, I j)]) (fun (j : Nat) => j ≤ c.rounds[i].tables[k.1].length ∧ zdn c i c.rounds[i].tables[k.1] none = zdn c i (c.rounds[i].tables[k.1].drop j) (zjm c.rounds[i].tables[k.1] j)) (fun (j : Nat) => c.rounds[i].tables[k.1].length - j) 0 yS (by simp [zjm]) (fun j B hI hB => ?_); try dsimp only at hI hB; simp only [zap, zar]
    repeat' (first | (with_reducible first | refine DS.fltS yU yU yE ?_ | refine DS.opsNil ?_ | refine DS.seq ?_ | refine DS.regionL ?_ | (refine DS.cE yE ?_; refine CG.p (fun _ => ?_) (fun _ => ?_)) | refine DS.block ?_ | refine DS.exit yU ?_ | refine DS.skip ?_) | refine DS.pcS inferInstance (zhk c _ (by omega)) yR yT ?_ | refine DS.drawL (id := 11) [0, 1, 2, 3, 4, 5, 6, 7] 8 (by kernel_rfl) zdb (by simp only [zay, zbf, zbg, zbh, zax]; exact rfl) (by simp only [zat, zau, List.drop_nil]; exact rfl) ?_ | (with_reducible first | refine DD.fltS yU yU yU yE ?_ | refine DD.nil0 ?_) | refine DS.retT [] yE trivial ?_ | fail)
    · rename_i e3 e4
      obtain ⟨_, r, dr1, rfl, dr3⟩ := zcg (l := c.rounds[i].tables[k.1]) (i := j) (by omega); rw [dr1] at hI
      obtain ⟨_, r0, dr4, rfl, dr6⟩ := zcg (l := c.rounds[i].tables) (i := k.1) (by omega); rw [dr4] at hI0
      rw [hI0.2.2.1, zfa (e := 7) e2 (by rw [hI.2, zdn, if_pos e4]) (by decide)]; rfl
    · rename_i e3 e4
      obtain ⟨m, hm, e5, -, e7⟩ := zga e4
      have H := And.intro e5 e7
      simp only [e5]
      clear e5 e7 e4
      repeat' (first | (with_reducible first | refine DS.fltS yU yU yE ?_ | refine DS.opsNil ?_ | refine DS.seq ?_ | refine DS.regionL ?_ | (refine DS.cE yE ?_; first | refine CG.p (fun _ => ?_) (fun _ => ?_) | refine CG.no ?_ | refine CG.nb (fun _ => ?_) (fun _ => ?_)) | (refine DS.gE yU yE ?_; first | refine GG.run ?_ | refine GG.sF ?_) | refine DS.blk ?_ | refine DS.skip ?_) | refine DS.pcS inferInstance (zmy _ _) yR yT ?_ | refine DS.drawL (id := 16) [0, 1, 2, 3, 4, 5, 6, 7, 8, 9, 10, 11, 12, 13, 14, 15, 16, 17] 18 (by kernel_rfl) zdb (by simp only [zay, zbf, zbg, zbh, zax]; exact rfl) (by simp only [zat, zau, List.drop_nil]; exact rfl) ?_ | (with_reducible first | refine DD.fltS yU yU yU yE ?_ | (refine DD.gE yU yE ?_; first | refine DGG.pT (fun _ => ?_) (fun _ => ?_) | refine DGG.run ?_ | refine DGG.sF ?_) | refine DD.nil0 ?_) | refine DS.retT [] yE trivial ?_ | fail)
      all_goals have e8 := zll (f.to _ (List.getElem_mem hm)) i
      all_goals obtain ⟨_, r, dr1, rfl, dr3⟩ := zcg (l := c.rounds[i].tables[k.1]) (i := j) (by omega); rw [dr1] at hI
      · rename_i e9
        rw [e8] at e9
        obtain ⟨_, r0, dr4, rfl, dr6⟩ := zcg (l := c.rounds[i].tables) (i := k.1) (by omega); rw [dr4] at hI0
        rw [hI0.2.2.1, zfa (e := 10) e2 (by rw [hI.2, zdn, if_neg (by rw [H.1]; omega), if_pos (by rw [H.2]; exact e9)]) (by decide)]; rfl
      · rename_i e9 e10 e11
        rw [e8] at e9
        obtain ⟨e12, e13⟩ := zgb (t := c.rounds[i].tables[k.1]) (k := j) (by omega) (by omega)
        obtain ⟨_, r0, dr4, rfl, dr6⟩ := zcg (l := c.rounds[i].tables) (i := k.1) (by omega); rw [dr4] at hI0
        rw [hI0.2.2.1, zfa (e := 11) e2 (by rw [hI.2, zdn, if_neg (by rw [H.1]; omega), if_neg (by rw [H.2, e9]; decide), if_pos (by rw [e13]; simp only [zhc]; exact decide_eq_true e11)]) (by decide)]; rfl
      · rename_i e9 e10 e11
        rw [e8] at e9
        obtain ⟨e12, e13⟩ := zgb (t := c.rounds[i].tables[k.1]) (k := j) (by omega) (by omega)
        exact DS.back (hB (j + 1) _ _ (by omega) (⟨by omega, by rw [hI.2, dr3, zdn, if_neg (by rw [H.1]; omega), if_neg (by rw [H.2, e9]; decide), if_neg (by rw [e13]; simp only [zhc]; simpa using e11), zfe (by omega)]⟩) yS yS (fun b o e => by first | exact e | (simp only [zab]; split <;> simp_all)))
      · rename_i e9 e10
        rw [e8] at e9
        have e13 : zhc (zjm c.rounds[i].tables[k.1] j) c.rounds[i].tables[k.1][j] = false := by
          have : j = 0 := by omega
          subst this; rfl
        exact DS.back (hB (j + 1) _ _ (by omega) (⟨by omega, by rw [hI.2, dr3, zdn, if_neg (by rw [H.1]; omega), if_neg (by rw [H.2, e9]; decide), if_neg (by rw [e13]; decide), zfe (by omega)]⟩) yS yS (fun b o e => by first | exact e | (simp only [zab]; split <;> simp_all)))
    · rename_i e3
      have hids : zdn c i c.rounds[i].tables[k.1] none = 0 := by rw [hI.2, List.drop_eq_nil_of_le (by omega)]; rfl
      clear hI hB
      refine DS.loopK [1, 2, 5, 6, 7] (by (simp only [go_sem, Nat.reduceEqDiff, ↓reduceIte]; exact rfl)) (fun (j : Nat) => [(10, I j)]) (fun (j : Nat) => j ≤ c.rounds[i].tables[k.1].length ∧ ∀ m, m < j → ∀ h : m < c.rounds[i].tables[k.1].length, ¬ c.rounds[i].tables[k.1][m] ∈ k.2) (fun (j : Nat) => c.rounds[i].tables[k.1].length - j) 0 yS (by simp) (fun j B hI hB => ?_); try dsimp only at hI hB; simp only [zap, zar]
      repeat' (first | (with_reducible refine DS.mv (t := 5) yU (by first | exact .inl rfl | exact .inr rfl) yE ?_; simp only [zal, zac, zae, Nat.reduceEqDiff, ↓reduceIte, zag, zah, zao, zaf, zaj, zam, zai]) | (with_reducible refine DS.mv (t := 109) yU (by first | exact .inl rfl | exact .inr rfl) yE ?_; simp only [zal, zac, zae, Nat.reduceEqDiff, ↓reduceIte, zag, zah, zao, zaf, zaj, zam, zai]) | (with_reducible first | refine DS.fltS yU yU yE ?_ | refine DS.opsNil ?_ | refine DS.seq ?_ | refine DS.regionL ?_ | (refine DS.cE yE ?_; first | refine CG.p (fun _ => ?_) (fun _ => ?_) | refine CG.no ?_) | (refine DS.gE yU yE ?_; refine GG.sF ?_) | refine DS.blk ?_ | refine DS.block ?_ | refine DS.exit yU ?_ | refine DS.skip ?_) | (refine DS.append (mm := false) yU yE yE yU (by decide) yE (by first | exact .inl rfl | exact .inr ⟨rfl, rfl⟩) yE yX0 (by first | exact zan zcw _ | exact zan zdg _ | exact zan Member.len _ | exact zan Sitting.len _ | exact zan Ruling.len _ | (simp only [List.mem_cons, List.not_mem_nil, or_false, forall_eq]; rfl) | simp) ⟨by (try simp only [List.length_map, List.length_cons, List.length_nil, List.length_append, List.length_take, List.length_drop]); omega, by decide⟩ ?_; simp only [zal, zac, zae, Nat.reduceEqDiff, ↓reduceIte, zag, zah, zao, zaf, zaj, zam, zai]) | refine DS.pcS inferInstance (has_pc _ _) yR yT ?_ | refine DS.drawL (id := 23) [0, 1, 2, 3, 4, 5, 6, 7, 8, 9, 10, 11, 12, 13, 14, 15] 16 (by kernel_rfl) zdb (by simp only [zay, zbf, zbg, zbh, zax]; exact rfl) (by simp only [zat, zau, List.drop_nil]; exact rfl) ?_ | (with_reducible first | refine DD.fltS yU yU yU yE ?_ | (refine DD.gE yU yE ?_; first | refine DGG.pT (fun _ => ?_) (fun _ => ?_) | refine DGG.run ?_ | refine DGG.sF ?_) | refine DD.nil0 ?_) | refine DS.retT [] yE trivial ?_ | fail)
      · rename_i e4 e5
        obtain ⟨_, r0, dr4, rfl, dr6⟩ := zcg (l := c.rounds[i].tables) (i := k.1) (by omega); rw [dr4] at hI0
        rw [hI0.2.2.1, zjr e2 hids (k := j) (by omega) e5]; rfl
      · rename_i e4 e5
        exact DS.back (hB (j + 1) _ _ (by omega) (⟨by omega, fun m hm h => by
          by_cases hmj : m = j
          · subst hmj; exact e5
          · exact hI.2 m (by omega) h⟩) yS yS (fun b o e => by first | exact e | (simp only [zab]; split <;> simp_all)))
      all_goals
        rename_i e4 e5
        have hno : ∀ x ∈ c.rounds[i].tables[k.1], ¬ x ∈ k.2 := fun x hx => by
          obtain ⟨m, hm, rfl⟩ := List.getElem_of_mem hx
          exact hI.2 m (by omega) hm
        have hhd := znn (t := c.rounds[i].tables[k.1]) (by omega)
        have hmem := zkt hids _ (List.getElem_mem (show 0 < c.rounds[i].tables[k.1].length by omega))
        have hpos := member_pos f hmem
        have hlen : (k.2 ++ c.rounds[i].tables[k.1]).length ≤ 4 * (k.1 + 1) := by simp; omega
        have hall : ∀ m, m < k.1 + 1 → ∀ h : m < c.rounds[i].tables.length, 0 < c.rounds[i].tables[m].length := fun m hm h => by
          by_cases hmj : m = k.1
          · subst hmj; omega
          · exact hI0.2.2.2 m (by omega) h
      · have hprev := hI0.2.2.2 (k.1 - 1) (by omega) (by omega)
        have hf : zka c.rounds[i].tables k.1 = c.rounds[i].tables[k.1 - 1][0] := by
          have := zis (T := c.rounds[i].tables) (k := k.1 - 1) (by omega)
          rw [show k.1 - 1 + 1 = k.1 by omega] at this
          rw [this, znn hprev]
        have H := And.intro hno (And.intro hhd (And.intro hlen (And.intro hall hf)))
        clear hno hhd hlen hall hf hmem
        repeat' (first | (with_reducible refine DS.mv (t := 5) yU (by first | exact .inl rfl | exact .inr rfl) yE ?_; simp only [zal, zac, zae, Nat.reduceEqDiff, ↓reduceIte, zag, zah, zao, zaf, zaj, zam, zai]) | (with_reducible refine DS.mv (t := 109) yU (by first | exact .inl rfl | exact .inr rfl) yE ?_; simp only [zal, zac, zae, Nat.reduceEqDiff, ↓reduceIte, zag, zah, zao, zaf, zaj, zam, zai]) | (with_reducible first | refine DS.fltS yU yU yE ?_ | refine DS.opsNil ?_ | refine DS.seq ?_ | refine DS.regionL ?_ | (refine DS.cE yE ?_; refine CG.p (fun _ => ?_) (fun _ => ?_)) | (refine DS.gE yU yE ?_; refine GG.run ?_) | refine DS.blk ?_ | refine DS.skip ?_) | (refine DS.append (mm := false) yU yE yE yU (by decide) yE (by first | exact .inl rfl | exact .inr ⟨rfl, rfl⟩) yE yX0 (by first | exact zan zcw _ | exact zan zdg _ | exact zan Member.len _ | exact zan Sitting.len _ | exact zan Ruling.len _ | (simp only [List.mem_cons, List.not_mem_nil, or_false, forall_eq]; rfl) | simp) ⟨by (try simp only [List.length_map, List.length_cons, List.length_nil, List.length_append, List.length_take, List.length_drop]); omega, by decide⟩ ?_; simp only [zal, zac, zae, Nat.reduceEqDiff, ↓reduceIte, zag, zah, zao, zaf, zaj, zam, zai]) | (with_reducible first | refine DD.fltS yU yU yU yE ?_ | (refine DD.gE yU yE ?_; refine DGG.run ?_) | refine DD.nil0 ?_) | refine DS.retT [] yE trivial ?_ | fail)
        · rename_i e6
          obtain ⟨_, r0, dr4, rfl, dr6⟩ := zcg (l := c.rounds[i].tables) (i := k.1) (by omega); rw [dr4] at hI0
          rw [hI0.2.2.1, zjq e2 hids H.1 (by rw [H.2.1, H.2.2.2.2]; exact e6)]; rfl
        · rename_i e6
          obtain ⟨_, r0, dr4, rfl, dr6⟩ := zcg (l := c.rounds[i].tables) (i := k.1) (by omega); rw [dr4] at hI0
          refine DS.back (hB0 (k.1 + 1, k.2 ++ c.rounds[i].tables[k.1]) _ _ (by simp; omega) ⟨by simp; omega, H.2.2.1, ?_, H.2.2.2.1⟩ yS yS (fun b o e => by exact e))
          rw [hI0.2.2.1, dr6, zhs e2 hids H.1 (by rw [H.2.1, H.2.2.2.2]; exact e6), zis (by omega)]
      · have hf : zka c.rounds[i].tables k.1 = 0 := by simp [zka]; omega
        have H := And.intro hno (And.intro hhd (And.intro hlen (And.intro hall hf)))
        clear hno hhd hlen hall hf hmem
        obtain ⟨_, r0, dr4, rfl, dr6⟩ := zcg (l := c.rounds[i].tables) (i := k.1) (by omega); rw [dr4] at hI0
        refine DS.back (hB0 (k.1 + 1, k.2 ++ c.rounds[i].tables[k.1]) _ _ (by simp; omega) ⟨by simp; omega, H.2.2.1, ?_, H.2.2.2.1⟩ yS yS (fun b o e => by exact e))
        rw [hI0.2.2.1, dr6, zhs e2 hids H.1 (by rw [H.2.1, H.2.2.2.2]; omega), zis (by omega)]
  · rename_i e1
    have de1 := zdk (l := c.rounds[i].tables) (i := k.1) (by omega); rw [de1] at hI
    rw [hI.2.2.1]; rfl
end Go.XL
namespace Go.XL
open Go.Proofs
set_option maxRecDepth 100000
set_option maxHeartbeats 4000000
theorem zjv {c : Club} (h : zfd c = 0) : (3 ≤ c.size ∧ c.size ≤ 4) ∧ (0 ≤ c.start ∧ c.start ≤ 1000000) ∧ (-1000000 ≤ c.absent ∧ c.absent ≤ 1000000) ∧ (0 ≤ c.window ∧ c.window ≤ 20) ∧ zhg c.size c.places 1000000 0 = 0 := by
  unfold zfd at h
  split at h
  · cases h
  split at h
  · cases h
  split at h
  · cases h
  split at h
  · cases h
  rename_i h1 h2 h3 h4
  exact ⟨Decidable.not_not.1 h1, Decidable.not_not.1 h2, Decidable.not_not.1 h3, Decidable.not_not.1 h4, h⟩
theorem zfo {c : Club} {i : Nat} (h : i < c.rounds.length) : zdi c i (c.rounds.length - i) = if zem c i ≠ 0 then zem c i else if zhv c i ≠ 0 then zhv c i else zdi c (i + 1) (c.rounds.length - (i + 1)) := by
  rw [show c.rounds.length - i = (c.rounds.length - (i + 1)) + 1 by omega, zdi]
theorem zoq {c : Club} {i : Nat} (h : i < c.rounds.length) (h1 : ¬ zem c i = 0) : zdi c i (c.rounds.length - i) = zem c i := by rw [zfo h, if_pos h1]
theorem roundsGo_B {c : Club} {i : Nat} (h : i < c.rounds.length) (h1 : zem c i = 0) (h2 : ¬ zfh c i = 0) : zdi c i (c.rounds.length - i) = zfh c i := by
  have e : zhv c i = zfh c i := by rw [zhv, if_pos h2]
  rw [zfo h, if_neg (by omega), e, if_pos h2]
theorem roundsGo_C {c : Club} {i : Nat} (h : i < c.rounds.length) (h1 : zem c i = 0) (h2 : zfh c i = 0) (h3 : ¬ zew c i = 0) : zdi c i (c.rounds.length - i) = zew c i := by
  have e : zhv c i = zew c i := by rw [zhv, if_neg (by omega)]
  rw [zfo h, if_neg (by omega), e, if_pos h3]
theorem roundsGo_D {c : Club} {i : Nat} (h : i < c.rounds.length) (h1 : zem c i = 0) (h2 : zfh c i = 0) (h3 : zew c i = 0) : zdi c i (c.rounds.length - i) = zdi c (i + 1 : Nat) (c.rounds.length - (i + 1)) := by
  have e : zhv c i = zew c i := by rw [zhv, if_neg (by omega)]
  rw [zfo h, if_neg (by omega), e, if_neg (by omega)]
theorem znz (c : Club) (hs : c.Small) : PC Try.prog 49 [c.val] (I (zdy c)) := by
  have q1 := hs.rounds
  have q2 := hs.members
  by_cases hr : zfd c = 0
  · obtain ⟨g1, g2, g3, g4, g5⟩ := zjv hr
    by_cases hm : zed c.members = 0
    · have f := zth hm
      rw [zdy, if_neg (by omega), if_neg (by omega)]
      refine DC.of_run Try.func49 rfl Try.ntmps49 Try.results49 (by simp) (fun _ => ?_); simp only [zaq, zas, go_sem, Nat.zero_add, Nat.reduceAdd]
      repeat' (first | (with_reducible first | refine DS.fltS yU yU yE ?_ | refine DS.opsNil ?_ | refine DS.seq ?_ | refine DS.regionL ?_ | (refine DS.cE yE ?_; first | refine CG.p (fun _ => ?_) (fun _ => ?_) | refine CG.no ?_) | refine DS.block ?_ | refine DS.skip ?_) | refine DS.pcS inferInstance (zib c) yR yT ?_ | refine DS.pcS inferInstance (ziv c q2) yR yT ?_ | (refine DS.boxF (t := 1) yU yE yU ?_; simp only [zbp, zcj, zbo, zcc, zbl, zbi, zbw, zbm, zcl, zci, zbz, zch, zcb, zca]) | refine DS.retT [] yE trivial ?_ | fail)
      · rw [if_pos (by omega)]; rfl
      rename_i q3
      rw [if_neg (by omega)]
      refine DS.loopK [1] (by (simp only [go_sem, Nat.reduceEqDiff, ↓reduceIte]; exact rfl)) (fun (i : Nat) => [(5, I i)]) (fun (i : Nat) => i ≤ c.rounds.length ∧ zdi c 0 c.rounds.length = zdi c i (c.rounds.length - i)) (fun (i : Nat) => c.rounds.length - i) 0 yS (by simp) (fun i B hI hB => ?_); try dsimp only at hI hB; simp only [zap, zar]
      repeat' (first | (with_reducible first | refine DS.fltS yU yU yE ?_ | refine DS.opsNil ?_ | refine DS.seq ?_ | refine DS.regionL ?_ | (refine DS.cE yE ?_; first | refine CG.np (fun _ => ?_) (fun _ => ?_) | refine CG.p (fun _ => ?_) (fun _ => ?_)) | refine DS.blk ?_ | refine DS.block ?_ | refine DS.exit yU ?_ | refine DS.skip ?_) | refine DS.pcS inferInstance (checkTables_pc c hs f g1.2 g1.1 (i := i) (by omega)) yR yT ?_ | refine DS.pcS inferInstance (checkPoints_pc c hs g1.2 (by omega) g2 (i := i) (by omega)) yR yT ?_ | refine DS.pcS inferInstance (checkRulings_pc c hs g1.2 (by omega) g2 g4 (i := i) (by omega)) yR yT ?_ | refine DS.retT [] yE trivial ?_ | fail)
      · rename_i e1 e2
        rw [hI.2, zoq (by omega) e2]; rfl
      · rename_i e1 e2 e3
        rw [hI.2, roundsGo_B (by omega) e2 e3]; rfl
      · rename_i e1 e2 e3 e4
        rw [hI.2, roundsGo_C (by omega) e2 e3 e4]; rfl
      · rename_i e1 e2 e3 e4
        exact DS.back (hB (i + 1) _ _ (by omega) (⟨by omega, by rw [hI.2, roundsGo_D (by omega) e2 e3 e4]⟩) yS yS (fun b o e => by first | exact e | (simp only [zab]; split <;> simp_all)))
      · rename_i e1
        rw [hI.2, show c.rounds.length - i = 0 by omega]; rfl
    · rw [zdy, if_neg (by omega), if_pos hm]
      refine DC.of_run Try.func49 rfl Try.ntmps49 Try.results49 (by simp) (fun _ => ?_); simp only [zaq, zas, go_sem, Nat.zero_add, Nat.reduceAdd]
      repeat' (first | (with_reducible first | refine DS.fltS yU yU yE ?_ | refine DS.opsNil ?_ | refine DS.seq ?_ | refine DS.regionL ?_ | (refine DS.cE yE ?_; first | refine CG.yes ?_ | refine CG.no ?_) | refine DS.skip ?_) | refine DS.pcS inferInstance (zib c) yR yT ?_ | refine DS.pcS inferInstance (ziv c q2) yR yT ?_ | (refine DS.boxF (t := 1) yU yE yU ?_; simp only [zbp, zcj, zbo, zcc, zbl, zbi, zbw, zbm, zcl, zci, zbz, zch, zcb, zca]) | refine DS.retT [] yE trivial ?_ | fail)
      rfl
  · rw [zdy, if_pos hr]
    refine DC.of_run Try.func49 rfl Try.ntmps49 Try.results49 (by simp) (fun _ => ?_); simp only [zaq, zas, go_sem, Nat.zero_add, Nat.reduceAdd]
    repeat' (first | (with_reducible first | refine DS.fltS yU yU yE ?_ | refine DS.opsNil ?_ | refine DS.seq ?_ | refine DS.regionL ?_ | (refine DS.cE yE ?_; refine CG.yes ?_)) | refine DS.pcS inferInstance (zib c) yR yT ?_ | (refine DS.boxF (t := 1) yU yE yU ?_; simp only [zbp, zcj, zbo, zcc, zbl, zbi, zbw, zbm, zcl, zci, zbz, zch, zcb, zca]) | refine DS.retT [] yE trivial ?_ | fail)
    rfl
def zmi (c : Club) (round : Int) : List Int := (c.members.filter (fun m => m.playsR round)).map Member.id
theorem zny {c : Club} (h : zdy c = 0) : c.Fine := by
  unfold zdy at h
  split at h
  · contradiction
  split at h
  · contradiction
  rename_i h1 h2
  exact zth (by omega)
theorem playingR_eq {c : Club} (f : c.Fine) (round : Int) : zmi c round = zjc c round := by
  unfold zmi zjc
  congr 1
  apply List.filter_congr
  intro m hm
  exact zll (f.to m hm) round
theorem zmz (c : Club) (hs : c.Small) (round : Int) : PC Try.prog 16 [c.val, I round] (.own false 3 1 ((zcn c round).map cI)) := by
  have q1 := hs.members
  refine DC.of_run Try.func16 rfl Try.ntmps16 Try.results16 (by simp) (fun _ => ?_); simp only [zaq, zas, go_sem, Nat.zero_add, Nat.reduceAdd]
  repeat' (first | (with_reducible first | (refine DS.nilOwn (t := 4) yU (by first | exact .inl rfl | exact .inr rfl) yE ?_) | (refine DS.nilOwn (t := 5) yU (by first | exact .inl rfl | exact .inr rfl) yE ?_) | refine DS.fltS yU yU yE ?_ | refine DS.opsNil ?_ | refine DS.seq ?_ | refine DS.regionL ?_ | (refine DS.cE yE ?_; first | refine CG.p (fun _ => ?_) (fun _ => ?_) | refine CG.yes ?_) | (refine DS.gE yU yE ?_; first | refine GG.npF (fun _ => ?_) (fun _ => ?_) | refine GG.run ?_ | refine GG.sT ?_) | refine DS.block ?_ | refine DS.skip ?_) | refine DS.pcS inferInstance (znz c hs) yR yT ?_ | (refine DS.boxF (t := 2) yU yE yU ?_; simp only [zbp, zcj, zbo, zcc, zbl, zbi, zbw, zbm, zcl, zci, zbz, zch, zcb, zca]) | refine DS.retT [] yE trivial ?_ | fail)
  · rename_i e1 e2; rw [zcn, if_pos e2]; rfl
  · rename_i e1 e2
    rw [zcn, if_neg e2, if_neg (by omega)]
    refine DS.loopK [1, 2] (by (simp only [go_sem, Nat.reduceEqDiff, ↓reduceIte]; exact rfl)) (fun (k : Nat × List Int) => [(5, .own false 3 1 (k.2.map cI)), (6, I k.1)]) (fun (k : Nat × List Int) => k.1 ≤ c.members.length ∧ k.2.length ≤ k.1 ∧ k.2 ++ ((c.members.drop k.1).filter (fun m => m.playsR round)).map Member.id = zmi c round) (fun (k : Nat × List Int) => c.members.length - k.1) (0, []) yS (by simp [zmi]) (fun k B hI hB => ?_); try dsimp only at hI hB; simp only [zap, zar]
    repeat' (first | (with_reducible refine DS.mv (t := 4) yU (by first | exact .inl rfl | exact .inr rfl) yE ?_; simp only [zal, zac, zae, Nat.reduceEqDiff, ↓reduceIte, zag, zah, zao, zaf, zaj, zam, zai]) | (with_reducible refine DS.mv (t := 5) yU (by first | exact .inl rfl | exact .inr rfl) yE ?_; simp only [zal, zac, zae, Nat.reduceEqDiff, ↓reduceIte, zag, zah, zao, zaf, zaj, zam, zai]) | (with_reducible refine DS.mv (t := 28) yU (by first | exact .inl rfl | exact .inr rfl) yE ?_; simp only [zal, zac, zae, Nat.reduceEqDiff, ↓reduceIte, zag, zah, zao, zaf, zaj, zam, zai]) | (with_reducible refine DS.mv (t := 37) yU (by first | exact .inl rfl | exact .inr rfl) yE ?_; simp only [zal, zac, zae, Nat.reduceEqDiff, ↓reduceIte, zag, zah, zao, zaf, zaj, zam, zai]) | (with_reducible first | refine DS.fltS yU yU yE ?_ | refine DS.opsNil ?_ | refine DS.seq ?_ | refine DS.regionL ?_ | (refine DS.cE yE ?_; first | refine CG.p (fun _ => ?_) (fun _ => ?_) | refine CG.b (fun _ => ?_) (fun _ => ?_)) | refine DS.blk ?_ | refine DS.block ?_ | refine DS.exit yU ?_ | refine DS.skip ?_) | (refine DS.bsl yU yE yE ?_; simp only [go_sem, Nat.zero_add, Nat.reduceAdd]) | (refine DS.append (mm := false) yU yE yE yU (by decide) yE (by first | exact .inl rfl | exact .inr ⟨rfl, rfl⟩) yE yX0 (by first | exact zan zcw _ | exact zan zdg _ | exact zan Member.len _ | exact zan Sitting.len _ | exact zan Ruling.len _ | (simp only [List.mem_cons, List.not_mem_nil, or_false, forall_eq]; rfl) | simp) ⟨by (try simp only [List.length_map, List.length_cons, List.length_nil, List.length_append, List.length_take, List.length_drop]); omega, by decide⟩ ?_; simp only [zal, zac, zae, Nat.reduceEqDiff, ↓reduceIte, zag, zah, zao, zaf, zaj, zam, zai]) | refine DS.pcS inferInstance (zmy _ _) yR yT ?_ | refine DS.retT [] yE trivial ?_ | fail)
    · rename_i e2 e3
      obtain ⟨_, r, dr1, rfl, dr3⟩ := zcg (l := c.members) (i := k.1) (by omega); rw [dr1] at hI
      exact DS.back (hB (k.1 + 1, k.2 ++ [c.members[k.1].id]) _ _ (by simp; omega) (⟨by simp; omega, by simp; omega, by rw [← hI.2.2, dr3, List.filter_cons, if_pos e3]; simp⟩) yS yS (fun b o e => by first | exact e | (simp only [zab]; split <;> simp_all)))
    · rename_i e2 e3
      obtain ⟨_, r, dr1, rfl, dr3⟩ := zcg (l := c.members) (i := k.1) (by omega); rw [dr1] at hI
      exact DS.back (hB (k.1 + 1, k.2) _ _ (by simp; omega) (⟨by simp; omega, by simp; omega, by rw [← hI.2.2, dr3, List.filter_cons, if_neg (by simp [e3])]⟩) yS yS (fun b o e => by first | exact e | (simp only [zab]; split <;> simp_all)))
    · rename_i e2
      have de1 := zdk (l := c.members) (i := k.1) (by omega); rw [de1] at hI
      rw [← playingR_eq (zny e1), ← hI.2.2]; simp [tupV]
  · rename_i e1; rw [zcn]; split <;> first | rfl | (rw [if_pos e1]; rfl)
end Go.XL
namespace Go.XL
open Go.Proofs
set_option maxRecDepth 100000
set_option maxHeartbeats 4000000
def sC (c : Club) (rs : List (List Int)) (bp R : Nat) (mt : V) (budget steps : Int) : List V :=
  [I c.size, I c.start, I c.absent, I c.window, ints c.places, Bo c.share, .lst (c.members.map Member.cells), .lst (c.rounds.map Sitting.cells), rows rs, .v (.slice (some ⟨bp, 0, none⟩) R R), mt, I budget, I steps]
@[go_sem] theorem zok (c : Club) (rs : List (List Int)) (bp R : Nat) (mt : V) (budget steps : Int) : sC c rs bp R mt budget steps =
  [I c.size, I c.start, I c.absent, I c.window, ints c.places, Bo c.share, .lst (c.members.map Member.cells), .lst (c.rounds.map Sitting.cells), rows rs, .v (.slice (some ⟨bp, 0, none⟩) R R), mt, I budget, I steps] := rfl
def rowC (n b : Nat) : List V := [.v (.slice (some ⟨b, 0, none⟩) n n)]
@[go_sem] theorem rowC_eq (n b : Nat) : rowC n b = [.v (.slice (some ⟨b, 0, none⟩) n n)] := rfl
structure MetR (S : Sto) (bs : List Nat) (c : Club) (met : Int → Int → Bool) : Prop where
  len : bs.length = c.members.length
  row : ∀ (i : Nat) (h : i < bs.length) (h' : i < c.members.length), zaa S bs[i] = some (.cells (c.members.map fun m => Bo (met c.members[i].id m.id)) 4)
theorem yX1 {p : Prop} (h : p := by (simp (disch := omega) only [go_sem, dopV, Option.map_some, Option.map_none, Option.bind_some, Option.bind_none, ↓reduceIte, Nat.reduceEqDiff, Nat.reduceLT, Nat.reduceLeDiff, Nat.reduceAdd, Nat.reduceMul, Nat.reduceSub, Nat.zero_add, Nat.add_zero, Nat.zero_le, Nat.zero_mul, Nat.mul_one, Nat.one_mul, Int.natCast_zero, Int.toNat_zero, Int.reduceToNat, Int.reduceLT, Int.reduceLE, Int.reduceEq, decide_true, decide_false, true_and, and_true, Bool.and_self, Bool.and_true, Bool.true_and, Bool.not_true, Bool.not_false, IntWalk.toNatUp, IntWalk.iteOmega, IntWalk.i64_in, Option.isSome_some, not_true_eq_false, not_false_eq_true, Option.getD_some, Option.getD_none, Int.toNat_natCast, List.length_map, List.getElem?_map, List.getElem?_eq_getElem, V.flat, V.one, List.all_cons, List.all_nil, *, zok]; exact rfl)) : p := h
theorem yX2 {p : Prop} (h : p := by (simp (disch := omega) only [go_sem, dopV, Option.map_some, Option.map_none, Option.bind_some, Option.bind_none, ↓reduceIte, Nat.reduceEqDiff, Nat.reduceLT, Nat.reduceLeDiff, Nat.reduceAdd, Nat.reduceMul, Nat.reduceSub, Nat.zero_add, Nat.add_zero, Nat.zero_le, Nat.zero_mul, Nat.mul_one, Nat.one_mul, Int.natCast_zero, Int.toNat_zero, Int.reduceToNat, Int.reduceLT, Int.reduceLE, Int.reduceEq, decide_true, decide_false, true_and, and_true, Bool.and_self, Bool.and_true, Bool.true_and, Bool.not_true, Bool.not_false, IntWalk.toNatUp, IntWalk.iteOmega, IntWalk.i64_in, Option.isSome_some, not_true_eq_false, not_false_eq_true, Option.getD_some, Option.getD_none, Int.toNat_natCast, List.length_map, List.getElem?_map, List.getElem?_eq_getElem, V.flat, V.one, List.all_cons, List.all_nil, *, zok]; try exact rfl)) : p := h
theorem fair_rc (S : Sto) {bx bp R : Nat} {c : Club} {rs : List (List Int)} {bs : List Nat} {budget steps : Int} {met : Int → Int → Bool} (hs : c.Small)
    (hx : zaa S bx = some (.cells (sC c rs bp R (.own false 134 1 (bs.map (rowC c.members.length))) budget steps) 102)) (hm : MetR S bs c met) (t : List Int) (id : Int) (ht : ∀ a ∈ t, ¬ zgy c a < 0) (hid : ¬ zgy c id < 0) :
    RC Try.prog 123 [.v (.pointer (some ⟨bx, 0, none⟩)), ints t, I id] S (Bo (zcm met t id)) := by
  have q1 := hs.members
  obtain ⟨m2, hm2, f1, f2, -⟩ := zga hid
  have hl := hm.len
  refine DC.of_run Try.func123 rfl Try.ntmps123 Try.results123 (by simp) (fun _ => ?_); simp only [zaq, zas, go_sem, Nat.zero_add, Nat.reduceAdd]
  refine DS.bnd (t := 1) yG (.inl rfl) (fun hb1 => ?_); simp only [List.length_map] at hb1
  have H := And.intro f1 f2
  clear f1 f2
  repeat' (first | (with_reducible first | refine DS.fltS yU yU yE ?_ | refine DS.opsNil ?_ | refine DS.seq ?_ | refine DS.regionL ?_ | refine DS.block ?_) | fail)
  refine DS.loopK [0, 1, 2] (by (simp only [go_sem, Nat.reduceEqDiff, ↓reduceIte]; exact rfl)) (fun (i : Nat) => [(7, I i)]) (fun (i : Nat) => i ≤ t.length ∧ zcm met t id = zcm met (t.drop i) id) (fun (i : Nat) => t.length - i) 0 yS (by simp) (fun i B hI hB => ?_); try dsimp only at hI hB; simp only [zap, zar]
  repeat' (first | (with_reducible first | refine DS.fltS yU yU yX1 ?_ | refine DS.opsNil ?_ | refine DS.seq ?_ | refine DS.regionL ?_) | (with_reducible refine DS.cE yX1 ?_; with_reducible refine CG.p (fun _ => ?_) (fun _ => ?_)) | (with_reducible first | refine DS.block ?_ | refine DS.exit yU ?_ | refine DS.skip ?_) | refine DS.drawL (id := 4) [0, 1, 2, 3, 4, 5, 6, 7, 8, 9, 10, 11, 12, 13, 14, 15, 16, 17, 18, 19, 20] 21 (by kernel_rfl) zdb (by simp only [zay, zbf, zbg, zbh, zax]; exact rfl) (by simp only [zat, zau, List.drop_nil]; exact rfl) ?_ | with_reducible refine DD.fltS yU yU yU yX1 ?_ | refine DD.pcV0 inferInstance (zhk c _ (by omega)) yU yX2 ?_ | refine DS.retA yX1 ⟨?_, rfl⟩ | fail)
  · obtain ⟨m1, hm1, g1, g2, -⟩ := zga (ht t[i] (List.getElem_mem (by omega)))
    have hr := hm.row m1 (hl ▸ hm1) hm1
    have G := And.intro g2 H
    simp only [g1, H.1]
    clear g1 g2 H hid
    repeat' (first | (with_reducible first | refine DS.fltS yU yU yX1 ?_ | refine DS.opsNil ?_ | refine DS.seq ?_ | refine DS.regionL ?_) | (with_reducible refine DS.cE yX1 ?_; with_reducible refine CG.b (fun _ => ?_) (fun _ => ?_)) | (with_reducible first | refine DS.blk ?_ | refine DS.skip ?_ | refine DD.fltS yU yU yU yX1 ?_ | refine DD.nil0 ?_) | refine DD.pcV0 inferInstance (zhk c _ (by omega)) yU yX2 ?_ | refine DS.retA yX1 ⟨?_, rfl⟩ | fail)
    · rename_i e1 e2
      obtain ⟨_, r, dr1, rfl, dr3⟩ := zcg (l := t) (i := i) (by omega); rw [dr1] at hI
      rw [hI.2]; simp [zcm, e2, tupV]
    · rename_i e1 e2
      obtain ⟨_, r, dr1, rfl, dr3⟩ := zcg (l := t) (i := i) (by omega); rw [dr1] at hI
      exact DS.back (hB (i + 1) _ _ (by omega) (⟨by omega, by rw [hI.2, dr3]; simp [zcm, e2]⟩) yS yS (fun b o e => by first | exact e | (simp only [zab]; split <;> simp_all)))
  · have de1 := zdk (l := t) (i := i) (by omega); rw [de1] at hI
    rw [hI.2]; rfl
def zet (st : List Int → Int → Bool) (f : List Int → List Int → List (List Int)) (t : List Int) : List Int → List (List Int)
  | [] => []
  | id :: r => (if st t id = true then (f (t ++ [id]) r).map (id :: ·) else []) ++ zet st f t r
def zfj (st : List Int → Int → Bool) : Nat → List Int → List Int → List (List Int)
  | 0, _, _ => [[]]
  | n + 1, t, ids => zet st (zfj st n) t ids
theorem znh (st : List Int → Int → Bool) : ∀ (n : Nat) (t ids : List Int), (zfj st n t ids).length ≤ (ids.length + 1) ^ n
  | 0, t, ids => by simp [zfj]
  | n + 1, t, ids => by
    have key : ∀ (l : List Int) (m : Nat), l.length ≤ m → (zet st (zfj st n) t l).length ≤ l.length * (m + 1) ^ n := by
      intro l
      induction l with
      | nil => intro m _; simp [zet]
      | cons id r ih =>
        intro m hm
        rw [List.length_cons] at hm
        simp only [zet, List.length_append, List.length_cons]
        have h1 := ih m (by omega)
        have h2 : (if st t id = true then (zfj st n (t ++ [id]) r).map (id :: ·) else []).length ≤ (m + 1) ^ n := by
          split
          · rw [List.length_map]
            exact Nat.le_trans (znh st n _ r) (Nat.pow_le_pow_left (by omega) n)
          · simp
        rw [Nat.succ_mul]; omega
    have := key ids ids.length (Nat.le_refl _)
    rw [zfj, Nat.pow_succ]
    refine Nat.le_trans this ?_
    rw [Nat.mul_comm]
    exact Nat.mul_le_mul_left _ (by omega)
theorem zpb (st : List Int → Int → Bool) : ∀ (n : Nat) (t ids : List Int), zgi st n t ids = (zfj st n t ids).map (t ++ ·)
  | 0, t, ids => by simp [zgi, zfj]
  | n + 1, t, ids => by
    have key : ∀ l : List Int, zeq st (zgi st n) t l = (zet st (zfj st n) t l).map (t ++ ·) := by
      intro l
      induction l with
      | nil => rfl
      | cons id r ih =>
        simp only [zeq, zet, ih, List.map_append]
        congr 1
        split
        · rw [zpb st n, List.map_map]
          apply List.map_congr_left; intro x _; simp
        · rfl
    rw [zgi, zfj, key]
end Go.XL
namespace Go.XL
open Go.Proofs
set_option maxRecDepth 100000
set_option maxHeartbeats 4000000
def Club.Asc (c : Club) : Prop := c.members.Pairwise fun a b => a.id < b.id
theorem asc_inj {c : Club} (h : c.Asc) {i j : Nat} (hi : i < c.members.length) (hj : j < c.members.length) (e : c.members[i].id = c.members[j].id) : i = j := by
  rcases Nat.lt_trichotomy i j with h1 | h1 | h1
  · have := List.pairwise_iff_getElem.1 h i j hi hj h1; omega
  · exact h1
  · have := List.pairwise_iff_getElem.1 h j i hj hi h1; omega
def updM (met : Int → Int → Bool) (a b : Int) (v : Bool) : Int → Int → Bool := fun x y => if x = a ∧ y = b then v else met x y
theorem row_set {c : Club} (h : c.Asc) {k : Nat} (hk : k < c.members.length) (met : Int → Int → Bool) (a : Int) (v : Bool) :
    (c.members.map fun m => Bo (met a m.id)).set k (Bo v) = c.members.map fun m => Bo (updM met a c.members[k].id v a m.id) := by
  apply List.ext_getElem
  · simp
  intro j h1 h2
  simp only [List.length_set, List.length_map] at h1
  rw [List.getElem_set]
  by_cases hj : k = j
  · subst hj; simp [updM]
  · have : ¬ c.members[j].id = c.members[k].id := fun e => hj (asc_inj h hk h1 e.symm)
    simp [hj, updM, this]
theorem MetR.set {S : Sto} {bs : List Nat} {c : Club} {met : Int → Int → Bool} (m : MetR S bs c met) (hb : bs.Nodup) (h : c.Asc) {i k : Nat} (hi : i < c.members.length) (hk : k < c.members.length) (hi' : i < bs.length) (v : Bool) :
    MetR (setS bs[i] (.cells ((c.members.map fun m => Bo (met c.members[i].id m.id)).set k (Bo v)) 4) S) bs c (updM met c.members[i].id c.members[k].id v) := by
  refine ⟨m.len, fun j hj hj' => ?_⟩
  rw [zba (m.row i hi' hi)]
  by_cases e : j = i
  · subst e
    rw [if_pos rfl, row_set h hk]
  · have hne : ¬ bs[j] = bs[i] := fun h' => e (List.getElem_inj hb |>.1 h')
    rw [if_neg hne, m.row j hj hj']
    have hid : ¬ c.members[j].id = c.members[i].id := fun h' => e (asc_inj h hj' hi h')
    congr 2
    apply List.map_congr_left; intro x _
    simp [updM, hid]
def zln (met : Int → Int → Bool) (t : List Int) (v : Bool) : Int → Int → Bool := fun a b => if a ∈ t ∧ b ∈ t ∧ a ≠ b then v else met a b
def zpx (met : Int → Int → Bool) (t : List Int) (i : Nat) (v : Bool) : Int → Int → Bool := fun a b => if a ∈ t.take i ∧ b ∈ t ∧ a ≠ b then v else met a b
def znj (met : Int → Int → Bool) (t : List Int) (a0 : Int) (k : Nat) (v : Bool) : Int → Int → Bool := fun a b => if a = a0 ∧ b ∈ t.take k ∧ a ≠ b then v else met a b
theorem zhx {t : List Int} {k : Nat} (h : k < t.length) (x : Int) : x ∈ t.take (k + 1) ↔ x ∈ t.take k ∨ x = t[k] := by
  rw [List.take_succ_eq_append_getElem h, List.mem_append, List.mem_singleton]
theorem markI_zero (met : Int → Int → Bool) (t : List Int) (v : Bool) : zpx met t 0 v = met := by funext a b; simp [zpx]
theorem markK_zero (met : Int → Int → Bool) (t : List Int) (a0 : Int) (v : Bool) : znj met t a0 0 v = met := by funext a b; simp [znj]
theorem markK_same {met : Int → Int → Bool} {t : List Int} {a0 : Int} {k : Nat} (v : Bool) (h : k < t.length) (e : t[k] = a0) : znj met t a0 (k + 1) v = znj met t a0 k v := by
  funext a b
  simp only [znj, zhx h, e]
  by_cases h1 : a = a0 ∧ b ∈ t.take k ∧ a ≠ b
  · rw [if_pos h1, if_pos ⟨h1.1, .inl h1.2.1, h1.2.2⟩]
  · rw [if_neg h1, if_neg]
    rintro ⟨h2, h3 | h3, h4⟩
    · exact h1 ⟨h2, h3, h4⟩
    · exact h4 (h2.trans h3.symm)
theorem markK_step {met : Int → Int → Bool} {t : List Int} {a0 : Int} {k : Nat} (v : Bool) (h : k < t.length) (e : ¬ t[k] = a0) : znj met t a0 (k + 1) v = updM (znj met t a0 k v) a0 t[k] v := by
  funext a b
  simp only [updM, znj, zhx h]
  by_cases h0 : a = a0 ∧ b = t[k]
  · rw [if_pos h0, if_pos ⟨h0.1, .inr h0.2, fun h1 => e (by rw [← h0.2, ← h1, h0.1])⟩]
  · rw [if_neg h0]
    by_cases h1 : a = a0 ∧ b ∈ t.take k ∧ a ≠ b
    · rw [if_pos h1, if_pos ⟨h1.1, .inl h1.2.1, h1.2.2⟩]
    · rw [if_neg h1, if_neg]
      rintro ⟨h2, h3 | h3, h4⟩
      · exact h1 ⟨h2, h3, h4⟩
      · exact h0 ⟨h2, h3⟩
theorem markI_step {met : Int → Int → Bool} {t : List Int} {i k : Nat} (v : Bool) (h : i < t.length) (hk : t.length ≤ k) : znj (zpx met t i v) t t[i] k v = zpx met t (i + 1) v := by
  funext a b
  simp only [znj, zpx, List.take_of_length_le hk, zhx h]
  by_cases h1 : a ∈ t.take i ∧ b ∈ t ∧ a ≠ b
  · rw [if_pos h1, if_pos (⟨.inl h1.1, h1.2⟩ : (a ∈ t.take i ∨ a = t[i]) ∧ b ∈ t ∧ a ≠ b)]; split <;> rfl
  · rw [if_neg h1]
    by_cases h2 : a = t[i] ∧ b ∈ t ∧ a ≠ b
    · rw [if_pos h2, if_pos (⟨.inr h2.1, h2.2⟩ : (a ∈ t.take i ∨ a = t[i]) ∧ b ∈ t ∧ a ≠ b)]
    · rw [if_neg h2, if_neg]
      rintro ⟨h3 | h3, h4⟩
      · exact h1 ⟨h3, h4⟩
      · exact h2 ⟨h3, h4⟩
theorem mark_dc (S : Sto) {bx bp R : Nat} {c : Club} {rs : List (List Int)} {bs : List Nat} {budget steps : Int} {met : Int → Int → Bool} (hs : c.Small) (ha : c.Asc) (hb : bs.Nodup) (hbx : ¬ bx ∈ bs)
    (hx : zaa S bx = some (.cells (sC c rs bp R (.own false 134 1 (bs.map (rowC c.members.length))) budget steps) 102)) (hm : MetR S bs c met) (t : List Int) (v : Bool) (ht : ∀ a ∈ t, ¬ zgy c a < 0) (hnd : t.Nodup) (htl : t.length ≤ 1000) :
    DC Try.prog 100 [.v (.pointer (some ⟨bx, 0, none⟩)), ints t, Bo v] S (fun _ S' => MetR S' bs c (zln met t v) ∧ ∀ b, ¬ b ∈ bs → zaa S' b = zaa S b) := by
  have q1 := hs.members
  have hl := hm.len
  refine DC.of_run Try.func100 rfl Try.ntmps100 Try.results100 (by simp) (fun _ => ?_); simp only [zaq, zas, go_sem, Nat.zero_add, Nat.reduceAdd]
  repeat' (first | (with_reducible first | refine DS.fltS yU yU yE ?_ | refine DS.opsNil ?_ | refine DS.seq ?_ | refine DS.regionL ?_ | refine DS.block ?_) | fail)
  refine DS.loopS [0, 1, 2] (by (simp only [go_sem, Nat.reduceEqDiff, ↓reduceIte]; exact rfl)) (fun (i : Nat × Sto) => [(6, I i.1)]) (fun (i : Nat × Sto) => i.2) (fun (i : Nat × Sto) => i.1 ≤ t.length ∧ MetR i.2 bs c (zpx met t i.1 v) ∧ ∀ b, ¬ b ∈ bs → zaa i.2 b = zaa S b) (fun (i : Nat × Sto) => t.length - i.1) (0, S) yS (fun b o e => by exact e) ⟨Nat.zero_le _, by rw [markI_zero]; exact hm, fun _ _ => rfl⟩ (fun i B hI hB => ?_); try dsimp only at hI hB; simp only [zap, zar]
  repeat' (first | (with_reducible first | refine DS.fltS yU yU yE ?_ | refine DS.opsNil ?_ | refine DS.seq ?_ | refine DS.regionL ?_ | (refine DS.cE yE ?_; refine CG.p (fun _ => ?_) (fun _ => ?_)) | refine DS.block ?_ | refine DS.exit yU ?_ | refine DS.skip ?_) | fail)
  · rename_i e1
    have hB0 := hB
    have hI0 := hI
    clear hB hI
    refine DS.loopS [0, 1, 2, 6] (by (simp only [go_sem, Nat.reduceEqDiff, ↓reduceIte]; exact rfl)) (fun (k : Nat × Sto) => [(7, I k.1)]) (fun (k : Nat × Sto) => k.2) (fun (k : Nat × Sto) => k.1 ≤ t.length ∧ MetR k.2 bs c (znj (zpx met t i.1 v) t (t[i.1]'(by omega)) k.1 v) ∧ ∀ b, ¬ b ∈ bs → zaa k.2 b = zaa S b) (fun (k : Nat × Sto) => t.length - k.1) (0, i.2) yS (fun b o e => by exact e) ⟨Nat.zero_le _, by rw [markK_zero]; exact hI0.2.1, hI0.2.2⟩ (fun k B hI hB => ?_); try dsimp only at hI hB; simp only [zap, zar]
    have hx' : zaa k.2 bx = some (.cells (sC c rs bp R (.own false 134 1 (bs.map (rowC c.members.length))) budget steps) 102) := by rw [hI.2.2 bx hbx, hx]
    repeat' (first | (with_reducible first | refine DS.fltS yU yU yX1 ?_ | refine DS.opsNil ?_ | refine DS.seq ?_ | refine DS.regionL ?_) | (with_reducible refine DS.cE yX1 ?_; first | with_reducible refine CG.np (fun _ => ?_) (fun _ => ?_) | with_reducible refine CG.p (fun _ => ?_) (fun _ => ?_)) | (with_reducible first | refine DS.blk ?_ | refine DS.block ?_ | refine DS.exit yU ?_ | refine DS.skip ?_) | refine DS.drawL (id := 7) [0, 1, 2, 3, 4, 5, 6, 7, 8, 9, 10, 11, 12, 13, 14, 15, 16, 17, 18, 19, 20, 21, 22, 23, 24] 25 (by kernel_rfl) zdb (by simp only [zay, zbf, zbg, zbh, zax]; exact rfl) (by simp only [zat, zau, List.drop_nil]; exact rfl) ?_ | with_reducible refine DD.fltS yU yU yU yX1 ?_ | refine DD.pcV0 inferInstance (zhk c _ (by omega)) yU yX2 ?_ | fail)
    · rename_i e2 e3
      obtain ⟨m1, hm1, g1, g2, -⟩ := zga (ht _ (List.getElem_mem (show i.1 < t.length by omega)))
      obtain ⟨m2, hm2, g3, g4, -⟩ := zga (ht _ (List.getElem_mem (show k.1 < t.length by omega)))
      have hr := hI.2.1.row m1 (hl ▸ hm1) hm1
      have hne : ¬ t[k.1] = t[i.1] := fun h => e3 (by have := (List.getElem_inj hnd).1 h; omega)
      have G := hI.2.1.set hb ha hm1 hm2 (hl ▸ hm1) v
      rw [g4] at G
      rw [g2, ← markK_step v (by omega) hne] at G
      rw [g2] at hr
      have H : ∀ b o, ¬ b ∈ bs → zaa (setS (bs[m1]'(hl ▸ hm1)) o k.2) b = zaa S b := fun b o hb' => by
        rw [zba hr, if_neg (fun h => hb' (by rw [h]; exact List.getElem_mem _))]; exact hI.2.2 b hb'
      have H3 := And.intro g1 g3
      simp only [g1, g3]
      clear g1 g2 g3 g4 hne
      repeat' (first | (with_reducible first | refine DS.fltS yU yU yX1 ?_ | refine DS.opsNil ?_ | refine DS.regionL ?_ | refine DS.blk ?_) | (refine DS.store yR yX1 yX1 yX1 yX1 yU (by exact ⟨by with_unfolding_all rfl, by (try simp only [List.length_map, List.length_append, List.length_set, List.length_replicate, List.length_cons, List.length_nil]); omega⟩) ?_; simp only [zbu, zaw, zbd, zcf, zbq, zbn, zbr]; try simp only [zal, zac, zae, Nat.reduceEqDiff, ↓reduceIte, zag, zah, zao, zaf, zaj, zam, zai]) | (with_reducible first | refine DD.fltS yU yU yU yX1 ?_ | refine DD.nil0 ?_) | refine DD.pcV0 inferInstance (zhk c _ (by omega)) yU yX2 ?_ | fail)
      simp only [H3.2]
      skip
      refine DS.back (hB (k.1 + 1, _) _ _ (by simp; omega) ⟨by simp; omega, G, fun b hb' => H b _ hb'⟩ yS yS (fun b o e => by exact e))
    · rename_i e2 e3
      have hki : k.1 = i.1 := by omega
      have G := hI.2.1
      rw [← markK_same v (show k.1 < t.length by omega) (by simp only [hki])] at G
      clear hki
      refine DS.back (hB (k.1 + 1, k.2) _ _ (by simp; omega) ⟨by simp; omega, G, hI.2.2⟩ yS yS (fun b o e => by exact e))
    · rename_i e2
      have G := hI.2.1
      rw [markI_step v (by omega) (by omega)] at G
      refine DS.back (hB0 (i.1 + 1, k.2) _ _ (by simp; omega) ⟨by simp; omega, G, hI.2.2⟩ yS yS (fun b o e => by exact e))
  · rename_i e1
    refine DS.nilA yG ⟨?_, hI.2.2⟩
    have : zpx met t i.1 v = zln met t v := by
      funext a b
      rw [zpx, zln, List.take_of_length_le (by omega)]
    rw [← this]; exact hI.2.1
end Go.XL
namespace Go.XL
open Go.Proofs
set_option maxRecDepth 100000
set_option maxHeartbeats 4000000
structure PRow where
  rows : List (List Int)
  blk : Option (Nat × Nat × List V)
def PRow.cell : PRow → V
  | ⟨_, none⟩ => .v (.slice none 0 0)
  | ⟨rows, some (b, cap, _)⟩ => .v (.slice (some ⟨b, 0, none⟩) rows.length cap)
def PRow.Ok (S : Sto) : PRow → Prop
  | ⟨rows, none⟩ => rows = []
  | ⟨rows, some (b, cap, junk)⟩ => zaa S b = some (.cells ((rows.map fun t => ints t) ++ junk) 22) ∧ rows.length + junk.length = cap ∧ cap ≤ maxLen ∧ ∀ v ∈ junk, v.free = true
def zfs (ids : List Int) (T : List (List Int)) : List Int := ids.filter fun id => !T.any fun t => decide (id ∈ t)
theorem zjy {α β : Type} {f : α → β} {T : List α} {j : List β} {k : Nat} (h : k < T.length) : ((T.map f) ++ j)[k]? = some (f T[k]) := by
  rw [List.getElem?_append_left (by simpa using h), List.getElem?_map, List.getElem?_eq_getElem h]; rfl
theorem freeS_in {ids : List Int} {T : List (List Int)} {i : Nat} (h : i < ids.length) (hb : (T.any fun t => decide (ids[i] ∈ t)) = true) : zfs (ids.drop i) T = zfs (ids.drop (i + 1)) T := by
  rw [List.drop_eq_getElem_cons h, zfs, List.filter_cons, if_neg (by simp [hb])]; rfl
theorem zrh {ids : List Int} {T : List (List Int)} {i : Nat} (h : i < ids.length) (hb : (T.any fun t => decide (ids[i] ∈ t)) = false) : zfs (ids.drop i) T = ids[i] :: zfs (ids.drop (i + 1)) T := by
  rw [List.drop_eq_getElem_cons h, zfs, List.filter_cons, if_pos (by simp [hb])]; rfl
theorem zle {α : Type} {T : List α} {k : Nat} (p : α → Bool) (h : k < T.length) : (T.take (k + 1)).any p = ((T.take k).any p || p T[k]) := by
  rw [List.take_succ_eq_append_getElem h, List.any_append]; simp
theorem yX3 {p : Prop} (h : p := by first | exact rfl | (simp (disch := omega) only [go_sem, dopV, Option.map_some, Option.map_none, Option.bind_some, Option.bind_none, ↓reduceIte, Nat.reduceEqDiff, Nat.reduceLT, Nat.reduceLeDiff, Nat.reduceAdd, Nat.reduceMul, Nat.reduceSub, Nat.zero_add, Nat.add_zero, Nat.zero_le, Nat.zero_mul, Nat.mul_one, Nat.one_mul, Int.natCast_zero, Int.toNat_zero, Int.reduceToNat, Int.reduceLT, Int.reduceLE, Int.reduceEq, decide_true, decide_false, true_and, and_true, Bool.and_self, Bool.and_true, Bool.true_and, Bool.not_true, Bool.not_false, IntWalk.toNatUp, IntWalk.iteOmega, IntWalk.i64_in, Option.isSome_some, not_true_eq_false, not_false_eq_true, Option.getD_some, Option.getD_none, Int.toNat_natCast, List.length_map, List.getElem?_map, List.getElem?_eq_getElem, V.flat, V.one, List.all_cons, List.all_nil, *, zok]; exact rfl)) : p := h
theorem yX4 {p : Prop} (h : p := by (simp (disch := omega) only [go_sem, dopV, Option.map_some, Option.map_none, Option.bind_some, Option.bind_none, ↓reduceIte, Nat.reduceEqDiff, Nat.reduceLT, Nat.reduceLeDiff, Nat.reduceAdd, Nat.reduceMul, Nat.reduceSub, Nat.zero_add, Nat.add_zero, Nat.zero_le, Nat.zero_mul, Nat.mul_one, Nat.one_mul, Int.natCast_zero, Int.toNat_zero, Int.reduceToNat, Int.reduceLT, Int.reduceLE, Int.reduceEq, decide_true, decide_false, true_and, and_true, Bool.and_self, Bool.and_true, Bool.true_and, Bool.not_true, Bool.not_false, IntWalk.toNatUp, IntWalk.iteOmega, IntWalk.i64_in, Option.isSome_some, not_true_eq_false, not_false_eq_true, Option.getD_some, Option.getD_none, Int.toNat_natCast, List.length_map, List.getElem?_map, List.getElem?_eq_getElem, V.flat, V.one, List.all_cons, List.all_nil, *, zok, zjy]; exact rfl)) : p := h
theorem yX5 {p : Prop} (h : p := by first | exact rfl | (simp (disch := omega) only [go_sem, dopV, Option.map_some, Option.map_none, Option.bind_some, Option.bind_none, ↓reduceIte, Nat.reduceEqDiff, Nat.reduceLT, Nat.reduceLeDiff, Nat.reduceAdd, Nat.reduceMul, Nat.reduceSub, Nat.zero_add, Nat.add_zero, Nat.zero_le, Nat.zero_mul, Nat.mul_one, Nat.one_mul, Int.natCast_zero, Int.toNat_zero, Int.reduceToNat, Int.reduceLT, Int.reduceLE, Int.reduceEq, decide_true, decide_false, true_and, and_true, Bool.and_self, Bool.and_true, Bool.true_and, Bool.not_true, Bool.not_false, IntWalk.toNatUp, IntWalk.iteOmega, IntWalk.i64_in, Option.isSome_some, not_true_eq_false, not_false_eq_true, Option.getD_some, Option.getD_none, Int.toNat_natCast, List.length_map, List.getElem?_map, List.getElem?_eq_getElem, V.flat, V.one, List.all_cons, List.all_nil, *, zok, zjy]; exact rfl)) : p := h
theorem yX6 {p : Prop} (h : p := by (simp (disch := omega) only [go_sem, dopV, Option.map_some, Option.map_none, Option.bind_some, Option.bind_none, ↓reduceIte, Nat.reduceEqDiff, Nat.reduceLT, Nat.reduceLeDiff, Nat.reduceAdd, Nat.reduceMul, Nat.reduceSub, Nat.zero_add, Nat.add_zero, Nat.zero_le, Nat.zero_mul, Nat.mul_one, Nat.one_mul, Int.natCast_zero, Int.toNat_zero, Int.reduceToNat, Int.reduceLT, Int.reduceLE, Int.reduceEq, decide_true, decide_false, true_and, and_true, Bool.and_self, Bool.and_true, Bool.true_and, Bool.not_true, Bool.not_false, IntWalk.toNatUp, IntWalk.iteOmega, IntWalk.i64_in, Option.isSome_some, not_true_eq_false, not_false_eq_true, Option.getD_some, Option.getD_none, Int.toNat_natCast, List.length_map, List.getElem?_map, List.getElem?_eq_getElem, V.flat, V.one, List.all_cons, List.all_nil, *, zok, zjy]; try exact rfl)) : p := h
theorem free_rc (S : Sto) {bx bp : Nat} {c : Club} {rs : List (List Int)} {mt : V} {budget steps : Int} {ps : List PRow}
    (hx : zaa S bx = some (.cells (sC c rs bp ps.length mt budget steps) 102)) (hp : zaa S bp = some (.cells (ps.map PRow.cell) 35)) {r : Nat} (hr : r < ps.length) (hr' : r < rs.length) (hok : ps[r].Ok S) (hl : rs[r].length ≤ 1000000) (hl2 : ps[r].rows.length ≤ 1000000) :
    RC Try.prog 98 [.v (.pointer (some ⟨bx, 0, none⟩)), I r] S (.own false 3 1 ((zfs rs[r] ps[r].rows).map cI)) := by
  obtain ⟨p, hpr⟩ : ∃ p, p = ps[r] := ⟨_, rfl⟩
  rw [← hpr] at hok hl2 ⊢
  obtain ⟨T, blk⟩ := p
  have hpc : (ps.map PRow.cell)[r]? = some (PRow.cell ⟨T, blk⟩) := by rw [List.getElem?_map, List.getElem?_eq_getElem hr, ← hpr]; rfl
  clear hpr
  generalize ps.map PRow.cell = pc at *
  cases blk with
  | none =>
    simp only [PRow.Ok] at hok
    subst hok
    simp only [PRow.cell] at hpc
    refine DC.of_run Try.func98 rfl Try.ntmps98 Try.results98 (by simp) (fun _ => ?_); simp only [zaq, zas, go_sem, Nat.zero_add, Nat.reduceAdd]
    repeat' (first | (with_reducible first | (refine DS.nilOwn (t := 4) yU (by first | exact .inl rfl | exact .inr rfl) yE ?_) | (refine DS.nilOwn (t := 5) yU (by first | exact .inl rfl | exact .inr rfl) yE ?_) | refine DS.fltS yU yU yE ?_ | refine DS.opsNil ?_ | refine DS.seq ?_ | refine DS.regionL ?_ | refine DS.block ?_) | fail)
    refine DS.loopK [0, 1] (by (simp only [go_sem, Nat.reduceEqDiff, ↓reduceIte]; exact rfl)) (fun (i : Nat × List Int) => [(5, .own false 3 1 (i.2.map cI)), (6, I i.1)]) (fun (i : Nat × List Int) => i.1 ≤ rs[r].length ∧ i.2.length ≤ i.1 ∧ i.2 ++ zfs (rs[r].drop i.1) [] = zfs rs[r] []) (fun (i : Nat × List Int) => rs[r].length - i.1) (0, []) yS (by simp) (fun i B hI hB => ?_); try dsimp only at hI hB; simp only [zap, zar]
    repeat' (first | (with_reducible refine DS.mv (t := 4) yU (by first | exact .inl rfl | exact .inr rfl) yX1 ?_; simp only [zal, zac, zae, Nat.reduceEqDiff, ↓reduceIte, zag, zah, zao, zaf, zaj, zam, zai]) | (with_reducible refine DS.mv (t := 65) yU (by first | exact .inl rfl | exact .inr rfl) yX1 ?_; simp only [zal, zac, zae, Nat.reduceEqDiff, ↓reduceIte, zag, zah, zao, zaf, zaj, zam, zai]) | (with_reducible first | refine DS.fltS yU yU yX1 ?_ | refine DS.opsNil ?_ | refine DS.seq ?_ | refine DS.regionL ?_) | (with_reducible refine DS.cE yX1 ?_; with_reducible refine CG.p (fun _ => ?_) (fun _ => ?_)) | (with_reducible first | refine DS.block ?_ | refine DS.exit yU ?_ | refine DS.skip ?_) | refine DS.retA yX1 ⟨?_, rfl⟩ | fail)
    · have hB0 := hB
      have hI0 := hI
      clear hB hI
      refine DS.loopK [0, 1, 5, 6, 7] (by (simp only [go_sem, Nat.reduceEqDiff, ↓reduceIte]; exact rfl)) (fun (k : Nat) => [(8, Bo false), (9, I 0)]) (fun (k : Nat) => True) (fun (k : Nat) => k) 0 yS trivial (fun k B hI hB => ?_); try dsimp only at hI hB; simp only [zap, zar]
      repeat' (first | (with_reducible refine DS.mv (t := 5) yU (by first | exact .inl rfl | exact .inr rfl) yX1 ?_; simp only [zal, zac, zae, Nat.reduceEqDiff, ↓reduceIte, zag, zah, zao, zaf, zaj, zam, zai]) | (with_reducible refine DS.mv (t := 61) yU (by first | exact .inl rfl | exact .inr rfl) yX1 ?_; simp only [zal, zac, zae, Nat.reduceEqDiff, ↓reduceIte, zag, zah, zao, zaf, zaj, zam, zai]) | (with_reducible first | refine DS.fltS yU yU yX1 ?_ | refine DS.opsNil ?_ | refine DS.seq ?_ | refine DS.regionL ?_) | (with_reducible refine DS.cE yX1 ?_; first | with_reducible refine CG.yes ?_ | with_reducible refine CG.no ?_) | (with_reducible first | refine DS.blk ?_ | refine DS.exit yU ?_) | (refine DS.bsl yU yX1 yX1 ?_; simp only [go_sem, Nat.zero_add, Nat.reduceAdd]) | (refine DS.append (mm := false) yU yX1 yX1 yU (by decide) yX1 (by first | exact .inl rfl | exact .inr ⟨rfl, rfl⟩) yX1 yX3 (by first | exact zan zcw _ | exact zan zdg _ | exact zan Member.len _ | exact zan Sitting.len _ | exact zan Ruling.len _ | (simp only [List.mem_cons, List.not_mem_nil, or_false, forall_eq]; rfl) | simp) ⟨by (try simp only [List.length_map, List.length_cons, List.length_nil, List.length_append, List.length_take, List.length_drop]); omega, by decide⟩ ?_; simp only [zal, zac, zae, Nat.reduceEqDiff, ↓reduceIte, zag, zah, zao, zaf, zaj, zam, zai]) | fail)
      obtain ⟨_, r0, dr4, rfl, dr6⟩ := zcg (l := rs[r]) (i := i.1) (by omega); rw [dr4] at hI0
      refine DS.back (hB0 (i.1 + 1, i.2 ++ [rs[r][i.1]]) _ _ (by simp; omega) ⟨by simp; omega, by simp; omega, by rw [← hI0.2.2, ← dr4, zrh (i := i.1) (by omega) rfl, List.append_assoc]; rfl⟩ yS yS (fun b o e => by exact e))
    · have de1 := zdk (l := rs[r]) (i := i.1) (by omega); rw [de1] at hI
      rw [zei, show i.2 = zfs rs[r] [] by have e := hI.2.2; rw [show zfs [] ([] : List (List Int)) = [] from rfl, List.append_nil] at e; exact e]
  | some x =>
    obtain ⟨b, cap, junk⟩ := x
    simp only [PRow.cell] at hpc
    obtain ⟨ho, hc1, hc2, hc3⟩ := hok
    dsimp only at hl2
    refine DC.of_run Try.func98 rfl Try.ntmps98 Try.results98 (by simp) (fun _ => ?_); simp only [zaq, zas, go_sem, Nat.zero_add, Nat.reduceAdd]
    repeat' (first | (with_reducible first | (refine DS.nilOwn (t := 4) yU (by first | exact .inl rfl | exact .inr rfl) yE ?_) | (refine DS.nilOwn (t := 5) yU (by first | exact .inl rfl | exact .inr rfl) yE ?_) | refine DS.fltS yU yU yE ?_ | refine DS.opsNil ?_ | refine DS.seq ?_ | refine DS.regionL ?_ | refine DS.block ?_) | fail)
    refine DS.loopK [0, 1] (by (simp only [go_sem, Nat.reduceEqDiff, ↓reduceIte]; exact rfl)) (fun (i : Nat × List Int) => [(5, .own false 3 1 (i.2.map cI)), (6, I i.1)]) (fun (i : Nat × List Int) => i.1 ≤ rs[r].length ∧ i.2.length ≤ i.1 ∧ i.2 ++ zfs (rs[r].drop i.1) T = zfs rs[r] T) (fun (i : Nat × List Int) => rs[r].length - i.1) (0, []) yS (by simp) (fun i B hI hB => ?_); try dsimp only at hI hB; simp only [zap, zar]
    repeat' (first | (with_reducible refine DS.mv (t := 4) yU (by first | exact .inl rfl | exact .inr rfl) yX1 ?_; simp only [zal, zac, zae, Nat.reduceEqDiff, ↓reduceIte, zag, zah, zao, zaf, zaj, zam, zai]) | (with_reducible refine DS.mv (t := 65) yU (by first | exact .inl rfl | exact .inr rfl) yX1 ?_; simp only [zal, zac, zae, Nat.reduceEqDiff, ↓reduceIte, zag, zah, zao, zaf, zaj, zam, zai]) | (with_reducible first | refine DS.fltS yU yU yX1 ?_ | refine DS.opsNil ?_ | refine DS.seq ?_ | refine DS.regionL ?_) | (with_reducible refine DS.cE yX1 ?_; with_reducible refine CG.p (fun _ => ?_) (fun _ => ?_)) | (with_reducible first | refine DS.block ?_ | refine DS.exit yU ?_ | refine DS.skip ?_) | refine DS.retA yX1 ⟨?_, rfl⟩ | fail)
    · rename_i e1
      have hB0 := hB
      have hI0 := hI
      clear hB hI
      refine DS.loopK [0, 1, 5, 6, 7] (by (simp only [go_sem, Nat.reduceEqDiff, ↓reduceIte]; exact rfl)) (fun (k : Nat × Bool) => [(8, Bo k.2), (9, I k.1)]) (fun (k : Nat × Bool) => k.1 ≤ T.length ∧ ((T.take k.1).any fun t => decide ((rs[r][i.1]'(by omega)) ∈ t)) = k.2) (fun (k : Nat × Bool) => T.length - k.1) (0, false) yS (by simp) (fun k B hI hB => ?_); try dsimp only at hI hB; simp only [zap, zar]
      have hI1 := hI.1
      have hI2 := hI.2
      clear hI
      have H := And.intro hI2 hI0.2.2
      have hI3 := hI0.2.1
      clear hI2 hI0
      repeat' (first | (with_reducible refine DS.mv (t := 5) yU (by first | exact .inl rfl | exact .inr rfl) yX4 ?_; simp only [zal, zac, zae, Nat.reduceEqDiff, ↓reduceIte, zag, zah, zao, zaf, zaj, zam, zai]) | (with_reducible refine DS.mv (t := 61) yU (by first | exact .inl rfl | exact .inr rfl) yX4 ?_; simp only [zal, zac, zae, Nat.reduceEqDiff, ↓reduceIte, zag, zah, zao, zaf, zaj, zam, zai]) | (with_reducible first | refine DS.fltS yU yU yX4 ?_ | refine DS.opsNil ?_ | refine DS.seq ?_ | refine DS.regionL ?_) | (with_reducible refine DS.cE yX4 ?_; first | with_reducible refine CG.p (fun _ => ?_) (fun _ => ?_) | with_reducible refine CG.nb (fun _ => ?_) (fun _ => ?_)) | (with_reducible refine DS.gE yU yX4 ?_; first | with_reducible refine GG.run ?_ | with_reducible refine GG.sT ?_ | with_reducible refine GG.bF (fun _ => ?_) (fun _ => ?_)) | (with_reducible first | refine DS.blk ?_ | refine DS.block ?_ | refine DS.exit yU ?_ | refine DS.skip ?_) | (refine DS.bsl yU yX4 yX4 ?_; simp only [go_sem, Nat.zero_add, Nat.reduceAdd]) | (refine DS.append (mm := false) yU yX4 yX4 yU (by decide) yX4 (by first | exact .inl rfl | exact .inr ⟨rfl, rfl⟩) yX4 yX5 (by first | exact zan zcw _ | exact zan zdg _ | exact zan Member.len _ | exact zan Sitting.len _ | exact zan Ruling.len _ | (simp only [List.mem_cons, List.not_mem_nil, or_false, forall_eq]; rfl) | simp) ⟨by (try simp only [List.length_map, List.length_cons, List.length_nil, List.length_append, List.length_take, List.length_drop]); omega, by decide⟩ ?_; simp only [zal, zac, zae, Nat.reduceEqDiff, ↓reduceIte, zag, zah, zao, zaf, zaj, zam, zai]) | refine DS.pcS inferInstance (has_pc _ _) yR yX6 ?_ | fail)
      · rename_i e2 e3
        exact DS.back (hB (k.1 + 1, decide ((rs[r][i.1]'(by omega)) ∈ T[k.1])) _ _ (by simp; omega) (⟨by simp; omega, by rw [zle _ (by omega), H.1, e3]; simp⟩) yS yS (fun b o e => by first | exact e | (simp only [zab]; split <;> simp_all)))
      · rename_i e2 e3
        exact DS.back (hB (k.1 + 1, true) _ _ (by simp; omega) (⟨by simp; omega, by rw [zle _ (by omega), H.1, e3]; simp⟩) yS yS (fun b o e => by first | exact e | (simp only [zab]; split <;> simp_all)))
      · rename_i e2 e3
        have e4 := H.1
        rw [List.take_of_length_le (by omega), e3] at e4
        have e5 := H.2
        rw [zrh (i := i.1) (by omega) e4] at e5
        clear e4
        refine DS.back (hB0 (i.1 + 1, i.2 ++ [rs[r][i.1]'(by omega)]) _ _ (by simp; omega) ⟨by simp; omega, by simp; omega, by rw [← e5, List.append_assoc]; rfl⟩ yS yS (fun b o e => by exact e))
      · rename_i e2 e3
        have e4 := H.1
        rw [List.take_of_length_le (by omega), e3] at e4
        have e5 := H.2
        rw [freeS_in (i := i.1) (by omega) e4] at e5
        clear e4
        refine DS.back (hB0 (i.1 + 1, i.2) _ _ (by simp; omega) ⟨by simp; omega, by simp; omega, e5⟩ yS yS (fun b o e => by exact e))
    · have de1 := zdk (l := rs[r]) (i := i.1) (by omega); rw [de1] at hI
      rw [zei, show i.2 = zfs rs[r] T by have e := hI.2.2; rw [show zfs [] T = [] from rfl, List.append_nil] at e; exact e]
end Go.XL
namespace Go.XL
open Go.Proofs
set_option maxRecDepth 100000
set_option maxHeartbeats 4000000
theorem zkf {α : Type} {l m : List α} {i : Nat} (h : l.take i = m.take i) (hl : i < l.length) (hm : i < m.length) (e : l[i] = m[i]) : l.take (i + 1) = m.take (i + 1) := by
  rw [List.take_succ_eq_append_getElem hl, List.take_succ_eq_append_getElem hm, h, e]
theorem zpf {α : Type} {l m : List α} {i : Nat} (h : l.take i = m.take i) (hl : l.length ≤ i) (hm : m.length ≤ i) : l = m := by
  rwa [List.take_of_length_le hl, List.take_of_length_le hm] at h
theorem zqc (l : List Int) (h : l.length ≤ 2147483647) : PC Try.prog 51 [ints l] (.own false 3 1 (l.map cI)) := by
  refine DC.of_run Try.func51 rfl Try.ntmps51 Try.results51 (by simp) (fun _ => ?_); simp only [zaq, zas, go_sem, Nat.zero_add, Nat.reduceAdd]
  repeat' (first | with_reducible (refine DS.nilOwn (t := 2) yU (by first | exact .inl rfl | exact .inr rfl) yE ?_) | (with_reducible refine DS.mv (t := 2) yU (by first | exact .inl rfl | exact .inr rfl) yE ?_; simp only [zal, zac, zae, Nat.reduceEqDiff, ↓reduceIte, zag, zah, zao, zaf, zaj, zam, zai]) | (with_reducible first | refine DS.fltS yU yU yE ?_ | refine DS.opsNil ?_ | refine DS.seq ?_ | refine DS.regionL ?_) | (refine DS.append (mm := false) yU yE yE yU (by decide) yE (by first | exact .inl rfl | exact .inr ⟨rfl, rfl⟩) yE yX0 (by first | exact zan zcw _ | exact zan zdg _ | exact zan Member.len _ | exact zan Sitting.len _ | exact zan Ruling.len _ | (simp only [List.mem_cons, List.not_mem_nil, or_false, forall_eq]; rfl) | simp) ⟨by (try simp only [List.length_map, List.length_cons, List.length_nil, List.length_append, List.length_take, List.length_drop]); omega, by decide⟩ ?_; simp only [zal, zac, zae, Nat.reduceEqDiff, ↓reduceIte, zag, zah, zao, zaf, zaj, zam, zai]) | refine DS.retT [] yE trivial ?_ | fail)
  rfl
theorem zju (a b : List Int) : PC Try.prog 62 [ints a, ints b] (Bo (decide (a = b))) := by
  refine DC.of_run Try.func62 rfl Try.ntmps62 Try.results62 (by simp) (fun _ => ?_); simp only [zaq, zas, go_sem, Nat.zero_add, Nat.reduceAdd]
  refine DS.bnd (t := 0) yG (.inl rfl) (fun hb0 => ?_); simp only [List.length_map] at hb0
  repeat' (first | (with_reducible first | refine DS.fltS yU yU yE ?_ | refine DS.opsNil ?_ | refine DS.seq ?_ | refine DS.regionL ?_ | (refine DS.cE yE ?_; refine CG.np (fun _ => ?_) (fun _ => ?_)) | refine DS.block ?_ | refine DS.skip ?_) | refine DS.retT [] yE trivial ?_ | fail)
  · rename_i h; have : a ≠ b := fun e => by subst e; exact h rfl
    simp [tupV, this]
  refine DS.loopK [0, 1] (by (simp only [go_sem, Nat.reduceEqDiff, ↓reduceIte]; exact rfl)) (fun (i : Nat) => [(5, I i)]) (fun (i : Nat) => i ≤ a.length ∧ a.take i = b.take i) (fun (i : Nat) => a.length - i) 0 yS (by simp) (fun i B hI hB => ?_); try dsimp only at hI hB; simp only [zap, zar]
  repeat' (first | (with_reducible first | refine DS.fltS yU yU yE ?_ | refine DS.opsNil ?_ | refine DS.seq ?_ | refine DS.regionL ?_ | (refine DS.cE yE ?_; first | refine CG.np (fun _ => ?_) (fun _ => ?_) | refine CG.p (fun _ => ?_) (fun _ => ?_)) | refine DS.blk ?_ | refine DS.block ?_ | refine DS.exit yU ?_ | refine DS.skip ?_) | refine DS.drawL (id := 6) [0, 1, 2, 3, 4, 5, 6, 7] 8 (by kernel_rfl) zdb (by simp only [zay, zbf, zbg, zbh, zax]; exact rfl) (by simp only [zat, zau, List.drop_nil]; exact rfl) ?_ | (with_reducible first | refine DD.fltS yU yU yU yE ?_ | refine DD.nil0 ?_) | refine DS.retT [] yE trivial ?_ | fail)
  · rename_i h1 h2
    have : a ≠ b := fun e => h2 (by subst e; rfl)
    simp [tupV, this]
  · rename_i h1 h2
    exact DS.back (hB (i + 1) _ _ (by omega) (⟨by omega, zkf hI.2 (by omega) (by omega) h2⟩) yS yS (fun b o e => by first | exact e | (simp only [zab]; split <;> simp_all)))
  · rename_i h1
    have := zpf hI.2 (by omega) (by omega)
    simp [tupV, this]
theorem zma (a b : List (List Int)) : PC Try.prog 61 [rows a, rows b] (Bo (decide (a = b))) := by
  refine DC.of_run Try.func61 rfl Try.ntmps61 Try.results61 (by simp) (fun _ => ?_); simp only [zaq, zas, go_sem, Nat.zero_add, Nat.reduceAdd]
  refine DS.bnd (t := 0) yG (.inl rfl) (fun hb0 => ?_); simp only [List.length_map] at hb0
  repeat' (first | (with_reducible first | refine DS.fltS yU yU yE ?_ | refine DS.opsNil ?_ | refine DS.seq ?_ | refine DS.regionL ?_ | (refine DS.cE yE ?_; refine CG.np (fun _ => ?_) (fun _ => ?_)) | refine DS.block ?_ | refine DS.skip ?_) | refine DS.retT [] yE trivial ?_ | fail)
  · rename_i h; have : a ≠ b := fun e => by subst e; exact h rfl
    simp [tupV, this]
  refine DS.loopK [0, 1] (by (simp only [go_sem, Nat.reduceEqDiff, ↓reduceIte]; exact rfl)) (fun (i : Nat) => [(5, I i)]) (fun (i : Nat) => i ≤ a.length ∧ a.take i = b.take i) (fun (i : Nat) => a.length - i) 0 yS (by simp) (fun i B hI hB => ?_); try dsimp only at hI hB; simp only [zap, zar]
  repeat' (first | (with_reducible first | refine DS.fltS yU yU yE ?_ | refine DS.opsNil ?_ | refine DS.seq ?_ | refine DS.regionL ?_ | (refine DS.cE yE ?_; first | refine CG.np (fun _ => ?_) (fun _ => ?_) | refine CG.p (fun _ => ?_) (fun _ => ?_)) | refine DS.blk ?_ | refine DS.block ?_ | refine DS.exit yU ?_ | refine DS.skip ?_) | refine DS.pcS inferInstance (zju _ _) yR yT ?_ | refine DS.drawL (id := 6) [0, 1, 2, 3, 4, 5, 6, 7] 8 (by kernel_rfl) zdb (by simp only [zay, zbf, zbg, zbh, zax]; exact rfl) (by simp only [zat, zau, List.drop_nil]; exact rfl) ?_ | (with_reducible first | refine DD.fltS yU yU yU yE ?_ | refine DD.nil0 ?_) | refine DS.retT [] yE trivial ?_ | fail)
  · rename_i h1 h2
    have : a ≠ b := fun e => h2 (by subst e; rfl)
    simp [tupV, this]
  · rename_i h1 h2
    exact DS.back (hB (i + 1) _ _ (by omega) (⟨by omega, zkf hI.2 (by omega) (by omega) h2⟩) yS yS (fun b o e => by first | exact e | (simp only [zab]; split <;> simp_all)))
  · rename_i h1
    have := zpf hI.2 (by omega) (by omega)
    simp [tupV, this]
theorem zlg (a b : List (List Int)) : PC Try.prog 20 [rows a, rows b] (Bo (decide (a = b))) := by
  refine DC.of_run Try.func20 rfl Try.ntmps20 Try.results20 (by simp) (fun _ => ?_); simp only [zaq, zas, go_sem, Nat.zero_add, Nat.reduceAdd]
  repeat' (first | (with_reducible first | refine DS.fltS yU yU yE ?_ | refine DS.opsNil ?_ | refine DS.seq ?_ | refine DS.regionL ?_) | refine DS.pcS inferInstance (zma _ _) yR yT ?_ | refine DS.retT [] yE trivial ?_ | fail)
  rfl
end Go.XL
