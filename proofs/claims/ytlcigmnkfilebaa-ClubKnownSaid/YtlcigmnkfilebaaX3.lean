/- A part of a program logic over the kit's walk rules, and contracts of functions in it. Conditions: as each theorem says. -/
import Derived.Test.YtlcigmnkfilebaaX2
import Derived.Test.YtlcigmnkfilebaaProg
import Derived.KernelRfl
set_option linter.all false
namespace Go.XL
def zsk : Sto → Nat → Prop
 | [], _ => True
 | (d, _) :: r, b => (d ≠ b ∧ b ≠ d) ∧ zsk r b
theorem zed (b : Nat) : zsk [] b ↔ True := Iff.rfl
theorem zdq (d : Nat) (o : Ob) (r : Sto) (b : Nat) : zsk ((d, o) :: r) b ↔ (¬ d = b ∧ ¬ b = d) ∧ zsk r b := Iff.rfl
theorem zff : ∀ {S : Sto} {b : Nat}, zac S b = none → zsk S b
 | [], _, _ => trivial
 | (d, o) :: r, b, h => by
  simp only [zac] at h
  split at h
  ·cases h
  ·rename_i hd; exact ⟨⟨hd, fun e => hd e.symm⟩, zff h⟩
section
variable {P : Program} {n : Nat} {r : Rr} {Q : VEnv → Sto → Prop} {k : List Fr} {E0 E : VEnv} {S S0 S1 : Sto} {Mp : List MpE} {ops l : List Oper} {t : Nat} {dst : Option Tmp} {op : Op} {ty : TypeId} {pos : String} {af : Array Edge}
theorem yeg {id : Nat} {os : Array Oper} (ord : List Nat) (m : Nat) (hok : zly os ord m = true) (hm : P.follows .mixedOrders = true)
  (q : DD P n r Q os.toList S [] (ord.filterMap (os[·]?)) (.ops os.toList (os.toList.drop m) :: k) E E []) : DS P n r Q (.code (.region id os true) :: k) E S :=
 zuz S [] [] MpOk.nil ord m hok hm (fun _ _ e => ⟨e, rfl⟩) (fun _ _ e => by cases e) q
theorem zdm (q : DS P n r Q k E S0) : DD P n r Q ops S0 Mp [] k E0 E [] := DD.nil q
theorem zcj {v : V} (hs1 : zgl op = false) (hh : zot op = false) (hd : decide (t < n) = true) (hv : dopV P S0 (evV E0) op = some v) (q : DD P n r Q ops S0 Mp l k ((t, v) :: E0) ((t, v) :: E) S1) :
  DD P n r Q ops S0 Mp (⟨some t, op, ty, pos, af, none⟩ :: l) k E0 E S1 := yia (dst := some t) hs1 hh hd hv q
theorem zmm {v : V} (hs1 : zgl op = false) (hh : zot op = false) (hld : zzw op = false) (hd : decide (t < n) = true) (hv : dopV P [] (evV E) op = some v) (q : DD P n r Q ops S0 Mp l k (delV t E0) ((t, v) :: E) S1) :
  DD P n r Q ops S0 Mp (⟨some t, op, ty, pos, af, none⟩ :: l) k E0 E S1 := yge (dst := some t) hs1 hh hld hd hv q
theorem yhy {j : Nat} {b : Bool} {x : V} (e : zet E ops n j = some x) (hx : x = .v (.bool b)) (q : DD P n r Q ops S0 Mp (⟨dst, op, ty, pos, af, none⟩ :: l) k E0 E S1) : DD P n r Q ops S0 Mp (⟨dst, op, ty, pos, af, some (j, b)⟩ :: l) k E0 E S1 := yhv (hx ▸ e) q
theorem yhz {j : Nat} {b : Bool} {x : V} (e : zet E ops n j = some x) (hx : x = .v (.bool (!b))) (hd : decide (t < n) = true) (q : DD P n r Q ops S0 Mp l k ((t, .v undef) :: E0) ((t, .v undef) :: E) S1) : DD P n r Q ops S0 Mp (⟨some t, op, ty, pos, af, some (j, b)⟩ :: l) k E0 E S1 := yhw (dst := some t) (hx ▸ e) rfl hd q
theorem yhx {j : Nat} {b : Bool} {x : V} (e : zet E ops n j = some x) (hx : x = .v undef) (hd : decide (t < n) = true) (q : DD P n r Q ops S0 Mp l k ((t, .v undef) :: E0) ((t, .v undef) :: E) S1) : DD P n r Q ops S0 Mp (⟨some t, op, ty, pos, af, some (j, b)⟩ :: l) k E0 E S1 := yhu (dst := some t) (hx ▸ e) hd q
theorem yet {g : FuncId} {args : List V} {xs : Array Operand} {ts : Array TypeId} {fn : Func} {v : V} (hf : FnOk P g fn) (hc : PC P g args v) (hd : decide (t < n) = true) (he : (evsV (evV E) xs.toList).map (·.map V.peek) = some args)
  (q : DD P n r Q ops S0 Mp l k (delV t E0) ((t, v) :: E) S1) : DD P n r Q ops S0 Mp (⟨some t, .call { callee := .value (.func g), args := xs, argTypes := ts }, ty, pos, af, none⟩ :: l) k E0 E S1 := yjg (dst := some t) hf hc hd he q
theorem DD.boxS {T : TypeId} {x : Operand} {v : V} (hd : decide (t < n) = true) (he : evV E x = some v) (hf : v.flat = true) (q : ∀ u, zac S1 u = none → zac S0 u = none → DD P n r Q ops S0 Mp l k ((t, .v (.pointer (some ⟨u, 0, none⟩))) :: E0) ((t, .v (.pointer (some ⟨u, 0, none⟩))) :: E) ((u, .cells (v.cells.map V.copy) T) :: S1)) :
  DD P n r Q ops S0 Mp (⟨some t, .box T x, ty, pos, af, none⟩ :: l) k E0 E S1 := DD.box (dst := some t) hd he hf q
theorem zux {ts : Array TypeId} {cx : Operand} {g : FuncId} {fs cs args : List V} {xs : Array Operand} {fn : Func} {v : V} (hf : FnOk P g fn) (hcx : evV E cx = some (.fn g fs cs)) (hc : PC P g (fs ++ args ++ cs) v) (hd : decide (t < n) = true)
  (he : (evsV (evV E) xs.toList).map (·.map V.peek) = some args) (q : DS P n r Q (.ops ops l :: k) ((t, v) :: E) S) :
  DS P n r Q (.ops ops (⟨some t, .call { callee := .value cx, args := xs, argTypes := ts }, ty, pos, af, none⟩ :: l) :: k) E S := yhj (dst := some t) hf hcx hc hd he q
theorem zhv {v : V} {l : List (List V)} (hE : zch E t = some v) (hv : v = .lst l ∨ ∃ m e sz, v = .own m e sz l) (q : l.length ≤ 9223372036854775807 → DS P n r Q k E S) : DS P n r Q k E S := fun K W a w ⟨K', D, hvv, hold, env, hb, ha, s⟩ hw => by
 obtain ⟨y, h1, h2, _⟩ := s.slot t v hE
 have : l.length ≤ maxLen := by
  rcases hv with rfl | ⟨m, e, sz, rfl⟩
  all_goals
   simp only [V.Rl] at h2
   obtain ⟨_, cap, _, _, h3, h4, _⟩ := h2
   omega
 exact q (by simpa [maxLen] using this) K W a w ⟨K', D, hvv, hold, env, hb, ha, s⟩ hw
def CG (P : Program) (n : Nat) (r : Rr) (Q : VEnv → Sto → Prop) (x y : Code) (k : List Fr) (E : VEnv) (S : Sto) (v : V) : Prop :=
 (∃ t, v = .v (.bool t)) ∧ (v = .v (.bool true) → DS P n r Q (.code x :: k) E S) ∧ (v = .v (.bool false) → DS P n r Q (.code y :: k) E S)
theorem zbe {c : Operand} {x y : Code} {v : V} (e : evV E c = some v) (q : CG P n r Q x y k E S v) : DS P n r Q (.code (.cond c x y) :: k) E S := by
 obtain ⟨⟨t, rfl⟩, q1, q2⟩ := q
 exact DS.cond e (fun h => q1 (by rw [h])) (fun h => q2 (by rw [h]))
theorem zcy {x y : Code} (q : DS P n r Q (.code x :: k) E S) : CG P n r Q x y k E S (.v (.bool true)) := ⟨⟨_, rfl⟩, fun _ => q, (fun h => by cases h)⟩
theorem zdd {x y : Code} (q : DS P n r Q (.code y :: k) E S) : CG P n r Q x y k E S (.v (.bool false)) := ⟨⟨_, rfl⟩, (fun h => by cases h), fun _ => q⟩
theorem zeq {x y : Code} {p : Prop} {_ : Decidable p} (q1 : p → DS P n r Q (.code x :: k) E S) (q2 : ¬ p → DS P n r Q (.code y :: k) E S) : CG P n r Q x y k E S (.v (.bool (decide p))) :=
 ⟨⟨_, rfl⟩, fun h => q1 (by simpa using h), fun h => q2 (by simpa using h)⟩
theorem ygg {x y : Code} {t : Bool} (q1 : t = true → DS P n r Q (.code x :: k) E S) (q2 : t = false → DS P n r Q (.code y :: k) E S) : CG P n r Q x y k E S (.v (.bool t)) :=
 ⟨⟨_, rfl⟩, fun h => q1 (by simpa using h), fun h => q2 (by simpa using h)⟩
def GG (P : Program) (n : Nat) (r : Rr) (Q : VEnv → Sto → Prop) (b : Bool) (t : Nat) (op : Op) (ty : TypeId) (pos : String) (af : Array Edge) (ops l : List Oper) (k : List Fr) (E : VEnv) (S : Sto) (v : V) : Prop :=
 ((∃ u, v = .v (.bool u)) ∨ v = .v undef) ∧ (v = .v (.bool b) → DS P n r Q (.ops ops (⟨some t, op, ty, pos, af, none⟩ :: l) :: k) E S) ∧ (v ≠ .v (.bool b) → DS P n r Q (.ops ops l :: k) ((t, .v undef) :: E) S)
theorem zdv {j : Nat} {b : Bool} {v : V} (hd : decide (t < n) = true) (e : zet E ops n j = some v) (q : GG P n r Q b t op ty pos af ops l k E S v) :
  DS P n r Q (.ops ops (⟨some t, op, ty, pos, af, some (j, b)⟩ :: l) :: k) E S := by
 obtain ⟨⟨u, rfl⟩ | rfl, q1, q2⟩ := q
 ·by_cases h : u = b
  ·subst h; exact yho e rfl (q1 rfl)
  ·refine yhp e (by cases u <;> cases b <;> simp_all) hd (q2 (by simpa using h))
 ·exact yhn e rfl hd (q2 (by simp [undef]))
theorem GG.run {b : Bool} (q : DS P n r Q (.ops ops (⟨some t, op, ty, pos, af, none⟩ :: l) :: k) E S) : GG P n r Q b t op ty pos af ops l k E S (.v (.bool b)) := ⟨.inl ⟨_, rfl⟩, fun _ => q, fun h => (h rfl).elim⟩
theorem zkb (q : DS P n r Q (.ops ops l :: k) ((t, .v undef) :: E) S) : GG P n r Q true t op ty pos af ops l k E S (.v (.bool false)) := ⟨.inl ⟨_, rfl⟩, (fun h => by cases h), fun _ => q⟩
theorem zuv (q : DS P n r Q (.ops ops l :: k) ((t, .v undef) :: E) S) : GG P n r Q false t op ty pos af ops l k E S (.v (.bool true)) := ⟨.inl ⟨_, rfl⟩, (fun h => by cases h), fun _ => q⟩
theorem yeb {b : Bool} (q : DS P n r Q (.ops ops l :: k) ((t, .v undef) :: E) S) : GG P n r Q b t op ty pos af ops l k E S (.v undef) := ⟨.inr rfl, fun h => by simp [undef] at h, fun _ => q⟩
theorem zuw {p : Prop} {_ : Decidable p} (q1 : p → DS P n r Q (.ops ops (⟨some t, op, ty, pos, af, none⟩ :: l) :: k) E S) (q2 : ¬ p → DS P n r Q (.ops ops l :: k) ((t, .v undef) :: E) S) : GG P n r Q true t op ty pos af ops l k E S (.v (.bool (decide p))) :=
 ⟨.inl ⟨_, rfl⟩, fun h => q1 (by simpa using h), fun h => q2 (by simpa using h)⟩
theorem yhh {p : Prop} {_ : Decidable p} (q1 : ¬ p → DS P n r Q (.ops ops (⟨some t, op, ty, pos, af, none⟩ :: l) :: k) E S) (q2 : p → DS P n r Q (.ops ops l :: k) ((t, .v undef) :: E) S) : GG P n r Q false t op ty pos af ops l k E S (.v (.bool (decide p))) :=
 ⟨.inl ⟨_, rfl⟩, fun h => q1 (by simpa using h), fun h => q2 (by simpa using h)⟩
theorem GG.bT {u : Bool} (q1 : u = true → DS P n r Q (.ops ops (⟨some t, op, ty, pos, af, none⟩ :: l) :: k) E S) (q2 : u = false → DS P n r Q (.ops ops l :: k) ((t, .v undef) :: E) S) : GG P n r Q true t op ty pos af ops l k E S (.v (.bool u)) :=
 ⟨.inl ⟨_, rfl⟩, fun h => q1 (by simpa using h), fun h => q2 (by simpa using h)⟩
theorem zaa {id : Nat} {os : List Oper} (q : DS P n r Q (.ops os os :: k) E S) : DS P n r Q (.code (.region id os.toArray false) :: k) E S := DS.region (ops := os.toArray) q
theorem zsv (l : List V) : (l.map V.copy).map V.copy = l.map V.copy := by
 rw [List.map_map]; apply List.map_congr_left; intro v _; cases v <;> rfl
theorem zci {T : TypeId} {x : Operand} {v : V} (hd : decide (t < n) = true) (he : evV E x = some v) (hf : v.flat = true) (q : DS P n r Q (.ops ops l :: k) ((t, .plc (v.cells.map V.copy)) :: E) S) :
  DS P n r Q (.ops ops (⟨some t, .box T x, ty, pos, af, none⟩ :: l) :: k) E S := zln hd he hf fun b hb => by
 refine zji (t := t) (b := b) (l := v.cells.map V.copy) (T := T) (by simp [zch]) (by simp [zac]) ?_
 rw [zsv]
 refine zev (fun u w e => ?_) (fun c o e => ?_) q
 ·simp only [zch] at e ⊢
  by_cases h : t = u
  ·rw [if_pos h] at e ⊢; exact e
  ·rw [if_neg h] at e ⊢; rw [if_neg h]; exact e
 ·rw [zbw, if_neg (fun h => by subst h; rw [hb] at e; cases e)]
  simp only [zac]
  rw [if_neg (fun h => by subst h; rw [hb] at e; cases e)]; exact e
def selV (E : VEnv) : List Nat → VEnv
 | [] => []
 | t :: r => match zch E t with
  | some v => (t, v) :: selV E r
  | none => selV E r
theorem zmg (E : VEnv) : ∀ ts : List Nat, subV (selV E ts) E
 | [] => trivial
 | t :: r => by
  simp only [selV]
  split
  ·rename_i v e; exact ⟨e, zmg E r⟩
  ·exact zmg E r
theorem zki : ∀ {F G E : VEnv}, subV F E → subV G E → subV (F ++ G) E
 | [], _, _, _, h => h
 | (_, _) :: _, _, _, h, k => ⟨h.1, zki h.2 k⟩
theorem zcp {α : Type} {c : Code} (ts : List Nat) {F : VEnv} (hF : selV E ts = F) (Ex : α → VEnv) (I : α → Prop) (μ : α → Nat) (x0 : α) (hE : subV (Ex x0) E) (hI : I x0)
  (body : ∀ (x : α) (B : VEnv → Sto → Prop), I x → (∀ x' E' S', μ x' < μ x → I x' → subV (Ex x') E' → subV F E' → (∀ b o, zac S b = some o → zac S' b = some o) → B E' S') → DS P n r Q (.code c :: .back B :: k) (Ex x ++ F) S) : DS P n r Q (.code (.loop c) :: k) E S := by
 subst hF
 refine DS.loop (fun m E' S' => ∃ x, μ x = m ∧ I x ∧ subV (Ex x ++ selV E ts) E' ∧ ∀ b o, zac S b = some o → zac S' b = some o) (μ x0) ⟨x0, rfl, hI, zki hE (zmg E ts), fun _ _ h => h⟩ ?_
 rintro m E' S' ⟨x, rfl, h1, h2, h3⟩
 exact zev (zgv h2) h3 (body x _ h1 fun x' E2 S2 a b c d e => ⟨_, a, x', rfl, b, zki c d, e⟩)
def selO (t : Nat) (r : VEnv) : Option V → VEnv
 | some v => (t, v) :: r
 | none => r
@[go_sem] theorem selV_cons (E : VEnv) (t : Nat) (r : List Nat) : selV E (t :: r) = selO t (selV E r) (zch E t) := by
 simp only [selV]; cases zch E t <;> rfl
@[go_sem] theorem selV_nil (E : VEnv) : selV E [] = [] := rfl
@[go_sem] theorem selO_some (t : Nat) (r : VEnv) (v : V) : selO t r (some v) = (t, v) :: r := rfl
theorem zfl {e sz by_ : Nat} {op : Op} (hd : decide (t < n) = true) (hop : op = .move (.const (.slice none 0 0)) ∨ op = .assign (.const (.slice none 0 0))) (ht : tel P ty = some (e, sz, by_)) (q : DS P n r Q (.ops ops l :: k) ((t, .own false e sz []) :: E) S) :
  DS P n r Q (.ops ops (⟨some t, op, ty, pos, af, none⟩ :: l) :: k) E S := by
 refine zad (v := .v (.slice none 0 0)) (by rcases hop with rfl | rfl <;> rfl) hd (by rcases hop with rfl | rfl <;> rfl) ?_
 refine yej (t := t) (e := e) (sz := sz) (by simp [zch]) (zev (fun u w h => ?_) (fun _ _ h => h) q)
 simp only [zch] at h ⊢
 by_cases hu : t = u
 ·rw [if_pos hu] at h ⊢; exact h
 ·rw [if_neg hu] at h ⊢; rw [if_neg hu]; exact h
theorem zgt {T m : Nat} {bb : Bool} {x : Operand} {v : V} {z : Value} {ty2 : TypeId} {pos2 : String} {af2 : Array Edge} (hd : decide (t < n) = true) (hz : zdb P T = some z) (ho : zgh z.cells.toList = true) (hx : ∀ p, evV ((t, p) :: E) x = some v) (ht : tsz P T = some (bb, m))
  (hf : v.flat = true) (hm : v.scells.length = m ∧ m ≤ z.cells.size) (hown : ∀ p, zgq ((t, p) :: E) x = (t, p) :: E) (q : DS P n r Q (.ops ops l :: k) ((t, .plc ((setAll (z.cells.toList.map V.v) 0 v.scells).map V.copy)) :: E) S) :
  DS P n r Q (.ops ops (⟨some t, .alloc T, ty, pos, af, none⟩ :: ⟨none, .store T (.tmp t) x, ty2, pos2, af2, none⟩ :: l) :: k) E S := zdl hd hz ho fun b hb => by
 refine DS.store (b := b) (off := 0) (m := m) (bb := bb) (cl := z.cells.toList.map V.v) (T' := T) (v := v) rfl (by simp [evV, zch]) (hx _) ht (by simp [zac]) hf ⟨hm.1, by simpa using hm.2⟩ ?_
 rw [hown]
 refine zji (t := t) (b := b) (l := setAll (z.cells.toList.map V.v) 0 v.scells) (T := T) (by simp [zch, putV]) (by simp [zac, setS]) ?_
 refine zev (fun u w e => ?_) (fun c o e => ?_) q
 ·simp only [zch, putV] at e ⊢
  by_cases h : t = u
  ·rw [if_pos h] at e ⊢; exact e
  ·rw [if_neg h] at e ⊢; rw [if_neg h]; exact e
 ·rw [zbw, if_neg (fun h => by subst h; rw [hb] at e; cases e)]
  have hcb : ¬ b = c := fun h => by subst h; rw [hb] at e; cases e
  have : zac (setS b (.cells (setAll (z.cells.toList.map V.v) 0 v.scells) T) ((b, .cells (z.cells.toList.map V.v) T) :: S)) c = zac S c := by
   rw [zas (o0 := .cells (z.cells.toList.map V.v) T) (by simp [zac]), if_neg (fun h => hcb h.symm)]; simp only [zac]; rw [if_neg hcb]
  rw [this]; exact e
theorem zcs {α : Type} {f : α → List V} {m : Nat} (h : ∀ a, (f a).length = m) (l : List α) : ∀ c ∈ l.map f, c.length = m := fun c hc => by
 obtain ⟨a, _, rfl⟩ := List.mem_map.1 hc; exact h a
theorem yek {x y : Code} {t : Bool} (q1 : t = false → DS P n r Q (.code x :: k) E S) (q2 : t = true → DS P n r Q (.code y :: k) E S) : CG P n r Q x y k E S (.v (.bool (!t))) :=
 ⟨⟨_, rfl⟩, fun h => q1 (by simpa using h), fun h => q2 (by simpa using h)⟩
end
end Go.XL
namespace Go.XL
section
variable {v0 : VH} {P : Program} {n : Nat} {r : Rr} {Q : VEnv → Sto → Prop} {k : List Fr} {E : VEnv} {S : Sto} {dst : Option Tmp} {ty : TypeId} {pos : String} {af : Array Edge}
theorem St.turnC {K : Bs} {hv : VH} {hold : Nat → Option Hd} {env : Env} {h h' : Heap} (s : St K hv hold E S env h) {b : Nat} {cl cl' : List V} {T : TypeId} {cs : List Value} (hS : zac S b = some (.cells cl T)) (h1 : h'[b]? = some (.cells cs.toArray T (0, 0))) (h2 : ∀ j, j ≠ b → h'[j]? = h[j]?) (h3 : h.size ≤ h'.size)
  (hr : RlL hv cl' cs) (ho : Ones cs) (hf : ∀ v ∈ cl', v.free = true) : St K hv hold E (setS b (.cells cl' T) S) env h' := by
 obtain ⟨a1, a2, a3⟩ := s.obj b _ hS
 refine ⟨fun j ob e => ?_, fun t v e => ?_, fun j ob e => ?_, s.held, ⟨s.base.1, Nat.le_trans s.base.2.1 h3, fun j hj => (h2 j fun e => a1 (e ▸ hj)).trans (s.base.2.2 j hj)⟩, s.vbase⟩
 ·have hj : j ≠ b := fun e1 => by subst e1; rw [a2] at e; cases e
  rw [h2 j hj]; exact s.pre j ob e
 ·obtain ⟨y, q1, q2, q3⟩ := s.slot t v e
  refine ⟨y, q1, q2, q3.keep fun g ob b1 b2 b3 => ⟨h2 g fun e1 => ?_, rfl, b1⟩⟩
  subst e1; rw [a2] at b2; cases b2
 ·rw [zas hS] at e
  split at e
  ·rename_i hb; subst hb
   simp only [Option.some.injEq] at e; subst e
   exact ⟨a1, a2, cs, h1, hr, ho, fun i c u hc _ => V.free_Own (hf c (List.mem_of_getElem? hc)) u⟩
  ·rename_i hb
   obtain ⟨c1, c2, c3⟩ := s.obj j ob e
   exact ⟨c1, c2, Ob.keep c3 (PreV.refl hv) (h2 j hb) fun g i x b1 b2 b3 => ⟨h2 g fun e1 => (by subst e1; rw [a2] at b2; cases b2), rfl, b1⟩⟩
theorem zjn {z : Value} (h : zgh z.cells.toList = true) (n : Nat) (hs : 0 < z.cells.size) : Ones (Builtin.zeroCells z.cells n).toList := fun u hu => by
 unfold Builtin.zeroCells at hu
 simp only [Array.toList_map, List.mem_map] at hu
 obtain ⟨j, _, rfl⟩ := hu
 have hlt : j % z.cells.size < z.cells.size := Nat.mod_lt _ hs
 refine zfq h _ ?_
 rw [getElem!_pos z.cells _ hlt]
 exact Array.getElem_mem_toList hlt
def delB (b : Option Nat) (S : Sto) : Sto := match b with
 | some b => delS b S
 | none => S
@[go_sem] theorem delB_some (b : Nat) (S : Sto) : delB (some b) S = delS b S := rfl
@[go_sem] theorem delB_none (S : Sto) : delB none S = S := rfl
def AppP (E : VEnv) (S : Sto) (b : Option Nat) (e sz len : Nat) (cl : List V) (ml : List (List V)) : V → VEnv → Sto → Prop := fun u E' S' => E' = E ∧ ∃ b' cap junk, u = .v (.slice (some ⟨b', 0, none⟩) (len + ml.length) cap) ∧
 S' = (b', .cells (cl.take (len * sz) ++ ml.flatten.map V.copy ++ junk) e) :: delB b S ∧ (b = some b' ∨ zac S b' = none) ∧ (len + ml.length) * sz + junk.length = cap * sz ∧ len + ml.length ≤ cap ∧ cap ≤ maxLen ∧ ∀ v ∈ junk, v.free = true
theorem zlz (l : List V) : ∀ v ∈ l.map V.copy, v.free = true := zdw l
theorem zra {T e sz by_ t : Nat} {z : Value} {sx x : Operand} {vx : V} {b len cap : Nat} {cl : List V} {ml : List (List V)} (hd : dst = some t) (ht : tel P T = some (e, sz, by_)) (hz : zdb P e = some z) (hzs : z.cells.size = sz) (hzo : zgh z.cells.toList = true) (hsz : 0 < sz)
  (hs : evV E sx = some (.v (.slice (some ⟨b, 0, none⟩) len cap))) (hS : zac S b = some (.cells cl e)) (hl : cl.length = cap * sz) (hlc : len ≤ cap) (hcap : cap ≤ maxLen) (hfree : ∀ v ∈ cl, v.free = true)
  (hx : evV E x = some vx) (hxl : zds vx = some ml) (hm : 0 < ml.length) (hml : ∀ c ∈ ml, c.length = sz) (hfit : Fits len ml.length by_) :
  OpS v0 P n ⟨dst, .call { callee := .builtin .append, args := #[sx, x], argTypes := #[T, T] }, ty, pos, af, none⟩ E S (AppP E S (some b) e sz len cl ml) := by
 subst hd
 intro K D hv hold env a w hfl ha s
 obtain ⟨y, g2, g2'⟩ := s.rl _ _ hs
 simp only [V.Rl] at g2'; subst g2'
 obtain ⟨yx, g3, g3'⟩ := s.rl _ _ hx
 have hxR := zft hxl g3'
 obtain ⟨hu, i, hi, hisz, hiby⟩ := ziq ht
 have hz' : i.zero = some z := by unfold zdb at hz; rw [hi] at hz; exact hz
 subst hisz; subst hiby
 obtain ⟨ao, c, sz', rfl, x1, x2, x3, x4⟩ := hxR
 have hlenm : ml.flatten.length = ml.length * i.size := zfe hml
 have hC := x4.flat
 obtain ⟨news, hn1, hn2⟩ := hC.loads s.pre
 have hnl : news.length = ml.length * i.size := by rw [hn2.length, hlenm]
 have hones := zlc s.pre hC hn1
 have hnews : ∀ j u, news[j]? = some u → ld w.heap (at? ao j) = some u := fun j u hj => by simpa using zql hn1 j u hj
 have hmax : (2147483648 : Nat) ≤ maxLen := by decide
 have h63 : len + ml.length ≤ maxLen := Nat.le_trans hfit.1 hmax
 have hbytes : (len + ml.length) * i.bytes ≤ 140737488355328 := Nat.le_trans (Nat.mul_le_mul hfit.1 hfit.2) (by decide)
 have hsmall : len + ml.length ≤ 9223372036854775807 := Nat.le_trans hfit.1 (by decide)
 have hpos : 0 < news.length := by rw [hnl]; exact Nat.mul_pos hm hsz
 obtain ⟨aa, rfl⟩ : ∃ aa, ao = some aa := by
  have := hnews 0 news[0] (List.getElem?_eq_getElem hpos)
  cases ao with
  | none => simp [ld, at?] at this
  | some aa => exact ⟨aa, rfl⟩
 have hnews' : ∀ j u, news[j]? = some u → w.cell? (aa.add j) = some u := hnews
 obtain ⟨o1, o2, cs, o3, o4, o5, o6⟩ := s.obj b _ hS
 have hcs : cs.length = cap * i.size := by rw [o4.length, hl]
 have run : ∀ {y' : Value} {w' : World}, (Builtin.append_ #[T, T] ty #[.slice (some ⟨b, 0, none⟩) len cap, .slice (some aa) ml.length c]).run P w = .ok y' w' →
   (execOp a.eval ⟨some t, .call { callee := .builtin .append, args := #[sx, x], argTypes := #[T, T] }, ty, pos, af, none⟩).run P w = .ok (.value y') w' := fun hr => by
  simp [execOp, resolve, invoke, builtin, ha.ev g2, ha.ev g3, hr]
 by_cases hroom : len + ml.length ≤ cap
 ·have hfit' : len * i.size + news.length ≤ cs.toArray.size := by rw [hnl, List.size_toArray, hcs, ← Nat.add_mul]; exact Nat.mul_le_mul_right _ hroom
  have hr := run_append_room (P := P) w T ty e i hu hi b len cap cs.toArray o3 aa ml.length c news hnl hnews' hones hroom hfit'
  have hset := setRow_heap w b cs.toArray (cs.toArray.toList.take (len * i.size) ++ news ++ cs.toArray.toList.drop (len * i.size + news.length)).toArray e _ o3
  refine zcq (run hr) ⟨⟨rfl, rfl, rfl⟩, ?_⟩
  have hlen : cl.take (len * i.size) ++ ml.flatten.map V.copy ++ cl.drop (len * i.size + news.length) = cl.take (len * i.size) ++ ml.flatten.map V.copy ++ cl.drop (len * i.size + news.length) := rfl
  have s2 := s.turnC (h' := (w.setRow b (cs.toArray.toList.take (len * i.size) ++ news ++ cs.toArray.toList.drop (len * i.size + news.length)).toArray).heap) (cl' := cl.take (len * i.size) ++ ml.flatten.map V.copy ++ cl.drop (len * i.size + news.length)) (cs := cs.take (len * i.size) ++ news ++ cs.drop (len * i.size + news.length)) hS (by simpa using hset) (fun j hj => setRow_other w b j _ hj) (by simp [World.setRow])
   (((o4.take _).app (zeu hn2)).app (o4.drop _)) (fun u hu => by
    rcases List.mem_append.1 hu with hu | hu
    ·rcases List.mem_append.1 hu with hu | hu
     ·exact o5 u (List.mem_of_mem_take hu)
     ·exact hones u hu
    ·exact o5 u (List.mem_of_mem_drop hu)) (fun v hv => by
    rcases List.mem_append.1 hv with hv | hv
    ·rcases List.mem_append.1 hv with hv | hv
     ·exact hfree v (List.mem_of_mem_take hv)
     ·exact zdw _ v hv
    ·exact hfree v (List.mem_of_mem_drop hv))
  have s3 := s2.weaken (E' := E) (S' := (b, .cells (cl.take (len * i.size) ++ ml.flatten.map V.copy ++ cl.drop (len * i.size + news.length)) e) :: delS b S) (fun _ _ e => e) fun j o eo => by
   rw [zas hS]
   simp only [zac] at eo
   by_cases hj : b = j
   ·rw [if_pos hj] at eo; rw [if_pos hj.symm]; exact eo
   ·rw [if_neg hj] at eo; rw [if_neg fun e => hj e.symm]
    rw [zbw, if_neg fun e => hj e.symm] at eo; exact eo
  refine ⟨_, E, _, hv, hold, PreV.refl hv, s3.put (some t) V.Rl_v fun _ _ => trivial, rfl, b, cap, _, rfl, rfl, .inl rfl, ?_, hroom, hcap, fun v hv => hfree v (List.mem_of_mem_drop hv)⟩
  rw [List.length_drop, hl, hnl, ← Nat.add_mul]
  have : (len + ml.length) * i.size ≤ cap * i.size := Nat.mul_le_mul_right _ hroom
  omega
 ·have hxs : (cs.take (len * i.size)).length = len * i.size := by
   rw [List.length_take, hcs]; exact Nat.min_eq_left (Nat.mul_le_mul_right _ hlc)
  have hcells : ∀ j u, (cs.take (len * i.size))[j]? = some u → w.cell? ((⟨b, 0, none⟩ : Addr).add j) = some u := by
   intro j u hj
   have hadd : (⟨b, 0, none⟩ : Addr).add j = ⟨b, j, none⟩ := by unfold Addr.add; split <;> simp_all
   rw [hadd]
   show cell w.heap ⟨b, j, none⟩ = some u
   unfold cell
   rw [o3]
   simp only [Option.isSome_none, Bool.false_eq_true, if_false]
   rw [List.getElem?_take] at hj
   split at hj
   ·simpa using hj
   ·cases hj
  have hr := run_append_grow (P := P) w T ty e i z hu hi hz' ⟨b, 0, none⟩ len cap (cs.take (len * i.size)) hxs hcells aa ml.length c news hnl hnews' (by omega) (by omega) (growslice_fits (by omega) hbytes)
  have hge := grownCap_ge w (len + ml.length) cap e
  have hcm := grownCap_le_maxLen w (len + ml.length) cap e h63
  refine zcq (run hr) ⟨⟨rfl, rfl, rfl⟩, ?_⟩
  obtain ⟨cap2, hcap2⟩ : ∃ c2, c2 = grownCap w (len + ml.length) cap e := ⟨_, rfl⟩
  rw [← hcap2] at hge hcm ⊢
  let zs := Builtin.zeroCells z.cells (cap2 - (len + ml.length))
  have hzs2 : zs.toList.length = (cap2 - (len + ml.length)) * i.size := by rw [Array.length_toList, size_zeroCells, hzs]
  have hzo2 : Ones zs.toList := zjn hzo _ (by omega)
  have hborn := s.born (o := .cells (cl.take (len * i.size) ++ ml.flatten.map V.copy ++ zs.toList.map V.v) e) (x := .cells ((cs.take (len * i.size)).toArray ++ news.toArray ++ zs) e) ?_
  ·obtain ⟨s2, hn⟩ := hborn
   have s3 := s2.weaken (E' := E) (S' := (w.heap.size, .cells (cl.take (len * i.size) ++ ml.flatten.map V.copy ++ zs.toList.map V.v) e) :: delS b S) (fun _ _ e => e) fun j o eo => by
    simp only [zac] at eo ⊢
    split at eo
    ·rename_i hj; rw [if_pos hj]; exact eo
    ·rename_i hj; rw [if_neg hj]
     rw [zbw] at eo
     split at eo
     ·cases eo
     ·exact eo
   refine ⟨_, E, _, hv, hold, PreV.refl hv, s3.put (some t) V.Rl_v fun _ _ => trivial, rfl, w.heap.size, cap2, _, rfl, rfl, .inr hn, ?_, hge, hcm, zfw _⟩
   rw [List.length_map, hzs2, ← Nat.add_mul]; congr 1; omega
  ·have h := zfp (h := w.heap) (hold := hold) (T := e) (cs := cs.take (len * i.size) ++ news ++ zs.toList) (l := cl.take (len * i.size) ++ ml.flatten.map V.copy ++ zs.toList.map V.v) (((o4.take _).app (zeu hn2)).app (zhp _)) (fun u hu => by
    rcases List.mem_append.1 hu with hu | hu
    ·rcases List.mem_append.1 hu with hu | hu
     ·exact o5 u (List.mem_of_mem_take hu)
     ·exact hones u hu
    ·exact hzo2 u hu) (fun v hv => by
    rcases List.mem_append.1 hv with hv | hv
    ·rcases List.mem_append.1 hv with hv | hv
     ·exact hfree v (List.mem_of_mem_take hv)
     ·exact zdw _ v hv
    ·exact zfw _ v hv)
   rw [show (cs.take (len * i.size) ++ news ++ zs.toList).toArray = (cs.take (len * i.size)).toArray ++ news.toArray ++ zs by simp] at h
   exact h
theorem zqz {T e sz by_ t : Nat} {z : Value} {sx x : Operand} {vx : V} {ml : List (List V)} (hd : dst = some t) (ht : tel P T = some (e, sz, by_)) (hz : zdb P e = some z) (hzs : z.cells.size = sz) (hzo : zgh z.cells.toList = true) (hsz : 0 < sz)
  (hs : evV E sx = some (.v (.slice none 0 0))) (hx : evV E x = some vx) (hxl : zds vx = some ml) (hm : 0 < ml.length) (hml : ∀ c ∈ ml, c.length = sz) (hfit : Fits 0 ml.length by_) :
  OpS v0 P n ⟨dst, .call { callee := .builtin .append, args := #[sx, x], argTypes := #[T, T] }, ty, pos, af, none⟩ E S (AppP E S none e sz 0 [] ml) := by
 subst hd
 intro K D hv hold env a w hfl ha s
 obtain ⟨y, g2, g2'⟩ := s.rl _ _ hs
 simp only [V.Rl] at g2'; subst g2'
 obtain ⟨yx, g3, g3'⟩ := s.rl _ _ hx
 have hxR := zft hxl g3'
 obtain ⟨hu, i, hi, hisz, hiby⟩ := ziq ht
 have hz' : i.zero = some z := by unfold zdb at hz; rw [hi] at hz; exact hz
 subst hisz; subst hiby
 obtain ⟨ao, c, sz', rfl, x1, x2, x3, x4⟩ := hxR
 have hlenm : ml.flatten.length = ml.length * i.size := zfe hml
 have hC := x4.flat
 obtain ⟨news, hn1, hn2⟩ := hC.loads s.pre
 have hnl : news.length = ml.length * i.size := by rw [hn2.length, hlenm]
 have hones := zlc s.pre hC hn1
 have hnews : ∀ j u, news[j]? = some u → ld w.heap (at? ao j) = some u := fun j u hj => by simpa using zql hn1 j u hj
 have hmax : (2147483648 : Nat) ≤ maxLen := by decide
 have h63 : 0 + ml.length ≤ maxLen := Nat.le_trans hfit.1 hmax
 have hbytes : (0 + ml.length) * i.bytes ≤ 140737488355328 := Nat.le_trans (Nat.mul_le_mul hfit.1 hfit.2) (by decide)
 have hsmall : 0 + ml.length ≤ 9223372036854775807 := Nat.le_trans hfit.1 (by decide)
 have hpos : 0 < news.length := by rw [hnl]; exact Nat.mul_pos hm hsz
 obtain ⟨aa, rfl⟩ : ∃ aa, ao = some aa := by
  have := hnews 0 news[0] (List.getElem?_eq_getElem hpos)
  cases ao with
  | none => simp [ld, at?] at this
  | some aa => exact ⟨aa, rfl⟩
 have hnews' : ∀ j u, news[j]? = some u → w.cell? (aa.add j) = some u := hnews
 have run : ∀ {y' : Value} {w' : World}, (Builtin.append_ #[T, T] ty #[.slice none 0 0, .slice (some aa) ml.length c]).run P w = .ok y' w' →
   (execOp a.eval ⟨some t, .call { callee := .builtin .append, args := #[sx, x], argTypes := #[T, T] }, ty, pos, af, none⟩).run P w = .ok (.value y') w' := fun hr => by
  simp [execOp, resolve, invoke, builtin, ha.ev g2, ha.ev g3, hr]
 have hr := run_append_nil (P := P) w T ty e i z hu hi hz' aa ml.length c news hnl hnews' (by omega) (by omega) (by rw [Nat.zero_add] at hbytes; omega)
 have hge := grownCap_ge w ml.length 0 e
 have hcm := grownCap_le_maxLen w ml.length 0 e (by simpa using h63)
 refine zcq (run hr) ⟨⟨rfl, rfl, rfl⟩, ?_⟩
 obtain ⟨cap2, hcap2⟩ : ∃ c2, c2 = grownCap w ml.length 0 e := ⟨_, rfl⟩
 rw [← hcap2] at hge hcm ⊢
 let zs := Builtin.zeroCells z.cells (cap2 - ml.length)
 have hzs2 : zs.toList.length = (cap2 - ml.length) * i.size := by rw [Array.length_toList, size_zeroCells, hzs]
 have hzo2 : Ones zs.toList := zjn hzo _ (by omega)
 have h := zfp (h := w.heap) (hold := hold) (T := e) (cs := news ++ zs.toList) (l := ml.flatten.map V.copy ++ zs.toList.map V.v) ((zeu hn2).app (zhp _)) (fun u hu => by
  rcases List.mem_append.1 hu with hu | hu
  ·exact hones u hu
  ·exact hzo2 u hu) (fun v hv => by
  rcases List.mem_append.1 hv with hv | hv
  ·exact zdw _ v hv
  ·exact zfw _ v hv)
 rw [show (news ++ zs.toList).toArray = news.toArray ++ zs by simp] at h
 obtain ⟨s2, hn⟩ := s.born (x := .cells (news.toArray ++ zs) e) h
 refine ⟨_, E, _, hv, hold, PreV.refl hv, s2.put (some t) V.Rl_v fun _ _ => trivial, rfl, w.heap.size, cap2, zs.toList.map V.v, by rw [Nat.zero_add], by simp only [List.take_nil, List.nil_append, delB], .inr hn, ?_, by simpa using hge, hcm, zfw _⟩
 rw [List.length_map, hzs2, ← Nat.add_mul]; congr 1; omega
theorem DS.appC {T e sz by_ t : Nat} {z : Value} {sx x : Operand} {vx : V} {b len cap : Nat} {cl : List V} {ml : List (List V)} {ops l : List Oper} (hd : dok n (some t) = true) (ht : tel P T = some (e, sz, by_)) (hz : zdb P e = some z) (hzs : z.cells.size = sz) (hzo : zgh z.cells.toList = true) (hsz : 0 < sz)
  (hs : evV E sx = some (.v (.slice (some ⟨b, 0, none⟩) len cap))) (hS : zac S b = some (.cells cl e)) (hl : cl.length = cap * sz) (hlc : len ≤ cap) (hcap : cap ≤ maxLen) (hfree : ∀ v ∈ cl, v.free = true)
  (hx : evV E x = some vx) (hxl : zds vx = some ml) (hm : 0 < ml.length) (hml : ∀ c ∈ ml, c.length = sz) (hfit : Fits len ml.length by_)
  (q : ∀ b' cap' junk, (b = b' ∨ zac S b' = none) → (len + ml.length) * sz + junk.length = cap' * sz → len + ml.length ≤ cap' → cap' ≤ maxLen → (∀ v ∈ junk, v.free = true) →
   DS P n r Q (.ops ops l :: k) ((t, .v (.slice (some ⟨b', 0, none⟩) (len + ml.length) cap')) :: E) ((b', .cells (cl.take (len * sz) ++ ml.flatten.map V.copy ++ junk) e) :: delS b S)) :
  DS P n r Q (.ops ops (⟨some t, .call { callee := .builtin .append, args := #[sx, x], argTypes := #[T, T] }, ty, pos, af, none⟩ :: l) :: k) E S := by
 refine zcu rfl rfl hd (zra rfl ht hz hzs hzo hsz hs hS hl hlc hcap hfree hx hxl hm hml hfit) fun u E' S' ⟨h1, b', cap', junk, h2, h3, h4, h5, h6, h7, h8⟩ => ?_
 subst h1; subst h2; subst h3
 exact q b' cap' junk (h4.imp (fun e => by cases e; rfl) id) h5 h6 h7 h8
theorem DS.appN {T e sz by_ t : Nat} {z : Value} {sx x : Operand} {vx : V} {ml : List (List V)} {ops l : List Oper} (hd : dok n (some t) = true) (ht : tel P T = some (e, sz, by_)) (hz : zdb P e = some z) (hzs : z.cells.size = sz) (hzo : zgh z.cells.toList = true) (hsz : 0 < sz)
  (hs : evV E sx = some (.v (.slice none 0 0))) (hx : evV E x = some vx) (hxl : zds vx = some ml) (hm : 0 < ml.length) (hml : ∀ c ∈ ml, c.length = sz) (hfit : Fits 0 ml.length by_)
  (q : ∀ b' cap' junk, zac S b' = none → ml.length * sz + junk.length = cap' * sz → ml.length ≤ cap' → cap' ≤ maxLen → (∀ v ∈ junk, v.free = true) →
   DS P n r Q (.ops ops l :: k) ((t, .v (.slice (some ⟨b', 0, none⟩) ml.length cap')) :: E) ((b', .cells (ml.flatten.map V.copy ++ junk) e) :: S)) :
  DS P n r Q (.ops ops (⟨some t, .call { callee := .builtin .append, args := #[sx, x], argTypes := #[T, T] }, ty, pos, af, none⟩ :: l) :: k) E S := by
 refine zcu rfl rfl hd (zqz rfl ht hz hzs hzo hsz hs hx hxl hm hml hfit) fun u E' S' ⟨h1, b', cap', junk, h2, h3, h4, h5, h6, h7, h8⟩ => ?_
 subst h1; subst h2; subst h3
 have := q b' cap' junk (h4.elim (fun e => by cases e) id) (by simpa using h5) (by simpa using h6) h7 h8
 simpa [delB, putV] using this
end
end Go.XL
namespace Go.XL
section
variable {P : Program} {T : TypeId} {kk : IntKind} {a b : Int}
@[go_sem] theorem bop_add : bop P .add T (.int kk a) (.int kk b) = some (.int kk (kk.wrap (a + b))) := by simp [bop, zkz]
@[go_sem] theorem bop_sub : bop P .sub T (.int kk a) (.int kk b) = some (.int kk (kk.wrap (a - b))) := by simp [bop, zkz]
@[go_sem] theorem bop_mul : bop P .mul T (.int kk a) (.int kk b) = some (.int kk (kk.wrap (a * b))) := by simp [bop, zkz]
@[go_sem] theorem bop_quo : bop P .quo T (.int kk a) (.int kk b) = if b ≠ 0 then some (.int kk (kk.wrap (a.tdiv b))) else none := by simp [bop, zkz]
@[go_sem] theorem bop_rem : bop P .rem T (.int kk a) (.int kk b) = if b ≠ 0 then some (.int kk (a.tmod b)) else none := by simp [bop, zkz]
@[go_sem] theorem bop_eql : bop P .eql T (.int kk a) (.int kk b) = some (.bool (decide (a = b))) := by
 simp only [bop, zkz, if_true]; congr 2
@[go_sem] theorem bop_neq : bop P .neq T (.int kk a) (.int kk b) = some (.bool (decide (¬ a = b))) := by
 simp only [bop, zkz, if_true]; congr 2; simp [bne, decide_not]; rfl
@[go_sem] theorem bop_lss : bop P .lss T (.int kk a) (.int kk b) = some (.bool (decide (a < b))) := by simp [bop, zkz]
@[go_sem] theorem bop_leq : bop P .leq T (.int kk a) (.int kk b) = some (.bool (decide (a ≤ b))) := by simp [bop, zkz]
@[go_sem] theorem bop_gtr : bop P .gtr T (.int kk a) (.int kk b) = some (.bool (decide (b < a))) := by simp [bop, zkz]
@[go_sem] theorem bop_geq : bop P .geq T (.int kk a) (.int kk b) = some (.bool (decide (b ≤ a))) := by simp [bop, zkz]
theorem ydv {e : TypeId} {p : Option Addr} {a b : Nat} (u : P.underlying T = some (.slice e)) : bop P .eql T (.slice p a b) (.slice none 0 0) = some (.bool p.isNone) := by simp [bop, u]
end
@[go_sem] theorem not_dec (p : Prop) [Decidable p] : (!decide p) = decide (¬ p) := by simp
@[go_sem] theorem zbh (l : List V) : (V.agg l).cells = l := rfl
@[go_sem] theorem zcg (x : Value) : (V.v x).cells = [.v x] := rfl
@[go_sem] theorem zbf (l : List (List V)) : (V.lst l).cells = [.lst l] := rfl
@[go_sem] theorem cells_own (m : Bool) (e sz : Nat) (l : List (List V)) : (V.own m e sz l).cells = [.own m e sz l] := rfl
@[go_sem] theorem cells_plc (l : List V) : (V.plc l).cells = [.plc l] := rfl
@[go_sem] theorem zbv (f : FuncId) (a b : List V) : (V.fn f a b).cells = [.fn f a b] := rfl
@[go_sem] theorem cells_ifc (t : TypeId) (x : V) : (V.ifc t x).cells = [.ifc t x] := rfl
@[go_sem] theorem flat_int (k : IntKind) (n : Int) : (V.v (.int k n)).flat = true := rfl
@[go_sem] theorem flat_bool (b : Bool) : (V.v (.bool b)).flat = true := rfl
@[go_sem] theorem flat_str (b : ByteArray) : (V.v (.string b)).flat = true := rfl
@[go_sem] theorem flat_slice (p : Option Addr) (n c : Nat) : (V.v (.slice p n c)).flat = true := rfl
@[go_sem] theorem flat_ptr (p : Option Addr) : (V.v (.pointer p)).flat = true := rfl
@[go_sem] theorem flat_map (p : Option Nat) : (V.v (.map p)).flat = true := rfl
@[go_sem] theorem flat_nilFunc : (V.v .nilFunc).flat = true := rfl
@[go_sem] theorem flat_nilIface : (V.v .nilIface).flat = true := rfl
@[go_sem] theorem flat_lst (l : List (List V)) : (V.lst l).flat = true := rfl
@[go_sem] theorem flat_own (m : Bool) (e sz : Nat) (l : List (List V)) : (V.own m e sz l).flat = true := rfl
@[go_sem] theorem flat_plc (l : List V) : (V.plc l).flat = true := rfl
@[go_sem] theorem flat_fn (f : FuncId) (a b : List V) : (V.fn f a b).flat = true := rfl
@[go_sem] theorem flat_ifc (t : TypeId) (x : V) : (V.ifc t x).flat = true := rfl
@[go_sem] theorem flat_agg (l : List V) : (V.agg l).flat = l.all V.one := rfl
@[go_sem] theorem all_nil' {α : Type} (p : α → Bool) : ([] : List α).all p = true := rfl
@[go_sem] theorem all_cons' {α : Type} (p : α → Bool) (a : α) (r : List α) : (a :: r).all p = (p a && r.all p) := rfl
@[go_sem] theorem one_int (k : IntKind) (n : Int) : (V.v (.int k n)).one = true := rfl
@[go_sem] theorem one_bool (b : Bool) : (V.v (.bool b)).one = true := rfl
@[go_sem] theorem one_str (b : ByteArray) : (V.v (.string b)).one = true := rfl
@[go_sem] theorem one_slice (p : Option Addr) (n c : Nat) : (V.v (.slice p n c)).one = true := rfl
@[go_sem] theorem one_ptr (p : Option Addr) : (V.v (.pointer p)).one = true := rfl
@[go_sem] theorem one_map (p : Option Nat) : (V.v (.map p)).one = true := rfl
@[go_sem] theorem one_nilFunc : (V.v .nilFunc).one = true := rfl
@[go_sem] theorem one_nilIface : (V.v .nilIface).one = true := rfl
@[go_sem] theorem one_lst (l : List (List V)) : (V.lst l).one = true := rfl
@[go_sem] theorem one_own (m : Bool) (e sz : Nat) (l : List (List V)) : (V.own m e sz l).one = true := rfl
@[go_sem] theorem one_plc (l : List V) : (V.plc l).one = true := rfl
@[go_sem] theorem one_fn (f : FuncId) (a b : List V) : (V.fn f a b).one = true := rfl
@[go_sem] theorem one_ifc (t : TypeId) (x : V) : (V.ifc t x).one = true := rfl
@[go_sem] theorem zbc {α β : Type} (f : α → β) : ([] : List α).map f = [] := rfl
@[go_sem] theorem zau {α β : Type} (f : α → β) (a : α) (r : List α) : (a :: r).map f = f a :: r.map f := rfl
@[go_sem] theorem len_nil {α : Type} : ([] : List α).length = 0 := rfl
@[go_sem] theorem len_cons {α : Type} (a : α) (r : List α) : (a :: r).length = r.length + 1 := rfl
@[go_sem] theorem zbk {α : Type} (l : List α) : l.drop 0 = l := rfl
@[go_sem] theorem zbl {α : Type} (a : α) (r : List α) (n : Nat) : (a :: r).drop (n + 1) = r.drop n := rfl
@[go_sem] theorem zxc {α : Type} (l : List α) : l.take 0 = [] := by simp
@[go_sem] theorem zxd {α : Type} (a : α) (r : List α) (n : Nat) : (a :: r).take (n + 1) = a :: r.take n := rfl
@[go_sem] theorem take_nil' {α : Type} (n : Nat) : ([] : List α).take n = [] := by simp
@[go_sem] theorem zaz {α : Type} (a b : α) (r : List α) : (a :: r).set 0 b = b :: r := rfl
@[go_sem] theorem zbb {α : Type} (a b : α) (r : List α) (n : Nat) : (a :: r).set (n + 1) b = a :: r.set n b := rfl
@[go_sem] theorem zby {α : Type} (a : α) (r : List α) : (a :: r)[0]? = some a := rfl
@[go_sem] theorem zbz {α : Type} (a : α) (r : List α) (n : Nat) : (a :: r)[n + 1]? = r[n]? := rfl
@[go_sem] theorem zbg {α : Type} (l : List α) : [] ++ l = l := rfl
@[go_sem] theorem zaw {α : Type} (a : α) (l m : List α) : (a :: l) ++ m = a :: (l ++ m) := rfl
theorem zea {P : Program} {T m : Nat} (e : tsz P T = some (false, m)) (v : V) (r : List V) : ldTV P T (v :: r) = some v.copy := by simp only [ldTV, e]
theorem zsd {P : Program} {T m : Nat} (e : tsz P T = some (false, m)) (l : List V) (k : Nat) : ldTV P T (l.drop k) = (l[k]?).map V.copy := by
 by_cases h : k < l.length
 ·rw [List.drop_eq_getElem_cons h, zea e, List.getElem?_eq_getElem h]; rfl
 ·rw [List.drop_eq_nil_of_le (by omega), List.getElem?_eq_none (by omega)]; simp [ldTV, e]
theorem ziz {P : Program} {T m : Nat} (e : tsz P T = some (true, m + 1)) (c : List V) : ldTV P T c = if m + 1 ≤ c.length then some (.agg ((c.take (m + 1)).map V.peek)) else none := by simp only [ldTV, e]
@[go_sem] theorem loadV_plc (P : Program) (S : Sto) (T : TypeId) (c : List V) : zos P S T (.plc c) = ldTV P T c := rfl
def yfg (P : Program) (T : TypeId) (off : Nat) : Option Ob → Option V
 | some (.cells l _) => ldTV P T (l.drop off)
 | _ => none
@[go_sem] theorem loadO_some (P : Program) (T : TypeId) (off : Nat) (l : List V) (T' : TypeId) : yfg P T off (some (.cells l T')) = ldTV P T (l.drop off) := rfl
@[go_sem] theorem loadV_ptr (P : Program) (S : Sto) (T : TypeId) (b off : Nat) : zos P S T (.v (.pointer (some ⟨b, off, none⟩))) = yfg P T off (zac S b) := by
 simp only [zos, yfg]; split <;> simp_all
theorem zjz {P : Program} {T e sz by_ : Nat} {z : Value} (ht : tel P T = some (e, sz, by_)) (hz : zdb P e = some z) (ho : zgh z.cells.toList = true) (hs : z.cells.size = sz) (len : Nat) (ps : List (Nat × V)) :
  bslV P T len ps = if len * sz ≤ 16777216 ∧ len ≤ 16777216 then (zee (fun i => some (i * sz, sz)) (zdu z len) ps).map fun c => (e, sz, c) else none := by
 simp only [bslV, ht, hz, ho, hs, and_true]
def idxO (sz : Nat) : Option (List V) → Option V
 | some c => if c.length = sz ∧ 0 < sz then some (.plc c) else none
 | none => none
@[go_sem] theorem idxO_some (sz : Nat) (c : List V) : idxO sz (some c) = if c.length = sz ∧ 0 < sz then some (.plc c) else none := rfl
theorem zgm {P : Program} {T e sz by_ : Nat} (ht : tel P T = some (e, sz, by_)) {x : V} {l : List (List V)} (hx : zds x = some l) (k : IntKind) (m : Int) : zfi P T x (.v (.int k m)) = if 0 ≤ m then idxO sz l[m.toNat]? else none := by
 simp only [zfi, hx, ht, idxO]
 split
 ·cases l[m.toNat]? <;> rfl
 ·rfl
theorem zhk {P : Program} {T e sz by_ : Nat} (ht : tel P T = some (e, sz, by_)) (b off len cap : Nat) (k : IntKind) (m : Int) : zfi P T (.v (.slice (some ⟨b, off, none⟩) len cap)) (.v (.int k m)) = if 0 ≤ m then (if m < len then some (.v (.pointer (some ⟨b, off + m.toNat * sz, none⟩))) else none) else none := by
 simp only [zfi, zds, ht]
theorem zvz {P : Program} {T len sz : Nat} (ht : tarr P T = some (len, sz)) (b off : Nat) (k : IntKind) (m : Int) : zfi P T (.v (.pointer (some ⟨b, off, none⟩))) (.v (.int k m)) = if 0 ≤ m then (if m < len then some (.v (.pointer (some ⟨b, off + m.toNat * sz, none⟩))) else none) else none := by
 simp only [zfi, zds, ht]
theorem zvl {P : Program} {T e sz by_ : Nat} (ht : tel P T = some (e, sz, by_)) {x : V} {l : List (List V)} (hx : zds x = some l) (lo hi : Option Nat) : slcV P T x lo hi = if lo.getD 0 ≤ hi.getD l.length ∧ hi.getD l.length ≤ l.length ∧ (∀ c ∈ l, c.length = sz) then some (.lst ((l.take (hi.getD l.length)).drop (lo.getD 0))) else none := by
 simp only [slcV, ht, hx]
theorem zvk {P : Program} {T e sz by_ : Nat} (ht : tel P T = some (e, sz, by_)) (b off len cap : Nat) (lo hi : Option Nat) : slcV P T (.v (.slice (some ⟨b, off, none⟩) len cap)) lo hi = if lo.getD 0 ≤ hi.getD len ∧ hi.getD len ≤ cap ∧ lo.getD 0 < cap then some (.v (.slice (some ⟨b, off + lo.getD 0 * sz, none⟩) (hi.getD len - lo.getD 0) (cap - lo.getD 0))) else none := by
 simp only [slcV, ht, zds]
theorem zhj {P : Program} {T : Nat} (ht : zks P T = true) {x : V} {l : List (List V)} (hx : zds x = some l) : zih P T x = some (.v (.int .i64 l.length)) := by
 simp only [zih, hx, ht, if_true]
theorem zqj {P : Program} {T : Nat} (ht : zks P T = true) (a : Addr) (n c : Nat) : zih P T (.v (.slice (some a) n c)) = some (.v (.int .i64 n)) := by
 simp only [zih, zds, ht, if_true]
theorem zcw {P : Program} {T f o : Nat} (ho : foff P T f = some o) (c : List V) : zdf P T f (.plc c) = if o ≤ c.length then some (.plc (c.drop o)) else none := by simp only [zdf, ho]
theorem zdk {P : Program} {T f o : Nat} (ho : foff P T f = some o) (b off : Nat) : zdf P T f (.v (.pointer (some ⟨b, off, none⟩))) = some (.v (.pointer (some ⟨b, off + o, none⟩))) := by simp only [zdf, ho]
theorem zun {P : Program} {s d : TypeId} {k' : IntKind} (e1 : (P.underlying s).isSome = true) (e2 : tint P d = some k') (k : IntKind) (n : Int) : zsu P s d (.v (.int k n)) = some (.v (.int k' (k'.wrap n))) := by simp only [zsu, e1, e2]
@[go_sem] theorem zerosV_int (k : IntKind) (n : Int) (m : Nat) : zdu (.int k n) m = List.replicate m (.v (.int k n)) := by
 simp only [zdu, Value.cells]
 induction m with
 | zero => rfl
 | succ m ih => rw [List.replicate_succ, List.flatten_cons, List.replicate_succ, ih]; rfl
@[go_sem] theorem zri (m : Nat) : zdu (.slice none 0 0) m = List.replicate m (.v (.slice none 0 0)) := by
 simp only [zdu, Value.cells]
 induction m with
 | zero => rfl
 | succ m ih => rw [List.replicate_succ, List.flatten_cons, List.replicate_succ, ih]; rfl
@[go_sem] theorem zerosV_agg (l : Array Value) (m : Nat) : zdu (.agg l) m = (List.replicate m (l.toList.map V.v)).flatten := rfl
@[go_sem] theorem replicate_zero' {α : Type} (a : α) : List.replicate 0 a = [] := rfl
@[go_sem] theorem replicate_succ' {α : Type} (a : α) (n : Nat) : List.replicate (n + 1) a = a :: List.replicate n a := rfl
@[go_sem] theorem flatten_nil' {α : Type} : ([] : List (List α)).flatten = [] := rfl
@[go_sem] theorem flatten_cons' {α : Type} (a : List α) (r : List (List α)) : (a :: r).flatten = a ++ r.flatten := rfl
@[go_sem] theorem zag (E : VEnv) (v : Value) : zgq E (.const v) = E := rfl
@[go_sem] theorem strip_func (E : VEnv) (v : Nat) : zgq E (.func v) = E := rfl
@[go_sem] theorem strip_global (E : VEnv) (v : Nat) : zgq E (.global v) = E := rfl
def zjo (E : VEnv) (t : Nat) : Option V → VEnv
 | some (.own _ _ _ l) => (t, .lst l) :: E
 | _ => E
@[go_sem] theorem zap (E : VEnv) (t : Nat) : zgq E (.tmp t) = zjo E t (zch E t) := by
 simp only [zgq, zjo]; split <;> simp_all
@[go_sem] theorem zal (E : VEnv) (t : Nat) (m : Bool) (e sz : Nat) (l : List (List V)) : zjo E t (some (.own m e sz l)) = (t, .lst l) :: E := rfl
@[go_sem] theorem zam (E : VEnv) (t : Nat) (l : List (List V)) : zjo E t (some (.lst l)) = E := rfl
@[go_sem] theorem zax (E : VEnv) (t : Nat) (x : Value) : zjo E t (some (.v x)) = E := rfl
@[go_sem] theorem zak (E : VEnv) (t : Nat) (x : List V) : zjo E t (some (.plc x)) = E := rfl
@[go_sem] theorem zaj (E : VEnv) (t : Nat) (x : List V) : zjo E t (some (.agg x)) = E := rfl
@[go_sem] theorem zaq (E : VEnv) (t : Nat) (f : FuncId) (x y : List V) : zjo E t (some (.fn f x y)) = E := rfl
@[go_sem] theorem zan (E : VEnv) (t : Nat) (f : TypeId) (x : V) : zjo E t (some (.ifc f x)) = E := rfl
end Go.XL
namespace Go.XL
open Go.Proofs
@[go_sem] theorem tz3 : zdb Try.prog 3 = some (.int .i64 (0)) := by kernel_rfl
@[go_sem] theorem tz25 : zdb Try.prog 25 = some (.slice none 0 0) := by kernel_rfl
@[go_sem] theorem tz29 : zdb Try.prog 29 = some (.agg #[.int .i64 (0), .int .i64 (0), .int .i64 (0), .int .i64 (0), .slice none 0 0, .bool false, .slice none 0 0, .slice none 0 0]) := by kernel_rfl
@[go_sem] theorem tz37 : zdb Try.prog 37 = some (.agg #[.int .i64 (0), .int .i64 (0), .int .i64 (0), .int .i64 (0), .slice none 0 0]) := by kernel_rfl
@[go_sem] theorem tz41 : zdb Try.prog 41 = some (.agg #[.int .i64 (0), .int .i64 (0), .slice none 0 0]) := by kernel_rfl
@[go_sem] theorem tz43 : zdb Try.prog 43 = some (.slice none 0 0) := by kernel_rfl
@[go_sem] theorem tz45 : zdb Try.prog 45 = some (.agg #[.slice none 0 0, .slice none 0 0, .slice none 0 0]) := by kernel_rfl
@[go_sem] theorem tz63 : zdb Try.prog 63 = some (.agg #[.int .i64 (0), .int .i64 (0), .int .i64 (0), .int .i64 (0)]) := by kernel_rfl
@[go_sem] theorem tsz3 : tsz Try.prog 3 = some (false, 1) := by kernel_rfl
@[go_sem] theorem ldT3 (v : V) (r : List V) : ldTV Try.prog 3 (v :: r) = some v.copy := zea tsz3 v r
@[go_sem] theorem ldD3 (l : List V) (k : Nat) : ldTV Try.prog 3 (l.drop k) = (l[k]?).map V.copy := zsd tsz3 l k
@[go_sem] theorem yir : tint Try.prog 3 = some .i64 := by kernel_rfl
@[go_sem] theorem usm3 : (Try.prog.underlying 3).isSome = true := by kernel_rfl
@[go_sem] theorem tsz4 : tsz Try.prog 4 = some (false, 1) := by kernel_rfl
@[go_sem] theorem ldT4 (v : V) (r : List V) : ldTV Try.prog 4 (v :: r) = some v.copy := zea tsz4 v r
@[go_sem] theorem yiq : tint Try.prog 5 = some .u8 := by kernel_rfl
@[go_sem] theorem usm5 : (Try.prog.underlying 5).isSome = true := by kernel_rfl
@[go_sem] theorem yip : tsz Try.prog 25 = some (false, 1) := by kernel_rfl
@[go_sem] theorem ldT25 (v : V) (r : List V) : ldTV Try.prog 25 (v :: r) = some v.copy := zea yip v r
@[go_sem] theorem zxb : tel Try.prog 25 = some (3, 1, 8) := by kernel_rfl
@[go_sem] theorem ygx : zks Try.prog 25 = true := by kernel_rfl
@[go_sem] theorem len25 (l : List (List V)) : zih Try.prog 25 (.lst l) = some (.v (.int .i64 l.length)) := zhj ygx rfl
@[go_sem] theorem les25 (a : Addr) (n c : Nat) : zih Try.prog 25 (.v (.slice (some a) n c)) = some (.v (.int .i64 n)) := zqj ygx a n c
@[go_sem] theorem ixl25 (l : List (List V)) (k : IntKind) (m : Int) : zfi Try.prog 25 (.lst l) (.v (.int k m)) = if 0 ≤ m then idxO 1 l[m.toNat]? else none := zgm zxb rfl k m
@[go_sem] theorem ixo25 (b : Bool) (e s : Nat) (l : List (List V)) (k : IntKind) (m : Int) : zfi Try.prog 25 (.own b e s l) (.v (.int k m)) = if 0 ≤ m then idxO 1 l[m.toNat]? else none := zgm zxb rfl k m
@[go_sem] theorem ixs25 (b off len cap : Nat) (k : IntKind) (m : Int) : zfi Try.prog 25 (.v (.slice (some ⟨b, off, none⟩) len cap)) (.v (.int k m)) = if 0 ≤ m then (if m < len then some (.v (.pointer (some ⟨b, off + m.toNat * 1, none⟩))) else none) else none := zhk zxb b off len cap k m
@[go_sem] theorem sll25 (l : List (List V)) (lo hi : Option Nat) : slcV Try.prog 25 (.lst l) lo hi = if lo.getD 0 ≤ hi.getD l.length ∧ hi.getD l.length ≤ l.length ∧ (∀ c ∈ l, c.length = 1) then some (.lst ((l.take (hi.getD l.length)).drop (lo.getD 0))) else none := zvl zxb rfl lo hi
@[go_sem] theorem sls25 (b off len cap : Nat) (lo hi : Option Nat) : slcV Try.prog 25 (.v (.slice (some ⟨b, off, none⟩) len cap)) lo hi = if lo.getD 0 ≤ hi.getD len ∧ hi.getD len ≤ cap ∧ lo.getD 0 < cap then some (.v (.slice (some ⟨b, off + lo.getD 0 * 1, none⟩) (hi.getD len - lo.getD 0) (cap - lo.getD 0))) else none := zvk zxb b off len cap lo hi
@[go_sem] theorem bsl25 (len : Nat) (ps : List (Nat × V)) : bslV Try.prog 25 len ps = if len * 1 ≤ 16777216 ∧ len ≤ 16777216 then (zee (fun i => some (i * 1, 1)) (zdu (.int .i64 (0)) len) ps).map fun c => (3, 1, c) else none := zjz zxb tz3 rfl rfl len ps
@[go_sem] theorem yio : tsz Try.prog 26 = some (false, 1) := by kernel_rfl
@[go_sem] theorem ldT26 (v : V) (r : List V) : ldTV Try.prog 26 (v :: r) = some v.copy := zea yio v r
@[go_sem] theorem ybm : tel Try.prog 26 = some (63, 4, 32) := by kernel_rfl
@[go_sem] theorem yja : zks Try.prog 26 = true := by kernel_rfl
@[go_sem] theorem len26 (l : List (List V)) : zih Try.prog 26 (.lst l) = some (.v (.int .i64 l.length)) := zhj yja rfl
@[go_sem] theorem ixl26 (l : List (List V)) (k : IntKind) (m : Int) : zfi Try.prog 26 (.lst l) (.v (.int k m)) = if 0 ≤ m then idxO 4 l[m.toNat]? else none := zgm ybm rfl k m
@[go_sem] theorem ixs26 (b off len cap : Nat) (k : IntKind) (m : Int) : zfi Try.prog 26 (.v (.slice (some ⟨b, off, none⟩) len cap)) (.v (.int k m)) = if 0 ≤ m then (if m < len then some (.v (.pointer (some ⟨b, off + m.toNat * 4, none⟩))) else none) else none := zhk ybm b off len cap k m
@[go_sem] theorem sll26 (l : List (List V)) (lo hi : Option Nat) : slcV Try.prog 26 (.lst l) lo hi = if lo.getD 0 ≤ hi.getD l.length ∧ hi.getD l.length ≤ l.length ∧ (∀ c ∈ l, c.length = 4) then some (.lst ((l.take (hi.getD l.length)).drop (lo.getD 0))) else none := zvl ybm rfl lo hi
@[go_sem] theorem bsl26 (len : Nat) (ps : List (Nat × V)) : bslV Try.prog 26 len ps = if len * 4 ≤ 16777216 ∧ len ≤ 16777216 then (zee (fun i => some (i * 4, 4)) (zdu (.agg #[.int .i64 (0), .int .i64 (0), .int .i64 (0), .int .i64 (0)]) len) ps).map fun c => (63, 4, c) else none := zjz ybm tz63 rfl rfl len ps
@[go_sem] theorem yin : tsz Try.prog 27 = some (false, 1) := by kernel_rfl
@[go_sem] theorem ldT27 (v : V) (r : List V) : ldTV Try.prog 27 (v :: r) = some v.copy := zea yin v r
@[go_sem] theorem yex : tel Try.prog 27 = some (45, 3, 72) := by kernel_rfl
@[go_sem] theorem yiz : zks Try.prog 27 = true := by kernel_rfl
@[go_sem] theorem len27 (l : List (List V)) : zih Try.prog 27 (.lst l) = some (.v (.int .i64 l.length)) := zhj yiz rfl
@[go_sem] theorem ixl27 (l : List (List V)) (k : IntKind) (m : Int) : zfi Try.prog 27 (.lst l) (.v (.int k m)) = if 0 ≤ m then idxO 3 l[m.toNat]? else none := zgm yex rfl k m
@[go_sem] theorem ixs27 (b off len cap : Nat) (k : IntKind) (m : Int) : zfi Try.prog 27 (.v (.slice (some ⟨b, off, none⟩) len cap)) (.v (.int k m)) = if 0 ≤ m then (if m < len then some (.v (.pointer (some ⟨b, off + m.toNat * 3, none⟩))) else none) else none := zhk yex b off len cap k m
@[go_sem] theorem bsl27 (len : Nat) (ps : List (Nat × V)) : bslV Try.prog 27 len ps = if len * 3 ≤ 16777216 ∧ len ≤ 16777216 then (zee (fun i => some (i * 3, 3)) (zdu (.agg #[.slice none 0 0, .slice none 0 0, .slice none 0 0]) len) ps).map fun c => (45, 3, c) else none := zjz yex tz45 rfl rfl len ps
@[go_sem] theorem yim : tsz Try.prog 29 = some (true, 8) := by kernel_rfl
@[go_sem] theorem ldT29 (c : List V) : ldTV Try.prog 29 c = if 8 ≤ c.length then some (.agg ((c.take 8).map V.peek)) else none := ziz yim c
@[go_sem] theorem ydm : foff Try.prog 29 0 = some 0 := by kernel_rfl
@[go_sem] theorem fpl29_0 (c : List V) : zdf Try.prog 29 0 (.plc c) = if 0 ≤ c.length then some (.plc (c.drop 0)) else none := zcw ydm c
@[go_sem] theorem ydl : foff Try.prog 29 1 = some 1 := by kernel_rfl
@[go_sem] theorem fpl29_1 (c : List V) : zdf Try.prog 29 1 (.plc c) = if 1 ≤ c.length then some (.plc (c.drop 1)) else none := zcw ydl c
@[go_sem] theorem ydk : foff Try.prog 29 2 = some 2 := by kernel_rfl
@[go_sem] theorem fpl29_2 (c : List V) : zdf Try.prog 29 2 (.plc c) = if 2 ≤ c.length then some (.plc (c.drop 2)) else none := zcw ydk c
@[go_sem] theorem ydj : foff Try.prog 29 3 = some 3 := by kernel_rfl
@[go_sem] theorem fpl29_3 (c : List V) : zdf Try.prog 29 3 (.plc c) = if 3 ≤ c.length then some (.plc (c.drop 3)) else none := zcw ydj c
@[go_sem] theorem ydi : foff Try.prog 29 4 = some 4 := by kernel_rfl
@[go_sem] theorem fpl29_4 (c : List V) : zdf Try.prog 29 4 (.plc c) = if 4 ≤ c.length then some (.plc (c.drop 4)) else none := zcw ydi c
@[go_sem] theorem ydh : foff Try.prog 29 5 = some 5 := by kernel_rfl
@[go_sem] theorem fpl29_5 (c : List V) : zdf Try.prog 29 5 (.plc c) = if 5 ≤ c.length then some (.plc (c.drop 5)) else none := zcw ydh c
@[go_sem] theorem zwk : foff Try.prog 29 6 = some 6 := by kernel_rfl
@[go_sem] theorem fpl29_6 (c : List V) : zdf Try.prog 29 6 (.plc c) = if 6 ≤ c.length then some (.plc (c.drop 6)) else none := zcw zwk c
@[go_sem] theorem fpt29_6 (b o : Nat) : zdf Try.prog 29 6 (.v (.pointer (some ⟨b, o, none⟩))) = some (.v (.pointer (some ⟨b, o + 6, none⟩))) := zdk zwk b o
@[go_sem] theorem zwj : foff Try.prog 29 7 = some 7 := by kernel_rfl
@[go_sem] theorem fpl29_7 (c : List V) : zdf Try.prog 29 7 (.plc c) = if 7 ≤ c.length then some (.plc (c.drop 7)) else none := zcw zwj c
@[go_sem] theorem fpt29_7 (b o : Nat) : zdf Try.prog 29 7 (.v (.pointer (some ⟨b, o, none⟩))) = some (.v (.pointer (some ⟨b, o + 7, none⟩))) := zdk zwj b o
@[go_sem] theorem bld29 (ps : List (Nat × V)) : zjq Try.prog 29 ps = zee (zfy [(0, 1), (1, 1), (2, 1), (3, 1), (4, 1), (5, 1), (6, 1), (7, 1)]) [V.v (.int .i64 (0)), V.v (.int .i64 (0)), V.v (.int .i64 (0)), V.v (.int .i64 (0)), V.v (.slice none 0 0), V.v (.bool false), V.v (.slice none 0 0), V.v (.slice none 0 0)] ps := by kernel_rfl
@[go_sem] theorem yew : tel Try.prog 31 = some (37, 5, 56) := by kernel_rfl
@[go_sem] theorem yiy : zks Try.prog 31 = true := by kernel_rfl
@[go_sem] theorem len31 (l : List (List V)) : zih Try.prog 31 (.lst l) = some (.v (.int .i64 l.length)) := zhj yiy rfl
@[go_sem] theorem ixl31 (l : List (List V)) (k : IntKind) (m : Int) : zfi Try.prog 31 (.lst l) (.v (.int k m)) = if 0 ≤ m then idxO 5 l[m.toNat]? else none := zgm yew rfl k m
@[go_sem] theorem ixs31 (b off len cap : Nat) (k : IntKind) (m : Int) : zfi Try.prog 31 (.v (.slice (some ⟨b, off, none⟩) len cap)) (.v (.int k m)) = if 0 ≤ m then (if m < len then some (.v (.pointer (some ⟨b, off + m.toNat * 5, none⟩))) else none) else none := zhk yew b off len cap k m
@[go_sem] theorem bsl31 (len : Nat) (ps : List (Nat × V)) : bslV Try.prog 31 len ps = if len * 5 ≤ 16777216 ∧ len ≤ 16777216 then (zee (fun i => some (i * 5, 5)) (zdu (.agg #[.int .i64 (0), .int .i64 (0), .int .i64 (0), .int .i64 (0), .slice none 0 0]) len) ps).map fun c => (37, 5, c) else none := zjz yew tz37 rfl rfl len ps
@[go_sem] theorem yil : tsz Try.prog 37 = some (true, 5) := by kernel_rfl
@[go_sem] theorem ldT37 (c : List V) : ldTV Try.prog 37 c = if 5 ≤ c.length then some (.agg ((c.take 5).map V.peek)) else none := ziz yil c
@[go_sem] theorem zwi : foff Try.prog 37 0 = some 0 := by kernel_rfl
@[go_sem] theorem fpl37_0 (c : List V) : zdf Try.prog 37 0 (.plc c) = if 0 ≤ c.length then some (.plc (c.drop 0)) else none := zcw zwi c
@[go_sem] theorem fpt37_0 (b o : Nat) : zdf Try.prog 37 0 (.v (.pointer (some ⟨b, o, none⟩))) = some (.v (.pointer (some ⟨b, o + 0, none⟩))) := zdk zwi b o
@[go_sem] theorem zwh : foff Try.prog 37 1 = some 1 := by kernel_rfl
@[go_sem] theorem fpl37_1 (c : List V) : zdf Try.prog 37 1 (.plc c) = if 1 ≤ c.length then some (.plc (c.drop 1)) else none := zcw zwh c
@[go_sem] theorem fpt37_1 (b o : Nat) : zdf Try.prog 37 1 (.v (.pointer (some ⟨b, o, none⟩))) = some (.v (.pointer (some ⟨b, o + 1, none⟩))) := zdk zwh b o
@[go_sem] theorem zwg : foff Try.prog 37 2 = some 2 := by kernel_rfl
@[go_sem] theorem fpl37_2 (c : List V) : zdf Try.prog 37 2 (.plc c) = if 2 ≤ c.length then some (.plc (c.drop 2)) else none := zcw zwg c
@[go_sem] theorem fpt37_2 (b o : Nat) : zdf Try.prog 37 2 (.v (.pointer (some ⟨b, o, none⟩))) = some (.v (.pointer (some ⟨b, o + 2, none⟩))) := zdk zwg b o
@[go_sem] theorem ydg : foff Try.prog 37 3 = some 3 := by kernel_rfl
@[go_sem] theorem fpt37_3 (b o : Nat) : zdf Try.prog 37 3 (.v (.pointer (some ⟨b, o, none⟩))) = some (.v (.pointer (some ⟨b, o + 3, none⟩))) := zdk ydg b o
@[go_sem] theorem zwf : foff Try.prog 37 4 = some 4 := by kernel_rfl
@[go_sem] theorem fpl37_4 (c : List V) : zdf Try.prog 37 4 (.plc c) = if 4 ≤ c.length then some (.plc (c.drop 4)) else none := zcw zwf c
@[go_sem] theorem fpt37_4 (b o : Nat) : zdf Try.prog 37 4 (.v (.pointer (some ⟨b, o, none⟩))) = some (.v (.pointer (some ⟨b, o + 4, none⟩))) := zdk zwf b o
@[go_sem] theorem bld37 (ps : List (Nat × V)) : zjq Try.prog 37 ps = zee (zfy [(0, 1), (1, 1), (2, 1), (3, 1), (4, 1)]) [V.v (.int .i64 (0)), V.v (.int .i64 (0)), V.v (.int .i64 (0)), V.v (.int .i64 (0)), V.v (.slice none 0 0)] ps := by kernel_rfl
@[go_sem] theorem yik : tsz Try.prog 41 = some (true, 3) := by kernel_rfl
@[go_sem] theorem ldT41 (c : List V) : ldTV Try.prog 41 c = if 3 ≤ c.length then some (.agg ((c.take 3).map V.peek)) else none := ziz yik c
@[go_sem] theorem ydf : foff Try.prog 41 0 = some 0 := by kernel_rfl
@[go_sem] theorem fpl41_0 (c : List V) : zdf Try.prog 41 0 (.plc c) = if 0 ≤ c.length then some (.plc (c.drop 0)) else none := zcw ydf c
@[go_sem] theorem yde : foff Try.prog 41 1 = some 1 := by kernel_rfl
@[go_sem] theorem fpl41_1 (c : List V) : zdf Try.prog 41 1 (.plc c) = if 1 ≤ c.length then some (.plc (c.drop 1)) else none := zcw yde c
@[go_sem] theorem ydd : foff Try.prog 41 2 = some 2 := by kernel_rfl
@[go_sem] theorem fpl41_2 (c : List V) : zdf Try.prog 41 2 (.plc c) = if 2 ≤ c.length then some (.plc (c.drop 2)) else none := zcw ydd c
@[go_sem] theorem bld41 (ps : List (Nat × V)) : zjq Try.prog 41 ps = zee (zfy [(0, 1), (1, 1), (2, 1)]) [V.v (.int .i64 (0)), V.v (.int .i64 (0)), V.v (.slice none 0 0)] ps := by kernel_rfl
@[go_sem] theorem yij : tsz Try.prog 42 = some (false, 1) := by kernel_rfl
@[go_sem] theorem ldT42 (v : V) (r : List V) : ldTV Try.prog 42 (v :: r) = some v.copy := zea yij v r
@[go_sem] theorem ygm : tel Try.prog 42 = some (41, 3, 40) := by kernel_rfl
@[go_sem] theorem yix : zks Try.prog 42 = true := by kernel_rfl
@[go_sem] theorem len42 (l : List (List V)) : zih Try.prog 42 (.lst l) = some (.v (.int .i64 l.length)) := zhj yix rfl
@[go_sem] theorem ixl42 (l : List (List V)) (k : IntKind) (m : Int) : zfi Try.prog 42 (.lst l) (.v (.int k m)) = if 0 ≤ m then idxO 3 l[m.toNat]? else none := zgm ygm rfl k m
@[go_sem] theorem bsl42 (len : Nat) (ps : List (Nat × V)) : bslV Try.prog 42 len ps = if len * 3 ≤ 16777216 ∧ len ≤ 16777216 then (zee (fun i => some (i * 3, 3)) (zdu (.agg #[.int .i64 (0), .int .i64 (0), .slice none 0 0]) len) ps).map fun c => (41, 3, c) else none := zjz ygm tz41 rfl rfl len ps
@[go_sem] theorem ygj : tsz Try.prog 43 = some (false, 1) := by kernel_rfl
@[go_sem] theorem ldT43 (v : V) (r : List V) : ldTV Try.prog 43 (v :: r) = some v.copy := zea ygj v r
@[go_sem] theorem ldD43 (l : List V) (k : Nat) : ldTV Try.prog 43 (l.drop k) = (l[k]?).map V.copy := zsd ygj l k
@[go_sem] theorem ybl : tel Try.prog 43 = some (25, 1, 24) := by kernel_rfl
@[go_sem] theorem ygw : zks Try.prog 43 = true := by kernel_rfl
@[go_sem] theorem len43 (l : List (List V)) : zih Try.prog 43 (.lst l) = some (.v (.int .i64 l.length)) := zhj ygw rfl
@[go_sem] theorem les43 (a : Addr) (n c : Nat) : zih Try.prog 43 (.v (.slice (some a) n c)) = some (.v (.int .i64 n)) := zqj ygw a n c
@[go_sem] theorem ixl43 (l : List (List V)) (k : IntKind) (m : Int) : zfi Try.prog 43 (.lst l) (.v (.int k m)) = if 0 ≤ m then idxO 1 l[m.toNat]? else none := zgm ybl rfl k m
@[go_sem] theorem ixs43 (b off len cap : Nat) (k : IntKind) (m : Int) : zfi Try.prog 43 (.v (.slice (some ⟨b, off, none⟩) len cap)) (.v (.int k m)) = if 0 ≤ m then (if m < len then some (.v (.pointer (some ⟨b, off + m.toNat * 1, none⟩))) else none) else none := zhk ybl b off len cap k m
@[go_sem] theorem sls43 (b off len cap : Nat) (lo hi : Option Nat) : slcV Try.prog 43 (.v (.slice (some ⟨b, off, none⟩) len cap)) lo hi = if lo.getD 0 ≤ hi.getD len ∧ hi.getD len ≤ cap ∧ lo.getD 0 < cap then some (.v (.slice (some ⟨b, off + lo.getD 0 * 1, none⟩) (hi.getD len - lo.getD 0) (cap - lo.getD 0))) else none := zvk ybl b off len cap lo hi
@[go_sem] theorem bsl43 (len : Nat) (ps : List (Nat × V)) : bslV Try.prog 43 len ps = if len * 1 ≤ 16777216 ∧ len ≤ 16777216 then (zee (fun i => some (i * 1, 1)) (zdu (.slice none 0 0) len) ps).map fun c => (25, 1, c) else none := zjz ybl tz25 rfl rfl len ps
@[go_sem] theorem yii : tsz Try.prog 45 = some (true, 3) := by kernel_rfl
@[go_sem] theorem ldT45 (c : List V) : ldTV Try.prog 45 c = if 3 ≤ c.length then some (.agg ((c.take 3).map V.peek)) else none := ziz yii c
@[go_sem] theorem zwe : foff Try.prog 45 0 = some 0 := by kernel_rfl
@[go_sem] theorem fpl45_0 (c : List V) : zdf Try.prog 45 0 (.plc c) = if 0 ≤ c.length then some (.plc (c.drop 0)) else none := zcw zwe c
@[go_sem] theorem fpt45_0 (b o : Nat) : zdf Try.prog 45 0 (.v (.pointer (some ⟨b, o, none⟩))) = some (.v (.pointer (some ⟨b, o + 0, none⟩))) := zdk zwe b o
@[go_sem] theorem zwd : foff Try.prog 45 1 = some 1 := by kernel_rfl
@[go_sem] theorem fpl45_1 (c : List V) : zdf Try.prog 45 1 (.plc c) = if 1 ≤ c.length then some (.plc (c.drop 1)) else none := zcw zwd c
@[go_sem] theorem fpt45_1 (b o : Nat) : zdf Try.prog 45 1 (.v (.pointer (some ⟨b, o, none⟩))) = some (.v (.pointer (some ⟨b, o + 1, none⟩))) := zdk zwd b o
@[go_sem] theorem zwc : foff Try.prog 45 2 = some 2 := by kernel_rfl
@[go_sem] theorem fpl45_2 (c : List V) : zdf Try.prog 45 2 (.plc c) = if 2 ≤ c.length then some (.plc (c.drop 2)) else none := zcw zwc c
@[go_sem] theorem fpt45_2 (b o : Nat) : zdf Try.prog 45 2 (.v (.pointer (some ⟨b, o, none⟩))) = some (.v (.pointer (some ⟨b, o + 2, none⟩))) := zdk zwc b o
@[go_sem] theorem bld45 (ps : List (Nat × V)) : zjq Try.prog 45 ps = zee (zfy [(0, 1), (1, 1), (2, 1)]) [V.v (.slice none 0 0), V.v (.slice none 0 0), V.v (.slice none 0 0)] ps := by kernel_rfl
@[go_sem] theorem yih : tsz Try.prog 46 = some (false, 1) := by kernel_rfl
@[go_sem] theorem ldT46 (v : V) (r : List V) : ldTV Try.prog 46 (v :: r) = some v.copy := zea yih v r
@[go_sem] theorem ygo : tarr Try.prog 52 = some (3, 8) := by kernel_rfl
@[go_sem] theorem ixq52 (b off : Nat) (k : IntKind) (m : Int) : zfi Try.prog 52 (.v (.pointer (some ⟨b, off, none⟩))) (.v (.int k m)) = if 0 ≤ m then (if m < (3 : Nat) then some (.v (.pointer (some ⟨b, off + m.toNat * 8, none⟩))) else none) else none := zvz ygo b off k m
@[go_sem] theorem yig : tsz Try.prog 54 = some (false, 1) := by kernel_rfl
@[go_sem] theorem ldT54 (v : V) (r : List V) : ldTV Try.prog 54 (v :: r) = some v.copy := zea yig v r
@[go_sem] theorem yev : tel Try.prog 54 = some (43, 1, 24) := by kernel_rfl
@[go_sem] theorem yiw : zks Try.prog 54 = true := by kernel_rfl
@[go_sem] theorem len54 (l : List (List V)) : zih Try.prog 54 (.lst l) = some (.v (.int .i64 l.length)) := zhj yiw rfl
@[go_sem] theorem ixl54 (l : List (List V)) (k : IntKind) (m : Int) : zfi Try.prog 54 (.lst l) (.v (.int k m)) = if 0 ≤ m then idxO 1 l[m.toNat]? else none := zgm yev rfl k m
@[go_sem] theorem ixs54 (b off len cap : Nat) (k : IntKind) (m : Int) : zfi Try.prog 54 (.v (.slice (some ⟨b, off, none⟩) len cap)) (.v (.int k m)) = if 0 ≤ m then (if m < len then some (.v (.pointer (some ⟨b, off + m.toNat * 1, none⟩))) else none) else none := zhk yev b off len cap k m
@[go_sem] theorem bsl54 (len : Nat) (ps : List (Nat × V)) : bslV Try.prog 54 len ps = if len * 1 ≤ 16777216 ∧ len ≤ 16777216 then (zee (fun i => some (i * 1, 1)) (zdu (.slice none 0 0) len) ps).map fun c => (43, 1, c) else none := zjz yev tz43 rfl rfl len ps
@[go_sem] theorem yif : tsz Try.prog 58 = some (true, 2) := by kernel_rfl
@[go_sem] theorem ldT58 (c : List V) : ldTV Try.prog 58 c = if 2 ≤ c.length then some (.agg ((c.take 2).map V.peek)) else none := ziz yif c
@[go_sem] theorem ygn : tarr Try.prog 58 = some (2, 1) := by kernel_rfl
@[go_sem] theorem ixq58 (b off : Nat) (k : IntKind) (m : Int) : zfi Try.prog 58 (.v (.pointer (some ⟨b, off, none⟩))) (.v (.int k m)) = if 0 ≤ m then (if m < (2 : Nat) then some (.v (.pointer (some ⟨b, off + m.toNat * 1, none⟩))) else none) else none := zvz ygn b off k m
@[go_sem] theorem bld58 (ps : List (Nat × V)) : zjq Try.prog 58 ps = zee (fun i => some (i * 1, 1)) [V.v (.int .i64 (0)), V.v (.int .i64 (0))] ps := by kernel_rfl
@[go_sem] theorem yie : tsz Try.prog 59 = some (false, 1) := by kernel_rfl
@[go_sem] theorem ldT59 (v : V) (r : List V) : ldTV Try.prog 59 (v :: r) = some v.copy := zea yie v r
@[go_sem] theorem yid : tsz Try.prog 63 = some (true, 4) := by kernel_rfl
@[go_sem] theorem ldT63 (c : List V) : ldTV Try.prog 63 c = if 4 ≤ c.length then some (.agg ((c.take 4).map V.peek)) else none := ziz yid c
@[go_sem] theorem ydc : foff Try.prog 63 0 = some 0 := by kernel_rfl
@[go_sem] theorem fpl63_0 (c : List V) : zdf Try.prog 63 0 (.plc c) = if 0 ≤ c.length then some (.plc (c.drop 0)) else none := zcw ydc c
@[go_sem] theorem zwb : foff Try.prog 63 1 = some 1 := by kernel_rfl
@[go_sem] theorem fpl63_1 (c : List V) : zdf Try.prog 63 1 (.plc c) = if 1 ≤ c.length then some (.plc (c.drop 1)) else none := zcw zwb c
@[go_sem] theorem fpt63_1 (b o : Nat) : zdf Try.prog 63 1 (.v (.pointer (some ⟨b, o, none⟩))) = some (.v (.pointer (some ⟨b, o + 1, none⟩))) := zdk zwb b o
@[go_sem] theorem ydb : foff Try.prog 63 2 = some 2 := by kernel_rfl
@[go_sem] theorem fpl63_2 (c : List V) : zdf Try.prog 63 2 (.plc c) = if 2 ≤ c.length then some (.plc (c.drop 2)) else none := zcw ydb c
@[go_sem] theorem yda : foff Try.prog 63 3 = some 3 := by kernel_rfl
@[go_sem] theorem fpl63_3 (c : List V) : zdf Try.prog 63 3 (.plc c) = if 3 ≤ c.length then some (.plc (c.drop 3)) else none := zcw yda c
@[go_sem] theorem bld63 (ps : List (Nat × V)) : zjq Try.prog 63 ps = zee (zfy [(0, 1), (1, 1), (2, 1), (3, 1)]) [V.v (.int .i64 (0)), V.v (.int .i64 (0)), V.v (.int .i64 (0)), V.v (.int .i64 (0))] ps := by kernel_rfl
@[go_sem] theorem yis : tel Try.prog 65 = some (37, 5, 56) := by kernel_rfl
@[go_sem] theorem yiv : zks Try.prog 65 = true := by kernel_rfl
@[go_sem] theorem les65 (a : Addr) (n c : Nat) : zih Try.prog 65 (.v (.slice (some a) n c)) = some (.v (.int .i64 n)) := zqj yiv a n c
@[go_sem] theorem ixs65 (b off len cap : Nat) (k : IntKind) (m : Int) : zfi Try.prog 65 (.v (.slice (some ⟨b, off, none⟩) len cap)) (.v (.int k m)) = if 0 ≤ m then (if m < len then some (.v (.pointer (some ⟨b, off + m.toNat * 5, none⟩))) else none) else none := zhk yis b off len cap k m
@[go_sem] theorem yic : tsz Try.prog 79 = some (false, 1) := by kernel_rfl
@[go_sem] theorem ldT79 (v : V) (r : List V) : ldTV Try.prog 79 (v :: r) = some v.copy := zea yic v r
@[go_sem] theorem ycz : foff Try.prog 82 0 = some 0 := by kernel_rfl
@[go_sem] theorem fpt82_0 (b o : Nat) : zdf Try.prog 82 0 (.v (.pointer (some ⟨b, o, none⟩))) = some (.v (.pointer (some ⟨b, o + 0, none⟩))) := zdk ycz b o
@[go_sem] theorem ycy : foff Try.prog 82 1 = some 1 := by kernel_rfl
@[go_sem] theorem fpt82_1 (b o : Nat) : zdf Try.prog 82 1 (.v (.pointer (some ⟨b, o, none⟩))) = some (.v (.pointer (some ⟨b, o + 1, none⟩))) := zdk ycy b o
@[go_sem] theorem ycx : foff Try.prog 82 2 = some 2 := by kernel_rfl
@[go_sem] theorem fpt82_2 (b o : Nat) : zdf Try.prog 82 2 (.v (.pointer (some ⟨b, o, none⟩))) = some (.v (.pointer (some ⟨b, o + 2, none⟩))) := zdk ycx b o
@[go_sem] theorem ycw : foff Try.prog 82 3 = some 3 := by kernel_rfl
@[go_sem] theorem fpt82_3 (b o : Nat) : zdf Try.prog 82 3 (.v (.pointer (some ⟨b, o, none⟩))) = some (.v (.pointer (some ⟨b, o + 3, none⟩))) := zdk ycw b o
@[go_sem] theorem ycv : foff Try.prog 82 4 = some 4 := by kernel_rfl
@[go_sem] theorem fpt82_4 (b o : Nat) : zdf Try.prog 82 4 (.v (.pointer (some ⟨b, o, none⟩))) = some (.v (.pointer (some ⟨b, o + 4, none⟩))) := zdk ycv b o
@[go_sem] theorem ycu : foff Try.prog 82 5 = some 5 := by kernel_rfl
@[go_sem] theorem fpt82_5 (b o : Nat) : zdf Try.prog 82 5 (.v (.pointer (some ⟨b, o, none⟩))) = some (.v (.pointer (some ⟨b, o + 5, none⟩))) := zdk ycu b o
@[go_sem] theorem bld82 (ps : List (Nat × V)) : zjq Try.prog 82 ps = zee (zfy [(0, 1), (1, 1), (2, 1), (3, 1), (4, 1), (5, 1)]) [V.v (.int .i64 (0)), V.v (.int .i64 (0)), V.v (.int .i64 (0)), V.v (.slice none 0 0), V.v (.slice none 0 0), V.v (.map none)] ps := by kernel_rfl
@[go_sem] theorem ygl : tint Try.prog 92 = some .u64 := by kernel_rfl
@[go_sem] theorem ygi : (Try.prog.underlying 105).isSome = true := by kernel_rfl
@[go_sem] theorem ygk : tsz Try.prog 128 = some (false, 1) := by kernel_rfl
@[go_sem] theorem ldT128 (v : V) (r : List V) : ldTV Try.prog 128 (v :: r) = some v.copy := zea ygk v r
@[go_sem] theorem cvt3_92 (k : IntKind) (n : Int) : zsu Try.prog 3 92 (.v (.int k n)) = some (.v (.int .u64 (IntKind.wrap .u64 n))) := zun usm3 ygl k n
@[go_sem] theorem cvt5_3 (k : IntKind) (n : Int) : zsu Try.prog 5 3 (.v (.int k n)) = some (.v (.int .i64 (IntKind.wrap .i64 n))) := zun usm5 yir k n
@[go_sem] theorem cvt105_5 (k : IntKind) (n : Int) : zsu Try.prog 105 5 (.v (.int k n)) = some (.v (.int .u8 (IntKind.wrap .u8 n))) := zun ygi yiq k n
theorem zei : Try.prog.follows .mixedOrders = true := by kernel_rfl
theorem kd58 : Maps.Keyed Try.prog 58 := .of_law (WideMaps.ArrKey.law (n := 2) (e := 3) ⟨by kernel_rfl, by kernel_rfl, by kernel_rfl, by kernel_rfl⟩)
instance ok3 : FnOk Try.prog 3 Try.f3 := ⟨Try.func3, by kernel_rfl, by kernel_rfl⟩
instance ok4 : FnOk Try.prog 4 Try.f4 := ⟨Try.func4, by kernel_rfl, by kernel_rfl⟩
instance ok5 : FnOk Try.prog 5 Try.f5 := ⟨Try.func5, by kernel_rfl, by kernel_rfl⟩
instance ok6 : FnOk Try.prog 6 Try.f6 := ⟨Try.func6, by kernel_rfl, by kernel_rfl⟩
instance ok7 : FnOk Try.prog 7 Try.f7 := ⟨Try.func7, by kernel_rfl, by kernel_rfl⟩
instance ok8 : FnOk Try.prog 8 Try.f8 := ⟨Try.func8, by kernel_rfl, by kernel_rfl⟩
instance ok9 : FnOk Try.prog 9 Try.f9 := ⟨Try.func9, by kernel_rfl, by kernel_rfl⟩
instance ok10 : FnOk Try.prog 10 Try.f10 := ⟨Try.func10, by kernel_rfl, by kernel_rfl⟩
instance ok11 : FnOk Try.prog 11 Try.f11 := ⟨Try.func11, by kernel_rfl, by kernel_rfl⟩
instance ok12 : FnOk Try.prog 12 Try.f12 := ⟨Try.func12, by kernel_rfl, by kernel_rfl⟩
instance ok13 : FnOk Try.prog 13 Try.f13 := ⟨Try.func13, by kernel_rfl, by kernel_rfl⟩
instance ok14 : FnOk Try.prog 14 Try.f14 := ⟨Try.func14, by kernel_rfl, by kernel_rfl⟩
instance ok15 : FnOk Try.prog 15 Try.f15 := ⟨Try.func15, by kernel_rfl, by kernel_rfl⟩
instance ok16 : FnOk Try.prog 16 Try.f16 := ⟨Try.func16, by kernel_rfl, by kernel_rfl⟩
instance ok17 : FnOk Try.prog 17 Try.f17 := ⟨Try.func17, by kernel_rfl, by kernel_rfl⟩
instance ok18 : FnOk Try.prog 18 Try.f18 := ⟨Try.func18, by kernel_rfl, by kernel_rfl⟩
instance ok19 : FnOk Try.prog 19 Try.f19 := ⟨Try.func19, by kernel_rfl, by kernel_rfl⟩
instance ok20 : FnOk Try.prog 20 Try.f20 := ⟨Try.func20, by kernel_rfl, by kernel_rfl⟩
instance ok21 : FnOk Try.prog 21 Try.f21 := ⟨Try.func21, by kernel_rfl, by kernel_rfl⟩
instance ok22 : FnOk Try.prog 22 Try.f22 := ⟨Try.func22, by kernel_rfl, by kernel_rfl⟩
instance ok23 : FnOk Try.prog 23 Try.f23 := ⟨Try.func23, by kernel_rfl, by kernel_rfl⟩
instance ok24 : FnOk Try.prog 24 Try.f24 := ⟨Try.func24, by kernel_rfl, by kernel_rfl⟩
instance ok25 : FnOk Try.prog 25 Try.f25 := ⟨Try.func25, by kernel_rfl, by kernel_rfl⟩
instance ok26 : FnOk Try.prog 26 Try.f26 := ⟨Try.func26, by kernel_rfl, by kernel_rfl⟩
instance ok27 : FnOk Try.prog 27 Try.f27 := ⟨Try.func27, by kernel_rfl, by kernel_rfl⟩
instance ok28 : FnOk Try.prog 28 Try.f28 := ⟨Try.func28, by kernel_rfl, by kernel_rfl⟩
instance ok29 : FnOk Try.prog 29 Try.f29 := ⟨Try.func29, by kernel_rfl, by kernel_rfl⟩
instance ok30 : FnOk Try.prog 30 Try.f30 := ⟨Try.func30, by kernel_rfl, by kernel_rfl⟩
instance ok31 : FnOk Try.prog 31 Try.f31 := ⟨Try.func31, by kernel_rfl, by kernel_rfl⟩
instance ok32 : FnOk Try.prog 32 Try.f32 := ⟨Try.func32, by kernel_rfl, by kernel_rfl⟩
instance ok33 : FnOk Try.prog 33 Try.f33 := ⟨Try.func33, by kernel_rfl, by kernel_rfl⟩
instance ok34 : FnOk Try.prog 34 Try.f34 := ⟨Try.func34, by kernel_rfl, by kernel_rfl⟩
instance ok35 : FnOk Try.prog 35 Try.f35 := ⟨Try.func35, by kernel_rfl, by kernel_rfl⟩
instance ok36 : FnOk Try.prog 36 Try.f36 := ⟨Try.func36, by kernel_rfl, by kernel_rfl⟩
instance ok37 : FnOk Try.prog 37 Try.f37 := ⟨Try.func37, by kernel_rfl, by kernel_rfl⟩
instance ok38 : FnOk Try.prog 38 Try.f38 := ⟨Try.func38, by kernel_rfl, by kernel_rfl⟩
instance ok39 : FnOk Try.prog 39 Try.f39 := ⟨Try.func39, by kernel_rfl, by kernel_rfl⟩
instance ok40 : FnOk Try.prog 40 Try.f40 := ⟨Try.func40, by kernel_rfl, by kernel_rfl⟩
instance ok41 : FnOk Try.prog 41 Try.f41 := ⟨Try.func41, by kernel_rfl, by kernel_rfl⟩
instance ok42 : FnOk Try.prog 42 Try.f42 := ⟨Try.func42, by kernel_rfl, by kernel_rfl⟩
instance ok43 : FnOk Try.prog 43 Try.f43 := ⟨Try.func43, by kernel_rfl, by kernel_rfl⟩
instance ok44 : FnOk Try.prog 44 Try.f44 := ⟨Try.func44, by kernel_rfl, by kernel_rfl⟩
instance ok45 : FnOk Try.prog 45 Try.f45 := ⟨Try.func45, by kernel_rfl, by kernel_rfl⟩
instance ok46 : FnOk Try.prog 46 Try.f46 := ⟨Try.func46, by kernel_rfl, by kernel_rfl⟩
instance ok47 : FnOk Try.prog 47 Try.f47 := ⟨Try.func47, by kernel_rfl, by kernel_rfl⟩
instance ok48 : FnOk Try.prog 48 Try.f48 := ⟨Try.func48, by kernel_rfl, by kernel_rfl⟩
instance ok49 : FnOk Try.prog 49 Try.f49 := ⟨Try.func49, by kernel_rfl, by kernel_rfl⟩
instance ok50 : FnOk Try.prog 50 Try.f50 := ⟨Try.func50, by kernel_rfl, by kernel_rfl⟩
instance ok51 : FnOk Try.prog 51 Try.f51 := ⟨Try.func51, by kernel_rfl, by kernel_rfl⟩
instance ok52 : FnOk Try.prog 52 Try.f52 := ⟨Try.func52, by kernel_rfl, by kernel_rfl⟩
instance ok53 : FnOk Try.prog 53 Try.f53 := ⟨Try.func53, by kernel_rfl, by kernel_rfl⟩
instance ok54 : FnOk Try.prog 54 Try.f54 := ⟨Try.func54, by kernel_rfl, by kernel_rfl⟩
instance ok55 : FnOk Try.prog 55 Try.f55 := ⟨Try.func55, by kernel_rfl, by kernel_rfl⟩
instance ok57 : FnOk Try.prog 57 Try.f57 := ⟨Try.func57, by kernel_rfl, by kernel_rfl⟩
instance ok58 : FnOk Try.prog 58 Try.f58 := ⟨Try.func58, by kernel_rfl, by kernel_rfl⟩
instance ok65 : FnOk Try.prog 65 Try.f65 := ⟨Try.func65, by kernel_rfl, by kernel_rfl⟩
instance ok66 : FnOk Try.prog 66 Try.f66 := ⟨Try.func66, by kernel_rfl, by kernel_rfl⟩
instance ok67 : FnOk Try.prog 67 Try.f67 := ⟨Try.func67, by kernel_rfl, by kernel_rfl⟩
instance ok68 : FnOk Try.prog 68 Try.f68 := ⟨Try.func68, by kernel_rfl, by kernel_rfl⟩
instance ok69 : FnOk Try.prog 69 Try.f69 := ⟨Try.func69, by kernel_rfl, by kernel_rfl⟩
instance ok70 : FnOk Try.prog 70 Try.f70 := ⟨Try.func70, by kernel_rfl, by kernel_rfl⟩
instance ok76 : FnOk Try.prog 76 Try.f76 := ⟨Try.func76, by kernel_rfl, by kernel_rfl⟩
instance ok77 : FnOk Try.prog 77 Try.f77 := ⟨Try.func77, by kernel_rfl, by kernel_rfl⟩
instance ok78 : FnOk Try.prog 78 Try.f78 := ⟨Try.func78, by kernel_rfl, by kernel_rfl⟩
instance ok80 : FnOk Try.prog 80 Try.f80 := ⟨Try.func80, by kernel_rfl, by kernel_rfl⟩
instance ok98 : FnOk Try.prog 98 Try.f98 := ⟨Try.func98, by kernel_rfl, by kernel_rfl⟩
instance ok99 : FnOk Try.prog 99 Try.f99 := ⟨Try.func99, by kernel_rfl, by kernel_rfl⟩
instance ok100 : FnOk Try.prog 100 Try.f100 := ⟨Try.func100, by kernel_rfl, by kernel_rfl⟩
end Go.XL
namespace Go.XL
section
variable {P : Program} {n : Nat} {r : Rr} {Q : VEnv → Sto → Prop} {k : List Fr} {E0 E : VEnv} {S S0 S1 : Sto} {Mp : List MpE} {ops l : List Oper} {t : Nat} {dst : Option Tmp} {op : Op} {ty : TypeId} {pos : String} {af : Array Edge}
theorem zgu {x y : Code} {p : Prop} {_ : Decidable (¬ p)} (q1 : ¬ p → DS P n r Q (.code x :: k) E S) (q2 : p → DS P n r Q (.code y :: k) E S) : CG P n r Q x y k E S (.v (.bool (decide (¬ p)))) :=
 ⟨⟨_, rfl⟩, fun h => q1 (by simpa using h), fun h => q2 (by simpa using h)⟩
theorem yhi {p : Prop} {_ : Decidable (¬ p)} (q1 : ¬ p → DS P n r Q (.ops ops (⟨some t, op, ty, pos, af, none⟩ :: l) :: k) E S) (q2 : p → DS P n r Q (.ops ops l :: k) ((t, .v undef) :: E) S) : GG P n r Q true t op ty pos af ops l k E S (.v (.bool (decide (¬ p)))) :=
 ⟨.inl ⟨_, rfl⟩, fun h => q1 (by simpa using h), fun h => q2 (by simpa using h)⟩
theorem yep {p : Prop} {_ : Decidable (¬ p)} (q1 : p → DS P n r Q (.ops ops (⟨some t, op, ty, pos, af, none⟩ :: l) :: k) E S) (q2 : ¬ p → DS P n r Q (.ops ops l :: k) ((t, .v undef) :: E) S) : GG P n r Q false t op ty pos af ops l k E S (.v (.bool (decide (¬ p)))) :=
 ⟨.inl ⟨_, rfl⟩, fun h => q1 (by simpa using h), fun h => q2 (by simpa using h)⟩
def DGG (P : Program) (n : Nat) (r : Rr) (Q : VEnv → Sto → Prop) (b : Bool) (t : Nat) (op : Op) (ty : TypeId) (pos : String) (af : Array Edge) (ops : List Oper) (S0 : Sto) (Mp : List MpE) (l : List Oper) (k : List Fr) (E0 E : VEnv) (S1 : Sto) (v : V) : Prop :=
 ((∃ u, v = .v (.bool u)) ∨ v = .v undef) ∧ (v = .v (.bool b) → DD P n r Q ops S0 Mp (⟨some t, op, ty, pos, af, none⟩ :: l) k E0 E S1) ∧ (v ≠ .v (.bool b) → DD P n r Q ops S0 Mp l k ((t, .v undef) :: E0) ((t, .v undef) :: E) S1)
theorem zvb {j : Nat} {b : Bool} {v : V} (hd : decide (t < n) = true) (e : zet E ops n j = some v) (q : DGG P n r Q b t op ty pos af ops S0 Mp l k E0 E S1 v) :
  DD P n r Q ops S0 Mp (⟨some t, op, ty, pos, af, some (j, b)⟩ :: l) k E0 E S1 := by
 obtain ⟨⟨u, rfl⟩ | rfl, q1, q2⟩ := q
 ·by_cases h : u = b
  ·subst h; exact yhy e rfl (q1 rfl)
  ·refine yhz e (by cases u <;> cases b <;> simp_all) hd (q2 (by simpa using h))
 ·exact yhx e rfl hd (q2 (by simp [undef]))
theorem DGG.run {b : Bool} (q : DD P n r Q ops S0 Mp (⟨some t, op, ty, pos, af, none⟩ :: l) k E0 E S1) : DGG P n r Q b t op ty pos af ops S0 Mp l k E0 E S1 (.v (.bool b)) := ⟨.inl ⟨_, rfl⟩, fun _ => q, fun h => (h rfl).elim⟩
theorem zto (q : DD P n r Q ops S0 Mp l k ((t, .v undef) :: E0) ((t, .v undef) :: E) S1) : DGG P n r Q true t op ty pos af ops S0 Mp l k E0 E S1 (.v (.bool false)) := ⟨.inl ⟨_, rfl⟩, (fun h => by cases h), fun _ => q⟩
theorem yhr (q : DD P n r Q ops S0 Mp l k ((t, .v undef) :: E0) ((t, .v undef) :: E) S1) : DGG P n r Q false t op ty pos af ops S0 Mp l k E0 E S1 (.v (.bool true)) := ⟨.inl ⟨_, rfl⟩, (fun h => by cases h), fun _ => q⟩
theorem yeq {b : Bool} (q : DD P n r Q ops S0 Mp l k ((t, .v undef) :: E0) ((t, .v undef) :: E) S1) : DGG P n r Q b t op ty pos af ops S0 Mp l k E0 E S1 (.v undef) := ⟨.inr rfl, fun h => by simp [undef] at h, fun _ => q⟩
theorem yer {p : Prop} {_ : Decidable p} (q1 : p → DD P n r Q ops S0 Mp (⟨some t, op, ty, pos, af, none⟩ :: l) k E0 E S1) (q2 : ¬ p → DD P n r Q ops S0 Mp l k ((t, .v undef) :: E0) ((t, .v undef) :: E) S1) : DGG P n r Q true t op ty pos af ops S0 Mp l k E0 E S1 (.v (.bool (decide p))) :=
 ⟨.inl ⟨_, rfl⟩, fun h => q1 (by simpa using h), fun h => q2 (by simpa using h)⟩
theorem yhs {p : Prop} {_ : Decidable p} (q1 : ¬ p → DD P n r Q ops S0 Mp (⟨some t, op, ty, pos, af, none⟩ :: l) k E0 E S1) (q2 : p → DD P n r Q ops S0 Mp l k ((t, .v undef) :: E0) ((t, .v undef) :: E) S1) : DGG P n r Q false t op ty pos af ops S0 Mp l k E0 E S1 (.v (.bool (decide p))) :=
 ⟨.inl ⟨_, rfl⟩, fun h => q1 (by simpa using h), fun h => q2 (by simpa using h)⟩
theorem DGG.npT {p : Prop} {_ : Decidable (¬ p)} (q1 : ¬ p → DD P n r Q ops S0 Mp (⟨some t, op, ty, pos, af, none⟩ :: l) k E0 E S1) (q2 : p → DD P n r Q ops S0 Mp l k ((t, .v undef) :: E0) ((t, .v undef) :: E) S1) : DGG P n r Q true t op ty pos af ops S0 Mp l k E0 E S1 (.v (.bool (decide (¬ p)))) :=
 ⟨.inl ⟨_, rfl⟩, fun h => q1 (by simpa using h), fun h => q2 (by simpa using h)⟩
theorem DGG.npF {p : Prop} {_ : Decidable (¬ p)} (q1 : p → DD P n r Q ops S0 Mp (⟨some t, op, ty, pos, af, none⟩ :: l) k E0 E S1) (q2 : ¬ p → DD P n r Q ops S0 Mp l k ((t, .v undef) :: E0) ((t, .v undef) :: E) S1) : DGG P n r Q false t op ty pos af ops S0 Mp l k E0 E S1 (.v (.bool (decide (¬ p)))) :=
 ⟨.inl ⟨_, rfl⟩, fun h => q1 (by simpa using h), fun h => q2 (by simpa using h)⟩
theorem yht {u : Bool} (q1 : u = true → DD P n r Q ops S0 Mp (⟨some t, op, ty, pos, af, none⟩ :: l) k E0 E S1) (q2 : u = false → DD P n r Q ops S0 Mp l k ((t, .v undef) :: E0) ((t, .v undef) :: E) S1) : DGG P n r Q true t op ty pos af ops S0 Mp l k E0 E S1 (.v (.bool (u))) :=
 ⟨.inl ⟨_, rfl⟩, fun h => q1 (by simpa using h), fun h => q2 (by simpa using h)⟩
def zmc (l : List Oper) : List Nat → List Oper
 | [] => []
 | i :: r => match l[i]? with
  | some o => o :: zmc l r
  | none => zmc l r
def ygr (r : List Oper) : Option Oper → List Oper
 | some o => o :: r
 | none => r
theorem zko (l : List Oper) : ∀ ord : List Nat, ord.filterMap (l.toArray[·]?) = zmc l ord
 | [] => rfl
 | i :: r => by
  simp only [List.filterMap_cons, List.getElem?_toArray, zmc]
  rw [← zko l r]
  cases l[i]? <;> simp
theorem zbx (l : List Oper) : zmc l [] = [] := rfl
theorem zbp (l : List Oper) (i : Nat) (r : List Nat) : zmc l (i :: r) = ygr (zmc l r) l[i]? := by
 simp only [zmc]; cases l[i]? <;> rfl
theorem zbo (r : List Oper) (o : Oper) : ygr r (some o) = o :: r := rfl
theorem zcr {id : Nat} {os l1 l2 : List Oper} (ord : List Nat) (m : Nat) (hok : zly os.toArray ord m = true) (hm : P.follows .mixedOrders = true) (h1 : zmc os ord = l1) (h2 : os.drop m = l2)
  (q : DD P n r Q os S [] l1 (.ops os l2 :: k) E E []) : DS P n r Q (.code (.region id os.toArray true) :: k) E S :=
 yeg ord m hok hm (by rw [zko, h1]; simpa [h2] using q)
end
end Go.XL
namespace Go.XL
abbrev I (n : Int) : V := .v (.int .i64 n)
abbrev Bo (b : Bool) : V := .v (.bool b)
def cI (n : Int) : List V := [I n]
abbrev ints (l : List Int) : V := .lst (l.map cI)
def cR (l : List Int) : List V := [ints l]
abbrev rows (l : List (List Int)) : V := .lst (l.map cR)
@[go_sem] theorem cI_eq (n : Int) : cI n = [I n] := rfl
@[go_sem] theorem cR_eq (n : List Int) : cR n = [ints n] := rfl
theorem zgo (n : Int) : (cI n).length = 1 := rfl
theorem zoe (n : List Int) : (cR n).length = 1 := rfl
structure Member where
 id : Int
 hand : Int
 from_ : Int
 to : Int
def Member.cells (m : Member) : List V := [I m.id, I m.hand, I m.from_, I m.to]
@[go_sem] theorem Member.cells_eq (m : Member) : m.cells = [I m.id, I m.hand, I m.from_, I m.to] := rfl
theorem Member.len (m : Member) : m.cells.length = 4 := rfl
abbrev Member.val (m : Member) : V := .agg m.cells
structure Ruling where
 round : Int
 table : Int
 points : List Int
def Ruling.cells (r : Ruling) : List V := [I r.round, I r.table, ints r.points]
@[go_sem] theorem Ruling.cells_eq (r : Ruling) : r.cells = [I r.round, I r.table, ints r.points] := rfl
theorem Ruling.len (m : Ruling) : m.cells.length = 3 := rfl
structure Sitting where
 tables : List (List Int)
 points : List (List Int)
 rulings : List Ruling
def Sitting.cells (s : Sitting) : List V := [rows s.tables, rows s.points, .lst (s.rulings.map Ruling.cells)]
@[go_sem] theorem Sitting.cells_eq (s : Sitting) : s.cells = [rows s.tables, rows s.points, .lst (s.rulings.map Ruling.cells)] := rfl
theorem Sitting.len (m : Sitting) : m.cells.length = 3 := rfl
abbrev Sitting.val (s : Sitting) : V := .agg s.cells
structure Club where
 size : Int
 start : Int
 absent : Int
 window : Int
 places : List Int
 share : Bool
 members : List Member
 rounds : List Sitting
def Club.cells (c : Club) : List V := [I c.size, I c.start, I c.absent, I c.window, ints c.places, Bo c.share, .lst (c.members.map Member.cells), .lst (c.rounds.map Sitting.cells)]
@[go_sem] theorem Club.cells_eq (c : Club) : c.cells = [I c.size, I c.start, I c.absent, I c.window, ints c.places, Bo c.share, .lst (c.members.map Member.cells), .lst (c.rounds.map Sitting.cells)] := rfl
abbrev Club.val (c : Club) : V := .agg c.cells
def Member.plays (m : Member) (round : Int) : Bool := decide (m.from_ ≤ round) && (decide (m.to < 0) || decide (round ≤ m.to))
theorem zdh {α : Type} {l : List α} {i : Nat} (h : i < l.length) : ∃ x r, l.drop i = x :: r ∧ l[i] = x ∧ l.drop (i + 1) = r := ⟨l[i], l.drop (i + 1), List.drop_eq_getElem_cons h, rfl, rfl⟩
theorem zkv {α : Type} {l : List α} {i : Nat} (h : ¬ (i : Int) < (l.length : Int)) : l.drop i = [] := List.drop_eq_nil_of_le (by omega)
def idxF {α : Type} (p : α → Bool) : List α → Nat → Int
 | [], _ => -1
 | x :: r, i => if p x then i else idxF p r (i + 1)
theorem zja {α : Type} {p : α → Bool} {l : List α} {i : Nat} (hi : i < l.length) (h : p l[i] = true) : idxF p (l.drop i) i = i := by
 rw [List.drop_eq_getElem_cons hi, idxF, if_pos h]
theorem zhb {α : Type} {p : α → Bool} {l : List α} {i : Nat} (hi : i < l.length) (h : p l[i] = false) : idxF p (l.drop i) i = idxF p (l.drop (i + 1)) (i + 1) := by
 rw [List.drop_eq_getElem_cons hi, idxF, if_neg (by simp [h])]
theorem zjb {α : Type} {p : α → Bool} {l : List α} {i : Nat} (hi : l.length ≤ i) : idxF p (l.drop i) i = -1 := by
 rw [List.drop_eq_nil_of_le hi, idxF]
end Go.XL
namespace Go.XL
theorem yU {p : Prop} (h : p := by with_unfolding_all rfl) : p := h
theorem yR {p : Prop} (h : p := by rfl) : p := h
theorem yE {p : Prop} (h : p := by (simp (disch := omega) only [go_sem, dopV, Option.map_some, Option.map_none, Option.bind_some, Option.bind_none, ↓reduceIte, Nat.reduceEqDiff, Nat.reduceLT, Nat.reduceLeDiff, Nat.reduceAdd, Nat.reduceMul, Nat.reduceSub, Nat.zero_add, Nat.add_zero, Nat.zero_le, Nat.zero_mul, Nat.mul_one, Nat.one_mul, Int.natCast_zero, Int.toNat_zero, Int.reduceToNat, Int.reduceLT, Int.reduceLE, Int.reduceEq, decide_true, decide_false, true_and, and_true, Bool.and_self, Bool.and_true, Bool.true_and, Bool.not_true, Bool.not_false, IntWalk.toNatUp, IntWalk.iteOmega, IntWalk.i64_in, Option.isSome_some, not_true_eq_false, not_false_eq_true, Option.getD_some, Option.getD_none, Int.toNat_natCast, List.length_map, List.getElem?_map, List.getElem?_eq_getElem, V.flat, V.one, List.all_cons, List.all_nil, *]; exact rfl)) : p := h
theorem yG {p : Prop} (h : p := by (simp (disch := omega) only [go_sem, dopV, Option.map_some, Option.map_none, Option.bind_some, Option.bind_none, ↓reduceIte, Nat.reduceEqDiff, Nat.reduceLT, Nat.reduceLeDiff, Nat.reduceAdd, Nat.reduceMul, Nat.reduceSub, Nat.zero_add, Nat.add_zero, Nat.zero_le, Nat.zero_mul, Nat.mul_one, Nat.one_mul, Int.natCast_zero, Int.toNat_zero, Int.reduceToNat, Int.reduceLT, Int.reduceLE, Int.reduceEq, decide_true, decide_false, true_and, and_true, Bool.and_self, Bool.and_true, Bool.true_and, Bool.not_true, Bool.not_false, IntWalk.toNatUp, IntWalk.iteOmega, IntWalk.i64_in, Option.isSome_some, not_true_eq_false, not_false_eq_true, Option.getD_some, Option.getD_none, Int.toNat_natCast, List.length_map, List.getElem?_map, List.getElem?_eq_getElem, V.flat, V.one, List.all_cons, List.all_nil]; exact rfl)) : p := h
theorem yT {p : Prop} (h : p := by (simp (disch := omega) only [go_sem, dopV, Option.map_some, Option.map_none, Option.bind_some, Option.bind_none, ↓reduceIte, Nat.reduceEqDiff, Nat.reduceLT, Nat.reduceLeDiff, Nat.reduceAdd, Nat.reduceMul, Nat.reduceSub, Nat.zero_add, Nat.add_zero, Nat.zero_le, Nat.zero_mul, Nat.mul_one, Nat.one_mul, Int.natCast_zero, Int.toNat_zero, Int.reduceToNat, Int.reduceLT, Int.reduceLE, Int.reduceEq, decide_true, decide_false, true_and, and_true, Bool.and_self, Bool.and_true, Bool.true_and, Bool.not_true, Bool.not_false, IntWalk.toNatUp, IntWalk.iteOmega, IntWalk.i64_in, Option.isSome_some, not_true_eq_false, not_false_eq_true, Option.getD_some, Option.getD_none, Int.toNat_natCast, List.length_map, List.getElem?_map, List.getElem?_eq_getElem, V.flat, V.one, List.all_cons, List.all_nil, *]; try exact rfl)) : p := h
theorem yH {p : Prop} (h : p := by (simp (disch := omega) only [go_sem, dopV, Option.map_some, Option.map_none, Option.bind_some, Option.bind_none, ↓reduceIte, Nat.reduceEqDiff, Nat.reduceLT, Nat.reduceLeDiff, Nat.reduceAdd, Nat.reduceMul, Nat.reduceSub, Nat.zero_add, Nat.add_zero, Nat.zero_le, Nat.zero_mul, Nat.mul_one, Nat.one_mul, Int.natCast_zero, Int.toNat_zero, Int.reduceToNat, Int.reduceLT, Int.reduceLE, Int.reduceEq, decide_true, decide_false, true_and, and_true, Bool.and_self, Bool.and_true, Bool.true_and, Bool.not_true, Bool.not_false, IntWalk.toNatUp, IntWalk.iteOmega, IntWalk.i64_in, Option.isSome_some, not_true_eq_false, not_false_eq_true, Option.getD_some, Option.getD_none, Int.toNat_natCast, List.length_map, List.getElem?_map, List.getElem?_eq_getElem, V.flat, V.one, List.all_cons, List.all_nil]; try exact rfl)) : p := h
theorem yS {p : Prop} (h : p := by simp (disch := omega) only [go_sem, dopV, Option.map_some, Option.map_none, Option.bind_some, Option.bind_none, ↓reduceIte, Nat.reduceEqDiff, Nat.reduceLT, Nat.reduceLeDiff, Nat.reduceAdd, Nat.reduceMul, Nat.reduceSub, Nat.zero_add, Nat.add_zero, Nat.zero_le, Nat.zero_mul, Nat.mul_one, Nat.one_mul, Int.natCast_zero, Int.toNat_zero, Int.reduceToNat, Int.reduceLT, Int.reduceLE, Int.reduceEq, decide_true, decide_false, true_and, and_true, Bool.and_self, Bool.and_true, Bool.true_and, Bool.not_true, Bool.not_false, IntWalk.toNatUp, IntWalk.iteOmega, IntWalk.i64_in, Option.isSome_some, not_true_eq_false, not_false_eq_true, Option.getD_some, Option.getD_none, Int.toNat_natCast, List.length_map, List.getElem?_map, List.getElem?_eq_getElem, V.flat, V.one, List.all_cons, List.all_nil, zmu, zpx, zyl, ybq, and_self, Int.natCast_add, Int.natCast_one, Int.natCast_zero, List.map_append, ints, rows, *]) : p := h
theorem yN {p : Prop} (h : p := by (simp only [go_sem, Nat.reduceEqDiff, ↓reduceIte]; exact rfl)) : p := h
theorem yO {p : Prop} (h : p := by first | exact .inl rfl | exact .inr rfl) : p := h
end Go.XL
namespace Go.XL
def zel (most : Int) : List Int → Int → Int
 | [], want => if want = 0 then 0 else 12
 | n :: l, want => if ((-most) ≤ n ∧ n ≤ most) then zel most l (want - n) else 2
def zhy (size : Int) (l : List Int) (most want : Int) : Int := if (l.length : Int) = size then zel most l want else 3
def zht (c : Club) (l : List Int) : Int := zhy c.size l 1099511627776 (c.size * c.start)
def zdo : List Member → Int → Int
 | [], _ => 0
 | m :: l, last => if m.id ≤ last then 11 else
   if ¬ ((-10000) ≤ m.hand ∧ m.hand ≤ 10000) then 2 else if ¬ (0 ≤ m.from_ ∧ m.from_ ≤ 20) then 2 else if m.to = -1 then zdo l m.id else if (m.from_ ≤ m.to ∧ m.to ≤ 20) then zdo l m.id else 2
def zdz (l : List Member) : Int := if l.length > 40 then 8 else zdo l 0
def znm (c : Club) (id : Int) : Int := idxF (fun m => decide (m.id = id)) c.members 0
def Club.mem (c : Club) (i : Int) : Member := c.members.getD i.toNat ⟨0, 0, 0, 0⟩
def zmb : Option Int → Int → Bool
 | none, _ => false
 | some p, id => decide (id ≤ p)
def zeb (c : Club) (round : Int) : List Int → Option Int → Int
 | [], _ => 0
 | id :: l, pre => if znm c id < 0 then 7 else if (c.mem (znm c id)).plays round = false then 10 else
   if zmb pre id = true then 11 else zeb c round l (some id)
def zdc (c : Club) (round : Int) : List (List Int) → List Int → Int → Int
 | [], _, _ => 0
 | t :: l, seated, first => if (t.length : Int) ≠ c.size then 3 else
   if zeb c round t none ≠ 0 then zeb c round t none else
   if t.any (fun id => decide (id ∈ seated)) = true then 12 else
   if t.headD 0 ≤ first then 11 else zdc c round l (seated ++ t) (t.headD 0)
def yiu : Sitting := ⟨[], [], []⟩
def Club.round (c : Club) (i : Int) : Sitting := c.rounds.getD i.toNat yiu
def zem (c : Club) (round : Int) : Int := zdc c round (c.round round).tables [] 0
def zfx (c : Club) (round table : Int) : Bool :=
 decide ((0 ≤ round ∧ round ≤ (c.rounds.length : Int) - 1) ∧ (0 ≤ table ∧ table ≤ ((c.round round).points.length : Int) - 1) ∧ 0 < ((c.round round).points.getD table.toNat []).length)
def zdx (c : Club) : List (List Int) → Int
 | [] => 0
 | l :: r => if l.length = 0 then zdx c r else if zht c l ≠ 0 then zht c l else zdx c r
def zdt (c : Club) (round : Int) : List Ruling → Int
 | [] => 0
 | x :: r => if ¬ ((max 0 (round - c.window)) ≤ x.round ∧ x.round ≤ round) then 2 else if zfx c x.round x.table = false then 7 else if zht c x.points ≠ 0 then zht c x.points else zdt c round r
def zif (c : Club) (round : Int) : Int := if (c.round round).points.length ≠ (c.round round).tables.length then 3 else zdx c (c.round round).points
def zit (c : Club) (round : Int) : Int := if (c.round round).rulings.length > 20 then 8 else zdt c round (c.round round).rulings
def zid (c : Club) (round : Int) : Int := if zif c round ≠ 0 then zif c round else zit c round
def zdj (c : Club) : Nat → Nat → Int
 | _, 0 => 0
 | i, n + 1 => if zem c i ≠ 0 then zem c i else if zid c i ≠ 0 then zid c i else zdj c (i + 1) n
def zfv (c : Club) : Int :=
 if ¬ (3 ≤ c.size ∧ c.size ≤ 4) then 2 else if ¬ (0 ≤ c.start ∧ c.start ≤ 1000000) then 2 else if ¬ ((-1000000) ≤ c.absent ∧ c.absent ≤ 1000000) then 2 else if ¬ (0 ≤ c.window ∧ c.window ≤ 20) then 2 else
 zhy c.size c.places 1000000 0
def zcm (c : Club) : Int :=
 if zfv c ≠ 0 then zfv c else if zdz c.members ≠ 0 then zdz c.members else if c.rounds.length > 20 then 8 else zdj c 0 c.rounds.length
def zdy (c : Club) (round : Int) : List Int := (c.members.filter (fun m => m.plays round)).map Member.id
def yby (c : Club) (round : Int) : List Int := if round < 0 then [] else if zcm c ≠ 0 then [] else zdy c round
structure Sitting.Small (s : Sitting) : Prop where
 tables : s.tables.length ≤ 1000000
 points : s.points.length ≤ 1000000
 rulings : s.rulings.length ≤ 1000000
 table : ∀ t ∈ s.tables, t.length ≤ 1000000
 point : ∀ t ∈ s.points, t.length ≤ 1000000
 ruling : ∀ x ∈ s.rulings, x.points.length ≤ 1000000
structure Club.Small (c : Club) : Prop where
 places : c.places.length ≤ 1000000
 members : c.members.length ≤ 1000000
 rounds : c.rounds.length ≤ 1000000
 round : ∀ s ∈ c.rounds, s.Small
theorem Club.round_at (c : Club) {i : Nat} (h : i < c.rounds.length) : c.round (i : Int) = c.rounds[i] := by
 simp [Club.round, List.getD_eq_getElem?_getD, List.getElem?_eq_getElem h]
theorem Club.Small.at {c : Club} (s : c.Small) {i : Nat} (h : i < c.rounds.length) : c.rounds[i].Small := s.round _ (List.getElem_mem h)
theorem zuj {α : Type} (p : α → Bool) : ∀ (l : List α) (i : Nat), idxF p l i = -1 ∨ ∃ j x, l[j]? = some x ∧ p x = true ∧ idxF p l i = (i + j : Nat)
 | [], i => .inl rfl
 | x :: r, i => by
  simp only [idxF]
  by_cases h : p x = true
  ·rw [if_pos h]; exact .inr ⟨0, x, rfl, h, by simp⟩
  ·rw [if_neg h]
   rcases zuj p r (i + 1) with e | ⟨j, y, e1, e2, e3⟩
   ·exact .inl e
   ·exact .inr ⟨j + 1, y, by simpa using e1, e2, by rw [e3]; congr 1; omega⟩
theorem zqr {c : Club} {id : Int} (h : ¬ znm c id < 0) : ∃ (i : Nat) (hi : i < c.members.length), znm c id = i ∧ c.members[i].id = id ∧ c.mem (znm c id) = c.members[i] := by
 rcases zuj (fun m : Member => decide (m.id = id)) c.members 0 with e | ⟨j, x, e1, e2, e3⟩
 ·exact absurd (show znm c id < 0 by rw [znm, e]; decide) h
 ·obtain ⟨hj, rfl⟩ := List.getElem?_eq_some_iff.1 e1
  have e4 : znm c id = j := by rw [znm, e3]; simp
  exact ⟨j, hj, e4, by simpa using e2, by rw [e4]; simp [Club.mem, List.getD_eq_getElem?_getD, List.getElem?_eq_getElem hj]⟩
structure Club.Fine (c : Club) : Prop where
 pos : ∀ m ∈ c.members, 0 < m.id
 to : ∀ m ∈ c.members, m.to = -1 ∨ 0 ≤ m.to
theorem zej : ∀ {l : List Member} {last : Int}, 0 ≤ last → zdo l last = 0 → (∀ m ∈ l, last < m.id) ∧ ∀ m ∈ l, m.to = -1 ∨ 0 ≤ m.to
 | [], _, _, _ => ⟨fun _ h => (List.not_mem_nil h).elim, fun _ h => (List.not_mem_nil h).elim⟩
 | m :: l, last, h0, h => by
  simp only [zdo] at h
  split at h
  ·cases h
  rename_i h1
  split at h
  ·cases h
  split at h
  ·cases h
  rename_i h3
  replace h3 := Decidable.not_not.1 h3
  split at h
  ·rename_i h4
   have ih := zej (l := l) (last := m.id) (by omega) h
   refine ⟨fun x hx => ?_, fun x hx => ?_⟩
   ·rcases List.mem_cons.1 hx with rfl | hx
    ·omega
    ·have := ih.1 x hx; omega
   ·rcases List.mem_cons.1 hx with rfl | hx
    ·exact .inl h4
    ·exact ih.2 x hx
  ·split at h
   ·rename_i h4 h5
    have ih := zej (l := l) (last := m.id) (by omega) h
    refine ⟨fun x hx => ?_, fun x hx => ?_⟩
    ·rcases List.mem_cons.1 hx with rfl | hx
     ·omega
     ·have := ih.1 x hx; omega
    ·rcases List.mem_cons.1 hx with rfl | hx
     ·exact .inr (by omega)
     ·exact ih.2 x hx
   ·cases h
theorem yfm {c : Club} (h : zdz c.members = 0) : c.Fine := by
 unfold zdz at h
 split at h
 ·cases h
 ·have := zej (Int.le_refl 0) h
  exact ⟨this.1, this.2⟩
end Go.XL
namespace Go.XL
def w64 (n : Int) : Int := IntKind.i64.wrap n
def metT (a b : Int) : List (List Int) → Nat
 | [] => 0
 | t :: r => (if a ≠ b ∧ a ∈ t ∧ b ∈ t then 1 else 0) + metT a b r
def zqi (a b : Int) : List Sitting → Nat
 | [] => 0
 | s :: r => metT a b s.tables + zqi a b r
def metS (c : Club) (a b : Int) : Nat := zqi a b c.rounds
def metX (c : Club) (a b : Int) : Int := if zcm c ≠ 0 then 0 else metS c a b
def zdi (met : Int → Int → Bool) (t : List Int) (id : Int) : Bool := t.all fun a => !met a id
def zgc (st : List Int → Int → Bool) (f : List Int → List Int → List (List Int)) (t : List Int) : List Int → List (List Int)
 | [] => []
 | id :: r => (if st t id = true then f (t ++ [id]) r else []) ++ zgc st f t r
def zjm (st : List Int → Int → Bool) : Nat → List Int → List Int → List (List Int)
 | 0, t, _ => [t]
 | n + 1, t, ids => zgc st (zjm st n) t ids
def zkp (met : Int → Int → Bool) (t : List Int) : Int → Int → Bool := fun a b => if a ∈ t ∧ b ∈ t ∧ a ≠ b then true else met a b
def tryL (budget : Int) (round : Nat) (rec : List Int → Int → Int × Int × List (Nat × List Int)) : List (List Int) → Int → Int × Int × List (Nat × List Int)
 | [], steps => (2, steps, [])
 | t :: r, steps => if steps = budget then (3, steps, []) else
   if (rec t (w64 (steps + 1))).1 = 2 then tryL budget round rec r (rec t (w64 (steps + 1))).2.1
   else ((rec t (w64 (steps + 1))).1, (rec t (w64 (steps + 1))).2.1, (round, t) :: (rec t (w64 (steps + 1))).2.2)
def srch (size : Nat) (budget : Int) (rounds : List (List Int)) : Nat → (Int → Int → Bool) → Nat → List Int → Int → Int × Int × List (Nat × List Int)
 | 0, _, _, _, steps => (2, steps, [])
 | n + 1, met, round, [], steps => if round + 1 = rounds.length then (1, steps, []) else srch size budget rounds n met (round + 1) (rounds.getD (round + 1) []) steps
 | n + 1, met, round, f :: fr, steps => tryL budget round (fun t s => srch size budget rounds n (zkp met t) round ((f :: fr).filter fun id => !decide (id ∈ t)) s) (zjm (zdi met) (size - 1) [f] fr) steps
def zlh (rounds : List (List Int)) : Nat := 1 + rounds.length + (rounds.map List.length).sum
def met0 (c : Club) : Int → Int → Bool := fun a b => decide (0 < metS c a b)
def runS (c : Club) (rounds : List (List Int)) (budget : Int) : Int × Int × List (Nat × List Int) := srch c.size.toNat budget rounds (zlh rounds) (met0 c) 0 (rounds.headD []) 0
def zoq (c : Club) (ids : List Int) : List (List Int) × Int :=
 if zcm c ≠ 0 then ([], zcm c) else if ids.length = 0 then ([], 6) else if ids.length > 12 then ([], 8) else
 if zeb c c.rounds.length ids none ≠ 0 then ([], zeb c c.rounds.length ids none) else
 if 0 < (ids.length : Int).tmod c.size then ([], 3) else
 if (runS c [ids] (-1)).1 ≠ 1 then ([], 12) else ((runS c [ids] (-1)).2.2.map Prod.snd, 0)
def zfo (l : List Int) (p : Int) : Nat := (l.filter fun x => decide (p < x)).length
def zco (l : List Int) (p : Int) : Nat := (l.filter fun x => decide (x = p)).length
end Go.XL
namespace Go.XL
abbrev W : Type := Int → Int → Int
def addP (n : Int) (w : W) (a b : Int) : W := fun x y => if x = a ∧ y = b then w64 (w a b + n) else w x y
def addR (n : Int) (b : Int) : List Int → W → W
 | [], w => w
 | a :: r, w => addR n b r (addP n w a b)
def addT (n : Int) : List Int → List Int → W → W
 | _, [], w => w
 | pre, b :: r, w => addT n (pre ++ [b]) r (addR n b pre w)
def zov : List (List Int) → W → W
 | [], w => w
 | t :: r, w => zov r (addT 1 [] t w)
def addS : List Sitting → W → W
 | [], w => w
 | s :: r, w => addS r (zov s.tables w)
def zor (c : Club) : W := addS c.rounds fun _ _ => 0
end Go.XL
namespace Go.XL
theorem zrl {n : Int} (h : -9223372036854775808 ≤ n ∧ n ≤ 9223372036854775807) : w64 n = n := by
 have h1 : (2 : Int) ^ 64 = 18446744073709551616 := by decide
 have h2 : (2 : Int) ^ 63 = 9223372036854775808 := by decide
 simp only [w64, IntKind.wrap, IntKind.bits, IntKind.signed, Bool.true_and, decide_eq_true_eq, Nat.reduceSub, h1, h2]
 split <;> omega
theorem yat (n b : Int) : ∀ (pre : List Int) (w : W) (x y : Int), pre.Nodup → addR n b pre w x y = if x ∈ pre ∧ y = b then w64 (w x y + n) else w x y
 | [], w, x, y, _ => by simp [addR]
 | a :: r, w, x, y, h => by
  obtain ⟨h1, h2⟩ := List.nodup_cons.1 h
  rw [addR, yat n b r _ x y h2]
  by_cases hx : x = a
  ·subst hx
   rw [if_neg (fun h => h1 h.1), addP]
   by_cases hy : y = b
   ·subst hy; rw [if_pos ⟨rfl, rfl⟩, if_pos ⟨List.mem_cons_self .., rfl⟩]
   ·rw [if_neg (fun h => hy h.2), if_neg (fun h => hy h.2)]
  ·have e : addP n w a b x y = w x y := by rw [addP, if_neg (fun h => hx h.1)]
   rw [e]
   by_cases h3 : x ∈ r ∧ y = b
   ·rw [if_pos h3, if_pos ⟨List.mem_cons_of_mem _ h3.1, h3.2⟩]
   ·rw [if_neg h3, if_neg (fun h => h3 ⟨(List.mem_cons.1 h.1).resolve_left hx, h.2⟩)]
theorem zoi (n : Int) : ∀ (rest pre : List Int) (w : W) (x y : Int), (pre ++ rest).Pairwise (· < ·) → addT n pre rest w x y = if x ∈ pre ++ rest ∧ y ∈ rest ∧ x < y then w64 (w x y + n) else w x y
 | [], pre, w, x, y, _ => by simp [addT]
 | b :: r, pre, w, x, y, h => by
  have h' : ((pre ++ [b]) ++ r).Pairwise (· < ·) := by simpa using h
  have hp := (List.pairwise_append.1 h)
  have hnd : pre.Nodup := List.Pairwise.imp (fun h => by omega) hp.1
  have hlt : ∀ z ∈ pre, z < b := fun z hz => hp.2.2 z hz b (List.mem_cons_self ..)
  have hr := (List.pairwise_cons.1 hp.2.1).1
  rw [addT, zoi n r (pre ++ [b]) _ x y h', yat n b pre w x y hnd]
  have hm : x ∈ (pre ++ [b]) ++ r ↔ x ∈ pre ++ b :: r := by simp
  by_cases hy : y = b
  ·subst hy
   have hyr : ¬ y ∈ r := fun h => by have := hr y h; omega
   rw [if_neg (fun h => hyr h.2.1)]
   by_cases hx : x ∈ pre
   ·rw [if_pos ⟨hx, rfl⟩, if_pos ⟨List.mem_append_left _ hx, List.mem_cons_self .., hlt x hx⟩]
   ·rw [if_neg (fun h => hx h.1), if_neg]
    rintro ⟨h1, -, h3⟩
    rcases List.mem_append.1 h1 with h1 | h1
    ·exact hx h1
    ·rcases List.mem_cons.1 h1 with h1 | h1
     ·omega
     ·have := hr x h1; omega
  ·have e : (if x ∈ pre ∧ y = b then w64 (w x y + n) else w x y) = w x y := if_neg (fun h => hy h.2)
   rw [e]
   by_cases h1 : x ∈ pre ++ b :: r ∧ y ∈ b :: r ∧ x < y
   ·rw [if_pos h1, if_pos ⟨hm.2 h1.1, (List.mem_cons.1 h1.2.1).resolve_left hy, h1.2.2⟩]
   ·rw [if_neg h1, if_neg (fun h => h1 ⟨hm.1 h.1, List.mem_cons_of_mem _ h.2.1, h.2.2⟩)]
def ygh (T : List (List Int)) : Prop := ∀ t ∈ T, t.Pairwise (· < ·)
theorem zqh (a b : Int) : ∀ T, metT a b T ≤ T.length
 | [] => Nat.le_refl _
 | t :: r => by
  have := zqh a b r
  simp only [metT, List.length_cons]
  split <;> omega
theorem zwo : ∀ (T : List (List Int)) (w : W) (x y : Int), ygh T → (0 ≤ w x y ∧ w x y + T.length ≤ 9223372036854775807) → zov T w x y = if x < y then w x y + metT x y T else w x y
 | [], w, x, y, _, _ => by simp [zov, metT]
 | t :: r, w, x, y, h, hb => by
  have ht := zoi 1 t [] w x y (by simpa using h t (List.mem_cons_self ..))
  simp only [List.nil_append] at ht
  simp only [List.length_cons] at hb
  have hw : addT 1 [] t w x y = if x < y then w x y + (if x ≠ y ∧ x ∈ t ∧ y ∈ t then 1 else 0 : Nat) else w x y := by
   rw [ht]
   by_cases hxy : x < y
   ·rw [if_pos hxy]
    by_cases hm : x ∈ t ∧ y ∈ t
    ·rw [if_pos ⟨hm.1, hm.2, hxy⟩, if_pos ⟨by omega, hm⟩, zrl (by omega)]; rfl
    ·rw [if_neg (fun h => hm ⟨h.1, h.2.1⟩), if_neg (fun h => hm h.2)]; simp
   ·rw [if_neg hxy, if_neg (fun h => hxy h.2.2)]
  have hbd : 0 ≤ addT 1 [] t w x y ∧ addT 1 [] t w x y + r.length ≤ 9223372036854775807 := by
   rw [hw]; split
   ·split <;> omega
   ·omega
  rw [zov, zwo r _ x y (fun s hs => h s (List.mem_cons_of_mem _ hs)) hbd, hw]
  by_cases hxy : x < y
  ·simp only [if_pos hxy, metT]; split <;> omega
  ·simp only [if_neg hxy]
theorem yas : ∀ (R : List Sitting) (w : W) (x y : Int), (∀ s ∈ R, ygh s.tables) → (0 ≤ w x y ∧ w x y + (R.map fun s => s.tables.length).sum ≤ 9223372036854775807) → addS R w x y = if x < y then w x y + zqi x y R else w x y
 | [], w, x, y, _, _ => by simp [addS, zqi]
 | s :: r, w, x, y, h, hb => by
  simp only [List.map_cons, List.sum_cons] at hb
  have h1 := zwo s.tables w x y (h s (List.mem_cons_self ..)) ⟨hb.1, by omega⟩
  have h2 := zqh x y s.tables
  have hbd : 0 ≤ zov s.tables w x y ∧ zov s.tables w x y + (r.map fun s => s.tables.length).sum ≤ 9223372036854775807 := by
   rw [h1]; split <;> omega
  rw [addS, yas r _ x y (fun s hs => h s (List.mem_cons_of_mem _ hs)) hbd, h1]
  by_cases hxy : x < y
  ·simp only [if_pos hxy, zqi]; omega
  ·simp only [if_neg hxy]
end Go.XL
namespace Go.XL
theorem ybj {m : Int} (h : 0 ≤ m ∧ m < 18446744073709551616) : IntKind.u64.wrap m = m := by
 have h1 : (2 : Int) ^ 64 = 18446744073709551616 := by decide
 simp only [IntKind.wrap, IntKind.bits, IntKind.signed, Bool.false_and, Bool.false_eq_true, if_false, h1]
 omega
end Go.XL
namespace Go.XL
def RC (P : Program) (f : FuncId) (args : List V) (S : Sto) (v : V) : Prop := DC P f args S fun u S' => u = v ∧ S' = S
section
variable {P : Program} {n : Nat} {r : Rr} {Q : VEnv → Sto → Prop} {k : List Fr} {E0 E : VEnv} {S S0 S1 : Sto} {Mp : List MpE} {ops l : List Oper} {t : Nat} {dst : Option Tmp} {op : Op} {ty : TypeId} {pos : String} {af : Array Edge} {ts : Array TypeId}
theorem zjs {g : FuncId} {args : List V} {xs : Array Operand} {fn : Func} {v : V} (hf : FnOk P g fn) (hc : RC P g args S v) (hd : decide (t < n) = true) (he : (evsV (evV E) xs.toList).map (·.map V.peek) = some args)
  (q : DS P n r Q (.ops ops l :: k) ((t, v) :: E) S) : DS P n r Q (.ops ops (⟨some t, .call { callee := .value (.func g), args := xs, argTypes := ts }, ty, pos, af, none⟩ :: l) :: k) E S := by
 refine DS.call (dst := some t) S [] hf hc hd he (fun _ _ e => e) (fun _ _ e => by cases e) ?_
 rintro u S' ⟨rfl, rfl⟩ -
 simpa [putV] using q
theorem zek {g : FuncId} {args : List V} {xs : Array Operand} {fn : Func} {R : V → Sto → Prop} (hf : FnOk P g fn) (hc : DC P g args S R) (hd : decide (t < n) = true) (he : (evsV (evV E) xs.toList).map (·.map V.peek) = some args)
  (q : ∀ u S', R u S' → DS P n r Q (.ops ops l :: k) ((t, u) :: E) S') : DS P n r Q (.ops ops (⟨some t, .call { callee := .value (.func g), args := xs, argTypes := ts }, ty, pos, af, none⟩ :: l) :: k) E S := by
 refine DS.call (dst := some t) S [] hf hc hd he (fun _ _ e => e) (fun _ _ e => by cases e) ?_
 intro u S' h _
 simpa [putV] using q u S' h
theorem zcl {rs : List ResultVar} {R : V → Sto → Prop} {vs : List V} (h1 : resV P E S rs = some vs) (h3 : R (tupV vs) S) (hk : popR k = none := by rfl) : DS P n r (FinV P rs R) (.code .ret :: k) E S :=
 DS.ret hk ⟨vs, S, h1, fun _ _ e => e, h3⟩
theorem zoj {rs : List ResultVar} {R : V → Sto → Prop} {vs : List V} (h1 : resV P E S rs = some vs) (h3 : R (tupV vs) S) : DS P n r (FinV P rs R) [] E S :=
 DS.nil ⟨vs, S, h1, fun _ _ e => e, h3⟩
theorem zew {S' : Sto} (h : ∀ b o, zac S' b = some o → zac S b = some o) (q : DS P n r Q k E S') : DS P n r Q k E S := zev (fun _ _ e => e) h q
theorem zda {α : Type} {c : Code} (ts : List Nat) {F : VEnv} (hF : selV E ts = F) (Ex : α → VEnv) (Sx : α → Sto) (I : α → Prop) (μ : α → Nat) (x0 : α) (hE : subV (Ex x0) E) (hS : ∀ b o, zac (Sx x0) b = some o → zac S b = some o) (hI : I x0)
  (body : ∀ (x : α) (B : VEnv → Sto → Prop), I x → (∀ x' E' S', μ x' < μ x → I x' → subV (Ex x') E' → subV F E' → (∀ b o, zac (Sx x') b = some o → zac S' b = some o) → B E' S') → DS P n r Q (.code c :: .back B :: k) (Ex x ++ F) (Sx x)) : DS P n r Q (.code (.loop c) :: k) E S := by
 subst hF
 refine DS.loop (fun m E' S' => ∃ x, μ x = m ∧ I x ∧ subV (Ex x ++ selV E ts) E' ∧ ∀ b o, zac (Sx x) b = some o → zac S' b = some o) (μ x0) ⟨x0, rfl, hI, zki hE (zmg E ts), hS⟩ ?_
 rintro m E' S' ⟨x, rfl, h1, h2, h3⟩
 exact zev (zgv h2) h3 (body x _ h1 fun x' E2 S2 a b c d e => ⟨_, a, x', rfl, b, zki c d, e⟩)
theorem ybh {o : Oper} {T : V → VEnv → Sto → Prop} (hg : o.guard = none) (hc : zct o = true) (hb : zgs o.op = false) (hd : dok n o.dst = true) (ho : OpS r.v0 P n o E S1 T) (q : ∀ v E' S', T v E' S' → (∀ b o, zac S0 b = some o → zac S' b = none) → DS P n r Q k (putV E' o.dst v) (S' ++ S0)) :
  DD P n r Q ops S0 [] [o] k E0 E S1 := fun K0 K D W hv0 hs a SPs hbx hfl hE hp hS0 hz hl hR => by
 show SW P ops.toArray _ W _ [o] SPs a
 unfold SW Front
 rw [if_pos (by simp [Region.wanted, hg]), if_pos hc]
 refine ⟨fun _ y => y, fun _ y => fun F h1 => ∃ v E' S', T v E' S' ∧ RunS P [] D n K hv0 hs S0 (putV E' o.dst v) S' (a.put o.dst y) F h1, ?_, fun _ y ⟨w', hw', hT⟩ => ?_⟩
 ·unfold Spec
  rw [if_neg (by simp [hb])]
  have G := fun v E' S' y => RunS.good P [] D n K hv0 hs S0 (putV E' o.dst v) S' (a.put o.dst y)
  refine ⟨rfl, _, rfl, fun y => ⟨fun F h ⟨v, E', S', _, h2⟩ => (G v E' S' y).ext F h h2, fun F h ob ⟨v, E', S', h1, h2⟩ => ⟨v, E', S', h1, (G v E' S' y).push F h ob h2⟩, fun F F' h hF ⟨v, E', S', h1, h2⟩ => ⟨v, E', S', h1, (G v E' S' y).less F F' h hF h2⟩⟩, fun w F hF hw => ?_⟩
  obtain ⟨p1, p2, hv', hold, env', ha', s, p, f, g⟩ := hR F w.heap hF
  obtain ⟨K', hc', s', hprot, hK1, hK2, back⟩ := s.frame fun b o e => (g b o e).2.1
  refine (ho K' D hv' hc' env' a w (hfl.trans p) ha' s').mono fun y w' ⟨hsame, u, E2, S2, hv2, hold2, q1, q2, e1⟩ => ?_
  obtain ⟨hold3, t1, t2⟩ := back q1 q2
  have stay : ∀ b, K'.B b → w'.heap[b]? = w.heap[b]? ∧ hv2 b = hv' b := fun b hb => ⟨by rw [q2.base.2.2 b hb, hK1], by rw [q2.vbase.2 b hb, hK2]⟩
  have hFp : ∀ b, F b → K'.B b := fun b hb => hprot b (p1 b hb).2 (f b hb).1 (by
   have := (f b hb).2; rw [zba] at this
   cases e : zac S1 b with
   | none => rfl
   | some o => rw [e] at this; cases this)
  have hSp : ∀ b o, zac S0 b = some o → K'.B b := fun b o e => hprot b (Nat.lt_of_lt_of_le (g b o e).2.2 p2.1) (s.obj b o (by rw [zba, (g b o e).2.1]; exact e)).2.1 (g b o e).2.1
  have hsz : w.heap.size ≤ w'.heap.size := by have := q2.base.2.1; rwa [hK1] at this
  refine ⟨hsame, ⟨u, E2, S2, e1, fun b hb => ⟨(p1 b hb).1, Nat.lt_of_lt_of_le (p1 b hb).2 hsz⟩, ⟨Nat.le_trans p2.1 hsz, MpOk.nil⟩, hv2, hold3, _, ha'.put' hd y, t1, p.trans q1, fun b hb => ?_, fun b o e => ?_⟩, fun b o hb eb _ => ?_⟩
  ·refine ⟨by rw [(stay b (hFp b hb)).2]; exact (f b hb).1, ?_⟩
   have hb2 := (f b hb).2
   rw [zba] at hb2 ⊢
   cases e : zac S2 b with
   | some o => exact absurd (hFp b hb) (q2.obj b o e).1
   | none =>
    cases e1 : zac S1 b with
    | some o => rw [e1] at hb2; cases hb2
    | none => rw [e1] at hb2; exact hb2
  ·obtain ⟨g1, g2, g3⟩ := g b o e
   exact ⟨(stay b (hSp b o e)).1.trans g1, t2 b o e, g3⟩
  ·rw [(stay b (hFp b hb)).1]; exact eb
 ·intro w2 ⟨v, E', S', h1, h2⟩ hw2
  obtain ⟨_, _, hv, hold, env, ha, s, _, _, hg⟩ := h2
  exact q v E' S' h1 (fun b o e => (hg b o e).2.1) K0 W _ w2 ⟨K, D, hv, hold, env, hbx, ha, s⟩ hw2
theorem ybi {T len : Nat} {ps : Array (Nat × Operand)} {qs : List (Nat × V)} {e sz : Nat} {c : List V} (hd : decide (t < n) = true) (hp : zga (evV E) ps.toList = some qs) (hb : bslV P T len qs = some (e, sz, c))
  (q : DD P n r Q ops S0 Mp l k (delV t E0) ((t, .own false e sz (chunk sz len c)) :: E) S1) : DD P n r Q ops S0 Mp (⟨some t, .buildSlice T len ps, ty, pos, af, none⟩ :: l) k E0 E S1 := yib hd hp hb q
end
end Go.XL
namespace Go.XL
section
variable {P : Program} {n : Nat} {r : Rr} {Q : VEnv → Sto → Prop} {k : List Fr} {E0 E : VEnv} {S S0 S1 : Sto} {Mp : List MpE} {ops l : List Oper} {t : Nat} {dst : Option Tmp} {op : Op} {ty : TypeId} {pos : String} {af : Array Edge} {ts : Array TypeId}
theorem yjh {T : TypeId} {x y : Operand} {kl kc : IntKind} {i c : Int} {e sz by_ : Nat} {z : Value} (hd : decide (t < n) = true) (hx : evV E x = some (.v (.int kl i))) (hy : evV E y = some (.v (.int kc c))) (ht : tel P T = some (e, sz, by_)) (hz : zdb P e = some z) (ho : zgh z.cells.toList = true) (hzs : z.cells.size = sz)
  (hb : 0 ≤ i ∧ i ≤ c ∧ by_ ≤ 65536 ∧ c ≤ 2147483648)
  (q : ∀ u, zac S1 u = none → zac S0 u = none → DD P n r Q ops S0 Mp l k ((t, .v (.slice (some ⟨u, 0, none⟩) i.toNat c.toNat)) :: E0) ((t, .v (.slice (some ⟨u, 0, none⟩) i.toNat c.toNat)) :: E) ((u, .cells (zdu z c.toNat) e) :: S1)) :
  DD P n r Q ops S0 Mp (⟨some t, .makeSlice T x y, ty, pos, af, none⟩ :: l) k E0 E S1 := by
 refine zrg (o := ⟨some t, .makeSlice T x y, ty, pos, af, none⟩) (vb := fun u => .slice (some ⟨u, 0, none⟩) i.toNat c.toNat) rfl rfl rfl hd (fun hv D env a ha rl => ?_) (zhf z c.toNat) q
 obtain ⟨u1, h1, h1'⟩ := rl _ _ hx
 obtain ⟨u2, h2, h2'⟩ := rl _ _ hy
 simp only [V.Rl] at h1' h2'; subst h1'; subst h2'
 have hc : (by_ : Int) * c ≤ 281474976710656 ∧ c ≤ 9223372036854775807 := by
  refine ⟨?_, by omega⟩
  have q1 : (by_ : Int) * c ≤ 65536 * 2147483648 := Int.mul_le_mul (by omega) hb.2.2.2 (by omega) (by omega)
  omega
 have hcells : madeCells z.cells (c.toNat * sz) = ((List.replicate c.toNat z.cells.toList).flatten).toArray := by
  have := zhe z.cells c.toNat
  rw [hzs] at this
  unfold madeCells
  rw [← this]
  simp only [Array.toArray_toList]
  rw [hzs]
 refine ⟨(List.replicate c.toNat z.cells.toList).flatten, zkd z c.toNat, zio ho c.toNat, fun w => ?_⟩
 refine zku (P := P) (y := fun u => .slice (some ⟨u, 0, none⟩) i.toNat c.toNat) ha (fun i => by simp [undef]) (fun h1' => ?_) w
 simp only [hop, h1, h2, ht, hz]; rw [if_pos ⟨hb.1, hb.2.1, hc⟩, hcells]
theorem RlL.setL {hv : VH} {cl : List V} {cs : List Value} (h : RlL hv cl cs) {off : Nat} {v : V} {y : Value} (hy : cs[off]? = some y) (hv' : v.Rl hv y) : RlL hv (cl.set off v) cs := by
 have e : cs.set off y = cs := by
  apply List.ext_getElem?
  intro i
  rw [List.getElem?_set]
  by_cases hi : off = i
  ·subst hi
   have := (List.getElem?_eq_some_iff.1 hy).1
   rw [if_pos rfl, if_pos this, hy]
  ·rw [if_neg hi]
 have := h.set off hv'
 rwa [e] at this
end
end Go.XL
namespace Go.XL
open Go.Proofs
set_option maxRecDepth 100000
set_option maxHeartbeats 4000000
section
variable {P : Program} {n : Nat} {r : Rr} {Q : VEnv → Sto → Prop} {k : List Fr} {E0 E : VEnv} {S S0 S1 : Sto} {Mp : List MpE} {ops l : List Oper} {t : Nat} {dst : Option Tmp} {op : Op} {ty : TypeId} {pos : String} {af : Array Edge} {ts : Array TypeId}
theorem ybd {cx : Operand} {g : FuncId} {fs cs args : List V} {xs : Array Operand} {fn : Func} {v : V} (hf : FnOk P g fn) (hcx : evV E cx = some (.fn g fs cs)) (hc : RC P g (fs ++ args ++ cs) S v) (hd : decide (t < n) = true)
  (he : (evsV (evV E) xs.toList).map (·.map V.peek) = some args) (q : DS P n r Q (.ops ops l :: k) ((t, v) :: E) S) :
  DS P n r Q (.ops ops (⟨some t, .call { callee := .value cx, args := xs, argTypes := ts }, ty, pos, af, none⟩ :: l) :: k) E S := by
 refine zwt (dst := some t) S [] hf hcx hc hd he (fun _ _ e => e) (fun _ _ e => by cases e) ?_
 rintro u S' ⟨rfl, rfl⟩ -
 simpa [putV] using q
end
theorem zxo {α β : Type} {f : α → β} {T : List α} {j : List β} {k : Nat} (h : k < T.length) : ((T.map f) ++ j)[k]? = some (f T[k]) := by
 rw [List.getElem?_append_left (by simpa using h), List.getElem?_map, List.getElem?_eq_getElem h]; rfl
structure GR where
 l : List (List V)
 blk : Option (Nat × Nat × List V)
def GR.cell : GR → V
 | ⟨_, none⟩ => .v (.slice none 0 0)
 | ⟨l, some (b, cap, _)⟩ => .v (.slice (some ⟨b, 0, none⟩) l.length cap)
structure GR.At (e sz : Nat) (S : Sto) (l : List (List V)) (b cap : Nat) (j : List V) : Prop where
 look : zac S b = some (.cells (l.flatten ++ j) e)
 len : l.length * sz + j.length = cap * sz
 le : l.length ≤ cap
 cap : cap ≤ maxLen
 jf : ∀ v ∈ j, v.free = true
 lf : ∀ v ∈ l.flatten, v.free = true
 ll : ∀ c ∈ l, c.length = sz
def GR.Ok (e sz : Nat) (S : Sto) : GR → Prop
 | ⟨l, none⟩ => l = []
 | ⟨l, some (b, cap, j)⟩ => GR.At e sz S l b cap j
theorem GR.cell_copy (g : GR) : g.cell.copy = g.cell := by obtain ⟨l, blk⟩ := g; cases blk <;> rfl
theorem GR.cell_some (l : List (List V)) (b cap : Nat) (j : List V) : GR.cell ⟨l, some (b, cap, j)⟩ = .v (.slice (some ⟨b, 0, none⟩) l.length cap) := rfl
theorem GR.Ok.of {e sz : Nat} {S S' : Sto} {g : GR} (h : g.Ok e sz S) (eq : ∀ b cap j, g.blk = some (b, cap, j) → zac S' b = zac S b) : g.Ok e sz S' := by
 obtain ⟨l, blk⟩ := g
 cases blk with
 | none => exact h
 | some x =>
  obtain ⟨b, cap, j⟩ := x
  exact ⟨by rw [eq b cap j rfl]; exact h.look, h.len, h.le, h.cap, h.jf, h.lf, h.ll⟩
theorem GR.split {e sz : Nat} {S : Sto} {g : GR} (h : g.Ok e sz S) : ∃ S0 S1, (∀ b o, zac S0 b = some o → zac S b = some o ∧ zac S1 b = none) ∧ (∀ b o, zac S1 b = some o → zac S b = some o) ∧ g.Ok e sz S1 ∧
  ∀ b, (∀ cap j, g.blk ≠ some (b, cap, j)) → zac S0 b = zac S b ∧ zac S1 b = none := by
 obtain ⟨l, blk⟩ := g
 cases blk with
 | none => exact ⟨S, [], fun _ _ e => ⟨e, rfl⟩, (fun _ _ e => by cases e), h, fun _ _ => ⟨rfl, rfl⟩⟩
 | some x =>
  obtain ⟨b0, cap, j⟩ := x
  have h1 := h.look
  refine ⟨delS b0 S, [(b0, .cells (l.flatten ++ j) e)], fun b o e => ?_, fun b o e => ?_, ⟨by simp [zac], h.len, h.le, h.cap, h.jf, h.lf, h.ll⟩, fun b hb => ?_⟩
  ·rw [zbw] at e
   split at e
   ·cases e
   ·rename_i hne
    exact ⟨e, by simp only [zac]; rw [if_neg (fun h => hne h.symm)]⟩
  ·simp only [zac] at e
   split at e
   ·rename_i hbb; subst hbb; rw [h1]; exact e
   ·cases e
  ·have hne : ¬ b0 = b := fun h => hb cap j (by rw [h])
   exact ⟨by rw [zbw, if_neg (fun h => hne h.symm)], by simp only [zac]; rw [if_neg hne]⟩
theorem zhl {sz : Nat} : ∀ {l : List (List V)}, (∀ c ∈ l, c.length = sz) → l.flatten.length = l.length * sz
 | [], _ => by simp
 | c :: r, h => by
  have := zhl (sz := sz) (l := r) fun c hc => h c (List.mem_cons_of_mem _ hc)
  rw [List.flatten_cons, List.length_append, this, h c (List.mem_cons_self ..), List.length_cons, Nat.succ_mul, Nat.add_comm]
theorem zfg (ml : List (List V)) : ml.flatten.map V.copy = (ml.map (·.map V.copy)).flatten := by rw [List.map_flatten]
section
variable {v0 : VH} {P : Program} {n : Nat} {E : VEnv} {S : Sto} {dst : Option Tmp} {ty : TypeId} {pos : String} {af : Array Edge}
theorem zld {g : GR} {T t by_ e sz : Nat} {z : Value} {sx x : Operand} {vx : V} {ml : List (List V)} (hd : dst = some t) (ht : tel P T = some (e, sz, by_)) (hz : zdb P e = some z) (hzs : z.cells.size = sz) (hzo : zgh z.cells.toList = true) (hsz : 0 < sz)
  (hs : evV E sx = some g.cell) (hok : g.Ok e sz S) (hx : evV E x = some vx) (hxl : zds vx = some ml) (hm : 0 < ml.length) (hml : ∀ c ∈ ml, c.length = sz) (hfit : g.l.length + ml.length ≤ 2147483648 ∧ by_ ≤ 65536) :
  OpS v0 P n ⟨dst, .call { callee := .builtin .append, args := #[sx, x], argTypes := #[T, T] }, ty, pos, af, none⟩ E S
   (fun u E' S' => E' = E ∧ ∃ b' cap' junk, u = GR.cell ⟨g.l ++ ml.map (·.map V.copy), some (b', cap', junk)⟩ ∧ GR.Ok e sz S' ⟨g.l ++ ml.map (·.map V.copy), some (b', cap', junk)⟩ ∧ ((∃ cap j, g.blk = some (b', cap, j)) ∨ zac S b' = none) ∧
    ∀ b, b ≠ b' → (∀ cap j, g.blk ≠ some (b, cap, j)) → zac S' b = zac S b) := by
 obtain ⟨R, blk⟩ := g
 intro K D hv hold env a w hfl ha s
 cases blk with
 | none =>
  simp only [GR.Ok] at hok
  subst hok
  refine (zqz hd ht hz hzs hzo hsz hs hx hxl hm hml (by simpa [Fits] using hfit) K D hv hold env a w hfl ha s).mono ?_
  rintro y w' ⟨hsame, u, E2, S2, hv2, hold2, q1, q2, h1, b', cap', junk, h2, h3, h4, h5, h6, h7, h8⟩
  refine ⟨hsame, u, E2, S2, hv2, hold2, q1, q2, h1, b', cap', junk, ?_, ?_, ?_, ?_⟩
  ·rw [h2]; simp [GR.cell]
  ·subst h3
   refine ⟨?_, ?_, ?_, h7, h8, ?_, ?_⟩
   ·simp only [zac, if_true, List.nil_append, Nat.zero_mul, List.take_zero, zfg]
   ·simpa using h5
   ·simpa using h6
   ·rw [List.nil_append, ← zfg]; exact zlz _
   ·intro c hc
    rw [List.nil_append] at hc
    obtain ⟨d, hd, rfl⟩ := List.mem_map.1 hc
    rw [List.length_map]; exact hml d hd
  ·exact .inr (h4.resolve_left (by simp))
  ·intro b hb _
   subst h3
   simp only [zac, delB]
   rw [if_neg (fun h => hb h.symm)]
 | some x =>
  obtain ⟨b0, cap0, j0⟩ := x
  have hfl' := zhl hok.ll
  refine (zra hd ht hz hzs hzo hsz hs hok.look (by rw [List.length_append, hfl']; exact hok.len) hok.le hok.cap (fun v hv => (List.mem_append.1 hv).elim (hok.lf v) (hok.jf v)) hx hxl hm hml (by simpa [Fits] using hfit) K D hv hold env a w hfl ha s).mono ?_
  rintro y w' ⟨hsame, u, E2, S2, hv2, hold2, q1, q2, h1, b', cap', junk, h2, h3, h4, h5, h6, h7, h8⟩
  refine ⟨hsame, u, E2, S2, hv2, hold2, q1, q2, h1, b', cap', junk, ?_, ?_, ?_, ?_⟩
  ·rw [h2]; simp [GR.cell]
  ·subst h3
   refine ⟨?_, ?_, ?_, h7, h8, ?_, ?_⟩
   ·simp only [zac, if_true, Option.some.injEq, Ob.cells.injEq, and_true]
    rw [List.take_append_of_le_length (by omega), List.take_of_length_le (by omega), zfg, List.flatten_append]
   ·simpa using h5
   ·simpa using h6
   ·rw [List.flatten_append, ← zfg]
    exact fun v hv => (List.mem_append.1 hv).elim (hok.lf v) (zlz _ v)
   ·intro c hc
    rcases List.mem_append.1 hc with hc | hc
    ·exact hok.ll c hc
    ·obtain ⟨d, hd, rfl⟩ := List.mem_map.1 hc
     rw [List.length_map]; exact hml d hd
  ·rcases h4 with h4 | h4
   ·cases h4; exact .inl ⟨_, _, rfl⟩
   ·exact .inr h4
  ·intro b hb hnb
   subst h3
   simp only [zac, delB]
   rw [if_neg (fun h => hb h.symm), zbw, if_neg]
   intro h; subst h; exact hnb _ _ rfl
end
end Go.XL
namespace Go.XL
open Go.Proofs
open Go.Maps (Keyed)
open Go.ChangeMaps (setBlock)
def V.Is (v : V) (x : Value) : Prop := ∀ hv y, v.Rl hv y → y = x
theorem V.Is.v (x : Value) : (V.v x).Is x := fun hv y h => by simpa only [V.Rl] using h
theorem V.Is.two (x y : Value) : (V.agg [.v x, .v y]).Is (.agg #[x, y]) := fun hv z h => by
 simp only [V.Rl, RlL] at h
 obtain ⟨ys, rfl, a, ar, rfl, rfl, b, br, rfl, rfl, rfl⟩ := h
 rfl
theorem ztm {P : Program} {n : Nat} {r : Rr} {Q : VEnv → Sto → Prop} {k : List Fr} {E : VEnv} {S : Sto} {id : Nat} {os l1 l2 : List Oper} (S0 S1 : Sto) (Mp : List MpE) (ord : List Nat) (m : Nat) (hok : zly os.toArray ord m = true) (hm : P.follows .mixedOrders = true) (h1 : zmc os ord = l1) (h2 : os.drop m = l2)
  (hM : MpOk P Mp (S1 ++ S0)) (h0 : ∀ b o, zac S0 b = some o → zac S b = some o ∧ zac S1 b = none) (h3 : ∀ b o, zac S1 b = some o → zac S b = some o)
  (q : DD P n r Q os S0 Mp l1 (.ops os l2 :: k) E E S1) : DS P n r Q (.code (.region id os.toArray true) :: k) E S :=
 zuz S0 S1 Mp hM ord m hok hm h0 h3 (by rw [zko, h1]; simpa [h2] using q)
section
variable {v0 : VH} {P : Program} {n : Nat} {r : Rr} {Q : VEnv → Sto → Prop} {k : List Fr} {E E0 : VEnv} {S S0 S1 : Sto} {Mp : List MpE} {dst : Option Tmp} {ty : TypeId} {pos : String} {af : Array Edge} {ops l : List Oper}
theorem yay {T kt e : TypeId} {mx kx : Operand} {b : Nat} {f : Value → Option Value} {es : Array MapEntry} {clock : Nat} {key z : Value} {kv : V} (K : Keyed P kt) (ht : P.underlying T = some (.map kt e)) (hz : zdb P e = some z) (M : MapIs P kt f es clock) (hk : zhx P kt key)
  (h1 : evV E mx = some (.v (.map (some b)))) (h2 : evV E kx = some kv) (hkv : kv.Is key) (hS : zac S b = some (.raw (.map es clock))) :
  OpS v0 P n ⟨dst, .lookup T mx kx false, ty, pos, af, none⟩ E S (fun u E' S' => u = .v ((f key).getD z) ∧ E' = E ∧ S' = S) := by
 intro K1 D hv hold env a w hfl ha s
 obtain ⟨y1, a1, b1⟩ := s.rl _ _ h1
 obtain ⟨y2, a2, b2⟩ := s.rl _ _ h2
 simp only [V.Rl] at b1
 subst b1
 have b2 := hkv _ _ b2
 subst b2
 have hb : w.heap[b]? = some (.map es clock) := (s.obj b _ hS).2.2
 have := zix K ht (fun w => zer hz w) M hk w hb
 refine zcq (w' := w) (by simp [execOp, ha.ev a1, ha.ev a2, this]) ⟨Same.refl w, _, E, S, hv, hold, PreV.refl hv, s.put dst V.Rl_v fun _ _ => trivial, rfl, rfl, rfl⟩
theorem zwr {T kt e : TypeId} {mx kx : Operand} {b : Nat} {f : Value → Option Value} {es : Array MapEntry} {clock : Nat} {key z : Value} {kv : V} (K : Keyed P kt) (ht : P.underlying T = some (.map kt e)) (hz : zdb P e = some z) (M : MapIs P kt f es clock) (hk : zhx P kt key)
  (h1 : evV E mx = some (.v (.map (some b)))) (h2 : evV E kx = some kv) (hkv : kv.Is key) (hS : zac S b = some (.raw (.map es clock))) (hd : dok n dst = true) (q : DS P n r Q (.ops ops l :: k) (putV E dst (.v ((f key).getD z))) S) :
  DS P n r Q (.ops ops (⟨dst, .lookup T mx kx false, ty, pos, af, none⟩ :: l) :: k) E S := by
 refine zcu rfl rfl hd (yay K ht hz M hk h1 h2 hkv hS) fun u E' S' ⟨h1, h2, h3⟩ => ?_
 subst h1; subst h2; subst h3; exact q
theorem zxz {T kt e : TypeId} {mx kx : Operand} {b : Nat} {f : Value → Option Value} {es : Array MapEntry} {clock : Nat} {key z : Value} {kv : V} (K : Keyed P kt) (ht : P.underlying T = some (.map kt e)) (hz : zdb P e = some z) (M : MapIs P kt f es clock) (hk : zhx P kt key)
  (h1 : evV E mx = some (.v (.map (some b)))) (h2 : evV E kx = some kv) (hkv : kv.Is key) (hS : zac S b = some (.raw (.map es clock))) :
  ∃ st es1 clock1, MapIs P kt (upd f key ((f key).getD z)) es1 clock1 ∧ zyc P T kt b f key st es1 clock1 ∧
   OpS v0 P n ⟨dst, .mapEntry T mx kx, ty, pos, af, none⟩ E S (fun u E' S' => u = .tup [.v ((f key).getD z), .v (goInt st)] ∧ E' = E ∧ S' = setS b (.raw (.map es1 clock1)) S) := by
 obtain ⟨st, es1, clock1, q1, q2, q3⟩ := zss (b := b) K ht (fun w => zer hz w) M hk
 refine ⟨st, es1, clock1, q1, q3, ?_⟩
 intro K1 D hv hold env a w hfl ha s
 obtain ⟨y1, a1, b1⟩ := s.rl _ _ h1
 obtain ⟨y2, a2, b2⟩ := s.rl _ _ h2
 simp only [V.Rl] at b1
 subst b1
 have b2 := hkv _ _ b2
 subst b2
 obtain ⟨hb, s'⟩ := s.putObj (o' := .map es1 clock1) hS
 have := q2 w hb
 refine zcq (w' := setBlock w b (.map es1 clock1)) (by simp [execOp, ha.ev a1, ha.ev a2, this]; rfl) ⟨⟨rfl, rfl, rfl⟩, _, E, _, hv, hold, PreV.refl hv, s'.put dst (by simp only [V.Rl, RlL]; exact ⟨_, rfl, _, _, rfl, rfl, _, _, rfl, rfl, rfl⟩) fun _ _ => V.free_Own (v := .tup [.v ((f y2).getD z), .v (goInt st)]) rfl _, rfl, rfl, rfl⟩
theorem ztp {T kt e : TypeId} {mx kx : Operand} {b : Nat} {f : Value → Option Value} {es : Array MapEntry} {clock : Nat} {key z : Value} {kv : V} (K : Keyed P kt) (ht : P.underlying T = some (.map kt e)) (hz : zdb P e = some z) (M : MapIs P kt f es clock) (hk : zhx P kt key)
  (h1 : evV E mx = some (.v (.map (some b)))) (h2 : evV E kx = some kv) (hkv : kv.Is key) (hS : zac S1 b = some (.raw (.map es clock))) (hd : dok n dst = true) (hMp : ∀ me ∈ Mp, me.b = b → me.k = kt ∧ me.z = z)
  (q : ∀ st es1 clock1, MapIs P kt (upd f key ((f key).getD z)) es1 clock1 → zyc P T kt b f key st es1 clock1 → DD P n r Q ops S0 Mp l k (delO dst E0) (putV E dst (.tup [.v ((f key).getD z), .v (goInt st)])) (setS b (.raw (.map es1 clock1)) S1)) :
  DD P n r Q ops S0 Mp (⟨dst, .mapEntry T mx kx, ty, pos, af, none⟩ :: l) k E0 E S1 := by
 obtain ⟨st, es1, clock1, q1, q2, q3⟩ := zxz (v0 := r.v0) (n := n) (dst := dst) (ty := ty) (pos := pos) (af := af) K ht hz M hk h1 h2 hkv hS
 refine zok rfl rfl rfl hd q3 (fun hM me hme => ?_) (q st es1 clock1 q1 q2)
 obtain ⟨o, ho, hof⟩ := hM me hme
 have hset : zac (setS b (.raw (.map es1 clock1)) S1 ++ S0) me.b = if me.b = b then some (.raw (.map es1 clock1)) else zac (S1 ++ S0) me.b := by
  rw [zba, zas hS]
  by_cases hb : me.b = b
  ·rw [if_pos hb, if_pos hb]
  ·rw [if_neg hb, if_neg hb, zba]
 by_cases hb : me.b = b
 ·obtain ⟨e1, e2⟩ := hMp me hme hb
  refine ⟨_, by rw [hset, if_pos hb], es1, clock1, _, rfl, by rw [e1]; exact q1, fun x => ?_⟩
  rw [zba, hb, hS] at ho
  simp only [Option.some.injEq, Ob.raw.injEq] at ho
  subst ho
  obtain ⟨es', clock', f', e3, M', hg⟩ := hof
  cases e3
  have := M.det M'
  subst this
  rw [← hg x, e2]
  by_cases hx : x = key
  ·subst hx; rw [zfm]; rfl
  ·rw [zhr _ _ hx]
 ·exact ⟨o, by rw [hset, if_neg hb]; exact ho, hof⟩
theorem zwv {T : TypeId} {mx kx : Operand} {me : MpE} {e : TypeId} {key : Value} {kv : V} (hm : me ∈ Mp) (K : Maps.Keyed P me.k) (ht : P.underlying T = some (.map me.k e)) (hz : zdb P e = some me.z) (hd : dok n dst = true)
  (h1 : evV E0 mx = some (.v (.map (some me.b)))) (h2 : evV E0 kx = some kv) (hkv : kv.Is key) (hk : zhx P me.k key) (q : DD P n r Q ops S0 Mp l k (putV E0 dst (.v (me.g key))) (putV E dst (.v (me.g key))) S1) :
  DD P n r Q ops S0 Mp (⟨dst, .lookup T mx kx false, ty, pos, af, none⟩ :: l) k E0 E S1 := fun K0 K1 D W hv0 hs a SPs hbx hfl hE hp hS0 hzz hl hR => by
 obtain ⟨env, ha, hE'⟩ := hE
 have rl : RlO hv0 (evV E0) (ev env) := by
  intro x u e
  cases x with
  | tmp t => exact hE' t u e
  | const c => simp only [evV, Option.some.injEq] at e; subst e; exact ⟨c, rfl, V.Rl_v⟩
  | global g => simp only [evV, Option.some.injEq] at e; subst e; exact ⟨_, rfl, V.Rl_v⟩
  | func g => simp only [evV, Option.some.injEq] at e; subst e; exact ⟨_, rfl, by simp only [V.Rl]; exact ⟨[], [], rfl, by simp [RlL], by simp [RlL]⟩⟩
 obtain ⟨y1, a1, b1⟩ := rl _ _ h1
 obtain ⟨y2, a2, b2⟩ := rl _ _ h2
 simp only [V.Rl] at b1
 subst b1
 have b2 := hkv _ _ b2
 subst b2
 have run : ∀ w : World, RdOf P Mp hv0 hs S0 w.heap → (execOp a.eval ⟨dst, .lookup T mx kx false, ty, pos, af, none⟩).run P w = .ok (.value (me.g y2)) w := fun w hr => by
  obtain ⟨o, ho, es, clock, f, rfl, M, hg⟩ := hr.2.2 me hm
  have := zix K ht (fun w => zer hz w) M hk w ho
  rw [hg] at this
  simp [execOp, ha.ev a1, ha.ev a2, this]
 show SW P ops.toArray _ W _ (_ :: l) SPs a
 unfold SW Front
 rw [if_pos (by simp [Region.wanted]), if_neg (by simp [zct, zgl, zzv, zot])]
 refine ⟨_, .inl fun w' hw' => run w' hw', ?_⟩
 refine q K0 K1 D W hv0 hs _ SPs hbx hfl (zlx ⟨env, ha, hE'⟩ hd V.Rl_v) hp hS0 hzz hl fun F h1 hF => ?_
 obtain ⟨p1, p2, hv', hold, env', ha', s, p, f, g⟩ := hR F h1 hF
 exact ⟨p1, p2, hv', hold, _, ha'.put' hd _, s.put dst V.Rl_v fun _ _ => trivial, p, f, g⟩
end
end Go.XL
namespace Go.XL
open Go.Proofs
section
variable {v0 : VH} {P : Program} {n : Nat} {r : Rr} {Q : VEnv → Sto → Prop} {k : List Fr} {E0 E : VEnv} {S S0 S1 : Sto} {Mp : List MpE} {ops l : List Oper} {t : Nat} {dst : Option Tmp} {op : Op} {ty : TypeId} {pos : String} {af : Array Edge} {ts : Array TypeId}
theorem zzc {hv : VH} {l : List (List V)} {y : Value} (h : ReadsL hv l y) (hs : ∀ c ∈ l, c ≠ []) : ∃ p n c, y = .slice p n c ∧ (p.isNone = true → l = []) := by
 obtain ⟨p, cap, sz, rfl, _, _, _, h4⟩ := h
 refine ⟨p, _, _, rfl, fun hp => ?_⟩
 cases l with
 | nil => rfl
 | cons c r =>
  exfalso
  cases p with
  | some a => cases hp
  | none =>
   have hc := hs c (List.mem_cons_self ..)
   cases c with
   | nil => exact hc rfl
   | cons v c =>
    simp only [RlE, RlC] at h4
    obtain ⟨⟨⟨u, hu, _⟩, _⟩, _⟩ := h4
    simp [ldH, at?] at hu
theorem zws {T e : TypeId} {x : Operand} {v : V} {d : TypeId} {li : List (List V)} (hd : decide (t < n) = true) (hT : P.underlying T = some (.slice e)) (hx : evV E x = some v) (hl : zds v = some li) (hs : ∀ c ∈ li, c ≠ [])
  (q : ∀ b : Bool, (b = true → li = []) → DS P n r Q (.ops ops l :: k) ((t, .v (.bool b)) :: E) S) :
  DS P n r Q (.ops ops (⟨some t, .binOp .eql T x (.const (.slice none 0 0)) d, ty, pos, af, none⟩ :: l) :: k) E S := by
 refine zcu (T := fun v E' S' => ∃ b : Bool, (b = true → li = []) ∧ v = .v (.bool b) ∧ E' = E ∧ S' = S) rfl rfl hd ?_ ?_
 ·intro K D hv hold env a w hfl ha s
  obtain ⟨y, h1, h2⟩ := s.rl _ _ hx
  obtain ⟨p, m, c, rfl, h3⟩ := zzc (zft hl h2) hs
  have hr : (execOp a.eval ⟨some t, .binOp .eql T x (.const (.slice none 0 0)) d, ty, pos, af, none⟩).run P w = .ok (.value (.bool p.isNone)) w := by
   refine zhn ha ?_
   simp only [dop, h1, ydr]
   exact ydv hT
  unfold Yields
  rw [hr]
  exact ⟨⟨rfl, rfl, rfl⟩, _, _, _, hv, hold, PreV.refl hv, s.put (some t) V.Rl_v fun _ _ => trivial, p.isNone, h3, rfl, rfl, rfl⟩
 ·rintro u E' S' ⟨b, h1, rfl, rfl, rfl⟩
  exact q b h1
theorem yea {T len : Nat} {ps : Array (Nat × Operand)} {qs : List (Nat × V)} {e sz : Nat} {c : List V} (hp : zga (evV E) ps.toList = some qs) (hb : bslV P T len qs = some (e, sz, c)) :
  OpS v0 P n ⟨dst, .buildSlice T len ps, ty, pos, af, none⟩ E S (fun u E' S' => ∃ b, zac S b = none ∧ u = .v (.slice (some ⟨b, 0, none⟩) len len) ∧ E' = E ∧ S' = (b, .cells c e) :: S) := by
 intro K D hv hold env a w hfl ha s
 obtain ⟨rs, h1, h2⟩ := zfz s.rl hp
 obtain ⟨x, h3, h4, h5, h6, h7, h8, by_, ht⟩ := zof h2 hb
 refine zex ha (y := .slice (some ⟨w.heap.size, 0, none⟩) len len) (h' := w.heap.push (.cells x.toArray e)) (by simp only [hop, h1, h3]) ⟨⟨rfl, rfl, rfl⟩, ?_⟩
 obtain ⟨s', hn⟩ := s.born (zfp (h := w.heap) (hold := hold) (T := e) h4 h5 h8)
 exact ⟨_, E, _, hv, hold, PreV.refl hv, s'.put dst V.Rl_v fun _ _ => trivial, _, hn, rfl, rfl, rfl⟩
theorem zrf {T len : Nat} {ps : Array (Nat × Operand)} {qs : List (Nat × V)} {e sz : Nat} {c : List V} (hd : decide (t < n) = true) (hp : zga (evV E) ps.toList = some qs) (hb : bslV P T len qs = some (e, sz, c))
  (q : ∀ b, zac S b = none → DS P n r Q (.ops ops l :: k) ((t, .v (.slice (some ⟨b, 0, none⟩) len len)) :: E) ((b, .cells c e) :: S)) : DS P n r Q (.ops ops (⟨some t, .buildSlice T len ps, ty, pos, af, none⟩ :: l) :: k) E S := by
 refine zcu rfl rfl hd (yea hp hb) ?_
 rintro u E' S' ⟨b, h1, rfl, rfl, rfl⟩
 exact q b h1
theorem St.write {K : Bs} {hv : VH} {hold : Nat → Option Hd} {env : Env} {h : Heap} (s : St K hv hold E S env h) {b off : Nat} {cl rl : List V} {rs : List Value} {T : TypeId} (hS : zac S b = some (.cells cl T)) (hr : RlL hv rl rs) (ho : Ones rs) (hf : ∀ v ∈ rl, v.free = true) (hm : off + rl.length ≤ cl.length) :
  ∃ h', stl h ⟨b, off, none⟩ rs 0 = some h' ∧ St K hv hold E (setS b (.cells (setAll cl off rl) T) S) env h' := by
 obtain ⟨o1, o2, cs, o3, o4, o5, o6⟩ := s.obj b _ hS
 have hcl := o4.length
 have hrl := hr.length
 obtain ⟨h', q1, q2, q3, q4⟩ := ztw (o := off) rs 0 cs h o3 (by omega) ho
 refine ⟨h', q1, ⟨fun j oj ej => ?_, fun t vv e => ?_, fun j o e => ?_, s.held, ?_, s.vbase⟩⟩
 ·obtain ⟨o', r1, r2⟩ := s.pre j oj ej
  refine ⟨o', ?_, r2⟩
  rw [q3 j (fun e => by subst e; rw [o2] at ej; cases ej)]; exact r1
 ·obtain ⟨y2, r1, r2, r3⟩ := s.slot t vv e
  refine ⟨y2, r1, r2, r3.keep fun g ob a1 a2 a3 => ⟨q3 g (fun e => by subst e; rw [o2] at a2; cases a2), rfl, a1⟩⟩
 ·rw [zas hS] at e
  by_cases hj : j = b
  ·subst hj
   simp only [if_true, Option.some.injEq] at e; subst e
   refine ⟨o1, o2, _, q4, ?_, ?_, fun i c u hc hu => ?_⟩
   ·rw [Nat.add_zero]; exact o4.setAll off hr
   ·exact Ones.setAll (l := cs) _ o5 ho
   ·rw [Nat.add_zero] at hu
    rw [zfa _ _ _ _ hm] at hc
    rw [zfa _ _ _ _ (by omega)] at hu
    rw [hrl] at hu
    by_cases hi : off ≤ i ∧ i < off + rl.length
    ·rw [if_pos hi] at hc
     exact V.free_Own (hf c (List.mem_of_getElem? hc)) u
    ·rw [if_neg hi] at hc hu
     exact (o6 i c u hc hu).keep fun g ob a1 a2 a3 => ⟨q3 g (fun e => by subst e; rw [o2] at a2; cases a2), rfl, a1⟩
  ·rw [if_neg hj] at e
   obtain ⟨r1, r2, r3⟩ := s.obj j o e
   exact ⟨r1, r2, Ob.keep r3 (PreV.refl hv) (q3 j hj) fun g i ob a1 a2 a3 => ⟨q3 g (fun e => by subst e; rw [o2] at a2; cases a2), rfl, a1⟩⟩
 ·refine ⟨s.base.1, by rw [q2]; exact s.base.2.1, fun j hj => ?_⟩
  rw [q3 j fun e => o1 (e ▸ hj)]; exact s.base.2.2 j hj
theorem zyu {w : World} {h' : Heap} {T e : TypeId} {z : Value} (ht : P.underlying T = some (.slice e)) (hz : zdb P e = some z) (hz1 : z.cells = #[z]) {b o m c : Nat} (hm : 0 < m) (hst : stl w.heap ⟨b, o, none⟩ (List.replicate m z) 0 = some h') (tt : TypeId) :
  (Builtin.clear_ #[T] tt #[.slice (some ⟨b, o, none⟩) m c]).run P w = .ok (.tuple #[]) { w with heap := h' } := by
 have hzc : (Builtin.zeroCells z.cells m).toList = List.replicate m z := by
  rw [hz1]
  simp [Builtin.zeroCells]
  apply List.ext_getElem
  ·simp
  ·intro i h1 h2
   simp [Nat.mod_one]
 have h2 := ztv (P := P) _ _ w hst
 obtain ⟨m, rfl⟩ : ∃ m', m = m' + 1 := ⟨m - 1, by omega⟩
 simp [Builtin.clear_, run_underlying ht, zer hz, hzc, h2]
theorem DS.clear {T e : TypeId} {x : Operand} {b o m c : Nat} {z : Value} {cl : List V} {T' : TypeId} (hT : P.underlying T = some (.slice e)) (hz : zdb P e = some z) (hz1 : z.cells = #[z]) (ho1 : z.oneCell' = true) (hm : 0 < m) (hx : evV E x = some (.v (.slice (some ⟨b, o, none⟩) m c))) (hS : zac S b = some (.cells cl T')) (hfit : o + m ≤ cl.length)
  (q : DS P n r Q (.ops ops l :: k) E (setS b (.cells (setAll cl o (List.replicate m (.v z))) T') S)) :
  DS P n r Q (.ops ops (⟨none, .call { callee := .builtin .clear, args := #[x], argTypes := #[T] }, ty, pos, af, none⟩ :: l) :: k) E S := by
 refine zcu (T := fun v E' S' => E' = E ∧ S' = setS b (.cells (setAll cl o (List.replicate m (.v z))) T') S) rfl rfl rfl ?_ ?_
 ·intro K D hv hold env a w hfl ha s
  obtain ⟨y, h1, h2⟩ := s.rl _ _ hx
  simp only [V.Rl] at h2; subst h2
  have hR : RlL hv (List.replicate m (V.v z)) (List.replicate m z) := by
   have := zhp (hv := hv) (List.replicate m z)
   rwa [List.map_replicate] at this
  obtain ⟨h', q1, q2⟩ := s.write hS hR (fun u hu => by rw [List.eq_of_mem_replicate hu]; exact ho1) (fun v hv => by rw [List.eq_of_mem_replicate hv]; rfl) (by simpa using hfit)
  have hrun : ∀ tt, (execOp a.eval ⟨none, .call { callee := .builtin .clear, args := #[x], argTypes := #[T] }, tt, pos, af, none⟩).run P w = .ok (.value (.tuple #[])) { w with heap := h' } := fun tt => by
   have := zyu (P := P) (w := w) hT hz hz1 (c := c) hm q1 tt
   simp [execOp, resolve, invoke, builtin, ha.ev h1, this]
  unfold Yields
  rw [hrun]
  exact ⟨⟨rfl, rfl, rfl⟩, .v (.tuple #[]), E, _, hv, hold, PreV.refl hv, q2, rfl, rfl⟩
 ·rintro u E' S' ⟨rfl, rfl⟩
  exact q
theorem ygc {g : FuncId} {args : List V} {xs : Array Operand} {fn : Func} {x : Value} (hf : FnOk P g fn) (hc : RC P g args S1 (.v x)) (hd : decide (t < n) = true) (he : (evsV (evV E) xs.toList).map (·.map V.peek) = some args)
  (q : DD P n r Q ops S0 Mp l k ((t, .v x) :: E0) ((t, .v x) :: E) S1) :
  DD P n r Q ops S0 Mp (⟨some t, .call { callee := .value (.func g), args := xs, argTypes := ts }, ty, pos, af, none⟩ :: l) k E0 E S1 := by
 rw [Option.map_eq_some_iff] at he
 obtain ⟨ax, e1, e2⟩ := he
 refine zwu (x := x) (E' := E) (S1' := S1) rfl rfl rfl hd rfl (fun K D hv hold env a w hfl ha s => ?_) id q
 refine (OpS.call (fs := []) (cs := []) hf rfl e1 (S1 := S1) (S2 := []) (R := fun u S' => u = .v x ∧ S' = S1) (by simpa [e2] using hc _) (fun _ _ e => e) (fun _ _ e => by cases e) K D hv hold env a w hfl ha s).mono fun y w' ⟨hs, u, E', S', hv', hold', p1, p2, p3, S2, p4, ⟨p5, p6⟩, _⟩ => ?_
 subst p3; subst p4; subst p5; subst p6
 rw [List.append_nil] at p2
 exact ⟨hs, _, _, _, hv', hold', p1, p2, rfl, rfl, rfl⟩
theorem zpr {cx : Operand} {g : FuncId} {fs cs args : List V} {xs : Array Operand} {fn : Func} {R : V → Sto → Prop} (hf : FnOk P g fn) (hcx : evV E cx = some (.fn g fs cs)) (hc : DCh r.v0 P g (fs ++ args ++ cs) S R) (hd : decide (t < n) = true)
  (he : (evsV (evV E) xs.toList).map (·.map V.peek) = some args) (q : ∀ u S', R u S' → DS P n r Q (.ops ops l :: k) ((t, u) :: E) S') :
  DS P n r Q (.ops ops (⟨some t, .call { callee := .value cx, args := xs, argTypes := ts }, ty, pos, af, none⟩ :: l) :: k) E S := by
 refine ztn (dst := some t) S [] hf hcx hc hd he (fun _ _ e => e) (fun _ _ e => by cases e) ?_
 intro u S' h _
 simpa [putV] using q u S' h
theorem yba {cx : Operand} {y : Nat} {args : List V} {xs : Array Operand} {R : V → Sto → Prop} (hcx : evV E cx = some (.yl y)) (hc : YC r.v0 P y args S R) (hd : decide (t < n) = true)
  (he : (evsV (evV E) xs.toList).map (·.map V.peek) = some args) (q : ∀ u S', R u S' → DS P n r Q (.ops ops l :: k) ((t, u) :: E) S') :
  DS P n r Q (.ops ops (⟨some t, .call { callee := .value cx, args := xs, argTypes := ts }, ty, pos, af, none⟩ :: l) :: k) E S := by
 refine DS.yield (dst := some t) S [] hcx hc hd he (fun _ _ e => e) (fun _ _ e => by cases e) ?_
 intro u S' h _
 simpa [putV] using q u S' h
end
theorem ygp {S : Sto} {b1 b2 : Nat} {o1 o2 : Ob} (h1 : zac S b1 = some o1) (h2 : zac S b2 = some o2) (hne : b1 ≠ b2) :
  (∀ b o, zac (delS b1 (delS b2 S)) b = some o → zac S b = some o ∧ zac [(b1, o1), (b2, o2)] b = none) ∧ (∀ b o, zac [(b1, o1), (b2, o2)] b = some o → zac S b = some o) ∧
  (∀ b o, zac S b = some o → zac ([(b1, o1), (b2, o2)] ++ delS b1 (delS b2 S)) b = some o) ∧ ∀ b, b ≠ b1 → b ≠ b2 → zac (delS b1 (delS b2 S)) b = zac S b := by
 refine ⟨fun b o e => ?_, fun b o e => ?_, fun b o e => ?_, fun b n1 n2 => by rw [zbw, if_neg n1, zbw, if_neg n2]⟩
 ·rw [zbw] at e
  split at e
  ·cases e
  rename_i n1
  rw [zbw] at e
  split at e
  ·cases e
  rename_i n2
  refine ⟨e, ?_⟩
  simp only [zac]
  rw [if_neg (fun h => n1 h.symm), if_neg (fun h => n2 h.symm)]
 ·simp only [zac] at e
  split at e
  ·rename_i h; subst h; rw [h1]; exact e
  split at e
  ·rename_i h; subst h; rw [h2]; exact e
  ·cases e
 ·rw [zba]
  simp only [zac]
  by_cases n1 : b1 = b
  ·subst n1; rw [if_pos rfl]; rw [h1] at e; exact e
  ·rw [if_neg n1]
   by_cases n2 : b2 = b
   ·subst n2; rw [if_pos rfl]; rw [h2] at e; exact e
   ·rw [if_neg n2]
    simp only []
    rw [zbw, if_neg (fun h => n1 h.symm), zbw, if_neg (fun h => n2 h.symm)]
    exact e
end Go.XL
namespace Go.XL
open Go.Proofs
section
variable {v0 : VH} {P : Program} {n : Nat} {r : Rr} {Q : VEnv → Sto → Prop} {k : List Fr} {E0 E : VEnv} {S S0 S1 : Sto} {Mp : List MpE} {ops l : List Oper} {t : Nat} {dst : Option Tmp} {op : Op} {ty : TypeId} {pos : String} {af : Array Edge} {ts : Array TypeId}
theorem yff {D : List Deferred} {env : Env} {a : Act} {T : TypeId} {x y : Operand} {kl kc : IntKind} {i c : Int} {e sz by_ : Nat} {z : Value} (ha : Agree D n env a) (h1 : ev env x = some (.int kl i)) (h2 : ev env y = some (.int kc c)) (ht : tel P T = some (e, sz, by_)) (hz : zdb P e = some z) (hzs : z.cells.size = sz)
  (hb : 0 ≤ i ∧ i ≤ c ∧ by_ ≤ 65536 ∧ c ≤ 2147483648) (w : World) :
  (execOp a.eval ⟨some t, .makeSlice T x y, ty, pos, af, none⟩).run P w = .ok (.value (.slice (some ⟨w.heap.size, 0, none⟩) i.toNat c.toNat)) { w with heap := w.heap.push (.cells ((List.replicate c.toNat z.cells.toList).flatten).toArray e) } := by
 have hc : (by_ : Int) * c ≤ 281474976710656 ∧ c ≤ 9223372036854775807 := by
  refine ⟨?_, by omega⟩
  have q1 : (by_ : Int) * c ≤ 65536 * 2147483648 := Int.mul_le_mul (by omega) hb.2.2.2 (by omega) (by omega)
  omega
 have hcells : madeCells z.cells (c.toNat * sz) = ((List.replicate c.toNat z.cells.toList).flatten).toArray := by
  have := zhe z.cells c.toNat
  rw [hzs] at this
  unfold madeCells
  rw [← this]
  simp only [Array.toArray_toList]
  rw [hzs]
 refine zku (P := P) (y := fun u => .slice (some ⟨u, 0, none⟩) i.toNat c.toNat) ha (fun i => by simp [undef]) (fun h1' => ?_) w
 simp only [hop, h1, h2, ht, hz]; rw [if_pos ⟨hb.1, hb.2.1, hc⟩, hcells]
theorem ybg {o : Oper} {R : V → VEnv → Sto → Prop} {T : TypeId} {x y : Operand} {kl kc : IntKind} {i c : Int} {e sz by_ : Nat} {z : Value} (hg : o.guard = none) (hc : zct o = true) (hb : zgs o.op = false) (hd : dok n o.dst = true) (ho : OpS r.v0 P n o E S1 R) (hd2 : decide (t < n) = true)
  (hE0 : ∀ u v, zch (delO o.dst E0) u = some v → zch E0 u = some v) (hx : evV (delO o.dst E0) x = some (.v (.int kl i))) (hy : evV (delO o.dst E0) y = some (.v (.int kc c))) (ht : tel P T = some (e, sz, by_)) (hz : zdb P e = some z) (ho1 : zgh z.cells.toList = true) (hzs : z.cells.size = sz)
  (hbd : 0 ≤ i ∧ i ≤ c ∧ by_ ≤ 65536 ∧ c ≤ 2147483648)
  (q : ∀ v E' S' u, R v E' S' → zac S' u = none → zac S0 u = none → DS P n r Q k ((t, .v (.slice (some ⟨u, 0, none⟩) i.toNat c.toNat)) :: putV E' o.dst v) ((u, .cells (zdu z c.toNat) e) :: (S' ++ S0))) :
  DD P n r Q ops S0 [] [o, ⟨some t, .makeSlice T x y, ty, pos, af, none⟩] k E0 E S1 := fun K0 K D W hv0 hs a SPs hbx hfl hE hp hS0 hzz hl hR => by
 show SW P ops.toArray _ W _ [o, _] SPs a
 unfold SW Front
 rw [if_pos (by simp [Region.wanted, hg]), if_pos hc]
 refine ⟨fun _ y => y, fun _ y => fun F h1 => ∃ v E' S', R v E' S' ∧ RunS P [] D n K hv0 hs S0 (putV E' o.dst v) S' (a.put o.dst y) F h1, ?_, fun _ y0 hT => ?_⟩
 ·unfold Spec
  rw [if_neg (by simp [hb])]
  have G := fun v E' S' y => RunS.good P [] D n K hv0 hs S0 (putV E' o.dst v) S' (a.put o.dst y)
  refine ⟨rfl, _, rfl, fun y => ⟨fun F h ⟨v, E', S', _, h2⟩ => (G v E' S' y).ext F h h2, fun F h ob ⟨v, E', S', h1, h2⟩ => ⟨v, E', S', h1, (G v E' S' y).push F h ob h2⟩, fun F F' h hF ⟨v, E', S', h1, h2⟩ => ⟨v, E', S', h1, (G v E' S' y).less F F' h hF h2⟩⟩, fun w F hF hw => ?_⟩
  obtain ⟨p1, p2, hv', hold, env', ha', s, p, f, g⟩ := hR F w.heap hF
  obtain ⟨K', hc', s', hprot, hK1, hK2, back⟩ := s.frame fun b o e => (g b o e).2.1
  refine (ho K' D hv' hc' env' a w (hfl.trans p) ha' s').mono fun y w' ⟨hsame, u, E2, S2, hv2, hold2, q1, q2, e1⟩ => ?_
  obtain ⟨hold3, t1, t2⟩ := back q1 q2
  have stay : ∀ b, K'.B b → w'.heap[b]? = w.heap[b]? ∧ hv2 b = hv' b := fun b hb => ⟨by rw [q2.base.2.2 b hb, hK1], by rw [q2.vbase.2 b hb, hK2]⟩
  have hFp : ∀ b, F b → K'.B b := fun b hb => hprot b (p1 b hb).2 (f b hb).1 (by
   have := (f b hb).2; rw [zba] at this
   cases e : zac S1 b with
   | none => rfl
   | some o => rw [e] at this; cases this)
  have hSp : ∀ b o, zac S0 b = some o → K'.B b := fun b o e => hprot b (Nat.lt_of_lt_of_le (g b o e).2.2 p2.1) (s.obj b o (by rw [zba, (g b o e).2.1]; exact e)).2.1 (g b o e).2.1
  have hsz : w.heap.size ≤ w'.heap.size := by have := q2.base.2.1; rwa [hK1] at this
  refine ⟨hsame, ⟨u, E2, S2, e1, fun b hb => ⟨(p1 b hb).1, Nat.lt_of_lt_of_le (p1 b hb).2 hsz⟩, ⟨Nat.le_trans p2.1 hsz, MpOk.nil⟩, hv2, hold3, _, ha'.put' hd y, t1, p.trans q1, fun b hb => ?_, fun b o e => ?_⟩, fun b o hb eb _ => ?_⟩
  ·refine ⟨by rw [(stay b (hFp b hb)).2]; exact (f b hb).1, ?_⟩
   have hb2 := (f b hb).2
   rw [zba] at hb2 ⊢
   cases e : zac S2 b with
   | some o => exact absurd (hFp b hb) (q2.obj b o e).1
   | none =>
    cases e1 : zac S1 b with
    | some o => rw [e1] at hb2; cases hb2
    | none => rw [e1] at hb2; exact hb2
  ·obtain ⟨g1, g2, g3⟩ := g b o e
   exact ⟨(stay b (hSp b o e)).1.trans g1, t2 b o e, g3⟩
  ·rw [(stay b (hFp b hb)).1]; exact eb
 ·
  obtain ⟨env2, ha2, hE2⟩ := zst hE hd y0
  have rl : ∀ x v, evV (delO o.dst E0) x = some (.v v) → ev env2 x = some v := by
   intro x v h
   cases x with
   | tmp u =>
    obtain ⟨y, h1, h2⟩ := hE2 u _ h
    simp only [V.Rl] at h2
    subst h2; exact h1
   | const u => simp only [evV, Option.some.injEq, V.v.injEq] at h; subst h; rfl
   | global g => simp only [evV, Option.some.injEq, V.v.injEq] at h; subst h; rfl
   | func g => cases h
  have hrun := fun w => yff (P := P) (t := t) (ty := ty) (pos := pos) (af := af) ha2 (rl _ _ hx) (rl _ _ hy) ht hz hzs hbd w
  show SW P ops.toArray _ W _ [_] _ _
  unfold SW Front
  rw [if_pos (by simp [Region.wanted]), if_pos yR]
  refine ⟨fun u _ => .slice (some ⟨u, 0, none⟩) i.toNat c.toNat, fun u _ => zgg (fun F h1 => ∃ v E' S', R v E' S' ∧ RunS P [] D n K hv0 hs S0 (putV E' o.dst v) S' (a.put o.dst y0) F h1) u (.cells ((List.replicate c.toNat z.cells.toList).flatten).toArray e), ?_, fun u _ hT2 => ?_⟩
  ·unfold Spec
   rw [if_pos yR]
   exact ⟨.cells ((List.replicate c.toNat z.cells.toList).flatten).toArray e, fun u => .slice (some ⟨u, 0, none⟩) i.toNat c.toNat, rfl, hrun, rfl, rfl⟩
  ·show SW P ops.toArray _ W _ [] _ _
   unfold SW
   intro w2 ⟨⟨v, E', S', h1, h2⟩, _, t3⟩ hw2
   obtain ⟨p1, p2, hv', hold, env', ha', s, p, f, g⟩ := h2
   have hu := p1 u (.inr rfl)
   have fu := f u (.inr rfl)
   have hB : ¬ K.B u := fun hb => by
    have := s.base.1 u hb
    omega
   have nS : zac S' u = none ∧ zac S0 u = none := by
    have := fu.2
    rw [zba] at this
    cases e : zac S' u with
    | some o => rw [e] at this; cases this
    | none => rw [e] at this; exact ⟨rfl, this⟩
   exact q v E' S' u h1 nS.1 nS.2 K0 W _ w2 ⟨K, D, hv', hold, _, hbx, ha'.put' (d := some t) (by simpa [dok] using hd2) _, (s.adoptO t3 hB fu.1 (zkd z c.toNat) (zio ho1 c.toNat) (zhf z c.toNat)).put (some t) V.Rl_v fun _ _ => trivial⟩ hw2
end
end Go.XL
namespace Go.XL
open Go.Proofs
end Go.XL
namespace Go.XL
open Go.Proofs
theorem zrm {l m : List Int} {i : Nat} (h : l.take i = m.take i) (hl : i < l.length) (hm : i < m.length) (e : l[i] = m[i]) : l.take (i + 1) = m.take (i + 1) := by
 rw [List.take_succ_eq_append_getElem hl, List.take_succ_eq_append_getElem hm, h, e]
theorem zne (a b : List Int) : PC Try.prog 12 [ints a, ints b] (Bo (decide (a = b))) := by
 refine DC.of_run Try.func12 rfl Try.ntmps12 Try.results12 (by simp) (fun _ => ?_); simp only [zaf, zai, go_sem, Nat.zero_add, Nat.reduceAdd]
 refine zhv (t := 0) yG (.inl rfl) (fun hb0 => ?_); simp only [List.length_map] at hb0
 repeat' (first | (with_reducible first | refine zad yU yU yE ?_ | refine zab ?_ | refine DS.seq ?_ | refine zaa ?_ | (refine zbe yE ?_; refine zgu (fun _ => ?_) (fun _ => ?_)) | refine DS.block ?_ | refine DS.skip ?_) | refine zat [] yE trivial ?_ | fail)
 ·simp_all [tupV]; intro h; subst h; simp_all
 refine zrc (fun (i : Nat) => [(0, ints a), (1, ints b), (5, I i)]) (fun (i : Nat) => []) (fun (i : Nat) => i ≤ a.length ∧ a.take i = b.take i) (fun (i : Nat) => a.length - i) 0 yS yS (by simp) (fun i B hI hB => ?_); try dsimp only at hI hB ⊢
 repeat' (first | (with_reducible first | refine zad yU yU yE ?_ | refine zab ?_ | refine DS.seq ?_ | refine zaa ?_ | (refine zbe yE ?_; first | refine zgu (fun _ => ?_) (fun _ => ?_) | refine zeq (fun _ => ?_) (fun _ => ?_)) | refine DS.blk ?_ | refine DS.block ?_ | refine DS.exit yU ?_ | refine DS.skip ?_) | refine zcr (id := 6) [0, 1, 2, 3, 4, 5, 6, 7] 8 (by kernel_rfl) zei (by simp only [zbp, zbx, zby, zbz, zbo]; exact rfl) (by simp only [zbk, zbl, List.drop_nil]; exact rfl) ?_ | (with_reducible first | refine zcj yU yU yU yE ?_ | refine zdm ?_) | refine zat [] yE trivial ?_ | fail)
 ·rename_i h1 h2
  have : a ≠ b := fun e => h2 (by subst e; rfl)
  simp [tupV, this]
 ·exact DS.back (hB (i + 1) _ _ (by omega) ⟨by omega, zrm hI.2 (by omega) (by omega) (by simp_all)⟩ yS yS)
 ·have : i = a.length := by omega
  have : a = b := by
   have h := hI.2
   rw [List.take_of_length_le (by omega), List.take_of_length_le (by omega)] at h
   exact h
  simp [tupV, this]
theorem zfd (n lo hi : Int) : PC Try.prog 25 [I n, I lo, I hi] (Bo (decide (lo ≤ n ∧ n ≤ hi))) := by
 refine DC.of_run Try.func25 rfl Try.ntmps25 Try.results25 (by simp) (fun _ => ?_); simp only [zaf, zai, go_sem, Nat.zero_add, Nat.reduceAdd]
 repeat' (first | (with_reducible first | refine zad yU yU yE ?_ | refine zab ?_ | refine DS.seq ?_ | refine zaa ?_ | (refine zdv yU yE ?_; first | refine zuw (fun _ => ?_) (fun _ => ?_) | refine GG.run ?_ | refine zkb ?_)) | refine zat [] yE trivial ?_ | fail)
 all_goals first | (simp_all [tupV]; done) | (simp_all [tupV]; omega)
theorem zmh (m : Member) (r : Int) : PC Try.prog 31 [m.val, I r] (Bo (m.plays r)) := by
 refine DC.of_run Try.func31 rfl Try.ntmps31 Try.results31 (by simp) (fun _ => ?_); simp only [zaf, zai, go_sem, Nat.zero_add, Nat.reduceAdd]
 repeat' (first | (with_reducible first | refine zad yU yU yE ?_ | refine zab ?_ | refine DS.seq ?_ | refine zaa ?_ | (refine zdv yU yE ?_; first | refine yeb ?_ | refine zuw (fun _ => ?_) (fun _ => ?_) | refine yhh (fun _ => ?_) (fun _ => ?_) | refine GG.run ?_ | refine zkb ?_ | refine zuv ?_)) | (refine zci (t := 2) yU yE yU ?_; simp only [zbh, zcg, zbf, zbv, zbc, zau, zbq, zay, zcd, zcf, zbr, zce, zbu, zbt]) | refine zat [] yE trivial ?_ | fail)
 all_goals first | (simp_all [tupV, Member.plays]; done) | (simp_all [tupV, Member.plays]; omega)
end Go.XL
namespace Go.XL
open Go.Proofs
theorem zuc {c : Club} {a b : Int} (h : ¬ (0 ≤ a ∧ a ≤ (c.rounds.length : Int) - 1)) : zfx c a b = false := by simp only [zfx, h, false_and, decide_false]
theorem ziv {c : Club} {i : Nat} (h : i < c.rounds.length) (b : Int) : zfx c i b = decide ((0 ≤ b ∧ b ≤ (c.rounds[i].points.length : Int) - 1) ∧ 0 < (c.rounds[i].points.getD b.toNat []).length) := by
 have h1 : (0 : Int) ≤ i ∧ (i : Int) ≤ (c.rounds.length : Int) - 1 := by omega
 simp only [zfx, h1, true_and, and_self, c.round_at h]
end Go.XL
namespace Go.XL
open Go.Proofs
set_option maxRecDepth 100000
set_option maxHeartbeats 4000000
theorem yfw {t : List Int} {p : Int → Bool} {k : Nat} (h : k < t.length) (e : p t[k] = true) : t.any p = true := List.any_eq_true.2 ⟨_, List.getElem_mem h, e⟩
theorem yac {t : List Int} (h : 0 < t.length) : t.headD 0 = t[0] := by
 cases t with
 | nil => simp at h
 | cons a r => rfl
def zoo (t : List Int) (k : Nat) : Option Int := if k = 0 then none else t[k - 1]?
theorem ziu {t : List Int} {k : Nat} (h : k < t.length) : zoo t (k + 1) = some t[k] := by simp [zoo, List.getElem?_eq_getElem h]
theorem zkn {t : List Int} {k : Nat} (h : k < t.length) (hk : 0 < k) : ∃ hk' : k - 1 < t.length, zoo t k = some t[k - 1] := ⟨by omega, by simp [zoo, Nat.pos_iff_ne_zero.1 hk, List.getElem?_eq_getElem (show k - 1 < t.length by omega)]⟩
theorem zsi {c : Club} {round : Int} : ∀ {t : List Int} {pre : Option Int}, zeb c round t pre = 0 → ∀ id ∈ t, ¬ znm c id < 0
 | [], _, _, _, h => (List.not_mem_nil h).elim
 | x :: t, pre, e, id, h => by
  simp only [zeb] at e
  split at e
  ·cases e
  rename_i h1
  split at e
  ·cases e
  split at e
  ·cases e
  rcases List.mem_cons.1 h with rfl | h
  ·exact h1
  ·exact zsi e id h
theorem zrn {c : Club} {round first : Int} {t : List Int} {l : List (List Int)} {s : List Int} (h : ¬ (t.length : Int) = c.size) : zdc c round (t :: l) s first = 3 := by rw [zdc, if_pos h]
theorem zhz {c : Club} {round first e : Int} {t : List Int} {l : List (List Int)} {s : List Int} (h : (t.length : Int) = c.size) (h1 : zeb c round t none = e) (h2 : e ≠ 0) : zdc c round (t :: l) s first = e := by
 rw [zdc, if_neg (by omega), if_pos (by rw [h1]; exact h2), h1]
theorem zom {c : Club} {round first : Int} {t : List Int} {l : List (List Int)} {s : List Int} (h : (t.length : Int) = c.size) (h1 : zeb c round t none = 0) {k : Nat} (hk : k < t.length) (h2 : t[k] ∈ s) : zdc c round (t :: l) s first = 12 := by
 rw [zdc, if_neg (by omega), if_neg (by omega), if_pos (yfw hk (by simpa using h2))]
theorem zol {c : Club} {round first : Int} {t : List Int} {l : List (List Int)} {s : List Int} (h : (t.length : Int) = c.size) (h1 : zeb c round t none = 0) (h2 : ∀ x ∈ t, ¬ x ∈ s) (h3 : t.headD 0 ≤ first) : zdc c round (t :: l) s first = 11 := by
 rw [zdc, if_neg (by omega), if_neg (by omega), if_neg (by simp only [List.any_eq_true, not_exists, not_and]; intro x hx; simpa using h2 x hx), if_pos h3]
theorem zpv {c : Club} {round first : Int} {t : List Int} {l : List (List Int)} {s : List Int} (h : (t.length : Int) = c.size) (h1 : zeb c round t none = 0) (h2 : ∀ x ∈ t, ¬ x ∈ s) (h3 : ¬ t.headD 0 ≤ first) : zdc c round (t :: l) s first = zdc c round l (s ++ t) (t.headD 0) := by
 rw [zdc, if_neg (by omega), if_neg (by omega), if_neg (by simp only [List.any_eq_true, not_exists, not_and]; intro x hx; simpa using h2 x hx), if_neg h3]
end Go.XL
namespace Go.XL
open Go.Proofs
set_option maxRecDepth 100000
set_option maxHeartbeats 4000000
theorem zjt {c : Club} (h : zfv c = 0) : (3 ≤ c.size ∧ c.size ≤ 4) ∧ (0 ≤ c.start ∧ c.start ≤ 1000000) ∧ (-1000000 ≤ c.absent ∧ c.absent ≤ 1000000) ∧ (0 ≤ c.window ∧ c.window ≤ 20) ∧ zhy c.size c.places 1000000 0 = 0 := by
 unfold zfv at h
 split at h
 ·cases h
 split at h
 ·cases h
 split at h
 ·cases h
 split at h
 ·cases h
 rename_i h1 h2 h3 h4
 exact ⟨Decidable.not_not.1 h1, Decidable.not_not.1 h2, Decidable.not_not.1 h3, Decidable.not_not.1 h4, h⟩
theorem zjv {c : Club} {i : Nat} (h : i < c.rounds.length) : zdj c i (c.rounds.length - i) = if zem c i ≠ 0 then zem c i else if zid c i ≠ 0 then zid c i else zdj c (i + 1) (c.rounds.length - (i + 1)) := by
 rw [show c.rounds.length - i = (c.rounds.length - (i + 1)) + 1 by omega, zdj]
theorem zxj {c : Club} {i : Nat} (h : i < c.rounds.length) (h1 : ¬ zem c i = 0) : zdj c i (c.rounds.length - i) = zem c i := by rw [zjv h, if_pos h1]
end Go.XL
namespace Go.XL
open Go.Proofs
set_option maxRecDepth 100000
set_option maxHeartbeats 4000000
def sC (c : Club) (rs : List (List Int)) (bp R : Nat) (mt : V) (budget steps : Int) : List V :=
 [I c.size, I c.start, I c.absent, I c.window, ints c.places, Bo c.share, .lst (c.members.map Member.cells), .lst (c.rounds.map Sitting.cells), rows rs, .v (.slice (some ⟨bp, 0, none⟩) R R), mt, I budget, I steps]
@[go_sem] theorem sC_eq (c : Club) (rs : List (List Int)) (bp R : Nat) (mt : V) (budget steps : Int) : sC c rs bp R mt budget steps =
 [I c.size, I c.start, I c.absent, I c.window, ints c.places, Bo c.share, .lst (c.members.map Member.cells), .lst (c.rounds.map Sitting.cells), rows rs, .v (.slice (some ⟨bp, 0, none⟩) R R), mt, I budget, I steps] := rfl
def rowC (n b : Nat) : List V := [.v (.slice (some ⟨b, 0, none⟩) n n)]
@[go_sem] theorem rowC_eq (n b : Nat) : rowC n b = [.v (.slice (some ⟨b, 0, none⟩) n n)] := rfl
structure MetR (S : Sto) (bs : List Nat) (c : Club) (met : Int → Int → Bool) : Prop where
 len : bs.length = c.members.length
 row : ∀ (i : Nat) (h : i < bs.length) (h' : i < c.members.length), zac S bs[i] = some (.cells (c.members.map fun m => Bo (met c.members[i].id m.id)) 4)
end Go.XL
namespace Go.XL
open Go.Proofs
set_option maxRecDepth 100000
set_option maxHeartbeats 4000000
def Club.Asc (c : Club) : Prop := c.members.Pairwise fun a b => a.id < b.id
theorem yap {c : Club} (h : c.Asc) {i j : Nat} (hi : i < c.members.length) (hj : j < c.members.length) (e : c.members[i].id = c.members[j].id) : i = j := by
 rcases Nat.lt_trichotomy i j with h1 | h1 | h1
 ·have := List.pairwise_iff_getElem.1 h i j hi hj h1; omega
 ·exact h1
 ·have := List.pairwise_iff_getElem.1 h j i hj hi h1; omega
def updM (met : Int → Int → Bool) (a b : Int) (v : Bool) : Int → Int → Bool := fun x y => if x = a ∧ y = b then v else met x y
theorem yez {c : Club} (h : c.Asc) {k : Nat} (hk : k < c.members.length) (met : Int → Int → Bool) (a : Int) (v : Bool) :
  (c.members.map fun m => Bo (met a m.id)).set k (Bo v) = c.members.map fun m => Bo (updM met a c.members[k].id v a m.id) := by
 apply List.ext_getElem
 ·simp
 intro j h1 h2
 simp only [List.length_set, List.length_map] at h1
 rw [List.getElem_set]
 by_cases hj : k = j
 ·subst hj; simp [updM]
 ·have : ¬ c.members[j].id = c.members[k].id := fun e => hj (yap h hk h1 e.symm)
  simp [hj, updM, this]
theorem MetR.set {S : Sto} {bs : List Nat} {c : Club} {met : Int → Int → Bool} (m : MetR S bs c met) (hb : bs.Nodup) (h : c.Asc) {i k : Nat} (hi : i < c.members.length) (hk : k < c.members.length) (hi' : i < bs.length) (v : Bool) :
  MetR (setS bs[i] (.cells ((c.members.map fun m => Bo (met c.members[i].id m.id)).set k (Bo v)) 4) S) bs c (updM met c.members[i].id c.members[k].id v) := by
 refine ⟨m.len, fun j hj hj' => ?_⟩
 rw [zas (m.row i hi' hi)]
 by_cases e : j = i
 ·subst e
  rw [if_pos rfl, yez h hk]
 ·have hne : ¬ bs[j] = bs[i] := fun h' => e (List.getElem_inj hb |>.1 h')
  rw [if_neg hne, m.row j hj hj']
  have hid : ¬ c.members[j].id = c.members[i].id := fun h' => e (yap h hj' hi h')
  congr 2
  apply List.map_congr_left; intro x _
  simp [updM, hid]
end Go.XL
namespace Go.XL
open Go.Proofs
set_option maxRecDepth 100000
set_option maxHeartbeats 4000000
structure PRow where
 rows : List (List Int)
 blk : Option (Nat × Nat × List V)
def PRow.cell : PRow → V
 | ⟨_, none⟩ => .v (.slice none 0 0)
 | ⟨rows, some (b, cap, _)⟩ => .v (.slice (some ⟨b, 0, none⟩) rows.length cap)
def PRow.Ok (S : Sto) : PRow → Prop
 | ⟨rows, none⟩ => rows = []
 | ⟨rows, some (b, cap, junk)⟩ => zac S b = some (.cells ((rows.map fun t => ints t) ++ junk) 25) ∧ rows.length + junk.length = cap ∧ cap ≤ maxLen ∧ ∀ v ∈ junk, v.free = true
end Go.XL
namespace Go.XL
open Go.Proofs
set_option maxRecDepth 100000
set_option maxHeartbeats 4000000
theorem zhg {α : Type} {l m : List α} {i : Nat} (h : l.take i = m.take i) (hl : i < l.length) (hm : i < m.length) (e : l[i] = m[i]) : l.take (i + 1) = m.take (i + 1) := by
 rw [List.take_succ_eq_append_getElem hl, List.take_succ_eq_append_getElem hm, h, e]
theorem zlk {α : Type} {l m : List α} {i : Nat} (h : l.take i = m.take i) (hl : l.length ≤ i) (hm : m.length ≤ i) : l = m := by
 rwa [List.take_of_length_le hl, List.take_of_length_le hm] at h
theorem ztz (a b : List Int) : PC Try.prog 50 [ints a, ints b] (Bo (decide (a = b))) := by
 refine DC.of_run Try.func50 rfl Try.ntmps50 Try.results50 (by simp) (fun _ => ?_); simp only [zaf, zai, go_sem, Nat.zero_add, Nat.reduceAdd]
 refine zhv (t := 0) yG (.inl rfl) (fun hb0 => ?_); simp only [List.length_map] at hb0
 repeat' (first | (with_reducible first | refine zad yU yU yE ?_ | refine zab ?_ | refine DS.seq ?_ | refine zaa ?_ | (refine zbe yE ?_; refine zgu (fun _ => ?_) (fun _ => ?_)) | refine DS.block ?_ | refine DS.skip ?_) | refine zat [] yE trivial ?_ | fail)
 ·rename_i h; have : a ≠ b := fun e => by subst e; exact h rfl
  simp [tupV, this]
 refine zcp [0, 1] yN (fun (i : Nat) => [(5, I i)]) (fun (i : Nat) => i ≤ a.length ∧ a.take i = b.take i) (fun (i : Nat) => a.length - i) 0 yS (by simp) (fun i B hI hB => ?_); try dsimp only at hI hB; simp only [zaw, zbg]
 repeat' (first | (with_reducible first | refine zad yU yU yE ?_ | refine zab ?_ | refine DS.seq ?_ | refine zaa ?_ | (refine zbe yE ?_; first | refine zgu (fun _ => ?_) (fun _ => ?_) | refine zeq (fun _ => ?_) (fun _ => ?_)) | refine DS.blk ?_ | refine DS.block ?_ | refine DS.exit yU ?_ | refine DS.skip ?_) | refine zcr (id := 6) [0, 1, 2, 3, 4, 5, 6, 7] 8 (by kernel_rfl) zei (by simp only [zbp, zbx, zby, zbz, zbo]; exact rfl) (by simp only [zbk, zbl, List.drop_nil]; exact rfl) ?_ | (with_reducible first | refine zcj yU yU yU yE ?_ | refine zdm ?_) | refine zat [] yE trivial ?_ | fail)
 ·rename_i h1 h2
  have : a ≠ b := fun e => h2 (by subst e; rfl)
  simp [tupV, this]
 ·rename_i h1 h2
  exact DS.back (hB (i + 1) _ _ (by omega) (⟨by omega, zhg hI.2 (by omega) (by omega) h2⟩) yS yS (fun b o e => by first | exact e | (simp only [zae]; split <;> simp_all)))
 ·rename_i h1
  have := zlk hI.2 (by omega) (by omega)
  simp [tupV, this]
theorem zth (a b : List (List Int)) : PC Try.prog 34 [rows a, rows b] (Bo (decide (a = b))) := by
 refine DC.of_run Try.func34 rfl Try.ntmps34 Try.results34 (by simp) (fun _ => ?_); simp only [zaf, zai, go_sem, Nat.zero_add, Nat.reduceAdd]
 refine zhv (t := 0) yG (.inl rfl) (fun hb0 => ?_); simp only [List.length_map] at hb0
 repeat' (first | (with_reducible first | refine zad yU yU yE ?_ | refine zab ?_ | refine DS.seq ?_ | refine zaa ?_ | (refine zbe yE ?_; refine zgu (fun _ => ?_) (fun _ => ?_)) | refine DS.block ?_ | refine DS.skip ?_) | refine zat [] yE trivial ?_ | fail)
 ·rename_i h; have : a ≠ b := fun e => by subst e; exact h rfl
  simp [tupV, this]
 refine zcp [0, 1] yN (fun (i : Nat) => [(5, I i)]) (fun (i : Nat) => i ≤ a.length ∧ a.take i = b.take i) (fun (i : Nat) => a.length - i) 0 yS (by simp) (fun i B hI hB => ?_); try dsimp only at hI hB; simp only [zaw, zbg]
 repeat' (first | (with_reducible first | refine zad yU yU yE ?_ | refine zab ?_ | refine DS.seq ?_ | refine zaa ?_ | (refine zbe yE ?_; first | refine zgu (fun _ => ?_) (fun _ => ?_) | refine zeq (fun _ => ?_) (fun _ => ?_)) | refine DS.blk ?_ | refine DS.block ?_ | refine DS.exit yU ?_ | refine DS.skip ?_) | refine zav inferInstance (ztz _ _) yR yT ?_ | refine zcr (id := 6) [0, 1, 2, 3, 4, 5, 6, 7] 8 (by kernel_rfl) zei (by simp only [zbp, zbx, zby, zbz, zbo]; exact rfl) (by simp only [zbk, zbl, List.drop_nil]; exact rfl) ?_ | (with_reducible first | refine zcj yU yU yU yE ?_ | refine zdm ?_) | refine zat [] yE trivial ?_ | fail)
 ·rename_i h1 h2
  have : a ≠ b := fun e => h2 (by subst e; rfl)
  simp [tupV, this]
 ·rename_i h1 h2
  exact DS.back (hB (i + 1) _ _ (by omega) (⟨by omega, zhg hI.2 (by omega) (by omega) h2⟩) yS yS (fun b o e => by first | exact e | (simp only [zae]; split <;> simp_all)))
 ·rename_i h1
  have := zlk hI.2 (by omega) (by omega)
  simp [tupV, this]
theorem zlb (a b : List (List Int)) : PC Try.prog 16 [rows a, rows b] (Bo (decide (a = b))) := by
 refine DC.of_run Try.func16 rfl Try.ntmps16 Try.results16 (by simp) (fun _ => ?_); simp only [zaf, zai, go_sem, Nat.zero_add, Nat.reduceAdd]
 repeat' (first | (with_reducible first | refine zad yU yU yE ?_ | refine zab ?_ | refine DS.seq ?_ | refine zaa ?_) | refine zav inferInstance (zth _ _) yR yT ?_ | refine zat [] yE trivial ?_ | fail)
 rfl
end Go.XL
namespace Go.XL
open Go.Proofs
set_option maxRecDepth 100000
set_option maxHeartbeats 4000000
theorem zkf {α β : Type} (f : α → β) (l : List α) : (l.map f).take l.length = l.map f := List.take_of_length_le (by simp)
theorem znq {α β : Type} (f : α → β) (l : List α) (n : Nat) : (l.map f).drop n = (l.drop n).map f := by rw [List.map_drop]
end Go.XL
namespace Go.XL
open Go.Proofs
set_option maxRecDepth 100000
set_option maxHeartbeats 4000000
theorem zin {P : Program} {n : Nat} {r : Rr} {Q : VEnv → Sto → Prop} {k : List Fr} {E : VEnv} {S : Sto} {id : Nat} {os l1 l2 : List Oper} (S0 S1 : Sto) (ord : List Nat) (m : Nat) (hok : zly os.toArray ord m = true) (hm : P.follows .mixedOrders = true) (h1 : zmc os ord = l1) (h2 : os.drop m = l2)
  (h0 : ∀ b o, zac S0 b = some o → zac S b = some o ∧ zac S1 b = none) (h3 : ∀ b o, zac S1 b = some o → zac S b = some o)
  (q : DD P n r Q os S0 [] l1 (.ops os l2 :: k) E E S1) : DS P n r Q (.code (.region id os.toArray true) :: k) E S :=
 zuz S0 S1 [] MpOk.nil ord m hok hm h0 h3 (by rw [zko, h1]; simpa [h2] using q)
theorem PRow.Ok.of {S S' : Sto} {p : PRow} (h : p.Ok S) (e : ∀ b cap j, p.blk = some (b, cap, j) → zac S' b = zac S b) : p.Ok S' := by
 obtain ⟨T, blk⟩ := p
 cases blk with
 | none => exact h
 | some x =>
  obtain ⟨b, cap, j⟩ := x
  obtain ⟨h1, h2⟩ := h
  exact ⟨by rw [e b cap j rfl]; exact h1, h2⟩
theorem MetR.of {S S' : Sto} {bs : List Nat} {c : Club} {met : Int → Int → Bool} (m : MetR S bs c met) (e : ∀ b, b ∈ bs → zac S' b = zac S b) : MetR S' bs c met :=
 ⟨m.len, fun i h h' => by rw [e _ (List.getElem_mem h)]; exact m.row i h h'⟩
end Go.XL
namespace Go.XL
open Go.Proofs
set_option maxRecDepth 100000
set_option maxHeartbeats 4000000
structure Box (p : Prop) : Prop where
 out : p
theorem PRow.split {S : Sto} {p : PRow} (h : p.Ok S) : ∃ S0 S1, (∀ b o, zac S0 b = some o → zac S b = some o ∧ zac S1 b = none) ∧ (∀ b o, zac S1 b = some o → zac S b = some o) ∧ p.Ok S1 ∧
  ∀ b, (∀ cap j, p.blk ≠ some (b, cap, j)) → zac S0 b = zac S b ∧ zac S1 b = none := by
 obtain ⟨T, blk⟩ := p
 cases blk with
 | none => exact ⟨S, [], fun _ _ e => ⟨e, rfl⟩, (fun _ _ e => by cases e), h, fun _ _ => ⟨rfl, rfl⟩⟩
 | some x =>
  obtain ⟨b0, cap, j⟩ := x
  obtain ⟨h1, h2⟩ := h
  refine ⟨delS b0 S, [(b0, .cells ((T.map fun t => ints t) ++ j) 25)], fun b o e => ?_, fun b o e => ?_, ⟨by simp [zac], h2⟩, fun b hb => ?_⟩
  ·rw [zbw] at e
   split at e
   ·cases e
   ·rename_i hne
    exact ⟨e, by simp only [zac]; rw [if_neg (fun h => hne h.symm)]⟩
  ·simp only [zac] at e
   split at e
   ·rename_i hbb; subst hbb; rw [h1]; exact e
   ·cases e
  ·have hne : ¬ b0 = b := fun h => hb cap j (by rw [h])
   exact ⟨by rw [zbw, if_neg (fun h => hne h.symm)], by simp only [zac]; rw [if_neg hne]⟩
theorem PRow.cell_copy (p : PRow) : p.cell.copy = p.cell := by
 obtain ⟨T, blk⟩ := p
 cases blk <;> rfl
theorem PRow.cell_some (T : List (List Int)) (b cap : Nat) (j : List V) : PRow.cell ⟨T, some (b, cap, j)⟩ = .v (.slice (some ⟨b, 0, none⟩) T.length cap) := rfl
theorem zyv (T : List (List Int)) {j : List V} (h : ∀ v ∈ j, v.free = true) : ∀ v ∈ (T.map fun t => ints t) ++ j, v.free = true := fun v hv => by
 rcases List.mem_append.1 hv with h1 | h1
 ·obtain ⟨t, _, rfl⟩ := List.mem_map.1 h1; rfl
 ·exact h v h1
section
variable {v0 : VH} {P : Program} {n : Nat} {E : VEnv} {S : Sto} {dst : Option Tmp} {ty : TypeId} {pos : String} {af : Array Edge}
theorem zya {p : PRow} {T t by_ : Nat} {z : Value} {sx x : Operand} {vx : V} {tab : List Int} (hd : dst = some t) (ht : tel P T = some (25, 1, by_)) (hz : zdb P 25 = some z) (hzs : z.cells.size = 1) (hzo : zgh z.cells.toList = true)
  (hs : evV E sx = some p.cell) (hok : p.Ok S) (hx : evV E x = some vx) (hxl : zds vx = some [[ints tab]]) (hfit : p.rows.length + 1 ≤ 2147483648 ∧ by_ ≤ 65536) :
  OpS v0 P n ⟨dst, .call { callee := .builtin .append, args := #[sx, x], argTypes := #[T, T] }, ty, pos, af, none⟩ E S
   (fun u E' S' => E' = E ∧ ∃ b' cap' junk, u = PRow.cell ⟨p.rows ++ [tab], some (b', cap', junk)⟩ ∧ PRow.Ok S' ⟨p.rows ++ [tab], some (b', cap', junk)⟩ ∧ ((∃ cap j, p.blk = some (b', cap, j)) ∨ zac S b' = none) ∧
    ∀ b, b ≠ b' → (∀ cap j, p.blk ≠ some (b, cap, j)) → zac S' b = zac S b) := by
 obtain ⟨R, blk⟩ := p
 intro K D hv hold env a w hfl ha s
 cases blk with
 | none =>
  simp only [PRow.Ok] at hok
  subst hok
  refine (zqz hd ht hz hzs hzo (by decide) hs hx hxl (by simp) (by simp) (by simpa [Fits] using hfit) K D hv hold env a w hfl ha s).mono ?_
  rintro y w' ⟨hsame, u, E2, S2, hv2, hold2, q1, q2, h1, b', cap', junk, h2, h3, h4, h5, h6, h7, h8⟩
  refine ⟨hsame, u, E2, S2, hv2, hold2, q1, q2, h1, b', cap', junk, ?_, ?_, ?_, ?_⟩
  ·rw [h2]; simp [PRow.cell]
  ·subst h3
   refine ⟨by simp [zac, V.copy], by simpa using h5, h7, h8⟩
  ·exact .inr (h4.resolve_left (by simp))
  ·intro b hb _
   subst h3
   simp only [zac, delB]
   rw [if_neg (fun h => hb h.symm)]
 | some x =>
  obtain ⟨b0, cap0, j0⟩ := x
  obtain ⟨k1, k2, k3, k4⟩ := hok
  refine (zra hd ht hz hzs hzo (by decide) hs k1 (by simpa using k2) (by omega) k3 (zyv R k4) hx hxl (by simp) (by simp) (by simpa [Fits] using hfit) K D hv hold env a w hfl ha s).mono ?_
  rintro y w' ⟨hsame, u, E2, S2, hv2, hold2, q1, q2, h1, b', cap', junk, h2, h3, h4, h5, h6, h7, h8⟩
  refine ⟨hsame, u, E2, S2, hv2, hold2, q1, q2, h1, b', cap', junk, ?_, ?_, ?_, ?_⟩
  ·rw [h2]; simp [PRow.cell]
  ·subst h3
   refine ⟨?_, by simpa using h5, h7, h8⟩
   simp only [zac, if_true, Option.some.injEq, Ob.cells.injEq, and_true]
   simp [V.copy]
  ·rcases h4 with h4 | h4
   ·cases h4; exact .inl ⟨_, _, rfl⟩
   ·exact .inr h4
  ·intro b hb hnb
   subst h3
   simp only [zac, delB]
   rw [if_neg (fun h => hb h.symm), zbw, if_neg]
   intro h; subst h; exact hnb _ _ rfl
end
end Go.XL
namespace Go.XL
open Go.Proofs
theorem zqn (l : List Member) {g : FuncId} {fs cs : List V} {fn : Func} (p : Member → Bool) (hf : FnOk Try.prog g fn) (h : ∀ m, PC Try.prog g (fs ++ [m.val] ++ cs) (Bo (p m))) :
  PC Try.prog 47 [.lst (l.map Member.cells), .fn g fs cs] (I (idxF p l 0)) := by
 refine DC.of_run Try.func47 rfl Try.ntmps47 Try.results47 (by simp) (fun _ => ?_); simp only [zaf, zai, go_sem, Nat.zero_add, Nat.reduceAdd]
 refine zhv (t := 0) yG (.inl rfl) (fun hb0 => ?_); simp only [List.length_map] at hb0
 repeat' (first | (with_reducible first | refine zad yU yU yE ?_ | refine zab ?_ | refine DS.seq ?_ | refine zaa ?_ | refine DS.block ?_) | fail)
 refine zrc (fun (i : Nat) => [(0, .lst (l.map Member.cells)), (1, .fn g fs cs), (7, I l.length), (8, I i)]) (fun (i : Nat) => []) (fun (i : Nat) => i ≤ l.length ∧ idxF p l 0 = idxF p (l.drop i) i) (fun (i : Nat) => l.length - i) 0 yS yS (by simp) (fun i B hI hB => ?_); try dsimp only at hI hB ⊢
 repeat' (first | (with_reducible first | refine zad yU yU yE ?_ | refine zab ?_ | refine DS.seq ?_ | refine zaa ?_ | (refine zbe yE ?_; refine zeq (fun _ => ?_) (fun _ => ?_)) | refine DS.block ?_ | refine DS.exit yU ?_ | refine DS.skip ?_) | refine zat [] yE trivial ?_ | fail)
 ·refine zux hf (by simp (disch := omega) only [go_sem, dopV, Option.map_some, Option.map_none, Option.bind_some, Option.bind_none, ↓reduceIte, Nat.reduceEqDiff, Nat.reduceLT, Nat.reduceLeDiff, Nat.reduceAdd, Nat.reduceMul, Nat.reduceSub, Nat.zero_add, Nat.add_zero, Nat.zero_le, Nat.zero_mul, Nat.mul_one, Nat.one_mul, Int.natCast_zero, Int.toNat_zero, Int.reduceToNat, Int.reduceLT, Int.reduceLE, Int.reduceEq, decide_true, decide_false, true_and, and_true, Bool.and_self, Bool.and_true, Bool.true_and, Bool.not_true, Bool.not_false, IntWalk.toNatUp, IntWalk.iteOmega, IntWalk.i64_in, Option.isSome_some, not_true_eq_false, not_false_eq_true, Option.getD_some, Option.getD_none, Int.toNat_natCast, List.length_map, List.getElem?_map, List.getElem?_eq_getElem, V.flat, V.one, List.all_cons, List.all_nil]) (h l[i]) yR yG ?_
  repeat' (first | (with_reducible first | refine zad yU yU yE ?_ | refine zab ?_ | refine DS.seq ?_ | refine zaa ?_ | (refine zbe yE ?_; refine ygg (fun _ => ?_) (fun _ => ?_)) | refine DS.blk ?_ | refine DS.skip ?_) | refine zat [] yE trivial ?_ | fail)
  ·rename_i h1 h2
   have := zja (p := p) (l := l) (i := i) (by omega) h2
   simp only [tupV]; rw [hI.2, this]
  ·rename_i h1 h2
   exact DS.back (hB (i + 1) _ _ (by omega) ⟨by omega, by rw [hI.2, zhb (by omega) h2]⟩ yS yS)
 ·have := zjb (p := p) (l := l) (i := i) (by omega)
  simp only [tupV]; rw [hI.2, this]
theorem ydn (m : Member) (id : Int) : PC Try.prog 48 [m.val, .plc [I id]] (Bo (decide (m.id = id))) := by
 refine DC.of_run Try.func48 rfl Try.ntmps48 Try.results48 (by simp) (fun _ => ?_); simp only [zaf, zai, go_sem, Nat.zero_add, Nat.reduceAdd]
 repeat' (first | (with_reducible first | refine zad yU yU yE ?_ | refine zab ?_ | refine DS.seq ?_ | refine zaa ?_) | (refine zci (t := 2) yU yE yU ?_; simp only [zbh, zcg, zbf, zbv, zbc, zau, zbq, zay, zcd, zcf, zbr, zce, zbu, zbt]) | refine zat [] yE trivial ?_ | fail)
 all_goals first | (simp_all [tupV]; done)
theorem yfn (c : Club) (id : Int) : PC Try.prog 30 [c.val, I id] (I (idxF (fun m => decide (m.id = id)) c.members 0)) := by
 refine DC.of_run Try.func30 rfl Try.ntmps30 Try.results30 (by simp) (fun _ => ?_); simp only [zaf, zai, go_sem, Nat.zero_add, Nat.reduceAdd]
 repeat (first | refine DS.seq ?_ | refine DS.block ?_ | refine DS.scope ?_ | refine DS.region ?_ | refine zab ?_ | refine DS.blk ?_ | refine DS.label ?_ | refine DS.skip ?_ | refine DS.exit yR ?_ | refine zad yR yR yG ?_ | refine yje yG yR ?_ | refine yjf yG yR ?_ | refine yho yG yR ?_ | refine yhp yG yR yR ?_ | refine yhn yG yR yR ?_ )
 refine zln yR yG yR (fun b hb => ?_); have hb := zff hb; simp only [zdq, zed, and_true, zbh, zcg, zbf, zbv, zbc, zau, zbq, zay, zcd, zcf, zbr, zce, zbu, zbt, ite_eq_right_iff, reduceCtorEq, imp_false] at hb ⊢
 refine zln yR yG yR (fun d hd => ?_); have hd := zff hd; simp only [zdq, zed, and_true, zbh, zcg, zbf, zbv, zbc, zau, zbq, zay, zcd, zcf, zbr, zce, zbu, zbt, ite_eq_right_iff, reduceCtorEq, imp_false] at hd ⊢
 refine zji (t := 3) yE yE ?_; simp only [zbs, zcc, ↓reduceIte, *, zbc, zau, zbq, zay, zcd, zcf, zbr, zce]
 repeat' (first | (with_reducible first | refine zad yU yU yE ?_ | refine zab ?_ | refine DS.seq ?_ | refine zaa ?_) | refine zav inferInstance (zqn c.members (fun m => decide (m.id = id)) inferInstance (fun m => ydn m id)) yR yT ?_ | refine zat [] yE trivial ?_ | fail)
 all_goals first | (simp_all [tupV]; done)
end Go.XL
namespace Go.XL
open Go.Proofs
theorem zxa {most : Int} {l : List Int} {i : Nat} {w : Int} (hi : i < l.length) (h : -most ≤ l[i] ∧ l[i] ≤ most) : zel most (l.drop i) w = zel most (l.drop (i + 1)) (w - l[i]) := by
 rw [List.drop_eq_getElem_cons hi, zel, if_pos h]
theorem ztt {most : Int} {l : List Int} {i : Nat} {w : Int} (hi : i < l.length) (h : ¬ (-most ≤ l[i] ∧ l[i] ≤ most)) : zel most (l.drop i) w = 2 := by
 rw [List.drop_eq_getElem_cons hi, zel, if_neg h]
theorem zmr {most : Int} {l : List Int} {i : Nat} {w : Int} (hi : l.length ≤ i) : zel most (l.drop i) w = if w = 0 then 0 else 12 := by
 rw [List.drop_eq_nil_of_le hi, zel]
theorem zvg (c : Club) (l : List Int) (most want : Int) (h1 : c.size ≤ 4) (h2 : 0 ≤ most ∧ most ≤ 1099511627776) (h3 : -1099511627776 ≤ want ∧ want ≤ 1099511627776) : PC Try.prog 35 [c.val, ints l, I most, I want] (I (zhy c.size l most want)) := by
 refine DC.of_run Try.func35 rfl Try.ntmps35 Try.results35 (by simp) (fun _ => ?_); simp only [zaf, zai, go_sem, Nat.zero_add, Nat.reduceAdd]
 refine zhv (t := 1) yG (.inl rfl) (fun hb1 => ?_); simp only [List.length_map] at hb1
 repeat' (first | (with_reducible first | refine zad yU yU yE ?_ | refine zab ?_ | refine DS.seq ?_ | refine zaa ?_ | (refine zbe yE ?_; refine zgu (fun _ => ?_) (fun _ => ?_)) | refine DS.block ?_ | refine DS.skip ?_) | (refine zci (t := 4) yU yE yU ?_; simp only [zbh, zcg, zbf, zbv, zbc, zau, zbq, zay, zcd, zcf, zbr, zce, zbu, zbt]) | refine zat [] yE trivial ?_ | fail)
 ·simp [tupV, zhy, *]
 refine zrc (fun (i : Nat × Int) => [(1, ints l), (2, I most), (3, I i.2), (16, ints l), (17, I l.length), (18, I i.1)]) (fun (i : Nat × Int) => []) (fun (i : Nat × Int) => i.1 ≤ l.length ∧ zel most l want = zel most (l.drop i.1) i.2 ∧ -1099511627776 * (i.1 + 1) ≤ i.2 ∧ i.2 ≤ 1099511627776 * (i.1 + 1)) (fun (i : Nat × Int) => l.length - i.1) (0, want) yS yS (by simp; omega) (fun i B hI hB => ?_); try dsimp only at hI hB ⊢
 repeat' (first | (with_reducible first | refine zad yU yU yE ?_ | refine zab ?_ | refine DS.seq ?_ | refine zaa ?_ | (refine zbe yE ?_; first | refine zgu (fun _ => ?_) (fun _ => ?_) | refine zeq (fun _ => ?_) (fun _ => ?_)) | refine DS.blk ?_ | refine DS.block ?_ | refine DS.exit yU ?_ | refine DS.skip ?_) | refine zav inferInstance (zfd _ _ _) yR yT ?_ | refine zat [] yE trivial ?_ | fail)
 ·rename_i q1 q2
  have hs : (l.length : Int) = c.size := by omega
  rw [zes, zhy, if_pos hs, hI.2.1, ztt (by omega) (by simpa using q2)]
 ·rename_i q1 q2
  have q3 : -most ≤ l[i.1] ∧ l[i.1] ≤ most := by simpa using q2
  exact DS.back (hB (i.1 + 1, i.2 - l[i.1]) _ _ (by simp; omega) ⟨by simp; omega, by rw [hI.2.1, zxa (by omega) q3], by simp; omega, by simp; omega⟩ yS yS)
 ·rename_i q1 q2
  have hs : (l.length : Int) = c.size := by omega
  rw [zes, zhy, if_pos hs, hI.2.1, zmr (by omega), if_neg (by simpa using q2)]
 ·rename_i q1 q2
  have hs : (l.length : Int) = c.size := by omega
  rw [zes, zhy, if_pos hs, hI.2.1, zmr (by omega), if_pos (by simpa using q2)]
end Go.XL
