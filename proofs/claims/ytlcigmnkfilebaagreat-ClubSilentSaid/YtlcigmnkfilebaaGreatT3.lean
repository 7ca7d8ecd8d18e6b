/- A part of a program logic over the kit's walk rules, and contracts of functions in it. Conditions: as each theorem says. -/
import Derived.Test.YtlcigmnkfilebaaGreatT2
import Derived.Test.YtlcigmnkfilebaaGreatProg
import Derived.KernelRfl
set_option linter.all false
namespace Go.XL
def zzd : Sto → Nat → Prop
 | [], _ => True
 | (d, _) :: r, b => (d ≠ b ∧ b ≠ d) ∧ zzd r b
theorem zim (b : Nat) : zzd [] b ↔ True := Iff.rfl
theorem zhj (d : Nat) (o : Ob) (r : Sto) (b : Nat) : zzd ((d, o) :: r) b ↔ (¬ d = b ∧ ¬ b = d) ∧ zzd r b := Iff.rfl
theorem zkk : ∀ {S : Sto} {b : Nat}, zad S b = none → zzd S b
 | [], _, _ => trivial
 | (d, o) :: r, b, h => by
  simp only [zad] at h
  split at h
  ·cases h
  ·rename_i hd; exact ⟨⟨hd, fun e => hd e.symm⟩, zkk h⟩
section
variable {P : Program} {n : Nat} {r : Rr} {Q : VEnv → Sto → Prop} {k : List Fr} {E0 E : VEnv} {S S0 S1 : Sto} {Mp : List MpE} {ops l : List Oper} {t : Nat} {dst : Option Tmp} {op : Op} {ty : TypeId} {pos : String} {af : Array Edge}
theorem yoq {id : Nat} {os : Array Oper} (ord : List Nat) (m : Nat) (hok : zon os ord m = true) (hm : P.follows .mixedOrders = true)
  (q : DD P n r Q os.toList S [] (ord.filterMap (os[·]?)) (.ops os.toList (os.toList.drop m) :: k) E E []) : DS P n r Q (.code (.region id os true) :: k) E S :=
 ych S [] [] MpOk.nil ord m hok hm (fun _ _ e => ⟨e, rfl⟩) (fun _ _ e => by cases e) q
theorem zdc (q : DS P n r Q k E S0) : DD P n r Q ops S0 Mp [] k E0 E [] := DD.nil q
theorem zbw {v : V} (hs1 : zkv op = false) (hh : zza op = false) (hd : decide (t < n) = true) (hv : dopV P S0 (evV E0) op = some v) (q : DD P n r Q ops S0 Mp l k ((t, v) :: E0) ((t, v) :: E) S1) :
  DD P n r Q ops S0 Mp (⟨some t, op, ty, pos, af, none⟩ :: l) k E0 E S1 := ysy (dst := some t) hs1 hh hd hv q
theorem zks {v : V} (hs1 : zkv op = false) (hh : zza op = false) (hld : yjd op = false) (hd : decide (t < n) = true) (hv : dopV P [] (evV E) op = some v) (q : DD P n r Q ops S0 Mp l k (delV t E0) ((t, v) :: E) S1) :
  DD P n r Q ops S0 Mp (⟨some t, op, ty, pos, af, none⟩ :: l) k E0 E S1 := yqz (dst := some t) hs1 hh hld hd hv q
theorem ysw {j : Nat} {b : Bool} {x : V} (e : zgt E ops n j = some x) (hx : x = .v (.bool b)) (q : DD P n r Q ops S0 Mp (⟨dst, op, ty, pos, af, none⟩ :: l) k E0 E S1) : DD P n r Q ops S0 Mp (⟨dst, op, ty, pos, af, some (j, b)⟩ :: l) k E0 E S1 := yst (hx ▸ e) q
theorem ysx {j : Nat} {b : Bool} {x : V} (e : zgt E ops n j = some x) (hx : x = .v (.bool (!b))) (hd : decide (t < n) = true) (q : DD P n r Q ops S0 Mp l k ((t, .v undef) :: E0) ((t, .v undef) :: E) S1) : DD P n r Q ops S0 Mp (⟨some t, op, ty, pos, af, some (j, b)⟩ :: l) k E0 E S1 := ysu (dst := some t) (hx ▸ e) rfl hd q
theorem ysv {j : Nat} {b : Bool} {x : V} (e : zgt E ops n j = some x) (hx : x = .v undef) (hd : decide (t < n) = true) (q : DD P n r Q ops S0 Mp l k ((t, .v undef) :: E0) ((t, .v undef) :: E) S1) : DD P n r Q ops S0 Mp (⟨some t, op, ty, pos, af, some (j, b)⟩ :: l) k E0 E S1 := yss (dst := some t) (hx ▸ e) hd q
theorem zpa {g : FuncId} {args : List V} {xs : Array Operand} {ts : Array TypeId} {fn : Func} {v : V} (hf : FnOk P g fn) (hc : PC P g args v) (hd : decide (t < n) = true) (he : (evsV (evV E) xs.toList).map (·.map V.peek) = some args)
  (q : DD P n r Q ops S0 Mp l k (delV t E0) ((t, v) :: E) S1) : DD P n r Q ops S0 Mp (⟨some t, .call { callee := .value (.func g), args := xs, argTypes := ts }, ty, pos, af, none⟩ :: l) k E0 E S1 := yua (dst := some t) hf hc hd he q
theorem DD.boxS {T : TypeId} {x : Operand} {v : V} (hd : decide (t < n) = true) (he : evV E x = some v) (hf : v.flat = true) (q : ∀ u, zad S1 u = none → zad S0 u = none → DD P n r Q ops S0 Mp l k ((t, .v (.pointer (some ⟨u, 0, none⟩))) :: E0) ((t, .v (.pointer (some ⟨u, 0, none⟩))) :: E) ((u, .cells (v.cells.map V.copy) T) :: S1)) :
  DD P n r Q ops S0 Mp (⟨some t, .box T x, ty, pos, af, none⟩ :: l) k E0 E S1 := DD.box (dst := some t) hd he hf q
theorem ycf {ts : Array TypeId} {cx : Operand} {g : FuncId} {fs cs args : List V} {xs : Array Operand} {fn : Func} {v : V} (hf : FnOk P g fn) (hcx : evV E cx = some (.fn g fs cs)) (hc : PC P g (fs ++ args ++ cs) v) (hd : decide (t < n) = true)
  (he : (evsV (evV E) xs.toList).map (·.map V.peek) = some args) (q : DS P n r Q (.ops ops l :: k) ((t, v) :: E) S) :
  DS P n r Q (.ops ops (⟨some t, .call { callee := .value cx, args := xs, argTypes := ts }, ty, pos, af, none⟩ :: l) :: k) E S := ysf (dst := some t) hf hcx hc hd he q
theorem zjc {v : V} {l : List (List V)} (hE : zdg E t = some v) (hv : v = .lst l ∨ ∃ m e sz, v = .own m e sz l) (q : l.length ≤ 9223372036854775807 → DS P n r Q k E S) : DS P n r Q k E S := fun K W a w ⟨K', D, hvv, hold, env, hb, ha, s⟩ hw => by
 obtain ⟨y, h1, h2, _⟩ := s.slot t v hE
 have : l.length ≤ maxLen := by
  rcases hv with rfl | ⟨m, e, sz, rfl⟩
  all_goals
   simp only [V.Rl] at h2
   obtain ⟨_, cap, _, _, h3, h4, _⟩ := h2
   omega
 exact q (by simpa [maxLen] using this) K W a w ⟨K', D, hvv, hold, env, hb, ha, s⟩ hw
def CG (P : Program) (n : Nat) (r : Rr) (Q : VEnv → Sto → Prop) (x y : Code) (k : List Fr) (E : VEnv) (S : Sto) (v : V) : Prop :=
 (∃ t, v = .v (.bool t)) ∧ (v = .v (.bool true) → DS P n r Q (.code x :: k) E S) ∧ (v = .v (.bool false) → DS P n r Q (.code y :: k) E S)
theorem zbd {c : Operand} {x y : Code} {v : V} (e : evV E c = some v) (q : CG P n r Q x y k E S v) : DS P n r Q (.code (.cond c x y) :: k) E S := by
 obtain ⟨⟨t, rfl⟩, q1, q2⟩ := q
 exact DS.cond e (fun h => q1 (by rw [h])) (fun h => q2 (by rw [h]))
theorem zde {x y : Code} (q : DS P n r Q (.code x :: k) E S) : CG P n r Q x y k E S (.v (.bool true)) := ⟨⟨_, rfl⟩, fun _ => q, (fun h => by cases h)⟩
theorem zdk {x y : Code} (q : DS P n r Q (.code y :: k) E S) : CG P n r Q x y k E S (.v (.bool false)) := ⟨⟨_, rfl⟩, (fun h => by cases h), fun _ => q⟩
theorem zel {x y : Code} {p : Prop} {_ : Decidable p} (q1 : p → DS P n r Q (.code x :: k) E S) (q2 : ¬ p → DS P n r Q (.code y :: k) E S) : CG P n r Q x y k E S (.v (.bool (decide p))) :=
 ⟨⟨_, rfl⟩, fun h => q1 (by simpa using h), fun h => q2 (by simpa using h)⟩
theorem yha {x y : Code} {t : Bool} (q1 : t = true → DS P n r Q (.code x :: k) E S) (q2 : t = false → DS P n r Q (.code y :: k) E S) : CG P n r Q x y k E S (.v (.bool t)) :=
 ⟨⟨_, rfl⟩, fun h => q1 (by simpa using h), fun h => q2 (by simpa using h)⟩
def GG (P : Program) (n : Nat) (r : Rr) (Q : VEnv → Sto → Prop) (b : Bool) (t : Nat) (op : Op) (ty : TypeId) (pos : String) (af : Array Edge) (ops l : List Oper) (k : List Fr) (E : VEnv) (S : Sto) (v : V) : Prop :=
 ((∃ u, v = .v (.bool u)) ∨ v = .v undef) ∧ (v = .v (.bool b) → DS P n r Q (.ops ops (⟨some t, op, ty, pos, af, none⟩ :: l) :: k) E S) ∧ (v ≠ .v (.bool b) → DS P n r Q (.ops ops l :: k) ((t, .v undef) :: E) S)
theorem zdz {j : Nat} {b : Bool} {v : V} (hd : decide (t < n) = true) (e : zgt E ops n j = some v) (q : GG P n r Q b t op ty pos af ops l k E S v) :
  DS P n r Q (.ops ops (⟨some t, op, ty, pos, af, some (j, b)⟩ :: l) :: k) E S := by
 obtain ⟨⟨u, rfl⟩ | rfl, q1, q2⟩ := q
 ·by_cases h : u = b
  ·subst h; exact ysl e rfl (q1 rfl)
  ·refine ysm e (by cases u <;> cases b <;> simp_all) hd (q2 (by simpa using h))
 ·exact ysk e rfl hd (q2 (by simp [undef]))
theorem GG.run {b : Bool} (q : DS P n r Q (.ops ops (⟨some t, op, ty, pos, af, none⟩ :: l) :: k) E S) : GG P n r Q b t op ty pos af ops l k E S (.v (.bool b)) := ⟨.inl ⟨_, rfl⟩, fun _ => q, fun h => (h rfl).elim⟩
theorem zfo (q : DS P n r Q (.ops ops l :: k) ((t, .v undef) :: E) S) : GG P n r Q true t op ty pos af ops l k E S (.v (.bool false)) := ⟨.inl ⟨_, rfl⟩, (fun h => by cases h), fun _ => q⟩
theorem ztg (q : DS P n r Q (.ops ops l :: k) ((t, .v undef) :: E) S) : GG P n r Q false t op ty pos af ops l k E S (.v (.bool true)) := ⟨.inl ⟨_, rfl⟩, (fun h => by cases h), fun _ => q⟩
theorem yaj {b : Bool} (q : DS P n r Q (.ops ops l :: k) ((t, .v undef) :: E) S) : GG P n r Q b t op ty pos af ops l k E S (.v undef) := ⟨.inr rfl, fun h => by simp [undef] at h, fun _ => q⟩
theorem zow {p : Prop} {_ : Decidable p} (q1 : p → DS P n r Q (.ops ops (⟨some t, op, ty, pos, af, none⟩ :: l) :: k) E S) (q2 : ¬ p → DS P n r Q (.ops ops l :: k) ((t, .v undef) :: E) S) : GG P n r Q true t op ty pos af ops l k E S (.v (.bool (decide p))) :=
 ⟨.inl ⟨_, rfl⟩, fun h => q1 (by simpa using h), fun h => q2 (by simpa using h)⟩
theorem yse {p : Prop} {_ : Decidable p} (q1 : ¬ p → DS P n r Q (.ops ops (⟨some t, op, ty, pos, af, none⟩ :: l) :: k) E S) (q2 : p → DS P n r Q (.ops ops l :: k) ((t, .v undef) :: E) S) : GG P n r Q false t op ty pos af ops l k E S (.v (.bool (decide p))) :=
 ⟨.inl ⟨_, rfl⟩, fun h => q1 (by simpa using h), fun h => q2 (by simpa using h)⟩
theorem ytw {u : Bool} (q1 : u = true → DS P n r Q (.ops ops (⟨some t, op, ty, pos, af, none⟩ :: l) :: k) E S) (q2 : u = false → DS P n r Q (.ops ops l :: k) ((t, .v undef) :: E) S) : GG P n r Q true t op ty pos af ops l k E S (.v (.bool u)) :=
 ⟨.inl ⟨_, rfl⟩, fun h => q1 (by simpa using h), fun h => q2 (by simpa using h)⟩
theorem ytx {u : Bool} (q1 : u = false → DS P n r Q (.ops ops (⟨some t, op, ty, pos, af, none⟩ :: l) :: k) E S) (q2 : u = true → DS P n r Q (.ops ops l :: k) ((t, .v undef) :: E) S) : GG P n r Q false t op ty pos af ops l k E S (.v (.bool u)) :=
 ⟨.inl ⟨_, rfl⟩, fun h => q1 (by simpa using h), fun h => q2 (by simpa using h)⟩
theorem zaa {id : Nat} {os : List Oper} (q : DS P n r Q (.ops os os :: k) E S) : DS P n r Q (.code (.region id os.toArray false) :: k) E S := DS.region (ops := os.toArray) q
theorem zzu (l : List V) : (l.map V.copy).map V.copy = l.map V.copy := by
 rw [List.map_map]; apply List.map_congr_left; intro v _; cases v <;> rfl
theorem zdb {T : TypeId} {x : Operand} {v : V} (hd : decide (t < n) = true) (he : evV E x = some v) (hf : v.flat = true) (q : DS P n r Q (.ops ops l :: k) ((t, .plc (v.cells.map V.copy)) :: E) S) :
  DS P n r Q (.ops ops (⟨some t, .box T x, ty, pos, af, none⟩ :: l) :: k) E S := zkq hd he hf fun b hb => by
 refine zir (t := t) (b := b) (l := v.cells.map V.copy) (T := T) (by simp [zdg]) (by simp [zad]) ?_
 rw [zzu]
 refine zdy (fun u w e => ?_) (fun c o e => ?_) q
 ·simp only [zdg] at e ⊢
  by_cases h : t = u
  ·rw [if_pos h] at e ⊢; exact e
  ·rw [if_neg h] at e ⊢; rw [if_neg h]; exact e
 ·rw [zda, if_neg (fun h => by subst h; rw [hb] at e; cases e)]
  simp only [zad]
  rw [if_neg (fun h => by subst h; rw [hb] at e; cases e)]; exact e
def selV (E : VEnv) : List Nat → VEnv
 | [] => []
 | t :: r => match zdg E t with
  | some v => (t, v) :: selV E r
  | none => selV E r
theorem zqf (E : VEnv) : ∀ ts : List Nat, subV (selV E ts) E
 | [] => trivial
 | t :: r => by
  simp only [selV]
  split
  ·rename_i v e; exact ⟨e, zqf E r⟩
  ·exact zqf E r
theorem znp : ∀ {F G E : VEnv}, subV F E → subV G E → subV (F ++ G) E
 | [], _, _, _, h => h
 | (_, _) :: _, _, _, h, k => ⟨h.1, znp h.2 k⟩
theorem zcn {α : Type} {c : Code} (ts : List Nat) {F : VEnv} (hF : selV E ts = F) (Ex : α → VEnv) (I : α → Prop) (μ : α → Nat) (x0 : α) (hE : subV (Ex x0) E) (hI : I x0)
  (body : ∀ (x : α) (B : VEnv → Sto → Prop), I x → (∀ x' E' S', μ x' < μ x → I x' → subV (Ex x') E' → subV F E' → (∀ b o, zad S b = some o → zad S' b = some o) → B E' S') → DS P n r Q (.code c :: .back B :: k) (Ex x ++ F) S) : DS P n r Q (.code (.loop c) :: k) E S := by
 subst hF
 refine DS.loop (fun m E' S' => ∃ x, μ x = m ∧ I x ∧ subV (Ex x ++ selV E ts) E' ∧ ∀ b o, zad S b = some o → zad S' b = some o) (μ x0) ⟨x0, rfl, hI, znp hE (zqf E ts), fun _ _ h => h⟩ ?_
 rintro m E' S' ⟨x, rfl, h1, h2, h3⟩
 exact zdy (zek h2) h3 (body x _ h1 fun x' E2 S2 a b c d e => ⟨_, a, x', rfl, b, znp c d, e⟩)
def selO (t : Nat) (r : VEnv) : Option V → VEnv
 | some v => (t, v) :: r
 | none => r
@[go_sem] theorem selV_cons (E : VEnv) (t : Nat) (r : List Nat) : selV E (t :: r) = selO t (selV E r) (zdg E t) := by
 simp only [selV]; cases zdg E t <;> rfl
@[go_sem] theorem selV_nil (E : VEnv) : selV E [] = [] := rfl
@[go_sem] theorem selO_some (t : Nat) (r : VEnv) (v : V) : selO t r (some v) = (t, v) :: r := rfl
theorem zdu {e sz by_ : Nat} {op : Op} (hd : decide (t < n) = true) (hop : op = .move (.const (.slice none 0 0)) ∨ op = .assign (.const (.slice none 0 0))) (ht : tel P ty = some (e, sz, by_)) (q : DS P n r Q (.ops ops l :: k) ((t, .own false e sz []) :: E) S) :
  DS P n r Q (.ops ops (⟨some t, op, ty, pos, af, none⟩ :: l) :: k) E S := by
 refine zac (v := .v (.slice none 0 0)) (by rcases hop with rfl | rfl <;> rfl) hd (by rcases hop with rfl | rfl <;> rfl) ?_
 refine yot (t := t) (e := e) (sz := sz) (by simp [zdg]) (zdy (fun u w h => ?_) (fun _ _ h => h) q)
 simp only [zdg] at h ⊢
 by_cases hu : t = u
 ·rw [if_pos hu] at h ⊢; exact h
 ·rw [if_neg hu] at h ⊢; rw [if_neg hu]; exact h
theorem zia {T m : Nat} {bb : Bool} {x : Operand} {v : V} {z : Value} {ty2 : TypeId} {pos2 : String} {af2 : Array Edge} (hd : decide (t < n) = true) (hz : zem P T = some z) (ho : zid z.cells.toList = true) (hx : ∀ p, evV ((t, p) :: E) x = some v) (ht : tsz P T = some (bb, m))
  (hf : v.flat = true) (hm : v.scells.length = m ∧ m ≤ z.cells.size) (hown : ∀ p, zjd ((t, p) :: E) x = (t, p) :: E) (q : DS P n r Q (.ops ops l :: k) ((t, .plc ((setAll (z.cells.toList.map V.v) 0 v.scells).map V.copy)) :: E) S) :
  DS P n r Q (.ops ops (⟨some t, .alloc T, ty, pos, af, none⟩ :: ⟨none, .store T (.tmp t) x, ty2, pos2, af2, none⟩ :: l) :: k) E S := zeh hd hz ho fun b hb => by
 refine DS.store (b := b) (off := 0) (m := m) (bb := bb) (cl := z.cells.toList.map V.v) (T' := T) (v := v) rfl (by simp [evV, zdg]) (hx _) ht (by simp [zad]) hf ⟨hm.1, by simpa using hm.2⟩ ?_
 rw [hown]
 refine zir (t := t) (b := b) (l := setAll (z.cells.toList.map V.v) 0 v.scells) (T := T) (by simp [zdg, putV]) (by simp [zad, setS]) ?_
 refine zdy (fun u w e => ?_) (fun c o e => ?_) q
 ·simp only [zdg, putV] at e ⊢
  by_cases h : t = u
  ·rw [if_pos h] at e ⊢; exact e
  ·rw [if_neg h] at e ⊢; rw [if_neg h]; exact e
 ·rw [zda, if_neg (fun h => by subst h; rw [hb] at e; cases e)]
  have hcb : ¬ b = c := fun h => by subst h; rw [hb] at e; cases e
  have : zad (setS b (.cells (setAll (z.cells.toList.map V.v) 0 v.scells) T) ((b, .cells (z.cells.toList.map V.v) T) :: S)) c = zad S c := by
   rw [zbh (o0 := .cells (z.cells.toList.map V.v) T) (by simp [zad]), if_neg (fun h => hcb h.symm)]; simp only [zad]; rw [if_neg hcb]
  rw [this]; exact e
theorem zat {α : Type} {f : α → List V} {m : Nat} (h : ∀ a, (f a).length = m) (l : List α) : ∀ c ∈ l.map f, c.length = m := fun c hc => by
 obtain ⟨a, _, rfl⟩ := List.mem_map.1 hc; exact h a
theorem yaq {x y : Code} {t : Bool} (q1 : t = false → DS P n r Q (.code x :: k) E S) (q2 : t = true → DS P n r Q (.code y :: k) E S) : CG P n r Q x y k E S (.v (.bool (!t))) :=
 ⟨⟨_, rfl⟩, fun h => q1 (by simpa using h), fun h => q2 (by simpa using h)⟩
end
end Go.XL
namespace Go.XL
section
variable {v0 : VH} {P : Program} {n : Nat} {r : Rr} {Q : VEnv → Sto → Prop} {k : List Fr} {E : VEnv} {S : Sto} {dst : Option Tmp} {ty : TypeId} {pos : String} {af : Array Edge}
theorem St.turnC {K : Bs} {hv : VH} {hold : Nat → Option Hd} {env : Env} {h h' : Heap} (s : St K hv hold E S env h) {b : Nat} {cl cl' : List V} {T : TypeId} {cs : List Value} (hS : zad S b = some (.cells cl T)) (h1 : h'[b]? = some (.cells cs.toArray T (0, 0))) (h2 : ∀ j, j ≠ b → h'[j]? = h[j]?) (h3 : h.size ≤ h'.size)
  (hr : RlL hv cl' cs) (ho : Ones cs) (hf : ∀ v ∈ cl', v.free = true) : St K hv hold E (setS b (.cells cl' T) S) env h' := by
 obtain ⟨a1, a2, a3⟩ := s.obj b _ hS
 refine ⟨fun j ob e => ?_, fun t v e => ?_, fun j ob e => ?_, s.held, ⟨s.base.1, Nat.le_trans s.base.2.1 h3, fun j hj => (h2 j fun e => a1 (e ▸ hj)).trans (s.base.2.2 j hj)⟩, s.vbase⟩
 ·have hj : j ≠ b := fun e1 => by subst e1; rw [a2] at e; cases e
  rw [h2 j hj]; exact s.pre j ob e
 ·obtain ⟨y, q1, q2, q3⟩ := s.slot t v e
  refine ⟨y, q1, q2, q3.keep fun g ob b1 b2 b3 => ⟨h2 g fun e1 => ?_, rfl, b1⟩⟩
  subst e1; rw [a2] at b2; cases b2
 ·rw [zbh hS] at e
  split at e
  ·rename_i hb; subst hb
   simp only [Option.some.injEq] at e; subst e
   exact ⟨a1, a2, cs, h1, hr, ho, fun i c u hc _ => V.free_Own (hf c (List.mem_of_getElem? hc)) u⟩
  ·rename_i hb
   obtain ⟨c1, c2, c3⟩ := s.obj j ob e
   exact ⟨c1, c2, Ob.keep c3 (PreV.refl hv) (h2 j hb) fun g i x b1 b2 b3 => ⟨h2 g fun e1 => (by subst e1; rw [a2] at b2; cases b2), rfl, b1⟩⟩
theorem zmm {z : Value} (h : zid z.cells.toList = true) (n : Nat) (hs : 0 < z.cells.size) : Ones (Builtin.zeroCells z.cells n).toList := fun u hu => by
 unfold Builtin.zeroCells at hu
 simp only [Array.toList_map, List.mem_map] at hu
 obtain ⟨j, _, rfl⟩ := hu
 have hlt : j % z.cells.size < z.cells.size := Nat.mod_lt _ hs
 refine zil h _ ?_
 rw [getElem!_pos z.cells _ hlt]
 exact Array.getElem_mem_toList hlt
def delB (b : Option Nat) (S : Sto) : Sto := match b with
 | some b => delS b S
 | none => S
@[go_sem] theorem delB_some (b : Nat) (S : Sto) : delB (some b) S = delS b S := rfl
@[go_sem] theorem delB_none (S : Sto) : delB none S = S := rfl
def AppP (E : VEnv) (S : Sto) (b : Option Nat) (e sz len : Nat) (cl : List V) (ml : List (List V)) : V → VEnv → Sto → Prop := fun u E' S' => E' = E ∧ ∃ b' cap junk, u = .v (.slice (some ⟨b', 0, none⟩) (len + ml.length) cap) ∧
 S' = (b', .cells (cl.take (len * sz) ++ ml.flatten.map V.copy ++ junk) e) :: delB b S ∧ (b = some b' ∨ zad S b' = none) ∧ (len + ml.length) * sz + junk.length = cap * sz ∧ len + ml.length ≤ cap ∧ cap ≤ maxLen ∧ ∀ v ∈ junk, v.free = true
theorem zpz (l : List V) : ∀ v ∈ l.map V.copy, v.free = true := zfw l
theorem zxj {T e sz by_ t : Nat} {z : Value} {sx x : Operand} {vx : V} {b len cap : Nat} {cl : List V} {ml : List (List V)} (hd : dst = some t) (ht : tel P T = some (e, sz, by_)) (hz : zem P e = some z) (hzs : z.cells.size = sz) (hzo : zid z.cells.toList = true) (hsz : 0 < sz)
  (hs : evV E sx = some (.v (.slice (some ⟨b, 0, none⟩) len cap))) (hS : zad S b = some (.cells cl e)) (hl : cl.length = cap * sz) (hlc : len ≤ cap) (hcap : cap ≤ maxLen) (hfree : ∀ v ∈ cl, v.free = true)
  (hx : evV E x = some vx) (hxl : zfh vx = some ml) (hm : 0 < ml.length) (hml : ∀ c ∈ ml, c.length = sz) (hfit : Fits len ml.length by_) :
  OpS v0 P n ⟨dst, .call { callee := .builtin .append, args := #[sx, x], argTypes := #[T, T] }, ty, pos, af, none⟩ E S (AppP E S (some b) e sz len cl ml) := by
 subst hd
 intro K D hv hold env a w hfl ha s
 obtain ⟨y, g2, g2'⟩ := s.rl _ _ hs
 simp only [V.Rl] at g2'; subst g2'
 obtain ⟨yx, g3, g3'⟩ := s.rl _ _ hx
 have hxR := zhr hxl g3'
 obtain ⟨hu, i, hi, hisz, hiby⟩ := zkb ht
 have hz' : i.zero = some z := by unfold zem at hz; rw [hi] at hz; exact hz
 subst hisz; subst hiby
 obtain ⟨ao, c, sz', rfl, x1, x2, x3, x4⟩ := hxR
 have hlenm : ml.flatten.length = ml.length * i.size := zhl hml
 have hC := x4.flat
 obtain ⟨news, hn1, hn2⟩ := hC.loads s.pre
 have hnl : news.length = ml.length * i.size := by rw [hn2.length, hlenm]
 have hones := zov s.pre hC hn1
 have hnews : ∀ j u, news[j]? = some u → ld w.heap (at? ao j) = some u := fun j u hj => by simpa using zwr hn1 j u hj
 have hmax : (2147483648 : Nat) ≤ maxLen := by decide
 have h63 : len + ml.length ≤ maxLen := Nat.le_trans hfit.1 hmax
 have hbytes : (len + ml.length) * i.bytes ≤ 140737488355328 := Nat.le_trans (Nat.mul_le_mul hfit.1 hfit.2) (by decide)
 have hsmall : len + ml.length ≤ 9223372036854775807 := Nat.le_trans hfit.1 (by decide)
 have hpos : 0 < news.length := by rw [hnl]; exact Nat.mul_pos hm hsz
 obtain ⟨aa, rfl⟩ : ∃ aa, ao = some aa := by
  have := hnews 0 news[0] (List.getElem?_eq_getElem hpos)
  cases ao with
  | none => simp [ld, at?] at this
  | some aa => exact ⟨aa, rfl⟩
 have hnews' : ∀ j u, news[j]? = some u → w.cell? (aa.add j) = some u := hnews
 obtain ⟨o1, o2, cs, o3, o4, o5, o6⟩ := s.obj b _ hS
 have hcs : cs.length = cap * i.size := by rw [o4.length, hl]
 have run : ∀ {y' : Value} {w' : World}, (Builtin.append_ #[T, T] ty #[.slice (some ⟨b, 0, none⟩) len cap, .slice (some aa) ml.length c]).run P w = .ok y' w' →
   (execOp a.eval ⟨some t, .call { callee := .builtin .append, args := #[sx, x], argTypes := #[T, T] }, ty, pos, af, none⟩).run P w = .ok (.value y') w' := fun hr => by
  simp [execOp, resolve, invoke, builtin, ha.ev g2, ha.ev g3, hr]
 by_cases hroom : len + ml.length ≤ cap
 ·have hfit' : len * i.size + news.length ≤ cs.toArray.size := by rw [hnl, List.size_toArray, hcs, ← Nat.add_mul]; exact Nat.mul_le_mul_right _ hroom
  have hr := run_append_room (P := P) w T ty e i hu hi b len cap cs.toArray o3 aa ml.length c news hnl hnews' hones hroom hfit'
  have hset := setRow_heap w b cs.toArray (cs.toArray.toList.take (len * i.size) ++ news ++ cs.toArray.toList.drop (len * i.size + news.length)).toArray e _ o3
  refine zev (run hr) ⟨⟨rfl, rfl, rfl⟩, ?_⟩
  have hlen : cl.take (len * i.size) ++ ml.flatten.map V.copy ++ cl.drop (len * i.size + news.length) = cl.take (len * i.size) ++ ml.flatten.map V.copy ++ cl.drop (len * i.size + news.length) := rfl
  have s2 := s.turnC (h' := (w.setRow b (cs.toArray.toList.take (len * i.size) ++ news ++ cs.toArray.toList.drop (len * i.size + news.length)).toArray).heap) (cl' := cl.take (len * i.size) ++ ml.flatten.map V.copy ++ cl.drop (len * i.size + news.length)) (cs := cs.take (len * i.size) ++ news ++ cs.drop (len * i.size + news.length)) hS (by simpa using hset) (fun j hj => setRow_other w b j _ hj) (by simp [World.setRow])
   (((o4.take _).app (zgg hn2)).app (o4.drop _)) (fun u hu => by
    rcases List.mem_append.1 hu with hu | hu
    ·rcases List.mem_append.1 hu with hu | hu
     ·exact o5 u (List.mem_of_mem_take hu)
     ·exact hones u hu
    ·exact o5 u (List.mem_of_mem_drop hu)) (fun v hv => by
    rcases List.mem_append.1 hv with hv | hv
    ·rcases List.mem_append.1 hv with hv | hv
     ·exact hfree v (List.mem_of_mem_take hv)
     ·exact zfw _ v hv
    ·exact hfree v (List.mem_of_mem_drop hv))
  have s3 := s2.weaken (E' := E) (S' := (b, .cells (cl.take (len * i.size) ++ ml.flatten.map V.copy ++ cl.drop (len * i.size + news.length)) e) :: delS b S) (fun _ _ e => e) fun j o eo => by
   rw [zbh hS]
   simp only [zad] at eo
   by_cases hj : b = j
   ·rw [if_pos hj] at eo; rw [if_pos hj.symm]; exact eo
   ·rw [if_neg hj] at eo; rw [if_neg fun e => hj e.symm]
    rw [zda, if_neg fun e => hj e.symm] at eo; exact eo
  refine ⟨_, E, _, hv, hold, PreV.refl hv, s3.put (some t) V.Rl_v fun _ _ => trivial, rfl, b, cap, _, rfl, rfl, .inl rfl, ?_, hroom, hcap, fun v hv => hfree v (List.mem_of_mem_drop hv)⟩
  rw [List.length_drop, hl, hnl, ← Nat.add_mul]
  have : (len + ml.length) * i.size ≤ cap * i.size := Nat.mul_le_mul_right _ hroom
  omega
 ·have hxs : (cs.take (len * i.size)).length = len * i.size := by
   rw [List.length_take, hcs]; exact Nat.min_eq_left (Nat.mul_le_mul_right _ hlc)
  have hcells : ∀ j u, (cs.take (len * i.size))[j]? = some u → w.cell? ((⟨b, 0, none⟩ : Addr).add j) = some u := by
   intro j u hj
   have hadd : (⟨b, 0, none⟩ : Addr).add j = ⟨b, j, none⟩ := by unfold Addr.add; split <;> simp_all
   rw [hadd]
   show cell w.heap ⟨b, j, none⟩ = some u
   unfold cell
   rw [o3]
   simp only [Option.isSome_none, Bool.false_eq_true, if_false]
   rw [List.getElem?_take] at hj
   split at hj
   ·simpa using hj
   ·cases hj
  have hr := run_append_grow (P := P) w T ty e i z hu hi hz' ⟨b, 0, none⟩ len cap (cs.take (len * i.size)) hxs hcells aa ml.length c news hnl hnews' (by omega) (by omega) (growslice_fits (by omega) hbytes)
  have hge := grownCap_ge w (len + ml.length) cap e
  have hcm := grownCap_le_maxLen w (len + ml.length) cap e h63
  refine zev (run hr) ⟨⟨rfl, rfl, rfl⟩, ?_⟩
  obtain ⟨cap2, hcap2⟩ : ∃ c2, c2 = grownCap w (len + ml.length) cap e := ⟨_, rfl⟩
  rw [← hcap2] at hge hcm ⊢
  let zs := Builtin.zeroCells z.cells (cap2 - (len + ml.length))
  have hzs2 : zs.toList.length = (cap2 - (len + ml.length)) * i.size := by rw [Array.length_toList, size_zeroCells, hzs]
  have hzo2 : Ones zs.toList := zmm hzo _ (by omega)
  have hborn := s.born (o := .cells (cl.take (len * i.size) ++ ml.flatten.map V.copy ++ zs.toList.map V.v) e) (x := .cells ((cs.take (len * i.size)).toArray ++ news.toArray ++ zs) e) ?_
  ·obtain ⟨s2, hn⟩ := hborn
   have s3 := s2.weaken (E' := E) (S' := (w.heap.size, .cells (cl.take (len * i.size) ++ ml.flatten.map V.copy ++ zs.toList.map V.v) e) :: delS b S) (fun _ _ e => e) fun j o eo => by
    simp only [zad] at eo ⊢
    split at eo
    ·rename_i hj; rw [if_pos hj]; exact eo
    ·rename_i hj; rw [if_neg hj]
     rw [zda] at eo
     split at eo
     ·cases eo
     ·exact eo
   refine ⟨_, E, _, hv, hold, PreV.refl hv, s3.put (some t) V.Rl_v fun _ _ => trivial, rfl, w.heap.size, cap2, _, rfl, rfl, .inr hn, ?_, hge, hcm, zit _⟩
   rw [List.length_map, hzs2, ← Nat.add_mul]; congr 1; omega
  ·have h := zik (h := w.heap) (hold := hold) (T := e) (cs := cs.take (len * i.size) ++ news ++ zs.toList) (l := cl.take (len * i.size) ++ ml.flatten.map V.copy ++ zs.toList.map V.v) (((o4.take _).app (zgg hn2)).app (zko _)) (fun u hu => by
    rcases List.mem_append.1 hu with hu | hu
    ·rcases List.mem_append.1 hu with hu | hu
     ·exact o5 u (List.mem_of_mem_take hu)
     ·exact hones u hu
    ·exact hzo2 u hu) (fun v hv => by
    rcases List.mem_append.1 hv with hv | hv
    ·rcases List.mem_append.1 hv with hv | hv
     ·exact hfree v (List.mem_of_mem_take hv)
     ·exact zfw _ v hv
    ·exact zit _ v hv)
   rw [show (cs.take (len * i.size) ++ news ++ zs.toList).toArray = (cs.take (len * i.size)).toArray ++ news.toArray ++ zs by simp] at h
   exact h
theorem zxi {T e sz by_ t : Nat} {z : Value} {sx x : Operand} {vx : V} {ml : List (List V)} (hd : dst = some t) (ht : tel P T = some (e, sz, by_)) (hz : zem P e = some z) (hzs : z.cells.size = sz) (hzo : zid z.cells.toList = true) (hsz : 0 < sz)
  (hs : evV E sx = some (.v (.slice none 0 0))) (hx : evV E x = some vx) (hxl : zfh vx = some ml) (hm : 0 < ml.length) (hml : ∀ c ∈ ml, c.length = sz) (hfit : Fits 0 ml.length by_) :
  OpS v0 P n ⟨dst, .call { callee := .builtin .append, args := #[sx, x], argTypes := #[T, T] }, ty, pos, af, none⟩ E S (AppP E S none e sz 0 [] ml) := by
 subst hd
 intro K D hv hold env a w hfl ha s
 obtain ⟨y, g2, g2'⟩ := s.rl _ _ hs
 simp only [V.Rl] at g2'; subst g2'
 obtain ⟨yx, g3, g3'⟩ := s.rl _ _ hx
 have hxR := zhr hxl g3'
 obtain ⟨hu, i, hi, hisz, hiby⟩ := zkb ht
 have hz' : i.zero = some z := by unfold zem at hz; rw [hi] at hz; exact hz
 subst hisz; subst hiby
 obtain ⟨ao, c, sz', rfl, x1, x2, x3, x4⟩ := hxR
 have hlenm : ml.flatten.length = ml.length * i.size := zhl hml
 have hC := x4.flat
 obtain ⟨news, hn1, hn2⟩ := hC.loads s.pre
 have hnl : news.length = ml.length * i.size := by rw [hn2.length, hlenm]
 have hones := zov s.pre hC hn1
 have hnews : ∀ j u, news[j]? = some u → ld w.heap (at? ao j) = some u := fun j u hj => by simpa using zwr hn1 j u hj
 have hmax : (2147483648 : Nat) ≤ maxLen := by decide
 have h63 : 0 + ml.length ≤ maxLen := Nat.le_trans hfit.1 hmax
 have hbytes : (0 + ml.length) * i.bytes ≤ 140737488355328 := Nat.le_trans (Nat.mul_le_mul hfit.1 hfit.2) (by decide)
 have hsmall : 0 + ml.length ≤ 9223372036854775807 := Nat.le_trans hfit.1 (by decide)
 have hpos : 0 < news.length := by rw [hnl]; exact Nat.mul_pos hm hsz
 obtain ⟨aa, rfl⟩ : ∃ aa, ao = some aa := by
  have := hnews 0 news[0] (List.getElem?_eq_getElem hpos)
  cases ao with
  | none => simp [ld, at?] at this
  | some aa => exact ⟨aa, rfl⟩
 have hnews' : ∀ j u, news[j]? = some u → w.cell? (aa.add j) = some u := hnews
 have run : ∀ {y' : Value} {w' : World}, (Builtin.append_ #[T, T] ty #[.slice none 0 0, .slice (some aa) ml.length c]).run P w = .ok y' w' →
   (execOp a.eval ⟨some t, .call { callee := .builtin .append, args := #[sx, x], argTypes := #[T, T] }, ty, pos, af, none⟩).run P w = .ok (.value y') w' := fun hr => by
  simp [execOp, resolve, invoke, builtin, ha.ev g2, ha.ev g3, hr]
 have hr := run_append_nil (P := P) w T ty e i z hu hi hz' aa ml.length c news hnl hnews' (by omega) (by omega) (by rw [Nat.zero_add] at hbytes; omega)
 have hge := grownCap_ge w ml.length 0 e
 have hcm := grownCap_le_maxLen w ml.length 0 e (by simpa using h63)
 refine zev (run hr) ⟨⟨rfl, rfl, rfl⟩, ?_⟩
 obtain ⟨cap2, hcap2⟩ : ∃ c2, c2 = grownCap w ml.length 0 e := ⟨_, rfl⟩
 rw [← hcap2] at hge hcm ⊢
 let zs := Builtin.zeroCells z.cells (cap2 - ml.length)
 have hzs2 : zs.toList.length = (cap2 - ml.length) * i.size := by rw [Array.length_toList, size_zeroCells, hzs]
 have hzo2 : Ones zs.toList := zmm hzo _ (by omega)
 have h := zik (h := w.heap) (hold := hold) (T := e) (cs := news ++ zs.toList) (l := ml.flatten.map V.copy ++ zs.toList.map V.v) ((zgg hn2).app (zko _)) (fun u hu => by
  rcases List.mem_append.1 hu with hu | hu
  ·exact hones u hu
  ·exact hzo2 u hu) (fun v hv => by
  rcases List.mem_append.1 hv with hv | hv
  ·exact zfw _ v hv
  ·exact zit _ v hv)
 rw [show (news ++ zs.toList).toArray = news.toArray ++ zs by simp] at h
 obtain ⟨s2, hn⟩ := s.born (x := .cells (news.toArray ++ zs) e) h
 refine ⟨_, E, _, hv, hold, PreV.refl hv, s2.put (some t) V.Rl_v fun _ _ => trivial, rfl, w.heap.size, cap2, zs.toList.map V.v, by rw [Nat.zero_add], by simp only [List.take_nil, List.nil_append, delB], .inr hn, ?_, by simpa using hge, hcm, zit _⟩
 rw [List.length_map, hzs2, ← Nat.add_mul]; congr 1; omega
theorem DS.appC {T e sz by_ t : Nat} {z : Value} {sx x : Operand} {vx : V} {b len cap : Nat} {cl : List V} {ml : List (List V)} {ops l : List Oper} (hd : dok n (some t) = true) (ht : tel P T = some (e, sz, by_)) (hz : zem P e = some z) (hzs : z.cells.size = sz) (hzo : zid z.cells.toList = true) (hsz : 0 < sz)
  (hs : evV E sx = some (.v (.slice (some ⟨b, 0, none⟩) len cap))) (hS : zad S b = some (.cells cl e)) (hl : cl.length = cap * sz) (hlc : len ≤ cap) (hcap : cap ≤ maxLen) (hfree : ∀ v ∈ cl, v.free = true)
  (hx : evV E x = some vx) (hxl : zfh vx = some ml) (hm : 0 < ml.length) (hml : ∀ c ∈ ml, c.length = sz) (hfit : Fits len ml.length by_)
  (q : ∀ b' cap' junk, (b = b' ∨ zad S b' = none) → (len + ml.length) * sz + junk.length = cap' * sz → len + ml.length ≤ cap' → cap' ≤ maxLen → (∀ v ∈ junk, v.free = true) →
   DS P n r Q (.ops ops l :: k) ((t, .v (.slice (some ⟨b', 0, none⟩) (len + ml.length) cap')) :: E) ((b', .cells (cl.take (len * sz) ++ ml.flatten.map V.copy ++ junk) e) :: delS b S)) :
  DS P n r Q (.ops ops (⟨some t, .call { callee := .builtin .append, args := #[sx, x], argTypes := #[T, T] }, ty, pos, af, none⟩ :: l) :: k) E S := by
 refine zea rfl rfl hd (zxj rfl ht hz hzs hzo hsz hs hS hl hlc hcap hfree hx hxl hm hml hfit) fun u E' S' ⟨h1, b', cap', junk, h2, h3, h4, h5, h6, h7, h8⟩ => ?_
 subst h1; subst h2; subst h3
 exact q b' cap' junk (h4.imp (fun e => by cases e; rfl) id) h5 h6 h7 h8
theorem DS.appN {T e sz by_ t : Nat} {z : Value} {sx x : Operand} {vx : V} {ml : List (List V)} {ops l : List Oper} (hd : dok n (some t) = true) (ht : tel P T = some (e, sz, by_)) (hz : zem P e = some z) (hzs : z.cells.size = sz) (hzo : zid z.cells.toList = true) (hsz : 0 < sz)
  (hs : evV E sx = some (.v (.slice none 0 0))) (hx : evV E x = some vx) (hxl : zfh vx = some ml) (hm : 0 < ml.length) (hml : ∀ c ∈ ml, c.length = sz) (hfit : Fits 0 ml.length by_)
  (q : ∀ b' cap' junk, zad S b' = none → ml.length * sz + junk.length = cap' * sz → ml.length ≤ cap' → cap' ≤ maxLen → (∀ v ∈ junk, v.free = true) →
   DS P n r Q (.ops ops l :: k) ((t, .v (.slice (some ⟨b', 0, none⟩) ml.length cap')) :: E) ((b', .cells (ml.flatten.map V.copy ++ junk) e) :: S)) :
  DS P n r Q (.ops ops (⟨some t, .call { callee := .builtin .append, args := #[sx, x], argTypes := #[T, T] }, ty, pos, af, none⟩ :: l) :: k) E S := by
 refine zea rfl rfl hd (zxi rfl ht hz hzs hzo hsz hs hx hxl hm hml hfit) fun u E' S' ⟨h1, b', cap', junk, h2, h3, h4, h5, h6, h7, h8⟩ => ?_
 subst h1; subst h2; subst h3
 have := q b' cap' junk (h4.elim (fun e => by cases e) id) (by simpa using h5) (by simpa using h6) h7 h8
 simpa [delB, putV] using this
end
end Go.XL
namespace Go.XL
section
variable {P : Program} {T : TypeId} {kk : IntKind} {a b : Int}
@[go_sem] theorem bop_add : bop P .add T (.int kk a) (.int kk b) = some (.int kk (kk.wrap (a + b))) := by simp [bop, znd]
@[go_sem] theorem bop_sub : bop P .sub T (.int kk a) (.int kk b) = some (.int kk (kk.wrap (a - b))) := by simp [bop, znd]
@[go_sem] theorem bop_mul : bop P .mul T (.int kk a) (.int kk b) = some (.int kk (kk.wrap (a * b))) := by simp [bop, znd]
@[go_sem] theorem bop_quo : bop P .quo T (.int kk a) (.int kk b) = if b ≠ 0 then some (.int kk (kk.wrap (a.tdiv b))) else none := by simp [bop, znd]
@[go_sem] theorem bop_rem : bop P .rem T (.int kk a) (.int kk b) = if b ≠ 0 then some (.int kk (a.tmod b)) else none := by simp [bop, znd]
@[go_sem] theorem bop_eql : bop P .eql T (.int kk a) (.int kk b) = some (.bool (decide (a = b))) := by
 simp only [bop, znd, if_true]; congr 2
@[go_sem] theorem bop_neq : bop P .neq T (.int kk a) (.int kk b) = some (.bool (decide (¬ a = b))) := by
 simp only [bop, znd, if_true]; congr 2; simp [bne, decide_not]; rfl
@[go_sem] theorem bop_lss : bop P .lss T (.int kk a) (.int kk b) = some (.bool (decide (a < b))) := by simp [bop, znd]
@[go_sem] theorem bop_leq : bop P .leq T (.int kk a) (.int kk b) = some (.bool (decide (a ≤ b))) := by simp [bop, znd]
@[go_sem] theorem bop_gtr : bop P .gtr T (.int kk a) (.int kk b) = some (.bool (decide (b < a))) := by simp [bop, znd]
@[go_sem] theorem bop_geq : bop P .geq T (.int kk a) (.int kk b) = some (.bool (decide (b ≤ a))) := by simp [bop, znd]
theorem yoa {e : TypeId} {p : Option Addr} {a b : Nat} (u : P.underlying T = some (.slice e)) : bop P .eql T (.slice p a b) (.slice none 0 0) = some (.bool p.isNone) := by simp [bop, u]
end
@[go_sem] theorem not_dec (p : Prop) [Decidable p] : (!decide p) = decide (¬ p) := by simp
@[go_sem] theorem zbu (l : List V) : (V.agg l).cells = l := rfl
@[go_sem] theorem zcx (x : Value) : (V.v x).cells = [.v x] := rfl
@[go_sem] theorem zbt (l : List (List V)) : (V.lst l).cells = [.lst l] := rfl
@[go_sem] theorem cells_own (m : Bool) (e sz : Nat) (l : List (List V)) : (V.own m e sz l).cells = [.own m e sz l] := rfl
@[go_sem] theorem cells_plc (l : List V) : (V.plc l).cells = [.plc l] := rfl
@[go_sem] theorem zcj (f : FuncId) (a b : List V) : (V.fn f a b).cells = [.fn f a b] := rfl
@[go_sem] theorem cells_ifc (t : TypeId) (x : V) : (V.ifc t x).cells = [.ifc t x] := rfl
@[go_sem] theorem flat_int (k : IntKind) (n : Int) : (V.v (.int k n)).flat = true := rfl
@[go_sem] theorem flat_bool (b : Bool) : (V.v (.bool b)).flat = true := rfl
@[go_sem] theorem flat_str (b : ByteArray) : (V.v (.string b)).flat = true := rfl
@[go_sem] theorem flat_slice (p : Option Addr) (n c : Nat) : (V.v (.slice p n c)).flat = true := rfl
@[go_sem] theorem flat_ptr (p : Option Addr) : (V.v (.pointer p)).flat = true := rfl
@[go_sem] theorem flat_map (p : Option Nat) : (V.v (.map p)).flat = true := rfl
@[go_sem] theorem flat_nilFunc : (V.v .nilFunc).flat = true := rfl
@[go_sem] theorem flat_nilIface : (V.v .nilIface).flat = true := rfl
@[go_sem] theorem flat_lst (l : List (List V)) : (V.lst l).flat = true := rfl
@[go_sem] theorem flat_own (m : Bool) (e sz : Nat) (l : List (List V)) : (V.own m e sz l).flat = true := rfl
@[go_sem] theorem flat_plc (l : List V) : (V.plc l).flat = true := rfl
@[go_sem] theorem flat_fn (f : FuncId) (a b : List V) : (V.fn f a b).flat = true := rfl
@[go_sem] theorem flat_ifc (t : TypeId) (x : V) : (V.ifc t x).flat = true := rfl
@[go_sem] theorem flat_agg (l : List V) : (V.agg l).flat = l.all V.one := rfl
@[go_sem] theorem all_nil' {α : Type} (p : α → Bool) : ([] : List α).all p = true := rfl
@[go_sem] theorem all_cons' {α : Type} (p : α → Bool) (a : α) (r : List α) : (a :: r).all p = (p a && r.all p) := rfl
@[go_sem] theorem one_int (k : IntKind) (n : Int) : (V.v (.int k n)).one = true := rfl
@[go_sem] theorem one_bool (b : Bool) : (V.v (.bool b)).one = true := rfl
@[go_sem] theorem one_str (b : ByteArray) : (V.v (.string b)).one = true := rfl
@[go_sem] theorem one_slice (p : Option Addr) (n c : Nat) : (V.v (.slice p n c)).one = true := rfl
@[go_sem] theorem one_ptr (p : Option Addr) : (V.v (.pointer p)).one = true := rfl
@[go_sem] theorem one_map (p : Option Nat) : (V.v (.map p)).one = true := rfl
@[go_sem] theorem one_nilFunc : (V.v .nilFunc).one = true := rfl
@[go_sem] theorem one_nilIface : (V.v .nilIface).one = true := rfl
@[go_sem] theorem one_lst (l : List (List V)) : (V.lst l).one = true := rfl
@[go_sem] theorem one_own (m : Bool) (e sz : Nat) (l : List (List V)) : (V.own m e sz l).one = true := rfl
@[go_sem] theorem one_plc (l : List V) : (V.plc l).one = true := rfl
@[go_sem] theorem one_fn (f : FuncId) (a b : List V) : (V.fn f a b).one = true := rfl
@[go_sem] theorem one_ifc (t : TypeId) (x : V) : (V.ifc t x).one = true := rfl
@[go_sem] theorem zbq {α β : Type} (f : α → β) : ([] : List α).map f = [] := rfl
@[go_sem] theorem zbm {α β : Type} (f : α → β) (a : α) (r : List α) : (a :: r).map f = f a :: r.map f := rfl
@[go_sem] theorem len_nil {α : Type} : ([] : List α).length = 0 := rfl
@[go_sem] theorem len_cons {α : Type} (a : α) (r : List α) : (a :: r).length = r.length + 1 := rfl
@[go_sem] theorem zax {α : Type} (l : List α) : l.drop 0 = l := rfl
@[go_sem] theorem zay {α : Type} (a : α) (r : List α) (n : Nat) : (a :: r).drop (n + 1) = r.drop n := rfl
@[go_sem] theorem yfh {α : Type} (l : List α) : l.take 0 = [] := by simp
@[go_sem] theorem yfi {α : Type} (a : α) (r : List α) (n : Nat) : (a :: r).take (n + 1) = a :: r.take n := rfl
@[go_sem] theorem take_nil' {α : Type} (n : Nat) : ([] : List α).take n = [] := by simp
@[go_sem] theorem zby {α : Type} (a b : α) (r : List α) : (a :: r).set 0 b = b :: r := rfl
@[go_sem] theorem zcl {α : Type} (a b : α) (r : List α) (n : Nat) : (a :: r).set (n + 1) b = a :: r.set n b := rfl
@[go_sem] theorem zbf {α : Type} (a : α) (r : List α) : (a :: r)[0]? = some a := rfl
@[go_sem] theorem zbg {α : Type} (a : α) (r : List α) (n : Nat) : (a :: r)[n + 1]? = r[n]? := rfl
@[go_sem] theorem zaw {α : Type} (l : List α) : [] ++ l = l := rfl
@[go_sem] theorem zas {α : Type} (a : α) (l m : List α) : (a :: l) ++ m = a :: (l ++ m) := rfl
theorem zff {P : Program} {T m : Nat} (e : tsz P T = some (false, m)) (v : V) (r : List V) : ldTV P T (v :: r) = some v.copy := by simp only [ldTV, e]
theorem zlh {P : Program} {T m : Nat} (e : tsz P T = some (false, m)) (l : List V) (k : Nat) : ldTV P T (l.drop k) = (l[k]?).map V.copy := by
 by_cases h : k < l.length
 ·rw [List.drop_eq_getElem_cons h, zff e, List.getElem?_eq_getElem h]; rfl
 ·rw [List.drop_eq_nil_of_le (by omega), List.getElem?_eq_none (by omega)]; simp [ldTV, e]
theorem zod {P : Program} {T m : Nat} (e : tsz P T = some (true, m + 1)) (c : List V) : ldTV P T c = if m + 1 ≤ c.length then some (.agg ((c.take (m + 1)).map V.peek)) else none := by simp only [ldTV, e]
@[go_sem] theorem loadV_plc (P : Program) (S : Sto) (T : TypeId) (c : List V) : ztn P S T (.plc c) = ldTV P T c := rfl
def ypu (P : Program) (T : TypeId) (off : Nat) : Option Ob → Option V
 | some (.cells l _) => ldTV P T (l.drop off)
 | _ => none
@[go_sem] theorem loadO_some (P : Program) (T : TypeId) (off : Nat) (l : List V) (T' : TypeId) : ypu P T off (some (.cells l T')) = ldTV P T (l.drop off) := rfl
@[go_sem] theorem loadV_ptr (P : Program) (S : Sto) (T : TypeId) (b off : Nat) : ztn P S T (.v (.pointer (some ⟨b, off, none⟩))) = ypu P T off (zad S b) := by
 simp only [ztn, ypu]; split <;> simp_all
theorem znc {P : Program} {T e sz by_ : Nat} {z : Value} (ht : tel P T = some (e, sz, by_)) (hz : zem P e = some z) (ho : zid z.cells.toList = true) (hs : z.cells.size = sz) (len : Nat) (ps : List (Nat × V)) :
  bslV P T len ps = if len * sz ≤ 16777216 ∧ len ≤ 16777216 then (zfu (fun i => some (i * sz, sz)) (zeu z len) ps).map fun c => (e, sz, c) else none := by
 simp only [bslV, ht, hz, ho, hs, and_true]
def idxO (sz : Nat) : Option (List V) → Option V
 | some c => if c.length = sz ∧ 0 < sz then some (.plc c) else none
 | none => none
@[go_sem] theorem idxO_some (sz : Nat) (c : List V) : idxO sz (some c) = if c.length = sz ∧ 0 < sz then some (.plc c) else none := rfl
theorem zji {P : Program} {T e sz by_ : Nat} (ht : tel P T = some (e, sz, by_)) {x : V} {l : List (List V)} (hx : zfh x = some l) (k : IntKind) (m : Int) : zih P T x (.v (.int k m)) = if 0 ≤ m then idxO sz l[m.toNat]? else none := by
 simp only [zih, hx, ht, idxO]
 split
 ·cases l[m.toNat]? <;> rfl
 ·rfl
theorem zig {P : Program} {T e sz by_ : Nat} (ht : tel P T = some (e, sz, by_)) (b off len cap : Nat) (k : IntKind) (m : Int) : zih P T (.v (.slice (some ⟨b, off, none⟩) len cap)) (.v (.int k m)) = if 0 ≤ m then (if m < len then some (.v (.pointer (some ⟨b, off + m.toNat * sz, none⟩))) else none) else none := by
 simp only [zih, zfh, ht]
theorem ylz {P : Program} {T e sz by_ : Nat} (ht : tel P T = some (e, sz, by_)) {x : V} {l : List (List V)} (hx : zfh x = some l) (lo hi : Option Nat) : slcV P T x lo hi = if lo.getD 0 ≤ hi.getD l.length ∧ hi.getD l.length ≤ l.length ∧ (∀ c ∈ l, c.length = sz) then some (.lst ((l.take (hi.getD l.length)).drop (lo.getD 0))) else none := by
 simp only [slcV, ht, hx]
theorem ycv {P : Program} {T e sz by_ : Nat} (ht : tel P T = some (e, sz, by_)) (b off len cap : Nat) (lo hi : Option Nat) : slcV P T (.v (.slice (some ⟨b, off, none⟩) len cap)) lo hi = if lo.getD 0 ≤ hi.getD len ∧ hi.getD len ≤ cap ∧ lo.getD 0 < cap then some (.v (.slice (some ⟨b, off + lo.getD 0 * sz, none⟩) (hi.getD len - lo.getD 0) (cap - lo.getD 0))) else none := by
 simp only [slcV, ht, zfh]
theorem zjh {P : Program} {T : Nat} (ht : zph P T = true) {x : V} {l : List (List V)} (hx : zfh x = some l) : zjv P T x = some (.v (.int .i64 l.length)) := by
 simp only [zjv, hx, ht, if_true]
theorem zoc {P : Program} {T : Nat} (ht : zph P T = true) (a : Addr) (n c : Nat) : zjv P T (.v (.slice (some a) n c)) = some (.v (.int .i64 n)) := by
 simp only [zjv, zfh, ht, if_true]
theorem zej {P : Program} {T f o : Nat} (ho : foff P T f = some o) (c : List V) : zec P T f (.plc c) = if o ≤ c.length then some (.plc (c.drop o)) else none := by simp only [zec, ho]
theorem zdo {P : Program} {T f o : Nat} (ho : foff P T f = some o) (b off : Nat) : zec P T f (.v (.pointer (some ⟨b, off, none⟩))) = some (.v (.pointer (some ⟨b, off + o, none⟩))) := by simp only [zec, ho]
theorem zsj {P : Program} {s d : TypeId} {k' : IntKind} (e1 : (P.underlying s).isSome = true) (e2 : tint P d = some k') (k : IntKind) (n : Int) : ztp P s d (.v (.int k n)) = some (.v (.int k' (k'.wrap n))) := by simp only [ztp, e1, e2]
@[go_sem] theorem yfb (k : IntKind) (n : Int) (m : Nat) : zeu (.int k n) m = List.replicate m (.v (.int k n)) := by
 simp only [zeu, Value.cells]
 induction m with
 | zero => rfl
 | succ m ih => rw [List.replicate_succ, List.flatten_cons, List.replicate_succ, ih]; rfl
@[go_sem] theorem zpp (m : Nat) : zeu (.slice none 0 0) m = List.replicate m (.v (.slice none 0 0)) := by
 simp only [zeu, Value.cells]
 induction m with
 | zero => rfl
 | succ m ih => rw [List.replicate_succ, List.flatten_cons, List.replicate_succ, ih]; rfl
@[go_sem] theorem yar (b : Bool) (m : Nat) : zeu (.bool b) m = List.replicate m (.v (.bool b)) := by
 simp only [zeu, Value.cells]
 induction m with
 | zero => rfl
 | succ m ih => rw [List.replicate_succ, List.flatten_cons, List.replicate_succ, ih]; rfl
@[go_sem] theorem zerosV_agg (l : Array Value) (m : Nat) : zeu (.agg l) m = (List.replicate m (l.toList.map V.v)).flatten := rfl
@[go_sem] theorem replicate_zero' {α : Type} (a : α) : List.replicate 0 a = [] := rfl
@[go_sem] theorem replicate_succ' {α : Type} (a : α) (n : Nat) : List.replicate (n + 1) a = a :: List.replicate n a := rfl
@[go_sem] theorem flatten_nil' {α : Type} : ([] : List (List α)).flatten = [] := rfl
@[go_sem] theorem flatten_cons' {α : Type} (a : List α) (r : List (List α)) : (a :: r).flatten = a ++ r.flatten := rfl
@[go_sem] theorem zaf (E : VEnv) (v : Value) : zjd E (.const v) = E := rfl
@[go_sem] theorem strip_func (E : VEnv) (v : Nat) : zjd E (.func v) = E := rfl
@[go_sem] theorem strip_global (E : VEnv) (v : Nat) : zjd E (.global v) = E := rfl
def zmp (E : VEnv) (t : Nat) : Option V → VEnv
 | some (.own _ _ _ l) => (t, .lst l) :: E
 | _ => E
@[go_sem] theorem zao (E : VEnv) (t : Nat) : zjd E (.tmp t) = zmp E t (zdg E t) := by
 simp only [zjd, zmp]; split <;> simp_all
@[go_sem] theorem zak (E : VEnv) (t : Nat) (m : Bool) (e sz : Nat) (l : List (List V)) : zmp E t (some (.own m e sz l)) = (t, .lst l) :: E := rfl
@[go_sem] theorem zal (E : VEnv) (t : Nat) (l : List (List V)) : zmp E t (some (.lst l)) = E := rfl
@[go_sem] theorem zar (E : VEnv) (t : Nat) (x : Value) : zmp E t (some (.v x)) = E := rfl
@[go_sem] theorem zaj (E : VEnv) (t : Nat) (x : List V) : zmp E t (some (.plc x)) = E := rfl
@[go_sem] theorem zai (E : VEnv) (t : Nat) (x : List V) : zmp E t (some (.agg x)) = E := rfl
@[go_sem] theorem zap (E : VEnv) (t : Nat) (f : FuncId) (x y : List V) : zmp E t (some (.fn f x y)) = E := rfl
@[go_sem] theorem zam (E : VEnv) (t : Nat) (f : TypeId) (x : V) : zmp E t (some (.ifc f x)) = E := rfl
end Go.XL
namespace Go.XL
open Go.Proofs
@[go_sem] theorem tz3 : zem Tryz.prog 3 = some (.int .i64 (0)) := by kernel_rfl
@[go_sem] theorem tz4 : zem Tryz.prog 4 = some (.bool false) := by kernel_rfl
@[go_sem] theorem tz22 : zem Tryz.prog 22 = some (.slice none 0 0) := by kernel_rfl
@[go_sem] theorem tz47 : zem Tryz.prog 47 = some (.agg #[.int .i64 (0), .int .i64 (0), .int .i64 (0), .int .i64 (0)]) := by kernel_rfl
@[go_sem] theorem tz49 : zem Tryz.prog 49 = some (.slice none 0 0) := by kernel_rfl
@[go_sem] theorem tz57 : zem Tryz.prog 57 = some (.agg #[.int .i64 (0), .int .i64 (0), .int .i64 (0), .int .i64 (0), .slice none 0 0]) := by kernel_rfl
@[go_sem] theorem tz61 : zem Tryz.prog 61 = some (.agg #[.slice none 0 0, .slice none 0 0, .slice none 0 0]) := by kernel_rfl
@[go_sem] theorem tz65 : zem Tryz.prog 65 = some (.agg #[.int .i64 (0), .int .i64 (0), .slice none 0 0]) := by kernel_rfl
@[go_sem] theorem ytb : zem Tryz.prog 164 = some (.slice none 0 0) := by kernel_rfl
@[go_sem] theorem tsz3 : tsz Tryz.prog 3 = some (false, 1) := by kernel_rfl
@[go_sem] theorem ldT3 (v : V) (r : List V) : ldTV Tryz.prog 3 (v :: r) = some v.copy := zff tsz3 v r
@[go_sem] theorem ldD3 (l : List V) (k : Nat) : ldTV Tryz.prog 3 (l.drop k) = (l[k]?).map V.copy := zlh tsz3 l k
@[go_sem] theorem yrh : tint Tryz.prog 3 = some .i64 := by kernel_rfl
@[go_sem] theorem usm3 : (Tryz.prog.underlying 3).isSome = true := by kernel_rfl
@[go_sem] theorem tsz4 : tsz Tryz.prog 4 = some (false, 1) := by kernel_rfl
@[go_sem] theorem ldT4 (v : V) (r : List V) : ldTV Tryz.prog 4 (v :: r) = some v.copy := zff tsz4 v r
@[go_sem] theorem ldD4 (l : List V) (k : Nat) : ldTV Tryz.prog 4 (l.drop k) = (l[k]?).map V.copy := zlh tsz4 l k
@[go_sem] theorem yto : tint Tryz.prog 5 = some .u8 := by kernel_rfl
@[go_sem] theorem usm5 : (Tryz.prog.underlying 5).isSome = true := by kernel_rfl
@[go_sem] theorem yrd : tsz Tryz.prog 22 = some (false, 1) := by kernel_rfl
@[go_sem] theorem ldT22 (v : V) (r : List V) : ldTV Tryz.prog 22 (v :: r) = some v.copy := zff yrd v r
@[go_sem] theorem ldD22 (l : List V) (k : Nat) : ldTV Tryz.prog 22 (l.drop k) = (l[k]?).map V.copy := zlh yrd l k
@[go_sem] theorem yfg : tel Tryz.prog 22 = some (3, 1, 8) := by kernel_rfl
@[go_sem] theorem yrs : zph Tryz.prog 22 = true := by kernel_rfl
@[go_sem] theorem len22 (l : List (List V)) : zjv Tryz.prog 22 (.lst l) = some (.v (.int .i64 l.length)) := zjh yrs rfl
@[go_sem] theorem les22 (a : Addr) (n c : Nat) : zjv Tryz.prog 22 (.v (.slice (some a) n c)) = some (.v (.int .i64 n)) := zoc yrs a n c
@[go_sem] theorem ixl22 (l : List (List V)) (k : IntKind) (m : Int) : zih Tryz.prog 22 (.lst l) (.v (.int k m)) = if 0 ≤ m then idxO 1 l[m.toNat]? else none := zji yfg rfl k m
@[go_sem] theorem ixo22 (b : Bool) (e s : Nat) (l : List (List V)) (k : IntKind) (m : Int) : zih Tryz.prog 22 (.own b e s l) (.v (.int k m)) = if 0 ≤ m then idxO 1 l[m.toNat]? else none := zji yfg rfl k m
@[go_sem] theorem ixs22 (b off len cap : Nat) (k : IntKind) (m : Int) : zih Tryz.prog 22 (.v (.slice (some ⟨b, off, none⟩) len cap)) (.v (.int k m)) = if 0 ≤ m then (if m < len then some (.v (.pointer (some ⟨b, off + m.toNat * 1, none⟩))) else none) else none := zig yfg b off len cap k m
@[go_sem] theorem sll22 (l : List (List V)) (lo hi : Option Nat) : slcV Tryz.prog 22 (.lst l) lo hi = if lo.getD 0 ≤ hi.getD l.length ∧ hi.getD l.length ≤ l.length ∧ (∀ c ∈ l, c.length = 1) then some (.lst ((l.take (hi.getD l.length)).drop (lo.getD 0))) else none := ylz yfg rfl lo hi
@[go_sem] theorem sls22 (b off len cap : Nat) (lo hi : Option Nat) : slcV Tryz.prog 22 (.v (.slice (some ⟨b, off, none⟩) len cap)) lo hi = if lo.getD 0 ≤ hi.getD len ∧ hi.getD len ≤ cap ∧ lo.getD 0 < cap then some (.v (.slice (some ⟨b, off + lo.getD 0 * 1, none⟩) (hi.getD len - lo.getD 0) (cap - lo.getD 0))) else none := ycv yfg b off len cap lo hi
@[go_sem] theorem bsl22 (len : Nat) (ps : List (Nat × V)) : bslV Tryz.prog 22 len ps = if len * 1 ≤ 16777216 ∧ len ≤ 16777216 then (zfu (fun i => some (i * 1, 1)) (zeu (.int .i64 (0)) len) ps).map fun c => (3, 1, c) else none := znc yfg tz3 rfl rfl len ps
@[go_sem] theorem ytn : tsz Tryz.prog 23 = some (false, 1) := by kernel_rfl
@[go_sem] theorem ldT23 (v : V) (r : List V) : ldTV Tryz.prog 23 (v :: r) = some v.copy := zff ytn v r
@[go_sem] theorem ypj : tel Tryz.prog 23 = some (47, 4, 32) := by kernel_rfl
@[go_sem] theorem ytt : zph Tryz.prog 23 = true := by kernel_rfl
@[go_sem] theorem len23 (l : List (List V)) : zjv Tryz.prog 23 (.lst l) = some (.v (.int .i64 l.length)) := zjh ytt rfl
@[go_sem] theorem ixl23 (l : List (List V)) (k : IntKind) (m : Int) : zih Tryz.prog 23 (.lst l) (.v (.int k m)) = if 0 ≤ m then idxO 4 l[m.toNat]? else none := zji ypj rfl k m
@[go_sem] theorem ixs23 (b off len cap : Nat) (k : IntKind) (m : Int) : zih Tryz.prog 23 (.v (.slice (some ⟨b, off, none⟩) len cap)) (.v (.int k m)) = if 0 ≤ m then (if m < len then some (.v (.pointer (some ⟨b, off + m.toNat * 4, none⟩))) else none) else none := zig ypj b off len cap k m
@[go_sem] theorem bsl23 (len : Nat) (ps : List (Nat × V)) : bslV Tryz.prog 23 len ps = if len * 4 ≤ 16777216 ∧ len ≤ 16777216 then (zfu (fun i => some (i * 4, 4)) (zeu (.agg #[.int .i64 (0), .int .i64 (0), .int .i64 (0), .int .i64 (0)]) len) ps).map fun c => (47, 4, c) else none := znc ypj tz47 rfl rfl len ps
@[go_sem] theorem ytm : tsz Tryz.prog 24 = some (false, 1) := by kernel_rfl
@[go_sem] theorem ldT24 (v : V) (r : List V) : ldTV Tryz.prog 24 (v :: r) = some v.copy := zff ytm v r
@[go_sem] theorem ypi : tel Tryz.prog 24 = some (61, 3, 72) := by kernel_rfl
@[go_sem] theorem ypy : zph Tryz.prog 24 = true := by kernel_rfl
@[go_sem] theorem len24 (l : List (List V)) : zjv Tryz.prog 24 (.lst l) = some (.v (.int .i64 l.length)) := zjh ypy rfl
@[go_sem] theorem len024 : zjv Tryz.prog 24 (.v (.slice none 0 0)) = some (.v (.int .i64 0)) := zjh (l := []) ypy rfl
@[go_sem] theorem les24 (a : Addr) (n c : Nat) : zjv Tryz.prog 24 (.v (.slice (some a) n c)) = some (.v (.int .i64 n)) := zoc ypy a n c
@[go_sem] theorem ixl24 (l : List (List V)) (k : IntKind) (m : Int) : zih Tryz.prog 24 (.lst l) (.v (.int k m)) = if 0 ≤ m then idxO 3 l[m.toNat]? else none := zji ypi rfl k m
@[go_sem] theorem ixs24 (b off len cap : Nat) (k : IntKind) (m : Int) : zih Tryz.prog 24 (.v (.slice (some ⟨b, off, none⟩) len cap)) (.v (.int k m)) = if 0 ≤ m then (if m < len then some (.v (.pointer (some ⟨b, off + m.toNat * 3, none⟩))) else none) else none := zig ypi b off len cap k m
@[go_sem] theorem bsl24 (len : Nat) (ps : List (Nat × V)) : bslV Tryz.prog 24 len ps = if len * 3 ≤ 16777216 ∧ len ≤ 16777216 then (zfu (fun i => some (i * 3, 3)) (zeu (.agg #[.slice none 0 0, .slice none 0 0, .slice none 0 0]) len) ps).map fun c => (61, 3, c) else none := znc ypi tz61 rfl rfl len ps
@[go_sem] theorem ytl : tsz Tryz.prog 26 = some (true, 8) := by kernel_rfl
@[go_sem] theorem ldT26 (c : List V) : ldTV Tryz.prog 26 c = if 8 ≤ c.length then some (.agg ((c.take 8).map V.peek)) else none := zod ytl c
@[go_sem] theorem yei : foff Tryz.prog 26 0 = some 0 := by kernel_rfl
@[go_sem] theorem fpl26_0 (c : List V) : zec Tryz.prog 26 0 (.plc c) = if 0 ≤ c.length then some (.plc (c.drop 0)) else none := zej yei c
@[go_sem] theorem fpt26_0 (b o : Nat) : zec Tryz.prog 26 0 (.v (.pointer (some ⟨b, o, none⟩))) = some (.v (.pointer (some ⟨b, o + 0, none⟩))) := zdo yei b o
@[go_sem] theorem yeh : foff Tryz.prog 26 1 = some 1 := by kernel_rfl
@[go_sem] theorem fpl26_1 (c : List V) : zec Tryz.prog 26 1 (.plc c) = if 1 ≤ c.length then some (.plc (c.drop 1)) else none := zej yeh c
@[go_sem] theorem fpt26_1 (b o : Nat) : zec Tryz.prog 26 1 (.v (.pointer (some ⟨b, o, none⟩))) = some (.v (.pointer (some ⟨b, o + 1, none⟩))) := zdo yeh b o
@[go_sem] theorem ynn : foff Tryz.prog 26 2 = some 2 := by kernel_rfl
@[go_sem] theorem fpl26_2 (c : List V) : zec Tryz.prog 26 2 (.plc c) = if 2 ≤ c.length then some (.plc (c.drop 2)) else none := zej ynn c
@[go_sem] theorem yeg : foff Tryz.prog 26 3 = some 3 := by kernel_rfl
@[go_sem] theorem fpl26_3 (c : List V) : zec Tryz.prog 26 3 (.plc c) = if 3 ≤ c.length then some (.plc (c.drop 3)) else none := zej yeg c
@[go_sem] theorem fpt26_3 (b o : Nat) : zec Tryz.prog 26 3 (.v (.pointer (some ⟨b, o, none⟩))) = some (.v (.pointer (some ⟨b, o + 3, none⟩))) := zdo yeg b o
@[go_sem] theorem yef : foff Tryz.prog 26 4 = some 4 := by kernel_rfl
@[go_sem] theorem fpl26_4 (c : List V) : zec Tryz.prog 26 4 (.plc c) = if 4 ≤ c.length then some (.plc (c.drop 4)) else none := zej yef c
@[go_sem] theorem fpt26_4 (b o : Nat) : zec Tryz.prog 26 4 (.v (.pointer (some ⟨b, o, none⟩))) = some (.v (.pointer (some ⟨b, o + 4, none⟩))) := zdo yef b o
@[go_sem] theorem ynm : foff Tryz.prog 26 5 = some 5 := by kernel_rfl
@[go_sem] theorem fpl26_5 (c : List V) : zec Tryz.prog 26 5 (.plc c) = if 5 ≤ c.length then some (.plc (c.drop 5)) else none := zej ynm c
@[go_sem] theorem yee : foff Tryz.prog 26 6 = some 6 := by kernel_rfl
@[go_sem] theorem fpl26_6 (c : List V) : zec Tryz.prog 26 6 (.plc c) = if 6 ≤ c.length then some (.plc (c.drop 6)) else none := zej yee c
@[go_sem] theorem fpt26_6 (b o : Nat) : zec Tryz.prog 26 6 (.v (.pointer (some ⟨b, o, none⟩))) = some (.v (.pointer (some ⟨b, o + 6, none⟩))) := zdo yee b o
@[go_sem] theorem yed : foff Tryz.prog 26 7 = some 7 := by kernel_rfl
@[go_sem] theorem fpl26_7 (c : List V) : zec Tryz.prog 26 7 (.plc c) = if 7 ≤ c.length then some (.plc (c.drop 7)) else none := zej yed c
@[go_sem] theorem fpt26_7 (b o : Nat) : zec Tryz.prog 26 7 (.v (.pointer (some ⟨b, o, none⟩))) = some (.v (.pointer (some ⟨b, o + 7, none⟩))) := zdo yed b o
@[go_sem] theorem bld26 (ps : List (Nat × V)) : zkx Tryz.prog 26 ps = zfu (zhu [(0, 1), (1, 1), (2, 1), (3, 1), (4, 1), (5, 1), (6, 1), (7, 1)]) [V.v (.int .i64 (0)), V.v (.int .i64 (0)), V.v (.int .i64 (0)), V.v (.int .i64 (0)), V.v (.slice none 0 0), V.v (.bool false), V.v (.slice none 0 0), V.v (.slice none 0 0)] ps := by kernel_rfl
@[go_sem] theorem ytk : tsz Tryz.prog 37 = some (false, 1) := by kernel_rfl
@[go_sem] theorem ldT37 (v : V) (r : List V) : ldTV Tryz.prog 37 (v :: r) = some v.copy := zff ytk v r
@[go_sem] theorem ytj : tsz Tryz.prog 47 = some (true, 4) := by kernel_rfl
@[go_sem] theorem ldT47 (c : List V) : ldTV Tryz.prog 47 c = if 4 ≤ c.length then some (.agg ((c.take 4).map V.peek)) else none := zod ytj c
@[go_sem] theorem ynl : foff Tryz.prog 47 0 = some 0 := by kernel_rfl
@[go_sem] theorem fpl47_0 (c : List V) : zec Tryz.prog 47 0 (.plc c) = if 0 ≤ c.length then some (.plc (c.drop 0)) else none := zej ynl c
@[go_sem] theorem yec : foff Tryz.prog 47 1 = some 1 := by kernel_rfl
@[go_sem] theorem fpl47_1 (c : List V) : zec Tryz.prog 47 1 (.plc c) = if 1 ≤ c.length then some (.plc (c.drop 1)) else none := zej yec c
@[go_sem] theorem fpt47_1 (b o : Nat) : zec Tryz.prog 47 1 (.v (.pointer (some ⟨b, o, none⟩))) = some (.v (.pointer (some ⟨b, o + 1, none⟩))) := zdo yec b o
@[go_sem] theorem yeb : foff Tryz.prog 47 2 = some 2 := by kernel_rfl
@[go_sem] theorem fpl47_2 (c : List V) : zec Tryz.prog 47 2 (.plc c) = if 2 ≤ c.length then some (.plc (c.drop 2)) else none := zej yeb c
@[go_sem] theorem fpt47_2 (b o : Nat) : zec Tryz.prog 47 2 (.v (.pointer (some ⟨b, o, none⟩))) = some (.v (.pointer (some ⟨b, o + 2, none⟩))) := zdo yeb b o
@[go_sem] theorem yea : foff Tryz.prog 47 3 = some 3 := by kernel_rfl
@[go_sem] theorem fpl47_3 (c : List V) : zec Tryz.prog 47 3 (.plc c) = if 3 ≤ c.length then some (.plc (c.drop 3)) else none := zej yea c
@[go_sem] theorem fpt47_3 (b o : Nat) : zec Tryz.prog 47 3 (.v (.pointer (some ⟨b, o, none⟩))) = some (.v (.pointer (some ⟨b, o + 3, none⟩))) := zdo yea b o
@[go_sem] theorem bld47 (ps : List (Nat × V)) : zkx Tryz.prog 47 ps = zfu (zhu [(0, 1), (1, 1), (2, 1), (3, 1)]) [V.v (.int .i64 (0)), V.v (.int .i64 (0)), V.v (.int .i64 (0)), V.v (.int .i64 (0))] ps := by kernel_rfl
@[go_sem] theorem yrc : tsz Tryz.prog 49 = some (false, 1) := by kernel_rfl
@[go_sem] theorem ldT49 (v : V) (r : List V) : ldTV Tryz.prog 49 (v :: r) = some v.copy := zff yrc v r
@[go_sem] theorem ldD49 (l : List V) (k : Nat) : ldTV Tryz.prog 49 (l.drop k) = (l[k]?).map V.copy := zlh yrc l k
@[go_sem] theorem ylv : tel Tryz.prog 49 = some (22, 1, 24) := by kernel_rfl
@[go_sem] theorem ypx : zph Tryz.prog 49 = true := by kernel_rfl
@[go_sem] theorem len49 (l : List (List V)) : zjv Tryz.prog 49 (.lst l) = some (.v (.int .i64 l.length)) := zjh ypx rfl
@[go_sem] theorem len049 : zjv Tryz.prog 49 (.v (.slice none 0 0)) = some (.v (.int .i64 0)) := zjh (l := []) ypx rfl
@[go_sem] theorem les49 (a : Addr) (n c : Nat) : zjv Tryz.prog 49 (.v (.slice (some a) n c)) = some (.v (.int .i64 n)) := zoc ypx a n c
@[go_sem] theorem ixl49 (l : List (List V)) (k : IntKind) (m : Int) : zih Tryz.prog 49 (.lst l) (.v (.int k m)) = if 0 ≤ m then idxO 1 l[m.toNat]? else none := zji ylv rfl k m
@[go_sem] theorem ixs49 (b off len cap : Nat) (k : IntKind) (m : Int) : zih Tryz.prog 49 (.v (.slice (some ⟨b, off, none⟩) len cap)) (.v (.int k m)) = if 0 ≤ m then (if m < len then some (.v (.pointer (some ⟨b, off + m.toNat * 1, none⟩))) else none) else none := zig ylv b off len cap k m
@[go_sem] theorem sls49 (b off len cap : Nat) (lo hi : Option Nat) : slcV Tryz.prog 49 (.v (.slice (some ⟨b, off, none⟩) len cap)) lo hi = if lo.getD 0 ≤ hi.getD len ∧ hi.getD len ≤ cap ∧ lo.getD 0 < cap then some (.v (.slice (some ⟨b, off + lo.getD 0 * 1, none⟩) (hi.getD len - lo.getD 0) (cap - lo.getD 0))) else none := ycv ylv b off len cap lo hi
@[go_sem] theorem bsl49 (len : Nat) (ps : List (Nat × V)) : bslV Tryz.prog 49 len ps = if len * 1 ≤ 16777216 ∧ len ≤ 16777216 then (zfu (fun i => some (i * 1, 1)) (zeu (.slice none 0 0) len) ps).map fun c => (22, 1, c) else none := znc ylv tz22 rfl rfl len ps
@[go_sem] theorem yph : tel Tryz.prog 53 = some (57, 5, 56) := by kernel_rfl
@[go_sem] theorem yts : zph Tryz.prog 53 = true := by kernel_rfl
@[go_sem] theorem len53 (l : List (List V)) : zjv Tryz.prog 53 (.lst l) = some (.v (.int .i64 l.length)) := zjh yts rfl
@[go_sem] theorem ixl53 (l : List (List V)) (k : IntKind) (m : Int) : zih Tryz.prog 53 (.lst l) (.v (.int k m)) = if 0 ≤ m then idxO 5 l[m.toNat]? else none := zji yph rfl k m
@[go_sem] theorem ixs53 (b off len cap : Nat) (k : IntKind) (m : Int) : zih Tryz.prog 53 (.v (.slice (some ⟨b, off, none⟩) len cap)) (.v (.int k m)) = if 0 ≤ m then (if m < len then some (.v (.pointer (some ⟨b, off + m.toNat * 5, none⟩))) else none) else none := zig yph b off len cap k m
@[go_sem] theorem bsl53 (len : Nat) (ps : List (Nat × V)) : bslV Tryz.prog 53 len ps = if len * 5 ≤ 16777216 ∧ len ≤ 16777216 then (zfu (fun i => some (i * 5, 5)) (zeu (.agg #[.int .i64 (0), .int .i64 (0), .int .i64 (0), .int .i64 (0), .slice none 0 0]) len) ps).map fun c => (57, 5, c) else none := znc yph tz57 rfl rfl len ps
@[go_sem] theorem yti : tsz Tryz.prog 57 = some (true, 5) := by kernel_rfl
@[go_sem] theorem ldT57 (c : List V) : ldTV Tryz.prog 57 c = if 5 ≤ c.length then some (.agg ((c.take 5).map V.peek)) else none := zod yti c
@[go_sem] theorem ydz : foff Tryz.prog 57 0 = some 0 := by kernel_rfl
@[go_sem] theorem fpl57_0 (c : List V) : zec Tryz.prog 57 0 (.plc c) = if 0 ≤ c.length then some (.plc (c.drop 0)) else none := zej ydz c
@[go_sem] theorem fpt57_0 (b o : Nat) : zec Tryz.prog 57 0 (.v (.pointer (some ⟨b, o, none⟩))) = some (.v (.pointer (some ⟨b, o + 0, none⟩))) := zdo ydz b o
@[go_sem] theorem ynk : foff Tryz.prog 57 1 = some 1 := by kernel_rfl
@[go_sem] theorem fpt57_1 (b o : Nat) : zec Tryz.prog 57 1 (.v (.pointer (some ⟨b, o, none⟩))) = some (.v (.pointer (some ⟨b, o + 1, none⟩))) := zdo ynk b o
@[go_sem] theorem ydy : foff Tryz.prog 57 2 = some 2 := by kernel_rfl
@[go_sem] theorem fpl57_2 (c : List V) : zec Tryz.prog 57 2 (.plc c) = if 2 ≤ c.length then some (.plc (c.drop 2)) else none := zej ydy c
@[go_sem] theorem fpt57_2 (b o : Nat) : zec Tryz.prog 57 2 (.v (.pointer (some ⟨b, o, none⟩))) = some (.v (.pointer (some ⟨b, o + 2, none⟩))) := zdo ydy b o
@[go_sem] theorem ydx : foff Tryz.prog 57 3 = some 3 := by kernel_rfl
@[go_sem] theorem fpl57_3 (c : List V) : zec Tryz.prog 57 3 (.plc c) = if 3 ≤ c.length then some (.plc (c.drop 3)) else none := zej ydx c
@[go_sem] theorem fpt57_3 (b o : Nat) : zec Tryz.prog 57 3 (.v (.pointer (some ⟨b, o, none⟩))) = some (.v (.pointer (some ⟨b, o + 3, none⟩))) := zdo ydx b o
@[go_sem] theorem ydw : foff Tryz.prog 57 4 = some 4 := by kernel_rfl
@[go_sem] theorem fpl57_4 (c : List V) : zec Tryz.prog 57 4 (.plc c) = if 4 ≤ c.length then some (.plc (c.drop 4)) else none := zej ydw c
@[go_sem] theorem fpt57_4 (b o : Nat) : zec Tryz.prog 57 4 (.v (.pointer (some ⟨b, o, none⟩))) = some (.v (.pointer (some ⟨b, o + 4, none⟩))) := zdo ydw b o
@[go_sem] theorem bld57 (ps : List (Nat × V)) : zkx Tryz.prog 57 ps = zfu (zhu [(0, 1), (1, 1), (2, 1), (3, 1), (4, 1)]) [V.v (.int .i64 (0)), V.v (.int .i64 (0)), V.v (.int .i64 (0)), V.v (.int .i64 (0)), V.v (.slice none 0 0)] ps := by kernel_rfl
@[go_sem] theorem yrb : tsz Tryz.prog 59 = some (false, 1) := by kernel_rfl
@[go_sem] theorem ldT59 (v : V) (r : List V) : ldTV Tryz.prog 59 (v :: r) = some v.copy := zff yrb v r
@[go_sem] theorem ldD59 (l : List V) (k : Nat) : ldTV Tryz.prog 59 (l.drop k) = (l[k]?).map V.copy := zlh yrb l k
@[go_sem] theorem ypg : tel Tryz.prog 59 = some (65, 3, 40) := by kernel_rfl
@[go_sem] theorem yrr : zph Tryz.prog 59 = true := by kernel_rfl
@[go_sem] theorem len59 (l : List (List V)) : zjv Tryz.prog 59 (.lst l) = some (.v (.int .i64 l.length)) := zjh yrr rfl
@[go_sem] theorem les59 (a : Addr) (n c : Nat) : zjv Tryz.prog 59 (.v (.slice (some a) n c)) = some (.v (.int .i64 n)) := zoc yrr a n c
@[go_sem] theorem ixl59 (l : List (List V)) (k : IntKind) (m : Int) : zih Tryz.prog 59 (.lst l) (.v (.int k m)) = if 0 ≤ m then idxO 3 l[m.toNat]? else none := zji ypg rfl k m
@[go_sem] theorem ixs59 (b off len cap : Nat) (k : IntKind) (m : Int) : zih Tryz.prog 59 (.v (.slice (some ⟨b, off, none⟩) len cap)) (.v (.int k m)) = if 0 ≤ m then (if m < len then some (.v (.pointer (some ⟨b, off + m.toNat * 3, none⟩))) else none) else none := zig ypg b off len cap k m
@[go_sem] theorem bsl59 (len : Nat) (ps : List (Nat × V)) : bslV Tryz.prog 59 len ps = if len * 3 ≤ 16777216 ∧ len ≤ 16777216 then (zfu (fun i => some (i * 3, 3)) (zeu (.agg #[.int .i64 (0), .int .i64 (0), .slice none 0 0]) len) ps).map fun c => (65, 3, c) else none := znc ypg tz65 rfl rfl len ps
@[go_sem] theorem yth : tsz Tryz.prog 61 = some (true, 3) := by kernel_rfl
@[go_sem] theorem ldT61 (c : List V) : ldTV Tryz.prog 61 c = if 3 ≤ c.length then some (.agg ((c.take 3).map V.peek)) else none := zod yth c
@[go_sem] theorem ydv : foff Tryz.prog 61 0 = some 0 := by kernel_rfl
@[go_sem] theorem fpl61_0 (c : List V) : zec Tryz.prog 61 0 (.plc c) = if 0 ≤ c.length then some (.plc (c.drop 0)) else none := zej ydv c
@[go_sem] theorem fpt61_0 (b o : Nat) : zec Tryz.prog 61 0 (.v (.pointer (some ⟨b, o, none⟩))) = some (.v (.pointer (some ⟨b, o + 0, none⟩))) := zdo ydv b o
@[go_sem] theorem ydu : foff Tryz.prog 61 1 = some 1 := by kernel_rfl
@[go_sem] theorem fpl61_1 (c : List V) : zec Tryz.prog 61 1 (.plc c) = if 1 ≤ c.length then some (.plc (c.drop 1)) else none := zej ydu c
@[go_sem] theorem fpt61_1 (b o : Nat) : zec Tryz.prog 61 1 (.v (.pointer (some ⟨b, o, none⟩))) = some (.v (.pointer (some ⟨b, o + 1, none⟩))) := zdo ydu b o
@[go_sem] theorem ydt : foff Tryz.prog 61 2 = some 2 := by kernel_rfl
@[go_sem] theorem fpl61_2 (c : List V) : zec Tryz.prog 61 2 (.plc c) = if 2 ≤ c.length then some (.plc (c.drop 2)) else none := zej ydt c
@[go_sem] theorem fpt61_2 (b o : Nat) : zec Tryz.prog 61 2 (.v (.pointer (some ⟨b, o, none⟩))) = some (.v (.pointer (some ⟨b, o + 2, none⟩))) := zdo ydt b o
@[go_sem] theorem bld61 (ps : List (Nat × V)) : zkx Tryz.prog 61 ps = zfu (zhu [(0, 1), (1, 1), (2, 1)]) [V.v (.slice none 0 0), V.v (.slice none 0 0), V.v (.slice none 0 0)] ps := by kernel_rfl
@[go_sem] theorem ytg : tsz Tryz.prog 65 = some (true, 3) := by kernel_rfl
@[go_sem] theorem ldT65 (c : List V) : ldTV Tryz.prog 65 c = if 3 ≤ c.length then some (.agg ((c.take 3).map V.peek)) else none := zod ytg c
@[go_sem] theorem ynj : foff Tryz.prog 65 0 = some 0 := by kernel_rfl
@[go_sem] theorem fpl65_0 (c : List V) : zec Tryz.prog 65 0 (.plc c) = if 0 ≤ c.length then some (.plc (c.drop 0)) else none := zej ynj c
@[go_sem] theorem yni : foff Tryz.prog 65 1 = some 1 := by kernel_rfl
@[go_sem] theorem fpl65_1 (c : List V) : zec Tryz.prog 65 1 (.plc c) = if 1 ≤ c.length then some (.plc (c.drop 1)) else none := zej yni c
@[go_sem] theorem yds : foff Tryz.prog 65 2 = some 2 := by kernel_rfl
@[go_sem] theorem fpl65_2 (c : List V) : zec Tryz.prog 65 2 (.plc c) = if 2 ≤ c.length then some (.plc (c.drop 2)) else none := zej yds c
@[go_sem] theorem fpt65_2 (b o : Nat) : zec Tryz.prog 65 2 (.v (.pointer (some ⟨b, o, none⟩))) = some (.v (.pointer (some ⟨b, o + 2, none⟩))) := zdo yds b o
@[go_sem] theorem bld65 (ps : List (Nat × V)) : zkx Tryz.prog 65 ps = zfu (zhu [(0, 1), (1, 1), (2, 1)]) [V.v (.int .i64 (0)), V.v (.int .i64 (0)), V.v (.slice none 0 0)] ps := by kernel_rfl
@[go_sem] theorem ytf : tsz Tryz.prog 68 = some (false, 1) := by kernel_rfl
@[go_sem] theorem ldT68 (v : V) (r : List V) : ldTV Tryz.prog 68 (v :: r) = some v.copy := zff ytf v r
@[go_sem] theorem yte : tsz Tryz.prog 70 = some (false, 1) := by kernel_rfl
@[go_sem] theorem ldT70 (v : V) (r : List V) : ldTV Tryz.prog 70 (v :: r) = some v.copy := zff yte v r
@[go_sem] theorem ytp : tel Tryz.prog 70 = some (49, 1, 24) := by kernel_rfl
@[go_sem] theorem ixs70 (b off len cap : Nat) (k : IntKind) (m : Int) : zih Tryz.prog 70 (.v (.slice (some ⟨b, off, none⟩) len cap)) (.v (.int k m)) = if 0 ≤ m then (if m < len then some (.v (.pointer (some ⟨b, off + m.toNat * 1, none⟩))) else none) else none := zig ytp b off len cap k m
@[go_sem] theorem bld90 (ps : List (Nat × V)) : zkx Tryz.prog 90 ps = zfu (fun i => some (i * 1, 1)) [V.v (.int .i64 (0)), V.v (.int .i64 (0))] ps := by kernel_rfl
@[go_sem] theorem ytd : tsz Tryz.prog 91 = some (false, 1) := by kernel_rfl
@[go_sem] theorem ldT91 (v : V) (r : List V) : ldTV Tryz.prog 91 (v :: r) = some v.copy := zff ytd v r
@[go_sem] theorem ytc : tsz Tryz.prog 99 = some (false, 1) := by kernel_rfl
@[go_sem] theorem ldT99 (v : V) (r : List V) : ldTV Tryz.prog 99 (v :: r) = some v.copy := zff ytc v r
@[go_sem] theorem yjx : foff Tryz.prog 103 0 = some 0 := by kernel_rfl
@[go_sem] theorem fpt103_0 (b o : Nat) : zec Tryz.prog 103 0 (.v (.pointer (some ⟨b, o, none⟩))) = some (.v (.pointer (some ⟨b, o + 0, none⟩))) := zdo yjx b o
@[go_sem] theorem yjw : foff Tryz.prog 103 1 = some 1 := by kernel_rfl
@[go_sem] theorem fpt103_1 (b o : Nat) : zec Tryz.prog 103 1 (.v (.pointer (some ⟨b, o, none⟩))) = some (.v (.pointer (some ⟨b, o + 1, none⟩))) := zdo yjw b o
@[go_sem] theorem yjv : foff Tryz.prog 103 2 = some 2 := by kernel_rfl
@[go_sem] theorem fpt103_2 (b o : Nat) : zec Tryz.prog 103 2 (.v (.pointer (some ⟨b, o, none⟩))) = some (.v (.pointer (some ⟨b, o + 2, none⟩))) := zdo yjv b o
@[go_sem] theorem yju : foff Tryz.prog 103 3 = some 3 := by kernel_rfl
@[go_sem] theorem fpt103_3 (b o : Nat) : zec Tryz.prog 103 3 (.v (.pointer (some ⟨b, o, none⟩))) = some (.v (.pointer (some ⟨b, o + 3, none⟩))) := zdo yju b o
@[go_sem] theorem yjt : foff Tryz.prog 103 4 = some 4 := by kernel_rfl
@[go_sem] theorem fpt103_4 (b o : Nat) : zec Tryz.prog 103 4 (.v (.pointer (some ⟨b, o, none⟩))) = some (.v (.pointer (some ⟨b, o + 4, none⟩))) := zdo yjt b o
@[go_sem] theorem yjs : foff Tryz.prog 103 5 = some 5 := by kernel_rfl
@[go_sem] theorem fpt103_5 (b o : Nat) : zec Tryz.prog 103 5 (.v (.pointer (some ⟨b, o, none⟩))) = some (.v (.pointer (some ⟨b, o + 5, none⟩))) := zdo yjs b o
@[go_sem] theorem bld103 (ps : List (Nat × V)) : zkx Tryz.prog 103 ps = zfu (zhu [(0, 1), (1, 1), (2, 1), (3, 1), (4, 1), (5, 1)]) [V.v (.int .i64 (0)), V.v (.int .i64 (0)), V.v (.int .i64 (0)), V.v (.slice none 0 0), V.v (.slice none 0 0), V.v (.map none)] ps := by kernel_rfl
@[go_sem] theorem yrj : tel Tryz.prog 105 = some (57, 5, 56) := by kernel_rfl
@[go_sem] theorem yrt : zph Tryz.prog 105 = true := by kernel_rfl
@[go_sem] theorem les105 (a : Addr) (n c : Nat) : zjv Tryz.prog 105 (.v (.slice (some a) n c)) = some (.v (.int .i64 n)) := zoc yrt a n c
@[go_sem] theorem ixs105 (b off len cap : Nat) (k : IntKind) (m : Int) : zih Tryz.prog 105 (.v (.slice (some ⟨b, off, none⟩) len cap)) (.v (.int k m)) = if 0 ≤ m then (if m < len then some (.v (.pointer (some ⟨b, off + m.toNat * 5, none⟩))) else none) else none := zig yrj b off len cap k m
@[go_sem] theorem yrg : tsz Tryz.prog 112 = some (false, 1) := by kernel_rfl
@[go_sem] theorem ldT112 (v : V) (r : List V) : ldTV Tryz.prog 112 (v :: r) = some v.copy := zff yrg v r
@[go_sem] theorem ypf : tint Tryz.prog 112 = some .u64 := by kernel_rfl
@[go_sem] theorem you : (Tryz.prog.underlying 112).isSome = true := by kernel_rfl
@[go_sem] theorem yjr : foff Tryz.prog 114 0 = some 0 := by kernel_rfl
@[go_sem] theorem fpt114_0 (b o : Nat) : zec Tryz.prog 114 0 (.v (.pointer (some ⟨b, o, none⟩))) = some (.v (.pointer (some ⟨b, o + 0, none⟩))) := zdo yjr b o
@[go_sem] theorem bld114 (ps : List (Nat × V)) : zkx Tryz.prog 114 ps = zfu (zhu [(0, 1)]) [V.v (.int .u64 (0))] ps := by kernel_rfl
@[go_sem] theorem ype : tint Tryz.prog 115 = some .u64 := by kernel_rfl
@[go_sem] theorem yrf : tsz Tryz.prog 154 = some (false, 1) := by kernel_rfl
@[go_sem] theorem ldT154 (v : V) (r : List V) : ldTV Tryz.prog 154 (v :: r) = some v.copy := zff yrf v r
@[go_sem] theorem yov : tel Tryz.prog 154 = some (164, 1, 24) := by kernel_rfl
@[go_sem] theorem ixl154 (l : List (List V)) (k : IntKind) (m : Int) : zih Tryz.prog 154 (.lst l) (.v (.int k m)) = if 0 ≤ m then idxO 1 l[m.toNat]? else none := zji yov rfl k m
@[go_sem] theorem bsl154 (len : Nat) (ps : List (Nat × V)) : bslV Tryz.prog 154 len ps = if len * 1 ≤ 16777216 ∧ len ≤ 16777216 then (zfu (fun i => some (i * 1, 1)) (zeu (.slice none 0 0) len) ps).map fun c => (164, 1, c) else none := znc yov ytb rfl rfl len ps
@[go_sem] theorem yjq : foff Tryz.prog 156 0 = some 0 := by kernel_rfl
@[go_sem] theorem fpt156_0 (b o : Nat) : zec Tryz.prog 156 0 (.v (.pointer (some ⟨b, o, none⟩))) = some (.v (.pointer (some ⟨b, o + 0, none⟩))) := zdo yjq b o
@[go_sem] theorem yjp : foff Tryz.prog 156 1 = some 8 := by kernel_rfl
@[go_sem] theorem fpt156_1 (b o : Nat) : zec Tryz.prog 156 1 (.v (.pointer (some ⟨b, o, none⟩))) = some (.v (.pointer (some ⟨b, o + 8, none⟩))) := zdo yjp b o
@[go_sem] theorem yjo : foff Tryz.prog 156 2 = some 9 := by kernel_rfl
@[go_sem] theorem fpt156_2 (b o : Nat) : zec Tryz.prog 156 2 (.v (.pointer (some ⟨b, o, none⟩))) = some (.v (.pointer (some ⟨b, o + 9, none⟩))) := zdo yjo b o
@[go_sem] theorem yjn : foff Tryz.prog 156 3 = some 10 := by kernel_rfl
@[go_sem] theorem fpt156_3 (b o : Nat) : zec Tryz.prog 156 3 (.v (.pointer (some ⟨b, o, none⟩))) = some (.v (.pointer (some ⟨b, o + 10, none⟩))) := zdo yjn b o
@[go_sem] theorem yjm : foff Tryz.prog 156 4 = some 11 := by kernel_rfl
@[go_sem] theorem fpt156_4 (b o : Nat) : zec Tryz.prog 156 4 (.v (.pointer (some ⟨b, o, none⟩))) = some (.v (.pointer (some ⟨b, o + 11, none⟩))) := zdo yjm b o
@[go_sem] theorem yjl : foff Tryz.prog 156 5 = some 12 := by kernel_rfl
@[go_sem] theorem fpt156_5 (b o : Nat) : zec Tryz.prog 156 5 (.v (.pointer (some ⟨b, o, none⟩))) = some (.v (.pointer (some ⟨b, o + 12, none⟩))) := zdo yjl b o
@[go_sem] theorem bld156 (ps : List (Nat × V)) : zkx Tryz.prog 156 ps = zfu (zhu [(0, 8), (8, 1), (9, 1), (10, 1), (11, 1), (12, 1)]) [V.v (.int .i64 (0)), V.v (.int .i64 (0)), V.v (.int .i64 (0)), V.v (.int .i64 (0)), V.v (.slice none 0 0), V.v (.bool false), V.v (.slice none 0 0), V.v (.slice none 0 0), V.v (.slice none 0 0), V.v (.slice none 0 0), V.v (.slice none 0 0), V.v (.int .i64 (0)), V.v (.int .i64 (0))] ps := by kernel_rfl
@[go_sem] theorem yre : tsz Tryz.prog 164 = some (false, 1) := by kernel_rfl
@[go_sem] theorem ldT164 (v : V) (r : List V) : ldTV Tryz.prog 164 (v :: r) = some v.copy := zff yre v r
@[go_sem] theorem yri : tel Tryz.prog 164 = some (4, 1, 1) := by kernel_rfl
@[go_sem] theorem ixs164 (b off len cap : Nat) (k : IntKind) (m : Int) : zih Tryz.prog 164 (.v (.slice (some ⟨b, off, none⟩) len cap)) (.v (.int k m)) = if 0 ≤ m then (if m < len then some (.v (.pointer (some ⟨b, off + m.toNat * 1, none⟩))) else none) else none := zig yri b off len cap k m
@[go_sem] theorem cvt3_112 (k : IntKind) (n : Int) : ztp Tryz.prog 3 112 (.v (.int k n)) = some (.v (.int .u64 (IntKind.wrap .u64 n))) := zsj usm3 ypf k n
@[go_sem] theorem cvt3_115 (k : IntKind) (n : Int) : ztp Tryz.prog 3 115 (.v (.int k n)) = some (.v (.int .u64 (IntKind.wrap .u64 n))) := zsj usm3 ype k n
@[go_sem] theorem cvt5_3 (k : IntKind) (n : Int) : ztp Tryz.prog 5 3 (.v (.int k n)) = some (.v (.int .i64 (IntKind.wrap .i64 n))) := zsj usm5 yrh k n
@[go_sem] theorem cvt112_3 (k : IntKind) (n : Int) : ztp Tryz.prog 112 3 (.v (.int k n)) = some (.v (.int .i64 (IntKind.wrap .i64 n))) := zsj you yrh k n
@[go_sem] theorem cvt112_5 (k : IntKind) (n : Int) : ztp Tryz.prog 112 5 (.v (.int k n)) = some (.v (.int .u8 (IntKind.wrap .u8 n))) := zsj you yto k n
theorem zdq : Tryz.prog.follows .mixedOrders = true := by kernel_rfl
theorem kd90 : Maps.Keyed Tryz.prog 90 := .of_law (WideMaps.ArrKey.law (n := 2) (e := 3) ⟨by kernel_rfl, by kernel_rfl, by kernel_rfl, by kernel_rfl⟩)
instance ok4 : FnOk Tryz.prog 4 Tryz.f4 := ⟨Tryz.func4, by kernel_rfl, by kernel_rfl⟩
instance ok9 : FnOk Tryz.prog 9 Tryz.f9 := ⟨Tryz.func9, by kernel_rfl, by kernel_rfl⟩
instance ok10 : FnOk Tryz.prog 10 Tryz.f10 := ⟨Tryz.func10, by kernel_rfl, by kernel_rfl⟩
instance ok11 : FnOk Tryz.prog 11 Tryz.f11 := ⟨Tryz.func11, by kernel_rfl, by kernel_rfl⟩
instance ok12 : FnOk Tryz.prog 12 Tryz.f12 := ⟨Tryz.func12, by kernel_rfl, by kernel_rfl⟩
instance ok13 : FnOk Tryz.prog 13 Tryz.f13 := ⟨Tryz.func13, by kernel_rfl, by kernel_rfl⟩
instance ok16 : FnOk Tryz.prog 16 Tryz.f16 := ⟨Tryz.func16, by kernel_rfl, by kernel_rfl⟩
instance ok18 : FnOk Tryz.prog 18 Tryz.f18 := ⟨Tryz.func18, by kernel_rfl, by kernel_rfl⟩
instance ok21 : FnOk Tryz.prog 21 Tryz.f21 := ⟨Tryz.func21, by kernel_rfl, by kernel_rfl⟩
instance ok23 : FnOk Tryz.prog 23 Tryz.f23 := ⟨Tryz.func23, by kernel_rfl, by kernel_rfl⟩
instance ok25 : FnOk Tryz.prog 25 Tryz.f25 := ⟨Tryz.func25, by kernel_rfl, by kernel_rfl⟩
instance ok26 : FnOk Tryz.prog 26 Tryz.f26 := ⟨Tryz.func26, by kernel_rfl, by kernel_rfl⟩
instance ok27 : FnOk Tryz.prog 27 Tryz.f27 := ⟨Tryz.func27, by kernel_rfl, by kernel_rfl⟩
instance ok28 : FnOk Tryz.prog 28 Tryz.f28 := ⟨Tryz.func28, by kernel_rfl, by kernel_rfl⟩
instance ok29 : FnOk Tryz.prog 29 Tryz.f29 := ⟨Tryz.func29, by kernel_rfl, by kernel_rfl⟩
instance ok30 : FnOk Tryz.prog 30 Tryz.f30 := ⟨Tryz.func30, by kernel_rfl, by kernel_rfl⟩
instance ok32 : FnOk Tryz.prog 32 Tryz.f32 := ⟨Tryz.func32, by kernel_rfl, by kernel_rfl⟩
instance ok35 : FnOk Tryz.prog 35 Tryz.f35 := ⟨Tryz.func35, by kernel_rfl, by kernel_rfl⟩
instance ok36 : FnOk Tryz.prog 36 Tryz.f36 := ⟨Tryz.func36, by kernel_rfl, by kernel_rfl⟩
instance ok37 : FnOk Tryz.prog 37 Tryz.f37 := ⟨Tryz.func37, by kernel_rfl, by kernel_rfl⟩
instance ok38 : FnOk Tryz.prog 38 Tryz.f38 := ⟨Tryz.func38, by kernel_rfl, by kernel_rfl⟩
instance ok39 : FnOk Tryz.prog 39 Tryz.f39 := ⟨Tryz.func39, by kernel_rfl, by kernel_rfl⟩
instance ok40 : FnOk Tryz.prog 40 Tryz.f40 := ⟨Tryz.func40, by kernel_rfl, by kernel_rfl⟩
instance ok41 : FnOk Tryz.prog 41 Tryz.f41 := ⟨Tryz.func41, by kernel_rfl, by kernel_rfl⟩
instance ok42 : FnOk Tryz.prog 42 Tryz.f42 := ⟨Tryz.func42, by kernel_rfl, by kernel_rfl⟩
instance ok43 : FnOk Tryz.prog 43 Tryz.f43 := ⟨Tryz.func43, by kernel_rfl, by kernel_rfl⟩
instance ok44 : FnOk Tryz.prog 44 Tryz.f44 := ⟨Tryz.func44, by kernel_rfl, by kernel_rfl⟩
instance ok45 : FnOk Tryz.prog 45 Tryz.f45 := ⟨Tryz.func45, by kernel_rfl, by kernel_rfl⟩
instance ok46 : FnOk Tryz.prog 46 Tryz.f46 := ⟨Tryz.func46, by kernel_rfl, by kernel_rfl⟩
instance ok47 : FnOk Tryz.prog 47 Tryz.f47 := ⟨Tryz.func47, by kernel_rfl, by kernel_rfl⟩
instance ok48 : FnOk Tryz.prog 48 Tryz.f48 := ⟨Tryz.func48, by kernel_rfl, by kernel_rfl⟩
instance ok49 : FnOk Tryz.prog 49 Tryz.f49 := ⟨Tryz.func49, by kernel_rfl, by kernel_rfl⟩
instance ok50 : FnOk Tryz.prog 50 Tryz.f50 := ⟨Tryz.func50, by kernel_rfl, by kernel_rfl⟩
instance ok51 : FnOk Tryz.prog 51 Tryz.f51 := ⟨Tryz.func51, by kernel_rfl, by kernel_rfl⟩
instance ok52 : FnOk Tryz.prog 52 Tryz.f52 := ⟨Tryz.func52, by kernel_rfl, by kernel_rfl⟩
instance ok60 : FnOk Tryz.prog 60 Tryz.f60 := ⟨Tryz.func60, by kernel_rfl, by kernel_rfl⟩
instance ok62 : FnOk Tryz.prog 62 Tryz.f62 := ⟨Tryz.func62, by kernel_rfl, by kernel_rfl⟩
instance ok63 : FnOk Tryz.prog 63 Tryz.f63 := ⟨Tryz.func63, by kernel_rfl, by kernel_rfl⟩
instance ok64 : FnOk Tryz.prog 64 Tryz.f64 := ⟨Tryz.func64, by kernel_rfl, by kernel_rfl⟩
instance ok65 : FnOk Tryz.prog 65 Tryz.f65 := ⟨Tryz.func65, by kernel_rfl, by kernel_rfl⟩
instance ok66 : FnOk Tryz.prog 66 Tryz.f66 := ⟨Tryz.func66, by kernel_rfl, by kernel_rfl⟩
instance ok67 : FnOk Tryz.prog 67 Tryz.f67 := ⟨Tryz.func67, by kernel_rfl, by kernel_rfl⟩
instance ok68 : FnOk Tryz.prog 68 Tryz.f68 := ⟨Tryz.func68, by kernel_rfl, by kernel_rfl⟩
instance ok69 : FnOk Tryz.prog 69 Tryz.f69 := ⟨Tryz.func69, by kernel_rfl, by kernel_rfl⟩
instance ok70 : FnOk Tryz.prog 70 Tryz.f70 := ⟨Tryz.func70, by kernel_rfl, by kernel_rfl⟩
instance ok71 : FnOk Tryz.prog 71 Tryz.f71 := ⟨Tryz.func71, by kernel_rfl, by kernel_rfl⟩
instance ok72 : FnOk Tryz.prog 72 Tryz.f72 := ⟨Tryz.func72, by kernel_rfl, by kernel_rfl⟩
instance ok73 : FnOk Tryz.prog 73 Tryz.f73 := ⟨Tryz.func73, by kernel_rfl, by kernel_rfl⟩
instance ok74 : FnOk Tryz.prog 74 Tryz.f74 := ⟨Tryz.func74, by kernel_rfl, by kernel_rfl⟩
instance ok75 : FnOk Tryz.prog 75 Tryz.f75 := ⟨Tryz.func75, by kernel_rfl, by kernel_rfl⟩
instance ok76 : FnOk Tryz.prog 76 Tryz.f76 := ⟨Tryz.func76, by kernel_rfl, by kernel_rfl⟩
instance ok77 : FnOk Tryz.prog 77 Tryz.f77 := ⟨Tryz.func77, by kernel_rfl, by kernel_rfl⟩
instance ok78 : FnOk Tryz.prog 78 Tryz.f78 := ⟨Tryz.func78, by kernel_rfl, by kernel_rfl⟩
instance ok79 : FnOk Tryz.prog 79 Tryz.f79 := ⟨Tryz.func79, by kernel_rfl, by kernel_rfl⟩
instance ok80 : FnOk Tryz.prog 80 Tryz.f80 := ⟨Tryz.func80, by kernel_rfl, by kernel_rfl⟩
instance ok81 : FnOk Tryz.prog 81 Tryz.f81 := ⟨Tryz.func81, by kernel_rfl, by kernel_rfl⟩
instance ok82 : FnOk Tryz.prog 82 Tryz.f82 := ⟨Tryz.func82, by kernel_rfl, by kernel_rfl⟩
instance ok83 : FnOk Tryz.prog 83 Tryz.f83 := ⟨Tryz.func83, by kernel_rfl, by kernel_rfl⟩
instance ok84 : FnOk Tryz.prog 84 Tryz.f84 := ⟨Tryz.func84, by kernel_rfl, by kernel_rfl⟩
instance ok85 : FnOk Tryz.prog 85 Tryz.f85 := ⟨Tryz.func85, by kernel_rfl, by kernel_rfl⟩
instance ok86 : FnOk Tryz.prog 86 Tryz.f86 := ⟨Tryz.func86, by kernel_rfl, by kernel_rfl⟩
instance ok87 : FnOk Tryz.prog 87 Tryz.f87 := ⟨Tryz.func87, by kernel_rfl, by kernel_rfl⟩
instance ok88 : FnOk Tryz.prog 88 Tryz.f88 := ⟨Tryz.func88, by kernel_rfl, by kernel_rfl⟩
instance ok89 : FnOk Tryz.prog 89 Tryz.f89 := ⟨Tryz.func89, by kernel_rfl, by kernel_rfl⟩
instance ok90 : FnOk Tryz.prog 90 Tryz.f90 := ⟨Tryz.func90, by kernel_rfl, by kernel_rfl⟩
instance ok91 : FnOk Tryz.prog 91 Tryz.f91 := ⟨Tryz.func91, by kernel_rfl, by kernel_rfl⟩
instance ok92 : FnOk Tryz.prog 92 Tryz.f92 := ⟨Tryz.func92, by kernel_rfl, by kernel_rfl⟩
instance ok93 : FnOk Tryz.prog 93 Tryz.f93 := ⟨Tryz.func93, by kernel_rfl, by kernel_rfl⟩
instance ok94 : FnOk Tryz.prog 94 Tryz.f94 := ⟨Tryz.func94, by kernel_rfl, by kernel_rfl⟩
instance ok95 : FnOk Tryz.prog 95 Tryz.f95 := ⟨Tryz.func95, by kernel_rfl, by kernel_rfl⟩
instance ok96 : FnOk Tryz.prog 96 Tryz.f96 := ⟨Tryz.func96, by kernel_rfl, by kernel_rfl⟩
instance ok97 : FnOk Tryz.prog 97 Tryz.f97 := ⟨Tryz.func97, by kernel_rfl, by kernel_rfl⟩
instance ok99 : FnOk Tryz.prog 99 Tryz.f99 := ⟨Tryz.func99, by kernel_rfl, by kernel_rfl⟩
instance ok100 : FnOk Tryz.prog 100 Tryz.f100 := ⟨Tryz.func100, by kernel_rfl, by kernel_rfl⟩
instance ok101 : FnOk Tryz.prog 101 Tryz.f101 := ⟨Tryz.func101, by kernel_rfl, by kernel_rfl⟩
instance ok102 : FnOk Tryz.prog 102 Tryz.f102 := ⟨Tryz.func102, by kernel_rfl, by kernel_rfl⟩
instance ok103 : FnOk Tryz.prog 103 Tryz.f103 := ⟨Tryz.func103, by kernel_rfl, by kernel_rfl⟩
instance ok104 : FnOk Tryz.prog 104 Tryz.f104 := ⟨Tryz.func104, by kernel_rfl, by kernel_rfl⟩
instance ok105 : FnOk Tryz.prog 105 Tryz.f105 := ⟨Tryz.func105, by kernel_rfl, by kernel_rfl⟩
instance ok106 : FnOk Tryz.prog 106 Tryz.f106 := ⟨Tryz.func106, by kernel_rfl, by kernel_rfl⟩
instance ok107 : FnOk Tryz.prog 107 Tryz.f107 := ⟨Tryz.func107, by kernel_rfl, by kernel_rfl⟩
instance ok108 : FnOk Tryz.prog 108 Tryz.f108 := ⟨Tryz.func108, by kernel_rfl, by kernel_rfl⟩
instance ok109 : FnOk Tryz.prog 109 Tryz.f109 := ⟨Tryz.func109, by kernel_rfl, by kernel_rfl⟩
instance ok110 : FnOk Tryz.prog 110 Tryz.f110 := ⟨Tryz.func110, by kernel_rfl, by kernel_rfl⟩
instance ok111 : FnOk Tryz.prog 111 Tryz.f111 := ⟨Tryz.func111, by kernel_rfl, by kernel_rfl⟩
instance ok112 : FnOk Tryz.prog 112 Tryz.f112 := ⟨Tryz.func112, by kernel_rfl, by kernel_rfl⟩
instance ok113 : FnOk Tryz.prog 113 Tryz.f113 := ⟨Tryz.func113, by kernel_rfl, by kernel_rfl⟩
instance ok114 : FnOk Tryz.prog 114 Tryz.f114 := ⟨Tryz.func114, by kernel_rfl, by kernel_rfl⟩
instance ok115 : FnOk Tryz.prog 115 Tryz.f115 := ⟨Tryz.func115, by kernel_rfl, by kernel_rfl⟩
instance ok116 : FnOk Tryz.prog 116 Tryz.f116 := ⟨Tryz.func116, by kernel_rfl, by kernel_rfl⟩
instance ok118 : FnOk Tryz.prog 118 Tryz.f118 := ⟨Tryz.func118, by kernel_rfl, by kernel_rfl⟩
instance ok119 : FnOk Tryz.prog 119 Tryz.f119 := ⟨Tryz.func119, by kernel_rfl, by kernel_rfl⟩
instance ok122 : FnOk Tryz.prog 122 Tryz.f122 := ⟨Tryz.func122, by kernel_rfl, by kernel_rfl⟩
instance ok124 : FnOk Tryz.prog 124 Tryz.f124 := ⟨Tryz.func124, by kernel_rfl, by kernel_rfl⟩
instance ok126 : FnOk Tryz.prog 126 Tryz.f126 := ⟨Tryz.func126, by kernel_rfl, by kernel_rfl⟩
instance ok127 : FnOk Tryz.prog 127 Tryz.f127 := ⟨Tryz.func127, by kernel_rfl, by kernel_rfl⟩
instance ok128 : FnOk Tryz.prog 128 Tryz.f128 := ⟨Tryz.func128, by kernel_rfl, by kernel_rfl⟩
instance ok129 : FnOk Tryz.prog 129 Tryz.f129 := ⟨Tryz.func129, by kernel_rfl, by kernel_rfl⟩
instance ok130 : FnOk Tryz.prog 130 Tryz.f130 := ⟨Tryz.func130, by kernel_rfl, by kernel_rfl⟩
instance ok131 : FnOk Tryz.prog 131 Tryz.f131 := ⟨Tryz.func131, by kernel_rfl, by kernel_rfl⟩
instance ok132 : FnOk Tryz.prog 132 Tryz.f132 := ⟨Tryz.func132, by kernel_rfl, by kernel_rfl⟩
instance ok137 : FnOk Tryz.prog 137 Tryz.f137 := ⟨Tryz.func137, by kernel_rfl, by kernel_rfl⟩
instance ok138 : FnOk Tryz.prog 138 Tryz.f138 := ⟨Tryz.func138, by kernel_rfl, by kernel_rfl⟩
instance ok139 : FnOk Tryz.prog 139 Tryz.f139 := ⟨Tryz.func139, by kernel_rfl, by kernel_rfl⟩
instance ok140 : FnOk Tryz.prog 140 Tryz.f140 := ⟨Tryz.func140, by kernel_rfl, by kernel_rfl⟩
instance ok141 : FnOk Tryz.prog 141 Tryz.f141 := ⟨Tryz.func141, by kernel_rfl, by kernel_rfl⟩
instance ok142 : FnOk Tryz.prog 142 Tryz.f142 := ⟨Tryz.func142, by kernel_rfl, by kernel_rfl⟩
instance ok143 : FnOk Tryz.prog 143 Tryz.f143 := ⟨Tryz.func143, by kernel_rfl, by kernel_rfl⟩
instance ok162 : FnOk Tryz.prog 162 Tryz.f162 := ⟨Tryz.func162, by kernel_rfl, by kernel_rfl⟩
instance ok163 : FnOk Tryz.prog 163 Tryz.f163 := ⟨Tryz.func163, by kernel_rfl, by kernel_rfl⟩
instance ok164 : FnOk Tryz.prog 164 Tryz.f164 := ⟨Tryz.func164, by kernel_rfl, by kernel_rfl⟩
end Go.XL
namespace Go.XL
section
variable {P : Program} {n : Nat} {r : Rr} {Q : VEnv → Sto → Prop} {k : List Fr} {E0 E : VEnv} {S S0 S1 : Sto} {Mp : List MpE} {ops l : List Oper} {t : Nat} {dst : Option Tmp} {op : Op} {ty : TypeId} {pos : String} {af : Array Edge}
theorem zgb {x y : Code} {p : Prop} {_ : Decidable (¬ p)} (q1 : ¬ p → DS P n r Q (.code x :: k) E S) (q2 : p → DS P n r Q (.code y :: k) E S) : CG P n r Q x y k E S (.v (.bool (decide (¬ p)))) :=
 ⟨⟨_, rfl⟩, fun h => q1 (by simpa using h), fun h => q2 (by simpa using h)⟩
theorem ylj {p : Prop} {_ : Decidable (¬ p)} (q1 : ¬ p → DS P n r Q (.ops ops (⟨some t, op, ty, pos, af, none⟩ :: l) :: k) E S) (q2 : p → DS P n r Q (.ops ops l :: k) ((t, .v undef) :: E) S) : GG P n r Q true t op ty pos af ops l k E S (.v (.bool (decide (¬ p)))) :=
 ⟨.inl ⟨_, rfl⟩, fun h => q1 (by simpa using h), fun h => q2 (by simpa using h)⟩
theorem zvj {p : Prop} {_ : Decidable (¬ p)} (q1 : p → DS P n r Q (.ops ops (⟨some t, op, ty, pos, af, none⟩ :: l) :: k) E S) (q2 : ¬ p → DS P n r Q (.ops ops l :: k) ((t, .v undef) :: E) S) : GG P n r Q false t op ty pos af ops l k E S (.v (.bool (decide (¬ p)))) :=
 ⟨.inl ⟨_, rfl⟩, fun h => q1 (by simpa using h), fun h => q2 (by simpa using h)⟩
def DGG (P : Program) (n : Nat) (r : Rr) (Q : VEnv → Sto → Prop) (b : Bool) (t : Nat) (op : Op) (ty : TypeId) (pos : String) (af : Array Edge) (ops : List Oper) (S0 : Sto) (Mp : List MpE) (l : List Oper) (k : List Fr) (E0 E : VEnv) (S1 : Sto) (v : V) : Prop :=
 ((∃ u, v = .v (.bool u)) ∨ v = .v undef) ∧ (v = .v (.bool b) → DD P n r Q ops S0 Mp (⟨some t, op, ty, pos, af, none⟩ :: l) k E0 E S1) ∧ (v ≠ .v (.bool b) → DD P n r Q ops S0 Mp l k ((t, .v undef) :: E0) ((t, .v undef) :: E) S1)
theorem zni {j : Nat} {b : Bool} {v : V} (hd : decide (t < n) = true) (e : zgt E ops n j = some v) (q : DGG P n r Q b t op ty pos af ops S0 Mp l k E0 E S1 v) :
  DD P n r Q ops S0 Mp (⟨some t, op, ty, pos, af, some (j, b)⟩ :: l) k E0 E S1 := by
 obtain ⟨⟨u, rfl⟩ | rfl, q1, q2⟩ := q
 ·by_cases h : u = b
  ·subst h; exact ysw e rfl (q1 rfl)
  ·refine ysx e (by cases u <;> cases b <;> simp_all) hd (q2 (by simpa using h))
 ·exact ysv e rfl hd (q2 (by simp [undef]))
theorem DGG.run {b : Bool} (q : DD P n r Q ops S0 Mp (⟨some t, op, ty, pos, af, none⟩ :: l) k E0 E S1) : DGG P n r Q b t op ty pos af ops S0 Mp l k E0 E S1 (.v (.bool b)) := ⟨.inl ⟨_, rfl⟩, fun _ => q, fun h => (h rfl).elim⟩
theorem zmt (q : DD P n r Q ops S0 Mp l k ((t, .v undef) :: E0) ((t, .v undef) :: E) S1) : DGG P n r Q true t op ty pos af ops S0 Mp l k E0 E S1 (.v (.bool false)) := ⟨.inl ⟨_, rfl⟩, (fun h => by cases h), fun _ => q⟩
theorem ypb (q : DD P n r Q ops S0 Mp l k ((t, .v undef) :: E0) ((t, .v undef) :: E) S1) : DGG P n r Q false t op ty pos af ops S0 Mp l k E0 E S1 (.v (.bool true)) := ⟨.inl ⟨_, rfl⟩, (fun h => by cases h), fun _ => q⟩
theorem ypa {b : Bool} (q : DD P n r Q ops S0 Mp l k ((t, .v undef) :: E0) ((t, .v undef) :: E) S1) : DGG P n r Q b t op ty pos af ops S0 Mp l k E0 E S1 (.v undef) := ⟨.inr rfl, fun h => by simp [undef] at h, fun _ => q⟩
theorem zvl {p : Prop} {_ : Decidable p} (q1 : p → DD P n r Q ops S0 Mp (⟨some t, op, ty, pos, af, none⟩ :: l) k E0 E S1) (q2 : ¬ p → DD P n r Q ops S0 Mp l k ((t, .v undef) :: E0) ((t, .v undef) :: E) S1) : DGG P n r Q true t op ty pos af ops S0 Mp l k E0 E S1 (.v (.bool (decide p))) :=
 ⟨.inl ⟨_, rfl⟩, fun h => q1 (by simpa using h), fun h => q2 (by simpa using h)⟩
theorem ysp {p : Prop} {_ : Decidable p} (q1 : ¬ p → DD P n r Q ops S0 Mp (⟨some t, op, ty, pos, af, none⟩ :: l) k E0 E S1) (q2 : p → DD P n r Q ops S0 Mp l k ((t, .v undef) :: E0) ((t, .v undef) :: E) S1) : DGG P n r Q false t op ty pos af ops S0 Mp l k E0 E S1 (.v (.bool (decide p))) :=
 ⟨.inl ⟨_, rfl⟩, fun h => q1 (by simpa using h), fun h => q2 (by simpa using h)⟩
theorem DGG.npT {p : Prop} {_ : Decidable (¬ p)} (q1 : ¬ p → DD P n r Q ops S0 Mp (⟨some t, op, ty, pos, af, none⟩ :: l) k E0 E S1) (q2 : p → DD P n r Q ops S0 Mp l k ((t, .v undef) :: E0) ((t, .v undef) :: E) S1) : DGG P n r Q true t op ty pos af ops S0 Mp l k E0 E S1 (.v (.bool (decide (¬ p)))) :=
 ⟨.inl ⟨_, rfl⟩, fun h => q1 (by simpa using h), fun h => q2 (by simpa using h)⟩
theorem DGG.npF {p : Prop} {_ : Decidable (¬ p)} (q1 : p → DD P n r Q ops S0 Mp (⟨some t, op, ty, pos, af, none⟩ :: l) k E0 E S1) (q2 : ¬ p → DD P n r Q ops S0 Mp l k ((t, .v undef) :: E0) ((t, .v undef) :: E) S1) : DGG P n r Q false t op ty pos af ops S0 Mp l k E0 E S1 (.v (.bool (decide (¬ p)))) :=
 ⟨.inl ⟨_, rfl⟩, fun h => q1 (by simpa using h), fun h => q2 (by simpa using h)⟩
theorem ysq {u : Bool} (q1 : u = true → DD P n r Q ops S0 Mp (⟨some t, op, ty, pos, af, none⟩ :: l) k E0 E S1) (q2 : u = false → DD P n r Q ops S0 Mp l k ((t, .v undef) :: E0) ((t, .v undef) :: E) S1) : DGG P n r Q true t op ty pos af ops S0 Mp l k E0 E S1 (.v (.bool (u))) :=
 ⟨.inl ⟨_, rfl⟩, fun h => q1 (by simpa using h), fun h => q2 (by simpa using h)⟩
theorem DGG.bF {u : Bool} (q1 : u = false → DD P n r Q ops S0 Mp (⟨some t, op, ty, pos, af, none⟩ :: l) k E0 E S1) (q2 : u = true → DD P n r Q ops S0 Mp l k ((t, .v undef) :: E0) ((t, .v undef) :: E) S1) : DGG P n r Q false t op ty pos af ops S0 Mp l k E0 E S1 (.v (.bool (u))) :=
 ⟨.inl ⟨_, rfl⟩, fun h => q1 (by simpa using h), fun h => q2 (by simpa using h)⟩
def zpf (l : List Oper) : List Nat → List Oper
 | [] => []
 | i :: r => match l[i]? with
  | some o => o :: zpf l r
  | none => zpf l r
def yrn (r : List Oper) : Option Oper → List Oper
 | some o => o :: r
 | none => r
theorem zny (l : List Oper) : ∀ ord : List Nat, ord.filterMap (l.toArray[·]?) = zpf l ord
 | [] => rfl
 | i :: r => by
  simp only [List.filterMap_cons, List.getElem?_toArray, zpf]
  rw [← zny l r]
  cases l[i]? <;> simp
theorem zbe (l : List Oper) : zpf l [] = [] := rfl
theorem zbb (l : List Oper) (i : Nat) (r : List Nat) : zpf l (i :: r) = yrn (zpf l r) l[i]? := by
 simp only [zpf]; cases l[i]? <;> rfl
theorem zba (r : List Oper) (o : Oper) : yrn r (some o) = o :: r := rfl
theorem zce {id : Nat} {os l1 l2 : List Oper} (ord : List Nat) (m : Nat) (hok : zon os.toArray ord m = true) (hm : P.follows .mixedOrders = true) (h1 : zpf os ord = l1) (h2 : os.drop m = l2)
  (q : DD P n r Q os S [] l1 (.ops os l2 :: k) E E []) : DS P n r Q (.code (.region id os.toArray true) :: k) E S :=
 yoq ord m hok hm (by rw [zny, h1]; simpa [h2] using q)
end
end Go.XL
namespace Go.XL
abbrev I (n : Int) : V := .v (.int .i64 n)
abbrev Bo (b : Bool) : V := .v (.bool b)
def cI (n : Int) : List V := [I n]
abbrev ints (l : List Int) : V := .lst (l.map cI)
def cR (l : List Int) : List V := [ints l]
abbrev rows (l : List (List Int)) : V := .lst (l.map cR)
@[go_sem] theorem cI_eq (n : Int) : cI n = [I n] := rfl
@[go_sem] theorem cR_eq (n : List Int) : cR n = [ints n] := rfl
theorem zdt (n : Int) : (cI n).length = 1 := rfl
theorem zeq (n : List Int) : (cR n).length = 1 := rfl
structure Member where
 id : Int
 hand : Int
 from_ : Int
 to : Int
def Member.cells (m : Member) : List V := [I m.id, I m.hand, I m.from_, I m.to]
@[go_sem] theorem Member.cells_eq (m : Member) : m.cells = [I m.id, I m.hand, I m.from_, I m.to] := rfl
theorem Member.len (m : Member) : m.cells.length = 4 := rfl
abbrev Member.val (m : Member) : V := .agg m.cells
structure Ruling where
 round : Int
 table : Int
 points : List Int
def Ruling.cells (r : Ruling) : List V := [I r.round, I r.table, ints r.points]
@[go_sem] theorem Ruling.cells_eq (r : Ruling) : r.cells = [I r.round, I r.table, ints r.points] := rfl
theorem Ruling.len (m : Ruling) : m.cells.length = 3 := rfl
structure Sitting where
 tables : List (List Int)
 points : List (List Int)
 rulings : List Ruling
def Sitting.cells (s : Sitting) : List V := [rows s.tables, rows s.points, .lst (s.rulings.map Ruling.cells)]
@[go_sem] theorem Sitting.cells_eq (s : Sitting) : s.cells = [rows s.tables, rows s.points, .lst (s.rulings.map Ruling.cells)] := rfl
theorem Sitting.len (m : Sitting) : m.cells.length = 3 := rfl
abbrev Sitting.val (s : Sitting) : V := .agg s.cells
structure Club where
 size : Int
 start : Int
 absent : Int
 window : Int
 places : List Int
 share : Bool
 members : List Member
 rounds : List Sitting
def Club.cells (c : Club) : List V := [I c.size, I c.start, I c.absent, I c.window, ints c.places, Bo c.share, .lst (c.members.map Member.cells), .lst (c.rounds.map Sitting.cells)]
@[go_sem] theorem Club.cells_eq (c : Club) : c.cells = [I c.size, I c.start, I c.absent, I c.window, ints c.places, Bo c.share, .lst (c.members.map Member.cells), .lst (c.rounds.map Sitting.cells)] := rfl
abbrev Club.val (c : Club) : V := .agg c.cells
def Member.plays (m : Member) (round : Int) : Bool := decide (m.from_ ≤ round) && (decide (m.to < 0) || decide (round ≤ m.to))
def Member.playsR (m : Member) (round : Int) : Bool := decide (m.from_ ≤ round) && (decide (m.to = -1) || decide (round ≤ m.to))
theorem zco {α : Type} {l : List α} {i : Nat} (h : i < l.length) : ∃ x r, l.drop i = x :: r ∧ l[i] = x ∧ l.drop (i + 1) = r := ⟨l[i], l.drop (i + 1), List.drop_eq_getElem_cons h, rfl, rfl⟩
theorem zeo {α : Type} {l : List α} {i : Nat} (h : ¬ (i : Int) < (l.length : Int)) : l.drop i = [] := List.drop_eq_nil_of_le (by omega)
def idxF {α : Type} (p : α → Bool) : List α → Nat → Int
 | [], _ => -1
 | x :: r, i => if p x then i else idxF p r (i + 1)
theorem zme {α : Type} {p : α → Bool} {l : List α} {i : Nat} (hi : i < l.length) (h : p l[i] = true) : idxF p (l.drop i) i = i := by
 rw [List.drop_eq_getElem_cons hi, idxF, if_pos h]
theorem zjx {α : Type} {p : α → Bool} {l : List α} {i : Nat} (hi : i < l.length) (h : p l[i] = false) : idxF p (l.drop i) i = idxF p (l.drop (i + 1)) (i + 1) := by
 rw [List.drop_eq_getElem_cons hi, idxF, if_neg (by simp [h])]
theorem zmf {α : Type} {p : α → Bool} {l : List α} {i : Nat} (hi : l.length ≤ i) : idxF p (l.drop i) i = -1 := by
 rw [List.drop_eq_nil_of_le hi, idxF]
end Go.XL
namespace Go.XL
theorem yV0 : type_of% (And.intro @Option.map_some.{0,0} <| And.intro @Option.map_none.{0,0} <| And.intro @Option.bind_some.{0,0} <| And.intro @Option.bind_none.{0,0} <| And.intro @Nat.zero_add <| And.intro @Nat.add_zero <| And.intro @Nat.zero_le <| And.intro @Nat.zero_mul <| And.intro @Nat.mul_one <| And.intro @Nat.one_mul <| And.intro @Int.natCast_zero <| And.intro @Int.toNat_zero <| And.intro @decide_true <| And.intro @decide_false <| And.intro @true_and <| And.intro @and_true <| And.intro @Bool.and_self <| And.intro @Bool.and_true <| And.intro @Bool.true_and <| And.intro @Bool.not_true <| And.intro @Bool.not_false <| And.intro @Option.isSome_some.{0} <| And.intro @not_true_eq_false <| And.intro @not_false_eq_true <| And.intro @Option.getD_some.{0} <| And.intro @Option.getD_none.{0} <| And.intro @Int.toNat_natCast <| And.intro @List.length_map.{0,0} <| And.intro @List.getElem?_map.{0,0} <| And.intro @List.getElem?_eq_getElem.{0} <| And.intro @List.all_cons.{0} <| @List.all_nil.{0}) := And.intro @Option.map_some.{0,0} <| And.intro @Option.map_none.{0,0} <| And.intro @Option.bind_some.{0,0} <| And.intro @Option.bind_none.{0,0} <| And.intro @Nat.zero_add <| And.intro @Nat.add_zero <| And.intro @Nat.zero_le <| And.intro @Nat.zero_mul <| And.intro @Nat.mul_one <| And.intro @Nat.one_mul <| And.intro @Int.natCast_zero <| And.intro @Int.toNat_zero <| And.intro @decide_true <| And.intro @decide_false <| And.intro @true_and <| And.intro @and_true <| And.intro @Bool.and_self <| And.intro @Bool.and_true <| And.intro @Bool.true_and <| And.intro @Bool.not_true <| And.intro @Bool.not_false <| And.intro @Option.isSome_some.{0} <| And.intro @not_true_eq_false <| And.intro @not_false_eq_true <| And.intro @Option.getD_some.{0} <| And.intro @Option.getD_none.{0} <| And.intro @Int.toNat_natCast <| And.intro @List.length_map.{0,0} <| And.intro @List.getElem?_map.{0,0} <| And.intro @List.getElem?_eq_getElem.{0} <| And.intro @List.all_cons.{0} <| @List.all_nil.{0}
theorem yU {p : Prop} (h : p := by with_unfolding_all rfl) : p := h
theorem yR {p : Prop} (h : p := by rfl) : p := h
theorem yE {p : Prop} (h : p := by (simp (disch := omega) only [go_sem, dopV, yV0, ↓reduceIte, Nat.reduceEqDiff, Nat.reduceLT, Nat.reduceLeDiff, Nat.reduceAdd, Nat.reduceMul, Nat.reduceSub, Int.reduceToNat, Int.reduceLT, Int.reduceLE, Int.reduceEq, IntWalk.toNatUp, IntWalk.iteOmega, IntWalk.i64_in, V.flat, V.one, *]; exact rfl)) : p := h
theorem yG {p : Prop} (h : p := by (simp (disch := omega) only [go_sem, dopV, yV0, ↓reduceIte, Nat.reduceEqDiff, Nat.reduceLT, Nat.reduceLeDiff, Nat.reduceAdd, Nat.reduceMul, Nat.reduceSub, Int.reduceToNat, Int.reduceLT, Int.reduceLE, Int.reduceEq, IntWalk.toNatUp, IntWalk.iteOmega, IntWalk.i64_in, V.flat, V.one]; exact rfl)) : p := h
theorem yT {p : Prop} (h : p := by (simp (disch := omega) only [go_sem, dopV, yV0, ↓reduceIte, Nat.reduceEqDiff, Nat.reduceLT, Nat.reduceLeDiff, Nat.reduceAdd, Nat.reduceMul, Nat.reduceSub, Int.reduceToNat, Int.reduceLT, Int.reduceLE, Int.reduceEq, IntWalk.toNatUp, IntWalk.iteOmega, IntWalk.i64_in, V.flat, V.one, *]; try exact rfl)) : p := h
theorem yH {p : Prop} (h : p := by (simp (disch := omega) only [go_sem, dopV, yV0, ↓reduceIte, Nat.reduceEqDiff, Nat.reduceLT, Nat.reduceLeDiff, Nat.reduceAdd, Nat.reduceMul, Nat.reduceSub, Int.reduceToNat, Int.reduceLT, Int.reduceLE, Int.reduceEq, IntWalk.toNatUp, IntWalk.iteOmega, IntWalk.i64_in, V.flat, V.one]; try exact rfl)) : p := h
theorem yF {p : Prop} (h : p := by (simp (disch := omega) only [go_sem, dopV, yV0, ↓reduceIte, Nat.reduceEqDiff, Nat.reduceLT, Nat.reduceLeDiff, Nat.reduceAdd, Nat.reduceMul, Nat.reduceSub, Int.reduceToNat, Int.reduceLT, Int.reduceLE, Int.reduceEq, IntWalk.toNatUp, IntWalk.iteOmega, IntWalk.i64_in, V.flat, V.one, *]; first | done | exact rfl)) : p := h
theorem yS {p : Prop} (h : p := by simp (disch := omega) only [go_sem, dopV, yV0, ↓reduceIte, Nat.reduceEqDiff, Nat.reduceLT, Nat.reduceLeDiff, Nat.reduceAdd, Nat.reduceMul, Nat.reduceSub, Int.reduceToNat, Int.reduceLT, Int.reduceLE, Int.reduceEq, IntWalk.toNatUp, IntWalk.iteOmega, IntWalk.i64_in, V.flat, V.one, zew, zfk, yhj, yly, and_self, Int.natCast_add, Int.natCast_one, Int.natCast_zero, List.map_append, ints, rows, *]) : p := h
theorem yN {p : Prop} (h : p := by (simp only [go_sem, Nat.reduceEqDiff, ↓reduceIte]; exact rfl)) : p := h
theorem yO {p : Prop} (h : p := by first | exact .inl rfl | exact .inr rfl) : p := h
end Go.XL
namespace Go.XL
def zei (most : Int) : List Int → Int → Int
 | [], want => if want = 0 then 0 else 12
 | n :: l, want => if ((-most) ≤ n ∧ n ≤ most) then zei most l (want - n) else 2
def zgq (size : Int) (l : List Int) (most want : Int) : Int := if (l.length : Int) = size then zei most l want else 3
def zfq (c : Club) (l : List Int) : Int := zgq c.size l 1099511627776 (c.size * c.start)
def zdi : List Member → Int → Int
 | [], _ => 0
 | m :: l, last => if m.id ≤ last then 11 else
   if ¬ ((-10000) ≤ m.hand ∧ m.hand ≤ 10000) then 2 else if ¬ (0 ≤ m.from_ ∧ m.from_ ≤ 20) then 2 else if m.to = -1 then zdi l m.id else if (m.from_ ≤ m.to ∧ m.to ≤ 20) then zdi l m.id else 2
def zen (l : List Member) : Int := if l.length > 40 then 8 else zdi l 0
def zfs (c : Club) (id : Int) : Int := idxF (fun m => decide (m.id = id)) c.members 0
def Club.mem (c : Club) (i : Int) : Member := c.members.getD i.toNat ⟨0, 0, 0, 0⟩
def zib : Option Int → Int → Bool
 | none, _ => false
 | some p, id => decide (id ≤ p)
def zdw (c : Club) (round : Int) : List Int → Option Int → Int
 | [], _ => 0
 | id :: l, pre => if zfs c id < 0 then 7 else if (c.mem (zfs c id)).plays round = false then 10 else
   if zib pre id = true then 11 else zdw c round l (some id)
def zdl (c : Club) (round : Int) : List (List Int) → List Int → Int → Int
 | [], _, _ => 0
 | t :: l, seated, first => if (t.length : Int) ≠ c.size then 3 else
   if zdw c round t none ≠ 0 then zdw c round t none else
   if t.any (fun id => decide (id ∈ seated)) = true then 12 else
   if t.headD 0 ≤ first then 11 else zdl c round l (seated ++ t) (t.headD 0)
def ytr : Sitting := ⟨[], [], []⟩
def Club.round (c : Club) (i : Int) : Sitting := c.rounds.getD i.toNat ytr
def zex (c : Club) (round : Int) : Int := zdl c round (c.round round).tables [] 0
def zfe (c : Club) (round table : Int) : Bool :=
 decide ((0 ≤ round ∧ round ≤ (c.rounds.length : Int) - 1) ∧ (0 ≤ table ∧ table ≤ ((c.round round).points.length : Int) - 1) ∧ 0 < ((c.round round).points.getD table.toNat []).length)
def zdm (c : Club) : List (List Int) → Int
 | [] => 0
 | l :: r => if l.length = 0 then zdm c r else if zfq c l ≠ 0 then zfq c l else zdm c r
def zct (c : Club) (round : Int) : List Ruling → Int
 | [] => 0
 | x :: r => if ¬ ((max 0 (round - c.window)) ≤ x.round ∧ x.round ≤ round) then 2 else if zfe c x.round x.table = false then 7 else if zfq c x.points ≠ 0 then zfq c x.points else zct c round r
def zfl (c : Club) (round : Int) : Int := if (c.round round).points.length ≠ (c.round round).tables.length then 3 else zdm c (c.round round).points
def zfa (c : Club) (round : Int) : Int := if (c.round round).rulings.length > 20 then 8 else zct c round (c.round round).rulings
def zgr (c : Club) (round : Int) : Int := if zfl c round ≠ 0 then zfl c round else zfa c round
def zed (c : Club) : Nat → Nat → Int
 | _, 0 => 0
 | i, n + 1 => if zex c i ≠ 0 then zex c i else if zgr c i ≠ 0 then zgr c i else zed c (i + 1) n
def zfi (c : Club) : Int :=
 if ¬ (3 ≤ c.size ∧ c.size ≤ 4) then 2 else if ¬ (0 ≤ c.start ∧ c.start ≤ 1000000) then 2 else if ¬ ((-1000000) ≤ c.absent ∧ c.absent ≤ 1000000) then 2 else if ¬ (0 ≤ c.window ∧ c.window ≤ 20) then 2 else
 zgq c.size c.places 1000000 0
def zdd (c : Club) : Int :=
 if zfi c ≠ 0 then zfi c else if zen c.members ≠ 0 then zen c.members else if c.rounds.length > 20 then 8 else zed c 0 c.rounds.length
def zfb (c : Club) (round : Int) : List Int := (c.members.filter (fun m => m.plays round)).map Member.id
def zcs (c : Club) (round : Int) : List Int := if round < 0 then [] else if zdd c ≠ 0 then [] else zfb c round
structure Sitting.Small (s : Sitting) : Prop where
 tables : s.tables.length ≤ 1000000
 points : s.points.length ≤ 1000000
 rulings : s.rulings.length ≤ 1000000
 table : ∀ t ∈ s.tables, t.length ≤ 1000000
 point : ∀ t ∈ s.points, t.length ≤ 1000000
 ruling : ∀ x ∈ s.rulings, x.points.length ≤ 1000000
structure Club.Small (c : Club) : Prop where
 places : c.places.length ≤ 1000000
 members : c.members.length ≤ 1000000
 rounds : c.rounds.length ≤ 1000000
 round : ∀ s ∈ c.rounds, s.Small
theorem Club.round_at (c : Club) {i : Nat} (h : i < c.rounds.length) : c.round (i : Int) = c.rounds[i] := by
 simp [Club.round, List.getD_eq_getElem?_getD, List.getElem?_eq_getElem h]
theorem Club.Small.at {c : Club} (s : c.Small) {i : Nat} (h : i < c.rounds.length) : c.rounds[i].Small := s.round _ (List.getElem_mem h)
theorem zwx {α : Type} (p : α → Bool) : ∀ (l : List α) (i : Nat), idxF p l i = -1 ∨ ∃ j x, l[j]? = some x ∧ p x = true ∧ idxF p l i = (i + j : Nat)
 | [], i => .inl rfl
 | x :: r, i => by
  simp only [idxF]
  by_cases h : p x = true
  ·rw [if_pos h]; exact .inr ⟨0, x, rfl, h, by simp⟩
  ·rw [if_neg h]
   rcases zwx p r (i + 1) with e | ⟨j, y, e1, e2, e3⟩
   ·exact .inl e
   ·exact .inr ⟨j + 1, y, by simpa using e1, e2, by rw [e3]; congr 1; omega⟩
theorem zgu {c : Club} {id : Int} (h : ¬ zfs c id < 0) : ∃ (i : Nat) (hi : i < c.members.length), zfs c id = i ∧ c.members[i].id = id ∧ c.mem (zfs c id) = c.members[i] := by
 rcases zwx (fun m : Member => decide (m.id = id)) c.members 0 with e | ⟨j, x, e1, e2, e3⟩
 ·exact absurd (show zfs c id < 0 by rw [zfs, e]; decide) h
 ·obtain ⟨hj, rfl⟩ := List.getElem?_eq_some_iff.1 e1
  have e4 : zfs c id = j := by rw [zfs, e3]; simp
  exact ⟨j, hj, e4, by simpa using e2, by rw [e4]; simp [Club.mem, List.getD_eq_getElem?_getD, List.getElem?_eq_getElem hj]⟩
theorem zpd {m : Member} (h : m.to = -1 ∨ 0 ≤ m.to) (r : Int) : m.playsR r = m.plays r := by
 have e : decide (m.to = -1) = decide (m.to < 0) := by
  rcases h with h | h
  ·simp [h]
  ·simp only [decide_eq_decide]; omega
 simp [Member.playsR, Member.plays, e]
structure Club.Fine (c : Club) : Prop where
 pos : ∀ m ∈ c.members, 0 < m.id
 to : ∀ m ∈ c.members, m.to = -1 ∨ 0 ≤ m.to
theorem zgf : ∀ {l : List Member} {last : Int}, 0 ≤ last → zdi l last = 0 → (∀ m ∈ l, last < m.id) ∧ ∀ m ∈ l, m.to = -1 ∨ 0 ≤ m.to
 | [], _, _, _ => ⟨fun _ h => (List.not_mem_nil h).elim, fun _ h => (List.not_mem_nil h).elim⟩
 | m :: l, last, h0, h => by
  simp only [zdi] at h
  split at h
  ·cases h
  rename_i h1
  split at h
  ·cases h
  split at h
  ·cases h
  rename_i h3
  replace h3 := Decidable.not_not.1 h3
  split at h
  ·rename_i h4
   have ih := zgf (l := l) (last := m.id) (by omega) h
   refine ⟨fun x hx => ?_, fun x hx => ?_⟩
   ·rcases List.mem_cons.1 hx with rfl | hx
    ·omega
    ·have := ih.1 x hx; omega
   ·rcases List.mem_cons.1 hx with rfl | hx
    ·exact .inl h4
    ·exact ih.2 x hx
  ·split at h
   ·rename_i h4 h5
    have ih := zgf (l := l) (last := m.id) (by omega) h
    refine ⟨fun x hx => ?_, fun x hx => ?_⟩
    ·rcases List.mem_cons.1 hx with rfl | hx
     ·omega
     ·have := ih.1 x hx; omega
    ·rcases List.mem_cons.1 hx with rfl | hx
     ·exact .inr (by omega)
     ·exact ih.2 x hx
   ·cases h
theorem zwz {c : Club} (h : zen c.members = 0) : c.Fine := by
 unfold zen at h
 split at h
 ·cases h
 ·have := zgf (Int.le_refl 0) h
  exact ⟨this.1, this.2⟩
end Go.XL
namespace Go.XL
def w64 (n : Int) : Int := IntKind.i64.wrap n
def metT (a b : Int) : List (List Int) → Nat
 | [] => 0
 | t :: r => (if a ≠ b ∧ a ∈ t ∧ b ∈ t then 1 else 0) + metT a b r
def zqc (a b : Int) : List Sitting → Nat
 | [] => 0
 | s :: r => metT a b s.tables + zqc a b r
def metS (c : Club) (a b : Int) : Nat := zqc a b c.rounds
def metX (c : Club) (a b : Int) : Int := if zdd c ≠ 0 then 0 else metS c a b
def zcb (met : Int → Int → Bool) (t : List Int) (id : Int) : Bool := t.all fun a => !met a id
def zfr (st : List Int → Int → Bool) (f : List Int → List Int → List (List Int)) (t : List Int) : List Int → List (List Int)
 | [] => []
 | id :: r => (if st t id = true then f (t ++ [id]) r else []) ++ zfr st f t r
def zgo (st : List Int → Int → Bool) : Nat → List Int → List Int → List (List Int)
 | 0, t, _ => [t]
 | n + 1, t, ids => zfr st (zgo st n) t ids
def zjp (met : Int → Int → Bool) (t : List Int) : Int → Int → Bool := fun a b => if a ∈ t ∧ b ∈ t ∧ a ≠ b then true else met a b
def tryL (budget : Int) (round : Nat) (rec : List Int → Int → Int × Int × List (Nat × List Int)) : List (List Int) → Int → Int × Int × List (Nat × List Int)
 | [], steps => (2, steps, [])
 | t :: r, steps => if steps = budget then (3, steps, []) else
   if (rec t (w64 (steps + 1))).1 = 2 then tryL budget round rec r (rec t (w64 (steps + 1))).2.1
   else ((rec t (w64 (steps + 1))).1, (rec t (w64 (steps + 1))).2.1, (round, t) :: (rec t (w64 (steps + 1))).2.2)
def srch (size : Nat) (budget : Int) (rounds : List (List Int)) : Nat → (Int → Int → Bool) → Nat → List Int → Int → Int × Int × List (Nat × List Int)
 | 0, _, _, _, steps => (2, steps, [])
 | n + 1, met, round, [], steps => if round + 1 = rounds.length then (1, steps, []) else srch size budget rounds n met (round + 1) (rounds.getD (round + 1) []) steps
 | n + 1, met, round, f :: fr, steps => tryL budget round (fun t s => srch size budget rounds n (zjp met t) round ((f :: fr).filter fun id => !decide (id ∈ t)) s) (zgo (zcb met) (size - 1) [f] fr) steps
def zna (rounds : List (List Int)) : Nat := 1 + rounds.length + (rounds.map List.length).sum
def met0 (c : Club) : Int → Int → Bool := fun a b => decide (0 < metS c a b)
def runS (c : Club) (rounds : List (List Int)) (budget : Int) : Int × Int × List (Nat × List Int) := srch c.size.toNat budget rounds (zna rounds) (met0 c) 0 (rounds.headD []) 0
def zhy (c : Club) (ids : List Int) : List (List Int) × Int :=
 if zdd c ≠ 0 then ([], zdd c) else if ids.length = 0 then ([], 6) else if ids.length > 12 then ([], 8) else
 if zdw c c.rounds.length ids none ≠ 0 then ([], zdw c c.rounds.length ids none) else
 if 0 < (ids.length : Int).tmod c.size then ([], 3) else
 if (runS c [ids] (-1)).1 ≠ 1 then ([], 12) else ((runS c [ids] (-1)).2.2.map Prod.snd, 0)
def zie (l : List Int) (p : Int) : Nat := (l.filter fun x => decide (p < x)).length
def zdx (l : List Int) (p : Int) : Nat := (l.filter fun x => decide (x = p)).length
end Go.XL
namespace Go.XL
abbrev W : Type := Int → Int → Int
def addP (n : Int) (w : W) (a b : Int) : W := fun x y => if x = a ∧ y = b then w64 (w a b + n) else w x y
def addR (n : Int) (b : Int) : List Int → W → W
 | [], w => w
 | a :: r, w => addR n b r (addP n w a b)
def addT (n : Int) : List Int → List Int → W → W
 | _, [], w => w
 | pre, b :: r, w => addT n (pre ++ [b]) r (addR n b pre w)
def ztv : List (List Int) → W → W
 | [], w => w
 | t :: r, w => ztv r (addT 1 [] t w)
def addS : List Sitting → W → W
 | [], w => w
 | s :: r, w => addS r (ztv s.tables w)
def ztm (c : Club) : W := addS c.rounds fun _ _ => 0
end Go.XL
namespace Go.XL
theorem ztx {n : Int} (h : -9223372036854775808 ≤ n ∧ n ≤ 9223372036854775807) : w64 n = n := by
 have h1 : (2 : Int) ^ 64 = 18446744073709551616 := by decide
 have h2 : (2 : Int) ^ 63 = 9223372036854775808 := by decide
 simp only [w64, IntKind.wrap, IntKind.bits, IntKind.signed, Bool.true_and, decide_eq_true_eq, Nat.reduceSub, h1, h2]
 split <;> omega
theorem yla (n b : Int) : ∀ (pre : List Int) (w : W) (x y : Int), pre.Nodup → addR n b pre w x y = if x ∈ pre ∧ y = b then w64 (w x y + n) else w x y
 | [], w, x, y, _ => by simp [addR]
 | a :: r, w, x, y, h => by
  obtain ⟨h1, h2⟩ := List.nodup_cons.1 h
  rw [addR, yla n b r _ x y h2]
  by_cases hx : x = a
  ·subst hx
   rw [if_neg (fun h => h1 h.1), addP]
   by_cases hy : y = b
   ·subst hy; rw [if_pos ⟨rfl, rfl⟩, if_pos ⟨List.mem_cons_self .., rfl⟩]
   ·rw [if_neg (fun h => hy h.2), if_neg (fun h => hy h.2)]
  ·have e : addP n w a b x y = w x y := by rw [addP, if_neg (fun h => hx h.1)]
   rw [e]
   by_cases h3 : x ∈ r ∧ y = b
   ·rw [if_pos h3, if_pos ⟨List.mem_cons_of_mem _ h3.1, h3.2⟩]
   ·rw [if_neg h3, if_neg (fun h => h3 ⟨(List.mem_cons.1 h.1).resolve_left hx, h.2⟩)]
theorem zte (n : Int) : ∀ (rest pre : List Int) (w : W) (x y : Int), (pre ++ rest).Pairwise (· < ·) → addT n pre rest w x y = if x ∈ pre ++ rest ∧ y ∈ rest ∧ x < y then w64 (w x y + n) else w x y
 | [], pre, w, x, y, _ => by simp [addT]
 | b :: r, pre, w, x, y, h => by
  have h' : ((pre ++ [b]) ++ r).Pairwise (· < ·) := by simpa using h
  have hp := (List.pairwise_append.1 h)
  have hnd : pre.Nodup := List.Pairwise.imp (fun h => by omega) hp.1
  have hlt : ∀ z ∈ pre, z < b := fun z hz => hp.2.2 z hz b (List.mem_cons_self ..)
  have hr := (List.pairwise_cons.1 hp.2.1).1
  rw [addT, zte n r (pre ++ [b]) _ x y h', yla n b pre w x y hnd]
  have hm : x ∈ (pre ++ [b]) ++ r ↔ x ∈ pre ++ b :: r := by simp
  by_cases hy : y = b
  ·subst hy
   have hyr : ¬ y ∈ r := fun h => by have := hr y h; omega
   rw [if_neg (fun h => hyr h.2.1)]
   by_cases hx : x ∈ pre
   ·rw [if_pos ⟨hx, rfl⟩, if_pos ⟨List.mem_append_left _ hx, List.mem_cons_self .., hlt x hx⟩]
   ·rw [if_neg (fun h => hx h.1), if_neg]
    rintro ⟨h1, -, h3⟩
    rcases List.mem_append.1 h1 with h1 | h1
    ·exact hx h1
    ·rcases List.mem_cons.1 h1 with h1 | h1
     ·omega
     ·have := hr x h1; omega
  ·have e : (if x ∈ pre ∧ y = b then w64 (w x y + n) else w x y) = w x y := if_neg (fun h => hy h.2)
   rw [e]
   by_cases h1 : x ∈ pre ++ b :: r ∧ y ∈ b :: r ∧ x < y
   ·rw [if_pos h1, if_pos ⟨hm.2 h1.1, (List.mem_cons.1 h1.2.1).resolve_left hy, h1.2.2⟩]
   ·rw [if_neg h1, if_neg (fun h => h1 ⟨hm.1 h.1, List.mem_cons_of_mem _ h.2.1, h.2.2⟩)]
def yra (T : List (List Int)) : Prop := ∀ t ∈ T, t.Pairwise (· < ·)
theorem zwn (a b : Int) : ∀ T, metT a b T ≤ T.length
 | [] => Nat.le_refl _
 | t :: r => by
  have := zwn a b r
  simp only [metT, List.length_cons]
  split <;> omega
theorem yep : ∀ (T : List (List Int)) (w : W) (x y : Int), yra T → (0 ≤ w x y ∧ w x y + T.length ≤ 9223372036854775807) → ztv T w x y = if x < y then w x y + metT x y T else w x y
 | [], w, x, y, _, _ => by simp [ztv, metT]
 | t :: r, w, x, y, h, hb => by
  have ht := zte 1 t [] w x y (by simpa using h t (List.mem_cons_self ..))
  simp only [List.nil_append] at ht
  simp only [List.length_cons] at hb
  have hw : addT 1 [] t w x y = if x < y then w x y + (if x ≠ y ∧ x ∈ t ∧ y ∈ t then 1 else 0 : Nat) else w x y := by
   rw [ht]
   by_cases hxy : x < y
   ·rw [if_pos hxy]
    by_cases hm : x ∈ t ∧ y ∈ t
    ·rw [if_pos ⟨hm.1, hm.2, hxy⟩, if_pos ⟨by omega, hm⟩, ztx (by omega)]; rfl
    ·rw [if_neg (fun h => hm ⟨h.1, h.2.1⟩), if_neg (fun h => hm h.2)]; simp
   ·rw [if_neg hxy, if_neg (fun h => hxy h.2.2)]
  have hbd : 0 ≤ addT 1 [] t w x y ∧ addT 1 [] t w x y + r.length ≤ 9223372036854775807 := by
   rw [hw]; split
   ·split <;> omega
   ·omega
  rw [ztv, yep r _ x y (fun s hs => h s (List.mem_cons_of_mem _ hs)) hbd, hw]
  by_cases hxy : x < y
  ·simp only [if_pos hxy, metT]; split <;> omega
  ·simp only [if_neg hxy]
theorem ykz : ∀ (R : List Sitting) (w : W) (x y : Int), (∀ s ∈ R, yra s.tables) → (0 ≤ w x y ∧ w x y + (R.map fun s => s.tables.length).sum ≤ 9223372036854775807) → addS R w x y = if x < y then w x y + zqc x y R else w x y
 | [], w, x, y, _, _ => by simp [addS, zqc]
 | s :: r, w, x, y, h, hb => by
  simp only [List.map_cons, List.sum_cons] at hb
  have h1 := yep s.tables w x y (h s (List.mem_cons_self ..)) ⟨hb.1, by omega⟩
  have h2 := zwn x y s.tables
  have hbd : 0 ≤ ztv s.tables w x y ∧ ztv s.tables w x y + (r.map fun s => s.tables.length).sum ≤ 9223372036854775807 := by
   rw [h1]; split <;> omega
  rw [addS, ykz r _ x y (fun s hs => h s (List.mem_cons_of_mem _ hs)) hbd, h1]
  by_cases hxy : x < y
  ·simp only [if_pos hxy, zqc]; omega
  ·simp only [if_neg hxy]
end Go.XL
namespace Go.XL
def xorI (k : IntKind) (a b : Int) : Int := k.wrap ((BitVec.ofInt k.bits a ^^^ BitVec.ofInt k.bits b).toNat)
def zag (x : Int) : Int := IntKind.u64.wrap (IntKind.u64.wrap (x * 15074714826142052245) + 7146057691288625177)
def mixX (x : Int) : Int := (xorI .u64 x (x.fdiv 2147483648)).fdiv 1048576
def zan (x n : Int) : Int := if n < 1 then 0 else mixX (zag x) % n
def zqb (x n : Int) : Bool := decide (zan x n = 0)
def zcy (x lo hi : Int) : Int := lo + zan x (hi - lo + 1)
theorem ylt (m : Int) : 0 ≤ IntKind.u64.wrap m ∧ IntKind.u64.wrap m < 18446744073709551616 := by
 have h1 : (2 : Int) ^ 64 = 18446744073709551616 := by decide
 simp only [IntKind.wrap, IntKind.bits, IntKind.signed, Bool.false_and, Bool.false_eq_true, if_false, h1]
 omega
theorem ycj {m : Int} (h : 0 ≤ m ∧ m < 18446744073709551616) : IntKind.u64.wrap m = m := by
 have h1 : (2 : Int) ^ 64 = 18446744073709551616 := by decide
 simp only [IntKind.wrap, IntKind.bits, IntKind.signed, Bool.false_and, Bool.false_eq_true, if_false, h1]
 omega
theorem ypr (x : Int) : 0 ≤ mixX x ∧ mixX x < 18446744073709551616 := by
 have h := ylt ((BitVec.ofInt IntKind.u64.bits x ^^^ BitVec.ofInt IntKind.u64.bits (x.fdiv 2147483648)).toNat)
 have e : xorI .u64 x (x.fdiv 2147483648) = IntKind.u64.wrap ((BitVec.ofInt IntKind.u64.bits x ^^^ BitVec.ofInt IntKind.u64.bits (x.fdiv 2147483648)).toNat) := rfl
 rw [mixX, e, Int.fdiv_eq_ediv_of_nonneg _ (by decide)]
 omega
theorem zbv (x n : Int) : 0 ≤ zan x n ∧ (1 ≤ n → zan x n < n) ∧ (n < 1 → zan x n = 0) := by
 rw [zan]
 split
 ·exact ⟨Int.le_refl _, fun h => by omega, fun _ => rfl⟩
 ·exact ⟨Int.emod_nonneg _ (by omega), fun h => Int.emod_lt_of_pos _ (by omega), fun h => by omega⟩
def yme : List Int → Int → Int
 | [], x => x
 | n :: l, x => yme l (xorI .u64 (IntKind.u64.wrap (xorI .u64 x (IntKind.u64.wrap n) * 11400714819323198485)) ((IntKind.u64.wrap (xorI .u64 x (IntKind.u64.wrap n) * 11400714819323198485)).fdiv 536870912))
def newX (l : List Int) : Int := yme l 2685821657736338717
end Go.XL
namespace Go.XL
def zmx (size : Int) : Nat → Int → List Int → List Int × Int
 | 0, x, l => (l, x)
 | n + 1, x, l => if l.length = 0 then (l, x) else
   if (l.length : Int) % size ≠ 0 then zmx size n (zag x) (l.take (zan x l.length).toNat ++ l.drop ((zan x l.length).toNat + 1))
   else if zqb x 9 = true then zmx size n (zag (zag x)) (l.take (zan (zag x) l.length).toNat ++ l.drop ((zan (zag x) l.length).toNat + 1)) else (l, zag x)
def zdp (size x : Int) (l : List Int) : List Int × Int := zmx size (l.length + 1) x l
theorem zri (size : Int) : ∀ (n : Nat) (x : Int) (l : List Int), (zmx size n x l).1.Sublist l
 | 0, x, l => List.Sublist.refl _
 | n + 1, x, l => by
  have key : ∀ i : Nat, (l.take i ++ l.drop (i + 1)).Sublist l := fun i => by
   conv => rhs; rw [← List.take_append_drop i l]
   exact List.Sublist.append (List.Sublist.refl _) (by
    rw [show l.drop (i + 1) = (l.drop i).drop 1 by rw [List.drop_drop, Nat.add_comm]]
    exact List.drop_sublist _ _)
  simp only [zmx]
  split
  ·exact List.Sublist.refl _
  split
  ·exact (zri size n _ _).trans (key _)
  split
  ·exact (zri size n _ _).trans (key _)
  ·exact List.Sublist.refl _
theorem zfy (size x : Int) (l : List Int) : (zdp size x l).1.Sublist l := zri size _ _ _
end Go.XL
namespace Go.XL
def zkz (n : Int) (out : List Int) : Nat → Nat
 | 0 => 0
 | a + 1 => if n < out.getD a 0 then zkz n out a else a + 1
def insS (out : List Int) (n : Int) : List Int := out.take (zkz n out out.length) ++ n :: out.drop (zkz n out out.length)
def zft (l : List Int) : List Int := l.foldl insS []
def tabG (size : Int) : Nat → Int → List Int → List Int → List Int × List Int × Int
 | 0, x, t, rest => (t, rest, x)
 | n + 1, x, t, rest => if (t.length : Int) < size then tabG size n (zag x) (t ++ [rest.getD (zan x rest.length).toNat 0]) (rest.take (zan x rest.length).toNat ++ rest.drop ((zan x rest.length).toNat + 1)) else (t, rest, x)
def zmv (size : Int) : Nat → Int → List Int → List (List Int) → List (List Int) × Int
 | 0, x, rest, out => (out, x)
 | n + 1, x, rest, out => if size ≤ (rest.length : Int) then zmv size n (tabG size size.toNat x [rest.headD 0] (rest.drop 1)).2.2 (tabG size size.toNat x [rest.headD 0] (rest.drop 1)).2.1 (out ++ [zft (tabG size size.toNat x [rest.headD 0] (rest.drop 1)).1]) else (out, x)
def zep (size x : Int) (l : List Int) : List (List Int) × Int := zmv size (l.length + 1) x l []
def zlp (start : Int) : Nat → Int → List Int → List Int × Int
 | 0, x, out => (out, x)
 | n + 1, x, out => zlp start n (zag x) (out ++ [start + (zan x 7 - 3) * 10])
def zfv (size start x : Int) : List Int × Int := ((size * start - (zlp start (size.toNat - 1) x []).1.sum) :: (zlp start (size.toNat - 1) x []).1, (zlp start (size.toNat - 1) x []).2)
end Go.XL
namespace Go.XL
def RC (P : Program) (f : FuncId) (args : List V) (S : Sto) (v : V) : Prop := DC P f args S fun u S' => u = v ∧ S' = S
section
variable {P : Program} {n : Nat} {r : Rr} {Q : VEnv → Sto → Prop} {k : List Fr} {E0 E : VEnv} {S S0 S1 : Sto} {Mp : List MpE} {ops l : List Oper} {t : Nat} {dst : Option Tmp} {op : Op} {ty : TypeId} {pos : String} {af : Array Edge} {ts : Array TypeId}
theorem zhx {g : FuncId} {args : List V} {xs : Array Operand} {fn : Func} {v : V} (hf : FnOk P g fn) (hc : RC P g args S v) (hd : decide (t < n) = true) (he : (evsV (evV E) xs.toList).map (·.map V.peek) = some args)
  (q : DS P n r Q (.ops ops l :: k) ((t, v) :: E) S) : DS P n r Q (.ops ops (⟨some t, .call { callee := .value (.func g), args := xs, argTypes := ts }, ty, pos, af, none⟩ :: l) :: k) E S := by
 refine DS.call (dst := some t) S [] hf hc hd he (fun _ _ e => e) (fun _ _ e => by cases e) ?_
 rintro u S' ⟨rfl, rfl⟩ -
 simpa [putV] using q
theorem zdv {g : FuncId} {args : List V} {xs : Array Operand} {fn : Func} {R : V → Sto → Prop} (hf : FnOk P g fn) (hc : DC P g args S R) (hd : decide (t < n) = true) (he : (evsV (evV E) xs.toList).map (·.map V.peek) = some args)
  (q : ∀ u S', R u S' → DS P n r Q (.ops ops l :: k) ((t, u) :: E) S') : DS P n r Q (.ops ops (⟨some t, .call { callee := .value (.func g), args := xs, argTypes := ts }, ty, pos, af, none⟩ :: l) :: k) E S := by
 refine DS.call (dst := some t) S [] hf hc hd he (fun _ _ e => e) (fun _ _ e => by cases e) ?_
 intro u S' h _
 simpa [putV] using q u S' h
theorem zck {rs : List ResultVar} {R : V → Sto → Prop} {vs : List V} (h1 : resV P E S rs = some vs) (h3 : R (tupV vs) S) (hk : popR k = none := by rfl) : DS P n r (FinV P rs R) (.code .ret :: k) E S :=
 DS.ret hk ⟨vs, S, h1, fun _ _ e => e, h3⟩
theorem zpo {rs : List ResultVar} {R : V → Sto → Prop} {vs : List V} (h1 : resV P E S rs = some vs) (h3 : R (tupV vs) S) : DS P n r (FinV P rs R) [] E S :=
 DS.nil ⟨vs, S, h1, fun _ _ e => e, h3⟩
theorem zer {S' : Sto} (h : ∀ b o, zad S' b = some o → zad S b = some o) (q : DS P n r Q k E S') : DS P n r Q k E S := zdy (fun _ _ e => e) h q
theorem zcq {α : Type} {c : Code} (ts : List Nat) {F : VEnv} (hF : selV E ts = F) (Ex : α → VEnv) (Sx : α → Sto) (I : α → Prop) (μ : α → Nat) (x0 : α) (hE : subV (Ex x0) E) (hS : ∀ b o, zad (Sx x0) b = some o → zad S b = some o) (hI : I x0)
  (body : ∀ (x : α) (B : VEnv → Sto → Prop), I x → (∀ x' E' S', μ x' < μ x → I x' → subV (Ex x') E' → subV F E' → (∀ b o, zad (Sx x') b = some o → zad S' b = some o) → B E' S') → DS P n r Q (.code c :: .back B :: k) (Ex x ++ F) (Sx x)) : DS P n r Q (.code (.loop c) :: k) E S := by
 subst hF
 refine DS.loop (fun m E' S' => ∃ x, μ x = m ∧ I x ∧ subV (Ex x ++ selV E ts) E' ∧ ∀ b o, zad (Sx x) b = some o → zad S' b = some o) (μ x0) ⟨x0, rfl, hI, znp hE (zqf E ts), hS⟩ ?_
 rintro m E' S' ⟨x, rfl, h1, h2, h3⟩
 exact zdy (zek h2) h3 (body x _ h1 fun x' E2 S2 a b c d e => ⟨_, a, x', rfl, b, znp c d, e⟩)
theorem znh {o : Oper} {T : V → VEnv → Sto → Prop} (hg : o.guard = none) (hc : zee o = true) (hb : zjq o.op = false) (hd : dok n o.dst = true) (ho : OpS r.v0 P n o E S1 T) (q : ∀ v E' S', T v E' S' → (∀ b o, zad S0 b = some o → zad S' b = none) → DS P n r Q k (putV E' o.dst v) (S' ++ S0)) :
  DD P n r Q ops S0 [] [o] k E0 E S1 := fun K0 K D W hv0 hs a SPs hbx hfl hE hp hS0 hz hl hR => by
 show SW P ops.toArray _ W _ [o] SPs a
 unfold SW Front
 rw [if_pos (by simp [Region.wanted, hg]), if_pos hc]
 refine ⟨fun _ y => y, fun _ y => fun F h1 => ∃ v E' S', T v E' S' ∧ RunS P [] D n K hv0 hs S0 (putV E' o.dst v) S' (a.put o.dst y) F h1, ?_, fun _ y ⟨w', hw', hT⟩ => ?_⟩
 ·unfold Spec
  rw [if_neg (by simp [hb])]
  have G := fun v E' S' y => RunS.good P [] D n K hv0 hs S0 (putV E' o.dst v) S' (a.put o.dst y)
  refine ⟨rfl, _, rfl, fun y => ⟨fun F h ⟨v, E', S', _, h2⟩ => (G v E' S' y).ext F h h2, fun F h ob ⟨v, E', S', h1, h2⟩ => ⟨v, E', S', h1, (G v E' S' y).push F h ob h2⟩, fun F F' h hF ⟨v, E', S', h1, h2⟩ => ⟨v, E', S', h1, (G v E' S' y).less F F' h hF h2⟩⟩, fun w F hF hw => ?_⟩
  obtain ⟨p1, p2, hv', hold, env', ha', s, p, f, g⟩ := hR F w.heap hF
  obtain ⟨K', hc', s', hprot, hK1, hK2, back⟩ := s.frame fun b o e => (g b o e).2.1
  refine (ho K' D hv' hc' env' a w (hfl.trans p) ha' s').mono fun y w' ⟨hsame, u, E2, S2, hv2, hold2, q1, q2, e1⟩ => ?_
  obtain ⟨hold3, t1, t2⟩ := back q1 q2
  have stay : ∀ b, K'.B b → w'.heap[b]? = w.heap[b]? ∧ hv2 b = hv' b := fun b hb => ⟨by rw [q2.base.2.2 b hb, hK1], by rw [q2.vbase.2 b hb, hK2]⟩
  have hFp : ∀ b, F b → K'.B b := fun b hb => hprot b (p1 b hb).2 (f b hb).1 (by
   have := (f b hb).2; rw [zbr] at this
   cases e : zad S1 b with
   | none => rfl
   | some o => rw [e] at this; cases this)
  have hSp : ∀ b o, zad S0 b = some o → K'.B b := fun b o e => hprot b (Nat.lt_of_lt_of_le (g b o e).2.2 p2.1) (s.obj b o (by rw [zbr, (g b o e).2.1]; exact e)).2.1 (g b o e).2.1
  have hsz : w.heap.size ≤ w'.heap.size := by have := q2.base.2.1; rwa [hK1] at this
  refine ⟨hsame, ⟨u, E2, S2, e1, fun b hb => ⟨(p1 b hb).1, Nat.lt_of_lt_of_le (p1 b hb).2 hsz⟩, ⟨Nat.le_trans p2.1 hsz, MpOk.nil⟩, hv2, hold3, _, ha'.put' hd y, t1, p.trans q1, fun b hb => ?_, fun b o e => ?_⟩, fun b o hb eb _ => ?_⟩
  ·refine ⟨by rw [(stay b (hFp b hb)).2]; exact (f b hb).1, ?_⟩
   have hb2 := (f b hb).2
   rw [zbr] at hb2 ⊢
   cases e : zad S2 b with
   | some o => exact absurd (hFp b hb) (q2.obj b o e).1
   | none =>
    cases e1 : zad S1 b with
    | some o => rw [e1] at hb2; cases hb2
    | none => rw [e1] at hb2; exact hb2
  ·obtain ⟨g1, g2, g3⟩ := g b o e
   exact ⟨(stay b (hSp b o e)).1.trans g1, t2 b o e, g3⟩
  ·rw [(stay b (hFp b hb)).1]; exact eb
 ·intro w2 ⟨v, E', S', h1, h2⟩ hw2
  obtain ⟨_, _, hv, hold, env, ha, s, _, _, hg⟩ := h2
  exact q v E' S' h1 (fun b o e => (hg b o e).2.1) K0 W _ w2 ⟨K, D, hv, hold, env, hbx, ha, s⟩ hw2
theorem ypc {x : Operand} {v : V} (hd : decide (t < n) = true) (hop : op = .move x ∨ op = .assign x) (hx : evV E x = some v) (q : DD P n r Q ops S0 Mp l k (delV t E0) ((t, v) :: zjd E x) S1) :
  DD P n r Q ops S0 Mp (⟨some t, op, ty, pos, af, none⟩ :: l) k E0 E S1 := fun K0 K D W hv0 hs a SPs hbx hfl hE hp hS0 hz hl hR => by
 obtain ⟨w1, hw1, hSP⟩ := hl
 have ev0 : ∀ {F h1}, SPs F h1 → ∃ env, Agree D n env a ∧ ev env x = some (a.eval x) := fun {F h1} hF => by
  obtain ⟨_, _, hv, hold, env, ha, s, _⟩ := hR F h1 hF
  obtain ⟨y, h2, _⟩ := s.rl _ _ hx
  exact ⟨env, ha, by rw [ha.ev h2]; exact h2⟩
 have run : ∀ w : World, (execOp a.eval ⟨some t, op, ty, pos, af, none⟩).run P w = .ok (.value (a.eval x)) w := fun w => by
  obtain ⟨env, ha, h2⟩ := ev0 hSP
  refine ziz ha ?_
  rcases hop with rfl | rfl <;> simp only [dop, h2]
 have hf : zee ⟨some t, op, ty, pos, af, none⟩ = false := by rcases hop with rfl | rfl <;> rfl
 show SW P ops.toArray _ W _ (_ :: l) SPs a
 unfold SW Front
 rw [if_pos (by simp [Region.wanted]), if_neg (by simp [hf])]
 refine ⟨a.eval x, .inl fun w' _ => run w', ?_⟩
 refine q K0 K D W hv0 hs _ SPs hbx hfl (by simpa [delO] using zzt (dst := some t) hE hd (a.eval x)) hp hS0 hz ⟨w1, hw1, hSP⟩ fun F h1 hF => ?_
 obtain ⟨p1, p2, hv', hold, env', ha', s, p, f, g⟩ := hR F h1 hF
 obtain ⟨y, h2, h3⟩ := s.rl _ _ hx
 have hy : a.eval x = y := ha'.ev h2
 obtain ⟨hold', s', ho⟩ := s.move hx h2 (.slot t)
 rw [hy]
 exact ⟨p1, p2, hv', hold', _, ha'.put' (d := some t) hd y, s'.put (some t) h3 (fun u hu => by cases hu; exact ho), p, f, g⟩
theorem zhn {T len : Nat} {ps : Array (Nat × Operand)} {qs : List (Nat × V)} {e sz : Nat} {c : List V} (hd : decide (t < n) = true) (hp : ziw (evV E) ps.toList = some qs) (hb : bslV P T len qs = some (e, sz, c))
  (q : DD P n r Q ops S0 Mp l k (delV t E0) ((t, .own false e sz (chunk sz len c)) :: E) S1) : DD P n r Q ops S0 Mp (⟨some t, .buildSlice T len ps, ty, pos, af, none⟩ :: l) k E0 E S1 := ysz hd hp hb q
theorem zxg {hv : VH} {p : Option Addr} : ∀ {c : List V} {i : Nat}, RlC hv p i c → RlC hv p i (c.map V.peek)
 | [], _, h => h
 | v :: r, i, h => by
  simp only [RlC, List.map_cons] at h ⊢
  obtain ⟨⟨u, h1, h2, h3⟩, h4⟩ := h
  exact ⟨⟨u, h1, V.peek_Rl h2, h3⟩, zxg h4⟩
theorem yer {hv : VH} {p : Option Addr} : ∀ {l : List (List V)} {i : Nat}, RlE hv p i l → RlE hv p i (l.map (·.map V.peek))
 | [], _, h => h
 | c :: r, i, h => by
  simp only [RlE, List.map_cons, List.length_map] at h ⊢
  exact ⟨zxg h.1, yer h.2⟩
theorem ysg {m : Bool} {e sz : Nat} {cl : List (List V)} (hE : zdg E t = some (.own m e sz cl)) (q : DS P n r Q k ((t, .own m e sz (cl.map (·.map V.peek))) :: E) S) : DS P n r Q k E S := fun K W a w ⟨K', D, hv, hold, env, hb, ha, s⟩ hw => by
 obtain ⟨y, e1, e2, e3⟩ := s.slot t _ hE
 refine q K W a w ⟨K', D, hv, hold, env, hb, ha, ⟨s.pre, fun u v e => ?_, s.obj, s.held, s.base, s.vbase⟩⟩ hw
 simp only [zdg] at e
 by_cases hu : t = u
 ·subst hu
  simp only [if_true, Option.some.injEq] at e; subst e
  refine ⟨y, e1, ?_, ?_⟩
  ·simp only [V.Rl] at e2 ⊢
   obtain ⟨p, cap, s2, h1, h2, h3, h4, h5⟩ := e2
   exact ⟨p, cap, s2, by simpa using h1, by simpa using h2, h3, fun c hc => by obtain ⟨d, hd, rfl⟩ := List.mem_map.1 hc; simpa using h4 d hd, yer h5⟩
  ·rcases e3 with ⟨h1, h2⟩ | ⟨g, cap, cur, pre, h1, h2, h3, h4, h5, h6, h7, h8, h9⟩
   ·exact .inl ⟨h1, by rw [h2]; rfl⟩
   ·exact .inr ⟨g, cap, cur, pre, by simpa using h1, h2, h3, by simpa using h4, h5, h6, h7, by simpa using h8, fun c hc => by obtain ⟨d, hd, rfl⟩ := List.mem_map.1 hc; simpa using h9 d hd⟩
 ·rw [if_neg hu] at e; exact s.slot u v e
end
end Go.XL
namespace Go.XL
section
variable {P : Program} {n : Nat} {r : Rr} {Q : VEnv → Sto → Prop} {k : List Fr} {E0 E : VEnv} {S S0 S1 : Sto} {Mp : List MpE} {ops l : List Oper} {t : Nat} {dst : Option Tmp} {op : Op} {ty : TypeId} {pos : String} {af : Array Edge} {ts : Array TypeId}
theorem ysr {T : TypeId} {x y : Operand} {kl kc : IntKind} {i c : Int} {e sz by_ : Nat} {z : Value} (hd : decide (t < n) = true) (hx : evV E x = some (.v (.int kl i))) (hy : evV E y = some (.v (.int kc c))) (ht : tel P T = some (e, sz, by_)) (hz : zem P e = some z) (ho : zid z.cells.toList = true) (hzs : z.cells.size = sz)
  (hb : 0 ≤ i ∧ i ≤ c ∧ by_ ≤ 65536 ∧ c ≤ 2147483648)
  (q : ∀ u, zad S1 u = none → zad S0 u = none → DD P n r Q ops S0 Mp l k ((t, .v (.slice (some ⟨u, 0, none⟩) i.toNat c.toNat)) :: E0) ((t, .v (.slice (some ⟨u, 0, none⟩) i.toNat c.toNat)) :: E) ((u, .cells (zeu z c.toNat) e) :: S1)) :
  DD P n r Q ops S0 Mp (⟨some t, .makeSlice T x y, ty, pos, af, none⟩ :: l) k E0 E S1 := by
 refine zxm (o := ⟨some t, .makeSlice T x y, ty, pos, af, none⟩) (vb := fun u => .slice (some ⟨u, 0, none⟩) i.toNat c.toNat) rfl rfl rfl hd (fun hv D env a ha rl => ?_) (zka z c.toNat) q
 obtain ⟨u1, h1, h1'⟩ := rl _ _ hx
 obtain ⟨u2, h2, h2'⟩ := rl _ _ hy
 simp only [V.Rl] at h1' h2'; subst h1'; subst h2'
 have hc : (by_ : Int) * c ≤ 281474976710656 ∧ c ≤ 9223372036854775807 := by
  refine ⟨?_, by omega⟩
  have q1 : (by_ : Int) * c ≤ 65536 * 2147483648 := Int.mul_le_mul (by omega) hb.2.2.2 (by omega) (by omega)
  omega
 have hcells : madeCells z.cells (c.toNat * sz) = ((List.replicate c.toNat z.cells.toList).flatten).toArray := by
  have := zjz z.cells c.toNat
  rw [hzs] at this
  unfold madeCells
  rw [← this]
  simp only [Array.toArray_toList]
  rw [hzs]
 refine ⟨(List.replicate c.toNat z.cells.toList).flatten, znj z c.toNat, zlu ho c.toNat, fun w => ?_⟩
 refine zol (P := P) (y := fun u => .slice (some ⟨u, 0, none⟩) i.toNat c.toNat) ha (fun i => by simp [undef]) (fun h1' => ?_) w
 simp only [hop, h1, h2, ht, hz]; rw [if_pos ⟨hb.1, hb.2.1, hc⟩, hcells]
theorem ylp {T : TypeId} {x y : Operand} {kl kc : IntKind} {i c : Int} {e sz by_ : Nat} {z : Value} (hd : decide (t < n) = true) (hx : evV E x = some (.v (.int kl i))) (hy : evV E y = some (.v (.int kc c))) (ht : tel P T = some (e, sz, by_)) (hz : zem P e = some z) (ho : zid z.cells.toList = true) (hzs : z.cells.size = sz)
  (hb : 0 ≤ i ∧ i ≤ c ∧ by_ ≤ 65536 ∧ c ≤ 2147483648) (q : ∀ b, zad S b = none → DS P n r Q (.ops ops l :: k) ((t, .v (.slice (some ⟨b, 0, none⟩) i.toNat c.toNat)) :: E) ((b, .cells (zeu z c.toNat) e) :: S)) :
  DS P n r Q (.ops ops (⟨some t, .makeSlice T x y, ty, pos, af, none⟩ :: l) :: k) E S := yty (dst := some t) hd hx hy ht hz ho hzs hb q
theorem RlL.setL {hv : VH} {cl : List V} {cs : List Value} (h : RlL hv cl cs) {off : Nat} {v : V} {y : Value} (hy : cs[off]? = some y) (hv' : v.Rl hv y) : RlL hv (cl.set off v) cs := by
 have e : cs.set off y = cs := by
  apply List.ext_getElem?
  intro i
  rw [List.getElem?_set]
  by_cases hi : off = i
  ·subst hi
   have := (List.getElem?_eq_some_iff.1 hy).1
   rw [if_pos rfl, if_pos this, hy]
  ·rw [if_neg hi]
 have := h.set off hv'
 rwa [e] at this
theorem yao {b off e sz : Nat} {cl : List V} {T' : TypeId} (hS : zad S b = some (.cells cl T')) (hc : cl[off]? = some (.v (.slice none 0 0))) (q : DS P n r Q k E (setS b (.cells (cl.set off (.own false e sz [])) T') S)) : DS P n r Q k E S := fun K W a w ⟨K', D, hv, hold, env, hb, ha, s⟩ hw => by
 refine q K W a w ⟨K', D, hv, hold, env, hb, ha, ⟨s.pre, s.slot, fun j o e1 => ?_, s.held, s.base, s.vbase⟩⟩ hw
 rw [zbh hS] at e1
 by_cases hj : j = b
 ·subst hj
  rw [if_pos rfl] at e1
  simp only [Option.some.injEq] at e1; subst e1
  obtain ⟨o1, o2, cs, o3, o4, o5, o6⟩ := s.obj j _ hS
  obtain ⟨y, hy, hr⟩ := o4.get hc
  simp only [V.Rl] at hr; subst hr
  refine ⟨o1, o2, cs, o3, o4.setL hy (by simp only [V.Rl]; exact ⟨none, 0, 0, rfl, Nat.le_refl _, Nat.zero_le _, by simp, by simp [RlE]⟩), o5, fun i c u hc' hu => ?_⟩
  rw [List.getElem?_set] at hc'
  by_cases hi : off = i
  ·rw [if_pos hi] at hc'
   split at hc'
   ·simp only [Option.some.injEq] at hc'; subst hc'; subst hi
    rw [hy] at hu; cases hu
    exact .inl ⟨rfl, rfl⟩
   ·cases hc'
  ·rw [if_neg hi] at hc'
   exact o6 i c u hc' hu
 ·rw [if_neg hj] at e1; exact s.obj j o e1
theorem St.moveC {K : Bs} {hv : VH} {hold : Nat → Option Hd} {env : Env} {h : Heap} (s : St K hv hold E S env h) {b off : Nat} {cl : List V} {T' : TypeId} (hS : zad S b = some (.cells cl T')) {m : Bool} {e sz : Nat} {l : List (List V)} (hc : cl[off]? = some (.own m e sz l)) (z : Hd) :
  ∃ (hold' : Nat → Option Hd) (cs : List Value) (y : Value), h[b]? = some (.cells cs.toArray T' (0, 0)) ∧ cs[off]? = some y ∧ St K hv hold' E (setS b (.cells (cl.set off (.lst l)) T') S) env h ∧ Own hv h hold' z (.own m e sz l) y ∧ (V.own m e sz l).Rl hv y := by
 obtain ⟨o1, o2, cs, o3, o4, o5, o6⟩ := s.obj b _ hS
 obtain ⟨y, hy, hr⟩ := o4.get hc
 have hl : (V.lst l).Rl hv y := by simpa only [V.Rl] using hr
 have key : ∀ hold' : Nat → Option Hd, (∀ g x, hold g = some x → x ≠ .cell b off → hold' g = some x) → (∀ g x, hold' g = some x → ¬ K.B g) → St K hv hold' E (setS b (.cells (cl.set off (.lst l)) T') S) env h := by
  intro hold' hk hB
  refine ⟨s.pre, fun u w e1 => ?_, fun j o e1 => ?_, hB, s.base, s.vbase⟩
  ·obtain ⟨y2, r1, r2, r3⟩ := s.slot u w e1
   exact ⟨y2, r1, r2, r3.keep fun g ob a1 a2 a3 => ⟨rfl, rfl, hk g _ a1 (by simp)⟩⟩
  ·rw [zbh hS] at e1
   by_cases hj : j = b
   ·subst hj
    rw [if_pos rfl] at e1
    simp only [Option.some.injEq] at e1; subst e1
    refine ⟨o1, o2, cs, o3, o4.setL hy hl, o5, fun i c u hc' hu => ?_⟩
    rw [List.getElem?_set] at hc'
    by_cases hi : off = i
    ·rw [if_pos hi] at hc'
     split at hc'
     ·simp only [Option.some.injEq] at hc'; subst hc'; exact trivial
     ·cases hc'
    ·rw [if_neg hi] at hc'
     exact (o6 i c u hc' hu).keep fun g ob a1 a2 a3 => ⟨rfl, rfl, hk g _ a1 (by simp; omega)⟩
   ·rw [if_neg hj] at e1
    obtain ⟨r1, r2, r3⟩ := s.obj j o e1
    exact ⟨r1, r2, Ob.keep r3 (PreV.refl hv) rfl fun g i ob a1 a2 a3 => ⟨rfl, rfl, hk g _ a1 (by simp; intro h; exact absurd h hj)⟩⟩
 rcases o6 off _ y hc hy with o | ⟨g, cap, cur, pr, q1, q2, q3, q4, q5, q6, q7, q8⟩
 ·exact ⟨hold, cs, y, o3, hy, key hold (fun _ _ h _ => h) s.held, .inl o, hr⟩
 ·refine ⟨fun j => if j = g then some z else hold j, cs, y, o3, hy, key _ (fun g' x h1 h2 => ?_) (fun g' x h1 => ?_), .inr ⟨g, cap, cur, pr, q1, by simp, q3, q4, q5, q6, q7, q8⟩, hr⟩
  ·have : g' ≠ g := fun e1 => by subst e1; rw [q2] at h1; cases h1; exact h2 rfl
   simp [this, h1]
  ·by_cases hj : g' = g
   ·subst hj; exact s.held _ _ q2
   ·simp only [hj, if_false] at h1; exact s.held g' x h1
theorem ycb {v0 : VH} {T : TypeId} {p : Operand} {b off mm : Nat} {cl : List V} {T' : TypeId} {m : Bool} {e sz : Nat} {l : List (List V)} (hp : evV E p = some (.v (.pointer (some ⟨b, off, none⟩)))) (hS : zad S b = some (.cells cl T')) (hc : cl[off]? = some (.own m e sz l)) (ht : tsz P T = some (false, mm)) :
  OpS v0 P n ⟨some t, .load T p, ty, pos, af, none⟩ E S (fun u E' S' => u = .own m e sz l ∧ E' = E ∧ S' = setS b (.cells (cl.set off (.lst l)) T') S) := by
 intro K D hv hold env a w hfl ha s
 obtain ⟨y0, h2, h2'⟩ := s.rl _ _ hp
 simp only [V.Rl] at h2'; subst h2'
 obtain ⟨hold', cs, y, c1, c2, c3, c4, c5⟩ := s.moveC hS hc (.slot t)
 have hr : (execOp a.eval ⟨some t, .load T p, ty, pos, af, none⟩).run P w = .ok (.value y) w := by
  refine ziz ha ?_
  simp only [dop, h2, ldT, ht, ld, Option.bind_some, XL.cell, c1]
  simpa using c2
 unfold Yields
 rw [hr]
 exact ⟨⟨rfl, rfl, rfl⟩, _, _, _, hv, hold', PreV.refl hv, c3.put (some t) c5 (fun u hu => by cases hu; exact c4), rfl, rfl, rfl⟩
theorem ziq {T : TypeId} {p : Operand} {b off mm : Nat} {cl : List V} {T' : TypeId} {m : Bool} {e sz : Nat} {cll : List (List V)} (hd : decide (t < n) = true) (hp : evV E p = some (.v (.pointer (some ⟨b, off, none⟩)))) (hS : zad S b = some (.cells cl T')) (hc : cl[off]? = some (.own m e sz cll)) (ht : tsz P T = some (false, mm))
  (q : DS P n r Q (.ops ops l :: k) ((t, .own m e sz cll) :: E) (setS b (.cells (cl.set off (.lst cll)) T') S)) : DS P n r Q (.ops ops (⟨some t, .load T p, ty, pos, af, none⟩ :: l) :: k) E S := by
 refine zea rfl rfl hd (ycb hp hS hc ht) fun u E' S' ⟨h1, h2, h3⟩ => ?_
 subst h1; subst h2; subst h3; exact q
end
end Go.XL
namespace Go.XL
open Go.Proofs
set_option maxRecDepth 100000
set_option maxHeartbeats 4000000
section
variable {P : Program} {n : Nat} {r : Rr} {Q : VEnv → Sto → Prop} {k : List Fr} {E0 E : VEnv} {S S0 S1 : Sto} {Mp : List MpE} {ops l : List Oper} {t : Nat} {dst : Option Tmp} {op : Op} {ty : TypeId} {pos : String} {af : Array Edge} {ts : Array TypeId}
theorem ylm {cx : Operand} {g : FuncId} {fs cs args : List V} {xs : Array Operand} {fn : Func} {v : V} (hf : FnOk P g fn) (hcx : evV E cx = some (.fn g fs cs)) (hc : RC P g (fs ++ args ++ cs) S v) (hd : decide (t < n) = true)
  (he : (evsV (evV E) xs.toList).map (·.map V.peek) = some args) (q : DS P n r Q (.ops ops l :: k) ((t, v) :: E) S) :
  DS P n r Q (.ops ops (⟨some t, .call { callee := .value cx, args := xs, argTypes := ts }, ty, pos, af, none⟩ :: l) :: k) E S := by
 refine yey (dst := some t) S [] hf hcx hc hd he (fun _ _ e => e) (fun _ _ e => by cases e) ?_
 rintro u S' ⟨rfl, rfl⟩ -
 simpa [putV] using q
end
theorem zuk {α β : Type} {f : α → β} {T : List α} {j : List β} {k : Nat} (h : k < T.length) : ((T.map f) ++ j)[k]? = some (f T[k]) := by
 rw [List.getElem?_append_left (by simpa using h), List.getElem?_map, List.getElem?_eq_getElem h]; rfl
structure GR where
 l : List (List V)
 blk : Option (Nat × Nat × List V)
def GR.cell : GR → V
 | ⟨_, none⟩ => .v (.slice none 0 0)
 | ⟨l, some (b, cap, _)⟩ => .v (.slice (some ⟨b, 0, none⟩) l.length cap)
structure GR.At (e sz : Nat) (S : Sto) (l : List (List V)) (b cap : Nat) (j : List V) : Prop where
 look : zad S b = some (.cells (l.flatten ++ j) e)
 len : l.length * sz + j.length = cap * sz
 le : l.length ≤ cap
 cap : cap ≤ maxLen
 jf : ∀ v ∈ j, v.free = true
 lf : ∀ v ∈ l.flatten, v.free = true
 ll : ∀ c ∈ l, c.length = sz
def GR.Ok (e sz : Nat) (S : Sto) : GR → Prop
 | ⟨l, none⟩ => l = []
 | ⟨l, some (b, cap, j)⟩ => GR.At e sz S l b cap j
theorem GR.cell_copy (g : GR) : g.cell.copy = g.cell := by obtain ⟨l, blk⟩ := g; cases blk <;> rfl
theorem GR.cell_some (l : List (List V)) (b cap : Nat) (j : List V) : GR.cell ⟨l, some (b, cap, j)⟩ = .v (.slice (some ⟨b, 0, none⟩) l.length cap) := rfl
theorem GR.cell_none (l : List (List V)) : GR.cell ⟨l, none⟩ = .v (.slice none 0 0) := rfl
theorem GR.Ok.of {e sz : Nat} {S S' : Sto} {g : GR} (h : g.Ok e sz S) (eq : ∀ b cap j, g.blk = some (b, cap, j) → zad S' b = zad S b) : g.Ok e sz S' := by
 obtain ⟨l, blk⟩ := g
 cases blk with
 | none => exact h
 | some x =>
  obtain ⟨b, cap, j⟩ := x
  exact ⟨by rw [eq b cap j rfl]; exact h.look, h.len, h.le, h.cap, h.jf, h.lf, h.ll⟩
theorem GR.split {e sz : Nat} {S : Sto} {g : GR} (h : g.Ok e sz S) : ∃ S0 S1, (∀ b o, zad S0 b = some o → zad S b = some o ∧ zad S1 b = none) ∧ (∀ b o, zad S1 b = some o → zad S b = some o) ∧ g.Ok e sz S1 ∧
  ∀ b, (∀ cap j, g.blk ≠ some (b, cap, j)) → zad S0 b = zad S b ∧ zad S1 b = none := by
 obtain ⟨l, blk⟩ := g
 cases blk with
 | none => exact ⟨S, [], fun _ _ e => ⟨e, rfl⟩, (fun _ _ e => by cases e), h, fun _ _ => ⟨rfl, rfl⟩⟩
 | some x =>
  obtain ⟨b0, cap, j⟩ := x
  have h1 := h.look
  refine ⟨delS b0 S, [(b0, .cells (l.flatten ++ j) e)], fun b o e => ?_, fun b o e => ?_, ⟨by simp [zad], h.len, h.le, h.cap, h.jf, h.lf, h.ll⟩, fun b hb => ?_⟩
  ·rw [zda] at e
   split at e
   ·cases e
   ·rename_i hne
    exact ⟨e, by simp only [zad]; rw [if_neg (fun h => hne h.symm)]⟩
  ·simp only [zad] at e
   split at e
   ·rename_i hbb; subst hbb; rw [h1]; exact e
   ·cases e
  ·have hne : ¬ b0 = b := fun h => hb cap j (by rw [h])
   exact ⟨by rw [zda, if_neg (fun h => hne h.symm)], by simp only [zad]; rw [if_neg hne]⟩
theorem zgh {sz : Nat} : ∀ {l : List (List V)}, (∀ c ∈ l, c.length = sz) → l.flatten.length = l.length * sz
 | [], _ => by simp
 | c :: r, h => by
  have := zgh (sz := sz) (l := r) fun c hc => h c (List.mem_cons_of_mem _ hc)
  rw [List.flatten_cons, List.length_append, this, h c (List.mem_cons_self ..), List.length_cons, Nat.succ_mul, Nat.add_comm]
theorem zhq (ml : List (List V)) : ml.flatten.map V.copy = (ml.map (·.map V.copy)).flatten := by rw [List.map_flatten]
section
variable {v0 : VH} {P : Program} {n : Nat} {E : VEnv} {S : Sto} {dst : Option Tmp} {ty : TypeId} {pos : String} {af : Array Edge}
theorem zij {g : GR} {T t by_ e sz : Nat} {z : Value} {sx x : Operand} {vx : V} {ml : List (List V)} (hd : dst = some t) (ht : tel P T = some (e, sz, by_)) (hz : zem P e = some z) (hzs : z.cells.size = sz) (hzo : zid z.cells.toList = true) (hsz : 0 < sz)
  (hs : evV E sx = some g.cell) (hok : g.Ok e sz S) (hx : evV E x = some vx) (hxl : zfh vx = some ml) (hm : 0 < ml.length) (hml : ∀ c ∈ ml, c.length = sz) (hfit : g.l.length + ml.length ≤ 2147483648 ∧ by_ ≤ 65536) :
  OpS v0 P n ⟨dst, .call { callee := .builtin .append, args := #[sx, x], argTypes := #[T, T] }, ty, pos, af, none⟩ E S
   (fun u E' S' => E' = E ∧ ∃ b' cap' junk, u = GR.cell ⟨g.l ++ ml.map (·.map V.copy), some (b', cap', junk)⟩ ∧ GR.Ok e sz S' ⟨g.l ++ ml.map (·.map V.copy), some (b', cap', junk)⟩ ∧ ((∃ cap j, g.blk = some (b', cap, j)) ∨ zad S b' = none) ∧
    ∀ b, b ≠ b' → (∀ cap j, g.blk ≠ some (b, cap, j)) → zad S' b = zad S b) := by
 obtain ⟨R, blk⟩ := g
 intro K D hv hold env a w hfl ha s
 cases blk with
 | none =>
  simp only [GR.Ok] at hok
  subst hok
  refine (zxi hd ht hz hzs hzo hsz hs hx hxl hm hml (by simpa [Fits] using hfit) K D hv hold env a w hfl ha s).mono ?_
  rintro y w' ⟨hsame, u, E2, S2, hv2, hold2, q1, q2, h1, b', cap', junk, h2, h3, h4, h5, h6, h7, h8⟩
  refine ⟨hsame, u, E2, S2, hv2, hold2, q1, q2, h1, b', cap', junk, ?_, ?_, ?_, ?_⟩
  ·rw [h2]; simp [GR.cell]
  ·subst h3
   refine ⟨?_, ?_, ?_, h7, h8, ?_, ?_⟩
   ·simp only [zad, if_true, List.nil_append, Nat.zero_mul, List.take_zero, zhq]
   ·simpa using h5
   ·simpa using h6
   ·rw [List.nil_append, ← zhq]; exact zpz _
   ·intro c hc
    rw [List.nil_append] at hc
    obtain ⟨d, hd, rfl⟩ := List.mem_map.1 hc
    rw [List.length_map]; exact hml d hd
  ·exact .inr (h4.resolve_left (by simp))
  ·intro b hb _
   subst h3
   simp only [zad, delB]
   rw [if_neg (fun h => hb h.symm)]
 | some x =>
  obtain ⟨b0, cap0, j0⟩ := x
  have hfl' := zgh hok.ll
  refine (zxj hd ht hz hzs hzo hsz hs hok.look (by rw [List.length_append, hfl']; exact hok.len) hok.le hok.cap (fun v hv => (List.mem_append.1 hv).elim (hok.lf v) (hok.jf v)) hx hxl hm hml (by simpa [Fits] using hfit) K D hv hold env a w hfl ha s).mono ?_
  rintro y w' ⟨hsame, u, E2, S2, hv2, hold2, q1, q2, h1, b', cap', junk, h2, h3, h4, h5, h6, h7, h8⟩
  refine ⟨hsame, u, E2, S2, hv2, hold2, q1, q2, h1, b', cap', junk, ?_, ?_, ?_, ?_⟩
  ·rw [h2]; simp [GR.cell]
  ·subst h3
   refine ⟨?_, ?_, ?_, h7, h8, ?_, ?_⟩
   ·simp only [zad, if_true, Option.some.injEq, Ob.cells.injEq, and_true]
    rw [List.take_append_of_le_length (by omega), List.take_of_length_le (by omega), zhq, List.flatten_append]
   ·simpa using h5
   ·simpa using h6
   ·rw [List.flatten_append, ← zhq]
    exact fun v hv => (List.mem_append.1 hv).elim (hok.lf v) (zpz _ v)
   ·intro c hc
    rcases List.mem_append.1 hc with hc | hc
    ·exact hok.ll c hc
    ·obtain ⟨d, hd, rfl⟩ := List.mem_map.1 hc
     rw [List.length_map]; exact hml d hd
  ·rcases h4 with h4 | h4
   ·cases h4; exact .inl ⟨_, _, rfl⟩
   ·exact .inr h4
  ·intro b hb hnb
   subst h3
   simp only [zad, delB]
   rw [if_neg (fun h => hb h.symm), zda, if_neg]
   intro h; subst h; exact hnb _ _ rfl
end
end Go.XL
namespace Go.XL
open Go.Proofs
open Go.Maps (Keyed)
open Go.ChangeMaps (setBlock)
def V.Is (v : V) (x : Value) : Prop := ∀ hv y, v.Rl hv y → y = x
theorem V.Is.v (x : Value) : (V.v x).Is x := fun hv y h => by simpa only [V.Rl] using h
theorem V.Is.two (x y : Value) : (V.agg [.v x, .v y]).Is (.agg #[x, y]) := fun hv z h => by
 simp only [V.Rl, RlL] at h
 obtain ⟨ys, rfl, a, ar, rfl, rfl, b, br, rfl, rfl, rfl⟩ := h
 rfl
theorem yam {P : Program} {n : Nat} {r : Rr} {Q : VEnv → Sto → Prop} {k : List Fr} {E : VEnv} {S : Sto} {id : Nat} {os l1 l2 : List Oper} (S0 S1 : Sto) (Mp : List MpE) (ord : List Nat) (m : Nat) (hok : zon os.toArray ord m = true) (hm : P.follows .mixedOrders = true) (h1 : zpf os ord = l1) (h2 : os.drop m = l2)
  (hM : MpOk P Mp (S1 ++ S0)) (h0 : ∀ b o, zad S0 b = some o → zad S b = some o ∧ zad S1 b = none) (h3 : ∀ b o, zad S1 b = some o → zad S b = some o)
  (q : DD P n r Q os S0 Mp l1 (.ops os l2 :: k) E E S1) : DS P n r Q (.code (.region id os.toArray true) :: k) E S :=
 ych S0 S1 Mp hM ord m hok hm h0 h3 (by rw [zny, h1]; simpa [h2] using q)
section
variable {v0 : VH} {P : Program} {n : Nat} {r : Rr} {Q : VEnv → Sto → Prop} {k : List Fr} {E E0 : VEnv} {S S0 S1 : Sto} {Mp : List MpE} {dst : Option Tmp} {ty : TypeId} {pos : String} {af : Array Edge} {ops l : List Oper}
theorem ylg {T kt e : TypeId} {mx kx : Operand} {b : Nat} {f : Value → Option Value} {es : Array MapEntry} {clock : Nat} {key z : Value} {kv : V} (K : Keyed P kt) (ht : P.underlying T = some (.map kt e)) (hz : zem P e = some z) (M : MapIs P kt f es clock) (hk : zlt P kt key)
  (h1 : evV E mx = some (.v (.map (some b)))) (h2 : evV E kx = some kv) (hkv : kv.Is key) (hS : zad S b = some (.raw (.map es clock))) :
  OpS v0 P n ⟨dst, .lookup T mx kx false, ty, pos, af, none⟩ E S (fun u E' S' => u = .v ((f key).getD z) ∧ E' = E ∧ S' = S) := by
 intro K1 D hv hold env a w hfl ha s
 obtain ⟨y1, a1, b1⟩ := s.rl _ _ h1
 obtain ⟨y2, a2, b2⟩ := s.rl _ _ h2
 simp only [V.Rl] at b1
 subst b1
 have b2 := hkv _ _ b2
 subst b2
 have hb : w.heap[b]? = some (.map es clock) := (s.obj b _ hS).2.2
 have := zmd K ht (fun w => zgp hz w) M hk w hb
 refine zev (w' := w) (by simp [execOp, ha.ev a1, ha.ev a2, this]) ⟨Same.refl w, _, E, S, hv, hold, PreV.refl hv, s.put dst V.Rl_v fun _ _ => trivial, rfl, rfl, rfl⟩
theorem yev {T kt e : TypeId} {mx kx : Operand} {b : Nat} {f : Value → Option Value} {es : Array MapEntry} {clock : Nat} {key z : Value} {kv : V} (K : Keyed P kt) (ht : P.underlying T = some (.map kt e)) (hz : zem P e = some z) (M : MapIs P kt f es clock) (hk : zlt P kt key)
  (h1 : evV E mx = some (.v (.map (some b)))) (h2 : evV E kx = some kv) (hkv : kv.Is key) (hS : zad S b = some (.raw (.map es clock))) (hd : dok n dst = true) (q : DS P n r Q (.ops ops l :: k) (putV E dst (.v ((f key).getD z))) S) :
  DS P n r Q (.ops ops (⟨dst, .lookup T mx kx false, ty, pos, af, none⟩ :: l) :: k) E S := by
 refine zea rfl rfl hd (ylg K ht hz M hk h1 h2 hkv hS) fun u E' S' ⟨h1, h2, h3⟩ => ?_
 subst h1; subst h2; subst h3; exact q
theorem ygw {T kt e : TypeId} {mx kx : Operand} {b : Nat} {f : Value → Option Value} {es : Array MapEntry} {clock : Nat} {key z : Value} {kv : V} (K : Keyed P kt) (ht : P.underlying T = some (.map kt e)) (hz : zem P e = some z) (M : MapIs P kt f es clock) (hk : zlt P kt key)
  (h1 : evV E mx = some (.v (.map (some b)))) (h2 : evV E kx = some kv) (hkv : kv.Is key) (hS : zad S b = some (.raw (.map es clock))) :
  ∃ st es1 clock1, MapIs P kt (upd f key ((f key).getD z)) es1 clock1 ∧ ygx P T kt b f key st es1 clock1 ∧
   OpS v0 P n ⟨dst, .mapEntry T mx kx, ty, pos, af, none⟩ E S (fun u E' S' => u = .tup [.v ((f key).getD z), .v (goInt st)] ∧ E' = E ∧ S' = setS b (.raw (.map es1 clock1)) S) := by
 obtain ⟨st, es1, clock1, q1, q2, q3⟩ := zzs (b := b) K ht (fun w => zgp hz w) M hk
 refine ⟨st, es1, clock1, q1, q3, ?_⟩
 intro K1 D hv hold env a w hfl ha s
 obtain ⟨y1, a1, b1⟩ := s.rl _ _ h1
 obtain ⟨y2, a2, b2⟩ := s.rl _ _ h2
 simp only [V.Rl] at b1
 subst b1
 have b2 := hkv _ _ b2
 subst b2
 obtain ⟨hb, s'⟩ := s.putObj (o' := .map es1 clock1) hS
 have := q2 w hb
 refine zev (w' := setBlock w b (.map es1 clock1)) (by simp [execOp, ha.ev a1, ha.ev a2, this]; rfl) ⟨⟨rfl, rfl, rfl⟩, _, E, _, hv, hold, PreV.refl hv, s'.put dst (by simp only [V.Rl, RlL]; exact ⟨_, rfl, _, _, rfl, rfl, _, _, rfl, rfl, rfl⟩) fun _ _ => V.free_Own (v := .tup [.v ((f y2).getD z), .v (goInt st)]) rfl _, rfl, rfl, rfl⟩
theorem yap {T kt e : TypeId} {mx kx : Operand} {b : Nat} {f : Value → Option Value} {es : Array MapEntry} {clock : Nat} {key z : Value} {kv : V} (K : Keyed P kt) (ht : P.underlying T = some (.map kt e)) (hz : zem P e = some z) (M : MapIs P kt f es clock) (hk : zlt P kt key)
  (h1 : evV E mx = some (.v (.map (some b)))) (h2 : evV E kx = some kv) (hkv : kv.Is key) (hS : zad S1 b = some (.raw (.map es clock))) (hd : dok n dst = true) (hMp : ∀ me ∈ Mp, me.b = b → me.k = kt ∧ me.z = z)
  (q : ∀ st es1 clock1, MapIs P kt (upd f key ((f key).getD z)) es1 clock1 → ygx P T kt b f key st es1 clock1 → DD P n r Q ops S0 Mp l k (delO dst E0) (putV E dst (.tup [.v ((f key).getD z), .v (goInt st)])) (setS b (.raw (.map es1 clock1)) S1)) :
  DD P n r Q ops S0 Mp (⟨dst, .mapEntry T mx kx, ty, pos, af, none⟩ :: l) k E0 E S1 := by
 obtain ⟨st, es1, clock1, q1, q2, q3⟩ := ygw (v0 := r.v0) (n := n) (dst := dst) (ty := ty) (pos := pos) (af := af) K ht hz M hk h1 h2 hkv hS
 refine zth rfl rfl rfl hd q3 (fun hM me hme => ?_) (q st es1 clock1 q1 q2)
 obtain ⟨o, ho, hof⟩ := hM me hme
 have hset : zad (setS b (.raw (.map es1 clock1)) S1 ++ S0) me.b = if me.b = b then some (.raw (.map es1 clock1)) else zad (S1 ++ S0) me.b := by
  rw [zbr, zbh hS]
  by_cases hb : me.b = b
  ·rw [if_pos hb, if_pos hb]
  ·rw [if_neg hb, if_neg hb, zbr]
 by_cases hb : me.b = b
 ·obtain ⟨e1, e2⟩ := hMp me hme hb
  refine ⟨_, by rw [hset, if_pos hb], es1, clock1, _, rfl, by rw [e1]; exact q1, fun x => ?_⟩
  rw [zbr, hb, hS] at ho
  simp only [Option.some.injEq, Ob.raw.injEq] at ho
  subst ho
  obtain ⟨es', clock', f', e3, M', hg⟩ := hof
  cases e3
  have := M.det M'
  subst this
  rw [← hg x, e2]
  by_cases hx : x = key
  ·subst hx; rw [zic]; rfl
  ·rw [zkt _ _ hx]
 ·exact ⟨o, by rw [hset, if_neg hb]; exact ho, hof⟩
theorem yfa {T : TypeId} {mx kx : Operand} {me : MpE} {e : TypeId} {key : Value} {kv : V} (hm : me ∈ Mp) (K : Maps.Keyed P me.k) (ht : P.underlying T = some (.map me.k e)) (hz : zem P e = some me.z) (hd : dok n dst = true)
  (h1 : evV E0 mx = some (.v (.map (some me.b)))) (h2 : evV E0 kx = some kv) (hkv : kv.Is key) (hk : zlt P me.k key) (q : DD P n r Q ops S0 Mp l k (putV E0 dst (.v (me.g key))) (putV E dst (.v (me.g key))) S1) :
  DD P n r Q ops S0 Mp (⟨dst, .lookup T mx kx false, ty, pos, af, none⟩ :: l) k E0 E S1 := fun K0 K1 D W hv0 hs a SPs hbx hfl hE hp hS0 hzz hl hR => by
 obtain ⟨env, ha, hE'⟩ := hE
 have rl : RlO hv0 (evV E0) (ev env) := by
  intro x u e
  cases x with
  | tmp t => exact hE' t u e
  | const c => simp only [evV, Option.some.injEq] at e; subst e; exact ⟨c, rfl, V.Rl_v⟩
  | global g => simp only [evV, Option.some.injEq] at e; subst e; exact ⟨_, rfl, V.Rl_v⟩
  | func g => simp only [evV, Option.some.injEq] at e; subst e; exact ⟨_, rfl, by simp only [V.Rl]; exact ⟨[], [], rfl, by simp [RlL], by simp [RlL]⟩⟩
 obtain ⟨y1, a1, b1⟩ := rl _ _ h1
 obtain ⟨y2, a2, b2⟩ := rl _ _ h2
 simp only [V.Rl] at b1
 subst b1
 have b2 := hkv _ _ b2
 subst b2
 have run : ∀ w : World, RdOf P Mp hv0 hs S0 w.heap → (execOp a.eval ⟨dst, .lookup T mx kx false, ty, pos, af, none⟩).run P w = .ok (.value (me.g y2)) w := fun w hr => by
  obtain ⟨o, ho, es, clock, f, rfl, M, hg⟩ := hr.2.2 me hm
  have := zmd K ht (fun w => zgp hz w) M hk w ho
  rw [hg] at this
  simp [execOp, ha.ev a1, ha.ev a2, this]
 show SW P ops.toArray _ W _ (_ :: l) SPs a
 unfold SW Front
 rw [if_pos (by simp [Region.wanted]), if_neg (by simp [zee, zkv, yjc, zza])]
 refine ⟨_, .inl fun w' hw' => run w' hw', ?_⟩
 refine q K0 K1 D W hv0 hs _ SPs hbx hfl (zsh ⟨env, ha, hE'⟩ hd V.Rl_v) hp hS0 hzz hl fun F h1 hF => ?_
 obtain ⟨p1, p2, hv', hold, env', ha', s, p, f, g⟩ := hR F h1 hF
 exact ⟨p1, p2, hv', hold, _, ha'.put' hd _, s.put dst V.Rl_v fun _ _ => trivial, p, f, g⟩
end
end Go.XL
namespace Go.XL
open Go.Proofs
section
variable {v0 : VH} {P : Program} {n : Nat} {r : Rr} {Q : VEnv → Sto → Prop} {k : List Fr} {E0 E : VEnv} {S S0 S1 : Sto} {Mp : List MpE} {ops l : List Oper} {t : Nat} {dst : Option Tmp} {op : Op} {ty : TypeId} {pos : String} {af : Array Edge} {ts : Array TypeId}
theorem yic {hv : VH} {l : List (List V)} {y : Value} (h : ReadsL hv l y) (hs : ∀ c ∈ l, c ≠ []) : ∃ p n c, y = .slice p n c ∧ (p.isNone = true → l = []) := by
 obtain ⟨p, cap, sz, rfl, _, _, _, h4⟩ := h
 refine ⟨p, _, _, rfl, fun hp => ?_⟩
 cases l with
 | nil => rfl
 | cons c r =>
  exfalso
  cases p with
  | some a => cases hp
  | none =>
   have hc := hs c (List.mem_cons_self ..)
   cases c with
   | nil => exact hc rfl
   | cons v c =>
    simp only [RlE, RlC] at h4
    obtain ⟨⟨⟨u, hu, _⟩, _⟩, _⟩ := h4
    simp [ldH, at?] at hu
theorem yex {T e : TypeId} {x : Operand} {v : V} {d : TypeId} {li : List (List V)} (hd : decide (t < n) = true) (hT : P.underlying T = some (.slice e)) (hx : evV E x = some v) (hl : zfh v = some li) (hs : ∀ c ∈ li, c ≠ [])
  (q : ∀ b : Bool, (b = true → li = []) → DS P n r Q (.ops ops l :: k) ((t, .v (.bool b)) :: E) S) :
  DS P n r Q (.ops ops (⟨some t, .binOp .eql T x (.const (.slice none 0 0)) d, ty, pos, af, none⟩ :: l) :: k) E S := by
 refine zea (T := fun v E' S' => ∃ b : Bool, (b = true → li = []) ∧ v = .v (.bool b) ∧ E' = E ∧ S' = S) rfl rfl hd ?_ ?_
 ·intro K D hv hold env a w hfl ha s
  obtain ⟨y, h1, h2⟩ := s.rl _ _ hx
  obtain ⟨p, m, c, rfl, h3⟩ := yic (zhr hl h2) hs
  have hr : (execOp a.eval ⟨some t, .binOp .eql T x (.const (.slice none 0 0)) d, ty, pos, af, none⟩).run P w = .ok (.value (.bool p.isNone)) w := by
   refine ziz ha ?_
   simp only [dop, h1, yns]
   exact yoa hT
  unfold Yields
  rw [hr]
  exact ⟨⟨rfl, rfl, rfl⟩, _, _, _, hv, hold, PreV.refl hv, s.put (some t) V.Rl_v fun _ _ => trivial, p.isNone, h3, rfl, rfl, rfl⟩
 ·rintro u E' S' ⟨b, h1, rfl, rfl, rfl⟩
  exact q b h1
theorem yoi {T len : Nat} {ps : Array (Nat × Operand)} {qs : List (Nat × V)} {e sz : Nat} {c : List V} (hp : ziw (evV E) ps.toList = some qs) (hb : bslV P T len qs = some (e, sz, c)) :
  OpS v0 P n ⟨dst, .buildSlice T len ps, ty, pos, af, none⟩ E S (fun u E' S' => ∃ b, zad S b = none ∧ u = .v (.slice (some ⟨b, 0, none⟩) len len) ∧ E' = E ∧ S' = (b, .cells c e) :: S) := by
 intro K D hv hold env a w hfl ha s
 obtain ⟨rs, h1, h2⟩ := ziv s.rl hp
 obtain ⟨x, h3, h4, h5, h6, h7, h8, by_, ht⟩ := zsy h2 hb
 refine zha ha (y := .slice (some ⟨w.heap.size, 0, none⟩) len len) (h' := w.heap.push (.cells x.toArray e)) (by simp only [hop, h1, h3]) ⟨⟨rfl, rfl, rfl⟩, ?_⟩
 obtain ⟨s', hn⟩ := s.born (zik (h := w.heap) (hold := hold) (T := e) h4 h5 h8)
 exact ⟨_, E, _, hv, hold, PreV.refl hv, s'.put dst V.Rl_v fun _ _ => trivial, _, hn, rfl, rfl, rfl⟩
theorem yqw {T len : Nat} {ps : Array (Nat × Operand)} {qs : List (Nat × V)} {e sz : Nat} {c : List V} (hd : decide (t < n) = true) (hp : ziw (evV E) ps.toList = some qs) (hb : bslV P T len qs = some (e, sz, c))
  (q : ∀ b, zad S b = none → DS P n r Q (.ops ops l :: k) ((t, .v (.slice (some ⟨b, 0, none⟩) len len)) :: E) ((b, .cells c e) :: S)) : DS P n r Q (.ops ops (⟨some t, .buildSlice T len ps, ty, pos, af, none⟩ :: l) :: k) E S := by
 refine zea rfl rfl hd (yoi hp hb) ?_
 rintro u E' S' ⟨b, h1, rfl, rfl, rfl⟩
 exact q b h1
theorem St.write {K : Bs} {hv : VH} {hold : Nat → Option Hd} {env : Env} {h : Heap} (s : St K hv hold E S env h) {b off : Nat} {cl rl : List V} {rs : List Value} {T : TypeId} (hS : zad S b = some (.cells cl T)) (hr : RlL hv rl rs) (ho : Ones rs) (hf : ∀ v ∈ rl, v.free = true) (hm : off + rl.length ≤ cl.length) :
  ∃ h', stl h ⟨b, off, none⟩ rs 0 = some h' ∧ St K hv hold E (setS b (.cells (setAll cl off rl) T) S) env h' := by
 obtain ⟨o1, o2, cs, o3, o4, o5, o6⟩ := s.obj b _ hS
 have hcl := o4.length
 have hrl := hr.length
 obtain ⟨h', q1, q2, q3, q4⟩ := yaz (o := off) rs 0 cs h o3 (by omega) ho
 refine ⟨h', q1, ⟨fun j oj ej => ?_, fun t vv e => ?_, fun j o e => ?_, s.held, ?_, s.vbase⟩⟩
 ·obtain ⟨o', r1, r2⟩ := s.pre j oj ej
  refine ⟨o', ?_, r2⟩
  rw [q3 j (fun e => by subst e; rw [o2] at ej; cases ej)]; exact r1
 ·obtain ⟨y2, r1, r2, r3⟩ := s.slot t vv e
  refine ⟨y2, r1, r2, r3.keep fun g ob a1 a2 a3 => ⟨q3 g (fun e => by subst e; rw [o2] at a2; cases a2), rfl, a1⟩⟩
 ·rw [zbh hS] at e
  by_cases hj : j = b
  ·subst hj
   simp only [if_true, Option.some.injEq] at e; subst e
   refine ⟨o1, o2, _, q4, ?_, ?_, fun i c u hc hu => ?_⟩
   ·rw [Nat.add_zero]; exact o4.setAll off hr
   ·exact Ones.setAll (l := cs) _ o5 ho
   ·rw [Nat.add_zero] at hu
    rw [zhd _ _ _ _ hm] at hc
    rw [zhd _ _ _ _ (by omega)] at hu
    rw [hrl] at hu
    by_cases hi : off ≤ i ∧ i < off + rl.length
    ·rw [if_pos hi] at hc
     exact V.free_Own (hf c (List.mem_of_getElem? hc)) u
    ·rw [if_neg hi] at hc hu
     exact (o6 i c u hc hu).keep fun g ob a1 a2 a3 => ⟨q3 g (fun e => by subst e; rw [o2] at a2; cases a2), rfl, a1⟩
  ·rw [if_neg hj] at e
   obtain ⟨r1, r2, r3⟩ := s.obj j o e
   exact ⟨r1, r2, Ob.keep r3 (PreV.refl hv) (q3 j hj) fun g i ob a1 a2 a3 => ⟨q3 g (fun e => by subst e; rw [o2] at a2; cases a2), rfl, a1⟩⟩
 ·refine ⟨s.base.1, by rw [q2]; exact s.base.2.1, fun j hj => ?_⟩
  rw [q3 j fun e => o1 (e ▸ hj)]; exact s.base.2.2 j hj
theorem yhr {w : World} {h' : Heap} {T e : TypeId} {z : Value} (ht : P.underlying T = some (.slice e)) (hz : zem P e = some z) (hz1 : z.cells = #[z]) {b o m c : Nat} (hm : 0 < m) (hst : stl w.heap ⟨b, o, none⟩ (List.replicate m z) 0 = some h') (tt : TypeId) :
  (Builtin.clear_ #[T] tt #[.slice (some ⟨b, o, none⟩) m c]).run P w = .ok (.tuple #[]) { w with heap := h' } := by
 have hzc : (Builtin.zeroCells z.cells m).toList = List.replicate m z := by
  rw [hz1]
  simp [Builtin.zeroCells]
  apply List.ext_getElem
  ·simp
  ·intro i h1 h2
   simp [Nat.mod_one]
 have h2 := yay (P := P) _ _ w hst
 obtain ⟨m, rfl⟩ : ∃ m', m = m' + 1 := ⟨m - 1, by omega⟩
 simp [Builtin.clear_, run_underlying ht, zgp hz, hzc, h2]
theorem DS.clear {T e : TypeId} {x : Operand} {b o m c : Nat} {z : Value} {cl : List V} {T' : TypeId} (hT : P.underlying T = some (.slice e)) (hz : zem P e = some z) (hz1 : z.cells = #[z]) (ho1 : z.oneCell' = true) (hm : 0 < m) (hx : evV E x = some (.v (.slice (some ⟨b, o, none⟩) m c))) (hS : zad S b = some (.cells cl T')) (hfit : o + m ≤ cl.length)
  (q : DS P n r Q (.ops ops l :: k) E (setS b (.cells (setAll cl o (List.replicate m (.v z))) T') S)) :
  DS P n r Q (.ops ops (⟨none, .call { callee := .builtin .clear, args := #[x], argTypes := #[T] }, ty, pos, af, none⟩ :: l) :: k) E S := by
 refine zea (T := fun v E' S' => E' = E ∧ S' = setS b (.cells (setAll cl o (List.replicate m (.v z))) T') S) rfl rfl rfl ?_ ?_
 ·intro K D hv hold env a w hfl ha s
  obtain ⟨y, h1, h2⟩ := s.rl _ _ hx
  simp only [V.Rl] at h2; subst h2
  have hR : RlL hv (List.replicate m (V.v z)) (List.replicate m z) := by
   have := zko (hv := hv) (List.replicate m z)
   rwa [List.map_replicate] at this
  obtain ⟨h', q1, q2⟩ := s.write hS hR (fun u hu => by rw [List.eq_of_mem_replicate hu]; exact ho1) (fun v hv => by rw [List.eq_of_mem_replicate hv]; rfl) (by simpa using hfit)
  have hrun : ∀ tt, (execOp a.eval ⟨none, .call { callee := .builtin .clear, args := #[x], argTypes := #[T] }, tt, pos, af, none⟩).run P w = .ok (.value (.tuple #[])) { w with heap := h' } := fun tt => by
   have := yhr (P := P) (w := w) hT hz hz1 (c := c) hm q1 tt
   simp [execOp, resolve, invoke, builtin, ha.ev h1, this]
  unfold Yields
  rw [hrun]
  exact ⟨⟨rfl, rfl, rfl⟩, .v (.tuple #[]), E, _, hv, hold, PreV.refl hv, q2, rfl, rfl⟩
 ·rintro u E' S' ⟨rfl, rfl⟩
  exact q
theorem yqx {g : FuncId} {args : List V} {xs : Array Operand} {fn : Func} {x : Value} (hf : FnOk P g fn) (hc : RC P g args S1 (.v x)) (hd : decide (t < n) = true) (he : (evsV (evV E) xs.toList).map (·.map V.peek) = some args)
  (q : DD P n r Q ops S0 Mp l k ((t, .v x) :: E0) ((t, .v x) :: E) S1) :
  DD P n r Q ops S0 Mp (⟨some t, .call { callee := .value (.func g), args := xs, argTypes := ts }, ty, pos, af, none⟩ :: l) k E0 E S1 := by
 rw [Option.map_eq_some_iff] at he
 obtain ⟨ax, e1, e2⟩ := he
 refine yez (x := x) (E' := E) (S1' := S1) rfl rfl rfl hd rfl (fun K D hv hold env a w hfl ha s => ?_) id q
 refine (OpS.call (fs := []) (cs := []) hf rfl e1 (S1 := S1) (S2 := []) (R := fun u S' => u = .v x ∧ S' = S1) (by simpa [e2] using hc _) (fun _ _ e => e) (fun _ _ e => by cases e) K D hv hold env a w hfl ha s).mono fun y w' ⟨hs, u, E', S', hv', hold', p1, p2, p3, S2, p4, ⟨p5, p6⟩, _⟩ => ?_
 subst p3; subst p4; subst p5; subst p6
 rw [List.append_nil] at p2
 exact ⟨hs, _, _, _, hv', hold', p1, p2, rfl, rfl, rfl⟩
theorem zvk {cx : Operand} {g : FuncId} {fs cs args : List V} {xs : Array Operand} {fn : Func} {R : V → Sto → Prop} (hf : FnOk P g fn) (hcx : evV E cx = some (.fn g fs cs)) (hc : DCh r.v0 P g (fs ++ args ++ cs) S R) (hd : decide (t < n) = true)
  (he : (evsV (evV E) xs.toList).map (·.map V.peek) = some args) (q : ∀ u S', R u S' → DS P n r Q (.ops ops l :: k) ((t, u) :: E) S') :
  DS P n r Q (.ops ops (⟨some t, .call { callee := .value cx, args := xs, argTypes := ts }, ty, pos, af, none⟩ :: l) :: k) E S := by
 refine yan (dst := some t) S [] hf hcx hc hd he (fun _ _ e => e) (fun _ _ e => by cases e) ?_
 intro u S' h _
 simpa [putV] using q u S' h
theorem ylk {cx : Operand} {y : Nat} {args : List V} {xs : Array Operand} {R : V → Sto → Prop} (hcx : evV E cx = some (.yl y)) (hc : YC r.v0 P y args S R) (hd : decide (t < n) = true)
  (he : (evsV (evV E) xs.toList).map (·.map V.peek) = some args) (q : ∀ u S', R u S' → DS P n r Q (.ops ops l :: k) ((t, u) :: E) S') :
  DS P n r Q (.ops ops (⟨some t, .call { callee := .value cx, args := xs, argTypes := ts }, ty, pos, af, none⟩ :: l) :: k) E S := by
 refine DS.yield (dst := some t) S [] hcx hc hd he (fun _ _ e => e) (fun _ _ e => by cases e) ?_
 intro u S' h _
 simpa [putV] using q u S' h
end
theorem yrk {S : Sto} {b1 b2 : Nat} {o1 o2 : Ob} (h1 : zad S b1 = some o1) (h2 : zad S b2 = some o2) (hne : b1 ≠ b2) :
  (∀ b o, zad (delS b1 (delS b2 S)) b = some o → zad S b = some o ∧ zad [(b1, o1), (b2, o2)] b = none) ∧ (∀ b o, zad [(b1, o1), (b2, o2)] b = some o → zad S b = some o) ∧
  (∀ b o, zad S b = some o → zad ([(b1, o1), (b2, o2)] ++ delS b1 (delS b2 S)) b = some o) ∧ ∀ b, b ≠ b1 → b ≠ b2 → zad (delS b1 (delS b2 S)) b = zad S b := by
 refine ⟨fun b o e => ?_, fun b o e => ?_, fun b o e => ?_, fun b n1 n2 => by rw [zda, if_neg n1, zda, if_neg n2]⟩
 ·rw [zda] at e
  split at e
  ·cases e
  rename_i n1
  rw [zda] at e
  split at e
  ·cases e
  rename_i n2
  refine ⟨e, ?_⟩
  simp only [zad]
  rw [if_neg (fun h => n1 h.symm), if_neg (fun h => n2 h.symm)]
 ·simp only [zad] at e
  split at e
  ·rename_i h; subst h; rw [h1]; exact e
  split at e
  ·rename_i h; subst h; rw [h2]; exact e
  ·cases e
 ·rw [zbr]
  simp only [zad]
  by_cases n1 : b1 = b
  ·subst n1; rw [if_pos rfl]; rw [h1] at e; exact e
  ·rw [if_neg n1]
   by_cases n2 : b2 = b
   ·subst n2; rw [if_pos rfl]; rw [h2] at e; exact e
   ·rw [if_neg n2]
    simp only []
    rw [zda, if_neg (fun h => n1 h.symm), zda, if_neg (fun h => n2 h.symm)]
    exact e
end Go.XL
namespace Go.XL
open Go.Proofs
section
variable {v0 : VH} {P : Program} {n : Nat} {r : Rr} {Q : VEnv → Sto → Prop} {k : List Fr} {E0 E : VEnv} {S S0 S1 : Sto} {Mp : List MpE} {ops l : List Oper} {t : Nat} {dst : Option Tmp} {op : Op} {ty : TypeId} {pos : String} {af : Array Edge} {ts : Array TypeId}
theorem ypq {D : List Deferred} {env : Env} {a : Act} {T : TypeId} {x y : Operand} {kl kc : IntKind} {i c : Int} {e sz by_ : Nat} {z : Value} (ha : Agree D n env a) (h1 : ev env x = some (.int kl i)) (h2 : ev env y = some (.int kc c)) (ht : tel P T = some (e, sz, by_)) (hz : zem P e = some z) (hzs : z.cells.size = sz)
  (hb : 0 ≤ i ∧ i ≤ c ∧ by_ ≤ 65536 ∧ c ≤ 2147483648) (w : World) :
  (execOp a.eval ⟨some t, .makeSlice T x y, ty, pos, af, none⟩).run P w = .ok (.value (.slice (some ⟨w.heap.size, 0, none⟩) i.toNat c.toNat)) { w with heap := w.heap.push (.cells ((List.replicate c.toNat z.cells.toList).flatten).toArray e) } := by
 have hc : (by_ : Int) * c ≤ 281474976710656 ∧ c ≤ 9223372036854775807 := by
  refine ⟨?_, by omega⟩
  have q1 : (by_ : Int) * c ≤ 65536 * 2147483648 := Int.mul_le_mul (by omega) hb.2.2.2 (by omega) (by omega)
  omega
 have hcells : madeCells z.cells (c.toNat * sz) = ((List.replicate c.toNat z.cells.toList).flatten).toArray := by
  have := zjz z.cells c.toNat
  rw [hzs] at this
  unfold madeCells
  rw [← this]
  simp only [Array.toArray_toList]
  rw [hzs]
 refine zol (P := P) (y := fun u => .slice (some ⟨u, 0, none⟩) i.toNat c.toNat) ha (fun i => by simp [undef]) (fun h1' => ?_) w
 simp only [hop, h1, h2, ht, hz]; rw [if_pos ⟨hb.1, hb.2.1, hc⟩, hcells]
theorem yls {o : Oper} {R : V → VEnv → Sto → Prop} {T : TypeId} {x y : Operand} {kl kc : IntKind} {i c : Int} {e sz by_ : Nat} {z : Value} (hg : o.guard = none) (hc : zee o = true) (hb : zjq o.op = false) (hd : dok n o.dst = true) (ho : OpS r.v0 P n o E S1 R) (hd2 : decide (t < n) = true)
  (hE0 : ∀ u v, zdg (delO o.dst E0) u = some v → zdg E0 u = some v) (hx : evV (delO o.dst E0) x = some (.v (.int kl i))) (hy : evV (delO o.dst E0) y = some (.v (.int kc c))) (ht : tel P T = some (e, sz, by_)) (hz : zem P e = some z) (ho1 : zid z.cells.toList = true) (hzs : z.cells.size = sz)
  (hbd : 0 ≤ i ∧ i ≤ c ∧ by_ ≤ 65536 ∧ c ≤ 2147483648)
  (q : ∀ v E' S' u, R v E' S' → zad S' u = none → zad S0 u = none → DS P n r Q k ((t, .v (.slice (some ⟨u, 0, none⟩) i.toNat c.toNat)) :: putV E' o.dst v) ((u, .cells (zeu z c.toNat) e) :: (S' ++ S0))) :
  DD P n r Q ops S0 [] [o, ⟨some t, .makeSlice T x y, ty, pos, af, none⟩] k E0 E S1 := fun K0 K D W hv0 hs a SPs hbx hfl hE hp hS0 hzz hl hR => by
 show SW P ops.toArray _ W _ [o, _] SPs a
 unfold SW Front
 rw [if_pos (by simp [Region.wanted, hg]), if_pos hc]
 refine ⟨fun _ y => y, fun _ y => fun F h1 => ∃ v E' S', R v E' S' ∧ RunS P [] D n K hv0 hs S0 (putV E' o.dst v) S' (a.put o.dst y) F h1, ?_, fun _ y0 hT => ?_⟩
 ·unfold Spec
  rw [if_neg (by simp [hb])]
  have G := fun v E' S' y => RunS.good P [] D n K hv0 hs S0 (putV E' o.dst v) S' (a.put o.dst y)
  refine ⟨rfl, _, rfl, fun y => ⟨fun F h ⟨v, E', S', _, h2⟩ => (G v E' S' y).ext F h h2, fun F h ob ⟨v, E', S', h1, h2⟩ => ⟨v, E', S', h1, (G v E' S' y).push F h ob h2⟩, fun F F' h hF ⟨v, E', S', h1, h2⟩ => ⟨v, E', S', h1, (G v E' S' y).less F F' h hF h2⟩⟩, fun w F hF hw => ?_⟩
  obtain ⟨p1, p2, hv', hold, env', ha', s, p, f, g⟩ := hR F w.heap hF
  obtain ⟨K', hc', s', hprot, hK1, hK2, back⟩ := s.frame fun b o e => (g b o e).2.1
  refine (ho K' D hv' hc' env' a w (hfl.trans p) ha' s').mono fun y w' ⟨hsame, u, E2, S2, hv2, hold2, q1, q2, e1⟩ => ?_
  obtain ⟨hold3, t1, t2⟩ := back q1 q2
  have stay : ∀ b, K'.B b → w'.heap[b]? = w.heap[b]? ∧ hv2 b = hv' b := fun b hb => ⟨by rw [q2.base.2.2 b hb, hK1], by rw [q2.vbase.2 b hb, hK2]⟩
  have hFp : ∀ b, F b → K'.B b := fun b hb => hprot b (p1 b hb).2 (f b hb).1 (by
   have := (f b hb).2; rw [zbr] at this
   cases e : zad S1 b with
   | none => rfl
   | some o => rw [e] at this; cases this)
  have hSp : ∀ b o, zad S0 b = some o → K'.B b := fun b o e => hprot b (Nat.lt_of_lt_of_le (g b o e).2.2 p2.1) (s.obj b o (by rw [zbr, (g b o e).2.1]; exact e)).2.1 (g b o e).2.1
  have hsz : w.heap.size ≤ w'.heap.size := by have := q2.base.2.1; rwa [hK1] at this
  refine ⟨hsame, ⟨u, E2, S2, e1, fun b hb => ⟨(p1 b hb).1, Nat.lt_of_lt_of_le (p1 b hb).2 hsz⟩, ⟨Nat.le_trans p2.1 hsz, MpOk.nil⟩, hv2, hold3, _, ha'.put' hd y, t1, p.trans q1, fun b hb => ?_, fun b o e => ?_⟩, fun b o hb eb _ => ?_⟩
  ·refine ⟨by rw [(stay b (hFp b hb)).2]; exact (f b hb).1, ?_⟩
   have hb2 := (f b hb).2
   rw [zbr] at hb2 ⊢
   cases e : zad S2 b with
   | some o => exact absurd (hFp b hb) (q2.obj b o e).1
   | none =>
    cases e1 : zad S1 b with
    | some o => rw [e1] at hb2; cases hb2
    | none => rw [e1] at hb2; exact hb2
  ·obtain ⟨g1, g2, g3⟩ := g b o e
   exact ⟨(stay b (hSp b o e)).1.trans g1, t2 b o e, g3⟩
  ·rw [(stay b (hFp b hb)).1]; exact eb
 ·
  obtain ⟨env2, ha2, hE2⟩ := zzt hE hd y0
  have rl : ∀ x v, evV (delO o.dst E0) x = some (.v v) → ev env2 x = some v := by
   intro x v h
   cases x with
   | tmp u =>
    obtain ⟨y, h1, h2⟩ := hE2 u _ h
    simp only [V.Rl] at h2
    subst h2; exact h1
   | const u => simp only [evV, Option.some.injEq, V.v.injEq] at h; subst h; rfl
   | global g => simp only [evV, Option.some.injEq, V.v.injEq] at h; subst h; rfl
   | func g => cases h
  have hrun := fun w => ypq (P := P) (t := t) (ty := ty) (pos := pos) (af := af) ha2 (rl _ _ hx) (rl _ _ hy) ht hz hzs hbd w
  show SW P ops.toArray _ W _ [_] _ _
  unfold SW Front
  rw [if_pos (by simp [Region.wanted]), if_pos yR]
  refine ⟨fun u _ => .slice (some ⟨u, 0, none⟩) i.toNat c.toNat, fun u _ => zja (fun F h1 => ∃ v E' S', R v E' S' ∧ RunS P [] D n K hv0 hs S0 (putV E' o.dst v) S' (a.put o.dst y0) F h1) u (.cells ((List.replicate c.toNat z.cells.toList).flatten).toArray e), ?_, fun u _ hT2 => ?_⟩
  ·unfold Spec
   rw [if_pos yR]
   exact ⟨.cells ((List.replicate c.toNat z.cells.toList).flatten).toArray e, fun u => .slice (some ⟨u, 0, none⟩) i.toNat c.toNat, rfl, hrun, rfl, rfl⟩
  ·show SW P ops.toArray _ W _ [] _ _
   unfold SW
   intro w2 ⟨⟨v, E', S', h1, h2⟩, _, t3⟩ hw2
   obtain ⟨p1, p2, hv', hold, env', ha', s, p, f, g⟩ := h2
   have hu := p1 u (.inr rfl)
   have fu := f u (.inr rfl)
   have hB : ¬ K.B u := fun hb => by
    have := s.base.1 u hb
    omega
   have nS : zad S' u = none ∧ zad S0 u = none := by
    have := fu.2
    rw [zbr] at this
    cases e : zad S' u with
    | some o => rw [e] at this; cases this
    | none => rw [e] at this; exact ⟨rfl, this⟩
   exact q v E' S' u h1 nS.1 nS.2 K0 W _ w2 ⟨K, D, hv', hold, _, hbx, ha'.put' (d := some t) (by simpa [dok] using hd2) _, (s.adoptO t3 hB fu.1 (znj z c.toNat) (zlu ho1 c.toNat) (zka z c.toNat)).put (some t) V.Rl_v fun _ _ => trivial⟩ hw2
end
end Go.XL
namespace Go.XL
open Go.Proofs
@[go_sem] theorem bop_xor {P : Program} {T : TypeId} {k : IntKind} {a b : Int} : bop P .xor T (.int k a) (.int k b) = some (.int k (xorI k a b)) := by
 simp only [bop, znd, if_true]; rfl
theorem yby {P : Program} {T : TypeId} {k' : IntKind} {a b : Int} (h : ¬ b < 0) : bop P .shr T (.int .u64 a) (.int k' b) = some (.int .u64 (a.fdiv (2 ^ (min b.toNat 64)))) := by
 simp only [bop, Op.shift]
 rw [if_neg h]
 rfl
@[go_sem] theorem bop_shr31 {P : Program} {T : TypeId} {k' : IntKind} {a : Int} : bop P .shr T (.int .u64 a) (.int k' 31) = some (.int .u64 (a.fdiv 2147483648)) := yby (by decide)
@[go_sem] theorem bop_shr29 {P : Program} {T : TypeId} {k' : IntKind} {a : Int} : bop P .shr T (.int .u64 a) (.int k' 29) = some (.int .u64 (a.fdiv 536870912)) := yby (by decide)
@[go_sem] theorem bop_shr20 {P : Program} {T : TypeId} {k' : IntKind} {a : Int} : bop P .shr T (.int .u64 a) (.int k' 20) = some (.int .u64 (a.fdiv 1048576)) := yby (by decide)
abbrev U (x : Int) : V := .v (.int .u64 x)
abbrev TSrc : Nat := 114
abbrev srcO (x : Int) : Ob := .cells [U x] TSrc
def SC (P : Program) (f : FuncId) (args : List V) (bs : Nat) (x : Int) (v : V) (x' : Int) : Prop := DC P f args [(bs, srcO x)] fun u S' => u = v ∧ S' = [(bs, srcO x')]
section
variable {P : Program} {n : Nat} {r : Rr} {Q : VEnv → Sto → Prop} {k : List Fr} {E0 E : VEnv} {S S0 S1 : Sto} {Mp : List MpE} {ops l : List Oper} {t : Nat} {dst : Option Tmp} {op : Op} {ty : TypeId} {pos : String} {af : Array Edge} {ts : Array TypeId}
theorem zui {bs : Nat} {o : Ob} (hS : zad S bs = some o) : (∀ b o', zad [(bs, o)] b = some o' → zad S b = some o') ∧ (∀ b o', zad (delS bs S) b = some o' → zad S b = some o' ∧ zad [(bs, o)] b = none) := by
 refine ⟨fun b o' e => ?_, fun b o' e => ?_⟩
 ·simp only [zad] at e
  split at e
  ·rename_i h; subst h; rw [hS]; exact e
  ·cases e
 ·rw [zda] at e
  split at e
  ·cases e
  ·rename_i h
   exact ⟨e, by simp only [zad]; rw [if_neg (fun h' => h h'.symm)]⟩
theorem zfd {g : FuncId} {args : List V} {xs : Array Operand} {fn : Func} {bs : Nat} {x x' : Int} {v : V} (hf : FnOk P g fn) (hc : SC P g args bs x v x') (hd : decide (t < n) = true) (he : (evsV (evV E) xs.toList).map (·.map V.peek) = some args) (hS : zad S bs = some (srcO x))
  (q : DS P n r Q (.ops ops l :: k) ((t, v) :: E) ((bs, srcO x') :: delS bs S)) :
  DS P n r Q (.ops ops (⟨some t, .call { callee := .value (.func g), args := xs, argTypes := ts }, ty, pos, af, none⟩ :: l) :: k) E S := by
 refine DS.call (dst := some t) [(bs, srcO x)] (delS bs S) hf hc hd he (zui hS).1 (zui hS).2 ?_
 rintro u S' ⟨rfl, rfl⟩ -
 exact q
theorem zoz {g : FuncId} {args : List V} {xs : Array Operand} {fn : Func} {bs : Nat} {x x' : Int} {v : V} (hf : FnOk P g fn) (hc : SC P g args bs x v x') (hd : decide (t < n) = true) (he : (evsV (evV E) xs.toList).map (·.map V.peek) = some args) (hS : zad S1 bs = some (srcO x))
  (q : DD P n r Q ops S0 [] l k (delV t E0) ((t, v) :: E) ((bs, srcO x') :: delS bs S1)) :
  DD P n r Q ops S0 [] (⟨some t, .call { callee := .value (.func g), args := xs, argTypes := ts }, ty, pos, af, none⟩ :: l) k E0 E S1 :=
 DD.call (dst := some t) [(bs, srcO x)] (delS bs S1) hf hc hd he (zui hS).1 (zui hS).2 (fun _ => MpOk.nil) q
end
end Go.XL
namespace Go.XL
open Go.Proofs
theorem zxr {l m : List Int} {i : Nat} (h : l.take i = m.take i) (hl : i < l.length) (hm : i < m.length) (e : l[i] = m[i]) : l.take (i + 1) = m.take (i + 1) := by
 rw [List.take_succ_eq_append_getElem hl, List.take_succ_eq_append_getElem hm, h, e]
theorem ybj (a b : List Int) : PC Tryz.prog 16 [ints a, ints b] (Bo (decide (a = b))) := by
 refine DC.of_run Tryz.func16 rfl Tryz.ntmps16 Tryz.results16 (by simp) (fun _ => ?_); simp only [zaq, zau, go_sem, Nat.zero_add, Nat.reduceAdd]
 refine zjc (t := 0) yG (.inl rfl) (fun hb0 => ?_); simp only [List.length_map] at hb0
 repeat' (first | (with_reducible first | refine zac yU yU yE ?_ | refine zab ?_ | refine DS.seq ?_ | refine zaa ?_ | (refine zbd yE ?_; refine zgb (fun _ => ?_) (fun _ => ?_)) | refine DS.block ?_ | refine DS.skip ?_) | refine zbi [] yE trivial ?_ | fail)
 ·simp_all [tupV]; intro h; subst h; simp_all
 refine zxl (fun (i : Nat) => [(0, ints a), (1, ints b), (5, I i)]) (fun (i : Nat) => []) (fun (i : Nat) => i ≤ a.length ∧ a.take i = b.take i) (fun (i : Nat) => a.length - i) 0 yS yS (by simp) (fun i B hI hB => ?_); try dsimp only at hI hB ⊢
 repeat' (first | (with_reducible first | refine zac yU yU yE ?_ | refine zab ?_ | refine DS.seq ?_ | refine zaa ?_ | (refine zbd yE ?_; first | refine zgb (fun _ => ?_) (fun _ => ?_) | refine zel (fun _ => ?_) (fun _ => ?_)) | refine DS.blk ?_ | refine DS.block ?_ | refine DS.exit yU ?_ | refine DS.skip ?_) | refine zce (id := 6) [0, 1, 2, 3, 4, 5, 6, 7] 8 (by kernel_rfl) zdq (by simp only [zbb, zbe, zbf, zbg, zba]; exact rfl) (by simp only [zax, zay, List.drop_nil]; exact rfl) ?_ | (with_reducible first | refine zbw yU yU yU yE ?_ | refine zdc ?_) | refine zbi [] yE trivial ?_ | fail)
 ·rename_i h1 h2
  have : a ≠ b := fun e => h2 (by subst e; rfl)
  simp [tupV, this]
 ·exact DS.back (hB (i + 1) _ _ (by omega) ⟨by omega, zxr hI.2 (by omega) (by omega) (by simp_all)⟩ yS yS)
 ·have : i = a.length := by omega
  have : a = b := by
   have h := hI.2
   rw [List.take_of_length_le (by omega), List.take_of_length_le (by omega)] at h
   exact h
  simp [tupV, this]
theorem zpj (n lo hi : Int) : PC Tryz.prog 43 [I n, I lo, I hi] (Bo (decide (lo ≤ n ∧ n ≤ hi))) := by
 refine DC.of_run Tryz.func43 rfl Tryz.ntmps43 Tryz.results43 (by simp) (fun _ => ?_); simp only [zaq, zau, go_sem, Nat.zero_add, Nat.reduceAdd]
 repeat' (first | (with_reducible first | refine zac yU yU yE ?_ | refine zab ?_ | refine DS.seq ?_ | refine zaa ?_ | (refine zdz yU yE ?_; first | refine zow (fun _ => ?_) (fun _ => ?_) | refine GG.run ?_ | refine zfo ?_)) | refine zbi [] yE trivial ?_ | fail)
 all_goals first | (simp_all [tupV]; done) | (simp_all [tupV]; omega)
theorem zhm (n lo hi : Int) : PC Tryz.prog 93 [I n, I lo, I hi] (Bo (decide (lo ≤ n ∧ n ≤ hi))) := by
 refine DC.of_run Tryz.func93 rfl Tryz.ntmps93 Tryz.results93 (by simp) (fun _ => ?_); simp only [zaq, zau, go_sem, Nat.zero_add, Nat.reduceAdd]
 repeat' (first | (with_reducible first | refine zac yU yU yE ?_ | refine zab ?_ | refine DS.seq ?_ | refine zaa ?_ | (refine zdz yU yE ?_; first | refine zow (fun _ => ?_) (fun _ => ?_) | refine GG.run ?_ | refine zfo ?_)) | refine zbi [] yE trivial ?_ | fail)
 all_goals first | (simp_all [tupV]; done) | (simp_all [tupV]; omega)
theorem zwh (m : Member) (r : Int) : PC Tryz.prog 74 [m.val, I r] (Bo (m.plays r)) := by
 refine DC.of_run Tryz.func74 rfl Tryz.ntmps74 Tryz.results74 (by simp) (fun _ => ?_); simp only [zaq, zau, go_sem, Nat.zero_add, Nat.reduceAdd]
 repeat' (first | (with_reducible first | refine zac yU yU yE ?_ | refine zab ?_ | refine DS.seq ?_ | refine zaa ?_ | (refine zdz yU yE ?_; first | refine yaj ?_ | refine zow (fun _ => ?_) (fun _ => ?_) | refine yse (fun _ => ?_) (fun _ => ?_) | refine GG.run ?_ | refine zfo ?_ | refine ztg ?_)) | (refine zdb (t := 2) yU yE yU ?_; simp only [zbu, zcx, zbt, zcj, zbq, zbm, zbx, zbp, zcr, zcv, zcd, zcu, zch, zcg]) | refine zbi [] yE trivial ?_ | fail)
 all_goals first | (simp_all [tupV, Member.plays]; done) | (simp_all [tupV, Member.plays]; omega)
theorem zqz (m : Member) (r : Int) : PC Tryz.prog 63 [m.val, I r] (Bo (m.playsR r)) := by
 refine DC.of_run Tryz.func63 rfl Tryz.ntmps63 Tryz.results63 (by simp) (fun _ => ?_); simp only [zaq, zau, go_sem, Nat.zero_add, Nat.reduceAdd]
 repeat' (first | (with_reducible first | refine zac yU yU yE ?_ | refine zab ?_ | refine DS.seq ?_ | refine zaa ?_ | (refine zdz yU yE ?_; first | refine yaj ?_ | refine zow (fun _ => ?_) (fun _ => ?_) | refine yse (fun _ => ?_) (fun _ => ?_) | refine GG.run ?_ | refine zfo ?_ | refine ztg ?_)) | (refine zdb (t := 2) yU yE yU ?_; simp only [zbu, zcx, zbt, zcj, zbq, zbm, zbx, zbp, zcr, zcv, zcd, zcu, zch, zcg]) | refine zbi [] yE trivial ?_ | fail)
 all_goals first | (simp_all [tupV, Member.playsR]; done) | (simp_all [tupV, Member.playsR]; omega)
end Go.XL
namespace Go.XL
open Go.Proofs
theorem yjj (l : List Int) (x : Int) : PC Tryz.prog 95 [ints l, I x] (Bo (decide (x ∈ l))) := by
 refine DC.of_run Tryz.func95 rfl Tryz.ntmps95 Tryz.results95 (by simp) (fun _ => ?_); simp only [zaq, zau, go_sem, Nat.zero_add, Nat.reduceAdd]
 refine zjc (t := 0) yG (.inl rfl) (fun hb0 => ?_); simp only [List.length_map] at hb0
 repeat' (first | (with_reducible first | refine zac yU yU yE ?_ | refine zab ?_ | refine DS.seq ?_ | refine zaa ?_ | refine DS.block ?_) | fail)
 refine zcn [0, 1] yN (fun (i : Nat) => [(5, I i)]) (fun (i : Nat) => i ≤ l.length ∧ decide (x ∈ l) = decide (x ∈ l.drop i)) (fun (i : Nat) => l.length - i) 0 yS (by simp) (fun i B hI hB => ?_); try dsimp only at hI hB; simp only [zas, zaw]
 repeat' (first | (with_reducible first | refine zac yU yU yE ?_ | refine zab ?_ | refine DS.seq ?_ | refine zaa ?_ | (refine zbd yE ?_; refine zel (fun _ => ?_) (fun _ => ?_)) | refine DS.blk ?_ | refine DS.block ?_ | refine DS.exit yU ?_ | refine DS.skip ?_) | refine zbi [] yE trivial ?_ | fail)
 ·rename_i h1 h2
  obtain ⟨_, r, dr1, rfl, dr3⟩ := zco (l := l) (i := i) (by omega); rw [dr1] at hI
  rw [hI.2]; simp [tupV, h2]
 ·rename_i h1 h2
  obtain ⟨_, r, dr1, rfl, dr3⟩ := zco (l := l) (i := i) (by omega); rw [dr1] at hI
  exact DS.back (hB (i + 1) _ _ (by omega) (⟨by omega, by rw [hI.2, dr3]; simp [Ne.symm h2]⟩) yS yS (fun b o e => by first | exact e | (simp only [zae]; split <;> simp_all)))
 ·have de1 := zeo (l := l) (i := i) (by omega); rw [de1] at hI
  rw [hI.2]; simp [tupV]
theorem zjt (c : Club) (id : Int) (hm : c.members.length ≤ 4611686018427387904) : PC Tryz.prog 94 [c.val, I id] (I (zfs c id)) := by
 refine DC.of_run Tryz.func94 rfl Tryz.ntmps94 Tryz.results94 (by simp) (fun _ => ?_); simp only [zaq, zau, go_sem, Nat.zero_add, Nat.reduceAdd]
 repeat' (first | (with_reducible first | refine zac yU yU yE ?_ | refine zab ?_ | refine DS.seq ?_ | refine zaa ?_ | refine DS.block ?_) | (refine zdb (t := 2) yU yE yU ?_; simp only [zbu, zcx, zbt, zcj, zbq, zbm, zbx, zbp, zcr, zcv, zcd, zcu, zch, zcg]) | fail)
 refine zcn [1, 2] yN (fun (i : Nat) => [(5, I i)]) (fun (i : Nat) => i ≤ c.members.length ∧ zfs c id = idxF (fun m => decide (m.id = id)) (c.members.drop i) i) (fun (i : Nat) => c.members.length - i) 0 yS (by simp [zfs]) (fun i B hI hB => ?_); try dsimp only at hI hB; simp only [zas, zaw]
 repeat' (first | (with_reducible first | refine zac yU yU yE ?_ | refine zab ?_ | refine DS.seq ?_ | refine zaa ?_ | (refine zbd yE ?_; refine zel (fun _ => ?_) (fun _ => ?_)) | refine DS.blk ?_ | refine DS.block ?_ | refine DS.exit yU ?_ | refine DS.skip ?_) | refine zbi [] yE trivial ?_ | fail)
 ·obtain ⟨_, r, dr1, rfl, dr3⟩ := zco (l := c.members) (i := i) (by omega); rw [dr1] at hI
  rw [hI.2]; simp [tupV, idxF, *]
 ·obtain ⟨_, r, dr1, rfl, dr3⟩ := zco (l := c.members) (i := i) (by omega); rw [dr1] at hI
  exact DS.back (hB (i + 1) _ _ (by omega) (⟨by omega, by rw [hI.2, dr3]; simp [idxF, *]⟩) yS yS (fun b o e => by first | exact e | (simp only [zae]; split <;> simp_all)))
 ·have de1 := zeo (l := c.members) (i := i) (by omega); rw [de1] at hI
  rw [hI.2]; simp [tupV, idxF]
end Go.XL
namespace Go.XL
open Go.Proofs
theorem yda (c : Club) (l : List Int) (h1 : c.size ≤ 4) (h2 : 0 ≤ c.size) (h3 : 0 ≤ c.start ∧ c.start ≤ 1000000) : PC Tryz.prog 96 [c.val, ints l] (I (zfq c l)) := by
 have hm : 0 ≤ c.size * c.start ∧ c.size * c.start ≤ 4 * 1000000 := ⟨Int.mul_nonneg h2 h3.1, Int.mul_le_mul h1 h3.2 h3.1 (by decide)⟩
 refine DC.of_run Tryz.func96 rfl Tryz.ntmps96 Tryz.results96 (by simp) (fun _ => ?_); simp only [zaq, zau, go_sem, Nat.zero_add, Nat.reduceAdd]
 refine zjc (t := 1) yG (.inl rfl) (fun hb1 => ?_); simp only [List.length_map] at hb1
 repeat' (first | (with_reducible first | refine zac yU yU yE ?_ | refine zab ?_ | refine DS.seq ?_ | refine zaa ?_ | (refine zbd yE ?_; refine zgb (fun _ => ?_) (fun _ => ?_)) | refine DS.block ?_ | refine DS.skip ?_) | (refine zdb (t := 2) yU yE yU ?_; simp only [zbu, zcx, zbt, zcj, zbq, zbm, zbx, zbp, zcr, zcv, zcd, zcu, zch, zcg]) | refine zbi [] yE trivial ?_ | fail)
 ·simp [tupV, zfq, zgq, *]
 refine zcn [1, 2] yN (fun (i : Nat × Int) => [(5, I i.2), (6, I i.1)]) (fun (i : Nat × Int) => i.1 ≤ l.length ∧ zfq c l = zei 1099511627776 (l.drop i.1) (c.size * c.start - i.2) ∧ -1099511627776 * i.1 ≤ i.2 ∧ i.2 ≤ 1099511627776 * i.1) (fun (i : Nat × Int) => l.length - i.1) (0, 0) yS (by simp [zfq, zgq, *]) (fun i B hI hB => ?_); try dsimp only at hI hB; simp only [zas, zaw]
 repeat' (first | (with_reducible first | refine zac yU yU yE ?_ | refine zab ?_ | refine DS.seq ?_ | refine zaa ?_ | (refine zbd yE ?_; first | refine zgb (fun _ => ?_) (fun _ => ?_) | refine zel (fun _ => ?_) (fun _ => ?_)) | refine DS.blk ?_ | refine DS.block ?_ | refine DS.exit yU ?_ | refine DS.skip ?_) | refine zcf inferInstance (zhm _ _ _) yR yT ?_ | refine zbi [] yE trivial ?_ | fail)
 ·rename_i q1 q2
  obtain ⟨_, r, dr1, rfl, dr3⟩ := zco (l := l) (i := i.1) (by omega); rw [dr1] at hI
  rw [hI.2.1]; simp [zei, tupV, q2]
 ·rename_i q1 q2
  obtain ⟨_, r, dr1, rfl, dr3⟩ := zco (l := l) (i := i.1) (by omega); rw [dr1] at hI
  have q3 := q2
  have q4 := q3
  exact DS.back (hB (i.1 + 1, i.2 + l[i.1]) _ _ (by simp; omega) (⟨by simp; omega, by rw [hI.2.1, dr3, zei, if_pos q3]; congr 1; omega, by simp; omega, by simp; omega⟩) yS yS (fun b o e => by first | exact e | (simp only [zae]; split <;> simp_all)))
 ·have de1 := zeo (l := l) (i := i.1) (by omega); rw [de1] at hI
  rw [hI.2.1, zei, if_neg (by omega)]; rfl
 ·have de1 := zeo (l := l) (i := i.1) (by omega); rw [de1] at hI
  rw [hI.2.1, zei, if_pos (by omega)]; rfl
end Go.XL
