/- A part of a program logic over the kit's walk rules, and contracts of functions in it. Conditions: as each theorem says. -/
import Derived.Test.YtdkmlmmelehcbaaS2
import Derived.Test.YtdkmlmmelehcbaaProg
import Derived.KernelRfl
set_option linter.all false
namespace Go.XL
open Go.Maps (Keyed)
open Go.ChangeMaps (setBlock)
def zvf (P : Program) (T k : TypeId) (b : Nat) (f : Value → Option Value) (key : Value) (st : Nat) (es : Array MapEntry) (clock : Nat) : Prop :=
  ∀ val, ∃ es2, MapIs P k (upd f key val) es2 clock ∧ ∀ w : World, w.heap[b]? = some (.map es clock) → (Instr.entryStore T (.map (some b)) (goInt st) val).run P w = .ok () (setBlock w b (.map es2 clock))
section
variable {v0 : VH} {P : Program} {n : Nat} {r : Rr} {Q : VEnv → Sto → Prop} {k : List Fr} {E E0 : VEnv} {S S0 S1 : Sto} {Mp : List MpE} {dst : Option Tmp} {ty : TypeId} {pos : String} {af : Array Edge} {ops l : List Oper}
theorem OpS.mkMap {T : TypeId} : OpS v0 P n ⟨dst, .makeMap T none, ty, pos, af, none⟩ E S (fun u E' S' => ∃ b, zab S b = none ∧ u = .v (.map (some b)) ∧ E' = E ∧ S' = (b, .raw (.map #[] 0)) :: S) := by
  intro K D hv hold env a w hfl ha s
  refine zfk ha (y := .map (some w.heap.size)) (h' := w.heap.push (.map #[] 0)) (by simp only [hop]) ⟨⟨rfl, rfl, rfl⟩, ?_⟩
  obtain ⟨s', hn⟩ := s.born (o := .raw (.map #[] 0)) (x := .map #[] 0) (by show (Array.push _ _)[_]? = _; exact Array.getElem?_push_size)
  exact ⟨.v (.map (some w.heap.size)), E, _, hv, hold, PreV.refl hv, s'.put dst V.Rl_v fun _ _ => trivial, _, hn, rfl, rfl, rfl⟩
theorem DS.mkMap {T : TypeId} (hd : dok n dst = true) (q : ∀ b, zab S b = none → DS P n r Q (.ops ops l :: k) (putV E dst (.v (.map (some b)))) ((b, .raw (.map #[] 0)) :: S)) :
    DS P n r Q (.ops ops (⟨dst, .makeMap T none, ty, pos, af, none⟩ :: l) :: k) E S := by
  refine DS.step rfl rfl hd OpS.mkMap fun u E' S' ⟨b, h1, h2, h3, h4⟩ => ?_
  subst h2; subst h3; subst h4; exact q b h1
theorem zdy {o : Oper} {a : Act} {w w' : World} {y : Value} {R : Value → World → Prop} (e : (execOp a.eval o).run P w = .ok (.value y) w') (q : R y w') : Yields P o a w R := by
  unfold Yields; rw [e]; exact q
theorem yields_skip {o : Oper} {a : Act} {w w' : World} {R : Value → World → Prop} (e : (execOp a.eval o).run P w = .ok .skip w') (q : R undef w') : Yields P o a w R := by
  unfold Yields; rw [e]; exact q
theorem OpS.look {T kt e : TypeId} {mx kx : Operand} {b : Nat} {f : Value → Option Value} {es : Array MapEntry} {clock : Nat} {key z : Value} (K : Keyed P kt) (ht : P.underlying T = some (.map kt e)) (hz : zde P e = some z) (M : MapIs P kt f es clock) (hk : zjh P kt key)
    (h1 : evV E mx = some (.v (.map (some b)))) (h2 : evV E kx = some (.v key)) (hS : zab S b = some (.raw (.map es clock))) :
    OpS v0 P n ⟨dst, .lookup T mx kx false, ty, pos, af, none⟩ E S (fun u E' S' => u = .v ((f key).getD z) ∧ E' = E ∧ S' = S) := by
  intro K1 D hv hold env a w hfl ha s
  obtain ⟨y1, a1, b1⟩ := s.rl _ _ h1
  obtain ⟨y2, a2, b2⟩ := s.rl _ _ h2
  simp only [V.Rl] at b1 b2
  subst b1; subst b2
  have hb : w.heap[b]? = some (.map es clock) := (s.obj b _ hS).2.2
  have := zjp K ht (fun w => zff hz w) M hk w hb
  refine zdy (w' := w) (by simp [execOp, ha.ev a1, ha.ev a2, this]) ⟨Same.refl w, _, E, S, hv, hold, PreV.refl hv, s.put dst V.Rl_v fun _ _ => trivial, rfl, rfl, rfl⟩
theorem DS.look {T kt e : TypeId} {mx kx : Operand} {b : Nat} {f : Value → Option Value} {es : Array MapEntry} {clock : Nat} {key z : Value} (K : Keyed P kt) (ht : P.underlying T = some (.map kt e)) (hz : zde P e = some z) (M : MapIs P kt f es clock) (hk : zjh P kt key)
    (h1 : evV E mx = some (.v (.map (some b)))) (h2 : evV E kx = some (.v key)) (hS : zab S b = some (.raw (.map es clock))) (hd : dok n dst = true) (q : DS P n r Q (.ops ops l :: k) (putV E dst (.v ((f key).getD z))) S) :
    DS P n r Q (.ops ops (⟨dst, .lookup T mx kx false, ty, pos, af, none⟩ :: l) :: k) E S := by
  refine DS.step rfl rfl hd (OpS.look K ht hz M hk h1 h2 hS) fun u E' S' ⟨h1, h2, h3⟩ => ?_
  subst h1; subst h2; subst h3; exact q
theorem OpS.entry {T kt e : TypeId} {mx kx : Operand} {b : Nat} {f : Value → Option Value} {es : Array MapEntry} {clock : Nat} {key z : Value} (K : Keyed P kt) (ht : P.underlying T = some (.map kt e)) (hz : zde P e = some z) (M : MapIs P kt f es clock) (hk : zjh P kt key)
    (h1 : evV E mx = some (.v (.map (some b)))) (h2 : evV E kx = some (.v key)) (hS : zab S b = some (.raw (.map es clock))) :
    ∃ st es1 clock1, MapIs P kt (upd f key ((f key).getD z)) es1 clock1 ∧ zvf P T kt b f key st es1 clock1 ∧
      OpS v0 P n ⟨dst, .mapEntry T mx kx, ty, pos, af, none⟩ E S (fun u E' S' => u = .tup [.v ((f key).getD z), .v (goInt st)] ∧ E' = E ∧ S' = setS b (.raw (.map es1 clock1)) S) := by
  obtain ⟨st, es1, clock1, q1, q2, q3⟩ := zsl (b := b) K ht (fun w => zff hz w) M hk
  refine ⟨st, es1, clock1, q1, q3, ?_⟩
  intro K1 D hv hold env a w hfl ha s
  obtain ⟨y1, a1, b1⟩ := s.rl _ _ h1
  obtain ⟨y2, a2, b2⟩ := s.rl _ _ h2
  simp only [V.Rl] at b1 b2
  subst b1; subst b2
  obtain ⟨hb, s'⟩ := s.putObj (o' := .map es1 clock1) hS
  have := q2 w hb
  refine zdy (w' := setBlock w b (.map es1 clock1)) (by simp [execOp, ha.ev a1, ha.ev a2, this]; rfl) ⟨⟨rfl, rfl, rfl⟩, _, E, _, hv, hold, PreV.refl hv, s'.put dst (by simp only [V.Rl, RlL]; exact ⟨_, rfl, _, _, rfl, rfl, _, _, rfl, rfl, rfl⟩) fun _ _ => V.free_Own (v := .tup [.v ((f y2).getD z), .v (goInt st)]) rfl _, rfl, rfl, rfl⟩
theorem OpS.entryStore {T kt : TypeId} {mx sx x : Operand} {b st : Nat} {f : Value → Option Value} {es : Array MapEntry} {clock : Nat} {key val : Value} (M : zvf P T kt b f key st es clock)
    (h1 : evV E mx = some (.v (.map (some b)))) (h2 : evV E sx = some (.v (goInt st))) (h3 : evV E x = some (.v val)) (hS : zab S b = some (.raw (.map es clock))) :
    ∃ es2, MapIs P kt (upd f key val) es2 clock ∧ OpS v0 P n ⟨dst, .entryStore T mx sx x, ty, pos, af, none⟩ E S (fun u E' S' => u = .v undef ∧ E' = E ∧ S' = setS b (.raw (.map es2 clock)) S) := by
  obtain ⟨es2, q1, q2⟩ := M val
  refine ⟨es2, q1, ?_⟩
  intro K1 D hv hold env a w hfl ha s
  obtain ⟨y1, a1, b1⟩ := s.rl _ _ h1
  obtain ⟨y2, a2, b2⟩ := s.rl _ _ h2
  obtain ⟨y3, a3, b3⟩ := s.rl _ _ h3
  simp only [V.Rl] at b1 b2 b3
  subst b1; subst b2; subst b3
  obtain ⟨hb, s'⟩ := s.putObj (o' := .map es2 clock) hS
  have := q2 w hb
  refine yields_skip (w' := setBlock w b (.map es2 clock)) (by simp [execOp, ha.ev a1, ha.ev a2, ha.ev a3, this]) ⟨⟨rfl, rfl, rfl⟩, _, E, _, hv, hold, PreV.refl hv, s'.put dst V.Rl_v fun _ _ => trivial, rfl, rfl, rfl⟩
theorem DS.entryStore {T kt : TypeId} {mx sx x : Operand} {b st : Nat} {f : Value → Option Value} {es : Array MapEntry} {clock : Nat} {key val : Value} (M : zvf P T kt b f key st es clock)
    (h1 : evV E mx = some (.v (.map (some b)))) (h2 : evV E sx = some (.v (goInt st))) (h3 : evV E x = some (.v val)) (hS : zab S b = some (.raw (.map es clock))) (hd : dok n dst = true)
    (q : ∀ es2, MapIs P kt (upd f key val) es2 clock → DS P n r Q (.ops ops l :: k) (putV E dst (.v undef)) (setS b (.raw (.map es2 clock)) S)) :
    DS P n r Q (.ops ops (⟨dst, .entryStore T mx sx x, ty, pos, af, none⟩ :: l) :: k) E S := by
  obtain ⟨es2, q1, q2⟩ := OpS.entryStore (v0 := r.v0) (n := n) (dst := dst) (ty := ty) (pos := pos) (af := af) M h1 h2 h3 hS
  refine DS.step rfl rfl hd q2 fun u E' S' ⟨g1, g2, g3⟩ => ?_
  subst g1; subst g2; subst g3; exact q es2 q1
theorem MapIs.det {P : Program} {kt k2 : TypeId} {f f2 : Value → Option Value} {es : Array MapEntry} {clock : Nat} (M : MapIs P kt f es clock) (M2 : MapIs P k2 f2 es clock) : f = f2 := by
  funext x
  by_cases h : ∃ e ∈ es.toList, e.key = x
  · obtain ⟨e, he, rfl⟩ := h
    rw [M.hit e he, M2.hit e he]
  · have h' : ∀ e ∈ es.toList, e.key ≠ x := fun e he hk => h ⟨e, he, hk⟩
    rw [M.miss x h', M2.miss x h']
theorem DD.entry {T kt e : TypeId} {mx kx : Operand} {b : Nat} {f : Value → Option Value} {es : Array MapEntry} {clock : Nat} {key z : Value} (K : Keyed P kt) (ht : P.underlying T = some (.map kt e)) (hz : zde P e = some z) (M : MapIs P kt f es clock) (hk : zjh P kt key)
    (h1 : evV E mx = some (.v (.map (some b)))) (h2 : evV E kx = some (.v key)) (hS : zab S1 b = some (.raw (.map es clock))) (hd : dok n dst = true) (hMp : ∀ me ∈ Mp, me.b = b → me.k = kt ∧ me.z = z)
    (q : ∀ st es1 clock1, MapIs P kt (upd f key ((f key).getD z)) es1 clock1 → zvf P T kt b f key st es1 clock1 → DD P n r Q ops S0 Mp l k (delO dst E0) (putV E dst (.tup [.v ((f key).getD z), .v (goInt st)])) (setS b (.raw (.map es1 clock1)) S1)) :
    DD P n r Q ops S0 Mp (⟨dst, .mapEntry T mx kx, ty, pos, af, none⟩ :: l) k E0 E S1 := by
  obtain ⟨st, es1, clock1, q1, q2, q3⟩ := OpS.entry (v0 := r.v0) (n := n) (dst := dst) (ty := ty) (pos := pos) (af := af) K ht hz M hk h1 h2 hS
  refine DD.step rfl rfl rfl hd q3 (fun hM me hme => ?_) (q st es1 clock1 q1 q2)
  obtain ⟨o, ho, hof⟩ := hM me hme
  have hset : zab (setS b (.raw (.map es1 clock1)) S1 ++ S0) me.b = if me.b = b then some (.raw (.map es1 clock1)) else zab (S1 ++ S0) me.b := by
    rw [zby, zbg hS]
    by_cases hb : me.b = b
    · rw [if_pos hb, if_pos hb]
    · rw [if_neg hb, if_neg hb, zby]
  by_cases hb : me.b = b
  · obtain ⟨e1, e2⟩ := hMp me hme hb
    refine ⟨_, by rw [hset, if_pos hb], es1, clock1, _, rfl, by rw [e1]; exact q1, fun x => ?_⟩
    rw [zby, hb, hS] at ho
    simp only [Option.some.injEq, Ob.raw.injEq] at ho
    subst ho
    obtain ⟨es', clock', f', e3, M', hg⟩ := hof
    cases e3
    have := M.det M'
    subst this
    rw [← hg x, e2]
    by_cases hx : x = key
    · subst hx; rw [zgd]; rfl
    · rw [zil _ _ hx]
  · exact ⟨o, by rw [hset, if_neg hb]; exact ho, hof⟩
end
end Go.XL
namespace Go.XL
def zrx : Sto → Nat → Prop
  | [], _ => True
  | (d, _) :: r, b => (d ≠ b ∧ b ≠ d) ∧ zrx r b
theorem zfe (b : Nat) : zrx [] b ↔ True := Iff.rfl
theorem zeg (d : Nat) (o : Ob) (r : Sto) (b : Nat) : zrx ((d, o) :: r) b ↔ (¬ d = b ∧ ¬ b = d) ∧ zrx r b := Iff.rfl
theorem zgh : ∀ {S : Sto} {b : Nat}, zab S b = none → zrx S b
  | [], _, _ => trivial
  | (d, o) :: r, b, h => by
    simp only [zab] at h
    split at h
    · cases h
    · rename_i hd; exact ⟨⟨hd, fun e => hd e.symm⟩, zgh h⟩
section
variable {P : Program} {n : Nat} {r : Rr} {Q : VEnv → Sto → Prop} {k : List Fr} {E0 E : VEnv} {S S0 S1 : Sto} {Mp : List MpE} {ops l : List Oper} {t : Nat} {dst : Option Tmp} {op : Op} {ty : TypeId} {pos : String} {af : Array Edge}
theorem DS.draw0 {id : Nat} {os : Array Oper} (ord : List Nat) (m : Nat) (hok : zlp os ord m = true) (hm : P.follows .mixedOrders = true)
    (q : DD P n r Q os.toList S [] (ord.filterMap (os[·]?)) (.ops os.toList (os.toList.drop m) :: k) E E []) : DS P n r Q (.code (.region id os true) :: k) E S :=
  DS.draw S [] [] MpOk.nil ord m hok hm (fun _ _ e => ⟨e, rfl⟩) (fun _ _ e => by cases e) q
theorem DD.nil0 (q : DS P n r Q k E S0) : DD P n r Q ops S0 Mp [] k E0 E [] := DD.nil q
theorem DD.fltS {v : V} (hs1 : ziz op = false) (hh : zta op = false) (hd : decide (t < n) = true) (hv : dopV P S0 (evV E0) op = some v) (q : DD P n r Q ops S0 Mp l k ((t, v) :: E0) ((t, v) :: E) S1) :
    DD P n r Q ops S0 Mp (⟨some t, op, ty, pos, af, none⟩ :: l) k E0 E S1 := DD.flt (dst := some t) hs1 hh hd hv q
theorem DD.flt1S {v : V} (hs1 : ziz op = false) (hh : zta op = false) (hld : zvx op = false) (hd : decide (t < n) = true) (hv : dopV P [] (evV E) op = some v) (q : DD P n r Q ops S0 Mp l k (delV t E0) ((t, v) :: E) S1) :
    DD P n r Q ops S0 Mp (⟨some t, op, ty, pos, af, none⟩ :: l) k E0 E S1 := DD.flt1 (dst := some t) hs1 hh hld hd hv q
theorem DD.gTS {j : Nat} {b : Bool} {x : V} (e : zfh E ops n j = some x) (hx : x = .v (.bool b)) (q : DD P n r Q ops S0 Mp (⟨dst, op, ty, pos, af, none⟩ :: l) k E0 E S1) : DD P n r Q ops S0 Mp (⟨dst, op, ty, pos, af, some (j, b)⟩ :: l) k E0 E S1 := DD.gdT (hx ▸ e) q
theorem DD.gFS {j : Nat} {b : Bool} {x : V} (e : zfh E ops n j = some x) (hx : x = .v (.bool (!b))) (hd : decide (t < n) = true) (q : DD P n r Q ops S0 Mp l k ((t, .v undef) :: E0) ((t, .v undef) :: E) S1) : DD P n r Q ops S0 Mp (⟨some t, op, ty, pos, af, some (j, b)⟩ :: l) k E0 E S1 := DD.gdF (dst := some t) (hx ▸ e) rfl hd q
theorem DD.gUS {j : Nat} {b : Bool} {x : V} (e : zfh E ops n j = some x) (hx : x = .v undef) (hd : decide (t < n) = true) (q : DD P n r Q ops S0 Mp l k ((t, .v undef) :: E0) ((t, .v undef) :: E) S1) : DD P n r Q ops S0 Mp (⟨some t, op, ty, pos, af, some (j, b)⟩ :: l) k E0 E S1 := DD.gdU (dst := some t) (hx ▸ e) hd q
theorem DD.pcS {g : FuncId} {args : List V} {xs : Array Operand} {ts : Array TypeId} {fn : Func} {v : V} (hf : FnOk P g fn) (hc : PC P g args v) (hd : decide (t < n) = true) (he : (evsV (evV E) xs.toList).map (·.map V.peek) = some args)
    (q : DD P n r Q ops S0 Mp l k (delV t E0) ((t, v) :: E) S1) : DD P n r Q ops S0 Mp (⟨some t, .call { callee := .value (.func g), args := xs, argTypes := ts }, ty, pos, af, none⟩ :: l) k E0 E S1 := DD.pc (dst := some t) hf hc hd he q
theorem DD.boxS {T : TypeId} {x : Operand} {v : V} (hd : decide (t < n) = true) (he : evV E x = some v) (hf : v.flat = true) (q : ∀ u, zab S1 u = none → zab S0 u = none → DD P n r Q ops S0 Mp l k ((t, .v (.pointer (some ⟨u, 0, none⟩))) :: E0) ((t, .v (.pointer (some ⟨u, 0, none⟩))) :: E) ((u, .cells (v.cells.map V.copy) T) :: S1)) :
    DD P n r Q ops S0 Mp (⟨some t, .box T x, ty, pos, af, none⟩ :: l) k E0 E S1 := DD.box (dst := some t) hd he hf q
theorem DS.pcVS {ts : Array TypeId} {cx : Operand} {g : FuncId} {fs cs args : List V} {xs : Array Operand} {fn : Func} {v : V} (hf : FnOk P g fn) (hcx : evV E cx = some (.fn g fs cs)) (hc : PC P g (fs ++ args ++ cs) v) (hd : decide (t < n) = true)
    (he : (evsV (evV E) xs.toList).map (·.map V.peek) = some args) (q : DS P n r Q (.ops ops l :: k) ((t, v) :: E) S) :
    DS P n r Q (.ops ops (⟨some t, .call { callee := .value cx, args := xs, argTypes := ts }, ty, pos, af, none⟩ :: l) :: k) E S := DS.pcV (dst := some t) hf hcx hc hd he q
theorem DS.bnd {v : V} {l : List (List V)} (hE : zcl E t = some v) (hv : v = .lst l ∨ ∃ m e sz, v = .own m e sz l) (q : l.length ≤ 9223372036854775807 → DS P n r Q k E S) : DS P n r Q k E S := fun K W a w ⟨K', D, hvv, hold, env, hb, ha, s⟩ hw => by
  obtain ⟨y, h1, h2, _⟩ := s.slot t v hE
  have : l.length ≤ maxLen := by
    rcases hv with rfl | ⟨m, e, sz, rfl⟩
    all_goals
      simp only [V.Rl] at h2
      obtain ⟨_, cap, _, _, h3, h4, _⟩ := h2
      omega
  exact q (by simpa [maxLen] using this) K W a w ⟨K', D, hvv, hold, env, hb, ha, s⟩ hw
def CG (P : Program) (n : Nat) (r : Rr) (Q : VEnv → Sto → Prop) (x y : Code) (k : List Fr) (E : VEnv) (S : Sto) (v : V) : Prop :=
  (∃ t, v = .v (.bool t)) ∧ (v = .v (.bool true) → DS P n r Q (.code x :: k) E S) ∧ (v = .v (.bool false) → DS P n r Q (.code y :: k) E S)
theorem DS.cE {c : Operand} {x y : Code} {v : V} (e : evV E c = some v) (q : CG P n r Q x y k E S v) : DS P n r Q (.code (.cond c x y) :: k) E S := by
  obtain ⟨⟨t, rfl⟩, q1, q2⟩ := q
  exact DS.cond e (fun h => q1 (by rw [h])) (fun h => q2 (by rw [h]))
theorem CG.yes {x y : Code} (q : DS P n r Q (.code x :: k) E S) : CG P n r Q x y k E S (.v (.bool true)) := ⟨⟨_, rfl⟩, fun _ => q, (fun h => by cases h)⟩
theorem CG.no {x y : Code} (q : DS P n r Q (.code y :: k) E S) : CG P n r Q x y k E S (.v (.bool false)) := ⟨⟨_, rfl⟩, (fun h => by cases h), fun _ => q⟩
theorem CG.p {x y : Code} {p : Prop} {_ : Decidable p} (q1 : p → DS P n r Q (.code x :: k) E S) (q2 : ¬ p → DS P n r Q (.code y :: k) E S) : CG P n r Q x y k E S (.v (.bool (decide p))) :=
  ⟨⟨_, rfl⟩, fun h => q1 (by simpa using h), fun h => q2 (by simpa using h)⟩
theorem CG.b {x y : Code} {t : Bool} (q1 : t = true → DS P n r Q (.code x :: k) E S) (q2 : t = false → DS P n r Q (.code y :: k) E S) : CG P n r Q x y k E S (.v (.bool t)) :=
  ⟨⟨_, rfl⟩, fun h => q1 (by simpa using h), fun h => q2 (by simpa using h)⟩
def GG (P : Program) (n : Nat) (r : Rr) (Q : VEnv → Sto → Prop) (b : Bool) (t : Nat) (op : Op) (ty : TypeId) (pos : String) (af : Array Edge) (ops l : List Oper) (k : List Fr) (E : VEnv) (S : Sto) (v : V) : Prop :=
  ((∃ u, v = .v (.bool u)) ∨ v = .v undef) ∧ (v = .v (.bool b) → DS P n r Q (.ops ops (⟨some t, op, ty, pos, af, none⟩ :: l) :: k) E S) ∧ (v ≠ .v (.bool b) → DS P n r Q (.ops ops l :: k) ((t, .v undef) :: E) S)
theorem DS.gE {j : Nat} {b : Bool} {v : V} (hd : decide (t < n) = true) (e : zfh E ops n j = some v) (q : GG P n r Q b t op ty pos af ops l k E S v) :
    DS P n r Q (.ops ops (⟨some t, op, ty, pos, af, some (j, b)⟩ :: l) :: k) E S := by
  obtain ⟨⟨u, rfl⟩ | rfl, q1, q2⟩ := q
  · by_cases h : u = b
    · subst h; exact DS.gT e rfl (q1 rfl)
    · refine DS.gF e (by cases u <;> cases b <;> simp_all) hd (q2 (by simpa using h))
  · exact DS.gU e rfl hd (q2 (by simp [undef]))
theorem GG.run {b : Bool} (q : DS P n r Q (.ops ops (⟨some t, op, ty, pos, af, none⟩ :: l) :: k) E S) : GG P n r Q b t op ty pos af ops l k E S (.v (.bool b)) := ⟨.inl ⟨_, rfl⟩, fun _ => q, fun h => (h rfl).elim⟩
theorem GG.sF (q : DS P n r Q (.ops ops l :: k) ((t, .v undef) :: E) S) : GG P n r Q true t op ty pos af ops l k E S (.v (.bool false)) := ⟨.inl ⟨_, rfl⟩, (fun h => by cases h), fun _ => q⟩
theorem GG.sT (q : DS P n r Q (.ops ops l :: k) ((t, .v undef) :: E) S) : GG P n r Q false t op ty pos af ops l k E S (.v (.bool true)) := ⟨.inl ⟨_, rfl⟩, (fun h => by cases h), fun _ => q⟩
theorem GG.sU {b : Bool} (q : DS P n r Q (.ops ops l :: k) ((t, .v undef) :: E) S) : GG P n r Q b t op ty pos af ops l k E S (.v undef) := ⟨.inr rfl, fun h => by simp [undef] at h, fun _ => q⟩
theorem GG.pT {p : Prop} {_ : Decidable p} (q1 : p → DS P n r Q (.ops ops (⟨some t, op, ty, pos, af, none⟩ :: l) :: k) E S) (q2 : ¬ p → DS P n r Q (.ops ops l :: k) ((t, .v undef) :: E) S) : GG P n r Q true t op ty pos af ops l k E S (.v (.bool (decide p))) :=
  ⟨.inl ⟨_, rfl⟩, fun h => q1 (by simpa using h), fun h => q2 (by simpa using h)⟩
theorem GG.pF {p : Prop} {_ : Decidable p} (q1 : ¬ p → DS P n r Q (.ops ops (⟨some t, op, ty, pos, af, none⟩ :: l) :: k) E S) (q2 : p → DS P n r Q (.ops ops l :: k) ((t, .v undef) :: E) S) : GG P n r Q false t op ty pos af ops l k E S (.v (.bool (decide p))) :=
  ⟨.inl ⟨_, rfl⟩, fun h => q1 (by simpa using h), fun h => q2 (by simpa using h)⟩
theorem GG.bT {u : Bool} (q1 : u = true → DS P n r Q (.ops ops (⟨some t, op, ty, pos, af, none⟩ :: l) :: k) E S) (q2 : u = false → DS P n r Q (.ops ops l :: k) ((t, .v undef) :: E) S) : GG P n r Q true t op ty pos af ops l k E S (.v (.bool u)) :=
  ⟨.inl ⟨_, rfl⟩, fun h => q1 (by simpa using h), fun h => q2 (by simpa using h)⟩
theorem GG.bF {u : Bool} (q1 : u = false → DS P n r Q (.ops ops (⟨some t, op, ty, pos, af, none⟩ :: l) :: k) E S) (q2 : u = true → DS P n r Q (.ops ops l :: k) ((t, .v undef) :: E) S) : GG P n r Q false t op ty pos af ops l k E S (.v (.bool u)) :=
  ⟨.inl ⟨_, rfl⟩, fun h => q1 (by simpa using h), fun h => q2 (by simpa using h)⟩
theorem DS.regionL {id : Nat} {os : List Oper} (q : DS P n r Q (.ops os os :: k) E S) : DS P n r Q (.code (.region id os.toArray false) :: k) E S := DS.region (ops := os.toArray) q
theorem copies_twice (l : List V) : (l.map V.copy).map V.copy = l.map V.copy := by
  rw [List.map_map]; apply List.map_congr_left; intro v _; cases v <;> rfl
theorem DS.boxF {T : TypeId} {x : Operand} {v : V} (hd : decide (t < n) = true) (he : evV E x = some v) (hf : v.flat = true) (q : DS P n r Q (.ops ops l :: k) ((t, .plc (v.cells.map V.copy)) :: E) S) :
    DS P n r Q (.ops ops (⟨some t, .box T x, ty, pos, af, none⟩ :: l) :: k) E S := DS.boxS hd he hf fun b hb => by
  refine DS.freezeP (t := t) (b := b) (l := v.cells.map V.copy) (T := T) (by simp [zcl]) (by simp [zab]) ?_
  rw [copies_twice]
  refine DS.weaken (fun u w e => ?_) (fun c o e => ?_) q
  · simp only [zcl] at e ⊢
    by_cases h : t = u
    · rw [if_pos h] at e ⊢; exact e
    · rw [if_neg h] at e ⊢; rw [if_neg h]; exact e
  · rw [zck, if_neg (fun h => by subst h; rw [hb] at e; cases e)]
    simp only [zab]
    rw [if_neg (fun h => by subst h; rw [hb] at e; cases e)]; exact e
def selV (E : VEnv) : List Nat → VEnv
  | [] => []
  | t :: r => match zcl E t with
    | some v => (t, v) :: selV E r
    | none => selV E r
theorem zmw (E : VEnv) : ∀ ts : List Nat, subV (selV E ts) E
  | [] => trivial
  | t :: r => by
    simp only [selV]
    split
    · rename_i v e; exact ⟨e, zmw E r⟩
    · exact zmw E r
theorem zkv : ∀ {F G E : VEnv}, subV F E → subV G E → subV (F ++ G) E
  | [], _, _, _, h => h
  | (_, _) :: _, _, _, h, k => ⟨h.1, zkv h.2 k⟩
theorem DS.loopK {α : Type} {c : Code} (ts : List Nat) {F : VEnv} (hF : selV E ts = F) (Ex : α → VEnv) (I : α → Prop) (μ : α → Nat) (x0 : α) (hE : subV (Ex x0) E) (hI : I x0)
    (body : ∀ (x : α) (B : VEnv → Sto → Prop), I x → (∀ x' E' S', μ x' < μ x → I x' → subV (Ex x') E' → subV F E' → (∀ b o, zab S b = some o → zab S' b = some o) → B E' S') → DS P n r Q (.code c :: .back B :: k) (Ex x ++ F) S) : DS P n r Q (.code (.loop c) :: k) E S := by
  subst hF
  refine DS.loop (fun m E' S' => ∃ x, μ x = m ∧ I x ∧ subV (Ex x ++ selV E ts) E' ∧ ∀ b o, zab S b = some o → zab S' b = some o) (μ x0) ⟨x0, rfl, hI, zkv hE (zmw E ts), fun _ _ h => h⟩ ?_
  rintro m E' S' ⟨x, rfl, h1, h2, h3⟩
  exact DS.weaken (zdb h2) h3 (body x _ h1 fun x' E2 S2 a b c d e => ⟨_, a, x', rfl, b, zkv c d, e⟩)
def selO (t : Nat) (r : VEnv) : Option V → VEnv
  | some v => (t, v) :: r
  | none => r
@[go_sem] theorem selV_cons (E : VEnv) (t : Nat) (r : List Nat) : selV E (t :: r) = selO t (selV E r) (zcl E t) := by
  simp only [selV]; cases zcl E t <;> rfl
@[go_sem] theorem selV_nil (E : VEnv) : selV E [] = [] := rfl
@[go_sem] theorem selO_some (t : Nat) (r : VEnv) (v : V) : selO t r (some v) = (t, v) :: r := rfl
theorem DS.nilOwn {e sz by_ : Nat} {op : Op} (hd : decide (t < n) = true) (hop : op = .move (.const (.slice none 0 0)) ∨ op = .assign (.const (.slice none 0 0))) (ht : tel P ty = some (e, sz, by_)) (q : DS P n r Q (.ops ops l :: k) ((t, .own false e sz []) :: E) S) :
    DS P n r Q (.ops ops (⟨some t, op, ty, pos, af, none⟩ :: l) :: k) E S := by
  refine DS.fltS (v := .v (.slice none 0 0)) (by rcases hop with rfl | rfl <;> rfl) hd (by rcases hop with rfl | rfl <;> rfl) ?_
  refine DS.adopt (t := t) (e := e) (sz := sz) (by simp [zcl]) (DS.weaken (fun u w h => ?_) (fun _ _ h => h) q)
  simp only [zcl] at h ⊢
  by_cases hu : t = u
  · rw [if_pos hu] at h ⊢; exact h
  · rw [if_neg hu] at h ⊢; rw [if_neg hu]; exact h
theorem DS.letF {T m : Nat} {bb : Bool} {x : Operand} {v : V} {z : Value} {ty2 : TypeId} {pos2 : String} {af2 : Array Edge} (hd : decide (t < n) = true) (hz : zde P T = some z) (ho : zgf z.cells.toList = true) (hx : ∀ p, evV ((t, p) :: E) x = some v) (ht : tsz P T = some (bb, m))
    (hf : v.flat = true) (hm : v.scells.length = m ∧ m ≤ z.cells.size) (hown : ∀ p, zgu ((t, p) :: E) x = (t, p) :: E) (q : DS P n r Q (.ops ops l :: k) ((t, .plc ((setAll (z.cells.toList.map V.v) 0 v.scells).map V.copy)) :: E) S) :
    DS P n r Q (.ops ops (⟨some t, .alloc T, ty, pos, af, none⟩ :: ⟨none, .store T (.tmp t) x, ty2, pos2, af2, none⟩ :: l) :: k) E S := DS.allocS hd hz ho fun b hb => by
  refine DS.store (b := b) (off := 0) (m := m) (bb := bb) (cl := z.cells.toList.map V.v) (T' := T) (v := v) rfl (by simp [evV, zcl]) (hx _) ht (by simp [zab]) hf ⟨hm.1, by simpa using hm.2⟩ ?_
  rw [hown]
  refine DS.freezeP (t := t) (b := b) (l := setAll (z.cells.toList.map V.v) 0 v.scells) (T := T) (by simp [zcl, putV]) (by simp [zab, setS]) ?_
  refine DS.weaken (fun u w e => ?_) (fun c o e => ?_) q
  · simp only [zcl, putV] at e ⊢
    by_cases h : t = u
    · rw [if_pos h] at e ⊢; exact e
    · rw [if_neg h] at e ⊢; rw [if_neg h]; exact e
  · rw [zck, if_neg (fun h => by subst h; rw [hb] at e; cases e)]
    have hcb : ¬ b = c := fun h => by subst h; rw [hb] at e; cases e
    have : zab (setS b (.cells (setAll (z.cells.toList.map V.v) 0 v.scells) T) ((b, .cells (z.cells.toList.map V.v) T) :: S)) c = zab S c := by
      rw [zbg (o0 := .cells (z.cells.toList.map V.v) T) (by simp [zab]), if_neg (fun h => hcb h.symm)]; simp only [zab]; rw [if_neg hcb]
    rw [this]; exact e
theorem zar {α : Type} {f : α → List V} {m : Nat} (h : ∀ a, (f a).length = m) (l : List α) : ∀ c ∈ l.map f, c.length = m := fun c hc => by
  obtain ⟨a, _, rfl⟩ := List.mem_map.1 hc; exact h a
theorem CG.nb {x y : Code} {t : Bool} (q1 : t = false → DS P n r Q (.code x :: k) E S) (q2 : t = true → DS P n r Q (.code y :: k) E S) : CG P n r Q x y k E S (.v (.bool (!t))) :=
  ⟨⟨_, rfl⟩, fun h => q1 (by simpa using h), fun h => q2 (by simpa using h)⟩
end
end Go.XL
namespace Go.XL
section
variable {v0 : VH} {P : Program} {n : Nat} {r : Rr} {Q : VEnv → Sto → Prop} {k : List Fr} {E : VEnv} {S : Sto} {dst : Option Tmp} {ty : TypeId} {pos : String} {af : Array Edge}
theorem St.turnC {K : Bs} {hv : VH} {hold : Nat → Option Hd} {env : Env} {h h' : Heap} (s : St K hv hold E S env h) {b : Nat} {cl cl' : List V} {T : TypeId} {cs : List Value} (hS : zab S b = some (.cells cl T)) (h1 : h'[b]? = some (.cells cs.toArray T (0, 0))) (h2 : ∀ j, j ≠ b → h'[j]? = h[j]?) (h3 : h.size ≤ h'.size)
    (hr : RlL hv cl' cs) (ho : Ones cs) (hf : ∀ v ∈ cl', v.free = true) : St K hv hold E (setS b (.cells cl' T) S) env h' := by
  obtain ⟨a1, a2, a3⟩ := s.obj b _ hS
  refine ⟨fun j ob e => ?_, fun t v e => ?_, fun j ob e => ?_, s.held, ⟨s.base.1, Nat.le_trans s.base.2.1 h3, fun j hj => (h2 j fun e => a1 (e ▸ hj)).trans (s.base.2.2 j hj)⟩, s.vbase⟩
  · have hj : j ≠ b := fun e1 => by subst e1; rw [a2] at e; cases e
    rw [h2 j hj]; exact s.pre j ob e
  · obtain ⟨y, q1, q2, q3⟩ := s.slot t v e
    refine ⟨y, q1, q2, q3.keep fun g ob b1 b2 b3 => ⟨h2 g fun e1 => ?_, rfl, b1⟩⟩
    subst e1; rw [a2] at b2; cases b2
  · rw [zbg hS] at e
    split at e
    · rename_i hb; subst hb
      simp only [Option.some.injEq] at e; subst e
      exact ⟨a1, a2, cs, h1, hr, ho, fun i c u hc _ => V.free_Own (hf c (List.mem_of_getElem? hc)) u⟩
    · rename_i hb
      obtain ⟨c1, c2, c3⟩ := s.obj j ob e
      exact ⟨c1, c2, Ob.keep c3 (PreV.refl hv) (h2 j hb) fun g i x b1 b2 b3 => ⟨h2 g fun e1 => (by subst e1; rw [a2] at b2; cases b2), rfl, b1⟩⟩
theorem zka {z : Value} (h : zgf z.cells.toList = true) (n : Nat) (hs : 0 < z.cells.size) : Ones (Builtin.zeroCells z.cells n).toList := fun u hu => by
  unfold Builtin.zeroCells at hu
  simp only [Array.toList_map, List.mem_map] at hu
  obtain ⟨j, _, rfl⟩ := hu
  have hlt : j % z.cells.size < z.cells.size := Nat.mod_lt _ hs
  refine zgk h _ ?_
  rw [getElem!_pos z.cells _ hlt]
  exact Array.getElem_mem_toList hlt
def delB (b : Option Nat) (S : Sto) : Sto := match b with
  | some b => delS b S
  | none => S
@[go_sem] theorem delB_some (b : Nat) (S : Sto) : delB (some b) S = delS b S := rfl
@[go_sem] theorem delB_none (S : Sto) : delB none S = S := rfl
def AppP (E : VEnv) (S : Sto) (b : Option Nat) (e sz len : Nat) (cl : List V) (ml : List (List V)) : V → VEnv → Sto → Prop := fun u E' S' => E' = E ∧ ∃ b' cap junk, u = .v (.slice (some ⟨b', 0, none⟩) (len + ml.length) cap) ∧
  S' = (b', .cells (cl.take (len * sz) ++ ml.flatten.map V.copy ++ junk) e) :: delB b S ∧ (b = some b' ∨ zab S b' = none) ∧ (len + ml.length) * sz + junk.length = cap * sz ∧ len + ml.length ≤ cap ∧ cap ≤ maxLen ∧ ∀ v ∈ junk, v.free = true
theorem zmn (l : List V) : ∀ v ∈ l.map V.copy, v.free = true := zej l
theorem OpS.appC {T e sz by_ t : Nat} {z : Value} {sx x : Operand} {vx : V} {b len cap : Nat} {cl : List V} {ml : List (List V)} (hd : dst = some t) (ht : tel P T = some (e, sz, by_)) (hz : zde P e = some z) (hzs : z.cells.size = sz) (hzo : zgf z.cells.toList = true) (hsz : 0 < sz)
    (hs : evV E sx = some (.v (.slice (some ⟨b, 0, none⟩) len cap))) (hS : zab S b = some (.cells cl e)) (hl : cl.length = cap * sz) (hlc : len ≤ cap) (hcap : cap ≤ maxLen) (hfree : ∀ v ∈ cl, v.free = true)
    (hx : evV E x = some vx) (hxl : zdz vx = some ml) (hm : 0 < ml.length) (hml : ∀ c ∈ ml, c.length = sz) (hfit : Fits len ml.length by_) :
    OpS v0 P n ⟨dst, .call { callee := .builtin .append, args := #[sx, x], argTypes := #[T, T] }, ty, pos, af, none⟩ E S (AppP E S (some b) e sz len cl ml) := by
  subst hd
  intro K D hv hold env a w hfl ha s
  obtain ⟨y, g2, g2'⟩ := s.rl _ _ hs
  simp only [V.Rl] at g2'; subst g2'
  obtain ⟨yx, g3, g3'⟩ := s.rl _ _ hx
  have hxR := zfw hxl g3'
  obtain ⟨hu, i, hi, hisz, hiby⟩ := zhu ht
  have hz' : i.zero = some z := by unfold zde at hz; rw [hi] at hz; exact hz
  subst hisz; subst hiby
  obtain ⟨ao, c, sz', rfl, x1, x2, x3, x4⟩ := hxR
  have hlenm : ml.flatten.length = ml.length * i.size := zfs hml
  have hC := x4.flat
  obtain ⟨news, hn1, hn2⟩ := hC.loads s.pre
  have hnl : news.length = ml.length * i.size := by rw [hn2.length, hlenm]
  have hones := zlw s.pre hC hn1
  have hnews : ∀ j u, news[j]? = some u → ld w.heap (at? ao j) = some u := fun j u hj => by simpa using zqs hn1 j u hj
  have hmax : (2147483648 : Nat) ≤ maxLen := by decide
  have h63 : len + ml.length ≤ maxLen := Nat.le_trans hfit.1 hmax
  have hbytes : (len + ml.length) * i.bytes ≤ 140737488355328 := Nat.le_trans (Nat.mul_le_mul hfit.1 hfit.2) (by decide)
  have hsmall : len + ml.length ≤ 9223372036854775807 := Nat.le_trans hfit.1 (by decide)
  have hpos : 0 < news.length := by rw [hnl]; exact Nat.mul_pos hm hsz
  obtain ⟨aa, rfl⟩ : ∃ aa, ao = some aa := by
    have := hnews 0 news[0] (List.getElem?_eq_getElem hpos)
    cases ao with
    | none => simp [ld, at?] at this
    | some aa => exact ⟨aa, rfl⟩
  have hnews' : ∀ j u, news[j]? = some u → w.cell? (aa.add j) = some u := hnews
  obtain ⟨o1, o2, cs, o3, o4, o5, o6⟩ := s.obj b _ hS
  have hcs : cs.length = cap * i.size := by rw [o4.length, hl]
  have run : ∀ {y' : Value} {w' : World}, (Builtin.append_ #[T, T] ty #[.slice (some ⟨b, 0, none⟩) len cap, .slice (some aa) ml.length c]).run P w = .ok y' w' →
      (execOp a.eval ⟨some t, .call { callee := .builtin .append, args := #[sx, x], argTypes := #[T, T] }, ty, pos, af, none⟩).run P w = .ok (.value y') w' := fun hr => by
    simp [execOp, resolve, invoke, builtin, ha.ev g2, ha.ev g3, hr]
  by_cases hroom : len + ml.length ≤ cap
  · have hfit' : len * i.size + news.length ≤ cs.toArray.size := by rw [hnl, List.size_toArray, hcs, ← Nat.add_mul]; exact Nat.mul_le_mul_right _ hroom
    have hr := run_append_room (P := P) w T ty e i hu hi b len cap cs.toArray o3 aa ml.length c news hnl hnews' hones hroom hfit'
    have hset := setRow_heap w b cs.toArray (cs.toArray.toList.take (len * i.size) ++ news ++ cs.toArray.toList.drop (len * i.size + news.length)).toArray e _ o3
    refine zdy (run hr) ⟨⟨rfl, rfl, rfl⟩, ?_⟩
    have hlen : cl.take (len * i.size) ++ ml.flatten.map V.copy ++ cl.drop (len * i.size + news.length) = cl.take (len * i.size) ++ ml.flatten.map V.copy ++ cl.drop (len * i.size + news.length) := rfl
    have s2 := s.turnC (h' := (w.setRow b (cs.toArray.toList.take (len * i.size) ++ news ++ cs.toArray.toList.drop (len * i.size + news.length)).toArray).heap) (cl' := cl.take (len * i.size) ++ ml.flatten.map V.copy ++ cl.drop (len * i.size + news.length)) (cs := cs.take (len * i.size) ++ news ++ cs.drop (len * i.size + news.length)) hS (by simpa using hset) (fun j hj => setRow_other w b j _ hj) (by simp [World.setRow])
      (((o4.take _).app (zew hn2)).app (o4.drop _)) (fun u hu => by
        rcases List.mem_append.1 hu with hu | hu
        · rcases List.mem_append.1 hu with hu | hu
          · exact o5 u (List.mem_of_mem_take hu)
          · exact hones u hu
        · exact o5 u (List.mem_of_mem_drop hu)) (fun v hv => by
        rcases List.mem_append.1 hv with hv | hv
        · rcases List.mem_append.1 hv with hv | hv
          · exact hfree v (List.mem_of_mem_take hv)
          · exact zej _ v hv
        · exact hfree v (List.mem_of_mem_drop hv))
    have s3 := s2.weaken (E' := E) (S' := (b, .cells (cl.take (len * i.size) ++ ml.flatten.map V.copy ++ cl.drop (len * i.size + news.length)) e) :: delS b S) (fun _ _ e => e) fun j o eo => by
      rw [zbg hS]
      simp only [zab] at eo
      by_cases hj : b = j
      · rw [if_pos hj] at eo; rw [if_pos hj.symm]; exact eo
      · rw [if_neg hj] at eo; rw [if_neg fun e => hj e.symm]
        rw [zck, if_neg fun e => hj e.symm] at eo; exact eo
    refine ⟨_, E, _, hv, hold, PreV.refl hv, s3.put (some t) V.Rl_v fun _ _ => trivial, rfl, b, cap, _, rfl, rfl, .inl rfl, ?_, hroom, hcap, fun v hv => hfree v (List.mem_of_mem_drop hv)⟩
    rw [List.length_drop, hl, hnl, ← Nat.add_mul]
    have : (len + ml.length) * i.size ≤ cap * i.size := Nat.mul_le_mul_right _ hroom
    omega
  · have hxs : (cs.take (len * i.size)).length = len * i.size := by
      rw [List.length_take, hcs]; exact Nat.min_eq_left (Nat.mul_le_mul_right _ hlc)
    have hcells : ∀ j u, (cs.take (len * i.size))[j]? = some u → w.cell? ((⟨b, 0, none⟩ : Addr).add j) = some u := by
      intro j u hj
      have hadd : (⟨b, 0, none⟩ : Addr).add j = ⟨b, j, none⟩ := by unfold Addr.add; split <;> simp_all
      rw [hadd]
      show cell w.heap ⟨b, j, none⟩ = some u
      unfold cell
      rw [o3]
      simp only [Option.isSome_none, Bool.false_eq_true, if_false]
      rw [List.getElem?_take] at hj
      split at hj
      · simpa using hj
      · cases hj
    have hr := run_append_grow (P := P) w T ty e i z hu hi hz' ⟨b, 0, none⟩ len cap (cs.take (len * i.size)) hxs hcells aa ml.length c news hnl hnews' (by omega) (by omega) (growslice_fits (by omega) hbytes)
    have hge := grownCap_ge w (len + ml.length) cap e
    have hcm := grownCap_le_maxLen w (len + ml.length) cap e h63
    refine zdy (run hr) ⟨⟨rfl, rfl, rfl⟩, ?_⟩
    obtain ⟨cap2, hcap2⟩ : ∃ c2, c2 = grownCap w (len + ml.length) cap e := ⟨_, rfl⟩
    rw [← hcap2] at hge hcm ⊢
    let zs := Builtin.zeroCells z.cells (cap2 - (len + ml.length))
    have hzs2 : zs.toList.length = (cap2 - (len + ml.length)) * i.size := by rw [Array.length_toList, size_zeroCells, hzs]
    have hzo2 : Ones zs.toList := zka hzo _ (by omega)
    have hborn := s.born (o := .cells (cl.take (len * i.size) ++ ml.flatten.map V.copy ++ zs.toList.map V.v) e) (x := .cells ((cs.take (len * i.size)).toArray ++ news.toArray ++ zs) e) ?_
    · obtain ⟨s2, hn⟩ := hborn
      have s3 := s2.weaken (E' := E) (S' := (w.heap.size, .cells (cl.take (len * i.size) ++ ml.flatten.map V.copy ++ zs.toList.map V.v) e) :: delS b S) (fun _ _ e => e) fun j o eo => by
        simp only [zab] at eo ⊢
        split at eo
        · rename_i hj; rw [if_pos hj]; exact eo
        · rename_i hj; rw [if_neg hj]
          rw [zck] at eo
          split at eo
          · cases eo
          · exact eo
      refine ⟨_, E, _, hv, hold, PreV.refl hv, s3.put (some t) V.Rl_v fun _ _ => trivial, rfl, w.heap.size, cap2, _, rfl, rfl, .inr hn, ?_, hge, hcm, zgn _⟩
      rw [List.length_map, hzs2, ← Nat.add_mul]; congr 1; omega
    · have h := zgj (h := w.heap) (hold := hold) (T := e) (cs := cs.take (len * i.size) ++ news ++ zs.toList) (l := cl.take (len * i.size) ++ ml.flatten.map V.copy ++ zs.toList.map V.v) (((o4.take _).app (zew hn2)).app (zij _)) (fun u hu => by
        rcases List.mem_append.1 hu with hu | hu
        · rcases List.mem_append.1 hu with hu | hu
          · exact o5 u (List.mem_of_mem_take hu)
          · exact hones u hu
        · exact hzo2 u hu) (fun v hv => by
        rcases List.mem_append.1 hv with hv | hv
        · rcases List.mem_append.1 hv with hv | hv
          · exact hfree v (List.mem_of_mem_take hv)
          · exact zej _ v hv
        · exact zgn _ v hv)
      rw [show (cs.take (len * i.size) ++ news ++ zs.toList).toArray = (cs.take (len * i.size)).toArray ++ news.toArray ++ zs by simp] at h
      exact h
theorem OpS.appN {T e sz by_ t : Nat} {z : Value} {sx x : Operand} {vx : V} {ml : List (List V)} (hd : dst = some t) (ht : tel P T = some (e, sz, by_)) (hz : zde P e = some z) (hzs : z.cells.size = sz) (hzo : zgf z.cells.toList = true) (hsz : 0 < sz)
    (hs : evV E sx = some (.v (.slice none 0 0))) (hx : evV E x = some vx) (hxl : zdz vx = some ml) (hm : 0 < ml.length) (hml : ∀ c ∈ ml, c.length = sz) (hfit : Fits 0 ml.length by_) :
    OpS v0 P n ⟨dst, .call { callee := .builtin .append, args := #[sx, x], argTypes := #[T, T] }, ty, pos, af, none⟩ E S (AppP E S none e sz 0 [] ml) := by
  subst hd
  intro K D hv hold env a w hfl ha s
  obtain ⟨y, g2, g2'⟩ := s.rl _ _ hs
  simp only [V.Rl] at g2'; subst g2'
  obtain ⟨yx, g3, g3'⟩ := s.rl _ _ hx
  have hxR := zfw hxl g3'
  obtain ⟨hu, i, hi, hisz, hiby⟩ := zhu ht
  have hz' : i.zero = some z := by unfold zde at hz; rw [hi] at hz; exact hz
  subst hisz; subst hiby
  obtain ⟨ao, c, sz', rfl, x1, x2, x3, x4⟩ := hxR
  have hlenm : ml.flatten.length = ml.length * i.size := zfs hml
  have hC := x4.flat
  obtain ⟨news, hn1, hn2⟩ := hC.loads s.pre
  have hnl : news.length = ml.length * i.size := by rw [hn2.length, hlenm]
  have hones := zlw s.pre hC hn1
  have hnews : ∀ j u, news[j]? = some u → ld w.heap (at? ao j) = some u := fun j u hj => by simpa using zqs hn1 j u hj
  have hmax : (2147483648 : Nat) ≤ maxLen := by decide
  have h63 : 0 + ml.length ≤ maxLen := Nat.le_trans hfit.1 hmax
  have hbytes : (0 + ml.length) * i.bytes ≤ 140737488355328 := Nat.le_trans (Nat.mul_le_mul hfit.1 hfit.2) (by decide)
  have hsmall : 0 + ml.length ≤ 9223372036854775807 := Nat.le_trans hfit.1 (by decide)
  have hpos : 0 < news.length := by rw [hnl]; exact Nat.mul_pos hm hsz
  obtain ⟨aa, rfl⟩ : ∃ aa, ao = some aa := by
    have := hnews 0 news[0] (List.getElem?_eq_getElem hpos)
    cases ao with
    | none => simp [ld, at?] at this
    | some aa => exact ⟨aa, rfl⟩
  have hnews' : ∀ j u, news[j]? = some u → w.cell? (aa.add j) = some u := hnews
  have run : ∀ {y' : Value} {w' : World}, (Builtin.append_ #[T, T] ty #[.slice none 0 0, .slice (some aa) ml.length c]).run P w = .ok y' w' →
      (execOp a.eval ⟨some t, .call { callee := .builtin .append, args := #[sx, x], argTypes := #[T, T] }, ty, pos, af, none⟩).run P w = .ok (.value y') w' := fun hr => by
    simp [execOp, resolve, invoke, builtin, ha.ev g2, ha.ev g3, hr]
  have hr := run_append_nil (P := P) w T ty e i z hu hi hz' aa ml.length c news hnl hnews' (by omega) (by omega) (by rw [Nat.zero_add] at hbytes; omega)
  have hge := grownCap_ge w ml.length 0 e
  have hcm := grownCap_le_maxLen w ml.length 0 e (by simpa using h63)
  refine zdy (run hr) ⟨⟨rfl, rfl, rfl⟩, ?_⟩
  obtain ⟨cap2, hcap2⟩ : ∃ c2, c2 = grownCap w ml.length 0 e := ⟨_, rfl⟩
  rw [← hcap2] at hge hcm ⊢
  let zs := Builtin.zeroCells z.cells (cap2 - ml.length)
  have hzs2 : zs.toList.length = (cap2 - ml.length) * i.size := by rw [Array.length_toList, size_zeroCells, hzs]
  have hzo2 : Ones zs.toList := zka hzo _ (by omega)
  have h := zgj (h := w.heap) (hold := hold) (T := e) (cs := news ++ zs.toList) (l := ml.flatten.map V.copy ++ zs.toList.map V.v) ((zew hn2).app (zij _)) (fun u hu => by
    rcases List.mem_append.1 hu with hu | hu
    · exact hones u hu
    · exact hzo2 u hu) (fun v hv => by
    rcases List.mem_append.1 hv with hv | hv
    · exact zej _ v hv
    · exact zgn _ v hv)
  rw [show (news ++ zs.toList).toArray = news.toArray ++ zs by simp] at h
  obtain ⟨s2, hn⟩ := s.born (x := .cells (news.toArray ++ zs) e) h
  refine ⟨_, E, _, hv, hold, PreV.refl hv, s2.put (some t) V.Rl_v fun _ _ => trivial, rfl, w.heap.size, cap2, zs.toList.map V.v, by rw [Nat.zero_add], by simp only [List.take_nil, List.nil_append, delB], .inr hn, ?_, by simpa using hge, hcm, zgn _⟩
  rw [List.length_map, hzs2, ← Nat.add_mul]; congr 1; omega
theorem DS.appC {T e sz by_ t : Nat} {z : Value} {sx x : Operand} {vx : V} {b len cap : Nat} {cl : List V} {ml : List (List V)} {ops l : List Oper} (hd : dok n (some t) = true) (ht : tel P T = some (e, sz, by_)) (hz : zde P e = some z) (hzs : z.cells.size = sz) (hzo : zgf z.cells.toList = true) (hsz : 0 < sz)
    (hs : evV E sx = some (.v (.slice (some ⟨b, 0, none⟩) len cap))) (hS : zab S b = some (.cells cl e)) (hl : cl.length = cap * sz) (hlc : len ≤ cap) (hcap : cap ≤ maxLen) (hfree : ∀ v ∈ cl, v.free = true)
    (hx : evV E x = some vx) (hxl : zdz vx = some ml) (hm : 0 < ml.length) (hml : ∀ c ∈ ml, c.length = sz) (hfit : Fits len ml.length by_)
    (q : ∀ b' cap' junk, (b = b' ∨ zab S b' = none) → (len + ml.length) * sz + junk.length = cap' * sz → len + ml.length ≤ cap' → cap' ≤ maxLen → (∀ v ∈ junk, v.free = true) →
      DS P n r Q (.ops ops l :: k) ((t, .v (.slice (some ⟨b', 0, none⟩) (len + ml.length) cap')) :: E) ((b', .cells (cl.take (len * sz) ++ ml.flatten.map V.copy ++ junk) e) :: delS b S)) :
    DS P n r Q (.ops ops (⟨some t, .call { callee := .builtin .append, args := #[sx, x], argTypes := #[T, T] }, ty, pos, af, none⟩ :: l) :: k) E S := by
  refine DS.step rfl rfl hd (OpS.appC rfl ht hz hzs hzo hsz hs hS hl hlc hcap hfree hx hxl hm hml hfit) fun u E' S' ⟨h1, b', cap', junk, h2, h3, h4, h5, h6, h7, h8⟩ => ?_
  subst h1; subst h2; subst h3
  exact q b' cap' junk (h4.imp (fun e => by cases e; rfl) id) h5 h6 h7 h8
theorem DS.appN {T e sz by_ t : Nat} {z : Value} {sx x : Operand} {vx : V} {ml : List (List V)} {ops l : List Oper} (hd : dok n (some t) = true) (ht : tel P T = some (e, sz, by_)) (hz : zde P e = some z) (hzs : z.cells.size = sz) (hzo : zgf z.cells.toList = true) (hsz : 0 < sz)
    (hs : evV E sx = some (.v (.slice none 0 0))) (hx : evV E x = some vx) (hxl : zdz vx = some ml) (hm : 0 < ml.length) (hml : ∀ c ∈ ml, c.length = sz) (hfit : Fits 0 ml.length by_)
    (q : ∀ b' cap' junk, zab S b' = none → ml.length * sz + junk.length = cap' * sz → ml.length ≤ cap' → cap' ≤ maxLen → (∀ v ∈ junk, v.free = true) →
      DS P n r Q (.ops ops l :: k) ((t, .v (.slice (some ⟨b', 0, none⟩) ml.length cap')) :: E) ((b', .cells (ml.flatten.map V.copy ++ junk) e) :: S)) :
    DS P n r Q (.ops ops (⟨some t, .call { callee := .builtin .append, args := #[sx, x], argTypes := #[T, T] }, ty, pos, af, none⟩ :: l) :: k) E S := by
  refine DS.step rfl rfl hd (OpS.appN rfl ht hz hzs hzo hsz hs hx hxl hm hml hfit) fun u E' S' ⟨h1, b', cap', junk, h2, h3, h4, h5, h6, h7, h8⟩ => ?_
  subst h1; subst h2; subst h3
  have := q b' cap' junk (h4.elim (fun e => by cases e) id) (by simpa using h5) (by simpa using h6) h7 h8
  simpa [delB, putV] using this
end
end Go.XL
namespace Go.XL
section
variable {P : Program} {T : TypeId} {kk : IntKind} {a b : Int}
@[go_sem] theorem bop_add : bop P .add T (.int kk a) (.int kk b) = some (.int kk (kk.wrap (a + b))) := by simp [bop, zkn]
@[go_sem] theorem bop_sub : bop P .sub T (.int kk a) (.int kk b) = some (.int kk (kk.wrap (a - b))) := by simp [bop, zkn]
@[go_sem] theorem bop_mul : bop P .mul T (.int kk a) (.int kk b) = some (.int kk (kk.wrap (a * b))) := by simp [bop, zkn]
@[go_sem] theorem bop_quo : bop P .quo T (.int kk a) (.int kk b) = if b ≠ 0 then some (.int kk (kk.wrap (a.tdiv b))) else none := by simp [bop, zkn]
@[go_sem] theorem bop_rem : bop P .rem T (.int kk a) (.int kk b) = if b ≠ 0 then some (.int kk (a.tmod b)) else none := by simp [bop, zkn]
@[go_sem] theorem bop_eql : bop P .eql T (.int kk a) (.int kk b) = some (.bool (decide (a = b))) := by
  simp only [bop, zkn, if_true]; congr 2
@[go_sem] theorem bop_neq : bop P .neq T (.int kk a) (.int kk b) = some (.bool (decide (¬ a = b))) := by
  simp only [bop, zkn, if_true]; congr 2; simp [bne, decide_not]; rfl
@[go_sem] theorem bop_lss : bop P .lss T (.int kk a) (.int kk b) = some (.bool (decide (a < b))) := by simp [bop, zkn]
@[go_sem] theorem bop_leq : bop P .leq T (.int kk a) (.int kk b) = some (.bool (decide (a ≤ b))) := by simp [bop, zkn]
@[go_sem] theorem bop_gtr : bop P .gtr T (.int kk a) (.int kk b) = some (.bool (decide (b < a))) := by simp [bop, zkn]
@[go_sem] theorem bop_geq : bop P .geq T (.int kk a) (.int kk b) = some (.bool (decide (b ≤ a))) := by simp [bop, zkn]
theorem bop_neqB {u v : Bool} (e : P.underlying T = some .bool) : bop P .neq T (.bool u) (.bool v) = some (.bool (u != v)) := by simp [bop, e]
theorem bop_eqlN {e : TypeId} {p : Option Addr} {a b : Nat} (u : P.underlying T = some (.slice e)) : bop P .eql T (.slice p a b) (.slice none 0 0) = some (.bool p.isNone) := by simp [bop, u]
end
@[go_sem] theorem not_dec (p : Prop) [Decidable p] : (!decide p) = decide (¬ p) := by simp
@[go_sem] theorem zbk (l : List V) : (V.agg l).cells = l := rfl
@[go_sem] theorem zcd (x : Value) : (V.v x).cells = [.v x] := rfl
@[go_sem] theorem zbi (l : List (List V)) : (V.lst l).cells = [.lst l] := rfl
@[go_sem] theorem cells_own (m : Bool) (e sz : Nat) (l : List (List V)) : (V.own m e sz l).cells = [.own m e sz l] := rfl
@[go_sem] theorem cells_plc (l : List V) : (V.plc l).cells = [.plc l] := rfl
@[go_sem] theorem zbu (f : FuncId) (a b : List V) : (V.fn f a b).cells = [.fn f a b] := rfl
@[go_sem] theorem cells_ifc (t : TypeId) (x : V) : (V.ifc t x).cells = [.ifc t x] := rfl
@[go_sem] theorem flat_int (k : IntKind) (n : Int) : (V.v (.int k n)).flat = true := rfl
@[go_sem] theorem flat_bool (b : Bool) : (V.v (.bool b)).flat = true := rfl
@[go_sem] theorem flat_str (b : ByteArray) : (V.v (.string b)).flat = true := rfl
@[go_sem] theorem flat_slice (p : Option Addr) (n c : Nat) : (V.v (.slice p n c)).flat = true := rfl
@[go_sem] theorem flat_ptr (p : Option Addr) : (V.v (.pointer p)).flat = true := rfl
@[go_sem] theorem flat_map (p : Option Nat) : (V.v (.map p)).flat = true := rfl
@[go_sem] theorem flat_nilFunc : (V.v .nilFunc).flat = true := rfl
@[go_sem] theorem flat_nilIface : (V.v .nilIface).flat = true := rfl
@[go_sem] theorem flat_lst (l : List (List V)) : (V.lst l).flat = true := rfl
@[go_sem] theorem flat_own (m : Bool) (e sz : Nat) (l : List (List V)) : (V.own m e sz l).flat = true := rfl
@[go_sem] theorem flat_plc (l : List V) : (V.plc l).flat = true := rfl
@[go_sem] theorem flat_fn (f : FuncId) (a b : List V) : (V.fn f a b).flat = true := rfl
@[go_sem] theorem flat_ifc (t : TypeId) (x : V) : (V.ifc t x).flat = true := rfl
@[go_sem] theorem flat_agg (l : List V) : (V.agg l).flat = l.all V.one := rfl
@[go_sem] theorem all_nil' {α : Type} (p : α → Bool) : ([] : List α).all p = true := rfl
@[go_sem] theorem all_cons' {α : Type} (p : α → Bool) (a : α) (r : List α) : (a :: r).all p = (p a && r.all p) := rfl
@[go_sem] theorem one_int (k : IntKind) (n : Int) : (V.v (.int k n)).one = true := rfl
@[go_sem] theorem one_bool (b : Bool) : (V.v (.bool b)).one = true := rfl
@[go_sem] theorem one_str (b : ByteArray) : (V.v (.string b)).one = true := rfl
@[go_sem] theorem one_slice (p : Option Addr) (n c : Nat) : (V.v (.slice p n c)).one = true := rfl
@[go_sem] theorem one_ptr (p : Option Addr) : (V.v (.pointer p)).one = true := rfl
@[go_sem] theorem one_map (p : Option Nat) : (V.v (.map p)).one = true := rfl
@[go_sem] theorem one_nilFunc : (V.v .nilFunc).one = true := rfl
@[go_sem] theorem one_nilIface : (V.v .nilIface).one = true := rfl
@[go_sem] theorem one_lst (l : List (List V)) : (V.lst l).one = true := rfl
@[go_sem] theorem one_own (m : Bool) (e sz : Nat) (l : List (List V)) : (V.own m e sz l).one = true := rfl
@[go_sem] theorem one_plc (l : List V) : (V.plc l).one = true := rfl
@[go_sem] theorem one_fn (f : FuncId) (a b : List V) : (V.fn f a b).one = true := rfl
@[go_sem] theorem one_ifc (t : TypeId) (x : V) : (V.ifc t x).one = true := rfl
@[go_sem] theorem zbf {α β : Type} (f : α → β) : ([] : List α).map f = [] := rfl
@[go_sem] theorem zaz {α β : Type} (f : α → β) (a : α) (r : List α) : (a :: r).map f = f a :: r.map f := rfl
@[go_sem] theorem len_nil {α : Type} : ([] : List α).length = 0 := rfl
@[go_sem] theorem len_cons {α : Type} (a : α) (r : List α) : (a :: r).length = r.length + 1 := rfl
@[go_sem] theorem zav {α : Type} (l : List α) : l.drop 0 = l := rfl
@[go_sem] theorem zaw {α : Type} (a : α) (r : List α) (n : Nat) : (a :: r).drop (n + 1) = r.drop n := rfl
@[go_sem] theorem take_zero' {α : Type} (l : List α) : l.take 0 = [] := by simp
@[go_sem] theorem take_cons' {α : Type} (a : α) (r : List α) (n : Nat) : (a :: r).take (n + 1) = a :: r.take n := rfl
@[go_sem] theorem take_nil' {α : Type} (n : Nat) : ([] : List α).take n = [] := by simp
@[go_sem] theorem zbr {α : Type} (a b : α) (r : List α) : (a :: r).set 0 b = b :: r := rfl
@[go_sem] theorem zbx {α : Type} (a b : α) (r : List α) (n : Nat) : (a :: r).set (n + 1) b = a :: r.set n b := rfl
@[go_sem] theorem zbd {α : Type} (a : α) (r : List α) : (a :: r)[0]? = some a := rfl
@[go_sem] theorem zbe {α : Type} (a : α) (r : List α) (n : Nat) : (a :: r)[n + 1]? = r[n]? := rfl
@[go_sem] theorem zau {α : Type} (l : List α) : [] ++ l = l := rfl
@[go_sem] theorem zap {α : Type} (a : α) (l m : List α) : (a :: l) ++ m = a :: (l ++ m) := rfl
theorem zdw {P : Program} {T m : Nat} (e : tsz P T = some (false, m)) (v : V) (r : List V) : ldTV P T (v :: r) = some v.copy := by simp only [ldTV, e]
theorem ziv {P : Program} {T m : Nat} (e : tsz P T = some (false, m)) (l : List V) (k : Nat) : ldTV P T (l.drop k) = (l[k]?).map V.copy := by
  by_cases h : k < l.length
  · rw [List.drop_eq_getElem_cons h, zdw e, List.getElem?_eq_getElem h]; rfl
  · rw [List.drop_eq_nil_of_le (by omega), List.getElem?_eq_none (by omega)]; simp [ldTV, e]
theorem zna {P : Program} {T m : Nat} (e : tsz P T = some (true, m + 1)) (c : List V) : ldTV P T c = if m + 1 ≤ c.length then some (.agg ((c.take (m + 1)).map V.peek)) else none := by simp only [ldTV, e]
@[go_sem] theorem loadV_plc (P : Program) (S : Sto) (T : TypeId) (c : List V) : zpe P S T (.plc c) = ldTV P T c := rfl
def loadO (P : Program) (T : TypeId) (off : Nat) : Option Ob → Option V
  | some (.cells l _) => ldTV P T (l.drop off)
  | _ => none
@[go_sem] theorem loadO_some (P : Program) (T : TypeId) (off : Nat) (l : List V) (T' : TypeId) : loadO P T off (some (.cells l T')) = ldTV P T (l.drop off) := rfl
@[go_sem] theorem loadV_ptr (P : Program) (S : Sto) (T : TypeId) (b off : Nat) : zpe P S T (.v (.pointer (some ⟨b, off, none⟩))) = loadO P T off (zab S b) := by
  simp only [zpe, loadO]; split <;> simp_all
theorem zjg {P : Program} {T e sz by_ : Nat} {z : Value} (ht : tel P T = some (e, sz, by_)) (hz : zde P e = some z) (ho : zgf z.cells.toList = true) (hs : z.cells.size = sz) (len : Nat) (ps : List (Nat × V)) :
    bslV P T len ps = if len * sz ≤ 16777216 ∧ len ≤ 16777216 then (zeh (fun i => some (i * sz, sz)) (zdo z len) ps).map fun c => (e, sz, c) else none := by
  simp only [bslV, ht, hz, ho, hs, and_true]
def idxO (sz : Nat) : Option (List V) → Option V
  | some c => if c.length = sz ∧ 0 < sz then some (.plc c) else none
  | none => none
@[go_sem] theorem idxO_some (sz : Nat) (c : List V) : idxO sz (some c) = if c.length = sz ∧ 0 < sz then some (.plc c) else none := rfl
theorem zha {P : Program} {T e sz by_ : Nat} (ht : tel P T = some (e, sz, by_)) {x : V} {l : List (List V)} (hx : zdz x = some l) (k : IntKind) (m : Int) : zgv P T x (.v (.int k m)) = if 0 ≤ m then idxO sz l[m.toNat]? else none := by
  simp only [zgv, hx, ht, idxO]
  split
  · cases l[m.toNat]? <;> rfl
  · rfl
theorem zie {P : Program} {T e sz by_ : Nat} (ht : tel P T = some (e, sz, by_)) (b off len cap : Nat) (k : IntKind) (m : Int) : zgv P T (.v (.slice (some ⟨b, off, none⟩) len cap)) (.v (.int k m)) = if 0 ≤ m then (if m < len then some (.v (.pointer (some ⟨b, off + m.toNat * sz, none⟩))) else none) else none := by
  simp only [zgv, zdz, ht]
theorem slcV_lst {P : Program} {T e sz by_ : Nat} (ht : tel P T = some (e, sz, by_)) {x : V} {l : List (List V)} (hx : zdz x = some l) (lo hi : Option Nat) : slcV P T x lo hi = if lo.getD 0 ≤ hi.getD l.length ∧ hi.getD l.length ≤ l.length ∧ (∀ c ∈ l, c.length = sz) then some (.lst ((l.take (hi.getD l.length)).drop (lo.getD 0))) else none := by
  simp only [slcV, ht, hx]
theorem ztr {P : Program} {T e sz by_ : Nat} (ht : tel P T = some (e, sz, by_)) (b off len cap : Nat) (lo hi : Option Nat) : slcV P T (.v (.slice (some ⟨b, off, none⟩) len cap)) lo hi = if lo.getD 0 ≤ hi.getD len ∧ hi.getD len ≤ cap ∧ lo.getD 0 < cap then some (.v (.slice (some ⟨b, off + lo.getD 0 * sz, none⟩) (hi.getD len - lo.getD 0) (cap - lo.getD 0))) else none := by
  simp only [slcV, ht, zdz]
theorem zgz {P : Program} {T : Nat} (ht : zmt P T = true) {x : V} {l : List (List V)} (hx : zdz x = some l) : zid P T x = some (.v (.int .i64 l.length)) := by
  simp only [zid, hx, ht, if_true]
theorem zmz {P : Program} {T : Nat} (ht : zmt P T = true) (a : Addr) (n c : Nat) : zid P T (.v (.slice (some a) n c)) = some (.v (.int .i64 n)) := by
  simp only [zid, zdz, ht, if_true]
theorem zds {P : Program} {T f o : Nat} (ho : foff P T f = some o) (c : List V) : zdl P T f (.plc c) = if o ≤ c.length then some (.plc (c.drop o)) else none := by simp only [zdl, ho]
theorem zcv {P : Program} {T f o : Nat} (ho : foff P T f = some o) (b off : Nat) : zdl P T f (.v (.pointer (some ⟨b, off, none⟩))) = some (.v (.pointer (some ⟨b, off + o, none⟩))) := by simp only [zdl, ho]
theorem zwk {P : Program} {s d : TypeId} {k' : IntKind} (e1 : (P.underlying s).isSome = true) (e2 : tint P d = some k') (k : IntKind) (n : Int) : ztg P s d (.v (.int k n)) = some (.v (.int k' (k'.wrap n))) := by simp only [ztg, e1, e2]
@[go_sem] theorem zerosV_int (k : IntKind) (n : Int) (m : Nat) : zdo (.int k n) m = List.replicate m (.v (.int k n)) := by
  simp only [zdo, Value.cells]
  induction m with
  | zero => rfl
  | succ m ih => rw [List.replicate_succ, List.flatten_cons, List.replicate_succ, ih]; rfl
@[go_sem] theorem zmg (m : Nat) : zdo (.slice none 0 0) m = List.replicate m (.v (.slice none 0 0)) := by
  simp only [zdo, Value.cells]
  induction m with
  | zero => rfl
  | succ m ih => rw [List.replicate_succ, List.flatten_cons, List.replicate_succ, ih]; rfl
@[go_sem] theorem zerosV_bool (b : Bool) (m : Nat) : zdo (.bool b) m = List.replicate m (.v (.bool b)) := by
  simp only [zdo, Value.cells]
  induction m with
  | zero => rfl
  | succ m ih => rw [List.replicate_succ, List.flatten_cons, List.replicate_succ, ih]; rfl
@[go_sem] theorem zerosV_agg (l : Array Value) (m : Nat) : zdo (.agg l) m = (List.replicate m (l.toList.map V.v)).flatten := rfl
@[go_sem] theorem replicate_zero' {α : Type} (a : α) : List.replicate 0 a = [] := rfl
@[go_sem] theorem replicate_succ' {α : Type} (a : α) (n : Nat) : List.replicate (n + 1) a = a :: List.replicate n a := rfl
@[go_sem] theorem flatten_nil' {α : Type} : ([] : List (List α)).flatten = [] := rfl
@[go_sem] theorem flatten_cons' {α : Type} (a : List α) (r : List (List α)) : (a :: r).flatten = a ++ r.flatten := rfl
@[go_sem] theorem zac (E : VEnv) (v : Value) : zgu E (.const v) = E := rfl
@[go_sem] theorem strip_func (E : VEnv) (v : Nat) : zgu E (.func v) = E := rfl
@[go_sem] theorem strip_global (E : VEnv) (v : Nat) : zgu E (.global v) = E := rfl
def zkw (E : VEnv) (t : Nat) : Option V → VEnv
  | some (.own _ _ _ l) => (t, .lst l) :: E
  | _ => E
@[go_sem] theorem zak (E : VEnv) (t : Nat) : zgu E (.tmp t) = zkw E t (zcl E t) := by
  simp only [zgu, zkw]; split <;> simp_all
@[go_sem] theorem zag (E : VEnv) (t : Nat) (m : Bool) (e sz : Nat) (l : List (List V)) : zkw E t (some (.own m e sz l)) = (t, .lst l) :: E := rfl
@[go_sem] theorem zah (E : VEnv) (t : Nat) (l : List (List V)) : zkw E t (some (.lst l)) = E := rfl
@[go_sem] theorem zao (E : VEnv) (t : Nat) (x : Value) : zkw E t (some (.v x)) = E := rfl
@[go_sem] theorem zaf (E : VEnv) (t : Nat) (x : List V) : zkw E t (some (.plc x)) = E := rfl
@[go_sem] theorem zae (E : VEnv) (t : Nat) (x : List V) : zkw E t (some (.agg x)) = E := rfl
@[go_sem] theorem zal (E : VEnv) (t : Nat) (f : FuncId) (x y : List V) : zkw E t (some (.fn f x y)) = E := rfl
@[go_sem] theorem zai (E : VEnv) (t : Nat) (f : TypeId) (x : V) : zkw E t (some (.ifc f x)) = E := rfl
end Go.XL
namespace Go.XL
open Go.Proofs
@[go_sem] theorem tz3 : zde Try.prog 3 = some (.int .i64 (0)) := by kernel_rfl
@[go_sem] theorem tz4 : zde Try.prog 4 = some (.bool false) := by kernel_rfl
@[go_sem] theorem tz22 : zde Try.prog 22 = some (.slice none 0 0) := by kernel_rfl
@[go_sem] theorem tz26 : zde Try.prog 26 = some (.agg #[.int .i64 (0), .int .i64 (0), .int .i64 (0), .int .i64 (0), .slice none 0 0, .bool false, .slice none 0 0, .slice none 0 0]) := by kernel_rfl
@[go_sem] theorem tz35 : zde Try.prog 35 = some (.slice none 0 0) := by kernel_rfl
@[go_sem] theorem tz78 : zde Try.prog 78 = some (.agg #[.int .i64 (0), .int .i64 (0), .slice none 0 0]) := by kernel_rfl
@[go_sem] theorem tz81 : zde Try.prog 81 = some (.agg #[.slice none 0 0, .slice none 0 0, .slice none 0 0]) := by kernel_rfl
@[go_sem] theorem tz88 : zde Try.prog 88 = some (.agg #[.int .i64 (0), .int .i64 (0), .int .i64 (0), .int .i64 (0)]) := by kernel_rfl
@[go_sem] theorem tz134 : zde Try.prog 134 = some (.slice none 0 0) := by kernel_rfl
@[go_sem] theorem tsz3 : tsz Try.prog 3 = some (false, 1) := by kernel_rfl
@[go_sem] theorem ldT3 (v : V) (r : List V) : ldTV Try.prog 3 (v :: r) = some v.copy := zdw tsz3 v r
@[go_sem] theorem ldD3 (l : List V) (k : Nat) : ldTV Try.prog 3 (l.drop k) = (l[k]?).map V.copy := ziv tsz3 l k
@[go_sem] theorem tint3 : tint Try.prog 3 = some .i64 := by kernel_rfl
@[go_sem] theorem usm3 : (Try.prog.underlying 3).isSome = true := by kernel_rfl
@[go_sem] theorem tsz4 : tsz Try.prog 4 = some (false, 1) := by kernel_rfl
@[go_sem] theorem ldT4 (v : V) (r : List V) : ldTV Try.prog 4 (v :: r) = some v.copy := zdw tsz4 v r
@[go_sem] theorem ldD4 (l : List V) (k : Nat) : ldTV Try.prog 4 (l.drop k) = (l[k]?).map V.copy := ziv tsz4 l k
@[go_sem] theorem neB4 (u v : Bool) : bop Try.prog .neq 4 (.bool u) (.bool v) = some (.bool (u != v)) := bop_neqB (by kernel_rfl)
@[go_sem] theorem tsz22 : tsz Try.prog 22 = some (false, 1) := by kernel_rfl
@[go_sem] theorem ldT22 (v : V) (r : List V) : ldTV Try.prog 22 (v :: r) = some v.copy := zdw tsz22 v r
@[go_sem] theorem ldD22 (l : List V) (k : Nat) : ldTV Try.prog 22 (l.drop k) = (l[k]?).map V.copy := ziv tsz22 l k
@[go_sem] theorem zvh : tel Try.prog 22 = some (3, 1, 8) := by kernel_rfl
@[go_sem] theorem isl22 : zmt Try.prog 22 = true := by kernel_rfl
@[go_sem] theorem len22 (l : List (List V)) : zid Try.prog 22 (.lst l) = some (.v (.int .i64 l.length)) := zgz isl22 rfl
@[go_sem] theorem les22 (a : Addr) (n c : Nat) : zid Try.prog 22 (.v (.slice (some a) n c)) = some (.v (.int .i64 n)) := zmz isl22 a n c
@[go_sem] theorem ixl22 (l : List (List V)) (k : IntKind) (m : Int) : zgv Try.prog 22 (.lst l) (.v (.int k m)) = if 0 ≤ m then idxO 1 l[m.toNat]? else none := zha zvh rfl k m
@[go_sem] theorem ixs22 (b off len cap : Nat) (k : IntKind) (m : Int) : zgv Try.prog 22 (.v (.slice (some ⟨b, off, none⟩) len cap)) (.v (.int k m)) = if 0 ≤ m then (if m < len then some (.v (.pointer (some ⟨b, off + m.toNat * 1, none⟩))) else none) else none := zie zvh b off len cap k m
@[go_sem] theorem sll22 (l : List (List V)) (lo hi : Option Nat) : slcV Try.prog 22 (.lst l) lo hi = if lo.getD 0 ≤ hi.getD l.length ∧ hi.getD l.length ≤ l.length ∧ (∀ c ∈ l, c.length = 1) then some (.lst ((l.take (hi.getD l.length)).drop (lo.getD 0))) else none := slcV_lst zvh rfl lo hi
@[go_sem] theorem sls22 (b off len cap : Nat) (lo hi : Option Nat) : slcV Try.prog 22 (.v (.slice (some ⟨b, off, none⟩) len cap)) lo hi = if lo.getD 0 ≤ hi.getD len ∧ hi.getD len ≤ cap ∧ lo.getD 0 < cap then some (.v (.slice (some ⟨b, off + lo.getD 0 * 1, none⟩) (hi.getD len - lo.getD 0) (cap - lo.getD 0))) else none := ztr zvh b off len cap lo hi
@[go_sem] theorem bsl22 (len : Nat) (ps : List (Nat × V)) : bslV Try.prog 22 len ps = if len * 1 ≤ 16777216 ∧ len ≤ 16777216 then (zeh (fun i => some (i * 1, 1)) (zdo (.int .i64 (0)) len) ps).map fun c => (3, 1, c) else none := zjg zvh tz3 rfl rfl len ps
@[go_sem] theorem tsz23 : tsz Try.prog 23 = some (false, 1) := by kernel_rfl
@[go_sem] theorem ldT23 (v : V) (r : List V) : ldTV Try.prog 23 (v :: r) = some v.copy := zdw tsz23 v r
@[go_sem] theorem tel23 : tel Try.prog 23 = some (88, 4, 32) := by kernel_rfl
@[go_sem] theorem isl23 : zmt Try.prog 23 = true := by kernel_rfl
@[go_sem] theorem len23 (l : List (List V)) : zid Try.prog 23 (.lst l) = some (.v (.int .i64 l.length)) := zgz isl23 rfl
@[go_sem] theorem ixl23 (l : List (List V)) (k : IntKind) (m : Int) : zgv Try.prog 23 (.lst l) (.v (.int k m)) = if 0 ≤ m then idxO 4 l[m.toNat]? else none := zha tel23 rfl k m
@[go_sem] theorem ixs23 (b off len cap : Nat) (k : IntKind) (m : Int) : zgv Try.prog 23 (.v (.slice (some ⟨b, off, none⟩) len cap)) (.v (.int k m)) = if 0 ≤ m then (if m < len then some (.v (.pointer (some ⟨b, off + m.toNat * 4, none⟩))) else none) else none := zie tel23 b off len cap k m
@[go_sem] theorem bsl23 (len : Nat) (ps : List (Nat × V)) : bslV Try.prog 23 len ps = if len * 4 ≤ 16777216 ∧ len ≤ 16777216 then (zeh (fun i => some (i * 4, 4)) (zdo (.agg #[.int .i64 (0), .int .i64 (0), .int .i64 (0), .int .i64 (0)]) len) ps).map fun c => (88, 4, c) else none := zjg tel23 tz88 rfl rfl len ps
@[go_sem] theorem tsz24 : tsz Try.prog 24 = some (false, 1) := by kernel_rfl
@[go_sem] theorem ldT24 (v : V) (r : List V) : ldTV Try.prog 24 (v :: r) = some v.copy := zdw tsz24 v r
@[go_sem] theorem tel24 : tel Try.prog 24 = some (81, 3, 72) := by kernel_rfl
@[go_sem] theorem isl24 : zmt Try.prog 24 = true := by kernel_rfl
@[go_sem] theorem len24 (l : List (List V)) : zid Try.prog 24 (.lst l) = some (.v (.int .i64 l.length)) := zgz isl24 rfl
@[go_sem] theorem len024 : zid Try.prog 24 (.v (.slice none 0 0)) = some (.v (.int .i64 0)) := zgz (l := []) isl24 rfl
@[go_sem] theorem les24 (a : Addr) (n c : Nat) : zid Try.prog 24 (.v (.slice (some a) n c)) = some (.v (.int .i64 n)) := zmz isl24 a n c
@[go_sem] theorem ixl24 (l : List (List V)) (k : IntKind) (m : Int) : zgv Try.prog 24 (.lst l) (.v (.int k m)) = if 0 ≤ m then idxO 3 l[m.toNat]? else none := zha tel24 rfl k m
@[go_sem] theorem ixs24 (b off len cap : Nat) (k : IntKind) (m : Int) : zgv Try.prog 24 (.v (.slice (some ⟨b, off, none⟩) len cap)) (.v (.int k m)) = if 0 ≤ m then (if m < len then some (.v (.pointer (some ⟨b, off + m.toNat * 3, none⟩))) else none) else none := zie tel24 b off len cap k m
@[go_sem] theorem bsl24 (len : Nat) (ps : List (Nat × V)) : bslV Try.prog 24 len ps = if len * 3 ≤ 16777216 ∧ len ≤ 16777216 then (zeh (fun i => some (i * 3, 3)) (zdo (.agg #[.slice none 0 0, .slice none 0 0, .slice none 0 0]) len) ps).map fun c => (81, 3, c) else none := zjg tel24 tz81 rfl rfl len ps
@[go_sem] theorem tsz26 : tsz Try.prog 26 = some (true, 8) := by kernel_rfl
@[go_sem] theorem ldT26 (c : List V) : ldTV Try.prog 26 c = if 8 ≤ c.length then some (.agg ((c.take 8).map V.peek)) else none := zna tsz26 c
@[go_sem] theorem zuv : foff Try.prog 26 0 = some 0 := by kernel_rfl
@[go_sem] theorem fpl26_0 (c : List V) : zdl Try.prog 26 0 (.plc c) = if 0 ≤ c.length then some (.plc (c.drop 0)) else none := zds zuv c
@[go_sem] theorem fpt26_0 (b o : Nat) : zdl Try.prog 26 0 (.v (.pointer (some ⟨b, o, none⟩))) = some (.v (.pointer (some ⟨b, o + 0, none⟩))) := zcv zuv b o
@[go_sem] theorem zuu : foff Try.prog 26 1 = some 1 := by kernel_rfl
@[go_sem] theorem fpl26_1 (c : List V) : zdl Try.prog 26 1 (.plc c) = if 1 ≤ c.length then some (.plc (c.drop 1)) else none := zds zuu c
@[go_sem] theorem fpt26_1 (b o : Nat) : zdl Try.prog 26 1 (.v (.pointer (some ⟨b, o, none⟩))) = some (.v (.pointer (some ⟨b, o + 1, none⟩))) := zcv zuu b o
@[go_sem] theorem foff26_2 : foff Try.prog 26 2 = some 2 := by kernel_rfl
@[go_sem] theorem fpl26_2 (c : List V) : zdl Try.prog 26 2 (.plc c) = if 2 ≤ c.length then some (.plc (c.drop 2)) else none := zds foff26_2 c
@[go_sem] theorem zut : foff Try.prog 26 3 = some 3 := by kernel_rfl
@[go_sem] theorem fpl26_3 (c : List V) : zdl Try.prog 26 3 (.plc c) = if 3 ≤ c.length then some (.plc (c.drop 3)) else none := zds zut c
@[go_sem] theorem fpt26_3 (b o : Nat) : zdl Try.prog 26 3 (.v (.pointer (some ⟨b, o, none⟩))) = some (.v (.pointer (some ⟨b, o + 3, none⟩))) := zcv zut b o
@[go_sem] theorem zus : foff Try.prog 26 4 = some 4 := by kernel_rfl
@[go_sem] theorem fpl26_4 (c : List V) : zdl Try.prog 26 4 (.plc c) = if 4 ≤ c.length then some (.plc (c.drop 4)) else none := zds zus c
@[go_sem] theorem fpt26_4 (b o : Nat) : zdl Try.prog 26 4 (.v (.pointer (some ⟨b, o, none⟩))) = some (.v (.pointer (some ⟨b, o + 4, none⟩))) := zcv zus b o
@[go_sem] theorem foff26_5 : foff Try.prog 26 5 = some 5 := by kernel_rfl
@[go_sem] theorem fpl26_5 (c : List V) : zdl Try.prog 26 5 (.plc c) = if 5 ≤ c.length then some (.plc (c.drop 5)) else none := zds foff26_5 c
@[go_sem] theorem zur : foff Try.prog 26 6 = some 6 := by kernel_rfl
@[go_sem] theorem fpl26_6 (c : List V) : zdl Try.prog 26 6 (.plc c) = if 6 ≤ c.length then some (.plc (c.drop 6)) else none := zds zur c
@[go_sem] theorem fpt26_6 (b o : Nat) : zdl Try.prog 26 6 (.v (.pointer (some ⟨b, o, none⟩))) = some (.v (.pointer (some ⟨b, o + 6, none⟩))) := zcv zur b o
@[go_sem] theorem zuq : foff Try.prog 26 7 = some 7 := by kernel_rfl
@[go_sem] theorem fpl26_7 (c : List V) : zdl Try.prog 26 7 (.plc c) = if 7 ≤ c.length then some (.plc (c.drop 7)) else none := zds zuq c
@[go_sem] theorem fpt26_7 (b o : Nat) : zdl Try.prog 26 7 (.v (.pointer (some ⟨b, o, none⟩))) = some (.v (.pointer (some ⟨b, o + 7, none⟩))) := zcv zuq b o
@[go_sem] theorem bld26 (ps : List (Nat × V)) : zjf Try.prog 26 ps = zeh (zgc [(0, 1), (1, 1), (2, 1), (3, 1), (4, 1), (5, 1), (6, 1), (7, 1)]) [V.v (.int .i64 (0)), V.v (.int .i64 (0)), V.v (.int .i64 (0)), V.v (.int .i64 (0)), V.v (.slice none 0 0), V.v (.bool false), V.v (.slice none 0 0), V.v (.slice none 0 0)] ps := by kernel_rfl
@[go_sem] theorem tel34 : tel Try.prog 34 = some (26, 8, 112) := by kernel_rfl
@[go_sem] theorem isl34 : zmt Try.prog 34 = true := by kernel_rfl
@[go_sem] theorem len34 (l : List (List V)) : zid Try.prog 34 (.lst l) = some (.v (.int .i64 l.length)) := zgz isl34 rfl
@[go_sem] theorem ixl34 (l : List (List V)) (k : IntKind) (m : Int) : zgv Try.prog 34 (.lst l) (.v (.int k m)) = if 0 ≤ m then idxO 8 l[m.toNat]? else none := zha tel34 rfl k m
@[go_sem] theorem bsl34 (len : Nat) (ps : List (Nat × V)) : bslV Try.prog 34 len ps = if len * 8 ≤ 16777216 ∧ len ≤ 16777216 then (zeh (fun i => some (i * 8, 8)) (zdo (.agg #[.int .i64 (0), .int .i64 (0), .int .i64 (0), .int .i64 (0), .slice none 0 0, .bool false, .slice none 0 0, .slice none 0 0]) len) ps).map fun c => (26, 8, c) else none := zjg tel34 tz26 rfl rfl len ps
@[go_sem] theorem tsz35 : tsz Try.prog 35 = some (false, 1) := by kernel_rfl
@[go_sem] theorem ldT35 (v : V) (r : List V) : ldTV Try.prog 35 (v :: r) = some v.copy := zdw tsz35 v r
@[go_sem] theorem ldD35 (l : List V) (k : Nat) : ldTV Try.prog 35 (l.drop k) = (l[k]?).map V.copy := ziv tsz35 l k
@[go_sem] theorem zwu : tel Try.prog 35 = some (22, 1, 24) := by kernel_rfl
@[go_sem] theorem isl35 : zmt Try.prog 35 = true := by kernel_rfl
@[go_sem] theorem len35 (l : List (List V)) : zid Try.prog 35 (.lst l) = some (.v (.int .i64 l.length)) := zgz isl35 rfl
@[go_sem] theorem len035 : zid Try.prog 35 (.v (.slice none 0 0)) = some (.v (.int .i64 0)) := zgz (l := []) isl35 rfl
@[go_sem] theorem les35 (a : Addr) (n c : Nat) : zid Try.prog 35 (.v (.slice (some a) n c)) = some (.v (.int .i64 n)) := zmz isl35 a n c
@[go_sem] theorem ixl35 (l : List (List V)) (k : IntKind) (m : Int) : zgv Try.prog 35 (.lst l) (.v (.int k m)) = if 0 ≤ m then idxO 1 l[m.toNat]? else none := zha zwu rfl k m
@[go_sem] theorem ixs35 (b off len cap : Nat) (k : IntKind) (m : Int) : zgv Try.prog 35 (.v (.slice (some ⟨b, off, none⟩) len cap)) (.v (.int k m)) = if 0 ≤ m then (if m < len then some (.v (.pointer (some ⟨b, off + m.toNat * 1, none⟩))) else none) else none := zie zwu b off len cap k m
@[go_sem] theorem sls35 (b off len cap : Nat) (lo hi : Option Nat) : slcV Try.prog 35 (.v (.slice (some ⟨b, off, none⟩) len cap)) lo hi = if lo.getD 0 ≤ hi.getD len ∧ hi.getD len ≤ cap ∧ lo.getD 0 < cap then some (.v (.slice (some ⟨b, off + lo.getD 0 * 1, none⟩) (hi.getD len - lo.getD 0) (cap - lo.getD 0))) else none := ztr zwu b off len cap lo hi
@[go_sem] theorem bsl35 (len : Nat) (ps : List (Nat × V)) : bslV Try.prog 35 len ps = if len * 1 ≤ 16777216 ∧ len ≤ 16777216 then (zeh (fun i => some (i * 1, 1)) (zdo (.slice none 0 0) len) ps).map fun c => (22, 1, c) else none := zjg zwu tz22 rfl rfl len ps
@[go_sem] theorem tsz42 : tsz Try.prog 42 = some (false, 1) := by kernel_rfl
@[go_sem] theorem ldT42 (v : V) (r : List V) : ldTV Try.prog 42 (v :: r) = some v.copy := zdw tsz42 v r
@[go_sem] theorem tsz46 : tsz Try.prog 46 = some (false, 1) := by kernel_rfl
@[go_sem] theorem ldT46 (v : V) (r : List V) : ldTV Try.prog 46 (v :: r) = some v.copy := zdw tsz46 v r
@[go_sem] theorem tel46 : tel Try.prog 46 = some (35, 1, 24) := by kernel_rfl
@[go_sem] theorem ixl46 (l : List (List V)) (k : IntKind) (m : Int) : zgv Try.prog 46 (.lst l) (.v (.int k m)) = if 0 ≤ m then idxO 1 l[m.toNat]? else none := zha tel46 rfl k m
@[go_sem] theorem ixs46 (b off len cap : Nat) (k : IntKind) (m : Int) : zgv Try.prog 46 (.v (.slice (some ⟨b, off, none⟩) len cap)) (.v (.int k m)) = if 0 ≤ m then (if m < len then some (.v (.pointer (some ⟨b, off + m.toNat * 1, none⟩))) else none) else none := zie tel46 b off len cap k m
@[go_sem] theorem bsl46 (len : Nat) (ps : List (Nat × V)) : bslV Try.prog 46 len ps = if len * 1 ≤ 16777216 ∧ len ≤ 16777216 then (zeh (fun i => some (i * 1, 1)) (zdo (.slice none 0 0) len) ps).map fun c => (35, 1, c) else none := zjg tel46 tz35 rfl rfl len ps
@[go_sem] theorem tsz49 : tsz Try.prog 49 = some (false, 1) := by kernel_rfl
@[go_sem] theorem ldT49 (v : V) (r : List V) : ldTV Try.prog 49 (v :: r) = some v.copy := zdw tsz49 v r
@[go_sem] theorem tsz78 : tsz Try.prog 78 = some (true, 3) := by kernel_rfl
@[go_sem] theorem ldT78 (c : List V) : ldTV Try.prog 78 c = if 3 ≤ c.length then some (.agg ((c.take 3).map V.peek)) else none := zna tsz78 c
@[go_sem] theorem zup : foff Try.prog 78 0 = some 0 := by kernel_rfl
@[go_sem] theorem fpl78_0 (c : List V) : zdl Try.prog 78 0 (.plc c) = if 0 ≤ c.length then some (.plc (c.drop 0)) else none := zds zup c
@[go_sem] theorem fpt78_0 (b o : Nat) : zdl Try.prog 78 0 (.v (.pointer (some ⟨b, o, none⟩))) = some (.v (.pointer (some ⟨b, o + 0, none⟩))) := zcv zup b o
@[go_sem] theorem zuo : foff Try.prog 78 1 = some 1 := by kernel_rfl
@[go_sem] theorem fpl78_1 (c : List V) : zdl Try.prog 78 1 (.plc c) = if 1 ≤ c.length then some (.plc (c.drop 1)) else none := zds zuo c
@[go_sem] theorem fpt78_1 (b o : Nat) : zdl Try.prog 78 1 (.v (.pointer (some ⟨b, o, none⟩))) = some (.v (.pointer (some ⟨b, o + 1, none⟩))) := zcv zuo b o
@[go_sem] theorem zun : foff Try.prog 78 2 = some 2 := by kernel_rfl
@[go_sem] theorem fpl78_2 (c : List V) : zdl Try.prog 78 2 (.plc c) = if 2 ≤ c.length then some (.plc (c.drop 2)) else none := zds zun c
@[go_sem] theorem fpt78_2 (b o : Nat) : zdl Try.prog 78 2 (.v (.pointer (some ⟨b, o, none⟩))) = some (.v (.pointer (some ⟨b, o + 2, none⟩))) := zcv zun b o
@[go_sem] theorem bld78 (ps : List (Nat × V)) : zjf Try.prog 78 ps = zeh (zgc [(0, 1), (1, 1), (2, 1)]) [V.v (.int .i64 (0)), V.v (.int .i64 (0)), V.v (.slice none 0 0)] ps := by kernel_rfl
@[go_sem] theorem tsz79 : tsz Try.prog 79 = some (false, 1) := by kernel_rfl
@[go_sem] theorem ldT79 (v : V) (r : List V) : ldTV Try.prog 79 (v :: r) = some v.copy := zdw tsz79 v r
@[go_sem] theorem ldD79 (l : List V) (k : Nat) : ldTV Try.prog 79 (l.drop k) = (l[k]?).map V.copy := ziv tsz79 l k
@[go_sem] theorem tel79 : tel Try.prog 79 = some (78, 3, 40) := by kernel_rfl
@[go_sem] theorem isl79 : zmt Try.prog 79 = true := by kernel_rfl
@[go_sem] theorem len79 (l : List (List V)) : zid Try.prog 79 (.lst l) = some (.v (.int .i64 l.length)) := zgz isl79 rfl
@[go_sem] theorem les79 (a : Addr) (n c : Nat) : zid Try.prog 79 (.v (.slice (some a) n c)) = some (.v (.int .i64 n)) := zmz isl79 a n c
@[go_sem] theorem ixl79 (l : List (List V)) (k : IntKind) (m : Int) : zgv Try.prog 79 (.lst l) (.v (.int k m)) = if 0 ≤ m then idxO 3 l[m.toNat]? else none := zha tel79 rfl k m
@[go_sem] theorem ixs79 (b off len cap : Nat) (k : IntKind) (m : Int) : zgv Try.prog 79 (.v (.slice (some ⟨b, off, none⟩) len cap)) (.v (.int k m)) = if 0 ≤ m then (if m < len then some (.v (.pointer (some ⟨b, off + m.toNat * 3, none⟩))) else none) else none := zie tel79 b off len cap k m
@[go_sem] theorem bsl79 (len : Nat) (ps : List (Nat × V)) : bslV Try.prog 79 len ps = if len * 3 ≤ 16777216 ∧ len ≤ 16777216 then (zeh (fun i => some (i * 3, 3)) (zdo (.agg #[.int .i64 (0), .int .i64 (0), .slice none 0 0]) len) ps).map fun c => (78, 3, c) else none := zjg tel79 tz78 rfl rfl len ps
@[go_sem] theorem tsz81 : tsz Try.prog 81 = some (true, 3) := by kernel_rfl
@[go_sem] theorem ldT81 (c : List V) : ldTV Try.prog 81 c = if 3 ≤ c.length then some (.agg ((c.take 3).map V.peek)) else none := zna tsz81 c
@[go_sem] theorem zum : foff Try.prog 81 0 = some 0 := by kernel_rfl
@[go_sem] theorem fpl81_0 (c : List V) : zdl Try.prog 81 0 (.plc c) = if 0 ≤ c.length then some (.plc (c.drop 0)) else none := zds zum c
@[go_sem] theorem fpt81_0 (b o : Nat) : zdl Try.prog 81 0 (.v (.pointer (some ⟨b, o, none⟩))) = some (.v (.pointer (some ⟨b, o + 0, none⟩))) := zcv zum b o
@[go_sem] theorem zul : foff Try.prog 81 1 = some 1 := by kernel_rfl
@[go_sem] theorem fpl81_1 (c : List V) : zdl Try.prog 81 1 (.plc c) = if 1 ≤ c.length then some (.plc (c.drop 1)) else none := zds zul c
@[go_sem] theorem fpt81_1 (b o : Nat) : zdl Try.prog 81 1 (.v (.pointer (some ⟨b, o, none⟩))) = some (.v (.pointer (some ⟨b, o + 1, none⟩))) := zcv zul b o
@[go_sem] theorem zuk : foff Try.prog 81 2 = some 2 := by kernel_rfl
@[go_sem] theorem fpl81_2 (c : List V) : zdl Try.prog 81 2 (.plc c) = if 2 ≤ c.length then some (.plc (c.drop 2)) else none := zds zuk c
@[go_sem] theorem fpt81_2 (b o : Nat) : zdl Try.prog 81 2 (.v (.pointer (some ⟨b, o, none⟩))) = some (.v (.pointer (some ⟨b, o + 2, none⟩))) := zcv zuk b o
@[go_sem] theorem bld81 (ps : List (Nat × V)) : zjf Try.prog 81 ps = zeh (zgc [(0, 1), (1, 1), (2, 1)]) [V.v (.slice none 0 0), V.v (.slice none 0 0), V.v (.slice none 0 0)] ps := by kernel_rfl
@[go_sem] theorem tsz88 : tsz Try.prog 88 = some (true, 4) := by kernel_rfl
@[go_sem] theorem ldT88 (c : List V) : ldTV Try.prog 88 c = if 4 ≤ c.length then some (.agg ((c.take 4).map V.peek)) else none := zna tsz88 c
@[go_sem] theorem foff88_0 : foff Try.prog 88 0 = some 0 := by kernel_rfl
@[go_sem] theorem fpl88_0 (c : List V) : zdl Try.prog 88 0 (.plc c) = if 0 ≤ c.length then some (.plc (c.drop 0)) else none := zds foff88_0 c
@[go_sem] theorem zuj : foff Try.prog 88 1 = some 1 := by kernel_rfl
@[go_sem] theorem fpl88_1 (c : List V) : zdl Try.prog 88 1 (.plc c) = if 1 ≤ c.length then some (.plc (c.drop 1)) else none := zds zuj c
@[go_sem] theorem fpt88_1 (b o : Nat) : zdl Try.prog 88 1 (.v (.pointer (some ⟨b, o, none⟩))) = some (.v (.pointer (some ⟨b, o + 1, none⟩))) := zcv zuj b o
@[go_sem] theorem zui : foff Try.prog 88 2 = some 2 := by kernel_rfl
@[go_sem] theorem fpl88_2 (c : List V) : zdl Try.prog 88 2 (.plc c) = if 2 ≤ c.length then some (.plc (c.drop 2)) else none := zds zui c
@[go_sem] theorem fpt88_2 (b o : Nat) : zdl Try.prog 88 2 (.v (.pointer (some ⟨b, o, none⟩))) = some (.v (.pointer (some ⟨b, o + 2, none⟩))) := zcv zui b o
@[go_sem] theorem zuh : foff Try.prog 88 3 = some 3 := by kernel_rfl
@[go_sem] theorem fpl88_3 (c : List V) : zdl Try.prog 88 3 (.plc c) = if 3 ≤ c.length then some (.plc (c.drop 3)) else none := zds zuh c
@[go_sem] theorem fpt88_3 (b o : Nat) : zdl Try.prog 88 3 (.v (.pointer (some ⟨b, o, none⟩))) = some (.v (.pointer (some ⟨b, o + 3, none⟩))) := zcv zuh b o
@[go_sem] theorem bld88 (ps : List (Nat × V)) : zjf Try.prog 88 ps = zeh (zgc [(0, 1), (1, 1), (2, 1), (3, 1)]) [V.v (.int .i64 (0)), V.v (.int .i64 (0)), V.v (.int .i64 (0)), V.v (.int .i64 (0))] ps := by kernel_rfl
@[go_sem] theorem tsz92 : tsz Try.prog 92 = some (false, 1) := by kernel_rfl
@[go_sem] theorem ldT92 (v : V) (r : List V) : ldTV Try.prog 92 (v :: r) = some v.copy := zdw tsz92 v r
@[go_sem] theorem tsz95 : tsz Try.prog 95 = some (false, 1) := by kernel_rfl
@[go_sem] theorem ldT95 (v : V) (r : List V) : ldTV Try.prog 95 (v :: r) = some v.copy := zdw tsz95 v r
@[go_sem] theorem foff97_0 : foff Try.prog 97 0 = some 0 := by kernel_rfl
@[go_sem] theorem fpt97_0 (b o : Nat) : zdl Try.prog 97 0 (.v (.pointer (some ⟨b, o, none⟩))) = some (.v (.pointer (some ⟨b, o + 0, none⟩))) := zcv foff97_0 b o
@[go_sem] theorem foff97_1 : foff Try.prog 97 1 = some 1 := by kernel_rfl
@[go_sem] theorem fpt97_1 (b o : Nat) : zdl Try.prog 97 1 (.v (.pointer (some ⟨b, o, none⟩))) = some (.v (.pointer (some ⟨b, o + 1, none⟩))) := zcv foff97_1 b o
@[go_sem] theorem foff97_2 : foff Try.prog 97 2 = some 2 := by kernel_rfl
@[go_sem] theorem fpt97_2 (b o : Nat) : zdl Try.prog 97 2 (.v (.pointer (some ⟨b, o, none⟩))) = some (.v (.pointer (some ⟨b, o + 2, none⟩))) := zcv foff97_2 b o
@[go_sem] theorem foff97_3 : foff Try.prog 97 3 = some 3 := by kernel_rfl
@[go_sem] theorem fpt97_3 (b o : Nat) : zdl Try.prog 97 3 (.v (.pointer (some ⟨b, o, none⟩))) = some (.v (.pointer (some ⟨b, o + 3, none⟩))) := zcv foff97_3 b o
@[go_sem] theorem foff97_4 : foff Try.prog 97 4 = some 4 := by kernel_rfl
@[go_sem] theorem fpt97_4 (b o : Nat) : zdl Try.prog 97 4 (.v (.pointer (some ⟨b, o, none⟩))) = some (.v (.pointer (some ⟨b, o + 4, none⟩))) := zcv foff97_4 b o
@[go_sem] theorem foff97_5 : foff Try.prog 97 5 = some 5 := by kernel_rfl
@[go_sem] theorem fpt97_5 (b o : Nat) : zdl Try.prog 97 5 (.v (.pointer (some ⟨b, o, none⟩))) = some (.v (.pointer (some ⟨b, o + 5, none⟩))) := zcv foff97_5 b o
@[go_sem] theorem bld97 (ps : List (Nat × V)) : zjf Try.prog 97 ps = zeh (zgc [(0, 1), (1, 1), (2, 1), (3, 1), (4, 1), (5, 1)]) [V.v (.int .i64 (0)), V.v (.int .i64 (0)), V.v (.int .i64 (0)), V.v (.slice none 0 0), V.v (.slice none 0 0), V.v (.map none)] ps := by kernel_rfl
@[go_sem] theorem tsz100 : tsz Try.prog 100 = some (false, 1) := by kernel_rfl
@[go_sem] theorem ldT100 (v : V) (r : List V) : ldTV Try.prog 100 (v :: r) = some v.copy := zdw tsz100 v r
@[go_sem] theorem zxa : tel Try.prog 100 = some (134, 1, 24) := by kernel_rfl
@[go_sem] theorem ixl100 (l : List (List V)) (k : IntKind) (m : Int) : zgv Try.prog 100 (.lst l) (.v (.int k m)) = if 0 ≤ m then idxO 1 l[m.toNat]? else none := zha zxa rfl k m
@[go_sem] theorem bsl100 (len : Nat) (ps : List (Nat × V)) : bslV Try.prog 100 len ps = if len * 1 ≤ 16777216 ∧ len ≤ 16777216 then (zeh (fun i => some (i * 1, 1)) (zdo (.slice none 0 0) len) ps).map fun c => (134, 1, c) else none := zjg zxa tz134 rfl rfl len ps
@[go_sem] theorem foff102_0 : foff Try.prog 102 0 = some 0 := by kernel_rfl
@[go_sem] theorem fpt102_0 (b o : Nat) : zdl Try.prog 102 0 (.v (.pointer (some ⟨b, o, none⟩))) = some (.v (.pointer (some ⟨b, o + 0, none⟩))) := zcv foff102_0 b o
@[go_sem] theorem foff102_1 : foff Try.prog 102 1 = some 8 := by kernel_rfl
@[go_sem] theorem fpt102_1 (b o : Nat) : zdl Try.prog 102 1 (.v (.pointer (some ⟨b, o, none⟩))) = some (.v (.pointer (some ⟨b, o + 8, none⟩))) := zcv foff102_1 b o
@[go_sem] theorem foff102_2 : foff Try.prog 102 2 = some 9 := by kernel_rfl
@[go_sem] theorem fpt102_2 (b o : Nat) : zdl Try.prog 102 2 (.v (.pointer (some ⟨b, o, none⟩))) = some (.v (.pointer (some ⟨b, o + 9, none⟩))) := zcv foff102_2 b o
@[go_sem] theorem foff102_3 : foff Try.prog 102 3 = some 10 := by kernel_rfl
@[go_sem] theorem fpt102_3 (b o : Nat) : zdl Try.prog 102 3 (.v (.pointer (some ⟨b, o, none⟩))) = some (.v (.pointer (some ⟨b, o + 10, none⟩))) := zcv foff102_3 b o
@[go_sem] theorem foff102_4 : foff Try.prog 102 4 = some 11 := by kernel_rfl
@[go_sem] theorem fpt102_4 (b o : Nat) : zdl Try.prog 102 4 (.v (.pointer (some ⟨b, o, none⟩))) = some (.v (.pointer (some ⟨b, o + 11, none⟩))) := zcv foff102_4 b o
@[go_sem] theorem foff102_5 : foff Try.prog 102 5 = some 12 := by kernel_rfl
@[go_sem] theorem fpt102_5 (b o : Nat) : zdl Try.prog 102 5 (.v (.pointer (some ⟨b, o, none⟩))) = some (.v (.pointer (some ⟨b, o + 12, none⟩))) := zcv foff102_5 b o
@[go_sem] theorem bld102 (ps : List (Nat × V)) : zjf Try.prog 102 ps = zeh (zgc [(0, 8), (8, 1), (9, 1), (10, 1), (11, 1), (12, 1)]) [V.v (.int .i64 (0)), V.v (.int .i64 (0)), V.v (.int .i64 (0)), V.v (.int .i64 (0)), V.v (.slice none 0 0), V.v (.bool false), V.v (.slice none 0 0), V.v (.slice none 0 0), V.v (.slice none 0 0), V.v (.slice none 0 0), V.v (.slice none 0 0), V.v (.int .i64 (0)), V.v (.int .i64 (0))] ps := by kernel_rfl
@[go_sem] theorem tsz106 : tsz Try.prog 106 = some (false, 1) := by kernel_rfl
@[go_sem] theorem ldT106 (v : V) (r : List V) : ldTV Try.prog 106 (v :: r) = some v.copy := zdw tsz106 v r
@[go_sem] theorem tint106 : tint Try.prog 106 = some .u64 := by kernel_rfl
@[go_sem] theorem usm106 : (Try.prog.underlying 106).isSome = true := by kernel_rfl
@[go_sem] theorem foff108_0 : foff Try.prog 108 0 = some 0 := by kernel_rfl
@[go_sem] theorem fpt108_0 (b o : Nat) : zdl Try.prog 108 0 (.v (.pointer (some ⟨b, o, none⟩))) = some (.v (.pointer (some ⟨b, o + 0, none⟩))) := zcv foff108_0 b o
@[go_sem] theorem bld108 (ps : List (Nat × V)) : zjf Try.prog 108 ps = zeh (zgc [(0, 1)]) [V.v (.int .u64 (0))] ps := by kernel_rfl
@[go_sem] theorem bld114 (ps : List (Nat × V)) : zjf Try.prog 114 ps = zeh (fun i => some (i * 1, 1)) [V.v (.int .i64 (0)), V.v (.int .i64 (0))] ps := by kernel_rfl
@[go_sem] theorem tsz134 : tsz Try.prog 134 = some (false, 1) := by kernel_rfl
@[go_sem] theorem ldT134 (v : V) (r : List V) : ldTV Try.prog 134 (v :: r) = some v.copy := zdw tsz134 v r
@[go_sem] theorem tel134 : tel Try.prog 134 = some (4, 1, 1) := by kernel_rfl
@[go_sem] theorem ixs134 (b off len cap : Nat) (k : IntKind) (m : Int) : zgv Try.prog 134 (.v (.slice (some ⟨b, off, none⟩) len cap)) (.v (.int k m)) = if 0 ≤ m then (if m < len then some (.v (.pointer (some ⟨b, off + m.toNat * 1, none⟩))) else none) else none := zie tel134 b off len cap k m
@[go_sem] theorem cvt3_106 (k : IntKind) (n : Int) : ztg Try.prog 3 106 (.v (.int k n)) = some (.v (.int .u64 (IntKind.wrap .u64 n))) := zwk usm3 tint106 k n
@[go_sem] theorem cvt106_3 (k : IntKind) (n : Int) : ztg Try.prog 106 3 (.v (.int k n)) = some (.v (.int .i64 (IntKind.wrap .i64 n))) := zwk usm106 tint3 k n
theorem zct : Try.prog.follows .mixedOrders = true := by kernel_rfl
theorem zve : Maps.Keyed Try.prog 114 := .of_law (WideMaps.ArrKey.law (n := 2) (e := 3) ⟨by kernel_rfl, by kernel_rfl, by kernel_rfl, by kernel_rfl⟩)
instance ok3 : FnOk Try.prog 3 Try.f3 := ⟨Try.func3, by kernel_rfl, by kernel_rfl⟩
instance ok4 : FnOk Try.prog 4 Try.f4 := ⟨Try.func4, by kernel_rfl, by kernel_rfl⟩
instance ok9 : FnOk Try.prog 9 Try.f9 := ⟨Try.func9, by kernel_rfl, by kernel_rfl⟩
instance ok12 : FnOk Try.prog 12 Try.f12 := ⟨Try.func12, by kernel_rfl, by kernel_rfl⟩
instance ok13 : FnOk Try.prog 13 Try.f13 := ⟨Try.func13, by kernel_rfl, by kernel_rfl⟩
instance ok14 : FnOk Try.prog 14 Try.f14 := ⟨Try.func14, by kernel_rfl, by kernel_rfl⟩
instance ok15 : FnOk Try.prog 15 Try.f15 := ⟨Try.func15, by kernel_rfl, by kernel_rfl⟩
instance ok16 : FnOk Try.prog 16 Try.f16 := ⟨Try.func16, by kernel_rfl, by kernel_rfl⟩
instance ok17 : FnOk Try.prog 17 Try.f17 := ⟨Try.func17, by kernel_rfl, by kernel_rfl⟩
instance ok18 : FnOk Try.prog 18 Try.f18 := ⟨Try.func18, by kernel_rfl, by kernel_rfl⟩
instance ok19 : FnOk Try.prog 19 Try.f19 := ⟨Try.func19, by kernel_rfl, by kernel_rfl⟩
instance ok20 : FnOk Try.prog 20 Try.f20 := ⟨Try.func20, by kernel_rfl, by kernel_rfl⟩
instance ok21 : FnOk Try.prog 21 Try.f21 := ⟨Try.func21, by kernel_rfl, by kernel_rfl⟩
instance ok22 : FnOk Try.prog 22 Try.f22 := ⟨Try.func22, by kernel_rfl, by kernel_rfl⟩
instance ok23 : FnOk Try.prog 23 Try.f23 := ⟨Try.func23, by kernel_rfl, by kernel_rfl⟩
instance ok24 : FnOk Try.prog 24 Try.f24 := ⟨Try.func24, by kernel_rfl, by kernel_rfl⟩
instance ok25 : FnOk Try.prog 25 Try.f25 := ⟨Try.func25, by kernel_rfl, by kernel_rfl⟩
instance ok26 : FnOk Try.prog 26 Try.f26 := ⟨Try.func26, by kernel_rfl, by kernel_rfl⟩
instance ok27 : FnOk Try.prog 27 Try.f27 := ⟨Try.func27, by kernel_rfl, by kernel_rfl⟩
instance ok28 : FnOk Try.prog 28 Try.f28 := ⟨Try.func28, by kernel_rfl, by kernel_rfl⟩
instance ok29 : FnOk Try.prog 29 Try.f29 := ⟨Try.func29, by kernel_rfl, by kernel_rfl⟩
instance ok30 : FnOk Try.prog 30 Try.f30 := ⟨Try.func30, by kernel_rfl, by kernel_rfl⟩
instance ok31 : FnOk Try.prog 31 Try.f31 := ⟨Try.func31, by kernel_rfl, by kernel_rfl⟩
instance ok32 : FnOk Try.prog 32 Try.f32 := ⟨Try.func32, by kernel_rfl, by kernel_rfl⟩
instance ok33 : FnOk Try.prog 33 Try.f33 := ⟨Try.func33, by kernel_rfl, by kernel_rfl⟩
instance ok35 : FnOk Try.prog 35 Try.f35 := ⟨Try.func35, by kernel_rfl, by kernel_rfl⟩
instance ok36 : FnOk Try.prog 36 Try.f36 := ⟨Try.func36, by kernel_rfl, by kernel_rfl⟩
instance ok37 : FnOk Try.prog 37 Try.f37 := ⟨Try.func37, by kernel_rfl, by kernel_rfl⟩
instance ok38 : FnOk Try.prog 38 Try.f38 := ⟨Try.func38, by kernel_rfl, by kernel_rfl⟩
instance ok39 : FnOk Try.prog 39 Try.f39 := ⟨Try.func39, by kernel_rfl, by kernel_rfl⟩
instance ok44 : FnOk Try.prog 44 Try.f44 := ⟨Try.func44, by kernel_rfl, by kernel_rfl⟩
instance ok46 : FnOk Try.prog 46 Try.f46 := ⟨Try.func46, by kernel_rfl, by kernel_rfl⟩
instance ok47 : FnOk Try.prog 47 Try.f47 := ⟨Try.func47, by kernel_rfl, by kernel_rfl⟩
instance ok48 : FnOk Try.prog 48 Try.f48 := ⟨Try.func48, by kernel_rfl, by kernel_rfl⟩
instance ok49 : FnOk Try.prog 49 Try.f49 := ⟨Try.func49, by kernel_rfl, by kernel_rfl⟩
instance ok50 : FnOk Try.prog 50 Try.f50 := ⟨Try.func50, by kernel_rfl, by kernel_rfl⟩
instance ok51 : FnOk Try.prog 51 Try.f51 := ⟨Try.func51, by kernel_rfl, by kernel_rfl⟩
instance ok52 : FnOk Try.prog 52 Try.f52 := ⟨Try.func52, by kernel_rfl, by kernel_rfl⟩
instance ok53 : FnOk Try.prog 53 Try.f53 := ⟨Try.func53, by kernel_rfl, by kernel_rfl⟩
instance ok54 : FnOk Try.prog 54 Try.f54 := ⟨Try.func54, by kernel_rfl, by kernel_rfl⟩
instance ok55 : FnOk Try.prog 55 Try.f55 := ⟨Try.func55, by kernel_rfl, by kernel_rfl⟩
instance ok56 : FnOk Try.prog 56 Try.f56 := ⟨Try.func56, by kernel_rfl, by kernel_rfl⟩
instance ok57 : FnOk Try.prog 57 Try.f57 := ⟨Try.func57, by kernel_rfl, by kernel_rfl⟩
instance ok58 : FnOk Try.prog 58 Try.f58 := ⟨Try.func58, by kernel_rfl, by kernel_rfl⟩
instance ok59 : FnOk Try.prog 59 Try.f59 := ⟨Try.func59, by kernel_rfl, by kernel_rfl⟩
instance ok60 : FnOk Try.prog 60 Try.f60 := ⟨Try.func60, by kernel_rfl, by kernel_rfl⟩
instance ok61 : FnOk Try.prog 61 Try.f61 := ⟨Try.func61, by kernel_rfl, by kernel_rfl⟩
instance ok62 : FnOk Try.prog 62 Try.f62 := ⟨Try.func62, by kernel_rfl, by kernel_rfl⟩
instance ok63 : FnOk Try.prog 63 Try.f63 := ⟨Try.func63, by kernel_rfl, by kernel_rfl⟩
instance ok64 : FnOk Try.prog 64 Try.f64 := ⟨Try.func64, by kernel_rfl, by kernel_rfl⟩
instance ok65 : FnOk Try.prog 65 Try.f65 := ⟨Try.func65, by kernel_rfl, by kernel_rfl⟩
instance ok66 : FnOk Try.prog 66 Try.f66 := ⟨Try.func66, by kernel_rfl, by kernel_rfl⟩
instance ok67 : FnOk Try.prog 67 Try.f67 := ⟨Try.func67, by kernel_rfl, by kernel_rfl⟩
instance ok68 : FnOk Try.prog 68 Try.f68 := ⟨Try.func68, by kernel_rfl, by kernel_rfl⟩
instance ok69 : FnOk Try.prog 69 Try.f69 := ⟨Try.func69, by kernel_rfl, by kernel_rfl⟩
instance ok70 : FnOk Try.prog 70 Try.f70 := ⟨Try.func70, by kernel_rfl, by kernel_rfl⟩
instance ok71 : FnOk Try.prog 71 Try.f71 := ⟨Try.func71, by kernel_rfl, by kernel_rfl⟩
instance ok72 : FnOk Try.prog 72 Try.f72 := ⟨Try.func72, by kernel_rfl, by kernel_rfl⟩
instance ok73 : FnOk Try.prog 73 Try.f73 := ⟨Try.func73, by kernel_rfl, by kernel_rfl⟩
instance ok74 : FnOk Try.prog 74 Try.f74 := ⟨Try.func74, by kernel_rfl, by kernel_rfl⟩
instance ok75 : FnOk Try.prog 75 Try.f75 := ⟨Try.func75, by kernel_rfl, by kernel_rfl⟩
instance ok76 : FnOk Try.prog 76 Try.f76 := ⟨Try.func76, by kernel_rfl, by kernel_rfl⟩
instance ok77 : FnOk Try.prog 77 Try.f77 := ⟨Try.func77, by kernel_rfl, by kernel_rfl⟩
instance ok82 : FnOk Try.prog 82 Try.f82 := ⟨Try.func82, by kernel_rfl, by kernel_rfl⟩
instance ok83 : FnOk Try.prog 83 Try.f83 := ⟨Try.func83, by kernel_rfl, by kernel_rfl⟩
instance ok84 : FnOk Try.prog 84 Try.f84 := ⟨Try.func84, by kernel_rfl, by kernel_rfl⟩
instance ok85 : FnOk Try.prog 85 Try.f85 := ⟨Try.func85, by kernel_rfl, by kernel_rfl⟩
instance ok86 : FnOk Try.prog 86 Try.f86 := ⟨Try.func86, by kernel_rfl, by kernel_rfl⟩
instance ok87 : FnOk Try.prog 87 Try.f87 := ⟨Try.func87, by kernel_rfl, by kernel_rfl⟩
instance ok88 : FnOk Try.prog 88 Try.f88 := ⟨Try.func88, by kernel_rfl, by kernel_rfl⟩
instance ok89 : FnOk Try.prog 89 Try.f89 := ⟨Try.func89, by kernel_rfl, by kernel_rfl⟩
instance ok90 : FnOk Try.prog 90 Try.f90 := ⟨Try.func90, by kernel_rfl, by kernel_rfl⟩
instance ok91 : FnOk Try.prog 91 Try.f91 := ⟨Try.func91, by kernel_rfl, by kernel_rfl⟩
instance ok92 : FnOk Try.prog 92 Try.f92 := ⟨Try.func92, by kernel_rfl, by kernel_rfl⟩
instance ok93 : FnOk Try.prog 93 Try.f93 := ⟨Try.func93, by kernel_rfl, by kernel_rfl⟩
instance ok94 : FnOk Try.prog 94 Try.f94 := ⟨Try.func94, by kernel_rfl, by kernel_rfl⟩
instance ok95 : FnOk Try.prog 95 Try.f95 := ⟨Try.func95, by kernel_rfl, by kernel_rfl⟩
instance ok96 : FnOk Try.prog 96 Try.f96 := ⟨Try.func96, by kernel_rfl, by kernel_rfl⟩
instance ok97 : FnOk Try.prog 97 Try.f97 := ⟨Try.func97, by kernel_rfl, by kernel_rfl⟩
instance ok98 : FnOk Try.prog 98 Try.f98 := ⟨Try.func98, by kernel_rfl, by kernel_rfl⟩
instance ok99 : FnOk Try.prog 99 Try.f99 := ⟨Try.func99, by kernel_rfl, by kernel_rfl⟩
instance ok100 : FnOk Try.prog 100 Try.f100 := ⟨Try.func100, by kernel_rfl, by kernel_rfl⟩
instance ok101 : FnOk Try.prog 101 Try.f101 := ⟨Try.func101, by kernel_rfl, by kernel_rfl⟩
instance ok102 : FnOk Try.prog 102 Try.f102 := ⟨Try.func102, by kernel_rfl, by kernel_rfl⟩
instance ok103 : FnOk Try.prog 103 Try.f103 := ⟨Try.func103, by kernel_rfl, by kernel_rfl⟩
instance ok104 : FnOk Try.prog 104 Try.f104 := ⟨Try.func104, by kernel_rfl, by kernel_rfl⟩
instance ok105 : FnOk Try.prog 105 Try.f105 := ⟨Try.func105, by kernel_rfl, by kernel_rfl⟩
instance ok106 : FnOk Try.prog 106 Try.f106 := ⟨Try.func106, by kernel_rfl, by kernel_rfl⟩
instance ok108 : FnOk Try.prog 108 Try.f108 := ⟨Try.func108, by kernel_rfl, by kernel_rfl⟩
instance ok113 : FnOk Try.prog 113 Try.f113 := ⟨Try.func113, by kernel_rfl, by kernel_rfl⟩
instance ok114 : FnOk Try.prog 114 Try.f114 := ⟨Try.func114, by kernel_rfl, by kernel_rfl⟩
instance ok115 : FnOk Try.prog 115 Try.f115 := ⟨Try.func115, by kernel_rfl, by kernel_rfl⟩
instance ok116 : FnOk Try.prog 116 Try.f116 := ⟨Try.func116, by kernel_rfl, by kernel_rfl⟩
instance ok117 : FnOk Try.prog 117 Try.f117 := ⟨Try.func117, by kernel_rfl, by kernel_rfl⟩
instance ok118 : FnOk Try.prog 118 Try.f118 := ⟨Try.func118, by kernel_rfl, by kernel_rfl⟩
instance ok119 : FnOk Try.prog 119 Try.f119 := ⟨Try.func119, by kernel_rfl, by kernel_rfl⟩
instance ok120 : FnOk Try.prog 120 Try.f120 := ⟨Try.func120, by kernel_rfl, by kernel_rfl⟩
instance ok121 : FnOk Try.prog 121 Try.f121 := ⟨Try.func121, by kernel_rfl, by kernel_rfl⟩
instance ok122 : FnOk Try.prog 122 Try.f122 := ⟨Try.func122, by kernel_rfl, by kernel_rfl⟩
instance ok123 : FnOk Try.prog 123 Try.f123 := ⟨Try.func123, by kernel_rfl, by kernel_rfl⟩
instance ok135 : FnOk Try.prog 135 Try.f135 := ⟨Try.func135, by kernel_rfl, by kernel_rfl⟩
instance ok136 : FnOk Try.prog 136 Try.f136 := ⟨Try.func136, by kernel_rfl, by kernel_rfl⟩
instance ok137 : FnOk Try.prog 137 Try.f137 := ⟨Try.func137, by kernel_rfl, by kernel_rfl⟩
instance ok138 : FnOk Try.prog 138 Try.f138 := ⟨Try.func138, by kernel_rfl, by kernel_rfl⟩
instance ok144 : FnOk Try.prog 144 Try.f144 := ⟨Try.func144, by kernel_rfl, by kernel_rfl⟩
end Go.XL
namespace Go.XL
section
variable {P : Program} {n : Nat} {r : Rr} {Q : VEnv → Sto → Prop} {k : List Fr} {E0 E : VEnv} {S S0 S1 : Sto} {Mp : List MpE} {ops l : List Oper} {t : Nat} {dst : Option Tmp} {op : Op} {ty : TypeId} {pos : String} {af : Array Edge}
theorem CG.np {x y : Code} {p : Prop} {_ : Decidable (¬ p)} (q1 : ¬ p → DS P n r Q (.code x :: k) E S) (q2 : p → DS P n r Q (.code y :: k) E S) : CG P n r Q x y k E S (.v (.bool (decide (¬ p)))) :=
  ⟨⟨_, rfl⟩, fun h => q1 (by simpa using h), fun h => q2 (by simpa using h)⟩
theorem GG.npT {p : Prop} {_ : Decidable (¬ p)} (q1 : ¬ p → DS P n r Q (.ops ops (⟨some t, op, ty, pos, af, none⟩ :: l) :: k) E S) (q2 : p → DS P n r Q (.ops ops l :: k) ((t, .v undef) :: E) S) : GG P n r Q true t op ty pos af ops l k E S (.v (.bool (decide (¬ p)))) :=
  ⟨.inl ⟨_, rfl⟩, fun h => q1 (by simpa using h), fun h => q2 (by simpa using h)⟩
theorem GG.npF {p : Prop} {_ : Decidable (¬ p)} (q1 : p → DS P n r Q (.ops ops (⟨some t, op, ty, pos, af, none⟩ :: l) :: k) E S) (q2 : ¬ p → DS P n r Q (.ops ops l :: k) ((t, .v undef) :: E) S) : GG P n r Q false t op ty pos af ops l k E S (.v (.bool (decide (¬ p)))) :=
  ⟨.inl ⟨_, rfl⟩, fun h => q1 (by simpa using h), fun h => q2 (by simpa using h)⟩
def DGG (P : Program) (n : Nat) (r : Rr) (Q : VEnv → Sto → Prop) (b : Bool) (t : Nat) (op : Op) (ty : TypeId) (pos : String) (af : Array Edge) (ops : List Oper) (S0 : Sto) (Mp : List MpE) (l : List Oper) (k : List Fr) (E0 E : VEnv) (S1 : Sto) (v : V) : Prop :=
  ((∃ u, v = .v (.bool u)) ∨ v = .v undef) ∧ (v = .v (.bool b) → DD P n r Q ops S0 Mp (⟨some t, op, ty, pos, af, none⟩ :: l) k E0 E S1) ∧ (v ≠ .v (.bool b) → DD P n r Q ops S0 Mp l k ((t, .v undef) :: E0) ((t, .v undef) :: E) S1)
theorem DD.gE {j : Nat} {b : Bool} {v : V} (hd : decide (t < n) = true) (e : zfh E ops n j = some v) (q : DGG P n r Q b t op ty pos af ops S0 Mp l k E0 E S1 v) :
    DD P n r Q ops S0 Mp (⟨some t, op, ty, pos, af, some (j, b)⟩ :: l) k E0 E S1 := by
  obtain ⟨⟨u, rfl⟩ | rfl, q1, q2⟩ := q
  · by_cases h : u = b
    · subst h; exact DD.gTS e rfl (q1 rfl)
    · refine DD.gFS e (by cases u <;> cases b <;> simp_all) hd (q2 (by simpa using h))
  · exact DD.gUS e rfl hd (q2 (by simp [undef]))
theorem DGG.run {b : Bool} (q : DD P n r Q ops S0 Mp (⟨some t, op, ty, pos, af, none⟩ :: l) k E0 E S1) : DGG P n r Q b t op ty pos af ops S0 Mp l k E0 E S1 (.v (.bool b)) := ⟨.inl ⟨_, rfl⟩, fun _ => q, fun h => (h rfl).elim⟩
theorem DGG.sF (q : DD P n r Q ops S0 Mp l k ((t, .v undef) :: E0) ((t, .v undef) :: E) S1) : DGG P n r Q true t op ty pos af ops S0 Mp l k E0 E S1 (.v (.bool false)) := ⟨.inl ⟨_, rfl⟩, (fun h => by cases h), fun _ => q⟩
theorem DGG.sT (q : DD P n r Q ops S0 Mp l k ((t, .v undef) :: E0) ((t, .v undef) :: E) S1) : DGG P n r Q false t op ty pos af ops S0 Mp l k E0 E S1 (.v (.bool true)) := ⟨.inl ⟨_, rfl⟩, (fun h => by cases h), fun _ => q⟩
theorem DGG.sU {b : Bool} (q : DD P n r Q ops S0 Mp l k ((t, .v undef) :: E0) ((t, .v undef) :: E) S1) : DGG P n r Q b t op ty pos af ops S0 Mp l k E0 E S1 (.v undef) := ⟨.inr rfl, fun h => by simp [undef] at h, fun _ => q⟩
theorem DGG.pT {p : Prop} {_ : Decidable p} (q1 : p → DD P n r Q ops S0 Mp (⟨some t, op, ty, pos, af, none⟩ :: l) k E0 E S1) (q2 : ¬ p → DD P n r Q ops S0 Mp l k ((t, .v undef) :: E0) ((t, .v undef) :: E) S1) : DGG P n r Q true t op ty pos af ops S0 Mp l k E0 E S1 (.v (.bool (decide p))) :=
  ⟨.inl ⟨_, rfl⟩, fun h => q1 (by simpa using h), fun h => q2 (by simpa using h)⟩
theorem DGG.pF {p : Prop} {_ : Decidable p} (q1 : ¬ p → DD P n r Q ops S0 Mp (⟨some t, op, ty, pos, af, none⟩ :: l) k E0 E S1) (q2 : p → DD P n r Q ops S0 Mp l k ((t, .v undef) :: E0) ((t, .v undef) :: E) S1) : DGG P n r Q false t op ty pos af ops S0 Mp l k E0 E S1 (.v (.bool (decide p))) :=
  ⟨.inl ⟨_, rfl⟩, fun h => q1 (by simpa using h), fun h => q2 (by simpa using h)⟩
theorem DGG.npT {p : Prop} {_ : Decidable (¬ p)} (q1 : ¬ p → DD P n r Q ops S0 Mp (⟨some t, op, ty, pos, af, none⟩ :: l) k E0 E S1) (q2 : p → DD P n r Q ops S0 Mp l k ((t, .v undef) :: E0) ((t, .v undef) :: E) S1) : DGG P n r Q true t op ty pos af ops S0 Mp l k E0 E S1 (.v (.bool (decide (¬ p)))) :=
  ⟨.inl ⟨_, rfl⟩, fun h => q1 (by simpa using h), fun h => q2 (by simpa using h)⟩
theorem DGG.npF {p : Prop} {_ : Decidable (¬ p)} (q1 : p → DD P n r Q ops S0 Mp (⟨some t, op, ty, pos, af, none⟩ :: l) k E0 E S1) (q2 : ¬ p → DD P n r Q ops S0 Mp l k ((t, .v undef) :: E0) ((t, .v undef) :: E) S1) : DGG P n r Q false t op ty pos af ops S0 Mp l k E0 E S1 (.v (.bool (decide (¬ p)))) :=
  ⟨.inl ⟨_, rfl⟩, fun h => q1 (by simpa using h), fun h => q2 (by simpa using h)⟩
theorem DGG.bT {u : Bool} (q1 : u = true → DD P n r Q ops S0 Mp (⟨some t, op, ty, pos, af, none⟩ :: l) k E0 E S1) (q2 : u = false → DD P n r Q ops S0 Mp l k ((t, .v undef) :: E0) ((t, .v undef) :: E) S1) : DGG P n r Q true t op ty pos af ops S0 Mp l k E0 E S1 (.v (.bool (u))) :=
  ⟨.inl ⟨_, rfl⟩, fun h => q1 (by simpa using h), fun h => q2 (by simpa using h)⟩
theorem DGG.bF {u : Bool} (q1 : u = false → DD P n r Q ops S0 Mp (⟨some t, op, ty, pos, af, none⟩ :: l) k E0 E S1) (q2 : u = true → DD P n r Q ops S0 Mp l k ((t, .v undef) :: E0) ((t, .v undef) :: E) S1) : DGG P n r Q false t op ty pos af ops S0 Mp l k E0 E S1 (.v (.bool (u))) :=
  ⟨.inl ⟨_, rfl⟩, fun h => q1 (by simpa using h), fun h => q2 (by simpa using h)⟩
def zma (l : List Oper) : List Nat → List Oper
  | [] => []
  | i :: r => match l[i]? with
    | some o => o :: zma l r
    | none => zma l r
def pickO (r : List Oper) : Option Oper → List Oper
  | some o => o :: r
  | none => r
theorem zlb (l : List Oper) : ∀ ord : List Nat, ord.filterMap (l.toArray[·]?) = zma l ord
  | [] => rfl
  | i :: r => by
    simp only [List.filterMap_cons, List.getElem?_toArray, zma]
    rw [← zlb l r]
    cases l[i]? <;> simp
theorem zbc (l : List Oper) : zma l [] = [] := rfl
theorem zay (l : List Oper) (i : Nat) (r : List Nat) : zma l (i :: r) = pickO (zma l r) l[i]? := by
  simp only [zma]; cases l[i]? <;> rfl
theorem zax (r : List Oper) (o : Oper) : pickO r (some o) = o :: r := rfl
theorem DS.drawL {id : Nat} {os l1 l2 : List Oper} (ord : List Nat) (m : Nat) (hok : zlp os.toArray ord m = true) (hm : P.follows .mixedOrders = true) (h1 : zma os ord = l1) (h2 : os.drop m = l2)
    (q : DD P n r Q os S [] l1 (.ops os l2 :: k) E E []) : DS P n r Q (.code (.region id os.toArray true) :: k) E S :=
  DS.draw0 ord m hok hm (by rw [zlb, h1]; simpa [h2] using q)
end
end Go.XL
namespace Go.XL
abbrev I (n : Int) : V := .v (.int .i64 n)
abbrev Bo (b : Bool) : V := .v (.bool b)
def cI (n : Int) : List V := [I n]
abbrev ints (l : List Int) : V := .lst (l.map cI)
def cR (l : List Int) : List V := [ints l]
abbrev rows (l : List (List Int)) : V := .lst (l.map cR)
@[go_sem] theorem cI_eq (n : Int) : cI n = [I n] := rfl
@[go_sem] theorem cR_eq (n : List Int) : cR n = [ints n] := rfl
theorem zcu (n : Int) : (cI n).length = 1 := rfl
theorem zdm (n : List Int) : (cR n).length = 1 := rfl
structure Member where
  id : Int
  hand : Int
  from_ : Int
  to : Int
def Member.cells (m : Member) : List V := [I m.id, I m.hand, I m.from_, I m.to]
@[go_sem] theorem Member.cells_eq (m : Member) : m.cells = [I m.id, I m.hand, I m.from_, I m.to] := rfl
theorem Member.len (m : Member) : m.cells.length = 4 := rfl
abbrev Member.val (m : Member) : V := .agg m.cells
structure Ruling where
  round : Int
  table : Int
  points : List Int
def Ruling.cells (r : Ruling) : List V := [I r.round, I r.table, ints r.points]
@[go_sem] theorem Ruling.cells_eq (r : Ruling) : r.cells = [I r.round, I r.table, ints r.points] := rfl
theorem Ruling.len (m : Ruling) : m.cells.length = 3 := rfl
structure Sitting where
  tables : List (List Int)
  points : List (List Int)
  rulings : List Ruling
def Sitting.cells (s : Sitting) : List V := [rows s.tables, rows s.points, .lst (s.rulings.map Ruling.cells)]
@[go_sem] theorem Sitting.cells_eq (s : Sitting) : s.cells = [rows s.tables, rows s.points, .lst (s.rulings.map Ruling.cells)] := rfl
theorem Sitting.len (m : Sitting) : m.cells.length = 3 := rfl
abbrev Sitting.val (s : Sitting) : V := .agg s.cells
structure Club where
  size : Int
  start : Int
  absent : Int
  window : Int
  places : List Int
  share : Bool
  members : List Member
  rounds : List Sitting
def Club.cells (c : Club) : List V := [I c.size, I c.start, I c.absent, I c.window, ints c.places, Bo c.share, .lst (c.members.map Member.cells), .lst (c.rounds.map Sitting.cells)]
@[go_sem] theorem Club.cells_eq (c : Club) : c.cells = [I c.size, I c.start, I c.absent, I c.window, ints c.places, Bo c.share, .lst (c.members.map Member.cells), .lst (c.rounds.map Sitting.cells)] := rfl
abbrev Club.val (c : Club) : V := .agg c.cells
def Member.plays (m : Member) (round : Int) : Bool := decide (m.from_ ≤ round) && (decide (m.to < 0) || decide (round ≤ m.to))
def Member.playsR (m : Member) (round : Int) : Bool := decide (m.from_ ≤ round) && (decide (m.to = -1) || decide (round ≤ m.to))
theorem zcf {α : Type} {l : List α} {i : Nat} (h : i < l.length) : ∃ x r, l.drop i = x :: r ∧ l[i] = x ∧ l.drop (i + 1) = r := ⟨l[i], l.drop (i + 1), List.drop_eq_getElem_cons h, rfl, rfl⟩
theorem zdh {α : Type} {l : List α} {i : Nat} (h : ¬ (i : Int) < (l.length : Int)) : l.drop i = [] := List.drop_eq_nil_of_le (by omega)
def idxF {α : Type} (p : α → Bool) : List α → Nat → Int
  | [], _ => -1
  | x :: r, i => if p x then i else idxF p r (i + 1)
theorem zjq {α : Type} {p : α → Bool} {l : List α} {i : Nat} (hi : i < l.length) (h : p l[i] = true) : idxF p (l.drop i) i = i := by
  rw [List.drop_eq_getElem_cons hi, idxF, if_pos h]
theorem zhn {α : Type} {p : α → Bool} {l : List α} {i : Nat} (hi : i < l.length) (h : p l[i] = false) : idxF p (l.drop i) i = idxF p (l.drop (i + 1)) (i + 1) := by
  rw [List.drop_eq_getElem_cons hi, idxF, if_neg (by simp [h])]
theorem zjr {α : Type} {p : α → Bool} {l : List α} {i : Nat} (hi : l.length ≤ i) : idxF p (l.drop i) i = -1 := by
  rw [List.drop_eq_nil_of_le hi, idxF]
end Go.XL
namespace Go.XL
theorem yU {p : Prop} (h : p := by with_unfolding_all rfl) : p := h
theorem yR {p : Prop} (h : p := by rfl) : p := h
theorem yE {p : Prop} (h : p := by (simp (disch := omega) only [go_sem, dopV, Option.map_some, Option.map_none, Option.bind_some, Option.bind_none, ↓reduceIte, Nat.reduceEqDiff, Nat.reduceLT, Nat.reduceLeDiff, Nat.reduceAdd, Nat.reduceMul, Nat.reduceSub, Nat.zero_add, Nat.add_zero, Nat.zero_le, Nat.zero_mul, Nat.mul_one, Nat.one_mul, Int.natCast_zero, Int.toNat_zero, Int.reduceToNat, Int.reduceLT, Int.reduceLE, Int.reduceEq, decide_true, decide_false, true_and, and_true, Bool.and_self, Bool.and_true, Bool.true_and, Bool.not_true, Bool.not_false, IntWalk.toNatUp, IntWalk.iteOmega, IntWalk.i64_in, Option.isSome_some, not_true_eq_false, not_false_eq_true, Option.getD_some, Option.getD_none, Int.toNat_natCast, List.length_map, List.getElem?_map, List.getElem?_eq_getElem, V.flat, V.one, List.all_cons, List.all_nil, *]; exact rfl)) : p := h
theorem yG {p : Prop} (h : p := by (simp (disch := omega) only [go_sem, dopV, Option.map_some, Option.map_none, Option.bind_some, Option.bind_none, ↓reduceIte, Nat.reduceEqDiff, Nat.reduceLT, Nat.reduceLeDiff, Nat.reduceAdd, Nat.reduceMul, Nat.reduceSub, Nat.zero_add, Nat.add_zero, Nat.zero_le, Nat.zero_mul, Nat.mul_one, Nat.one_mul, Int.natCast_zero, Int.toNat_zero, Int.reduceToNat, Int.reduceLT, Int.reduceLE, Int.reduceEq, decide_true, decide_false, true_and, and_true, Bool.and_self, Bool.and_true, Bool.true_and, Bool.not_true, Bool.not_false, IntWalk.toNatUp, IntWalk.iteOmega, IntWalk.i64_in, Option.isSome_some, not_true_eq_false, not_false_eq_true, Option.getD_some, Option.getD_none, Int.toNat_natCast, List.length_map, List.getElem?_map, List.getElem?_eq_getElem, V.flat, V.one, List.all_cons, List.all_nil]; exact rfl)) : p := h
theorem yT {p : Prop} (h : p := by (simp (disch := omega) only [go_sem, dopV, Option.map_some, Option.map_none, Option.bind_some, Option.bind_none, ↓reduceIte, Nat.reduceEqDiff, Nat.reduceLT, Nat.reduceLeDiff, Nat.reduceAdd, Nat.reduceMul, Nat.reduceSub, Nat.zero_add, Nat.add_zero, Nat.zero_le, Nat.zero_mul, Nat.mul_one, Nat.one_mul, Int.natCast_zero, Int.toNat_zero, Int.reduceToNat, Int.reduceLT, Int.reduceLE, Int.reduceEq, decide_true, decide_false, true_and, and_true, Bool.and_self, Bool.and_true, Bool.true_and, Bool.not_true, Bool.not_false, IntWalk.toNatUp, IntWalk.iteOmega, IntWalk.i64_in, Option.isSome_some, not_true_eq_false, not_false_eq_true, Option.getD_some, Option.getD_none, Int.toNat_natCast, List.length_map, List.getElem?_map, List.getElem?_eq_getElem, V.flat, V.one, List.all_cons, List.all_nil, *]; try exact rfl)) : p := h
theorem yH {p : Prop} (h : p := by (simp (disch := omega) only [go_sem, dopV, Option.map_some, Option.map_none, Option.bind_some, Option.bind_none, ↓reduceIte, Nat.reduceEqDiff, Nat.reduceLT, Nat.reduceLeDiff, Nat.reduceAdd, Nat.reduceMul, Nat.reduceSub, Nat.zero_add, Nat.add_zero, Nat.zero_le, Nat.zero_mul, Nat.mul_one, Nat.one_mul, Int.natCast_zero, Int.toNat_zero, Int.reduceToNat, Int.reduceLT, Int.reduceLE, Int.reduceEq, decide_true, decide_false, true_and, and_true, Bool.and_self, Bool.and_true, Bool.true_and, Bool.not_true, Bool.not_false, IntWalk.toNatUp, IntWalk.iteOmega, IntWalk.i64_in, Option.isSome_some, not_true_eq_false, not_false_eq_true, Option.getD_some, Option.getD_none, Int.toNat_natCast, List.length_map, List.getElem?_map, List.getElem?_eq_getElem, V.flat, V.one, List.all_cons, List.all_nil]; try exact rfl)) : p := h
theorem yF {p : Prop} (h : p := by (simp (disch := omega) only [go_sem, dopV, Option.map_some, Option.map_none, Option.bind_some, Option.bind_none, ↓reduceIte, Nat.reduceEqDiff, Nat.reduceLT, Nat.reduceLeDiff, Nat.reduceAdd, Nat.reduceMul, Nat.reduceSub, Nat.zero_add, Nat.add_zero, Nat.zero_le, Nat.zero_mul, Nat.mul_one, Nat.one_mul, Int.natCast_zero, Int.toNat_zero, Int.reduceToNat, Int.reduceLT, Int.reduceLE, Int.reduceEq, decide_true, decide_false, true_and, and_true, Bool.and_self, Bool.and_true, Bool.true_and, Bool.not_true, Bool.not_false, IntWalk.toNatUp, IntWalk.iteOmega, IntWalk.i64_in, Option.isSome_some, not_true_eq_false, not_false_eq_true, Option.getD_some, Option.getD_none, Int.toNat_natCast, List.length_map, List.getElem?_map, List.getElem?_eq_getElem, V.flat, V.one, List.all_cons, List.all_nil, *]; first | done | exact rfl)) : p := h
theorem yS {p : Prop} (h : p := by simp (disch := omega) only [go_sem, dopV, Option.map_some, Option.map_none, Option.bind_some, Option.bind_none, ↓reduceIte, Nat.reduceEqDiff, Nat.reduceLT, Nat.reduceLeDiff, Nat.reduceAdd, Nat.reduceMul, Nat.reduceSub, Nat.zero_add, Nat.add_zero, Nat.zero_le, Nat.zero_mul, Nat.mul_one, Nat.one_mul, Int.natCast_zero, Int.toNat_zero, Int.reduceToNat, Int.reduceLT, Int.reduceLE, Int.reduceEq, decide_true, decide_false, true_and, and_true, Bool.and_self, Bool.and_true, Bool.true_and, Bool.not_true, Bool.not_false, IntWalk.toNatUp, IntWalk.iteOmega, IntWalk.i64_in, Option.isSome_some, not_true_eq_false, not_false_eq_true, Option.getD_some, Option.getD_none, Int.toNat_natCast, List.length_map, List.getElem?_map, List.getElem?_eq_getElem, V.flat, V.one, List.all_cons, List.all_nil, zdp, zea, subS_cons, subS_nil, and_self, Int.natCast_add, Int.natCast_one, Int.natCast_zero, List.map_append, ints, rows, *]) : p := h
end Go.XL
namespace Go.XL
def zdu (most : Int) : List Int → Int → Int
  | [], want => if want = 0 then 0 else 12
  | n :: l, want => if ((-most) ≤ n ∧ n ≤ most) then zdu most l (want - n) else 2
def zhh (size : Int) (l : List Int) (most want : Int) : Int := if (l.length : Int) = size then zdu most l want else 3
def zkd (c : Club) (l : List Int) : Int := zhh c.size l 1099511627776 (c.size * c.start)
def zdi : List Member → Int → Int
  | [], _ => 0
  | m :: l, last => if m.id ≤ last then 11 else
      if ¬ ((-10000) ≤ m.hand ∧ m.hand ≤ 10000) then 2 else if ¬ (0 ≤ m.from_ ∧ m.from_ ≤ 20) then 2 else if m.to = -1 then zdi l m.id else if (m.from_ ≤ m.to ∧ m.to ≤ 20) then zdi l m.id else 2
def zdv (l : List Member) : Int := if l.length > 40 then 8 else zdi l 0
def zgw (c : Club) (id : Int) : Int := idxF (fun m => decide (m.id = id)) c.members 0
def Club.mem (c : Club) (i : Int) : Member := c.members.getD i.toNat ⟨0, 0, 0, 0⟩
def zhc : Option Int → Int → Bool
  | none, _ => false
  | some p, id => decide (id ≤ p)
def zdk (c : Club) (round : Int) : List Int → Option Int → Int
  | [], _ => 0
  | id :: l, pre => if zgw c id < 0 then 7 else if (c.mem (zgw c id)).plays round = false then 10 else
      if zhc pre id = true then 11 else zdk c round l (some id)
def zdn (c : Club) (round : Int) : List (List Int) → List Int → Int → Int
  | [], _, _ => 0
  | t :: l, seated, first => if (t.length : Int) ≠ c.size then 3 else
      if zdk c round t none ≠ 0 then zdk c round t none else
      if t.any (fun id => decide (id ∈ seated)) = true then 12 else
      if t.headD 0 ≤ first then 11 else zdn c round l (seated ++ t) (t.headD 0)
def noSit : Sitting := ⟨[], [], []⟩
def Club.round (c : Club) (i : Int) : Sitting := c.rounds.getD i.toNat noSit
def zef (c : Club) (round : Int) : Int := zdn c round (c.round round).tables [] 0
def zhd (c : Club) (round table : Int) : Bool :=
  decide ((0 ≤ round ∧ round ≤ (c.rounds.length : Int) - 1) ∧ (0 ≤ table ∧ table ≤ ((c.round round).points.length : Int) - 1) ∧ 0 < ((c.round round).points.getD table.toNat []).length)
def zee (c : Club) : List (List Int) → Int
  | [] => 0
  | l :: r => if l.length = 0 then zee c r else if zkd c l ≠ 0 then zkd c l else zee c r
def zdr (c : Club) (round : Int) : List Ruling → Int
  | [] => 0
  | x :: r => if ¬ ((max 0 (round - c.window)) ≤ x.round ∧ x.round ≤ round) then 2 else if zhd c x.round x.table = false then 7 else if zkd c x.points ≠ 0 then zkd c x.points else zdr c round r
def zfg (c : Club) (round : Int) : Int := if (c.round round).points.length ≠ (c.round round).tables.length then 3 else zee c (c.round round).points
def zev (c : Club) (round : Int) : Int := if (c.round round).rulings.length > 20 then 8 else zdr c round (c.round round).rulings
def zhz (c : Club) (round : Int) : Int := if zfg c round ≠ 0 then zfg c round else zev c round
def zdf (c : Club) : Nat → Nat → Int
  | _, 0 => 0
  | i, n + 1 => if zef c i ≠ 0 then zef c i else if zhz c i ≠ 0 then zhz c i else zdf c (i + 1) n
def zfb (c : Club) : Int :=
  if ¬ (3 ≤ c.size ∧ c.size ≤ 4) then 2 else if ¬ (0 ≤ c.start ∧ c.start ≤ 1000000) then 2 else if ¬ ((-1000000) ≤ c.absent ∧ c.absent ≤ 1000000) then 2 else if ¬ (0 ≤ c.window ∧ c.window ≤ 20) then 2 else
  zhh c.size c.places 1000000 0
def zcx (c : Club) : Int :=
  if zfb c ≠ 0 then zfb c else if zdv c.members ≠ 0 then zdv c.members else if c.rounds.length > 20 then 8 else zdf c 0 c.rounds.length
def zge (c : Club) (round : Int) : List Int := (c.members.filter (fun m => m.plays round)).map Member.id
def zch (c : Club) (round : Int) : List Int := if round < 0 then [] else if zcx c ≠ 0 then [] else zge c round
structure Sitting.Small (s : Sitting) : Prop where
  tables : s.tables.length ≤ 1000000
  points : s.points.length ≤ 1000000
  rulings : s.rulings.length ≤ 1000000
  table : ∀ t ∈ s.tables, t.length ≤ 1000000
  point : ∀ t ∈ s.points, t.length ≤ 1000000
  ruling : ∀ x ∈ s.rulings, x.points.length ≤ 1000000
structure Club.Small (c : Club) : Prop where
  places : c.places.length ≤ 1000000
  members : c.members.length ≤ 1000000
  rounds : c.rounds.length ≤ 1000000
  round : ∀ s ∈ c.rounds, s.Small
theorem Club.round_at (c : Club) {i : Nat} (h : i < c.rounds.length) : c.round (i : Int) = c.rounds[i] := by
  simp [Club.round, List.getD_eq_getElem?_getD, List.getElem?_eq_getElem h]
theorem Club.Small.at {c : Club} (s : c.Small) {i : Nat} (h : i < c.rounds.length) : c.rounds[i].Small := s.round _ (List.getElem_mem h)
theorem zwb {α : Type} (p : α → Bool) : ∀ (l : List α) (i : Nat), idxF p l i = -1 ∨ ∃ j x, l[j]? = some x ∧ p x = true ∧ idxF p l i = (i + j : Nat)
  | [], i => .inl rfl
  | x :: r, i => by
    simp only [idxF]
    by_cases h : p x = true
    · rw [if_pos h]; exact .inr ⟨0, x, rfl, h, by simp⟩
    · rw [if_neg h]
      rcases zwb p r (i + 1) with e | ⟨j, y, e1, e2, e3⟩
      · exact .inl e
      · exact .inr ⟨j + 1, y, by simpa using e1, e2, by rw [e3]; congr 1; omega⟩
theorem zfv {c : Club} {id : Int} (h : ¬ zgw c id < 0) : ∃ (i : Nat) (hi : i < c.members.length), zgw c id = i ∧ c.members[i].id = id ∧ c.mem (zgw c id) = c.members[i] := by
  rcases zwb (fun m : Member => decide (m.id = id)) c.members 0 with e | ⟨j, x, e1, e2, e3⟩
  · exact absurd (show zgw c id < 0 by rw [zgw, e]; decide) h
  · obtain ⟨hj, rfl⟩ := List.getElem?_eq_some_iff.1 e1
    have e4 : zgw c id = j := by rw [zgw, e3]; simp
    exact ⟨j, hj, e4, by simpa using e2, by rw [e4]; simp [Club.mem, List.getD_eq_getElem?_getD, List.getElem?_eq_getElem hj]⟩
theorem zlz {m : Member} (h : m.to = -1 ∨ 0 ≤ m.to) (r : Int) : m.playsR r = m.plays r := by
  have e : decide (m.to = -1) = decide (m.to < 0) := by
    rcases h with h | h
    · simp [h]
    · simp only [decide_eq_decide]; omega
  simp [Member.playsR, Member.plays, e]
structure Club.Fine (c : Club) : Prop where
  pos : ∀ m ∈ c.members, 0 < m.id
  to : ∀ m ∈ c.members, m.to = -1 ∨ 0 ≤ m.to
theorem zes : ∀ {l : List Member} {last : Int}, 0 ≤ last → zdi l last = 0 → (∀ m ∈ l, last < m.id) ∧ ∀ m ∈ l, m.to = -1 ∨ 0 ≤ m.to
  | [], _, _, _ => ⟨fun _ h => (List.not_mem_nil h).elim, fun _ h => (List.not_mem_nil h).elim⟩
  | m :: l, last, h0, h => by
    simp only [zdi] at h
    split at h
    · cases h
    rename_i h1
    split at h
    · cases h
    split at h
    · cases h
    rename_i h3
    replace h3 := Decidable.not_not.1 h3
    split at h
    · rename_i h4
      have ih := zes (l := l) (last := m.id) (by omega) h
      refine ⟨fun x hx => ?_, fun x hx => ?_⟩
      · rcases List.mem_cons.1 hx with rfl | hx
        · omega
        · have := ih.1 x hx; omega
      · rcases List.mem_cons.1 hx with rfl | hx
        · exact .inl h4
        · exact ih.2 x hx
    · split at h
      · rename_i h4 h5
        have ih := zes (l := l) (last := m.id) (by omega) h
        refine ⟨fun x hx => ?_, fun x hx => ?_⟩
        · rcases List.mem_cons.1 hx with rfl | hx
          · omega
          · have := ih.1 x hx; omega
        · rcases List.mem_cons.1 hx with rfl | hx
          · exact .inr (by omega)
          · exact ih.2 x hx
      · cases h
theorem ztd {c : Club} (h : zdv c.members = 0) : c.Fine := by
  unfold zdv at h
  split at h
  · cases h
  · have := zes (Int.le_refl 0) h
    exact ⟨this.1, this.2⟩
end Go.XL
namespace Go.XL
def w64 (n : Int) : Int := IntKind.i64.wrap n
def metT (a b : Int) : List (List Int) → Nat
  | [] => 0
  | t :: r => (if a ≠ b ∧ a ∈ t ∧ b ∈ t then 1 else 0) + metT a b r
def zms (a b : Int) : List Sitting → Nat
  | [] => 0
  | s :: r => metT a b s.tables + zms a b r
def metS (c : Club) (a b : Int) : Nat := zms a b c.rounds
def metX (c : Club) (a b : Int) : Int := if zcx c ≠ 0 then 0 else metS c a b
def zcg (met : Int → Int → Bool) (t : List Int) (id : Int) : Bool := t.all fun a => !met a id
def zeo (st : List Int → Int → Bool) (f : List Int → List Int → List (List Int)) (t : List Int) : List Int → List (List Int)
  | [] => []
  | id :: r => (if st t id = true then f (t ++ [id]) r else []) ++ zeo st f t r
def zga (st : List Int → Int → Bool) : Nat → List Int → List Int → List (List Int)
  | 0, t, _ => [t]
  | n + 1, t, ids => zeo st (zga st n) t ids
def zic (met : Int → Int → Bool) (t : List Int) : Int → Int → Bool := fun a b => if a ∈ t ∧ b ∈ t ∧ a ≠ b then true else met a b
def tryL (budget : Int) (round : Nat) (rec : List Int → Int → Int × Int × List (Nat × List Int)) : List (List Int) → Int → Int × Int × List (Nat × List Int)
  | [], steps => (2, steps, [])
  | t :: r, steps => if steps = budget then (3, steps, []) else
      if (rec t (w64 (steps + 1))).1 = 2 then tryL budget round rec r (rec t (w64 (steps + 1))).2.1
      else ((rec t (w64 (steps + 1))).1, (rec t (w64 (steps + 1))).2.1, (round, t) :: (rec t (w64 (steps + 1))).2.2)
def srch (size : Nat) (budget : Int) (rounds : List (List Int)) : Nat → (Int → Int → Bool) → Nat → List Int → Int → Int × Int × List (Nat × List Int)
  | 0, _, _, _, steps => (2, steps, [])
  | n + 1, met, round, [], steps => if round + 1 = rounds.length then (1, steps, []) else srch size budget rounds n met (round + 1) (rounds.getD (round + 1) []) steps
  | n + 1, met, round, f :: fr, steps => tryL budget round (fun t s => srch size budget rounds n (zic met t) round ((f :: fr).filter fun id => !decide (id ∈ t)) s) (zga (zcg met) (size - 1) [f] fr) steps
def zlk (rounds : List (List Int)) : Nat := 1 + rounds.length + (rounds.map List.length).sum
def met0 (c : Club) : Int → Int → Bool := fun a b => decide (0 < metS c a b)
def runS (c : Club) (rounds : List (List Int)) (budget : Int) : Int × Int × List (Nat × List Int) := srch c.size.toNat budget rounds (zlk rounds) (met0 c) 0 (rounds.headD []) 0
def zjy (c : Club) (ids : List Int) : List (List Int) × Int :=
  if zcx c ≠ 0 then ([], zcx c) else if ids.length = 0 then ([], 6) else if ids.length > 12 then ([], 8) else
  if zdk c c.rounds.length ids none ≠ 0 then ([], zdk c c.rounds.length ids none) else
  if 0 < (ids.length : Int).tmod c.size then ([], 3) else
  if (runS c [ids] (-1)).1 ≠ 1 then ([], 12) else ((runS c [ids] (-1)).2.2.map Prod.snd, 0)
def zhe (l : List Int) (p : Int) : Nat := (l.filter fun x => decide (p < x)).length
def zcy (l : List Int) (p : Int) : Nat := (l.filter fun x => decide (x = p)).length
end Go.XL
namespace Go.XL
abbrev W : Type := Int → Int → Int
def addP (n : Int) (w : W) (a b : Int) : W := fun x y => if x = a ∧ y = b then w64 (w a b + n) else w x y
def addR (n : Int) (b : Int) : List Int → W → W
  | [], w => w
  | a :: r, w => addR n b r (addP n w a b)
def addT (n : Int) : List Int → List Int → W → W
  | _, [], w => w
  | pre, b :: r, w => addT n (pre ++ [b]) r (addR n b pre w)
def zpf : List (List Int) → W → W
  | [], w => w
  | t :: r, w => zpf r (addT 1 [] t w)
def addS : List Sitting → W → W
  | [], w => w
  | s :: r, w => addS r (zpf s.tables w)
def zpd (c : Club) : W := addS c.rounds fun _ _ => 0
end Go.XL
namespace Go.XL
theorem zqz {n : Int} (h : -9223372036854775808 ≤ n ∧ n ≤ 9223372036854775807) : w64 n = n := by
  have h1 : (2 : Int) ^ 64 = 18446744073709551616 := by decide
  have h2 : (2 : Int) ^ 63 = 9223372036854775808 := by decide
  simp only [w64, IntKind.wrap, IntKind.bits, IntKind.signed, Bool.true_and, decide_eq_true_eq, Nat.reduceSub, h1, h2]
  split <;> omega
theorem zwp (n b : Int) : ∀ (pre : List Int) (w : W) (x y : Int), pre.Nodup → addR n b pre w x y = if x ∈ pre ∧ y = b then w64 (w x y + n) else w x y
  | [], w, x, y, _ => by simp [addR]
  | a :: r, w, x, y, h => by
    obtain ⟨h1, h2⟩ := List.nodup_cons.1 h
    rw [addR, zwp n b r _ x y h2]
    by_cases hx : x = a
    · subst hx
      rw [if_neg (fun h => h1 h.1), addP]
      by_cases hy : y = b
      · subst hy; rw [if_pos ⟨rfl, rfl⟩, if_pos ⟨List.mem_cons_self .., rfl⟩]
      · rw [if_neg (fun h => hy h.2), if_neg (fun h => hy h.2)]
    · have e : addP n w a b x y = w x y := by rw [addP, if_neg (fun h => hx h.1)]
      rw [e]
      by_cases h3 : x ∈ r ∧ y = b
      · rw [if_pos h3, if_pos ⟨List.mem_cons_of_mem _ h3.1, h3.2⟩]
      · rw [if_neg h3, if_neg (fun h => h3 ⟨(List.mem_cons.1 h.1).resolve_left hx, h.2⟩)]
theorem zox (n : Int) : ∀ (rest pre : List Int) (w : W) (x y : Int), (pre ++ rest).Pairwise (· < ·) → addT n pre rest w x y = if x ∈ pre ++ rest ∧ y ∈ rest ∧ x < y then w64 (w x y + n) else w x y
  | [], pre, w, x, y, _ => by simp [addT]
  | b :: r, pre, w, x, y, h => by
    have h' : ((pre ++ [b]) ++ r).Pairwise (· < ·) := by simpa using h
    have hp := (List.pairwise_append.1 h)
    have hnd : pre.Nodup := List.Pairwise.imp (fun h => by omega) hp.1
    have hlt : ∀ z ∈ pre, z < b := fun z hz => hp.2.2 z hz b (List.mem_cons_self ..)
    have hr := (List.pairwise_cons.1 hp.2.1).1
    rw [addT, zox n r (pre ++ [b]) _ x y h', zwp n b pre w x y hnd]
    have hm : x ∈ (pre ++ [b]) ++ r ↔ x ∈ pre ++ b :: r := by simp
    by_cases hy : y = b
    · subst hy
      have hyr : ¬ y ∈ r := fun h => by have := hr y h; omega
      rw [if_neg (fun h => hyr h.2.1)]
      by_cases hx : x ∈ pre
      · rw [if_pos ⟨hx, rfl⟩, if_pos ⟨List.mem_append_left _ hx, List.mem_cons_self .., hlt x hx⟩]
      · rw [if_neg (fun h => hx h.1), if_neg]
        rintro ⟨h1, -, h3⟩
        rcases List.mem_append.1 h1 with h1 | h1
        · exact hx h1
        · rcases List.mem_cons.1 h1 with h1 | h1
          · omega
          · have := hr x h1; omega
    · have e : (if x ∈ pre ∧ y = b then w64 (w x y + n) else w x y) = w x y := if_neg (fun h => hy h.2)
      rw [e]
      by_cases h1 : x ∈ pre ++ b :: r ∧ y ∈ b :: r ∧ x < y
      · rw [if_pos h1, if_pos ⟨hm.2 h1.1, (List.mem_cons.1 h1.2.1).resolve_left hy, h1.2.2⟩]
      · rw [if_neg h1, if_neg (fun h => h1 ⟨hm.1 h.1, List.mem_cons_of_mem _ h.2.1, h.2.2⟩)]
def AscTs (T : List (List Int)) : Prop := ∀ t ∈ T, t.Pairwise (· < ·)
theorem zqn (a b : Int) : ∀ T, metT a b T ≤ T.length
  | [] => Nat.le_refl _
  | t :: r => by
    have := zqn a b r
    simp only [metT, List.length_cons]
    split <;> omega
theorem zuz : ∀ (T : List (List Int)) (w : W) (x y : Int), AscTs T → (0 ≤ w x y ∧ w x y + T.length ≤ 9223372036854775807) → zpf T w x y = if x < y then w x y + metT x y T else w x y
  | [], w, x, y, _, _ => by simp [zpf, metT]
  | t :: r, w, x, y, h, hb => by
    have ht := zox 1 t [] w x y (by simpa using h t (List.mem_cons_self ..))
    simp only [List.nil_append] at ht
    simp only [List.length_cons] at hb
    have hw : addT 1 [] t w x y = if x < y then w x y + (if x ≠ y ∧ x ∈ t ∧ y ∈ t then 1 else 0 : Nat) else w x y := by
      rw [ht]
      by_cases hxy : x < y
      · rw [if_pos hxy]
        by_cases hm : x ∈ t ∧ y ∈ t
        · rw [if_pos ⟨hm.1, hm.2, hxy⟩, if_pos ⟨by omega, hm⟩, zqz (by omega)]; rfl
        · rw [if_neg (fun h => hm ⟨h.1, h.2.1⟩), if_neg (fun h => hm h.2)]; simp
      · rw [if_neg hxy, if_neg (fun h => hxy h.2.2)]
    have hbd : 0 ≤ addT 1 [] t w x y ∧ addT 1 [] t w x y + r.length ≤ 9223372036854775807 := by
      rw [hw]; split
      · split <;> omega
      · omega
    rw [zpf, zuz r _ x y (fun s hs => h s (List.mem_cons_of_mem _ hs)) hbd, hw]
    by_cases hxy : x < y
    · simp only [if_pos hxy, metT]; split <;> omega
    · simp only [if_neg hxy]
theorem zwo : ∀ (R : List Sitting) (w : W) (x y : Int), (∀ s ∈ R, AscTs s.tables) → (0 ≤ w x y ∧ w x y + (R.map fun s => s.tables.length).sum ≤ 9223372036854775807) → addS R w x y = if x < y then w x y + zms x y R else w x y
  | [], w, x, y, _, _ => by simp [addS, zms]
  | s :: r, w, x, y, h, hb => by
    simp only [List.map_cons, List.sum_cons] at hb
    have h1 := zuz s.tables w x y (h s (List.mem_cons_self ..)) ⟨hb.1, by omega⟩
    have h2 := zqn x y s.tables
    have hbd : 0 ≤ zpf s.tables w x y ∧ zpf s.tables w x y + (r.map fun s => s.tables.length).sum ≤ 9223372036854775807 := by
      rw [h1]; split <;> omega
    rw [addS, zwo r _ x y (fun s hs => h s (List.mem_cons_of_mem _ hs)) hbd, h1]
    by_cases hxy : x < y
    · simp only [if_pos hxy, zms]; omega
    · simp only [if_neg hxy]
end Go.XL
namespace Go.XL
def xorI (k : IntKind) (a b : Int) : Int := k.wrap ((BitVec.ofInt k.bits a ^^^ BitVec.ofInt k.bits b).toNat)
def zaj (x : Int) : Int := IntKind.u64.wrap (IntKind.u64.wrap (x * 15074714826142052245) + 7146057691288625177)
def mixX (x : Int) : Int := (xorI .u64 x (x.fdiv 2147483648)).fdiv 1048576
def zam (x n : Int) : Int := if n < 1 then 0 else mixX (zaj x) % n
def zmr (x n : Int) : Bool := decide (zam x n = 0)
def zcq (x lo hi : Int) : Int := lo + zam x (hi - lo + 1)
theorem wrapU_bd (m : Int) : 0 ≤ IntKind.u64.wrap m ∧ IntKind.u64.wrap m < 18446744073709551616 := by
  have h1 : (2 : Int) ^ 64 = 18446744073709551616 := by decide
  simp only [IntKind.wrap, IntKind.bits, IntKind.signed, Bool.false_and, Bool.false_eq_true, if_false, h1]
  omega
theorem wrapU_id {m : Int} (h : 0 ≤ m ∧ m < 18446744073709551616) : IntKind.u64.wrap m = m := by
  have h1 : (2 : Int) ^ 64 = 18446744073709551616 := by decide
  simp only [IntKind.wrap, IntKind.bits, IntKind.signed, Bool.false_and, Bool.false_eq_true, if_false, h1]
  omega
theorem mixX_bd (x : Int) : 0 ≤ mixX x ∧ mixX x < 18446744073709551616 := by
  have h := wrapU_bd ((BitVec.ofInt IntKind.u64.bits x ^^^ BitVec.ofInt IntKind.u64.bits (x.fdiv 2147483648)).toNat)
  have e : xorI .u64 x (x.fdiv 2147483648) = IntKind.u64.wrap ((BitVec.ofInt IntKind.u64.bits x ^^^ BitVec.ofInt IntKind.u64.bits (x.fdiv 2147483648)).toNat) := rfl
  rw [mixX, e, Int.fdiv_eq_ediv_of_nonneg _ (by decide)]
  omega
theorem zcn (x n : Int) : 0 ≤ zam x n ∧ (1 ≤ n → zam x n < n) ∧ (n < 1 → zam x n = 0) := by
  rw [zam]
  split
  · exact ⟨Int.le_refl _, fun h => by omega, fun _ => rfl⟩
  · exact ⟨Int.emod_nonneg _ (by omega), fun h => Int.emod_lt_of_pos _ (by omega), fun h => by omega⟩
def zwv : List Int → Int → Int
  | [], x => x
  | n :: l, x => zwv l (xorI .u64 (IntKind.u64.wrap (xorI .u64 x (IntKind.u64.wrap n) * 11400714819323198485)) ((IntKind.u64.wrap (xorI .u64 x (IntKind.u64.wrap n) * 11400714819323198485)).fdiv 536870912))
def newX (l : List Int) : Int := zwv l 2685821657736338717
end Go.XL
namespace Go.XL
def znu (size : Int) : Nat → Int → List Int → List Int × Int
  | 0, x, l => (l, x)
  | n + 1, x, l => if l.length = 0 then (l, x) else
      if (l.length : Int) % size ≠ 0 then znu size n (zaj x) (l.take (zam x l.length).toNat ++ l.drop ((zam x l.length).toNat + 1))
      else if zmr x 9 = true then znu size n (zaj (zaj x)) (l.take (zam (zaj x) l.length).toNat ++ l.drop ((zam (zaj x) l.length).toNat + 1)) else (l, zaj x)
def zcs (size x : Int) (l : List Int) : List Int × Int := znu size (l.length + 1) x l
theorem znt (size : Int) : ∀ (n : Nat) (x : Int) (l : List Int), (znu size n x l).1.Sublist l
  | 0, x, l => List.Sublist.refl _
  | n + 1, x, l => by
    have key : ∀ i : Nat, (l.take i ++ l.drop (i + 1)).Sublist l := fun i => by
      conv => rhs; rw [← List.take_append_drop i l]
      exact List.Sublist.append (List.Sublist.refl _) (by
        rw [show l.drop (i + 1) = (l.drop i).drop 1 by rw [List.drop_drop, Nat.add_comm]]
        exact List.drop_sublist _ _)
    simp only [znu]
    split
    · exact List.Sublist.refl _
    split
    · exact (znt size n _ _).trans (key _)
    split
    · exact (znt size n _ _).trans (key _)
    · exact List.Sublist.refl _
theorem zgg (size x : Int) (l : List Int) : (zcs size x l).1.Sublist l := znt size _ _ _
end Go.XL
namespace Go.XL
def zmq (n : Int) (out : List Int) : Nat → Nat
  | 0 => 0
  | a + 1 => if n < out.getD a 0 then zmq n out a else a + 1
def insS (out : List Int) (n : Int) : List Int := out.take (zmq n out out.length) ++ n :: out.drop (zmq n out out.length)
def zis (l : List Int) : List Int := l.foldl insS []
def tabG (size : Int) : Nat → Int → List Int → List Int → List Int × List Int × Int
  | 0, x, t, rest => (t, rest, x)
  | n + 1, x, t, rest => if (t.length : Int) < size then tabG size n (zaj x) (t ++ [rest.getD (zam x rest.length).toNat 0]) (rest.take (zam x rest.length).toNat ++ rest.drop ((zam x rest.length).toNat + 1)) else (t, rest, x)
def zlx (size : Int) : Nat → Int → List Int → List (List Int) → List (List Int) × Int
  | 0, x, rest, out => (out, x)
  | n + 1, x, rest, out => if size ≤ (rest.length : Int) then zlx size n (tabG size size.toNat x [rest.headD 0] (rest.drop 1)).2.2 (tabG size size.toNat x [rest.headD 0] (rest.drop 1)).2.1 (out ++ [zis (tabG size size.toNat x [rest.headD 0] (rest.drop 1)).1]) else (out, x)
def zda (size x : Int) (l : List Int) : List (List Int) × Int := zlx size (l.length + 1) x l []
def zoj (start : Int) : Nat → Int → List Int → List Int × Int
  | 0, x, out => (out, x)
  | n + 1, x, out => zoj start n (zaj x) (out ++ [start + (zam x 7 - 3) * 10])
def zeu (size start x : Int) : List Int × Int := ((size * start - (zoj start (size.toNat - 1) x []).1.sum) :: (zoj start (size.toNat - 1) x []).1, (zoj start (size.toNat - 1) x []).2)
end Go.XL
namespace Go.XL
def RC (P : Program) (f : FuncId) (args : List V) (S : Sto) (v : V) : Prop := DC P f args S fun u S' => u = v ∧ S' = S
section
variable {P : Program} {n : Nat} {r : Rr} {Q : VEnv → Sto → Prop} {k : List Fr} {E0 E : VEnv} {S S0 S1 : Sto} {Mp : List MpE} {ops l : List Oper} {t : Nat} {dst : Option Tmp} {op : Op} {ty : TypeId} {pos : String} {af : Array Edge} {ts : Array TypeId}
theorem DS.rcS {g : FuncId} {args : List V} {xs : Array Operand} {fn : Func} {v : V} (hf : FnOk P g fn) (hc : RC P g args S v) (hd : decide (t < n) = true) (he : (evsV (evV E) xs.toList).map (·.map V.peek) = some args)
    (q : DS P n r Q (.ops ops l :: k) ((t, v) :: E) S) : DS P n r Q (.ops ops (⟨some t, .call { callee := .value (.func g), args := xs, argTypes := ts }, ty, pos, af, none⟩ :: l) :: k) E S := by
  refine DS.call (dst := some t) S [] hf hc hd he (fun _ _ e => e) (fun _ _ e => by cases e) ?_
  rintro u S' ⟨rfl, rfl⟩ -
  simpa [putV] using q
theorem DS.callA {g : FuncId} {args : List V} {xs : Array Operand} {fn : Func} {R : V → Sto → Prop} (hf : FnOk P g fn) (hc : DC P g args S R) (hd : decide (t < n) = true) (he : (evsV (evV E) xs.toList).map (·.map V.peek) = some args)
    (q : ∀ u S', R u S' → DS P n r Q (.ops ops l :: k) ((t, u) :: E) S') : DS P n r Q (.ops ops (⟨some t, .call { callee := .value (.func g), args := xs, argTypes := ts }, ty, pos, af, none⟩ :: l) :: k) E S := by
  refine DS.call (dst := some t) S [] hf hc hd he (fun _ _ e => e) (fun _ _ e => by cases e) ?_
  intro u S' h _
  simpa [putV] using q u S' h
theorem DS.retA {rs : List ResultVar} {R : V → Sto → Prop} {vs : List V} (h1 : resV P E S rs = some vs) (h3 : R (tupV vs) S) (hk : popR k = none := by rfl) : DS P n r (FinV P rs R) (.code .ret :: k) E S :=
  DS.ret hk ⟨vs, S, h1, fun _ _ e => e, h3⟩
theorem DS.nilA {rs : List ResultVar} {R : V → Sto → Prop} {vs : List V} (h1 : resV P E S rs = some vs) (h3 : R (tupV vs) S) : DS P n r (FinV P rs R) [] E S :=
  DS.nil ⟨vs, S, h1, fun _ _ e => e, h3⟩
theorem DS.reS {S' : Sto} (h : ∀ b o, zab S' b = some o → zab S b = some o) (q : DS P n r Q k E S') : DS P n r Q k E S := DS.weaken (fun _ _ e => e) h q
theorem DS.loopS {α : Type} {c : Code} (ts : List Nat) {F : VEnv} (hF : selV E ts = F) (Ex : α → VEnv) (Sx : α → Sto) (I : α → Prop) (μ : α → Nat) (x0 : α) (hE : subV (Ex x0) E) (hS : ∀ b o, zab (Sx x0) b = some o → zab S b = some o) (hI : I x0)
    (body : ∀ (x : α) (B : VEnv → Sto → Prop), I x → (∀ x' E' S', μ x' < μ x → I x' → subV (Ex x') E' → subV F E' → (∀ b o, zab (Sx x') b = some o → zab S' b = some o) → B E' S') → DS P n r Q (.code c :: .back B :: k) (Ex x ++ F) (Sx x)) : DS P n r Q (.code (.loop c) :: k) E S := by
  subst hF
  refine DS.loop (fun m E' S' => ∃ x, μ x = m ∧ I x ∧ subV (Ex x ++ selV E ts) E' ∧ ∀ b o, zab (Sx x) b = some o → zab S' b = some o) (μ x0) ⟨x0, rfl, hI, zkv hE (zmw E ts), hS⟩ ?_
  rintro m E' S' ⟨x, rfl, h1, h2, h3⟩
  exact DS.weaken (zdb h2) h3 (body x _ h1 fun x' E2 S2 a b c d e => ⟨_, a, x', rfl, b, zkv c d, e⟩)
theorem DD.last {o : Oper} {T : V → VEnv → Sto → Prop} (hg : o.guard = none) (hc : zdj o = true) (hb : zfq o.op = false) (hd : dok n o.dst = true) (ho : OpS r.v0 P n o E S1 T) (q : ∀ v E' S', T v E' S' → (∀ b o, zab S0 b = some o → zab S' b = none) → DS P n r Q k (putV E' o.dst v) (S' ++ S0)) :
    DD P n r Q ops S0 [] [o] k E0 E S1 := fun K0 K D W hv0 hs a SPs hbx hfl hE hp hS0 hz hl hR => by
  show SW P ops.toArray _ W _ [o] SPs a
  unfold SW Front
  rw [if_pos (by simp [Region.wanted, hg]), if_pos hc]
  refine ⟨fun _ y => y, fun _ y => fun F h1 => ∃ v E' S', T v E' S' ∧ RunS P [] D n K hv0 hs S0 (putV E' o.dst v) S' (a.put o.dst y) F h1, ?_, fun _ y ⟨w', hw', hT⟩ => ?_⟩
  · unfold Spec
    rw [if_neg (by simp [hb])]
    have G := fun v E' S' y => RunS.good P [] D n K hv0 hs S0 (putV E' o.dst v) S' (a.put o.dst y)
    refine ⟨rfl, _, rfl, fun y => ⟨fun F h ⟨v, E', S', _, h2⟩ => (G v E' S' y).ext F h h2, fun F h ob ⟨v, E', S', h1, h2⟩ => ⟨v, E', S', h1, (G v E' S' y).push F h ob h2⟩, fun F F' h hF ⟨v, E', S', h1, h2⟩ => ⟨v, E', S', h1, (G v E' S' y).less F F' h hF h2⟩⟩, fun w F hF hw => ?_⟩
    obtain ⟨p1, p2, hv', hold, env', ha', s, p, f, g⟩ := hR F w.heap hF
    obtain ⟨K', hc', s', hprot, hK1, hK2, back⟩ := s.frame fun b o e => (g b o e).2.1
    refine (ho K' D hv' hc' env' a w (hfl.trans p) ha' s').mono fun y w' ⟨hsame, u, E2, S2, hv2, hold2, q1, q2, e1⟩ => ?_
    obtain ⟨hold3, t1, t2⟩ := back q1 q2
    have stay : ∀ b, K'.B b → w'.heap[b]? = w.heap[b]? ∧ hv2 b = hv' b := fun b hb => ⟨by rw [q2.base.2.2 b hb, hK1], by rw [q2.vbase.2 b hb, hK2]⟩
    have hFp : ∀ b, F b → K'.B b := fun b hb => hprot b (p1 b hb).2 (f b hb).1 (by
      have := (f b hb).2; rw [zby] at this
      cases e : zab S1 b with
      | none => rfl
      | some o => rw [e] at this; cases this)
    have hSp : ∀ b o, zab S0 b = some o → K'.B b := fun b o e => hprot b (Nat.lt_of_lt_of_le (g b o e).2.2 p2.1) (s.obj b o (by rw [zby, (g b o e).2.1]; exact e)).2.1 (g b o e).2.1
    have hsz : w.heap.size ≤ w'.heap.size := by have := q2.base.2.1; rwa [hK1] at this
    refine ⟨hsame, ⟨u, E2, S2, e1, fun b hb => ⟨(p1 b hb).1, Nat.lt_of_lt_of_le (p1 b hb).2 hsz⟩, ⟨Nat.le_trans p2.1 hsz, MpOk.nil⟩, hv2, hold3, _, ha'.put' hd y, t1, p.trans q1, fun b hb => ?_, fun b o e => ?_⟩, fun b o hb eb _ => ?_⟩
    · refine ⟨by rw [(stay b (hFp b hb)).2]; exact (f b hb).1, ?_⟩
      have hb2 := (f b hb).2
      rw [zby] at hb2 ⊢
      cases e : zab S2 b with
      | some o => exact absurd (hFp b hb) (q2.obj b o e).1
      | none =>
        cases e1 : zab S1 b with
        | some o => rw [e1] at hb2; cases hb2
        | none => rw [e1] at hb2; exact hb2
    · obtain ⟨g1, g2, g3⟩ := g b o e
      exact ⟨(stay b (hSp b o e)).1.trans g1, t2 b o e, g3⟩
    · rw [(stay b (hFp b hb)).1]; exact eb
  · intro w2 ⟨v, E', S', h1, h2⟩ hw2
    obtain ⟨_, _, hv, hold, env, ha, s, _, _, hg⟩ := h2
    exact q v E' S' h1 (fun b o e => (hg b o e).2.1) K0 W _ w2 ⟨K, D, hv, hold, env, hbx, ha, s⟩ hw2
theorem DD.mvS {x : Operand} {v : V} (hd : decide (t < n) = true) (hop : op = .move x ∨ op = .assign x) (hx : evV E x = some v) (q : DD P n r Q ops S0 Mp l k (delV t E0) ((t, v) :: zgu E x) S1) :
    DD P n r Q ops S0 Mp (⟨some t, op, ty, pos, af, none⟩ :: l) k E0 E S1 := fun K0 K D W hv0 hs a SPs hbx hfl hE hp hS0 hz hl hR => by
  obtain ⟨w1, hw1, hSP⟩ := hl
  have ev0 : ∀ {F h1}, SPs F h1 → ∃ env, Agree D n env a ∧ ev env x = some (a.eval x) := fun {F h1} hF => by
    obtain ⟨_, _, hv, hold, env, ha, s, _⟩ := hR F h1 hF
    obtain ⟨y, h2, _⟩ := s.rl _ _ hx
    exact ⟨env, ha, by rw [ha.ev h2]; exact h2⟩
  have run : ∀ w : World, (execOp a.eval ⟨some t, op, ty, pos, af, none⟩).run P w = .ok (.value (a.eval x)) w := fun w => by
    obtain ⟨env, ha, h2⟩ := ev0 hSP
    refine zhg ha ?_
    rcases hop with rfl | rfl <;> simp only [dop, h2]
  have hf : zdj ⟨some t, op, ty, pos, af, none⟩ = false := by rcases hop with rfl | rfl <;> rfl
  show SW P ops.toArray _ W _ (_ :: l) SPs a
  unfold SW Front
  rw [if_pos (by simp [Region.wanted]), if_neg (by simp [hf])]
  refine ⟨a.eval x, fun w' _ => run w', ?_⟩
  refine q K0 K D W hv0 hs _ SPs hbx hfl (by simpa [delO] using zsm (dst := some t) hE hd (a.eval x)) hp hS0 hz ⟨w1, hw1, hSP⟩ fun F h1 hF => ?_
  obtain ⟨p1, p2, hv', hold, env', ha', s, p, f, g⟩ := hR F h1 hF
  obtain ⟨y, h2, h3⟩ := s.rl _ _ hx
  have hy : a.eval x = y := ha'.ev h2
  obtain ⟨hold', s', ho⟩ := s.move hx h2 (.slot t)
  rw [hy]
  exact ⟨p1, p2, hv', hold', _, ha'.put' (d := some t) hd y, s'.put (some t) h3 (fun u hu => by cases hu; exact ho), p, f, g⟩
theorem DD.bslS {T len : Nat} {ps : Array (Nat × Operand)} {qs : List (Nat × V)} {e sz : Nat} {c : List V} (hd : decide (t < n) = true) (hp : zgp (evV E) ps.toList = some qs) (hb : bslV P T len qs = some (e, sz, c))
    (q : DD P n r Q ops S0 Mp l k (delV t E0) ((t, .own false e sz (chunk sz len c)) :: E) S1) : DD P n r Q ops S0 Mp (⟨some t, .buildSlice T len ps, ty, pos, af, none⟩ :: l) k E0 E S1 := DD.bsl hd hp hb q
theorem zqw {hv : VH} {p : Option Addr} : ∀ {c : List V} {i : Nat}, RlC hv p i c → RlC hv p i (c.map V.peek)
  | [], _, h => h
  | v :: r, i, h => by
    simp only [RlC, List.map_cons] at h ⊢
    obtain ⟨⟨u, h1, h2, h3⟩, h4⟩ := h
    exact ⟨⟨u, h1, V.peek_Rl h2, h3⟩, zqw h4⟩
theorem zvb {hv : VH} {p : Option Addr} : ∀ {l : List (List V)} {i : Nat}, RlE hv p i l → RlE hv p i (l.map (·.map V.peek))
  | [], _, h => h
  | c :: r, i, h => by
    simp only [RlE, List.map_cons, List.length_map] at h ⊢
    exact ⟨zqw h.1, zvb h.2⟩
theorem DS.nrm {m : Bool} {e sz : Nat} {cl : List (List V)} (hE : zcl E t = some (.own m e sz cl)) (q : DS P n r Q k ((t, .own m e sz (cl.map (·.map V.peek))) :: E) S) : DS P n r Q k E S := fun K W a w ⟨K', D, hv, hold, env, hb, ha, s⟩ hw => by
  obtain ⟨y, e1, e2, e3⟩ := s.slot t _ hE
  refine q K W a w ⟨K', D, hv, hold, env, hb, ha, ⟨s.pre, fun u v e => ?_, s.obj, s.held, s.base, s.vbase⟩⟩ hw
  simp only [zcl] at e
  by_cases hu : t = u
  · subst hu
    simp only [if_true, Option.some.injEq] at e; subst e
    refine ⟨y, e1, ?_, ?_⟩
    · simp only [V.Rl] at e2 ⊢
      obtain ⟨p, cap, s2, h1, h2, h3, h4, h5⟩ := e2
      exact ⟨p, cap, s2, by simpa using h1, by simpa using h2, h3, fun c hc => by obtain ⟨d, hd, rfl⟩ := List.mem_map.1 hc; simpa using h4 d hd, zvb h5⟩
    · rcases e3 with ⟨h1, h2⟩ | ⟨g, cap, cur, pre, h1, h2, h3, h4, h5, h6, h7, h8, h9⟩
      · exact .inl ⟨h1, by rw [h2]; rfl⟩
      · exact .inr ⟨g, cap, cur, pre, by simpa using h1, h2, h3, by simpa using h4, h5, h6, h7, by simpa using h8, fun c hc => by obtain ⟨d, hd, rfl⟩ := List.mem_map.1 hc; simpa using h9 d hd⟩
  · rw [if_neg hu] at e; exact s.slot u v e
end
end Go.XL
namespace Go.XL
section
variable {P : Program} {n : Nat} {r : Rr} {Q : VEnv → Sto → Prop} {k : List Fr} {E0 E : VEnv} {S S0 S1 : Sto} {Mp : List MpE} {ops l : List Oper} {t : Nat} {dst : Option Tmp} {op : Op} {ty : TypeId} {pos : String} {af : Array Edge} {ts : Array TypeId}
theorem DD.mk {T : TypeId} {x y : Operand} {kl kc : IntKind} {i c : Int} {e sz by_ : Nat} {z : Value} (hd : decide (t < n) = true) (hx : evV E x = some (.v (.int kl i))) (hy : evV E y = some (.v (.int kc c))) (ht : tel P T = some (e, sz, by_)) (hz : zde P e = some z) (ho : zgf z.cells.toList = true) (hzs : z.cells.size = sz)
    (hb : 0 ≤ i ∧ i ≤ c ∧ by_ ≤ 65536 ∧ c ≤ 2147483648)
    (q : ∀ u, zab S1 u = none → zab S0 u = none → DD P n r Q ops S0 Mp l k ((t, .v (.slice (some ⟨u, 0, none⟩) i.toNat c.toNat)) :: E0) ((t, .v (.slice (some ⟨u, 0, none⟩) i.toNat c.toNat)) :: E) ((u, .cells (zdo z c.toNat) e) :: S1)) :
    DD P n r Q ops S0 Mp (⟨some t, .makeSlice T x y, ty, pos, af, none⟩ :: l) k E0 E S1 := by
  refine DD.bornO (o := ⟨some t, .makeSlice T x y, ty, pos, af, none⟩) (vb := fun u => .slice (some ⟨u, 0, none⟩) i.toNat c.toNat) rfl rfl rfl hd (fun hv D env a ha rl => ?_) (zhs z c.toNat) q
  obtain ⟨u1, h1, h1'⟩ := rl _ _ hx
  obtain ⟨u2, h2, h2'⟩ := rl _ _ hy
  simp only [V.Rl] at h1' h2'; subst h1'; subst h2'
  have hc : (by_ : Int) * c ≤ 281474976710656 ∧ c ≤ 9223372036854775807 := by
    refine ⟨?_, by omega⟩
    have q1 : (by_ : Int) * c ≤ 65536 * 2147483648 := Int.mul_le_mul (by omega) hb.2.2.2 (by omega) (by omega)
    omega
  have hcells : madeCells z.cells (c.toNat * sz) = ((List.replicate c.toNat z.cells.toList).flatten).toArray := by
    have := zhr z.cells c.toNat
    rw [hzs] at this
    unfold madeCells
    rw [← this]
    simp only [Array.toArray_toList]
    rw [hzs]
  refine ⟨(List.replicate c.toNat z.cells.toList).flatten, zkp z c.toNat, zji ho c.toNat, fun w => ?_⟩
  refine zln (P := P) (y := fun u => .slice (some ⟨u, 0, none⟩) i.toNat c.toNat) ha (fun i => by simp [undef]) (fun h1' => ?_) w
  simp only [hop, h1, h2, ht, hz]; rw [if_pos ⟨hb.1, hb.2.1, hc⟩, hcells]
theorem DS.mkS {T : TypeId} {x y : Operand} {kl kc : IntKind} {i c : Int} {e sz by_ : Nat} {z : Value} (hd : decide (t < n) = true) (hx : evV E x = some (.v (.int kl i))) (hy : evV E y = some (.v (.int kc c))) (ht : tel P T = some (e, sz, by_)) (hz : zde P e = some z) (ho : zgf z.cells.toList = true) (hzs : z.cells.size = sz)
    (hb : 0 ≤ i ∧ i ≤ c ∧ by_ ≤ 65536 ∧ c ≤ 2147483648) (q : ∀ b, zab S b = none → DS P n r Q (.ops ops l :: k) ((t, .v (.slice (some ⟨b, 0, none⟩) i.toNat c.toNat)) :: E) ((b, .cells (zdo z c.toNat) e) :: S)) :
    DS P n r Q (.ops ops (⟨some t, .makeSlice T x y, ty, pos, af, none⟩ :: l) :: k) E S := DS.mk (dst := some t) hd hx hy ht hz ho hzs hb q
theorem RlL.setL {hv : VH} {cl : List V} {cs : List Value} (h : RlL hv cl cs) {off : Nat} {v : V} {y : Value} (hy : cs[off]? = some y) (hv' : v.Rl hv y) : RlL hv (cl.set off v) cs := by
  have e : cs.set off y = cs := by
    apply List.ext_getElem?
    intro i
    rw [List.getElem?_set]
    by_cases hi : off = i
    · subst hi
      have := (List.getElem?_eq_some_iff.1 hy).1
      rw [if_pos rfl, if_pos this, hy]
    · rw [if_neg hi]
  have := h.set off hv'
  rwa [e] at this
theorem DS.adoptC {b off e sz : Nat} {cl : List V} {T' : TypeId} (hS : zab S b = some (.cells cl T')) (hc : cl[off]? = some (.v (.slice none 0 0))) (q : DS P n r Q k E (setS b (.cells (cl.set off (.own false e sz [])) T') S)) : DS P n r Q k E S := fun K W a w ⟨K', D, hv, hold, env, hb, ha, s⟩ hw => by
  refine q K W a w ⟨K', D, hv, hold, env, hb, ha, ⟨s.pre, s.slot, fun j o e1 => ?_, s.held, s.base, s.vbase⟩⟩ hw
  rw [zbg hS] at e1
  by_cases hj : j = b
  · subst hj
    rw [if_pos rfl] at e1
    simp only [Option.some.injEq] at e1; subst e1
    obtain ⟨o1, o2, cs, o3, o4, o5, o6⟩ := s.obj j _ hS
    obtain ⟨y, hy, hr⟩ := o4.get hc
    simp only [V.Rl] at hr; subst hr
    refine ⟨o1, o2, cs, o3, o4.setL hy (by simp only [V.Rl]; exact ⟨none, 0, 0, rfl, Nat.le_refl _, Nat.zero_le _, by simp, by simp [RlE]⟩), o5, fun i c u hc' hu => ?_⟩
    rw [List.getElem?_set] at hc'
    by_cases hi : off = i
    · rw [if_pos hi] at hc'
      split at hc'
      · simp only [Option.some.injEq] at hc'; subst hc'; subst hi
        rw [hy] at hu; cases hu
        exact .inl ⟨rfl, rfl⟩
      · cases hc'
    · rw [if_neg hi] at hc'
      exact o6 i c u hc' hu
  · rw [if_neg hj] at e1; exact s.obj j o e1
theorem St.moveC {K : Bs} {hv : VH} {hold : Nat → Option Hd} {env : Env} {h : Heap} (s : St K hv hold E S env h) {b off : Nat} {cl : List V} {T' : TypeId} (hS : zab S b = some (.cells cl T')) {m : Bool} {e sz : Nat} {l : List (List V)} (hc : cl[off]? = some (.own m e sz l)) (z : Hd) :
    ∃ (hold' : Nat → Option Hd) (cs : List Value) (y : Value), h[b]? = some (.cells cs.toArray T' (0, 0)) ∧ cs[off]? = some y ∧ St K hv hold' E (setS b (.cells (cl.set off (.lst l)) T') S) env h ∧ Own hv h hold' z (.own m e sz l) y ∧ (V.own m e sz l).Rl hv y := by
  obtain ⟨o1, o2, cs, o3, o4, o5, o6⟩ := s.obj b _ hS
  obtain ⟨y, hy, hr⟩ := o4.get hc
  have hl : (V.lst l).Rl hv y := by simpa only [V.Rl] using hr
  have key : ∀ hold' : Nat → Option Hd, (∀ g x, hold g = some x → x ≠ .cell b off → hold' g = some x) → (∀ g x, hold' g = some x → ¬ K.B g) → St K hv hold' E (setS b (.cells (cl.set off (.lst l)) T') S) env h := by
    intro hold' hk hB
    refine ⟨s.pre, fun u w e1 => ?_, fun j o e1 => ?_, hB, s.base, s.vbase⟩
    · obtain ⟨y2, r1, r2, r3⟩ := s.slot u w e1
      exact ⟨y2, r1, r2, r3.keep fun g ob a1 a2 a3 => ⟨rfl, rfl, hk g _ a1 (by simp)⟩⟩
    · rw [zbg hS] at e1
      by_cases hj : j = b
      · subst hj
        rw [if_pos rfl] at e1
        simp only [Option.some.injEq] at e1; subst e1
        refine ⟨o1, o2, cs, o3, o4.setL hy hl, o5, fun i c u hc' hu => ?_⟩
        rw [List.getElem?_set] at hc'
        by_cases hi : off = i
        · rw [if_pos hi] at hc'
          split at hc'
          · simp only [Option.some.injEq] at hc'; subst hc'; exact trivial
          · cases hc'
        · rw [if_neg hi] at hc'
          exact (o6 i c u hc' hu).keep fun g ob a1 a2 a3 => ⟨rfl, rfl, hk g _ a1 (by simp; omega)⟩
      · rw [if_neg hj] at e1
        obtain ⟨r1, r2, r3⟩ := s.obj j o e1
        exact ⟨r1, r2, Ob.keep r3 (PreV.refl hv) rfl fun g i ob a1 a2 a3 => ⟨rfl, rfl, hk g _ a1 (by simp; intro h; exact absurd h hj)⟩⟩
  rcases o6 off _ y hc hy with o | ⟨g, cap, cur, pr, q1, q2, q3, q4, q5, q6, q7, q8⟩
  · exact ⟨hold, cs, y, o3, hy, key hold (fun _ _ h _ => h) s.held, .inl o, hr⟩
  · refine ⟨fun j => if j = g then some z else hold j, cs, y, o3, hy, key _ (fun g' x h1 h2 => ?_) (fun g' x h1 => ?_), .inr ⟨g, cap, cur, pr, q1, by simp, q3, q4, q5, q6, q7, q8⟩, hr⟩
    · have : g' ≠ g := fun e1 => by subst e1; rw [q2] at h1; cases h1; exact h2 rfl
      simp [this, h1]
    · by_cases hj : g' = g
      · subst hj; exact s.held _ _ q2
      · simp only [hj, if_false] at h1; exact s.held g' x h1
theorem OpS.loadOwn {v0 : VH} {T : TypeId} {p : Operand} {b off mm : Nat} {cl : List V} {T' : TypeId} {m : Bool} {e sz : Nat} {l : List (List V)} (hp : evV E p = some (.v (.pointer (some ⟨b, off, none⟩)))) (hS : zab S b = some (.cells cl T')) (hc : cl[off]? = some (.own m e sz l)) (ht : tsz P T = some (false, mm)) :
    OpS v0 P n ⟨some t, .load T p, ty, pos, af, none⟩ E S (fun u E' S' => u = .own m e sz l ∧ E' = E ∧ S' = setS b (.cells (cl.set off (.lst l)) T') S) := by
  intro K D hv hold env a w hfl ha s
  obtain ⟨y0, h2, h2'⟩ := s.rl _ _ hp
  simp only [V.Rl] at h2'; subst h2'
  obtain ⟨hold', cs, y, c1, c2, c3, c4, c5⟩ := s.moveC hS hc (.slot t)
  have hr : (execOp a.eval ⟨some t, .load T p, ty, pos, af, none⟩).run P w = .ok (.value y) w := by
    refine zhg ha ?_
    simp only [dop, h2, ldT, ht, ld, Option.bind_some, XL.cell, c1]
    simpa using c2
  unfold Yields
  rw [hr]
  exact ⟨⟨rfl, rfl, rfl⟩, _, _, _, hv, hold', PreV.refl hv, c3.put (some t) c5 (fun u hu => by cases hu; exact c4), rfl, rfl, rfl⟩
theorem DS.loadOwn {T : TypeId} {p : Operand} {b off mm : Nat} {cl : List V} {T' : TypeId} {m : Bool} {e sz : Nat} {cll : List (List V)} (hd : decide (t < n) = true) (hp : evV E p = some (.v (.pointer (some ⟨b, off, none⟩)))) (hS : zab S b = some (.cells cl T')) (hc : cl[off]? = some (.own m e sz cll)) (ht : tsz P T = some (false, mm))
    (q : DS P n r Q (.ops ops l :: k) ((t, .own m e sz cll) :: E) (setS b (.cells (cl.set off (.lst cll)) T') S)) : DS P n r Q (.ops ops (⟨some t, .load T p, ty, pos, af, none⟩ :: l) :: k) E S := by
  refine DS.step rfl rfl hd (OpS.loadOwn hp hS hc ht) fun u E' S' ⟨h1, h2, h3⟩ => ?_
  subst h1; subst h2; subst h3; exact q
end
end Go.XL
namespace Go.XL
open Go.Proofs
set_option maxRecDepth 100000
set_option maxHeartbeats 4000000
section
variable {P : Program} {n : Nat} {r : Rr} {Q : VEnv → Sto → Prop} {k : List Fr} {E0 E : VEnv} {S S0 S1 : Sto} {Mp : List MpE} {ops l : List Oper} {t : Nat} {dst : Option Tmp} {op : Op} {ty : TypeId} {pos : String} {af : Array Edge} {ts : Array TypeId}
theorem DS.rcVS {cx : Operand} {g : FuncId} {fs cs args : List V} {xs : Array Operand} {fn : Func} {v : V} (hf : FnOk P g fn) (hcx : evV E cx = some (.fn g fs cs)) (hc : RC P g (fs ++ args ++ cs) S v) (hd : decide (t < n) = true)
    (he : (evsV (evV E) xs.toList).map (·.map V.peek) = some args) (q : DS P n r Q (.ops ops l :: k) ((t, v) :: E) S) :
    DS P n r Q (.ops ops (⟨some t, .call { callee := .value cx, args := xs, argTypes := ts }, ty, pos, af, none⟩ :: l) :: k) E S := by
  refine DS.callV (dst := some t) S [] hf hcx hc hd he (fun _ _ e => e) (fun _ _ e => by cases e) ?_
  rintro u S' ⟨rfl, rfl⟩ -
  simpa [putV] using q
end
theorem zmc {α β : Type} {f : α → β} {T : List α} {j : List β} {k : Nat} (h : k < T.length) : ((T.map f) ++ j)[k]? = some (f T[k]) := by
  rw [List.getElem?_append_left (by simpa using h), List.getElem?_map, List.getElem?_eq_getElem h]; rfl
structure GR where
  l : List (List V)
  blk : Option (Nat × Nat × List V)
def GR.cell : GR → V
  | ⟨_, none⟩ => .v (.slice none 0 0)
  | ⟨l, some (b, cap, _)⟩ => .v (.slice (some ⟨b, 0, none⟩) l.length cap)
structure GR.At (e sz : Nat) (S : Sto) (l : List (List V)) (b cap : Nat) (j : List V) : Prop where
  look : zab S b = some (.cells (l.flatten ++ j) e)
  len : l.length * sz + j.length = cap * sz
  le : l.length ≤ cap
  cap : cap ≤ maxLen
  jf : ∀ v ∈ j, v.free = true
  lf : ∀ v ∈ l.flatten, v.free = true
  ll : ∀ c ∈ l, c.length = sz
def GR.Ok (e sz : Nat) (S : Sto) : GR → Prop
  | ⟨l, none⟩ => l = []
  | ⟨l, some (b, cap, j)⟩ => GR.At e sz S l b cap j
theorem GR.cell_copy (g : GR) : g.cell.copy = g.cell := by obtain ⟨l, blk⟩ := g; cases blk <;> rfl
theorem GR.cell_some (l : List (List V)) (b cap : Nat) (j : List V) : GR.cell ⟨l, some (b, cap, j)⟩ = .v (.slice (some ⟨b, 0, none⟩) l.length cap) := rfl
theorem GR.cell_none (l : List (List V)) : GR.cell ⟨l, none⟩ = .v (.slice none 0 0) := rfl
theorem GR.Ok.of {e sz : Nat} {S S' : Sto} {g : GR} (h : g.Ok e sz S) (eq : ∀ b cap j, g.blk = some (b, cap, j) → zab S' b = zab S b) : g.Ok e sz S' := by
  obtain ⟨l, blk⟩ := g
  cases blk with
  | none => exact h
  | some x =>
    obtain ⟨b, cap, j⟩ := x
    exact ⟨by rw [eq b cap j rfl]; exact h.look, h.len, h.le, h.cap, h.jf, h.lf, h.ll⟩
theorem GR.split {e sz : Nat} {S : Sto} {g : GR} (h : g.Ok e sz S) : ∃ S0 S1, (∀ b o, zab S0 b = some o → zab S b = some o ∧ zab S1 b = none) ∧ (∀ b o, zab S1 b = some o → zab S b = some o) ∧ g.Ok e sz S1 ∧
    ∀ b, (∀ cap j, g.blk ≠ some (b, cap, j)) → zab S0 b = zab S b ∧ zab S1 b = none := by
  obtain ⟨l, blk⟩ := g
  cases blk with
  | none => exact ⟨S, [], fun _ _ e => ⟨e, rfl⟩, (fun _ _ e => by cases e), h, fun _ _ => ⟨rfl, rfl⟩⟩
  | some x =>
    obtain ⟨b0, cap, j⟩ := x
    have h1 := h.look
    refine ⟨delS b0 S, [(b0, .cells (l.flatten ++ j) e)], fun b o e => ?_, fun b o e => ?_, ⟨by simp [zab], h.len, h.le, h.cap, h.jf, h.lf, h.ll⟩, fun b hb => ?_⟩
    · rw [zck] at e
      split at e
      · cases e
      · rename_i hne
        exact ⟨e, by simp only [zab]; rw [if_neg (fun h => hne h.symm)]⟩
    · simp only [zab] at e
      split at e
      · rename_i hbb; subst hbb; rw [h1]; exact e
      · cases e
    · have hne : ¬ b0 = b := fun h => hb cap j (by rw [h])
      exact ⟨by rw [zck, if_neg (fun h => hne h.symm)], by simp only [zab]; rw [if_neg hne]⟩
theorem zgr {sz : Nat} : ∀ {l : List (List V)}, (∀ c ∈ l, c.length = sz) → l.flatten.length = l.length * sz
  | [], _ => by simp
  | c :: r, h => by
    have := zgr (sz := sz) (l := r) fun c hc => h c (List.mem_cons_of_mem _ hc)
    rw [List.flatten_cons, List.length_append, this, h c (List.mem_cons_self ..), List.length_cons, Nat.succ_mul, Nat.add_comm]
theorem zfu (ml : List (List V)) : ml.flatten.map V.copy = (ml.map (·.map V.copy)).flatten := by rw [List.map_flatten]
section
variable {v0 : VH} {P : Program} {n : Nat} {E : VEnv} {S : Sto} {dst : Option Tmp} {ty : TypeId} {pos : String} {af : Array Edge}
theorem OpS.appG {g : GR} {T t by_ e sz : Nat} {z : Value} {sx x : Operand} {vx : V} {ml : List (List V)} (hd : dst = some t) (ht : tel P T = some (e, sz, by_)) (hz : zde P e = some z) (hzs : z.cells.size = sz) (hzo : zgf z.cells.toList = true) (hsz : 0 < sz)
    (hs : evV E sx = some g.cell) (hok : g.Ok e sz S) (hx : evV E x = some vx) (hxl : zdz vx = some ml) (hm : 0 < ml.length) (hml : ∀ c ∈ ml, c.length = sz) (hfit : g.l.length + ml.length ≤ 2147483648 ∧ by_ ≤ 65536) :
    OpS v0 P n ⟨dst, .call { callee := .builtin .append, args := #[sx, x], argTypes := #[T, T] }, ty, pos, af, none⟩ E S
      (fun u E' S' => E' = E ∧ ∃ b' cap' junk, u = GR.cell ⟨g.l ++ ml.map (·.map V.copy), some (b', cap', junk)⟩ ∧ GR.Ok e sz S' ⟨g.l ++ ml.map (·.map V.copy), some (b', cap', junk)⟩ ∧ ((∃ cap j, g.blk = some (b', cap, j)) ∨ zab S b' = none) ∧
        ∀ b, b ≠ b' → (∀ cap j, g.blk ≠ some (b, cap, j)) → zab S' b = zab S b) := by
  obtain ⟨R, blk⟩ := g
  intro K D hv hold env a w hfl ha s
  cases blk with
  | none =>
    simp only [GR.Ok] at hok
    subst hok
    refine (OpS.appN hd ht hz hzs hzo hsz hs hx hxl hm hml (by simpa [Fits] using hfit) K D hv hold env a w hfl ha s).mono ?_
    rintro y w' ⟨hsame, u, E2, S2, hv2, hold2, q1, q2, h1, b', cap', junk, h2, h3, h4, h5, h6, h7, h8⟩
    refine ⟨hsame, u, E2, S2, hv2, hold2, q1, q2, h1, b', cap', junk, ?_, ?_, ?_, ?_⟩
    · rw [h2]; simp [GR.cell]
    · subst h3
      refine ⟨?_, ?_, ?_, h7, h8, ?_, ?_⟩
      · simp only [zab, if_true, List.nil_append, Nat.zero_mul, List.take_zero, zfu]
      · simpa using h5
      · simpa using h6
      · rw [List.nil_append, ← zfu]; exact zmn _
      · intro c hc
        rw [List.nil_append] at hc
        obtain ⟨d, hd, rfl⟩ := List.mem_map.1 hc
        rw [List.length_map]; exact hml d hd
    · exact .inr (h4.resolve_left (by simp))
    · intro b hb _
      subst h3
      simp only [zab, delB]
      rw [if_neg (fun h => hb h.symm)]
  | some x =>
    obtain ⟨b0, cap0, j0⟩ := x
    have hfl' := zgr hok.ll
    refine (OpS.appC hd ht hz hzs hzo hsz hs hok.look (by rw [List.length_append, hfl']; exact hok.len) hok.le hok.cap (fun v hv => (List.mem_append.1 hv).elim (hok.lf v) (hok.jf v)) hx hxl hm hml (by simpa [Fits] using hfit) K D hv hold env a w hfl ha s).mono ?_
    rintro y w' ⟨hsame, u, E2, S2, hv2, hold2, q1, q2, h1, b', cap', junk, h2, h3, h4, h5, h6, h7, h8⟩
    refine ⟨hsame, u, E2, S2, hv2, hold2, q1, q2, h1, b', cap', junk, ?_, ?_, ?_, ?_⟩
    · rw [h2]; simp [GR.cell]
    · subst h3
      refine ⟨?_, ?_, ?_, h7, h8, ?_, ?_⟩
      · simp only [zab, if_true, Option.some.injEq, Ob.cells.injEq, and_true]
        rw [List.take_append_of_le_length (by omega), List.take_of_length_le (by omega), zfu, List.flatten_append]
      · simpa using h5
      · simpa using h6
      · rw [List.flatten_append, ← zfu]
        exact fun v hv => (List.mem_append.1 hv).elim (hok.lf v) (zmn _ v)
      · intro c hc
        rcases List.mem_append.1 hc with hc | hc
        · exact hok.ll c hc
        · obtain ⟨d, hd, rfl⟩ := List.mem_map.1 hc
          rw [List.length_map]; exact hml d hd
    · rcases h4 with h4 | h4
      · cases h4; exact .inl ⟨_, _, rfl⟩
      · exact .inr h4
    · intro b hb hnb
      subst h3
      simp only [zab, delB]
      rw [if_neg (fun h => hb h.symm), zck, if_neg]
      intro h; subst h; exact hnb _ _ rfl
end
end Go.XL
namespace Go.XL
open Go.Proofs
open Go.Maps (Keyed)
open Go.ChangeMaps (setBlock)
def V.Is (v : V) (x : Value) : Prop := ∀ hv y, v.Rl hv y → y = x
theorem V.Is.v (x : Value) : (V.v x).Is x := fun hv y h => by simpa only [V.Rl] using h
theorem V.Is.two (x y : Value) : (V.agg [.v x, .v y]).Is (.agg #[x, y]) := fun hv z h => by
  simp only [V.Rl, RlL] at h
  obtain ⟨ys, rfl, a, ar, rfl, rfl, b, br, rfl, rfl, rfl⟩ := h
  rfl
theorem DS.drawLM {P : Program} {n : Nat} {r : Rr} {Q : VEnv → Sto → Prop} {k : List Fr} {E : VEnv} {S : Sto} {id : Nat} {os l1 l2 : List Oper} (S0 S1 : Sto) (Mp : List MpE) (ord : List Nat) (m : Nat) (hok : zlp os.toArray ord m = true) (hm : P.follows .mixedOrders = true) (h1 : zma os ord = l1) (h2 : os.drop m = l2)
    (hM : MpOk P Mp (S1 ++ S0)) (h0 : ∀ b o, zab S0 b = some o → zab S b = some o ∧ zab S1 b = none) (h3 : ∀ b o, zab S1 b = some o → zab S b = some o)
    (q : DD P n r Q os S0 Mp l1 (.ops os l2 :: k) E E S1) : DS P n r Q (.code (.region id os.toArray true) :: k) E S :=
  DS.draw S0 S1 Mp hM ord m hok hm h0 h3 (by rw [zlb, h1]; simpa [h2] using q)
section
variable {v0 : VH} {P : Program} {n : Nat} {r : Rr} {Q : VEnv → Sto → Prop} {k : List Fr} {E E0 : VEnv} {S S0 S1 : Sto} {Mp : List MpE} {dst : Option Tmp} {ty : TypeId} {pos : String} {af : Array Edge} {ops l : List Oper}
theorem OpS.lookK {T kt e : TypeId} {mx kx : Operand} {b : Nat} {f : Value → Option Value} {es : Array MapEntry} {clock : Nat} {key z : Value} {kv : V} (K : Keyed P kt) (ht : P.underlying T = some (.map kt e)) (hz : zde P e = some z) (M : MapIs P kt f es clock) (hk : zjh P kt key)
    (h1 : evV E mx = some (.v (.map (some b)))) (h2 : evV E kx = some kv) (hkv : kv.Is key) (hS : zab S b = some (.raw (.map es clock))) :
    OpS v0 P n ⟨dst, .lookup T mx kx false, ty, pos, af, none⟩ E S (fun u E' S' => u = .v ((f key).getD z) ∧ E' = E ∧ S' = S) := by
  intro K1 D hv hold env a w hfl ha s
  obtain ⟨y1, a1, b1⟩ := s.rl _ _ h1
  obtain ⟨y2, a2, b2⟩ := s.rl _ _ h2
  simp only [V.Rl] at b1
  subst b1
  have b2 := hkv _ _ b2
  subst b2
  have hb : w.heap[b]? = some (.map es clock) := (s.obj b _ hS).2.2
  have := zjp K ht (fun w => zff hz w) M hk w hb
  refine zdy (w' := w) (by simp [execOp, ha.ev a1, ha.ev a2, this]) ⟨Same.refl w, _, E, S, hv, hold, PreV.refl hv, s.put dst V.Rl_v fun _ _ => trivial, rfl, rfl, rfl⟩
theorem DS.lookK {T kt e : TypeId} {mx kx : Operand} {b : Nat} {f : Value → Option Value} {es : Array MapEntry} {clock : Nat} {key z : Value} {kv : V} (K : Keyed P kt) (ht : P.underlying T = some (.map kt e)) (hz : zde P e = some z) (M : MapIs P kt f es clock) (hk : zjh P kt key)
    (h1 : evV E mx = some (.v (.map (some b)))) (h2 : evV E kx = some kv) (hkv : kv.Is key) (hS : zab S b = some (.raw (.map es clock))) (hd : dok n dst = true) (q : DS P n r Q (.ops ops l :: k) (putV E dst (.v ((f key).getD z))) S) :
    DS P n r Q (.ops ops (⟨dst, .lookup T mx kx false, ty, pos, af, none⟩ :: l) :: k) E S := by
  refine DS.step rfl rfl hd (OpS.lookK K ht hz M hk h1 h2 hkv hS) fun u E' S' ⟨h1, h2, h3⟩ => ?_
  subst h1; subst h2; subst h3; exact q
theorem OpS.entryK {T kt e : TypeId} {mx kx : Operand} {b : Nat} {f : Value → Option Value} {es : Array MapEntry} {clock : Nat} {key z : Value} {kv : V} (K : Keyed P kt) (ht : P.underlying T = some (.map kt e)) (hz : zde P e = some z) (M : MapIs P kt f es clock) (hk : zjh P kt key)
    (h1 : evV E mx = some (.v (.map (some b)))) (h2 : evV E kx = some kv) (hkv : kv.Is key) (hS : zab S b = some (.raw (.map es clock))) :
    ∃ st es1 clock1, MapIs P kt (upd f key ((f key).getD z)) es1 clock1 ∧ zvf P T kt b f key st es1 clock1 ∧
      OpS v0 P n ⟨dst, .mapEntry T mx kx, ty, pos, af, none⟩ E S (fun u E' S' => u = .tup [.v ((f key).getD z), .v (goInt st)] ∧ E' = E ∧ S' = setS b (.raw (.map es1 clock1)) S) := by
  obtain ⟨st, es1, clock1, q1, q2, q3⟩ := zsl (b := b) K ht (fun w => zff hz w) M hk
  refine ⟨st, es1, clock1, q1, q3, ?_⟩
  intro K1 D hv hold env a w hfl ha s
  obtain ⟨y1, a1, b1⟩ := s.rl _ _ h1
  obtain ⟨y2, a2, b2⟩ := s.rl _ _ h2
  simp only [V.Rl] at b1
  subst b1
  have b2 := hkv _ _ b2
  subst b2
  obtain ⟨hb, s'⟩ := s.putObj (o' := .map es1 clock1) hS
  have := q2 w hb
  refine zdy (w' := setBlock w b (.map es1 clock1)) (by simp [execOp, ha.ev a1, ha.ev a2, this]; rfl) ⟨⟨rfl, rfl, rfl⟩, _, E, _, hv, hold, PreV.refl hv, s'.put dst (by simp only [V.Rl, RlL]; exact ⟨_, rfl, _, _, rfl, rfl, _, _, rfl, rfl, rfl⟩) fun _ _ => V.free_Own (v := .tup [.v ((f y2).getD z), .v (goInt st)]) rfl _, rfl, rfl, rfl⟩
theorem DD.entryK {T kt e : TypeId} {mx kx : Operand} {b : Nat} {f : Value → Option Value} {es : Array MapEntry} {clock : Nat} {key z : Value} {kv : V} (K : Keyed P kt) (ht : P.underlying T = some (.map kt e)) (hz : zde P e = some z) (M : MapIs P kt f es clock) (hk : zjh P kt key)
    (h1 : evV E mx = some (.v (.map (some b)))) (h2 : evV E kx = some kv) (hkv : kv.Is key) (hS : zab S1 b = some (.raw (.map es clock))) (hd : dok n dst = true) (hMp : ∀ me ∈ Mp, me.b = b → me.k = kt ∧ me.z = z)
    (q : ∀ st es1 clock1, MapIs P kt (upd f key ((f key).getD z)) es1 clock1 → zvf P T kt b f key st es1 clock1 → DD P n r Q ops S0 Mp l k (delO dst E0) (putV E dst (.tup [.v ((f key).getD z), .v (goInt st)])) (setS b (.raw (.map es1 clock1)) S1)) :
    DD P n r Q ops S0 Mp (⟨dst, .mapEntry T mx kx, ty, pos, af, none⟩ :: l) k E0 E S1 := by
  obtain ⟨st, es1, clock1, q1, q2, q3⟩ := OpS.entryK (v0 := r.v0) (n := n) (dst := dst) (ty := ty) (pos := pos) (af := af) K ht hz M hk h1 h2 hkv hS
  refine DD.step rfl rfl rfl hd q3 (fun hM me hme => ?_) (q st es1 clock1 q1 q2)
  obtain ⟨o, ho, hof⟩ := hM me hme
  have hset : zab (setS b (.raw (.map es1 clock1)) S1 ++ S0) me.b = if me.b = b then some (.raw (.map es1 clock1)) else zab (S1 ++ S0) me.b := by
    rw [zby, zbg hS]
    by_cases hb : me.b = b
    · rw [if_pos hb, if_pos hb]
    · rw [if_neg hb, if_neg hb, zby]
  by_cases hb : me.b = b
  · obtain ⟨e1, e2⟩ := hMp me hme hb
    refine ⟨_, by rw [hset, if_pos hb], es1, clock1, _, rfl, by rw [e1]; exact q1, fun x => ?_⟩
    rw [zby, hb, hS] at ho
    simp only [Option.some.injEq, Ob.raw.injEq] at ho
    subst ho
    obtain ⟨es', clock', f', e3, M', hg⟩ := hof
    cases e3
    have := M.det M'
    subst this
    rw [← hg x, e2]
    by_cases hx : x = key
    · subst hx; rw [zgd]; rfl
    · rw [zil _ _ hx]
  · exact ⟨o, by rw [hset, if_neg hb]; exact ho, hof⟩
theorem DD.lookK {T : TypeId} {mx kx : Operand} {me : MpE} {e : TypeId} {key : Value} {kv : V} (hm : me ∈ Mp) (K : Maps.Keyed P me.k) (ht : P.underlying T = some (.map me.k e)) (hz : zde P e = some me.z) (hd : dok n dst = true)
    (h1 : evV E0 mx = some (.v (.map (some me.b)))) (h2 : evV E0 kx = some kv) (hkv : kv.Is key) (hk : zjh P me.k key) (q : DD P n r Q ops S0 Mp l k (putV E0 dst (.v (me.g key))) (putV E dst (.v (me.g key))) S1) :
    DD P n r Q ops S0 Mp (⟨dst, .lookup T mx kx false, ty, pos, af, none⟩ :: l) k E0 E S1 := fun K0 K1 D W hv0 hs a SPs hbx hfl hE hp hS0 hzz hl hR => by
  obtain ⟨env, ha, hE'⟩ := hE
  have rl : RlO hv0 (evV E0) (ev env) := by
    intro x u e
    cases x with
    | tmp t => exact hE' t u e
    | const c => simp only [evV, Option.some.injEq] at e; subst e; exact ⟨c, rfl, V.Rl_v⟩
    | global g => simp only [evV, Option.some.injEq] at e; subst e; exact ⟨_, rfl, V.Rl_v⟩
    | func g => simp only [evV, Option.some.injEq] at e; subst e; exact ⟨_, rfl, by simp only [V.Rl]; exact ⟨[], [], rfl, by simp [RlL], by simp [RlL]⟩⟩
  obtain ⟨y1, a1, b1⟩ := rl _ _ h1
  obtain ⟨y2, a2, b2⟩ := rl _ _ h2
  simp only [V.Rl] at b1
  subst b1
  have b2 := hkv _ _ b2
  subst b2
  have run : ∀ w : World, RdOf P Mp hv0 hs S0 w.heap → (execOp a.eval ⟨dst, .lookup T mx kx false, ty, pos, af, none⟩).run P w = .ok (.value (me.g y2)) w := fun w hr => by
    obtain ⟨o, ho, es, clock, f, rfl, M, hg⟩ := hr.2.2 me hm
    have := zjp K ht (fun w => zff hz w) M hk w ho
    rw [hg] at this
    simp [execOp, ha.ev a1, ha.ev a2, this]
  show SW P ops.toArray _ W _ (_ :: l) SPs a
  unfold SW Front
  rw [if_pos (by simp [Region.wanted]), if_neg (by simp [zdj, ziz, zvw, zta])]
  refine ⟨_, fun w' hw' => run w' hw', ?_⟩
  refine q K0 K1 D W hv0 hs _ SPs hbx hfl (zpx ⟨env, ha, hE'⟩ hd V.Rl_v) hp hS0 hzz hl fun F h1 hF => ?_
  obtain ⟨p1, p2, hv', hold, env', ha', s, p, f, g⟩ := hR F h1 hF
  exact ⟨p1, p2, hv', hold, _, ha'.put' hd _, s.put dst V.Rl_v fun _ _ => trivial, p, f, g⟩
end
end Go.XL
namespace Go.XL
open Go.Proofs
section
variable {v0 : VH} {P : Program} {n : Nat} {r : Rr} {Q : VEnv → Sto → Prop} {k : List Fr} {E0 E : VEnv} {S S0 S1 : Sto} {Mp : List MpE} {ops l : List Oper} {t : Nat} {dst : Option Tmp} {op : Op} {ty : TypeId} {pos : String} {af : Array Edge} {ts : Array TypeId}
theorem reads_nil {hv : VH} {l : List (List V)} {y : Value} (h : ReadsL hv l y) (hs : ∀ c ∈ l, c ≠ []) : ∃ p n c, y = .slice p n c ∧ (p.isNone = true → l = []) := by
  obtain ⟨p, cap, sz, rfl, _, _, _, h4⟩ := h
  refine ⟨p, _, _, rfl, fun hp => ?_⟩
  cases l with
  | nil => rfl
  | cons c r =>
    exfalso
    cases p with
    | some a => cases hp
    | none =>
      have hc := hs c (List.mem_cons_self ..)
      cases c with
      | nil => exact hc rfl
      | cons v c =>
        simp only [RlE, RlC] at h4
        obtain ⟨⟨⟨u, hu, _⟩, _⟩, _⟩ := h4
        simp [ldH, at?] at hu
theorem DS.eqNil {T e : TypeId} {x : Operand} {v : V} {d : TypeId} {li : List (List V)} (hd : decide (t < n) = true) (hT : P.underlying T = some (.slice e)) (hx : evV E x = some v) (hl : zdz v = some li) (hs : ∀ c ∈ li, c ≠ [])
    (q : ∀ b : Bool, (b = true → li = []) → DS P n r Q (.ops ops l :: k) ((t, .v (.bool b)) :: E) S) :
    DS P n r Q (.ops ops (⟨some t, .binOp .eql T x (.const (.slice none 0 0)) d, ty, pos, af, none⟩ :: l) :: k) E S := by
  refine DS.step (T := fun v E' S' => ∃ b : Bool, (b = true → li = []) ∧ v = .v (.bool b) ∧ E' = E ∧ S' = S) rfl rfl hd ?_ ?_
  · intro K D hv hold env a w hfl ha s
    obtain ⟨y, h1, h2⟩ := s.rl _ _ hx
    obtain ⟨p, m, c, rfl, h3⟩ := reads_nil (zfw hl h2) hs
    have hr : (execOp a.eval ⟨some t, .binOp .eql T x (.const (.slice none 0 0)) d, ty, pos, af, none⟩).run P w = .ok (.value (.bool p.isNone)) w := by
      refine zhg ha ?_
      simp only [dop, h1, ev_const]
      exact bop_eqlN hT
    unfold Yields
    rw [hr]
    exact ⟨⟨rfl, rfl, rfl⟩, _, _, _, hv, hold, PreV.refl hv, s.put (some t) V.Rl_v fun _ _ => trivial, p.isNone, h3, rfl, rfl, rfl⟩
  · rintro u E' S' ⟨b, h1, rfl, rfl, rfl⟩
    exact q b h1
theorem OpS.bslO {T len : Nat} {ps : Array (Nat × Operand)} {qs : List (Nat × V)} {e sz : Nat} {c : List V} (hp : zgp (evV E) ps.toList = some qs) (hb : bslV P T len qs = some (e, sz, c)) :
    OpS v0 P n ⟨dst, .buildSlice T len ps, ty, pos, af, none⟩ E S (fun u E' S' => ∃ b, zab S b = none ∧ u = .v (.slice (some ⟨b, 0, none⟩) len len) ∧ E' = E ∧ S' = (b, .cells c e) :: S) := by
  intro K D hv hold env a w hfl ha s
  obtain ⟨rs, h1, h2⟩ := zgo s.rl hp
  obtain ⟨x, h3, h4, h5, h6, h7, h8, by_, ht⟩ := zos h2 hb
  refine zfk ha (y := .slice (some ⟨w.heap.size, 0, none⟩) len len) (h' := w.heap.push (.cells x.toArray e)) (by simp only [hop, h1, h3]) ⟨⟨rfl, rfl, rfl⟩, ?_⟩
  obtain ⟨s', hn⟩ := s.born (zgj (h := w.heap) (hold := hold) (T := e) h4 h5 h8)
  exact ⟨_, E, _, hv, hold, PreV.refl hv, s'.put dst V.Rl_v fun _ _ => trivial, _, hn, rfl, rfl, rfl⟩
theorem DS.bslO {T len : Nat} {ps : Array (Nat × Operand)} {qs : List (Nat × V)} {e sz : Nat} {c : List V} (hd : decide (t < n) = true) (hp : zgp (evV E) ps.toList = some qs) (hb : bslV P T len qs = some (e, sz, c))
    (q : ∀ b, zab S b = none → DS P n r Q (.ops ops l :: k) ((t, .v (.slice (some ⟨b, 0, none⟩) len len)) :: E) ((b, .cells c e) :: S)) : DS P n r Q (.ops ops (⟨some t, .buildSlice T len ps, ty, pos, af, none⟩ :: l) :: k) E S := by
  refine DS.step rfl rfl hd (OpS.bslO hp hb) ?_
  rintro u E' S' ⟨b, h1, rfl, rfl, rfl⟩
  exact q b h1
theorem St.write {K : Bs} {hv : VH} {hold : Nat → Option Hd} {env : Env} {h : Heap} (s : St K hv hold E S env h) {b off : Nat} {cl rl : List V} {rs : List Value} {T : TypeId} (hS : zab S b = some (.cells cl T)) (hr : RlL hv rl rs) (ho : Ones rs) (hf : ∀ v ∈ rl, v.free = true) (hm : off + rl.length ≤ cl.length) :
    ∃ h', stl h ⟨b, off, none⟩ rs 0 = some h' ∧ St K hv hold E (setS b (.cells (setAll cl off rl) T) S) env h' := by
  obtain ⟨o1, o2, cs, o3, o4, o5, o6⟩ := s.obj b _ hS
  have hcl := o4.length
  have hrl := hr.length
  obtain ⟨h', q1, q2, q3, q4⟩ := zsx (o := off) rs 0 cs h o3 (by omega) ho
  refine ⟨h', q1, ⟨fun j oj ej => ?_, fun t vv e => ?_, fun j o e => ?_, s.held, ?_, s.vbase⟩⟩
  · obtain ⟨o', r1, r2⟩ := s.pre j oj ej
    refine ⟨o', ?_, r2⟩
    rw [q3 j (fun e => by subst e; rw [o2] at ej; cases ej)]; exact r1
  · obtain ⟨y2, r1, r2, r3⟩ := s.slot t vv e
    refine ⟨y2, r1, r2, r3.keep fun g ob a1 a2 a3 => ⟨q3 g (fun e => by subst e; rw [o2] at a2; cases a2), rfl, a1⟩⟩
  · rw [zbg hS] at e
    by_cases hj : j = b
    · subst hj
      simp only [if_true, Option.some.injEq] at e; subst e
      refine ⟨o1, o2, _, q4, ?_, ?_, fun i c u hc hu => ?_⟩
      · rw [Nat.add_zero]; exact o4.setAll off hr
      · exact Ones.setAll (l := cs) _ o5 ho
      · rw [Nat.add_zero] at hu
        rw [zfm _ _ _ _ hm] at hc
        rw [zfm _ _ _ _ (by omega)] at hu
        rw [hrl] at hu
        by_cases hi : off ≤ i ∧ i < off + rl.length
        · rw [if_pos hi] at hc
          exact V.free_Own (hf c (List.mem_of_getElem? hc)) u
        · rw [if_neg hi] at hc hu
          exact (o6 i c u hc hu).keep fun g ob a1 a2 a3 => ⟨q3 g (fun e => by subst e; rw [o2] at a2; cases a2), rfl, a1⟩
    · rw [if_neg hj] at e
      obtain ⟨r1, r2, r3⟩ := s.obj j o e
      exact ⟨r1, r2, Ob.keep r3 (PreV.refl hv) (q3 j hj) fun g i ob a1 a2 a3 => ⟨q3 g (fun e => by subst e; rw [o2] at a2; cases a2), rfl, a1⟩⟩
  · refine ⟨s.base.1, by rw [q2]; exact s.base.2.1, fun j hj => ?_⟩
    rw [q3 j fun e => o1 (e ▸ hj)]; exact s.base.2.2 j hj
theorem run_clear {w : World} {h' : Heap} {T e : TypeId} {z : Value} (ht : P.underlying T = some (.slice e)) (hz : zde P e = some z) (hz1 : z.cells = #[z]) {b o m c : Nat} (hm : 0 < m) (hst : stl w.heap ⟨b, o, none⟩ (List.replicate m z) 0 = some h') (tt : TypeId) :
    (Builtin.clear_ #[T] tt #[.slice (some ⟨b, o, none⟩) m c]).run P w = .ok (.tuple #[]) { w with heap := h' } := by
  have hzc : (Builtin.zeroCells z.cells m).toList = List.replicate m z := by
    rw [hz1]
    simp [Builtin.zeroCells]
    apply List.ext_getElem
    · simp
    · intro i h1 h2
      simp [Nat.mod_one]
  have h2 := zsw (P := P) _ _ w hst
  obtain ⟨m, rfl⟩ : ∃ m', m = m' + 1 := ⟨m - 1, by omega⟩
  simp [Builtin.clear_, run_underlying ht, zff hz, hzc, h2]
theorem DS.clear {T e : TypeId} {x : Operand} {b o m c : Nat} {z : Value} {cl : List V} {T' : TypeId} (hT : P.underlying T = some (.slice e)) (hz : zde P e = some z) (hz1 : z.cells = #[z]) (ho1 : z.oneCell' = true) (hm : 0 < m) (hx : evV E x = some (.v (.slice (some ⟨b, o, none⟩) m c))) (hS : zab S b = some (.cells cl T')) (hfit : o + m ≤ cl.length)
    (q : DS P n r Q (.ops ops l :: k) E (setS b (.cells (setAll cl o (List.replicate m (.v z))) T') S)) :
    DS P n r Q (.ops ops (⟨none, .call { callee := .builtin .clear, args := #[x], argTypes := #[T] }, ty, pos, af, none⟩ :: l) :: k) E S := by
  refine DS.step (T := fun v E' S' => E' = E ∧ S' = setS b (.cells (setAll cl o (List.replicate m (.v z))) T') S) rfl rfl rfl ?_ ?_
  · intro K D hv hold env a w hfl ha s
    obtain ⟨y, h1, h2⟩ := s.rl _ _ hx
    simp only [V.Rl] at h2; subst h2
    have hR : RlL hv (List.replicate m (V.v z)) (List.replicate m z) := by
      have := zij (hv := hv) (List.replicate m z)
      rwa [List.map_replicate] at this
    obtain ⟨h', q1, q2⟩ := s.write hS hR (fun u hu => by rw [List.eq_of_mem_replicate hu]; exact ho1) (fun v hv => by rw [List.eq_of_mem_replicate hv]; rfl) (by simpa using hfit)
    have hrun : ∀ tt, (execOp a.eval ⟨none, .call { callee := .builtin .clear, args := #[x], argTypes := #[T] }, tt, pos, af, none⟩).run P w = .ok (.value (.tuple #[])) { w with heap := h' } := fun tt => by
      have := run_clear (P := P) (w := w) hT hz hz1 (c := c) hm q1 tt
      simp [execOp, resolve, invoke, builtin, ha.ev h1, this]
    unfold Yields
    rw [hrun]
    exact ⟨⟨rfl, rfl, rfl⟩, .v (.tuple #[]), E, _, hv, hold, PreV.refl hv, q2, rfl, rfl⟩
  · rintro u E' S' ⟨rfl, rfl⟩
    exact q
theorem DD.rcV0 {g : FuncId} {args : List V} {xs : Array Operand} {fn : Func} {x : Value} (hf : FnOk P g fn) (hc : RC P g args S1 (.v x)) (hd : decide (t < n) = true) (he : (evsV (evV E) xs.toList).map (·.map V.peek) = some args)
    (q : DD P n r Q ops S0 Mp l k ((t, .v x) :: E0) ((t, .v x) :: E) S1) :
    DD P n r Q ops S0 Mp (⟨some t, .call { callee := .value (.func g), args := xs, argTypes := ts }, ty, pos, af, none⟩ :: l) k E0 E S1 := by
  rw [Option.map_eq_some_iff] at he
  obtain ⟨ax, e1, e2⟩ := he
  refine DD.stepV (x := x) (E' := E) (S1' := S1) rfl rfl rfl hd rfl (fun K D hv hold env a w hfl ha s => ?_) id q
  refine (OpS.call (fs := []) (cs := []) hf rfl e1 (S1 := S1) (S2 := []) (R := fun u S' => u = .v x ∧ S' = S1) (by simpa [e2] using hc _) (fun _ _ e => e) (fun _ _ e => by cases e) K D hv hold env a w hfl ha s).mono fun y w' ⟨hs, u, E', S', hv', hold', p1, p2, p3, S2, p4, ⟨p5, p6⟩, _⟩ => ?_
  subst p3; subst p4; subst p5; subst p6
  rw [List.append_nil] at p2
  exact ⟨hs, _, _, _, hv', hold', p1, p2, rfl, rfl, rfl⟩
theorem DS.callVHA {cx : Operand} {g : FuncId} {fs cs args : List V} {xs : Array Operand} {fn : Func} {R : V → Sto → Prop} (hf : FnOk P g fn) (hcx : evV E cx = some (.fn g fs cs)) (hc : DCh r.v0 P g (fs ++ args ++ cs) S R) (hd : decide (t < n) = true)
    (he : (evsV (evV E) xs.toList).map (·.map V.peek) = some args) (q : ∀ u S', R u S' → DS P n r Q (.ops ops l :: k) ((t, u) :: E) S') :
    DS P n r Q (.ops ops (⟨some t, .call { callee := .value cx, args := xs, argTypes := ts }, ty, pos, af, none⟩ :: l) :: k) E S := by
  refine DS.callVH (dst := some t) S [] hf hcx hc hd he (fun _ _ e => e) (fun _ _ e => by cases e) ?_
  intro u S' h _
  simpa [putV] using q u S' h
theorem DS.yieldA {cx : Operand} {y : Nat} {args : List V} {xs : Array Operand} {R : V → Sto → Prop} (hcx : evV E cx = some (.yl y)) (hc : YC r.v0 P y args S R) (hd : decide (t < n) = true)
    (he : (evsV (evV E) xs.toList).map (·.map V.peek) = some args) (q : ∀ u S', R u S' → DS P n r Q (.ops ops l :: k) ((t, u) :: E) S') :
    DS P n r Q (.ops ops (⟨some t, .call { callee := .value cx, args := xs, argTypes := ts }, ty, pos, af, none⟩ :: l) :: k) E S := by
  refine DS.yield (dst := some t) S [] hcx hc hd he (fun _ _ e => e) (fun _ _ e => by cases e) ?_
  intro u S' h _
  simpa [putV] using q u S' h
end
theorem split2 {S : Sto} {b1 b2 : Nat} {o1 o2 : Ob} (h1 : zab S b1 = some o1) (h2 : zab S b2 = some o2) (hne : b1 ≠ b2) :
    (∀ b o, zab (delS b1 (delS b2 S)) b = some o → zab S b = some o ∧ zab [(b1, o1), (b2, o2)] b = none) ∧ (∀ b o, zab [(b1, o1), (b2, o2)] b = some o → zab S b = some o) ∧
    (∀ b o, zab S b = some o → zab ([(b1, o1), (b2, o2)] ++ delS b1 (delS b2 S)) b = some o) ∧ ∀ b, b ≠ b1 → b ≠ b2 → zab (delS b1 (delS b2 S)) b = zab S b := by
  refine ⟨fun b o e => ?_, fun b o e => ?_, fun b o e => ?_, fun b n1 n2 => by rw [zck, if_neg n1, zck, if_neg n2]⟩
  · rw [zck] at e
    split at e
    · cases e
    rename_i n1
    rw [zck] at e
    split at e
    · cases e
    rename_i n2
    refine ⟨e, ?_⟩
    simp only [zab]
    rw [if_neg (fun h => n1 h.symm), if_neg (fun h => n2 h.symm)]
  · simp only [zab] at e
    split at e
    · rename_i h; subst h; rw [h1]; exact e
    split at e
    · rename_i h; subst h; rw [h2]; exact e
    · cases e
  · rw [zby]
    simp only [zab]
    by_cases n1 : b1 = b
    · subst n1; rw [if_pos rfl]; rw [h1] at e; exact e
    · rw [if_neg n1]
      by_cases n2 : b2 = b
      · subst n2; rw [if_pos rfl]; rw [h2] at e; exact e
      · rw [if_neg n2]
        simp only []
        rw [zck, if_neg (fun h => n1 h.symm), zck, if_neg (fun h => n2 h.symm)]
        exact e
end Go.XL
