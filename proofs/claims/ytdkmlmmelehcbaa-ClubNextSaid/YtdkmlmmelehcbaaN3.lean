/- A part of a program logic over the kit's walk rules, and contracts of functions in it. Conditions: as each theorem says. -/
import Derived.Test.YtdkmlmmelehcbaaN2
import Derived.Test.YtdkmlmmelehcbaaProg
import Derived.KernelRfl
set_option linter.all false
namespace Go.XL
open Go.Maps (Keyed)
open Go.ChangeMaps (setBlock)
def EntSt (P : Program) (T k : TypeId) (b : Nat) (f : Value → Option Value) (key : Value) (st : Nat) (es : Array MapEntry) (clock : Nat) : Prop :=
  ∀ val, ∃ es2, MapIs P k (upd f key val) es2 clock ∧ ∀ w : World, w.heap[b]? = some (.map es clock) → (Instr.entryStore T (.map (some b)) (goInt st) val).run P w = .ok () (setBlock w b (.map es2 clock))
section
variable {v0 : VH} {P : Program} {n : Nat} {r : Rr} {Q : VEnv → Sto → Prop} {k : List Fr} {E E0 : VEnv} {S S0 S1 : Sto} {Mp : List MpE} {dst : Option Tmp} {ty : TypeId} {pos : String} {af : Array Edge} {ops l : List Oper}
theorem OpS.mkMap {T : TypeId} : OpS v0 P n ⟨dst, .makeMap T none, ty, pos, af, none⟩ E S (fun u E' S' => ∃ b, zaa S b = none ∧ u = .v (.map (some b)) ∧ E' = E ∧ S' = (b, .raw (.map #[] 0)) :: S) := by
  intro K D hv hold env a w hfl ha s
  refine zfl ha (y := .map (some w.heap.size)) (h' := w.heap.push (.map #[] 0)) (by simp only [hop]) ⟨⟨rfl, rfl, rfl⟩, ?_⟩
  obtain ⟨s', hn⟩ := s.born (o := .raw (.map #[] 0)) (x := .map #[] 0) (by show (Array.push _ _)[_]? = _; exact Array.getElem?_push_size)
  exact ⟨.v (.map (some w.heap.size)), E, _, hv, hold, PreV.refl hv, s'.put dst V.Rl_v fun _ _ => trivial, _, hn, rfl, rfl, rfl⟩
theorem DS.mkMap {T : TypeId} (hd : dok n dst = true) (q : ∀ b, zaa S b = none → DS P n r Q (.ops ops l :: k) (putV E dst (.v (.map (some b)))) ((b, .raw (.map #[] 0)) :: S)) :
    DS P n r Q (.ops ops (⟨dst, .makeMap T none, ty, pos, af, none⟩ :: l) :: k) E S := by
  refine DS.step rfl rfl hd OpS.mkMap fun u E' S' ⟨b, h1, h2, h3, h4⟩ => ?_
  subst h2; subst h3; subst h4; exact q b h1
theorem zel {o : Oper} {a : Act} {w w' : World} {y : Value} {R : Value → World → Prop} (e : (execOp a.eval o).run P w = .ok (.value y) w') (q : R y w') : Yields P o a w R := by
  unfold Yields; rw [e]; exact q
theorem yields_skip {o : Oper} {a : Act} {w w' : World} {R : Value → World → Prop} (e : (execOp a.eval o).run P w = .ok .skip w') (q : R undef w') : Yields P o a w R := by
  unfold Yields; rw [e]; exact q
theorem OpS.look {T kt e : TypeId} {mx kx : Operand} {b : Nat} {f : Value → Option Value} {es : Array MapEntry} {clock : Nat} {key z : Value} (K : Keyed P kt) (ht : P.underlying T = some (.map kt e)) (hz : zbx P e = some z) (M : MapIs P kt f es clock) (hk : ziw P kt key)
    (h1 : evV E mx = some (.v (.map (some b)))) (h2 : evV E kx = some (.v key)) (hS : zaa S b = some (.raw (.map es clock))) :
    OpS v0 P n ⟨dst, .lookup T mx kx false, ty, pos, af, none⟩ E S (fun u E' S' => u = .v ((f key).getD z) ∧ E' = E ∧ S' = S) := by
  intro K1 D hv hold env a w hfl ha s
  obtain ⟨y1, a1, b1⟩ := s.rl _ _ h1
  obtain ⟨y2, a2, b2⟩ := s.rl _ _ h2
  simp only [V.Rl] at b1 b2
  subst b1; subst b2
  have hb : w.heap[b]? = some (.map es clock) := (s.obj b _ hS).2.2
  have := zje K ht (fun w => zfg hz w) M hk w hb
  refine zel (w' := w) (by simp [execOp, ha.ev a1, ha.ev a2, this]) ⟨Same.refl w, _, E, S, hv, hold, PreV.refl hv, s.put dst V.Rl_v fun _ _ => trivial, rfl, rfl, rfl⟩
theorem DS.look {T kt e : TypeId} {mx kx : Operand} {b : Nat} {f : Value → Option Value} {es : Array MapEntry} {clock : Nat} {key z : Value} (K : Keyed P kt) (ht : P.underlying T = some (.map kt e)) (hz : zbx P e = some z) (M : MapIs P kt f es clock) (hk : ziw P kt key)
    (h1 : evV E mx = some (.v (.map (some b)))) (h2 : evV E kx = some (.v key)) (hS : zaa S b = some (.raw (.map es clock))) (hd : dok n dst = true) (q : DS P n r Q (.ops ops l :: k) (putV E dst (.v ((f key).getD z))) S) :
    DS P n r Q (.ops ops (⟨dst, .lookup T mx kx false, ty, pos, af, none⟩ :: l) :: k) E S := by
  refine DS.step rfl rfl hd (OpS.look K ht hz M hk h1 h2 hS) fun u E' S' ⟨h1, h2, h3⟩ => ?_
  subst h1; subst h2; subst h3; exact q
theorem OpS.entry {T kt e : TypeId} {mx kx : Operand} {b : Nat} {f : Value → Option Value} {es : Array MapEntry} {clock : Nat} {key z : Value} (K : Keyed P kt) (ht : P.underlying T = some (.map kt e)) (hz : zbx P e = some z) (M : MapIs P kt f es clock) (hk : ziw P kt key)
    (h1 : evV E mx = some (.v (.map (some b)))) (h2 : evV E kx = some (.v key)) (hS : zaa S b = some (.raw (.map es clock))) :
    ∃ st es1 clock1, MapIs P kt (upd f key ((f key).getD z)) es1 clock1 ∧ EntSt P T kt b f key st es1 clock1 ∧
      OpS v0 P n ⟨dst, .mapEntry T mx kx, ty, pos, af, none⟩ E S (fun u E' S' => u = .tup [.v ((f key).getD z), .v (goInt st)] ∧ E' = E ∧ S' = setS b (.raw (.map es1 clock1)) S) := by
  obtain ⟨st, es1, clock1, q1, q2, q3⟩ := zsh (b := b) K ht (fun w => zfg hz w) M hk
  refine ⟨st, es1, clock1, q1, q3, ?_⟩
  intro K1 D hv hold env a w hfl ha s
  obtain ⟨y1, a1, b1⟩ := s.rl _ _ h1
  obtain ⟨y2, a2, b2⟩ := s.rl _ _ h2
  simp only [V.Rl] at b1 b2
  subst b1; subst b2
  obtain ⟨hb, s'⟩ := s.putObj (o' := .map es1 clock1) hS
  have := q2 w hb
  refine zel (w' := setBlock w b (.map es1 clock1)) (by simp [execOp, ha.ev a1, ha.ev a2, this]; rfl) ⟨⟨rfl, rfl, rfl⟩, _, E, _, hv, hold, PreV.refl hv, s'.put dst (by simp only [V.Rl, RlL]; exact ⟨_, rfl, _, _, rfl, rfl, _, _, rfl, rfl, rfl⟩) fun _ _ => V.free_Own (v := .tup [.v ((f y2).getD z), .v (goInt st)]) rfl _, rfl, rfl, rfl⟩
theorem OpS.entryStore {T kt : TypeId} {mx sx x : Operand} {b st : Nat} {f : Value → Option Value} {es : Array MapEntry} {clock : Nat} {key val : Value} (M : EntSt P T kt b f key st es clock)
    (h1 : evV E mx = some (.v (.map (some b)))) (h2 : evV E sx = some (.v (goInt st))) (h3 : evV E x = some (.v val)) (hS : zaa S b = some (.raw (.map es clock))) :
    ∃ es2, MapIs P kt (upd f key val) es2 clock ∧ OpS v0 P n ⟨dst, .entryStore T mx sx x, ty, pos, af, none⟩ E S (fun u E' S' => u = .v undef ∧ E' = E ∧ S' = setS b (.raw (.map es2 clock)) S) := by
  obtain ⟨es2, q1, q2⟩ := M val
  refine ⟨es2, q1, ?_⟩
  intro K1 D hv hold env a w hfl ha s
  obtain ⟨y1, a1, b1⟩ := s.rl _ _ h1
  obtain ⟨y2, a2, b2⟩ := s.rl _ _ h2
  obtain ⟨y3, a3, b3⟩ := s.rl _ _ h3
  simp only [V.Rl] at b1 b2 b3
  subst b1; subst b2; subst b3
  obtain ⟨hb, s'⟩ := s.putObj (o' := .map es2 clock) hS
  have := q2 w hb
  refine yields_skip (w' := setBlock w b (.map es2 clock)) (by simp [execOp, ha.ev a1, ha.ev a2, ha.ev a3, this]) ⟨⟨rfl, rfl, rfl⟩, _, E, _, hv, hold, PreV.refl hv, s'.put dst V.Rl_v fun _ _ => trivial, rfl, rfl, rfl⟩
theorem DS.entryStore {T kt : TypeId} {mx sx x : Operand} {b st : Nat} {f : Value → Option Value} {es : Array MapEntry} {clock : Nat} {key val : Value} (M : EntSt P T kt b f key st es clock)
    (h1 : evV E mx = some (.v (.map (some b)))) (h2 : evV E sx = some (.v (goInt st))) (h3 : evV E x = some (.v val)) (hS : zaa S b = some (.raw (.map es clock))) (hd : dok n dst = true)
    (q : ∀ es2, MapIs P kt (upd f key val) es2 clock → DS P n r Q (.ops ops l :: k) (putV E dst (.v undef)) (setS b (.raw (.map es2 clock)) S)) :
    DS P n r Q (.ops ops (⟨dst, .entryStore T mx sx x, ty, pos, af, none⟩ :: l) :: k) E S := by
  obtain ⟨es2, q1, q2⟩ := OpS.entryStore (v0 := r.v0) (n := n) (dst := dst) (ty := ty) (pos := pos) (af := af) M h1 h2 h3 hS
  refine DS.step rfl rfl hd q2 fun u E' S' ⟨g1, g2, g3⟩ => ?_
  subst g1; subst g2; subst g3; exact q es2 q1
theorem MapIs.det {P : Program} {kt k2 : TypeId} {f f2 : Value → Option Value} {es : Array MapEntry} {clock : Nat} (M : MapIs P kt f es clock) (M2 : MapIs P k2 f2 es clock) : f = f2 := by
  funext x
  by_cases h : ∃ e ∈ es.toList, e.key = x
  · obtain ⟨e, he, rfl⟩ := h
    rw [M.hit e he, M2.hit e he]
  · have h' : ∀ e ∈ es.toList, e.key ≠ x := fun e he hk => h ⟨e, he, hk⟩
    rw [M.miss x h', M2.miss x h']
theorem DD.entry {T kt e : TypeId} {mx kx : Operand} {b : Nat} {f : Value → Option Value} {es : Array MapEntry} {clock : Nat} {key z : Value} (K : Keyed P kt) (ht : P.underlying T = some (.map kt e)) (hz : zbx P e = some z) (M : MapIs P kt f es clock) (hk : ziw P kt key)
    (h1 : evV E mx = some (.v (.map (some b)))) (h2 : evV E kx = some (.v key)) (hS : zaa S1 b = some (.raw (.map es clock))) (hd : dok n dst = true) (hMp : ∀ me ∈ Mp, me.b = b → me.k = kt ∧ me.z = z)
    (q : ∀ st es1 clock1, MapIs P kt (upd f key ((f key).getD z)) es1 clock1 → EntSt P T kt b f key st es1 clock1 → DD P n r Q ops S0 Mp l k (delO dst E0) (putV E dst (.tup [.v ((f key).getD z), .v (goInt st)])) (setS b (.raw (.map es1 clock1)) S1)) :
    DD P n r Q ops S0 Mp (⟨dst, .mapEntry T mx kx, ty, pos, af, none⟩ :: l) k E0 E S1 := by
  obtain ⟨st, es1, clock1, q1, q2, q3⟩ := OpS.entry (v0 := r.v0) (n := n) (dst := dst) (ty := ty) (pos := pos) (af := af) K ht hz M hk h1 h2 hS
  refine DD.step rfl rfl rfl hd q3 (fun hM me hme => ?_) (q st es1 clock1 q1 q2)
  obtain ⟨o, ho, hof⟩ := hM me hme
  have hset : zaa (setS b (.raw (.map es1 clock1)) S1 ++ S0) me.b = if me.b = b then some (.raw (.map es1 clock1)) else zaa (S1 ++ S0) me.b := by
    rw [zbv, zba hS]
    by_cases hb : me.b = b
    · rw [if_pos hb, if_pos hb]
    · rw [if_neg hb, if_neg hb, zbv]
  by_cases hb : me.b = b
  · obtain ⟨e1, e2⟩ := hMp me hme hb
    refine ⟨_, by rw [hset, if_pos hb], es1, clock1, _, rfl, by rw [e1]; exact q1, fun x => ?_⟩
    rw [zbv, hb, hS] at ho
    simp only [Option.some.injEq, Ob.raw.injEq] at ho
    subst ho
    obtain ⟨es', clock', f', e3, M', hg⟩ := hof
    cases e3
    have := M.det M'
    subst this
    rw [← hg x, e2]
    by_cases hx : x = key
    · subst hx; rw [zgg]; rfl
    · rw [zie _ _ hx]
  · exact ⟨o, by rw [hset, if_neg hb]; exact ho, hof⟩
end
end Go.XL
namespace Go.XL
def zrg : Sto → Nat → Prop
  | [], _ => True
  | (d, _) :: r, b => (d ≠ b ∧ b ≠ d) ∧ zrg r b
theorem zgl (b : Nat) : zrg [] b ↔ True := Iff.rfl
theorem zfr (d : Nat) (o : Ob) (r : Sto) (b : Nat) : zrg ((d, o) :: r) b ↔ (¬ d = b ∧ ¬ b = d) ∧ zrg r b := Iff.rfl
theorem zhy : ∀ {S : Sto} {b : Nat}, zaa S b = none → zrg S b
  | [], _, _ => trivial
  | (d, o) :: r, b, h => by
    simp only [zaa] at h
    split at h
    · cases h
    · rename_i hd; exact ⟨⟨hd, fun e => hd e.symm⟩, zhy h⟩
section
variable {P : Program} {n : Nat} {r : Rr} {Q : VEnv → Sto → Prop} {k : List Fr} {E0 E : VEnv} {S S0 S1 : Sto} {Mp : List MpE} {ops l : List Oper} {t : Nat} {dst : Option Tmp} {op : Op} {ty : TypeId} {pos : String} {af : Array Edge}
theorem DS.draw0 {id : Nat} {os : Array Oper} (ord : List Nat) (m : Nat) (hok : zla os ord m = true) (hm : P.follows .mixedOrders = true)
    (q : DD P n r Q os.toList S [] (ord.filterMap (os[·]?)) (.ops os.toList (os.toList.drop m) :: k) E E []) : DS P n r Q (.code (.region id os true) :: k) E S :=
  DS.draw S [] [] MpOk.nil ord m hok hm (fun _ _ e => ⟨e, rfl⟩) (fun _ _ e => by cases e) q
theorem DD.nil0 (q : DS P n r Q k E S0) : DD P n r Q ops S0 Mp [] k E0 E [] := DD.nil q
theorem DD.fltS {v : V} (hs1 : zir op = false) (hh : zte op = false) (hd : decide (t < n) = true) (hv : dopV P S0 (evV E0) op = some v) (q : DD P n r Q ops S0 Mp l k ((t, v) :: E0) ((t, v) :: E) S1) :
    DD P n r Q ops S0 Mp (⟨some t, op, ty, pos, af, none⟩ :: l) k E0 E S1 := DD.flt (dst := some t) hs1 hh hd hv q
theorem DD.flt1S {v : V} (hs1 : zir op = false) (hh : zte op = false) (hld : isLoad op = false) (hd : decide (t < n) = true) (hv : dopV P [] (evV E) op = some v) (q : DD P n r Q ops S0 Mp l k (delV t E0) ((t, v) :: E) S1) :
    DD P n r Q ops S0 Mp (⟨some t, op, ty, pos, af, none⟩ :: l) k E0 E S1 := DD.flt1 (dst := some t) hs1 hh hld hd hv q
theorem DD.gTS {j : Nat} {b : Bool} {x : V} (e : zfi E ops n j = some x) (hx : x = .v (.bool b)) (q : DD P n r Q ops S0 Mp (⟨dst, op, ty, pos, af, none⟩ :: l) k E0 E S1) : DD P n r Q ops S0 Mp (⟨dst, op, ty, pos, af, some (j, b)⟩ :: l) k E0 E S1 := DD.gdT (hx ▸ e) q
theorem DD.gFS {j : Nat} {b : Bool} {x : V} (e : zfi E ops n j = some x) (hx : x = .v (.bool (!b))) (hd : decide (t < n) = true) (q : DD P n r Q ops S0 Mp l k ((t, .v undef) :: E0) ((t, .v undef) :: E) S1) : DD P n r Q ops S0 Mp (⟨some t, op, ty, pos, af, some (j, b)⟩ :: l) k E0 E S1 := DD.gdF (dst := some t) (hx ▸ e) rfl hd q
theorem DD.gUS {j : Nat} {b : Bool} {x : V} (e : zfi E ops n j = some x) (hx : x = .v undef) (hd : decide (t < n) = true) (q : DD P n r Q ops S0 Mp l k ((t, .v undef) :: E0) ((t, .v undef) :: E) S1) : DD P n r Q ops S0 Mp (⟨some t, op, ty, pos, af, some (j, b)⟩ :: l) k E0 E S1 := DD.gdU (dst := some t) (hx ▸ e) hd q
theorem DD.pcS {g : FuncId} {args : List V} {xs : Array Operand} {ts : Array TypeId} {fn : Func} {v : V} (hf : FnOk P g fn) (hc : PC P g args v) (hd : decide (t < n) = true) (he : (evsV (evV E) xs.toList).map (·.map V.peek) = some args)
    (q : DD P n r Q ops S0 Mp l k (delV t E0) ((t, v) :: E) S1) : DD P n r Q ops S0 Mp (⟨some t, .call { callee := .value (.func g), args := xs, argTypes := ts }, ty, pos, af, none⟩ :: l) k E0 E S1 := DD.pc (dst := some t) hf hc hd he q
theorem DD.boxS {T : TypeId} {x : Operand} {v : V} (hd : decide (t < n) = true) (he : evV E x = some v) (hf : v.flat = true) (q : ∀ u, zaa S1 u = none → zaa S0 u = none → DD P n r Q ops S0 Mp l k ((t, .v (.pointer (some ⟨u, 0, none⟩))) :: E0) ((t, .v (.pointer (some ⟨u, 0, none⟩))) :: E) ((u, .cells (v.cells.map V.copy) T) :: S1)) :
    DD P n r Q ops S0 Mp (⟨some t, .box T x, ty, pos, af, none⟩ :: l) k E0 E S1 := DD.box (dst := some t) hd he hf q
theorem DS.pcVS {ts : Array TypeId} {cx : Operand} {g : FuncId} {fs cs args : List V} {xs : Array Operand} {fn : Func} {v : V} (hf : FnOk P g fn) (hcx : evV E cx = some (.fn g fs cs)) (hc : PC P g (fs ++ args ++ cs) v) (hd : decide (t < n) = true)
    (he : (evsV (evV E) xs.toList).map (·.map V.peek) = some args) (q : DS P n r Q (.ops ops l :: k) ((t, v) :: E) S) :
    DS P n r Q (.ops ops (⟨some t, .call { callee := .value cx, args := xs, argTypes := ts }, ty, pos, af, none⟩ :: l) :: k) E S := DS.pcV (dst := some t) hf hcx hc hd he q
theorem DS.bnd {v : V} {l : List (List V)} (hE : zcp E t = some v) (hv : v = .lst l ∨ ∃ m e sz, v = .own m e sz l) (q : l.length ≤ 9223372036854775807 → DS P n r Q k E S) : DS P n r Q k E S := fun K W a w ⟨K', D, hvv, hold, env, hb, ha, s⟩ hw => by
  obtain ⟨y, h1, h2, _⟩ := s.slot t v hE
  have : l.length ≤ maxLen := by
    rcases hv with rfl | ⟨m, e, sz, rfl⟩
    all_goals
      simp only [V.Rl] at h2
      obtain ⟨_, cap, _, _, h3, h4, _⟩ := h2
      omega
  exact q (by simpa [maxLen] using this) K W a w ⟨K', D, hvv, hold, env, hb, ha, s⟩ hw
def CG (P : Program) (n : Nat) (r : Rr) (Q : VEnv → Sto → Prop) (x y : Code) (k : List Fr) (E : VEnv) (S : Sto) (v : V) : Prop :=
  (∃ t, v = .v (.bool t)) ∧ (v = .v (.bool true) → DS P n r Q (.code x :: k) E S) ∧ (v = .v (.bool false) → DS P n r Q (.code y :: k) E S)
theorem DS.cE {c : Operand} {x y : Code} {v : V} (e : evV E c = some v) (q : CG P n r Q x y k E S v) : DS P n r Q (.code (.cond c x y) :: k) E S := by
  obtain ⟨⟨t, rfl⟩, q1, q2⟩ := q
  exact DS.cond e (fun h => q1 (by rw [h])) (fun h => q2 (by rw [h]))
theorem CG.yes {x y : Code} (q : DS P n r Q (.code x :: k) E S) : CG P n r Q x y k E S (.v (.bool true)) := ⟨⟨_, rfl⟩, fun _ => q, (fun h => by cases h)⟩
theorem CG.no {x y : Code} (q : DS P n r Q (.code y :: k) E S) : CG P n r Q x y k E S (.v (.bool false)) := ⟨⟨_, rfl⟩, (fun h => by cases h), fun _ => q⟩
theorem CG.p {x y : Code} {p : Prop} {_ : Decidable p} (q1 : p → DS P n r Q (.code x :: k) E S) (q2 : ¬ p → DS P n r Q (.code y :: k) E S) : CG P n r Q x y k E S (.v (.bool (decide p))) :=
  ⟨⟨_, rfl⟩, fun h => q1 (by simpa using h), fun h => q2 (by simpa using h)⟩
theorem CG.b {x y : Code} {t : Bool} (q1 : t = true → DS P n r Q (.code x :: k) E S) (q2 : t = false → DS P n r Q (.code y :: k) E S) : CG P n r Q x y k E S (.v (.bool t)) :=
  ⟨⟨_, rfl⟩, fun h => q1 (by simpa using h), fun h => q2 (by simpa using h)⟩
def GG (P : Program) (n : Nat) (r : Rr) (Q : VEnv → Sto → Prop) (b : Bool) (t : Nat) (op : Op) (ty : TypeId) (pos : String) (af : Array Edge) (ops l : List Oper) (k : List Fr) (E : VEnv) (S : Sto) (v : V) : Prop :=
  ((∃ u, v = .v (.bool u)) ∨ v = .v undef) ∧ (v = .v (.bool b) → DS P n r Q (.ops ops (⟨some t, op, ty, pos, af, none⟩ :: l) :: k) E S) ∧ (v ≠ .v (.bool b) → DS P n r Q (.ops ops l :: k) ((t, .v undef) :: E) S)
theorem DS.gE {j : Nat} {b : Bool} {v : V} (hd : decide (t < n) = true) (e : zfi E ops n j = some v) (q : GG P n r Q b t op ty pos af ops l k E S v) :
    DS P n r Q (.ops ops (⟨some t, op, ty, pos, af, some (j, b)⟩ :: l) :: k) E S := by
  obtain ⟨⟨u, rfl⟩ | rfl, q1, q2⟩ := q
  · by_cases h : u = b
    · subst h; exact DS.gT e rfl (q1 rfl)
    · refine DS.gF e (by cases u <;> cases b <;> simp_all) hd (q2 (by simpa using h))
  · exact DS.gU e rfl hd (q2 (by simp [undef]))
theorem GG.run {b : Bool} (q : DS P n r Q (.ops ops (⟨some t, op, ty, pos, af, none⟩ :: l) :: k) E S) : GG P n r Q b t op ty pos af ops l k E S (.v (.bool b)) := ⟨.inl ⟨_, rfl⟩, fun _ => q, fun h => (h rfl).elim⟩
theorem GG.sF (q : DS P n r Q (.ops ops l :: k) ((t, .v undef) :: E) S) : GG P n r Q true t op ty pos af ops l k E S (.v (.bool false)) := ⟨.inl ⟨_, rfl⟩, (fun h => by cases h), fun _ => q⟩
theorem GG.sT (q : DS P n r Q (.ops ops l :: k) ((t, .v undef) :: E) S) : GG P n r Q false t op ty pos af ops l k E S (.v (.bool true)) := ⟨.inl ⟨_, rfl⟩, (fun h => by cases h), fun _ => q⟩
theorem GG.sU {b : Bool} (q : DS P n r Q (.ops ops l :: k) ((t, .v undef) :: E) S) : GG P n r Q b t op ty pos af ops l k E S (.v undef) := ⟨.inr rfl, fun h => by simp [undef] at h, fun _ => q⟩
theorem GG.pT {p : Prop} {_ : Decidable p} (q1 : p → DS P n r Q (.ops ops (⟨some t, op, ty, pos, af, none⟩ :: l) :: k) E S) (q2 : ¬ p → DS P n r Q (.ops ops l :: k) ((t, .v undef) :: E) S) : GG P n r Q true t op ty pos af ops l k E S (.v (.bool (decide p))) :=
  ⟨.inl ⟨_, rfl⟩, fun h => q1 (by simpa using h), fun h => q2 (by simpa using h)⟩
theorem GG.pF {p : Prop} {_ : Decidable p} (q1 : ¬ p → DS P n r Q (.ops ops (⟨some t, op, ty, pos, af, none⟩ :: l) :: k) E S) (q2 : p → DS P n r Q (.ops ops l :: k) ((t, .v undef) :: E) S) : GG P n r Q false t op ty pos af ops l k E S (.v (.bool (decide p))) :=
  ⟨.inl ⟨_, rfl⟩, fun h => q1 (by simpa using h), fun h => q2 (by simpa using h)⟩
theorem GG.bT {u : Bool} (q1 : u = true → DS P n r Q (.ops ops (⟨some t, op, ty, pos, af, none⟩ :: l) :: k) E S) (q2 : u = false → DS P n r Q (.ops ops l :: k) ((t, .v undef) :: E) S) : GG P n r Q true t op ty pos af ops l k E S (.v (.bool u)) :=
  ⟨.inl ⟨_, rfl⟩, fun h => q1 (by simpa using h), fun h => q2 (by simpa using h)⟩
theorem GG.bF {u : Bool} (q1 : u = false → DS P n r Q (.ops ops (⟨some t, op, ty, pos, af, none⟩ :: l) :: k) E S) (q2 : u = true → DS P n r Q (.ops ops l :: k) ((t, .v undef) :: E) S) : GG P n r Q false t op ty pos af ops l k E S (.v (.bool u)) :=
  ⟨.inl ⟨_, rfl⟩, fun h => q1 (by simpa using h), fun h => q2 (by simpa using h)⟩
theorem DS.regionL {id : Nat} {os : List Oper} (q : DS P n r Q (.ops os os :: k) E S) : DS P n r Q (.code (.region id os.toArray false) :: k) E S := DS.region (ops := os.toArray) q
theorem copies_twice (l : List V) : (l.map V.copy).map V.copy = l.map V.copy := by
  rw [List.map_map]; apply List.map_congr_left; intro v _; cases v <;> rfl
theorem DS.boxF {T : TypeId} {x : Operand} {v : V} (hd : decide (t < n) = true) (he : evV E x = some v) (hf : v.flat = true) (q : DS P n r Q (.ops ops l :: k) ((t, .plc (v.cells.map V.copy)) :: E) S) :
    DS P n r Q (.ops ops (⟨some t, .box T x, ty, pos, af, none⟩ :: l) :: k) E S := DS.boxS hd he hf fun b hb => by
  refine DS.freezeP (t := t) (b := b) (l := v.cells.map V.copy) (T := T) (by simp [zcp]) (by simp [zaa]) ?_
  rw [copies_twice]
  refine DS.weaken (fun u w e => ?_) (fun c o e => ?_) q
  · simp only [zcp] at e ⊢
    by_cases h : t = u
    · rw [if_pos h] at e ⊢; exact e
    · rw [if_neg h] at e ⊢; rw [if_neg h]; exact e
  · rw [zco, if_neg (fun h => by subst h; rw [hb] at e; cases e)]
    simp only [zaa]
    rw [if_neg (fun h => by subst h; rw [hb] at e; cases e)]; exact e
def selV (E : VEnv) : List Nat → VEnv
  | [] => []
  | t :: r => match zcp E t with
    | some v => (t, v) :: selV E r
    | none => selV E r
theorem zmg (E : VEnv) : ∀ ts : List Nat, subV (selV E ts) E
  | [] => trivial
  | t :: r => by
    simp only [selV]
    split
    · rename_i v e; exact ⟨e, zmg E r⟩
    · exact zmg E r
theorem zkh : ∀ {F G E : VEnv}, subV F E → subV G E → subV (F ++ G) E
  | [], _, _, _, h => h
  | (_, _) :: _, _, _, h, k => ⟨h.1, zkh h.2 k⟩
theorem DS.loopK {α : Type} {c : Code} (ts : List Nat) {F : VEnv} (hF : selV E ts = F) (Ex : α → VEnv) (I : α → Prop) (μ : α → Nat) (x0 : α) (hE : subV (Ex x0) E) (hI : I x0)
    (body : ∀ (x : α) (B : VEnv → Sto → Prop), I x → (∀ x' E' S', μ x' < μ x → I x' → subV (Ex x') E' → subV F E' → (∀ b o, zaa S b = some o → zaa S' b = some o) → B E' S') → DS P n r Q (.code c :: .back B :: k) (Ex x ++ F) S) : DS P n r Q (.code (.loop c) :: k) E S := by
  subst hF
  refine DS.loop (fun m E' S' => ∃ x, μ x = m ∧ I x ∧ subV (Ex x ++ selV E ts) E' ∧ ∀ b o, zaa S b = some o → zaa S' b = some o) (μ x0) ⟨x0, rfl, hI, zkh hE (zmg E ts), fun _ _ h => h⟩ ?_
  rintro m E' S' ⟨x, rfl, h1, h2, h3⟩
  exact DS.weaken (zdf h2) h3 (body x _ h1 fun x' E2 S2 a b c d e => ⟨_, a, x', rfl, b, zkh c d, e⟩)
def selO (t : Nat) (r : VEnv) : Option V → VEnv
  | some v => (t, v) :: r
  | none => r
@[go_sem] theorem selV_cons (E : VEnv) (t : Nat) (r : List Nat) : selV E (t :: r) = selO t (selV E r) (zcp E t) := by
  simp only [selV]; cases zcp E t <;> rfl
@[go_sem] theorem selV_nil (E : VEnv) : selV E [] = [] := rfl
@[go_sem] theorem selO_some (t : Nat) (r : VEnv) (v : V) : selO t r (some v) = (t, v) :: r := rfl
theorem DS.nilOwn {e sz by_ : Nat} {op : Op} (hd : decide (t < n) = true) (hop : op = .move (.const (.slice none 0 0)) ∨ op = .assign (.const (.slice none 0 0))) (ht : tel P ty = some (e, sz, by_)) (q : DS P n r Q (.ops ops l :: k) ((t, .own false e sz []) :: E) S) :
    DS P n r Q (.ops ops (⟨some t, op, ty, pos, af, none⟩ :: l) :: k) E S := by
  refine DS.fltS (v := .v (.slice none 0 0)) (by rcases hop with rfl | rfl <;> rfl) hd (by rcases hop with rfl | rfl <;> rfl) ?_
  refine DS.adopt (t := t) (e := e) (sz := sz) (by simp [zcp]) (DS.weaken (fun u w h => ?_) (fun _ _ h => h) q)
  simp only [zcp] at h ⊢
  by_cases hu : t = u
  · rw [if_pos hu] at h ⊢; exact h
  · rw [if_neg hu] at h ⊢; rw [if_neg hu]; exact h
theorem DS.letF {T m : Nat} {bb : Bool} {x : Operand} {v : V} {z : Value} {ty2 : TypeId} {pos2 : String} {af2 : Array Edge} (hd : decide (t < n) = true) (hz : zbx P T = some z) (ho : zgs z.cells.toList = true) (hx : ∀ p, evV ((t, p) :: E) x = some v) (ht : tsz P T = some (bb, m))
    (hf : v.flat = true) (hm : v.scells.length = m ∧ m ≤ z.cells.size) (hown : ∀ p, zgx ((t, p) :: E) x = (t, p) :: E) (q : DS P n r Q (.ops ops l :: k) ((t, .plc ((setAll (z.cells.toList.map V.v) 0 v.scells).map V.copy)) :: E) S) :
    DS P n r Q (.ops ops (⟨some t, .alloc T, ty, pos, af, none⟩ :: ⟨none, .store T (.tmp t) x, ty2, pos2, af2, none⟩ :: l) :: k) E S := DS.allocS hd hz ho fun b hb => by
  refine DS.store (b := b) (off := 0) (m := m) (bb := bb) (cl := z.cells.toList.map V.v) (T' := T) (v := v) rfl (by simp [evV, zcp]) (hx _) ht (by simp [zaa]) hf ⟨hm.1, by simpa using hm.2⟩ ?_
  rw [hown]
  refine DS.freezeP (t := t) (b := b) (l := setAll (z.cells.toList.map V.v) 0 v.scells) (T := T) (by simp [zcp, putV]) (by simp [zaa, setS]) ?_
  refine DS.weaken (fun u w e => ?_) (fun c o e => ?_) q
  · simp only [zcp, putV] at e ⊢
    by_cases h : t = u
    · rw [if_pos h] at e ⊢; exact e
    · rw [if_neg h] at e ⊢; rw [if_neg h]; exact e
  · rw [zco, if_neg (fun h => by subst h; rw [hb] at e; cases e)]
    have hcb : ¬ b = c := fun h => by subst h; rw [hb] at e; cases e
    have : zaa (setS b (.cells (setAll (z.cells.toList.map V.v) 0 v.scells) T) ((b, .cells (z.cells.toList.map V.v) T) :: S)) c = zaa S c := by
      rw [zba (o0 := .cells (z.cells.toList.map V.v) T) (by simp [zaa]), if_neg (fun h => hcb h.symm)]; simp only [zaa]; rw [if_neg hcb]
    rw [this]; exact e
theorem zan {α : Type} {f : α → List V} {m : Nat} (h : ∀ a, (f a).length = m) (l : List α) : ∀ c ∈ l.map f, c.length = m := fun c hc => by
  obtain ⟨a, _, rfl⟩ := List.mem_map.1 hc; exact h a
theorem CG.nb {x y : Code} {t : Bool} (q1 : t = false → DS P n r Q (.code x :: k) E S) (q2 : t = true → DS P n r Q (.code y :: k) E S) : CG P n r Q x y k E S (.v (.bool (!t))) :=
  ⟨⟨_, rfl⟩, fun h => q1 (by simpa using h), fun h => q2 (by simpa using h)⟩
end
end Go.XL
namespace Go.XL
section
variable {v0 : VH} {P : Program} {n : Nat} {r : Rr} {Q : VEnv → Sto → Prop} {k : List Fr} {E : VEnv} {S : Sto} {dst : Option Tmp} {ty : TypeId} {pos : String} {af : Array Edge}
theorem St.turnC {K : Bs} {hv : VH} {hold : Nat → Option Hd} {env : Env} {h h' : Heap} (s : St K hv hold E S env h) {b : Nat} {cl cl' : List V} {T : TypeId} {cs : List Value} (hS : zaa S b = some (.cells cl T)) (h1 : h'[b]? = some (.cells cs.toArray T (0, 0))) (h2 : ∀ j, j ≠ b → h'[j]? = h[j]?) (h3 : h.size ≤ h'.size)
    (hr : RlL hv cl' cs) (ho : Ones cs) (hf : ∀ v ∈ cl', v.free = true) : St K hv hold E (setS b (.cells cl' T) S) env h' := by
  obtain ⟨a1, a2, a3⟩ := s.obj b _ hS
  refine ⟨fun j ob e => ?_, fun t v e => ?_, fun j ob e => ?_, s.held, ⟨s.base.1, Nat.le_trans s.base.2.1 h3, fun j hj => (h2 j fun e => a1 (e ▸ hj)).trans (s.base.2.2 j hj)⟩, s.vbase⟩
  · have hj : j ≠ b := fun e1 => by subst e1; rw [a2] at e; cases e
    rw [h2 j hj]; exact s.pre j ob e
  · obtain ⟨y, q1, q2, q3⟩ := s.slot t v e
    refine ⟨y, q1, q2, q3.keep fun g ob b1 b2 b3 => ⟨h2 g fun e1 => ?_, rfl, b1⟩⟩
    subst e1; rw [a2] at b2; cases b2
  · rw [zba hS] at e
    split at e
    · rename_i hb; subst hb
      simp only [Option.some.injEq] at e; subst e
      exact ⟨a1, a2, cs, h1, hr, ho, fun i c u hc _ => V.free_Own (hf c (List.mem_of_getElem? hc)) u⟩
    · rename_i hb
      obtain ⟨c1, c2, c3⟩ := s.obj j ob e
      exact ⟨c1, c2, Ob.keep c3 (PreV.refl hv) (h2 j hb) fun g i x b1 b2 b3 => ⟨h2 g fun e1 => (by subst e1; rw [a2] at b2; cases b2), rfl, b1⟩⟩
theorem zjp {z : Value} (h : zgs z.cells.toList = true) (n : Nat) (hs : 0 < z.cells.size) : Ones (Builtin.zeroCells z.cells n).toList := fun u hu => by
  unfold Builtin.zeroCells at hu
  simp only [Array.toList_map, List.mem_map] at hu
  obtain ⟨j, _, rfl⟩ := hu
  have hlt : j % z.cells.size < z.cells.size := Nat.mod_lt _ hs
  refine zgk h _ ?_
  rw [getElem!_pos z.cells _ hlt]
  exact Array.getElem_mem_toList hlt
def delB (b : Option Nat) (S : Sto) : Sto := match b with
  | some b => delS b S
  | none => S
@[go_sem] theorem delB_some (b : Nat) (S : Sto) : delB (some b) S = delS b S := rfl
@[go_sem] theorem delB_none (S : Sto) : delB none S = S := rfl
def AppP (E : VEnv) (S : Sto) (b : Option Nat) (e sz len : Nat) (cl : List V) (ml : List (List V)) : V → VEnv → Sto → Prop := fun u E' S' => E' = E ∧ ∃ b' cap junk, u = .v (.slice (some ⟨b', 0, none⟩) (len + ml.length) cap) ∧
  S' = (b', .cells (cl.take (len * sz) ++ ml.flatten.map V.copy ++ junk) e) :: delB b S ∧ (b = some b' ∨ zaa S b' = none) ∧ (len + ml.length) * sz + junk.length = cap * sz ∧ len + ml.length ≤ cap ∧ cap ≤ maxLen ∧ ∀ v ∈ junk, v.free = true
theorem zlz (l : List V) : ∀ v ∈ l.map V.copy, v.free = true := zen l
theorem OpS.appC {T e sz by_ t : Nat} {z : Value} {sx x : Operand} {vx : V} {b len cap : Nat} {cl : List V} {ml : List (List V)} (hd : dst = some t) (ht : tel P T = some (e, sz, by_)) (hz : zbx P e = some z) (hzs : z.cells.size = sz) (hzo : zgs z.cells.toList = true) (hsz : 0 < sz)
    (hs : evV E sx = some (.v (.slice (some ⟨b, 0, none⟩) len cap))) (hS : zaa S b = some (.cells cl e)) (hl : cl.length = cap * sz) (hlc : len ≤ cap) (hcap : cap ≤ maxLen) (hfree : ∀ v ∈ cl, v.free = true)
    (hx : evV E x = some vx) (hxl : zee vx = some ml) (hm : 0 < ml.length) (hml : ∀ c ∈ ml, c.length = sz) (hfit : Fits len ml.length by_) :
    OpS v0 P n ⟨dst, .call { callee := .builtin .append, args := #[sx, x], argTypes := #[T, T] }, ty, pos, af, none⟩ E S (AppP E S (some b) e sz len cl ml) := by
  subst hd
  intro K D hv hold env a w hfl ha s
  obtain ⟨y, g2, g2'⟩ := s.rl _ _ hs
  simp only [V.Rl] at g2'; subst g2'
  obtain ⟨yx, g3, g3'⟩ := s.rl _ _ hx
  have hxR := zgo hxl g3'
  obtain ⟨hu, i, hi, hisz, hiby⟩ := ziy ht
  have hz' : i.zero = some z := by unfold zbx at hz; rw [hi] at hz; exact hz
  subst hisz; subst hiby
  obtain ⟨ao, c, sz', rfl, x1, x2, x3, x4⟩ := hxR
  have hlenm : ml.flatten.length = ml.length * i.size := zft hml
  have hC := x4.flat
  obtain ⟨news, hn1, hn2⟩ := hC.loads s.pre
  have hnl : news.length = ml.length * i.size := by rw [hn2.length, hlenm]
  have hones := zlh s.pre hC hn1
  have hnews : ∀ j u, news[j]? = some u → ld w.heap (at? ao j) = some u := fun j u hj => by simpa using zqa hn1 j u hj
  have hmax : (2147483648 : Nat) ≤ maxLen := by decide
  have h63 : len + ml.length ≤ maxLen := Nat.le_trans hfit.1 hmax
  have hbytes : (len + ml.length) * i.bytes ≤ 140737488355328 := Nat.le_trans (Nat.mul_le_mul hfit.1 hfit.2) (by decide)
  have hsmall : len + ml.length ≤ 9223372036854775807 := Nat.le_trans hfit.1 (by decide)
  have hpos : 0 < news.length := by rw [hnl]; exact Nat.mul_pos hm hsz
  obtain ⟨aa, rfl⟩ : ∃ aa, ao = some aa := by
    have := hnews 0 news[0] (List.getElem?_eq_getElem hpos)
    cases ao with
    | none => simp [ld, at?] at this
    | some aa => exact ⟨aa, rfl⟩
  have hnews' : ∀ j u, news[j]? = some u → w.cell? (aa.add j) = some u := hnews
  obtain ⟨o1, o2, cs, o3, o4, o5, o6⟩ := s.obj b _ hS
  have hcs : cs.length = cap * i.size := by rw [o4.length, hl]
  have run : ∀ {y' : Value} {w' : World}, (Builtin.append_ #[T, T] ty #[.slice (some ⟨b, 0, none⟩) len cap, .slice (some aa) ml.length c]).run P w = .ok y' w' →
      (execOp a.eval ⟨some t, .call { callee := .builtin .append, args := #[sx, x], argTypes := #[T, T] }, ty, pos, af, none⟩).run P w = .ok (.value y') w' := fun hr => by
    simp [execOp, resolve, invoke, builtin, ha.ev g2, ha.ev g3, hr]
  by_cases hroom : len + ml.length ≤ cap
  · have hfit' : len * i.size + news.length ≤ cs.toArray.size := by rw [hnl, List.size_toArray, hcs, ← Nat.add_mul]; exact Nat.mul_le_mul_right _ hroom
    have hr := run_append_room (P := P) w T ty e i hu hi b len cap cs.toArray o3 aa ml.length c news hnl hnews' hones hroom hfit'
    have hset := setRow_heap w b cs.toArray (cs.toArray.toList.take (len * i.size) ++ news ++ cs.toArray.toList.drop (len * i.size + news.length)).toArray e _ o3
    refine zel (run hr) ⟨⟨rfl, rfl, rfl⟩, ?_⟩
    have hlen : cl.take (len * i.size) ++ ml.flatten.map V.copy ++ cl.drop (len * i.size + news.length) = cl.take (len * i.size) ++ ml.flatten.map V.copy ++ cl.drop (len * i.size + news.length) := rfl
    have s2 := s.turnC (h' := (w.setRow b (cs.toArray.toList.take (len * i.size) ++ news ++ cs.toArray.toList.drop (len * i.size + news.length)).toArray).heap) (cl' := cl.take (len * i.size) ++ ml.flatten.map V.copy ++ cl.drop (len * i.size + news.length)) (cs := cs.take (len * i.size) ++ news ++ cs.drop (len * i.size + news.length)) hS (by simpa using hset) (fun j hj => setRow_other w b j _ hj) (by simp [World.setRow])
      (((o4.take _).app (zex hn2)).app (o4.drop _)) (fun u hu => by
        rcases List.mem_append.1 hu with hu | hu
        · rcases List.mem_append.1 hu with hu | hu
          · exact o5 u (List.mem_of_mem_take hu)
          · exact hones u hu
        · exact o5 u (List.mem_of_mem_drop hu)) (fun v hv => by
        rcases List.mem_append.1 hv with hv | hv
        · rcases List.mem_append.1 hv with hv | hv
          · exact hfree v (List.mem_of_mem_take hv)
          · exact zen _ v hv
        · exact hfree v (List.mem_of_mem_drop hv))
    have s3 := s2.weaken (E' := E) (S' := (b, .cells (cl.take (len * i.size) ++ ml.flatten.map V.copy ++ cl.drop (len * i.size + news.length)) e) :: delS b S) (fun _ _ e => e) fun j o eo => by
      rw [zba hS]
      simp only [zaa] at eo
      by_cases hj : b = j
      · rw [if_pos hj] at eo; rw [if_pos hj.symm]; exact eo
      · rw [if_neg hj] at eo; rw [if_neg fun e => hj e.symm]
        rw [zco, if_neg fun e => hj e.symm] at eo; exact eo
    refine ⟨_, E, _, hv, hold, PreV.refl hv, s3.put (some t) V.Rl_v fun _ _ => trivial, rfl, b, cap, _, rfl, rfl, .inl rfl, ?_, hroom, hcap, fun v hv => hfree v (List.mem_of_mem_drop hv)⟩
    rw [List.length_drop, hl, hnl, ← Nat.add_mul]
    have : (len + ml.length) * i.size ≤ cap * i.size := Nat.mul_le_mul_right _ hroom
    omega
  · have hxs : (cs.take (len * i.size)).length = len * i.size := by
      rw [List.length_take, hcs]; exact Nat.min_eq_left (Nat.mul_le_mul_right _ hlc)
    have hcells : ∀ j u, (cs.take (len * i.size))[j]? = some u → w.cell? ((⟨b, 0, none⟩ : Addr).add j) = some u := by
      intro j u hj
      have hadd : (⟨b, 0, none⟩ : Addr).add j = ⟨b, j, none⟩ := by unfold Addr.add; split <;> simp_all
      rw [hadd]
      show cell w.heap ⟨b, j, none⟩ = some u
      unfold cell
      rw [o3]
      simp only [Option.isSome_none, Bool.false_eq_true, if_false]
      rw [List.getElem?_take] at hj
      split at hj
      · simpa using hj
      · cases hj
    have hr := run_append_grow (P := P) w T ty e i z hu hi hz' ⟨b, 0, none⟩ len cap (cs.take (len * i.size)) hxs hcells aa ml.length c news hnl hnews' (by omega) (by omega) (growslice_fits (by omega) hbytes)
    have hge := grownCap_ge w (len + ml.length) cap e
    have hcm := grownCap_le_maxLen w (len + ml.length) cap e h63
    refine zel (run hr) ⟨⟨rfl, rfl, rfl⟩, ?_⟩
    obtain ⟨cap2, hcap2⟩ : ∃ c2, c2 = grownCap w (len + ml.length) cap e := ⟨_, rfl⟩
    rw [← hcap2] at hge hcm ⊢
    let zs := Builtin.zeroCells z.cells (cap2 - (len + ml.length))
    have hzs2 : zs.toList.length = (cap2 - (len + ml.length)) * i.size := by rw [Array.length_toList, size_zeroCells, hzs]
    have hzo2 : Ones zs.toList := zjp hzo _ (by omega)
    have hborn := s.born (o := .cells (cl.take (len * i.size) ++ ml.flatten.map V.copy ++ zs.toList.map V.v) e) (x := .cells ((cs.take (len * i.size)).toArray ++ news.toArray ++ zs) e) ?_
    · obtain ⟨s2, hn⟩ := hborn
      have s3 := s2.weaken (E' := E) (S' := (w.heap.size, .cells (cl.take (len * i.size) ++ ml.flatten.map V.copy ++ zs.toList.map V.v) e) :: delS b S) (fun _ _ e => e) fun j o eo => by
        simp only [zaa] at eo ⊢
        split at eo
        · rename_i hj; rw [if_pos hj]; exact eo
        · rename_i hj; rw [if_neg hj]
          rw [zco] at eo
          split at eo
          · cases eo
          · exact eo
      refine ⟨_, E, _, hv, hold, PreV.refl hv, s3.put (some t) V.Rl_v fun _ _ => trivial, rfl, w.heap.size, cap2, _, rfl, rfl, .inr hn, ?_, hge, hcm, zgp _⟩
      rw [List.length_map, hzs2, ← Nat.add_mul]; congr 1; omega
    · have h := zgj (h := w.heap) (hold := hold) (T := e) (cs := cs.take (len * i.size) ++ news ++ zs.toList) (l := cl.take (len * i.size) ++ ml.flatten.map V.copy ++ zs.toList.map V.v) (((o4.take _).app (zex hn2)).app (zic _)) (fun u hu => by
        rcases List.mem_append.1 hu with hu | hu
        · rcases List.mem_append.1 hu with hu | hu
          · exact o5 u (List.mem_of_mem_take hu)
          · exact hones u hu
        · exact hzo2 u hu) (fun v hv => by
        rcases List.mem_append.1 hv with hv | hv
        · rcases List.mem_append.1 hv with hv | hv
          · exact hfree v (List.mem_of_mem_take hv)
          · exact zen _ v hv
        · exact zgp _ v hv)
      rw [show (cs.take (len * i.size) ++ news ++ zs.toList).toArray = (cs.take (len * i.size)).toArray ++ news.toArray ++ zs by simp] at h
      exact h
theorem OpS.appN {T e sz by_ t : Nat} {z : Value} {sx x : Operand} {vx : V} {ml : List (List V)} (hd : dst = some t) (ht : tel P T = some (e, sz, by_)) (hz : zbx P e = some z) (hzs : z.cells.size = sz) (hzo : zgs z.cells.toList = true) (hsz : 0 < sz)
    (hs : evV E sx = some (.v (.slice none 0 0))) (hx : evV E x = some vx) (hxl : zee vx = some ml) (hm : 0 < ml.length) (hml : ∀ c ∈ ml, c.length = sz) (hfit : Fits 0 ml.length by_) :
    OpS v0 P n ⟨dst, .call { callee := .builtin .append, args := #[sx, x], argTypes := #[T, T] }, ty, pos, af, none⟩ E S (AppP E S none e sz 0 [] ml) := by
  subst hd
  intro K D hv hold env a w hfl ha s
  obtain ⟨y, g2, g2'⟩ := s.rl _ _ hs
  simp only [V.Rl] at g2'; subst g2'
  obtain ⟨yx, g3, g3'⟩ := s.rl _ _ hx
  have hxR := zgo hxl g3'
  obtain ⟨hu, i, hi, hisz, hiby⟩ := ziy ht
  have hz' : i.zero = some z := by unfold zbx at hz; rw [hi] at hz; exact hz
  subst hisz; subst hiby
  obtain ⟨ao, c, sz', rfl, x1, x2, x3, x4⟩ := hxR
  have hlenm : ml.flatten.length = ml.length * i.size := zft hml
  have hC := x4.flat
  obtain ⟨news, hn1, hn2⟩ := hC.loads s.pre
  have hnl : news.length = ml.length * i.size := by rw [hn2.length, hlenm]
  have hones := zlh s.pre hC hn1
  have hnews : ∀ j u, news[j]? = some u → ld w.heap (at? ao j) = some u := fun j u hj => by simpa using zqa hn1 j u hj
  have hmax : (2147483648 : Nat) ≤ maxLen := by decide
  have h63 : 0 + ml.length ≤ maxLen := Nat.le_trans hfit.1 hmax
  have hbytes : (0 + ml.length) * i.bytes ≤ 140737488355328 := Nat.le_trans (Nat.mul_le_mul hfit.1 hfit.2) (by decide)
  have hsmall : 0 + ml.length ≤ 9223372036854775807 := Nat.le_trans hfit.1 (by decide)
  have hpos : 0 < news.length := by rw [hnl]; exact Nat.mul_pos hm hsz
  obtain ⟨aa, rfl⟩ : ∃ aa, ao = some aa := by
    have := hnews 0 news[0] (List.getElem?_eq_getElem hpos)
    cases ao with
    | none => simp [ld, at?] at this
    | some aa => exact ⟨aa, rfl⟩
  have hnews' : ∀ j u, news[j]? = some u → w.cell? (aa.add j) = some u := hnews
  have run : ∀ {y' : Value} {w' : World}, (Builtin.append_ #[T, T] ty #[.slice none 0 0, .slice (some aa) ml.length c]).run P w = .ok y' w' →
      (execOp a.eval ⟨some t, .call { callee := .builtin .append, args := #[sx, x], argTypes := #[T, T] }, ty, pos, af, none⟩).run P w = .ok (.value y') w' := fun hr => by
    simp [execOp, resolve, invoke, builtin, ha.ev g2, ha.ev g3, hr]
  have hr := run_append_nil (P := P) w T ty e i z hu hi hz' aa ml.length c news hnl hnews' (by omega) (by omega) (by rw [Nat.zero_add] at hbytes; omega)
  have hge := grownCap_ge w ml.length 0 e
  have hcm := grownCap_le_maxLen w ml.length 0 e (by simpa using h63)
  refine zel (run hr) ⟨⟨rfl, rfl, rfl⟩, ?_⟩
  obtain ⟨cap2, hcap2⟩ : ∃ c2, c2 = grownCap w ml.length 0 e := ⟨_, rfl⟩
  rw [← hcap2] at hge hcm ⊢
  let zs := Builtin.zeroCells z.cells (cap2 - ml.length)
  have hzs2 : zs.toList.length = (cap2 - ml.length) * i.size := by rw [Array.length_toList, size_zeroCells, hzs]
  have hzo2 : Ones zs.toList := zjp hzo _ (by omega)
  have h := zgj (h := w.heap) (hold := hold) (T := e) (cs := news ++ zs.toList) (l := ml.flatten.map V.copy ++ zs.toList.map V.v) ((zex hn2).app (zic _)) (fun u hu => by
    rcases List.mem_append.1 hu with hu | hu
    · exact hones u hu
    · exact hzo2 u hu) (fun v hv => by
    rcases List.mem_append.1 hv with hv | hv
    · exact zen _ v hv
    · exact zgp _ v hv)
  rw [show (news ++ zs.toList).toArray = news.toArray ++ zs by simp] at h
  obtain ⟨s2, hn⟩ := s.born (x := .cells (news.toArray ++ zs) e) h
  refine ⟨_, E, _, hv, hold, PreV.refl hv, s2.put (some t) V.Rl_v fun _ _ => trivial, rfl, w.heap.size, cap2, zs.toList.map V.v, by rw [Nat.zero_add], by simp only [List.take_nil, List.nil_append, delB], .inr hn, ?_, by simpa using hge, hcm, zgp _⟩
  rw [List.length_map, hzs2, ← Nat.add_mul]; congr 1; omega
theorem DS.appC {T e sz by_ t : Nat} {z : Value} {sx x : Operand} {vx : V} {b len cap : Nat} {cl : List V} {ml : List (List V)} {ops l : List Oper} (hd : dok n (some t) = true) (ht : tel P T = some (e, sz, by_)) (hz : zbx P e = some z) (hzs : z.cells.size = sz) (hzo : zgs z.cells.toList = true) (hsz : 0 < sz)
    (hs : evV E sx = some (.v (.slice (some ⟨b, 0, none⟩) len cap))) (hS : zaa S b = some (.cells cl e)) (hl : cl.length = cap * sz) (hlc : len ≤ cap) (hcap : cap ≤ maxLen) (hfree : ∀ v ∈ cl, v.free = true)
    (hx : evV E x = some vx) (hxl : zee vx = some ml) (hm : 0 < ml.length) (hml : ∀ c ∈ ml, c.length = sz) (hfit : Fits len ml.length by_)
    (q : ∀ b' cap' junk, (b = b' ∨ zaa S b' = none) → (len + ml.length) * sz + junk.length = cap' * sz → len + ml.length ≤ cap' → cap' ≤ maxLen → (∀ v ∈ junk, v.free = true) →
      DS P n r Q (.ops ops l :: k) ((t, .v (.slice (some ⟨b', 0, none⟩) (len + ml.length) cap')) :: E) ((b', .cells (cl.take (len * sz) ++ ml.flatten.map V.copy ++ junk) e) :: delS b S)) :
    DS P n r Q (.ops ops (⟨some t, .call { callee := .builtin .append, args := #[sx, x], argTypes := #[T, T] }, ty, pos, af, none⟩ :: l) :: k) E S := by
  refine DS.step rfl rfl hd (OpS.appC rfl ht hz hzs hzo hsz hs hS hl hlc hcap hfree hx hxl hm hml hfit) fun u E' S' ⟨h1, b', cap', junk, h2, h3, h4, h5, h6, h7, h8⟩ => ?_
  subst h1; subst h2; subst h3
  exact q b' cap' junk (h4.imp (fun e => by cases e; rfl) id) h5 h6 h7 h8
theorem DS.appN {T e sz by_ t : Nat} {z : Value} {sx x : Operand} {vx : V} {ml : List (List V)} {ops l : List Oper} (hd : dok n (some t) = true) (ht : tel P T = some (e, sz, by_)) (hz : zbx P e = some z) (hzs : z.cells.size = sz) (hzo : zgs z.cells.toList = true) (hsz : 0 < sz)
    (hs : evV E sx = some (.v (.slice none 0 0))) (hx : evV E x = some vx) (hxl : zee vx = some ml) (hm : 0 < ml.length) (hml : ∀ c ∈ ml, c.length = sz) (hfit : Fits 0 ml.length by_)
    (q : ∀ b' cap' junk, zaa S b' = none → ml.length * sz + junk.length = cap' * sz → ml.length ≤ cap' → cap' ≤ maxLen → (∀ v ∈ junk, v.free = true) →
      DS P n r Q (.ops ops l :: k) ((t, .v (.slice (some ⟨b', 0, none⟩) ml.length cap')) :: E) ((b', .cells (ml.flatten.map V.copy ++ junk) e) :: S)) :
    DS P n r Q (.ops ops (⟨some t, .call { callee := .builtin .append, args := #[sx, x], argTypes := #[T, T] }, ty, pos, af, none⟩ :: l) :: k) E S := by
  refine DS.step rfl rfl hd (OpS.appN rfl ht hz hzs hzo hsz hs hx hxl hm hml hfit) fun u E' S' ⟨h1, b', cap', junk, h2, h3, h4, h5, h6, h7, h8⟩ => ?_
  subst h1; subst h2; subst h3
  have := q b' cap' junk (h4.elim (fun e => by cases e) id) (by simpa using h5) (by simpa using h6) h7 h8
  simpa [delB, putV] using this
end
end Go.XL
namespace Go.XL
section
variable {P : Program} {T : TypeId} {kk : IntKind} {a b : Int}
@[go_sem] theorem bop_add : bop P .add T (.int kk a) (.int kk b) = some (.int kk (kk.wrap (a + b))) := by simp [bop, zkb]
@[go_sem] theorem bop_sub : bop P .sub T (.int kk a) (.int kk b) = some (.int kk (kk.wrap (a - b))) := by simp [bop, zkb]
@[go_sem] theorem bop_mul : bop P .mul T (.int kk a) (.int kk b) = some (.int kk (kk.wrap (a * b))) := by simp [bop, zkb]
@[go_sem] theorem bop_quo : bop P .quo T (.int kk a) (.int kk b) = if b ≠ 0 then some (.int kk (kk.wrap (a.tdiv b))) else none := by simp [bop, zkb]
@[go_sem] theorem bop_rem : bop P .rem T (.int kk a) (.int kk b) = if b ≠ 0 then some (.int kk (a.tmod b)) else none := by simp [bop, zkb]
@[go_sem] theorem bop_eql : bop P .eql T (.int kk a) (.int kk b) = some (.bool (decide (a = b))) := by
  simp only [bop, zkb, if_true]; congr 2
@[go_sem] theorem bop_neq : bop P .neq T (.int kk a) (.int kk b) = some (.bool (decide (¬ a = b))) := by
  simp only [bop, zkb, if_true]; congr 2; simp [bne, decide_not]; rfl
@[go_sem] theorem bop_lss : bop P .lss T (.int kk a) (.int kk b) = some (.bool (decide (a < b))) := by simp [bop, zkb]
@[go_sem] theorem bop_leq : bop P .leq T (.int kk a) (.int kk b) = some (.bool (decide (a ≤ b))) := by simp [bop, zkb]
@[go_sem] theorem bop_gtr : bop P .gtr T (.int kk a) (.int kk b) = some (.bool (decide (b < a))) := by simp [bop, zkb]
@[go_sem] theorem bop_geq : bop P .geq T (.int kk a) (.int kk b) = some (.bool (decide (b ≤ a))) := by simp [bop, zkb]
theorem bop_eqlB {u v : Bool} (e : P.underlying T = some .bool) : bop P .eql T (.bool u) (.bool v) = some (.bool (u == v)) := by simp [bop, e]
theorem bop_neqB {u v : Bool} (e : P.underlying T = some .bool) : bop P .neq T (.bool u) (.bool v) = some (.bool (u != v)) := by simp [bop, e]
theorem bop_eqlN {e : TypeId} {p : Option Addr} {a b : Nat} (u : P.underlying T = some (.slice e)) : bop P .eql T (.slice p a b) (.slice none 0 0) = some (.bool p.isNone) := by simp [bop, u]
end
@[go_sem] theorem not_dec (p : Prop) [Decidable p] : (!decide p) = decide (¬ p) := by simp
@[go_sem] theorem zbp (l : List V) : (V.agg l).cells = l := rfl
@[go_sem] theorem zcj (x : Value) : (V.v x).cells = [.v x] := rfl
@[go_sem] theorem zbo (l : List (List V)) : (V.lst l).cells = [.lst l] := rfl
@[go_sem] theorem cells_own (m : Bool) (e sz : Nat) (l : List (List V)) : (V.own m e sz l).cells = [.own m e sz l] := rfl
@[go_sem] theorem cells_plc (l : List V) : (V.plc l).cells = [.plc l] := rfl
@[go_sem] theorem zcc (f : FuncId) (a b : List V) : (V.fn f a b).cells = [.fn f a b] := rfl
@[go_sem] theorem cells_ifc (t : TypeId) (x : V) : (V.ifc t x).cells = [.ifc t x] := rfl
@[go_sem] theorem flat_int (k : IntKind) (n : Int) : (V.v (.int k n)).flat = true := rfl
@[go_sem] theorem flat_bool (b : Bool) : (V.v (.bool b)).flat = true := rfl
@[go_sem] theorem flat_str (b : ByteArray) : (V.v (.string b)).flat = true := rfl
@[go_sem] theorem flat_slice (p : Option Addr) (n c : Nat) : (V.v (.slice p n c)).flat = true := rfl
@[go_sem] theorem flat_ptr (p : Option Addr) : (V.v (.pointer p)).flat = true := rfl
@[go_sem] theorem flat_map (p : Option Nat) : (V.v (.map p)).flat = true := rfl
@[go_sem] theorem flat_nilFunc : (V.v .nilFunc).flat = true := rfl
@[go_sem] theorem flat_nilIface : (V.v .nilIface).flat = true := rfl
@[go_sem] theorem flat_lst (l : List (List V)) : (V.lst l).flat = true := rfl
@[go_sem] theorem flat_own (m : Bool) (e sz : Nat) (l : List (List V)) : (V.own m e sz l).flat = true := rfl
@[go_sem] theorem flat_plc (l : List V) : (V.plc l).flat = true := rfl
@[go_sem] theorem flat_fn (f : FuncId) (a b : List V) : (V.fn f a b).flat = true := rfl
@[go_sem] theorem flat_ifc (t : TypeId) (x : V) : (V.ifc t x).flat = true := rfl
@[go_sem] theorem flat_agg (l : List V) : (V.agg l).flat = l.all V.one := rfl
@[go_sem] theorem all_nil' {α : Type} (p : α → Bool) : ([] : List α).all p = true := rfl
@[go_sem] theorem all_cons' {α : Type} (p : α → Bool) (a : α) (r : List α) : (a :: r).all p = (p a && r.all p) := rfl
@[go_sem] theorem one_int (k : IntKind) (n : Int) : (V.v (.int k n)).one = true := rfl
@[go_sem] theorem one_bool (b : Bool) : (V.v (.bool b)).one = true := rfl
@[go_sem] theorem one_str (b : ByteArray) : (V.v (.string b)).one = true := rfl
@[go_sem] theorem one_slice (p : Option Addr) (n c : Nat) : (V.v (.slice p n c)).one = true := rfl
@[go_sem] theorem one_ptr (p : Option Addr) : (V.v (.pointer p)).one = true := rfl
@[go_sem] theorem one_map (p : Option Nat) : (V.v (.map p)).one = true := rfl
@[go_sem] theorem one_nilFunc : (V.v .nilFunc).one = true := rfl
@[go_sem] theorem one_nilIface : (V.v .nilIface).one = true := rfl
@[go_sem] theorem one_lst (l : List (List V)) : (V.lst l).one = true := rfl
@[go_sem] theorem one_own (m : Bool) (e sz : Nat) (l : List (List V)) : (V.own m e sz l).one = true := rfl
@[go_sem] theorem one_plc (l : List V) : (V.plc l).one = true := rfl
@[go_sem] theorem one_fn (f : FuncId) (a b : List V) : (V.fn f a b).one = true := rfl
@[go_sem] theorem one_ifc (t : TypeId) (x : V) : (V.ifc t x).one = true := rfl
@[go_sem] theorem zbl {α β : Type} (f : α → β) : ([] : List α).map f = [] := rfl
@[go_sem] theorem zbi {α β : Type} (f : α → β) (a : α) (r : List α) : (a :: r).map f = f a :: r.map f := rfl
@[go_sem] theorem len_nil {α : Type} : ([] : List α).length = 0 := rfl
@[go_sem] theorem len_cons {α : Type} (a : α) (r : List α) : (a :: r).length = r.length + 1 := rfl
@[go_sem] theorem zat {α : Type} (l : List α) : l.drop 0 = l := rfl
@[go_sem] theorem zau {α : Type} (a : α) (r : List α) (n : Nat) : (a :: r).drop (n + 1) = r.drop n := rfl
@[go_sem] theorem take_zero' {α : Type} (l : List α) : l.take 0 = [] := by simp
@[go_sem] theorem take_cons' {α : Type} (a : α) (r : List α) (n : Nat) : (a :: r).take (n + 1) = a :: r.take n := rfl
@[go_sem] theorem take_nil' {α : Type} (n : Nat) : ([] : List α).take n = [] := by simp
@[go_sem] theorem zce {α : Type} (a b : α) (r : List α) : (a :: r).set 0 b = b :: r := rfl
@[go_sem] theorem zck {α : Type} (a b : α) (r : List α) (n : Nat) : (a :: r).set (n + 1) b = a :: r.set n b := rfl
@[go_sem] theorem zbg {α : Type} (a : α) (r : List α) : (a :: r)[0]? = some a := rfl
@[go_sem] theorem zbh {α : Type} (a : α) (r : List α) (n : Nat) : (a :: r)[n + 1]? = r[n]? := rfl
@[go_sem] theorem zar {α : Type} (l : List α) : [] ++ l = l := rfl
@[go_sem] theorem zap {α : Type} (a : α) (l m : List α) : (a :: l) ++ m = a :: (l ++ m) := rfl
theorem zbe {P : Program} {T m : Nat} (e : tsz P T = some (false, m)) (v : V) (r : List V) : ldTV P T (v :: r) = some v.copy := by simp only [ldTV, e]
theorem zav {P : Program} {T m : Nat} (e : tsz P T = some (false, m)) (l : List V) (k : Nat) : ldTV P T (l.drop k) = (l[k]?).map V.copy := by
  by_cases h : k < l.length
  · rw [List.drop_eq_getElem_cons h, zbe e, List.getElem?_eq_getElem h]; rfl
  · rw [List.drop_eq_nil_of_le (by omega), List.getElem?_eq_none (by omega)]; simp [ldTV, e]
theorem zdd {P : Program} {T m : Nat} (e : tsz P T = some (true, m + 1)) (c : List V) : ldTV P T c = if m + 1 ≤ c.length then some (.agg ((c.take (m + 1)).map V.peek)) else none := by simp only [ldTV, e]
@[go_sem] theorem loadV_plc (P : Program) (S : Sto) (T : TypeId) (c : List V) : zon P S T (.plc c) = ldTV P T c := rfl
def loadO (P : Program) (T : TypeId) (off : Nat) : Option Ob → Option V
  | some (.cells l _) => ldTV P T (l.drop off)
  | _ => none
@[go_sem] theorem loadO_some (P : Program) (T : TypeId) (off : Nat) (l : List V) (T' : TypeId) : loadO P T off (some (.cells l T')) = ldTV P T (l.drop off) := rfl
@[go_sem] theorem loadV_ptr (P : Program) (S : Sto) (T : TypeId) (b off : Nat) : zon P S T (.v (.pointer (some ⟨b, off, none⟩))) = loadO P T off (zaa S b) := by
  simp only [zon, loadO]; split <;> simp_all
theorem zhf {P : Program} {T e sz by_ : Nat} {z : Value} (ht : tel P T = some (e, sz, by_)) (hz : zbx P e = some z) (ho : zgs z.cells.toList = true) (hs : z.cells.size = sz) (len : Nat) (ps : List (Nat × V)) :
    bslV P T len ps = if len * sz ≤ 16777216 ∧ len ≤ 16777216 then (zdu (fun i => some (i * sz, sz)) (zdp z len) ps).map fun c => (e, sz, c) else none := by
  simp only [bslV, ht, hz, ho, hs, and_true]
def idxO (sz : Nat) : Option (List V) → Option V
  | some c => if c.length = sz ∧ 0 < sz then some (.plc c) else none
  | none => none
@[go_sem] theorem idxO_some (sz : Nat) (c : List V) : idxO sz (some c) = if c.length = sz ∧ 0 < sz then some (.plc c) else none := rfl
theorem zdr {P : Program} {T e sz by_ : Nat} (ht : tel P T = some (e, sz, by_)) {x : V} {l : List (List V)} (hx : zee x = some l) (k : IntKind) (m : Int) : zec P T x (.v (.int k m)) = if 0 ≤ m then idxO sz l[m.toNat]? else none := by
  simp only [zec, hx, ht, idxO]
  split
  · cases l[m.toNat]? <;> rfl
  · rfl
theorem zfy {P : Program} {T e sz by_ : Nat} (ht : tel P T = some (e, sz, by_)) (b off len cap : Nat) (k : IntKind) (m : Int) : zec P T (.v (.slice (some ⟨b, off, none⟩) len cap)) (.v (.int k m)) = if 0 ≤ m then (if m < len then some (.v (.pointer (some ⟨b, off + m.toNat * sz, none⟩))) else none) else none := by
  simp only [zec, zee, ht]
theorem idxV_plc {P : Program} {T len sz : Nat} (ht : tarr P T = some (len, sz)) (c : List V) (k : IntKind) (m : Int) : zec P T (.plc c) (.v (.int k m)) = if 0 ≤ m then (if m < len ∧ m.toNat * sz ≤ c.length then some (.plc (c.drop (m.toNat * sz))) else none) else none := by
  simp only [zec, zee, ht]
theorem idxV_ptr {P : Program} {T len sz : Nat} (ht : tarr P T = some (len, sz)) (b off : Nat) (k : IntKind) (m : Int) : zec P T (.v (.pointer (some ⟨b, off, none⟩))) (.v (.int k m)) = if 0 ≤ m then (if m < len then some (.v (.pointer (some ⟨b, off + m.toNat * sz, none⟩))) else none) else none := by
  simp only [zec, zee, ht]
theorem zdq {P : Program} {T e sz by_ : Nat} (ht : tel P T = some (e, sz, by_)) {x : V} {l : List (List V)} (hx : zee x = some l) (lo hi : Option Nat) : slcV P T x lo hi = if lo.getD 0 ≤ hi.getD l.length ∧ hi.getD l.length ≤ l.length ∧ (∀ c ∈ l, c.length = sz) then some (.lst ((l.take (hi.getD l.length)).drop (lo.getD 0))) else none := by
  simp only [slcV, ht, hx]
theorem zfv {P : Program} {T e sz by_ : Nat} (ht : tel P T = some (e, sz, by_)) (b off len cap : Nat) (lo hi : Option Nat) : slcV P T (.v (.slice (some ⟨b, off, none⟩) len cap)) lo hi = if lo.getD 0 ≤ hi.getD len ∧ hi.getD len ≤ cap ∧ lo.getD 0 < cap then some (.v (.slice (some ⟨b, off + lo.getD 0 * sz, none⟩) (hi.getD len - lo.getD 0) (cap - lo.getD 0))) else none := by
  simp only [slcV, ht, zee]
theorem zcx {P : Program} {T : Nat} (ht : zjo P T = true) {x : V} {l : List (List V)} (hx : zee x = some l) : zdo P T x = some (.v (.int .i64 l.length)) := by
  simp only [zdo, hx, ht, if_true]
theorem zfx {P : Program} {T : Nat} (ht : zjo P T = true) (a : Addr) (n c : Nat) : zdo P T (.v (.slice (some a) n c)) = some (.v (.int .i64 n)) := by
  simp only [zdo, zee, ht, if_true]
theorem zpy {P : Program} {T : Nat} (ht : ztd P T = true) (s : ByteArray) : zdo P T (.v (.string s)) = some (.v (.int .i64 s.size)) := by
  simp only [zdo, zee, ht, if_true]
theorem zbc {P : Program} {T f o : Nat} (ho : foff P T f = some o) (c : List V) : zbk P T f (.plc c) = if o ≤ c.length then some (.plc (c.drop o)) else none := by simp only [zbk, ho]
theorem zbb {P : Program} {T f o : Nat} (ho : foff P T f = some o) (b off : Nat) : zbk P T f (.v (.pointer (some ⟨b, off, none⟩))) = some (.v (.pointer (some ⟨b, off + o, none⟩))) := by simp only [zbk, ho]
theorem cvtV_of {P : Program} {s d : TypeId} {k' : IntKind} (e1 : (P.underlying s).isSome = true) (e2 : tint P d = some k') (k : IntKind) (n : Int) : ztk P s d (.v (.int k n)) = some (.v (.int k' (k'.wrap n))) := by simp only [ztk, e1, e2]
@[go_sem] theorem zerosV_int (k : IntKind) (n : Int) (m : Nat) : zdp (.int k n) m = List.replicate m (.v (.int k n)) := by
  simp only [zdp, Value.cells]
  induction m with
  | zero => rfl
  | succ m ih => rw [List.replicate_succ, List.flatten_cons, List.replicate_succ, ih]; rfl
@[go_sem] theorem zls (m : Nat) : zdp (.slice none 0 0) m = List.replicate m (.v (.slice none 0 0)) := by
  simp only [zdp, Value.cells]
  induction m with
  | zero => rfl
  | succ m ih => rw [List.replicate_succ, List.flatten_cons, List.replicate_succ, ih]; rfl
@[go_sem] theorem zerosV_bool (b : Bool) (m : Nat) : zdp (.bool b) m = List.replicate m (.v (.bool b)) := by
  simp only [zdp, Value.cells]
  induction m with
  | zero => rfl
  | succ m ih => rw [List.replicate_succ, List.flatten_cons, List.replicate_succ, ih]; rfl
@[go_sem] theorem zerosV_agg (l : Array Value) (m : Nat) : zdp (.agg l) m = (List.replicate m (l.toList.map V.v)).flatten := rfl
@[go_sem] theorem replicate_zero' {α : Type} (a : α) : List.replicate 0 a = [] := rfl
@[go_sem] theorem replicate_succ' {α : Type} (a : α) (n : Nat) : List.replicate (n + 1) a = a :: List.replicate n a := rfl
@[go_sem] theorem flatten_nil' {α : Type} : ([] : List (List α)).flatten = [] := rfl
@[go_sem] theorem flatten_cons' {α : Type} (a : List α) (r : List (List α)) : (a :: r).flatten = a ++ r.flatten := rfl
@[go_sem] theorem zac (E : VEnv) (v : Value) : zgx E (.const v) = E := rfl
@[go_sem] theorem strip_func (E : VEnv) (v : Nat) : zgx E (.func v) = E := rfl
@[go_sem] theorem strip_global (E : VEnv) (v : Nat) : zgx E (.global v) = E := rfl
def zki (E : VEnv) (t : Nat) : Option V → VEnv
  | some (.own _ _ _ l) => (t, .lst l) :: E
  | _ => E
@[go_sem] theorem zal (E : VEnv) (t : Nat) : zgx E (.tmp t) = zki E t (zcp E t) := by
  simp only [zgx, zki]; split <;> simp_all
@[go_sem] theorem zag (E : VEnv) (t : Nat) (m : Bool) (e sz : Nat) (l : List (List V)) : zki E t (some (.own m e sz l)) = (t, .lst l) :: E := rfl
@[go_sem] theorem zah (E : VEnv) (t : Nat) (l : List (List V)) : zki E t (some (.lst l)) = E := rfl
@[go_sem] theorem zao (E : VEnv) (t : Nat) (x : Value) : zki E t (some (.v x)) = E := rfl
@[go_sem] theorem zaf (E : VEnv) (t : Nat) (x : List V) : zki E t (some (.plc x)) = E := rfl
@[go_sem] theorem zaj (E : VEnv) (t : Nat) (x : List V) : zki E t (some (.agg x)) = E := rfl
@[go_sem] theorem zam (E : VEnv) (t : Nat) (f : FuncId) (x y : List V) : zki E t (some (.fn f x y)) = E := rfl
@[go_sem] theorem zai (E : VEnv) (t : Nat) (f : TypeId) (x : V) : zki E t (some (.ifc f x)) = E := rfl
end Go.XL
namespace Go.XL
open Go.Proofs
@[go_sem] theorem tz2 : zbx Try.prog 2 = some (.int .i64 (0)) := by kernel_rfl
@[go_sem] theorem tz3 : zbx Try.prog 3 = some (.int .i64 (0)) := by kernel_rfl
@[go_sem] theorem tz4 : zbx Try.prog 4 = some (.bool false) := by kernel_rfl
@[go_sem] theorem tz5 : zbx Try.prog 5 = some (.int .u8 (0)) := by kernel_rfl
@[go_sem] theorem tz6 : zbx Try.prog 6 = some (.int .u8 (0)) := by kernel_rfl
@[go_sem] theorem tz7 : zbx Try.prog 7 = some (.agg #[.int .i64 (0), .int .i64 (0), .bool false, .int .u8 (0)]) := by kernel_rfl
@[go_sem] theorem tz8 : zbx Try.prog 8 = some (.agg #[.int .i64 (0), .int .i64 (0), .bool false, .int .u8 (0)]) := by kernel_rfl
@[go_sem] theorem tz12 : zbx Try.prog 12 = some (.int .u64 (0)) := by kernel_rfl
@[go_sem] theorem tz15 : zbx Try.prog 15 = some (.pointer none) := by kernel_rfl
@[go_sem] theorem tz16 : zbx Try.prog 16 = some (.pointer none) := by kernel_rfl
@[go_sem] theorem tz17 : zbx Try.prog 17 = some (.pointer none) := by kernel_rfl
@[go_sem] theorem tz18 : zbx Try.prog 18 = some (.agg #[.pointer none]) := by kernel_rfl
@[go_sem] theorem tz19 : zbx Try.prog 19 = some (.agg #[.pointer none]) := by kernel_rfl
@[go_sem] theorem tz20 : zbx Try.prog 20 = some (.nilIface) := by kernel_rfl
@[go_sem] theorem tz21 : zbx Try.prog 21 = some (.int .i32 (0)) := by kernel_rfl
@[go_sem] theorem tz22 : zbx Try.prog 22 = some (.slice none 0 0) := by kernel_rfl
@[go_sem] theorem tz23 : zbx Try.prog 23 = some (.slice none 0 0) := by kernel_rfl
@[go_sem] theorem tz24 : zbx Try.prog 24 = some (.slice none 0 0) := by kernel_rfl
@[go_sem] theorem tz25 : zbx Try.prog 25 = some (.agg #[.int .i64 (0), .int .i64 (0), .int .i64 (0), .int .i64 (0), .slice none 0 0, .bool false, .slice none 0 0, .slice none 0 0]) := by kernel_rfl
@[go_sem] theorem tz26 : zbx Try.prog 26 = some (.agg #[.int .i64 (0), .int .i64 (0), .int .i64 (0), .int .i64 (0), .slice none 0 0, .bool false, .slice none 0 0, .slice none 0 0]) := by kernel_rfl
@[go_sem] theorem tz27 : zbx Try.prog 27 = some (.nilFunc) := by kernel_rfl
@[go_sem] theorem tz28 : zbx Try.prog 28 = some (.nilFunc) := by kernel_rfl
@[go_sem] theorem tz29 : zbx Try.prog 29 = some (.pointer none) := by kernel_rfl
@[go_sem] theorem tz31 : zbx Try.prog 31 = some (.nilFunc) := by kernel_rfl
@[go_sem] theorem tz32 : zbx Try.prog 32 = some (.nilFunc) := by kernel_rfl
@[go_sem] theorem tz33 : zbx Try.prog 33 = some (.nilFunc) := by kernel_rfl
@[go_sem] theorem tz34 : zbx Try.prog 34 = some (.slice none 0 0) := by kernel_rfl
@[go_sem] theorem tz35 : zbx Try.prog 35 = some (.slice none 0 0) := by kernel_rfl
@[go_sem] theorem tz36 : zbx Try.prog 36 = some (.nilFunc) := by kernel_rfl
@[go_sem] theorem tz37 : zbx Try.prog 37 = some (.int .i64 (0)) := by kernel_rfl
@[go_sem] theorem tz39 : zbx Try.prog 39 = some (.nilFunc) := by kernel_rfl
@[go_sem] theorem tz40 : zbx Try.prog 40 = some (.nilFunc) := by kernel_rfl
@[go_sem] theorem tz41 : zbx Try.prog 41 = some (.nilFunc) := by kernel_rfl
@[go_sem] theorem tz42 : zbx Try.prog 42 = some (.nilFunc) := by kernel_rfl
@[go_sem] theorem tz43 : zbx Try.prog 43 = some (.nilFunc) := by kernel_rfl
@[go_sem] theorem tz45 : zbx Try.prog 45 = some (.nilFunc) := by kernel_rfl
@[go_sem] theorem tz46 : zbx Try.prog 46 = some (.slice none 0 0) := by kernel_rfl
@[go_sem] theorem tz47 : zbx Try.prog 47 = some (.nilFunc) := by kernel_rfl
@[go_sem] theorem tz48 : zbx Try.prog 48 = some (.nilFunc) := by kernel_rfl
@[go_sem] theorem tz49 : zbx Try.prog 49 = some (.nilFunc) := by kernel_rfl
@[go_sem] theorem tz50 : zbx Try.prog 50 = some (.nilFunc) := by kernel_rfl
@[go_sem] theorem tz51 : zbx Try.prog 51 = some (.nilFunc) := by kernel_rfl
@[go_sem] theorem tz52 : zbx Try.prog 52 = some (.nilFunc) := by kernel_rfl
@[go_sem] theorem tz53 : zbx Try.prog 53 = some (.nilFunc) := by kernel_rfl
@[go_sem] theorem tz55 : zbx Try.prog 55 = some (.nilFunc) := by kernel_rfl
@[go_sem] theorem tz56 : zbx Try.prog 56 = some (.nilFunc) := by kernel_rfl
@[go_sem] theorem tz57 : zbx Try.prog 57 = some (.nilFunc) := by kernel_rfl
@[go_sem] theorem tz58 : zbx Try.prog 58 = some (.nilFunc) := by kernel_rfl
@[go_sem] theorem tz60 : zbx Try.prog 60 = some (.nilFunc) := by kernel_rfl
@[go_sem] theorem tz62 : zbx Try.prog 62 = some (.nilFunc) := by kernel_rfl
@[go_sem] theorem tz63 : zbx Try.prog 63 = some (.nilFunc) := by kernel_rfl
@[go_sem] theorem tz64 : zbx Try.prog 64 = some (.nilFunc) := by kernel_rfl
@[go_sem] theorem tz66 : zbx Try.prog 66 = some (.nilFunc) := by kernel_rfl
@[go_sem] theorem tz67 : zbx Try.prog 67 = some (.nilFunc) := by kernel_rfl
@[go_sem] theorem tz68 : zbx Try.prog 68 = some (.nilFunc) := by kernel_rfl
@[go_sem] theorem tz70 : zbx Try.prog 70 = some (.nilFunc) := by kernel_rfl
@[go_sem] theorem tz71 : zbx Try.prog 71 = some (.nilFunc) := by kernel_rfl
@[go_sem] theorem tz72 : zbx Try.prog 72 = some (.slice none 0 0) := by kernel_rfl
@[go_sem] theorem tz75 : zbx Try.prog 75 = some (.agg #[.int .i64 (0), .int .i64 (0), .int .i64 (0), .int .i64 (0), .slice none 0 0]) := by kernel_rfl
@[go_sem] theorem tz76 : zbx Try.prog 76 = some (.agg #[.int .i64 (0), .int .i64 (0), .int .i64 (0), .int .i64 (0), .slice none 0 0]) := by kernel_rfl
@[go_sem] theorem tz77 : zbx Try.prog 77 = some (.agg #[.int .i64 (0), .int .i64 (0), .slice none 0 0]) := by kernel_rfl
@[go_sem] theorem tz78 : zbx Try.prog 78 = some (.agg #[.int .i64 (0), .int .i64 (0), .slice none 0 0]) := by kernel_rfl
@[go_sem] theorem tz79 : zbx Try.prog 79 = some (.slice none 0 0) := by kernel_rfl
@[go_sem] theorem tz80 : zbx Try.prog 80 = some (.agg #[.slice none 0 0, .slice none 0 0, .slice none 0 0]) := by kernel_rfl
@[go_sem] theorem tz81 : zbx Try.prog 81 = some (.agg #[.slice none 0 0, .slice none 0 0, .slice none 0 0]) := by kernel_rfl
@[go_sem] theorem tz84 : zbx Try.prog 84 = some (.nilFunc) := by kernel_rfl
@[go_sem] theorem tz85 : zbx Try.prog 85 = some (.nilFunc) := by kernel_rfl
@[go_sem] theorem tz87 : zbx Try.prog 87 = some (.agg #[.int .i64 (0), .int .i64 (0), .int .i64 (0), .int .i64 (0)]) := by kernel_rfl
@[go_sem] theorem tz88 : zbx Try.prog 88 = some (.agg #[.int .i64 (0), .int .i64 (0), .int .i64 (0), .int .i64 (0)]) := by kernel_rfl
@[go_sem] theorem tz89 : zbx Try.prog 89 = some (.pointer none) := by kernel_rfl
@[go_sem] theorem tz90 : zbx Try.prog 90 = some (.nilFunc) := by kernel_rfl
@[go_sem] theorem tz91 : zbx Try.prog 91 = some (.nilFunc) := by kernel_rfl
@[go_sem] theorem tz92 : zbx Try.prog 92 = some (.pointer none) := by kernel_rfl
@[go_sem] theorem tz93 : zbx Try.prog 93 = some (.nilFunc) := by kernel_rfl
@[go_sem] theorem tz95 : zbx Try.prog 95 = some (.map none) := by kernel_rfl
@[go_sem] theorem tz96 : zbx Try.prog 96 = some (.agg #[.int .i64 (0), .int .i64 (0), .int .i64 (0), .slice none 0 0, .slice none 0 0, .map none]) := by kernel_rfl
@[go_sem] theorem tz97 : zbx Try.prog 97 = some (.agg #[.int .i64 (0), .int .i64 (0), .int .i64 (0), .slice none 0 0, .slice none 0 0, .map none]) := by kernel_rfl
@[go_sem] theorem tz98 : zbx Try.prog 98 = some (.pointer none) := by kernel_rfl
@[go_sem] theorem tz99 : zbx Try.prog 99 = some (.nilFunc) := by kernel_rfl
@[go_sem] theorem tz100 : zbx Try.prog 100 = some (.slice none 0 0) := by kernel_rfl
@[go_sem] theorem tz101 : zbx Try.prog 101 = some (.agg #[.int .i64 (0), .int .i64 (0), .int .i64 (0), .int .i64 (0), .slice none 0 0, .bool false, .slice none 0 0, .slice none 0 0, .slice none 0 0, .slice none 0 0, .slice none 0 0, .int .i64 (0), .int .i64 (0)]) := by kernel_rfl
@[go_sem] theorem tz102 : zbx Try.prog 102 = some (.agg #[.int .i64 (0), .int .i64 (0), .int .i64 (0), .int .i64 (0), .slice none 0 0, .bool false, .slice none 0 0, .slice none 0 0, .slice none 0 0, .slice none 0 0, .slice none 0 0, .int .i64 (0), .int .i64 (0)]) := by kernel_rfl
@[go_sem] theorem tz106 : zbx Try.prog 106 = some (.int .u64 (0)) := by kernel_rfl
@[go_sem] theorem tz107 : zbx Try.prog 107 = some (.agg #[.int .u64 (0)]) := by kernel_rfl
@[go_sem] theorem tz108 : zbx Try.prog 108 = some (.agg #[.int .u64 (0)]) := by kernel_rfl
@[go_sem] theorem tz114 : zbx Try.prog 114 = some (.agg #[.int .i64 (0), .int .i64 (0)]) := by kernel_rfl
@[go_sem] theorem tz122 : zbx Try.prog 122 = some (.nilIface) := by kernel_rfl
@[go_sem] theorem tz125 : zbx Try.prog 125 = some (.nilFunc) := by kernel_rfl
@[go_sem] theorem tz127 : zbx Try.prog 127 = some (.nilFunc) := by kernel_rfl
@[go_sem] theorem tz132 : zbx Try.prog 132 = some (.nilFunc) := by kernel_rfl
@[go_sem] theorem tz134 : zbx Try.prog 134 = some (.slice none 0 0) := by kernel_rfl
@[go_sem] theorem tz140 : zbx Try.prog 140 = some (.nilFunc) := by kernel_rfl
@[go_sem] theorem tz142 : zbx Try.prog 142 = some (.nilFunc) := by kernel_rfl
@[go_sem] theorem tz146 : zbx Try.prog 146 = some (.nilFunc) := by kernel_rfl
@[go_sem] theorem tz147 : zbx Try.prog 147 = some (.nilFunc) := by kernel_rfl
@[go_sem] theorem tz148 : zbx Try.prog 148 = some (.nilFunc) := by kernel_rfl
@[go_sem] theorem tz149 : zbx Try.prog 149 = some (.nilFunc) := by kernel_rfl
@[go_sem] theorem tz150 : zbx Try.prog 150 = some (.nilFunc) := by kernel_rfl
@[go_sem] theorem tz155 : zbx Try.prog 155 = some (.nilFunc) := by kernel_rfl
@[go_sem] theorem tz164 : zbx Try.prog 164 = some (.nilFunc) := by kernel_rfl
@[go_sem] theorem tsz2 : tsz Try.prog 2 = some (false, 1) := by kernel_rfl
@[go_sem] theorem ldT2 (v : V) (r : List V) : ldTV Try.prog 2 (v :: r) = some v.copy := zbe tsz2 v r
@[go_sem] theorem ldD2 (l : List V) (k : Nat) : ldTV Try.prog 2 (l.drop k) = (l[k]?).map V.copy := zav tsz2 l k
@[go_sem] theorem tint2 : tint Try.prog 2 = some .i64 := by kernel_rfl
@[go_sem] theorem usm2 : (Try.prog.underlying 2).isSome = true := by kernel_rfl
@[go_sem] theorem tsz3 : tsz Try.prog 3 = some (false, 1) := by kernel_rfl
@[go_sem] theorem ldT3 (v : V) (r : List V) : ldTV Try.prog 3 (v :: r) = some v.copy := zbe tsz3 v r
@[go_sem] theorem ldD3 (l : List V) (k : Nat) : ldTV Try.prog 3 (l.drop k) = (l[k]?).map V.copy := zav tsz3 l k
@[go_sem] theorem tint3 : tint Try.prog 3 = some .i64 := by kernel_rfl
@[go_sem] theorem usm3 : (Try.prog.underlying 3).isSome = true := by kernel_rfl
@[go_sem] theorem tsz4 : tsz Try.prog 4 = some (false, 1) := by kernel_rfl
@[go_sem] theorem ldT4 (v : V) (r : List V) : ldTV Try.prog 4 (v :: r) = some v.copy := zbe tsz4 v r
@[go_sem] theorem ldD4 (l : List V) (k : Nat) : ldTV Try.prog 4 (l.drop k) = (l[k]?).map V.copy := zav tsz4 l k
@[go_sem] theorem eqB4 (u v : Bool) : bop Try.prog .eql 4 (.bool u) (.bool v) = some (.bool (u == v)) := bop_eqlB (by kernel_rfl)
@[go_sem] theorem neB4 (u v : Bool) : bop Try.prog .neq 4 (.bool u) (.bool v) = some (.bool (u != v)) := bop_neqB (by kernel_rfl)
@[go_sem] theorem tsz5 : tsz Try.prog 5 = some (false, 1) := by kernel_rfl
@[go_sem] theorem ldT5 (v : V) (r : List V) : ldTV Try.prog 5 (v :: r) = some v.copy := zbe tsz5 v r
@[go_sem] theorem ldD5 (l : List V) (k : Nat) : ldTV Try.prog 5 (l.drop k) = (l[k]?).map V.copy := zav tsz5 l k
@[go_sem] theorem tint5 : tint Try.prog 5 = some .u8 := by kernel_rfl
@[go_sem] theorem usm5 : (Try.prog.underlying 5).isSome = true := by kernel_rfl
@[go_sem] theorem tsz6 : tsz Try.prog 6 = some (false, 1) := by kernel_rfl
@[go_sem] theorem ldT6 (v : V) (r : List V) : ldTV Try.prog 6 (v :: r) = some v.copy := zbe tsz6 v r
@[go_sem] theorem ldD6 (l : List V) (k : Nat) : ldTV Try.prog 6 (l.drop k) = (l[k]?).map V.copy := zav tsz6 l k
@[go_sem] theorem tint6 : tint Try.prog 6 = some .u8 := by kernel_rfl
@[go_sem] theorem usm6 : (Try.prog.underlying 6).isSome = true := by kernel_rfl
@[go_sem] theorem tsz7 : tsz Try.prog 7 = some (true, 4) := by kernel_rfl
@[go_sem] theorem ldT7 (c : List V) : ldTV Try.prog 7 c = if 4 ≤ c.length then some (.agg ((c.take 4).map V.peek)) else none := zdd tsz7 c
@[go_sem] theorem foff7_0 : foff Try.prog 7 0 = some 0 := by kernel_rfl
@[go_sem] theorem fpl7_0 (c : List V) : zbk Try.prog 7 0 (.plc c) = if 0 ≤ c.length then some (.plc (c.drop 0)) else none := zbc foff7_0 c
@[go_sem] theorem fpt7_0 (b o : Nat) : zbk Try.prog 7 0 (.v (.pointer (some ⟨b, o, none⟩))) = some (.v (.pointer (some ⟨b, o + 0, none⟩))) := zbb foff7_0 b o
@[go_sem] theorem foff7_1 : foff Try.prog 7 1 = some 1 := by kernel_rfl
@[go_sem] theorem fpl7_1 (c : List V) : zbk Try.prog 7 1 (.plc c) = if 1 ≤ c.length then some (.plc (c.drop 1)) else none := zbc foff7_1 c
@[go_sem] theorem fpt7_1 (b o : Nat) : zbk Try.prog 7 1 (.v (.pointer (some ⟨b, o, none⟩))) = some (.v (.pointer (some ⟨b, o + 1, none⟩))) := zbb foff7_1 b o
@[go_sem] theorem foff7_2 : foff Try.prog 7 2 = some 2 := by kernel_rfl
@[go_sem] theorem fpl7_2 (c : List V) : zbk Try.prog 7 2 (.plc c) = if 2 ≤ c.length then some (.plc (c.drop 2)) else none := zbc foff7_2 c
@[go_sem] theorem fpt7_2 (b o : Nat) : zbk Try.prog 7 2 (.v (.pointer (some ⟨b, o, none⟩))) = some (.v (.pointer (some ⟨b, o + 2, none⟩))) := zbb foff7_2 b o
@[go_sem] theorem foff7_3 : foff Try.prog 7 3 = some 3 := by kernel_rfl
@[go_sem] theorem fpl7_3 (c : List V) : zbk Try.prog 7 3 (.plc c) = if 3 ≤ c.length then some (.plc (c.drop 3)) else none := zbc foff7_3 c
@[go_sem] theorem fpt7_3 (b o : Nat) : zbk Try.prog 7 3 (.v (.pointer (some ⟨b, o, none⟩))) = some (.v (.pointer (some ⟨b, o + 3, none⟩))) := zbb foff7_3 b o
@[go_sem] theorem bld7 (ps : List (Nat × V)) : zek Try.prog 7 ps = zdu (zdz [(0, 1), (1, 1), (2, 1), (3, 1)]) [V.v (.int .i64 (0)), V.v (.int .i64 (0)), V.v (.bool false), V.v (.int .u8 (0))] ps := by kernel_rfl
@[go_sem] theorem tsz8 : tsz Try.prog 8 = some (true, 4) := by kernel_rfl
@[go_sem] theorem ldT8 (c : List V) : ldTV Try.prog 8 c = if 4 ≤ c.length then some (.agg ((c.take 4).map V.peek)) else none := zdd tsz8 c
@[go_sem] theorem foff8_0 : foff Try.prog 8 0 = some 0 := by kernel_rfl
@[go_sem] theorem fpl8_0 (c : List V) : zbk Try.prog 8 0 (.plc c) = if 0 ≤ c.length then some (.plc (c.drop 0)) else none := zbc foff8_0 c
@[go_sem] theorem fpt8_0 (b o : Nat) : zbk Try.prog 8 0 (.v (.pointer (some ⟨b, o, none⟩))) = some (.v (.pointer (some ⟨b, o + 0, none⟩))) := zbb foff8_0 b o
@[go_sem] theorem foff8_1 : foff Try.prog 8 1 = some 1 := by kernel_rfl
@[go_sem] theorem fpl8_1 (c : List V) : zbk Try.prog 8 1 (.plc c) = if 1 ≤ c.length then some (.plc (c.drop 1)) else none := zbc foff8_1 c
@[go_sem] theorem fpt8_1 (b o : Nat) : zbk Try.prog 8 1 (.v (.pointer (some ⟨b, o, none⟩))) = some (.v (.pointer (some ⟨b, o + 1, none⟩))) := zbb foff8_1 b o
@[go_sem] theorem foff8_2 : foff Try.prog 8 2 = some 2 := by kernel_rfl
@[go_sem] theorem fpl8_2 (c : List V) : zbk Try.prog 8 2 (.plc c) = if 2 ≤ c.length then some (.plc (c.drop 2)) else none := zbc foff8_2 c
@[go_sem] theorem fpt8_2 (b o : Nat) : zbk Try.prog 8 2 (.v (.pointer (some ⟨b, o, none⟩))) = some (.v (.pointer (some ⟨b, o + 2, none⟩))) := zbb foff8_2 b o
@[go_sem] theorem foff8_3 : foff Try.prog 8 3 = some 3 := by kernel_rfl
@[go_sem] theorem fpl8_3 (c : List V) : zbk Try.prog 8 3 (.plc c) = if 3 ≤ c.length then some (.plc (c.drop 3)) else none := zbc foff8_3 c
@[go_sem] theorem fpt8_3 (b o : Nat) : zbk Try.prog 8 3 (.v (.pointer (some ⟨b, o, none⟩))) = some (.v (.pointer (some ⟨b, o + 3, none⟩))) := zbb foff8_3 b o
@[go_sem] theorem bld8 (ps : List (Nat × V)) : zek Try.prog 8 ps = zdu (zdz [(0, 1), (1, 1), (2, 1), (3, 1)]) [V.v (.int .i64 (0)), V.v (.int .i64 (0)), V.v (.bool false), V.v (.int .u8 (0))] ps := by kernel_rfl
@[go_sem] theorem tsz9 : tsz Try.prog 9 = some (false, 1) := by kernel_rfl
@[go_sem] theorem ldT9 (v : V) (r : List V) : ldTV Try.prog 9 (v :: r) = some v.copy := zbe tsz9 v r
@[go_sem] theorem ldD9 (l : List V) (k : Nat) : ldTV Try.prog 9 (l.drop k) = (l[k]?).map V.copy := zav tsz9 l k
@[go_sem] theorem istr9 : ztd Try.prog 9 = true := by kernel_rfl
@[go_sem] theorem lst9 (s : ByteArray) : zdo Try.prog 9 (.v (.string s)) = some (.v (.int .i64 s.size)) := zpy istr9 s
@[go_sem] theorem tsz10 : tsz Try.prog 10 = some (false, 1) := by kernel_rfl
@[go_sem] theorem ldT10 (v : V) (r : List V) : ldTV Try.prog 10 (v :: r) = some v.copy := zbe tsz10 v r
@[go_sem] theorem ldD10 (l : List V) (k : Nat) : ldTV Try.prog 10 (l.drop k) = (l[k]?).map V.copy := zav tsz10 l k
@[go_sem] theorem istr10 : ztd Try.prog 10 = true := by kernel_rfl
@[go_sem] theorem lst10 (s : ByteArray) : zdo Try.prog 10 (.v (.string s)) = some (.v (.int .i64 s.size)) := zpy istr10 s
@[go_sem] theorem tsz11 : tsz Try.prog 11 = some (false, 1) := by kernel_rfl
@[go_sem] theorem ldT11 (v : V) (r : List V) : ldTV Try.prog 11 (v :: r) = some v.copy := zbe tsz11 v r
@[go_sem] theorem ldD11 (l : List V) (k : Nat) : ldTV Try.prog 11 (l.drop k) = (l[k]?).map V.copy := zav tsz11 l k
@[go_sem] theorem istr11 : ztd Try.prog 11 = true := by kernel_rfl
@[go_sem] theorem lst11 (s : ByteArray) : zdo Try.prog 11 (.v (.string s)) = some (.v (.int .i64 s.size)) := zpy istr11 s
@[go_sem] theorem tsz12 : tsz Try.prog 12 = some (false, 1) := by kernel_rfl
@[go_sem] theorem ldT12 (v : V) (r : List V) : ldTV Try.prog 12 (v :: r) = some v.copy := zbe tsz12 v r
@[go_sem] theorem ldD12 (l : List V) (k : Nat) : ldTV Try.prog 12 (l.drop k) = (l[k]?).map V.copy := zav tsz12 l k
@[go_sem] theorem tint12 : tint Try.prog 12 = some .u64 := by kernel_rfl
@[go_sem] theorem usm12 : (Try.prog.underlying 12).isSome = true := by kernel_rfl
@[go_sem] theorem tsz13 : tsz Try.prog 13 = some (true, 2) := by kernel_rfl
@[go_sem] theorem ldT13 (c : List V) : ldTV Try.prog 13 c = if 2 ≤ c.length then some (.agg ((c.take 2).map V.peek)) else none := zdd tsz13 c
@[go_sem] theorem zwx : foff Try.prog 13 0 = some 0 := by kernel_rfl
@[go_sem] theorem fpl13_0 (c : List V) : zbk Try.prog 13 0 (.plc c) = if 0 ≤ c.length then some (.plc (c.drop 0)) else none := zbc zwx c
@[go_sem] theorem fpt13_0 (b o : Nat) : zbk Try.prog 13 0 (.v (.pointer (some ⟨b, o, none⟩))) = some (.v (.pointer (some ⟨b, o + 0, none⟩))) := zbb zwx b o
@[go_sem] theorem zww : foff Try.prog 13 1 = some 1 := by kernel_rfl
@[go_sem] theorem fpl13_1 (c : List V) : zbk Try.prog 13 1 (.plc c) = if 1 ≤ c.length then some (.plc (c.drop 1)) else none := zbc zww c
@[go_sem] theorem fpt13_1 (b o : Nat) : zbk Try.prog 13 1 (.v (.pointer (some ⟨b, o, none⟩))) = some (.v (.pointer (some ⟨b, o + 1, none⟩))) := zbb zww b o
@[go_sem] theorem tsz14 : tsz Try.prog 14 = some (true, 2) := by kernel_rfl
@[go_sem] theorem ldT14 (c : List V) : ldTV Try.prog 14 c = if 2 ≤ c.length then some (.agg ((c.take 2).map V.peek)) else none := zdd tsz14 c
@[go_sem] theorem zwv : foff Try.prog 14 0 = some 0 := by kernel_rfl
@[go_sem] theorem fpl14_0 (c : List V) : zbk Try.prog 14 0 (.plc c) = if 0 ≤ c.length then some (.plc (c.drop 0)) else none := zbc zwv c
@[go_sem] theorem fpt14_0 (b o : Nat) : zbk Try.prog 14 0 (.v (.pointer (some ⟨b, o, none⟩))) = some (.v (.pointer (some ⟨b, o + 0, none⟩))) := zbb zwv b o
@[go_sem] theorem zwu : foff Try.prog 14 1 = some 1 := by kernel_rfl
@[go_sem] theorem fpl14_1 (c : List V) : zbk Try.prog 14 1 (.plc c) = if 1 ≤ c.length then some (.plc (c.drop 1)) else none := zbc zwu c
@[go_sem] theorem fpt14_1 (b o : Nat) : zbk Try.prog 14 1 (.v (.pointer (some ⟨b, o, none⟩))) = some (.v (.pointer (some ⟨b, o + 1, none⟩))) := zbb zwu b o
@[go_sem] theorem tsz15 : tsz Try.prog 15 = some (false, 1) := by kernel_rfl
@[go_sem] theorem ldT15 (v : V) (r : List V) : ldTV Try.prog 15 (v :: r) = some v.copy := zbe tsz15 v r
@[go_sem] theorem ldD15 (l : List V) (k : Nat) : ldTV Try.prog 15 (l.drop k) = (l[k]?).map V.copy := zav tsz15 l k
@[go_sem] theorem tsz16 : tsz Try.prog 16 = some (false, 1) := by kernel_rfl
@[go_sem] theorem ldT16 (v : V) (r : List V) : ldTV Try.prog 16 (v :: r) = some v.copy := zbe tsz16 v r
@[go_sem] theorem ldD16 (l : List V) (k : Nat) : ldTV Try.prog 16 (l.drop k) = (l[k]?).map V.copy := zav tsz16 l k
@[go_sem] theorem tsz17 : tsz Try.prog 17 = some (false, 1) := by kernel_rfl
@[go_sem] theorem ldT17 (v : V) (r : List V) : ldTV Try.prog 17 (v :: r) = some v.copy := zbe tsz17 v r
@[go_sem] theorem ldD17 (l : List V) (k : Nat) : ldTV Try.prog 17 (l.drop k) = (l[k]?).map V.copy := zav tsz17 l k
@[go_sem] theorem tsz18 : tsz Try.prog 18 = some (true, 1) := by kernel_rfl
@[go_sem] theorem ldT18 (c : List V) : ldTV Try.prog 18 c = if 1 ≤ c.length then some (.agg ((c.take 1).map V.peek)) else none := zdd tsz18 c
@[go_sem] theorem zwt : foff Try.prog 18 0 = some 0 := by kernel_rfl
@[go_sem] theorem fpl18_0 (c : List V) : zbk Try.prog 18 0 (.plc c) = if 0 ≤ c.length then some (.plc (c.drop 0)) else none := zbc zwt c
@[go_sem] theorem fpt18_0 (b o : Nat) : zbk Try.prog 18 0 (.v (.pointer (some ⟨b, o, none⟩))) = some (.v (.pointer (some ⟨b, o + 0, none⟩))) := zbb zwt b o
@[go_sem] theorem bld18 (ps : List (Nat × V)) : zek Try.prog 18 ps = zdu (zdz [(0, 1)]) [V.v (.pointer none)] ps := by kernel_rfl
@[go_sem] theorem tsz19 : tsz Try.prog 19 = some (true, 1) := by kernel_rfl
@[go_sem] theorem ldT19 (c : List V) : ldTV Try.prog 19 c = if 1 ≤ c.length then some (.agg ((c.take 1).map V.peek)) else none := zdd tsz19 c
@[go_sem] theorem zws : foff Try.prog 19 0 = some 0 := by kernel_rfl
@[go_sem] theorem fpl19_0 (c : List V) : zbk Try.prog 19 0 (.plc c) = if 0 ≤ c.length then some (.plc (c.drop 0)) else none := zbc zws c
@[go_sem] theorem fpt19_0 (b o : Nat) : zbk Try.prog 19 0 (.v (.pointer (some ⟨b, o, none⟩))) = some (.v (.pointer (some ⟨b, o + 0, none⟩))) := zbb zws b o
@[go_sem] theorem bld19 (ps : List (Nat × V)) : zek Try.prog 19 ps = zdu (zdz [(0, 1)]) [V.v (.pointer none)] ps := by kernel_rfl
@[go_sem] theorem tsz20 : tsz Try.prog 20 = some (false, 1) := by kernel_rfl
@[go_sem] theorem ldT20 (v : V) (r : List V) : ldTV Try.prog 20 (v :: r) = some v.copy := zbe tsz20 v r
@[go_sem] theorem ldD20 (l : List V) (k : Nat) : ldTV Try.prog 20 (l.drop k) = (l[k]?).map V.copy := zav tsz20 l k
@[go_sem] theorem tsz21 : tsz Try.prog 21 = some (false, 1) := by kernel_rfl
@[go_sem] theorem ldT21 (v : V) (r : List V) : ldTV Try.prog 21 (v :: r) = some v.copy := zbe tsz21 v r
@[go_sem] theorem ldD21 (l : List V) (k : Nat) : ldTV Try.prog 21 (l.drop k) = (l[k]?).map V.copy := zav tsz21 l k
@[go_sem] theorem tint21 : tint Try.prog 21 = some .i32 := by kernel_rfl
@[go_sem] theorem usm21 : (Try.prog.underlying 21).isSome = true := by kernel_rfl
@[go_sem] theorem tsz22 : tsz Try.prog 22 = some (false, 1) := by kernel_rfl
@[go_sem] theorem ldT22 (v : V) (r : List V) : ldTV Try.prog 22 (v :: r) = some v.copy := zbe tsz22 v r
@[go_sem] theorem ldD22 (l : List V) (k : Nat) : ldTV Try.prog 22 (l.drop k) = (l[k]?).map V.copy := zav tsz22 l k
@[go_sem] theorem zsy : tel Try.prog 22 = some (3, 1, 8) := by kernel_rfl
@[go_sem] theorem isl22 : zjo Try.prog 22 = true := by kernel_rfl
@[go_sem] theorem len22 (l : List (List V)) : zdo Try.prog 22 (.lst l) = some (.v (.int .i64 l.length)) := zcx isl22 rfl
@[go_sem] theorem leo22 (m : Bool) (e s : Nat) (l : List (List V)) : zdo Try.prog 22 (.own m e s l) = some (.v (.int .i64 l.length)) := zcx isl22 rfl
@[go_sem] theorem len022 : zdo Try.prog 22 (.v (.slice none 0 0)) = some (.v (.int .i64 0)) := zcx (l := []) isl22 rfl
@[go_sem] theorem les22 (a : Addr) (n c : Nat) : zdo Try.prog 22 (.v (.slice (some a) n c)) = some (.v (.int .i64 n)) := zfx isl22 a n c
@[go_sem] theorem ixl22 (l : List (List V)) (k : IntKind) (m : Int) : zec Try.prog 22 (.lst l) (.v (.int k m)) = if 0 ≤ m then idxO 1 l[m.toNat]? else none := zdr zsy rfl k m
@[go_sem] theorem ixo22 (b : Bool) (e s : Nat) (l : List (List V)) (k : IntKind) (m : Int) : zec Try.prog 22 (.own b e s l) (.v (.int k m)) = if 0 ≤ m then idxO 1 l[m.toNat]? else none := zdr zsy rfl k m
@[go_sem] theorem ixs22 (b off len cap : Nat) (k : IntKind) (m : Int) : zec Try.prog 22 (.v (.slice (some ⟨b, off, none⟩) len cap)) (.v (.int k m)) = if 0 ≤ m then (if m < len then some (.v (.pointer (some ⟨b, off + m.toNat * 1, none⟩))) else none) else none := zfy zsy b off len cap k m
@[go_sem] theorem sll22 (l : List (List V)) (lo hi : Option Nat) : slcV Try.prog 22 (.lst l) lo hi = if lo.getD 0 ≤ hi.getD l.length ∧ hi.getD l.length ≤ l.length ∧ (∀ c ∈ l, c.length = 1) then some (.lst ((l.take (hi.getD l.length)).drop (lo.getD 0))) else none := zdq zsy rfl lo hi
@[go_sem] theorem slo22 (b : Bool) (e s : Nat) (l : List (List V)) (lo hi : Option Nat) : slcV Try.prog 22 (.own b e s l) lo hi = if lo.getD 0 ≤ hi.getD l.length ∧ hi.getD l.length ≤ l.length ∧ (∀ c ∈ l, c.length = 1) then some (.lst ((l.take (hi.getD l.length)).drop (lo.getD 0))) else none := zdq zsy rfl lo hi
@[go_sem] theorem sls22 (b off len cap : Nat) (lo hi : Option Nat) : slcV Try.prog 22 (.v (.slice (some ⟨b, off, none⟩) len cap)) lo hi = if lo.getD 0 ≤ hi.getD len ∧ hi.getD len ≤ cap ∧ lo.getD 0 < cap then some (.v (.slice (some ⟨b, off + lo.getD 0 * 1, none⟩) (hi.getD len - lo.getD 0) (cap - lo.getD 0))) else none := zfv zsy b off len cap lo hi
@[go_sem] theorem bsl22 (len : Nat) (ps : List (Nat × V)) : bslV Try.prog 22 len ps = if len * 1 ≤ 16777216 ∧ len ≤ 16777216 then (zdu (fun i => some (i * 1, 1)) (zdp (.int .i64 (0)) len) ps).map fun c => (3, 1, c) else none := zhf zsy tz3 rfl rfl len ps
@[go_sem] theorem tsz23 : tsz Try.prog 23 = some (false, 1) := by kernel_rfl
@[go_sem] theorem ldT23 (v : V) (r : List V) : ldTV Try.prog 23 (v :: r) = some v.copy := zbe tsz23 v r
@[go_sem] theorem ldD23 (l : List V) (k : Nat) : ldTV Try.prog 23 (l.drop k) = (l[k]?).map V.copy := zav tsz23 l k
@[go_sem] theorem zsx : tel Try.prog 23 = some (88, 4, 32) := by kernel_rfl
@[go_sem] theorem isl23 : zjo Try.prog 23 = true := by kernel_rfl
@[go_sem] theorem len23 (l : List (List V)) : zdo Try.prog 23 (.lst l) = some (.v (.int .i64 l.length)) := zcx isl23 rfl
@[go_sem] theorem leo23 (m : Bool) (e s : Nat) (l : List (List V)) : zdo Try.prog 23 (.own m e s l) = some (.v (.int .i64 l.length)) := zcx isl23 rfl
@[go_sem] theorem len023 : zdo Try.prog 23 (.v (.slice none 0 0)) = some (.v (.int .i64 0)) := zcx (l := []) isl23 rfl
@[go_sem] theorem les23 (a : Addr) (n c : Nat) : zdo Try.prog 23 (.v (.slice (some a) n c)) = some (.v (.int .i64 n)) := zfx isl23 a n c
@[go_sem] theorem ixl23 (l : List (List V)) (k : IntKind) (m : Int) : zec Try.prog 23 (.lst l) (.v (.int k m)) = if 0 ≤ m then idxO 4 l[m.toNat]? else none := zdr zsx rfl k m
@[go_sem] theorem ixo23 (b : Bool) (e s : Nat) (l : List (List V)) (k : IntKind) (m : Int) : zec Try.prog 23 (.own b e s l) (.v (.int k m)) = if 0 ≤ m then idxO 4 l[m.toNat]? else none := zdr zsx rfl k m
@[go_sem] theorem ixs23 (b off len cap : Nat) (k : IntKind) (m : Int) : zec Try.prog 23 (.v (.slice (some ⟨b, off, none⟩) len cap)) (.v (.int k m)) = if 0 ≤ m then (if m < len then some (.v (.pointer (some ⟨b, off + m.toNat * 4, none⟩))) else none) else none := zfy zsx b off len cap k m
@[go_sem] theorem sll23 (l : List (List V)) (lo hi : Option Nat) : slcV Try.prog 23 (.lst l) lo hi = if lo.getD 0 ≤ hi.getD l.length ∧ hi.getD l.length ≤ l.length ∧ (∀ c ∈ l, c.length = 4) then some (.lst ((l.take (hi.getD l.length)).drop (lo.getD 0))) else none := zdq zsx rfl lo hi
@[go_sem] theorem slo23 (b : Bool) (e s : Nat) (l : List (List V)) (lo hi : Option Nat) : slcV Try.prog 23 (.own b e s l) lo hi = if lo.getD 0 ≤ hi.getD l.length ∧ hi.getD l.length ≤ l.length ∧ (∀ c ∈ l, c.length = 4) then some (.lst ((l.take (hi.getD l.length)).drop (lo.getD 0))) else none := zdq zsx rfl lo hi
@[go_sem] theorem sls23 (b off len cap : Nat) (lo hi : Option Nat) : slcV Try.prog 23 (.v (.slice (some ⟨b, off, none⟩) len cap)) lo hi = if lo.getD 0 ≤ hi.getD len ∧ hi.getD len ≤ cap ∧ lo.getD 0 < cap then some (.v (.slice (some ⟨b, off + lo.getD 0 * 4, none⟩) (hi.getD len - lo.getD 0) (cap - lo.getD 0))) else none := zfv zsx b off len cap lo hi
@[go_sem] theorem bsl23 (len : Nat) (ps : List (Nat × V)) : bslV Try.prog 23 len ps = if len * 4 ≤ 16777216 ∧ len ≤ 16777216 then (zdu (fun i => some (i * 4, 4)) (zdp (.agg #[.int .i64 (0), .int .i64 (0), .int .i64 (0), .int .i64 (0)]) len) ps).map fun c => (88, 4, c) else none := zhf zsx tz88 rfl rfl len ps
@[go_sem] theorem tsz24 : tsz Try.prog 24 = some (false, 1) := by kernel_rfl
@[go_sem] theorem ldT24 (v : V) (r : List V) : ldTV Try.prog 24 (v :: r) = some v.copy := zbe tsz24 v r
@[go_sem] theorem ldD24 (l : List V) (k : Nat) : ldTV Try.prog 24 (l.drop k) = (l[k]?).map V.copy := zav tsz24 l k
@[go_sem] theorem zsw : tel Try.prog 24 = some (81, 3, 72) := by kernel_rfl
@[go_sem] theorem isl24 : zjo Try.prog 24 = true := by kernel_rfl
@[go_sem] theorem len24 (l : List (List V)) : zdo Try.prog 24 (.lst l) = some (.v (.int .i64 l.length)) := zcx isl24 rfl
@[go_sem] theorem leo24 (m : Bool) (e s : Nat) (l : List (List V)) : zdo Try.prog 24 (.own m e s l) = some (.v (.int .i64 l.length)) := zcx isl24 rfl
@[go_sem] theorem len024 : zdo Try.prog 24 (.v (.slice none 0 0)) = some (.v (.int .i64 0)) := zcx (l := []) isl24 rfl
@[go_sem] theorem les24 (a : Addr) (n c : Nat) : zdo Try.prog 24 (.v (.slice (some a) n c)) = some (.v (.int .i64 n)) := zfx isl24 a n c
@[go_sem] theorem ixl24 (l : List (List V)) (k : IntKind) (m : Int) : zec Try.prog 24 (.lst l) (.v (.int k m)) = if 0 ≤ m then idxO 3 l[m.toNat]? else none := zdr zsw rfl k m
@[go_sem] theorem ixo24 (b : Bool) (e s : Nat) (l : List (List V)) (k : IntKind) (m : Int) : zec Try.prog 24 (.own b e s l) (.v (.int k m)) = if 0 ≤ m then idxO 3 l[m.toNat]? else none := zdr zsw rfl k m
@[go_sem] theorem ixs24 (b off len cap : Nat) (k : IntKind) (m : Int) : zec Try.prog 24 (.v (.slice (some ⟨b, off, none⟩) len cap)) (.v (.int k m)) = if 0 ≤ m then (if m < len then some (.v (.pointer (some ⟨b, off + m.toNat * 3, none⟩))) else none) else none := zfy zsw b off len cap k m
@[go_sem] theorem sll24 (l : List (List V)) (lo hi : Option Nat) : slcV Try.prog 24 (.lst l) lo hi = if lo.getD 0 ≤ hi.getD l.length ∧ hi.getD l.length ≤ l.length ∧ (∀ c ∈ l, c.length = 3) then some (.lst ((l.take (hi.getD l.length)).drop (lo.getD 0))) else none := zdq zsw rfl lo hi
@[go_sem] theorem slo24 (b : Bool) (e s : Nat) (l : List (List V)) (lo hi : Option Nat) : slcV Try.prog 24 (.own b e s l) lo hi = if lo.getD 0 ≤ hi.getD l.length ∧ hi.getD l.length ≤ l.length ∧ (∀ c ∈ l, c.length = 3) then some (.lst ((l.take (hi.getD l.length)).drop (lo.getD 0))) else none := zdq zsw rfl lo hi
@[go_sem] theorem sls24 (b off len cap : Nat) (lo hi : Option Nat) : slcV Try.prog 24 (.v (.slice (some ⟨b, off, none⟩) len cap)) lo hi = if lo.getD 0 ≤ hi.getD len ∧ hi.getD len ≤ cap ∧ lo.getD 0 < cap then some (.v (.slice (some ⟨b, off + lo.getD 0 * 3, none⟩) (hi.getD len - lo.getD 0) (cap - lo.getD 0))) else none := zfv zsw b off len cap lo hi
@[go_sem] theorem bsl24 (len : Nat) (ps : List (Nat × V)) : bslV Try.prog 24 len ps = if len * 3 ≤ 16777216 ∧ len ≤ 16777216 then (zdu (fun i => some (i * 3, 3)) (zdp (.agg #[.slice none 0 0, .slice none 0 0, .slice none 0 0]) len) ps).map fun c => (81, 3, c) else none := zhf zsw tz81 rfl rfl len ps
@[go_sem] theorem tsz25 : tsz Try.prog 25 = some (true, 8) := by kernel_rfl
@[go_sem] theorem ldT25 (c : List V) : ldTV Try.prog 25 c = if 8 ≤ c.length then some (.agg ((c.take 8).map V.peek)) else none := zdd tsz25 c
@[go_sem] theorem zwr : foff Try.prog 25 0 = some 0 := by kernel_rfl
@[go_sem] theorem fpl25_0 (c : List V) : zbk Try.prog 25 0 (.plc c) = if 0 ≤ c.length then some (.plc (c.drop 0)) else none := zbc zwr c
@[go_sem] theorem fpt25_0 (b o : Nat) : zbk Try.prog 25 0 (.v (.pointer (some ⟨b, o, none⟩))) = some (.v (.pointer (some ⟨b, o + 0, none⟩))) := zbb zwr b o
@[go_sem] theorem zwq : foff Try.prog 25 1 = some 1 := by kernel_rfl
@[go_sem] theorem fpl25_1 (c : List V) : zbk Try.prog 25 1 (.plc c) = if 1 ≤ c.length then some (.plc (c.drop 1)) else none := zbc zwq c
@[go_sem] theorem fpt25_1 (b o : Nat) : zbk Try.prog 25 1 (.v (.pointer (some ⟨b, o, none⟩))) = some (.v (.pointer (some ⟨b, o + 1, none⟩))) := zbb zwq b o
@[go_sem] theorem zwp : foff Try.prog 25 2 = some 2 := by kernel_rfl
@[go_sem] theorem fpl25_2 (c : List V) : zbk Try.prog 25 2 (.plc c) = if 2 ≤ c.length then some (.plc (c.drop 2)) else none := zbc zwp c
@[go_sem] theorem fpt25_2 (b o : Nat) : zbk Try.prog 25 2 (.v (.pointer (some ⟨b, o, none⟩))) = some (.v (.pointer (some ⟨b, o + 2, none⟩))) := zbb zwp b o
@[go_sem] theorem zwo : foff Try.prog 25 3 = some 3 := by kernel_rfl
@[go_sem] theorem fpl25_3 (c : List V) : zbk Try.prog 25 3 (.plc c) = if 3 ≤ c.length then some (.plc (c.drop 3)) else none := zbc zwo c
@[go_sem] theorem fpt25_3 (b o : Nat) : zbk Try.prog 25 3 (.v (.pointer (some ⟨b, o, none⟩))) = some (.v (.pointer (some ⟨b, o + 3, none⟩))) := zbb zwo b o
@[go_sem] theorem zwn : foff Try.prog 25 4 = some 4 := by kernel_rfl
@[go_sem] theorem fpl25_4 (c : List V) : zbk Try.prog 25 4 (.plc c) = if 4 ≤ c.length then some (.plc (c.drop 4)) else none := zbc zwn c
@[go_sem] theorem fpt25_4 (b o : Nat) : zbk Try.prog 25 4 (.v (.pointer (some ⟨b, o, none⟩))) = some (.v (.pointer (some ⟨b, o + 4, none⟩))) := zbb zwn b o
@[go_sem] theorem zwm : foff Try.prog 25 5 = some 5 := by kernel_rfl
@[go_sem] theorem fpl25_5 (c : List V) : zbk Try.prog 25 5 (.plc c) = if 5 ≤ c.length then some (.plc (c.drop 5)) else none := zbc zwm c
@[go_sem] theorem fpt25_5 (b o : Nat) : zbk Try.prog 25 5 (.v (.pointer (some ⟨b, o, none⟩))) = some (.v (.pointer (some ⟨b, o + 5, none⟩))) := zbb zwm b o
@[go_sem] theorem zwl : foff Try.prog 25 6 = some 6 := by kernel_rfl
@[go_sem] theorem fpl25_6 (c : List V) : zbk Try.prog 25 6 (.plc c) = if 6 ≤ c.length then some (.plc (c.drop 6)) else none := zbc zwl c
@[go_sem] theorem fpt25_6 (b o : Nat) : zbk Try.prog 25 6 (.v (.pointer (some ⟨b, o, none⟩))) = some (.v (.pointer (some ⟨b, o + 6, none⟩))) := zbb zwl b o
@[go_sem] theorem zwk : foff Try.prog 25 7 = some 7 := by kernel_rfl
@[go_sem] theorem fpl25_7 (c : List V) : zbk Try.prog 25 7 (.plc c) = if 7 ≤ c.length then some (.plc (c.drop 7)) else none := zbc zwk c
@[go_sem] theorem fpt25_7 (b o : Nat) : zbk Try.prog 25 7 (.v (.pointer (some ⟨b, o, none⟩))) = some (.v (.pointer (some ⟨b, o + 7, none⟩))) := zbb zwk b o
@[go_sem] theorem bld25 (ps : List (Nat × V)) : zek Try.prog 25 ps = zdu (zdz [(0, 1), (1, 1), (2, 1), (3, 1), (4, 1), (5, 1), (6, 1), (7, 1)]) [V.v (.int .i64 (0)), V.v (.int .i64 (0)), V.v (.int .i64 (0)), V.v (.int .i64 (0)), V.v (.slice none 0 0), V.v (.bool false), V.v (.slice none 0 0), V.v (.slice none 0 0)] ps := by kernel_rfl
@[go_sem] theorem tsz26 : tsz Try.prog 26 = some (true, 8) := by kernel_rfl
@[go_sem] theorem ldT26 (c : List V) : ldTV Try.prog 26 c = if 8 ≤ c.length then some (.agg ((c.take 8).map V.peek)) else none := zdd tsz26 c
@[go_sem] theorem zwj : foff Try.prog 26 0 = some 0 := by kernel_rfl
@[go_sem] theorem fpl26_0 (c : List V) : zbk Try.prog 26 0 (.plc c) = if 0 ≤ c.length then some (.plc (c.drop 0)) else none := zbc zwj c
@[go_sem] theorem fpt26_0 (b o : Nat) : zbk Try.prog 26 0 (.v (.pointer (some ⟨b, o, none⟩))) = some (.v (.pointer (some ⟨b, o + 0, none⟩))) := zbb zwj b o
@[go_sem] theorem zwi : foff Try.prog 26 1 = some 1 := by kernel_rfl
@[go_sem] theorem fpl26_1 (c : List V) : zbk Try.prog 26 1 (.plc c) = if 1 ≤ c.length then some (.plc (c.drop 1)) else none := zbc zwi c
@[go_sem] theorem fpt26_1 (b o : Nat) : zbk Try.prog 26 1 (.v (.pointer (some ⟨b, o, none⟩))) = some (.v (.pointer (some ⟨b, o + 1, none⟩))) := zbb zwi b o
@[go_sem] theorem zwh : foff Try.prog 26 2 = some 2 := by kernel_rfl
@[go_sem] theorem fpl26_2 (c : List V) : zbk Try.prog 26 2 (.plc c) = if 2 ≤ c.length then some (.plc (c.drop 2)) else none := zbc zwh c
@[go_sem] theorem fpt26_2 (b o : Nat) : zbk Try.prog 26 2 (.v (.pointer (some ⟨b, o, none⟩))) = some (.v (.pointer (some ⟨b, o + 2, none⟩))) := zbb zwh b o
@[go_sem] theorem zwg : foff Try.prog 26 3 = some 3 := by kernel_rfl
@[go_sem] theorem fpl26_3 (c : List V) : zbk Try.prog 26 3 (.plc c) = if 3 ≤ c.length then some (.plc (c.drop 3)) else none := zbc zwg c
@[go_sem] theorem fpt26_3 (b o : Nat) : zbk Try.prog 26 3 (.v (.pointer (some ⟨b, o, none⟩))) = some (.v (.pointer (some ⟨b, o + 3, none⟩))) := zbb zwg b o
@[go_sem] theorem zwf : foff Try.prog 26 4 = some 4 := by kernel_rfl
@[go_sem] theorem fpl26_4 (c : List V) : zbk Try.prog 26 4 (.plc c) = if 4 ≤ c.length then some (.plc (c.drop 4)) else none := zbc zwf c
@[go_sem] theorem fpt26_4 (b o : Nat) : zbk Try.prog 26 4 (.v (.pointer (some ⟨b, o, none⟩))) = some (.v (.pointer (some ⟨b, o + 4, none⟩))) := zbb zwf b o
@[go_sem] theorem zwe : foff Try.prog 26 5 = some 5 := by kernel_rfl
@[go_sem] theorem fpl26_5 (c : List V) : zbk Try.prog 26 5 (.plc c) = if 5 ≤ c.length then some (.plc (c.drop 5)) else none := zbc zwe c
@[go_sem] theorem fpt26_5 (b o : Nat) : zbk Try.prog 26 5 (.v (.pointer (some ⟨b, o, none⟩))) = some (.v (.pointer (some ⟨b, o + 5, none⟩))) := zbb zwe b o
@[go_sem] theorem zwd : foff Try.prog 26 6 = some 6 := by kernel_rfl
@[go_sem] theorem fpl26_6 (c : List V) : zbk Try.prog 26 6 (.plc c) = if 6 ≤ c.length then some (.plc (c.drop 6)) else none := zbc zwd c
@[go_sem] theorem fpt26_6 (b o : Nat) : zbk Try.prog 26 6 (.v (.pointer (some ⟨b, o, none⟩))) = some (.v (.pointer (some ⟨b, o + 6, none⟩))) := zbb zwd b o
@[go_sem] theorem zwc : foff Try.prog 26 7 = some 7 := by kernel_rfl
@[go_sem] theorem fpl26_7 (c : List V) : zbk Try.prog 26 7 (.plc c) = if 7 ≤ c.length then some (.plc (c.drop 7)) else none := zbc zwc c
@[go_sem] theorem fpt26_7 (b o : Nat) : zbk Try.prog 26 7 (.v (.pointer (some ⟨b, o, none⟩))) = some (.v (.pointer (some ⟨b, o + 7, none⟩))) := zbb zwc b o
@[go_sem] theorem bld26 (ps : List (Nat × V)) : zek Try.prog 26 ps = zdu (zdz [(0, 1), (1, 1), (2, 1), (3, 1), (4, 1), (5, 1), (6, 1), (7, 1)]) [V.v (.int .i64 (0)), V.v (.int .i64 (0)), V.v (.int .i64 (0)), V.v (.int .i64 (0)), V.v (.slice none 0 0), V.v (.bool false), V.v (.slice none 0 0), V.v (.slice none 0 0)] ps := by kernel_rfl
@[go_sem] theorem tsz27 : tsz Try.prog 27 = some (false, 1) := by kernel_rfl
@[go_sem] theorem ldT27 (v : V) (r : List V) : ldTV Try.prog 27 (v :: r) = some v.copy := zbe tsz27 v r
@[go_sem] theorem ldD27 (l : List V) (k : Nat) : ldTV Try.prog 27 (l.drop k) = (l[k]?).map V.copy := zav tsz27 l k
@[go_sem] theorem tsz28 : tsz Try.prog 28 = some (false, 1) := by kernel_rfl
@[go_sem] theorem ldT28 (v : V) (r : List V) : ldTV Try.prog 28 (v :: r) = some v.copy := zbe tsz28 v r
@[go_sem] theorem ldD28 (l : List V) (k : Nat) : ldTV Try.prog 28 (l.drop k) = (l[k]?).map V.copy := zav tsz28 l k
@[go_sem] theorem tsz29 : tsz Try.prog 29 = some (false, 1) := by kernel_rfl
@[go_sem] theorem ldT29 (v : V) (r : List V) : ldTV Try.prog 29 (v :: r) = some v.copy := zbe tsz29 v r
@[go_sem] theorem ldD29 (l : List V) (k : Nat) : ldTV Try.prog 29 (l.drop k) = (l[k]?).map V.copy := zav tsz29 l k
@[go_sem] theorem tsz31 : tsz Try.prog 31 = some (false, 1) := by kernel_rfl
@[go_sem] theorem ldT31 (v : V) (r : List V) : ldTV Try.prog 31 (v :: r) = some v.copy := zbe tsz31 v r
@[go_sem] theorem ldD31 (l : List V) (k : Nat) : ldTV Try.prog 31 (l.drop k) = (l[k]?).map V.copy := zav tsz31 l k
@[go_sem] theorem tsz32 : tsz Try.prog 32 = some (false, 1) := by kernel_rfl
@[go_sem] theorem ldT32 (v : V) (r : List V) : ldTV Try.prog 32 (v :: r) = some v.copy := zbe tsz32 v r
@[go_sem] theorem ldD32 (l : List V) (k : Nat) : ldTV Try.prog 32 (l.drop k) = (l[k]?).map V.copy := zav tsz32 l k
@[go_sem] theorem tsz33 : tsz Try.prog 33 = some (false, 1) := by kernel_rfl
@[go_sem] theorem ldT33 (v : V) (r : List V) : ldTV Try.prog 33 (v :: r) = some v.copy := zbe tsz33 v r
@[go_sem] theorem ldD33 (l : List V) (k : Nat) : ldTV Try.prog 33 (l.drop k) = (l[k]?).map V.copy := zav tsz33 l k
@[go_sem] theorem tsz34 : tsz Try.prog 34 = some (false, 1) := by kernel_rfl
@[go_sem] theorem ldT34 (v : V) (r : List V) : ldTV Try.prog 34 (v :: r) = some v.copy := zbe tsz34 v r
@[go_sem] theorem ldD34 (l : List V) (k : Nat) : ldTV Try.prog 34 (l.drop k) = (l[k]?).map V.copy := zav tsz34 l k
@[go_sem] theorem zsv : tel Try.prog 34 = some (26, 8, 112) := by kernel_rfl
@[go_sem] theorem isl34 : zjo Try.prog 34 = true := by kernel_rfl
@[go_sem] theorem len34 (l : List (List V)) : zdo Try.prog 34 (.lst l) = some (.v (.int .i64 l.length)) := zcx isl34 rfl
@[go_sem] theorem leo34 (m : Bool) (e s : Nat) (l : List (List V)) : zdo Try.prog 34 (.own m e s l) = some (.v (.int .i64 l.length)) := zcx isl34 rfl
@[go_sem] theorem len034 : zdo Try.prog 34 (.v (.slice none 0 0)) = some (.v (.int .i64 0)) := zcx (l := []) isl34 rfl
@[go_sem] theorem les34 (a : Addr) (n c : Nat) : zdo Try.prog 34 (.v (.slice (some a) n c)) = some (.v (.int .i64 n)) := zfx isl34 a n c
@[go_sem] theorem ixl34 (l : List (List V)) (k : IntKind) (m : Int) : zec Try.prog 34 (.lst l) (.v (.int k m)) = if 0 ≤ m then idxO 8 l[m.toNat]? else none := zdr zsv rfl k m
@[go_sem] theorem ixo34 (b : Bool) (e s : Nat) (l : List (List V)) (k : IntKind) (m : Int) : zec Try.prog 34 (.own b e s l) (.v (.int k m)) = if 0 ≤ m then idxO 8 l[m.toNat]? else none := zdr zsv rfl k m
@[go_sem] theorem ixs34 (b off len cap : Nat) (k : IntKind) (m : Int) : zec Try.prog 34 (.v (.slice (some ⟨b, off, none⟩) len cap)) (.v (.int k m)) = if 0 ≤ m then (if m < len then some (.v (.pointer (some ⟨b, off + m.toNat * 8, none⟩))) else none) else none := zfy zsv b off len cap k m
@[go_sem] theorem sll34 (l : List (List V)) (lo hi : Option Nat) : slcV Try.prog 34 (.lst l) lo hi = if lo.getD 0 ≤ hi.getD l.length ∧ hi.getD l.length ≤ l.length ∧ (∀ c ∈ l, c.length = 8) then some (.lst ((l.take (hi.getD l.length)).drop (lo.getD 0))) else none := zdq zsv rfl lo hi
@[go_sem] theorem slo34 (b : Bool) (e s : Nat) (l : List (List V)) (lo hi : Option Nat) : slcV Try.prog 34 (.own b e s l) lo hi = if lo.getD 0 ≤ hi.getD l.length ∧ hi.getD l.length ≤ l.length ∧ (∀ c ∈ l, c.length = 8) then some (.lst ((l.take (hi.getD l.length)).drop (lo.getD 0))) else none := zdq zsv rfl lo hi
@[go_sem] theorem sls34 (b off len cap : Nat) (lo hi : Option Nat) : slcV Try.prog 34 (.v (.slice (some ⟨b, off, none⟩) len cap)) lo hi = if lo.getD 0 ≤ hi.getD len ∧ hi.getD len ≤ cap ∧ lo.getD 0 < cap then some (.v (.slice (some ⟨b, off + lo.getD 0 * 8, none⟩) (hi.getD len - lo.getD 0) (cap - lo.getD 0))) else none := zfv zsv b off len cap lo hi
@[go_sem] theorem bsl34 (len : Nat) (ps : List (Nat × V)) : bslV Try.prog 34 len ps = if len * 8 ≤ 16777216 ∧ len ≤ 16777216 then (zdu (fun i => some (i * 8, 8)) (zdp (.agg #[.int .i64 (0), .int .i64 (0), .int .i64 (0), .int .i64 (0), .slice none 0 0, .bool false, .slice none 0 0, .slice none 0 0]) len) ps).map fun c => (26, 8, c) else none := zhf zsv tz26 rfl rfl len ps
@[go_sem] theorem tsz35 : tsz Try.prog 35 = some (false, 1) := by kernel_rfl
@[go_sem] theorem ldT35 (v : V) (r : List V) : ldTV Try.prog 35 (v :: r) = some v.copy := zbe tsz35 v r
@[go_sem] theorem ldD35 (l : List V) (k : Nat) : ldTV Try.prog 35 (l.drop k) = (l[k]?).map V.copy := zav tsz35 l k
@[go_sem] theorem zsu : tel Try.prog 35 = some (22, 1, 24) := by kernel_rfl
@[go_sem] theorem isl35 : zjo Try.prog 35 = true := by kernel_rfl
@[go_sem] theorem len35 (l : List (List V)) : zdo Try.prog 35 (.lst l) = some (.v (.int .i64 l.length)) := zcx isl35 rfl
@[go_sem] theorem leo35 (m : Bool) (e s : Nat) (l : List (List V)) : zdo Try.prog 35 (.own m e s l) = some (.v (.int .i64 l.length)) := zcx isl35 rfl
@[go_sem] theorem len035 : zdo Try.prog 35 (.v (.slice none 0 0)) = some (.v (.int .i64 0)) := zcx (l := []) isl35 rfl
@[go_sem] theorem les35 (a : Addr) (n c : Nat) : zdo Try.prog 35 (.v (.slice (some a) n c)) = some (.v (.int .i64 n)) := zfx isl35 a n c
@[go_sem] theorem ixl35 (l : List (List V)) (k : IntKind) (m : Int) : zec Try.prog 35 (.lst l) (.v (.int k m)) = if 0 ≤ m then idxO 1 l[m.toNat]? else none := zdr zsu rfl k m
@[go_sem] theorem ixo35 (b : Bool) (e s : Nat) (l : List (List V)) (k : IntKind) (m : Int) : zec Try.prog 35 (.own b e s l) (.v (.int k m)) = if 0 ≤ m then idxO 1 l[m.toNat]? else none := zdr zsu rfl k m
@[go_sem] theorem ixs35 (b off len cap : Nat) (k : IntKind) (m : Int) : zec Try.prog 35 (.v (.slice (some ⟨b, off, none⟩) len cap)) (.v (.int k m)) = if 0 ≤ m then (if m < len then some (.v (.pointer (some ⟨b, off + m.toNat * 1, none⟩))) else none) else none := zfy zsu b off len cap k m
@[go_sem] theorem sll35 (l : List (List V)) (lo hi : Option Nat) : slcV Try.prog 35 (.lst l) lo hi = if lo.getD 0 ≤ hi.getD l.length ∧ hi.getD l.length ≤ l.length ∧ (∀ c ∈ l, c.length = 1) then some (.lst ((l.take (hi.getD l.length)).drop (lo.getD 0))) else none := zdq zsu rfl lo hi
@[go_sem] theorem slo35 (b : Bool) (e s : Nat) (l : List (List V)) (lo hi : Option Nat) : slcV Try.prog 35 (.own b e s l) lo hi = if lo.getD 0 ≤ hi.getD l.length ∧ hi.getD l.length ≤ l.length ∧ (∀ c ∈ l, c.length = 1) then some (.lst ((l.take (hi.getD l.length)).drop (lo.getD 0))) else none := zdq zsu rfl lo hi
@[go_sem] theorem sls35 (b off len cap : Nat) (lo hi : Option Nat) : slcV Try.prog 35 (.v (.slice (some ⟨b, off, none⟩) len cap)) lo hi = if lo.getD 0 ≤ hi.getD len ∧ hi.getD len ≤ cap ∧ lo.getD 0 < cap then some (.v (.slice (some ⟨b, off + lo.getD 0 * 1, none⟩) (hi.getD len - lo.getD 0) (cap - lo.getD 0))) else none := zfv zsu b off len cap lo hi
@[go_sem] theorem bsl35 (len : Nat) (ps : List (Nat × V)) : bslV Try.prog 35 len ps = if len * 1 ≤ 16777216 ∧ len ≤ 16777216 then (zdu (fun i => some (i * 1, 1)) (zdp (.slice none 0 0) len) ps).map fun c => (22, 1, c) else none := zhf zsu tz22 rfl rfl len ps
@[go_sem] theorem tsz36 : tsz Try.prog 36 = some (false, 1) := by kernel_rfl
@[go_sem] theorem ldT36 (v : V) (r : List V) : ldTV Try.prog 36 (v :: r) = some v.copy := zbe tsz36 v r
@[go_sem] theorem ldD36 (l : List V) (k : Nat) : ldTV Try.prog 36 (l.drop k) = (l[k]?).map V.copy := zav tsz36 l k
@[go_sem] theorem tsz37 : tsz Try.prog 37 = some (false, 1) := by kernel_rfl
@[go_sem] theorem ldT37 (v : V) (r : List V) : ldTV Try.prog 37 (v :: r) = some v.copy := zbe tsz37 v r
@[go_sem] theorem ldD37 (l : List V) (k : Nat) : ldTV Try.prog 37 (l.drop k) = (l[k]?).map V.copy := zav tsz37 l k
@[go_sem] theorem tint37 : tint Try.prog 37 = some .i64 := by kernel_rfl
@[go_sem] theorem usm37 : (Try.prog.underlying 37).isSome = true := by kernel_rfl
@[go_sem] theorem tsz39 : tsz Try.prog 39 = some (false, 1) := by kernel_rfl
@[go_sem] theorem ldT39 (v : V) (r : List V) : ldTV Try.prog 39 (v :: r) = some v.copy := zbe tsz39 v r
@[go_sem] theorem ldD39 (l : List V) (k : Nat) : ldTV Try.prog 39 (l.drop k) = (l[k]?).map V.copy := zav tsz39 l k
@[go_sem] theorem tsz40 : tsz Try.prog 40 = some (false, 1) := by kernel_rfl
@[go_sem] theorem ldT40 (v : V) (r : List V) : ldTV Try.prog 40 (v :: r) = some v.copy := zbe tsz40 v r
@[go_sem] theorem ldD40 (l : List V) (k : Nat) : ldTV Try.prog 40 (l.drop k) = (l[k]?).map V.copy := zav tsz40 l k
@[go_sem] theorem tsz41 : tsz Try.prog 41 = some (false, 1) := by kernel_rfl
@[go_sem] theorem ldT41 (v : V) (r : List V) : ldTV Try.prog 41 (v :: r) = some v.copy := zbe tsz41 v r
@[go_sem] theorem ldD41 (l : List V) (k : Nat) : ldTV Try.prog 41 (l.drop k) = (l[k]?).map V.copy := zav tsz41 l k
@[go_sem] theorem tsz42 : tsz Try.prog 42 = some (false, 1) := by kernel_rfl
@[go_sem] theorem ldT42 (v : V) (r : List V) : ldTV Try.prog 42 (v :: r) = some v.copy := zbe tsz42 v r
@[go_sem] theorem ldD42 (l : List V) (k : Nat) : ldTV Try.prog 42 (l.drop k) = (l[k]?).map V.copy := zav tsz42 l k
@[go_sem] theorem tsz43 : tsz Try.prog 43 = some (false, 1) := by kernel_rfl
@[go_sem] theorem ldT43 (v : V) (r : List V) : ldTV Try.prog 43 (v :: r) = some v.copy := zbe tsz43 v r
@[go_sem] theorem ldD43 (l : List V) (k : Nat) : ldTV Try.prog 43 (l.drop k) = (l[k]?).map V.copy := zav tsz43 l k
@[go_sem] theorem tsz45 : tsz Try.prog 45 = some (false, 1) := by kernel_rfl
@[go_sem] theorem ldT45 (v : V) (r : List V) : ldTV Try.prog 45 (v :: r) = some v.copy := zbe tsz45 v r
@[go_sem] theorem ldD45 (l : List V) (k : Nat) : ldTV Try.prog 45 (l.drop k) = (l[k]?).map V.copy := zav tsz45 l k
@[go_sem] theorem tsz46 : tsz Try.prog 46 = some (false, 1) := by kernel_rfl
@[go_sem] theorem ldT46 (v : V) (r : List V) : ldTV Try.prog 46 (v :: r) = some v.copy := zbe tsz46 v r
@[go_sem] theorem ldD46 (l : List V) (k : Nat) : ldTV Try.prog 46 (l.drop k) = (l[k]?).map V.copy := zav tsz46 l k
@[go_sem] theorem zst : tel Try.prog 46 = some (35, 1, 24) := by kernel_rfl
@[go_sem] theorem isl46 : zjo Try.prog 46 = true := by kernel_rfl
@[go_sem] theorem len46 (l : List (List V)) : zdo Try.prog 46 (.lst l) = some (.v (.int .i64 l.length)) := zcx isl46 rfl
@[go_sem] theorem leo46 (m : Bool) (e s : Nat) (l : List (List V)) : zdo Try.prog 46 (.own m e s l) = some (.v (.int .i64 l.length)) := zcx isl46 rfl
@[go_sem] theorem len046 : zdo Try.prog 46 (.v (.slice none 0 0)) = some (.v (.int .i64 0)) := zcx (l := []) isl46 rfl
@[go_sem] theorem les46 (a : Addr) (n c : Nat) : zdo Try.prog 46 (.v (.slice (some a) n c)) = some (.v (.int .i64 n)) := zfx isl46 a n c
@[go_sem] theorem ixl46 (l : List (List V)) (k : IntKind) (m : Int) : zec Try.prog 46 (.lst l) (.v (.int k m)) = if 0 ≤ m then idxO 1 l[m.toNat]? else none := zdr zst rfl k m
@[go_sem] theorem ixo46 (b : Bool) (e s : Nat) (l : List (List V)) (k : IntKind) (m : Int) : zec Try.prog 46 (.own b e s l) (.v (.int k m)) = if 0 ≤ m then idxO 1 l[m.toNat]? else none := zdr zst rfl k m
@[go_sem] theorem ixs46 (b off len cap : Nat) (k : IntKind) (m : Int) : zec Try.prog 46 (.v (.slice (some ⟨b, off, none⟩) len cap)) (.v (.int k m)) = if 0 ≤ m then (if m < len then some (.v (.pointer (some ⟨b, off + m.toNat * 1, none⟩))) else none) else none := zfy zst b off len cap k m
@[go_sem] theorem sll46 (l : List (List V)) (lo hi : Option Nat) : slcV Try.prog 46 (.lst l) lo hi = if lo.getD 0 ≤ hi.getD l.length ∧ hi.getD l.length ≤ l.length ∧ (∀ c ∈ l, c.length = 1) then some (.lst ((l.take (hi.getD l.length)).drop (lo.getD 0))) else none := zdq zst rfl lo hi
@[go_sem] theorem slo46 (b : Bool) (e s : Nat) (l : List (List V)) (lo hi : Option Nat) : slcV Try.prog 46 (.own b e s l) lo hi = if lo.getD 0 ≤ hi.getD l.length ∧ hi.getD l.length ≤ l.length ∧ (∀ c ∈ l, c.length = 1) then some (.lst ((l.take (hi.getD l.length)).drop (lo.getD 0))) else none := zdq zst rfl lo hi
@[go_sem] theorem sls46 (b off len cap : Nat) (lo hi : Option Nat) : slcV Try.prog 46 (.v (.slice (some ⟨b, off, none⟩) len cap)) lo hi = if lo.getD 0 ≤ hi.getD len ∧ hi.getD len ≤ cap ∧ lo.getD 0 < cap then some (.v (.slice (some ⟨b, off + lo.getD 0 * 1, none⟩) (hi.getD len - lo.getD 0) (cap - lo.getD 0))) else none := zfv zst b off len cap lo hi
@[go_sem] theorem bsl46 (len : Nat) (ps : List (Nat × V)) : bslV Try.prog 46 len ps = if len * 1 ≤ 16777216 ∧ len ≤ 16777216 then (zdu (fun i => some (i * 1, 1)) (zdp (.slice none 0 0) len) ps).map fun c => (35, 1, c) else none := zhf zst tz35 rfl rfl len ps
@[go_sem] theorem tsz47 : tsz Try.prog 47 = some (false, 1) := by kernel_rfl
@[go_sem] theorem ldT47 (v : V) (r : List V) : ldTV Try.prog 47 (v :: r) = some v.copy := zbe tsz47 v r
@[go_sem] theorem ldD47 (l : List V) (k : Nat) : ldTV Try.prog 47 (l.drop k) = (l[k]?).map V.copy := zav tsz47 l k
@[go_sem] theorem tsz48 : tsz Try.prog 48 = some (false, 1) := by kernel_rfl
@[go_sem] theorem ldT48 (v : V) (r : List V) : ldTV Try.prog 48 (v :: r) = some v.copy := zbe tsz48 v r
@[go_sem] theorem ldD48 (l : List V) (k : Nat) : ldTV Try.prog 48 (l.drop k) = (l[k]?).map V.copy := zav tsz48 l k
@[go_sem] theorem tsz49 : tsz Try.prog 49 = some (false, 1) := by kernel_rfl
@[go_sem] theorem ldT49 (v : V) (r : List V) : ldTV Try.prog 49 (v :: r) = some v.copy := zbe tsz49 v r
@[go_sem] theorem ldD49 (l : List V) (k : Nat) : ldTV Try.prog 49 (l.drop k) = (l[k]?).map V.copy := zav tsz49 l k
@[go_sem] theorem tsz50 : tsz Try.prog 50 = some (false, 1) := by kernel_rfl
@[go_sem] theorem ldT50 (v : V) (r : List V) : ldTV Try.prog 50 (v :: r) = some v.copy := zbe tsz50 v r
@[go_sem] theorem ldD50 (l : List V) (k : Nat) : ldTV Try.prog 50 (l.drop k) = (l[k]?).map V.copy := zav tsz50 l k
@[go_sem] theorem tsz51 : tsz Try.prog 51 = some (false, 1) := by kernel_rfl
@[go_sem] theorem ldT51 (v : V) (r : List V) : ldTV Try.prog 51 (v :: r) = some v.copy := zbe tsz51 v r
@[go_sem] theorem ldD51 (l : List V) (k : Nat) : ldTV Try.prog 51 (l.drop k) = (l[k]?).map V.copy := zav tsz51 l k
@[go_sem] theorem tsz52 : tsz Try.prog 52 = some (false, 1) := by kernel_rfl
@[go_sem] theorem ldT52 (v : V) (r : List V) : ldTV Try.prog 52 (v :: r) = some v.copy := zbe tsz52 v r
@[go_sem] theorem ldD52 (l : List V) (k : Nat) : ldTV Try.prog 52 (l.drop k) = (l[k]?).map V.copy := zav tsz52 l k
@[go_sem] theorem tsz53 : tsz Try.prog 53 = some (false, 1) := by kernel_rfl
@[go_sem] theorem ldT53 (v : V) (r : List V) : ldTV Try.prog 53 (v :: r) = some v.copy := zbe tsz53 v r
@[go_sem] theorem ldD53 (l : List V) (k : Nat) : ldTV Try.prog 53 (l.drop k) = (l[k]?).map V.copy := zav tsz53 l k
@[go_sem] theorem tsz55 : tsz Try.prog 55 = some (false, 1) := by kernel_rfl
@[go_sem] theorem ldT55 (v : V) (r : List V) : ldTV Try.prog 55 (v :: r) = some v.copy := zbe tsz55 v r
@[go_sem] theorem ldD55 (l : List V) (k : Nat) : ldTV Try.prog 55 (l.drop k) = (l[k]?).map V.copy := zav tsz55 l k
@[go_sem] theorem tsz56 : tsz Try.prog 56 = some (false, 1) := by kernel_rfl
@[go_sem] theorem ldT56 (v : V) (r : List V) : ldTV Try.prog 56 (v :: r) = some v.copy := zbe tsz56 v r
@[go_sem] theorem ldD56 (l : List V) (k : Nat) : ldTV Try.prog 56 (l.drop k) = (l[k]?).map V.copy := zav tsz56 l k
@[go_sem] theorem tsz57 : tsz Try.prog 57 = some (false, 1) := by kernel_rfl
@[go_sem] theorem ldT57 (v : V) (r : List V) : ldTV Try.prog 57 (v :: r) = some v.copy := zbe tsz57 v r
@[go_sem] theorem ldD57 (l : List V) (k : Nat) : ldTV Try.prog 57 (l.drop k) = (l[k]?).map V.copy := zav tsz57 l k
@[go_sem] theorem tsz58 : tsz Try.prog 58 = some (false, 1) := by kernel_rfl
@[go_sem] theorem ldT58 (v : V) (r : List V) : ldTV Try.prog 58 (v :: r) = some v.copy := zbe tsz58 v r
@[go_sem] theorem ldD58 (l : List V) (k : Nat) : ldTV Try.prog 58 (l.drop k) = (l[k]?).map V.copy := zav tsz58 l k
@[go_sem] theorem tsz60 : tsz Try.prog 60 = some (false, 1) := by kernel_rfl
@[go_sem] theorem ldT60 (v : V) (r : List V) : ldTV Try.prog 60 (v :: r) = some v.copy := zbe tsz60 v r
@[go_sem] theorem ldD60 (l : List V) (k : Nat) : ldTV Try.prog 60 (l.drop k) = (l[k]?).map V.copy := zav tsz60 l k
@[go_sem] theorem tsz62 : tsz Try.prog 62 = some (false, 1) := by kernel_rfl
@[go_sem] theorem ldT62 (v : V) (r : List V) : ldTV Try.prog 62 (v :: r) = some v.copy := zbe tsz62 v r
@[go_sem] theorem ldD62 (l : List V) (k : Nat) : ldTV Try.prog 62 (l.drop k) = (l[k]?).map V.copy := zav tsz62 l k
@[go_sem] theorem tsz63 : tsz Try.prog 63 = some (false, 1) := by kernel_rfl
@[go_sem] theorem ldT63 (v : V) (r : List V) : ldTV Try.prog 63 (v :: r) = some v.copy := zbe tsz63 v r
@[go_sem] theorem ldD63 (l : List V) (k : Nat) : ldTV Try.prog 63 (l.drop k) = (l[k]?).map V.copy := zav tsz63 l k
@[go_sem] theorem tsz64 : tsz Try.prog 64 = some (false, 1) := by kernel_rfl
@[go_sem] theorem ldT64 (v : V) (r : List V) : ldTV Try.prog 64 (v :: r) = some v.copy := zbe tsz64 v r
@[go_sem] theorem ldD64 (l : List V) (k : Nat) : ldTV Try.prog 64 (l.drop k) = (l[k]?).map V.copy := zav tsz64 l k
@[go_sem] theorem tsz66 : tsz Try.prog 66 = some (false, 1) := by kernel_rfl
@[go_sem] theorem ldT66 (v : V) (r : List V) : ldTV Try.prog 66 (v :: r) = some v.copy := zbe tsz66 v r
@[go_sem] theorem ldD66 (l : List V) (k : Nat) : ldTV Try.prog 66 (l.drop k) = (l[k]?).map V.copy := zav tsz66 l k
@[go_sem] theorem tsz67 : tsz Try.prog 67 = some (false, 1) := by kernel_rfl
@[go_sem] theorem ldT67 (v : V) (r : List V) : ldTV Try.prog 67 (v :: r) = some v.copy := zbe tsz67 v r
@[go_sem] theorem ldD67 (l : List V) (k : Nat) : ldTV Try.prog 67 (l.drop k) = (l[k]?).map V.copy := zav tsz67 l k
@[go_sem] theorem tsz68 : tsz Try.prog 68 = some (false, 1) := by kernel_rfl
@[go_sem] theorem ldT68 (v : V) (r : List V) : ldTV Try.prog 68 (v :: r) = some v.copy := zbe tsz68 v r
@[go_sem] theorem ldD68 (l : List V) (k : Nat) : ldTV Try.prog 68 (l.drop k) = (l[k]?).map V.copy := zav tsz68 l k
@[go_sem] theorem tsz70 : tsz Try.prog 70 = some (false, 1) := by kernel_rfl
@[go_sem] theorem ldT70 (v : V) (r : List V) : ldTV Try.prog 70 (v :: r) = some v.copy := zbe tsz70 v r
@[go_sem] theorem ldD70 (l : List V) (k : Nat) : ldTV Try.prog 70 (l.drop k) = (l[k]?).map V.copy := zav tsz70 l k
@[go_sem] theorem tsz71 : tsz Try.prog 71 = some (false, 1) := by kernel_rfl
@[go_sem] theorem ldT71 (v : V) (r : List V) : ldTV Try.prog 71 (v :: r) = some v.copy := zbe tsz71 v r
@[go_sem] theorem ldD71 (l : List V) (k : Nat) : ldTV Try.prog 71 (l.drop k) = (l[k]?).map V.copy := zav tsz71 l k
@[go_sem] theorem tsz72 : tsz Try.prog 72 = some (false, 1) := by kernel_rfl
@[go_sem] theorem ldT72 (v : V) (r : List V) : ldTV Try.prog 72 (v :: r) = some v.copy := zbe tsz72 v r
@[go_sem] theorem ldD72 (l : List V) (k : Nat) : ldTV Try.prog 72 (l.drop k) = (l[k]?).map V.copy := zav tsz72 l k
@[go_sem] theorem zss : tel Try.prog 72 = some (76, 5, 56) := by kernel_rfl
@[go_sem] theorem isl72 : zjo Try.prog 72 = true := by kernel_rfl
@[go_sem] theorem len72 (l : List (List V)) : zdo Try.prog 72 (.lst l) = some (.v (.int .i64 l.length)) := zcx isl72 rfl
@[go_sem] theorem leo72 (m : Bool) (e s : Nat) (l : List (List V)) : zdo Try.prog 72 (.own m e s l) = some (.v (.int .i64 l.length)) := zcx isl72 rfl
@[go_sem] theorem len072 : zdo Try.prog 72 (.v (.slice none 0 0)) = some (.v (.int .i64 0)) := zcx (l := []) isl72 rfl
@[go_sem] theorem les72 (a : Addr) (n c : Nat) : zdo Try.prog 72 (.v (.slice (some a) n c)) = some (.v (.int .i64 n)) := zfx isl72 a n c
@[go_sem] theorem ixl72 (l : List (List V)) (k : IntKind) (m : Int) : zec Try.prog 72 (.lst l) (.v (.int k m)) = if 0 ≤ m then idxO 5 l[m.toNat]? else none := zdr zss rfl k m
@[go_sem] theorem ixo72 (b : Bool) (e s : Nat) (l : List (List V)) (k : IntKind) (m : Int) : zec Try.prog 72 (.own b e s l) (.v (.int k m)) = if 0 ≤ m then idxO 5 l[m.toNat]? else none := zdr zss rfl k m
@[go_sem] theorem ixs72 (b off len cap : Nat) (k : IntKind) (m : Int) : zec Try.prog 72 (.v (.slice (some ⟨b, off, none⟩) len cap)) (.v (.int k m)) = if 0 ≤ m then (if m < len then some (.v (.pointer (some ⟨b, off + m.toNat * 5, none⟩))) else none) else none := zfy zss b off len cap k m
@[go_sem] theorem sll72 (l : List (List V)) (lo hi : Option Nat) : slcV Try.prog 72 (.lst l) lo hi = if lo.getD 0 ≤ hi.getD l.length ∧ hi.getD l.length ≤ l.length ∧ (∀ c ∈ l, c.length = 5) then some (.lst ((l.take (hi.getD l.length)).drop (lo.getD 0))) else none := zdq zss rfl lo hi
@[go_sem] theorem slo72 (b : Bool) (e s : Nat) (l : List (List V)) (lo hi : Option Nat) : slcV Try.prog 72 (.own b e s l) lo hi = if lo.getD 0 ≤ hi.getD l.length ∧ hi.getD l.length ≤ l.length ∧ (∀ c ∈ l, c.length = 5) then some (.lst ((l.take (hi.getD l.length)).drop (lo.getD 0))) else none := zdq zss rfl lo hi
@[go_sem] theorem sls72 (b off len cap : Nat) (lo hi : Option Nat) : slcV Try.prog 72 (.v (.slice (some ⟨b, off, none⟩) len cap)) lo hi = if lo.getD 0 ≤ hi.getD len ∧ hi.getD len ≤ cap ∧ lo.getD 0 < cap then some (.v (.slice (some ⟨b, off + lo.getD 0 * 5, none⟩) (hi.getD len - lo.getD 0) (cap - lo.getD 0))) else none := zfv zss b off len cap lo hi
@[go_sem] theorem bsl72 (len : Nat) (ps : List (Nat × V)) : bslV Try.prog 72 len ps = if len * 5 ≤ 16777216 ∧ len ≤ 16777216 then (zdu (fun i => some (i * 5, 5)) (zdp (.agg #[.int .i64 (0), .int .i64 (0), .int .i64 (0), .int .i64 (0), .slice none 0 0]) len) ps).map fun c => (76, 5, c) else none := zhf zss tz76 rfl rfl len ps
@[go_sem] theorem tsz75 : tsz Try.prog 75 = some (true, 5) := by kernel_rfl
@[go_sem] theorem ldT75 (c : List V) : ldTV Try.prog 75 c = if 5 ≤ c.length then some (.agg ((c.take 5).map V.peek)) else none := zdd tsz75 c
@[go_sem] theorem zwb : foff Try.prog 75 0 = some 0 := by kernel_rfl
@[go_sem] theorem fpl75_0 (c : List V) : zbk Try.prog 75 0 (.plc c) = if 0 ≤ c.length then some (.plc (c.drop 0)) else none := zbc zwb c
@[go_sem] theorem fpt75_0 (b o : Nat) : zbk Try.prog 75 0 (.v (.pointer (some ⟨b, o, none⟩))) = some (.v (.pointer (some ⟨b, o + 0, none⟩))) := zbb zwb b o
@[go_sem] theorem zwa : foff Try.prog 75 1 = some 1 := by kernel_rfl
@[go_sem] theorem fpl75_1 (c : List V) : zbk Try.prog 75 1 (.plc c) = if 1 ≤ c.length then some (.plc (c.drop 1)) else none := zbc zwa c
@[go_sem] theorem fpt75_1 (b o : Nat) : zbk Try.prog 75 1 (.v (.pointer (some ⟨b, o, none⟩))) = some (.v (.pointer (some ⟨b, o + 1, none⟩))) := zbb zwa b o
@[go_sem] theorem zvz : foff Try.prog 75 2 = some 2 := by kernel_rfl
@[go_sem] theorem fpl75_2 (c : List V) : zbk Try.prog 75 2 (.plc c) = if 2 ≤ c.length then some (.plc (c.drop 2)) else none := zbc zvz c
@[go_sem] theorem fpt75_2 (b o : Nat) : zbk Try.prog 75 2 (.v (.pointer (some ⟨b, o, none⟩))) = some (.v (.pointer (some ⟨b, o + 2, none⟩))) := zbb zvz b o
@[go_sem] theorem zvy : foff Try.prog 75 3 = some 3 := by kernel_rfl
@[go_sem] theorem fpl75_3 (c : List V) : zbk Try.prog 75 3 (.plc c) = if 3 ≤ c.length then some (.plc (c.drop 3)) else none := zbc zvy c
@[go_sem] theorem fpt75_3 (b o : Nat) : zbk Try.prog 75 3 (.v (.pointer (some ⟨b, o, none⟩))) = some (.v (.pointer (some ⟨b, o + 3, none⟩))) := zbb zvy b o
@[go_sem] theorem zvx : foff Try.prog 75 4 = some 4 := by kernel_rfl
@[go_sem] theorem fpl75_4 (c : List V) : zbk Try.prog 75 4 (.plc c) = if 4 ≤ c.length then some (.plc (c.drop 4)) else none := zbc zvx c
@[go_sem] theorem fpt75_4 (b o : Nat) : zbk Try.prog 75 4 (.v (.pointer (some ⟨b, o, none⟩))) = some (.v (.pointer (some ⟨b, o + 4, none⟩))) := zbb zvx b o
@[go_sem] theorem bld75 (ps : List (Nat × V)) : zek Try.prog 75 ps = zdu (zdz [(0, 1), (1, 1), (2, 1), (3, 1), (4, 1)]) [V.v (.int .i64 (0)), V.v (.int .i64 (0)), V.v (.int .i64 (0)), V.v (.int .i64 (0)), V.v (.slice none 0 0)] ps := by kernel_rfl
@[go_sem] theorem tsz76 : tsz Try.prog 76 = some (true, 5) := by kernel_rfl
@[go_sem] theorem ldT76 (c : List V) : ldTV Try.prog 76 c = if 5 ≤ c.length then some (.agg ((c.take 5).map V.peek)) else none := zdd tsz76 c
@[go_sem] theorem zvw : foff Try.prog 76 0 = some 0 := by kernel_rfl
@[go_sem] theorem fpl76_0 (c : List V) : zbk Try.prog 76 0 (.plc c) = if 0 ≤ c.length then some (.plc (c.drop 0)) else none := zbc zvw c
@[go_sem] theorem fpt76_0 (b o : Nat) : zbk Try.prog 76 0 (.v (.pointer (some ⟨b, o, none⟩))) = some (.v (.pointer (some ⟨b, o + 0, none⟩))) := zbb zvw b o
@[go_sem] theorem zvv : foff Try.prog 76 1 = some 1 := by kernel_rfl
@[go_sem] theorem fpl76_1 (c : List V) : zbk Try.prog 76 1 (.plc c) = if 1 ≤ c.length then some (.plc (c.drop 1)) else none := zbc zvv c
@[go_sem] theorem fpt76_1 (b o : Nat) : zbk Try.prog 76 1 (.v (.pointer (some ⟨b, o, none⟩))) = some (.v (.pointer (some ⟨b, o + 1, none⟩))) := zbb zvv b o
@[go_sem] theorem zvu : foff Try.prog 76 2 = some 2 := by kernel_rfl
@[go_sem] theorem fpl76_2 (c : List V) : zbk Try.prog 76 2 (.plc c) = if 2 ≤ c.length then some (.plc (c.drop 2)) else none := zbc zvu c
@[go_sem] theorem fpt76_2 (b o : Nat) : zbk Try.prog 76 2 (.v (.pointer (some ⟨b, o, none⟩))) = some (.v (.pointer (some ⟨b, o + 2, none⟩))) := zbb zvu b o
@[go_sem] theorem zvt : foff Try.prog 76 3 = some 3 := by kernel_rfl
@[go_sem] theorem fpl76_3 (c : List V) : zbk Try.prog 76 3 (.plc c) = if 3 ≤ c.length then some (.plc (c.drop 3)) else none := zbc zvt c
@[go_sem] theorem fpt76_3 (b o : Nat) : zbk Try.prog 76 3 (.v (.pointer (some ⟨b, o, none⟩))) = some (.v (.pointer (some ⟨b, o + 3, none⟩))) := zbb zvt b o
@[go_sem] theorem zvs : foff Try.prog 76 4 = some 4 := by kernel_rfl
@[go_sem] theorem fpl76_4 (c : List V) : zbk Try.prog 76 4 (.plc c) = if 4 ≤ c.length then some (.plc (c.drop 4)) else none := zbc zvs c
@[go_sem] theorem fpt76_4 (b o : Nat) : zbk Try.prog 76 4 (.v (.pointer (some ⟨b, o, none⟩))) = some (.v (.pointer (some ⟨b, o + 4, none⟩))) := zbb zvs b o
@[go_sem] theorem bld76 (ps : List (Nat × V)) : zek Try.prog 76 ps = zdu (zdz [(0, 1), (1, 1), (2, 1), (3, 1), (4, 1)]) [V.v (.int .i64 (0)), V.v (.int .i64 (0)), V.v (.int .i64 (0)), V.v (.int .i64 (0)), V.v (.slice none 0 0)] ps := by kernel_rfl
@[go_sem] theorem tsz77 : tsz Try.prog 77 = some (true, 3) := by kernel_rfl
@[go_sem] theorem ldT77 (c : List V) : ldTV Try.prog 77 c = if 3 ≤ c.length then some (.agg ((c.take 3).map V.peek)) else none := zdd tsz77 c
@[go_sem] theorem zvr : foff Try.prog 77 0 = some 0 := by kernel_rfl
@[go_sem] theorem fpl77_0 (c : List V) : zbk Try.prog 77 0 (.plc c) = if 0 ≤ c.length then some (.plc (c.drop 0)) else none := zbc zvr c
@[go_sem] theorem fpt77_0 (b o : Nat) : zbk Try.prog 77 0 (.v (.pointer (some ⟨b, o, none⟩))) = some (.v (.pointer (some ⟨b, o + 0, none⟩))) := zbb zvr b o
@[go_sem] theorem zvq : foff Try.prog 77 1 = some 1 := by kernel_rfl
@[go_sem] theorem fpl77_1 (c : List V) : zbk Try.prog 77 1 (.plc c) = if 1 ≤ c.length then some (.plc (c.drop 1)) else none := zbc zvq c
@[go_sem] theorem fpt77_1 (b o : Nat) : zbk Try.prog 77 1 (.v (.pointer (some ⟨b, o, none⟩))) = some (.v (.pointer (some ⟨b, o + 1, none⟩))) := zbb zvq b o
@[go_sem] theorem zvp : foff Try.prog 77 2 = some 2 := by kernel_rfl
@[go_sem] theorem fpl77_2 (c : List V) : zbk Try.prog 77 2 (.plc c) = if 2 ≤ c.length then some (.plc (c.drop 2)) else none := zbc zvp c
@[go_sem] theorem fpt77_2 (b o : Nat) : zbk Try.prog 77 2 (.v (.pointer (some ⟨b, o, none⟩))) = some (.v (.pointer (some ⟨b, o + 2, none⟩))) := zbb zvp b o
@[go_sem] theorem bld77 (ps : List (Nat × V)) : zek Try.prog 77 ps = zdu (zdz [(0, 1), (1, 1), (2, 1)]) [V.v (.int .i64 (0)), V.v (.int .i64 (0)), V.v (.slice none 0 0)] ps := by kernel_rfl
@[go_sem] theorem tsz78 : tsz Try.prog 78 = some (true, 3) := by kernel_rfl
@[go_sem] theorem ldT78 (c : List V) : ldTV Try.prog 78 c = if 3 ≤ c.length then some (.agg ((c.take 3).map V.peek)) else none := zdd tsz78 c
@[go_sem] theorem zvo : foff Try.prog 78 0 = some 0 := by kernel_rfl
@[go_sem] theorem fpl78_0 (c : List V) : zbk Try.prog 78 0 (.plc c) = if 0 ≤ c.length then some (.plc (c.drop 0)) else none := zbc zvo c
@[go_sem] theorem fpt78_0 (b o : Nat) : zbk Try.prog 78 0 (.v (.pointer (some ⟨b, o, none⟩))) = some (.v (.pointer (some ⟨b, o + 0, none⟩))) := zbb zvo b o
@[go_sem] theorem zvn : foff Try.prog 78 1 = some 1 := by kernel_rfl
@[go_sem] theorem fpl78_1 (c : List V) : zbk Try.prog 78 1 (.plc c) = if 1 ≤ c.length then some (.plc (c.drop 1)) else none := zbc zvn c
@[go_sem] theorem fpt78_1 (b o : Nat) : zbk Try.prog 78 1 (.v (.pointer (some ⟨b, o, none⟩))) = some (.v (.pointer (some ⟨b, o + 1, none⟩))) := zbb zvn b o
@[go_sem] theorem zvm : foff Try.prog 78 2 = some 2 := by kernel_rfl
@[go_sem] theorem fpl78_2 (c : List V) : zbk Try.prog 78 2 (.plc c) = if 2 ≤ c.length then some (.plc (c.drop 2)) else none := zbc zvm c
@[go_sem] theorem fpt78_2 (b o : Nat) : zbk Try.prog 78 2 (.v (.pointer (some ⟨b, o, none⟩))) = some (.v (.pointer (some ⟨b, o + 2, none⟩))) := zbb zvm b o
@[go_sem] theorem bld78 (ps : List (Nat × V)) : zek Try.prog 78 ps = zdu (zdz [(0, 1), (1, 1), (2, 1)]) [V.v (.int .i64 (0)), V.v (.int .i64 (0)), V.v (.slice none 0 0)] ps := by kernel_rfl
@[go_sem] theorem tsz79 : tsz Try.prog 79 = some (false, 1) := by kernel_rfl
@[go_sem] theorem ldT79 (v : V) (r : List V) : ldTV Try.prog 79 (v :: r) = some v.copy := zbe tsz79 v r
@[go_sem] theorem ldD79 (l : List V) (k : Nat) : ldTV Try.prog 79 (l.drop k) = (l[k]?).map V.copy := zav tsz79 l k
@[go_sem] theorem zsr : tel Try.prog 79 = some (78, 3, 40) := by kernel_rfl
@[go_sem] theorem isl79 : zjo Try.prog 79 = true := by kernel_rfl
@[go_sem] theorem len79 (l : List (List V)) : zdo Try.prog 79 (.lst l) = some (.v (.int .i64 l.length)) := zcx isl79 rfl
@[go_sem] theorem leo79 (m : Bool) (e s : Nat) (l : List (List V)) : zdo Try.prog 79 (.own m e s l) = some (.v (.int .i64 l.length)) := zcx isl79 rfl
@[go_sem] theorem len079 : zdo Try.prog 79 (.v (.slice none 0 0)) = some (.v (.int .i64 0)) := zcx (l := []) isl79 rfl
@[go_sem] theorem les79 (a : Addr) (n c : Nat) : zdo Try.prog 79 (.v (.slice (some a) n c)) = some (.v (.int .i64 n)) := zfx isl79 a n c
@[go_sem] theorem ixl79 (l : List (List V)) (k : IntKind) (m : Int) : zec Try.prog 79 (.lst l) (.v (.int k m)) = if 0 ≤ m then idxO 3 l[m.toNat]? else none := zdr zsr rfl k m
@[go_sem] theorem ixo79 (b : Bool) (e s : Nat) (l : List (List V)) (k : IntKind) (m : Int) : zec Try.prog 79 (.own b e s l) (.v (.int k m)) = if 0 ≤ m then idxO 3 l[m.toNat]? else none := zdr zsr rfl k m
@[go_sem] theorem ixs79 (b off len cap : Nat) (k : IntKind) (m : Int) : zec Try.prog 79 (.v (.slice (some ⟨b, off, none⟩) len cap)) (.v (.int k m)) = if 0 ≤ m then (if m < len then some (.v (.pointer (some ⟨b, off + m.toNat * 3, none⟩))) else none) else none := zfy zsr b off len cap k m
@[go_sem] theorem sll79 (l : List (List V)) (lo hi : Option Nat) : slcV Try.prog 79 (.lst l) lo hi = if lo.getD 0 ≤ hi.getD l.length ∧ hi.getD l.length ≤ l.length ∧ (∀ c ∈ l, c.length = 3) then some (.lst ((l.take (hi.getD l.length)).drop (lo.getD 0))) else none := zdq zsr rfl lo hi
@[go_sem] theorem slo79 (b : Bool) (e s : Nat) (l : List (List V)) (lo hi : Option Nat) : slcV Try.prog 79 (.own b e s l) lo hi = if lo.getD 0 ≤ hi.getD l.length ∧ hi.getD l.length ≤ l.length ∧ (∀ c ∈ l, c.length = 3) then some (.lst ((l.take (hi.getD l.length)).drop (lo.getD 0))) else none := zdq zsr rfl lo hi
@[go_sem] theorem sls79 (b off len cap : Nat) (lo hi : Option Nat) : slcV Try.prog 79 (.v (.slice (some ⟨b, off, none⟩) len cap)) lo hi = if lo.getD 0 ≤ hi.getD len ∧ hi.getD len ≤ cap ∧ lo.getD 0 < cap then some (.v (.slice (some ⟨b, off + lo.getD 0 * 3, none⟩) (hi.getD len - lo.getD 0) (cap - lo.getD 0))) else none := zfv zsr b off len cap lo hi
@[go_sem] theorem bsl79 (len : Nat) (ps : List (Nat × V)) : bslV Try.prog 79 len ps = if len * 3 ≤ 16777216 ∧ len ≤ 16777216 then (zdu (fun i => some (i * 3, 3)) (zdp (.agg #[.int .i64 (0), .int .i64 (0), .slice none 0 0]) len) ps).map fun c => (78, 3, c) else none := zhf zsr tz78 rfl rfl len ps
@[go_sem] theorem tsz80 : tsz Try.prog 80 = some (true, 3) := by kernel_rfl
@[go_sem] theorem ldT80 (c : List V) : ldTV Try.prog 80 c = if 3 ≤ c.length then some (.agg ((c.take 3).map V.peek)) else none := zdd tsz80 c
@[go_sem] theorem zvl : foff Try.prog 80 0 = some 0 := by kernel_rfl
@[go_sem] theorem fpl80_0 (c : List V) : zbk Try.prog 80 0 (.plc c) = if 0 ≤ c.length then some (.plc (c.drop 0)) else none := zbc zvl c
@[go_sem] theorem fpt80_0 (b o : Nat) : zbk Try.prog 80 0 (.v (.pointer (some ⟨b, o, none⟩))) = some (.v (.pointer (some ⟨b, o + 0, none⟩))) := zbb zvl b o
@[go_sem] theorem zvk : foff Try.prog 80 1 = some 1 := by kernel_rfl
@[go_sem] theorem fpl80_1 (c : List V) : zbk Try.prog 80 1 (.plc c) = if 1 ≤ c.length then some (.plc (c.drop 1)) else none := zbc zvk c
@[go_sem] theorem fpt80_1 (b o : Nat) : zbk Try.prog 80 1 (.v (.pointer (some ⟨b, o, none⟩))) = some (.v (.pointer (some ⟨b, o + 1, none⟩))) := zbb zvk b o
@[go_sem] theorem zvj : foff Try.prog 80 2 = some 2 := by kernel_rfl
@[go_sem] theorem fpl80_2 (c : List V) : zbk Try.prog 80 2 (.plc c) = if 2 ≤ c.length then some (.plc (c.drop 2)) else none := zbc zvj c
@[go_sem] theorem fpt80_2 (b o : Nat) : zbk Try.prog 80 2 (.v (.pointer (some ⟨b, o, none⟩))) = some (.v (.pointer (some ⟨b, o + 2, none⟩))) := zbb zvj b o
@[go_sem] theorem bld80 (ps : List (Nat × V)) : zek Try.prog 80 ps = zdu (zdz [(0, 1), (1, 1), (2, 1)]) [V.v (.slice none 0 0), V.v (.slice none 0 0), V.v (.slice none 0 0)] ps := by kernel_rfl
@[go_sem] theorem tsz81 : tsz Try.prog 81 = some (true, 3) := by kernel_rfl
@[go_sem] theorem ldT81 (c : List V) : ldTV Try.prog 81 c = if 3 ≤ c.length then some (.agg ((c.take 3).map V.peek)) else none := zdd tsz81 c
@[go_sem] theorem zvi : foff Try.prog 81 0 = some 0 := by kernel_rfl
@[go_sem] theorem fpl81_0 (c : List V) : zbk Try.prog 81 0 (.plc c) = if 0 ≤ c.length then some (.plc (c.drop 0)) else none := zbc zvi c
@[go_sem] theorem fpt81_0 (b o : Nat) : zbk Try.prog 81 0 (.v (.pointer (some ⟨b, o, none⟩))) = some (.v (.pointer (some ⟨b, o + 0, none⟩))) := zbb zvi b o
@[go_sem] theorem zvh : foff Try.prog 81 1 = some 1 := by kernel_rfl
@[go_sem] theorem fpl81_1 (c : List V) : zbk Try.prog 81 1 (.plc c) = if 1 ≤ c.length then some (.plc (c.drop 1)) else none := zbc zvh c
@[go_sem] theorem fpt81_1 (b o : Nat) : zbk Try.prog 81 1 (.v (.pointer (some ⟨b, o, none⟩))) = some (.v (.pointer (some ⟨b, o + 1, none⟩))) := zbb zvh b o
@[go_sem] theorem zvg : foff Try.prog 81 2 = some 2 := by kernel_rfl
@[go_sem] theorem fpl81_2 (c : List V) : zbk Try.prog 81 2 (.plc c) = if 2 ≤ c.length then some (.plc (c.drop 2)) else none := zbc zvg c
@[go_sem] theorem fpt81_2 (b o : Nat) : zbk Try.prog 81 2 (.v (.pointer (some ⟨b, o, none⟩))) = some (.v (.pointer (some ⟨b, o + 2, none⟩))) := zbb zvg b o
@[go_sem] theorem bld81 (ps : List (Nat × V)) : zek Try.prog 81 ps = zdu (zdz [(0, 1), (1, 1), (2, 1)]) [V.v (.slice none 0 0), V.v (.slice none 0 0), V.v (.slice none 0 0)] ps := by kernel_rfl
@[go_sem] theorem tsz84 : tsz Try.prog 84 = some (false, 1) := by kernel_rfl
@[go_sem] theorem ldT84 (v : V) (r : List V) : ldTV Try.prog 84 (v :: r) = some v.copy := zbe tsz84 v r
@[go_sem] theorem ldD84 (l : List V) (k : Nat) : ldTV Try.prog 84 (l.drop k) = (l[k]?).map V.copy := zav tsz84 l k
@[go_sem] theorem tsz85 : tsz Try.prog 85 = some (false, 1) := by kernel_rfl
@[go_sem] theorem ldT85 (v : V) (r : List V) : ldTV Try.prog 85 (v :: r) = some v.copy := zbe tsz85 v r
@[go_sem] theorem ldD85 (l : List V) (k : Nat) : ldTV Try.prog 85 (l.drop k) = (l[k]?).map V.copy := zav tsz85 l k
@[go_sem] theorem tsz87 : tsz Try.prog 87 = some (true, 4) := by kernel_rfl
@[go_sem] theorem ldT87 (c : List V) : ldTV Try.prog 87 c = if 4 ≤ c.length then some (.agg ((c.take 4).map V.peek)) else none := zdd tsz87 c
@[go_sem] theorem zvf : foff Try.prog 87 0 = some 0 := by kernel_rfl
@[go_sem] theorem fpl87_0 (c : List V) : zbk Try.prog 87 0 (.plc c) = if 0 ≤ c.length then some (.plc (c.drop 0)) else none := zbc zvf c
@[go_sem] theorem fpt87_0 (b o : Nat) : zbk Try.prog 87 0 (.v (.pointer (some ⟨b, o, none⟩))) = some (.v (.pointer (some ⟨b, o + 0, none⟩))) := zbb zvf b o
@[go_sem] theorem zve : foff Try.prog 87 1 = some 1 := by kernel_rfl
@[go_sem] theorem fpl87_1 (c : List V) : zbk Try.prog 87 1 (.plc c) = if 1 ≤ c.length then some (.plc (c.drop 1)) else none := zbc zve c
@[go_sem] theorem fpt87_1 (b o : Nat) : zbk Try.prog 87 1 (.v (.pointer (some ⟨b, o, none⟩))) = some (.v (.pointer (some ⟨b, o + 1, none⟩))) := zbb zve b o
@[go_sem] theorem zvd : foff Try.prog 87 2 = some 2 := by kernel_rfl
@[go_sem] theorem fpl87_2 (c : List V) : zbk Try.prog 87 2 (.plc c) = if 2 ≤ c.length then some (.plc (c.drop 2)) else none := zbc zvd c
@[go_sem] theorem fpt87_2 (b o : Nat) : zbk Try.prog 87 2 (.v (.pointer (some ⟨b, o, none⟩))) = some (.v (.pointer (some ⟨b, o + 2, none⟩))) := zbb zvd b o
@[go_sem] theorem zvc : foff Try.prog 87 3 = some 3 := by kernel_rfl
@[go_sem] theorem fpl87_3 (c : List V) : zbk Try.prog 87 3 (.plc c) = if 3 ≤ c.length then some (.plc (c.drop 3)) else none := zbc zvc c
@[go_sem] theorem fpt87_3 (b o : Nat) : zbk Try.prog 87 3 (.v (.pointer (some ⟨b, o, none⟩))) = some (.v (.pointer (some ⟨b, o + 3, none⟩))) := zbb zvc b o
@[go_sem] theorem bld87 (ps : List (Nat × V)) : zek Try.prog 87 ps = zdu (zdz [(0, 1), (1, 1), (2, 1), (3, 1)]) [V.v (.int .i64 (0)), V.v (.int .i64 (0)), V.v (.int .i64 (0)), V.v (.int .i64 (0))] ps := by kernel_rfl
@[go_sem] theorem tsz88 : tsz Try.prog 88 = some (true, 4) := by kernel_rfl
@[go_sem] theorem ldT88 (c : List V) : ldTV Try.prog 88 c = if 4 ≤ c.length then some (.agg ((c.take 4).map V.peek)) else none := zdd tsz88 c
@[go_sem] theorem zvb : foff Try.prog 88 0 = some 0 := by kernel_rfl
@[go_sem] theorem fpl88_0 (c : List V) : zbk Try.prog 88 0 (.plc c) = if 0 ≤ c.length then some (.plc (c.drop 0)) else none := zbc zvb c
@[go_sem] theorem fpt88_0 (b o : Nat) : zbk Try.prog 88 0 (.v (.pointer (some ⟨b, o, none⟩))) = some (.v (.pointer (some ⟨b, o + 0, none⟩))) := zbb zvb b o
@[go_sem] theorem zva : foff Try.prog 88 1 = some 1 := by kernel_rfl
@[go_sem] theorem fpl88_1 (c : List V) : zbk Try.prog 88 1 (.plc c) = if 1 ≤ c.length then some (.plc (c.drop 1)) else none := zbc zva c
@[go_sem] theorem fpt88_1 (b o : Nat) : zbk Try.prog 88 1 (.v (.pointer (some ⟨b, o, none⟩))) = some (.v (.pointer (some ⟨b, o + 1, none⟩))) := zbb zva b o
@[go_sem] theorem zuz : foff Try.prog 88 2 = some 2 := by kernel_rfl
@[go_sem] theorem fpl88_2 (c : List V) : zbk Try.prog 88 2 (.plc c) = if 2 ≤ c.length then some (.plc (c.drop 2)) else none := zbc zuz c
@[go_sem] theorem fpt88_2 (b o : Nat) : zbk Try.prog 88 2 (.v (.pointer (some ⟨b, o, none⟩))) = some (.v (.pointer (some ⟨b, o + 2, none⟩))) := zbb zuz b o
@[go_sem] theorem zuy : foff Try.prog 88 3 = some 3 := by kernel_rfl
@[go_sem] theorem fpl88_3 (c : List V) : zbk Try.prog 88 3 (.plc c) = if 3 ≤ c.length then some (.plc (c.drop 3)) else none := zbc zuy c
@[go_sem] theorem fpt88_3 (b o : Nat) : zbk Try.prog 88 3 (.v (.pointer (some ⟨b, o, none⟩))) = some (.v (.pointer (some ⟨b, o + 3, none⟩))) := zbb zuy b o
@[go_sem] theorem bld88 (ps : List (Nat × V)) : zek Try.prog 88 ps = zdu (zdz [(0, 1), (1, 1), (2, 1), (3, 1)]) [V.v (.int .i64 (0)), V.v (.int .i64 (0)), V.v (.int .i64 (0)), V.v (.int .i64 (0))] ps := by kernel_rfl
@[go_sem] theorem tsz89 : tsz Try.prog 89 = some (false, 1) := by kernel_rfl
@[go_sem] theorem ldT89 (v : V) (r : List V) : ldTV Try.prog 89 (v :: r) = some v.copy := zbe tsz89 v r
@[go_sem] theorem ldD89 (l : List V) (k : Nat) : ldTV Try.prog 89 (l.drop k) = (l[k]?).map V.copy := zav tsz89 l k
@[go_sem] theorem tsz90 : tsz Try.prog 90 = some (false, 1) := by kernel_rfl
@[go_sem] theorem ldT90 (v : V) (r : List V) : ldTV Try.prog 90 (v :: r) = some v.copy := zbe tsz90 v r
@[go_sem] theorem ldD90 (l : List V) (k : Nat) : ldTV Try.prog 90 (l.drop k) = (l[k]?).map V.copy := zav tsz90 l k
@[go_sem] theorem tsz91 : tsz Try.prog 91 = some (false, 1) := by kernel_rfl
@[go_sem] theorem ldT91 (v : V) (r : List V) : ldTV Try.prog 91 (v :: r) = some v.copy := zbe tsz91 v r
@[go_sem] theorem ldD91 (l : List V) (k : Nat) : ldTV Try.prog 91 (l.drop k) = (l[k]?).map V.copy := zav tsz91 l k
@[go_sem] theorem tsz92 : tsz Try.prog 92 = some (false, 1) := by kernel_rfl
@[go_sem] theorem ldT92 (v : V) (r : List V) : ldTV Try.prog 92 (v :: r) = some v.copy := zbe tsz92 v r
@[go_sem] theorem ldD92 (l : List V) (k : Nat) : ldTV Try.prog 92 (l.drop k) = (l[k]?).map V.copy := zav tsz92 l k
@[go_sem] theorem tsz93 : tsz Try.prog 93 = some (false, 1) := by kernel_rfl
@[go_sem] theorem ldT93 (v : V) (r : List V) : ldTV Try.prog 93 (v :: r) = some v.copy := zbe tsz93 v r
@[go_sem] theorem ldD93 (l : List V) (k : Nat) : ldTV Try.prog 93 (l.drop k) = (l[k]?).map V.copy := zav tsz93 l k
@[go_sem] theorem tsz95 : tsz Try.prog 95 = some (false, 1) := by kernel_rfl
@[go_sem] theorem ldT95 (v : V) (r : List V) : ldTV Try.prog 95 (v :: r) = some v.copy := zbe tsz95 v r
@[go_sem] theorem ldD95 (l : List V) (k : Nat) : ldTV Try.prog 95 (l.drop k) = (l[k]?).map V.copy := zav tsz95 l k
@[go_sem] theorem tsz96 : tsz Try.prog 96 = some (true, 6) := by kernel_rfl
@[go_sem] theorem ldT96 (c : List V) : ldTV Try.prog 96 c = if 6 ≤ c.length then some (.agg ((c.take 6).map V.peek)) else none := zdd tsz96 c
@[go_sem] theorem zux : foff Try.prog 96 0 = some 0 := by kernel_rfl
@[go_sem] theorem fpl96_0 (c : List V) : zbk Try.prog 96 0 (.plc c) = if 0 ≤ c.length then some (.plc (c.drop 0)) else none := zbc zux c
@[go_sem] theorem fpt96_0 (b o : Nat) : zbk Try.prog 96 0 (.v (.pointer (some ⟨b, o, none⟩))) = some (.v (.pointer (some ⟨b, o + 0, none⟩))) := zbb zux b o
@[go_sem] theorem zuw : foff Try.prog 96 1 = some 1 := by kernel_rfl
@[go_sem] theorem fpl96_1 (c : List V) : zbk Try.prog 96 1 (.plc c) = if 1 ≤ c.length then some (.plc (c.drop 1)) else none := zbc zuw c
@[go_sem] theorem fpt96_1 (b o : Nat) : zbk Try.prog 96 1 (.v (.pointer (some ⟨b, o, none⟩))) = some (.v (.pointer (some ⟨b, o + 1, none⟩))) := zbb zuw b o
@[go_sem] theorem zuv : foff Try.prog 96 2 = some 2 := by kernel_rfl
@[go_sem] theorem fpl96_2 (c : List V) : zbk Try.prog 96 2 (.plc c) = if 2 ≤ c.length then some (.plc (c.drop 2)) else none := zbc zuv c
@[go_sem] theorem fpt96_2 (b o : Nat) : zbk Try.prog 96 2 (.v (.pointer (some ⟨b, o, none⟩))) = some (.v (.pointer (some ⟨b, o + 2, none⟩))) := zbb zuv b o
@[go_sem] theorem zuu : foff Try.prog 96 3 = some 3 := by kernel_rfl
@[go_sem] theorem fpl96_3 (c : List V) : zbk Try.prog 96 3 (.plc c) = if 3 ≤ c.length then some (.plc (c.drop 3)) else none := zbc zuu c
@[go_sem] theorem fpt96_3 (b o : Nat) : zbk Try.prog 96 3 (.v (.pointer (some ⟨b, o, none⟩))) = some (.v (.pointer (some ⟨b, o + 3, none⟩))) := zbb zuu b o
@[go_sem] theorem zut : foff Try.prog 96 4 = some 4 := by kernel_rfl
@[go_sem] theorem fpl96_4 (c : List V) : zbk Try.prog 96 4 (.plc c) = if 4 ≤ c.length then some (.plc (c.drop 4)) else none := zbc zut c
@[go_sem] theorem fpt96_4 (b o : Nat) : zbk Try.prog 96 4 (.v (.pointer (some ⟨b, o, none⟩))) = some (.v (.pointer (some ⟨b, o + 4, none⟩))) := zbb zut b o
@[go_sem] theorem zus : foff Try.prog 96 5 = some 5 := by kernel_rfl
@[go_sem] theorem fpl96_5 (c : List V) : zbk Try.prog 96 5 (.plc c) = if 5 ≤ c.length then some (.plc (c.drop 5)) else none := zbc zus c
@[go_sem] theorem fpt96_5 (b o : Nat) : zbk Try.prog 96 5 (.v (.pointer (some ⟨b, o, none⟩))) = some (.v (.pointer (some ⟨b, o + 5, none⟩))) := zbb zus b o
@[go_sem] theorem bld96 (ps : List (Nat × V)) : zek Try.prog 96 ps = zdu (zdz [(0, 1), (1, 1), (2, 1), (3, 1), (4, 1), (5, 1)]) [V.v (.int .i64 (0)), V.v (.int .i64 (0)), V.v (.int .i64 (0)), V.v (.slice none 0 0), V.v (.slice none 0 0), V.v (.map none)] ps := by kernel_rfl
@[go_sem] theorem tsz97 : tsz Try.prog 97 = some (true, 6) := by kernel_rfl
@[go_sem] theorem ldT97 (c : List V) : ldTV Try.prog 97 c = if 6 ≤ c.length then some (.agg ((c.take 6).map V.peek)) else none := zdd tsz97 c
@[go_sem] theorem zur : foff Try.prog 97 0 = some 0 := by kernel_rfl
@[go_sem] theorem fpl97_0 (c : List V) : zbk Try.prog 97 0 (.plc c) = if 0 ≤ c.length then some (.plc (c.drop 0)) else none := zbc zur c
@[go_sem] theorem fpt97_0 (b o : Nat) : zbk Try.prog 97 0 (.v (.pointer (some ⟨b, o, none⟩))) = some (.v (.pointer (some ⟨b, o + 0, none⟩))) := zbb zur b o
@[go_sem] theorem zuq : foff Try.prog 97 1 = some 1 := by kernel_rfl
@[go_sem] theorem fpl97_1 (c : List V) : zbk Try.prog 97 1 (.plc c) = if 1 ≤ c.length then some (.plc (c.drop 1)) else none := zbc zuq c
@[go_sem] theorem fpt97_1 (b o : Nat) : zbk Try.prog 97 1 (.v (.pointer (some ⟨b, o, none⟩))) = some (.v (.pointer (some ⟨b, o + 1, none⟩))) := zbb zuq b o
@[go_sem] theorem zup : foff Try.prog 97 2 = some 2 := by kernel_rfl
@[go_sem] theorem fpl97_2 (c : List V) : zbk Try.prog 97 2 (.plc c) = if 2 ≤ c.length then some (.plc (c.drop 2)) else none := zbc zup c
@[go_sem] theorem fpt97_2 (b o : Nat) : zbk Try.prog 97 2 (.v (.pointer (some ⟨b, o, none⟩))) = some (.v (.pointer (some ⟨b, o + 2, none⟩))) := zbb zup b o
@[go_sem] theorem zuo : foff Try.prog 97 3 = some 3 := by kernel_rfl
@[go_sem] theorem fpl97_3 (c : List V) : zbk Try.prog 97 3 (.plc c) = if 3 ≤ c.length then some (.plc (c.drop 3)) else none := zbc zuo c
@[go_sem] theorem fpt97_3 (b o : Nat) : zbk Try.prog 97 3 (.v (.pointer (some ⟨b, o, none⟩))) = some (.v (.pointer (some ⟨b, o + 3, none⟩))) := zbb zuo b o
@[go_sem] theorem zun : foff Try.prog 97 4 = some 4 := by kernel_rfl
@[go_sem] theorem fpl97_4 (c : List V) : zbk Try.prog 97 4 (.plc c) = if 4 ≤ c.length then some (.plc (c.drop 4)) else none := zbc zun c
@[go_sem] theorem fpt97_4 (b o : Nat) : zbk Try.prog 97 4 (.v (.pointer (some ⟨b, o, none⟩))) = some (.v (.pointer (some ⟨b, o + 4, none⟩))) := zbb zun b o
@[go_sem] theorem zum : foff Try.prog 97 5 = some 5 := by kernel_rfl
@[go_sem] theorem fpl97_5 (c : List V) : zbk Try.prog 97 5 (.plc c) = if 5 ≤ c.length then some (.plc (c.drop 5)) else none := zbc zum c
@[go_sem] theorem fpt97_5 (b o : Nat) : zbk Try.prog 97 5 (.v (.pointer (some ⟨b, o, none⟩))) = some (.v (.pointer (some ⟨b, o + 5, none⟩))) := zbb zum b o
@[go_sem] theorem bld97 (ps : List (Nat × V)) : zek Try.prog 97 ps = zdu (zdz [(0, 1), (1, 1), (2, 1), (3, 1), (4, 1), (5, 1)]) [V.v (.int .i64 (0)), V.v (.int .i64 (0)), V.v (.int .i64 (0)), V.v (.slice none 0 0), V.v (.slice none 0 0), V.v (.map none)] ps := by kernel_rfl
@[go_sem] theorem tsz98 : tsz Try.prog 98 = some (false, 1) := by kernel_rfl
@[go_sem] theorem ldT98 (v : V) (r : List V) : ldTV Try.prog 98 (v :: r) = some v.copy := zbe tsz98 v r
@[go_sem] theorem ldD98 (l : List V) (k : Nat) : ldTV Try.prog 98 (l.drop k) = (l[k]?).map V.copy := zav tsz98 l k
@[go_sem] theorem tsz99 : tsz Try.prog 99 = some (false, 1) := by kernel_rfl
@[go_sem] theorem ldT99 (v : V) (r : List V) : ldTV Try.prog 99 (v :: r) = some v.copy := zbe tsz99 v r
@[go_sem] theorem ldD99 (l : List V) (k : Nat) : ldTV Try.prog 99 (l.drop k) = (l[k]?).map V.copy := zav tsz99 l k
@[go_sem] theorem tsz100 : tsz Try.prog 100 = some (false, 1) := by kernel_rfl
@[go_sem] theorem ldT100 (v : V) (r : List V) : ldTV Try.prog 100 (v :: r) = some v.copy := zbe tsz100 v r
@[go_sem] theorem ldD100 (l : List V) (k : Nat) : ldTV Try.prog 100 (l.drop k) = (l[k]?).map V.copy := zav tsz100 l k
@[go_sem] theorem zmp : tel Try.prog 100 = some (134, 1, 24) := by kernel_rfl
@[go_sem] theorem zuk : zjo Try.prog 100 = true := by kernel_rfl
@[go_sem] theorem len100 (l : List (List V)) : zdo Try.prog 100 (.lst l) = some (.v (.int .i64 l.length)) := zcx zuk rfl
@[go_sem] theorem leo100 (m : Bool) (e s : Nat) (l : List (List V)) : zdo Try.prog 100 (.own m e s l) = some (.v (.int .i64 l.length)) := zcx zuk rfl
@[go_sem] theorem len0100 : zdo Try.prog 100 (.v (.slice none 0 0)) = some (.v (.int .i64 0)) := zcx (l := []) zuk rfl
@[go_sem] theorem les100 (a : Addr) (n c : Nat) : zdo Try.prog 100 (.v (.slice (some a) n c)) = some (.v (.int .i64 n)) := zfx zuk a n c
@[go_sem] theorem ixl100 (l : List (List V)) (k : IntKind) (m : Int) : zec Try.prog 100 (.lst l) (.v (.int k m)) = if 0 ≤ m then idxO 1 l[m.toNat]? else none := zdr zmp rfl k m
@[go_sem] theorem ixo100 (b : Bool) (e s : Nat) (l : List (List V)) (k : IntKind) (m : Int) : zec Try.prog 100 (.own b e s l) (.v (.int k m)) = if 0 ≤ m then idxO 1 l[m.toNat]? else none := zdr zmp rfl k m
@[go_sem] theorem ixs100 (b off len cap : Nat) (k : IntKind) (m : Int) : zec Try.prog 100 (.v (.slice (some ⟨b, off, none⟩) len cap)) (.v (.int k m)) = if 0 ≤ m then (if m < len then some (.v (.pointer (some ⟨b, off + m.toNat * 1, none⟩))) else none) else none := zfy zmp b off len cap k m
@[go_sem] theorem sll100 (l : List (List V)) (lo hi : Option Nat) : slcV Try.prog 100 (.lst l) lo hi = if lo.getD 0 ≤ hi.getD l.length ∧ hi.getD l.length ≤ l.length ∧ (∀ c ∈ l, c.length = 1) then some (.lst ((l.take (hi.getD l.length)).drop (lo.getD 0))) else none := zdq zmp rfl lo hi
@[go_sem] theorem slo100 (b : Bool) (e s : Nat) (l : List (List V)) (lo hi : Option Nat) : slcV Try.prog 100 (.own b e s l) lo hi = if lo.getD 0 ≤ hi.getD l.length ∧ hi.getD l.length ≤ l.length ∧ (∀ c ∈ l, c.length = 1) then some (.lst ((l.take (hi.getD l.length)).drop (lo.getD 0))) else none := zdq zmp rfl lo hi
@[go_sem] theorem sls100 (b off len cap : Nat) (lo hi : Option Nat) : slcV Try.prog 100 (.v (.slice (some ⟨b, off, none⟩) len cap)) lo hi = if lo.getD 0 ≤ hi.getD len ∧ hi.getD len ≤ cap ∧ lo.getD 0 < cap then some (.v (.slice (some ⟨b, off + lo.getD 0 * 1, none⟩) (hi.getD len - lo.getD 0) (cap - lo.getD 0))) else none := zfv zmp b off len cap lo hi
@[go_sem] theorem bsl100 (len : Nat) (ps : List (Nat × V)) : bslV Try.prog 100 len ps = if len * 1 ≤ 16777216 ∧ len ≤ 16777216 then (zdu (fun i => some (i * 1, 1)) (zdp (.slice none 0 0) len) ps).map fun c => (134, 1, c) else none := zhf zmp tz134 rfl rfl len ps
@[go_sem] theorem tsz101 : tsz Try.prog 101 = some (true, 13) := by kernel_rfl
@[go_sem] theorem ldT101 (c : List V) : ldTV Try.prog 101 c = if 13 ≤ c.length then some (.agg ((c.take 13).map V.peek)) else none := zdd tsz101 c
@[go_sem] theorem zry : foff Try.prog 101 0 = some 0 := by kernel_rfl
@[go_sem] theorem fpl101_0 (c : List V) : zbk Try.prog 101 0 (.plc c) = if 0 ≤ c.length then some (.plc (c.drop 0)) else none := zbc zry c
@[go_sem] theorem fpt101_0 (b o : Nat) : zbk Try.prog 101 0 (.v (.pointer (some ⟨b, o, none⟩))) = some (.v (.pointer (some ⟨b, o + 0, none⟩))) := zbb zry b o
@[go_sem] theorem zrx : foff Try.prog 101 1 = some 8 := by kernel_rfl
@[go_sem] theorem fpl101_1 (c : List V) : zbk Try.prog 101 1 (.plc c) = if 8 ≤ c.length then some (.plc (c.drop 8)) else none := zbc zrx c
@[go_sem] theorem fpt101_1 (b o : Nat) : zbk Try.prog 101 1 (.v (.pointer (some ⟨b, o, none⟩))) = some (.v (.pointer (some ⟨b, o + 8, none⟩))) := zbb zrx b o
@[go_sem] theorem zrw : foff Try.prog 101 2 = some 9 := by kernel_rfl
@[go_sem] theorem fpl101_2 (c : List V) : zbk Try.prog 101 2 (.plc c) = if 9 ≤ c.length then some (.plc (c.drop 9)) else none := zbc zrw c
@[go_sem] theorem fpt101_2 (b o : Nat) : zbk Try.prog 101 2 (.v (.pointer (some ⟨b, o, none⟩))) = some (.v (.pointer (some ⟨b, o + 9, none⟩))) := zbb zrw b o
@[go_sem] theorem zrv : foff Try.prog 101 3 = some 10 := by kernel_rfl
@[go_sem] theorem fpl101_3 (c : List V) : zbk Try.prog 101 3 (.plc c) = if 10 ≤ c.length then some (.plc (c.drop 10)) else none := zbc zrv c
@[go_sem] theorem fpt101_3 (b o : Nat) : zbk Try.prog 101 3 (.v (.pointer (some ⟨b, o, none⟩))) = some (.v (.pointer (some ⟨b, o + 10, none⟩))) := zbb zrv b o
@[go_sem] theorem zru : foff Try.prog 101 4 = some 11 := by kernel_rfl
@[go_sem] theorem fpl101_4 (c : List V) : zbk Try.prog 101 4 (.plc c) = if 11 ≤ c.length then some (.plc (c.drop 11)) else none := zbc zru c
@[go_sem] theorem fpt101_4 (b o : Nat) : zbk Try.prog 101 4 (.v (.pointer (some ⟨b, o, none⟩))) = some (.v (.pointer (some ⟨b, o + 11, none⟩))) := zbb zru b o
@[go_sem] theorem zrt : foff Try.prog 101 5 = some 12 := by kernel_rfl
@[go_sem] theorem fpl101_5 (c : List V) : zbk Try.prog 101 5 (.plc c) = if 12 ≤ c.length then some (.plc (c.drop 12)) else none := zbc zrt c
@[go_sem] theorem fpt101_5 (b o : Nat) : zbk Try.prog 101 5 (.v (.pointer (some ⟨b, o, none⟩))) = some (.v (.pointer (some ⟨b, o + 12, none⟩))) := zbb zrt b o
@[go_sem] theorem bld101 (ps : List (Nat × V)) : zek Try.prog 101 ps = zdu (zdz [(0, 8), (8, 1), (9, 1), (10, 1), (11, 1), (12, 1)]) [V.v (.int .i64 (0)), V.v (.int .i64 (0)), V.v (.int .i64 (0)), V.v (.int .i64 (0)), V.v (.slice none 0 0), V.v (.bool false), V.v (.slice none 0 0), V.v (.slice none 0 0), V.v (.slice none 0 0), V.v (.slice none 0 0), V.v (.slice none 0 0), V.v (.int .i64 (0)), V.v (.int .i64 (0))] ps := by kernel_rfl
@[go_sem] theorem tsz102 : tsz Try.prog 102 = some (true, 13) := by kernel_rfl
@[go_sem] theorem ldT102 (c : List V) : ldTV Try.prog 102 c = if 13 ≤ c.length then some (.agg ((c.take 13).map V.peek)) else none := zdd tsz102 c
@[go_sem] theorem zrs : foff Try.prog 102 0 = some 0 := by kernel_rfl
@[go_sem] theorem fpl102_0 (c : List V) : zbk Try.prog 102 0 (.plc c) = if 0 ≤ c.length then some (.plc (c.drop 0)) else none := zbc zrs c
@[go_sem] theorem fpt102_0 (b o : Nat) : zbk Try.prog 102 0 (.v (.pointer (some ⟨b, o, none⟩))) = some (.v (.pointer (some ⟨b, o + 0, none⟩))) := zbb zrs b o
@[go_sem] theorem zrr : foff Try.prog 102 1 = some 8 := by kernel_rfl
@[go_sem] theorem fpl102_1 (c : List V) : zbk Try.prog 102 1 (.plc c) = if 8 ≤ c.length then some (.plc (c.drop 8)) else none := zbc zrr c
@[go_sem] theorem fpt102_1 (b o : Nat) : zbk Try.prog 102 1 (.v (.pointer (some ⟨b, o, none⟩))) = some (.v (.pointer (some ⟨b, o + 8, none⟩))) := zbb zrr b o
@[go_sem] theorem zrq : foff Try.prog 102 2 = some 9 := by kernel_rfl
@[go_sem] theorem fpl102_2 (c : List V) : zbk Try.prog 102 2 (.plc c) = if 9 ≤ c.length then some (.plc (c.drop 9)) else none := zbc zrq c
@[go_sem] theorem fpt102_2 (b o : Nat) : zbk Try.prog 102 2 (.v (.pointer (some ⟨b, o, none⟩))) = some (.v (.pointer (some ⟨b, o + 9, none⟩))) := zbb zrq b o
@[go_sem] theorem zrp : foff Try.prog 102 3 = some 10 := by kernel_rfl
@[go_sem] theorem fpl102_3 (c : List V) : zbk Try.prog 102 3 (.plc c) = if 10 ≤ c.length then some (.plc (c.drop 10)) else none := zbc zrp c
@[go_sem] theorem fpt102_3 (b o : Nat) : zbk Try.prog 102 3 (.v (.pointer (some ⟨b, o, none⟩))) = some (.v (.pointer (some ⟨b, o + 10, none⟩))) := zbb zrp b o
@[go_sem] theorem zro : foff Try.prog 102 4 = some 11 := by kernel_rfl
@[go_sem] theorem fpl102_4 (c : List V) : zbk Try.prog 102 4 (.plc c) = if 11 ≤ c.length then some (.plc (c.drop 11)) else none := zbc zro c
@[go_sem] theorem fpt102_4 (b o : Nat) : zbk Try.prog 102 4 (.v (.pointer (some ⟨b, o, none⟩))) = some (.v (.pointer (some ⟨b, o + 11, none⟩))) := zbb zro b o
@[go_sem] theorem zrn : foff Try.prog 102 5 = some 12 := by kernel_rfl
@[go_sem] theorem fpl102_5 (c : List V) : zbk Try.prog 102 5 (.plc c) = if 12 ≤ c.length then some (.plc (c.drop 12)) else none := zbc zrn c
@[go_sem] theorem fpt102_5 (b o : Nat) : zbk Try.prog 102 5 (.v (.pointer (some ⟨b, o, none⟩))) = some (.v (.pointer (some ⟨b, o + 12, none⟩))) := zbb zrn b o
@[go_sem] theorem bld102 (ps : List (Nat × V)) : zek Try.prog 102 ps = zdu (zdz [(0, 8), (8, 1), (9, 1), (10, 1), (11, 1), (12, 1)]) [V.v (.int .i64 (0)), V.v (.int .i64 (0)), V.v (.int .i64 (0)), V.v (.int .i64 (0)), V.v (.slice none 0 0), V.v (.bool false), V.v (.slice none 0 0), V.v (.slice none 0 0), V.v (.slice none 0 0), V.v (.slice none 0 0), V.v (.slice none 0 0), V.v (.int .i64 (0)), V.v (.int .i64 (0))] ps := by kernel_rfl
@[go_sem] theorem tsz106 : tsz Try.prog 106 = some (false, 1) := by kernel_rfl
@[go_sem] theorem ldT106 (v : V) (r : List V) : ldTV Try.prog 106 (v :: r) = some v.copy := zbe tsz106 v r
@[go_sem] theorem ldD106 (l : List V) (k : Nat) : ldTV Try.prog 106 (l.drop k) = (l[k]?).map V.copy := zav tsz106 l k
@[go_sem] theorem tint106 : tint Try.prog 106 = some .u64 := by kernel_rfl
@[go_sem] theorem usm106 : (Try.prog.underlying 106).isSome = true := by kernel_rfl
@[go_sem] theorem tsz107 : tsz Try.prog 107 = some (true, 1) := by kernel_rfl
@[go_sem] theorem ldT107 (c : List V) : ldTV Try.prog 107 c = if 1 ≤ c.length then some (.agg ((c.take 1).map V.peek)) else none := zdd tsz107 c
@[go_sem] theorem zrm : foff Try.prog 107 0 = some 0 := by kernel_rfl
@[go_sem] theorem fpl107_0 (c : List V) : zbk Try.prog 107 0 (.plc c) = if 0 ≤ c.length then some (.plc (c.drop 0)) else none := zbc zrm c
@[go_sem] theorem fpt107_0 (b o : Nat) : zbk Try.prog 107 0 (.v (.pointer (some ⟨b, o, none⟩))) = some (.v (.pointer (some ⟨b, o + 0, none⟩))) := zbb zrm b o
@[go_sem] theorem bld107 (ps : List (Nat × V)) : zek Try.prog 107 ps = zdu (zdz [(0, 1)]) [V.v (.int .u64 (0))] ps := by kernel_rfl
@[go_sem] theorem tsz108 : tsz Try.prog 108 = some (true, 1) := by kernel_rfl
@[go_sem] theorem ldT108 (c : List V) : ldTV Try.prog 108 c = if 1 ≤ c.length then some (.agg ((c.take 1).map V.peek)) else none := zdd tsz108 c
@[go_sem] theorem zrl : foff Try.prog 108 0 = some 0 := by kernel_rfl
@[go_sem] theorem fpl108_0 (c : List V) : zbk Try.prog 108 0 (.plc c) = if 0 ≤ c.length then some (.plc (c.drop 0)) else none := zbc zrl c
@[go_sem] theorem fpt108_0 (b o : Nat) : zbk Try.prog 108 0 (.v (.pointer (some ⟨b, o, none⟩))) = some (.v (.pointer (some ⟨b, o + 0, none⟩))) := zbb zrl b o
@[go_sem] theorem bld108 (ps : List (Nat × V)) : zek Try.prog 108 ps = zdu (zdz [(0, 1)]) [V.v (.int .u64 (0))] ps := by kernel_rfl
@[go_sem] theorem tsz114 : tsz Try.prog 114 = some (true, 2) := by kernel_rfl
@[go_sem] theorem ldT114 (c : List V) : ldTV Try.prog 114 c = if 2 ≤ c.length then some (.agg ((c.take 2).map V.peek)) else none := zdd tsz114 c
@[go_sem] theorem tarr114 : tarr Try.prog 114 = some (2, 1) := by kernel_rfl
@[go_sem] theorem ixp114 (c : List V) (k : IntKind) (m : Int) : zec Try.prog 114 (.plc c) (.v (.int k m)) = if 0 ≤ m then (if m < (2 : Nat) ∧ m.toNat * 1 ≤ c.length then some (.plc (c.drop (m.toNat * 1))) else none) else none := idxV_plc tarr114 c k m
@[go_sem] theorem ixq114 (b off : Nat) (k : IntKind) (m : Int) : zec Try.prog 114 (.v (.pointer (some ⟨b, off, none⟩))) (.v (.int k m)) = if 0 ≤ m then (if m < (2 : Nat) then some (.v (.pointer (some ⟨b, off + m.toNat * 1, none⟩))) else none) else none := idxV_ptr tarr114 b off k m
@[go_sem] theorem bld114 (ps : List (Nat × V)) : zek Try.prog 114 ps = zdu (fun i => some (i * 1, 1)) [V.v (.int .i64 (0)), V.v (.int .i64 (0))] ps := by kernel_rfl
@[go_sem] theorem tsz122 : tsz Try.prog 122 = some (false, 1) := by kernel_rfl
@[go_sem] theorem ldT122 (v : V) (r : List V) : ldTV Try.prog 122 (v :: r) = some v.copy := zbe tsz122 v r
@[go_sem] theorem ldD122 (l : List V) (k : Nat) : ldTV Try.prog 122 (l.drop k) = (l[k]?).map V.copy := zav tsz122 l k
@[go_sem] theorem tsz125 : tsz Try.prog 125 = some (false, 1) := by kernel_rfl
@[go_sem] theorem ldT125 (v : V) (r : List V) : ldTV Try.prog 125 (v :: r) = some v.copy := zbe tsz125 v r
@[go_sem] theorem ldD125 (l : List V) (k : Nat) : ldTV Try.prog 125 (l.drop k) = (l[k]?).map V.copy := zav tsz125 l k
@[go_sem] theorem tsz127 : tsz Try.prog 127 = some (false, 1) := by kernel_rfl
@[go_sem] theorem ldT127 (v : V) (r : List V) : ldTV Try.prog 127 (v :: r) = some v.copy := zbe tsz127 v r
@[go_sem] theorem ldD127 (l : List V) (k : Nat) : ldTV Try.prog 127 (l.drop k) = (l[k]?).map V.copy := zav tsz127 l k
@[go_sem] theorem tsz132 : tsz Try.prog 132 = some (false, 1) := by kernel_rfl
@[go_sem] theorem ldT132 (v : V) (r : List V) : ldTV Try.prog 132 (v :: r) = some v.copy := zbe tsz132 v r
@[go_sem] theorem ldD132 (l : List V) (k : Nat) : ldTV Try.prog 132 (l.drop k) = (l[k]?).map V.copy := zav tsz132 l k
@[go_sem] theorem tsz134 : tsz Try.prog 134 = some (false, 1) := by kernel_rfl
@[go_sem] theorem ldT134 (v : V) (r : List V) : ldTV Try.prog 134 (v :: r) = some v.copy := zbe tsz134 v r
@[go_sem] theorem ldD134 (l : List V) (k : Nat) : ldTV Try.prog 134 (l.drop k) = (l[k]?).map V.copy := zav tsz134 l k
@[go_sem] theorem zmo : tel Try.prog 134 = some (4, 1, 1) := by kernel_rfl
@[go_sem] theorem zuj : zjo Try.prog 134 = true := by kernel_rfl
@[go_sem] theorem len134 (l : List (List V)) : zdo Try.prog 134 (.lst l) = some (.v (.int .i64 l.length)) := zcx zuj rfl
@[go_sem] theorem leo134 (m : Bool) (e s : Nat) (l : List (List V)) : zdo Try.prog 134 (.own m e s l) = some (.v (.int .i64 l.length)) := zcx zuj rfl
@[go_sem] theorem len0134 : zdo Try.prog 134 (.v (.slice none 0 0)) = some (.v (.int .i64 0)) := zcx (l := []) zuj rfl
@[go_sem] theorem les134 (a : Addr) (n c : Nat) : zdo Try.prog 134 (.v (.slice (some a) n c)) = some (.v (.int .i64 n)) := zfx zuj a n c
@[go_sem] theorem ixl134 (l : List (List V)) (k : IntKind) (m : Int) : zec Try.prog 134 (.lst l) (.v (.int k m)) = if 0 ≤ m then idxO 1 l[m.toNat]? else none := zdr zmo rfl k m
@[go_sem] theorem ixo134 (b : Bool) (e s : Nat) (l : List (List V)) (k : IntKind) (m : Int) : zec Try.prog 134 (.own b e s l) (.v (.int k m)) = if 0 ≤ m then idxO 1 l[m.toNat]? else none := zdr zmo rfl k m
@[go_sem] theorem ixs134 (b off len cap : Nat) (k : IntKind) (m : Int) : zec Try.prog 134 (.v (.slice (some ⟨b, off, none⟩) len cap)) (.v (.int k m)) = if 0 ≤ m then (if m < len then some (.v (.pointer (some ⟨b, off + m.toNat * 1, none⟩))) else none) else none := zfy zmo b off len cap k m
@[go_sem] theorem sll134 (l : List (List V)) (lo hi : Option Nat) : slcV Try.prog 134 (.lst l) lo hi = if lo.getD 0 ≤ hi.getD l.length ∧ hi.getD l.length ≤ l.length ∧ (∀ c ∈ l, c.length = 1) then some (.lst ((l.take (hi.getD l.length)).drop (lo.getD 0))) else none := zdq zmo rfl lo hi
@[go_sem] theorem slo134 (b : Bool) (e s : Nat) (l : List (List V)) (lo hi : Option Nat) : slcV Try.prog 134 (.own b e s l) lo hi = if lo.getD 0 ≤ hi.getD l.length ∧ hi.getD l.length ≤ l.length ∧ (∀ c ∈ l, c.length = 1) then some (.lst ((l.take (hi.getD l.length)).drop (lo.getD 0))) else none := zdq zmo rfl lo hi
@[go_sem] theorem sls134 (b off len cap : Nat) (lo hi : Option Nat) : slcV Try.prog 134 (.v (.slice (some ⟨b, off, none⟩) len cap)) lo hi = if lo.getD 0 ≤ hi.getD len ∧ hi.getD len ≤ cap ∧ lo.getD 0 < cap then some (.v (.slice (some ⟨b, off + lo.getD 0 * 1, none⟩) (hi.getD len - lo.getD 0) (cap - lo.getD 0))) else none := zfv zmo b off len cap lo hi
@[go_sem] theorem bsl134 (len : Nat) (ps : List (Nat × V)) : bslV Try.prog 134 len ps = if len * 1 ≤ 16777216 ∧ len ≤ 16777216 then (zdu (fun i => some (i * 1, 1)) (zdp (.bool false) len) ps).map fun c => (4, 1, c) else none := zhf zmo tz4 rfl rfl len ps
@[go_sem] theorem tsz140 : tsz Try.prog 140 = some (false, 1) := by kernel_rfl
@[go_sem] theorem ldT140 (v : V) (r : List V) : ldTV Try.prog 140 (v :: r) = some v.copy := zbe tsz140 v r
@[go_sem] theorem ldD140 (l : List V) (k : Nat) : ldTV Try.prog 140 (l.drop k) = (l[k]?).map V.copy := zav tsz140 l k
@[go_sem] theorem tsz142 : tsz Try.prog 142 = some (false, 1) := by kernel_rfl
@[go_sem] theorem ldT142 (v : V) (r : List V) : ldTV Try.prog 142 (v :: r) = some v.copy := zbe tsz142 v r
@[go_sem] theorem ldD142 (l : List V) (k : Nat) : ldTV Try.prog 142 (l.drop k) = (l[k]?).map V.copy := zav tsz142 l k
@[go_sem] theorem tsz146 : tsz Try.prog 146 = some (false, 1) := by kernel_rfl
@[go_sem] theorem ldT146 (v : V) (r : List V) : ldTV Try.prog 146 (v :: r) = some v.copy := zbe tsz146 v r
@[go_sem] theorem ldD146 (l : List V) (k : Nat) : ldTV Try.prog 146 (l.drop k) = (l[k]?).map V.copy := zav tsz146 l k
@[go_sem] theorem tsz147 : tsz Try.prog 147 = some (false, 1) := by kernel_rfl
@[go_sem] theorem ldT147 (v : V) (r : List V) : ldTV Try.prog 147 (v :: r) = some v.copy := zbe tsz147 v r
@[go_sem] theorem ldD147 (l : List V) (k : Nat) : ldTV Try.prog 147 (l.drop k) = (l[k]?).map V.copy := zav tsz147 l k
@[go_sem] theorem tsz148 : tsz Try.prog 148 = some (false, 1) := by kernel_rfl
@[go_sem] theorem ldT148 (v : V) (r : List V) : ldTV Try.prog 148 (v :: r) = some v.copy := zbe tsz148 v r
@[go_sem] theorem ldD148 (l : List V) (k : Nat) : ldTV Try.prog 148 (l.drop k) = (l[k]?).map V.copy := zav tsz148 l k
@[go_sem] theorem tsz149 : tsz Try.prog 149 = some (false, 1) := by kernel_rfl
@[go_sem] theorem ldT149 (v : V) (r : List V) : ldTV Try.prog 149 (v :: r) = some v.copy := zbe tsz149 v r
@[go_sem] theorem ldD149 (l : List V) (k : Nat) : ldTV Try.prog 149 (l.drop k) = (l[k]?).map V.copy := zav tsz149 l k
@[go_sem] theorem tsz150 : tsz Try.prog 150 = some (false, 1) := by kernel_rfl
@[go_sem] theorem ldT150 (v : V) (r : List V) : ldTV Try.prog 150 (v :: r) = some v.copy := zbe tsz150 v r
@[go_sem] theorem ldD150 (l : List V) (k : Nat) : ldTV Try.prog 150 (l.drop k) = (l[k]?).map V.copy := zav tsz150 l k
@[go_sem] theorem tsz155 : tsz Try.prog 155 = some (false, 1) := by kernel_rfl
@[go_sem] theorem ldT155 (v : V) (r : List V) : ldTV Try.prog 155 (v :: r) = some v.copy := zbe tsz155 v r
@[go_sem] theorem ldD155 (l : List V) (k : Nat) : ldTV Try.prog 155 (l.drop k) = (l[k]?).map V.copy := zav tsz155 l k
@[go_sem] theorem tsz164 : tsz Try.prog 164 = some (false, 1) := by kernel_rfl
@[go_sem] theorem ldT164 (v : V) (r : List V) : ldTV Try.prog 164 (v :: r) = some v.copy := zbe tsz164 v r
@[go_sem] theorem ldD164 (l : List V) (k : Nat) : ldTV Try.prog 164 (l.drop k) = (l[k]?).map V.copy := zav tsz164 l k
@[go_sem] theorem cvt3_106 (k : IntKind) (n : Int) : ztk Try.prog 3 106 (.v (.int k n)) = some (.v (.int .u64 (IntKind.wrap .u64 n))) := cvtV_of usm3 tint106 k n
@[go_sem] theorem cvt106_3 (k : IntKind) (n : Int) : ztk Try.prog 106 3 (.v (.int k n)) = some (.v (.int .i64 (IntKind.wrap .i64 n))) := cvtV_of usm106 tint3 k n
theorem zdb : Try.prog.follows .mixedOrders = true := by kernel_rfl
theorem kd114 : Maps.Keyed Try.prog 114 := .of_law (WideMaps.ArrKey.law (n := 2) (e := 3) ⟨by kernel_rfl, by kernel_rfl, by kernel_rfl, by kernel_rfl⟩)
instance ok3 : FnOk Try.prog 3 Try.f3 := ⟨Try.func3, by kernel_rfl, by kernel_rfl⟩
instance ok4 : FnOk Try.prog 4 Try.f4 := ⟨Try.func4, by kernel_rfl, by kernel_rfl⟩
instance ok12 : FnOk Try.prog 12 Try.f12 := ⟨Try.func12, by kernel_rfl, by kernel_rfl⟩
instance ok13 : FnOk Try.prog 13 Try.f13 := ⟨Try.func13, by kernel_rfl, by kernel_rfl⟩
instance ok14 : FnOk Try.prog 14 Try.f14 := ⟨Try.func14, by kernel_rfl, by kernel_rfl⟩
instance ok15 : FnOk Try.prog 15 Try.f15 := ⟨Try.func15, by kernel_rfl, by kernel_rfl⟩
instance ok16 : FnOk Try.prog 16 Try.f16 := ⟨Try.func16, by kernel_rfl, by kernel_rfl⟩
instance ok17 : FnOk Try.prog 17 Try.f17 := ⟨Try.func17, by kernel_rfl, by kernel_rfl⟩
instance ok18 : FnOk Try.prog 18 Try.f18 := ⟨Try.func18, by kernel_rfl, by kernel_rfl⟩
instance ok19 : FnOk Try.prog 19 Try.f19 := ⟨Try.func19, by kernel_rfl, by kernel_rfl⟩
instance ok20 : FnOk Try.prog 20 Try.f20 := ⟨Try.func20, by kernel_rfl, by kernel_rfl⟩
instance ok21 : FnOk Try.prog 21 Try.f21 := ⟨Try.func21, by kernel_rfl, by kernel_rfl⟩
instance ok22 : FnOk Try.prog 22 Try.f22 := ⟨Try.func22, by kernel_rfl, by kernel_rfl⟩
instance ok23 : FnOk Try.prog 23 Try.f23 := ⟨Try.func23, by kernel_rfl, by kernel_rfl⟩
instance ok24 : FnOk Try.prog 24 Try.f24 := ⟨Try.func24, by kernel_rfl, by kernel_rfl⟩
instance ok25 : FnOk Try.prog 25 Try.f25 := ⟨Try.func25, by kernel_rfl, by kernel_rfl⟩
instance ok26 : FnOk Try.prog 26 Try.f26 := ⟨Try.func26, by kernel_rfl, by kernel_rfl⟩
instance ok27 : FnOk Try.prog 27 Try.f27 := ⟨Try.func27, by kernel_rfl, by kernel_rfl⟩
instance ok28 : FnOk Try.prog 28 Try.f28 := ⟨Try.func28, by kernel_rfl, by kernel_rfl⟩
instance ok30 : FnOk Try.prog 30 Try.f30 := ⟨Try.func30, by kernel_rfl, by kernel_rfl⟩
instance ok31 : FnOk Try.prog 31 Try.f31 := ⟨Try.func31, by kernel_rfl, by kernel_rfl⟩
instance ok33 : FnOk Try.prog 33 Try.f33 := ⟨Try.func33, by kernel_rfl, by kernel_rfl⟩
instance ok36 : FnOk Try.prog 36 Try.f36 := ⟨Try.func36, by kernel_rfl, by kernel_rfl⟩
instance ok44 : FnOk Try.prog 44 Try.f44 := ⟨Try.func44, by kernel_rfl, by kernel_rfl⟩
instance ok46 : FnOk Try.prog 46 Try.f46 := ⟨Try.func46, by kernel_rfl, by kernel_rfl⟩
instance ok47 : FnOk Try.prog 47 Try.f47 := ⟨Try.func47, by kernel_rfl, by kernel_rfl⟩
instance ok48 : FnOk Try.prog 48 Try.f48 := ⟨Try.func48, by kernel_rfl, by kernel_rfl⟩
instance ok49 : FnOk Try.prog 49 Try.f49 := ⟨Try.func49, by kernel_rfl, by kernel_rfl⟩
instance ok50 : FnOk Try.prog 50 Try.f50 := ⟨Try.func50, by kernel_rfl, by kernel_rfl⟩
instance ok51 : FnOk Try.prog 51 Try.f51 := ⟨Try.func51, by kernel_rfl, by kernel_rfl⟩
instance ok52 : FnOk Try.prog 52 Try.f52 := ⟨Try.func52, by kernel_rfl, by kernel_rfl⟩
instance ok53 : FnOk Try.prog 53 Try.f53 := ⟨Try.func53, by kernel_rfl, by kernel_rfl⟩
instance ok54 : FnOk Try.prog 54 Try.f54 := ⟨Try.func54, by kernel_rfl, by kernel_rfl⟩
instance ok55 : FnOk Try.prog 55 Try.f55 := ⟨Try.func55, by kernel_rfl, by kernel_rfl⟩
instance ok56 : FnOk Try.prog 56 Try.f56 := ⟨Try.func56, by kernel_rfl, by kernel_rfl⟩
instance ok57 : FnOk Try.prog 57 Try.f57 := ⟨Try.func57, by kernel_rfl, by kernel_rfl⟩
instance ok58 : FnOk Try.prog 58 Try.f58 := ⟨Try.func58, by kernel_rfl, by kernel_rfl⟩
instance ok59 : FnOk Try.prog 59 Try.f59 := ⟨Try.func59, by kernel_rfl, by kernel_rfl⟩
instance ok60 : FnOk Try.prog 60 Try.f60 := ⟨Try.func60, by kernel_rfl, by kernel_rfl⟩
instance ok61 : FnOk Try.prog 61 Try.f61 := ⟨Try.func61, by kernel_rfl, by kernel_rfl⟩
instance ok62 : FnOk Try.prog 62 Try.f62 := ⟨Try.func62, by kernel_rfl, by kernel_rfl⟩
instance ok63 : FnOk Try.prog 63 Try.f63 := ⟨Try.func63, by kernel_rfl, by kernel_rfl⟩
instance ok64 : FnOk Try.prog 64 Try.f64 := ⟨Try.func64, by kernel_rfl, by kernel_rfl⟩
instance ok65 : FnOk Try.prog 65 Try.f65 := ⟨Try.func65, by kernel_rfl, by kernel_rfl⟩
instance ok66 : FnOk Try.prog 66 Try.f66 := ⟨Try.func66, by kernel_rfl, by kernel_rfl⟩
instance ok67 : FnOk Try.prog 67 Try.f67 := ⟨Try.func67, by kernel_rfl, by kernel_rfl⟩
instance ok70 : FnOk Try.prog 70 Try.f70 := ⟨Try.func70, by kernel_rfl, by kernel_rfl⟩
instance ok71 : FnOk Try.prog 71 Try.f71 := ⟨Try.func71, by kernel_rfl, by kernel_rfl⟩
instance ok72 : FnOk Try.prog 72 Try.f72 := ⟨Try.func72, by kernel_rfl, by kernel_rfl⟩
instance ok73 : FnOk Try.prog 73 Try.f73 := ⟨Try.func73, by kernel_rfl, by kernel_rfl⟩
instance ok74 : FnOk Try.prog 74 Try.f74 := ⟨Try.func74, by kernel_rfl, by kernel_rfl⟩
instance ok76 : FnOk Try.prog 76 Try.f76 := ⟨Try.func76, by kernel_rfl, by kernel_rfl⟩
instance ok82 : FnOk Try.prog 82 Try.f82 := ⟨Try.func82, by kernel_rfl, by kernel_rfl⟩
instance ok83 : FnOk Try.prog 83 Try.f83 := ⟨Try.func83, by kernel_rfl, by kernel_rfl⟩
instance ok84 : FnOk Try.prog 84 Try.f84 := ⟨Try.func84, by kernel_rfl, by kernel_rfl⟩
instance ok85 : FnOk Try.prog 85 Try.f85 := ⟨Try.func85, by kernel_rfl, by kernel_rfl⟩
instance ok86 : FnOk Try.prog 86 Try.f86 := ⟨Try.func86, by kernel_rfl, by kernel_rfl⟩
instance ok87 : FnOk Try.prog 87 Try.f87 := ⟨Try.func87, by kernel_rfl, by kernel_rfl⟩
instance ok88 : FnOk Try.prog 88 Try.f88 := ⟨Try.func88, by kernel_rfl, by kernel_rfl⟩
instance ok89 : FnOk Try.prog 89 Try.f89 := ⟨Try.func89, by kernel_rfl, by kernel_rfl⟩
instance ok90 : FnOk Try.prog 90 Try.f90 := ⟨Try.func90, by kernel_rfl, by kernel_rfl⟩
instance ok91 : FnOk Try.prog 91 Try.f91 := ⟨Try.func91, by kernel_rfl, by kernel_rfl⟩
instance ok92 : FnOk Try.prog 92 Try.f92 := ⟨Try.func92, by kernel_rfl, by kernel_rfl⟩
instance ok93 : FnOk Try.prog 93 Try.f93 := ⟨Try.func93, by kernel_rfl, by kernel_rfl⟩
instance ok94 : FnOk Try.prog 94 Try.f94 := ⟨Try.func94, by kernel_rfl, by kernel_rfl⟩
instance ok95 : FnOk Try.prog 95 Try.f95 := ⟨Try.func95, by kernel_rfl, by kernel_rfl⟩
instance ok96 : FnOk Try.prog 96 Try.f96 := ⟨Try.func96, by kernel_rfl, by kernel_rfl⟩
instance ok97 : FnOk Try.prog 97 Try.f97 := ⟨Try.func97, by kernel_rfl, by kernel_rfl⟩
instance ok98 : FnOk Try.prog 98 Try.f98 := ⟨Try.func98, by kernel_rfl, by kernel_rfl⟩
instance ok99 : FnOk Try.prog 99 Try.f99 := ⟨Try.func99, by kernel_rfl, by kernel_rfl⟩
instance ok100 : FnOk Try.prog 100 Try.f100 := ⟨Try.func100, by kernel_rfl, by kernel_rfl⟩
instance ok101 : FnOk Try.prog 101 Try.f101 := ⟨Try.func101, by kernel_rfl, by kernel_rfl⟩
instance ok102 : FnOk Try.prog 102 Try.f102 := ⟨Try.func102, by kernel_rfl, by kernel_rfl⟩
instance ok108 : FnOk Try.prog 108 Try.f108 := ⟨Try.func108, by kernel_rfl, by kernel_rfl⟩
instance ok113 : FnOk Try.prog 113 Try.f113 := ⟨Try.func113, by kernel_rfl, by kernel_rfl⟩
instance ok114 : FnOk Try.prog 114 Try.f114 := ⟨Try.func114, by kernel_rfl, by kernel_rfl⟩
instance ok115 : FnOk Try.prog 115 Try.f115 := ⟨Try.func115, by kernel_rfl, by kernel_rfl⟩
instance ok116 : FnOk Try.prog 116 Try.f116 := ⟨Try.func116, by kernel_rfl, by kernel_rfl⟩
instance ok117 : FnOk Try.prog 117 Try.f117 := ⟨Try.func117, by kernel_rfl, by kernel_rfl⟩
instance ok118 : FnOk Try.prog 118 Try.f118 := ⟨Try.func118, by kernel_rfl, by kernel_rfl⟩
instance ok119 : FnOk Try.prog 119 Try.f119 := ⟨Try.func119, by kernel_rfl, by kernel_rfl⟩
instance ok120 : FnOk Try.prog 120 Try.f120 := ⟨Try.func120, by kernel_rfl, by kernel_rfl⟩
instance ok121 : FnOk Try.prog 121 Try.f121 := ⟨Try.func121, by kernel_rfl, by kernel_rfl⟩
instance ok122 : FnOk Try.prog 122 Try.f122 := ⟨Try.func122, by kernel_rfl, by kernel_rfl⟩
instance ok123 : FnOk Try.prog 123 Try.f123 := ⟨Try.func123, by kernel_rfl, by kernel_rfl⟩
instance ok135 : FnOk Try.prog 135 Try.f135 := ⟨Try.func135, by kernel_rfl, by kernel_rfl⟩
instance ok136 : FnOk Try.prog 136 Try.f136 := ⟨Try.func136, by kernel_rfl, by kernel_rfl⟩
instance ok137 : FnOk Try.prog 137 Try.f137 := ⟨Try.func137, by kernel_rfl, by kernel_rfl⟩
instance ok138 : FnOk Try.prog 138 Try.f138 := ⟨Try.func138, by kernel_rfl, by kernel_rfl⟩
instance ok144 : FnOk Try.prog 144 Try.f144 := ⟨Try.func144, by kernel_rfl, by kernel_rfl⟩
end Go.XL
namespace Go.XL
section
variable {P : Program} {n : Nat} {r : Rr} {Q : VEnv → Sto → Prop} {k : List Fr} {E0 E : VEnv} {S S0 S1 : Sto} {Mp : List MpE} {ops l : List Oper} {t : Nat} {dst : Option Tmp} {op : Op} {ty : TypeId} {pos : String} {af : Array Edge}
theorem CG.np {x y : Code} {p : Prop} {_ : Decidable (¬ p)} (q1 : ¬ p → DS P n r Q (.code x :: k) E S) (q2 : p → DS P n r Q (.code y :: k) E S) : CG P n r Q x y k E S (.v (.bool (decide (¬ p)))) :=
  ⟨⟨_, rfl⟩, fun h => q1 (by simpa using h), fun h => q2 (by simpa using h)⟩
theorem GG.npT {p : Prop} {_ : Decidable (¬ p)} (q1 : ¬ p → DS P n r Q (.ops ops (⟨some t, op, ty, pos, af, none⟩ :: l) :: k) E S) (q2 : p → DS P n r Q (.ops ops l :: k) ((t, .v undef) :: E) S) : GG P n r Q true t op ty pos af ops l k E S (.v (.bool (decide (¬ p)))) :=
  ⟨.inl ⟨_, rfl⟩, fun h => q1 (by simpa using h), fun h => q2 (by simpa using h)⟩
theorem GG.npF {p : Prop} {_ : Decidable (¬ p)} (q1 : p → DS P n r Q (.ops ops (⟨some t, op, ty, pos, af, none⟩ :: l) :: k) E S) (q2 : ¬ p → DS P n r Q (.ops ops l :: k) ((t, .v undef) :: E) S) : GG P n r Q false t op ty pos af ops l k E S (.v (.bool (decide (¬ p)))) :=
  ⟨.inl ⟨_, rfl⟩, fun h => q1 (by simpa using h), fun h => q2 (by simpa using h)⟩
def DGG (P : Program) (n : Nat) (r : Rr) (Q : VEnv → Sto → Prop) (b : Bool) (t : Nat) (op : Op) (ty : TypeId) (pos : String) (af : Array Edge) (ops : List Oper) (S0 : Sto) (Mp : List MpE) (l : List Oper) (k : List Fr) (E0 E : VEnv) (S1 : Sto) (v : V) : Prop :=
  ((∃ u, v = .v (.bool u)) ∨ v = .v undef) ∧ (v = .v (.bool b) → DD P n r Q ops S0 Mp (⟨some t, op, ty, pos, af, none⟩ :: l) k E0 E S1) ∧ (v ≠ .v (.bool b) → DD P n r Q ops S0 Mp l k ((t, .v undef) :: E0) ((t, .v undef) :: E) S1)
theorem DD.gE {j : Nat} {b : Bool} {v : V} (hd : decide (t < n) = true) (e : zfi E ops n j = some v) (q : DGG P n r Q b t op ty pos af ops S0 Mp l k E0 E S1 v) :
    DD P n r Q ops S0 Mp (⟨some t, op, ty, pos, af, some (j, b)⟩ :: l) k E0 E S1 := by
  obtain ⟨⟨u, rfl⟩ | rfl, q1, q2⟩ := q
  · by_cases h : u = b
    · subst h; exact DD.gTS e rfl (q1 rfl)
    · refine DD.gFS e (by cases u <;> cases b <;> simp_all) hd (q2 (by simpa using h))
  · exact DD.gUS e rfl hd (q2 (by simp [undef]))
theorem DGG.run {b : Bool} (q : DD P n r Q ops S0 Mp (⟨some t, op, ty, pos, af, none⟩ :: l) k E0 E S1) : DGG P n r Q b t op ty pos af ops S0 Mp l k E0 E S1 (.v (.bool b)) := ⟨.inl ⟨_, rfl⟩, fun _ => q, fun h => (h rfl).elim⟩
theorem DGG.sF (q : DD P n r Q ops S0 Mp l k ((t, .v undef) :: E0) ((t, .v undef) :: E) S1) : DGG P n r Q true t op ty pos af ops S0 Mp l k E0 E S1 (.v (.bool false)) := ⟨.inl ⟨_, rfl⟩, (fun h => by cases h), fun _ => q⟩
theorem DGG.sT (q : DD P n r Q ops S0 Mp l k ((t, .v undef) :: E0) ((t, .v undef) :: E) S1) : DGG P n r Q false t op ty pos af ops S0 Mp l k E0 E S1 (.v (.bool true)) := ⟨.inl ⟨_, rfl⟩, (fun h => by cases h), fun _ => q⟩
theorem DGG.sU {b : Bool} (q : DD P n r Q ops S0 Mp l k ((t, .v undef) :: E0) ((t, .v undef) :: E) S1) : DGG P n r Q b t op ty pos af ops S0 Mp l k E0 E S1 (.v undef) := ⟨.inr rfl, fun h => by simp [undef] at h, fun _ => q⟩
theorem DGG.pT {p : Prop} {_ : Decidable p} (q1 : p → DD P n r Q ops S0 Mp (⟨some t, op, ty, pos, af, none⟩ :: l) k E0 E S1) (q2 : ¬ p → DD P n r Q ops S0 Mp l k ((t, .v undef) :: E0) ((t, .v undef) :: E) S1) : DGG P n r Q true t op ty pos af ops S0 Mp l k E0 E S1 (.v (.bool (decide p))) :=
  ⟨.inl ⟨_, rfl⟩, fun h => q1 (by simpa using h), fun h => q2 (by simpa using h)⟩
theorem DGG.pF {p : Prop} {_ : Decidable p} (q1 : ¬ p → DD P n r Q ops S0 Mp (⟨some t, op, ty, pos, af, none⟩ :: l) k E0 E S1) (q2 : p → DD P n r Q ops S0 Mp l k ((t, .v undef) :: E0) ((t, .v undef) :: E) S1) : DGG P n r Q false t op ty pos af ops S0 Mp l k E0 E S1 (.v (.bool (decide p))) :=
  ⟨.inl ⟨_, rfl⟩, fun h => q1 (by simpa using h), fun h => q2 (by simpa using h)⟩
theorem DGG.npT {p : Prop} {_ : Decidable (¬ p)} (q1 : ¬ p → DD P n r Q ops S0 Mp (⟨some t, op, ty, pos, af, none⟩ :: l) k E0 E S1) (q2 : p → DD P n r Q ops S0 Mp l k ((t, .v undef) :: E0) ((t, .v undef) :: E) S1) : DGG P n r Q true t op ty pos af ops S0 Mp l k E0 E S1 (.v (.bool (decide (¬ p)))) :=
  ⟨.inl ⟨_, rfl⟩, fun h => q1 (by simpa using h), fun h => q2 (by simpa using h)⟩
theorem DGG.npF {p : Prop} {_ : Decidable (¬ p)} (q1 : p → DD P n r Q ops S0 Mp (⟨some t, op, ty, pos, af, none⟩ :: l) k E0 E S1) (q2 : ¬ p → DD P n r Q ops S0 Mp l k ((t, .v undef) :: E0) ((t, .v undef) :: E) S1) : DGG P n r Q false t op ty pos af ops S0 Mp l k E0 E S1 (.v (.bool (decide (¬ p)))) :=
  ⟨.inl ⟨_, rfl⟩, fun h => q1 (by simpa using h), fun h => q2 (by simpa using h)⟩
theorem DGG.bT {u : Bool} (q1 : u = true → DD P n r Q ops S0 Mp (⟨some t, op, ty, pos, af, none⟩ :: l) k E0 E S1) (q2 : u = false → DD P n r Q ops S0 Mp l k ((t, .v undef) :: E0) ((t, .v undef) :: E) S1) : DGG P n r Q true t op ty pos af ops S0 Mp l k E0 E S1 (.v (.bool (u))) :=
  ⟨.inl ⟨_, rfl⟩, fun h => q1 (by simpa using h), fun h => q2 (by simpa using h)⟩
theorem DGG.bF {u : Bool} (q1 : u = false → DD P n r Q ops S0 Mp (⟨some t, op, ty, pos, af, none⟩ :: l) k E0 E S1) (q2 : u = true → DD P n r Q ops S0 Mp l k ((t, .v undef) :: E0) ((t, .v undef) :: E) S1) : DGG P n r Q false t op ty pos af ops S0 Mp l k E0 E S1 (.v (.bool (u))) :=
  ⟨.inl ⟨_, rfl⟩, fun h => q1 (by simpa using h), fun h => q2 (by simpa using h)⟩
def zlm (l : List Oper) : List Nat → List Oper
  | [] => []
  | i :: r => match l[i]? with
    | some o => o :: zlm l r
    | none => zlm l r
def pickO (r : List Oper) : Option Oper → List Oper
  | some o => o :: r
  | none => r
theorem zkm (l : List Oper) : ∀ ord : List Nat, ord.filterMap (l.toArray[·]?) = zlm l ord
  | [] => rfl
  | i :: r => by
    simp only [List.filterMap_cons, List.getElem?_toArray, zlm]
    rw [← zkm l r]
    cases l[i]? <;> simp
theorem zbf (l : List Oper) : zlm l [] = [] := rfl
theorem zay (l : List Oper) (i : Nat) (r : List Nat) : zlm l (i :: r) = pickO (zlm l r) l[i]? := by
  simp only [zlm]; cases l[i]? <;> rfl
theorem zax (r : List Oper) (o : Oper) : pickO r (some o) = o :: r := rfl
theorem DS.drawL {id : Nat} {os l1 l2 : List Oper} (ord : List Nat) (m : Nat) (hok : zla os.toArray ord m = true) (hm : P.follows .mixedOrders = true) (h1 : zlm os ord = l1) (h2 : os.drop m = l2)
    (q : DD P n r Q os S [] l1 (.ops os l2 :: k) E E []) : DS P n r Q (.code (.region id os.toArray true) :: k) E S :=
  DS.draw0 ord m hok hm (by rw [zkm, h1]; simpa [h2] using q)
end
end Go.XL
namespace Go.XL
abbrev I (n : Int) : V := .v (.int .i64 n)
abbrev Bo (b : Bool) : V := .v (.bool b)
def cI (n : Int) : List V := [I n]
abbrev ints (l : List Int) : V := .lst (l.map cI)
def cR (l : List Int) : List V := [ints l]
abbrev rows (l : List (List Int)) : V := .lst (l.map cR)
@[go_sem] theorem cI_eq (n : Int) : cI n = [I n] := rfl
@[go_sem] theorem cR_eq (n : List Int) : cR n = [ints n] := rfl
theorem zcw (n : Int) : (cI n).length = 1 := rfl
theorem zdg (n : List Int) : (cR n).length = 1 := rfl
structure Member where
  id : Int
  hand : Int
  from_ : Int
  to : Int
def Member.cells (m : Member) : List V := [I m.id, I m.hand, I m.from_, I m.to]
@[go_sem] theorem Member.cells_eq (m : Member) : m.cells = [I m.id, I m.hand, I m.from_, I m.to] := rfl
theorem Member.len (m : Member) : m.cells.length = 4 := rfl
abbrev Member.val (m : Member) : V := .agg m.cells
structure Ruling where
  round : Int
  table : Int
  points : List Int
def Ruling.cells (r : Ruling) : List V := [I r.round, I r.table, ints r.points]
@[go_sem] theorem Ruling.cells_eq (r : Ruling) : r.cells = [I r.round, I r.table, ints r.points] := rfl
theorem Ruling.len (m : Ruling) : m.cells.length = 3 := rfl
structure Sitting where
  tables : List (List Int)
  points : List (List Int)
  rulings : List Ruling
def Sitting.cells (s : Sitting) : List V := [rows s.tables, rows s.points, .lst (s.rulings.map Ruling.cells)]
@[go_sem] theorem Sitting.cells_eq (s : Sitting) : s.cells = [rows s.tables, rows s.points, .lst (s.rulings.map Ruling.cells)] := rfl
theorem Sitting.len (m : Sitting) : m.cells.length = 3 := rfl
abbrev Sitting.val (s : Sitting) : V := .agg s.cells
structure Club where
  size : Int
  start : Int
  absent : Int
  window : Int
  places : List Int
  share : Bool
  members : List Member
  rounds : List Sitting
def Club.cells (c : Club) : List V := [I c.size, I c.start, I c.absent, I c.window, ints c.places, Bo c.share, .lst (c.members.map Member.cells), .lst (c.rounds.map Sitting.cells)]
@[go_sem] theorem Club.cells_eq (c : Club) : c.cells = [I c.size, I c.start, I c.absent, I c.window, ints c.places, Bo c.share, .lst (c.members.map Member.cells), .lst (c.rounds.map Sitting.cells)] := rfl
abbrev Club.val (c : Club) : V := .agg c.cells
def Member.plays (m : Member) (round : Int) : Bool := decide (m.from_ ≤ round) && (decide (m.to < 0) || decide (round ≤ m.to))
def Member.playsR (m : Member) (round : Int) : Bool := decide (m.from_ ≤ round) && (decide (m.to = -1) || decide (round ≤ m.to))
theorem zcg {α : Type} {l : List α} {i : Nat} (h : i < l.length) : ∃ x r, l.drop i = x :: r ∧ l[i] = x ∧ l.drop (i + 1) = r := ⟨l[i], l.drop (i + 1), List.drop_eq_getElem_cons h, rfl, rfl⟩
theorem zdk {α : Type} {l : List α} {i : Nat} (h : ¬ (i : Int) < (l.length : Int)) : l.drop i = [] := List.drop_eq_nil_of_le (by omega)
def idxF {α : Type} (p : α → Bool) : List α → Nat → Int
  | [], _ => -1
  | x :: r, i => if p x then i else idxF p r (i + 1)
theorem zjf {α : Type} {p : α → Bool} {l : List α} {i : Nat} (hi : i < l.length) (h : p l[i] = true) : idxF p (l.drop i) i = i := by
  rw [List.drop_eq_getElem_cons hi, idxF, if_pos h]
theorem zhm {α : Type} {p : α → Bool} {l : List α} {i : Nat} (hi : i < l.length) (h : p l[i] = false) : idxF p (l.drop i) i = idxF p (l.drop (i + 1)) (i + 1) := by
  rw [List.drop_eq_getElem_cons hi, idxF, if_neg (by simp [h])]
theorem zjg {α : Type} {p : α → Bool} {l : List α} {i : Nat} (hi : l.length ≤ i) : idxF p (l.drop i) i = -1 := by
  rw [List.drop_eq_nil_of_le hi, idxF]
end Go.XL
