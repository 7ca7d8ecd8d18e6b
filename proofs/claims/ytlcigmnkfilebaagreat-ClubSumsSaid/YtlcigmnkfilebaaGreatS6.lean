/- A part of a program logic over the kit's walk rules, and contracts of functions in it. Conditions: as each theorem says. -/
import Derived.Test.YtlcigmnkfilebaaGreatS5
set_option linter.all false
namespace Go.XL
open Go.Proofs
set_option maxRecDepth 100000
set_option maxHeartbeats 4000000
theorem ynn {h : Heap} {p : Option Addr} : ∀ (k i j : Nat) (zs : List Value), ldN h p (k + i) j = some zs → ldN h p k j = some (zs.take k) := by
 intro k
 induction k with
 | zero => intro i j zs _; simp [ldN]
 | succ k ih =>
  intro i j zs hz
  rw [show k + 1 + i = (k + i) + 1 by omega] at hz
  simp only [ldN] at hz ⊢
  cases hl : ld h (at? p j) with
  | none => rw [hl] at hz; simp at hz
  | some u =>
   cases hr : ldN h p (k + i) (j + 1) with
   | none => rw [hl, hr] at hz; simp at hz
   | some us =>
    rw [hl, hr] at hz
    simp only [Option.bind_some, Option.map_some, Option.some.injEq] at hz
    subst hz
    simp only [Option.bind_some, ih i (j + 1) us hr, Option.map_some, List.take_succ_cons]
theorem yag {P : Program} {hv : VH} {h : Heap} {T m : Nat} {p : Option Addr} {c : List V} (hc : ∃ ys, ldN h p c.length 0 = some ys ∧ RlL hv c ys) (ht : tsz P T = some (true, m + 1)) (hl : m + 1 ≤ c.length) :
  ∃ y, ldT P h T p = some y ∧ (V.agg ((c.take (m + 1)).map V.copy)).Rl hv y := by
 obtain ⟨ys, h1, h2⟩ := hc
 have h3 := ynn (m + 1) (c.length - (m + 1)) 0 ys (by rw [show m + 1 + (c.length - (m + 1)) = c.length by omega]; exact h1)
 refine ⟨.agg (ys.take (m + 1)).toArray, by simp only [ldT, ht, h3, Option.map_some], ?_⟩
 simp only [V.Rl]
 exact ⟨_, rfl, zgg (h2.take (m + 1))⟩
section
variable {P : Program} {n : Nat} {r : Rr} {Q : VEnv → Sto → Prop} {k : List Fr} {E : VEnv} {S : Sto} {ty : TypeId} {pos : String} {af : Array Edge} {ops l : List Oper} {t : Nat}
theorem ypn {T m : Nat} {x : Operand} {c : List V} (hd : decide (t < n) = true) (hx : evV E x = some (.plc c)) (ht : tsz P T = some (true, m + 1)) (hl : m + 1 ≤ c.length)
  (q : DS P n r Q (.ops ops l :: k) ((t, .agg ((c.take (m + 1)).map V.copy)) :: E) S) : DS P n r Q (.ops ops (⟨some t, .load T x, ty, pos, af, none⟩ :: l) :: k) E S := fun K W a w ⟨K', D, hvv, hold, env, hb, ha, s⟩ hw => by
 obtain ⟨y0, e1, e2⟩ := s.rl _ _ hx
 simp only [V.Rl] at e2
 obtain ⟨p, rfl, _, e3⟩ := e2
 obtain ⟨y, h2, h3⟩ := yag (P := P) (e3.loads s.pre) ht hl
 have h2' : dop P w.heap (ev env) (.load T x) = some y := by simp only [dop, e1]; exact h2
 have hr := ziv (P := P) (o := ⟨some t, .load T x, ty, pos, af, none⟩) ha h2'
 refine zvr (zmw rfl a) ⟨fun _ _ => trivial, ?_⟩
 rw [Oper.semAt_eq _ _ _ (zhc (zuq rfl)), hr]
 exact q K W _ w ⟨K', D, hvv, hold, XL.put env (some t) y, hb, ha.put' (d := some t) hd y, s.put (some t) h3 fun t _ => V.free_Own rfl y⟩ hw
end
def FinC (P : Program) (a T : Nat) (R : V → Sto → Prop) (E : VEnv) (S : Sto) : Prop :=
 ∃ c T' b m S', zdg E a = some (.v (.pointer (some ⟨b, 0, none⟩))) ∧ zad S b = some (.cells c T') ∧ tsz P T = some (true, m + 1) ∧ m + 1 ≤ c.length ∧ (∀ b o, zad S' b = some o → zad S b = some o) ∧ R (.agg ((c.take (m + 1)).map V.copy)) S'
theorem yrh {P : Program} {n : Nat} {r : Rr} {a T : Nat} {R : V → Sto → Prop} {k : List Fr} {E : VEnv} {S : Sto} (S' : Sto) {c : List V} {T' b m : Nat} (h1 : zdg E a = some (.v (.pointer (some ⟨b, 0, none⟩)))) (h2 : zad S b = some (.cells c T')) (h3 : tsz P T = some (true, m + 1)) (h4 : m + 1 ≤ c.length)
  (h5 : ∀ b o, zad S' b = some o → zad S b = some o) (h6 : R (.agg ((c.take (m + 1)).map V.copy)) S') (hk : popR k = none := by rfl) : DS P n r (FinC P a T R) (.code .ret :: k) E S :=
 DS.ret hk ⟨c, T', b, m, S', h1, h2, h3, h4, h5, h6⟩
theorem DCh.of_runC {v0 : VH} {P : Program} {f : FuncId} {fn : Func} {c : Code} {args : List V} {S : Sto} {R : V → Sto → Prop} (hf : P.funcs[f]? = some fn) (hb : fn.body = some c) {m : Nat} (hm : fn.ntmps = m) {rs : List ResultVar} (hrs : fn.results = rs.toArray) (hn : args.length ≤ m) {a0 T0 : Nat} (hr0 : rs = [.cell a0 T0])
  (q : DS P m ⟨none, v0⟩ (FinC P a0 T0 R) [.code c] (argV 0 args) S) : DCh v0 P f args S R := by
 intro K hv hold h xs hfl hargs st w hw
 subst hm
 have hrs' : fn.results.toList = [.cell a0 T0] := by rw [hrs, hr0]
 subst hw
 refine callsIn_fw.1 (callsIn_of_wp_marks (F := FW none) (n := 0) hf hb trivial ?_ rfl)
 have st' : St ⟨K.B, K.h0, hv⟩ hv hold (argV 0 args) S (zos 0 xs) w.heap := ⟨st.pre, zth 0 hargs, st.obj, st.held, st.base, PreV.refl hv, fun _ _ => rfl⟩
 have hk2 : c.wpIn (FW none) 0 P (ksem P fn.ntmps ⟨none, v0⟩ ⟨K.B, K.h0, hv⟩ w (FinC P a0 T0 R) []) { tmps := xs.toArray ++ Array.replicate (fn.ntmps - xs.toArray.size) undef, defers := [] } w :=
  q ⟨K.B, K.h0, hv⟩ w _ w ⟨⟨K.B, K.h0, hv⟩, [], hv, hold, _, Bx.refl hfl st.base.1, ztj (by rw [hargs.length]; exact hn), st'⟩ (Same.refl w)
 refine wpIn_mono hk2 fun e a w' t => ?_
 have key : Fin fn.ntmps ⟨none, v0⟩ ⟨K.B, K.h0, hv⟩ w (FinC P a0 T0 R) a w' → LeavesInM (FW none) 0 P fn a.tmps (fun e w' => ∃ u, e = .returned u ∧ Same w w' ∧ ∃ v' S' hv' hold', PreV hv hv' ∧ St K hv' hold' [(0, v')] S' [(0, u)] w'.heap ∧ R v' S') a.defers .returning w' := by
  rintro ⟨E, S0, ⟨K', D, hv', hold', env, hbx, ha, s0⟩, hs, c1, T', b1, m1, S', g1, g2, g3, g4, hsub, hR⟩
  rw [ha.defers]
  refine zld w' (fun w2 hw2 s0 => ?_) D K' w' hbx s0 (Same.refl w')
  obtain ⟨y0, e1, e2, _⟩ := s0.slot a0 _ g1
  simp only [V.Rl] at e2; subst e2
  obtain ⟨y, h7, h8⟩ := yag (P := P) (T := T0) (p := some ⟨b1, 0, none⟩) (c := c1) (by simpa using zyr (off := 0) (s0.objs b1 _ g2)) g3 g4
  have h1 : resR P env w2.heap fn.results.toList = some [y] := by rw [hrs']; simp only [resR, e1, h7, Option.bind_some, Option.map_some]
  have s := s0.weaken (fun _ _ e => e) hsub
  refine ⟨_, zrf ha h1, _, rfl, hs.trans hw2, _, S', hv', fun g => match hold' g with | some (.slot _) => some (.slot 0) | x => x, s.vbase.1, ⟨s.pre, fun t v e => ?_, fun b o e => ?_, fun g x e => ?_, s.base, st.vbase.1.trans s.vbase.1, fun b hb => (s.vbase.2 b hb).trans (st.vbase.2 b hb)⟩, hR⟩
  ·simp only [zdg] at e
   split at e
   ·rename_i ht; subst ht; cases e
    exact ⟨y, by simp [look, tupR], h8, trivial⟩
   ·cases e
  ·obtain ⟨q1, q2, q3⟩ := s.obj b o e
   exact ⟨q1, q2, Ob.keep q3 (PreV.refl hv') rfl fun g i ob a1 a2 a3 => ⟨rfl, rfl, by simp [a1]⟩⟩
  ·cases hg : hold' g with
   | none => simp [hg] at e
   | some z => exact s.held g z hg
 cases e with
 | normal => exact key t
 | ret => exact key t
 | _ => exact t.elim
theorem DC.of_runC {P : Program} {f : FuncId} {fn : Func} {c : Code} {args : List V} {S : Sto} {R : V → Sto → Prop} (hf : P.funcs[f]? = some fn) (hb : fn.body = some c) {m : Nat} (hm : fn.ntmps = m) {rs : List ResultVar} (hrs : fn.results = rs.toArray) (hn : args.length ≤ m) {a0 T0 : Nat} (hr0 : rs = [.cell a0 T0])
  (q : ∀ v0, DS P m ⟨none, v0⟩ (FinC P a0 T0 R) [.code c] (argV 0 args) S) : DC P f args S R := fun v0 => .of_runC hf hb hm hrs hn hr0 (q v0)
structure Th (b : Nat) (l : List V) (hv hv3 : VH) : Prop where
 blk : ∃ cs T, hv b = some (.cells (List.toArray cs) T (0, 0)) ∧ RlL hv l cs
 ne : ∀ j, j ≠ b → hv3 j = hv j
def Safe (b : Nat) (l : List V) (c : V) : Prop := ∀ hv hv3, Th b l hv hv3 → ∀ y, c.Rl hv y → c.Rl hv3 y
theorem Safe.v {b : Nat} {l : List V} (x : Value) : Safe b l (.v x) := fun _ _ _ _ h => by simp only [V.Rl] at h ⊢; exact h
theorem Safe.list {b : Nat} {l : List V} {hv hv3 : VH} (t : Th b l hv hv3) : ∀ {c : List V} {ys : List Value}, (∀ v ∈ c, Safe b l v) → RlL hv c ys → RlL hv3 c ys
 | [], _, _, h => h
 | v :: r, _, hs, h => by
  obtain ⟨z, zs, rfl, h1, h2⟩ := h.cons
  simp only [RlL]
  exact ⟨z, zs, rfl, hs v (List.mem_cons_self ..) _ _ t _ h1, Safe.list t (fun u hu => hs u (List.mem_cons_of_mem _ hu)) h2⟩
theorem Safe.agg {b : Nat} {l c : List V} (h : ∀ v ∈ c, Safe b l v) : Safe b l (.agg c) := fun _ _ t _ e => by
 simp only [V.Rl] at e ⊢
 obtain ⟨ys, rfl, e2⟩ := e
 exact ⟨ys, rfl, Safe.list t h e2⟩
open Classical in
theorem yov {v0 : VH} {P : Program} {n : Nat} {E : VEnv} {S : Sto} {dst : Option Tmp} {ty : TypeId} {pos : String} {af : Array Edge} {ts : Array TypeId} {g : FuncId} {xs : Array Operand} {fn : Func} {S1 S2 : Sto} {R : V → Sto → Prop} {x0 : V} {pre l : List V} {b len cap sz T : Nat} {cl : List (List V)}
  (hf : FnOk P g fn) (he : evsV (evV E) xs.toList = some [x0, .agg (pre ++ [.v (.slice (some ⟨b, 0, none⟩) len cap)])]) (hc : DCh v0 P g [x0.peek, .agg (pre ++ [.lst cl])] S1 R)
  (hS : zad S b = some (.cells l T)) (hfree : ∀ v ∈ l, v.free = true) (hlen : cl.length = len) (hsz : ∀ c ∈ cl, c.length = sz) (hflat : cl.flatten = (l.take (len * sz)).map V.peek) (hcap : len ≤ cap ∧ cap ≤ maxLen)
  (h1 : ∀ j o, zad S1 j = some o → zad (delS b S) j = some o) (h2 : ∀ j o, zad S2 j = some o → zad (delS b S) j = some o ∧ zad S1 j = none)
  (hsR : ∀ v S', R v S' → Safe b (l.take (len * sz)) v ∧ v.free = true ∧ ∀ j c T', zad S' j = some (.cells c T') → ∀ v ∈ c, Safe b (l.take (len * sz)) v)
  (hs2 : ∀ j c T', zad S2 j = some (.cells c T') → ∀ v ∈ c, Safe b (l.take (len * sz)) v) :
  OpS v0 P n ⟨dst, .call { callee := .value (.func g), args := xs, argTypes := ts }, ty, pos, af, none⟩ E S (fun v E' S' => E' = E ∧ ∃ S0, S' = (b, .cells l T) :: (S0 ++ S2) ∧ R v S0 ∧ (∀ j o, zad S0 j = some o → zad S2 j = none ∧ j ≠ b)) := by
 intro K D hv hold env a w hfl ha s
 obtain ⟨ax, e5, e6⟩ := ziu s.rl he
 obtain ⟨o1, o2, cs, o3, o4, o5, o6⟩ := s.obj b _ hS
 have hpre : PreV hv (addB hv b (.cells (cs.take (len * sz)).toArray T (0, 0))) := zmh (.inl o2)
 have hlt := (Array.getElem?_eq_some_iff.1 o3).1
 have s1 : St ⟨fun j => K.B j ∨ j = b, w.heap, addB hv b (.cells (cs.take (len * sz)).toArray T (0, 0))⟩ (addB hv b (.cells (cs.take (len * sz)).toArray T (0, 0))) (fun g => if g = b then none else hold g) E (delS b S) env w.heap := by
  refine ⟨zou s.pre o3 ⟨(cs.drop (len * sz)).toArray, by rw [List.append_toArray, List.take_append_drop]⟩, fun t v e => ?_, fun b' o e => ?_, fun g x e => ?_, ⟨fun j hj => ?_, Nat.le_refl _, fun _ _ => rfl⟩, PreV.refl _, fun _ _ => rfl⟩
  ·obtain ⟨y, q1, q2, q3⟩ := s.slot t v e
   refine ⟨y, q1, V.Rl_mono hpre v y q2, q3.keep fun g ob a1 a2 a3 => ?_⟩
   have hne : g ≠ b := fun e => by subst e; rw [o2] at a2; cases a2
   exact ⟨rfl, zgb _ hne, by simp [hne, a1]⟩
  ·rw [zda] at e
   split at e
   ·cases e
   ·rename_i hb
    obtain ⟨r1, r2, r3⟩ := s.obj b' o e
    refine ⟨fun h => h.elim r1 hb, by rw [zgb _ hb]; exact r2, Ob.keep r3 hpre rfl fun g i ob a1 a2 a3 => ?_⟩
    have hne : g ≠ b := fun e => by subst e; rw [o2] at a2; cases a2
    exact ⟨rfl, zgb _ hne, by simp [hne, a1]⟩
  ·have e' : (if g = b then none else hold g) = some x := e
   split at e'
   ·cases e'
   ·rename_i hne
    exact fun h => h.elim (s.held g x e') hne
  ·rcases hj with hj | rfl
   ·exact Nat.lt_of_lt_of_le (s.base.1 j hj) s.base.2.1
   ·exact hlt
 obtain ⟨K', hcl, s2, back⟩ := s1.call h1 h2
 obtain ⟨y0, ys, rfl, a1, a2⟩ := e6.cons
 obtain ⟨y1, ys2, rfl, a3, a4⟩ := a2.cons
 have a5 : ys2 = [] := by simpa only [RlL] using a4
 subst a5
 have hargs : RlL (addB hv b (.cells (cs.take (len * sz)).toArray T (0, 0))) [x0.peek, .agg (pre ++ [.lst cl])] [y0, y1] := by
  simp only [V.Rl] at a3
  obtain ⟨zs, rfl, a6⟩ := a3
  have hz := a6.length
  have a7 := a6.take pre.length
  have a8 := a6.drop pre.length
  rw [List.take_left' rfl] at a7
  rw [List.drop_left' rfl] at a8
  obtain ⟨z, zs', e1, a9, a10⟩ := a8.cons
  have a11 : zs' = [] := by simpa only [RlL] using a10
  subst a11
  simp only [V.Rl] at a9; subst a9
  have hzs : zs = zs.take pre.length ++ [.slice (some ⟨b, 0, none⟩) len cap] := by rw [← e1, List.take_append_drop]
  have hC : RlC (addB hv b (.cells (cs.take (len * sz)).toArray T (0, 0))) (some ⟨b, 0, none⟩) 0 ((l.take (len * sz)).map V.peek) := znh (T := T) (f := (0, 0)) (cs := cs.take (len * sz)) (i := 0) ⟨#[], by simp [addB]⟩ rfl (zjg (zfc hpre _ _ (o4.take _))) (fun u hu => o5 u (List.mem_of_mem_take hu))
  have hlst : (V.lst cl).Rl (addB hv b (.cells (cs.take (len * sz)).toArray T (0, 0))) (.slice (some ⟨b, 0, none⟩) len cap) := by
   simp only [V.Rl]
   refine ⟨_, cap, sz, by rw [hlen], by rw [hlen]; exact hcap.1, hcap.2, hsz, RlE.of_flat ?_⟩
   rw [hflat]
   exact hC
  simp only [RlL]
  refine ⟨y0, _, rfl, V.peek_Rl (V.Rl_mono hpre _ _ a1), _, _, rfl, ?_, rfl⟩
  simp only [V.Rl]
  refine ⟨zs, rfl, ?_⟩
  rw [hzs]
  refine (zfc hpre _ _ a7).app ?_
  simp only [RlL]
  exact ⟨_, _, rfl, hlst, rfl⟩
 have hfl' : PreV v0 (addB hv b (.cells (cs.take (len * sz)).toArray T (0, 0))) := hfl.trans hpre
 refine zqr (fs := []) (cs := []) (args := [y0, y1]) ha hf rfl e5 ?_
 refine (hc K' _ hcl w.heap _ hfl' (by simpa using hargs) s2 w rfl).mono fun e w' ⟨v, ev, hs, u, S', hv', hold', p1, p2, p3⟩ => ?_
 obtain ⟨hold2, q1, q2⟩ := back (d := dst) p1 p2
 obtain ⟨g1, g2, g3⟩ := hsR u S' p3
 have hb1 : hv' b = some (.cells (cs.take (len * sz)).toArray T (0, 0)) := by rw [q1.vbase.2 b (.inr rfl)]; exact zhu ..
 have hb2 : w'.heap[b]? = some (.cells cs.toArray T (0, 0)) := by rw [q1.base.2.2 b (.inr rfl)]; exact o3
 have m1 : PreV hv (fun j => if j = b then none else hv' j) := fun j o e => by
  have hne : j ≠ b := fun e1 => by subst e1; rw [o2] at e; cases e
  obtain ⟨o', r1, r2⟩ := (hpre.trans p1) j o e
  exact ⟨o', by simp [hne, r1], r2⟩
 have th : Th b (l.take (len * sz)) hv' (fun j => if j = b then none else hv' j) := ⟨⟨cs.take (len * sz), T, hb1, zfc (hpre.trans p1) _ _ (o4.take _)⟩, fun j hj => by simp [hj]⟩
 have kO : ∀ {x : Hd} {u : V} {z : Value}, Own hv' w'.heap hold2 x u z → Own (fun j => if j = b then none else hv' j) w'.heap hold2 x u z := fun ho =>
  ho.keep fun g ob a1 a2 a3 => by
   have hne : g ≠ b := fun e1 => q1.held g _ a1 (.inr e1)
   exact ⟨rfl, by simp [hne], a1⟩
 refine ⟨v, ev, hs, u, E, _, _, hold2, m1, ⟨fun j o e => ?_, fun t x e => ?_, fun j o e => ?_, fun g x e h => q1.held g x e (.inl h), ⟨s.base.1, Nat.le_trans s.base.2.1 q1.base.2.1, fun j hj => (q1.base.2.2 j (.inl hj)).trans (s.base.2.2 j hj)⟩, s.vbase.1.trans m1, fun j hj => ?_⟩, rfl, S', rfl, p3, fun j o e => ⟨q2 j o e, fun e1 => ?_⟩⟩
 ·have e' : (if j = b then none else hv' j) = some o := e
  split at e'
  ·cases e'
  ·exact q1.pre j o e'
 ·obtain ⟨y, r1, r2, r3⟩ := q1.slot t x e
  refine ⟨y, r1, ?_, kO r3⟩
  have old : ∀ {t x y}, zdg E t = some x → XL.look env t = some y → x.Rl (fun j => if j = b then none else hv' j) y := fun {t x y} e1 e2 => by
   obtain ⟨y', f1, f2, _⟩ := s.slot t x e1
   rw [f1] at e2; cases e2
   exact V.Rl_mono m1 _ _ f2
  cases dst with
  | none => exact old e r1
  | some d =>
   simp only [putV, zdg] at e
   simp only [XL.put, XL.look] at r1
   by_cases hd : d = t
   ·simp only [hd, if_true, Option.some.injEq] at e
    subst e
    exact g1 _ _ th _ r2
   ·rw [if_neg hd] at e r1
    exact old e r1
 ·simp only [zad] at e
  split at e
  ·rename_i hj; subst hj
   simp only [Option.some.injEq] at e; subst e
   exact ⟨o1, by simp, cs, hb2, zfc m1 _ _ o4, o5, fun i c u hc hu => V.free_Own (hfree c (List.mem_of_getElem? hc)) u⟩
  ·rename_i hj
   obtain ⟨r1, r2, r3⟩ := q1.obj j o e
   have hj' : j ≠ b := fun h => hj h.symm
   refine ⟨fun h => r1 (.inl h), by simp only [hj', if_false]; exact r2, ?_⟩
   cases o with
   | raw o => exact r3
   | cells c T' =>
    obtain ⟨cs', u1, u2, u3, u4⟩ := r3
    have hsafe : ∀ v ∈ c, Safe b (l.take (len * sz)) v := by
     rw [zbu] at e
     cases e1 : zad S' j with
     | some o' => rw [e1] at e; simp only [Option.some.injEq] at e; subst e; exact g3 j c T' e1
     | none => rw [e1] at e; exact hs2 j c T' e
    exact ⟨cs', u1, Safe.list th hsafe u2, u3, fun i c u hc hu => kO (u4 i c u hc hu)⟩
 ·have hne : j ≠ b := fun e => by subst e; exact o1 hj
  simp only [hne, if_false]
  exact (q1.vbase.2 j (.inl hj)).trans ((zgb _ hne).trans (s.vbase.2 j hj))
 ·subst e1
  have := (p2.obj j o e).2.1
  rw [hb1] at this; cases this
theorem yhe {P : Program} {n : Nat} {r : Rr} {Q : VEnv → Sto → Prop} {k : List Fr} {E : VEnv} {S : Sto} {t b i len cap sz : Nat} {l l' : List V} {T : TypeId} (hE : zdg E t = some (.agg l')) (hi : l'[i]? = some (.v (.slice (some ⟨b, 0, none⟩) len cap))) (hS : zad S b = some (.cells l T)) (hl : len * sz ≤ l.length) (hc : len ≤ cap ∧ cap ≤ maxLen)
  (q : DS P n r Q k ((t, .agg (l'.set i (.lst (chunk sz len (l.map V.peek))))) :: E) (delS b S)) : DS P n r Q k E S := fun K W a w ⟨K', D, hv, hold, env, hb, ha, s⟩ hw => by
 obtain ⟨hv', h1, h2, h3'⟩ := s.freeze hS
 have h3 : RlC hv' (some ⟨b, 0, none⟩) 0 (l.map V.peek) := by
  have := zxg h3'
  rw [List.map_map, show (V.peek ∘ V.copy) = V.peek from funext fun v => by cases v <;> rfl] at this
  exact this
 obtain ⟨y, e1, e2, _⟩ := h2.slot t _ hE
 refine q K W a w ⟨K', D, hv', hold, env, hb, ha, ⟨h2.pre, fun u v e => ?_, h2.obj, h2.held, h2.base, h2.vbase⟩⟩ hw
 simp only [zdg] at e
 by_cases hu : t = u
 ·subst hu
  simp only [if_true, Option.some.injEq] at e; subst e
  refine ⟨y, e1, ?_, trivial⟩
  simp only [V.Rl] at e2 ⊢
  obtain ⟨ys, rfl, e3⟩ := e2
  refine ⟨ys, rfl, ?_⟩
  obtain ⟨z, z1, z2⟩ := e3.get hi
  simp only [V.Rl] at z2; subst z2
  refine RlL.setL e3 z1 ?_
  obtain ⟨f1, f2⟩ := zij sz len ((l.map V.peek).take (len * sz)) (by simp; omega)
  have f3 : chunk sz len ((l.map V.peek).take (len * sz)) = chunk sz len (l.map V.peek) := by
   have key : ∀ (len m : Nat) (l : List V), len * sz ≤ m → chunk sz len (l.take m) = chunk sz len l := by
    intro len
    induction len with
    | zero => intro m l _; rfl
    | succ len ih =>
     intro m l hm
     rw [Nat.succ_mul] at hm
     simp only [chunk]
     rw [List.take_take, Nat.min_eq_left (by omega), List.drop_take, ih _ _ (by omega)]
   exact key len _ _ (Nat.le_refl _)
  simp only [V.Rl]
  refine ⟨_, cap, sz, by rw [zdl], by rw [zdl]; exact hc.1, hc.2, by rw [← f3]; exact f2, RlE.of_flat ?_⟩
  rw [← f3, f1]
  exact h3.take _
 ·rw [if_neg hu] at e; exact h2.slot u v e
def SlV (v : V) : Prop := (∃ x, v = .lst x) ∨ v = .v (.slice none 0 0)
def NumV (v : V) : Prop := ∃ x, v = .v x ∧ ∀ p n c, x ≠ .slice p n c
theorem SlV.val {hv : VH} {v : V} {u : Value} (h : SlV v) (e : v.Rl hv u) : ∃ p n c, u = .slice p n c := by
 rcases h with ⟨x, rfl⟩ | rfl
 ·simp only [V.Rl] at e; obtain ⟨p, c, _, rfl, _⟩ := e; exact ⟨_, _, _, rfl⟩
 ·simp only [V.Rl] at e; exact ⟨_, _, _, e⟩
theorem Th.ldH {b : Nat} {l : List V} {hv hv3 : VH} (t : Th b l hv hv3) {q : Option Addr} {u : Value} (e : ldH hv q = some u) : ldH hv3 q = some u ∨ ∃ v ∈ l, v.Rl hv u := by
 cases q with
 | none => simp [XL.ldH] at e
 | some a =>
  by_cases hb : a.block = b
  ·obtain ⟨cs, T, h1, h2⟩ := t.blk
   refine .inr ?_
   simp only [XL.ldH, Option.bind_some, ztd, hb, h1] at e
   split at e
   ·cases e
   ·have hlt : a.off < cs.length := by
     have := (Array.getElem?_eq_some_iff.1 e).1; simpa using this
    have hl : a.off < l.length := by rw [← h2.length]; exact hlt
    obtain ⟨y, y1, y2⟩ := h2.get (List.getElem?_eq_getElem hl)
    have : cs[a.off]? = some u := by simpa using e
    rw [this] at y1; cases y1
    exact ⟨_, List.getElem_mem hl, y2⟩
  ·refine .inl ?_
   simp only [XL.ldH, Option.bind_some, ztd] at e ⊢
   rw [t.ne _ hb]; exact e
theorem Th.nums {b : Nat} {l : List V} {hv hv3 : VH} (t : Th b l hv hv3) (hl : ∀ v ∈ l, SlV v) {p : Option Addr} : ∀ {c : List V} {i : Nat}, (∀ v ∈ c, NumV v) → RlC hv p i c → RlC hv3 p i c
 | [], _, _, _ => trivial
 | v :: r, i, h, e => by
  simp only [RlC] at e ⊢
  obtain ⟨⟨u, e1, e2, e3⟩, e4⟩ := e
  obtain ⟨x, rfl, hx⟩ := h v (List.mem_cons_self ..)
  simp only [V.Rl] at e2; subst e2
  refine ⟨⟨u, (t.ldH e1).resolve_right ?_, by simp only [V.Rl], e3⟩, Th.nums t hl (fun w hw => h w (List.mem_cons_of_mem _ hw)) e4⟩
  rintro ⟨w, hw, hw2⟩
  obtain ⟨p', n', c', h'⟩ := (hl w hw).val hw2
  exact hx _ _ _ h'
theorem Safe.nums {b : Nat} {l : List V} (hl : ∀ v ∈ l, SlV v) {cl : List (List V)} (h : ∀ c ∈ cl, ∀ v ∈ c, NumV v) : Safe b l (.lst cl) := fun hv hv3 t y e => by
 simp only [V.Rl] at e ⊢
 obtain ⟨p, cap, sz, e1, e2, e3, e4, e5⟩ := e
 exact ⟨p, cap, sz, e1, e2, e3, e4, RlE.of_flat (t.nums hl (fun v hv => by obtain ⟨c, h1, h2⟩ := List.mem_flatten.1 hv; exact h c h1 v h2) e5.flat)⟩
theorem Safe.own {b : Nat} {l : List V} {m : Bool} {e sz : Nat} {cl : List (List V)} (h : Safe b l (.lst cl)) : Safe b l (.own m e sz cl) := fun hv hv3 t y r => by
 have := h hv hv3 t y (by simpa only [V.Rl] using r)
 simpa only [V.Rl] using this
theorem Safe.ints {b : Nat} {l : List V} (hl : ∀ v ∈ l, SlV v) (L : List Int) : Safe b l (ints L) := Safe.nums hl fun c hc v hv => by
 obtain ⟨n, _, rfl⟩ := List.mem_map.1 hc
 simp only [cI, List.mem_singleton] at hv
 exact ⟨_, hv, fun _ _ _ h => by cases h⟩
theorem zzd : ∀ L : List Int, (L.map cI).flatten = L.map I
 | [] => rfl
 | a :: r => by
  simp only [List.map_cons, List.flatten_cons, zzd r]; rfl
def NoInt (v : V) : Prop := ∀ hv u L, 3 ≤ L.length → v.Rl hv u → (XL.ints L).Rl hv u → False
theorem NoInt.nil : NoInt (.v (.slice none 0 0)) := fun hv u L hL h1 h2 => by
 simp only [V.Rl] at h1 h2; subst h1
 obtain ⟨p, cap, _, e, _⟩ := h2
 simp only [Value.slice.injEq, List.length_map] at e
 omega
theorem NoInt.lst {x : List (List V)} {j : Nat} (hj : j < 3) (h : 3 ≤ x.length → ∃ v, x.flatten[j]? = some v ∧ SlV v) : NoInt (.lst x) := fun hv u L hL h1 h2 => by
 simp only [V.Rl] at h1 h2
 obtain ⟨p, cap, _, rfl, _, _, _, e5⟩ := h1
 obtain ⟨p', cap', _, e, _, _, _, f5⟩ := h2
 simp only [Value.slice.injEq, List.length_map] at e
 obtain ⟨rfl, e1, rfl⟩ := e
 obtain ⟨v, v1, v2⟩ := h (by omega)
 obtain ⟨u, u1, u2, _⟩ := e5.flat.get v1
 have f6 := f5.flat
 rw [zzd] at f6
 have hlt : j < L.length := by omega
 obtain ⟨w, w1, w2, _⟩ := f6.get (j := j) (v := I L[j]) (by rw [List.getElem?_map, List.getElem?_eq_getElem hlt]; rfl)
 rw [u1] at w1; cases w1
 simp only [V.Rl] at w2
 obtain ⟨_, _, _, h'⟩ := v2.val u2
 rw [w2] at h'; cases h'
theorem NoInt.rows (M : List (List Int)) : NoInt (rows M) := NoInt.lst (j := 0) (by omega) fun h => by
 cases M with
 | nil => simp at h
 | cons a r => exact ⟨XL.ints a, rfl, .inl ⟨_, rfl⟩⟩
theorem NoInt.rulings (M : List Ruling) : NoInt (.lst (M.map Ruling.cells)) := NoInt.lst (j := 2) (by omega) fun h => by
 cases M with
 | nil => simp at h
 | cons a r => exact ⟨XL.ints a.points, rfl, .inl ⟨_, rfl⟩⟩
theorem Safe.rows {b : Nat} {l : List V} (hl : ∀ v ∈ l, SlV v ∧ NoInt v) {M : List (List Int)} (hM : ∀ r ∈ M, 3 ≤ r.length) : Safe b l (rows M) := fun hv hv3 t y e => by
 simp only [V.Rl] at e ⊢
 obtain ⟨p, cap, sz, e1, e2, e3, e4, e5⟩ := e
 refine ⟨p, cap, sz, e1, e2, e3, e4, ?_⟩
 clear e1 e2 e4
 revert e5
 generalize 0 = i
 induction M generalizing i with
 | nil => exact fun h => h
 | cons a r ih =>
  intro h
  simp only [List.map_cons, RlE, cR, RlC, List.length_singleton] at h ⊢
  obtain ⟨⟨⟨u, u1, u2, u3⟩, _⟩, h2⟩ := h
  refine ⟨⟨⟨u, (t.ldH u1).resolve_right ?_, Safe.ints (fun v hv => (hl v hv).1) a _ _ t _ u2, u3⟩, trivial⟩, ih (fun r' hr' => hM r' (List.mem_cons_of_mem _ hr')) _ h2⟩
  rintro ⟨w, hw, hw2⟩
  exact (hl w hw).2 hv u a (hM a (List.mem_cons_self ..)) hw2 u2
theorem ymm (R : List Sitting) : ∀ v ∈ (R.map Sitting.cells).flatten, SlV v ∧ NoInt v := fun v hv => by
 obtain ⟨c, h1, h2⟩ := List.mem_flatten.1 hv
 obtain ⟨s, _, rfl⟩ := List.mem_map.1 h1
 simp only [Sitting.cells, List.mem_cons, List.not_mem_nil, or_false] at h2
 rcases h2 with rfl | rfl | rfl
 ·exact ⟨.inl ⟨_, rfl⟩, NoInt.rows _⟩
 ·exact ⟨.inl ⟨_, rfl⟩, NoInt.rows _⟩
 ·exact ⟨.inl ⟨_, rfl⟩, NoInt.rulings _⟩
end Go.XL
namespace Go.XL
open Go.Proofs
set_option maxRecDepth 100000
set_option maxHeartbeats 8000000
def ptC (p : List Int) : V := if p = [] then .v (.slice none 0 0) else ints p
def regC (id : Nat) : Code → Option (List Oper)
 | .region i ops _ => if i = id then some ops.toList else none
 | .seq a b => match regC id a with | some x => some x | none => regC id b
 | .rangeFunc _ _ a b => match regC id a with | some x => some x | none => regC id b
 | .cond _ a b => match regC id a with | some x => some x | none => regC id b
 | .block _ c => regC id c
 | .loop c => regC id c
 | .scope c => regC id c
 | _ => none
def ztl (bs : Nat) (x : Int) (c : Club) (u : V) (S' : Sto) : Prop := ∃ bp, bp ≠ bs ∧ u = .agg [rows (zay c x).1, .v (.slice (some ⟨bp, 0, none⟩) (zay c x).1.length (zay c x).1.length), .v (.slice none 0 0)] ∧ S' = [(bp, .cells ((zcn c x).1.map ptC) 22), (bs, srcO (zcn c x).2)]
theorem zlz (bs b4 : Nat) (x : Int) (c : Club) (hzB : Box (∃ z : Nat, c.size = z)) (hsz : 3 ≤ c.size ∧ c.size ≤ 4) (hst : 0 ≤ c.start ∧ c.start ≤ 1000000) (hl : (zay c x).1.length ≤ 1000002) (n4 : ¬ bs = b4) (n4' : ¬ b4 = bs) {v0 : VH} {os l : List Oper} {cd : Code}
  (h1 : Tryz.f87.body.bind (regC 7) = some os) (h2 : os.drop 3 = l) (h3 : Tryz.f87.body.bind (zkc 7) = some cd) :
  DS Tryz.prog 67 ⟨none, v0⟩ (FinC Tryz.prog 4 61 (ztl bs x c)) [.ops os l, .code cd]
   [(42, rows (zay c x).1), (44, I ((zay c x).1.length : Int)), (6, rows (zay c x).1), (0, ptr bs), (3, .plc c.cells), (4, ptr b4)] [(bs, srcO (zay c x).2), (b4, .cells [.v (.slice none 0 0), .v (.slice none 0 0), .v (.slice none 0 0)] 61)] := by
 obtain rfl := Option.some.inj ((show Tryz.f87.body.bind (regC 7) = some _ from rfl).symm.trans h1)
 obtain rfl := Option.some.inj ((show Tryz.f87.body.bind (zkc 7) = some _ from rfl).symm.trans h3)
 subst h2
 clear h1 h3
 simp only [zaw, zax]
 repeat' (first | (with_reducible first | refine zac yU yU yX8 ?_ | refine zab ?_ | refine DS.seq ?_ | refine zaa ?_ | refine DS.block ?_) | (refine zhj (t := 9) yU yX8 yU (fun _ => yX8) yX8 yU (by exact ⟨by with_unfolding_all rfl, by with_unfolding_all decide⟩) (fun _ => by simp only [go_sem, Nat.reduceEqDiff, ↓reduceIte]) ?_; simp only [go_sem]) | (refine yma yU yX8 yX8 yX8 yX8 yU yU ⟨by omega, by omega, by decide, by omega⟩ (fun _ hfr => ?_)) | fail)
 rename_i bp
 have np : ¬ bs = bp := fun e => by simp only [zaf] at hfr; rw [if_pos e] at hfr; cases hfr
 have np4 : ¬ b4 = bp := fun e => by simp only [zaf] at hfr; rw [if_neg np, if_pos e] at hfr; cases hfr
 have np' : ¬ bp = bs := fun e => np e.symm
 have np4' : ¬ bp = b4 := fun e => np4 e.symm
 clear hfr
 refine zco [0, 3, 4, 6, 9] yN (fun (y : Nat × Int × List (List Int)) => [(10, I y.1)]) (fun (y : Nat × Int × List (List Int)) => [(bp, .cells (y.2.2.map ptC ++ List.replicate ((zay c x).1.length - y.1) (.v (.slice none 0 0))) 22), (bs, srcO y.2.1), (b4, .cells [.v (.slice none 0 0), .v (.slice none 0 0), .v (.slice none 0 0)] 61)]) (fun (y : Nat × Int × List (List Int)) => y.1 ≤ (zay c x).1.length ∧ y.2.2.length = y.1 ∧ zcn c x = ptsG c.size c.start ((zay c x).1.length - y.1) y.2.1 y.2.2) (fun (y : Nat × Int × List (List Int)) => (zay c x).1.length - y.1) (0, (zay c x).2, []) yS (fun b o e => by exact e) ⟨Nat.zero_le _, rfl, rfl⟩ (fun y B hI hB => ?_); try dsimp only at hI hB; simp only [zas, zav]
 obtain ⟨k, x1, P⟩ := y
 dsimp only at hI hB
 obtain ⟨g1, g2, g3⟩ := hI
 have H := Box.mk (And.intro g3 (And.intro hsz hst))
 clear g3
 have he : ∃ z : Nat, c.size = z ∧ SC Tryz.prog 88 [ptr bs, I c.size, I c.start] bs (zae x1) (ints (zfv c.size c.start (zae x1)).1) (zfv c.size c.start (zae x1)).2 ∧ (zfv c.size c.start (zae x1)).1 ≠ [] := by
  obtain ⟨z, hz⟩ := hzB.out
  refine ⟨z, hz, ?_, ?_⟩
  ·rw [hz]; exact ykn bs (zae x1) z c.start (by omega) hst
  ·intro h
   have := zol c.size c.start (zae x1) (by omega)
   rw [h] at this; simp at this; omega
 obtain ⟨z, hz, he, hen⟩ := he
 have H2 := Box.mk (And.intro hz hen)
 clear hz hen
 repeat' (first | (refine ypn (t := 66) yU yE yU (by simp only [List.length_cons, List.length_nil]; omega) ?_; simp only [List.take_succ_cons, List.take_zero, List.map_cons, List.map_nil, zbx, zbl, zcv, Nat.reduceAdd]) | (with_reducible first | refine zac yU yU yE ?_ | refine zab ?_ | refine DS.seq ?_ | refine zaa ?_ | (refine zbc yE ?_; refine zeo (fun _ => ?_) (fun _ => ?_)) | refine DS.blk ?_ | refine DS.block ?_ | refine DS.exit yU ?_ | refine DS.skip ?_) | (refine zfe inferInstance (zei bs x1 5 (by omega)) yR yT yT ?_; (try simp only [zbk, zbw, ↓reduceIte, *])) | (refine DS.store yR yE yE yE yE yU (by exact ⟨by with_unfolding_all rfl, by (try simp only [List.length_map, List.length_append, List.length_set, List.length_replicate, List.length_cons, List.length_nil]); omega⟩) ?_; simp only [zbt, zbb, zbh, zcm, zbq, zbo, zbr]; try simp only [zao, zag, zah, Nat.reduceEqDiff, ↓reduceIte, zal, zam, zar, zak, zai, zap, zan]) | fail)
 ·rename_i e1 e2
  have hk : k < (zay c x).1.length := by omega
  obtain ⟨m, hm⟩ : ∃ m, (zay c x).1.length - k = m + 1 := ⟨(zay c x).1.length - k - 1, by omega⟩
  have hP : (P.map ptC).length = k := by simpa using g2
  refine zhw (id := 12) ([(bp, Ob.cells (List.map ptC P ++ List.replicate ((zay c x).1.length - k) (V.v (Value.slice none 0 0))) 22), (b4, Ob.cells [V.v (Value.slice none 0 0), V.v (Value.slice none 0 0), V.v (Value.slice none 0 0)] 61)]) ([(bs, srcO (zae x1))]) [0, 1, 2, 3, 4, 5, 6, 7, 8] 9 (by kernel_rfl) zdq (by simp only [zba, zbd, zbe, zbf, zaz]; exact rfl) (by simp only [zaw, zax, List.drop_nil]; exact rfl) ((fun b o e => by
   have hb : ¬ bs = b := fun h => by subst h; simp only [zaf, zcg, np', n4', ↓reduceIte] at e; cases e
   simp only [zaf, zcg, hb, ↓reduceIte] at e ⊢; exact ⟨e, trivial⟩)) ((fun b o e => by
   simp only [zaf, zcg] at e ⊢
   split at e
   ·rename_i h; rw [if_pos h]; exact e
   ·cases e)) ?_
  repeat' (first | (with_reducible first | refine zac yU yU yE ?_ | refine zab ?_ | refine zaa ?_ | refine DS.blk ?_) | (refine DS.store yR yE yE yE yE yU (by exact ⟨by with_unfolding_all rfl, by (try simp only [List.length_map, List.length_append, List.length_set, List.length_replicate, List.length_cons, List.length_nil]); omega⟩) ?_; simp only [zbt, zbb, zbh, zcm, zbq, zbo, zbr]; try simp only [zao, zag, zah, Nat.reduceEqDiff, ↓reduceIte, zal, zam, zar, zak, zai, zap, zan]) | with_reducible refine zbv yU yU yU yE ?_ | (with_reducible refine DD.nil ?_; simp only [zas, zav]) | (refine zoy inferInstance (he) yU yT yT ?_; simp only [zci, zcs, Nat.reduceEqDiff, ↓reduceIte]; (try simp only [zbk, zbw, ↓reduceIte, *])) | fail)
  obtain ⟨h1, h2, h3⟩ := H.out
  rw [hm, ptsG, if_pos (by omega)] at h1
  refine DS.back (hB (k + 1, (zfv c.size c.start (zae x1)).2, P ++ [(zfv c.size c.start (zae x1)).1]) _ _ (by dsimp only; omega) ⟨by dsimp only; omega, by simp; omega, by dsimp only; rw [show (zay c x).1.length - (k + 1) = m by omega]; exact h1⟩ yS yS (fun b o e => ?_))
  have hc : (P ++ [(zfv c.size c.start (zae x1)).1]).map ptC ++ List.replicate ((zay c x).1.length - (k + 1)) (.v (.slice none 0 0)) = (P.map ptC ++ List.replicate ((zay c x).1.length - k) (V.v (.slice none 0 0))).set k (ints (zfv c.size c.start (zae x1)).1) := by
   rw [hm, show (zay c x).1.length - (k + 1) = m by omega, List.replicate_succ, List.map_append, List.append_assoc, List.set_append_right _ _ (by omega), hP, Nat.sub_self]
   show _ = _ ++ (ints _ :: _)
   rw [List.map_cons, List.map_nil, ptC, if_neg H2.out.2]
   rfl
  dsimp only at e
  rw [hc] at e
  have hc2 : (P.map ptC ++ V.v (Value.slice none 0 0) :: List.replicate m (V.v (Value.slice none 0 0))) = (P.map ptC ++ List.replicate ((zay c x).1.length - k) (.v (.slice none 0 0))) := by rw [hm, List.replicate_succ]
  rw [hc2]
  simp only [zaf, zcg, setS, np, ↓reduceIte] at e ⊢
  by_cases hb : bs = b
  ·subst hb; simp only [np', n4', ↓reduceIte] at e ⊢; exact e
  ·simp only [hb, ↓reduceIte] at e ⊢; exact e
 ·rename_i e1 e2
  obtain ⟨h1, h2, h3⟩ := H.out
  have hk : k < (zay c x).1.length := by omega
  obtain ⟨m, hm⟩ : ∃ m, (zay c x).1.length - k = m + 1 := ⟨(zay c x).1.length - k - 1, by omega⟩
  rw [hm, ptsG, if_neg (by omega)] at h1
  refine DS.back (hB (k + 1, zae x1, P ++ [[]]) _ _ (by dsimp only; omega) ⟨by dsimp only; omega, by simp; omega, by dsimp only; rw [show (zay c x).1.length - (k + 1) = m by omega]; exact h1⟩ yS yS (fun b o e => ?_))
  have hc : (P ++ [[]]).map ptC ++ List.replicate ((zay c x).1.length - (k + 1)) (.v (.slice none 0 0)) = P.map ptC ++ List.replicate ((zay c x).1.length - k) (.v (.slice none 0 0)) := by
   rw [hm, show (zay c x).1.length - (k + 1) = m by omega, List.replicate_succ, List.map_append, List.append_assoc]; rfl
  dsimp only at e
  rw [hc] at e
  simp only [zaf, zcg] at e ⊢
  by_cases hb : bs = b
  ·subst hb; simp only [np', n4', ↓reduceIte] at e ⊢; exact e
  ·simp only [hb, ↓reduceIte] at e ⊢; exact e
 ·rename_i e1
  obtain ⟨h1, h2, h3⟩ := H.out
  have hk : k = (zay c x).1.length := by omega
  rw [hk, Nat.sub_self, ptsG] at h1
  refine yrh [(bp, .cells ((zcn c x).1.map ptC) 22), (bs, srcO (zcn c x).2)] yH yH yH yH (fun b o e => ?_) ⟨bp, np', rfl, rfl⟩
  rw [h1] at e
  rw [hk, Nat.sub_self, List.replicate_zero, List.append_nil]
  simp only [setS, np4', n4, ↓reduceIte]
  simp only [zaf, zcg] at e ⊢
  by_cases hb : bp = b
  ·subst hb; simp only [↓reduceIte] at e ⊢; exact e
  ·by_cases hb2 : bs = b
   ·subst hb2; simp only [hb, ↓reduceIte] at e ⊢; exact e
   ·simp only [hb, hb2, ↓reduceIte] at e; cases e
end Go.XL
namespace Go.XL
open Go.Proofs
set_option maxRecDepth 100000
set_option maxHeartbeats 8000000
theorem yms (bs : Nat) (x : Int) (c : Club) (hs : c.Small) (hsz : 3 ≤ c.size ∧ c.size ≤ 4) (hst : 0 ≤ c.start ∧ c.start ≤ 1000000) :
  DC Tryz.prog 87 [ptr bs, c.val] [(bs, srcO x)] (ztl bs x c) := by
 have q1 := hs.members
 have q2 := hs.rounds
 have hzB : Box (∃ z : Nat, c.size = z) := ⟨⟨c.size.toNat, by omega⟩⟩
 have hpl : (zck c c.rounds.length).length ≤ 1000000 := by
  unfold zck
  repeat' split
  all_goals first | (simp; done) | skip
  rw [zer, List.length_map]
  exact Nat.le_trans (List.length_filter_le _ _) q1
 have hid := (zgr c.size x (zck c c.rounds.length)).length_le
 have htl := znv c x
 have hmu := ybn bs x (zck c c.rounds.length) c.size hsz hpl
 have hto := yay bs (zdt c.size x (zck c c.rounds.length)).2 (zdt c.size x (zck c c.rounds.length)).1 c.size hsz (by omega)
 have hbe := zei bs (zeq c.size (zdt c.size x (zck c c.rounds.length)).2 (zdt c.size x (zck c c.rounds.length)).1).2 3 (by omega)
 have hne := yng c hs (zdt c.size x (zck c c.rounds.length)).1 (by omega)
 refine DC.of_runC Tryz.func87 rfl Tryz.ntmps87 Tryz.results87 (by simp) rfl (fun _ => ?_); simp only [zaq, zau, go_sem, Nat.zero_add, Nat.reduceAdd]
 repeat' (first | (with_reducible first | refine DS.seq ?_ | refine zaa ?_) | (refine zcz (t := 3) yU yE yU ?_; simp only [zbp, zct, zbn, zce, zbm, zbj, zbx, zbl, zcv, zcr, zca, zcq, zcd, zcc]) | fail)
 refine zex yR yU yU (fun b4 h4 => ?_)
 have n4 : ¬ bs = b4 := fun e => by rw [zaf, if_pos e] at h4; cases h4
 have n4' : ¬ b4 = bs := fun e => n4 e.symm
 clear h4
 have hz4 : (List.map V.v (Value.agg #[.slice none 0 0, .slice none 0 0, .slice none 0 0]).cells.toList) = [.v (.slice none 0 0), .v (.slice none 0 0), .v (.slice none 0 0)] := rfl
 repeat' (first | (with_reducible first | refine zac yU yU yE ?_ | refine zab ?_ | refine DS.seq ?_ | refine zaa ?_ | (refine zbc yE ?_; first | refine zeo (fun _ => ?_) (fun _ => ?_) | refine zdk ?_) | (refine zdz yU yE ?_; first | refine zow (fun _ => ?_) (fun _ => ?_) | refine GG.run ?_ | refine zfx ?_) | refine DS.skip ?_) | (refine zfe inferInstance (hmu) yR yF yF ?_; (try simp only [zbk, zbw, ↓reduceIte, *])) | (refine zfe inferInstance (hto) yR yF yF ?_; (try simp only [zbk, zbw, ↓reduceIte, *])) | (refine zfe inferInstance (hbe) yR yF yF ?_; (try simp only [zbk, zbw, ↓reduceIte, *])) | refine zcb inferInstance (hne) yR yF ?_ | refine zbz (id := 1) [0, 1, 2, 3, 4, 5, 6, 7] 8 (by kernel_rfl) zdq (by simp only [zba, zbd, zbe, zbf, zaz]; exact rfl) (by simp only [zaw, zax, List.drop_nil]; exact rfl) ?_ | (with_reducible first | refine zbv yU yU yU yE ?_ | refine zdb ?_) | refine yaq inferInstance (ybi c hs _) yU yF ?_; simp only [zci, zcs, Nat.reduceEqDiff, ↓reduceIte] | fail)
 ·rename_i e1 e2 e3
  have hT : zay c x = ((zjt c (zdt c.size x (zck c c.rounds.length)).1).1, zae (zeq c.size (zdt c.size x (zck c c.rounds.length)).2 (zdt c.size x (zck c c.rounds.length)).1).2) := by
   rw [zay, zdp, if_pos (by omega), if_pos ⟨e2, e3⟩]
  refine zdy (E' := [(42, rows (zay c x).1), (44, I ((zay c x).1.length : Int)), (6, rows (zay c x).1), (0, ptr bs), (3, .plc c.cells), (4, ptr b4)]) (S' := [(bs, srcO (zay c x).2), (b4, .cells [.v (.slice none 0 0), .v (.slice none 0 0), .v (.slice none 0 0)] 61)]) (zel (by rw [hT]; simp (disch := omega) only [go_sem, ↓reduceIte, Nat.reduceEqDiff, zew, zfl, and_self, ints, rows])) (fun b o e => by rw [hT] at e; exact e) ?_
  exact zlz bs b4 x c hzB hsz hst (by omega) n4 n4' yR yR yR
 ·rename_i e1 e2 e3
  have hT : zay c x = ((zeq c.size (zdt c.size x (zck c c.rounds.length)).2 (zdt c.size x (zck c c.rounds.length)).1).1, zae (zeq c.size (zdt c.size x (zck c c.rounds.length)).2 (zdt c.size x (zck c c.rounds.length)).1).2) := by
   rw [zay, zdp, if_pos (by omega), if_neg (fun h => e3 h.2)]
  refine zdy (E' := [(42, rows (zay c x).1), (44, I ((zay c x).1.length : Int)), (6, rows (zay c x).1), (0, ptr bs), (3, .plc c.cells), (4, ptr b4)]) (S' := [(bs, srcO (zay c x).2), (b4, .cells [.v (.slice none 0 0), .v (.slice none 0 0), .v (.slice none 0 0)] 61)]) (zel (by rw [hT]; simp (disch := omega) only [go_sem, ↓reduceIte, Nat.reduceEqDiff, zew, zfl, and_self, ints, rows])) (fun b o e => by rw [hT] at e; exact e) ?_
  exact zlz bs b4 x c hzB hsz hst (by omega) n4 n4' yR yR yR
 ·rename_i e1 e2
  have hT : zay c x = ((zeq c.size (zdt c.size x (zck c c.rounds.length)).2 (zdt c.size x (zck c c.rounds.length)).1).1, zae (zeq c.size (zdt c.size x (zck c c.rounds.length)).2 (zdt c.size x (zck c c.rounds.length)).1).2) := by
   rw [zay, zdp, if_pos (by omega), if_neg (fun h => e2 h.1)]
  refine zdy (E' := [(42, rows (zay c x).1), (44, I ((zay c x).1.length : Int)), (6, rows (zay c x).1), (0, ptr bs), (3, .plc c.cells), (4, ptr b4)]) (S' := [(bs, srcO (zay c x).2), (b4, .cells [.v (.slice none 0 0), .v (.slice none 0 0), .v (.slice none 0 0)] 61)]) (zel (by rw [hT]; simp (disch := omega) only [go_sem, ↓reduceIte, Nat.reduceEqDiff, zew, zfl, and_self, ints, rows])) (fun b o e => by rw [hT] at e; exact e) ?_
  exact zlz bs b4 x c hzB hsz hst (by omega) n4 n4' yR yR yR
 ·rename_i e1
  have hT : zay c x = zeq c.size (zdt c.size x (zck c c.rounds.length)).2 (zdt c.size x (zck c c.rounds.length)).1 := by
   rw [zay, zdp, if_neg (by omega)]
  refine zdy (E' := [(42, rows (zay c x).1), (44, I ((zay c x).1.length : Int)), (6, rows (zay c x).1), (0, ptr bs), (3, .plc c.cells), (4, ptr b4)]) (S' := [(bs, srcO (zay c x).2), (b4, .cells [.v (.slice none 0 0), .v (.slice none 0 0), .v (.slice none 0 0)] 61)]) (zel (by rw [hT]; simp (disch := omega) only [go_sem, ↓reduceIte, Nat.reduceEqDiff, zew, zfl, and_self, ints, rows])) (fun b o e => by rw [hT] at e; exact e) ?_
  exact zlz bs b4 x c hzB hsz hst (by omega) n4 n4' yR yR yR
end Go.XL
namespace Go.XL
def zds (n : Int) : Nat → Int → Int → List Int → Int → List Int × Int × Int
 | 0, _, x, out, sum => (out, sum, x)
 | k + 1, i, x, out, sum => zds n k (i + 1) (zae x) (out ++ [n.tdiv (i + 1) - zaj x 9]) (sum + (n.tdiv (i + 1) - zaj x 9))
def zic (x : Int) : Int × Int := if zqc x 4 = true then (zaj (zae x) 21 - 10, zae (zae x)) else (0, zae x)
def zkv (x : Int) : (Int × Int) × Int := if zqc x 9 = true then ((zaj (zae x) 3, zaj (zae x) 3 + zaj (zae (zae x)) 2), zae (zae (zae x))) else ((0, -1), zae x)
def zdd : Nat → Int → Int → List Member → List Member × Int
 | 0, _, x, out => (out, x)
 | k + 1, id, x, out => zdd k (id + zcw x 1 3) (zkv (zic (zae x)).2).2 (out ++ [⟨id + zcw x 1 3, (zic (zae x)).1, (zkv (zic (zae x)).2).1.1, (zkv (zic (zae x)).2).1.2⟩])
def rulG (size start round : Int) : List (List Int) → Int → Int → List Ruling → List Ruling × Int
 | [], _, x, R => (R, x)
 | p :: r, t, x, R =>
  if 0 < (p.length : Int) then
   if zqc x 3 = true then rulG size start round r (t + 1) (zfv size start (zae x)).2 (R ++ [⟨round, t, (zfv size start (zae x)).1⟩])
   else rulG size start round r (t + 1) (zae x) R
  else rulG size start round r (t + 1) x R
def zjj (window x : Int) (n : Nat) : Int := max 0 ((n : Int) - 1 - zaj x (window + 1))
def rulK (size start window : Int) (ps : List (List (List Int))) : Nat → Int → List Ruling → List Ruling × Int
 | 0, x, R => (R, x)
 | k + 1, x, R => rulK size start window ps k (rulG size start (zjj window x ps.length) (ps.getD (zjj window x ps.length).toNat []) 0 (zae x) R).2 (rulG size start (zjj window x ps.length) (ps.getD (zjj window x ps.length).toNat []) 0 (zae x) R).1
def zcu (c : Club) (R : List Sitting) : Club := { c with rounds := R }
def zhn (c : Club) (x : Int) (R : List Sitting) : List Ruling × Int :=
 rulK c.size c.start c.window (R.map Sitting.points ++ [(zcn (zcu c R) x).1]) (zaj (zcn (zcu c R) x).2 3).toNat (zae (zcn (zcu c R) x).2) []
def zez (c : Club) : Nat → Int → List Sitting → List Sitting × Int
 | 0, x, R => (R, x)
 | i + 1, x, R => zez c i (zhn c x R).2 (R ++ [⟨(zay (zcu c R) x).1, (zcn (zcu c R) x).1, (zhn c x R).1⟩])
def zgc (x : Int) : Int := if zqc (zae (zae (zae (zae x)))) 4 = true then 4 else 3
def x5 (x : Int) : Int := zae (zae (zae (zae (zae x))))
def zdj (x : Int) : List Int × Int :=
 let n := zaj (x5 x) 5 * 10
 let a := n + zaj (zae (x5 x)) 2
 let q := zds n (zgc x - 2).toNat 1 (zae (zae (x5 x))) [a] a
 (q.1 ++ [-q.2.1], q.2.2)
def zfo (x : Int) : List Member × Int :=
 zdd (zgc x * zcw (zdj x).2 1 3 + zaj (zae (zdj x).2) 2).toNat 0 (zae (zae (zdj x).2)) []
def zhy (x : Int) : Club := ⟨zgc x, zaj x 4 * 100, zaj (zae x) 5 * 10 - 30, zaj (zae (zae x)) 3, (zdj x).1, zqc (zae (zae (zae x))) 2, (zfo x).1, []⟩
def zen (x most : Int) : Club × Int :=
 let q := zez (zhy x) (zaj (zfo x).2 (most + 1)).toNat (zae (zfo x).2) []
 (zcu (zhy x) q.1, q.2)
end Go.XL
namespace Go.XL
open Go.Proofs
set_option maxRecDepth 100000
set_option maxHeartbeats 8000000
def forC (id : Nat) : Code → Option (Code × Code × Code)
 | .seq a b => match forC id a with
  | some x => some x
  | none => match a with
   | .seq a1 a2 => if ysk id a1 then some (a1, a2, b) else forC id b
   | _ => forC id b
 | .rangeFunc _ _ a b => match forC id a with | some x => some x | none => forC id b
 | .cond _ a b => match forC id a with | some x => some x | none => forC id b
 | .block _ c => forC id c
 | .loop c => forC id c
 | .scope c => forC id c
 | _ => none
theorem zmm {P : Program} {n : Nat} {r : Rr} {Q : VEnv → Sto → Prop} {k : List Fr} {E : VEnv} {S : Sto} {id : Nat} {os l1 l2 : List Oper} {bs : Nat} {x : Int} (hS : zad S bs = some (srcO x)) (ord : List Nat) (m : Nat) (hok : zom os.toArray ord m = true) (hm : P.follows .mixedOrders = true) (h1 : zpg os ord = l1) (h2 : os.drop m = l2)
  (q : DD P n r Q os (delS bs S) [] l1 (.ops os l2 :: k) E E [(bs, srcO x)]) : DS P n r Q (.code (.region id os.toArray true) :: k) E S :=
 zhw (delS bs S) [(bs, srcO x)] ord m hok hm h1 h2 (zuk hS).2 (zuk hS).1 q
abbrev zfy : List V := [I 0, I 0, I 0, I 0, .v (.slice none 0 0), Bo false, .v (.slice none 0 0), .v (.slice none 0 0)]
abbrev zgu (sz st ab wi : Int) (P : List Int) (sh : Bool) (m r : V) : List V := [I sz, I st, I ab, I wi, .own false 3 1 (P.map cI), Bo sh, m, r]
end Go.XL
namespace Go.XL
open Go.Proofs
set_option maxRecDepth 100000
set_option maxHeartbeats 8000000
def LR (R : List Sitting) (T P : List (List Int)) (c : V) (j : List V) : List V := (R.map Sitting.cells).flatten ++ ([rows T, rows P, c] ++ j)
theorem zhk (R : List Sitting) : (R.map Sitting.cells).flatten.length = R.length * 3 := by
 rw [zhg (sz := 3) (fun c hc => by obtain ⟨s, _, rfl⟩ := List.mem_map.1 hc; rfl), List.length_map]
theorem yss (R : List Sitting) (T P : List (List Int)) (c : V) (j : List V) : (LR R T P c j).length = R.length * 3 + 3 + j.length := by
 rw [LR, List.length_append, zhk]; simp; omega
theorem ylu (R : List Sitting) (T P : List (List Int)) (c : V) (j : List V) {o : Nat} (h : o = R.length * 3 + 2) : (LR R T P c j)[o]? = some c := by
 subst h
 rw [LR, List.getElem?_append_right (by rw [zhk]; omega), zhk, show R.length * 3 + 2 - R.length * 3 = 2 by omega]; rfl
theorem zya : ∀ (R : List Sitting) (r : Nat) (h : r < R.length), (R.map Sitting.cells).flatten[r * 3 + 1]? = some (rows R[r].points)
 | s :: R, 0, h => rfl
 | s :: R, r + 1, h => by
  have := zya R r (by simpa using h)
  rw [List.map_cons, List.flatten_cons, List.getElem?_append_right (by simp only [Sitting.cells, List.length_cons, List.length_nil]; omega)]
  simp only [Sitting.cells, List.length_cons, List.length_nil, List.getElem_cons_succ]
  rw [show (r + 1) * 3 + 1 - (0 + 1 + 1 + 1) = r * 3 + 1 by omega]
  exact this
theorem yre (R : List Sitting) (T P : List (List Int)) (c : V) (j : List V) {o r : Nat} (hr : r ≤ R.length) (h : o = r * 3 + 1) : (LR R T P c j)[o]? = some (rows ((R.map Sitting.points ++ [P]).getD r [])) := by
 subst h
 by_cases hl : r < R.length
 ·rw [LR, List.getElem?_append_left (by rw [zhk]; omega), zya R r hl]
  rw [List.getD_eq_getElem?_getD, List.getElem?_append_left (by simpa using hl), List.getElem?_map, List.getElem?_eq_getElem hl]; rfl
 ·obtain rfl : r = R.length := by omega
  rw [LR, List.getElem?_append_right (by rw [zhk]; omega), zhk, show R.length * 3 + 1 - R.length * 3 = 1 by omega]
  show some (rows P) = _
  rw [List.getD_eq_getElem?_getD, List.getElem?_append_right (by simp), List.length_map, Nat.sub_self]; rfl
theorem ylt (R : List Sitting) (T P : List (List Int)) (c d : V) (j : List V) {o : Nat} (h : o = R.length * 3 + 2) : (LR R T P c j).set o d = LR R T P d j := by
 subst h
 rw [LR, List.set_append_right _ _ (by rw [zhk]; omega), zhk, show R.length * 3 + 2 - R.length * 3 = 2 by omega]; rfl
def SR (T : Nat) (g : GR) : Sto := match g with | ⟨_, none⟩ => [] | ⟨l, some (b, _, j)⟩ => [(b, .cells (l.flatten ++ j) T)]
theorem ymq (wi x : Int) (n : Nat) (h : 1 ≤ n) : 0 ≤ zjj wi x n ∧ zjj wi x n < n := by
 have := zbs x (wi + 1)
 unfold zjj; omega
def NB (bs b4 b5 b : Nat) (g : GR) : Prop := ∀ b' cap j, g.blk = some (b', cap, j) → b' ≠ bs ∧ b' ≠ b4 ∧ b' ≠ b5 ∧ b' ≠ b
theorem NB.del {bs b4 b5 b : Nat} {g : GR} (h : NB bs b4 b5 b g) (T : Nat) : delS bs (SR T g) = SR T g := by
 obtain ⟨l, blk⟩ := g
 cases blk with
 | none => rfl
 | some x =>
  obtain ⟨b', cap, j⟩ := x
  simp only [SR, delS, (h b' cap j rfl).1, ↓reduceIte]
theorem NB.look {bs b4 b5 b : Nat} {g : GR} (h : NB bs b4 b5 b g) (T c : Nat) (hc : c = bs ∨ c = b4 ∨ c = b5 ∨ c = b) : zad (SR T g) c = none := by
 obtain ⟨l, blk⟩ := g
 cases blk with
 | none => rfl
 | some x =>
  obtain ⟨b', cap, j⟩ := x
  have := h b' cap j rfl
  simp only [SR, zad]
  rw [if_neg]
  rintro rfl
  omega
structure RulI (bs b4 b5 b : Nat) (Rul : List Ruling) (g : GR) : Prop where
 l : g.l = Rul.map Ruling.cells
 ok : g.Ok 65 3 (SR 65 g)
 nb : NB bs b4 b5 b g
theorem yX31 {p : Prop} (h : p := by (simp (disch := omega) only [go_sem, dopV, Option.map_some, Option.map_none, Option.bind_some, Option.bind_none, ↓reduceIte, Nat.reduceEqDiff, Nat.reduceLT, Nat.reduceLeDiff, Nat.reduceAdd, Nat.reduceMul, Nat.reduceSub, Nat.zero_add, Nat.add_zero, Nat.zero_le, Nat.zero_mul, Nat.mul_one, Nat.one_mul, Int.natCast_zero, Int.toNat_zero, Int.reduceToNat, Int.reduceLT, Int.reduceLE, Int.reduceEq, decide_true, decide_false, true_and, and_true, Bool.and_self, Bool.and_true, Bool.true_and, Bool.not_true, Bool.not_false, IntWalk.toNatUp, IntWalk.iteOmega, IntWalk.i64_in, Option.isSome_some, not_true_eq_false, not_false_eq_true, Option.getD_some, Option.getD_none, Int.toNat_natCast, List.length_map, List.getElem?_map, List.getElem?_eq_getElem, V.flat, V.one, List.all_cons, List.all_nil, *, GR.cell_copy, Value.oneCell']; exact rfl)) : p := h
theorem yX32 {p : Prop} (h : p := by (simp (disch := omega) only [go_sem, dopV, Option.map_some, Option.map_none, Option.bind_some, Option.bind_none, ↓reduceIte, Nat.reduceEqDiff, Nat.reduceLT, Nat.reduceLeDiff, Nat.reduceAdd, Nat.reduceMul, Nat.reduceSub, Nat.zero_add, Nat.add_zero, Nat.zero_le, Nat.zero_mul, Nat.mul_one, Nat.one_mul, Int.natCast_zero, Int.toNat_zero, Int.reduceToNat, Int.reduceLT, Int.reduceLE, Int.reduceEq, decide_true, decide_false, true_and, and_true, Bool.and_self, Bool.and_true, Bool.true_and, Bool.not_true, Bool.not_false, IntWalk.toNatUp, IntWalk.iteOmega, IntWalk.i64_in, Option.isSome_some, not_true_eq_false, not_false_eq_true, Option.getD_some, Option.getD_none, Int.toNat_natCast, List.length_map, List.getElem?_map, List.getElem?_eq_getElem, V.flat, V.one, List.all_cons, List.all_nil, *, GR.cell_copy, Value.oneCell']; try exact rfl)) : p := h
theorem yol (bs b4 b5 b cap : Nat) (x sz st ab wi i : Int) (sh : Bool) (PL : List Int) (M : List Member) (R : List Sitting) (T P : List (List Int)) (j : List V) (hszB : Box (∃ z : Nat, sz = z)) (hsz : 3 ≤ sz ∧ sz ≤ 4) (hst : 0 ≤ st ∧ st ≤ 1000000) (hwi : 0 ≤ wi ∧ wi ≤ 2) (hnb : R.length ≤ 1000) (hps : ∀ r, ((R.map Sitting.points ++ [P]).getD r []).length ≤ 1000)
  (n4 : ¬ bs = b4) (n4' : ¬ b4 = bs) (n5 : ¬ bs = b5) (n5' : ¬ b5 = bs) (m5 : ¬ b4 = b5) (m5' : ¬ b5 = b4) (q1 : ¬ bs = b) (q1' : ¬ b = bs) (q2 : ¬ b4 = b) (q2' : ¬ b = b4) (q3 : ¬ b5 = b) (q3' : ¬ b = b5) {v0 : VH} {Q : VEnv → Sto → Prop} {fr : List Fr} {cd : Code} {os l : List Oper}
  (h4 : Tryz.f40.body.bind (regC 30) = some os) (h5 : os.drop 1 = l) (h3 : Tryz.f40.body.bind (zkc 30) = some cd)
  (q : ∀ g, RulI bs b4 b5 b (rulK sz st wi (R.map Sitting.points ++ [P]) (zaj x 3).toNat (zae x) []).1 g → DS Tryz.prog 207 ⟨none, v0⟩ Q fr [(13, I i), (0, ptr bs), (4, ptr b4), (5, ptr b5)]
   ((bs, srcO (rulK sz st wi (R.map Sitting.points ++ [P]) (zaj x 3).toNat (zae x) []).2) :: (b5, .cells (zgu sz st ab wi PL sh (.own false 47 4 (M.map Member.cells)) (.v (.slice (some ⟨b, 0, none⟩) (R.length + 1) cap))) 26) :: (b4, .cells zfy 26) :: (b, .cells (LR R T P g.cell j) 61) :: SR 65 g)) :
  DS Tryz.prog 207 ⟨none, v0⟩ Q (.ops os l :: .code cd :: fr)
   [(138, ptr bs), (13, I i), (0, ptr bs), (4, ptr b4), (5, ptr b5)] [(bs, srcO x), (b5, .cells (zgu sz st ab wi PL sh (.own false 47 4 (M.map Member.cells)) (.v (.slice (some ⟨b, 0, none⟩) (R.length + 1) cap))) 26), (b4, .cells zfy 26), (b, .cells (LR R T P (.v (.slice none 0 0)) j) 61)] := by
 obtain rfl := Option.some.inj ((show Tryz.f40.body.bind (zkc 30) = some _ from rfl).symm.trans h3)
 obtain rfl := Option.some.inj ((show Tryz.f40.body.bind (regC 30) = some _ from rfl).symm.trans h4)
 subst h5
 clear h4
 clear h3
 simp only [zaw, zax]
 have k1 := zbs x 3
 repeat' (first | (with_reducible first | refine zac yU yU yE ?_ | refine zab ?_ | refine DS.block ?_) | (refine zfe inferInstance (zei bs x 3 (by omega)) yR yT yT ?_; (try simp only [zbk, zbw, ↓reduceIte, *])) | fail)
 obtain ⟨N, hN⟩ : ∃ N : Nat, (N : Int) = zaj x 3 := ⟨(zaj x 3).toNat, by omega⟩
 have hNN : (zaj x 3).toNat = N := by omega
 rw [hNN] at q
 refine zco [0, 4, 5, 13] yN (fun (y : Nat × Int × Int × List Ruling × GR) => [(15, I y.2.1)]) (fun (y : Nat × Int × Int × List Ruling × GR) => (bs, srcO y.2.2.1) :: (b5, .cells (zgu sz st ab wi PL sh (.own false 47 4 (M.map Member.cells)) (.v (.slice (some ⟨b, 0, none⟩) (R.length + 1) cap))) 26) :: (b4, .cells zfy 26) :: (b, .cells (LR R T P y.2.2.2.2.cell j) 61) :: SR 65 y.2.2.2.2) (fun (y : Nat × Int × Int × List Ruling × GR) => (y.2.1 ≤ y.1 ∧ (y.1 : Int) ≤ y.2.1) ∧ y.2.2.2.1.length + 1000 * y.1 ≤ 2000 ∧ RulI bs b4 b5 b y.2.2.2.1 y.2.2.2.2 ∧ rulK sz st wi (R.map Sitting.points ++ [P]) N (zae x) [] = rulK sz st wi (R.map Sitting.points ++ [P]) y.1 y.2.2.1 y.2.2.2.1) (fun (y : Nat × Int × Int × List Ruling × GR) => y.1) (N, zaj x 3, zae x, [], ⟨[], none⟩) yS (fun b o e => by exact e) ⟨by dsimp only; omega, by dsimp only [List.length_nil]; omega, ⟨rfl, rfl, fun _ _ _ e => by cases e⟩, rfl⟩ (fun y B hI hB => ?_); try dsimp only at hI hB; simp only [zas, zav]
 obtain ⟨k, cnt, x1, Rul, g⟩ := y
 dsimp only at hI hB ⊢
 obtain ⟨g1, g2, g3, g4⟩ := hI
 have H := Box.mk (And.intro g3 (And.intro g4 (And.intro q hN)))
 clear g4 q hN hNN
 have hdel := g3.nb.del 65
 clear g3
 have k2 := zbs x1 (wi + 1)
 have hB3 := hB
 clear hB
 repeat' (first | (with_reducible first | refine zac yU yU yE ?_ | refine zab ?_ | refine DS.seq ?_ | refine zaa ?_ | (refine zbc yE ?_; refine zeo (fun _ => ?_) (fun _ => ?_)) | refine DS.block ?_ | refine DS.exit yU ?_ | refine DS.skip ?_) | fail)
 ·rename_i e0
  (refine zmm (id := 33) (bs := bs) (x := x1) (by simp only [zaf, zcg, ↓reduceIte, *]) [0, 1, 2, 3, 4, 5, 6, 7, 8] 9 (by kernel_rfl) zdq (by simp only [zba, zbd, zbe, zbf, zaz]; exact rfl) (by simp only [zaw, zax, List.drop_nil]; exact rfl) ?_; simp only [zbk, zbw, ↓reduceIte, *])
  repeat' (first | (with_reducible first | refine zac yU yU yE ?_ | refine zab ?_ | refine DS.seq ?_ | refine zaa ?_ | refine DS.block ?_ | refine zbv yU yU yU yE ?_) | (with_reducible refine DD.nil ?_; simp only [zas, zav]) | (refine zoy inferInstance (zei bs x1 (wi + 1) (by omega)) yU yT yT ?_; simp only [zci, zcs, Nat.reduceEqDiff, ↓reduceIte]; (try simp only [zbk, zbw, ↓reduceIte, *])) | fail)
  have hrb := ymq wi x1 (R.length + 1) (by omega)
  obtain ⟨rd, hrd⟩ : ∃ rd : Nat, (rd : Int) = zjj wi x1 (R.length + 1) := ⟨(zjj wi x1 (R.length + 1)).toNat, by omega⟩
  have hrl : rd ≤ R.length := by omega
  have hif : (if ((R.length + 1 : Nat) : Int) - 1 - zaj x1 (wi + 1) > 0 then ((R.length + 1 : Nat) : Int) - 1 - zaj x1 (wi + 1) else 0) = (rd : Int) := by
   rw [hrd]; unfold zjj; split <;> omega
  simp only [hif]
  clear hif
  have Hr := Box.mk hrd
  clear hrd hrb
  obtain ⟨ps, hpsE⟩ : ∃ ps, ps = (R.map Sitting.points ++ [P]).getD rd [] := ⟨_, rfl⟩
  have hpl := hps rd
  rw [← hpsE] at hpl
  have Hp := Box.mk hpsE
  clear hpsE
  refine zco [0, 4, 5, 13, 15, 16] yN (fun (z : Nat × Int × List Ruling × GR) => [(17, I z.1)]) (fun (z : Nat × Int × List Ruling × GR) => (bs, srcO z.2.1) :: (b5, .cells (zgu sz st ab wi PL sh (.own false 47 4 (M.map Member.cells)) (.v (.slice (some ⟨b, 0, none⟩) (R.length + 1) cap))) 26) :: (b4, .cells zfy 26) :: (b, .cells (LR R T P z.2.2.2.cell j) 61) :: SR 65 z.2.2.2) (fun (z : Nat × Int × List Ruling × GR) => z.1 ≤ ps.length ∧ z.2.2.1.length + (ps.length - z.1) + 1000 * (k - 1) ≤ 2000 ∧ RulI bs b4 b5 b z.2.2.1 z.2.2.2 ∧ rulG sz st rd ps 0 (zae x1) Rul = rulG sz st rd (ps.drop z.1) z.1 z.2.1 z.2.2.1) (fun (z : Nat × Int × List Ruling × GR) => ps.length - z.1) (0, zae x1, Rul, g) yS (fun b o e => by exact e) ⟨Nat.zero_le _, by dsimp only; omega, H.out.1, rfl⟩ (fun z B hI hB => ?_); try dsimp only at hI hB; simp only [zas, zav]
  obtain ⟨u, x2, Rul2, g'⟩ := z
  dsimp only at hI hB ⊢
  obtain ⟨i1, i2, i3, i4⟩ := hI
  have H2 := Box.mk (And.intro i3 i4)
  clear i4
  have hdel2 := i3.nb.del 65
  clear i3
  have hc1 : (LR R T P g'.cell j)[rd * 3 + 1]? = some (rows ps) := by rw [Hp.out]; exact yre R T P g'.cell j hrl rfl
  repeat' (first | (with_reducible first | refine zac yU yU yE ?_ | refine zab ?_ | refine DS.seq ?_ | refine zaa ?_ | (refine zbc yE ?_; first | refine zeo (fun _ => ?_) (fun _ => ?_) | refine zdk ?_ | refine yfg (fun _ => ?_) (fun _ => ?_)) | (refine zdz yU yE ?_; first | refine zow (fun _ => ?_) (fun _ => ?_) | refine GG.run ?_ | refine zfx ?_) | refine DS.blk ?_ | refine DS.block ?_ | refine DS.exit yU ?_ | refine DS.skip ?_) | (refine zfe inferInstance (zmz bs x2 3 (by omega)) yR yT yT ?_; (try simp only [zbk, zbw, ↓reduceIte, *])) | fail)
  ·rename_i e1 e2 e3
   have hu : u < ps.length := by omega
   simp only [Nat.add_sub_cancel]
   have hc2 : (LR R T P g'.cell j)[R.length * 3 + 2]? = some g'.cell := ylu R T P g'.cell j rfl
   have he : SC Tryz.prog 88 [ptr bs, I sz, I st] bs (zae x2) (ints (zfv sz st (zae x2)).1) (zfv sz st (zae x2)).2 := by
    obtain ⟨z, hz⟩ := hszB.out
    rw [hz]; exact ykn bs (zae x2) z st (by omega) (by omega)
   refine zhw (id := 39) ([(b5, .cells (zgu sz st ab wi PL sh (.own false 47 4 (M.map Member.cells)) (.v (.slice (some ⟨b, 0, none⟩) (R.length + 1) cap))) 26), (b4, .cells zfy 26), (b, .cells (LR R T P g'.cell j) 61)]) ((bs, srcO (zae x2)) :: SR 65 g') [0, 1, 2, 3, 4, 5, 6, 7, 8, 9, 10, 11, 12, 13, 14, 15] 16 (by kernel_rfl) zdq (by simp only [zba, zbd, zbe, zbf, zaz]; exact rfl) (by simp only [zaw, zax, List.drop_nil]; exact rfl) ((fun d o e => by
    have hb : ¬ bs = d := fun h => by subst h; simp only [zaf, zcg, n5', n4', q1', ↓reduceIte] at e; cases e
    have hl : d = b5 ∨ d = b4 ∨ d = b := by
     simp only [zaf, zcg] at e
     split at e
     ·rename_i h; exact .inl h.symm
     split at e
     ·rename_i h; exact .inr (.inl h.symm)
     split at e
     ·rename_i h; exact .inr (.inr h.symm)
     ·cases e
    have hn := H2.out.1.nb.look 65 d (by omega)
    refine ⟨?_, by simp only [zaf, hb, ↓reduceIte]; exact hn⟩
    simp only [zaf, zcg, hb, ↓reduceIte] at e ⊢
    by_cases a1 : b5 = d
    ·rw [if_pos a1] at e ⊢; exact e
    rw [if_neg a1] at e ⊢
    by_cases a2 : b4 = d
    ·rw [if_pos a2] at e ⊢; exact e
    rw [if_neg a2] at e ⊢
    by_cases a3 : b = d
    ·rw [if_pos a3] at e ⊢; exact e
    ·rw [if_neg a3] at e; cases e)) ((fun d o e => by
    simp only [zaf] at e ⊢
    by_cases a0 : bs = d
    ·rw [if_pos a0] at e ⊢; exact e
    ·rw [if_neg a0] at e ⊢
     rw [if_neg (fun h => by subst h; rw [H2.out.1.nb.look _ _ (.inr (.inr (.inl rfl)))] at e; cases e), if_neg (fun h => by subst h; rw [H2.out.1.nb.look _ _ (.inr (.inl rfl))] at e; cases e), if_neg (fun h => by subst h; rw [H2.out.1.nb.look _ _ (.inr (.inr (.inr rfl)))] at e; cases e)]
     exact e)) ?_
   repeat' (first | (with_reducible first | refine zbv yU yU yU yX31 ?_ | refine zjh yU yU yU yU yX31 ?_) | (refine zoy inferInstance (he) yU yX32 yX32 ?_; simp only [zci, zcs, Nat.reduceEqDiff, ↓reduceIte]; (try simp only [zbk, zbw, ↓reduceIte, *])) | (refine zhz yU yX31 yX31 ?_; simp only [go_sem, Nat.zero_add, Nat.reduceAdd]; simp only [zci, zcs, Nat.reduceEqDiff, ↓reduceIte]) | fail)
   have hOk : g'.Ok 65 3 ((bs, srcO (zfv sz st (zae x2)).2) :: SR 65 g') := H2.out.1.ok.of fun d cap' jj h => by
    rw [zaf, if_neg (fun h' => (H2.out.1.nb d cap' jj h).1 h'.symm)]
   have hgl : g'.l.length = Rul2.length := by rw [H2.out.1.l, List.length_map]
   refine zxm rfl rfl rfl yR (zmi (g := g') (ml := [Ruling.cells ⟨rd, u, (zfv sz st (zae x2)).1⟩]) rfl yH yH yR yR (by decide) yH hOk yH yH (by exact Nat.zero_lt_succ _) (by intro c hc; obtain rfl := List.mem_singleton.1 hc; rfl) ⟨by rw [hgl, List.length_singleton]; omega, by decide⟩) (fun u2 E' S4 hu2 hdis => ?_)
   obtain ⟨rfl, b', cap', junk', rfl, m1, m2, m3⟩ := hu2
   have hml : g'.l ++ [Ruling.cells ⟨rd, u, (zfv sz st (zae x2)).1⟩].map (fun x => List.map V.copy x) = (Rul2 ++ [(⟨rd, u, (zfv sz st (zae x2)).1⟩ : Ruling)]).map Ruling.cells := by rw [H2.out.1.l, List.map_append]; rfl
   rw [hml] at m1 ⊢
   obtain ⟨Rul3, hR3⟩ : ∃ Rul3 : List Ruling, Rul3 = Rul2 ++ [(⟨rd, u, (zfv sz st (zae x2)).1⟩ : Ruling)] := ⟨_, rfl⟩
   rw [← hR3] at m1 ⊢
   have e0 : b' ≠ bs := by
    rcases m2 with ⟨c, jj, h⟩ | h
    ·exact (H2.out.1.nb _ _ _ h).1
    ·intro h'; subst h'; simp [zad] at h
   have hS0 : ∀ d o, zad [(b5, Ob.cells (zgu sz st ab wi PL sh (.own false 47 4 (M.map Member.cells)) (.v (.slice (some ⟨b, 0, none⟩) (R.length + 1) cap))) 26), (b4, .cells zfy 26), (b, .cells (LR R T P g'.cell j) 61)] d = some o → b' ≠ d := fun d o e h => by
    have h1 := hdis d o e
    rw [← h, m1.look] at h1; cases h1
   have e5 : b' ≠ b5 := hS0 b5 _ (by simp only [zaf, ↓reduceIte]; exact rfl)
   have e4 : b' ≠ b4 := hS0 b4 _ (by simp only [zaf, m5', ↓reduceIte]; exact rfl)
   have eb : b' ≠ b := hS0 b _ (by simp only [zaf, q2, q3, ↓reduceIte]; exact rfl)
   have hbs : zad S4 bs = some (srcO (zfv sz st (zae x2)).2) := by
    rw [m3 bs (fun h => e0 h.symm) (fun c jj h => (H2.out.1.nb _ _ _ h).1 rfl), zaf, if_pos rfl]
   refine zfj (S' := (bs, srcO (zfv sz st (zae x2)).2) :: (b5, .cells (zgu sz st ab wi PL sh (.own false 47 4 (M.map Member.cells)) (.v (.slice (some ⟨b, 0, none⟩) (R.length + 1) cap))) 26) :: (b4, .cells zfy 26) :: (b, .cells (LR R T P g'.cell j) 61) :: SR 65 ⟨Rul3.map Ruling.cells, some (b', cap', junk')⟩) (fun d o e => ?_) ?_
   ·rw [zbu]
    rw [zaf] at e
    by_cases a0 : bs = d
    ·rw [if_pos a0] at e; subst a0; rw [hbs]; exact e
    rw [if_neg a0] at e
    by_cases a1 : ∃ o', zad [(b5, Ob.cells (zgu sz st ab wi PL sh (.own false 47 4 (M.map Member.cells)) (.v (.slice (some ⟨b, 0, none⟩) (R.length + 1) cap))) 26), (b4, .cells zfy 26), (b, .cells (LR R T P g'.cell j) 61)] d = some o'
    ·obtain ⟨o', h'⟩ := a1
     rw [hdis d o' h']
     have : o' = o := by
      simp only [zaf, zcg] at h' e
      by_cases c1 : b5 = d
      ·rw [if_pos c1] at h' e; rw [h'] at e; exact Option.some.inj e
      rw [if_neg c1] at h' e
      by_cases c2 : b4 = d
      ·rw [if_pos c2] at h' e; rw [h'] at e; exact Option.some.inj e
      rw [if_neg c2] at h' e
      by_cases c3 : b = d
      ·rw [if_pos c3] at h' e; rw [h'] at e; exact Option.some.inj e
      ·rw [if_neg c3] at h'; cases h'
     rw [← this]; exact h'
    ·have c1 : ¬ b5 = d := fun h => a1 ⟨_, by simp only [zaf, h, ↓reduceIte]; rfl⟩
     have c2 : ¬ b4 = d := fun h => a1 ⟨_, by simp only [zaf, c1, h, ↓reduceIte]; rfl⟩
     have c3 : ¬ b = d := fun h => a1 ⟨_, by simp only [zaf, c1, c2, h, ↓reduceIte]; rfl⟩
     simp only [zaf, c1, c2, c3, ↓reduceIte, SR, zcg] at e
     by_cases c4 : b' = d
     ·subst c4; rw [m1.look]; rw [if_pos rfl] at e; exact e
     ·rw [if_neg c4] at e; cases e
   simp only [GR.cell_some, zdr, List.length_map]
   have hk : rulG sz st rd ps 0 (zae x1) Rul = rulG sz st rd (ps.drop (u + 1)) ((u + 1 : Nat) : Int) (zfv sz st (zae x2)).2 Rul3 := by
    rw [H2.out.2, List.drop_eq_getElem_cons hu, rulG, if_pos e2, if_pos e3, hR3]; rfl
   have hrl : Rul3.length = Rul2.length + 1 := by rw [hR3, List.length_append]; rfl
   have hI3 : RulI bs b4 b5 b Rul3 ⟨Rul3.map Ruling.cells, some (b', cap', junk')⟩ := ⟨rfl, ⟨by simp [SR, zad], m1.len, m1.le, m1.cap, m1.jf, m1.lf, m1.ll⟩, fun c1 c2 c3 h => by cases h; exact ⟨e0, e4, e5, eb⟩⟩
   have H3 := Box.mk (And.intro hk hI3)
   clear hk hR3 hml m1 m2 m3 hdis hI3 hS0 hbs hOk hgl
   have hll := yss R T P g'.cell j
   repeat' (first | (with_reducible first | refine zac yU yU yE ?_ | refine zab ?_ | refine zaa ?_ | refine DS.blk ?_) | (refine DS.store yR yE yE yE yE yU (by exact ⟨by with_unfolding_all rfl, by (try simp only [List.length_map, List.length_append, List.length_set, List.length_replicate, List.length_cons, List.length_nil]); omega⟩) ?_; simp only [zbt, zbb, zbh, zcm, zbq, zbo, zbr]; try simp only [zao, zag, zah, Nat.reduceEqDiff, ↓reduceIte, zal, zam, zar, zak, zai, zap, zan]) | fail)
   simp only [setS, q1, q2, q3, ↓reduceIte]
   rw [ylt _ _ _ _ _ _ rfl]
   refine DS.back (hB (u + 1, (zfv sz st (zae x2)).2, Rul3, ⟨Rul3.map Ruling.cells, some (b', cap', junk')⟩) _ _ (by dsimp only; omega) ⟨by dsimp only; omega, by dsimp only; omega, H3.out.2, H3.out.1⟩ yS yS (fun d o e => ?_))
   dsimp only at e
   rw [GR.cell_some, List.length_map, hrl] at e
   exact e
  ·rename_i e1 e2 e3
   have hu : u < ps.length := by omega
   have hk : rulG sz st rd ps 0 (zae x1) Rul = rulG sz st rd (ps.drop (u + 1)) ((u + 1 : Nat) : Int) (zae x2) Rul2 := by
    rw [H2.out.2, List.drop_eq_getElem_cons hu, rulG, if_pos e2, if_neg (by simp [e3])]; rfl
   refine DS.back (hB (u + 1, zae x2, Rul2, g') _ _ (by dsimp only; omega) ⟨by dsimp only; omega, by dsimp only; omega, H2.out.1, hk⟩ yS yS (fun b o e => e))
  ·rename_i e1 e2
   have hu : u < ps.length := by omega
   have hk : rulG sz st rd ps 0 (zae x1) Rul = rulG sz st rd (ps.drop (u + 1)) ((u + 1 : Nat) : Int) x2 Rul2 := by
    rw [H2.out.2, List.drop_eq_getElem_cons hu, rulG, if_neg e2]; rfl
   refine DS.back (hB (u + 1, x2, Rul2, g') _ _ (by dsimp only; omega) ⟨by dsimp only; omega, by dsimp only; omega, H2.out.1, hk⟩ yS yS (fun b o e => e))
  ·rename_i e1
   have hk : rulK sz st wi (R.map Sitting.points ++ [P]) N (zae x) [] = rulK sz st wi (R.map Sitting.points ++ [P]) (k - 1) x2 Rul2 := by
    obtain ⟨k', rfl⟩ : ∃ k', k = k' + 1 := ⟨k - 1, by omega⟩
    have h1 := H2.out.2
    rw [show ps.drop u = [] from List.drop_eq_nil_of_le (by omega), rulG, Hr.out, Hp.out] at h1
    have h2 : rd = (zjj wi x1 (R.length + 1)).toNat := by have := Hr.out; omega
    rw [H.out.2.1, rulK, List.length_append, List.length_map, List.length_singleton, ← h2, h1]
    rfl
   refine DS.back (hB3 (k - 1, cnt - 1, x2, Rul2, g') _ _ (by dsimp only; omega) ⟨by dsimp only; omega, by dsimp only; omega, H2.out.1, hk⟩ yS yS (fun b o e => e))
 ·rename_i e1
  obtain ⟨h1, h2, h3, h4⟩ := H.out
  obtain rfl : k = 0 := by omega
  rw [h2] at h3
  exact zdy (zel (by simp (disch := omega) only [go_sem, ↓reduceIte, Nat.reduceEqDiff, zew, zfl, and_self, zas, zav])) (fun _ _ e => e) (h3 g h1)
end Go.XL
namespace Go.XL
theorem zuw {st : List Int → Int → Bool} {f : List Int → List Int → List (List Int)} {t x : List Int} : ∀ {ids : List Int}, x ∈ zfr st f t ids → ∃ id r, x ∈ f (t ++ [id]) r
 | [], h => by simp [zfr] at h
 | id :: r, h => by
  rw [zfr] at h
  rcases List.mem_append.1 h with h | h
  ·split at h
   ·exact ⟨id, r, h⟩
   ·cases h
  ·exact zuw h
theorem zzp {st : List Int → Int → Bool} {x : List Int} : ∀ (n : Nat) (t ids : List Int), x ∈ zgo st n t ids → x.length = t.length + n
 | 0, t, ids, h => by
  simp only [zgo, List.mem_singleton] at h; subst h; rfl
 | n + 1, t, ids, h => by
  obtain ⟨id, r, h⟩ := zuw h
  have := zzp n _ _ h
  rw [this]; simp; omega
theorem zxr {budget : Int} {round sz : Nat} {rec : List Int → Int → Int × Int × List (Nat × List Int)} (h : ∀ t s, ∀ q ∈ (rec t s).2.2, q.2.length = sz) : ∀ (l : List (List Int)) (s : Int), (∀ t ∈ l, t.length = sz) → ∀ q ∈ (tryL budget round rec l s).2.2, q.2.length = sz
 | [], s, _, q, hq => by simp [tryL] at hq
 | t :: r, s, hl, q, hq => by
  simp only [tryL] at hq
  split at hq
  ·cases hq
  split at hq
  ·exact zxr h r _ (fun t' ht => hl t' (List.mem_cons_of_mem _ ht)) q hq
  ·rcases List.mem_cons.1 hq with rfl | hq
   ·exact hl t (List.mem_cons_self ..)
   ·exact h _ _ q hq
theorem zra {size : Nat} {budget : Int} {rounds : List (List Int)} (hs : 1 ≤ size) : ∀ (n : Nat) (met : Int → Int → Bool) (round : Nat) (ids : List Int) (s : Int), ∀ q ∈ (srch size budget rounds n met round ids s).2.2, q.2.length = size
 | 0, met, round, ids, s, q, hq => by simp [srch] at hq
 | n + 1, met, round, [], s, q, hq => by
  rw [srch] at hq
  split at hq
  ·cases hq
  ·exact zra hs n met _ _ _ q hq
 | n + 1, met, round, f :: fr, s, q, hq => by
  rw [srch] at hq
  refine zxr (fun t s => zra hs n _ _ _ _) _ _ (fun t ht => ?_) q hq
  have := zzp _ _ _ ht
  rw [this]; simp; omega
theorem ygg (c : Club) (hs : 1 ≤ c.size) (ids : List Int) : ∀ t ∈ (zjt c ids).1, (t.length : Int) = c.size := by
 intro t ht
 unfold zjt at ht
 repeat' split at ht
 all_goals first | (cases ht; done) | skip
 obtain ⟨q, hq, rfl⟩ := List.mem_map.1 ht
 have := zra (by omega) _ _ _ _ _ q hq
 omega
theorem ynp (out : List Int) (n : Int) : (insS out n).length = out.length + 1 := by
 simp only [insS, List.length_append, List.length_take, List.length_cons, List.length_drop]; omega
theorem zoi : ∀ (l out : List Int), (l.foldl insS out).length = out.length + l.length
 | [], out => rfl
 | a :: r, out => by rw [List.foldl_cons, zoi r, ynp]; simp; omega
theorem zoz (size : Int) (hs : 1 ≤ size) : ∀ (n : Nat) (x : Int) (rest : List Int) (out : List (List Int)), (∀ t ∈ out, (t.length : Int) = size) → ∀ t ∈ (zmx size n x rest out).1, (t.length : Int) = size
 | 0, x, rest, out, h => by simpa [zmx] using h
 | n + 1, x, rest, out, h => by
  simp only [zmx]
  split
  ·refine zoz size hs n _ _ _ fun t ht => ?_
   rcases List.mem_append.1 ht with ht | ht
   ·exact h t ht
   ·obtain rfl := List.mem_singleton.1 ht
    rw [zfs, zoi]
    have := zvv size size.toNat x [rest.headD 0] (rest.drop 1) (by simp; omega) (by simp; omega)
    simp only [List.length_nil, Nat.zero_add]; exact this
  ·exact h
theorem ztq (c : Club) (x : Int) (hs : 1 ≤ c.size) : ∀ t ∈ (zay c x).1, (t.length : Int) = c.size := by
 unfold zay
 split
 ·dsimp only
  split
  ·exact ygg c hs _
  ·exact zoz c.size hs _ _ _ _ (fun t ht => by cases ht)
 ·exact zoz c.size hs _ _ _ _ (fun t ht => by cases ht)
theorem znw (size start : Int) (hs : 1 ≤ size) : ∀ (n : Nat) (x : Int) (out : List (List Int)), (∀ p ∈ out, p = [] ∨ (p.length : Int) = size) → (∀ p ∈ (ptsG size start n x out).1, p = [] ∨ (p.length : Int) = size) ∧ (ptsG size start n x out).1.length = out.length + n
 | 0, x, out, h => ⟨h, rfl⟩
 | n + 1, x, out, h => by
  rw [ptsG]
  split
  ·have := znw size start hs n (zfv size start (zae x)).2 (out ++ [(zfv size start (zae x)).1]) (fun p hp => by
    rcases List.mem_append.1 hp with hp | hp
    ·exact h p hp
    ·obtain rfl := List.mem_singleton.1 hp
     exact .inr (zol size start _ hs))
   exact ⟨this.1, by rw [this.2]; simp; omega⟩
  ·have := znw size start hs n (zae x) (out ++ [[]]) (fun p hp => by
    rcases List.mem_append.1 hp with hp | hp
    ·exact h p hp
    ·obtain rfl := List.mem_singleton.1 hp
     exact .inl rfl)
   exact ⟨this.1, by rw [this.2]; simp; omega⟩
theorem zqk (size start round : Int) (hs : 1 ≤ size) : ∀ (l : List (List Int)) (t x : Int) (R : List Ruling), (∀ r ∈ R, (r.points.length : Int) = size) → (∀ r ∈ (rulG size start round l t x R).1, (r.points.length : Int) = size) ∧ (rulG size start round l t x R).1.length ≤ R.length + l.length
 | [], t, x, R, h => ⟨h, by simp [rulG]⟩
 | p :: l, t, x, R, h => by
  rw [rulG]
  split
  ·split
   ·have := zqk size start round hs l (t + 1) (zfv size start (zae x)).2 (R ++ [⟨round, t, (zfv size start (zae x)).1⟩]) (fun r hr => by
     rcases List.mem_append.1 hr with hr | hr
     ·exact h r hr
     ·obtain rfl := List.mem_singleton.1 hr
      exact zol size start _ hs)
    refine ⟨this.1, Nat.le_trans this.2 ?_⟩
    simp; omega
   ·have := zqk size start round hs l (t + 1) (zae x) R h
    exact ⟨this.1, Nat.le_trans this.2 (by simp)⟩
  ·have := zqk size start round hs l (t + 1) x R h
   exact ⟨this.1, Nat.le_trans this.2 (by simp)⟩
theorem zwe (size start window : Int) (hs : 1 ≤ size) (ps : List (List (List Int))) (L : Nat) (hL : ∀ r, (ps.getD r []).length ≤ L) : ∀ (k : Nat) (x : Int) (R : List Ruling), (∀ r ∈ R, (r.points.length : Int) = size) → (∀ r ∈ (rulK size start window ps k x R).1, (r.points.length : Int) = size) ∧ (rulK size start window ps k x R).1.length ≤ R.length + k * L
 | 0, x, R, h => ⟨h, by simp [rulK]⟩
 | k + 1, x, R, h => by
  rw [rulK]
  have h1 := zqk size start (zjj window x ps.length) hs (ps.getD (zjj window x ps.length).toNat []) 0 (zae x) R h
  have h2 := zwe size start window hs ps L hL k (rulG size start (zjj window x ps.length) (ps.getD (zjj window x ps.length).toNat []) 0 (zae x) R).2 _ h1.1
  have h3 := hL (zjj window x ps.length).toNat
  refine ⟨h2.1, Nat.le_trans h2.2 ?_⟩
  rw [Nat.succ_mul]; omega
structure MadeR (size : Int) (L : Nat) (s : Sitting) : Prop where
 rows : ∀ t ∈ s.tables, (t.length : Int) = size
 len : s.tables.length ≤ L
 pts : ∀ p ∈ s.points, p = [] ∨ (p.length : Int) = size
 plen : s.points.length = s.tables.length
 rul : s.rulings.length ≤ 2 * L
 rpts : ∀ r ∈ s.rulings, (r.points.length : Int) = size
theorem MadeR.small {size : Int} {L : Nat} {s : Sitting} (h : MadeR size L s) (hs : size ≤ 100) (hL : L ≤ 1000) : s.Small where
 tables := Nat.le_trans h.len (by omega)
 points := by rw [h.plen]; exact Nat.le_trans h.len (by omega)
 rulings := Nat.le_trans h.rul (by omega)
 table := fun t ht => by have := h.rows t ht; omega
 point := fun t ht => by
  rcases h.pts t ht with rfl | e
  ·simp
  ·omega
 ruling := fun r hr => by have := h.rpts r hr; omega
theorem ybs {α : Type} {l : List (List α)} {L : Nat} (h : ∀ x ∈ l, x.length ≤ L) (r : Nat) : (l.getD r []).length ≤ L := by
 rw [List.getD_eq_getElem?_getD]
 cases e : l[r]? with
 | none => simp
 | some x => exact h x (List.mem_of_getElem? e)
theorem zrd (c : Club) (x : Int) (R : List Sitting) (L : Nat) (hs : 1 ≤ c.size) (hL : c.members.length + 2 ≤ L) (hR : ∀ s ∈ R, MadeR c.size L s) :
  MadeR c.size L ⟨(zay (zcu c R) x).1, (zcn (zcu c R) x).1, (zhn c x R).1⟩ := by
 have h1 := ztq (zcu c R) x hs
 have h2 := znv (zcu c R) x
 have h3 := znw c.size c.start hs (zay (zcu c R) x).1.length (zay (zcu c R) x).2 [] (fun p hp => by cases hp)
 have h3' : (zcn (zcu c R) x).1.length = (zay (zcu c R) x).1.length := by
  have := h3.2
  rw [List.length_nil, Nat.zero_add] at this; exact this
 have h4 := zwe c.size c.start c.window hs (R.map Sitting.points ++ [(zcn (zcu c R) x).1]) L (ybs (fun p hp => by
  rcases List.mem_append.1 hp with hp | hp
  ·obtain ⟨s, hs, rfl⟩ := List.mem_map.1 hp
   rw [(hR s hs).plen]; exact (hR s hs).len
  ·obtain rfl := List.mem_singleton.1 hp
   rw [h3']; exact Nat.le_trans h2 hL)) (zaj (zcn (zcu c R) x).2 3).toNat (zae (zcn (zcu c R) x).2) [] (fun r hr => by cases hr)
 have h5 := zbs (zcn (zcu c R) x).2 3
 refine ⟨h1, Nat.le_trans h2 hL, h3.1, h3', Nat.le_trans h4.2 ?_, h4.1⟩
 simp only [List.length_nil, Nat.zero_add]
 exact Nat.mul_le_mul_right _ (by omega)
end Go.XL
namespace Go.XL
open Go.Proofs
set_option maxRecDepth 100000
set_option maxHeartbeats 8000000
theorem yrj {P : Program} {n : Nat} {r : Rr} {Q : VEnv → Sto → Prop} {k : List Fr} {E : VEnv} {S : Sto} {t : Nat} {ty : TypeId} {pos : String} {af : Array Edge} {ts : Array TypeId} {g : FuncId} {xs : Array Operand} {fn : Func} {ops l : List Oper} (S1 S2 : Sto) {R : V → Sto → Prop} {x0 : V} {pre cs : List V} {b len cap sz T : Nat} {cl : List (List V)}
  (hf : FnOk P g fn) (hd : decide (t < n) = true) (he : evsV (evV E) xs.toList = some [x0, .agg (pre ++ [.v (.slice (some ⟨b, 0, none⟩) len cap)])]) (hc : DC P g [x0.peek, .agg (pre ++ [.lst cl])] S1 R)
  (hS : zad S b = some (.cells cs T)) (hfree : ∀ v ∈ cs, v.free = true) (hlen : cl.length = len) (hsz : ∀ c ∈ cl, c.length = sz) (hflat : cl.flatten = (cs.take (len * sz)).map V.peek) (hcap : len ≤ cap ∧ cap ≤ maxLen)
  (h1 : ∀ j o, zad S1 j = some o → zad (delS b S) j = some o) (h2 : ∀ j o, zad S2 j = some o → zad (delS b S) j = some o ∧ zad S1 j = none)
  (hsR : ∀ v S', R v S' → Safe b (cs.take (len * sz)) v ∧ v.free = true ∧ ∀ j c T', zad S' j = some (.cells c T') → ∀ v ∈ c, Safe b (cs.take (len * sz)) v)
  (hs2 : ∀ j c T', zad S2 j = some (.cells c T') → ∀ v ∈ c, Safe b (cs.take (len * sz)) v)
  (q : ∀ v S0, R v S0 → (∀ j o, zad S0 j = some o → zad S2 j = none ∧ j ≠ b) → DS P n r Q (.ops ops l :: k) ((t, v) :: E) ((b, .cells cs T) :: (S0 ++ S2))) :
  DS P n r Q (.ops ops (⟨some t, .call { callee := .value (.func g), args := xs, argTypes := ts }, ty, pos, af, none⟩ :: l) :: k) E S := by
 refine zej rfl rfl hd (yov hf he (hc _) hS hfree hlen hsz hflat hcap h1 h2 hsR hs2) fun v E' S' ⟨eE, S0, eS, hR, hdis⟩ => ?_
 subst eE; subst eS
 exact q v S0 hR hdis
theorem yox {P : Program} {n : Nat} {r : Rr} {Q : VEnv → Sto → Prop} {k : List Fr} {E : VEnv} {S : Sto} {b : Nat} {l : List V} {T : TypeId} (hS : zad S b = some (.cells l T)) (q : DS P n r Q k E (setS b (.cells (l.map V.peek) T) S)) : DS P n r Q k E S := fun K W a w ⟨K', D, hv, hold, env, hbx, ha, s⟩ hw => by
 refine q K W a w ⟨K', D, hv, hold, env, hbx, ha, ⟨s.pre, s.slot, fun j o e => ?_, s.held, s.base, s.vbase⟩⟩ hw
 rw [zbg hS] at e
 split at e
 ·rename_i hj
  subst hj
  simp only [Option.some.injEq] at e; subst e
  obtain ⟨o1, o2, cs, o3, o4, o5, o6⟩ := s.obj _ _ hS
  refine ⟨o1, o2, cs, o3, zjg o4, o5, fun i c u hc hu => ?_⟩
  obtain ⟨v, hv, rfl⟩ := List.mem_map.1 (List.mem_of_getElem? hc)
  exact V.free_Own (zjr v) u
 ·exact s.obj j o e
theorem zvj {α : Type} (f : α → V) : ∀ l : List α, chunk 1 l.length (l.map f) = l.map fun a => [f a]
 | [] => rfl
 | a :: r => by
  rw [List.length_cons, chunk, List.map_cons, List.map_cons, ← zvj f r]; rfl
theorem yna (P : List (List Int)) : chunk 1 P.length ((P.map ptC).map V.peek) = P.map cR := by
 rw [List.map_map, zvj]
 refine List.map_congr_left fun p _ => ?_
 simp only [Function.comp, ptC, cR]
 split
 ·rename_i h; subst h; rfl
 ·rfl
theorem zid {sz : Nat} {j : List V} : ∀ {l : List (List V)}, (∀ c ∈ l, c.length = sz) → chunk sz l.length (l.flatten ++ j) = l
 | [], _ => rfl
 | c :: r, h => by
  have hc := h c (List.mem_cons_self ..)
  rw [List.length_cons, chunk, List.flatten_cons, List.append_assoc, List.take_left' hc, List.drop_left' hc, zid fun d hd => h d (List.mem_cons_of_mem _ hd)]
theorem yht (R : List Sitting) : (R.map Sitting.cells).flatten.map V.copy = (R.map Sitting.cells).flatten := by
 rw [List.map_flatten, List.map_map]; rfl
theorem zxz (R : List Sitting) : (R.map Sitting.cells).flatten.map V.peek = (R.map Sitting.cells).flatten := by
 rw [List.map_flatten, List.map_map]; rfl
theorem zyb (R : List Sitting) : ∀ v ∈ (R.map Sitting.cells).flatten, v.free = true := fun v hv => by
 obtain ⟨c, h1, h2⟩ := List.mem_flatten.1 hv
 obtain ⟨s, _, rfl⟩ := List.mem_map.1 h1
 simp only [Sitting.cells, List.mem_cons, List.not_mem_nil, or_false] at h2
 rcases h2 with rfl | rfl | rfl <;> rfl
structure SitI (bs b4 b5 : Nat) (Rs : List Sitting) (g : GR) : Prop where
 l : g.l = Rs.map Sitting.cells
 ok : g.Ok 61 3 (SR 61 g)
 nb : NB bs b4 b5 b5 g
theorem yaa (bs b4 b5 bp : Nat) (x sz st ab wi i : Int) (sh : Bool) (PL : List Int) (M : List Member) (Rs : List Sitting) (T P : List (List Int)) (g : GR) (hszB : Box (∃ z : Nat, sz = z)) (hsz : 3 ≤ sz ∧ sz ≤ 4) (hst : 0 ≤ st ∧ st ≤ 1000000) (hwi : 0 ≤ wi ∧ wi ≤ 2) (hnb : Rs.length ≤ 3) (hps : ∀ r, ((Rs.map Sitting.points ++ [P]).getD r []).length ≤ 1000) (hg : SitI bs b4 b5 Rs g)
  (n4 : ¬ bs = b4) (n4' : ¬ b4 = bs) (n5 : ¬ bs = b5) (n5' : ¬ b5 = bs) (m5 : ¬ b4 = b5) (m5' : ¬ b5 = b4) (q1 : ¬ bs = bp) (q1' : ¬ bp = bs) (q2 : ¬ b4 = bp) (q2' : ¬ bp = b4) (q3 : ¬ b5 = bp) (q3' : ¬ bp = b5) (hbp : ∀ b' cap j, g.blk = some (b', cap, j) → b' ≠ bp) {v0 : VH} {Q : VEnv → Sto → Prop} {fr : List Fr} {cd : Code} {os l : List Oper}
  (h4 : Tryz.f40.body.bind (regC 28) = some os) (h5 : os.drop 3 = l) (h3 : Tryz.f40.body.bind (zkc 28) = some cd)
  (q : ∀ g', SitI bs b4 b5 (Rs ++ [⟨T, P, (rulK sz st wi (Rs.map Sitting.points ++ [P]) (zaj x 3).toNat (zae x) []).1⟩]) g' → DS Tryz.prog 207 ⟨none, v0⟩ Q fr [(13, I i), (0, ptr bs), (4, ptr b4), (5, ptr b5)]
   ((bs, srcO (rulK sz st wi (Rs.map Sitting.points ++ [P]) (zaj x 3).toNat (zae x) []).2) :: (b5, .cells (zgu sz st ab wi PL sh (.own false 47 4 (M.map Member.cells)) g'.cell) 26) :: (b4, .cells zfy 26) :: SR 61 g')) :
  DS Tryz.prog 207 ⟨none, v0⟩ Q (.ops os l :: .code cd :: fr)
   [(131, .agg [rows T, .v (.slice (some ⟨bp, 0, none⟩) P.length P.length), .v (.slice none 0 0)]), (13, I i), (0, ptr bs), (4, ptr b4), (5, ptr b5)] ((bp, .cells (P.map ptC) 22) :: (bs, srcO x) :: (b5, .cells (zgu sz st ab wi PL sh (.own false 47 4 (M.map Member.cells)) g.cell) 26) :: (b4, .cells zfy 26) :: SR 61 g) := by
 obtain rfl := Option.some.inj ((show Tryz.f40.body.bind (zkc 28) = some _ from rfl).symm.trans h3)
 obtain rfl := Option.some.inj ((show Tryz.f40.body.bind (regC 28) = some _ from rfl).symm.trans h4)
 subst h5
 clear h4 h3
 simp only [zaw, zax]
 have hdel : delS bp (SR 61 g) = SR 61 g := by
  obtain ⟨l, blk⟩ := g
  cases blk with
  | none => rfl
  | some y =>
   obtain ⟨b', cap, j⟩ := y
   simp only [SR, delS, hbp b' cap j rfl, ↓reduceIte]
 refine yhe (t := 131) (b := bp) (i := 1) (len := P.length) (cap := P.length) (sz := 1) (l := P.map ptC) (T := 22) yR yR (by simp only [zaf, ↓reduceIte]) (by simp) ⟨Nat.le_refl _, ?_⟩ ?_
 ·have := hps Rs.length
  rw [List.getD_eq_getElem?_getD, List.getElem?_append_right (by simp), List.length_map, Nat.sub_self] at this
  exact Nat.le_trans (m := 1000) this (by decide)
 rw [yna]
 simp only [zbk, hdel, q1, q2, q3, ↓reduceIte, zcy, zcl]
 repeat' (first | (refine ypn (t := 134) yU yX21 yU (by simp only [List.length_cons, List.length_nil]; omega) ?_; simp only [List.take_succ_cons, List.take_zero, List.map_cons, List.map_nil, zbx, zbl, zcv, Nat.reduceAdd]) | (with_reducible first | refine zac yU yU yX21 ?_ | refine zab ?_ | refine DS.seq ?_ | refine zaa ?_) | (refine zff yU yX21 yX21 ?_; simp only [go_sem, Nat.zero_add, Nat.reduceAdd]) | (refine zhj (t := 14) yU yX21 yU (fun _ => yX21) yX21 yU (by exact ⟨by with_unfolding_all rfl, by with_unfolding_all decide⟩) (fun _ => by simp only [go_sem, Nat.reduceEqDiff, ↓reduceIte]) ?_; simp only [go_sem]) | fail)
 have hgl : g.l.length = Rs.length := by rw [hg.l, List.length_map]
 refine zej rfl rfl yR (zmi (g := g) (ml := [[rows T, rows P, .v (.slice none 0 0)]]) rfl yH yH yR yR (by decide) yH (hg.ok.of fun d cap' jj h => ?_) yH yH (by exact Nat.zero_lt_succ _) (by intro c hc; obtain rfl := List.mem_singleton.1 hc; rfl) ⟨by rw [hgl, List.length_singleton]; omega, by decide⟩) (fun u2 E' S4 hu2 => ?_)
 ·have hn := hg.nb d cap' jj h
  rw [zaf, if_neg (fun h' => hn.1 h'.symm), zaf, if_neg (fun h' => hn.2.2.1 h'.symm), zaf, if_neg (fun h' => hn.2.1 h'.symm)]
 obtain ⟨rfl, b', cap', junk', rfl, m1, m2, m3⟩ := hu2
 have hml : g.l ++ [[rows T, rows P, V.v (.slice none 0 0)]].map (fun x => List.map V.copy x) = Rs.map Sitting.cells ++ [[rows T, rows P, V.v (.slice none 0 0)]] := by rw [hg.l]; rfl
 rw [hml] at m1 ⊢
 have e0 : b' ≠ bs ∧ b' ≠ b5 ∧ b' ≠ b4 := by
  rcases m2 with ⟨c, jj, h⟩ | h
  ·have hn := hg.nb _ _ _ h
   exact ⟨hn.1, hn.2.2.1, hn.2.1⟩
  ·simp only [zaf] at h
   refine ⟨fun h' => ?_, fun h' => ?_, fun h' => ?_⟩
   ·rw [if_pos h'.symm] at h; cases h
   ·rw [if_neg (fun x => n5 (x.trans h')), if_pos h'.symm] at h; cases h
   ·rw [if_neg (fun x => n4 (x.trans h')), if_neg (fun x => m5' (x.trans h')), if_pos h'.symm] at h; cases h
 obtain ⟨e1, e2, e3⟩ := e0
 have hold : ∀ d, d ≠ b' → (d = bs ∨ d = b5 ∨ d = b4) → zad S4 d = zad ((bs, srcO x) :: (b5, Ob.cells (zgu sz st ab wi PL sh (.own false 47 4 (M.map Member.cells)) g.cell) 26) :: (b4, .cells zfy 26) :: SR 61 g) d := fun d hd hl =>
  m3 d hd fun c jj h => by
   have hn := hg.nb _ _ _ h
   rcases hl with rfl | rfl | rfl
   ·exact hn.1 rfl
   ·exact hn.2.2.1 rfl
   ·exact hn.2.1 rfl
 have hLR : (Rs.map Sitting.cells ++ [[rows T, rows P, V.v (.slice none 0 0)]]).flatten ++ junk' = LR Rs T P (.v (.slice none 0 0)) junk' := by
  rw [LR, List.flatten_append, List.append_assoc]; rfl
 have hlook := m1.look
 rw [hLR] at hlook
 have hlen := m1.len
 have hle := m1.le
 rw [List.length_append, List.length_map, List.length_singleton] at hlen hle
 have hcap := m1.cap
 have hjf := m1.jf
 refine zfj (S' := [(bs, srcO x), (b5, .cells (zgu sz st ab wi PL sh (.own false 47 4 (M.map Member.cells)) g.cell) 26), (b4, .cells zfy 26), (b', .cells (LR Rs T P (.v (.slice none 0 0)) junk') 61)]) (fun d o e => ?_) ?_
 ·simp only [zaf, zcg] at e
  by_cases c0 : bs = d
  ·subst c0; rw [if_pos rfl] at e; rw [hold _ (fun h => e1 h.symm) (.inl rfl), zaf, if_pos rfl]; exact e
  rw [if_neg c0] at e
  by_cases c1 : b5 = d
  ·subst c1; rw [if_pos rfl] at e; rw [hold _ (fun h => e2 h.symm) (.inr (.inl rfl)), zaf, if_neg c0, zaf, if_pos rfl]; exact e
  rw [if_neg c1] at e
  by_cases c2 : b4 = d
  ·subst c2; rw [if_pos rfl] at e; rw [hold _ (fun h => e3 h.symm) (.inr (.inr rfl)), zaf, if_neg c0, zaf, if_neg c1, zaf, if_pos rfl]; exact e
  rw [if_neg c2] at e
  by_cases c3 : b' = d
  ·subst c3; rw [if_pos rfl] at e; rw [hlook]; exact e
  ·rw [if_neg c3] at e; cases e
 simp only [GR.cell_some, zdr, List.length_append, List.length_map, List.length_singleton]
 have fin : ∀ (Rul : List Ruling) (jn : List V), jn.length = junk'.length → (∀ v ∈ jn, v.free = true) → SitI bs b4 b5 (Rs ++ [⟨T, P, Rul⟩]) ⟨(Rs ++ [(⟨T, P, Rul⟩ : Sitting)]).map Sitting.cells, some (b', cap', jn)⟩ := fun Rul jn h1 h2 =>
  ⟨rfl, ⟨by simp [SR, zad], by simp only [List.length_map, List.length_append, List.length_singleton, h1]; exact hlen, by simp only [List.length_map, List.length_append, List.length_singleton]; exact hle, hcap, h2, zyb _, fun c hc => by obtain ⟨s, _, rfl⟩ := List.mem_map.1 hc; rfl⟩, fun c1 c2 c3 h => by cases h; exact ⟨e1, e3, e2, e2⟩⟩
 have finC : ∀ (Rul : List Ruling) (jn : List V), ((Rs ++ [(⟨T, P, Rul⟩ : Sitting)]).map Sitting.cells).flatten ++ jn = LR Rs T P (.lst (Rul.map Ruling.cells)) jn := fun Rul jn => by
  rw [LR, List.map_append, List.flatten_append, List.append_assoc]; rfl
 clear hml m1 m2 m3 hold hLR hlook hg
 repeat' (first | (with_reducible first | refine zac yU yU yE ?_ | refine zab ?_ | refine DS.seq ?_ | refine zaa ?_) | (refine DS.store yR yE yE yE yE yU (by exact ⟨by with_unfolding_all rfl, by (try simp only [List.length_map, List.length_append, List.length_set, List.length_replicate, List.length_cons, List.length_nil]); omega⟩) ?_; simp only [zbt, zbb, zbh, zcm, zbq, zbo, zbr]; try simp only [zao, zag, zah, Nat.reduceEqDiff, ↓reduceIte, zal, zam, zar, zak, zai, zap, zan]) | fail)
 simp only [setS, n5, ↓reduceIte]
 refine zdy (E' := [(138, ptr bs), (13, I i), (0, ptr bs), (4, ptr b4), (5, ptr b5)]) (S' := [(bs, srcO x), (b5, .cells (zgu sz st ab wi PL sh (.own false 47 4 (M.map Member.cells)) (.v (.slice (some ⟨b', 0, none⟩) (Rs.length + 1) cap'))) 26), (b4, .cells zfy 26), (b', .cells (LR Rs T P (.v (.slice none 0 0)) junk') 61)]) (zel (by simp (disch := omega) only [go_sem, ↓reduceIte, Nat.reduceEqDiff, zew, zfl, and_self])) (fun _ _ e => e) ?_
 refine yol bs b4 b5 b' cap' x sz st ab wi i sh PL M Rs T P junk' hszB hsz hst hwi (by omega) hps n4 n4' n5 n5' m5 m5' (fun h => e1 h.symm) e1 (fun h => e3 h.symm) e3 (fun h => e2 h.symm) e2 yR yR yR (fun gr hgr => ?_)
 have g2 : ¬ b5 = b' := fun h => e2 h.symm
 have g1 : ¬ bs = b' := fun h => e1 h.symm
 have g3 : ¬ b4 = b' := fun h => e3 h.symm
 obtain ⟨hrl, hrok, hrnb⟩ := hgr
 obtain ⟨grl, blk⟩ := gr
 dsimp only at hrl
 subst hrl
 cases blk with
 | none =>
  have hnil : (rulK sz st wi (Rs.map Sitting.points ++ [P]) (zaj x 3).toNat (zae x) []).1.map Ruling.cells = [] := hrok
  refine yox (b := b') (l := LR Rs T P (.v (.slice none 0 0)) junk') (T := 61) (by simp only [zaf, g1, g2, g3, ↓reduceIte, GR.cell_none]) ?_
  have h1 : (LR Rs T P (.v (.slice none 0 0)) junk').map V.peek = LR Rs T P (.lst ((rulK sz st wi (Rs.map Sitting.points ++ [P]) (zaj x 3).toNat (zae x) []).1.map Ruling.cells)) (junk'.map V.peek) := by
   rw [hnil, LR, List.map_append, zxz, List.map_append]; rfl
  rw [h1, ← finC]
  refine zfj (fun d o e => ?_) (q _ (fin _ (junk'.map V.peek) (by rw [List.length_map]) (fun v hv => by obtain ⟨w, _, rfl⟩ := List.mem_map.1 hv; exact zjr w)))
  simp only [setS, g1, g2, g3, ↓reduceIte, GR.cell_some, SR, List.length_map, List.length_append, List.length_singleton] at e ⊢
  exact e
 | some y =>
  obtain ⟨br, capr, jr⟩ := y
  have hb := hrnb br capr jr rfl
  have o1 : ¬ b' = br := fun h => hb.2.2.2 h.symm
  have o2 : ¬ b5 = br := fun h => hb.2.2.1 h.symm
  have o3 : ¬ b4 = br := fun h => hb.2.1 h.symm
  have o4 : ¬ bs = br := fun h => hb.1 h.symm
  refine zml (b := br) (b' := b') (i := Rs.length * 3 + 2) (sz := 3) (len := ((rulK sz st wi (Rs.map Sitting.points ++ [P]) (zaj x 3).toNat (zae x) []).1.map Ruling.cells).length) (cap := capr) (l' := LR Rs T P (GR.cell ⟨(rulK sz st wi (Rs.map Sitting.points ++ [P]) (zaj x 3).toNat (zae x) []).1.map Ruling.cells, some (br, capr, jr)⟩) junk') (l := ((rulK sz st wi (Rs.map Sitting.points ++ [P]) (zaj x 3).toNat (zae x) []).1.map Ruling.cells).flatten ++ jr) (T := 65) (T' := 61) o1 (by simp only [zaf, g1, g2, g3, ↓reduceIte]) (ylu _ _ _ _ _ rfl) (by simp only [zaf, o1, o2, o3, o4, SR, ↓reduceIte]) (by have := hrok.len; rw [List.length_append, zhg hrok.ll]; omega) ⟨hrok.le, hrok.cap⟩ ?_
  have hch : chunk 3 ((rulK sz st wi (Rs.map Sitting.points ++ [P]) (zaj x 3).toNat (zae x) []).1.map Ruling.cells).length ((((rulK sz st wi (Rs.map Sitting.points ++ [P]) (zaj x 3).toNat (zae x) []).1.map Ruling.cells).flatten ++ jr).map V.copy) = (rulK sz st wi (Rs.map Sitting.points ++ [P]) (zaj x 3).toNat (zae x) []).1.map Ruling.cells := by
   rw [List.map_append, List.map_flatten, List.map_map]
   exact zid (fun c hc => hrok.ll c hc)
  rw [hch, ylt _ _ _ _ _ _ rfl, ← finC]
  refine zfj (fun d o e => ?_) (q _ (fin _ junk' rfl hjf))
  simp only [setS, delS, g1, g2, g3, o1, o2, o3, o4, ↓reduceIte, GR.cell_some, SR, List.length_map, List.length_append, List.length_singleton] at e ⊢
  exact e
theorem ycd (bs b4 b5 : Nat) (x most sz st ab wi : Int) (sh : Bool) (PL : List Int) (M : List Member) (hm : 0 ≤ most ∧ most ≤ 3) (hszB : Box (∃ z : Nat, sz = z)) (hsz : 3 ≤ sz ∧ sz ≤ 4) (hst : 0 ≤ st ∧ st ≤ 1000000) (hwi : 0 ≤ wi ∧ wi ≤ 2) (hM : M.length ≤ 13) (hPL : PL.length ≤ 4)
  (n4 : ¬ bs = b4) (n4' : ¬ b4 = bs) (n5 : ¬ bs = b5) (n5' : ¬ b5 = bs) (m5 : ¬ b4 = b5) (m5' : ¬ b5 = b4) {v0 : VH} {R : V → Sto → Prop} {os l : List Oper} {a c b : Code}
  (h1 : Tryz.f40.body.bind (forC 25) = some (a, c, b)) (h2 : Tryz.f40.body.bind (regC 25) = some os) (h3 : os.drop 3 = l)
  (hR : R (zcu ⟨sz, st, ab, wi, PL, sh, M, []⟩ (zez ⟨sz, st, ab, wi, PL, sh, M, []⟩ (zaj x (most + 1)).toNat (zae x) []).1).val [(bs, srcO (zez ⟨sz, st, ab, wi, PL, sh, M, []⟩ (zaj x (most + 1)).toNat (zae x) []).2)]) :
  DS Tryz.prog 207 ⟨none, v0⟩ (FinV Tryz.prog [ResultVar.cell 4 26] R) [.ops os l, .code c, .code b]
   [(121, ptr bs), (123, I (most + 1)), (0, ptr bs), (4, ptr b4), (5, ptr b5)] [(bs, srcO x), (b5, .cells (zgu sz st ab wi PL sh (.own false 47 4 (M.map Member.cells)) (.v (.slice none 0 0))) 26), (b4, .cells zfy 26)] := by
 have h1 := Option.some.inj ((show Tryz.f40.body.bind (forC 25) = some _ from rfl).symm.trans h1)
 obtain ⟨rfl, rfl, rfl⟩ := Prod.mk.inj h1 |>.imp id Prod.mk.inj
 obtain rfl := Option.some.inj ((show Tryz.f40.body.bind (regC 25) = some _ from rfl).symm.trans h2)
 subst h3
 clear h1 h2
 simp only [zaw, zax]
 have k1 := zbs x (most + 1)
 repeat' (first | (with_reducible first | refine zac yU yU yE ?_ | refine zab ?_ | refine DS.block ?_) | (refine zfe inferInstance (zei bs x (most + 1) (by omega)) yR yT yT ?_; (try simp only [zbk, zbw, ↓reduceIte, *])) | fail)
 obtain ⟨N, hN⟩ : ∃ N : Nat, (N : Int) = zaj x (most + 1) := ⟨(zaj x (most + 1)).toNat, by omega⟩
 have hNN : (zaj x (most + 1)).toNat = N := by omega
 rw [hNN] at hR
 refine zco [0, 4, 5] yN (fun (y : Nat × Int × Int × List Sitting × GR) => [(13, I y.2.1)]) (fun (y : Nat × Int × Int × List Sitting × GR) => (bs, srcO y.2.2.1) :: (b5, .cells (zgu sz st ab wi PL sh (.own false 47 4 (M.map Member.cells)) y.2.2.2.2.cell) 26) :: (b4, .cells zfy 26) :: SR 61 y.2.2.2.2) (fun (y : Nat × Int × Int × List Sitting × GR) => (y.2.1 ≤ y.1 ∧ (y.1 : Int) ≤ y.2.1) ∧ y.2.2.2.1.length + y.1 ≤ 3 ∧ SitI bs b4 b5 y.2.2.2.1 y.2.2.2.2 ∧ (∀ s ∈ y.2.2.2.1, MadeR sz 15 s) ∧ zez ⟨sz, st, ab, wi, PL, sh, M, []⟩ N (zae x) [] = zez ⟨sz, st, ab, wi, PL, sh, M, []⟩ y.1 y.2.2.1 y.2.2.2.1) (fun (y : Nat × Int × Int × List Sitting × GR) => y.1) (N, zaj x (most + 1), zae x, [], ⟨[], none⟩) yS (fun b o e => by exact e) ⟨by dsimp only; omega, by dsimp only [List.length_nil]; omega, ⟨rfl, rfl, fun _ _ _ e => by cases e⟩, (fun s hs => by cases hs), rfl⟩ (fun y B hI hB => ?_); try dsimp only at hI hB; simp only [zas, zav]
 obtain ⟨k, cnt, x1, Rs, g⟩ := y
 dsimp only at hI hB ⊢
 obtain ⟨g1, g2, g3, g4, g5⟩ := hI
 obtain ⟨l, blk⟩ := g
 obtain rfl : l = Rs.map Sitting.cells := g3.l
 have hsm : (zcu ⟨sz, st, ab, wi, PL, sh, M, []⟩ Rs).Small := ⟨by show PL.length ≤ _; omega, by show M.length ≤ _; omega, by show Rs.length ≤ _; omega, fun s hs => (g4 s hs).small (by omega) (by omega)⟩
 have hrd := yms bs x1 (zcu ⟨sz, st, ab, wi, PL, sh, M, []⟩ Rs) hsm hsz hst
 have hmade := zrd ⟨sz, st, ab, wi, PL, sh, M, []⟩ x1 Rs 15 (by show 1 ≤ sz; omega) (by show M.length + 2 ≤ 15; omega) g4
 have hplen := hmade.plen
 have H := Box.mk (And.intro g3 (And.intro g4 (And.intro g5 (And.intro hR (And.intro hN (And.intro hmade hplen))))))
 clear g4 g5 hR hN hNN hmade hplen
 by_cases e0 : 0 < cnt
 ·have next : ∀ g', SitI bs b4 b5 (Rs ++ [⟨(zay (zcu ⟨sz, st, ab, wi, PL, sh, M, []⟩ Rs) x1).1, (zcn (zcu ⟨sz, st, ab, wi, PL, sh, M, []⟩ Rs) x1).1, (zhn ⟨sz, st, ab, wi, PL, sh, M, []⟩ x1 Rs).1⟩]) g' → zez ⟨sz, st, ab, wi, PL, sh, M, []⟩ N (zae x) [] = zez ⟨sz, st, ab, wi, PL, sh, M, []⟩ (k - 1) (zhn ⟨sz, st, ab, wi, PL, sh, M, []⟩ x1 Rs).2 (Rs ++ [⟨(zay (zcu ⟨sz, st, ab, wi, PL, sh, M, []⟩ Rs) x1).1, (zcn (zcu ⟨sz, st, ab, wi, PL, sh, M, []⟩ Rs) x1).1, (zhn ⟨sz, st, ab, wi, PL, sh, M, []⟩ x1 Rs).1⟩]) := fun g' _ => by
   obtain ⟨k', rfl⟩ : ∃ k', k = k' + 1 := ⟨k - 1, by omega⟩
   rw [H.out.2.2.1, zez]; rfl
  have hpsL : ∀ r, ((Rs.map Sitting.points ++ [(zcn (zcu ⟨sz, st, ab, wi, PL, sh, M, []⟩ Rs) x1).1]).getD r []).length ≤ 1000 := ybs (fun p hp => by
   rcases List.mem_append.1 hp with hp | hp
   ·obtain ⟨s, hs, rfl⟩ := List.mem_map.1 hp
    rw [(H.out.2.1 s hs).plen]; exact Nat.le_trans (H.out.2.1 s hs).len (by omega)
   ·obtain rfl := List.mem_singleton.1 hp
    have h1 := H.out.2.2.2.2.2.2
    have h2 := H.out.2.2.2.2.2.1.len
    dsimp only at h1 h2
    omega)
  cases blk with
  | none =>
   have hnil : Rs = [] := by
    have : Rs.map Sitting.cells = [] := g3.ok
    simpa using this
   simp only [GR.cell_none, SR]
   repeat' (first | (with_reducible first | refine zac yU yU yE ?_ | refine zab ?_ | refine DS.seq ?_ | refine zaa ?_ | (refine zbc yE ?_; refine zdh ?_) | refine DS.block ?_ | refine DS.skip ?_) | fail)
   subst hnil
   refine DS.call (dst := some 131) [(bs, srcO x1)] [(b5, .cells (zgu sz st ab wi PL sh (.own false 47 4 (M.map Member.cells)) (.v (.slice none 0 0))) 26), (b4, .cells zfy 26)] inferInstance hrd yR yH (fun d o e => ?_) (fun d o e => ?_) (fun v S0 hR0 hdis => ?_)
   ·simp only [zaf, zcg] at e ⊢
    by_cases c0 : bs = d
    ·rw [if_pos c0] at e ⊢; exact e
    ·rw [if_neg c0] at e; cases e
   ·have c0 : ¬ bs = d := fun h => by subst h; simp only [zaf, zcg, n5', n4', ↓reduceIte] at e; cases e
    refine ⟨by rw [zaf, if_neg c0]; exact e, by rw [zaf, if_neg c0]; rfl⟩
   obtain ⟨bp, hbp, rfl, rfl⟩ := hR0
   have hn := hdis bp _ (by rw [zaf, if_pos rfl])
   have d5 : ¬ b5 = bp := fun h => by rw [zaf, if_pos h] at hn; cases hn
   have d4 : ¬ b4 = bp := fun h => by rw [zaf, if_neg d5, zaf, if_pos h] at hn; cases hn
   clear hn hdis
   have hpl := H.out.2.2.2.2.2.2
   dsimp only at hpl
   refine zdy (E' := [(131, .agg [rows (zay (zcu ⟨sz, st, ab, wi, PL, sh, M, []⟩ []) x1).1, .v (.slice (some ⟨bp, 0, none⟩) (zcn (zcu ⟨sz, st, ab, wi, PL, sh, M, []⟩ []) x1).1.length (zcn (zcu ⟨sz, st, ab, wi, PL, sh, M, []⟩ []) x1).1.length), .v (.slice none 0 0)]), (13, I cnt), (0, ptr bs), (4, ptr b4), (5, ptr b5)]) (S' := (bp, .cells ((zcn (zcu ⟨sz, st, ab, wi, PL, sh, M, []⟩ []) x1).1.map ptC) 22) :: (bs, srcO (zcn (zcu ⟨sz, st, ab, wi, PL, sh, M, []⟩ []) x1).2) :: (b5, .cells (zgu sz st ab wi PL sh (.own false 47 4 (M.map Member.cells)) (GR.cell ⟨[], none⟩)) 26) :: (b4, .cells zfy 26) :: SR 61 ⟨[], none⟩) (zel (by rw [hpl]; simp (disch := omega) only [go_sem, ↓reduceIte, Nat.reduceEqDiff, zew, zfl, and_self, zas, zav])) (fun d o e => ?_) ?_
   ·exact e
   refine yaa bs b4 b5 bp (zcn (zcu ⟨sz, st, ab, wi, PL, sh, M, []⟩ []) x1).2 sz st ab wi cnt sh PL M [] (zay (zcu ⟨sz, st, ab, wi, PL, sh, M, []⟩ []) x1).1 (zcn (zcu ⟨sz, st, ab, wi, PL, sh, M, []⟩ []) x1).1 ⟨[], none⟩ hszB hsz hst hwi (by omega) hpsL g3 n4 n4' n5 n5' m5 m5' (fun h => hbp h.symm) hbp (fun h => d4 h) (fun h => d4 h.symm) (fun h => d5 h) (fun h => d5 h.symm) (fun _ _ _ e => by cases e) yR yR yR (fun g' hg' => ?_)
   have nx := next g' hg'
   have H4 := Box.mk (And.intro nx hg')
   clear nx hg' next hpl
   repeat' (first | (with_reducible first | refine zac yU yU yE ?_ | refine zab ?_ | refine zaa ?_ | refine DS.blk ?_) | fail)
   refine DS.back (hB (k - 1, cnt - 1, (zhn ⟨sz, st, ab, wi, PL, sh, M, []⟩ x1 []).2, [] ++ [(⟨(zay (zcu ⟨sz, st, ab, wi, PL, sh, M, []⟩ []) x1).1, (zcn (zcu ⟨sz, st, ab, wi, PL, sh, M, []⟩ []) x1).1, (zhn ⟨sz, st, ab, wi, PL, sh, M, []⟩ x1 []).1⟩ : Sitting)], g') _ _ (by dsimp only; omega) ⟨by dsimp only; omega, by dsimp only; rw [List.length_append, List.length_singleton]; omega, H4.out.2, (fun s hs => ?_), H4.out.1⟩ yS yS (fun d o e => e))
   rcases List.mem_append.1 hs with hs | hs
   ·exact H.out.2.1 s hs
   ·obtain rfl := List.mem_singleton.1 hs
    exact H.out.2.2.2.2.2.1
  | some y =>
   obtain ⟨bb, cap, j⟩ := y
   have hb := g3.nb bb cap j rfl
   have o1 : ¬ bs = bb := fun h => hb.1 h.symm
   have o2 : ¬ b4 = bb := fun h => hb.2.1 h.symm
   have o3 : ¬ b5 = bb := fun h => hb.2.2.1 h.symm
   have hok : GR.At 61 3 (SR 61 ⟨Rs.map Sitting.cells, some (bb, cap, j)⟩) (Rs.map Sitting.cells) bb cap j := g3.ok
   have hle := hok.le
   rw [List.length_map] at hle
   have hcap := hok.cap
   have hjf := hok.jf
   have htk : ((Rs.map Sitting.cells).flatten ++ j).take (Rs.length * 3) = (Rs.map Sitting.cells).flatten := List.take_left' (zhk Rs)
   have hsl := ymm Rs
   have hrows := H.out.2.2.2.2.2.1.rows
   dsimp only at hrows
   have HH := Box.mk (And.intro htk (And.intro hle (And.intro hcap (And.intro hjf (And.intro hsl hrows)))))
   clear htk hle hcap hjf hsl hrows hok
   simp only [GR.cell_some, SR, List.length_map]
   repeat' (first | (with_reducible first | refine zac yU yU yE ?_ | refine zab ?_ | refine DS.seq ?_ | refine zaa ?_ | (refine zbc yE ?_; refine zdh ?_) | refine DS.block ?_ | refine DS.skip ?_) | fail)
   obtain ⟨htk, hle, hcap, hjf, hsl, hrows⟩ := HH.out
   refine yrj (t := 131) (S1 := [(bs, srcO x1)]) (S2 := [(b5, .cells (zgu sz st ab wi PL sh (.own false 47 4 (M.map Member.cells)) (.v (.slice (some ⟨bb, 0, none⟩) Rs.length cap))) 26), (b4, .cells zfy 26)]) (x0 := ptr bs) (pre := [I sz, I st, I ab, I wi, ints PL, Bo sh, .lst (M.map Member.cells)]) (cs := (Rs.map Sitting.cells).flatten ++ j) (b := bb) (len := Rs.length) (cap := cap) (sz := 3) (T := 61) (cl := Rs.map Sitting.cells) (R := ztl bs x1 (zcu ⟨sz, st, ab, wi, PL, sh, M, []⟩ Rs)) inferInstance yR yH hrd (by simp only [zaf, o1, o2, o3, ↓reduceIte])
    (fun v hv => (List.mem_append.1 hv).elim (zyb Rs v) (hjf v)) (by rw [List.length_map]) (fun c hc => by obtain ⟨s, _, rfl⟩ := List.mem_map.1 hc; rfl) (by rw [htk, zxz]) ⟨hle, hcap⟩ (fun d o e => ?_) (fun d o e => ?_) (fun v S' hv => ?_) (fun d c T' e v hv => ?_) (fun v S0 hR0 hdis => ?_)
   ·simp only [zaf, zcg, zbk, zbw, o1, o2, o3, ↓reduceIte] at e ⊢
    by_cases c0 : bs = d
    ·rw [if_pos c0] at e ⊢; exact e
    ·rw [if_neg c0] at e; cases e
   ·have c0 : ¬ bs = d := fun h => by subst h; simp only [zaf, zcg, n5', n4', ↓reduceIte] at e; cases e
    simp only [zbk, zbw, o1, o2, o3, ↓reduceIte]
    refine ⟨by rw [zaf, if_neg c0]; exact e, by rw [zaf, if_neg c0]; rfl⟩
   ·obtain ⟨bp, hbp, rfl, rfl⟩ := hv
    rw [htk]
    refine ⟨Safe.agg fun v hv => ?_, rfl, fun d c T' e v hv => ?_⟩
    ·simp only [List.mem_cons, List.not_mem_nil, or_false] at hv
     rcases hv with rfl | rfl | rfl
     ·exact Safe.rows hsl (fun r hr => by have := hrows r hr; omega)
     ·exact Safe.v _
     ·exact Safe.v _
    ·simp only [zaf, zcg] at e
     by_cases c0 : bp = d
     ·rw [if_pos c0] at e; cases e
      obtain ⟨p, _, rfl⟩ := List.mem_map.1 hv
      unfold ptC
      split
      ·exact Safe.v _
      ·exact Safe.ints (fun v hv => (hsl v hv).1) p
     rw [if_neg c0] at e
     by_cases c1 : bs = d
     ·rw [if_pos c1] at e; cases e
      obtain rfl := List.mem_singleton.1 hv
      exact Safe.v _
     ·rw [if_neg c1] at e; cases e
   ·rw [htk]
    simp only [zaf, zcg] at e
    by_cases c0 : b5 = d
    ·rw [if_pos c0] at e; cases e
     simp only [zgu, List.mem_cons, List.not_mem_nil, or_false] at hv
     rcases hv with rfl | rfl | rfl | rfl | rfl | rfl | rfl | rfl
     ·exact Safe.v _
     ·exact Safe.v _
     ·exact Safe.v _
     ·exact Safe.v _
     ·exact (Safe.ints (fun v hv => (hsl v hv).1) PL).own
     ·exact Safe.v _
     ·refine (Safe.nums (fun v hv => (hsl v hv).1) fun c hc v hv => ?_).own
      obtain ⟨m, _, rfl⟩ := List.mem_map.1 hc
      simp only [Member.cells, List.mem_cons, List.not_mem_nil, or_false] at hv
      rcases hv with rfl | rfl | rfl | rfl <;> exact ⟨_, rfl, fun _ _ _ h => by cases h⟩
     ·exact Safe.v _
    rw [if_neg c0] at e
    by_cases c1 : b4 = d
    ·rw [if_pos c1] at e; cases e
     simp only [zfy, List.mem_cons, List.not_mem_nil, or_false] at hv
     rcases hv with rfl | rfl | rfl | rfl | rfl | rfl | rfl | rfl <;> exact Safe.v _
    ·rw [if_neg c1] at e; cases e
   clear htk hle hcap hjf hsl hrows
   obtain ⟨bp, hbp, rfl, rfl⟩ := hR0
   obtain ⟨hn, hnb⟩ := hdis bp _ (by rw [zaf, if_pos rfl])
   have d5 : ¬ b5 = bp := fun h => by rw [zaf, if_pos h] at hn; cases hn
   have d4 : ¬ b4 = bp := fun h => by rw [zaf, if_neg d5, zaf, if_pos h] at hn; cases hn
   clear hn hdis
   have hpl := H.out.2.2.2.2.2.2
   dsimp only at hpl
   refine zdy (E' := [(131, .agg [rows (zay (zcu ⟨sz, st, ab, wi, PL, sh, M, []⟩ Rs) x1).1, .v (.slice (some ⟨bp, 0, none⟩) (zcn (zcu ⟨sz, st, ab, wi, PL, sh, M, []⟩ Rs) x1).1.length (zcn (zcu ⟨sz, st, ab, wi, PL, sh, M, []⟩ Rs) x1).1.length), .v (.slice none 0 0)]), (13, I cnt), (0, ptr bs), (4, ptr b4), (5, ptr b5)]) (S' := (bp, .cells ((zcn (zcu ⟨sz, st, ab, wi, PL, sh, M, []⟩ Rs) x1).1.map ptC) 22) :: (bs, srcO (zcn (zcu ⟨sz, st, ab, wi, PL, sh, M, []⟩ Rs) x1).2) :: (b5, .cells (zgu sz st ab wi PL sh (.own false 47 4 (M.map Member.cells)) (GR.cell ⟨Rs.map Sitting.cells, some (bb, cap, j)⟩)) 26) :: (b4, .cells zfy 26) :: SR 61 ⟨Rs.map Sitting.cells, some (bb, cap, j)⟩) (zel (by rw [hpl]; simp (disch := omega) only [go_sem, ↓reduceIte, Nat.reduceEqDiff, zew, zfl, and_self, zas, zav])) (fun d o e => ?_) ?_
   ·simp only [GR.cell_some, SR, List.length_map, zaf, zcg, zas, zav] at e ⊢
    by_cases c0 : bb = d
    ·subst c0
     rw [if_pos rfl]
     rw [if_neg (fun h => hnb h), if_neg o1, if_neg o3, if_neg o2, if_pos rfl] at e
     exact e
    ·rw [if_neg c0]
     rw [if_neg c0] at e
     exact e
   refine yaa bs b4 b5 bp (zcn (zcu ⟨sz, st, ab, wi, PL, sh, M, []⟩ Rs) x1).2 sz st ab wi cnt sh PL M Rs (zay (zcu ⟨sz, st, ab, wi, PL, sh, M, []⟩ Rs) x1).1 (zcn (zcu ⟨sz, st, ab, wi, PL, sh, M, []⟩ Rs) x1).1 ⟨Rs.map Sitting.cells, some (bb, cap, j)⟩ hszB hsz hst hwi (by omega) hpsL g3 n4 n4' n5 n5' m5 m5' (fun h => hbp h.symm) hbp (fun h => d4 h) (fun h => d4 h.symm) (fun h => d5 h) (fun h => d5 h.symm) (fun b' c' j' h => by cases h; exact fun h => hnb h.symm) yR yR yR (fun g' hg' => ?_)
   have nx := next g' hg'
   have H4 := Box.mk (And.intro nx hg')
   clear nx hg' next hpl
   repeat' (first | (with_reducible first | refine zac yU yU yE ?_ | refine zab ?_ | refine zaa ?_ | refine DS.blk ?_) | fail)
   refine DS.back (hB (k - 1, cnt - 1, (zhn ⟨sz, st, ab, wi, PL, sh, M, []⟩ x1 Rs).2, Rs ++ [(⟨(zay (zcu ⟨sz, st, ab, wi, PL, sh, M, []⟩ Rs) x1).1, (zcn (zcu ⟨sz, st, ab, wi, PL, sh, M, []⟩ Rs) x1).1, (zhn ⟨sz, st, ab, wi, PL, sh, M, []⟩ x1 Rs).1⟩ : Sitting)], g') _ _ (by dsimp only; omega) ⟨by dsimp only; omega, by dsimp only; rw [List.length_append, List.length_singleton]; omega, H4.out.2, (fun s hs => ?_), H4.out.1⟩ yS yS (fun d o e => e))
   rcases List.mem_append.1 hs with hs | hs
   ·exact H.out.2.1 s hs
   ·obtain rfl := List.mem_singleton.1 hs
    exact H.out.2.2.2.2.2.1
 ·obtain rfl : k = 0 := by omega
  cases blk with
  | none =>
   have hnil : Rs = [] := by
    have : Rs.map Sitting.cells = [] := g3.ok
    simpa using this
   simp only [GR.cell_none, SR]
   repeat' (first | (with_reducible first | refine zac yU yU yE ?_ | refine zab ?_ | refine DS.seq ?_ | refine zaa ?_ | (refine zbc yE ?_; refine zdk ?_) | refine DS.exit yU ?_) | (refine DS.store yR yE yE yE yE yU (by exact ⟨by with_unfolding_all rfl, by (try simp only [List.length_map, List.length_append, List.length_set, List.length_replicate, List.length_cons, List.length_nil]); omega⟩) ?_; simp only [zbt, zbb, zbh, zcm, zbq, zbo, zbr]; try simp only [zao, zag, zah, Nat.reduceEqDiff, ↓reduceIte, zal, zam, zar, zak, zai, zap, zan]) | fail)
   subst hnil
   simp only [zfy, List.map_cons, List.map_nil, zcv, zbl, zbb, zbh, zcy, zcl, setS, n4, m5', ↓reduceIte, Nat.reduceAdd, Nat.zero_add]
   have hRR := H.out.2.2.2.1
   rw [H.out.2.2.1, zez] at hRR
   refine zpo [(bs, srcO x1)] (vs := [(zcu ⟨sz, st, ab, wi, PL, sh, M, []⟩ []).val]) yH (fun d o e => ?_) hRR
   simp only [zaf, zcg] at e ⊢
   by_cases c0 : bs = d
   ·rw [if_pos c0] at e ⊢; exact e
   ·rw [if_neg c0] at e; cases e
  | some y =>
   obtain ⟨bb, cap, j⟩ := y
   have hb := g3.nb bb cap j rfl
   have o1 : ¬ bs = bb := fun h => hb.1 h.symm
   have o2 : ¬ b4 = bb := fun h => hb.2.1 h.symm
   have o3 : ¬ b5 = bb := fun h => hb.2.2.1 h.symm
   have hok : GR.At 61 3 (SR 61 ⟨Rs.map Sitting.cells, some (bb, cap, j)⟩) (Rs.map Sitting.cells) bb cap j := g3.ok
   simp only [GR.cell_some, SR, List.length_map]
   refine zml (b := bb) (b' := b5) (i := 7) (sz := 3) (len := Rs.length) (cap := cap) (l' := zgu sz st ab wi PL sh (.own false 47 4 (M.map Member.cells)) (.v (.slice (some ⟨bb, 0, none⟩) Rs.length cap))) (l := (Rs.map Sitting.cells).flatten ++ j) (T := 61) (T' := 26) o3 (by simp only [zaf, n5, ↓reduceIte]) yR (by simp only [zaf, o1, o2, o3, ↓reduceIte]) (by rw [List.length_append, zhk]; omega) ⟨by have := hok.le; rw [List.length_map] at this; exact this, hok.cap⟩ ?_
   have hch : chunk 3 Rs.length (((Rs.map Sitting.cells).flatten ++ j).map V.copy) = Rs.map Sitting.cells := by
    rw [List.map_append, yht]
    have := zid (sz := 3) (j := j.map V.copy) (l := Rs.map Sitting.cells) (fun c hc => by obtain ⟨s, _, rfl⟩ := List.mem_map.1 hc; rfl)
    rw [List.length_map] at this; exact this
   rw [hch]
   clear hch hok
   simp only [setS, zbk, zbw, o1, o2, o3, n5, ↓reduceIte, zcy, zcl, zgu]
   repeat' (first | (with_reducible first | refine zac yU yU yE ?_ | refine zab ?_ | refine DS.seq ?_ | refine zaa ?_ | (refine zbc yE ?_; refine zdk ?_) | refine DS.exit yU ?_) | (refine DS.store yR yE yE yE yE yU (by exact ⟨by with_unfolding_all rfl, by (try simp only [List.length_map, List.length_append, List.length_set, List.length_replicate, List.length_cons, List.length_nil]); omega⟩) ?_; simp only [zbt, zbb, zbh, zcm, zbq, zbo, zbr]; try simp only [zao, zag, zah, Nat.reduceEqDiff, ↓reduceIte, zal, zam, zar, zak, zai, zap, zan]) | fail)
   simp only [zfy, List.map_cons, List.map_nil, zcv, zbl, zbb, zbh, zcy, zcl, setS, n4, m5', ↓reduceIte, Nat.reduceAdd, Nat.zero_add]
   have hRR := H.out.2.2.2.1
   rw [H.out.2.2.1, zez] at hRR
   refine zpo [(bs, srcO x1)] (vs := [(zcu ⟨sz, st, ab, wi, PL, sh, M, []⟩ Rs).val]) yH (fun d o e => ?_) hRR
   simp only [zaf, zcg] at e ⊢
   by_cases c0 : bs = d
   ·rw [if_pos c0] at e ⊢; exact e
   ·rw [if_neg c0] at e; cases e
end Go.XL
namespace Go.XL
open Go.Proofs
set_option maxRecDepth 100000
set_option maxHeartbeats 8000000
theorem yX33 {p : Prop} (h : p := by (simp (disch := omega) only [go_sem, dopV, Option.map_some, Option.map_none, Option.bind_some, Option.bind_none, ↓reduceIte, Nat.reduceEqDiff, Nat.reduceLT, Nat.reduceLeDiff, Nat.reduceAdd, Nat.reduceMul, Nat.reduceSub, Nat.zero_add, Nat.add_zero, Nat.zero_le, Nat.zero_mul, Nat.mul_one, Nat.one_mul, Int.natCast_zero, Int.toNat_zero, Int.reduceToNat, Int.reduceLT, Int.reduceLE, Int.reduceEq, decide_true, decide_false, true_and, and_true, Bool.and_self, Bool.and_true, Bool.true_and, Bool.not_true, Bool.not_false, IntWalk.toNatUp, IntWalk.iteOmega, IntWalk.i64_in, Option.isSome_some, not_true_eq_false, not_false_eq_true, Option.getD_some, Option.getD_none, Int.toNat_natCast, List.length_map, List.getElem?_map, List.getElem?_eq_getElem, V.flat, V.one, List.all_cons, List.all_nil, *, Value.oneCell']; try exact rfl)) : p := h
theorem yX34 {p : Prop} (h : p := by first | exact rfl | (simp (disch := omega) only [go_sem, dopV, Option.map_some, Option.map_none, Option.bind_some, Option.bind_none, ↓reduceIte, Nat.reduceEqDiff, Nat.reduceLT, Nat.reduceLeDiff, Nat.reduceAdd, Nat.reduceMul, Nat.reduceSub, Nat.zero_add, Nat.add_zero, Nat.zero_le, Nat.zero_mul, Nat.mul_one, Nat.one_mul, Int.natCast_zero, Int.toNat_zero, Int.reduceToNat, Int.reduceLT, Int.reduceLE, Int.reduceEq, decide_true, decide_false, true_and, and_true, Bool.and_self, Bool.and_true, Bool.true_and, Bool.not_true, Bool.not_false, IntWalk.toNatUp, IntWalk.iteOmega, IntWalk.i64_in, Option.isSome_some, not_true_eq_false, not_false_eq_true, Option.getD_some, Option.getD_none, Int.toNat_natCast, List.length_map, List.getElem?_map, List.getElem?_eq_getElem, V.flat, V.one, List.all_cons, List.all_nil, *, Value.oneCell']; exact rfl)) : p := h
theorem yX35 {p : Prop} (h : p := by (simp (disch := omega) only [go_sem, dopV, Option.map_some, Option.map_none, Option.bind_some, Option.bind_none, ↓reduceIte, Nat.reduceEqDiff, Nat.reduceLT, Nat.reduceLeDiff, Nat.reduceAdd, Nat.reduceMul, Nat.reduceSub, Nat.zero_add, Nat.add_zero, Nat.zero_le, Nat.zero_mul, Nat.mul_one, Nat.one_mul, Int.natCast_zero, Int.toNat_zero, Int.reduceToNat, Int.reduceLT, Int.reduceLE, Int.reduceEq, decide_true, decide_false, true_and, and_true, Bool.and_self, Bool.and_true, Bool.true_and, Bool.not_true, Bool.not_false, IntWalk.toNatUp, IntWalk.iteOmega, IntWalk.i64_in, Option.isSome_some, not_true_eq_false, not_false_eq_true, Option.getD_some, Option.getD_none, Int.toNat_natCast, List.length_map, List.getElem?_map, List.getElem?_eq_getElem, V.flat, V.one, List.all_cons, List.all_nil, *, Value.oneCell']; first | done | exact rfl)) : p := h
theorem zzz (bs b4 b5 : Nat) (x most sz st ab wi : Int) (sh : Bool) (P : List Int) (hm : 0 ≤ most ∧ most ≤ 3) (hszB : Box (∃ z : Nat, sz = z)) (hsz : 3 ≤ sz ∧ sz ≤ 4) (hst : 0 ≤ st ∧ st ≤ 1000000) (hwi : 0 ≤ wi ∧ wi ≤ 2) (hPL : P.length ≤ 4) (n4 : ¬ bs = b4) (n4' : ¬ b4 = bs) (n5 : ¬ bs = b5) (n5' : ¬ b5 = bs) (m5 : ¬ b4 = b5) (m5' : ¬ b5 = b4) {v0 : VH} {R : V → Sto → Prop} {a c b : Code}
  (h1 : Tryz.f40.body.bind (forC 14) = some (a, c, b))
  (hR : R (zcu ⟨sz, st, ab, wi, P, sh, (zdd (sz * zcw x 1 3 + zaj (zae x) 2).toNat 0 (zae (zae x)) []).1, []⟩ (zez ⟨sz, st, ab, wi, P, sh, (zdd (sz * zcw x 1 3 + zaj (zae x) 2).toNat 0 (zae (zae x)) []).1, []⟩ (zaj (zdd (sz * zcw x 1 3 + zaj (zae x) 2).toNat 0 (zae (zae x)) []).2 (most + 1)).toNat (zae (zdd (sz * zcw x 1 3 + zaj (zae x) 2).toNat 0 (zae (zae x)) []).2) []).1).val [(bs, srcO (zez ⟨sz, st, ab, wi, P, sh, (zdd (sz * zcw x 1 3 + zaj (zae x) 2).toNat 0 (zae (zae x)) []).1, []⟩ (zaj (zdd (sz * zcw x 1 3 + zaj (zae x) 2).toNat 0 (zae (zae x)) []).2 (most + 1)).toNat (zae (zdd (sz * zcw x 1 3 + zaj (zae x) 2).toNat 0 (zae (zae x)) []).2) []).2)]) :
  DS Tryz.prog 207 ⟨none, v0⟩ (FinV Tryz.prog [ResultVar.cell 4 26] R) [.code a, .code c, .code b]
   [(10, I 0), (0, ptr bs), (1, I most), (4, ptr b4), (5, ptr b5)] [(bs, srcO x), (b5, .cells (zgu sz st ab wi P sh (.v (.slice none 0 0)) (.v (.slice none 0 0))) 26), (b4, .cells zfy 26)] := by
 have h1 := Option.some.inj ((show Tryz.f40.body.bind (forC 14) = some _ from rfl).symm.trans h1)
 obtain ⟨rfl, rfl, rfl⟩ := Prod.mk.inj h1 |>.imp id Prod.mk.inj
 clear h1
 have HR := Box.mk hR
 clear hR
 have k1 := zbs x 3
 have k2 := zbs (zae x) 2
 have km : 3 ≤ sz * zcw x 1 3 ∧ sz * zcw x 1 3 ≤ 12 := by
  have kr : zcw x 1 3 = 1 + zaj x 3 := rfl
  rw [kr]
  rcases (by omega : sz = 3 ∨ sz = 4) with rfl | rfl <;> omega
 (refine zmm (id := 14) (bs := bs) (x := x) (by simp only [zaf, zcg, ↓reduceIte, *]) [0, 1, 2, 3, 4, 5, 6] 7 (by kernel_rfl) zdq (by simp only [zba, zbd, zbe, zbf, zaz]; exact rfl) (by simp only [zaw, zax, List.drop_nil]; exact rfl) ?_; simp only [zbk, zbw, ↓reduceIte, *])
 repeat' (first | (with_reducible first | refine zac yU yU yE ?_ | refine zab ?_ | refine DS.block ?_ | refine zbv yU yU yU yE ?_ | refine zjh yU yU yU yU yE ?_) | (with_reducible refine DD.nil ?_; simp only [zas, zav]) | (refine zoy inferInstance (ydp bs x 1 3 (by omega)) yU yF yF ?_; simp only [zci, zcs, Nat.reduceEqDiff, ↓reduceIte]; (try simp only [zbk, zbw, ↓reduceIte, *])) | (refine zoy inferInstance (zei bs (zae x) 2 (by omega)) yU yF yF ?_; simp only [zci, zcs, Nat.reduceEqDiff, ↓reduceIte]; (try simp only [zbk, zbw, ↓reduceIte, *])) | fail)
 refine yap (b := b5) (off := 6) (e := 47) (sz := 4) (cl := zgu sz st ab wi P sh (.v (.slice none 0 0)) (.v (.slice none 0 0))) (T' := 26) (by simp only [zaf, zcg, n5, ↓reduceIte]) yR ?_
 simp only [zgu, setS, n5, ↓reduceIte, zcy, zcl]
 obtain ⟨N, hN⟩ : ∃ N : Nat, (N : Int) = sz * zcw x 1 3 + zaj (zae x) 2 := ⟨(sz * zcw x 1 3 + zaj (zae x) 2).toNat, by omega⟩
 have hNb : N ≤ 13 := by omega
 refine zco [0, 1, 4, 5] yN (fun (y : Nat × Int × Int × Int × List Member) => [(10, I y.2.2.1), (11, I y.2.1)]) (fun (y : Nat × Int × Int × Int × List Member) => [(bs, srcO y.2.2.2.1), (b5, .cells [I sz, I st, I ab, I wi, .own false 3 1 (P.map cI), Bo sh, .own false 47 4 (y.2.2.2.2.map Member.cells), .v (.slice none 0 0)] 26), (b4, .cells zfy 26)]) (fun (y : Nat × Int × Int × Int × List Member) => (y.2.1 ≤ y.1 ∧ (y.1 : Int) ≤ y.2.1) ∧ (0 ≤ y.2.2.1 ∧ y.2.2.1 + 3 * y.1 ≤ 39) ∧ y.2.2.2.2.length + y.1 ≤ 13 ∧ zdd N 0 (zae (zae x)) [] = zdd y.1 y.2.2.1 y.2.2.2.1 y.2.2.2.2) (fun (y : Nat × Int × Int × Int × List Member) => y.1) (N, sz * zcw x 1 3 + zaj (zae x) 2, 0, zae (zae x), []) yS (fun b o e => by exact e) ⟨by dsimp only; omega, by dsimp only; omega, by simp; omega, rfl⟩ (fun y B hI hB => ?_); try dsimp only at hI hB; simp only [zas, zav]
 obtain ⟨k, cnt, id, x1, out⟩ := y
 dsimp only at hI hB ⊢
 obtain ⟨g0, g1, g2, g3⟩ := hI
 have H := Box.mk (And.intro g3 hN)
 clear g3 hN
 have k3 := zbs x1 3
 have kr : 1 ≤ zcw x1 1 3 ∧ zcw x1 1 3 ≤ 3 := by
  have : zcw x1 1 3 = 1 + zaj x1 3 := rfl
  omega
 repeat' (first | (with_reducible first | refine zac yU yU yX8 ?_ | refine zab ?_ | refine DS.seq ?_ | refine zaa ?_ | (refine zbc yX8 ?_; refine zeo (fun _ => ?_) (fun _ => ?_)) | refine DS.block ?_ | refine DS.exit yU ?_ | refine DS.skip ?_) | (refine zfe inferInstance (ydp bs x1 1 3 (by omega)) yR yX33 yX33 ?_; (try simp only [zbk, zbw, ↓reduceIte, *])) | fail)
 ·refine zex yR yU yU (fun b12 h12 => ?_)
  have q1 : ¬ bs = b12 := fun e => by simp only [zaf, e, ↓reduceIte] at h12; first | (cases h12; done) | (split at h12 <;> cases h12)
  have q2 : ¬ b5 = b12 := fun e => by simp only [zaf, e, ↓reduceIte] at h12; first | (cases h12; done) | (split at h12 <;> cases h12)
  have q3 : ¬ b4 = b12 := fun e => by simp only [zaf, e, ↓reduceIte] at h12; first | (cases h12; done) | (split at h12 <;> cases h12; done) | (split at h12; cases h12; split at h12 <;> cases h12)
  have q1' : ¬ b12 = bs := fun e => q1 e.symm
  have q2' : ¬ b12 = b5 := fun e => q2 e.symm
  have q3' : ¬ b12 = b4 := fun e => q3 e.symm
  clear h12
  have f1 := zbs (zae (zae x1)) 21
  have f2 := zbs (zae (zae (zae x1))) 3
  have f3 := zbs (zae (zae (zae (zae x1)))) 3
  have f4 := zbs (zae (zae (zae (zae x1)))) 2
  have f5 := zbs (zae (zae (zae (zae (zae x1))))) 2
  repeat' (first | (with_reducible refine zik (t := 116) yU yX8 yX8 yX8 yX8 ?_; simp only [zcl, zcy]) | (with_reducible first | refine zac yU yU yX8 ?_ | refine zab ?_ | refine DS.seq ?_ | refine zaa ?_ | (refine zbc yX8 ?_; refine yfg (fun _ => ?_) (fun _ => ?_)) | refine DS.blk ?_ | refine DS.skip ?_) | (refine zff yU yX8 yX8 ?_; simp only [go_sem, Nat.zero_add, Nat.reduceAdd]) | (refine DS.append (mm := false) yU yX8 yX8 yU (by decide) yX8 (by first | exact .inl rfl | exact .inr ⟨rfl, rfl⟩) yX8 yX34 (by first | exact zat zdw _ | exact zat zet _ | exact zat Member.len _ | exact zat Sitting.len _ | exact zat Ruling.len _ | (simp only [List.mem_cons, List.not_mem_nil, or_false, forall_eq]; rfl) | simp) ⟨by (try simp only [List.length_map, List.length_cons, List.length_nil, List.length_append, List.length_take, List.length_drop]); omega, by decide⟩ ?_; simp only [zao, zag, zah, Nat.reduceEqDiff, ↓reduceIte, zal, zam, zar, zak, zai, zap, zan]) | (refine zfe inferInstance (zmz bs (zae x1) 4 (by omega)) yR yX35 yX35 ?_; (try simp only [zbk, zbw, ↓reduceIte, *])) | (refine zfe inferInstance (zei bs (zae (zae x1)) 21 (by omega)) yR yX35 yX35 ?_; (try simp only [zbk, zbw, ↓reduceIte, *])) | (refine zfe inferInstance (zmz bs (zae (zae (zae x1))) 9 (by omega)) yR yX35 yX35 ?_; (try simp only [zbk, zbw, ↓reduceIte, *])) | (refine zfe inferInstance (zmz bs (zae (zae x1)) 9 (by omega)) yR yX35 yX35 ?_; (try simp only [zbk, zbw, ↓reduceIte, *])) | (refine zfe inferInstance (zei bs (zae (zae (zae (zae x1)))) 3 (by omega)) yR yX35 yX35 ?_; (try simp only [zbk, zbw, ↓reduceIte, *])) | (refine zfe inferInstance (zei bs (zae (zae (zae x1))) 3 (by omega)) yR yX35 yX35 ?_; (try simp only [zbk, zbw, ↓reduceIte, *])) | (refine DS.store yR yX8 yX8 yX8 yX8 yU (by exact ⟨by with_unfolding_all rfl, by (try simp only [List.length_map, List.length_append, List.length_set, List.length_replicate, List.length_cons, List.length_nil]); omega⟩) ?_; simp only [zbt, zbb, zbh, zcm, zbq, zbo, zbr]; try simp only [zao, zag, zah, Nat.reduceEqDiff, ↓reduceIte, zal, zam, zar, zak, zai, zap, zan]) | fail)
  ·rename_i eA eB eC
   simp only [setS, zbk, zbw, ↓reduceIte, zcy, zcl, n5, n5', n4, n4', m5, m5', q1, q1', q2, q2', q3, q3']
   (refine zmm (id := 23) (bs := bs) (x := zae (zae (zae (zae (zae x1))))) (by simp only [zaf, zcg, ↓reduceIte, *]) [0, 1, 2, 3] 4 (by kernel_rfl) zdq (by simp only [zba, zbd, zbe, zbf, zaz]; exact rfl) (by simp only [zaw, zax, List.drop_nil]; exact rfl) ?_; simp only [zbk, zbw, ↓reduceIte, *])
   repeat' (first | (with_reducible refine zik (t := 116) yU yX8 yX8 yX8 yX8 ?_; simp only [zcl, zcy]) | (with_reducible first | refine zac yU yU yX8 ?_ | refine zab ?_ | refine zaa ?_ | refine DS.blk ?_) | (refine zff yU yX8 yX8 ?_; simp only [go_sem, Nat.zero_add, Nat.reduceAdd]) | (refine DS.append (mm := false) yU yX8 yX8 yU (by decide) yX8 (by first | exact .inl rfl | exact .inr ⟨rfl, rfl⟩) yX8 yX34 (by first | exact zat zdw _ | exact zat zet _ | exact zat Member.len _ | exact zat Sitting.len _ | exact zat Ruling.len _ | (simp only [List.mem_cons, List.not_mem_nil, or_false, forall_eq]; rfl) | simp) ⟨by (try simp only [List.length_map, List.length_cons, List.length_nil, List.length_append, List.length_take, List.length_drop]); omega, by decide⟩ ?_; simp only [zao, zag, zah, Nat.reduceEqDiff, ↓reduceIte, zal, zam, zar, zak, zai, zap, zan]) | (refine DS.store yR yX8 yX8 yX8 yX8 yU (by exact ⟨by with_unfolding_all rfl, by (try simp only [List.length_map, List.length_append, List.length_set, List.length_replicate, List.length_cons, List.length_nil]); omega⟩) ?_; simp only [zbt, zbb, zbh, zcm, zbq, zbo, zbr]; try simp only [zao, zag, zah, Nat.reduceEqDiff, ↓reduceIte, zal, zam, zar, zak, zai, zap, zan]) | with_reducible refine zbv yU yU yU yX8 ?_ | (with_reducible refine DD.nil ?_; simp only [zas, zav]) | (refine zoy inferInstance (zei bs (zae (zae (zae (zae (zae x1))))) 2 (by omega)) yU yX33 yX33 ?_; simp only [zci, zcs, Nat.reduceEqDiff, ↓reduceIte]; (try simp only [zbk, zbw, ↓reduceIte, *])) | fail)
   have hk : zdd k id x1 out = zdd (k - 1) (id + zcw x1 1 3) (zae (zae (zae (zae (zae (zae x1)))))) (out ++ [⟨id + zcw x1 1 3, zaj (zae (zae x1)) 21 - 10, zaj (zae (zae (zae (zae x1)))) 3, zaj (zae (zae (zae (zae x1)))) 3 + zaj (zae (zae (zae (zae (zae x1))))) 2⟩]) := by
    obtain ⟨k', rfl⟩ : ∃ k', k = k' + 1 := ⟨k - 1, by omega⟩
    rw [zdd]; simp [zic, zkv, eB, eC]
   refine DS.back (hB (k - 1, cnt - 1, id + zcw x1 1 3, zae (zae (zae (zae (zae (zae x1))))), out ++ [⟨id + zcw x1 1 3, zaj (zae (zae x1)) 21 - 10, zaj (zae (zae (zae (zae x1)))) 3, zaj (zae (zae (zae (zae x1)))) 3 + zaj (zae (zae (zae (zae (zae x1))))) 2⟩]) _ _ (by dsimp only; omega) ⟨by dsimp only; omega, by dsimp only; omega, by simp; omega, H.out.1.trans hk⟩ yS yS (fun b o e => ?_))
   dsimp only at e
   rw [List.map_append, List.map_singleton, Member.cells] at e
   simp only [setS, zbk, zbw, ↓reduceIte, zcy, zcl, n5, n5', n4, n4', m5, m5', q1, q1', q2, q2', q3, q3']
   simp only [zaf, zcg] at e ⊢
   by_cases hb : bs = b
   ·subst hb; simp only [n5', n4', q1', ↓reduceIte] at e ⊢; exact e
   by_cases hb2 : b5 = b
   ·subst hb2; simp only [n5, m5, q2', ↓reduceIte] at e ⊢; exact e
   by_cases hb3 : b4 = b
   ·subst hb3; simp only [n4, m5', q3', hb, hb2, ↓reduceIte] at e ⊢; exact e
   ·simp only [hb, hb2, hb3, ↓reduceIte] at e; cases e
  ·rename_i eA eB eC
   have hk : zdd k id x1 out = zdd (k - 1) (id + zcw x1 1 3) (zae (zae (zae (zae x1)))) (out ++ [⟨id + zcw x1 1 3, zaj (zae (zae x1)) 21 - 10, 0, -1⟩]) := by
    obtain ⟨k', rfl⟩ : ∃ k', k = k' + 1 := ⟨k - 1, by omega⟩
    rw [zdd]; simp [zic, zkv, eB, eC]
   refine DS.back (hB (k - 1, cnt - 1, id + zcw x1 1 3, zae (zae (zae (zae x1))), out ++ [⟨id + zcw x1 1 3, zaj (zae (zae x1)) 21 - 10, 0, -1⟩]) _ _ (by dsimp only; omega) ⟨by dsimp only; omega, by dsimp only; omega, by simp; omega, H.out.1.trans hk⟩ yS yS (fun b o e => ?_))
   dsimp only at e
   rw [List.map_append, List.map_singleton, Member.cells] at e
   simp only [setS, zbk, zbw, ↓reduceIte, zcy, zcl, n5, n5', n4, n4', m5, m5', q1, q1', q2, q2', q3, q3']
   simp only [zaf, zcg] at e ⊢
   by_cases hb : bs = b
   ·subst hb; simp only [n5', n4', q1', ↓reduceIte] at e ⊢; exact e
   by_cases hb2 : b5 = b
   ·subst hb2; simp only [n5, m5, q2', ↓reduceIte] at e ⊢; exact e
   by_cases hb3 : b4 = b
   ·subst hb3; simp only [n4, m5', q3', hb, hb2, ↓reduceIte] at e ⊢; exact e
   ·simp only [hb, hb2, hb3, ↓reduceIte] at e; cases e
  ·rename_i eA eB eC
   simp only [setS, zbk, zbw, ↓reduceIte, zcy, zcl, n5, n5', n4, n4', m5, m5', q1, q1', q2, q2', q3, q3']
   (refine zmm (id := 23) (bs := bs) (x := zae (zae (zae (zae x1)))) (by simp only [zaf, zcg, ↓reduceIte, *]) [0, 1, 2, 3] 4 (by kernel_rfl) zdq (by simp only [zba, zbd, zbe, zbf, zaz]; exact rfl) (by simp only [zaw, zax, List.drop_nil]; exact rfl) ?_; simp only [zbk, zbw, ↓reduceIte, *])
   repeat' (first | (with_reducible refine zik (t := 116) yU yX8 yX8 yX8 yX8 ?_; simp only [zcl, zcy]) | (with_reducible first | refine zac yU yU yX8 ?_ | refine zab ?_ | refine zaa ?_ | refine DS.blk ?_) | (refine zff yU yX8 yX8 ?_; simp only [go_sem, Nat.zero_add, Nat.reduceAdd]) | (refine DS.append (mm := false) yU yX8 yX8 yU (by decide) yX8 (by first | exact .inl rfl | exact .inr ⟨rfl, rfl⟩) yX8 yX34 (by first | exact zat zdw _ | exact zat zet _ | exact zat Member.len _ | exact zat Sitting.len _ | exact zat Ruling.len _ | (simp only [List.mem_cons, List.not_mem_nil, or_false, forall_eq]; rfl) | simp) ⟨by (try simp only [List.length_map, List.length_cons, List.length_nil, List.length_append, List.length_take, List.length_drop]); omega, by decide⟩ ?_; simp only [zao, zag, zah, Nat.reduceEqDiff, ↓reduceIte, zal, zam, zar, zak, zai, zap, zan]) | (refine DS.store yR yX8 yX8 yX8 yX8 yU (by exact ⟨by with_unfolding_all rfl, by (try simp only [List.length_map, List.length_append, List.length_set, List.length_replicate, List.length_cons, List.length_nil]); omega⟩) ?_; simp only [zbt, zbb, zbh, zcm, zbq, zbo, zbr]; try simp only [zao, zag, zah, Nat.reduceEqDiff, ↓reduceIte, zal, zam, zar, zak, zai, zap, zan]) | with_reducible refine zbv yU yU yU yX8 ?_ | (with_reducible refine DD.nil ?_; simp only [zas, zav]) | (refine zoy inferInstance (zei bs (zae (zae (zae (zae x1)))) 2 (by omega)) yU yX33 yX33 ?_; simp only [zci, zcs, Nat.reduceEqDiff, ↓reduceIte]; (try simp only [zbk, zbw, ↓reduceIte, *])) | fail)
   have hk : zdd k id x1 out = zdd (k - 1) (id + zcw x1 1 3) (zae (zae (zae (zae (zae x1))))) (out ++ [⟨id + zcw x1 1 3, 0, zaj (zae (zae (zae x1))) 3, zaj (zae (zae (zae x1))) 3 + zaj (zae (zae (zae (zae x1)))) 2⟩]) := by
    obtain ⟨k', rfl⟩ : ∃ k', k = k' + 1 := ⟨k - 1, by omega⟩
    rw [zdd]; simp [zic, zkv, eB, eC]
   refine DS.back (hB (k - 1, cnt - 1, id + zcw x1 1 3, zae (zae (zae (zae (zae x1)))), out ++ [⟨id + zcw x1 1 3, 0, zaj (zae (zae (zae x1))) 3, zaj (zae (zae (zae x1))) 3 + zaj (zae (zae (zae (zae x1)))) 2⟩]) _ _ (by dsimp only; omega) ⟨by dsimp only; omega, by dsimp only; omega, by simp; omega, H.out.1.trans hk⟩ yS yS (fun b o e => ?_))
   dsimp only at e
   rw [List.map_append, List.map_singleton, Member.cells] at e
   simp only [setS, zbk, zbw, ↓reduceIte, zcy, zcl, n5, n5', n4, n4', m5, m5', q1, q1', q2, q2', q3, q3']
   simp only [zaf, zcg] at e ⊢
   by_cases hb : bs = b
   ·subst hb; simp only [n5', n4', q1', ↓reduceIte] at e ⊢; exact e
   by_cases hb2 : b5 = b
   ·subst hb2; simp only [n5, m5, q2', ↓reduceIte] at e ⊢; exact e
   by_cases hb3 : b4 = b
   ·subst hb3; simp only [n4, m5', q3', hb, hb2, ↓reduceIte] at e ⊢; exact e
   ·simp only [hb, hb2, hb3, ↓reduceIte] at e; cases e
  ·rename_i eA eB eC
   have hk : zdd k id x1 out = zdd (k - 1) (id + zcw x1 1 3) (zae (zae (zae x1))) (out ++ [⟨id + zcw x1 1 3, 0, 0, -1⟩]) := by
    obtain ⟨k', rfl⟩ : ∃ k', k = k' + 1 := ⟨k - 1, by omega⟩
    rw [zdd]; simp [zic, zkv, eB, eC]
   refine DS.back (hB (k - 1, cnt - 1, id + zcw x1 1 3, zae (zae (zae x1)), out ++ [⟨id + zcw x1 1 3, 0, 0, -1⟩]) _ _ (by dsimp only; omega) ⟨by dsimp only; omega, by dsimp only; omega, by simp; omega, H.out.1.trans hk⟩ yS yS (fun b o e => ?_))
   dsimp only at e
   rw [List.map_append, List.map_singleton, Member.cells] at e
   simp only [setS, zbk, zbw, ↓reduceIte, zcy, zcl, n5, n5', n4, n4', m5, m5', q1, q1', q2, q2', q3, q3']
   simp only [zaf, zcg] at e ⊢
   by_cases hb : bs = b
   ·subst hb; simp only [n5', n4', q1', ↓reduceIte] at e ⊢; exact e
   by_cases hb2 : b5 = b
   ·subst hb2; simp only [n5, m5, q2', ↓reduceIte] at e ⊢; exact e
   by_cases hb3 : b4 = b
   ·subst hb3; simp only [n4, m5', q3', hb, hb2, ↓reduceIte] at e ⊢; exact e
   ·simp only [hb, hb2, hb3, ↓reduceIte] at e; cases e
 ·have hR := HR.out
  have hNN : (sz * zcw x 1 3 + zaj (zae x) 2).toNat = N := by have := H.out.2; omega
  obtain rfl : k = 0 := by omega
  rw [hNN, H.out.1, zdd] at hR
  refine zdy (E' := [(121, ptr bs), (123, I (most + 1)), (0, ptr bs), (4, ptr b4), (5, ptr b5)]) (S' := [(bs, srcO x1), (b5, .cells (zgu sz st ab wi P sh (.own false 47 4 (out.map Member.cells)) (.v (.slice none 0 0))) 26), (b4, .cells zfy 26)]) (zel (by simp (disch := omega) only [go_sem, ↓reduceIte, Nat.reduceEqDiff, zew, zfl, and_self, zas, zav])) (fun _ _ e => e) ?_
  exact ycd bs b4 b5 x1 most sz st ab wi sh P out hm hszB hsz hst hwi (by omega) hPL n4 n4' n5 n5' m5 m5' yR yR yR hR
end Go.XL
namespace Go.XL
open Go.Proofs
set_option maxRecDepth 100000
set_option maxHeartbeats 8000000
theorem zsw (bs b4 b5 : Nat) (x most sz st ab wi : Int) (sh : Bool) (hm : 0 ≤ most ∧ most ≤ 3) (hszB : Box (∃ z : Nat, sz = z)) (hsz : 3 ≤ sz ∧ sz ≤ 4) (hst : 0 ≤ st ∧ st ≤ 1000000) (hwi : 0 ≤ wi ∧ wi ≤ 2) (n4 : ¬ bs = b4) (n4' : ¬ b4 = bs) (n5 : ¬ bs = b5) (n5' : ¬ b5 = bs) (m5 : ¬ b4 = b5) (m5' : ¬ b5 = b4) {v0 : VH} {R : V → Sto → Prop} {os l : List Oper} {cd : Code}
  (h1 : Tryz.f40.body.bind (regC 4) = some os) (h2 : os.drop 1 = l) (h3 : Tryz.f40.body.bind (zkc 4) = some cd)
  (hR : R (zcu ⟨sz, st, ab, wi, ((zds (zaj x 5 * 10) (sz - 2).toNat 1 (zae (zae x)) [zaj x 5 * 10 + zaj (zae x) 2] (zaj x 5 * 10 + zaj (zae x) 2)).1 ++ [-(zds (zaj x 5 * 10) (sz - 2).toNat 1 (zae (zae x)) [zaj x 5 * 10 + zaj (zae x) 2] (zaj x 5 * 10 + zaj (zae x) 2)).2.1]), sh, (zdd (sz * zcw ((zds (zaj x 5 * 10) (sz - 2).toNat 1 (zae (zae x)) [zaj x 5 * 10 + zaj (zae x) 2] (zaj x 5 * 10 + zaj (zae x) 2)).2.2) 1 3 + zaj (zae ((zds (zaj x 5 * 10) (sz - 2).toNat 1 (zae (zae x)) [zaj x 5 * 10 + zaj (zae x) 2] (zaj x 5 * 10 + zaj (zae x) 2)).2.2)) 2).toNat 0 (zae (zae ((zds (zaj x 5 * 10) (sz - 2).toNat 1 (zae (zae x)) [zaj x 5 * 10 + zaj (zae x) 2] (zaj x 5 * 10 + zaj (zae x) 2)).2.2))) []).1, []⟩ (zez ⟨sz, st, ab, wi, ((zds (zaj x 5 * 10) (sz - 2).toNat 1 (zae (zae x)) [zaj x 5 * 10 + zaj (zae x) 2] (zaj x 5 * 10 + zaj (zae x) 2)).1 ++ [-(zds (zaj x 5 * 10) (sz - 2).toNat 1 (zae (zae x)) [zaj x 5 * 10 + zaj (zae x) 2] (zaj x 5 * 10 + zaj (zae x) 2)).2.1]), sh, (zdd (sz * zcw ((zds (zaj x 5 * 10) (sz - 2).toNat 1 (zae (zae x)) [zaj x 5 * 10 + zaj (zae x) 2] (zaj x 5 * 10 + zaj (zae x) 2)).2.2) 1 3 + zaj (zae ((zds (zaj x 5 * 10) (sz - 2).toNat 1 (zae (zae x)) [zaj x 5 * 10 + zaj (zae x) 2] (zaj x 5 * 10 + zaj (zae x) 2)).2.2)) 2).toNat 0 (zae (zae ((zds (zaj x 5 * 10) (sz - 2).toNat 1 (zae (zae x)) [zaj x 5 * 10 + zaj (zae x) 2] (zaj x 5 * 10 + zaj (zae x) 2)).2.2))) []).1, []⟩ (zaj (zdd (sz * zcw ((zds (zaj x 5 * 10) (sz - 2).toNat 1 (zae (zae x)) [zaj x 5 * 10 + zaj (zae x) 2] (zaj x 5 * 10 + zaj (zae x) 2)).2.2) 1 3 + zaj (zae ((zds (zaj x 5 * 10) (sz - 2).toNat 1 (zae (zae x)) [zaj x 5 * 10 + zaj (zae x) 2] (zaj x 5 * 10 + zaj (zae x) 2)).2.2)) 2).toNat 0 (zae (zae ((zds (zaj x 5 * 10) (sz - 2).toNat 1 (zae (zae x)) [zaj x 5 * 10 + zaj (zae x) 2] (zaj x 5 * 10 + zaj (zae x) 2)).2.2))) []).2 (most + 1)).toNat (zae (zdd (sz * zcw ((zds (zaj x 5 * 10) (sz - 2).toNat 1 (zae (zae x)) [zaj x 5 * 10 + zaj (zae x) 2] (zaj x 5 * 10 + zaj (zae x) 2)).2.2) 1 3 + zaj (zae ((zds (zaj x 5 * 10) (sz - 2).toNat 1 (zae (zae x)) [zaj x 5 * 10 + zaj (zae x) 2] (zaj x 5 * 10 + zaj (zae x) 2)).2.2)) 2).toNat 0 (zae (zae ((zds (zaj x 5 * 10) (sz - 2).toNat 1 (zae (zae x)) [zaj x 5 * 10 + zaj (zae x) 2] (zaj x 5 * 10 + zaj (zae x) 2)).2.2))) []).2) []).1).val [(bs, srcO (zez ⟨sz, st, ab, wi, ((zds (zaj x 5 * 10) (sz - 2).toNat 1 (zae (zae x)) [zaj x 5 * 10 + zaj (zae x) 2] (zaj x 5 * 10 + zaj (zae x) 2)).1 ++ [-(zds (zaj x 5 * 10) (sz - 2).toNat 1 (zae (zae x)) [zaj x 5 * 10 + zaj (zae x) 2] (zaj x 5 * 10 + zaj (zae x) 2)).2.1]), sh, (zdd (sz * zcw ((zds (zaj x 5 * 10) (sz - 2).toNat 1 (zae (zae x)) [zaj x 5 * 10 + zaj (zae x) 2] (zaj x 5 * 10 + zaj (zae x) 2)).2.2) 1 3 + zaj (zae ((zds (zaj x 5 * 10) (sz - 2).toNat 1 (zae (zae x)) [zaj x 5 * 10 + zaj (zae x) 2] (zaj x 5 * 10 + zaj (zae x) 2)).2.2)) 2).toNat 0 (zae (zae ((zds (zaj x 5 * 10) (sz - 2).toNat 1 (zae (zae x)) [zaj x 5 * 10 + zaj (zae x) 2] (zaj x 5 * 10 + zaj (zae x) 2)).2.2))) []).1, []⟩ (zaj (zdd (sz * zcw ((zds (zaj x 5 * 10) (sz - 2).toNat 1 (zae (zae x)) [zaj x 5 * 10 + zaj (zae x) 2] (zaj x 5 * 10 + zaj (zae x) 2)).2.2) 1 3 + zaj (zae ((zds (zaj x 5 * 10) (sz - 2).toNat 1 (zae (zae x)) [zaj x 5 * 10 + zaj (zae x) 2] (zaj x 5 * 10 + zaj (zae x) 2)).2.2)) 2).toNat 0 (zae (zae ((zds (zaj x 5 * 10) (sz - 2).toNat 1 (zae (zae x)) [zaj x 5 * 10 + zaj (zae x) 2] (zaj x 5 * 10 + zaj (zae x) 2)).2.2))) []).2 (most + 1)).toNat (zae (zdd (sz * zcw ((zds (zaj x 5 * 10) (sz - 2).toNat 1 (zae (zae x)) [zaj x 5 * 10 + zaj (zae x) 2] (zaj x 5 * 10 + zaj (zae x) 2)).2.2) 1 3 + zaj (zae ((zds (zaj x 5 * 10) (sz - 2).toNat 1 (zae (zae x)) [zaj x 5 * 10 + zaj (zae x) 2] (zaj x 5 * 10 + zaj (zae x) 2)).2.2)) 2).toNat 0 (zae (zae ((zds (zaj x 5 * 10) (sz - 2).toNat 1 (zae (zae x)) [zaj x 5 * 10 + zaj (zae x) 2] (zaj x 5 * 10 + zaj (zae x) 2)).2.2))) []).2) []).2)]) :
  DS Tryz.prog 207 ⟨none, v0⟩ (FinV Tryz.prog [ResultVar.cell 4 26] R) [.ops os l, .code cd]
   [(34, ptr bs), (0, ptr bs), (1, I most), (4, ptr b4), (5, ptr b5)] [(b5, .cells [I sz, I st, I ab, I wi, .v (.slice none 0 0), Bo sh, .v (.slice none 0 0), .v (.slice none 0 0)] 26), (bs, srcO x), (b4, .cells zfy 26)] := by
 obtain rfl := Option.some.inj ((show Tryz.f40.body.bind (regC 4) = some _ from rfl).symm.trans h1)
 obtain rfl := Option.some.inj ((show Tryz.f40.body.bind (zkc 4) = some _ from rfl).symm.trans h3)
 subst h2
 clear h1 h3
 simp only [zaw, zax]
 have HR := Box.mk hR
 clear hR
 have k1 := zbs x 5
 have k2 := zbs (zae x) 2
 repeat' (first | (with_reducible first | refine zac yU yU yE ?_ | refine zab ?_ | refine DS.seq ?_) | (refine zfe inferInstance (zei bs x 5 (by omega)) yR yT yT ?_; (try simp only [zbk, zbw, ↓reduceIte, *])) | fail)
 (refine zmm (id := 5) (bs := bs) (x := zae x) (by simp only [zaf, zcg, ↓reduceIte, *]) [0, 1, 2, 3, 4, 5, 6] 7 (by kernel_rfl) zdq (by simp only [zba, zbd, zbe, zbf, zaz]; exact rfl) (by simp only [zaw, zax, List.drop_nil]; exact rfl) ?_; simp only [zbk, zbw, ↓reduceIte, *])
 repeat' (first | (with_reducible first | refine zac yU yU yE ?_ | refine zab ?_ | refine DS.seq ?_ | refine zaa ?_ | refine DS.block ?_) | (refine DS.append (mm := false) yU yE yE yU (by decide) yE (by first | exact .inl rfl | exact .inr ⟨rfl, rfl⟩) yE yX0 (by first | exact zat zdw _ | exact zat zet _ | exact zat Member.len _ | exact zat Sitting.len _ | exact zat Ruling.len _ | (simp only [List.mem_cons, List.not_mem_nil, or_false, forall_eq]; rfl) | simp) ⟨by (try simp only [List.length_map, List.length_cons, List.length_nil, List.length_append, List.length_take, List.length_drop]); omega, by decide⟩ ?_; simp only [zao, zag, zah, Nat.reduceEqDiff, ↓reduceIte, zal, zam, zar, zak, zai, zap, zan]) | (refine DS.store yR yE yE yE yE yU (by exact ⟨by with_unfolding_all rfl, by (try simp only [List.length_map, List.length_append, List.length_set, List.length_replicate, List.length_cons, List.length_nil]); omega⟩) ?_; simp only [zbt, zbb, zbh, zcm, zbq, zbo, zbr]; try simp only [zao, zag, zah, Nat.reduceEqDiff, ↓reduceIte, zal, zam, zar, zak, zai, zap, zan]) | (with_reducible first | refine zbv yU yU yU yE ?_ | refine zjh yU yU yU yU yE ?_) | (with_reducible refine DD.nil ?_; simp only [zas, zav]) | (refine zoy inferInstance (zei bs (zae x) 2 (by omega)) yU yT yT ?_; simp only [zci, zcs, Nat.reduceEqDiff, ↓reduceIte]; (try simp only [zbk, zbw, ↓reduceIte, *])) | (refine zhz yU yE yE ?_; simp only [go_sem, Nat.zero_add, Nat.reduceAdd]; simp only [zci, zcs, Nat.reduceEqDiff, ↓reduceIte]) | fail)
 simp only [setS, n5, ↓reduceIte, zcy, zcl]
 refine zco [0, 1, 4, 5, 6] yN (fun (y : Nat × Int × Int × List Int × Int) => [(8, I y.2.1), (7, I y.2.2.2.2)]) (fun (y : Nat × Int × Int × List Int × Int) => [(bs, srcO y.2.2.1), (b5, .cells [I sz, I st, I ab, I wi, .own false 3 1 (y.2.2.2.1.map cI), Bo sh, .v (.slice none 0 0), .v (.slice none 0 0)] 26), (b4, .cells zfy 26)]) (fun (y : Nat × Int × Int × List Int × Int) => (y.2.1 + y.1 = sz - 1 ∧ y.1 ≤ 2) ∧ y.2.2.2.1.length + y.1 ≤ 3 ∧ (-10 * (4 - (y.1 : Int)) ≤ y.2.2.2.2 ∧ y.2.2.2.2 ≤ 100 * (4 - (y.1 : Int))) ∧ zds (zaj x 5 * 10) (sz - 2).toNat 1 (zae (zae x)) [zaj x 5 * 10 + zaj (zae x) 2] (zaj x 5 * 10 + zaj (zae x) 2) = zds (zaj x 5 * 10) y.1 y.2.1 y.2.2.1 y.2.2.2.1 y.2.2.2.2) (fun (y : Nat × Int × Int × List Int × Int) => y.1) ((sz - 2).toNat, 1, zae (zae x), [zaj x 5 * 10 + zaj (zae x) 2], zaj x 5 * 10 + zaj (zae x) 2) yS (fun b o e => by exact e) ⟨by dsimp only; omega, by simp; omega, by dsimp only; omega, rfl⟩ (fun y B hI hB => ?_); try dsimp only at hI hB; simp only [zas, zav]
 obtain ⟨k, i, x1, out, sum⟩ := y
 dsimp only at hI hB ⊢
 obtain ⟨g1, g2, g3, g4⟩ := hI
 have H := Box.mk g4
 clear g4
 have k3 := zbs x1 9
 have k4 : 0 ≤ (zaj x 5 * 10).tdiv (i + 1) ∧ (zaj x 5 * 10).tdiv (i + 1) ≤ 40 := by
  have h1 : 0 ≤ zaj x 5 * 10 := by omega
  refine ⟨Int.tdiv_nonneg h1 (by omega), ?_⟩
  rw [Int.tdiv_eq_ediv_of_nonneg h1]
  exact Int.le_trans (Int.ediv_le_self _ h1) (by omega)
 repeat' (first | (with_reducible refine zik (t := 74) yU yE yE yE yE ?_; simp only [zcl, zcy]) | (with_reducible first | refine zac yU yU yE ?_ | refine zab ?_ | refine DS.seq ?_ | refine zaa ?_ | (refine zbc yE ?_; refine zeo (fun _ => ?_) (fun _ => ?_)) | refine DS.block ?_ | refine DS.exit yU ?_ | refine DS.skip ?_) | (refine zff yU yE yE ?_; simp only [go_sem, Nat.zero_add, Nat.reduceAdd]) | (refine DS.append (mm := false) yU yE yE yU (by decide) yE (by first | exact .inl rfl | exact .inr ⟨rfl, rfl⟩) yE yX0 (by first | exact zat zdw _ | exact zat zet _ | exact zat Member.len _ | exact zat Sitting.len _ | exact zat Ruling.len _ | (simp only [List.mem_cons, List.not_mem_nil, or_false, forall_eq]; rfl) | simp) ⟨by (try simp only [List.length_map, List.length_cons, List.length_nil, List.length_append, List.length_take, List.length_drop]); omega, by decide⟩ ?_; simp only [zao, zag, zah, Nat.reduceEqDiff, ↓reduceIte, zal, zam, zar, zak, zai, zap, zan]) | (refine DS.store yR yE yE yE yE yU (by exact ⟨by with_unfolding_all rfl, by (try simp only [List.length_map, List.length_append, List.length_set, List.length_replicate, List.length_cons, List.length_nil]); omega⟩) ?_; simp only [zbt, zbb, zbh, zcm, zbq, zbo, zbr]; try simp only [zao, zag, zah, Nat.reduceEqDiff, ↓reduceIte, zal, zam, zar, zak, zai, zap, zan]) | fail)
 ·(refine zmm (id := 10) (bs := bs) (x := x1) (by simp only [zaf, zcg, ↓reduceIte, *]) [0, 1, 2, 3, 4, 5] 6 (by kernel_rfl) zdq (by simp only [zba, zbd, zbe, zbf, zaz]; exact rfl) (by simp only [zaw, zax, List.drop_nil]; exact rfl) ?_; simp only [zbk, zbw, ↓reduceIte, *])
  repeat' (first | (with_reducible refine zik (t := 65) yU yE yE yE yE ?_; simp only [zcl, zcy]) | (with_reducible first | refine zac yU yU yE ?_ | refine zab ?_ | refine zaa ?_ | refine DS.blk ?_) | (refine zff yU yE yE ?_; simp only [go_sem, Nat.zero_add, Nat.reduceAdd]) | (refine DS.append (mm := false) yU yE yE yU (by decide) yE (by first | exact .inl rfl | exact .inr ⟨rfl, rfl⟩) yE yX0 (by first | exact zat zdw _ | exact zat zet _ | exact zat Member.len _ | exact zat Sitting.len _ | exact zat Ruling.len _ | (simp only [List.mem_cons, List.not_mem_nil, or_false, forall_eq]; rfl) | simp) ⟨by (try simp only [List.length_map, List.length_cons, List.length_nil, List.length_append, List.length_take, List.length_drop]); omega, by decide⟩ ?_; simp only [zao, zag, zah, Nat.reduceEqDiff, ↓reduceIte, zal, zam, zar, zak, zai, zap, zan]) | (refine DS.store yR yE yE yE yE yU (by exact ⟨by with_unfolding_all rfl, by (try simp only [List.length_map, List.length_append, List.length_set, List.length_replicate, List.length_cons, List.length_nil]); omega⟩) ?_; simp only [zbt, zbb, zbh, zcm, zbq, zbo, zbr]; try simp only [zao, zag, zah, Nat.reduceEqDiff, ↓reduceIte, zal, zam, zar, zak, zai, zap, zan]) | with_reducible refine zbv yU yU yU yE ?_ | (with_reducible refine DD.nil ?_; simp only [zas, zav]) | (refine zoy inferInstance (zei bs x1 9 (by omega)) yU yT yT ?_; simp only [zci, zcs, Nat.reduceEqDiff, ↓reduceIte]; (try simp only [zbk, zbw, ↓reduceIte, *])) | fail)
  simp only [setS, n5, n5', n4, n4', m5, m5', ↓reduceIte, zcy, zcl]
  have hk : zds (zaj x 5 * 10) k i x1 out sum = zds (zaj x 5 * 10) (k - 1) (i + 1) (zae x1) (out ++ [(zaj x 5 * 10).tdiv (i + 1) - zaj x1 9]) (sum + ((zaj x 5 * 10).tdiv (i + 1) - zaj x1 9)) := by
   obtain ⟨k', rfl⟩ : ∃ k', k = k' + 1 := ⟨k - 1, by omega⟩
   rw [zds]; rfl
  refine DS.back (hB (k - 1, i + 1, zae x1, out ++ [(zaj x 5 * 10).tdiv (i + 1) - zaj x1 9], sum + ((zaj x 5 * 10).tdiv (i + 1) - zaj x1 9)) _ _ (by dsimp only; omega) ⟨by dsimp only; omega, by simp; omega, by dsimp only; omega, H.out.trans hk⟩ yS yS (fun d o e => ?_))
  dsimp only at e
  rw [List.map_append, List.map_singleton, cI] at e
  exact e
 ·simp only [setS, n5, n5', n4, n4', m5, m5', ↓reduceIte, zcy, zcl]
  have hR := HR.out
  obtain rfl : k = 0 := by omega
  rw [H.out, zds] at hR
  dsimp only at hR
  refine zdy (E' := [(10, I 0), (0, ptr bs), (1, I most), (4, ptr b4), (5, ptr b5)]) (S' := [(bs, srcO x1), (b5, .cells (zgu sz st ab wi (out ++ [-sum]) sh (.v (.slice none 0 0)) (.v (.slice none 0 0))) 26), (b4, .cells zfy 26)]) (zel (by simp (disch := omega) only [go_sem, ↓reduceIte, Nat.reduceEqDiff, zew, zfl, and_self, zas, zav])) (fun d o e => ?_) ?_
  ·rw [zgu, List.map_append, List.map_singleton, cI, ← Int.zero_sub] at e
   exact e
  ·exact zzz bs b4 b5 x1 most sz st ab wi sh (out ++ [-sum]) hm hszB hsz hst hwi (by rw [List.length_append, List.length_singleton]; omega) n4 n4' n5 n5' m5 m5' yR hR
end Go.XL
namespace Go.XL
open Go.Proofs
set_option maxRecDepth 100000
set_option maxHeartbeats 8000000
theorem ykv (bs : Nat) (x most : Int) (hm : 0 ≤ most ∧ most ≤ 3) :
  SC Tryz.prog 40 [ptr bs, I most] bs x (zen x most).1.val (zen x most).2 := by
 have k1 := zbs x 4
 have k2 := zbs (zae x) 5
 have k3 := zbs (zae (zae x)) 3
 have k4 := zbs (x5 x) 5
 refine DC.of_run Tryz.func40 rfl Tryz.ntmps40 Tryz.results40 (by simp) (fun _ => ?_); simp only [zaq, zau, go_sem, Nat.zero_add, Nat.reduceAdd]
 repeat' (first | (with_reducible first | refine DS.seq ?_ | refine zaa ?_) | fail)
 refine zex yR yU yU (fun b4 h4 => ?_)
 have n4 : ¬ bs = b4 := fun e => by rw [zaf, if_pos e] at h4; cases h4
 have n4' : ¬ b4 = bs := fun e => n4 e.symm
 clear h4
 repeat' (first | (with_reducible first | refine zac yU yU yX8 ?_ | refine zab ?_ | refine DS.seq ?_ | refine zaa ?_) | (refine zfe inferInstance (zei bs x 4 (by omega)) yR yX35 yX35 ?_; (try simp only [zbk, zbw, ↓reduceIte, *])) | (refine zfe inferInstance (zei bs (zae x) 5 (by omega)) yR yX35 yX35 ?_; (try simp only [zbk, zbw, ↓reduceIte, *])) | (refine zfe inferInstance (zei bs (zae (zae x)) 3 (by omega)) yR yX35 yX35 ?_; (try simp only [zbk, zbw, ↓reduceIte, *])) | (refine zfe inferInstance (zmz bs (zae (zae (zae x))) 2 (by omega)) yR yX35 yX35 ?_; (try simp only [zbk, zbw, ↓reduceIte, *])) | fail)
 refine zex yR yU yU (fun b5 h5 => ?_)
 have n5 : ¬ bs = b5 := fun e => by simp only [zaf, e, ↓reduceIte] at h5; first | (cases h5; done) | (split at h5 <;> cases h5)
 have n5' : ¬ b5 = bs := fun e => n5 e.symm
 have m5 : ¬ b4 = b5 := fun e => by simp only [zaf, e, ↓reduceIte] at h5; first | (cases h5; done) | (split at h5 <;> cases h5)
 have m5' : ¬ b5 = b4 := fun e => m5 e.symm
 clear h5
 repeat' (first | (with_reducible first | refine zac yU yU yX8 ?_ | refine zab ?_ | refine DS.seq ?_ | refine zaa ?_ | (refine zbc yX8 ?_; refine yfg (fun _ => ?_) (fun _ => ?_)) | refine DS.skip ?_) | (refine zfe inferInstance (zmz bs (zae (zae (zae (zae x)))) 4 (by omega)) yR yX33 yX33 ?_; (try simp only [zbk, zbw, ↓reduceIte, *])) | (refine DS.store yR yX8 yX8 yX8 yX8 yU (by exact ⟨by with_unfolding_all rfl, by (try simp only [List.length_map, List.length_append, List.length_set, List.length_replicate, List.length_cons, List.length_nil]); omega⟩) ?_; simp only [zbt, zbb, zbh, zcm, zbq, zbo, zbr]; try simp only [zao, zag, zah, Nat.reduceEqDiff, ↓reduceIte, zal, zam, zar, zak, zai, zap, zan]) | fail)
 ·rename_i e0
  have hs : zgc x = 4 := by unfold zgc; rw [if_pos e0]
  have hR : (zen x most).1.val = (zen x most).1.val ∧ [(bs, srcO (zen x most).2)] = [(bs, srcO (zen x most).2)] := ⟨rfl, rfl⟩
  simp only [setS, zbk, zbw, n5, n5', n4, n4', m5, m5', ↓reduceIte, List.map_cons, List.map_nil, zcv, zbb, zbh, zcy, zcl, Nat.reduceAdd, Nat.zero_add]
  exact zdy (E' := [(34, ptr bs), (0, ptr bs), (1, I most), (4, ptr b4), (5, ptr b5)]) (S' := [(b5, .cells [I (zgc x), I (zaj x 4 * 100), I (zaj (zae x) 5 * 10 - 30), I (zaj (zae (zae x)) 3), .v (.slice none 0 0), Bo (zqc (zae (zae (zae x))) 2), .v (.slice none 0 0), .v (.slice none 0 0)] 26), (bs, srcO (x5 x)), (b4, .cells zfy 26)]) (zel (by simp (disch := omega) only [go_sem, ↓reduceIte, Nat.reduceEqDiff, zew, zfl, and_self])) (fun d o e => by
    rw [hs] at e
    simp only [zaf, zcg] at e ⊢
    by_cases c0 : b5 = d
    ·subst c0; simp only [n5, m5, ↓reduceIte] at e ⊢; exact e
    by_cases c1 : bs = d
    ·subst c1; simp only [n5', n4', ↓reduceIte] at e ⊢; exact e
    by_cases c2 : b4 = d
    ·subst c2; simp only [m5', n4, ↓reduceIte] at e ⊢; exact e
    ·simp only [c0, c1, c2, ↓reduceIte] at e; cases e)
   (zsw bs b4 b5 (x5 x) most (zgc x) (zaj x 4 * 100) (zaj (zae x) 5 * 10 - 30) (zaj (zae (zae x)) 3) (zqc (zae (zae (zae x))) 2) hm ⟨⟨4, by rw [hs]; rfl⟩⟩ (by rw [hs]; omega) (by omega) (by omega) n4 n4' n5 n5' m5 m5' yR yR yR hR)
 ·rename_i e0
  have hs : zgc x = 3 := by unfold zgc; rw [if_neg (by simp [e0])]
  have hR : (zen x most).1.val = (zen x most).1.val ∧ [(bs, srcO (zen x most).2)] = [(bs, srcO (zen x most).2)] := ⟨rfl, rfl⟩
  simp only [setS, zbk, zbw, n5, n5', n4, n4', m5, m5', ↓reduceIte, List.map_cons, List.map_nil, zcv, zbb, zbh, zcy, zcl, Nat.reduceAdd, Nat.zero_add]
  exact zdy (E' := [(34, ptr bs), (0, ptr bs), (1, I most), (4, ptr b4), (5, ptr b5)]) (S' := [(b5, .cells [I (zgc x), I (zaj x 4 * 100), I (zaj (zae x) 5 * 10 - 30), I (zaj (zae (zae x)) 3), .v (.slice none 0 0), Bo (zqc (zae (zae (zae x))) 2), .v (.slice none 0 0), .v (.slice none 0 0)] 26), (bs, srcO (x5 x)), (b4, .cells zfy 26)]) (zel (by simp (disch := omega) only [go_sem, ↓reduceIte, Nat.reduceEqDiff, zew, zfl, and_self])) (fun d o e => by
    rw [hs] at e
    simp only [zaf, zcg] at e ⊢
    by_cases c0 : b5 = d
    ·subst c0; simp only [n5, m5, ↓reduceIte] at e ⊢; exact e
    by_cases c1 : bs = d
    ·subst c1; simp only [n5', n4', ↓reduceIte] at e ⊢; exact e
    by_cases c2 : b4 = d
    ·subst c2; simp only [m5', n4, ↓reduceIte] at e ⊢; exact e
    ·simp only [c0, c1, c2, ↓reduceIte] at e; cases e)
   (zsw bs b4 b5 (x5 x) most (zgc x) (zaj x 4 * 100) (zaj (zae x) 5 * 10 - 30) (zaj (zae (zae x)) 3) (zqc (zae (zae (zae x))) 2) hm ⟨⟨3, by rw [hs]; rfl⟩⟩ (by rw [hs]; omega) (by omega) (by omega) n4 n4' n5 n5' m5 m5' yR yR yR hR)
end Go.XL
namespace Go.XL
open Go.Proofs
set_option maxRecDepth 100000
set_option maxHeartbeats 8000000
theorem yqg (l : List Int) : DC Tryz.prog 10 [ints l] [] (fun u S' => ∃ bs, u = .tup [ptr bs, (zen (newX l) 3).1.val] ∧ S' = [(bs, srcO (zen (newX l) 3).2)]) := by
 refine DC.of_run Tryz.func10 rfl Tryz.ntmps10 Tryz.results10 (by simp) (fun _ => ?_); simp only [zaq, zau, go_sem, Nat.zero_add, Nat.reduceAdd]
 repeat' (first | (with_reducible first | refine zac yU yU yE ?_ | refine DS.seq ?_ | refine zaa ?_) | fail)
 refine zex yR yU yU (fun b3 h3 => ?_)
 clear h3
 repeat' (first | (with_reducible first | refine zac yU yU yE ?_ | refine zab ?_ | refine DS.seq ?_ | refine zaa ?_) | fail)
 refine DS.call (dst := some 6) [] [(b3, .cells (List.map V.v (Value.agg #[.int .i64 0, .int .i64 0, .int .i64 0, .int .i64 0, .slice none 0 0, .bool false, .slice none 0 0, .slice none 0 0]).cells.toList) 26)] inferInstance (zys l) yR yH (fun _ _ e => by cases e) (fun _ _ e => ⟨e, rfl⟩) ?_
 rintro v S0 ⟨bs, rfl, rfl⟩ hdis
 have hn := hdis bs _ (by rw [zaf, if_pos rfl])
 have n3 : ¬ b3 = bs := fun h => by rw [zaf, if_pos h] at hn; cases hn
 have n3' : ¬ bs = b3 := fun h => n3 h.symm
 clear hn hdis
 simp only [zas, zav, zdr]
 repeat' (first | (with_reducible first | refine zac yU yU yE ?_ | refine zab ?_ | refine DS.seq ?_ | refine zaa ?_) | (refine zfe inferInstance (ykv bs (newX l) 3 (by omega)) yR yT yT ?_; (try simp only [zbk, zbw, ↓reduceIte, *])) | (refine DS.store yR yE yE yE yE yU (by exact ⟨by with_unfolding_all rfl, by (try simp only [List.length_map, List.length_append, List.length_set, List.length_replicate, List.length_cons, List.length_nil]); omega⟩) ?_; simp only [zbt, zbb, zbh, zcm, zbq, zbo, zbr]; try simp only [zao, zag, zah, Nat.reduceEqDiff, ↓reduceIte, zal, zam, zar, zak, zai, zap, zan]) | fail)
 simp only [Club.cells_eq, List.map_cons, List.map_nil, zcv, zbl, zbb, zbh, zcy, zcl, setS, n3', ↓reduceIte, Nat.reduceAdd, Nat.zero_add]
 refine zpo [(bs, srcO (zen (newX l) 3).2)] (vs := [ptr bs, (zen (newX l) 3).1.val]) yH (fun d o e => ?_) ⟨bs, rfl, rfl⟩
 simp only [zaf, zcg] at e ⊢
 by_cases c0 : bs = d
 ·rw [if_pos c0] at e ⊢; exact e
 ·rw [if_neg c0] at e; cases e
theorem ysp : PC Tryz.prog 37 [] (.own false 3 1 ([1, 2, 3, 4, 5, 6, 7, 8, 9].map cI)) := by
 refine DC.of_run Tryz.func37 rfl Tryz.ntmps37 Tryz.results37 (by simp) (fun _ => ?_); simp only [zaq, zau, go_sem, Nat.zero_add, Nat.reduceAdd]
 repeat' (first | with_reducible (refine zdu (t := 0) yU yO yX8 ?_) | (with_reducible refine zee (t := 0) yU yO yX8 ?_; simp only [zao, zag, zah, Nat.reduceEqDiff, ↓reduceIte, zal, zam, zar, zak, zai, zap, zan]) | (with_reducible first | refine zab ?_ | refine DS.seq ?_ | refine zaa ?_) | (refine zff yU yX8 yX8 ?_; simp only [go_sem, Nat.zero_add, Nat.reduceAdd]) | refine zbi [] yX8 trivial ?_ | fail)
 all_goals rfl
end Go.XL
namespace Go.XL
open Go.Proofs
set_option maxRecDepth 100000
set_option maxHeartbeats 8000000
theorem yri {P : Program} {n : Nat} {r : Rr} {Q : VEnv → Sto → Prop} {k : List Fr} {E : VEnv} {S : Sto} {b : Nat} {l : List V} {T : TypeId} (f : V → V) (hf : ∀ hv v y, v.Rl hv y → (f v).Rl hv y) (hfr : ∀ v, (f v).free = true) (hS : zad S b = some (.cells l T)) (q : DS P n r Q k E (setS b (.cells (l.map f) T) S)) : DS P n r Q k E S := fun K W a w ⟨K', D, hv, hold, env, hbx, ha, s⟩ hw => by
 refine q K W a w ⟨K', D, hv, hold, env, hbx, ha, ⟨s.pre, s.slot, fun j o e => ?_, s.held, s.base, s.vbase⟩⟩ hw
 rw [zbg hS] at e
 split at e
 ·rename_i hj
  subst hj
  simp only [Option.some.injEq] at e; subst e
  obtain ⟨o1, o2, cs, o3, o4, o5, o6⟩ := s.obj _ _ hS
  have key : ∀ {l : List V} {cs : List Value}, RlL hv l cs → RlL hv (l.map f) cs := fun {l} => by
   induction l with
   | nil => exact fun h => h
   | cons v r ih =>
    intro cs h
    obtain ⟨z, zs, rfl, h1, h2⟩ := h.cons
    simp only [List.map_cons, RlL]
    exact ⟨z, zs, rfl, hf _ _ _ h1, ih h2⟩
  refine ⟨o1, o2, cs, o3, key o4, o5, fun i c u hc hu => ?_⟩
  obtain ⟨v, hv, rfl⟩ := List.mem_map.1 (List.mem_of_getElem? hc)
  exact V.free_Own (hfr v) u
 ·exact s.obj j o e
theorem ylp {hv : VH} {f : V → V} (hf : ∀ v y, v.Rl hv y → (f v).Rl hv y) {p : Option Addr} : ∀ {c : List V} {i : Nat}, RlC hv p i c → RlC hv p i (c.map f)
 | [], _, _ => trivial
 | v :: r, i, h => by
  simp only [List.map_cons, RlC] at h ⊢
  obtain ⟨⟨u, h1, h2, h3⟩, h4⟩ := h
  exact ⟨⟨u, h1, hf _ _ h2, h3⟩, ylp hf h4⟩
theorem ylo {hv : VH} {f : V → V} (hf : ∀ v y, v.Rl hv y → (f v).Rl hv y) {p : Option Addr} : ∀ {l : List (List V)} {i : Nat}, RlE hv p i l → RlE hv p i (l.map (·.map f))
 | [], _, _ => trivial
 | c :: r, i, h => by
  simp only [List.map_cons, RlE] at h ⊢
  exact ⟨ylp hf h.1, by rw [List.length_map]; exact ylo hf h.2⟩
def inL (f : V → V) (v : V) : V := match v.peek with | .lst l => .lst (l.map (·.map f)) | w => w
theorem yjq {hv : VH} {f : V → V} (hf : ∀ v y, v.Rl hv y → (f v).Rl hv y) {v : V} {y : Value} (h : v.Rl hv y) : (inL f v).Rl hv y := by
 have h' := V.peek_Rl h
 unfold inL
 split
 ·rename_i l e
  rw [e] at h'
  simp only [V.Rl] at h' ⊢
  obtain ⟨p, cap, sz, h1, h2, h3, h4, h5⟩ := h'
  refine ⟨p, cap, sz, by rw [List.length_map]; exact h1, by rw [List.length_map]; exact h2, h3, fun c hc => ?_, ylo hf h5⟩
  obtain ⟨d, hd, rfl⟩ := List.mem_map.1 hc
  rw [List.length_map]; exact h4 d hd
 ·exact h'
theorem yns (f : V → V) (v : V) : (inL f v).free = true := by
 unfold inL
 split
 ·rfl
 ·exact zjr v
def deep : V → V := inL (inL (inL V.peek))
theorem yqw {hv : VH} {v : V} {y : Value} (h : v.Rl hv y) : (deep v).Rl hv y := yjq (fun _ _ h => yjq (fun _ _ h => yjq (fun _ _ h => V.peek_Rl h) h) h) h
def shownC : Club := ⟨3, 100, -50, 1, [30, 0, -30], true, [⟨1, 0, 0, -1⟩, ⟨2, 0, 0, -1⟩, ⟨3, 0, 0, -1⟩, ⟨4, 0, 0, -1⟩, ⟨5, 0, 0, -1⟩, ⟨6, 0, 0, -1⟩, ⟨7, 0, 0, -1⟩, ⟨8, 0, 0, -1⟩, ⟨9, 5, 0, -1⟩], [⟨[[1, 2, 3], [4, 5, 6], [7, 8, 9]], [[130, 100, 70], [120, 120, 60], []], []⟩]⟩
abbrev shC (m r : V) : List V := [I 3, I 100, I (-50), I 1, ints [30, 0, -30], Bo true, m, r]
def mems (n : Nat) : List Member := (List.range n).map fun i : Nat => ⟨(i : Int) + 1, 0, 0, -1⟩
structure MemI (b0 b1 n : Nat) (g : GR) : Prop where
 l : g.l = (mems n).map Member.cells
 ok : g.Ok 47 4 (SR 47 g)
 nb : NB b0 b0 b1 b1 g
theorem yX36 {p : Prop} (h : p := by (simp (disch := omega) only [go_sem, dopV, Option.map_some, Option.map_none, Option.bind_some, Option.bind_none, ↓reduceIte, Nat.reduceEqDiff, Nat.reduceLT, Nat.reduceLeDiff, Nat.reduceAdd, Nat.reduceMul, Nat.reduceSub, Nat.zero_add, Nat.add_zero, Nat.zero_le, Nat.zero_mul, Nat.mul_one, Nat.one_mul, Int.natCast_zero, Int.toNat_zero, Int.reduceToNat, Int.reduceLT, Int.reduceLE, Int.reduceEq, decide_true, decide_false, true_and, and_true, Bool.and_self, Bool.and_true, Bool.true_and, Bool.not_true, Bool.not_false, IntWalk.toNatUp, IntWalk.iteOmega, IntWalk.i64_in, Option.isSome_some, not_true_eq_false, not_false_eq_true, Option.getD_some, Option.getD_none, Int.toNat_natCast, List.length_map, List.getElem?_map, List.getElem?_eq_getElem, V.flat, V.one, List.all_cons, List.all_nil, *, Value.oneCell', GR.cell_copy]; exact rfl)) : p := h
theorem yX37 {p : Prop} (h : p := by (simp (disch := omega) only [go_sem, dopV, Option.map_some, Option.map_none, Option.bind_some, Option.bind_none, ↓reduceIte, Nat.reduceEqDiff, Nat.reduceLT, Nat.reduceLeDiff, Nat.reduceAdd, Nat.reduceMul, Nat.reduceSub, Nat.zero_add, Nat.add_zero, Nat.zero_le, Nat.zero_mul, Nat.mul_one, Nat.one_mul, Int.natCast_zero, Int.toNat_zero, Int.reduceToNat, Int.reduceLT, Int.reduceLE, Int.reduceEq, decide_true, decide_false, true_and, and_true, Bool.and_self, Bool.and_true, Bool.true_and, Bool.not_true, Bool.not_false, IntWalk.toNatUp, IntWalk.iteOmega, IntWalk.i64_in, Option.isSome_some, not_true_eq_false, not_false_eq_true, Option.getD_some, Option.getD_none, Int.toNat_natCast, List.length_map, List.getElem?_map, List.getElem?_eq_getElem, V.flat, V.one, List.all_cons, List.all_nil, Club.cells_eq]; try exact rfl)) : p := h
theorem ymn : PC Tryz.prog 36 [] shownC.val := by
 refine DC.of_run Tryz.func36 rfl Tryz.ntmps36 Tryz.results36 (by simp) (fun _ => ?_); simp only [zaq, zau, go_sem, Nat.zero_add, Nat.reduceAdd]
 repeat' (first | (with_reducible first | refine DS.seq ?_ | refine zaa ?_) | fail)
 refine zex yR yU yU (fun b0 h0 => ?_)
 clear h0
 repeat' (first | (with_reducible first | refine zac yU yU yX8 ?_ | refine zab ?_ | refine DS.seq ?_ | refine zaa ?_) | (refine zff yU yX8 yX8 ?_; simp only [go_sem, Nat.zero_add, Nat.reduceAdd]) | fail)
 refine zex yR yU yU (fun b1 h1 => ?_)
 have n1 : ¬ b0 = b1 := fun e => by rw [zaf, if_pos e] at h1; cases h1
 have n1' : ¬ b1 = b0 := fun e => n1 e.symm
 clear h1
 repeat' (first | (with_reducible first | refine zac yU yU yX8 ?_ | refine zab ?_ | refine DS.seq ?_ | refine zaa ?_ | refine DS.block ?_) | (refine DS.store yR yX8 yX8 yX8 yX8 yU (by exact ⟨by with_unfolding_all rfl, by (try simp only [List.length_map, List.length_append, List.length_set, List.length_replicate, List.length_cons, List.length_nil]); omega⟩) ?_; simp only [zbt, zbb, zbh, zcm, zbq, zbo, zbr]; try simp only [zao, zag, zah, Nat.reduceEqDiff, ↓reduceIte, zal, zam, zar, zak, zai, zap, zan]) | fail)
 simp only [List.map_cons, List.map_nil, zcv, zbl, zbb, zbh, zcy, zcl, setS, n1', ↓reduceIte, Nat.reduceAdd, Nat.zero_add]
 refine zco [0, 1] yN (fun (y : Nat × Int × GR) => [(2, I y.2.1)]) (fun (y : Nat × Int × GR) => (b1, .cells (shC y.2.2.cell (.v (.slice none 0 0))) 26) :: (b0, .cells zfy 26) :: SR 47 y.2.2) (fun (y : Nat × Int × GR) => y.1 ≤ 9 ∧ (y.2.1 ≤ y.1 + 1 ∧ (y.1 : Int) + 1 ≤ y.2.1) ∧ MemI b0 b1 y.1 y.2.2) (fun (y : Nat × Int × GR) => 9 - y.1) (0, 1, ⟨[], none⟩) yS (fun b o e => by exact e) ⟨by dsimp only; omega, by dsimp only; omega, ⟨rfl, rfl, fun _ _ _ e => by cases e⟩⟩ (fun y B hI hB => ?_); try dsimp only at hI hB; simp only [zas, zav]
 obtain ⟨m, i, g⟩ := y
 dsimp only at hI hB ⊢
 obtain ⟨g1, g2, hg⟩ := hI
 repeat' (first | (with_reducible first | refine zac yU yU yX36 ?_ | refine zab ?_ | refine DS.seq ?_ | refine zaa ?_ | (refine zbc yX36 ?_; refine zeo (fun _ => ?_) (fun _ => ?_)) | refine DS.block ?_ | refine DS.exit yU ?_ | refine DS.skip ?_) | (refine zff yU yX36 yX36 ?_; simp only [go_sem, Nat.zero_add, Nat.reduceAdd]) | fail)
 ·have hgl : g.l.length = m := by rw [hg.l, List.length_map]; simp [mems]
  refine zej rfl rfl yR (zmi (g := g) (ml := [Member.cells ⟨i, 0, 0, -1⟩]) rfl yH yH yR yR (by decide) yH (hg.ok.of fun d cap' jj h => ?_) yH yH (by exact Nat.zero_lt_succ _) (by intro c hc; obtain rfl := List.mem_singleton.1 hc; rfl) ⟨by rw [hgl, List.length_singleton]; omega, by decide⟩) (fun u2 E' S4 hu2 => ?_)
  ·have hn := hg.nb d cap' jj h
   rw [zaf, if_neg (fun h' => hn.2.2.1 h'.symm), zaf, if_neg (fun h' => hn.1 h'.symm)]
  obtain ⟨rfl, b', cap', junk', rfl, m1, m2, m3⟩ := hu2
  obtain rfl : i = (m : Int) + 1 := by omega
  have hml : g.l ++ [Member.cells ⟨(m : Int) + 1, 0, 0, -1⟩].map (fun x => List.map V.copy x) = (mems (m + 1)).map Member.cells := by
   rw [hg.l, mems, mems, List.range_succ, List.map_append, List.map_append]; rfl
  rw [hml] at m1 ⊢
  have hnl : ((mems (m + 1)).map Member.cells).length = m + 1 := by rw [List.length_map]; simp [mems]
  have e0 : b' ≠ b1 ∧ b' ≠ b0 := by
   rcases m2 with ⟨c, jj, h⟩ | h
   ·have hn := hg.nb _ _ _ h
    exact ⟨hn.2.2.1, hn.1⟩
   ·simp only [zaf] at h
    refine ⟨fun h' => ?_, fun h' => ?_⟩
    ·rw [if_pos h'.symm] at h; cases h
    ·rw [if_neg (fun x => n1' (x.trans h')), if_pos h'.symm] at h; cases h
  obtain ⟨e1, e2⟩ := e0
  have hold : ∀ d, d ≠ b' → (d = b1 ∨ d = b0) → zad S4 d = zad ((b1, Ob.cells (shC g.cell (.v (.slice none 0 0))) 26) :: (b0, .cells zfy 26) :: SR 47 g) d := fun d hd hl =>
   m3 d hd fun c jj h => by
    have hn := hg.nb _ _ _ h
    rcases hl with rfl | rfl
    ·exact hn.2.2.1 rfl
    ·exact hn.1 rfl
  refine zfj (S' := (b1, .cells (shC g.cell (.v (.slice none 0 0))) 26) :: (b0, .cells zfy 26) :: SR 47 ⟨(mems (m + 1)).map Member.cells, some (b', cap', junk')⟩) (fun d o e => ?_) ?_
  ·simp only [zaf, zcg, SR] at e
   by_cases c1 : b1 = d
   ·subst c1; rw [if_pos rfl] at e; rw [hold _ (fun h => e1 h.symm) (.inl rfl), zaf, if_pos rfl]; exact e
   rw [if_neg c1] at e
   by_cases c2 : b0 = d
   ·subst c2; rw [if_pos rfl] at e; rw [hold _ (fun h => e2 h.symm) (.inr rfl), zaf, if_neg c1, zaf, if_pos rfl]; exact e
   rw [if_neg c2] at e
   by_cases c3 : b' = d
   ·subst c3; rw [if_pos rfl] at e; rw [m1.look]; exact e
   ·rw [if_neg c3] at e; cases e
  have hI2 : MemI b0 b1 (m + 1) ⟨(mems (m + 1)).map Member.cells, some (b', cap', junk')⟩ := ⟨rfl, ⟨by simp [SR, zad], m1.len, m1.le, m1.cap, m1.jf, m1.lf, m1.ll⟩, fun c1 c2 c3 h => by cases h; exact ⟨e2, e2, e1, e1⟩⟩
  have H := Box.mk hI2
  clear hI2 hml m1 m2 m3 hold hg
  simp only [GR.cell_some, zdr]
  repeat' (first | (with_reducible first | refine zac yU yU yE ?_ | refine zab ?_ | refine zaa ?_ | refine DS.blk ?_) | (refine DS.store yR yE yE yE yE yU (by exact ⟨by with_unfolding_all rfl, by (try simp only [List.length_map, List.length_append, List.length_set, List.length_replicate, List.length_cons, List.length_nil]); omega⟩) ?_; simp only [zbt, zbb, zbh, zcm, zbq, zbo, zbr]; try simp only [zao, zag, zah, Nat.reduceEqDiff, ↓reduceIte, zal, zam, zar, zak, zai, zap, zan]) | fail)
  simp only [setS, ↓reduceIte, zcy, zcl]
  refine DS.back (hB (m + 1, (m : Int) + 1 + 1, ⟨(mems (m + 1)).map Member.cells, some (b', cap', junk')⟩) _ _ (by dsimp only; omega) ⟨by dsimp only; omega, by dsimp only; omega, H.out⟩ yS yS (fun d o e => ?_))
  dsimp only at e
  rw [GR.cell_some, hnl] at e
  exact e
 ·obtain rfl : m = 9 := by omega
  obtain ⟨l, blk⟩ := g
  obtain rfl : l = (mems 9).map Member.cells := hg.l
  cases blk with
  | none =>
   have : (mems 9).map Member.cells = [] := hg.ok
   cases this
  | some y =>
   obtain ⟨bm, cap, j⟩ := y
   have hok : GR.At 47 4 (SR 47 ⟨(mems 9).map Member.cells, some (bm, cap, j)⟩) ((mems 9).map Member.cells) bm cap j := hg.ok
   have hb := hg.nb bm cap j rfl
   have o0 : ¬ b0 = bm := fun h => hb.1 h.symm
   have o1 : ¬ b1 = bm := fun h => hb.2.2.1 h.symm
   have o1' : ¬ bm = b1 := hb.2.2.1
   have hle := hok.le
   have hcap := hok.cap
   have hfl : ((mems 9).map Member.cells).flatten = [I 1, I 0, I 0, I (-1), I 2, I 0, I 0, I (-1), I 3, I 0, I 0, I (-1), I 4, I 0, I 0, I (-1), I 5, I 0, I 0, I (-1), I 6, I 0, I 0, I (-1), I 7, I 0, I 0, I (-1), I 8, I 0, I 0, I (-1), I 9, I 0, I 0, I (-1)] := by with_unfolding_all rfl
   have hl9 : ((mems 9).map Member.cells).length = 9 := by with_unfolding_all rfl
   simp only [GR.cell_some, SR, hfl, hl9]
   rw [hl9] at hle
   clear hg hok hfl hl9
   repeat' (first | (with_reducible first | refine zac yU yU yE ?_ | refine zab ?_ | refine DS.seq ?_ | refine zaa ?_) | (refine DS.store yR yE yE yE yE yU (by exact ⟨by with_unfolding_all rfl, by (try simp only [List.length_map, List.length_append, List.length_set, List.length_replicate, List.length_cons, List.length_nil]); omega⟩) ?_; simp only [zbt, zbb, zbh, zcm, zbq, zbo, zbr]; try simp only [zao, zag, zah, Nat.reduceEqDiff, ↓reduceIte, zal, zam, zar, zak, zai, zap, zan]) | fail)
   simp only [setS, o1, ↓reduceIte]
   refine zml (b := bm) (b' := b1) (i := 6) (sz := 4) (len := 9) (cap := cap) (l' := shC (.v (.slice (some ⟨bm, 0, none⟩) 9 cap)) (.v (.slice none 0 0))) (l := [I 1, I 0, I 0, I (-1), I 2, I 0, I 0, I (-1), I 3, I 0, I 0, I (-1), I 4, I 0, I 0, I (-1), I 5, I 0, I 0, I (-1), I 6, I 0, I 0, I (-1), I 7, I 0, I 0, I (-1), I 8, I 0, I 0, I (-1), I 9, I 5, I 0, I (-1)] ++ j) (T := 47) (T' := 26) o1 (by simp only [zaf, ↓reduceIte]) yR (by simp only [zaf, o0, o1, ↓reduceIte]; rfl) (by simp) ⟨hle, hcap⟩ ?_
   have hch : chunk 4 9 (([I 1, I 0, I 0, I (-1), I 2, I 0, I 0, I (-1), I 3, I 0, I 0, I (-1), I 4, I 0, I 0, I (-1), I 5, I 0, I 0, I (-1), I 6, I 0, I 0, I (-1), I 7, I 0, I 0, I (-1), I 8, I 0, I 0, I (-1), I 9, I 5, I 0, I (-1)] ++ j).map V.copy) = shownC.members.map Member.cells := by with_unfolding_all rfl
   rw [hch]
   clear hch
   simp only [setS, zbk, zbw, o0, o1, ↓reduceIte, zcy, zcl, shC]
   repeat' (first | (with_reducible first | refine zac yU yU yX8 ?_ | refine zab ?_ | refine DS.seq ?_ | refine zaa ?_) | (refine zff yU yX8 yX8 ?_; simp only [go_sem, Nat.zero_add, Nat.reduceAdd]) | (refine DS.store yR yX8 yX8 yX8 yX8 yU (by exact ⟨by with_unfolding_all rfl, by (try simp only [List.length_map, List.length_append, List.length_set, List.length_replicate, List.length_cons, List.length_nil]); omega⟩) ?_; simp only [zbt, zbb, zbh, zcm, zbq, zbo, zbr]; try simp only [zao, zag, zah, Nat.reduceEqDiff, ↓reduceIte, zal, zam, zar, zak, zai, zap, zan]) | fail)
   simp only [zfy, List.map_cons, List.map_nil, zcv, zbl, zbx, zbb, zbh, zcy, zcl, setS, n1, n1', ↓reduceIte, Nat.reduceAdd, Nat.zero_add]
   refine yri (b := b0) deep (fun _ _ _ h => yqw h) (fun v => yns _ v) (by simp only [zaf, n1', ↓reduceIte]; exact rfl) ?_
   refine zfj (S' := [(b0, .cells shownC.cells 26)]) (fun d o e => ?_) ?_
   ·simp only [setS, n1', ↓reduceIte, zaf, zcg] at e ⊢
    by_cases c0 : b0 = d
    ·subst c0
     simp only [n1', ↓reduceIte] at e ⊢
     rw [← e]; with_unfolding_all rfl
    ·rw [if_neg c0] at e; cases e
   ·exact zpo [] (vs := [shownC.val]) yX37 (fun _ _ e => by cases e) rfl
end Go.XL
namespace Go.XL
def zkx (sum many at_ : Int) : Int := if at_ < sum % many then sum / many + 1 else sum / many
def zpt (points places : List Int) (start : Int) (shared : Bool) (i : Nat) : Int :=
 points.getD i 0 - start + if shared then zkx ((places.drop (zem points (points.getD i 0))).take (zdc points (points.getD i 0))).sum (zdc points (points.getD i 0)) (zdc (points.take i) (points.getD i 0))
  else places.getD (zem points (points.getD i 0) + zdc (points.take i) (points.getD i 0)) 0
def zfd (points places : List Int) (start : Int) (shared : Bool) : List Int :=
 if places.length < points.length then [] else (List.range points.length).map (zpt points places start shared)
theorem yni (l : List Int) (p : Int) : zem l p ≤ l.length := List.length_filter_le _ _
theorem zsn (l : List Int) (p : Int) : zdc l p ≤ l.length := List.length_filter_le _ _
theorem ygh {l : List Int} {k : Nat} (p : Int) (h : k < l.length) : zem (l.take (k + 1)) p = zem (l.take k) p + if p < l[k] then 1 else 0 := by
 rw [List.take_succ_eq_append_getElem h, zem, zem, List.filter_append, List.length_append]
 by_cases h1 : p < l[k] <;> simp [h1]
theorem zsm {l : List Int} {k : Nat} (p : Int) (h : k < l.length) : zdc (l.take (k + 1)) p = zdc (l.take k) p + if l[k] = p then 1 else 0 := by
 rw [List.take_succ_eq_append_getElem h, zdc, zdc, List.filter_append, List.length_append]
 by_cases h1 : l[k] = p <;> simp [h1]
theorem yjb : ∀ (l : List Int) (p : Int), zem l p + zdc l p ≤ l.length
 | [], p => by simp [zem, zdc]
 | x :: r, p => by
  have h := yjb r p
  simp only [zem, zdc, List.filter_cons, List.length_cons] at h ⊢
  by_cases h1 : p < x
  ·rw [if_pos (decide_eq_true h1), if_neg (by simp; omega)]; simp only [List.length_cons]; omega
  ·rw [if_neg (by simpa using h1)]; split <;> (try simp only [List.length_cons]) <;> omega
theorem zuy {l : List Int} {i : Nat} (h : i < l.length) : zdc (l.take i) l[i] < zdc l l[i] := by
 have e : l = l.take i ++ l[i] :: l.drop (i + 1) := by rw [← List.drop_eq_getElem_cons h, List.take_append_drop]
 have : zdc l l[i] = zdc (l.take i) l[i] + zdc (l[i] :: l.drop (i + 1)) l[i] := by
  conv => lhs; rw [zdc]
  have : ∀ p, ((l.filter fun x => decide (x = p)).length) = ((l.take i ++ l[i] :: l.drop (i + 1)).filter fun x => decide (x = p)).length := fun p => by rw [← e]
  rw [this, List.filter_append, List.length_append]; rfl
 rw [this]
 simp only [zdc, List.filter_cons, decide_true, if_true, List.length_cons]; omega
theorem yhw {sum many at_ : Int} (hm : 0 < many) : zkx sum many at_ = if (if sum.tmod many < 0 then (sum.tdiv many - 1, sum.tmod many + many) else (sum.tdiv many, sum.tmod many)).2 > at_ then (if sum.tmod many < 0 then (sum.tdiv many - 1, sum.tmod many + many) else (sum.tdiv many, sum.tmod many)).1 + 1 else (if sum.tmod many < 0 then (sum.tdiv many - 1, sum.tmod many + many) else (sum.tdiv many, sum.tmod many)).1 := by
 have h1 := Int.mul_tdiv_add_tmod sum many
 have h2 := Int.mul_ediv_add_emod sum many
 have h3 := Int.emod_nonneg sum (show many ≠ 0 by omega)
 have h4 := Int.emod_lt_of_pos sum hm
 have h5 : sum.tmod many < many := Int.tmod_lt_of_pos sum hm
 have h6 : -many < sum.tmod many := Int.lt_tmod_of_pos sum hm
 have key : ∀ a b r s : Int, many * a + r = many * b + s → 0 ≤ r → r < many → 0 ≤ s → s < many → a = b ∧ r = s := by
  intro a b r s e r0 r1 s0 s1
  have h : many * (a - b) = s - r := by rw [Int.mul_sub]; omega
  have hab : a - b = 0 := by
   rcases Int.lt_trichotomy (a - b) 0 with h7 | h7 | h7
   ·have : many * (a - b) ≤ many * (-1) := Int.mul_le_mul_of_nonneg_left (by omega) (by omega)
    omega
   ·exact h7
   ·have : many * 1 ≤ many * (a - b) := Int.mul_le_mul_of_nonneg_left (by omega) (by omega)
    omega
  have : a = b := by omega
  subst this
  exact ⟨rfl, by omega⟩
 rw [zkx]
 by_cases h : sum.tmod many < 0
 ·simp only [if_pos h]
  obtain ⟨e1, e2⟩ := key (sum.tdiv many - 1) (sum / many) (sum.tmod many + many) (sum % many) (by rw [Int.mul_sub]; omega) (by omega) (by omega) h3 h4
  rw [e1, e2]
 ·simp only [if_neg h]
  obtain ⟨e1, e2⟩ := key (sum.tdiv many) (sum / many) (sum.tmod many) (sum % many) (by omega) (by omega) (by omega) h3 h4
  rw [e1, e2]
end Go.XL
namespace Go.XL
open Go.Proofs
set_option maxRecDepth 100000
set_option maxHeartbeats 8000000
theorem yex (l : List Int) {i : Nat} (hi : i < l.length) (hl : l.length ≤ 1000000) : PC Tryz.prog 83 [ints l, I i] (.tup [I (zem l l[i]), I (zdc l l[i]), I (zdc (l.take i) l[i])]) := by
 refine DC.of_run Tryz.func83 rfl Tryz.ntmps83 Tryz.results83 (by simp) (fun _ => ?_); simp only [zaq, zau, go_sem, Nat.zero_add, Nat.reduceAdd]
 repeat' (first | (with_reducible first | refine zac yU yU yE ?_ | refine zab ?_ | refine DS.seq ?_ | refine zaa ?_ | refine DS.block ?_) | fail)
 refine zcp [0, 1, 9, 10] yN (fun (x : Nat × Nat × Nat × Nat) => [(4, I x.1), (5, I x.2.1), (6, I x.2.2.1), (11, I x.2.2.2)]) (fun (x : Nat × Nat × Nat × Nat) => x.2.2.2 ≤ l.length ∧ x.1 = zem (l.take x.2.2.2) l[i] ∧ x.2.1 = zdc (l.take x.2.2.2) l[i] ∧ x.2.2.1 = zdc (l.take (min i x.2.2.2)) l[i] ∧ x.1 ≤ 1000000 ∧ x.2.1 ≤ 1000000 ∧ x.2.2.1 ≤ 1000000) (fun (x : Nat × Nat × Nat × Nat) => l.length - x.2.2.2) (0, 0, 0, 0) yS (by simp [zem, zdc]) (fun x B hI hB => ?_); try dsimp only at hI hB; simp only [zas, zav]
 obtain ⟨a, b, c, k⟩ := x
 dsimp only at hI hB
 obtain ⟨g1, g2, g3, g4, g5, g6, g7⟩ := hI
 have H := Box.mk (And.intro g2 (And.intro g3 g4))
 clear g2 g3 g4
 have hk1 : ∀ h : k < l.length, zem (l.take (k + 1)) l[i] = zem (l.take k) l[i] + if l[i] < l[k] then 1 else 0 := fun h => ygh _ h
 have hk2 : ∀ h : k < l.length, zdc (l.take (k + 1)) l[i] = zdc (l.take k) l[i] + if l[k] = l[i] then 1 else 0 := fun h => zsm _ h
 have hk3 : ∀ h : k < l.length, zdc (l.take (min i (k + 1))) l[i] = zdc (l.take (min i k)) l[i] + if k < i ∧ l[k] = l[i] then 1 else 0 := fun h => by
  by_cases hki : k < i
  ·rw [Nat.min_eq_right (by omega), Nat.min_eq_right (by omega), zsm _ h]
   by_cases h2 : l[k] = l[i]
   ·rw [if_pos h2, if_pos ⟨hki, h2⟩]
   ·rw [if_neg h2, if_neg (fun h => h2 h.2)]
  ·rw [Nat.min_eq_left (by omega), Nat.min_eq_left (by omega), if_neg (fun h => hki h.1)]; rfl
 have hz1 := yni (l.take k) l[i]
 have hz2 := zsn (l.take k) l[i]
 have hz3 := zsn (l.take (min i k)) l[i]
 have hlt : (l.take k).length ≤ k := by simp; omega
 have hlt2 : (l.take (min i k)).length ≤ k := by simp; omega
 have H2 := Box.mk (And.intro hk1 (And.intro hk2 (And.intro hk3 (And.intro hz1 (And.intro hz2 (And.intro hz3 (And.intro hlt hlt2)))))))
 clear hk1 hk2 hk3 hz1 hz2 hz3 hlt hlt2
 repeat' (first | (with_reducible first | refine zac yU yU yE ?_ | refine zab ?_ | refine DS.seq ?_ | refine zaa ?_ | (refine zbc yE ?_; refine zeo (fun _ => ?_) (fun _ => ?_)) | refine DS.blk ?_ | refine DS.block ?_ | refine DS.exit yU ?_ | refine DS.skip ?_) | refine zbi [] yE trivial ?_ | fail)
 all_goals obtain ⟨h1, h2, h3⟩ := H.out
 all_goals obtain ⟨k1, k2, k3, k4, k5, k6, k7, k8⟩ := H2.out
 ·rename_i e1 e2
  exact DS.back (hB (a + 1, b, c, k + 1) _ _ (by dsimp only; omega) (⟨by dsimp only; omega, by dsimp only; rw [k1 (by omega), if_pos e2, h1], by dsimp only; rw [k2 (by omega), if_neg (by omega), h2]; rfl, by dsimp only; rw [k3 (by omega), if_neg (by omega), h3]; rfl, by dsimp only; omega, by dsimp only; omega, by dsimp only; omega⟩) yS yS (fun b o e => by first | exact e | (simp only [zaf]; split <;> simp_all)))
 ·rename_i e1 e2 e3 e4
  exact DS.back (hB (a, b + 1, c + 1, k + 1) _ _ (by dsimp only; omega) (⟨by dsimp only; omega, by dsimp only; rw [k1 (by omega), if_neg (by omega), h1]; rfl, by dsimp only; rw [k2 (by omega), if_pos e3, h2], by dsimp only; rw [k3 (by omega), if_pos ⟨by omega, e3⟩, h3], by dsimp only; omega, by dsimp only; omega, by dsimp only; omega⟩) yS yS (fun b o e => by first | exact e | (simp only [zaf]; split <;> simp_all)))
 ·rename_i e1 e2 e3 e4
  exact DS.back (hB (a, b + 1, c, k + 1) _ _ (by dsimp only; omega) (⟨by dsimp only; omega, by dsimp only; rw [k1 (by omega), if_neg (by omega), h1]; rfl, by dsimp only; rw [k2 (by omega), if_pos e3, h2], by dsimp only; rw [k3 (by omega), if_neg (by omega), h3]; rfl, by dsimp only; omega, by dsimp only; omega, by dsimp only; omega⟩) yS yS (fun b o e => by first | exact e | (simp only [zaf]; split <;> simp_all)))
 ·rename_i e1 e2 e3
  exact DS.back (hB (a, b, c, k + 1) _ _ (by dsimp only; omega) (⟨by dsimp only; omega, by dsimp only; rw [k1 (by omega), if_neg (by omega), h1]; rfl, by dsimp only; rw [k2 (by omega), if_neg (by omega), h2]; rfl, by dsimp only; rw [k3 (by omega), if_neg (by omega), h3]; rfl, by dsimp only; omega, by dsimp only; omega, by dsimp only; omega⟩) yS yS (fun b o e => by first | exact e | (simp only [zaf]; split <;> simp_all)))
 ·rename_i e1
  have hk : k = l.length := by omega
  subst hk
  rw [h1, h2, h3, List.take_of_length_le (Nat.le_refl _), Nat.min_eq_left (by omega)]; rfl
def Bd (n : Int) : Prop := -100000000000000 ≤ n ∧ n ≤ 100000000000000
theorem ymo (sum many at_ : Int) (hs : Bd sum) (hm : 0 < many ∧ many ≤ 1000000) (ha : Bd at_) : PC Tryz.prog 84 [I sum, I many, I at_] (I (zkx sum many at_)) := by
 have e := yhw (sum := sum) (at_ := at_) hm.1
 have h5 : sum.tmod many < many := Int.tmod_lt_of_pos sum hm.1
 have h6 : -many < sum.tmod many := Int.lt_tmod_of_pos sum hm.1
 have h7 : Bd (sum.tdiv many) := by
  have h1 := Int.natAbs_tdiv_le_natAbs sum many
  unfold Bd at *
  omega
 obtain ⟨hs1, hs2⟩ := hs
 obtain ⟨h71, h72⟩ := h7
 obtain ⟨ha1, ha2⟩ := ha
 have H := Box.mk e
 clear e
 refine DC.of_run Tryz.func84 rfl Tryz.ntmps84 Tryz.results84 (by simp) (fun _ => ?_); simp only [zaq, zau, go_sem, Nat.zero_add, Nat.reduceAdd]
 repeat' (first | (with_reducible first | refine zac yU yU yE ?_ | refine zab ?_ | refine DS.seq ?_ | refine zaa ?_ | (refine zbc yE ?_; refine zeo (fun _ => ?_) (fun _ => ?_)) | refine DS.skip ?_) | refine zbz (id := 1) [0, 1, 2, 3, 4, 5, 6] 7 (by kernel_rfl) zdq (by simp only [zba, zbd, zbe, zbf, zaz]; exact rfl) (by simp only [zaw, zax, List.drop_nil]; exact rfl) ?_ | (with_reducible first | refine zbv yU yU yU yE ?_ | refine zdb ?_) | refine zbi [] yE trivial ?_ | fail)
 all_goals (rename_i e1 e2; rw [H.out]; simp only [e1, e2, if_true, if_false, gt_iff_lt]; rfl)
theorem yhx {sum many at_ : Int} (hs : Bd sum) (hm : 0 < many) : -100000000000000 ≤ zkx sum many at_ ∧ zkx sum many at_ ≤ 100000000000001 := by
 have h2 := Int.mul_ediv_add_emod sum many
 have h3 := Int.emod_nonneg sum (show many ≠ 0 by omega)
 have h4 := Int.emod_lt_of_pos sum hm
 obtain ⟨s1, s2⟩ := hs
 have k1 : -100000000000000 ≤ sum / many := by
  rcases Int.lt_or_le (sum / many) (-100000000000000) with h | h
  ·exfalso
   have h5 : many * (sum / many + 1) ≤ many * (-100000000000000) := Int.mul_le_mul_of_nonneg_left (by omega) (by omega)
   rw [Int.mul_add] at h5
   omega
  ·exact h
 have k2 : sum / many ≤ 100000000000000 := by
  rcases Int.lt_or_le 100000000000000 (sum / many) with h | h
  ·exfalso
   have h5 : many * 100000000000001 ≤ many * (sum / many) := Int.mul_le_mul_of_nonneg_left (by omega) (by omega)
   omega
  ·exact h
 rw [zkx]
 split <;> omega
def B40 (n : Int) : Prop := -1099511627776 ≤ n ∧ n ≤ 1099511627776
theorem zvw {l : List Int} {k : Nat} (h : k < l.length) : (l.take (k + 1)).sum = (l.take k).sum + l[k] := by
 rw [List.take_succ_eq_append_getElem h, List.sum_append]; simp
theorem yX38 {p : Prop} (h : p := by (simp (disch := omega) only [go_sem, dopV, Option.map_some, Option.map_none, Option.bind_some, Option.bind_none, ↓reduceIte, Nat.reduceEqDiff, Nat.reduceLT, Nat.reduceLeDiff, Nat.reduceAdd, Nat.reduceMul, Nat.reduceSub, Nat.zero_add, Nat.add_zero, Nat.zero_le, Nat.zero_mul, Nat.mul_one, Nat.one_mul, Int.natCast_zero, Int.toNat_zero, Int.reduceToNat, Int.reduceLT, Int.reduceLE, Int.reduceEq, decide_true, decide_false, true_and, and_true, Bool.and_self, Bool.and_true, Bool.true_and, Bool.not_true, Bool.not_false, IntWalk.toNatUp, IntWalk.iteOmega, IntWalk.i64_in, Option.isSome_some, not_true_eq_false, not_false_eq_true, Option.getD_some, Option.getD_none, Int.toNat_natCast, List.length_map, List.getElem?_map, List.getElem?_eq_getElem, V.flat, V.one, List.all_cons, List.all_nil, *, List.forall_mem_map, implies_true, zdw]; exact rfl)) : p := h
theorem yX39 {p : Prop} (h : p := by first | exact rfl | (simp (disch := omega) only [go_sem, dopV, Option.map_some, Option.map_none, Option.bind_some, Option.bind_none, ↓reduceIte, Nat.reduceEqDiff, Nat.reduceLT, Nat.reduceLeDiff, Nat.reduceAdd, Nat.reduceMul, Nat.reduceSub, Nat.zero_add, Nat.add_zero, Nat.zero_le, Nat.zero_mul, Nat.mul_one, Nat.one_mul, Int.natCast_zero, Int.toNat_zero, Int.reduceToNat, Int.reduceLT, Int.reduceLE, Int.reduceEq, decide_true, decide_false, true_and, and_true, Bool.and_self, Bool.and_true, Bool.true_and, Bool.not_true, Bool.not_false, IntWalk.toNatUp, IntWalk.iteOmega, IntWalk.i64_in, Option.isSome_some, not_true_eq_false, not_false_eq_true, Option.getD_some, Option.getD_none, Int.toNat_natCast, List.length_map, List.getElem?_map, List.getElem?_eq_getElem, V.flat, V.one, List.all_cons, List.all_nil, *, List.forall_mem_map, implies_true, zdw]; exact rfl)) : p := h
theorem yX40 {p : Prop} (h : p := by (simp (disch := omega) only [go_sem, dopV, Option.map_some, Option.map_none, Option.bind_some, Option.bind_none, ↓reduceIte, Nat.reduceEqDiff, Nat.reduceLT, Nat.reduceLeDiff, Nat.reduceAdd, Nat.reduceMul, Nat.reduceSub, Nat.zero_add, Nat.add_zero, Nat.zero_le, Nat.zero_mul, Nat.mul_one, Nat.one_mul, Int.natCast_zero, Int.toNat_zero, Int.reduceToNat, Int.reduceLT, Int.reduceLE, Int.reduceEq, decide_true, decide_false, true_and, and_true, Bool.and_self, Bool.and_true, Bool.true_and, Bool.not_true, Bool.not_false, IntWalk.toNatUp, IntWalk.iteOmega, IntWalk.i64_in, Option.isSome_some, not_true_eq_false, not_false_eq_true, Option.getD_some, Option.getD_none, Int.toNat_natCast, List.length_map, List.getElem?_map, List.getElem?_eq_getElem, V.flat, V.one, List.all_cons, List.all_nil, *, List.forall_mem_map, implies_true, zdw]; try exact rfl)) : p := h
theorem zyg (points places : List Int) (start : Int) (shared : Bool) (hl : points.length ≤ 20) (hl2 : places.length ≤ 20) (hp : ∀ x ∈ points, B40 x) (hq : ∀ x ∈ places, B40 x) (hs : B40 start) :
  PC Tryz.prog 38 [ints points, ints places, I start, Bo shared] (.own false 3 1 ((zfd points places start shared).map cI)) := by
 obtain ⟨hs1, hs2⟩ := hs
 rw [zfd]
 refine DC.of_run Tryz.func38 rfl Tryz.ntmps38 Tryz.results38 (by simp) (fun _ => ?_); simp only [zaq, zau, go_sem, Nat.zero_add, Nat.reduceAdd]
 repeat' (first | (with_reducible first | (refine zdu (t := 8) yU yO yE ?_) | (refine zdu (t := 9) yU yO yE ?_) | refine zac yU yU yE ?_ | refine zab ?_ | refine DS.seq ?_ | refine zaa ?_ | (refine zbc yE ?_; refine zeo (fun _ => ?_) (fun _ => ?_)) | refine DS.block ?_ | refine DS.skip ?_) | refine zbi [] yE trivial ?_ | fail)
 ·rename_i e1
  rw [if_pos (by omega)]; rfl
 ·rename_i e1
  rw [if_neg (by omega)]
  refine zcp [0, 1, 2, 3, 24, 25] yN (fun (x : List Int × Nat) => [(9, .own false 3 1 (x.1.map cI)), (26, I x.2)]) (fun (x : List Int × Nat) => x.2 ≤ points.length ∧ x.1 = (List.range x.2).map (zpt points places start shared) ∧ x.1.length = x.2) (fun (x : List Int × Nat) => points.length - x.2) ([], 0) yS (by simp) (fun x B hI hB => ?_); try dsimp only at hI hB; simp only [zas, zav]
  obtain ⟨L, k⟩ := x
  dsimp only at hI hB
  obtain ⟨g1, g2, g3⟩ := hI
  have H := Box.mk g2
  clear g2
  by_cases hk : k < points.length
  ·have p1 := yjb points points[k]
   have p2 := zuy hk
   obtain ⟨p3, p4⟩ := hp _ (List.getElem_mem hk)
   obtain ⟨p5, p6⟩ := hq (places[zem points points[k] + zdc (points.take k) points[k]]'(by omega)) (List.getElem_mem _)
   have hB0 := hB
   clear hB
   obtain ⟨P, hPe⟩ : ∃ P, P = (places.drop (zem points points[k])).take (zdc points points[k]) := ⟨_, rfl⟩
   have hP : List.drop (zem points points[k]) (List.take (zem points points[k] + zdc points points[k]) (List.map cI places)) = P.map cI := by
    rw [List.drop_take, Nat.add_sub_cancel_left, hPe, List.map_take, List.map_drop]
   have hPl : P.length = zdc points points[k] := by rw [hPe, List.length_take, List.length_drop]; omega
   have hPb : ∀ x ∈ P, B40 x := fun x hx => hq x (List.mem_of_mem_drop (List.mem_of_mem_take (hPe ▸ hx)))
   have hnext : (List.range (k + 1)).map (zpt points places start shared) = L ++ [zpt points places start shared k] := by rw [List.range_succ, List.map_append, ← H.out]; rfl
   have hsc : zpt points places start shared k = points[k] - start + if shared then zkx P.sum (zdc points points[k]) (zdc (points.take k) points[k]) else places[zem points points[k] + zdc (points.take k) points[k]]'(by omega) := by
    simp only [zpt, List.getD_eq_getElem?_getD, List.getElem?_eq_getElem hk, Option.getD_some]
    rw [← hPe, List.getElem?_eq_getElem (show zem points points[k] + zdc (points.take k) points[k] < places.length by omega)]; rfl
   have H2 := Box.mk (And.intro hPe (And.intro hPb (And.intro hnext hsc)))
   clear hPe hPb hnext hsc
   repeat' (first | (with_reducible refine zee (t := 8) yU yO yX38 ?_; simp only [zao, zag, zah, Nat.reduceEqDiff, ↓reduceIte, zal, zam, zar, zak, zai, zap, zan]) | (with_reducible refine zee (t := 9) yU yO yX38 ?_; simp only [zao, zag, zah, Nat.reduceEqDiff, ↓reduceIte, zal, zam, zar, zak, zai, zap, zan]) | (with_reducible refine zee (t := 64) yU yO yX38 ?_; simp only [zao, zag, zah, Nat.reduceEqDiff, ↓reduceIte, zal, zam, zar, zak, zai, zap, zan]) | (with_reducible refine zee (t := 73) yU yO yX38 ?_; simp only [zao, zag, zah, Nat.reduceEqDiff, ↓reduceIte, zal, zam, zar, zak, zai, zap, zan]) | (with_reducible first | refine zac yU yU yX38 ?_ | refine zab ?_ | refine DS.seq ?_ | refine zaa ?_ | (refine zbc yX38 ?_; first | refine zeo (fun _ => ?_) (fun _ => ?_) | refine yfg (fun _ => ?_) (fun _ => ?_)) | refine DS.blk ?_ | refine DS.block ?_ | refine DS.exit yU ?_ | refine DS.skip ?_) | (refine zff yU yX38 yX38 ?_; simp only [go_sem, Nat.zero_add, Nat.reduceAdd]) | (refine DS.append (mm := false) yU yX38 yX38 yU (by decide) yX38 (by first | exact .inl rfl | exact .inr ⟨rfl, rfl⟩) yX38 yX39 (by first | exact zat zdw _ | exact zat zet _ | exact zat Member.len _ | exact zat Sitting.len _ | exact zat Ruling.len _ | (simp only [List.mem_cons, List.not_mem_nil, or_false, forall_eq]; rfl) | simp) ⟨by (try simp only [List.length_map, List.length_cons, List.length_nil, List.length_append, List.length_take, List.length_drop]); omega, by decide⟩ ?_; simp only [zao, zag, zah, Nat.reduceEqDiff, ↓reduceIte, zal, zam, zar, zak, zai, zap, zan]) | refine zcb inferInstance (yex points hk (by omega)) yR yX40 ?_ | refine zbi [] yX38 trivial ?_ | fail)
   all_goals first | (exfalso; omega) | skip
   ·rename_i e2 e3
    subst e3
    clear hP
    refine zcp [0, 1, 2, 3, 9, 11, 13, 14, 24, 25, 26, 50, 51] yN (fun (y : Int × Nat) => [(16, I y.1), (52, I y.2)]) (fun (y : Int × Nat) => y.2 ≤ P.length ∧ y.1 = (P.take y.2).sum ∧ -(y.2 : Int) * 1099511627776 ≤ y.1 ∧ y.1 ≤ (y.2 : Int) * 1099511627776) (fun (y : Int × Nat) => P.length - y.2) (0, 0) yS (by simp) (fun y B hI hB => ?_); try dsimp only at hI hB; simp only [zas, zav]
    obtain ⟨a, j⟩ := y
    dsimp only at hI hB
    obtain ⟨j1, j2, j3, j4⟩ := hI
    have H3 := Box.mk j2
    clear j2
    by_cases hj : j < P.length
    ·obtain ⟨p7, p8⟩ := H2.out.2.1 _ (List.getElem_mem hj)
     repeat' (first | (with_reducible first | refine zac yU yU yE ?_ | refine zab ?_ | refine DS.seq ?_ | refine zaa ?_ | (refine zbc yE ?_; refine zeo (fun _ => ?_) (fun _ => ?_)) | refine DS.blk ?_ | refine DS.block ?_ | refine DS.exit yU ?_ | refine DS.skip ?_) | fail)
     all_goals first | (exfalso; omega) | skip
     refine DS.back (hB (a + P[j], j + 1) _ _ (by dsimp only; omega) ⟨by dsimp only; omega, by dsimp only; rw [H3.out, zvw hj], by dsimp only; omega, by dsimp only; omega⟩ yS yS (fun b o e => by exact e))
    ·have hsh := ymo a (zdc points points[k] : Nat) (zdc (points.take k) points[k] : Nat) ⟨by omega, by omega⟩ (by omega) ⟨by omega, by omega⟩
     have hbd := yhx (sum := a) (many := (zdc points points[k] : Nat)) (at_ := (zdc (points.take k) points[k] : Nat)) ⟨by omega, by omega⟩ (by omega)
     obtain ⟨hb1, hb2⟩ := hbd
     repeat' (first | (with_reducible refine zee (t := 9) yU yO yE ?_; simp only [zao, zag, zah, Nat.reduceEqDiff, ↓reduceIte, zal, zam, zar, zak, zai, zap, zan]) | (with_reducible refine zee (t := 64) yU yO yE ?_; simp only [zao, zag, zah, Nat.reduceEqDiff, ↓reduceIte, zal, zam, zar, zak, zai, zap, zan]) | (with_reducible first | refine zac yU yU yE ?_ | refine zab ?_ | refine DS.seq ?_ | refine zaa ?_ | (refine zbc yE ?_; refine zeo (fun _ => ?_) (fun _ => ?_)) | refine DS.blk ?_ | refine DS.block ?_ | refine DS.exit yU ?_ | refine DS.skip ?_) | (refine zff yU yE yE ?_; simp only [go_sem, Nat.zero_add, Nat.reduceAdd]) | (refine DS.append (mm := false) yU yE yE yU (by decide) yE (by first | exact .inl rfl | exact .inr ⟨rfl, rfl⟩) yE yX0 (by first | exact zat zdw _ | exact zat zet _ | exact zat Member.len _ | exact zat Sitting.len _ | exact zat Ruling.len _ | (simp only [List.mem_cons, List.not_mem_nil, or_false, forall_eq]; rfl) | simp) ⟨by (try simp only [List.length_map, List.length_cons, List.length_nil, List.length_append, List.length_take, List.length_drop]); omega, by decide⟩ ?_; simp only [zao, zag, zah, Nat.reduceEqDiff, ↓reduceIte, zal, zam, zar, zak, zai, zap, zan]) | refine zcb inferInstance (hsh) yR yT ?_ | fail)
     all_goals first | (exfalso; omega) | skip
     obtain ⟨h1, h2, h3, h4⟩ := H2.out
     have hjj : j = P.length := by omega
     have ha := H3.out
     rw [hjj, List.take_of_length_le (Nat.le_refl _)] at ha
     refine DS.back (hB0 (L ++ [zpt points places start true k], k + 1) _ _ (by dsimp only; omega) ⟨by dsimp only; omega, h3.symm, by simp; omega⟩ ?_ yS (fun b o e => by exact e))
     rw [h4, ← ha]
     simp only [zew, zfl, go_sem, ↓reduceIte, Nat.reduceEqDiff, List.map_append, Int.natCast_add, Int.natCast_one, and_self, if_true]
   ·rename_i e2 e3
    subst e3
    obtain ⟨h1, h2, h3, h4⟩ := H2.out
    refine DS.back (hB0 (L ++ [zpt points places start false k], k + 1) _ _ (by dsimp only; omega) ⟨by dsimp only; omega, h3.symm, by simp; omega⟩ ?_ yS (fun b o e => by exact e))
    rw [h4]
    simp only [zew, zfl, go_sem, ↓reduceIte, Nat.reduceEqDiff, List.map_append, Int.natCast_add, Int.natCast_one, and_self, if_false, Bool.false_eq_true]
  ·repeat' (first | (with_reducible refine zee (t := 8) yU yO yE ?_; simp only [zao, zag, zah, Nat.reduceEqDiff, ↓reduceIte, zal, zam, zar, zak, zai, zap, zan]) | (with_reducible refine zee (t := 73) yU yO yE ?_; simp only [zao, zag, zah, Nat.reduceEqDiff, ↓reduceIte, zal, zam, zar, zak, zai, zap, zan]) | (with_reducible first | refine zac yU yU yE ?_ | refine zab ?_ | refine DS.seq ?_ | refine zaa ?_ | (refine zbc yE ?_; refine zeo (fun _ => ?_) (fun _ => ?_)) | refine DS.block ?_ | refine DS.exit yU ?_ | refine DS.skip ?_) | refine zbi [] yE trivial ?_ | fail)
   all_goals first | (exfalso; omega) | skip
   have h := H.out
   have hkk : k = points.length := by omega
   subst hkk
   rw [← h]; rfl
end Go.XL
