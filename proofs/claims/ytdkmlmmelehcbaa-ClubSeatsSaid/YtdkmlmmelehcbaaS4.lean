/- A part of a program logic over the kit's walk rules, and contracts of functions in it. Conditions: as each theorem says. -/
import Derived.Test.YtdkmlmmelehcbaaS3
set_option linter.all false
namespace Go.XL
open Go.Proofs
section
variable {v0 : VH} {P : Program} {n : Nat} {r : Rr} {Q : VEnv → Sto → Prop} {k : List Fr} {E0 E : VEnv} {S S0 S1 : Sto} {Mp : List MpE} {ops l : List Oper} {t : Nat} {dst : Option Tmp} {op : Op} {ty : TypeId} {pos : String} {af : Array Edge} {ts : Array TypeId}
theorem mk_exec {D : List Deferred} {env : Env} {a : Act} {T : TypeId} {x y : Operand} {kl kc : IntKind} {i c : Int} {e sz by_ : Nat} {z : Value} (ha : Agree D n env a) (h1 : ev env x = some (.int kl i)) (h2 : ev env y = some (.int kc c)) (ht : tel P T = some (e, sz, by_)) (hz : zde P e = some z) (hzs : z.cells.size = sz)
    (hb : 0 ≤ i ∧ i ≤ c ∧ by_ ≤ 65536 ∧ c ≤ 2147483648) (w : World) :
    (execOp a.eval ⟨some t, .makeSlice T x y, ty, pos, af, none⟩).run P w = .ok (.value (.slice (some ⟨w.heap.size, 0, none⟩) i.toNat c.toNat)) { w with heap := w.heap.push (.cells ((List.replicate c.toNat z.cells.toList).flatten).toArray e) } := by
  have hc : (by_ : Int) * c ≤ 281474976710656 ∧ c ≤ 9223372036854775807 := by
    refine ⟨?_, by omega⟩
    have q1 : (by_ : Int) * c ≤ 65536 * 2147483648 := Int.mul_le_mul (by omega) hb.2.2.2 (by omega) (by omega)
    omega
  have hcells : madeCells z.cells (c.toNat * sz) = ((List.replicate c.toNat z.cells.toList).flatten).toArray := by
    have := zhr z.cells c.toNat
    rw [hzs] at this
    unfold madeCells
    rw [← this]
    simp only [Array.toArray_toList]
    rw [hzs]
  refine zln (P := P) (y := fun u => .slice (some ⟨u, 0, none⟩) i.toNat c.toNat) ha (fun i => by simp [undef]) (fun h1' => ?_) w
  simp only [hop, h1, h2, ht, hz]; rw [if_pos ⟨hb.1, hb.2.1, hc⟩, hcells]
theorem DD.lastMk {o : Oper} {R : V → VEnv → Sto → Prop} {T : TypeId} {x y : Operand} {kl kc : IntKind} {i c : Int} {e sz by_ : Nat} {z : Value} (hg : o.guard = none) (hc : zdj o = true) (hb : zfq o.op = false) (hd : dok n o.dst = true) (ho : OpS r.v0 P n o E S1 R) (hd2 : decide (t < n) = true)
    (hE0 : ∀ u v, zcl (delO o.dst E0) u = some v → zcl E0 u = some v) (hx : evV (delO o.dst E0) x = some (.v (.int kl i))) (hy : evV (delO o.dst E0) y = some (.v (.int kc c))) (ht : tel P T = some (e, sz, by_)) (hz : zde P e = some z) (ho1 : zgf z.cells.toList = true) (hzs : z.cells.size = sz)
    (hbd : 0 ≤ i ∧ i ≤ c ∧ by_ ≤ 65536 ∧ c ≤ 2147483648)
    (q : ∀ v E' S' u, R v E' S' → zab S' u = none → zab S0 u = none → DS P n r Q k ((t, .v (.slice (some ⟨u, 0, none⟩) i.toNat c.toNat)) :: putV E' o.dst v) ((u, .cells (zdo z c.toNat) e) :: (S' ++ S0))) :
    DD P n r Q ops S0 [] [o, ⟨some t, .makeSlice T x y, ty, pos, af, none⟩] k E0 E S1 := fun K0 K D W hv0 hs a SPs hbx hfl hE hp hS0 hzz hl hR => by
  show SW P ops.toArray _ W _ [o, _] SPs a
  unfold SW Front
  rw [if_pos (by simp [Region.wanted, hg]), if_pos hc]
  refine ⟨fun _ y => y, fun _ y => fun F h1 => ∃ v E' S', R v E' S' ∧ RunS P [] D n K hv0 hs S0 (putV E' o.dst v) S' (a.put o.dst y) F h1, ?_, fun _ y0 hT => ?_⟩
  · unfold Spec
    rw [if_neg (by simp [hb])]
    have G := fun v E' S' y => RunS.good P [] D n K hv0 hs S0 (putV E' o.dst v) S' (a.put o.dst y)
    refine ⟨rfl, _, rfl, fun y => ⟨fun F h ⟨v, E', S', _, h2⟩ => (G v E' S' y).ext F h h2, fun F h ob ⟨v, E', S', h1, h2⟩ => ⟨v, E', S', h1, (G v E' S' y).push F h ob h2⟩, fun F F' h hF ⟨v, E', S', h1, h2⟩ => ⟨v, E', S', h1, (G v E' S' y).less F F' h hF h2⟩⟩, fun w F hF hw => ?_⟩
    obtain ⟨p1, p2, hv', hold, env', ha', s, p, f, g⟩ := hR F w.heap hF
    obtain ⟨K', hc', s', hprot, hK1, hK2, back⟩ := s.frame fun b o e => (g b o e).2.1
    refine (ho K' D hv' hc' env' a w (hfl.trans p) ha' s').mono fun y w' ⟨hsame, u, E2, S2, hv2, hold2, q1, q2, e1⟩ => ?_
    obtain ⟨hold3, t1, t2⟩ := back q1 q2
    have stay : ∀ b, K'.B b → w'.heap[b]? = w.heap[b]? ∧ hv2 b = hv' b := fun b hb => ⟨by rw [q2.base.2.2 b hb, hK1], by rw [q2.vbase.2 b hb, hK2]⟩
    have hFp : ∀ b, F b → K'.B b := fun b hb => hprot b (p1 b hb).2 (f b hb).1 (by
      have := (f b hb).2; rw [zby] at this
      cases e : zab S1 b with
      | none => rfl
      | some o => rw [e] at this; cases this)
    have hSp : ∀ b o, zab S0 b = some o → K'.B b := fun b o e => hprot b (Nat.lt_of_lt_of_le (g b o e).2.2 p2.1) (s.obj b o (by rw [zby, (g b o e).2.1]; exact e)).2.1 (g b o e).2.1
    have hsz : w.heap.size ≤ w'.heap.size := by have := q2.base.2.1; rwa [hK1] at this
    refine ⟨hsame, ⟨u, E2, S2, e1, fun b hb => ⟨(p1 b hb).1, Nat.lt_of_lt_of_le (p1 b hb).2 hsz⟩, ⟨Nat.le_trans p2.1 hsz, MpOk.nil⟩, hv2, hold3, _, ha'.put' hd y, t1, p.trans q1, fun b hb => ?_, fun b o e => ?_⟩, fun b o hb eb _ => ?_⟩
    · refine ⟨by rw [(stay b (hFp b hb)).2]; exact (f b hb).1, ?_⟩
      have hb2 := (f b hb).2
      rw [zby] at hb2 ⊢
      cases e : zab S2 b with
      | some o => exact absurd (hFp b hb) (q2.obj b o e).1
      | none =>
        cases e1 : zab S1 b with
        | some o => rw [e1] at hb2; cases hb2
        | none => rw [e1] at hb2; exact hb2
    · obtain ⟨g1, g2, g3⟩ := g b o e
      exact ⟨(stay b (hSp b o e)).1.trans g1, t2 b o e, g3⟩
    · rw [(stay b (hFp b hb)).1]; exact eb
  ·
    obtain ⟨env2, ha2, hE2⟩ := zsm hE hd y0
    have rl : ∀ x v, evV (delO o.dst E0) x = some (.v v) → ev env2 x = some v := by
      intro x v h
      cases x with
      | tmp u =>
        obtain ⟨y, h1, h2⟩ := hE2 u _ h
        simp only [V.Rl] at h2
        subst h2; exact h1
      | const u => simp only [evV, Option.some.injEq, V.v.injEq] at h; subst h; rfl
      | global g => simp only [evV, Option.some.injEq, V.v.injEq] at h; subst h; rfl
      | func g => cases h
    have hrun := fun w => mk_exec (P := P) (t := t) (ty := ty) (pos := pos) (af := af) ha2 (rl _ _ hx) (rl _ _ hy) ht hz hzs hbd w
    show SW P ops.toArray _ W _ [_] _ _
    unfold SW Front
    rw [if_pos (by simp [Region.wanted]), if_pos yR]
    refine ⟨fun u _ => .slice (some ⟨u, 0, none⟩) i.toNat c.toNat, fun u _ => zgt (fun F h1 => ∃ v E' S', R v E' S' ∧ RunS P [] D n K hv0 hs S0 (putV E' o.dst v) S' (a.put o.dst y0) F h1) u (.cells ((List.replicate c.toNat z.cells.toList).flatten).toArray e), ?_, fun u _ hT2 => ?_⟩
    · unfold Spec
      rw [if_pos yR]
      exact ⟨.cells ((List.replicate c.toNat z.cells.toList).flatten).toArray e, fun u => .slice (some ⟨u, 0, none⟩) i.toNat c.toNat, rfl, hrun, rfl, rfl⟩
    · show SW P ops.toArray _ W _ [] _ _
      unfold SW
      intro w2 ⟨⟨v, E', S', h1, h2⟩, _, t3⟩ hw2
      obtain ⟨p1, p2, hv', hold, env', ha', s, p, f, g⟩ := h2
      have hu := p1 u (.inr rfl)
      have fu := f u (.inr rfl)
      have hB : ¬ K.B u := fun hb => by
        have := s.base.1 u hb
        omega
      have nS : zab S' u = none ∧ zab S0 u = none := by
        have := fu.2
        rw [zby] at this
        cases e : zab S' u with
        | some o => rw [e] at this; cases this
        | none => rw [e] at this; exact ⟨rfl, this⟩
      exact q v E' S' u h1 nS.1 nS.2 K0 W _ w2 ⟨K, D, hv', hold, _, hbx, ha'.put' (d := some t) (by simpa [dok] using hd2) _, (s.adoptO t3 hB fu.1 (zkp z c.toNat) (zji ho1 c.toNat) (zhs z c.toNat)).put (some t) V.Rl_v fun _ _ => trivial⟩ hw2
end
end Go.XL
namespace Go.XL
open Go.Proofs
@[go_sem] theorem bop_xor {P : Program} {T : TypeId} {k : IntKind} {a b : Int} : bop P .xor T (.int k a) (.int k b) = some (.int k (xorI k a b)) := by
  simp only [bop, zkn, if_true]; rfl
theorem zth {P : Program} {T : TypeId} {k' : IntKind} {a b : Int} (h : ¬ b < 0) : bop P .shr T (.int .u64 a) (.int k' b) = some (.int .u64 (a.fdiv (2 ^ (min b.toNat 64)))) := by
  simp only [bop, Op.shift]
  rw [if_neg h]
  rfl
@[go_sem] theorem bop_shr31 {P : Program} {T : TypeId} {k' : IntKind} {a : Int} : bop P .shr T (.int .u64 a) (.int k' 31) = some (.int .u64 (a.fdiv 2147483648)) := zth (by decide)
@[go_sem] theorem bop_shr29 {P : Program} {T : TypeId} {k' : IntKind} {a : Int} : bop P .shr T (.int .u64 a) (.int k' 29) = some (.int .u64 (a.fdiv 536870912)) := zth (by decide)
@[go_sem] theorem bop_shr20 {P : Program} {T : TypeId} {k' : IntKind} {a : Int} : bop P .shr T (.int .u64 a) (.int k' 20) = some (.int .u64 (a.fdiv 1048576)) := zth (by decide)
abbrev U (x : Int) : V := .v (.int .u64 x)
abbrev TSrc : Nat := 108
abbrev srcO (x : Int) : Ob := .cells [U x] TSrc
def SC (P : Program) (f : FuncId) (args : List V) (bs : Nat) (x : Int) (v : V) (x' : Int) : Prop := DC P f args [(bs, srcO x)] fun u S' => u = v ∧ S' = [(bs, srcO x')]
section
variable {P : Program} {n : Nat} {r : Rr} {Q : VEnv → Sto → Prop} {k : List Fr} {E0 E : VEnv} {S S0 S1 : Sto} {Mp : List MpE} {ops l : List Oper} {t : Nat} {dst : Option Tmp} {op : Op} {ty : TypeId} {pos : String} {af : Array Edge} {ts : Array TypeId}
theorem zpk {bs : Nat} {o : Ob} (hS : zab S bs = some o) : (∀ b o', zab [(bs, o)] b = some o' → zab S b = some o') ∧ (∀ b o', zab (delS bs S) b = some o' → zab S b = some o' ∧ zab [(bs, o)] b = none) := by
  refine ⟨fun b o' e => ?_, fun b o' e => ?_⟩
  · simp only [zab] at e
    split at e
    · rename_i h; subst h; rw [hS]; exact e
    · cases e
  · rw [zck] at e
    split at e
    · cases e
    · rename_i h
      exact ⟨e, by simp only [zab]; rw [if_neg (fun h' => h h'.symm)]⟩
theorem DS.scS {g : FuncId} {args : List V} {xs : Array Operand} {fn : Func} {bs : Nat} {x x' : Int} {v : V} (hf : FnOk P g fn) (hc : SC P g args bs x v x') (hd : decide (t < n) = true) (he : (evsV (evV E) xs.toList).map (·.map V.peek) = some args) (hS : zab S bs = some (srcO x))
    (q : DS P n r Q (.ops ops l :: k) ((t, v) :: E) ((bs, srcO x') :: delS bs S)) :
    DS P n r Q (.ops ops (⟨some t, .call { callee := .value (.func g), args := xs, argTypes := ts }, ty, pos, af, none⟩ :: l) :: k) E S := by
  refine DS.call (dst := some t) [(bs, srcO x)] (delS bs S) hf hc hd he (zpk hS).1 (zpk hS).2 ?_
  rintro u S' ⟨rfl, rfl⟩ -
  exact q
theorem DD.scS {g : FuncId} {args : List V} {xs : Array Operand} {fn : Func} {bs : Nat} {x x' : Int} {v : V} (hf : FnOk P g fn) (hc : SC P g args bs x v x') (hd : decide (t < n) = true) (he : (evsV (evV E) xs.toList).map (·.map V.peek) = some args) (hS : zab S1 bs = some (srcO x))
    (q : DD P n r Q ops S0 [] l k (delV t E0) ((t, v) :: E) ((bs, srcO x') :: delS bs S1)) :
    DD P n r Q ops S0 [] (⟨some t, .call { callee := .value (.func g), args := xs, argTypes := ts }, ty, pos, af, none⟩ :: l) k E0 E S1 :=
  DD.call (dst := some t) [(bs, srcO x)] (delS bs S1) hf hc hd he (zpk hS).1 (zpk hS).2 (fun _ => MpOk.nil) q
end
end Go.XL
namespace Go.XL
open Go.Proofs
theorem take_succ_eq {l m : List Int} {i : Nat} (h : l.take i = m.take i) (hl : i < l.length) (hm : i < m.length) (e : l[i] = m[i]) : l.take (i + 1) = m.take (i + 1) := by
  rw [List.take_succ_eq_append_getElem hl, List.take_succ_eq_append_getElem hm, h, e]
theorem zod (a b : List Int) : PC Try.prog 22 [ints a, ints b] (Bo (decide (a = b))) := by
  refine DC.of_run Try.func22 rfl Try.ntmps22 Try.results22 (by simp) (fun _ => ?_); simp only [zan, zas, go_sem, Nat.zero_add, Nat.reduceAdd]
  refine DS.bnd (t := 0) yG (.inl rfl) (fun hb0 => ?_); simp only [List.length_map] at hb0
  repeat' (first | (with_reducible first | refine DS.fltS yU yU yE ?_ | refine DS.opsNil ?_ | refine DS.seq ?_ | refine DS.regionL ?_ | (refine DS.cE yE ?_; refine CG.np (fun _ => ?_) (fun _ => ?_)) | refine DS.block ?_ | refine DS.skip ?_) | refine DS.retT [] yE trivial ?_ | fail)
  · simp_all [tupV]; intro h; subst h; simp_all
  refine DS.loopG (fun (i : Nat) => [(0, ints a), (1, ints b), (5, I i)]) (fun (i : Nat) => []) (fun (i : Nat) => i ≤ a.length ∧ a.take i = b.take i) (fun (i : Nat) => a.length - i) 0 yS yS (by simp) (fun i B hI hB => ?_); try dsimp only at hI hB ⊢
  repeat' (first | (with_reducible first | refine DS.fltS yU yU yE ?_ | refine DS.opsNil ?_ | refine DS.seq ?_ | refine DS.regionL ?_ | (refine DS.cE yE ?_; first | refine CG.np (fun _ => ?_) (fun _ => ?_) | refine CG.p (fun _ => ?_) (fun _ => ?_)) | refine DS.blk ?_ | refine DS.block ?_ | refine DS.exit yU ?_ | refine DS.skip ?_) | refine DS.drawL (id := 6) [0, 1, 2, 3, 4, 5, 6, 7] 8 (by kernel_rfl) zct (by simp only [zay, zbc, zbd, zbe, zax]; exact rfl) (by simp only [zav, zaw, List.drop_nil]; exact rfl) ?_ | (with_reducible first | refine DD.fltS yU yU yU yE ?_ | refine DD.nil0 ?_) | refine DS.retT [] yE trivial ?_ | fail)
  · rename_i h1 h2
    have : a ≠ b := fun e => h2 (by subst e; rfl)
    simp [tupV, this]
  · exact DS.back (hB (i + 1) _ _ (by omega) ⟨by omega, take_succ_eq hI.2 (by omega) (by omega) (by simp_all)⟩ yS yS)
  · have : i = a.length := by omega
    have : a = b := by
      have h := hI.2
      rw [List.take_of_length_le (by omega), List.take_of_length_le (by omega)] at h
      exact h
    simp [tupV, this]
theorem zhf (n lo hi : Int) : PC Try.prog 71 [I n, I lo, I hi] (Bo (decide (lo ≤ n ∧ n ≤ hi))) := by
  refine DC.of_run Try.func71 rfl Try.ntmps71 Try.results71 (by simp) (fun _ => ?_); simp only [zan, zas, go_sem, Nat.zero_add, Nat.reduceAdd]
  repeat' (first | (with_reducible first | refine DS.fltS yU yU yE ?_ | refine DS.opsNil ?_ | refine DS.seq ?_ | refine DS.regionL ?_ | (refine DS.gE yU yE ?_; first | refine GG.pT (fun _ => ?_) (fun _ => ?_) | refine GG.run ?_ | refine GG.sF ?_)) | refine DS.retT [] yE trivial ?_ | fail)
  all_goals first | (simp_all [tupV]; done) | (simp_all [tupV]; omega)
theorem zdx (n lo hi : Int) : PC Try.prog 73 [I n, I lo, I hi] (Bo (decide (lo ≤ n ∧ n ≤ hi))) := by
  refine DC.of_run Try.func73 rfl Try.ntmps73 Try.results73 (by simp) (fun _ => ?_); simp only [zan, zas, go_sem, Nat.zero_add, Nat.reduceAdd]
  repeat' (first | (with_reducible first | refine DS.fltS yU yU yE ?_ | refine DS.opsNil ?_ | refine DS.seq ?_ | refine DS.regionL ?_ | (refine DS.gE yU yE ?_; first | refine GG.pT (fun _ => ?_) (fun _ => ?_) | refine GG.run ?_ | refine GG.sF ?_)) | refine DS.retT [] yE trivial ?_ | fail)
  all_goals first | (simp_all [tupV]; done) | (simp_all [tupV]; omega)
theorem zua (m : Member) (r : Int) : PC Try.prog 55 [m.val, I r] (Bo (m.plays r)) := by
  refine DC.of_run Try.func55 rfl Try.ntmps55 Try.results55 (by simp) (fun _ => ?_); simp only [zan, zas, go_sem, Nat.zero_add, Nat.reduceAdd]
  repeat' (first | (with_reducible first | refine DS.fltS yU yU yE ?_ | refine DS.opsNil ?_ | refine DS.seq ?_ | refine DS.regionL ?_ | (refine DS.gE yU yE ?_; first | refine GG.sU ?_ | refine GG.pT (fun _ => ?_) (fun _ => ?_) | refine GG.pF (fun _ => ?_) (fun _ => ?_) | refine GG.run ?_ | refine GG.sF ?_ | refine GG.sT ?_)) | (refine DS.boxF (t := 2) yU yE yU ?_; simp only [zbk, zcd, zbi, zbu, zbf, zaz, zbp, zbb, zca, zcc, zbq, zcb, zbt, zbs]) | refine DS.retT [] yE trivial ?_ | fail)
  all_goals first | (simp_all [tupV, Member.plays]; done) | (simp_all [tupV, Member.plays]; omega)
theorem zno (m : Member) (r : Int) : PC Try.prog 50 [m.val, I r] (Bo (m.playsR r)) := by
  refine DC.of_run Try.func50 rfl Try.ntmps50 Try.results50 (by simp) (fun _ => ?_); simp only [zan, zas, go_sem, Nat.zero_add, Nat.reduceAdd]
  repeat' (first | (with_reducible first | refine DS.fltS yU yU yE ?_ | refine DS.opsNil ?_ | refine DS.seq ?_ | refine DS.regionL ?_ | (refine DS.gE yU yE ?_; first | refine GG.sU ?_ | refine GG.pT (fun _ => ?_) (fun _ => ?_) | refine GG.pF (fun _ => ?_) (fun _ => ?_) | refine GG.run ?_ | refine GG.sF ?_ | refine GG.sT ?_)) | (refine DS.boxF (t := 2) yU yE yU ?_; simp only [zbk, zcd, zbi, zbu, zbf, zaz, zbp, zbb, zca, zcc, zbq, zcb, zbt, zbs]) | refine DS.retT [] yE trivial ?_ | fail)
  all_goals first | (simp_all [tupV, Member.playsR]; done) | (simp_all [tupV, Member.playsR]; omega)
end Go.XL
namespace Go.XL
open Go.Proofs
theorem zwd (l : List Int) (x : Int) : PC Try.prog 113 [ints l, I x] (Bo (decide (x ∈ l))) := by
  refine DC.of_run Try.func113 rfl Try.ntmps113 Try.results113 (by simp) (fun _ => ?_); simp only [zan, zas, go_sem, Nat.zero_add, Nat.reduceAdd]
  refine DS.bnd (t := 0) yG (.inl rfl) (fun hb0 => ?_); simp only [List.length_map] at hb0
  repeat' (first | (with_reducible first | refine DS.fltS yU yU yE ?_ | refine DS.opsNil ?_ | refine DS.seq ?_ | refine DS.regionL ?_ | refine DS.block ?_) | fail)
  refine DS.loopK [0, 1] (by (simp only [go_sem, Nat.reduceEqDiff, ↓reduceIte]; exact rfl)) (fun (i : Nat) => [(5, I i)]) (fun (i : Nat) => i ≤ l.length ∧ decide (x ∈ l) = decide (x ∈ l.drop i)) (fun (i : Nat) => l.length - i) 0 yS (by simp) (fun i B hI hB => ?_); try dsimp only at hI hB; simp only [zap, zau]
  repeat' (first | (with_reducible first | refine DS.fltS yU yU yE ?_ | refine DS.opsNil ?_ | refine DS.seq ?_ | refine DS.regionL ?_ | (refine DS.cE yE ?_; refine CG.p (fun _ => ?_) (fun _ => ?_)) | refine DS.blk ?_ | refine DS.block ?_ | refine DS.exit yU ?_ | refine DS.skip ?_) | refine DS.retT [] yE trivial ?_ | fail)
  · rename_i h1 h2
    obtain ⟨_, r, dr1, rfl, dr3⟩ := zcf (l := l) (i := i) (by omega); rw [dr1] at hI
    rw [hI.2]; simp [tupV, h2]
  · rename_i h1 h2
    obtain ⟨_, r, dr1, rfl, dr3⟩ := zcf (l := l) (i := i) (by omega); rw [dr1] at hI
    exact DS.back (hB (i + 1) _ _ (by omega) (⟨by omega, by rw [hI.2, dr3]; simp [Ne.symm h2]⟩) yS yS (fun b o e => by first | exact e | (simp only [zaa]; split <;> simp_all)))
  · have de1 := zdh (l := l) (i := i) (by omega); rw [de1] at hI
    rw [hI.2]; simp [tupV]
theorem zhl (c : Club) (id : Int) (hm : c.members.length ≤ 4611686018427387904) : PC Try.prog 58 [c.val, I id] (I (zgw c id)) := by
  refine DC.of_run Try.func58 rfl Try.ntmps58 Try.results58 (by simp) (fun _ => ?_); simp only [zan, zas, go_sem, Nat.zero_add, Nat.reduceAdd]
  repeat' (first | (with_reducible first | refine DS.fltS yU yU yE ?_ | refine DS.opsNil ?_ | refine DS.seq ?_ | refine DS.regionL ?_ | refine DS.block ?_) | (refine DS.boxF (t := 2) yU yE yU ?_; simp only [zbk, zcd, zbi, zbu, zbf, zaz, zbp, zbb, zca, zcc, zbq, zcb, zbt, zbs]) | fail)
  refine DS.loopK [1, 2] (by (simp only [go_sem, Nat.reduceEqDiff, ↓reduceIte]; exact rfl)) (fun (i : Nat) => [(5, I i)]) (fun (i : Nat) => i ≤ c.members.length ∧ zgw c id = idxF (fun m => decide (m.id = id)) (c.members.drop i) i) (fun (i : Nat) => c.members.length - i) 0 yS (by simp [zgw]) (fun i B hI hB => ?_); try dsimp only at hI hB; simp only [zap, zau]
  repeat' (first | (with_reducible first | refine DS.fltS yU yU yE ?_ | refine DS.opsNil ?_ | refine DS.seq ?_ | refine DS.regionL ?_ | (refine DS.cE yE ?_; refine CG.p (fun _ => ?_) (fun _ => ?_)) | refine DS.blk ?_ | refine DS.block ?_ | refine DS.exit yU ?_ | refine DS.skip ?_) | refine DS.retT [] yE trivial ?_ | fail)
  · obtain ⟨_, r, dr1, rfl, dr3⟩ := zcf (l := c.members) (i := i) (by omega); rw [dr1] at hI
    rw [hI.2]; simp [tupV, idxF, *]
  · obtain ⟨_, r, dr1, rfl, dr3⟩ := zcf (l := c.members) (i := i) (by omega); rw [dr1] at hI
    exact DS.back (hB (i + 1) _ _ (by omega) (⟨by omega, by rw [hI.2, dr3]; simp [idxF, *]⟩) yS yS (fun b o e => by first | exact e | (simp only [zaa]; split <;> simp_all)))
  · have de1 := zdh (l := c.members) (i := i) (by omega); rw [de1] at hI
    rw [hI.2]; simp [tupV, idxF]
end Go.XL
namespace Go.XL
open Go.Proofs
theorem ztx (c : Club) (l : List Int) (h1 : c.size ≤ 4) (h2 : 0 ≤ c.size) (h3 : 0 ≤ c.start ∧ c.start ≤ 1000000) : PC Try.prog 114 [c.val, ints l] (I (zkd c l)) := by
  have hm : 0 ≤ c.size * c.start ∧ c.size * c.start ≤ 4 * 1000000 := ⟨Int.mul_nonneg h2 h3.1, Int.mul_le_mul h1 h3.2 h3.1 (by decide)⟩
  refine DC.of_run Try.func114 rfl Try.ntmps114 Try.results114 (by simp) (fun _ => ?_); simp only [zan, zas, go_sem, Nat.zero_add, Nat.reduceAdd]
  refine DS.bnd (t := 1) yG (.inl rfl) (fun hb1 => ?_); simp only [List.length_map] at hb1
  repeat' (first | (with_reducible first | refine DS.fltS yU yU yE ?_ | refine DS.opsNil ?_ | refine DS.seq ?_ | refine DS.regionL ?_ | (refine DS.cE yE ?_; refine CG.np (fun _ => ?_) (fun _ => ?_)) | refine DS.block ?_ | refine DS.skip ?_) | (refine DS.boxF (t := 2) yU yE yU ?_; simp only [zbk, zcd, zbi, zbu, zbf, zaz, zbp, zbb, zca, zcc, zbq, zcb, zbt, zbs]) | refine DS.retT [] yE trivial ?_ | fail)
  · simp [tupV, zkd, zhh, *]
  refine DS.loopK [1, 2] (by (simp only [go_sem, Nat.reduceEqDiff, ↓reduceIte]; exact rfl)) (fun (i : Nat × Int) => [(5, I i.2), (6, I i.1)]) (fun (i : Nat × Int) => i.1 ≤ l.length ∧ zkd c l = zdu 1099511627776 (l.drop i.1) (c.size * c.start - i.2) ∧ -1099511627776 * i.1 ≤ i.2 ∧ i.2 ≤ 1099511627776 * i.1) (fun (i : Nat × Int) => l.length - i.1) (0, 0) yS (by simp [zkd, zhh, *]) (fun i B hI hB => ?_); try dsimp only at hI hB; simp only [zap, zau]
  repeat' (first | (with_reducible first | refine DS.fltS yU yU yE ?_ | refine DS.opsNil ?_ | refine DS.seq ?_ | refine DS.regionL ?_ | (refine DS.cE yE ?_; first | refine CG.np (fun _ => ?_) (fun _ => ?_) | refine CG.p (fun _ => ?_) (fun _ => ?_)) | refine DS.blk ?_ | refine DS.block ?_ | refine DS.exit yU ?_ | refine DS.skip ?_) | refine DS.pcS inferInstance (zdx _ _ _) yR yT ?_ | refine DS.retT [] yE trivial ?_ | fail)
  · rename_i q1 q2
    obtain ⟨_, r, dr1, rfl, dr3⟩ := zcf (l := l) (i := i.1) (by omega); rw [dr1] at hI
    rw [hI.2.1]; simp [zdu, tupV, q2]
  · rename_i q1 q2
    obtain ⟨_, r, dr1, rfl, dr3⟩ := zcf (l := l) (i := i.1) (by omega); rw [dr1] at hI
    have q3 := q2
    have q4 := q3
    exact DS.back (hB (i.1 + 1, i.2 + l[i.1]) _ _ (by simp; omega) (⟨by simp; omega, by rw [hI.2.1, dr3, zdu, if_pos q3]; congr 1; omega, by simp; omega, by simp; omega⟩) yS yS (fun b o e => by first | exact e | (simp only [zaa]; split <;> simp_all)))
  · have de1 := zdh (l := l) (i := i.1) (by omega); rw [de1] at hI
    rw [hI.2.1, zdu, if_neg (by omega)]; rfl
  · have de1 := zdh (l := l) (i := i.1) (by omega); rw [de1] at hI
    rw [hI.2.1, zdu, if_pos (by omega)]; rfl
end Go.XL
namespace Go.XL
open Go.Proofs
theorem zii (c : Club) : PC Try.prog 85 [c.val] (I (zfb c)) := by
  refine DC.of_run Try.func85 rfl Try.ntmps85 Try.results85 (by simp) (fun _ => ?_); simp only [zan, zas, go_sem, Nat.zero_add, Nat.reduceAdd]
  repeat' (first | (with_reducible first | refine DS.fltS yU yU yE ?_ | refine DS.opsNil ?_ | refine DS.seq ?_ | refine DS.regionL ?_ | (refine DS.cE yE ?_; first | refine CG.np (fun _ => ?_) (fun _ => ?_) | refine CG.yes ?_) | (refine DS.gE yU yE ?_; first | refine GG.npF (fun _ => ?_) (fun _ => ?_) | refine GG.run ?_ | refine GG.sT ?_) | refine DS.block ?_ | refine DS.skip ?_) | refine DS.pcS inferInstance (zdx _ _ _) yR yT ?_ | (refine DS.boxF (t := 1) yU yE yU ?_; simp only [zbk, zcd, zbi, zbu, zbf, zaz, zbp, zbb, zca, zcc, zbq, zcb, zbt, zbs]) | refine DS.retT [] yE trivial ?_ | fail)
  all_goals try (simp [tupV, zfb, zhh, *]; done)
  rename_i g1 g2 g3 g4 g5
  refine DS.loopK [1] (by (simp only [go_sem, Nat.reduceEqDiff, ↓reduceIte]; exact rfl)) (fun (i : Nat × Int) => [(3, I i.2), (4, I i.1)]) (fun (i : Nat × Int) => i.1 ≤ c.places.length ∧ zfb c = zdu 1000000 (c.places.drop i.1) (0 - i.2) ∧ -1000000 * i.1 ≤ i.2 ∧ i.2 ≤ 1000000 * i.1) (fun (i : Nat × Int) => c.places.length - i.1) (0, 0) yS (by simp [zfb, zhh, *]) (fun i B hI hB => ?_); try dsimp only at hI hB; simp only [zap, zau]
  repeat' (first | (with_reducible first | refine DS.fltS yU yU yE ?_ | refine DS.opsNil ?_ | refine DS.seq ?_ | refine DS.regionL ?_ | (refine DS.cE yE ?_; first | refine CG.np (fun _ => ?_) (fun _ => ?_) | refine CG.p (fun _ => ?_) (fun _ => ?_)) | refine DS.blk ?_ | refine DS.block ?_ | refine DS.exit yU ?_ | refine DS.skip ?_) | refine DS.pcS inferInstance (zdx _ _ _) yR yT ?_ | refine DS.retT [] yE trivial ?_ | fail)
  · rename_i q1 q2
    obtain ⟨_, r, dr1, rfl, dr3⟩ := zcf (l := c.places) (i := i.1) (by omega); rw [dr1] at hI
    rw [hI.2.1]; simp [zdu, tupV, q2]
  · rename_i q1 q2
    obtain ⟨_, r, dr1, rfl, dr3⟩ := zcf (l := c.places) (i := i.1) (by omega); rw [dr1] at hI
    have q4 := q2
    exact DS.back (hB (i.1 + 1, i.2 + c.places[i.1]) _ _ (by simp; omega) (⟨by simp; omega, by rw [hI.2.1, dr3, zdu, if_pos q2]; congr 1; omega, by simp; omega, by simp; omega⟩) yS yS (fun b o e => by first | exact e | (simp only [zaa]; split <;> simp_all)))
  · have de1 := zdh (l := c.places) (i := i.1) (by omega); rw [de1] at hI
    rw [hI.2.1, zdu, if_neg (by omega)]; rfl
  · have de1 := zdh (l := c.places) (i := i.1) (by omega); rw [de1] at hI
    rw [hI.2.1, zdu, if_pos (by omega)]; rfl
theorem zje (c : Club) (hm : c.members.length ≤ 1000000) : PC Try.prog 86 [c.val] (I (zdv c.members)) := by
  refine DC.of_run Try.func86 rfl Try.ntmps86 Try.results86 (by simp) (fun _ => ?_); simp only [zan, zas, go_sem, Nat.zero_add, Nat.reduceAdd]
  repeat' (first | (with_reducible first | refine DS.fltS yU yU yE ?_ | refine DS.opsNil ?_ | refine DS.seq ?_ | refine DS.regionL ?_ | (refine DS.cE yE ?_; refine CG.p (fun _ => ?_) (fun _ => ?_)) | refine DS.block ?_ | refine DS.skip ?_) | (refine DS.boxF (t := 1) yU yE yU ?_; simp only [zbk, zcd, zbi, zbu, zbf, zaz, zbp, zbb, zca, zcc, zbq, zcb, zbt, zbs]) | refine DS.retT [] yE trivial ?_ | fail)
  · rename_i q; rw [zdv, if_pos (by omega)]; rfl
  refine DS.loopK [1] (by (simp only [go_sem, Nat.reduceEqDiff, ↓reduceIte]; exact rfl)) (fun (i : Nat × Int) => [(3, I i.2), (4, I i.1)]) (fun (i : Nat × Int) => i.1 ≤ c.members.length ∧ zdv c.members = zdi (c.members.drop i.1) i.2) (fun (i : Nat × Int) => c.members.length - i.1) (0, 0) yS (by simp [zdv]; omega) (fun i B hI hB => ?_); try dsimp only at hI hB; simp only [zap, zau]
  repeat' (first | (with_reducible first | refine DS.fltS yU yU yE ?_ | refine DS.opsNil ?_ | refine DS.seq ?_ | refine DS.regionL ?_ | (refine DS.cE yE ?_; first | refine CG.np (fun _ => ?_) (fun _ => ?_) | refine CG.p (fun _ => ?_) (fun _ => ?_) | refine CG.yes ?_ | refine CG.no ?_) | (refine DS.gE yU yE ?_; first | refine GG.sU ?_ | refine GG.npT (fun _ => ?_) (fun _ => ?_) | refine GG.npF (fun _ => ?_) (fun _ => ?_) | refine GG.run ?_ | refine GG.sF ?_ | refine GG.sT ?_) | refine DS.blk ?_ | refine DS.block ?_ | refine DS.exit yU ?_ | refine DS.skip ?_) | (refine DS.letF (t := 5) yU yE yU (fun _ => by (simp (disch := omega) only [go_sem, dopV, Option.map_some, Option.map_none, Option.bind_some, Option.bind_none, ↓reduceIte, Nat.reduceEqDiff, Nat.reduceLT, Nat.reduceLeDiff, Nat.reduceAdd, Nat.reduceMul, Nat.reduceSub, Nat.zero_add, Nat.add_zero, Nat.zero_le, Nat.zero_mul, Nat.mul_one, Nat.one_mul, Int.natCast_zero, Int.toNat_zero, Int.reduceToNat, Int.reduceLT, Int.reduceLE, Int.reduceEq, decide_true, decide_false, true_and, and_true, Bool.and_self, Bool.and_true, Bool.true_and, Bool.not_true, Bool.not_false, IntWalk.toNatUp, IntWalk.iteOmega, IntWalk.i64_in, Option.isSome_some, not_true_eq_false, not_false_eq_true, Option.getD_some, Option.getD_none, Int.toNat_natCast, List.length_map, List.getElem?_map, List.getElem?_eq_getElem, V.flat, V.one, List.all_cons, List.all_nil, *]; exact rfl)) yE yU (by exact ⟨by with_unfolding_all rfl, by with_unfolding_all decide⟩) (fun _ => by simp only [go_sem, Nat.reduceEqDiff, ↓reduceIte]) ?_; simp only [go_sem]) | refine DS.pcS inferInstance (zdx _ _ _) yR yT ?_ | refine DS.retT [] yE trivial ?_ | fail)
  all_goals try first | (clear hB; obtain ⟨_, r, dr1, rfl, dr3⟩ := zcf (l := c.members) (i := i.1) (by omega); rw [dr1] at hI; rw [hI.2]; simp [tupV, zdi, *]; done) | (clear hB; have de1 := zdh (l := c.members) (i := i.1) (by omega); rw [de1] at hI; rw [hI.2]; simp [tupV, zdi, *]; done)
  · obtain ⟨_, r, dr1, rfl, dr3⟩ := zcf (l := c.members) (i := i.1) (by omega); rw [dr1] at hI
    exact DS.back (hB (i.1 + 1, c.members[i.1].id) _ _ (by simp; omega) (⟨by simp; omega, by rw [hI.2, dr3]; simp [zdi, *]⟩) yS yS (fun b o e => by first | exact e | (simp only [zaa]; split <;> simp_all)))
  · obtain ⟨_, r, dr1, rfl, dr3⟩ := zcf (l := c.members) (i := i.1) (by omega); rw [dr1] at hI
    exact DS.back (hB (i.1 + 1, c.members[i.1].id) _ _ (by simp; omega) (⟨by simp; omega, by rw [hI.2, dr3]; simp [zdi, *]⟩) yS yS (fun b o e => by first | exact e | (simp only [zaa]; split <;> simp_all)))
theorem znq {c : Club} {a b : Int} (h : ¬ (0 ≤ a ∧ a ≤ (c.rounds.length : Int) - 1)) : zhd c a b = false := by simp only [zhd, h, false_and, decide_false]
theorem zjn {c : Club} {i : Nat} (h : i < c.rounds.length) (b : Int) : zhd c i b = decide ((0 ≤ b ∧ b ≤ (c.rounds[i].points.length : Int) - 1) ∧ 0 < (c.rounds[i].points.getD b.toNat []).length) := by
  have h1 : (0 : Int) ≤ i ∧ (i : Int) ≤ (c.rounds.length : Int) - 1 := by omega
  simp only [zhd, h1, true_and, and_self, c.round_at h]
theorem zpj (c : Club) (hs : c.Small) (a b : Int) : PC Try.prog 76 [c.val, I a, I b] (Bo (zhd c a b)) := by
  have h1 := hs.rounds
  by_cases ha : 0 ≤ a ∧ a ≤ (c.rounds.length : Int) - 1
  · obtain ⟨i, rfl⟩ := Int.eq_ofNat_of_zero_le ha.1
    have hi : i < c.rounds.length := by omega
    have h2 := (hs.at hi).points
    rw [zjn hi]
    refine DC.of_run Try.func76 rfl Try.ntmps76 Try.results76 (by simp) (fun _ => ?_); simp only [zan, zas, go_sem, Nat.zero_add, Nat.reduceAdd]
    repeat' (first | (with_reducible first | refine DS.fltS yU yU yE ?_ | refine DS.opsNil ?_ | refine DS.seq ?_ | refine DS.regionL ?_ | (refine DS.gE yU yE ?_; first | refine GG.pT (fun _ => ?_) (fun _ => ?_) | refine GG.run ?_ | refine GG.sF ?_)) | refine DS.pcS inferInstance (zdx _ _ _) yR yT ?_ | (refine DS.boxF (t := 3) yU yE yU ?_; simp only [zbk, zcd, zbi, zbu, zbf, zaz, zbp, zbb, zca, zcc, zbq, zcb, zbt, zbs]) | refine DS.retT [] yE trivial ?_ | fail)
    · rename_i q1 q2
      have : b.toNat < c.rounds[i].points.length := by omega
      simp [tupV, List.getD_eq_getElem?_getD, *]
    · simp [tupV, *]
  · rw [znq ha]
    refine DC.of_run Try.func76 rfl Try.ntmps76 Try.results76 (by simp) (fun _ => ?_); simp only [zan, zas, go_sem, Nat.zero_add, Nat.reduceAdd]
    repeat' (first | (with_reducible first | refine DS.fltS yU yU yE ?_ | refine DS.opsNil ?_ | refine DS.seq ?_ | refine DS.regionL ?_ | (refine DS.gE yU yE ?_; refine GG.sF ?_)) | refine DS.pcS inferInstance (zdx _ _ _) yR yT ?_ | (refine DS.boxF (t := 3) yU yE yU ?_; simp only [zbk, zcd, zbi, zbu, zbf, zaz, zbp, zbb, zca, zcc, zbq, zcb, zbt, zbs]) | refine DS.retT [] yE trivial ?_ | fail)
    all_goals first | rfl | omega
theorem checkPoints_pc (c : Club) (hs : c.Small) (h1 : c.size ≤ 4) (h2 : 0 ≤ c.size) (h3 : 0 ≤ c.start ∧ c.start ≤ 1000000) {i : Nat} (hi : i < c.rounds.length) : PC Try.prog 88 [c.val, I i] (I (zfg c i)) := by
  have q1 := hs.rounds
  have q2 := hs.at hi
  have q3 := q2.points
  have q4 := q2.tables
  rw [zfg, c.round_at hi]
  refine DC.of_run Try.func88 rfl Try.ntmps88 Try.results88 (by simp) (fun _ => ?_); simp only [zan, zas, go_sem, Nat.zero_add, Nat.reduceAdd]
  repeat' (first | (with_reducible first | refine DS.fltS yU yU yE ?_ | refine DS.opsNil ?_ | refine DS.seq ?_ | refine DS.regionL ?_ | (refine DS.cE yE ?_; refine CG.np (fun _ => ?_) (fun _ => ?_)) | refine DS.block ?_ | refine DS.skip ?_) | (refine DS.letF (t := 5) yU yE yU (fun _ => by (simp (disch := omega) only [go_sem, dopV, Option.map_some, Option.map_none, Option.bind_some, Option.bind_none, ↓reduceIte, Nat.reduceEqDiff, Nat.reduceLT, Nat.reduceLeDiff, Nat.reduceAdd, Nat.reduceMul, Nat.reduceSub, Nat.zero_add, Nat.add_zero, Nat.zero_le, Nat.zero_mul, Nat.mul_one, Nat.one_mul, Int.natCast_zero, Int.toNat_zero, Int.reduceToNat, Int.reduceLT, Int.reduceLE, Int.reduceEq, decide_true, decide_false, true_and, and_true, Bool.and_self, Bool.and_true, Bool.true_and, Bool.not_true, Bool.not_false, IntWalk.toNatUp, IntWalk.iteOmega, IntWalk.i64_in, Option.isSome_some, not_true_eq_false, not_false_eq_true, Option.getD_some, Option.getD_none, Int.toNat_natCast, List.length_map, List.getElem?_map, List.getElem?_eq_getElem, V.flat, V.one, List.all_cons, List.all_nil, *]; exact rfl)) yE yU (by exact ⟨by with_unfolding_all rfl, by with_unfolding_all decide⟩) (fun _ => by simp only [go_sem, Nat.reduceEqDiff, ↓reduceIte]) ?_; simp only [go_sem]) | (refine DS.boxF (t := 2) yU yE yU ?_; simp only [zbk, zcd, zbi, zbu, zbf, zaz, zbp, zbb, zca, zcc, zbq, zcb, zbt, zbs]) | refine DS.retT [] yE trivial ?_ | fail)
  · rename_i q; rw [if_pos (by omega)]; simp [tupV]
  refine DS.loopK [2, 5] (by (simp only [go_sem, Nat.reduceEqDiff, ↓reduceIte]; exact rfl)) (fun (k : Nat) => [(6, I k)]) (fun (k : Nat) => k ≤ c.rounds[i].points.length ∧ zee c c.rounds[i].points = zee c (c.rounds[i].points.drop k)) (fun (k : Nat) => c.rounds[i].points.length - k) 0 yS (by simp) (fun k B hI hB => ?_); try dsimp only at hI hB; simp only [zap, zau]
  repeat' (first | (with_reducible first | refine DS.fltS yU yU yE ?_ | refine DS.opsNil ?_ | refine DS.seq ?_ | refine DS.regionL ?_ | (refine DS.cE yE ?_; first | refine CG.np (fun _ => ?_) (fun _ => ?_) | refine CG.p (fun _ => ?_) (fun _ => ?_)) | refine DS.blk ?_ | refine DS.block ?_ | refine DS.exit yU ?_ | refine DS.skip ?_) | refine DS.pcS inferInstance (ztx c _ h1 h2 h3) yR yT ?_ | refine DS.drawL (id := 8) [0, 1, 2, 3, 4, 5] 6 (by kernel_rfl) zct (by simp only [zay, zbc, zbd, zbe, zax]; exact rfl) (by simp only [zav, zaw, List.drop_nil]; exact rfl) ?_ | (with_reducible first | refine DD.fltS yU yU yU yE ?_ | refine DD.nil0 ?_) | refine DS.retT [] yE trivial ?_ | fail)
  · rename_i e1 e2 e3
    obtain ⟨_, r, dr1, rfl, dr3⟩ := zcf (l := c.rounds[i].points) (i := k) (by omega); rw [dr1] at hI
    exact DS.back (hB (k + 1) _ _ (by omega) (⟨by omega, by rw [hI.2, dr3, zee, if_pos (by omega)]⟩) yS yS (fun b o e => by first | exact e | (simp only [zaa]; split <;> simp_all)))
  · rename_i e1 e2 e3 e4
    obtain ⟨_, r, dr1, rfl, dr3⟩ := zcf (l := c.rounds[i].points) (i := k) (by omega); rw [dr1] at hI
    rw [if_neg (by omega), hI.2, zee, if_neg (by omega), if_pos e4]; rfl
  · rename_i e1 e2 e3 e4
    obtain ⟨_, r, dr1, rfl, dr3⟩ := zcf (l := c.rounds[i].points) (i := k) (by omega); rw [dr1] at hI
    exact DS.back (hB (k + 1) _ _ (by omega) (⟨by omega, by rw [hI.2, dr3, zee, if_neg (by omega), if_neg (by omega)]⟩) yS yS (fun b o e => by first | exact e | (simp only [zaa]; split <;> simp_all)))
  · rename_i e1 e2
    have de1 := zdh (l := c.rounds[i].points) (i := k) (by omega); rw [de1] at hI
    rw [if_neg (by omega), hI.2]; rfl
theorem checkRulings_pc (c : Club) (hs : c.Small) (h1 : c.size ≤ 4) (h2 : 0 ≤ c.size) (h3 : 0 ≤ c.start ∧ c.start ≤ 1000000) (h4 : 0 ≤ c.window ∧ c.window ≤ 20) {i : Nat} (hi : i < c.rounds.length) : PC Try.prog 89 [c.val, I i] (I (zev c i)) := by
  have q1 := hs.rounds
  have q2 := hs.at hi
  have q3 := q2.rulings
  rw [zev, c.round_at hi]
  refine DC.of_run Try.func89 rfl Try.ntmps89 Try.results89 (by simp) (fun _ => ?_); simp only [zan, zas, go_sem, Nat.zero_add, Nat.reduceAdd]
  repeat' (first | (with_reducible first | refine DS.fltS yU yU yE ?_ | refine DS.opsNil ?_ | refine DS.seq ?_ | refine DS.regionL ?_ | (refine DS.cE yE ?_; refine CG.p (fun _ => ?_) (fun _ => ?_)) | refine DS.block ?_ | refine DS.skip ?_) | (refine DS.boxF (t := 2) yU yE yU ?_; simp only [zbk, zcd, zbi, zbu, zbf, zaz, zbp, zbb, zca, zcc, zbq, zcb, zbt, zbs]) | refine DS.retT [] yE trivial ?_ | fail)
  · rename_i q; rw [if_pos (by omega)]; simp [tupV]
  refine DS.loopK [1, 2, 5] (by (simp only [go_sem, Nat.reduceEqDiff, ↓reduceIte]; exact rfl)) (fun (k : Nat) => [(6, I k)]) (fun (k : Nat) => k ≤ c.rounds[i].rulings.length ∧ zdr c i c.rounds[i].rulings = zdr c i (c.rounds[i].rulings.drop k)) (fun (k : Nat) => c.rounds[i].rulings.length - k) 0 yS (by simp) (fun k B hI hB => ?_); try dsimp only at hI hB; simp only [zap, zau]
  repeat' (first | (with_reducible first | refine DS.fltS yU yU yE ?_ | refine DS.opsNil ?_ | refine DS.seq ?_ | refine DS.regionL ?_ | (refine DS.cE yE ?_; first | refine CG.np (fun _ => ?_) (fun _ => ?_) | refine CG.p (fun _ => ?_) (fun _ => ?_) | refine CG.nb (fun _ => ?_) (fun _ => ?_)) | refine DS.blk ?_ | refine DS.block ?_ | refine DS.exit yU ?_ | refine DS.skip ?_) | refine DS.pcS inferInstance (zdx _ _ _) yR yT ?_ | refine DS.pcS inferInstance (ztx c _ h1 h2 h3) yR yT ?_ | refine DS.pcS inferInstance (zpj c hs _ _) yR yT ?_ | refine DS.drawL (id := 11) [0, 1, 2, 3, 4, 5] 6 (by kernel_rfl) zct (by simp only [zay, zbc, zbd, zbe, zax]; exact rfl) (by simp only [zav, zaw, List.drop_nil]; exact rfl) ?_ | refine DS.drawL (id := 7) [0, 1, 2, 3, 4, 5, 6, 7, 8, 9, 10] 11 (by kernel_rfl) zct (by simp only [zay, zbc, zbd, zbe, zax]; exact rfl) (by simp only [zav, zaw, List.drop_nil]; exact rfl) ?_ | refine DS.drawL (id := 9) [0, 1, 2, 3, 4, 5, 6, 7, 8, 9, 10] 11 (by kernel_rfl) zct (by simp only [zay, zbc, zbd, zbe, zax]; exact rfl) (by simp only [zav, zaw, List.drop_nil]; exact rfl) ?_ | (with_reducible first | refine DD.fltS yU yU yU yE ?_ | refine DD.nil0 ?_) | refine DS.retT [] yE trivial ?_ | fail)
  · rename_i e1 e2 e3
    obtain ⟨_, r, dr1, rfl, dr3⟩ := zcf (l := c.rounds[i].rulings) (i := k) (by omega); rw [dr1] at hI
    rw [if_neg (by omega), hI.2, zdr, if_pos (by omega)]; rfl
  · rename_i e1 e2 e3 e4
    obtain ⟨_, r, dr1, rfl, dr3⟩ := zcf (l := c.rounds[i].rulings) (i := k) (by omega); rw [dr1] at hI
    rw [if_neg (by omega), hI.2, zdr, if_neg (by omega), if_pos e4]; rfl
  · rename_i e1 e2 e3 e4 e5
    obtain ⟨_, r, dr1, rfl, dr3⟩ := zcf (l := c.rounds[i].rulings) (i := k) (by omega); rw [dr1] at hI
    rw [if_neg (by omega), hI.2, zdr, if_neg (by omega), if_neg (by simp [e4]), if_pos e5]; rfl
  · rename_i e1 e2 e3 e4 e5
    obtain ⟨_, r, dr1, rfl, dr3⟩ := zcf (l := c.rounds[i].rulings) (i := k) (by omega); rw [dr1] at hI
    exact DS.back (hB (k + 1) _ _ (by omega) (⟨by omega, by rw [hI.2, dr3, zdr, if_neg (by omega), if_neg (by simp [e4]), if_neg (by omega)]⟩) yS yS (fun b o e => by first | exact e | (simp only [zaa]; split <;> simp_all)))
  · rename_i e1 e2
    have de1 := zdh (l := c.rounds[i].rulings) (i := k) (by omega); rw [de1] at hI
    rw [if_neg (by omega), hI.2]; rfl
end Go.XL
namespace Go.XL
open Go.Proofs
set_option maxRecDepth 100000
set_option maxHeartbeats 4000000
theorem any_hit {t : List Int} {p : Int → Bool} {k : Nat} (h : k < t.length) (e : p t[k] = true) : t.any p = true := List.any_eq_true.2 ⟨_, List.getElem_mem h, e⟩
theorem zof {t : List Int} (h : 0 < t.length) : t.headD 0 = t[0] := by
  cases t with
  | nil => simp at h
  | cons a r => rfl
def zjx (t : List Int) (k : Nat) : Option Int := if k = 0 then none else t[k - 1]?
theorem zfc {t : List Int} {k : Nat} (h : k < t.length) : zjx t (k + 1) = some t[k] := by simp [zjx, List.getElem?_eq_getElem h]
theorem zfx {t : List Int} {k : Nat} (h : k < t.length) (hk : 0 < k) : ∃ hk' : k - 1 < t.length, zjx t k = some t[k - 1] := ⟨by omega, by simp [zjx, Nat.pos_iff_ne_zero.1 hk, List.getElem?_eq_getElem (show k - 1 < t.length by omega)]⟩
theorem zli {c : Club} {round : Int} : ∀ {t : List Int} {pre : Option Int}, zdk c round t pre = 0 → ∀ id ∈ t, ¬ zgw c id < 0
  | [], _, _, _, h => (List.not_mem_nil h).elim
  | x :: t, pre, e, id, h => by
    simp only [zdk] at e
    split at e
    · cases e
    rename_i h1
    split at e
    · cases e
    split at e
    · cases e
    rcases List.mem_cons.1 h with rfl | h
    · exact h1
    · exact zli e id h
theorem member_pos {c : Club} (f : c.Fine) {id : Int} (h : ¬ zgw c id < 0) : 0 < id := by
  obtain ⟨i, hi, _, e, _⟩ := zfv h
  have := f.pos _ (List.getElem_mem hi)
  omega
theorem zmh {c : Club} {round first : Int} {t : List Int} {l : List (List Int)} {s : List Int} (h : ¬ (t.length : Int) = c.size) : zdn c round (t :: l) s first = 3 := by rw [zdn, if_pos h]
theorem zey {c : Club} {round first e : Int} {t : List Int} {l : List (List Int)} {s : List Int} (h : (t.length : Int) = c.size) (h1 : zdk c round t none = e) (h2 : e ≠ 0) : zdn c round (t :: l) s first = e := by
  rw [zdn, if_neg (by omega), if_pos (by rw [h1]; exact h2), h1]
theorem zkc {c : Club} {round first : Int} {t : List Int} {l : List (List Int)} {s : List Int} (h : (t.length : Int) = c.size) (h1 : zdk c round t none = 0) {k : Nat} (hk : k < t.length) (h2 : t[k] ∈ s) : zdn c round (t :: l) s first = 12 := by
  rw [zdn, if_neg (by omega), if_neg (by omega), if_pos (any_hit hk (by simpa using h2))]
theorem zkb {c : Club} {round first : Int} {t : List Int} {l : List (List Int)} {s : List Int} (h : (t.length : Int) = c.size) (h1 : zdk c round t none = 0) (h2 : ∀ x ∈ t, ¬ x ∈ s) (h3 : t.headD 0 ≤ first) : zdn c round (t :: l) s first = 11 := by
  rw [zdn, if_neg (by omega), if_neg (by omega), if_neg (by simp only [List.any_eq_true, not_exists, not_and]; intro x hx; simpa using h2 x hx), if_pos h3]
theorem zhw {c : Club} {round first : Int} {t : List Int} {l : List (List Int)} {s : List Int} (h : (t.length : Int) = c.size) (h1 : zdk c round t none = 0) (h2 : ∀ x ∈ t, ¬ x ∈ s) (h3 : ¬ t.headD 0 ≤ first) : zdn c round (t :: l) s first = zdn c round l (s ++ t) (t.headD 0) := by
  rw [zdn, if_neg (by omega), if_neg (by omega), if_neg (by simp only [List.any_eq_true, not_exists, not_and]; intro x hx; simpa using h2 x hx), if_neg h3]
def zkm (T : List (List Int)) (k : Nat) : Int := if k = 0 then 0 else (T.getD (k - 1) []).headD 0
theorem zja {T : List (List Int)} {k : Nat} (h : k < T.length) : zkm T (k + 1) = T[k].headD 0 := by
  simp [zkm, List.getD_eq_getElem?_getD, List.getElem?_eq_getElem h]
theorem yX0 {p : Prop} (h : p := by first | exact rfl | (simp (disch := omega) only [go_sem, dopV, Option.map_some, Option.map_none, Option.bind_some, Option.bind_none, ↓reduceIte, Nat.reduceEqDiff, Nat.reduceLT, Nat.reduceLeDiff, Nat.reduceAdd, Nat.reduceMul, Nat.reduceSub, Nat.zero_add, Nat.add_zero, Nat.zero_le, Nat.zero_mul, Nat.mul_one, Nat.one_mul, Int.natCast_zero, Int.toNat_zero, Int.reduceToNat, Int.reduceLT, Int.reduceLE, Int.reduceEq, decide_true, decide_false, true_and, and_true, Bool.and_self, Bool.and_true, Bool.true_and, Bool.not_true, Bool.not_false, IntWalk.toNatUp, IntWalk.iteOmega, IntWalk.i64_in, Option.isSome_some, not_true_eq_false, not_false_eq_true, Option.getD_some, Option.getD_none, Int.toNat_natCast, List.length_map, List.getElem?_map, List.getElem?_eq_getElem, V.flat, V.one, List.all_cons, List.all_nil, *]; exact rfl)) : p := h
theorem checkTables_pc (c : Club) (hs : c.Small) (f : c.Fine) (h1 : c.size ≤ 4) (h2 : 3 ≤ c.size) {i : Nat} (hi : i < c.rounds.length) : PC Try.prog 87 [c.val, I i] (I (zef c i)) := by
  have q1 := hs.rounds
  have q2 := hs.at hi
  have q3 := q2.tables
  have q4 := hs.members
  rw [zef, c.round_at hi]
  refine DC.of_run Try.func87 rfl Try.ntmps87 Try.results87 (by simp) (fun _ => ?_); simp only [zan, zas, go_sem, Nat.zero_add, Nat.reduceAdd]
  repeat' (first | (with_reducible first | (refine DS.nilOwn (t := 5) yU (by first | exact .inl rfl | exact .inr rfl) yE ?_) | refine DS.fltS yU yU yE ?_ | refine DS.opsNil ?_ | refine DS.seq ?_ | refine DS.regionL ?_ | refine DS.block ?_) | (refine DS.boxF (t := 2) yU yE yU ?_; simp only [zbk, zcd, zbi, zbu, zbf, zaz, zbp, zbb, zca, zcc, zbq, zcb, zbt, zbs]) | fail)
  refine DS.loopK [1, 2, 6] (by (simp only [go_sem, Nat.reduceEqDiff, ↓reduceIte]; exact rfl)) (fun (k : Nat × List Int) => [(5, .own false 3 1 (k.2.map cI)), (7, I k.1)]) (fun (k : Nat × List Int) => k.1 ≤ c.rounds[i].tables.length ∧ k.2.length ≤ 4 * k.1 ∧ zdn c i c.rounds[i].tables [] 0 = zdn c i (c.rounds[i].tables.drop k.1) k.2 (zkm c.rounds[i].tables k.1) ∧ (∀ j, j < k.1 → ∀ h : j < c.rounds[i].tables.length, 0 < c.rounds[i].tables[j].length)) (fun (k : Nat × List Int) => c.rounds[i].tables.length - k.1) (0, []) yS (by simp [zkm]) (fun k B hI hB => ?_); try dsimp only at hI hB; simp only [zap, zau]
  have hB0 := hB
  have hI0 := hI
  repeat' (first | (with_reducible first | refine DS.fltS yU yU yE ?_ | refine DS.opsNil ?_ | refine DS.seq ?_ | refine DS.regionL ?_ | (refine DS.cE yE ?_; first | refine CG.np (fun _ => ?_) (fun _ => ?_) | refine CG.p (fun _ => ?_) (fun _ => ?_)) | refine DS.block ?_ | refine DS.exit yU ?_ | refine DS.skip ?_) | refine DS.drawL (id := 6) [0, 1, 2, 3, 4, 5, 6] 7 (by kernel_rfl) zct (by simp only [zay, zbc, zbd, zbe, zax]; exact rfl) (by simp only [zav, zaw, List.drop_nil]; exact rfl) ?_ | (with_reducible first | refine DD.fltS yU yU yU yE ?_ | refine DD.nil0 ?_) | refine DS.retT [] yE trivial ?_ | fail)
  · rename_i e1 e2
    obtain ⟨_, r, dr1, rfl, dr3⟩ := zcf (l := c.rounds[i].tables) (i := k.1) (by omega); rw [dr1] at hI
    rw [hI.2.2.1, zmh e2]; rfl
  · rename_i e1 e2
    have hk : k.1 < c.rounds[i].tables.length := by omega
    refine DS.loopK [1, 2, 5, 6, 7] (by (simp only [go_sem, Nat.reduceEqDiff, ↓reduceIte]; exact rfl)) (fun (j : Nat) => [(8, I j)]) (fun (j : Nat) => j ≤ c.rounds[i].tables[k.1].length ∧ zdk c i c.rounds[i].tables[k.1] none = zdk c i (c.rounds[i].tables[k.1].drop j) (zjx c.rounds[i].tables[k.1] j)) (fun (j : Nat) => c.rounds[i].tables[k.1].length - j) 0 yS (by simp [zjx]) (fun j B hI hB => ?_); try dsimp only at hI hB; simp only [zap, zau]
    repeat' (first | (with_reducible first | refine DS.fltS yU yU yE ?_ | refine DS.opsNil ?_ | refine DS.seq ?_ | refine DS.regionL ?_ | (refine DS.cE yE ?_; refine CG.p (fun _ => ?_) (fun _ => ?_)) | refine DS.block ?_ | refine DS.exit yU ?_ | refine DS.skip ?_) | refine DS.pcS inferInstance (zhl c _ (by omega)) yR yT ?_ | refine DS.drawL (id := 11) [0, 1, 2, 3, 4, 5, 6, 7] 8 (by kernel_rfl) zct (by simp only [zay, zbc, zbd, zbe, zax]; exact rfl) (by simp only [zav, zaw, List.drop_nil]; exact rfl) ?_ | (with_reducible first | refine DD.fltS yU yU yU yE ?_ | refine DD.nil0 ?_) | refine DS.retT [] yE trivial ?_ | fail)
    · rename_i e3 e4
      obtain ⟨_, r, dr1, rfl, dr3⟩ := zcf (l := c.rounds[i].tables[k.1]) (i := j) (by omega); rw [dr1] at hI
      obtain ⟨_, r0, dr4, rfl, dr6⟩ := zcf (l := c.rounds[i].tables) (i := k.1) (by omega); rw [dr4] at hI0
      rw [hI0.2.2.1, zey (e := 7) e2 (by rw [hI.2, zdk, if_pos e4]) (by decide)]; rfl
    · rename_i e3 e4
      obtain ⟨m, hm, e5, -, e7⟩ := zfv e4
      have H := And.intro e5 e7
      simp only [e5]
      clear e5 e7 e4
      repeat' (first | (with_reducible first | refine DS.fltS yU yU yE ?_ | refine DS.opsNil ?_ | refine DS.seq ?_ | refine DS.regionL ?_ | (refine DS.cE yE ?_; first | refine CG.p (fun _ => ?_) (fun _ => ?_) | refine CG.no ?_ | refine CG.nb (fun _ => ?_) (fun _ => ?_)) | (refine DS.gE yU yE ?_; first | refine GG.run ?_ | refine GG.sF ?_) | refine DS.blk ?_ | refine DS.skip ?_) | refine DS.pcS inferInstance (zno _ _) yR yT ?_ | refine DS.drawL (id := 16) [0, 1, 2, 3, 4, 5, 6, 7, 8, 9, 10, 11, 12, 13, 14, 15, 16, 17] 18 (by kernel_rfl) zct (by simp only [zay, zbc, zbd, zbe, zax]; exact rfl) (by simp only [zav, zaw, List.drop_nil]; exact rfl) ?_ | (with_reducible first | refine DD.fltS yU yU yU yE ?_ | (refine DD.gE yU yE ?_; first | refine DGG.pT (fun _ => ?_) (fun _ => ?_) | refine DGG.run ?_ | refine DGG.sF ?_) | refine DD.nil0 ?_) | refine DS.retT [] yE trivial ?_ | fail)
      all_goals have e8 := zlz (f.to _ (List.getElem_mem hm)) i
      all_goals obtain ⟨_, r, dr1, rfl, dr3⟩ := zcf (l := c.rounds[i].tables[k.1]) (i := j) (by omega); rw [dr1] at hI
      · rename_i e9
        rw [e8] at e9
        obtain ⟨_, r0, dr4, rfl, dr6⟩ := zcf (l := c.rounds[i].tables) (i := k.1) (by omega); rw [dr4] at hI0
        rw [hI0.2.2.1, zey (e := 10) e2 (by rw [hI.2, zdk, if_neg (by rw [H.1]; omega), if_pos (by rw [H.2]; exact e9)]) (by decide)]; rfl
      · rename_i e9 e10 e11
        rw [e8] at e9
        obtain ⟨e12, e13⟩ := zfx (t := c.rounds[i].tables[k.1]) (k := j) (by omega) (by omega)
        obtain ⟨_, r0, dr4, rfl, dr6⟩ := zcf (l := c.rounds[i].tables) (i := k.1) (by omega); rw [dr4] at hI0
        rw [hI0.2.2.1, zey (e := 11) e2 (by rw [hI.2, zdk, if_neg (by rw [H.1]; omega), if_neg (by rw [H.2, e9]; decide), if_pos (by rw [e13]; simp only [zhc]; exact decide_eq_true e11)]) (by decide)]; rfl
      · rename_i e9 e10 e11
        rw [e8] at e9
        obtain ⟨e12, e13⟩ := zfx (t := c.rounds[i].tables[k.1]) (k := j) (by omega) (by omega)
        exact DS.back (hB (j + 1) _ _ (by omega) (⟨by omega, by rw [hI.2, dr3, zdk, if_neg (by rw [H.1]; omega), if_neg (by rw [H.2, e9]; decide), if_neg (by rw [e13]; simp only [zhc]; simpa using e11), zfc (by omega)]⟩) yS yS (fun b o e => by first | exact e | (simp only [zaa]; split <;> simp_all)))
      · rename_i e9 e10
        rw [e8] at e9
        have e13 : zhc (zjx c.rounds[i].tables[k.1] j) c.rounds[i].tables[k.1][j] = false := by
          have : j = 0 := by omega
          subst this; rfl
        exact DS.back (hB (j + 1) _ _ (by omega) (⟨by omega, by rw [hI.2, dr3, zdk, if_neg (by rw [H.1]; omega), if_neg (by rw [H.2, e9]; decide), if_neg (by rw [e13]; decide), zfc (by omega)]⟩) yS yS (fun b o e => by first | exact e | (simp only [zaa]; split <;> simp_all)))
    · rename_i e3
      have hids : zdk c i c.rounds[i].tables[k.1] none = 0 := by rw [hI.2, List.drop_eq_nil_of_le (by omega)]; rfl
      clear hI hB
      refine DS.loopK [1, 2, 5, 6, 7] (by (simp only [go_sem, Nat.reduceEqDiff, ↓reduceIte]; exact rfl)) (fun (j : Nat) => [(10, I j)]) (fun (j : Nat) => j ≤ c.rounds[i].tables[k.1].length ∧ ∀ m, m < j → ∀ h : m < c.rounds[i].tables[k.1].length, ¬ c.rounds[i].tables[k.1][m] ∈ k.2) (fun (j : Nat) => c.rounds[i].tables[k.1].length - j) 0 yS (by simp) (fun j B hI hB => ?_); try dsimp only at hI hB; simp only [zap, zau]
      repeat' (first | (with_reducible refine DS.mv (t := 5) yU (by first | exact .inl rfl | exact .inr rfl) yE ?_; simp only [zak, zac, zad, Nat.reduceEqDiff, ↓reduceIte, zag, zah, zao, zaf, zae, zal, zai]) | (with_reducible refine DS.mv (t := 109) yU (by first | exact .inl rfl | exact .inr rfl) yE ?_; simp only [zak, zac, zad, Nat.reduceEqDiff, ↓reduceIte, zag, zah, zao, zaf, zae, zal, zai]) | (with_reducible first | refine DS.fltS yU yU yE ?_ | refine DS.opsNil ?_ | refine DS.seq ?_ | refine DS.regionL ?_ | (refine DS.cE yE ?_; first | refine CG.p (fun _ => ?_) (fun _ => ?_) | refine CG.no ?_) | (refine DS.gE yU yE ?_; refine GG.sF ?_) | refine DS.blk ?_ | refine DS.block ?_ | refine DS.exit yU ?_ | refine DS.skip ?_) | (refine DS.append (mm := false) yU yE yE yU (by decide) yE (by first | exact .inl rfl | exact .inr ⟨rfl, rfl⟩) yE yX0 (by first | exact zar zcu _ | exact zar zdm _ | exact zar Member.len _ | exact zar Sitting.len _ | exact zar Ruling.len _ | (simp only [List.mem_cons, List.not_mem_nil, or_false, forall_eq]; rfl) | simp) ⟨by (try simp only [List.length_map, List.length_cons, List.length_nil, List.length_append, List.length_take, List.length_drop]); omega, by decide⟩ ?_; simp only [zak, zac, zad, Nat.reduceEqDiff, ↓reduceIte, zag, zah, zao, zaf, zae, zal, zai]) | refine DS.pcS inferInstance (zwd _ _) yR yT ?_ | refine DS.drawL (id := 23) [0, 1, 2, 3, 4, 5, 6, 7, 8, 9, 10, 11, 12, 13, 14, 15] 16 (by kernel_rfl) zct (by simp only [zay, zbc, zbd, zbe, zax]; exact rfl) (by simp only [zav, zaw, List.drop_nil]; exact rfl) ?_ | (with_reducible first | refine DD.fltS yU yU yU yE ?_ | (refine DD.gE yU yE ?_; first | refine DGG.pT (fun _ => ?_) (fun _ => ?_) | refine DGG.run ?_ | refine DGG.sF ?_) | refine DD.nil0 ?_) | refine DS.retT [] yE trivial ?_ | fail)
      · rename_i e4 e5
        obtain ⟨_, r0, dr4, rfl, dr6⟩ := zcf (l := c.rounds[i].tables) (i := k.1) (by omega); rw [dr4] at hI0
        rw [hI0.2.2.1, zkc e2 hids (k := j) (by omega) e5]; rfl
      · rename_i e4 e5
        exact DS.back (hB (j + 1) _ _ (by omega) (⟨by omega, fun m hm h => by
          by_cases hmj : m = j
          · subst hmj; exact e5
          · exact hI.2 m (by omega) h⟩) yS yS (fun b o e => by first | exact e | (simp only [zaa]; split <;> simp_all)))
      all_goals
        rename_i e4 e5
        have hno : ∀ x ∈ c.rounds[i].tables[k.1], ¬ x ∈ k.2 := fun x hx => by
          obtain ⟨m, hm, rfl⟩ := List.getElem_of_mem hx
          exact hI.2 m (by omega) hm
        have hhd := zof (t := c.rounds[i].tables[k.1]) (by omega)
        have hmem := zli hids _ (List.getElem_mem (show 0 < c.rounds[i].tables[k.1].length by omega))
        have hpos := member_pos f hmem
        have hlen : (k.2 ++ c.rounds[i].tables[k.1]).length ≤ 4 * (k.1 + 1) := by simp; omega
        have hall : ∀ m, m < k.1 + 1 → ∀ h : m < c.rounds[i].tables.length, 0 < c.rounds[i].tables[m].length := fun m hm h => by
          by_cases hmj : m = k.1
          · subst hmj; omega
          · exact hI0.2.2.2 m (by omega) h
      · have hprev := hI0.2.2.2 (k.1 - 1) (by omega) (by omega)
        have hf : zkm c.rounds[i].tables k.1 = c.rounds[i].tables[k.1 - 1][0] := by
          have := zja (T := c.rounds[i].tables) (k := k.1 - 1) (by omega)
          rw [show k.1 - 1 + 1 = k.1 by omega] at this
          rw [this, zof hprev]
        have H := And.intro hno (And.intro hhd (And.intro hlen (And.intro hall hf)))
        clear hno hhd hlen hall hf hmem
        repeat' (first | (with_reducible refine DS.mv (t := 5) yU (by first | exact .inl rfl | exact .inr rfl) yE ?_; simp only [zak, zac, zad, Nat.reduceEqDiff, ↓reduceIte, zag, zah, zao, zaf, zae, zal, zai]) | (with_reducible refine DS.mv (t := 109) yU (by first | exact .inl rfl | exact .inr rfl) yE ?_; simp only [zak, zac, zad, Nat.reduceEqDiff, ↓reduceIte, zag, zah, zao, zaf, zae, zal, zai]) | (with_reducible first | refine DS.fltS yU yU yE ?_ | refine DS.opsNil ?_ | refine DS.seq ?_ | refine DS.regionL ?_ | (refine DS.cE yE ?_; refine CG.p (fun _ => ?_) (fun _ => ?_)) | (refine DS.gE yU yE ?_; refine GG.run ?_) | refine DS.blk ?_ | refine DS.skip ?_) | (refine DS.append (mm := false) yU yE yE yU (by decide) yE (by first | exact .inl rfl | exact .inr ⟨rfl, rfl⟩) yE yX0 (by first | exact zar zcu _ | exact zar zdm _ | exact zar Member.len _ | exact zar Sitting.len _ | exact zar Ruling.len _ | (simp only [List.mem_cons, List.not_mem_nil, or_false, forall_eq]; rfl) | simp) ⟨by (try simp only [List.length_map, List.length_cons, List.length_nil, List.length_append, List.length_take, List.length_drop]); omega, by decide⟩ ?_; simp only [zak, zac, zad, Nat.reduceEqDiff, ↓reduceIte, zag, zah, zao, zaf, zae, zal, zai]) | (with_reducible first | refine DD.fltS yU yU yU yE ?_ | (refine DD.gE yU yE ?_; refine DGG.run ?_) | refine DD.nil0 ?_) | refine DS.retT [] yE trivial ?_ | fail)
        · rename_i e6
          obtain ⟨_, r0, dr4, rfl, dr6⟩ := zcf (l := c.rounds[i].tables) (i := k.1) (by omega); rw [dr4] at hI0
          rw [hI0.2.2.1, zkb e2 hids H.1 (by rw [H.2.1, H.2.2.2.2]; exact e6)]; rfl
        · rename_i e6
          obtain ⟨_, r0, dr4, rfl, dr6⟩ := zcf (l := c.rounds[i].tables) (i := k.1) (by omega); rw [dr4] at hI0
          refine DS.back (hB0 (k.1 + 1, k.2 ++ c.rounds[i].tables[k.1]) _ _ (by simp; omega) ⟨by simp; omega, H.2.2.1, ?_, H.2.2.2.1⟩ yS yS (fun b o e => by exact e))
          rw [hI0.2.2.1, dr6, zhw e2 hids H.1 (by rw [H.2.1, H.2.2.2.2]; exact e6), zja (by omega)]
      · have hf : zkm c.rounds[i].tables k.1 = 0 := by simp [zkm]; omega
        have H := And.intro hno (And.intro hhd (And.intro hlen (And.intro hall hf)))
        clear hno hhd hlen hall hf hmem
        obtain ⟨_, r0, dr4, rfl, dr6⟩ := zcf (l := c.rounds[i].tables) (i := k.1) (by omega); rw [dr4] at hI0
        refine DS.back (hB0 (k.1 + 1, k.2 ++ c.rounds[i].tables[k.1]) _ _ (by simp; omega) ⟨by simp; omega, H.2.2.1, ?_, H.2.2.2.1⟩ yS yS (fun b o e => by exact e))
        rw [hI0.2.2.1, dr6, zhw e2 hids H.1 (by rw [H.2.1, H.2.2.2.2]; omega), zja (by omega)]
  · rename_i e1
    have de1 := zdh (l := c.rounds[i].tables) (i := k.1) (by omega); rw [de1] at hI
    rw [hI.2.2.1]; rfl
end Go.XL
namespace Go.XL
open Go.Proofs
set_option maxRecDepth 100000
set_option maxHeartbeats 4000000
theorem zkh {c : Club} (h : zfb c = 0) : (3 ≤ c.size ∧ c.size ≤ 4) ∧ (0 ≤ c.start ∧ c.start ≤ 1000000) ∧ (-1000000 ≤ c.absent ∧ c.absent ≤ 1000000) ∧ (0 ≤ c.window ∧ c.window ≤ 20) ∧ zhh c.size c.places 1000000 0 = 0 := by
  unfold zfb at h
  split at h
  · cases h
  split at h
  · cases h
  split at h
  · cases h
  split at h
  · cases h
  rename_i h1 h2 h3 h4
  exact ⟨Decidable.not_not.1 h1, Decidable.not_not.1 h2, Decidable.not_not.1 h3, Decidable.not_not.1 h4, h⟩
theorem zfn {c : Club} {i : Nat} (h : i < c.rounds.length) : zdf c i (c.rounds.length - i) = if zef c i ≠ 0 then zef c i else if zhz c i ≠ 0 then zhz c i else zdf c (i + 1) (c.rounds.length - (i + 1)) := by
  rw [show c.rounds.length - i = (c.rounds.length - (i + 1)) + 1 by omega, zdf]
theorem zpi {c : Club} {i : Nat} (h : i < c.rounds.length) (h1 : ¬ zef c i = 0) : zdf c i (c.rounds.length - i) = zef c i := by rw [zfn h, if_pos h1]
theorem roundsGo_B {c : Club} {i : Nat} (h : i < c.rounds.length) (h1 : zef c i = 0) (h2 : ¬ zfg c i = 0) : zdf c i (c.rounds.length - i) = zfg c i := by
  have e : zhz c i = zfg c i := by rw [zhz, if_pos h2]
  rw [zfn h, if_neg (by omega), e, if_pos h2]
theorem roundsGo_C {c : Club} {i : Nat} (h : i < c.rounds.length) (h1 : zef c i = 0) (h2 : zfg c i = 0) (h3 : ¬ zev c i = 0) : zdf c i (c.rounds.length - i) = zev c i := by
  have e : zhz c i = zev c i := by rw [zhz, if_neg (by omega)]
  rw [zfn h, if_neg (by omega), e, if_pos h3]
theorem roundsGo_D {c : Club} {i : Nat} (h : i < c.rounds.length) (h1 : zef c i = 0) (h2 : zfg c i = 0) (h3 : zev c i = 0) : zdf c i (c.rounds.length - i) = zdf c (i + 1 : Nat) (c.rounds.length - (i + 1)) := by
  have e : zhz c i = zev c i := by rw [zhz, if_neg (by omega)]
  rw [zfn h, if_neg (by omega), e, if_neg (by omega)]
theorem zgs (c : Club) (hs : c.Small) : PC Try.prog 49 [c.val] (I (zcx c)) := by
  have q1 := hs.rounds
  have q2 := hs.members
  by_cases hr : zfb c = 0
  · obtain ⟨g1, g2, g3, g4, g5⟩ := zkh hr
    by_cases hm : zdv c.members = 0
    · have f := ztd hm
      rw [zcx, if_neg (by omega), if_neg (by omega)]
      refine DC.of_run Try.func49 rfl Try.ntmps49 Try.results49 (by simp) (fun _ => ?_); simp only [zan, zas, go_sem, Nat.zero_add, Nat.reduceAdd]
      repeat' (first | (with_reducible first | refine DS.fltS yU yU yE ?_ | refine DS.opsNil ?_ | refine DS.seq ?_ | refine DS.regionL ?_ | (refine DS.cE yE ?_; first | refine CG.p (fun _ => ?_) (fun _ => ?_) | refine CG.no ?_) | refine DS.block ?_ | refine DS.skip ?_) | refine DS.pcS inferInstance (zii c) yR yT ?_ | refine DS.pcS inferInstance (zje c q2) yR yT ?_ | (refine DS.boxF (t := 1) yU yE yU ?_; simp only [zbk, zcd, zbi, zbu, zbf, zaz, zbp, zbb, zca, zcc, zbq, zcb, zbt, zbs]) | refine DS.retT [] yE trivial ?_ | fail)
      · rw [if_pos (by omega)]; rfl
      rename_i q3
      rw [if_neg (by omega)]
      refine DS.loopK [1] (by (simp only [go_sem, Nat.reduceEqDiff, ↓reduceIte]; exact rfl)) (fun (i : Nat) => [(5, I i)]) (fun (i : Nat) => i ≤ c.rounds.length ∧ zdf c 0 c.rounds.length = zdf c i (c.rounds.length - i)) (fun (i : Nat) => c.rounds.length - i) 0 yS (by simp) (fun i B hI hB => ?_); try dsimp only at hI hB; simp only [zap, zau]
      repeat' (first | (with_reducible first | refine DS.fltS yU yU yE ?_ | refine DS.opsNil ?_ | refine DS.seq ?_ | refine DS.regionL ?_ | (refine DS.cE yE ?_; first | refine CG.np (fun _ => ?_) (fun _ => ?_) | refine CG.p (fun _ => ?_) (fun _ => ?_)) | refine DS.blk ?_ | refine DS.block ?_ | refine DS.exit yU ?_ | refine DS.skip ?_) | refine DS.pcS inferInstance (checkTables_pc c hs f g1.2 g1.1 (i := i) (by omega)) yR yT ?_ | refine DS.pcS inferInstance (checkPoints_pc c hs g1.2 (by omega) g2 (i := i) (by omega)) yR yT ?_ | refine DS.pcS inferInstance (checkRulings_pc c hs g1.2 (by omega) g2 g4 (i := i) (by omega)) yR yT ?_ | refine DS.retT [] yE trivial ?_ | fail)
      · rename_i e1 e2
        rw [hI.2, zpi (by omega) e2]; rfl
      · rename_i e1 e2 e3
        rw [hI.2, roundsGo_B (by omega) e2 e3]; rfl
      · rename_i e1 e2 e3 e4
        rw [hI.2, roundsGo_C (by omega) e2 e3 e4]; rfl
      · rename_i e1 e2 e3 e4
        exact DS.back (hB (i + 1) _ _ (by omega) (⟨by omega, by rw [hI.2, roundsGo_D (by omega) e2 e3 e4]⟩) yS yS (fun b o e => by first | exact e | (simp only [zaa]; split <;> simp_all)))
      · rename_i e1
        rw [hI.2, show c.rounds.length - i = 0 by omega]; rfl
    · rw [zcx, if_neg (by omega), if_pos hm]
      refine DC.of_run Try.func49 rfl Try.ntmps49 Try.results49 (by simp) (fun _ => ?_); simp only [zan, zas, go_sem, Nat.zero_add, Nat.reduceAdd]
      repeat' (first | (with_reducible first | refine DS.fltS yU yU yE ?_ | refine DS.opsNil ?_ | refine DS.seq ?_ | refine DS.regionL ?_ | (refine DS.cE yE ?_; first | refine CG.yes ?_ | refine CG.no ?_) | refine DS.skip ?_) | refine DS.pcS inferInstance (zii c) yR yT ?_ | refine DS.pcS inferInstance (zje c q2) yR yT ?_ | (refine DS.boxF (t := 1) yU yE yU ?_; simp only [zbk, zcd, zbi, zbu, zbf, zaz, zbp, zbb, zca, zcc, zbq, zcb, zbt, zbs]) | refine DS.retT [] yE trivial ?_ | fail)
      rfl
  · rw [zcx, if_pos hr]
    refine DC.of_run Try.func49 rfl Try.ntmps49 Try.results49 (by simp) (fun _ => ?_); simp only [zan, zas, go_sem, Nat.zero_add, Nat.reduceAdd]
    repeat' (first | (with_reducible first | refine DS.fltS yU yU yE ?_ | refine DS.opsNil ?_ | refine DS.seq ?_ | refine DS.regionL ?_ | (refine DS.cE yE ?_; refine CG.yes ?_)) | refine DS.pcS inferInstance (zii c) yR yT ?_ | (refine DS.boxF (t := 1) yU yE yU ?_; simp only [zbk, zcd, zbi, zbu, zbf, zaz, zbp, zbb, zca, zcc, zbq, zcb, zbt, zbs]) | refine DS.retT [] yE trivial ?_ | fail)
    rfl
def zmy (c : Club) (round : Int) : List Int := (c.members.filter (fun m => m.playsR round)).map Member.id
theorem zoq {c : Club} (h : zcx c = 0) : c.Fine := by
  unfold zcx at h
  split at h
  · contradiction
  split at h
  · contradiction
  rename_i h1 h2
  exact ztd (by omega)
theorem playingR_eq {c : Club} (f : c.Fine) (round : Int) : zmy c round = zge c round := by
  unfold zmy zge
  congr 1
  apply List.filter_congr
  intro m hm
  exact zlz (f.to m hm) round
theorem znp (c : Club) (hs : c.Small) (round : Int) : PC Try.prog 16 [c.val, I round] (.own false 3 1 ((zch c round).map cI)) := by
  have q1 := hs.members
  refine DC.of_run Try.func16 rfl Try.ntmps16 Try.results16 (by simp) (fun _ => ?_); simp only [zan, zas, go_sem, Nat.zero_add, Nat.reduceAdd]
  repeat' (first | (with_reducible first | (refine DS.nilOwn (t := 4) yU (by first | exact .inl rfl | exact .inr rfl) yE ?_) | (refine DS.nilOwn (t := 5) yU (by first | exact .inl rfl | exact .inr rfl) yE ?_) | refine DS.fltS yU yU yE ?_ | refine DS.opsNil ?_ | refine DS.seq ?_ | refine DS.regionL ?_ | (refine DS.cE yE ?_; first | refine CG.p (fun _ => ?_) (fun _ => ?_) | refine CG.yes ?_) | (refine DS.gE yU yE ?_; first | refine GG.npF (fun _ => ?_) (fun _ => ?_) | refine GG.run ?_ | refine GG.sT ?_) | refine DS.block ?_ | refine DS.skip ?_) | refine DS.pcS inferInstance (zgs c hs) yR yT ?_ | (refine DS.boxF (t := 2) yU yE yU ?_; simp only [zbk, zcd, zbi, zbu, zbf, zaz, zbp, zbb, zca, zcc, zbq, zcb, zbt, zbs]) | refine DS.retT [] yE trivial ?_ | fail)
  · rename_i e1 e2; rw [zch, if_pos e2]; rfl
  · rename_i e1 e2
    rw [zch, if_neg e2, if_neg (by omega)]
    refine DS.loopK [1, 2] (by (simp only [go_sem, Nat.reduceEqDiff, ↓reduceIte]; exact rfl)) (fun (k : Nat × List Int) => [(5, .own false 3 1 (k.2.map cI)), (6, I k.1)]) (fun (k : Nat × List Int) => k.1 ≤ c.members.length ∧ k.2.length ≤ k.1 ∧ k.2 ++ ((c.members.drop k.1).filter (fun m => m.playsR round)).map Member.id = zmy c round) (fun (k : Nat × List Int) => c.members.length - k.1) (0, []) yS (by simp [zmy]) (fun k B hI hB => ?_); try dsimp only at hI hB; simp only [zap, zau]
    repeat' (first | (with_reducible refine DS.mv (t := 4) yU (by first | exact .inl rfl | exact .inr rfl) yE ?_; simp only [zak, zac, zad, Nat.reduceEqDiff, ↓reduceIte, zag, zah, zao, zaf, zae, zal, zai]) | (with_reducible refine DS.mv (t := 5) yU (by first | exact .inl rfl | exact .inr rfl) yE ?_; simp only [zak, zac, zad, Nat.reduceEqDiff, ↓reduceIte, zag, zah, zao, zaf, zae, zal, zai]) | (with_reducible refine DS.mv (t := 28) yU (by first | exact .inl rfl | exact .inr rfl) yE ?_; simp only [zak, zac, zad, Nat.reduceEqDiff, ↓reduceIte, zag, zah, zao, zaf, zae, zal, zai]) | (with_reducible refine DS.mv (t := 37) yU (by first | exact .inl rfl | exact .inr rfl) yE ?_; simp only [zak, zac, zad, Nat.reduceEqDiff, ↓reduceIte, zag, zah, zao, zaf, zae, zal, zai]) | (with_reducible first | refine DS.fltS yU yU yE ?_ | refine DS.opsNil ?_ | refine DS.seq ?_ | refine DS.regionL ?_ | (refine DS.cE yE ?_; first | refine CG.p (fun _ => ?_) (fun _ => ?_) | refine CG.b (fun _ => ?_) (fun _ => ?_)) | refine DS.blk ?_ | refine DS.block ?_ | refine DS.exit yU ?_ | refine DS.skip ?_) | (refine DS.bsl yU yE yE ?_; simp only [go_sem, Nat.zero_add, Nat.reduceAdd]) | (refine DS.append (mm := false) yU yE yE yU (by decide) yE (by first | exact .inl rfl | exact .inr ⟨rfl, rfl⟩) yE yX0 (by first | exact zar zcu _ | exact zar zdm _ | exact zar Member.len _ | exact zar Sitting.len _ | exact zar Ruling.len _ | (simp only [List.mem_cons, List.not_mem_nil, or_false, forall_eq]; rfl) | simp) ⟨by (try simp only [List.length_map, List.length_cons, List.length_nil, List.length_append, List.length_take, List.length_drop]); omega, by decide⟩ ?_; simp only [zak, zac, zad, Nat.reduceEqDiff, ↓reduceIte, zag, zah, zao, zaf, zae, zal, zai]) | refine DS.pcS inferInstance (zno _ _) yR yT ?_ | refine DS.retT [] yE trivial ?_ | fail)
    · rename_i e2 e3
      obtain ⟨_, r, dr1, rfl, dr3⟩ := zcf (l := c.members) (i := k.1) (by omega); rw [dr1] at hI
      exact DS.back (hB (k.1 + 1, k.2 ++ [c.members[k.1].id]) _ _ (by simp; omega) (⟨by simp; omega, by simp; omega, by rw [← hI.2.2, dr3, List.filter_cons, if_pos e3]; simp⟩) yS yS (fun b o e => by first | exact e | (simp only [zaa]; split <;> simp_all)))
    · rename_i e2 e3
      obtain ⟨_, r, dr1, rfl, dr3⟩ := zcf (l := c.members) (i := k.1) (by omega); rw [dr1] at hI
      exact DS.back (hB (k.1 + 1, k.2) _ _ (by simp; omega) (⟨by simp; omega, by simp; omega, by rw [← hI.2.2, dr3, List.filter_cons, if_neg (by simp [e3])]⟩) yS yS (fun b o e => by first | exact e | (simp only [zaa]; split <;> simp_all)))
    · rename_i e2
      have de1 := zdh (l := c.members) (i := k.1) (by omega); rw [de1] at hI
      rw [← playingR_eq (zoq e1), ← hI.2.2]; simp [tupV]
  · rename_i e1; rw [zch]; split <;> first | rfl | (rw [if_pos e1]; rfl)
end Go.XL
namespace Go.XL
open Go.Proofs
set_option maxRecDepth 100000
set_option maxHeartbeats 4000000
def sC (c : Club) (rs : List (List Int)) (bp R : Nat) (mt : V) (budget steps : Int) : List V :=
  [I c.size, I c.start, I c.absent, I c.window, ints c.places, Bo c.share, .lst (c.members.map Member.cells), .lst (c.rounds.map Sitting.cells), rows rs, .v (.slice (some ⟨bp, 0, none⟩) R R), mt, I budget, I steps]
@[go_sem] theorem zpb (c : Club) (rs : List (List Int)) (bp R : Nat) (mt : V) (budget steps : Int) : sC c rs bp R mt budget steps =
  [I c.size, I c.start, I c.absent, I c.window, ints c.places, Bo c.share, .lst (c.members.map Member.cells), .lst (c.rounds.map Sitting.cells), rows rs, .v (.slice (some ⟨bp, 0, none⟩) R R), mt, I budget, I steps] := rfl
def rowC (n b : Nat) : List V := [.v (.slice (some ⟨b, 0, none⟩) n n)]
@[go_sem] theorem rowC_eq (n b : Nat) : rowC n b = [.v (.slice (some ⟨b, 0, none⟩) n n)] := rfl
structure MetR (S : Sto) (bs : List Nat) (c : Club) (met : Int → Int → Bool) : Prop where
  len : bs.length = c.members.length
  row : ∀ (i : Nat) (h : i < bs.length) (h' : i < c.members.length), zab S bs[i] = some (.cells (c.members.map fun m => Bo (met c.members[i].id m.id)) 4)
theorem yX1 {p : Prop} (h : p := by (simp (disch := omega) only [go_sem, dopV, Option.map_some, Option.map_none, Option.bind_some, Option.bind_none, ↓reduceIte, Nat.reduceEqDiff, Nat.reduceLT, Nat.reduceLeDiff, Nat.reduceAdd, Nat.reduceMul, Nat.reduceSub, Nat.zero_add, Nat.add_zero, Nat.zero_le, Nat.zero_mul, Nat.mul_one, Nat.one_mul, Int.natCast_zero, Int.toNat_zero, Int.reduceToNat, Int.reduceLT, Int.reduceLE, Int.reduceEq, decide_true, decide_false, true_and, and_true, Bool.and_self, Bool.and_true, Bool.true_and, Bool.not_true, Bool.not_false, IntWalk.toNatUp, IntWalk.iteOmega, IntWalk.i64_in, Option.isSome_some, not_true_eq_false, not_false_eq_true, Option.getD_some, Option.getD_none, Int.toNat_natCast, List.length_map, List.getElem?_map, List.getElem?_eq_getElem, V.flat, V.one, List.all_cons, List.all_nil, *, zpb]; exact rfl)) : p := h
theorem yX2 {p : Prop} (h : p := by (simp (disch := omega) only [go_sem, dopV, Option.map_some, Option.map_none, Option.bind_some, Option.bind_none, ↓reduceIte, Nat.reduceEqDiff, Nat.reduceLT, Nat.reduceLeDiff, Nat.reduceAdd, Nat.reduceMul, Nat.reduceSub, Nat.zero_add, Nat.add_zero, Nat.zero_le, Nat.zero_mul, Nat.mul_one, Nat.one_mul, Int.natCast_zero, Int.toNat_zero, Int.reduceToNat, Int.reduceLT, Int.reduceLE, Int.reduceEq, decide_true, decide_false, true_and, and_true, Bool.and_self, Bool.and_true, Bool.true_and, Bool.not_true, Bool.not_false, IntWalk.toNatUp, IntWalk.iteOmega, IntWalk.i64_in, Option.isSome_some, not_true_eq_false, not_false_eq_true, Option.getD_some, Option.getD_none, Int.toNat_natCast, List.length_map, List.getElem?_map, List.getElem?_eq_getElem, V.flat, V.one, List.all_cons, List.all_nil, *, zpb]; try exact rfl)) : p := h
theorem fair_rc (S : Sto) {bx bp R : Nat} {c : Club} {rs : List (List Int)} {bs : List Nat} {budget steps : Int} {met : Int → Int → Bool} (hs : c.Small)
    (hx : zab S bx = some (.cells (sC c rs bp R (.own false 134 1 (bs.map (rowC c.members.length))) budget steps) 102)) (hm : MetR S bs c met) (t : List Int) (id : Int) (ht : ∀ a ∈ t, ¬ zgw c a < 0) (hid : ¬ zgw c id < 0) :
    RC Try.prog 123 [.v (.pointer (some ⟨bx, 0, none⟩)), ints t, I id] S (Bo (zcg met t id)) := by
  have q1 := hs.members
  obtain ⟨m2, hm2, f1, f2, -⟩ := zfv hid
  have hl := hm.len
  refine DC.of_run Try.func123 rfl Try.ntmps123 Try.results123 (by simp) (fun _ => ?_); simp only [zan, zas, go_sem, Nat.zero_add, Nat.reduceAdd]
  refine DS.bnd (t := 1) yG (.inl rfl) (fun hb1 => ?_); simp only [List.length_map] at hb1
  have H := And.intro f1 f2
  clear f1 f2
  repeat' (first | (with_reducible first | refine DS.fltS yU yU yE ?_ | refine DS.opsNil ?_ | refine DS.seq ?_ | refine DS.regionL ?_ | refine DS.block ?_) | fail)
  refine DS.loopK [0, 1, 2] (by (simp only [go_sem, Nat.reduceEqDiff, ↓reduceIte]; exact rfl)) (fun (i : Nat) => [(7, I i)]) (fun (i : Nat) => i ≤ t.length ∧ zcg met t id = zcg met (t.drop i) id) (fun (i : Nat) => t.length - i) 0 yS (by simp) (fun i B hI hB => ?_); try dsimp only at hI hB; simp only [zap, zau]
  repeat' (first | (with_reducible first | refine DS.fltS yU yU yX1 ?_ | refine DS.opsNil ?_ | refine DS.seq ?_ | refine DS.regionL ?_) | (with_reducible refine DS.cE yX1 ?_; with_reducible refine CG.p (fun _ => ?_) (fun _ => ?_)) | (with_reducible first | refine DS.block ?_ | refine DS.exit yU ?_ | refine DS.skip ?_) | refine DS.drawL (id := 4) [0, 1, 2, 3, 4, 5, 6, 7, 8, 9, 10, 11, 12, 13, 14, 15, 16, 17, 18, 19, 20] 21 (by kernel_rfl) zct (by simp only [zay, zbc, zbd, zbe, zax]; exact rfl) (by simp only [zav, zaw, List.drop_nil]; exact rfl) ?_ | with_reducible refine DD.fltS yU yU yU yX1 ?_ | refine DD.pcV0 inferInstance (zhl c _ (by omega)) yU yX2 ?_ | refine DS.retA yX1 ⟨?_, rfl⟩ | fail)
  · obtain ⟨m1, hm1, g1, g2, -⟩ := zfv (ht t[i] (List.getElem_mem (by omega)))
    have hr := hm.row m1 (hl ▸ hm1) hm1
    have G := And.intro g2 H
    simp only [g1, H.1]
    clear g1 g2 H hid
    repeat' (first | (with_reducible first | refine DS.fltS yU yU yX1 ?_ | refine DS.opsNil ?_ | refine DS.seq ?_ | refine DS.regionL ?_) | (with_reducible refine DS.cE yX1 ?_; with_reducible refine CG.b (fun _ => ?_) (fun _ => ?_)) | (with_reducible first | refine DS.blk ?_ | refine DS.skip ?_ | refine DD.fltS yU yU yU yX1 ?_ | refine DD.nil0 ?_) | refine DD.pcV0 inferInstance (zhl c _ (by omega)) yU yX2 ?_ | refine DS.retA yX1 ⟨?_, rfl⟩ | fail)
    · rename_i e1 e2
      obtain ⟨_, r, dr1, rfl, dr3⟩ := zcf (l := t) (i := i) (by omega); rw [dr1] at hI
      rw [hI.2]; simp [zcg, e2, tupV]
    · rename_i e1 e2
      obtain ⟨_, r, dr1, rfl, dr3⟩ := zcf (l := t) (i := i) (by omega); rw [dr1] at hI
      exact DS.back (hB (i + 1) _ _ (by omega) (⟨by omega, by rw [hI.2, dr3]; simp [zcg, e2]⟩) yS yS (fun b o e => by first | exact e | (simp only [zaa]; split <;> simp_all)))
  · have de1 := zdh (l := t) (i := i) (by omega); rw [de1] at hI
    rw [hI.2]; rfl
def zer (st : List Int → Int → Bool) (f : List Int → List Int → List (List Int)) (t : List Int) : List Int → List (List Int)
  | [] => []
  | id :: r => (if st t id = true then (f (t ++ [id]) r).map (id :: ·) else []) ++ zer st f t r
def zfi (st : List Int → Int → Bool) : Nat → List Int → List Int → List (List Int)
  | 0, _, _ => [[]]
  | n + 1, t, ids => zer st (zfi st n) t ids
theorem znw (st : List Int → Int → Bool) : ∀ (n : Nat) (t ids : List Int), (zfi st n t ids).length ≤ (ids.length + 1) ^ n
  | 0, t, ids => by simp [zfi]
  | n + 1, t, ids => by
    have key : ∀ (l : List Int) (m : Nat), l.length ≤ m → (zer st (zfi st n) t l).length ≤ l.length * (m + 1) ^ n := by
      intro l
      induction l with
      | nil => intro m _; simp [zer]
      | cons id r ih =>
        intro m hm
        rw [List.length_cons] at hm
        simp only [zer, List.length_append, List.length_cons]
        have h1 := ih m (by omega)
        have h2 : (if st t id = true then (zfi st n (t ++ [id]) r).map (id :: ·) else []).length ≤ (m + 1) ^ n := by
          split
          · rw [List.length_map]
            exact Nat.le_trans (znw st n _ r) (Nat.pow_le_pow_left (by omega) n)
          · simp
        rw [Nat.succ_mul]; omega
    have := key ids ids.length (Nat.le_refl _)
    rw [zfi, Nat.pow_succ]
    refine Nat.le_trans this ?_
    rw [Nat.mul_comm]
    exact Nat.mul_le_mul_left _ (by omega)
theorem zps (st : List Int → Int → Bool) : ∀ (n : Nat) (t ids : List Int), zga st n t ids = (zfi st n t ids).map (t ++ ·)
  | 0, t, ids => by simp [zga, zfi]
  | n + 1, t, ids => by
    have key : ∀ l : List Int, zeo st (zga st n) t l = (zer st (zfi st n) t l).map (t ++ ·) := by
      intro l
      induction l with
      | nil => rfl
      | cons id r ih =>
        simp only [zeo, zer, ih, List.map_append]
        congr 1
        split
        · rw [zps st n, List.map_map]
          apply List.map_congr_left; intro x _; simp
        · rfl
    rw [zga, zfi, key]
end Go.XL
namespace Go.XL
open Go.Proofs
set_option maxRecDepth 100000
set_option maxHeartbeats 4000000
def Club.Asc (c : Club) : Prop := c.members.Pairwise fun a b => a.id < b.id
theorem zwm {c : Club} (h : c.Asc) {i j : Nat} (hi : i < c.members.length) (hj : j < c.members.length) (e : c.members[i].id = c.members[j].id) : i = j := by
  rcases Nat.lt_trichotomy i j with h1 | h1 | h1
  · have := List.pairwise_iff_getElem.1 h i j hi hj h1; omega
  · exact h1
  · have := List.pairwise_iff_getElem.1 h j i hj hi h1; omega
def updM (met : Int → Int → Bool) (a b : Int) (v : Bool) : Int → Int → Bool := fun x y => if x = a ∧ y = b then v else met x y
theorem row_set {c : Club} (h : c.Asc) {k : Nat} (hk : k < c.members.length) (met : Int → Int → Bool) (a : Int) (v : Bool) :
    (c.members.map fun m => Bo (met a m.id)).set k (Bo v) = c.members.map fun m => Bo (updM met a c.members[k].id v a m.id) := by
  apply List.ext_getElem
  · simp
  intro j h1 h2
  simp only [List.length_set, List.length_map] at h1
  rw [List.getElem_set]
  by_cases hj : k = j
  · subst hj; simp [updM]
  · have : ¬ c.members[j].id = c.members[k].id := fun e => hj (zwm h hk h1 e.symm)
    simp [hj, updM, this]
theorem MetR.set {S : Sto} {bs : List Nat} {c : Club} {met : Int → Int → Bool} (m : MetR S bs c met) (hb : bs.Nodup) (h : c.Asc) {i k : Nat} (hi : i < c.members.length) (hk : k < c.members.length) (hi' : i < bs.length) (v : Bool) :
    MetR (setS bs[i] (.cells ((c.members.map fun m => Bo (met c.members[i].id m.id)).set k (Bo v)) 4) S) bs c (updM met c.members[i].id c.members[k].id v) := by
  refine ⟨m.len, fun j hj hj' => ?_⟩
  rw [zbg (m.row i hi' hi)]
  by_cases e : j = i
  · subst e
    rw [if_pos rfl, row_set h hk]
  · have hne : ¬ bs[j] = bs[i] := fun h' => e (List.getElem_inj hb |>.1 h')
    rw [if_neg hne, m.row j hj hj']
    have hid : ¬ c.members[j].id = c.members[i].id := fun h' => e (zwm h hj' hi h')
    congr 2
    apply List.map_congr_left; intro x _
    simp [updM, hid]
def zmb (met : Int → Int → Bool) (t : List Int) (v : Bool) : Int → Int → Bool := fun a b => if a ∈ t ∧ b ∈ t ∧ a ≠ b then v else met a b
def zqp (met : Int → Int → Bool) (t : List Int) (i : Nat) (v : Bool) : Int → Int → Bool := fun a b => if a ∈ t.take i ∧ b ∈ t ∧ a ≠ b then v else met a b
def zoa (met : Int → Int → Bool) (t : List Int) (a0 : Int) (k : Nat) (v : Bool) : Int → Int → Bool := fun a b => if a = a0 ∧ b ∈ t.take k ∧ a ≠ b then v else met a b
theorem zib {t : List Int} {k : Nat} (h : k < t.length) (x : Int) : x ∈ t.take (k + 1) ↔ x ∈ t.take k ∨ x = t[k] := by
  rw [List.take_succ_eq_append_getElem h, List.mem_append, List.mem_singleton]
theorem markI_zero (met : Int → Int → Bool) (t : List Int) (v : Bool) : zqp met t 0 v = met := by funext a b; simp [zqp]
theorem markK_zero (met : Int → Int → Bool) (t : List Int) (a0 : Int) (v : Bool) : zoa met t a0 0 v = met := by funext a b; simp [zoa]
theorem markK_same {met : Int → Int → Bool} {t : List Int} {a0 : Int} {k : Nat} (v : Bool) (h : k < t.length) (e : t[k] = a0) : zoa met t a0 (k + 1) v = zoa met t a0 k v := by
  funext a b
  simp only [zoa, zib h, e]
  by_cases h1 : a = a0 ∧ b ∈ t.take k ∧ a ≠ b
  · rw [if_pos h1, if_pos ⟨h1.1, .inl h1.2.1, h1.2.2⟩]
  · rw [if_neg h1, if_neg]
    rintro ⟨h2, h3 | h3, h4⟩
    · exact h1 ⟨h2, h3, h4⟩
    · exact h4 (h2.trans h3.symm)
theorem markK_step {met : Int → Int → Bool} {t : List Int} {a0 : Int} {k : Nat} (v : Bool) (h : k < t.length) (e : ¬ t[k] = a0) : zoa met t a0 (k + 1) v = updM (zoa met t a0 k v) a0 t[k] v := by
  funext a b
  simp only [updM, zoa, zib h]
  by_cases h0 : a = a0 ∧ b = t[k]
  · rw [if_pos h0, if_pos ⟨h0.1, .inr h0.2, fun h1 => e (by rw [← h0.2, ← h1, h0.1])⟩]
  · rw [if_neg h0]
    by_cases h1 : a = a0 ∧ b ∈ t.take k ∧ a ≠ b
    · rw [if_pos h1, if_pos ⟨h1.1, .inl h1.2.1, h1.2.2⟩]
    · rw [if_neg h1, if_neg]
      rintro ⟨h2, h3 | h3, h4⟩
      · exact h1 ⟨h2, h3, h4⟩
      · exact h0 ⟨h2, h3⟩
theorem markI_step {met : Int → Int → Bool} {t : List Int} {i k : Nat} (v : Bool) (h : i < t.length) (hk : t.length ≤ k) : zoa (zqp met t i v) t t[i] k v = zqp met t (i + 1) v := by
  funext a b
  simp only [zoa, zqp, List.take_of_length_le hk, zib h]
  by_cases h1 : a ∈ t.take i ∧ b ∈ t ∧ a ≠ b
  · rw [if_pos h1, if_pos (⟨.inl h1.1, h1.2⟩ : (a ∈ t.take i ∨ a = t[i]) ∧ b ∈ t ∧ a ≠ b)]; split <;> rfl
  · rw [if_neg h1]
    by_cases h2 : a = t[i] ∧ b ∈ t ∧ a ≠ b
    · rw [if_pos h2, if_pos (⟨.inr h2.1, h2.2⟩ : (a ∈ t.take i ∨ a = t[i]) ∧ b ∈ t ∧ a ≠ b)]
    · rw [if_neg h2, if_neg]
      rintro ⟨h3 | h3, h4⟩
      · exact h1 ⟨h3, h4⟩
      · exact h2 ⟨h3, h4⟩
theorem zvr (S : Sto) {bx bp R : Nat} {c : Club} {rs : List (List Int)} {bs : List Nat} {budget steps : Int} {met : Int → Int → Bool} (hs : c.Small) (ha : c.Asc) (hb : bs.Nodup) (hbx : ¬ bx ∈ bs)
    (hx : zab S bx = some (.cells (sC c rs bp R (.own false 134 1 (bs.map (rowC c.members.length))) budget steps) 102)) (hm : MetR S bs c met) (t : List Int) (v : Bool) (ht : ∀ a ∈ t, ¬ zgw c a < 0) (hnd : t.Nodup) (htl : t.length ≤ 1000) :
    DC Try.prog 100 [.v (.pointer (some ⟨bx, 0, none⟩)), ints t, Bo v] S (fun _ S' => MetR S' bs c (zmb met t v) ∧ ∀ b, ¬ b ∈ bs → zab S' b = zab S b) := by
  have q1 := hs.members
  have hl := hm.len
  refine DC.of_run Try.func100 rfl Try.ntmps100 Try.results100 (by simp) (fun _ => ?_); simp only [zan, zas, go_sem, Nat.zero_add, Nat.reduceAdd]
  repeat' (first | (with_reducible first | refine DS.fltS yU yU yE ?_ | refine DS.opsNil ?_ | refine DS.seq ?_ | refine DS.regionL ?_ | refine DS.block ?_) | fail)
  refine DS.loopS [0, 1, 2] (by (simp only [go_sem, Nat.reduceEqDiff, ↓reduceIte]; exact rfl)) (fun (i : Nat × Sto) => [(6, I i.1)]) (fun (i : Nat × Sto) => i.2) (fun (i : Nat × Sto) => i.1 ≤ t.length ∧ MetR i.2 bs c (zqp met t i.1 v) ∧ ∀ b, ¬ b ∈ bs → zab i.2 b = zab S b) (fun (i : Nat × Sto) => t.length - i.1) (0, S) yS (fun b o e => by exact e) ⟨Nat.zero_le _, by rw [markI_zero]; exact hm, fun _ _ => rfl⟩ (fun i B hI hB => ?_); try dsimp only at hI hB; simp only [zap, zau]
  repeat' (first | (with_reducible first | refine DS.fltS yU yU yE ?_ | refine DS.opsNil ?_ | refine DS.seq ?_ | refine DS.regionL ?_ | (refine DS.cE yE ?_; refine CG.p (fun _ => ?_) (fun _ => ?_)) | refine DS.block ?_ | refine DS.exit yU ?_ | refine DS.skip ?_) | fail)
  · rename_i e1
    have hB0 := hB
    have hI0 := hI
    clear hB hI
    refine DS.loopS [0, 1, 2, 6] (by (simp only [go_sem, Nat.reduceEqDiff, ↓reduceIte]; exact rfl)) (fun (k : Nat × Sto) => [(7, I k.1)]) (fun (k : Nat × Sto) => k.2) (fun (k : Nat × Sto) => k.1 ≤ t.length ∧ MetR k.2 bs c (zoa (zqp met t i.1 v) t (t[i.1]'(by omega)) k.1 v) ∧ ∀ b, ¬ b ∈ bs → zab k.2 b = zab S b) (fun (k : Nat × Sto) => t.length - k.1) (0, i.2) yS (fun b o e => by exact e) ⟨Nat.zero_le _, by rw [markK_zero]; exact hI0.2.1, hI0.2.2⟩ (fun k B hI hB => ?_); try dsimp only at hI hB; simp only [zap, zau]
    have hx' : zab k.2 bx = some (.cells (sC c rs bp R (.own false 134 1 (bs.map (rowC c.members.length))) budget steps) 102) := by rw [hI.2.2 bx hbx, hx]
    repeat' (first | (with_reducible first | refine DS.fltS yU yU yX1 ?_ | refine DS.opsNil ?_ | refine DS.seq ?_ | refine DS.regionL ?_) | (with_reducible refine DS.cE yX1 ?_; first | with_reducible refine CG.np (fun _ => ?_) (fun _ => ?_) | with_reducible refine CG.p (fun _ => ?_) (fun _ => ?_)) | (with_reducible first | refine DS.blk ?_ | refine DS.block ?_ | refine DS.exit yU ?_ | refine DS.skip ?_) | refine DS.drawL (id := 7) [0, 1, 2, 3, 4, 5, 6, 7, 8, 9, 10, 11, 12, 13, 14, 15, 16, 17, 18, 19, 20, 21, 22, 23, 24] 25 (by kernel_rfl) zct (by simp only [zay, zbc, zbd, zbe, zax]; exact rfl) (by simp only [zav, zaw, List.drop_nil]; exact rfl) ?_ | with_reducible refine DD.fltS yU yU yU yX1 ?_ | refine DD.pcV0 inferInstance (zhl c _ (by omega)) yU yX2 ?_ | fail)
    · rename_i e2 e3
      obtain ⟨m1, hm1, g1, g2, -⟩ := zfv (ht _ (List.getElem_mem (show i.1 < t.length by omega)))
      obtain ⟨m2, hm2, g3, g4, -⟩ := zfv (ht _ (List.getElem_mem (show k.1 < t.length by omega)))
      have hr := hI.2.1.row m1 (hl ▸ hm1) hm1
      have hne : ¬ t[k.1] = t[i.1] := fun h => e3 (by have := (List.getElem_inj hnd).1 h; omega)
      have G := hI.2.1.set hb ha hm1 hm2 (hl ▸ hm1) v
      rw [g4] at G
      rw [g2, ← markK_step v (by omega) hne] at G
      rw [g2] at hr
      have H : ∀ b o, ¬ b ∈ bs → zab (setS (bs[m1]'(hl ▸ hm1)) o k.2) b = zab S b := fun b o hb' => by
        rw [zbg hr, if_neg (fun h => hb' (by rw [h]; exact List.getElem_mem _))]; exact hI.2.2 b hb'
      have H3 := And.intro g1 g3
      simp only [g1, g3]
      clear g1 g2 g3 g4 hne
      repeat' (first | (with_reducible first | refine DS.fltS yU yU yX1 ?_ | refine DS.opsNil ?_ | refine DS.regionL ?_ | refine DS.blk ?_) | (refine DS.store yR yX1 yX1 yX1 yX1 yU (by exact ⟨by with_unfolding_all rfl, by (try simp only [List.length_map, List.length_append, List.length_set, List.length_replicate, List.length_cons, List.length_nil]); omega⟩) ?_; simp only [zbm, zaq, zat, zbz, zbn, zbl, zbh]; try simp only [zak, zac, zad, Nat.reduceEqDiff, ↓reduceIte, zag, zah, zao, zaf, zae, zal, zai]) | (with_reducible first | refine DD.fltS yU yU yU yX1 ?_ | refine DD.nil0 ?_) | refine DD.pcV0 inferInstance (zhl c _ (by omega)) yU yX2 ?_ | fail)
      simp only [H3.2]
      skip
      refine DS.back (hB (k.1 + 1, _) _ _ (by simp; omega) ⟨by simp; omega, G, fun b hb' => H b _ hb'⟩ yS yS (fun b o e => by exact e))
    · rename_i e2 e3
      have hki : k.1 = i.1 := by omega
      have G := hI.2.1
      rw [← markK_same v (show k.1 < t.length by omega) (by simp only [hki])] at G
      clear hki
      refine DS.back (hB (k.1 + 1, k.2) _ _ (by simp; omega) ⟨by simp; omega, G, hI.2.2⟩ yS yS (fun b o e => by exact e))
    · rename_i e2
      have G := hI.2.1
      rw [markI_step v (by omega) (by omega)] at G
      refine DS.back (hB0 (i.1 + 1, k.2) _ _ (by simp; omega) ⟨by simp; omega, G, hI.2.2⟩ yS yS (fun b o e => by exact e))
  · rename_i e1
    refine DS.nilA yG ⟨?_, hI.2.2⟩
    have : zqp met t i.1 v = zmb met t v := by
      funext a b
      rw [zqp, zmb, List.take_of_length_le (by omega)]
    rw [← this]; exact hI.2.1
end Go.XL
namespace Go.XL
open Go.Proofs
set_option maxRecDepth 100000
set_option maxHeartbeats 4000000
structure PRow where
  rows : List (List Int)
  blk : Option (Nat × Nat × List V)
def PRow.cell : PRow → V
  | ⟨_, none⟩ => .v (.slice none 0 0)
  | ⟨rows, some (b, cap, _)⟩ => .v (.slice (some ⟨b, 0, none⟩) rows.length cap)
def PRow.Ok (S : Sto) : PRow → Prop
  | ⟨rows, none⟩ => rows = []
  | ⟨rows, some (b, cap, junk)⟩ => zab S b = some (.cells ((rows.map fun t => ints t) ++ junk) 22) ∧ rows.length + junk.length = cap ∧ cap ≤ maxLen ∧ ∀ v ∈ junk, v.free = true
def zfr (ids : List Int) (T : List (List Int)) : List Int := ids.filter fun id => !T.any fun t => decide (id ∈ t)
theorem zkk {α β : Type} {f : α → β} {T : List α} {j : List β} {k : Nat} (h : k < T.length) : ((T.map f) ++ j)[k]? = some (f T[k]) := by
  rw [List.getElem?_append_left (by simpa using h), List.getElem?_map, List.getElem?_eq_getElem h]; rfl
theorem freeS_in {ids : List Int} {T : List (List Int)} {i : Nat} (h : i < ids.length) (hb : (T.any fun t => decide (ids[i] ∈ t)) = true) : zfr (ids.drop i) T = zfr (ids.drop (i + 1)) T := by
  rw [List.drop_eq_getElem_cons h, zfr, List.filter_cons, if_neg (by simp [hb])]; rfl
theorem zry {ids : List Int} {T : List (List Int)} {i : Nat} (h : i < ids.length) (hb : (T.any fun t => decide (ids[i] ∈ t)) = false) : zfr (ids.drop i) T = ids[i] :: zfr (ids.drop (i + 1)) T := by
  rw [List.drop_eq_getElem_cons h, zfr, List.filter_cons, if_pos (by simp [hb])]; rfl
theorem zlu {α : Type} {T : List α} {k : Nat} (p : α → Bool) (h : k < T.length) : (T.take (k + 1)).any p = ((T.take k).any p || p T[k]) := by
  rw [List.take_succ_eq_append_getElem h, List.any_append]; simp
theorem yX3 {p : Prop} (h : p := by first | exact rfl | (simp (disch := omega) only [go_sem, dopV, Option.map_some, Option.map_none, Option.bind_some, Option.bind_none, ↓reduceIte, Nat.reduceEqDiff, Nat.reduceLT, Nat.reduceLeDiff, Nat.reduceAdd, Nat.reduceMul, Nat.reduceSub, Nat.zero_add, Nat.add_zero, Nat.zero_le, Nat.zero_mul, Nat.mul_one, Nat.one_mul, Int.natCast_zero, Int.toNat_zero, Int.reduceToNat, Int.reduceLT, Int.reduceLE, Int.reduceEq, decide_true, decide_false, true_and, and_true, Bool.and_self, Bool.and_true, Bool.true_and, Bool.not_true, Bool.not_false, IntWalk.toNatUp, IntWalk.iteOmega, IntWalk.i64_in, Option.isSome_some, not_true_eq_false, not_false_eq_true, Option.getD_some, Option.getD_none, Int.toNat_natCast, List.length_map, List.getElem?_map, List.getElem?_eq_getElem, V.flat, V.one, List.all_cons, List.all_nil, *, zpb]; exact rfl)) : p := h
theorem yX4 {p : Prop} (h : p := by (simp (disch := omega) only [go_sem, dopV, Option.map_some, Option.map_none, Option.bind_some, Option.bind_none, ↓reduceIte, Nat.reduceEqDiff, Nat.reduceLT, Nat.reduceLeDiff, Nat.reduceAdd, Nat.reduceMul, Nat.reduceSub, Nat.zero_add, Nat.add_zero, Nat.zero_le, Nat.zero_mul, Nat.mul_one, Nat.one_mul, Int.natCast_zero, Int.toNat_zero, Int.reduceToNat, Int.reduceLT, Int.reduceLE, Int.reduceEq, decide_true, decide_false, true_and, and_true, Bool.and_self, Bool.and_true, Bool.true_and, Bool.not_true, Bool.not_false, IntWalk.toNatUp, IntWalk.iteOmega, IntWalk.i64_in, Option.isSome_some, not_true_eq_false, not_false_eq_true, Option.getD_some, Option.getD_none, Int.toNat_natCast, List.length_map, List.getElem?_map, List.getElem?_eq_getElem, V.flat, V.one, List.all_cons, List.all_nil, *, zpb, zkk]; exact rfl)) : p := h
theorem yX5 {p : Prop} (h : p := by first | exact rfl | (simp (disch := omega) only [go_sem, dopV, Option.map_some, Option.map_none, Option.bind_some, Option.bind_none, ↓reduceIte, Nat.reduceEqDiff, Nat.reduceLT, Nat.reduceLeDiff, Nat.reduceAdd, Nat.reduceMul, Nat.reduceSub, Nat.zero_add, Nat.add_zero, Nat.zero_le, Nat.zero_mul, Nat.mul_one, Nat.one_mul, Int.natCast_zero, Int.toNat_zero, Int.reduceToNat, Int.reduceLT, Int.reduceLE, Int.reduceEq, decide_true, decide_false, true_and, and_true, Bool.and_self, Bool.and_true, Bool.true_and, Bool.not_true, Bool.not_false, IntWalk.toNatUp, IntWalk.iteOmega, IntWalk.i64_in, Option.isSome_some, not_true_eq_false, not_false_eq_true, Option.getD_some, Option.getD_none, Int.toNat_natCast, List.length_map, List.getElem?_map, List.getElem?_eq_getElem, V.flat, V.one, List.all_cons, List.all_nil, *, zpb, zkk]; exact rfl)) : p := h
theorem yX6 {p : Prop} (h : p := by (simp (disch := omega) only [go_sem, dopV, Option.map_some, Option.map_none, Option.bind_some, Option.bind_none, ↓reduceIte, Nat.reduceEqDiff, Nat.reduceLT, Nat.reduceLeDiff, Nat.reduceAdd, Nat.reduceMul, Nat.reduceSub, Nat.zero_add, Nat.add_zero, Nat.zero_le, Nat.zero_mul, Nat.mul_one, Nat.one_mul, Int.natCast_zero, Int.toNat_zero, Int.reduceToNat, Int.reduceLT, Int.reduceLE, Int.reduceEq, decide_true, decide_false, true_and, and_true, Bool.and_self, Bool.and_true, Bool.true_and, Bool.not_true, Bool.not_false, IntWalk.toNatUp, IntWalk.iteOmega, IntWalk.i64_in, Option.isSome_some, not_true_eq_false, not_false_eq_true, Option.getD_some, Option.getD_none, Int.toNat_natCast, List.length_map, List.getElem?_map, List.getElem?_eq_getElem, V.flat, V.one, List.all_cons, List.all_nil, *, zpb, zkk]; try exact rfl)) : p := h
theorem free_rc (S : Sto) {bx bp : Nat} {c : Club} {rs : List (List Int)} {mt : V} {budget steps : Int} {ps : List PRow}
    (hx : zab S bx = some (.cells (sC c rs bp ps.length mt budget steps) 102)) (hp : zab S bp = some (.cells (ps.map PRow.cell) 35)) {r : Nat} (hr : r < ps.length) (hr' : r < rs.length) (hok : ps[r].Ok S) (hl : rs[r].length ≤ 1000000) (hl2 : ps[r].rows.length ≤ 1000000) :
    RC Try.prog 98 [.v (.pointer (some ⟨bx, 0, none⟩)), I r] S (.own false 3 1 ((zfr rs[r] ps[r].rows).map cI)) := by
  obtain ⟨p, hpr⟩ : ∃ p, p = ps[r] := ⟨_, rfl⟩
  rw [← hpr] at hok hl2 ⊢
  obtain ⟨T, blk⟩ := p
  have hpc : (ps.map PRow.cell)[r]? = some (PRow.cell ⟨T, blk⟩) := by rw [List.getElem?_map, List.getElem?_eq_getElem hr, ← hpr]; rfl
  clear hpr
  generalize ps.map PRow.cell = pc at *
  cases blk with
  | none =>
    simp only [PRow.Ok] at hok
    subst hok
    simp only [PRow.cell] at hpc
    refine DC.of_run Try.func98 rfl Try.ntmps98 Try.results98 (by simp) (fun _ => ?_); simp only [zan, zas, go_sem, Nat.zero_add, Nat.reduceAdd]
    repeat' (first | (with_reducible first | (refine DS.nilOwn (t := 4) yU (by first | exact .inl rfl | exact .inr rfl) yE ?_) | (refine DS.nilOwn (t := 5) yU (by first | exact .inl rfl | exact .inr rfl) yE ?_) | refine DS.fltS yU yU yE ?_ | refine DS.opsNil ?_ | refine DS.seq ?_ | refine DS.regionL ?_ | refine DS.block ?_) | fail)
    refine DS.loopK [0, 1] (by (simp only [go_sem, Nat.reduceEqDiff, ↓reduceIte]; exact rfl)) (fun (i : Nat × List Int) => [(5, .own false 3 1 (i.2.map cI)), (6, I i.1)]) (fun (i : Nat × List Int) => i.1 ≤ rs[r].length ∧ i.2.length ≤ i.1 ∧ i.2 ++ zfr (rs[r].drop i.1) [] = zfr rs[r] []) (fun (i : Nat × List Int) => rs[r].length - i.1) (0, []) yS (by simp) (fun i B hI hB => ?_); try dsimp only at hI hB; simp only [zap, zau]
    repeat' (first | (with_reducible refine DS.mv (t := 4) yU (by first | exact .inl rfl | exact .inr rfl) yX1 ?_; simp only [zak, zac, zad, Nat.reduceEqDiff, ↓reduceIte, zag, zah, zao, zaf, zae, zal, zai]) | (with_reducible refine DS.mv (t := 65) yU (by first | exact .inl rfl | exact .inr rfl) yX1 ?_; simp only [zak, zac, zad, Nat.reduceEqDiff, ↓reduceIte, zag, zah, zao, zaf, zae, zal, zai]) | (with_reducible first | refine DS.fltS yU yU yX1 ?_ | refine DS.opsNil ?_ | refine DS.seq ?_ | refine DS.regionL ?_) | (with_reducible refine DS.cE yX1 ?_; with_reducible refine CG.p (fun _ => ?_) (fun _ => ?_)) | (with_reducible first | refine DS.block ?_ | refine DS.exit yU ?_ | refine DS.skip ?_) | refine DS.retA yX1 ⟨?_, rfl⟩ | fail)
    · have hB0 := hB
      have hI0 := hI
      clear hB hI
      refine DS.loopK [0, 1, 5, 6, 7] (by (simp only [go_sem, Nat.reduceEqDiff, ↓reduceIte]; exact rfl)) (fun (k : Nat) => [(8, Bo false), (9, I 0)]) (fun (k : Nat) => True) (fun (k : Nat) => k) 0 yS trivial (fun k B hI hB => ?_); try dsimp only at hI hB; simp only [zap, zau]
      repeat' (first | (with_reducible refine DS.mv (t := 5) yU (by first | exact .inl rfl | exact .inr rfl) yX1 ?_; simp only [zak, zac, zad, Nat.reduceEqDiff, ↓reduceIte, zag, zah, zao, zaf, zae, zal, zai]) | (with_reducible refine DS.mv (t := 61) yU (by first | exact .inl rfl | exact .inr rfl) yX1 ?_; simp only [zak, zac, zad, Nat.reduceEqDiff, ↓reduceIte, zag, zah, zao, zaf, zae, zal, zai]) | (with_reducible first | refine DS.fltS yU yU yX1 ?_ | refine DS.opsNil ?_ | refine DS.seq ?_ | refine DS.regionL ?_) | (with_reducible refine DS.cE yX1 ?_; first | with_reducible refine CG.yes ?_ | with_reducible refine CG.no ?_) | (with_reducible first | refine DS.blk ?_ | refine DS.exit yU ?_) | (refine DS.bsl yU yX1 yX1 ?_; simp only [go_sem, Nat.zero_add, Nat.reduceAdd]) | (refine DS.append (mm := false) yU yX1 yX1 yU (by decide) yX1 (by first | exact .inl rfl | exact .inr ⟨rfl, rfl⟩) yX1 yX3 (by first | exact zar zcu _ | exact zar zdm _ | exact zar Member.len _ | exact zar Sitting.len _ | exact zar Ruling.len _ | (simp only [List.mem_cons, List.not_mem_nil, or_false, forall_eq]; rfl) | simp) ⟨by (try simp only [List.length_map, List.length_cons, List.length_nil, List.length_append, List.length_take, List.length_drop]); omega, by decide⟩ ?_; simp only [zak, zac, zad, Nat.reduceEqDiff, ↓reduceIte, zag, zah, zao, zaf, zae, zal, zai]) | fail)
      obtain ⟨_, r0, dr4, rfl, dr6⟩ := zcf (l := rs[r]) (i := i.1) (by omega); rw [dr4] at hI0
      refine DS.back (hB0 (i.1 + 1, i.2 ++ [rs[r][i.1]]) _ _ (by simp; omega) ⟨by simp; omega, by simp; omega, by rw [← hI0.2.2, ← dr4, zry (i := i.1) (by omega) rfl, List.append_assoc]; rfl⟩ yS yS (fun b o e => by exact e))
    · have de1 := zdh (l := rs[r]) (i := i.1) (by omega); rw [de1] at hI
      rw [zec, show i.2 = zfr rs[r] [] by have e := hI.2.2; rw [show zfr [] ([] : List (List Int)) = [] from rfl, List.append_nil] at e; exact e]
  | some x =>
    obtain ⟨b, cap, junk⟩ := x
    simp only [PRow.cell] at hpc
    obtain ⟨ho, hc1, hc2, hc3⟩ := hok
    dsimp only at hl2
    refine DC.of_run Try.func98 rfl Try.ntmps98 Try.results98 (by simp) (fun _ => ?_); simp only [zan, zas, go_sem, Nat.zero_add, Nat.reduceAdd]
    repeat' (first | (with_reducible first | (refine DS.nilOwn (t := 4) yU (by first | exact .inl rfl | exact .inr rfl) yE ?_) | (refine DS.nilOwn (t := 5) yU (by first | exact .inl rfl | exact .inr rfl) yE ?_) | refine DS.fltS yU yU yE ?_ | refine DS.opsNil ?_ | refine DS.seq ?_ | refine DS.regionL ?_ | refine DS.block ?_) | fail)
    refine DS.loopK [0, 1] (by (simp only [go_sem, Nat.reduceEqDiff, ↓reduceIte]; exact rfl)) (fun (i : Nat × List Int) => [(5, .own false 3 1 (i.2.map cI)), (6, I i.1)]) (fun (i : Nat × List Int) => i.1 ≤ rs[r].length ∧ i.2.length ≤ i.1 ∧ i.2 ++ zfr (rs[r].drop i.1) T = zfr rs[r] T) (fun (i : Nat × List Int) => rs[r].length - i.1) (0, []) yS (by simp) (fun i B hI hB => ?_); try dsimp only at hI hB; simp only [zap, zau]
    repeat' (first | (with_reducible refine DS.mv (t := 4) yU (by first | exact .inl rfl | exact .inr rfl) yX1 ?_; simp only [zak, zac, zad, Nat.reduceEqDiff, ↓reduceIte, zag, zah, zao, zaf, zae, zal, zai]) | (with_reducible refine DS.mv (t := 65) yU (by first | exact .inl rfl | exact .inr rfl) yX1 ?_; simp only [zak, zac, zad, Nat.reduceEqDiff, ↓reduceIte, zag, zah, zao, zaf, zae, zal, zai]) | (with_reducible first | refine DS.fltS yU yU yX1 ?_ | refine DS.opsNil ?_ | refine DS.seq ?_ | refine DS.regionL ?_) | (with_reducible refine DS.cE yX1 ?_; with_reducible refine CG.p (fun _ => ?_) (fun _ => ?_)) | (with_reducible first | refine DS.block ?_ | refine DS.exit yU ?_ | refine DS.skip ?_) | refine DS.retA yX1 ⟨?_, rfl⟩ | fail)
    · rename_i e1
      have hB0 := hB
      have hI0 := hI
      clear hB hI
      refine DS.loopK [0, 1, 5, 6, 7] (by (simp only [go_sem, Nat.reduceEqDiff, ↓reduceIte]; exact rfl)) (fun (k : Nat × Bool) => [(8, Bo k.2), (9, I k.1)]) (fun (k : Nat × Bool) => k.1 ≤ T.length ∧ ((T.take k.1).any fun t => decide ((rs[r][i.1]'(by omega)) ∈ t)) = k.2) (fun (k : Nat × Bool) => T.length - k.1) (0, false) yS (by simp) (fun k B hI hB => ?_); try dsimp only at hI hB; simp only [zap, zau]
      have hI1 := hI.1
      have hI2 := hI.2
      clear hI
      have H := And.intro hI2 hI0.2.2
      have hI3 := hI0.2.1
      clear hI2 hI0
      repeat' (first | (with_reducible refine DS.mv (t := 5) yU (by first | exact .inl rfl | exact .inr rfl) yX4 ?_; simp only [zak, zac, zad, Nat.reduceEqDiff, ↓reduceIte, zag, zah, zao, zaf, zae, zal, zai]) | (with_reducible refine DS.mv (t := 61) yU (by first | exact .inl rfl | exact .inr rfl) yX4 ?_; simp only [zak, zac, zad, Nat.reduceEqDiff, ↓reduceIte, zag, zah, zao, zaf, zae, zal, zai]) | (with_reducible first | refine DS.fltS yU yU yX4 ?_ | refine DS.opsNil ?_ | refine DS.seq ?_ | refine DS.regionL ?_) | (with_reducible refine DS.cE yX4 ?_; first | with_reducible refine CG.p (fun _ => ?_) (fun _ => ?_) | with_reducible refine CG.nb (fun _ => ?_) (fun _ => ?_)) | (with_reducible refine DS.gE yU yX4 ?_; first | with_reducible refine GG.run ?_ | with_reducible refine GG.sT ?_ | with_reducible refine GG.bF (fun _ => ?_) (fun _ => ?_)) | (with_reducible first | refine DS.blk ?_ | refine DS.block ?_ | refine DS.exit yU ?_ | refine DS.skip ?_) | (refine DS.bsl yU yX4 yX4 ?_; simp only [go_sem, Nat.zero_add, Nat.reduceAdd]) | (refine DS.append (mm := false) yU yX4 yX4 yU (by decide) yX4 (by first | exact .inl rfl | exact .inr ⟨rfl, rfl⟩) yX4 yX5 (by first | exact zar zcu _ | exact zar zdm _ | exact zar Member.len _ | exact zar Sitting.len _ | exact zar Ruling.len _ | (simp only [List.mem_cons, List.not_mem_nil, or_false, forall_eq]; rfl) | simp) ⟨by (try simp only [List.length_map, List.length_cons, List.length_nil, List.length_append, List.length_take, List.length_drop]); omega, by decide⟩ ?_; simp only [zak, zac, zad, Nat.reduceEqDiff, ↓reduceIte, zag, zah, zao, zaf, zae, zal, zai]) | refine DS.pcS inferInstance (zwd _ _) yR yX6 ?_ | fail)
      · rename_i e2 e3
        exact DS.back (hB (k.1 + 1, decide ((rs[r][i.1]'(by omega)) ∈ T[k.1])) _ _ (by simp; omega) (⟨by simp; omega, by rw [zlu _ (by omega), H.1, e3]; simp⟩) yS yS (fun b o e => by first | exact e | (simp only [zaa]; split <;> simp_all)))
      · rename_i e2 e3
        exact DS.back (hB (k.1 + 1, true) _ _ (by simp; omega) (⟨by simp; omega, by rw [zlu _ (by omega), H.1, e3]; simp⟩) yS yS (fun b o e => by first | exact e | (simp only [zaa]; split <;> simp_all)))
      · rename_i e2 e3
        have e4 := H.1
        rw [List.take_of_length_le (by omega), e3] at e4
        have e5 := H.2
        rw [zry (i := i.1) (by omega) e4] at e5
        clear e4
        refine DS.back (hB0 (i.1 + 1, i.2 ++ [rs[r][i.1]'(by omega)]) _ _ (by simp; omega) ⟨by simp; omega, by simp; omega, by rw [← e5, List.append_assoc]; rfl⟩ yS yS (fun b o e => by exact e))
      · rename_i e2 e3
        have e4 := H.1
        rw [List.take_of_length_le (by omega), e3] at e4
        have e5 := H.2
        rw [freeS_in (i := i.1) (by omega) e4] at e5
        clear e4
        refine DS.back (hB0 (i.1 + 1, i.2) _ _ (by simp; omega) ⟨by simp; omega, by simp; omega, e5⟩ yS yS (fun b o e => by exact e))
    · have de1 := zdh (l := rs[r]) (i := i.1) (by omega); rw [de1] at hI
      rw [zec, show i.2 = zfr rs[r] T by have e := hI.2.2; rw [show zfr [] T = [] from rfl, List.append_nil] at e; exact e]
end Go.XL
namespace Go.XL
open Go.Proofs
set_option maxRecDepth 100000
set_option maxHeartbeats 4000000
theorem zkr {α : Type} {l m : List α} {i : Nat} (h : l.take i = m.take i) (hl : i < l.length) (hm : i < m.length) (e : l[i] = m[i]) : l.take (i + 1) = m.take (i + 1) := by
  rw [List.take_succ_eq_append_getElem hl, List.take_succ_eq_append_getElem hm, h, e]
theorem zpw {α : Type} {l m : List α} {i : Nat} (h : l.take i = m.take i) (hl : l.length ≤ i) (hm : m.length ≤ i) : l = m := by
  rwa [List.take_of_length_le hl, List.take_of_length_le hm] at h
theorem zoe (l : List Int) (h : l.length ≤ 2147483647) : PC Try.prog 51 [ints l] (.own false 3 1 (l.map cI)) := by
  refine DC.of_run Try.func51 rfl Try.ntmps51 Try.results51 (by simp) (fun _ => ?_); simp only [zan, zas, go_sem, Nat.zero_add, Nat.reduceAdd]
  repeat' (first | with_reducible (refine DS.nilOwn (t := 2) yU (by first | exact .inl rfl | exact .inr rfl) yE ?_) | (with_reducible refine DS.mv (t := 2) yU (by first | exact .inl rfl | exact .inr rfl) yE ?_; simp only [zak, zac, zad, Nat.reduceEqDiff, ↓reduceIte, zag, zah, zao, zaf, zae, zal, zai]) | (with_reducible first | refine DS.fltS yU yU yE ?_ | refine DS.opsNil ?_ | refine DS.seq ?_ | refine DS.regionL ?_) | (refine DS.append (mm := false) yU yE yE yU (by decide) yE (by first | exact .inl rfl | exact .inr ⟨rfl, rfl⟩) yE yX0 (by first | exact zar zcu _ | exact zar zdm _ | exact zar Member.len _ | exact zar Sitting.len _ | exact zar Ruling.len _ | (simp only [List.mem_cons, List.not_mem_nil, or_false, forall_eq]; rfl) | simp) ⟨by (try simp only [List.length_map, List.length_cons, List.length_nil, List.length_append, List.length_take, List.length_drop]); omega, by decide⟩ ?_; simp only [zak, zac, zad, Nat.reduceEqDiff, ↓reduceIte, zag, zah, zao, zaf, zae, zal, zai]) | refine DS.retT [] yE trivial ?_ | fail)
  rfl
theorem zkg (a b : List Int) : PC Try.prog 62 [ints a, ints b] (Bo (decide (a = b))) := by
  refine DC.of_run Try.func62 rfl Try.ntmps62 Try.results62 (by simp) (fun _ => ?_); simp only [zan, zas, go_sem, Nat.zero_add, Nat.reduceAdd]
  refine DS.bnd (t := 0) yG (.inl rfl) (fun hb0 => ?_); simp only [List.length_map] at hb0
  repeat' (first | (with_reducible first | refine DS.fltS yU yU yE ?_ | refine DS.opsNil ?_ | refine DS.seq ?_ | refine DS.regionL ?_ | (refine DS.cE yE ?_; refine CG.np (fun _ => ?_) (fun _ => ?_)) | refine DS.block ?_ | refine DS.skip ?_) | refine DS.retT [] yE trivial ?_ | fail)
  · rename_i h; have : a ≠ b := fun e => by subst e; exact h rfl
    simp [tupV, this]
  refine DS.loopK [0, 1] (by (simp only [go_sem, Nat.reduceEqDiff, ↓reduceIte]; exact rfl)) (fun (i : Nat) => [(5, I i)]) (fun (i : Nat) => i ≤ a.length ∧ a.take i = b.take i) (fun (i : Nat) => a.length - i) 0 yS (by simp) (fun i B hI hB => ?_); try dsimp only at hI hB; simp only [zap, zau]
  repeat' (first | (with_reducible first | refine DS.fltS yU yU yE ?_ | refine DS.opsNil ?_ | refine DS.seq ?_ | refine DS.regionL ?_ | (refine DS.cE yE ?_; first | refine CG.np (fun _ => ?_) (fun _ => ?_) | refine CG.p (fun _ => ?_) (fun _ => ?_)) | refine DS.blk ?_ | refine DS.block ?_ | refine DS.exit yU ?_ | refine DS.skip ?_) | refine DS.drawL (id := 6) [0, 1, 2, 3, 4, 5, 6, 7] 8 (by kernel_rfl) zct (by simp only [zay, zbc, zbd, zbe, zax]; exact rfl) (by simp only [zav, zaw, List.drop_nil]; exact rfl) ?_ | (with_reducible first | refine DD.fltS yU yU yU yE ?_ | refine DD.nil0 ?_) | refine DS.retT [] yE trivial ?_ | fail)
  · rename_i h1 h2
    have : a ≠ b := fun e => h2 (by subst e; rfl)
    simp [tupV, this]
  · rename_i h1 h2
    exact DS.back (hB (i + 1) _ _ (by omega) (⟨by omega, zkr hI.2 (by omega) (by omega) h2⟩) yS yS (fun b o e => by first | exact e | (simp only [zaa]; split <;> simp_all)))
  · rename_i h1
    have := zpw hI.2 (by omega) (by omega)
    simp [tupV, this]
theorem zmp (a b : List (List Int)) : PC Try.prog 61 [rows a, rows b] (Bo (decide (a = b))) := by
  refine DC.of_run Try.func61 rfl Try.ntmps61 Try.results61 (by simp) (fun _ => ?_); simp only [zan, zas, go_sem, Nat.zero_add, Nat.reduceAdd]
  refine DS.bnd (t := 0) yG (.inl rfl) (fun hb0 => ?_); simp only [List.length_map] at hb0
  repeat' (first | (with_reducible first | refine DS.fltS yU yU yE ?_ | refine DS.opsNil ?_ | refine DS.seq ?_ | refine DS.regionL ?_ | (refine DS.cE yE ?_; refine CG.np (fun _ => ?_) (fun _ => ?_)) | refine DS.block ?_ | refine DS.skip ?_) | refine DS.retT [] yE trivial ?_ | fail)
  · rename_i h; have : a ≠ b := fun e => by subst e; exact h rfl
    simp [tupV, this]
  refine DS.loopK [0, 1] (by (simp only [go_sem, Nat.reduceEqDiff, ↓reduceIte]; exact rfl)) (fun (i : Nat) => [(5, I i)]) (fun (i : Nat) => i ≤ a.length ∧ a.take i = b.take i) (fun (i : Nat) => a.length - i) 0 yS (by simp) (fun i B hI hB => ?_); try dsimp only at hI hB; simp only [zap, zau]
  repeat' (first | (with_reducible first | refine DS.fltS yU yU yE ?_ | refine DS.opsNil ?_ | refine DS.seq ?_ | refine DS.regionL ?_ | (refine DS.cE yE ?_; first | refine CG.np (fun _ => ?_) (fun _ => ?_) | refine CG.p (fun _ => ?_) (fun _ => ?_)) | refine DS.blk ?_ | refine DS.block ?_ | refine DS.exit yU ?_ | refine DS.skip ?_) | refine DS.pcS inferInstance (zkg _ _) yR yT ?_ | refine DS.drawL (id := 6) [0, 1, 2, 3, 4, 5, 6, 7] 8 (by kernel_rfl) zct (by simp only [zay, zbc, zbd, zbe, zax]; exact rfl) (by simp only [zav, zaw, List.drop_nil]; exact rfl) ?_ | (with_reducible first | refine DD.fltS yU yU yU yE ?_ | refine DD.nil0 ?_) | refine DS.retT [] yE trivial ?_ | fail)
  · rename_i h1 h2
    have : a ≠ b := fun e => h2 (by subst e; rfl)
    simp [tupV, this]
  · rename_i h1 h2
    exact DS.back (hB (i + 1) _ _ (by omega) (⟨by omega, zkr hI.2 (by omega) (by omega) h2⟩) yS yS (fun b o e => by first | exact e | (simp only [zaa]; split <;> simp_all)))
  · rename_i h1
    have := zpw hI.2 (by omega) (by omega)
    simp [tupV, this]
theorem SameTables_pc (a b : List (List Int)) : PC Try.prog 20 [rows a, rows b] (Bo (decide (a = b))) := by
  refine DC.of_run Try.func20 rfl Try.ntmps20 Try.results20 (by simp) (fun _ => ?_); simp only [zan, zas, go_sem, Nat.zero_add, Nat.reduceAdd]
  repeat' (first | (with_reducible first | refine DS.fltS yU yU yE ?_ | refine DS.opsNil ?_ | refine DS.seq ?_ | refine DS.regionL ?_) | refine DS.pcS inferInstance (zmp _ _) yR yT ?_ | refine DS.retT [] yE trivial ?_ | fail)
  rfl
end Go.XL
namespace Go.XL
open Go.Proofs
set_option maxRecDepth 100000
set_option maxHeartbeats 4000000
theorem zed {α β : Type} (f : α → β) (l : List α) : (l.map f).take l.length = l.map f := List.take_of_length_le (by simp)
theorem zfy {α β : Type} (f : α → β) (l : List α) (n : Nat) : (l.map f).drop n = (l.drop n).map f := by rw [List.map_drop]
theorem zrq {st : List Int → Int → Bool} {f : List Int → List Int → List (List Int)} {t l : List Int} {i : Nat} (h : i < l.length) : zer st f t (l.drop i) = (if st t l[i] = true then (f (t ++ [l[i]]) (l.drop (i + 1))).map (l[i] :: ·) else []) ++ zer st f t (l.drop (i + 1)) := by
  rw [List.drop_eq_getElem_cons h, zer]
theorem znv (st : List Int → Int → Bool) : ∀ (n : Nat) (t ids : List Int), ∀ x ∈ zfi st n t ids, x.length = n ∧ ∀ a ∈ x, a ∈ ids
  | 0, t, ids, x, h => by simp only [zfi, List.mem_singleton] at h; subst h; simp
  | n + 1, t, ids, x, h => by
    have key : ∀ l : List Int, ∀ x ∈ zer st (zfi st n) t l, x.length = n + 1 ∧ ∀ a ∈ x, a ∈ l := by
      intro l
      induction l with
      | nil => intro x h; simp [zer] at h
      | cons id r ih =>
        intro x h
        simp only [zer, List.mem_append] at h
        rcases h with h | h
        · split at h
          · obtain ⟨y, hy, rfl⟩ := List.mem_map.1 h
            obtain ⟨h1, h2⟩ := znv st n _ _ y hy
            refine ⟨by simp [h1], fun a ha => ?_⟩
            rcases List.mem_cons.1 ha with rfl | ha
            · exact List.mem_cons_self ..
            · exact List.mem_cons_of_mem _ (h2 a ha)
          · simp at h
        · obtain ⟨h1, h2⟩ := ih x h
          exact ⟨h1, fun a ha => List.mem_cons_of_mem _ (h2 a ha)⟩
    exact key ids x h
theorem yX7 {p : Prop} (h : p := by (simp (disch := omega) only [go_sem, dopV, Option.map_some, Option.map_none, Option.bind_some, Option.bind_none, ↓reduceIte, Nat.reduceEqDiff, Nat.reduceLT, Nat.reduceLeDiff, Nat.reduceAdd, Nat.reduceMul, Nat.reduceSub, Nat.zero_add, Nat.add_zero, Nat.zero_le, Nat.zero_mul, Nat.mul_one, Nat.one_mul, Int.natCast_zero, Int.toNat_zero, Int.reduceToNat, Int.reduceLT, Int.reduceLE, Int.reduceEq, decide_true, decide_false, true_and, and_true, Bool.and_self, Bool.and_true, Bool.true_and, Bool.not_true, Bool.not_false, IntWalk.toNatUp, IntWalk.iteOmega, IntWalk.i64_in, Option.isSome_some, not_true_eq_false, not_false_eq_true, Option.getD_some, Option.getD_none, Int.toNat_natCast, List.length_map, List.getElem?_map, List.getElem?_eq_getElem, V.flat, V.one, List.all_cons, List.all_nil, *, List.forall_mem_map, implies_true, zed]; exact rfl)) : p := h
theorem zvo (S : Sto) {bx bp R : Nat} {c : Club} {rs : List (List Int)} {bs : List Nat} {budget steps : Int} {met : Int → Int → Bool} (hs : c.Small)
    (hx : zab S bx = some (.cells (sC c rs bp R (.own false 134 1 (bs.map (rowC c.members.length))) budget steps) 102)) (hm : MetR S bs c met) :
    ∀ (n : Nat) (t ids : List Int), n ≤ 4 → ids.length ≤ 40 → t.length ≤ 100 - n → (∀ a ∈ t, ¬ zgw c a < 0) → (∀ a ∈ ids, ¬ zgw c a < 0) →
    RC Try.prog 99 [.v (.pointer (some ⟨bx, 0, none⟩)), ints t, ints ids, I n] S (.own false 22 1 ((zfi (zcg met) n t ids).map cR))
  | 0, t, ids, hn, hl, htl, ht, hi => by
    show RC Try.prog 99 [.v (.pointer (some ⟨bx, 0, none⟩)), ints t, ints ids, I 0] S _
    refine DC.of_run Try.func99 rfl Try.ntmps99 Try.results99 (by simp) (fun _ => ?_); simp only [zan, zas, go_sem, Nat.zero_add, Nat.reduceAdd]
    repeat' (first | with_reducible (refine DS.nilOwn (t := 8) yU (by first | exact .inl rfl | exact .inr rfl) yE ?_) | (with_reducible refine DS.mv (t := 8) yU (by first | exact .inl rfl | exact .inr rfl) yE ?_; simp only [zak, zac, zad, Nat.reduceEqDiff, ↓reduceIte, zag, zah, zao, zaf, zae, zal, zai]) | (with_reducible first | refine DS.fltS yU yU yE ?_ | refine DS.opsNil ?_ | refine DS.seq ?_ | refine DS.regionL ?_ | (refine DS.cE yE ?_; refine CG.yes ?_)) | (refine DS.bsl yU yE yE ?_; simp only [go_sem, Nat.zero_add, Nat.reduceAdd]) | fail)
    refine DS.nrm (t := 8) yG ?_
    refine DS.retA yG ⟨?_, rfl⟩
    rfl
  | n + 1, t, ids, hn, hl, htl, ht, hi => by
    have ih := zvo S hs hx hm n
    have hlen : (zfi (zcg met) (n + 1) t ids).length ≤ 41 ^ 4 := Nat.le_trans (znw _ _ _ _) (Nat.le_trans (Nat.pow_le_pow_left (show ids.length + 1 ≤ 41 by omega) _) (Nat.pow_le_pow_right (by omega) hn))
    have hne : ¬ (((n + 1 : Nat) : Int) = 0) := by omega
    have hsub : ((n + 1 : Nat) : Int) - 1 = n := by omega
    refine DC.of_run Try.func99 rfl Try.ntmps99 Try.results99 (by simp) (fun _ => ?_); simp only [zan, zas, go_sem, Nat.zero_add, Nat.reduceAdd]
    repeat' (first | (with_reducible first | (refine DS.nilOwn (t := 8) yU (by first | exact .inl rfl | exact .inr rfl) yE ?_) | (refine DS.nilOwn (t := 9) yU (by first | exact .inl rfl | exact .inr rfl) yE ?_) | refine DS.fltS yU yU yE ?_ | refine DS.opsNil ?_ | refine DS.seq ?_ | refine DS.regionL ?_ | (refine DS.cE yE ?_; refine CG.no ?_) | refine DS.block ?_ | refine DS.skip ?_) | fail)
    refine DS.loopK [0, 1, 2, 3] (by (simp only [go_sem, Nat.reduceEqDiff, ↓reduceIte]; exact rfl)) (fun (i : Nat × List (List Int)) => [(9, .own false 22 1 (i.2.map cR)), (10, I i.1)]) (fun (i : Nat × List (List Int)) => i.1 ≤ ids.length ∧ i.2 ++ zer (zcg met) (zfi (zcg met) n) t (ids.drop i.1) = zfi (zcg met) (n + 1) t ids) (fun (i : Nat × List (List Int)) => ids.length - i.1) (0, []) yS (by simp [zfi]) (fun i B hI hB => ?_); try dsimp only at hI hB; simp only [zap, zau]
    repeat' (first | (with_reducible refine DS.mv (t := 8) yU (by first | exact .inl rfl | exact .inr rfl) yE ?_; simp only [zak, zac, zad, Nat.reduceEqDiff, ↓reduceIte, zag, zah, zao, zaf, zae, zal, zai]) | (with_reducible refine DS.mv (t := 64) yU (by first | exact .inl rfl | exact .inr rfl) yE ?_; simp only [zak, zac, zad, Nat.reduceEqDiff, ↓reduceIte, zag, zah, zao, zaf, zae, zal, zai]) | (with_reducible first | refine DS.fltS yU yU yE ?_ | refine DS.opsNil ?_ | refine DS.seq ?_ | refine DS.regionL ?_ | (refine DS.cE yE ?_; first | refine CG.p (fun _ => ?_) (fun _ => ?_) | refine CG.b (fun _ => ?_) (fun _ => ?_)) | refine DS.blk ?_ | refine DS.block ?_ | refine DS.exit yU ?_ | refine DS.skip ?_) | refine DS.rcS inferInstance (fair_rc S hs hx hm t (ids[i.1]'(by omega)) ht (hi _ (List.getElem_mem (by omega)))) yR yT ?_ | refine DS.drawL (id := 8) [0, 1, 2, 3, 4, 5, 6, 7, 8, 9, 10, 11, 12, 13, 14] 15 (by kernel_rfl) zct (by simp only [zay, zbc, zbd, zbe, zax]; exact rfl) (by simp only [zav, zaw, List.drop_nil]; exact rfl) ?_ | with_reducible refine DD.fltS yU yU yU yE ?_ | refine DD.pcS inferInstance (zoe t (by omega)) yU yT ?_; simp only [zbo, zbw, Nat.reduceEqDiff, ↓reduceIte] | (refine DD.bslS yU yE yE ?_; simp only [go_sem, Nat.zero_add, Nat.reduceAdd]; simp only [zbo, zbw, Nat.reduceEqDiff, ↓reduceIte]) | (refine DD.append (mm := false) yU yE yE yU (by decide) yE (by first | exact .inl rfl | exact .inr ⟨rfl, rfl⟩) yE yX0 (by first | exact zar zcu _ | exact zar zdm _ | exact zar Member.len _ | exact zar Sitting.len _ | exact zar Ruling.len _ | (simp only [List.mem_cons, List.not_mem_nil, or_false, forall_eq]; rfl) | simp) ⟨by (try simp only [List.length_map, List.length_cons, List.length_nil, List.length_append, List.length_take, List.length_drop]); omega, by decide⟩ ?_; simp only [zak, zac, zad, Nat.reduceEqDiff, ↓reduceIte, zag, zah, zao, zaf, zae, zal, zai]; simp only [zbo, zbw, Nat.reduceEqDiff, ↓reduceIte]) | refine DS.retA yE ⟨?_, rfl⟩ | fail)
    · have hlr : (ids.drop (i.1 + 1)).length ≤ 40 := by simp; omega
      have htr : ∀ a ∈ t ++ [ids[i.1]'(by omega)], ¬ zgw c a < 0 := fun a ha => by
        rcases List.mem_append.1 ha with ha | ha
        · exact ht a ha
        · rw [List.mem_singleton.1 ha]; exact hi _ (List.getElem_mem (by omega))
      have H := And.intro (ih (t ++ [ids[i.1]'(by omega)]) (ids.drop (i.1 + 1)) (by omega) hlr (by simp; omega) htr (fun a ha => hi a (List.mem_of_mem_drop ha))) hlen
      clear ih htr hlen hlr
      repeat' (first | (with_reducible first | refine DD.fltS yU yU yU yX7 ?_ | refine DD.nil0 ?_) | fail)
      · refine DS.rcS inferInstance H.1 yR (by simp (disch := omega) only [go_sem, dopV, Option.map_some, Option.map_none, Option.bind_some, Option.bind_none, ↓reduceIte, Nat.reduceEqDiff, Nat.reduceLT, Nat.reduceLeDiff, Nat.reduceAdd, Nat.reduceMul, Nat.reduceSub, Nat.zero_add, Nat.add_zero, Nat.zero_le, Nat.zero_mul, Nat.mul_one, Nat.one_mul, Int.natCast_zero, Int.toNat_zero, Int.reduceToNat, Int.reduceLT, Int.reduceLE, Int.reduceEq, decide_true, decide_false, true_and, and_true, Bool.and_self, Bool.and_true, Bool.true_and, Bool.not_true, Bool.not_false, IntWalk.toNatUp, IntWalk.iteOmega, IntWalk.i64_in, Option.isSome_some, not_true_eq_false, not_false_eq_true, Option.getD_some, Option.getD_none, Int.toNat_natCast, List.length_map, List.getElem?_map, List.getElem?_eq_getElem, V.flat, V.one, List.all_cons, List.all_nil, *, zfy, List.map_append, ints]) ?_
        repeat' (first | (with_reducible first | refine DS.fltS yU yU yE ?_ | refine DS.opsNil ?_ | refine DS.seq ?_ | refine DS.regionL ?_ | refine DS.block ?_) | fail)
        rename_i hst
        have hB0 := hB
        have hI1 := hI.1
        have hI2 := hI.2
        rw [zrq (by omega), if_pos hst] at hI2
        have hmem : ∀ x ∈ zfi (zcg met) n (t ++ [ids[i.1]'(by omega)]) (ids.drop (i.1 + 1)), x.length = n := fun x hx => (znv _ _ _ _ x hx).1
        have hlen := H.2
        rw [← hI2] at hlen
        clear hB H hI
        generalize zfi (zcg met) n (t ++ [ids[i.1]'(by omega)]) (ids.drop (i.1 + 1)) = X at *
        simp only [List.length_append, List.length_map] at hlen
        refine DS.loopK [0, 1, 2, 3, 10, 11] (by (simp only [go_sem, Nat.reduceEqDiff, ↓reduceIte]; exact rfl)) (fun (k : Nat × List (List Int)) => [(9, .own false 22 1 (k.2.map cR)), (12, I k.1)]) (fun (k : Nat × List (List Int)) => k.1 ≤ X.length ∧ i.2 ++ (X.take k.1).map (ids[i.1]'(by omega) :: ·) = k.2 ∧ k.2.length = i.2.length + k.1) (fun (k : Nat × List (List Int)) => X.length - k.1) (0, i.2) yS (by simp) (fun k B hI hB => ?_); try dsimp only at hI hB; simp only [zap, zau]
        have hI3 := hI.2.1
        have hI4 := hI.2.2
        have hI5 := hI.1
        clear hI
        have H := And.intro hI2 hI3
        clear hI2 hI3
        by_cases hk : k.1 < X.length
        · have hkl := hmem _ (List.getElem_mem hk)
          repeat' (first | (with_reducible refine DS.mv (t := 9) yU (by first | exact .inl rfl | exact .inr rfl) yE ?_; simp only [zak, zac, zad, Nat.reduceEqDiff, ↓reduceIte, zag, zah, zao, zaf, zae, zal, zai]) | (with_reducible first | refine DS.fltS yU yU yE ?_ | refine DS.opsNil ?_ | refine DS.seq ?_ | refine DS.regionL ?_ | (refine DS.cE yE ?_; refine CG.p (fun _ => ?_) (fun _ => ?_)) | refine DS.blk ?_ | refine DS.block ?_ | refine DS.exit yU ?_ | refine DS.skip ?_) | (refine DS.append (mm := false) yU yE yE yU (by decide) yE (by first | exact .inl rfl | exact .inr ⟨rfl, rfl⟩) yE yX0 (by first | exact zar zcu _ | exact zar zdm _ | exact zar Member.len _ | exact zar Sitting.len _ | exact zar Ruling.len _ | (simp only [List.mem_cons, List.not_mem_nil, or_false, forall_eq]; rfl) | simp) ⟨by (try simp only [List.length_map, List.length_cons, List.length_nil, List.length_append, List.length_take, List.length_drop]); omega, by decide⟩ ?_; simp only [zak, zac, zad, Nat.reduceEqDiff, ↓reduceIte, zag, zah, zao, zaf, zae, zal, zai]) | refine DS.drawL (id := 12) [0, 1, 2, 3, 4, 6, 7, 8, 9, 5, 10, 11] 12 (by kernel_rfl) zct (by simp only [zay, zbc, zbd, zbe, zax]; exact rfl) (by simp only [zav, zaw, List.drop_nil]; exact rfl) ?_ | (with_reducible refine DD.mvS (t := 51) yU (by first | exact .inl rfl | exact .inr rfl) yE ?_; simp only [zak, zac, zad, Nat.reduceEqDiff, ↓reduceIte, zag, zah, zao, zaf, zae, zal, zai]; simp only [zbo, zbw, Nat.reduceEqDiff, ↓reduceIte]) | (with_reducible first | refine DD.fltS yU yU yU yE ?_ | refine DD.nil0 ?_) | (refine DD.bslS yU yE yE ?_; simp only [go_sem, Nat.zero_add, Nat.reduceAdd]; simp only [zbo, zbw, Nat.reduceEqDiff, ↓reduceIte]) | (refine DD.append (mm := false) yU yE yE yU (by decide) yE (by first | exact .inl rfl | exact .inr ⟨rfl, rfl⟩) yE yX0 (by first | exact zar zcu _ | exact zar zdm _ | exact zar Member.len _ | exact zar Sitting.len _ | exact zar Ruling.len _ | (simp only [List.mem_cons, List.not_mem_nil, or_false, forall_eq]; rfl) | simp) ⟨by (try simp only [List.length_map, List.length_cons, List.length_nil, List.length_append, List.length_take, List.length_drop]); omega, by decide⟩ ?_; simp only [zak, zac, zad, Nat.reduceEqDiff, ↓reduceIte, zag, zah, zao, zaf, zae, zal, zai]; simp only [zbo, zbw, Nat.reduceEqDiff, ↓reduceIte]) | fail)
          all_goals first | (exfalso; omega) | skip
          exact DS.back (hB (k.1 + 1, k.2 ++ [ids[i.1]'(by omega) :: X[k.1]]) _ _ (by simp; omega) (⟨by simp; omega, by rw [List.take_succ_eq_append_getElem hk, List.map_append, ← H.2]; simp, by simp; omega⟩) yS yS (fun b o e => by first | exact e | (simp only [zaa]; split <;> simp_all)))
        · repeat' (first | (with_reducible first | refine DS.fltS yU yU yE ?_ | refine DS.opsNil ?_ | refine DS.seq ?_ | refine DS.regionL ?_ | (refine DS.cE yE ?_; refine CG.p (fun _ => ?_) (fun _ => ?_)) | refine DS.blk ?_ | refine DS.block ?_ | refine DS.exit yU ?_ | refine DS.skip ?_) | refine DS.drawL (id := 12) [0, 1, 2, 3, 4, 6, 7, 8, 9, 5, 10, 11] 12 (by kernel_rfl) zct (by simp only [zay, zbc, zbd, zbe, zax]; exact rfl) (by simp only [zav, zaw, List.drop_nil]; exact rfl) ?_ | (with_reducible refine DD.mvS (t := 51) yU (by first | exact .inl rfl | exact .inr rfl) yE ?_; simp only [zak, zac, zad, Nat.reduceEqDiff, ↓reduceIte, zag, zah, zao, zaf, zae, zal, zai]; simp only [zbo, zbw, Nat.reduceEqDiff, ↓reduceIte]) | with_reducible refine DD.fltS yU yU yU yE ?_ | fail)
          all_goals first | (exfalso; omega) | skip
          refine DS.back (hB0 (i.1 + 1, k.2) _ _ (by simp; omega) ⟨by simp; omega, ?_⟩ yS yS (fun b o e => by exact e))
          rw [← H.1, ← H.2, List.take_of_length_le (by omega), List.append_assoc]
    · rename_i hst
      exact DS.back (hB (i.1 + 1, i.2) _ _ (by simp; omega) (⟨by simp; omega, by have e := hI.2; rw [zrq (i := i.1) (by omega), if_neg (by simp [hst]), List.nil_append] at e; exact e⟩) yS yS (fun b o e => by first | exact e | (simp only [zaa]; split <;> simp_all)))
    · have de1 := zdh (l := ids) (i := i.1) (by omega); rw [de1] at hI
      simp [tupV, ← hI.2, zer]
end Go.XL
namespace Go.XL
open Go.Proofs
set_option maxRecDepth 100000
set_option maxHeartbeats 4000000
theorem DS.drawLS {P : Program} {n : Nat} {r : Rr} {Q : VEnv → Sto → Prop} {k : List Fr} {E : VEnv} {S : Sto} {id : Nat} {os l1 l2 : List Oper} (S0 S1 : Sto) (ord : List Nat) (m : Nat) (hok : zlp os.toArray ord m = true) (hm : P.follows .mixedOrders = true) (h1 : zma os ord = l1) (h2 : os.drop m = l2)
    (h0 : ∀ b o, zab S0 b = some o → zab S b = some o ∧ zab S1 b = none) (h3 : ∀ b o, zab S1 b = some o → zab S b = some o)
    (q : DD P n r Q os S0 [] l1 (.ops os l2 :: k) E E S1) : DS P n r Q (.code (.region id os.toArray true) :: k) E S :=
  DS.draw S0 S1 [] MpOk.nil ord m hok hm h0 h3 (by rw [zlb, h1]; simpa [h2] using q)
abbrev TS : Nat := 102
abbrev mtV (bs : List Nat) (n : Nat) : V := .own false 134 1 (bs.map (rowC n))
structure SearchR (S : Sto) (bx bp : Nat) (c : Club) (rs : List (List Int)) (bs : List Nat) (budget steps : Int) (met : Int → Int → Bool) (ps : List PRow) : Prop where
  obj : zab S bx = some (.cells (sC c rs bp ps.length (mtV bs c.members.length) budget steps) TS)
  mat : MetR S bs c met
  pln : zab S bp = some (.cells (ps.map PRow.cell) 35)
  row : ∀ (i : Nat) (h : i < ps.length), ps[i].Ok S
  xp : bx ≠ bp
  xb : ¬ bx ∈ bs
  pb : ¬ bp ∈ bs
  nd : bs.Nodup
  rx : ∀ (i : Nat) (h : i < ps.length) (b cap : Nat) (j : List V), ps[i].blk = some (b, cap, j) → b ≠ bx ∧ b ≠ bp ∧ ¬ b ∈ bs
  rr : ∀ (i k : Nat) (hi : i < ps.length) (hk : k < ps.length) (b cap cap' : Nat) (j j' : List V), ps[i].blk = some (b, cap, j) → ps[k].blk = some (b, cap', j') → i = k
theorem PRow.Ok.of {S S' : Sto} {p : PRow} (h : p.Ok S) (e : ∀ b cap j, p.blk = some (b, cap, j) → zab S' b = zab S b) : p.Ok S' := by
  obtain ⟨T, blk⟩ := p
  cases blk with
  | none => exact h
  | some x =>
    obtain ⟨b, cap, j⟩ := x
    obtain ⟨h1, h2⟩ := h
    exact ⟨by rw [e b cap j rfl]; exact h1, h2⟩
theorem MetR.of {S S' : Sto} {bs : List Nat} {c : Club} {met : Int → Int → Bool} (m : MetR S bs c met) (e : ∀ b, b ∈ bs → zab S' b = zab S b) : MetR S' bs c met :=
  ⟨m.len, fun i h h' => by rw [e _ (List.getElem_mem h)]; exact m.row i h h'⟩
theorem SearchR.steps {S : Sto} {bx bp : Nat} {c : Club} {rs : List (List Int)} {bs : List Nat} {budget steps : Int} {met : Int → Int → Bool} {ps : List PRow} (s : SearchR S bx bp c rs bs budget steps met ps) (n : Int) {l : List V} (hl : l = sC c rs bp ps.length (mtV bs c.members.length) budget n) :
    SearchR (setS bx (.cells l TS) S) bx bp c rs bs budget n met ps := by
  subst hl
  have e : ∀ b, b ≠ bx → zab (setS bx (.cells (sC c rs bp ps.length (mtV bs c.members.length) budget n) TS) S) b = zab S b := fun b hb => by rw [zbg s.obj, if_neg hb]
  refine ⟨by rw [zbg s.obj, if_pos rfl], s.mat.of fun b hb => e b (fun h => s.xb (h ▸ hb)), by rw [e _ s.xp.symm]; exact s.pln, fun i h => (s.row i h).of fun b cap j hb => e b (s.rx i h b cap j hb).1, s.xp, s.xb, s.pb, s.nd, s.rx, s.rr⟩
theorem SearchR.marked {S S' : Sto} {bx bp : Nat} {c : Club} {rs : List (List Int)} {bs : List Nat} {budget steps : Int} {met met' : Int → Int → Bool} {ps : List PRow} (s : SearchR S bx bp c rs bs budget steps met ps) (m : MetR S' bs c met') (e : ∀ b, ¬ b ∈ bs → zab S' b = zab S b) :
    SearchR S' bx bp c rs bs budget steps met' ps :=
  ⟨by rw [e _ s.xb]; exact s.obj, m, by rw [e _ s.pb]; exact s.pln, fun i h => (s.row i h).of fun b cap j hb => e b (s.rx i h b cap j hb).2.2, s.xp, s.xb, s.pb, s.nd, s.rx, s.rr⟩
theorem SearchR.turn {S S' : Sto} {bx bp : Nat} {c : Club} {rs : List (List Int)} {bs : List Nat} {budget steps : Int} {met : Int → Int → Bool} {ps : List PRow} (s : SearchR S bx bp c rs bs budget steps met ps) {r : Nat} (hr : r < ps.length) {T : List (List Int)} {b' cap' : Nat} {junk : List V}
    (hb : (∃ cap j, ps[r].blk = some (b', cap, j)) ∨ zab S b' = none) (hok : PRow.Ok S' ⟨T, some (b', cap', junk)⟩) (hp : zab S' bp = some (.cells ((ps.map PRow.cell).set r (.v (.slice (some ⟨b', 0, none⟩) T.length cap'))) 35))
    (e : ∀ b, b ≠ bp → b ≠ b' → (∀ cap j, ps[r].blk ≠ some (b, cap, j)) → zab S' b = zab S b) :
    SearchR S' bx bp c rs bs budget steps met (ps.set r ⟨T, some (b', cap', junk)⟩) := by
  have n1 : b' ≠ bx ∧ b' ≠ bp ∧ ¬ b' ∈ bs := by
    rcases hb with ⟨cap, j, h⟩ | h
    · exact s.rx r hr b' cap j h
    · refine ⟨?_, ?_, ?_⟩
      · intro h'; rw [h', s.obj] at h; cases h
      · intro h'; rw [h', s.pln] at h; cases h
      · intro h'
        obtain ⟨i, hi, rfl⟩ := List.getElem_of_mem h'
        rw [s.mat.row i hi (s.mat.len ▸ hi)] at h; cases h
  have nb : ∀ (i : Nat) (h : i < ps.length) (cap : Nat) (j : List V), ps[i].blk = some (b', cap, j) → i = r := fun i h cap j hi => by
    rcases hb with ⟨cap2, j2, h2⟩ | h2
    · exact s.rr i r h hr b' cap cap2 j j2 hi h2
    · have h3 := s.row i h
      generalize ps[i] = p at hi h3
      obtain ⟨T', blk⟩ := p
      dsimp only at hi
      subst hi
      rw [h3.1] at h2; cases h2
  have eb : ∀ (i : Nat) (h : i < ps.length) (b cap : Nat) (j : List V), i ≠ r → ps[i].blk = some (b, cap, j) → zab S' b = zab S b := fun i h b cap j hir hi => by
    refine e b (s.rx i h b cap j hi).2.1 (fun hbb => ?_) fun cap2 j2 h2 => hir (s.rr i r h hr b cap cap2 j j2 hi h2)
    subst hbb; exact hir (nb i h cap j hi)
  have ex : ∀ b, b ≠ bp → b ≠ b' → (b = bx ∨ b ∈ bs) → zab S' b = zab S b := fun b h1 h2 h3 => e b h1 h2 fun cap j h4 => by
    have := s.rx r hr b cap j h4
    rcases h3 with h3 | h3
    · exact this.1 h3
    · exact this.2.2 h3
  have gs : ∀ (i : Nat) (h : i < (ps.set r ⟨T, some (b', cap', junk)⟩).length), (ps.set r ⟨T, some (b', cap', junk)⟩)[i] = if r = i then ⟨T, some (b', cap', junk)⟩ else ps[i]'(by simpa using h) := fun i h => by rw [List.getElem_set]
  refine ⟨?_, s.mat.of fun b hb' => ex b (fun h => s.pb (h ▸ hb')) (fun h => n1.2.2 (h ▸ hb')) (.inr hb'), ?_, fun i h => ?_, s.xp, s.xb, s.pb, s.nd, fun i h b cap j hi => ?_, fun i k hi hk b cap cap2 j j2 h1 h2 => ?_⟩
  · rw [ex bx s.xp n1.1.symm (.inl rfl), s.obj, List.length_set]
  · rw [hp, List.map_set]; rfl
  · rw [gs]
    have h' : i < ps.length := by simpa using h
    by_cases hir : r = i
    · rw [if_pos hir]; exact hok
    · rw [if_neg hir]; exact (s.row i h').of fun b cap j hi => eb i h' b cap j (Ne.symm hir) hi
  · rw [gs] at hi
    have h' : i < ps.length := by simpa using h
    by_cases hir : r = i
    · rw [if_pos hir] at hi; cases hi; exact n1
    · rw [if_neg hir] at hi; exact s.rx i h' b cap j hi
  · rw [gs] at h1 h2
    have hi' : i < ps.length := by simpa using hi
    have hk' : k < ps.length := by simpa using hk
    by_cases hir : r = i
    · rw [if_pos hir] at h1
      by_cases hkr : r = k
      · omega
      · rw [if_neg hkr] at h2
        simp only [Option.some.injEq, Prod.mk.injEq] at h1
        obtain ⟨rfl, _⟩ := h1
        exact hir ▸ (nb k hk' cap2 j2 h2).symm
    · rw [if_neg hir] at h1
      by_cases hkr : r = k
      · rw [if_pos hkr] at h2
        simp only [Option.some.injEq, Prod.mk.injEq] at h2
        obtain ⟨rfl, _⟩ := h2
        exact hkr ▸ nb i hi' cap j h1
      · rw [if_neg hkr] at h2
        exact s.rr i k hi' hk' b cap cap2 j j2 h1 h2
end Go.XL
namespace Go.XL
open Go.Proofs
set_option maxRecDepth 100000
set_option maxHeartbeats 4000000
structure Box (p : Prop) : Prop where
  out : p
theorem PRow.split {S : Sto} {p : PRow} (h : p.Ok S) : ∃ S0 S1, (∀ b o, zab S0 b = some o → zab S b = some o ∧ zab S1 b = none) ∧ (∀ b o, zab S1 b = some o → zab S b = some o) ∧ p.Ok S1 ∧
    ∀ b, (∀ cap j, p.blk ≠ some (b, cap, j)) → zab S0 b = zab S b ∧ zab S1 b = none := by
  obtain ⟨T, blk⟩ := p
  cases blk with
  | none => exact ⟨S, [], fun _ _ e => ⟨e, rfl⟩, (fun _ _ e => by cases e), h, fun _ _ => ⟨rfl, rfl⟩⟩
  | some x =>
    obtain ⟨b0, cap, j⟩ := x
    obtain ⟨h1, h2⟩ := h
    refine ⟨delS b0 S, [(b0, .cells ((T.map fun t => ints t) ++ j) 22)], fun b o e => ?_, fun b o e => ?_, ⟨by simp [zab], h2⟩, fun b hb => ?_⟩
    · rw [zck] at e
      split at e
      · cases e
      · rename_i hne
        exact ⟨e, by simp only [zab]; rw [if_neg (fun h => hne h.symm)]⟩
    · simp only [zab] at e
      split at e
      · rename_i hbb; subst hbb; rw [h1]; exact e
      · cases e
    · have hne : ¬ b0 = b := fun h => hb cap j (by rw [h])
      exact ⟨by rw [zck, if_neg (fun h => hne h.symm)], by simp only [zab]; rw [if_neg hne]⟩
theorem PRow.cell_copy (p : PRow) : p.cell.copy = p.cell := by
  obtain ⟨T, blk⟩ := p
  cases blk <;> rfl
theorem PRow.cell_some (T : List (List Int)) (b cap : Nat) (j : List V) : PRow.cell ⟨T, some (b, cap, j)⟩ = .v (.slice (some ⟨b, 0, none⟩) T.length cap) := rfl
theorem SearchR.appended {S S0 Sr S4 : Sto} {bx bp : Nat} {c : Club} {rs : List (List Int)} {bs : List Nat} {budget steps : Int} {met : Int → Int → Bool} {ps : List PRow} (s : SearchR S bx bp c rs bs budget steps met ps) {r : Nat} (hr : r < ps.length) {p : PRow} (hp : p = ps[r])
    (k3 : ∀ b, (∀ cap j, p.blk ≠ some (b, cap, j)) → zab S0 b = zab S b ∧ zab Sr b = none) (hdis : ∀ b o, zab S0 b = some o → zab S4 b = none) {T : List (List Int)} {b' cap' : Nat} {junk : List V} (m1 : PRow.Ok S4 ⟨T, some (b', cap', junk)⟩)
    (m2 : (∃ cap j, p.blk = some (b', cap, j)) ∨ zab Sr b' = none) (m3 : ∀ b, b ≠ b' → (∀ cap j, p.blk ≠ some (b, cap, j)) → zab S4 b = zab Sr b) :
    zab (S4 ++ S0) bp = some (.cells (ps.map PRow.cell) 35) ∧
    SearchR (setS bp (.cells ((ps.map PRow.cell).set r (.v (.slice (some ⟨b', 0, none⟩) T.length cap'))) 35) (S4 ++ S0)) bx bp c rs bs budget steps met (ps.set r ⟨T, some (b', cap', junk)⟩) := by
  subst hp
  have hbp := k3 bp fun cap j h => (s.rx r hr bp cap j h).2.1 rfl
  have h0 : zab S0 bp = some (.cells (ps.map PRow.cell) 35) := hbp.1.trans s.pln
  have h1 : zab (S4 ++ S0) bp = some (.cells (ps.map PRow.cell) 35) := by rw [zby, hdis bp _ h0]; exact h0
  have h2 : ∃ cap j, zab S4 b' = some (.cells ((T.map fun t => ints t) ++ j) cap) := ⟨_, _, m1.1⟩
  have h3 : b' ≠ bp := fun h => by
    obtain ⟨_, _, h2⟩ := h2
    rw [h, hdis bp _ h0] at h2; cases h2
  refine ⟨h1, s.turn hr ?_ (m1.of fun b cap j h => ?_) ?_ fun b e1 e2 e3 => ?_⟩
  · by_cases hold : ∃ cap j, ps[r].blk = some (b', cap, j)
    · exact .inl hold
    · right
      have hk := k3 b' fun cap j h => hold ⟨cap, j, h⟩
      rw [← hk.1]
      cases hh : zab S0 b' with
      | none => rfl
      | some o =>
        obtain ⟨_, _, h2⟩ := h2
        rw [hdis b' o hh] at h2; cases h2
  · simp only [Option.some.injEq, Prod.mk.injEq] at h
    obtain ⟨rfl, _⟩ := h
    rw [zbg h1, if_neg h3, zby, m1.1]
  · rw [zbg h1, if_pos rfl]
  · rw [zbg h1, if_neg e1, zby, m3 b e2 e3, (k3 b e3).2]
    exact (k3 b e3).1
theorem freeS_append (ids : List Int) (T : List (List Int)) (t : List Int) : zfr ids (T ++ [t]) = (zfr ids T).filter fun id => !decide (id ∈ t) := by
  simp only [zfr, List.filter_filter]
  apply List.filter_congr
  intro x _
  simp [Bool.and_comm]
theorem rows_free (T : List (List Int)) {j : List V} (h : ∀ v ∈ j, v.free = true) : ∀ v ∈ (T.map fun t => ints t) ++ j, v.free = true := fun v hv => by
  rcases List.mem_append.1 hv with h1 | h1
  · obtain ⟨t, _, rfl⟩ := List.mem_map.1 h1; rfl
  · exact h v h1
section
variable {v0 : VH} {P : Program} {n : Nat} {E : VEnv} {S : Sto} {dst : Option Tmp} {ty : TypeId} {pos : String} {af : Array Edge}
theorem OpS.appRow {p : PRow} {T t by_ : Nat} {z : Value} {sx x : Operand} {vx : V} {tab : List Int} (hd : dst = some t) (ht : tel P T = some (22, 1, by_)) (hz : zde P 22 = some z) (hzs : z.cells.size = 1) (hzo : zgf z.cells.toList = true)
    (hs : evV E sx = some p.cell) (hok : p.Ok S) (hx : evV E x = some vx) (hxl : zdz vx = some [[ints tab]]) (hfit : p.rows.length + 1 ≤ 2147483648 ∧ by_ ≤ 65536) :
    OpS v0 P n ⟨dst, .call { callee := .builtin .append, args := #[sx, x], argTypes := #[T, T] }, ty, pos, af, none⟩ E S
      (fun u E' S' => E' = E ∧ ∃ b' cap' junk, u = PRow.cell ⟨p.rows ++ [tab], some (b', cap', junk)⟩ ∧ PRow.Ok S' ⟨p.rows ++ [tab], some (b', cap', junk)⟩ ∧ ((∃ cap j, p.blk = some (b', cap, j)) ∨ zab S b' = none) ∧
        ∀ b, b ≠ b' → (∀ cap j, p.blk ≠ some (b, cap, j)) → zab S' b = zab S b) := by
  obtain ⟨R, blk⟩ := p
  intro K D hv hold env a w hfl ha s
  cases blk with
  | none =>
    simp only [PRow.Ok] at hok
    subst hok
    refine (OpS.appN hd ht hz hzs hzo (by decide) hs hx hxl (by simp) (by simp) (by simpa [Fits] using hfit) K D hv hold env a w hfl ha s).mono ?_
    rintro y w' ⟨hsame, u, E2, S2, hv2, hold2, q1, q2, h1, b', cap', junk, h2, h3, h4, h5, h6, h7, h8⟩
    refine ⟨hsame, u, E2, S2, hv2, hold2, q1, q2, h1, b', cap', junk, ?_, ?_, ?_, ?_⟩
    · rw [h2]; simp [PRow.cell]
    · subst h3
      refine ⟨by simp [zab, V.copy], by simpa using h5, h7, h8⟩
    · exact .inr (h4.resolve_left (by simp))
    · intro b hb _
      subst h3
      simp only [zab, delB]
      rw [if_neg (fun h => hb h.symm)]
  | some x =>
    obtain ⟨b0, cap0, j0⟩ := x
    obtain ⟨k1, k2, k3, k4⟩ := hok
    refine (OpS.appC hd ht hz hzs hzo (by decide) hs k1 (by simpa using k2) (by omega) k3 (rows_free R k4) hx hxl (by simp) (by simp) (by simpa [Fits] using hfit) K D hv hold env a w hfl ha s).mono ?_
    rintro y w' ⟨hsame, u, E2, S2, hv2, hold2, q1, q2, h1, b', cap', junk, h2, h3, h4, h5, h6, h7, h8⟩
    refine ⟨hsame, u, E2, S2, hv2, hold2, q1, q2, h1, b', cap', junk, ?_, ?_, ?_, ?_⟩
    · rw [h2]; simp [PRow.cell]
    · subst h3
      refine ⟨?_, by simpa using h5, h7, h8⟩
      simp only [zab, if_true, Option.some.injEq, Ob.cells.injEq, and_true]
      simp [V.copy]
    · rcases h4 with h4 | h4
      · cases h4; exact .inl ⟨_, _, rfl⟩
      · exact .inr h4
    · intro b hb hnb
      subst h3
      simp only [zab, delB]
      rw [if_neg (fun h => hb h.symm), zck, if_neg]
      intro h; subst h; exact hnb _ _ rfl
end
end Go.XL
namespace Go.XL
open Go.Proofs
set_option maxRecDepth 100000
set_option maxHeartbeats 8000000
abbrev ptr (b : Nat) : V := .v (.pointer (some ⟨b, 0, none⟩))
theorem zcz (bs : Nat) (x n : Int) (hn : n ≤ 1000000000000) : SC Try.prog 27 [ptr bs, I n] bs x (I (zam x n)) (zaj x) := by
  unfold SC
  refine DC.of_run Try.func27 rfl Try.ntmps27 Try.results27 (by simp) (fun _ => ?_); simp only [zan, zas, go_sem, Nat.zero_add, Nat.reduceAdd]
  repeat' (first | (with_reducible first | refine DS.fltS yU yU yE ?_ | refine DS.opsNil ?_ | refine DS.seq ?_ | refine DS.regionL ?_ | (refine DS.cE yE ?_; refine CG.p (fun _ => ?_) (fun _ => ?_)) | refine DS.skip ?_) | (refine DS.store yR yE yE yE yE yU (by exact ⟨by with_unfolding_all rfl, by (try simp only [List.length_map, List.length_append, List.length_set, List.length_replicate, List.length_cons, List.length_nil]); omega⟩) ?_; simp only [zbm, zaq, zat, zbz, zbn, zbl, zbh]; try simp only [zak, zac, zad, Nat.reduceEqDiff, ↓reduceIte, zag, zah, zao, zaf, zae, zal, zai]) | refine DS.drawL (id := 4) [0, 1, 2, 3, 4, 5, 6, 7, 8, 9, 10, 11, 12] 13 (by kernel_rfl) zct (by simp only [zay, zbc, zbd, zbe, zax]; exact rfl) (by simp only [zav, zaw, List.drop_nil]; exact rfl) ?_ | (with_reducible first | refine DD.fltS yU yU yU yE ?_ | refine DD.nil0 ?_) | fail)
  · rename_i e1
    refine DS.retA yG ⟨?_, ?_⟩
    · rw [zam, if_pos (by omega)]; rfl
    · simp only [setS, if_true, zbr]; rfl
  · rename_i e1
    have hw : IntKind.u64.wrap n = n := wrapU_id ⟨by omega, by omega⟩
    repeat' (first | (with_reducible first | refine DS.fltS yU yU yE ?_ | refine DS.opsNil ?_) | fail)
    refine DS.retA yG ⟨?_, ?_⟩
    · rw [zam, if_neg e1]
      show I (IntKind.i64.wrap ((mixX (zaj x)).tmod n)) = _
      have h1 := mixX_bd (zaj x)
      have h2 := Int.emod_nonneg (mixX (zaj x)) (show n ≠ 0 by omega)
      have h3 := Int.emod_lt_of_pos (mixX (zaj x)) (show 0 < n by omega)
      rw [Int.tmod_eq_emod_of_nonneg h1.1]
      have h4 := zqz (n := mixX (zaj x) % n) (by omega)
      unfold w64 at h4
      rw [h4]
    · simp only [setS, if_true, zbr]; rfl
theorem zkj (bs : Nat) (x n : Int) (hn : n ≤ 1000000000000) : SC Try.prog 48 [ptr bs, I n] bs x (Bo (zmr x n)) (zaj x) := by
  unfold SC
  refine DC.of_run Try.func48 rfl Try.ntmps48 Try.results48 (by simp) (fun _ => ?_); simp only [zan, zas, go_sem, Nat.zero_add, Nat.reduceAdd]
  repeat' (first | (with_reducible first | refine DS.fltS yU yU yE ?_ | refine DS.opsNil ?_ | refine DS.seq ?_ | refine DS.regionL ?_) | (refine DS.scS inferInstance (zcz bs x n hn) yR yT yT ?_; (try simp only [zbj, zbv, ↓reduceIte, *])) | fail)
  refine DS.retA yG ⟨rfl, rfl⟩
theorem ztz (bs : Nat) (x lo hi : Int) (hn : -1000 ≤ lo ∧ lo ≤ 1000 ∧ -1000 ≤ hi ∧ hi ≤ 1000) : SC Try.prog 82 [ptr bs, I lo, I hi] bs x (I (zcq x lo hi)) (zaj x) := by
  have hb := zcn x (hi - lo + 1)
  obtain ⟨h1, h2, h3⟩ := hb
  obtain ⟨n1, n2, n3, n4⟩ := hn
  have h4 : zam x (hi - lo + 1) ≤ 3000 := by
    rcases Int.lt_or_le (hi - lo + 1) 1 with h | h
    · rw [h3 h]; omega
    · have := h2 h; omega
  clear h2 h3
  unfold SC
  refine DC.of_run Try.func82 rfl Try.ntmps82 Try.results82 (by simp) (fun _ => ?_); simp only [zan, zas, go_sem, Nat.zero_add, Nat.reduceAdd]
  repeat' (first | (with_reducible first | refine DS.fltS yU yU yE ?_ | refine DS.opsNil ?_ | refine DS.seq ?_ | refine DS.regionL ?_) | (refine DS.scS inferInstance (zcz bs x (hi - lo + 1) (by omega)) yR yT yT ?_; (try simp only [zbj, zbv, ↓reduceIte, *])) | fail)
  refine DS.retA yG ⟨rfl, rfl⟩
theorem yX8 {p : Prop} (h : p := by (simp (disch := omega) only [go_sem, dopV, Option.map_some, Option.map_none, Option.bind_some, Option.bind_none, ↓reduceIte, Nat.reduceEqDiff, Nat.reduceLT, Nat.reduceLeDiff, Nat.reduceAdd, Nat.reduceMul, Nat.reduceSub, Nat.zero_add, Nat.add_zero, Nat.zero_le, Nat.zero_mul, Nat.mul_one, Nat.one_mul, Int.natCast_zero, Int.toNat_zero, Int.reduceToNat, Int.reduceLT, Int.reduceLE, Int.reduceEq, decide_true, decide_false, true_and, and_true, Bool.and_self, Bool.and_true, Bool.true_and, Bool.not_true, Bool.not_false, IntWalk.toNatUp, IntWalk.iteOmega, IntWalk.i64_in, Option.isSome_some, not_true_eq_false, not_false_eq_true, Option.getD_some, Option.getD_none, Int.toNat_natCast, List.length_map, List.getElem?_map, List.getElem?_eq_getElem, V.flat, V.one, List.all_cons, List.all_nil, *, Value.oneCell']; exact rfl)) : p := h
theorem newSource_dc (l : List Int) : DC Try.prog 26 [ints l] [] (fun u S' => ∃ bs, u = ptr bs ∧ S' = [(bs, srcO (newX l))]) := by
  refine DC.of_run Try.func26 rfl Try.ntmps26 Try.results26 (by simp) (fun _ => ?_); simp only [zan, zas, go_sem, Nat.zero_add, Nat.reduceAdd]
  refine DS.bnd (t := 0) yG (.inl rfl) (fun hb0 => ?_); simp only [List.length_map] at hb0
  repeat' (first | (with_reducible first | refine DS.fltS yU yU yX8 ?_ | refine DS.opsNil ?_ | refine DS.seq ?_ | refine DS.regionL ?_ | refine DS.block ?_) | (with_reducible refine DS.boxS yU yX8 yU (fun _ hfr => ?_); have hfr := zgh hfr; simp only [zeg, zfe, and_true] at hfr; simp only [zbk, zcd, zbi, zbu, zbf, zaz, zbp, zbb, zca, zcc, zbq, zcb, zbt, zbs]) | fail)
  rename_i bs hbs
  refine DS.loopS [0, 3] (by (simp only [go_sem, Nat.reduceEqDiff, ↓reduceIte]; exact rfl)) (fun (y : Nat × Int) => [(4, I y.1)]) (fun (y : Nat × Int) => [(bs, srcO y.2)]) (fun (y : Nat × Int) => y.1 ≤ l.length ∧ newX l = zwv (l.drop y.1) y.2) (fun (y : Nat × Int) => l.length - y.1) (0, 2685821657736338717) yS (fun b o e => by exact e) ⟨Nat.zero_le _, rfl⟩ (fun y B hI hB => ?_); try dsimp only at hI hB; simp only [zap, zau]
  obtain ⟨i, x⟩ := y
  dsimp only at hI hB
  obtain ⟨g1, g2⟩ := hI
  have H := Box.mk g2
  clear g2
  repeat' (first | (with_reducible first | refine DS.fltS yU yU yE ?_ | refine DS.opsNil ?_ | refine DS.seq ?_ | refine DS.regionL ?_ | (refine DS.cE yE ?_; refine CG.p (fun _ => ?_) (fun _ => ?_)) | refine DS.blk ?_ | refine DS.block ?_ | refine DS.exit yU ?_ | refine DS.skip ?_) | (refine DS.store yR yE yE yE yE yU (by exact ⟨by with_unfolding_all rfl, by (try simp only [List.length_map, List.length_append, List.length_set, List.length_replicate, List.length_cons, List.length_nil]); omega⟩) ?_; simp only [zbm, zaq, zat, zbz, zbn, zbl, zbh]; try simp only [zak, zac, zad, Nat.reduceEqDiff, ↓reduceIte, zag, zah, zao, zaf, zae, zal, zai]) | refine DS.drawL (id := 5) [0, 1, 2, 3, 4, 5, 6, 7, 8, 9, 10, 11] 12 (by kernel_rfl) zct (by simp only [zay, zbc, zbd, zbe, zax]; exact rfl) (by simp only [zav, zaw, List.drop_nil]; exact rfl) ?_ | refine DS.drawL (id := 6) [0, 1, 2, 3, 4, 5, 6, 7, 8, 9, 10] 11 (by kernel_rfl) zct (by simp only [zay, zbc, zbd, zbe, zax]; exact rfl) (by simp only [zav, zaw, List.drop_nil]; exact rfl) ?_ | (with_reducible first | refine DD.fltS yU yU yU yE ?_ | refine DD.nil0 ?_) | fail)
  · rename_i e1
    have hi : i < l.length := by omega
    refine DS.back (hB (i + 1, xorI .u64 (IntKind.u64.wrap (xorI .u64 x (IntKind.u64.wrap l[i]) * 11400714819323198485)) ((IntKind.u64.wrap (xorI .u64 x (IntKind.u64.wrap l[i]) * 11400714819323198485)).fdiv 536870912)) _ _ (by dsimp only; omega) ⟨by dsimp only; omega, by rw [H.out, List.drop_eq_getElem_cons hi, zwv]⟩ yS yS (fun b o e => ?_))
    simp only [setS, if_true, zbr]
    exact e
  · rename_i e1
    have h := H.out
    rw [List.drop_eq_nil_of_le (by omega)] at h
    refine DS.retA yG ⟨bs, rfl, ?_⟩
    rw [h]; rfl
end Go.XL
namespace Go.XL
open Go.Proofs
theorem indexFuncM_pc (l : List Member) {g : FuncId} {fs cs : List V} {fn : Func} (p : Member → Bool) (hf : FnOk Try.prog g fn) (h : ∀ m, PC Try.prog g (fs ++ [m.val] ++ cs) (Bo (p m))) :
    PC Try.prog 94 [.lst (l.map Member.cells), .fn g fs cs] (I (idxF p l 0)) := by
  refine DC.of_run Try.func94 rfl Try.ntmps94 Try.results94 (by simp) (fun _ => ?_); simp only [zan, zas, go_sem, Nat.zero_add, Nat.reduceAdd]
  refine DS.bnd (t := 0) yG (.inl rfl) (fun hb0 => ?_); simp only [List.length_map] at hb0
  repeat' (first | (with_reducible first | refine DS.fltS yU yU yE ?_ | refine DS.opsNil ?_ | refine DS.seq ?_ | refine DS.regionL ?_ | refine DS.block ?_) | fail)
  refine DS.loopG (fun (i : Nat) => [(0, .lst (l.map Member.cells)), (1, .fn g fs cs), (7, I l.length), (8, I i)]) (fun (i : Nat) => []) (fun (i : Nat) => i ≤ l.length ∧ idxF p l 0 = idxF p (l.drop i) i) (fun (i : Nat) => l.length - i) 0 yS yS (by simp) (fun i B hI hB => ?_); try dsimp only at hI hB ⊢
  repeat' (first | (with_reducible first | refine DS.fltS yU yU yE ?_ | refine DS.opsNil ?_ | refine DS.seq ?_ | refine DS.regionL ?_ | (refine DS.cE yE ?_; refine CG.p (fun _ => ?_) (fun _ => ?_)) | refine DS.block ?_ | refine DS.exit yU ?_ | refine DS.skip ?_) | refine DS.retT [] yE trivial ?_ | fail)
  · refine DS.pcVS hf (by simp (disch := omega) only [go_sem, dopV, Option.map_some, Option.map_none, Option.bind_some, Option.bind_none, ↓reduceIte, Nat.reduceEqDiff, Nat.reduceLT, Nat.reduceLeDiff, Nat.reduceAdd, Nat.reduceMul, Nat.reduceSub, Nat.zero_add, Nat.add_zero, Nat.zero_le, Nat.zero_mul, Nat.mul_one, Nat.one_mul, Int.natCast_zero, Int.toNat_zero, Int.reduceToNat, Int.reduceLT, Int.reduceLE, Int.reduceEq, decide_true, decide_false, true_and, and_true, Bool.and_self, Bool.and_true, Bool.true_and, Bool.not_true, Bool.not_false, IntWalk.toNatUp, IntWalk.iteOmega, IntWalk.i64_in, Option.isSome_some, not_true_eq_false, not_false_eq_true, Option.getD_some, Option.getD_none, Int.toNat_natCast, List.length_map, List.getElem?_map, List.getElem?_eq_getElem, V.flat, V.one, List.all_cons, List.all_nil]) (h l[i]) yR yG ?_
    repeat' (first | (with_reducible first | refine DS.fltS yU yU yE ?_ | refine DS.opsNil ?_ | refine DS.seq ?_ | refine DS.regionL ?_ | (refine DS.cE yE ?_; refine CG.b (fun _ => ?_) (fun _ => ?_)) | refine DS.blk ?_ | refine DS.skip ?_) | refine DS.retT [] yE trivial ?_ | fail)
    · rename_i h1 h2
      have := zjq (p := p) (l := l) (i := i) (by omega) h2
      simp only [tupV]; rw [hI.2, this]
    · rename_i h1 h2
      exact DS.back (hB (i + 1) _ _ (by omega) ⟨by omega, by rw [hI.2, zhn (by omega) h2]⟩ yS yS)
  · have := zjr (p := p) (l := l) (i := i) (by omega)
    simp only [tupV]; rw [hI.2, this]
theorem findC_pc (m : Member) (id : Int) : PC Try.prog 95 [m.val, .plc [I id]] (Bo (decide (m.id = id))) := by
  refine DC.of_run Try.func95 rfl Try.ntmps95 Try.results95 (by simp) (fun _ => ?_); simp only [zan, zas, go_sem, Nat.zero_add, Nat.reduceAdd]
  repeat' (first | (with_reducible first | refine DS.fltS yU yU yE ?_ | refine DS.opsNil ?_ | refine DS.seq ?_ | refine DS.regionL ?_) | (refine DS.boxF (t := 2) yU yE yU ?_; simp only [zbk, zcd, zbi, zbu, zbf, zaz, zbp, zbb, zca, zcc, zbq, zcb, zbt, zbs]) | refine DS.retT [] yE trivial ?_ | fail)
  all_goals first | (simp_all [tupV]; done)
theorem find_pc (c : Club) (id : Int) : PC Try.prog 54 [c.val, I id] (I (idxF (fun m => decide (m.id = id)) c.members 0)) := by
  refine DC.of_run Try.func54 rfl Try.ntmps54 Try.results54 (by simp) (fun _ => ?_); simp only [zan, zas, go_sem, Nat.zero_add, Nat.reduceAdd]
  repeat (first | refine DS.seq ?_ | refine DS.block ?_ | refine DS.scope ?_ | refine DS.region ?_ | refine DS.opsNil ?_ | refine DS.blk ?_ | refine DS.label ?_ | refine DS.skip ?_ | refine DS.exit yR ?_ | refine DS.fltS yR yR yG ?_ | refine DS.cT yG yR ?_ | refine DS.cF yG yR ?_ | refine DS.gT yG yR ?_ | refine DS.gF yG yR yR ?_ | refine DS.gU yG yR yR ?_ )
  refine DS.boxS yR yG yR (fun b hb => ?_); have hb := zgh hb; simp only [zeg, zfe, and_true, zbk, zcd, zbi, zbu, zbf, zaz, zbp, zbb, zca, zcc, zbq, zcb, zbt, zbs, ite_eq_right_iff, reduceCtorEq, imp_false] at hb ⊢
  refine DS.boxS yR yG yR (fun d hd => ?_); have hd := zgh hd; simp only [zeg, zfe, and_true, zbk, zcd, zbi, zbu, zbf, zaz, zbp, zbb, zca, zcc, zbq, zcb, zbt, zbs, ite_eq_right_iff, reduceCtorEq, imp_false] at hd ⊢
  refine DS.freezeP (t := 3) yE yE ?_; simp only [zbj, zbv, ↓reduceIte, *, zbf, zaz, zbp, zbb, zca, zcc, zbq, zcb]
  repeat' (first | (with_reducible first | refine DS.fltS yU yU yE ?_ | refine DS.opsNil ?_ | refine DS.seq ?_ | refine DS.regionL ?_) | refine DS.pcS inferInstance (indexFuncM_pc c.members (fun m => decide (m.id = id)) inferInstance (fun m => findC_pc m id)) yR yT ?_ | refine DS.retT [] yE trivial ?_ | fail)
  all_goals first | (simp_all [tupV]; done)
end Go.XL
namespace Go.XL
open Go.Proofs
theorem totalGo_in {most : Int} {l : List Int} {i : Nat} {w : Int} (hi : i < l.length) (h : -most ≤ l[i] ∧ l[i] ≤ most) : zdu most (l.drop i) w = zdu most (l.drop (i + 1)) (w - l[i]) := by
  rw [List.drop_eq_getElem_cons hi, zdu, if_pos h]
theorem totalGo_out {most : Int} {l : List Int} {i : Nat} {w : Int} (hi : i < l.length) (h : ¬ (-most ≤ l[i] ∧ l[i] ≤ most)) : zdu most (l.drop i) w = 2 := by
  rw [List.drop_eq_getElem_cons hi, zdu, if_neg h]
theorem zne {most : Int} {l : List Int} {i : Nat} {w : Int} (hi : l.length ≤ i) : zdu most (l.drop i) w = if w = 0 then 0 else 12 := by
  rw [List.drop_eq_nil_of_le hi, zdu]
theorem ztm (c : Club) (l : List Int) (most want : Int) (h1 : c.size ≤ 4) (h2 : 0 ≤ most ∧ most ≤ 1099511627776) (h3 : -1099511627776 ≤ want ∧ want ≤ 1099511627776) : PC Try.prog 90 [c.val, ints l, I most, I want] (I (zhh c.size l most want)) := by
  refine DC.of_run Try.func90 rfl Try.ntmps90 Try.results90 (by simp) (fun _ => ?_); simp only [zan, zas, go_sem, Nat.zero_add, Nat.reduceAdd]
  refine DS.bnd (t := 1) yG (.inl rfl) (fun hb1 => ?_); simp only [List.length_map] at hb1
  repeat' (first | (with_reducible first | refine DS.fltS yU yU yE ?_ | refine DS.opsNil ?_ | refine DS.seq ?_ | refine DS.regionL ?_ | (refine DS.cE yE ?_; refine CG.np (fun _ => ?_) (fun _ => ?_)) | refine DS.block ?_ | refine DS.skip ?_) | (refine DS.boxF (t := 4) yU yE yU ?_; simp only [zbk, zcd, zbi, zbu, zbf, zaz, zbp, zbb, zca, zcc, zbq, zcb, zbt, zbs]) | refine DS.retT [] yE trivial ?_ | fail)
  · simp [tupV, zhh, *]
  refine DS.loopG (fun (i : Nat × Int) => [(1, ints l), (2, I most), (3, I i.2), (16, ints l), (17, I l.length), (18, I i.1)]) (fun (i : Nat × Int) => []) (fun (i : Nat × Int) => i.1 ≤ l.length ∧ zdu most l want = zdu most (l.drop i.1) i.2 ∧ -1099511627776 * (i.1 + 1) ≤ i.2 ∧ i.2 ≤ 1099511627776 * (i.1 + 1)) (fun (i : Nat × Int) => l.length - i.1) (0, want) yS yS (by simp; omega) (fun i B hI hB => ?_); try dsimp only at hI hB ⊢
  repeat' (first | (with_reducible first | refine DS.fltS yU yU yE ?_ | refine DS.opsNil ?_ | refine DS.seq ?_ | refine DS.regionL ?_ | (refine DS.cE yE ?_; first | refine CG.np (fun _ => ?_) (fun _ => ?_) | refine CG.p (fun _ => ?_) (fun _ => ?_)) | refine DS.blk ?_ | refine DS.block ?_ | refine DS.exit yU ?_ | refine DS.skip ?_) | refine DS.pcS inferInstance (zhf _ _ _) yR yT ?_ | refine DS.retT [] yE trivial ?_ | fail)
  · rename_i q1 q2
    have hs : (l.length : Int) = c.size := by omega
    rw [zec, zhh, if_pos hs, hI.2.1, totalGo_out (by omega) (by simpa using q2)]
  · rename_i q1 q2
    have q3 : -most ≤ l[i.1] ∧ l[i.1] ≤ most := by simpa using q2
    exact DS.back (hB (i.1 + 1, i.2 - l[i.1]) _ _ (by simp; omega) ⟨by simp; omega, by rw [hI.2.1, totalGo_in (by omega) q3], by simp; omega, by simp; omega⟩ yS yS)
  · rename_i q1 q2
    have hs : (l.length : Int) = c.size := by omega
    rw [zec, zhh, if_pos hs, hI.2.1, zne (by omega), if_neg (by simpa using q2)]
  · rename_i q1 q2
    have hs : (l.length : Int) = c.size := by omega
    rw [zec, zhh, if_pos hs, hI.2.1, zne (by omega), if_pos (by simpa using q2)]
end Go.XL
namespace Go.XL
open Go.Proofs
set_option maxRecDepth 100000
set_option maxHeartbeats 4000000
theorem members_pc (l : List Member) : PC Try.prog 91 [.lst (l.map Member.cells)] (I (zdv l)) := by
  refine DC.of_run Try.func91 rfl Try.ntmps91 Try.results91 (by simp) (fun _ => ?_); simp only [zan, zas, go_sem, Nat.zero_add, Nat.reduceAdd]
  refine DS.bnd (t := 0) yG (.inl rfl) (fun hb0 => ?_); simp only [List.length_map] at hb0
  repeat' (first | (with_reducible first | refine DS.fltS yU yU yE ?_ | refine DS.opsNil ?_ | refine DS.seq ?_ | refine DS.regionL ?_ | (refine DS.cE yE ?_; refine CG.p (fun _ => ?_) (fun _ => ?_)) | refine DS.block ?_ | refine DS.skip ?_) | refine DS.retT [] yE trivial ?_ | fail)
  · rename_i q; rw [zdv, if_pos (by omega)]; rfl
  refine DS.loopK [9, 10] (by (simp only [go_sem, Nat.reduceEqDiff, ↓reduceIte]; exact rfl)) (fun (i : Nat × Int) => [(3, I i.2), (11, I i.1)]) (fun (i : Nat × Int) => i.1 ≤ l.length ∧ zdv l = zdi (l.drop i.1) i.2) (fun (i : Nat × Int) => l.length - i.1) (0, 0) yS (by simp [zdv]; omega) (fun i B hI hB => ?_); try dsimp only at hI hB; simp only [zap, zau]
  repeat' (first | (with_reducible first | refine DS.fltS yU yU yE ?_ | refine DS.opsNil ?_ | refine DS.seq ?_ | refine DS.regionL ?_ | (refine DS.cE yE ?_; first | refine CG.np (fun _ => ?_) (fun _ => ?_) | refine CG.p (fun _ => ?_) (fun _ => ?_) | refine CG.yes ?_ | refine CG.no ?_) | (refine DS.gE yU yE ?_; first | refine GG.sU ?_ | refine GG.npT (fun _ => ?_) (fun _ => ?_) | refine GG.npF (fun _ => ?_) (fun _ => ?_) | refine GG.run ?_ | refine GG.sF ?_ | refine GG.sT ?_) | refine DS.blk ?_ | refine DS.block ?_ | refine DS.exit yU ?_ | refine DS.skip ?_) | (refine DS.letF (t := 5) yU yE yU (fun _ => by (simp (disch := omega) only [go_sem, dopV, Option.map_some, Option.map_none, Option.bind_some, Option.bind_none, ↓reduceIte, Nat.reduceEqDiff, Nat.reduceLT, Nat.reduceLeDiff, Nat.reduceAdd, Nat.reduceMul, Nat.reduceSub, Nat.zero_add, Nat.add_zero, Nat.zero_le, Nat.zero_mul, Nat.mul_one, Nat.one_mul, Int.natCast_zero, Int.toNat_zero, Int.reduceToNat, Int.reduceLT, Int.reduceLE, Int.reduceEq, decide_true, decide_false, true_and, and_true, Bool.and_self, Bool.and_true, Bool.true_and, Bool.not_true, Bool.not_false, IntWalk.toNatUp, IntWalk.iteOmega, IntWalk.i64_in, Option.isSome_some, not_true_eq_false, not_false_eq_true, Option.getD_some, Option.getD_none, Int.toNat_natCast, List.length_map, List.getElem?_map, List.getElem?_eq_getElem, V.flat, V.one, List.all_cons, List.all_nil, *]; exact rfl)) yE yU (by exact ⟨by with_unfolding_all rfl, by with_unfolding_all decide⟩) (fun _ => by simp only [go_sem, Nat.reduceEqDiff, ↓reduceIte]) ?_; simp only [go_sem]) | refine DS.pcS inferInstance (zhf _ _ _) yR yT ?_ | refine DS.retT [] yE trivial ?_ | fail)
  all_goals try first | (clear hB; obtain ⟨_, r, dr1, rfl, dr3⟩ := zcf (l := l) (i := i.1) (by omega); rw [dr1] at hI; rw [hI.2]; simp [tupV, zdi, *]; done) | (clear hB; have de1 := zdh (l := l) (i := i.1) (by omega); rw [de1] at hI; rw [hI.2]; simp [tupV, zdi, *]; done)
  · obtain ⟨_, r, dr1, rfl, dr3⟩ := zcf (l := l) (i := i.1) (by omega); rw [dr1] at hI
    exact DS.back (hB (i.1 + 1, l[i.1].id) _ _ (by simp; omega) (⟨by simp; omega, by rw [hI.2, dr3]; simp [zdi, *]⟩) yS yS (fun b o e => by first | exact e | (simp only [zaa]; split <;> simp_all)))
  · obtain ⟨_, r, dr1, rfl, dr3⟩ := zcf (l := l) (i := i.1) (by omega); rw [dr1] at hI
    exact DS.back (hB (i.1 + 1, l[i.1].id) _ _ (by simp; omega) (⟨by simp; omega, by rw [hI.2, dr3]; simp [zdi, *]⟩) yS yS (fun b o e => by first | exact e | (simp only [zaa]; split <;> simp_all)))
theorem zrk (c : Club) (hs : c.Small) (a b : Int) : PC Try.prog 74 [c.val, I a, I b] (Bo (zhd c a b)) := by
  have h1 := hs.rounds
  by_cases ha : 0 ≤ a ∧ a ≤ (c.rounds.length : Int) - 1
  · obtain ⟨i, rfl⟩ := Int.eq_ofNat_of_zero_le ha.1
    have hi : i < c.rounds.length := by omega
    have h2 := (hs.at hi).points
    rw [zjn hi]
    refine DC.of_run Try.func74 rfl Try.ntmps74 Try.results74 (by simp) (fun _ => ?_); simp only [zan, zas, go_sem, Nat.zero_add, Nat.reduceAdd]
    repeat' (first | (with_reducible first | refine DS.fltS yU yU yE ?_ | refine DS.opsNil ?_ | refine DS.seq ?_ | refine DS.regionL ?_ | (refine DS.gE yU yE ?_; first | refine GG.pT (fun _ => ?_) (fun _ => ?_) | refine GG.run ?_ | refine GG.sF ?_)) | refine DS.pcS inferInstance (zhf _ _ _) yR yT ?_ | (refine DS.boxF (t := 3) yU yE yU ?_; simp only [zbk, zcd, zbi, zbu, zbf, zaz, zbp, zbb, zca, zcc, zbq, zcb, zbt, zbs]) | refine DS.retT [] yE trivial ?_ | fail)
    · rename_i q1 q2
      have : b.toNat < c.rounds[i].points.length := by omega
      simp [tupV, List.getD_eq_getElem?_getD, *]
    · simp [tupV, *]
  · rw [znq ha]
    refine DC.of_run Try.func74 rfl Try.ntmps74 Try.results74 (by simp) (fun _ => ?_); simp only [zan, zas, go_sem, Nat.zero_add, Nat.reduceAdd]
    repeat' (first | (with_reducible first | refine DS.fltS yU yU yE ?_ | refine DS.opsNil ?_ | refine DS.seq ?_ | refine DS.regionL ?_ | (refine DS.gE yU yE ?_; refine GG.sF ?_)) | refine DS.pcS inferInstance (zhf _ _ _) yR yT ?_ | (refine DS.boxF (t := 3) yU yE yU ?_; simp only [zbk, zcd, zbi, zbu, zbf, zaz, zbp, zbb, zca, zcc, zbq, zcb, zbt, zbs]) | refine DS.retT [] yE trivial ?_ | fail)
    all_goals first | rfl | omega
theorem zrj (c : Club) (l : List Int) (h1 : c.size ≤ 4) (h2 : 0 ≤ c.size) (h3 : 0 ≤ c.start ∧ c.start ≤ 1000000) : PC Try.prog 118 [c.val, ints l] (I (zkd c l)) := by
  have h4 : 0 ≤ c.size * c.start := Int.mul_nonneg h2 h3.1
  have h5 : c.size * c.start ≤ 4 * 1000000 := Int.mul_le_mul h1 h3.2 h3.1 (by decide)
  rw [zkd]
  refine DC.of_run Try.func118 rfl Try.ntmps118 Try.results118 (by simp) (fun _ => ?_); simp only [zan, zas, go_sem, Nat.zero_add, Nat.reduceAdd]
  repeat' (first | (with_reducible first | refine DS.fltS yU yU yE ?_ | refine DS.opsNil ?_ | refine DS.seq ?_ | refine DS.regionL ?_) | refine DS.pcS inferInstance (ztm c l 1099511627776 (c.size * c.start) h1 (by decide) ⟨by omega, by omega⟩) yR yT ?_ | (refine DS.boxF (t := 2) yU yE yU ?_; simp only [zbk, zcd, zbi, zbu, zbf, zaz, zbp, zbb, zca, zcc, zbq, zcb, zbt, zbs]) | refine DS.retT [] yE trivial ?_ | fail)
  rfl
theorem index_pc (l : List Int) (n : Int) : PC Try.prog 108 [ints l, I n] (I (idxF (fun x => decide (x = n)) l 0)) := by
  refine DC.of_run Try.func108 rfl Try.ntmps108 Try.results108 (by simp) (fun _ => ?_); simp only [zan, zas, go_sem, Nat.zero_add, Nat.reduceAdd]
  refine DS.bnd (t := 0) yG (.inl rfl) (fun hb0 => ?_); simp only [List.length_map] at hb0
  repeat' (first | (with_reducible first | refine DS.fltS yU yU yE ?_ | refine DS.opsNil ?_ | refine DS.seq ?_ | refine DS.regionL ?_ | refine DS.block ?_) | fail)
  refine DS.loopK [0, 1, 7] (by (simp only [go_sem, Nat.reduceEqDiff, ↓reduceIte]; exact rfl)) (fun (i : Nat) => [(8, I i)]) (fun (i : Nat) => i ≤ l.length ∧ idxF (fun x => decide (x = n)) l 0 = idxF (fun x => decide (x = n)) (l.drop i) i) (fun (i : Nat) => l.length - i) 0 yS (by simp) (fun i B hI hB => ?_); try dsimp only at hI hB; simp only [zap, zau]
  repeat' (first | (with_reducible first | refine DS.fltS yU yU yE ?_ | refine DS.opsNil ?_ | refine DS.seq ?_ | refine DS.regionL ?_ | (refine DS.cE yE ?_; refine CG.p (fun _ => ?_) (fun _ => ?_)) | refine DS.blk ?_ | refine DS.block ?_ | refine DS.exit yU ?_ | refine DS.skip ?_) | refine DS.retT [] yE trivial ?_ | fail)
  · rename_i q1 q2
    rw [hI.2, zjq (p := fun x => decide (x = n)) (l := l) (i := i) (by omega) (decide_eq_true q2.symm)]; rfl
  · rename_i q1 q2
    exact DS.back (hB (i + 1) _ _ (by omega) (⟨by omega, by rw [hI.2, zhn (p := fun x => decide (x = n)) (l := l) (i := i) (by omega) (by simpa using fun h => q2 h.symm)]⟩) yS yS (fun b o e => by first | exact e | (simp only [zaa]; split <;> simp_all)))
  · rename_i q1
    rw [hI.2, zjr (p := fun x => decide (x = n)) (l := l) (i := i) (by omega)]; rfl
theorem zlh {α : Type} (p : α → Bool) (l : List α) : decide (0 ≤ idxF p l 0) = l.any p := by
  have key : ∀ (l : List α) (i : Nat), (0 ≤ idxF p l i) ↔ l.any p = true := by
    intro l
    induction l with
    | nil => intro i; simp [idxF]
    | cons x r ih =>
      intro i
      simp only [idxF, List.any_cons]
      by_cases h : p x = true
      · simp only [h, if_true, Bool.true_or, iff_true]; omega
      · rw [if_neg h, ih (i + 1)]; simp [h]
  cases h : l.any p with
  | true => exact decide_eq_true ((key l 0).2 h)
  | false => exact decide_eq_false (fun h' => by rw [(key l 0).1 h'] at h; cases h)
theorem contains_pc (l : List Int) (n : Int) : PC Try.prog 117 [ints l, I n] (Bo (decide (n ∈ l))) := by
  refine DC.of_run Try.func117 rfl Try.ntmps117 Try.results117 (by simp) (fun _ => ?_); simp only [zan, zas, go_sem, Nat.zero_add, Nat.reduceAdd]
  repeat' (first | (with_reducible first | refine DS.fltS yU yU yE ?_ | refine DS.opsNil ?_ | refine DS.seq ?_ | refine DS.regionL ?_) | refine DS.pcS inferInstance (index_pc l n) yR yT ?_ | refine DS.retT [] yE trivial ?_ | fail)
  rw [zec, zlh]
  simp [List.any_eq]
theorem zvl {c : Club} {r e : Int} (h : zfg c r = e) (h2 : e ≠ 0) : zhz c r = e := by rw [zhz, if_pos (by rw [h]; exact h2), h]
theorem zvk {c : Club} {r : Int} (h : zfg c r = 0) : zhz c r = zev c r := by rw [zhz, if_neg (by rw [h]; decide)]
theorem rest_pc (c : Club) (hs : c.Small) (h1 : c.size ≤ 4) (h2 : 0 ≤ c.size) (h3 : 0 ≤ c.start ∧ c.start ≤ 1000000) (h4 : 0 ≤ c.window ∧ c.window ≤ 20) {i : Nat} (hi : i < c.rounds.length) (h5 : c.rounds.length ≤ 20) : PC Try.prog 93 [c.val, I i] (I (zhz c i)) := by
  have q1 := hs.rounds
  have q2 := hs.at hi
  have q3 := q2.points
  have q4 := q2.tables
  have q5 := q2.rulings
  refine DC.of_run Try.func93 rfl Try.ntmps93 Try.results93 (by simp) (fun _ => ?_); simp only [zan, zas, go_sem, Nat.zero_add, Nat.reduceAdd]
  repeat' (first | (with_reducible first | refine DS.fltS yU yU yE ?_ | refine DS.opsNil ?_ | refine DS.seq ?_ | refine DS.regionL ?_ | (refine DS.cE yE ?_; refine CG.np (fun _ => ?_) (fun _ => ?_)) | refine DS.block ?_ | refine DS.skip ?_) | (refine DS.letF (t := 5) yU yE yU (fun _ => by (simp (disch := omega) only [go_sem, dopV, Option.map_some, Option.map_none, Option.bind_some, Option.bind_none, ↓reduceIte, Nat.reduceEqDiff, Nat.reduceLT, Nat.reduceLeDiff, Nat.reduceAdd, Nat.reduceMul, Nat.reduceSub, Nat.zero_add, Nat.add_zero, Nat.zero_le, Nat.zero_mul, Nat.mul_one, Nat.one_mul, Int.natCast_zero, Int.toNat_zero, Int.reduceToNat, Int.reduceLT, Int.reduceLE, Int.reduceEq, decide_true, decide_false, true_and, and_true, Bool.and_self, Bool.and_true, Bool.true_and, Bool.not_true, Bool.not_false, IntWalk.toNatUp, IntWalk.iteOmega, IntWalk.i64_in, Option.isSome_some, not_true_eq_false, not_false_eq_true, Option.getD_some, Option.getD_none, Int.toNat_natCast, List.length_map, List.getElem?_map, List.getElem?_eq_getElem, V.flat, V.one, List.all_cons, List.all_nil, *]; exact rfl)) yE yU (by exact ⟨by with_unfolding_all rfl, by with_unfolding_all decide⟩) (fun _ => by simp only [go_sem, Nat.reduceEqDiff, ↓reduceIte]) ?_; simp only [go_sem]) | (refine DS.boxF (t := 2) yU yE yU ?_; simp only [zbk, zcd, zbi, zbu, zbf, zaz, zbp, zbb, zca, zcc, zbq, zcb, zbt, zbs]) | refine DS.retT [] yE trivial ?_ | fail)
  · rename_i q
    rw [zvl (e := 3) (by rw [zfg, c.round_at hi, if_pos (by omega)]) (by decide)]; rfl
  rename_i q
  have hps : zfg c i = zee c c.rounds[i].points := by rw [zfg, c.round_at hi, if_neg (by omega)]
  have hrs : c.rounds[i].rulings.length ≤ 20 → zev c i = zdr c i c.rounds[i].rulings := fun h => by rw [zev, c.round_at hi, if_neg (by omega)]
  refine DS.loopK [1, 2, 5, 25, 26] (by (simp only [go_sem, Nat.reduceEqDiff, ↓reduceIte]; exact rfl)) (fun (k : Nat) => [(27, I k)]) (fun (k : Nat) => k ≤ c.rounds[i].points.length ∧ zee c c.rounds[i].points = zee c (c.rounds[i].points.drop k)) (fun (k : Nat) => c.rounds[i].points.length - k) 0 yS ⟨Nat.zero_le _, rfl⟩ (fun k B hI hB => ?_); try dsimp only at hI hB; simp only [zap, zau]
  repeat' (first | (with_reducible first | refine DS.fltS yU yU yE ?_ | refine DS.opsNil ?_ | refine DS.seq ?_ | refine DS.regionL ?_ | (refine DS.cE yE ?_; first | refine CG.np (fun _ => ?_) (fun _ => ?_) | refine CG.p (fun _ => ?_) (fun _ => ?_) | refine CG.no ?_) | (refine DS.gE yU yE ?_; first | refine GG.pT (fun _ => ?_) (fun _ => ?_) | refine GG.run ?_ | refine GG.sF ?_) | refine DS.blk ?_ | refine DS.block ?_ | refine DS.exit yU ?_ | refine DS.skip ?_) | refine DS.pcS inferInstance (zrj c _ h1 h2 h3) yR yT ?_ | refine DS.retT [] yE trivial ?_ | fail)
  · rename_i e1 e2 e3
    obtain ⟨_, r, dr1, rfl, dr3⟩ := zcf (l := c.rounds[i].points) (i := k) (by omega); rw [dr1] at hI
    rw [zvl (hps.trans (hI.2.trans (by rw [zee, if_neg (by omega), if_pos e3]))) e3]; rfl
  · rename_i e1 e2 e3
    obtain ⟨_, r, dr1, rfl, dr3⟩ := zcf (l := c.rounds[i].points) (i := k) (by omega); rw [dr1] at hI
    exact DS.back (hB (k + 1) _ _ (by omega) (⟨by omega, by rw [hI.2, dr3, zee, if_neg (by omega), if_neg (by omega)]⟩) yS yS (fun b o e => by first | exact e | (simp only [zaa]; split <;> simp_all)))
  · rename_i e1 e2
    obtain ⟨_, r, dr1, rfl, dr3⟩ := zcf (l := c.rounds[i].points) (i := k) (by omega); rw [dr1] at hI
    exact DS.back (hB (k + 1) _ _ (by omega) (⟨by omega, by rw [hI.2, dr3, zee, if_pos (by omega)]⟩) yS yS (fun b o e => by first | exact e | (simp only [zaa]; split <;> simp_all)))
  · rename_i e1 e2
    have de1 := zdh (l := c.rounds[i].points) (i := k) (by omega); rw [de1] at hI
    rw [zvk (hps.trans hI.2), zev, c.round_at hi, if_pos (by omega)]; rfl
  · rename_i e1 e2
    have de1 := zdh (l := c.rounds[i].points) (i := k) (by omega); rw [de1] at hI
    have hr := (zvk (hps.trans hI.2)).trans (hrs (by omega))
    clear hps hrs hI hB
    rw [hr]
    clear hr
    refine DS.loopK [1, 2, 48, 49] (by (simp only [go_sem, Nat.reduceEqDiff, ↓reduceIte]; exact rfl)) (fun (k : Nat) => [(50, I k)]) (fun (k : Nat) => k ≤ c.rounds[i].rulings.length ∧ zdr c i c.rounds[i].rulings = zdr c i (c.rounds[i].rulings.drop k)) (fun (k : Nat) => c.rounds[i].rulings.length - k) 0 yS ⟨Nat.zero_le _, rfl⟩ (fun k B hI hB => ?_); try dsimp only at hI hB; simp only [zap, zau]
    repeat' (first | (with_reducible first | refine DS.fltS yU yU yE ?_ | refine DS.opsNil ?_ | refine DS.seq ?_ | refine DS.regionL ?_ | (refine DS.cE yE ?_; first | refine CG.np (fun _ => ?_) (fun _ => ?_) | refine CG.p (fun _ => ?_) (fun _ => ?_) | refine CG.nb (fun _ => ?_) (fun _ => ?_)) | refine DS.blk ?_ | refine DS.block ?_ | refine DS.exit yU ?_ | refine DS.skip ?_) | (refine DS.letF (t := 10) yU yE yU (fun _ => by (simp (disch := omega) only [go_sem, dopV, Option.map_some, Option.map_none, Option.bind_some, Option.bind_none, ↓reduceIte, Nat.reduceEqDiff, Nat.reduceLT, Nat.reduceLeDiff, Nat.reduceAdd, Nat.reduceMul, Nat.reduceSub, Nat.zero_add, Nat.add_zero, Nat.zero_le, Nat.zero_mul, Nat.mul_one, Nat.one_mul, Int.natCast_zero, Int.toNat_zero, Int.reduceToNat, Int.reduceLT, Int.reduceLE, Int.reduceEq, decide_true, decide_false, true_and, and_true, Bool.and_self, Bool.and_true, Bool.true_and, Bool.not_true, Bool.not_false, IntWalk.toNatUp, IntWalk.iteOmega, IntWalk.i64_in, Option.isSome_some, not_true_eq_false, not_false_eq_true, Option.getD_some, Option.getD_none, Int.toNat_natCast, List.length_map, List.getElem?_map, List.getElem?_eq_getElem, V.flat, V.one, List.all_cons, List.all_nil, *]; exact rfl)) yE yU (by exact ⟨by with_unfolding_all rfl, by with_unfolding_all decide⟩) (fun _ => by simp only [go_sem, Nat.reduceEqDiff, ↓reduceIte]) ?_; simp only [go_sem]) | refine DS.pcS inferInstance (zhf _ _ _) yR yT ?_ | refine DS.pcS inferInstance (zrj c _ h1 h2 h3) yR yT ?_ | refine DS.pcS inferInstance (zrk c hs _ _) yR yT ?_ | refine DS.retT [] yE trivial ?_ | fail)
    · rename_i e1 e2 e3
      obtain ⟨_, r, dr1, rfl, dr3⟩ := zcf (l := c.rounds[i].rulings) (i := k) (by omega); rw [dr1] at hI
      rw [hI.2, zdr, if_pos (by omega)]; rfl
    · rename_i e1 e2 e3 e4
      obtain ⟨_, r, dr1, rfl, dr3⟩ := zcf (l := c.rounds[i].rulings) (i := k) (by omega); rw [dr1] at hI
      rw [hI.2, zdr, if_neg (by omega), if_pos e4]; rfl
    · rename_i e1 e2 e3 e4 e5
      obtain ⟨_, r, dr1, rfl, dr3⟩ := zcf (l := c.rounds[i].rulings) (i := k) (by omega); rw [dr1] at hI
      rw [hI.2, zdr, if_neg (by omega), if_neg (by simp [e4]), if_pos e5]; rfl
    · rename_i e1 e2 e3 e4 e5
      obtain ⟨_, r, dr1, rfl, dr3⟩ := zcf (l := c.rounds[i].rulings) (i := k) (by omega); rw [dr1] at hI
      exact DS.back (hB (k + 1) _ _ (by omega) (⟨by omega, by rw [hI.2, dr3, zdr, if_neg (by omega), if_neg (by simp [e4]), if_neg (by omega)]⟩) yS yS (fun b o e => by first | exact e | (simp only [zaa]; split <;> simp_all)))
    · rename_i e1 e2
      have de1 := zdh (l := c.rounds[i].rulings) (i := k) (by omega); rw [de1] at hI
      rw [hI.2]; rfl
theorem indexFuncI_rc (S : Sto) (l : List Int) {g : FuncId} {fs cs : List V} {fn : Func} (p : Int → Bool) (hf : FnOk Try.prog g fn) (h : ∀ x, RC Try.prog g (fs ++ [I x] ++ cs) S (Bo (p x))) :
    RC Try.prog 135 [ints l, .fn g fs cs] S (I (idxF p l 0)) := by
  refine DC.of_run Try.func135 rfl Try.ntmps135 Try.results135 (by simp) (fun _ => ?_); simp only [zan, zas, go_sem, Nat.zero_add, Nat.reduceAdd]
  refine DS.bnd (t := 0) yG (.inl rfl) (fun hb0 => ?_); simp only [List.length_map] at hb0
  repeat' (first | (with_reducible first | refine DS.fltS yU yU yE ?_ | refine DS.opsNil ?_ | refine DS.seq ?_ | refine DS.regionL ?_ | refine DS.block ?_) | fail)
  refine DS.loopK [0, 1, 7] (by (simp only [go_sem, Nat.reduceEqDiff, ↓reduceIte]; exact rfl)) (fun (i : Nat) => [(8, I i)]) (fun (i : Nat) => i ≤ l.length ∧ idxF p l 0 = idxF p (l.drop i) i) (fun (i : Nat) => l.length - i) 0 yS ⟨Nat.zero_le _, rfl⟩ (fun i B hI hB => ?_); try dsimp only at hI hB; simp only [zap, zau]
  repeat' (first | (with_reducible first | refine DS.fltS yU yU yE ?_ | refine DS.opsNil ?_ | refine DS.seq ?_ | refine DS.regionL ?_ | (refine DS.cE yE ?_; refine CG.p (fun _ => ?_) (fun _ => ?_)) | refine DS.block ?_ | refine DS.exit yU ?_ | refine DS.skip ?_) | refine DS.retA yE ⟨?_, rfl⟩ | fail)
  · refine DS.rcVS hf (by simp (disch := omega) only [go_sem, dopV, Option.map_some, Option.map_none, Option.bind_some, Option.bind_none, ↓reduceIte, Nat.reduceEqDiff, Nat.reduceLT, Nat.reduceLeDiff, Nat.reduceAdd, Nat.reduceMul, Nat.reduceSub, Nat.zero_add, Nat.add_zero, Nat.zero_le, Nat.zero_mul, Nat.mul_one, Nat.one_mul, Int.natCast_zero, Int.toNat_zero, Int.reduceToNat, Int.reduceLT, Int.reduceLE, Int.reduceEq, decide_true, decide_false, true_and, and_true, Bool.and_self, Bool.and_true, Bool.true_and, Bool.not_true, Bool.not_false, IntWalk.toNatUp, IntWalk.iteOmega, IntWalk.i64_in, Option.isSome_some, not_true_eq_false, not_false_eq_true, Option.getD_some, Option.getD_none, Int.toNat_natCast, List.length_map, List.getElem?_map, List.getElem?_eq_getElem, V.flat, V.one, List.all_cons, List.all_nil]) (h l[i]) yR yH ?_
    repeat' (first | (with_reducible first | refine DS.fltS yU yU yE ?_ | refine DS.opsNil ?_ | refine DS.seq ?_ | refine DS.regionL ?_ | (refine DS.cE yE ?_; refine CG.b (fun _ => ?_) (fun _ => ?_)) | refine DS.blk ?_ | refine DS.skip ?_) | refine DS.retA yE ⟨?_, rfl⟩ | fail)
    · rename_i h1 h2
      rw [hI.2, zjq (p := p) (l := l) (i := i) (by omega) h2]; rfl
    · rename_i h1 h2
      exact DS.back (hB (i + 1) _ _ (by omega) (⟨by omega, by rw [hI.2, zhn (by omega) h2]⟩) yS yS (fun b o e => by first | exact e | (simp only [zaa]; split <;> simp_all)))
  · rw [hI.2, zjr (p := p) (l := l) (i := i) (by omega)]; rfl
theorem containsFunc_rc (S : Sto) (l : List Int) {g : FuncId} {fs cs : List V} {fn : Func} (p : Int → Bool) (hf : FnOk Try.prog g fn) (h : ∀ x, RC Try.prog g (fs ++ [I x] ++ cs) S (Bo (p x))) :
    RC Try.prog 115 [ints l, .fn g fs cs] S (Bo (l.any p)) := by
  refine DC.of_run Try.func115 rfl Try.ntmps115 Try.results115 (by simp) (fun _ => ?_); simp only [zan, zas, go_sem, Nat.zero_add, Nat.reduceAdd]
  repeat' (first | (with_reducible first | refine DS.fltS yU yU yE ?_ | refine DS.opsNil ?_ | refine DS.seq ?_ | refine DS.regionL ?_) | refine DS.rcS inferInstance (indexFuncI_rc S l p hf h) yR yT ?_ | refine DS.retA yE ⟨?_, rfl⟩ | fail)
  rw [zec, zlh]
abbrev GR.Int (g : GR) (l : List Int) : Prop := g.l = l.map cI
theorem zmd : ∀ l : List Int, (l.map cI).flatten = l.map fun x => I x
  | [] => rfl
  | x :: r => by rw [List.map_cons, List.flatten_cons, zmd r]; rfl
theorem yX9 {p : Prop} (h : p := by (simp (disch := omega) only [go_sem, dopV, Option.map_some, Option.map_none, Option.bind_some, Option.bind_none, ↓reduceIte, Nat.reduceEqDiff, Nat.reduceLT, Nat.reduceLeDiff, Nat.reduceAdd, Nat.reduceMul, Nat.reduceSub, Nat.zero_add, Nat.add_zero, Nat.zero_le, Nat.zero_mul, Nat.mul_one, Nat.one_mul, Int.natCast_zero, Int.toNat_zero, Int.reduceToNat, Int.reduceLT, Int.reduceLE, Int.reduceEq, decide_true, decide_false, true_and, and_true, Bool.and_self, Bool.and_true, Bool.true_and, Bool.not_true, Bool.not_false, IntWalk.toNatUp, IntWalk.iteOmega, IntWalk.i64_in, Option.isSome_some, not_true_eq_false, not_false_eq_true, Option.getD_some, Option.getD_none, Int.toNat_natCast, List.length_map, List.getElem?_map, List.getElem?_eq_getElem, V.flat, V.one, List.all_cons, List.all_nil, *, zmc]; exact rfl)) : p := h
theorem index_rc (S : Sto) (g : GR) (l : List Int) (n : Int) (ok : g.Ok 3 1 S) (hg : g.l = l.map cI) : RC Try.prog 108 [g.cell.peek, I n] S (I (idxF (fun x => decide (x = n)) l 0)) := by
  obtain ⟨gl, blk⟩ := g
  dsimp only at hg
  subst hg
  cases blk with
  | none =>
    simp only [GR.Ok, List.map_eq_nil_iff] at ok
    subst ok
    simp only [GR.cell, zql]
    refine DC.of_run Try.func108 rfl Try.ntmps108 Try.results108 (by simp) (fun _ => ?_); simp only [zan, zas, go_sem, Nat.zero_add, Nat.reduceAdd]
    repeat' (first | (with_reducible first | refine DS.fltS yU yU yE ?_ | refine DS.opsNil ?_ | refine DS.seq ?_ | refine DS.regionL ?_ | refine DS.block ?_) | fail)
    refine DS.loopK [0, 1, 7] (by (simp only [go_sem, Nat.reduceEqDiff, ↓reduceIte]; exact rfl)) (fun (i : Nat) => [(8, I 0)]) (fun (i : Nat) => True) (fun (i : Nat) => i) 0 yS trivial (fun i B hI hB => ?_); try dsimp only at hI hB; simp only [zap, zau]
    repeat' (first | (with_reducible first | refine DS.fltS yU yU yE ?_ | refine DS.opsNil ?_ | refine DS.seq ?_ | refine DS.regionL ?_ | (refine DS.cE yE ?_; refine CG.no ?_) | refine DS.exit yU ?_) | refine DS.retA yE ⟨?_, rfl⟩ | fail)
    rfl
  | some x =>
    obtain ⟨b, cap, j⟩ := x
    have k1 := ok.look
    have k2 := ok.le
    have k3 := ok.cap
    have hfl := zmd l
    rw [hfl] at k1
    clear hfl ok
    simp only [List.length_map] at k2
    simp only [maxLen] at k3
    simp only [GR.cell, zjo, List.length_map]
    refine DC.of_run Try.func108 rfl Try.ntmps108 Try.results108 (by simp) (fun _ => ?_); simp only [zan, zas, go_sem, Nat.zero_add, Nat.reduceAdd]
    repeat' (first | (with_reducible first | refine DS.fltS yU yU yE ?_ | refine DS.opsNil ?_ | refine DS.seq ?_ | refine DS.regionL ?_ | refine DS.block ?_) | fail)
    refine DS.loopK [0, 1, 7] (by (simp only [go_sem, Nat.reduceEqDiff, ↓reduceIte]; exact rfl)) (fun (i : Nat) => [(8, I i)]) (fun (i : Nat) => i ≤ l.length ∧ idxF (fun x => decide (x = n)) l 0 = idxF (fun x => decide (x = n)) (l.drop i) i) (fun (i : Nat) => l.length - i) 0 yS ⟨Nat.zero_le _, rfl⟩ (fun i B hI hB => ?_); try dsimp only at hI hB; simp only [zap, zau]
    repeat' (first | (with_reducible first | refine DS.fltS yU yU yX9 ?_ | refine DS.opsNil ?_ | refine DS.seq ?_ | refine DS.regionL ?_) | (with_reducible refine DS.cE yX9 ?_; with_reducible refine CG.p (fun _ => ?_) (fun _ => ?_)) | (with_reducible first | refine DS.blk ?_ | refine DS.block ?_ | refine DS.exit yU ?_ | refine DS.skip ?_) | refine DS.retA yX9 ⟨?_, rfl⟩ | fail)
    · rename_i q1 q2
      rw [hI.2, zjq (p := fun x => decide (x = n)) (l := l) (i := i) (by omega) (decide_eq_true q2.symm)]; rfl
    · rename_i q1 q2
      exact DS.back (hB (i + 1) _ _ (by omega) (⟨by omega, by rw [hI.2, zhn (p := fun x => decide (x = n)) (l := l) (i := i) (by omega) (by simpa using fun h => q2 h.symm)]⟩) yS yS (fun b o e => by first | exact e | (simp only [zaa]; split <;> simp_all)))
    · rename_i q1
      rw [hI.2, zjr (p := fun x => decide (x = n)) (l := l) (i := i) (by omega)]; rfl
theorem contains_rc (S : Sto) (g : GR) (l : List Int) (n : Int) (ok : g.Ok 3 1 S) (hg : g.l = l.map cI) : RC Try.prog 117 [g.cell.peek, I n] S (Bo (decide (n ∈ l))) := by
  have h := index_rc S g l n ok hg
  clear ok hg
  obtain ⟨gl, blk⟩ := g
  cases blk with
  | none =>
    simp only [GR.cell, zql] at h ⊢
    refine DC.of_run Try.func117 rfl Try.ntmps117 Try.results117 (by simp) (fun _ => ?_); simp only [zan, zas, go_sem, Nat.zero_add, Nat.reduceAdd]
    repeat' (first | (with_reducible first | refine DS.fltS yU yU yE ?_ | refine DS.opsNil ?_ | refine DS.seq ?_ | refine DS.regionL ?_) | refine DS.rcS inferInstance (h) yR yT ?_ | refine DS.retA yE ⟨?_, rfl⟩ | fail)
    rw [zec, zlh]
    simp [List.any_eq]
  | some x =>
    obtain ⟨b, cap, j⟩ := x
    simp only [GR.cell, zjo] at h ⊢
    refine DC.of_run Try.func117 rfl Try.ntmps117 Try.results117 (by simp) (fun _ => ?_); simp only [zan, zas, go_sem, Nat.zero_add, Nat.reduceAdd]
    repeat' (first | (with_reducible first | refine DS.fltS yU yU yE ?_ | refine DS.opsNil ?_ | refine DS.seq ?_ | refine DS.regionL ?_) | refine DS.rcS inferInstance (h) yR yT ?_ | refine DS.retA yE ⟨?_, rfl⟩ | fail)
    rw [zec, zlh]
    simp [List.any_eq]
end Go.XL
