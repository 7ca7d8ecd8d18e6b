/- A part of a program logic over the kit's walk rules, and contracts of functions in it. Conditions: as each theorem says. -/
import Derived.Test.YtdkmlmmelehcbaaS7
import Derived.Laws.StructEq
set_option linter.all false
namespace Go.XL
section
variable {P : Program} {n : Nat} {r : Rr} {Q : VEnv → Sto → Prop} {k : List Fr} {E0 E : VEnv} {S : Sto}
theorem zhm {K0 : Bs} {W : World} : ∀ (k : List Fr) (c : List PanicEntry) (a : Act) (w : World), ¬ ksem P n r K0 W Q k (.panic c) a w
  | [], c, a, w, h => h
  | .code _ :: k, c, a, w, h => zhm k c a w h
  | .ops _ _ :: k, c, a, w, h => zhm k c a w h
  | .blk _ :: k, c, a, w, h => zhm k c a w h
  | .back _ :: k, c, a, w, h => zhm k c a w h
  | .rnd _ :: k, c, a, w, h => h
def PreE (os : Array Oper) (n : Nat) : List Nat → VEnv → VEnv → Prop
  | [], E, E' => E' = E
  | p :: l, E, E' => ∃ t x ty pos af v, os[p]? = some ⟨some t, .move x, ty, pos, af, none⟩ ∧ decide (t < n) = true ∧ evV E x = some v ∧ PreE os n l ((t, v.copy) :: E) E'
theorem PreE.run {os : Array Oper} {D : List Deferred} {K : Bs} {hv : VH} {hold : Nat → Option Hd} {h : Heap} : ∀ {pre : List Nat} {E E' : VEnv} {env : Env} {a : Act}, PreE os n pre E E' → Agree D n env a → St K hv hold E S env h →
    ∃ env' a', zvc P os pre a a' ∧ Agree D n env' a' ∧ St K hv hold E' S env' h
  | [], E, E', env, a, hp, ha, s => by
    have e : E' = E := hp
    subst e
    exact ⟨env, a, rfl, ha, s⟩
  | p :: l, E, E', env, a, hp, ha, s => by
    obtain ⟨t, x, ty, pos, af, v, ho, hd, hx, hp⟩ := hp
    have hdv : dopV P [] (evV E) (.move x) = some v.copy := by simp [dopV, hx]
    obtain ⟨y, h2, h3⟩ := zjc (S := []) s.pre (fun _ _ e => by cases e) s.rl hdv
    have run : ∀ w : World, (execOp a.eval ⟨some t, .move x, ty, pos, af, none⟩).run P w = .ok (.value y) w := fun w => zhg ha (zpz rfl h2)
    have hd' : dok n (some t) = true := hd
    obtain ⟨env', a', h4, h5, h6⟩ := PreE.run hp (ha.put' hd' y) (s.put (some t) h3 fun _ _ => V.free_Own (zlq hdv) y)
    exact ⟨env', a', ⟨_, y, ho, ⟨.inl ⟨rfl, run⟩, fun w => rfl⟩, h4⟩, h5, h6⟩
theorem DS.drawP {id : Nat} {os : Array Oper} (S0 S1 : Sto) (pre ord : List Nat) (m : Nat) {E' : VEnv} (hr : r.rd = none) (hok : zol os pre ord m = true) (hnd : pre.Nodup) (hm : P.follows .mixedOrders = true) (h0 : ∀ b o, zab S0 b = some o → zab S b = some o ∧ zab S1 b = none) (h1 : ∀ b o, zab S1 b = some o → zab S b = some o)
    (hpre : PreE os n pre E E') (q : DD P n r Q os.toList S0 [] (ord.filterMap (os[·]?)) (.ops os.toList (os.toList.drop m) :: k) E' E' S1) : DS P n r Q (.code (.region id os true) :: k) E S := fun K W a w ⟨K', D, hv, hold, env, hb, ha, s⟩ hw => by
  have s0 : St K' hv hold E (S1 ++ S0) env w.heap := s.weaken (fun _ _ e => e) fun b o e => by
    rw [zby] at e
    cases e1 : zab S1 b with
    | some o' => rw [e1] at e; cases e; exact h1 b _ e1
    | none => rw [e1] at e; exact (h0 b o e).1
  obtain ⟨env', a', hpr, ha', s'⟩ := PreE.run (P := P) hpre ha s0
  obtain ⟨-, -, s2⟩ := PreE.run (P := P) hpre ha s
  have hR : ∀ (F : Nat → Prop) h1, RunS P [] D n K' hv w.heap S0 E' S1 a' F h1 → RunS P [] D n K' hv w.heap S0 E' S1 a' F h1 := fun _ _ h => h
  have start : RunS P [] D n K' hv w.heap S0 E' S1 a' noF w.heap := ⟨fun b hb => hb.elim, ⟨Nat.le_refl _, MpOk.nil⟩, hv, hold, env', ha', s', PreV.refl hv, fun b hb => hb.elim, fun b o e => ⟨rfl, (h0 b o e).2, Ob.lt (s.obj b o (h0 b o e).1).2.2⟩⟩
  show (Code.region id os true).wpIn (FW r.rd) 0 P (ksem P n r K W Q k) a w
  rw [hr]
  refine wp_drawP (m := m) (pre := pre) (ord := ord) (a' := a') (Rd := RdOf P [] hv w.heap S0) (W := W) (K := fun a' S' => ∀ w', S' noF w'.heap → Same W w' → ksem P n r K W Q (.ops os.toList (os.toList.drop m) :: k) .normal a' w') hm hok hnd (fun c a w => zhm k c a w) hpr start (RunS.good P [] D n K' hv w.heap S0 E' S1 a') hw
    (fun a' S' w' hK _ hS hsame => by have := hK w' hS hsame; simpa [ksem, hr] using this) ?_
  have := q K K' D W hv w.heap a' _ hb (hb.floor s) ⟨env', ha', fun t v e => let ⟨y, a, b, _⟩ := s'.slot t v e; ⟨y, a, b⟩⟩ s.pre (fun b o e => let ⟨_, r2, r3⟩ := s.obj b o (h0 b o e).1; ⟨r2, Ob.lt r3, Ob.Real.rd r3⟩) s.base.2.1 ⟨w, hw, start⟩ hR
  simpa using this
theorem DS.drawPL {id : Nat} {os l1 l2 : List Oper} (S0 S1 : Sto) (pre ord : List Nat) (m : Nat) {E' : VEnv} (hr : r.rd = none) (hok : zol os.toArray pre ord m = true) (hnd : pre.Nodup) (hm : P.follows .mixedOrders = true) (h0 : ∀ b o, zab S0 b = some o → zab S b = some o ∧ zab S1 b = none) (h1 : ∀ b o, zab S1 b = some o → zab S b = some o)
    (hpre : PreE os.toArray n pre E E') (k1 : zma os ord = l1) (k2 : os.drop m = l2) (q : DD P n r Q os S0 [] l1 (.ops os l2 :: k) E' E' S1) : DS P n r Q (.code (.region id os.toArray true) :: k) E S :=
  DS.drawP S0 S1 pre ord m hr hok hnd hm h0 h1 hpre (by rw [zlb, k1]; simpa [k2] using q)
end
end Go.XL
namespace Go.XL
open Go.Proofs
set_option maxRecDepth 100000
set_option maxHeartbeats 8000000
theorem zlr {sz : Nat} : ∀ (n : Nat) (L : List V) (R : List (List V)), R.length = n → (∀ (k : Nat) (h : k < R.length), (L.drop (k * sz)).take sz = R[k]) → chunk sz n L = R
  | 0, L, R, hl, _ => by
    obtain rfl := List.eq_nil_of_length_eq_zero hl
    rfl
  | n + 1, L, [], hl, _ => by cases hl
  | n + 1, L, c :: R, hl, h => by
    have h0 := h 0 (by simp)
    rw [Nat.zero_mul, List.drop_zero, List.getElem_cons_zero] at h0
    have h1 := zlr n (L.drop sz) R (by simpa using hl) fun k hk => by
      have h2 := h (k + 1) (by simpa using hk)
      rw [List.getElem_cons_succ] at h2
      rw [List.drop_drop, ← h2]
      congr 2
      rw [Nat.succ_mul]; omega
    rw [chunk, h0, h1]
theorem PC.peek {P : Program} {f : FuncId} {args : List V} {v : V} (h : PC P f args v) : PC P f args v.peek := by
  intro v0 K hv hold hp xs hx ha s
  refine (h v0 K hv hold hp xs hx ha s).mono ?_
  rintro y h' ⟨u, S', hv', hold', p, st, rfl⟩
  refine ⟨u.peek, S', hv', hold', p, ⟨st.pre, fun t w e => ?_, st.obj, st.held, st.base, st.vbase⟩, rfl⟩
  rw [zad] at e
  split at e
  · rename_i ht
    cases e
    obtain ⟨z, h1, h2, -⟩ := st.slot t u (by rw [zad, if_pos ht])
    exact ⟨z, h1, V.peek_Rl h2, V.free_Own (zdc u) z⟩
  · cases e
theorem zwg (l : List (List Int)) : (l.map cR).flatten = l.map fun t => ints t := by
  induction l with
  | nil => rfl
  | cons a r ih => rw [List.map_cons, List.flatten_cons, ih]; rfl
theorem ztt {l : List (List Int)} {L : List V} {i k : Nat} {hk : k < l.length} {hi : i < l.length} {m : Bool} {T s : Nat} (hl : i < L.length) (h : L[k]? = some (ints l[k])) :
    ((L.set i (.own m T s (l[i].map cI))).map V.peek)[k]? = some (ints l[k]) := by
  rw [List.getElem?_map, List.getElem?_set]
  split
  · rename_i e
    subst e
    first | rfl | (rw [if_pos hl]; rfl)
  · rw [h]; rfl
theorem zqq (l : List (List Int)) (hl : l.length ≤ 1000000) (hr : ∀ t ∈ l, t.length ≤ 1000000) : PC Try.prog 52 [rows l] (rows l) := by
  by_cases h0 : l = []
  · subst h0
    have h : PC Try.prog 52 [rows []] (.own false 22 1 []) := by
      refine DC.of_run Try.func52 rfl Try.ntmps52 Try.results52 (by simp) (fun _ => ?_); simp only [zan, zas, go_sem, Nat.zero_add, Nat.reduceAdd]
      repeat' (first | with_reducible (refine DS.nilOwn (t := 2) yU (by first | exact .inl rfl | exact .inr rfl) yE ?_) | (with_reducible refine DS.mv (t := 3) yU (by first | exact .inl rfl | exact .inr rfl) yE ?_; simp only [zak, zac, zad, Nat.reduceEqDiff, ↓reduceIte, zag, zah, zao, zaf, zae, zal, zai]) | (with_reducible first | refine DS.fltS yU yU yE ?_ | refine DS.opsNil ?_ | refine DS.seq ?_ | refine DS.regionL ?_ | refine DS.block ?_) | (refine DS.append (mm := false) yU yE yE yU (by decide) yE (by first | exact .inl rfl | exact .inr ⟨rfl, rfl⟩) yE yX0 (by first | exact zar zcu _ | exact zar zdm _ | exact zar Member.len _ | exact zar Sitting.len _ | exact zar Ruling.len _ | (simp only [List.mem_cons, List.not_mem_nil, or_false, forall_eq]; rfl) | simp) ⟨by (try simp only [List.length_map, List.length_cons, List.length_nil, List.length_append, List.length_take, List.length_drop]); omega, by decide⟩ ?_; simp only [zak, zac, zad, Nat.reduceEqDiff, ↓reduceIte, zag, zah, zao, zaf, zae, zal, zai]) | fail)
      refine DS.loopK [3] (by (simp only [go_sem, Nat.reduceEqDiff, ↓reduceIte]; exact rfl)) (fun (y : Nat) => [(4, I y)]) (fun (y : Nat) => y = 0) (fun (y : Nat) => y) 0 yS rfl (fun y B hI hB => ?_); try dsimp only at hI hB; simp only [zap, zau]
      subst hI
      repeat' (first | (with_reducible refine DS.mv (t := 2) yU (by first | exact .inl rfl | exact .inr rfl) yE ?_; simp only [zak, zac, zad, Nat.reduceEqDiff, ↓reduceIte, zag, zah, zao, zaf, zae, zal, zai]) | (with_reducible refine DS.mv (t := 21) yU (by first | exact .inl rfl | exact .inr rfl) yE ?_; simp only [zak, zac, zad, Nat.reduceEqDiff, ↓reduceIte, zag, zah, zao, zaf, zae, zal, zai]) | (with_reducible first | refine DS.fltS yU yU yE ?_ | refine DS.opsNil ?_ | refine DS.seq ?_ | refine DS.regionL ?_ | (refine DS.cE yE ?_; refine CG.no ?_) | refine DS.exit yU ?_) | refine DS.retT [] yE trivial ?_ | fail)
      rfl
    exact h.peek
  have hpos : 0 < l.length := List.length_pos_iff.2 h0
  refine DC.of_run Try.func52 rfl Try.ntmps52 Try.results52 (by simp) (fun _ => ?_); simp only [zan, zas, go_sem, Nat.zero_add, Nat.reduceAdd]
  repeat' (first | (with_reducible first | refine DS.fltS yU yU yE ?_ | refine DS.opsNil ?_ | refine DS.seq ?_ | refine DS.regionL ?_) | fail)
  refine DS.step rfl rfl yR (OpS.appG (g := ⟨[], none⟩) (ml := l.map cR) rfl yH yH yR yR (by decide) yH rfl yH yH (by rw [List.length_map]; omega) (by intro x hx; obtain ⟨y, -, rfl⟩ := List.mem_map.1 hx; rfl) ⟨by simp only [List.length_map, List.length_nil]; omega, by decide⟩) (fun u2 E' S4 hu2 => ?_)
  obtain ⟨rfl, b, cap, junk, rfl, m1, m2, m3⟩ := hu2
  have hml : ([] : List (List V)) ++ (l.map cR).map (·.map V.copy) = l.map cR := by
    rw [List.nil_append, List.map_map]; rfl
  rw [hml] at m1 ⊢
  have k1 := m1.look
  have k2 := m1.le
  have k3 := m1.cap
  rw [zwg] at k1
  rw [List.length_map] at k2
  simp only [GR.cell_some, zcj, List.length_map]
  refine DS.reS (S' := [(b, .cells ((l.map fun t => ints t) ++ junk) 22)]) (fun d o e => by
    simp only [zaa, zce] at e
    split at e
    · rename_i h; subst h; rw [k1]; exact e
    · cases e) ?_
  clear m1 m2 m3 k1 hml
  repeat' (first | (with_reducible first | refine DS.fltS yU yU yE ?_ | refine DS.opsNil ?_ | refine DS.seq ?_ | refine DS.regionL ?_ | refine DS.block ?_) | fail)
  refine DS.loopS [3] (by (simp only [go_sem, Nat.reduceEqDiff, ↓reduceIte]; exact rfl)) (fun (y : Nat × List V) => [(4, I y.1)]) (fun (y : Nat × List V) => [(b, .cells y.2 22)]) (fun (y : Nat × List V) => y.1 ≤ l.length ∧ l.length ≤ y.2.length ∧ ∀ (k : Nat) (h : k < l.length), y.2[k]? = some (ints l[k])) (fun (y : Nat × List V) => l.length - y.1) (0, (l.map fun t => ints t) ++ junk) yS (fun b o e => by exact e) ⟨Nat.zero_le _, by simp, fun k h => zmc h⟩ (fun y B hI hB => ?_); try dsimp only at hI hB; simp only [zap, zau]
  obtain ⟨i, L⟩ := y
  dsimp only at hI hB ⊢
  obtain ⟨g1, g2, g3⟩ := hI
  have H := Box.mk g3
  clear g3
  by_cases hi : (i : Int) < (l.length : Int)
  · have hi' : i < l.length := by omega
    have h1 := H.out i hi'
    have h2 := hr _ (List.getElem_mem hi')
    repeat' (first | (with_reducible first | refine DS.fltS yU yU yE ?_ | refine DS.opsNil ?_ | refine DS.seq ?_ | refine DS.regionL ?_ | (refine DS.cE yE ?_; refine CG.yes ?_) | refine DS.blk ?_ | refine DS.block ?_ | refine DS.skip ?_) | refine DS.pcS inferInstance (zoe _ (Nat.le_trans h2 (by decide))) yR yT ?_ | (refine DS.store yR yE yE yE yE yU (by exact ⟨by with_unfolding_all rfl, by (try simp only [List.length_map, List.length_append, List.length_set, List.length_replicate, List.length_cons, List.length_nil]); omega⟩) ?_; simp only [zbm, zaq, zat, zbz, zbn, zbl, zbh]; try simp only [zak, zac, zad, Nat.reduceEqDiff, ↓reduceIte, zag, zah, zao, zaf, zae, zal, zai]) | fail)
    simp only [setS, ↓reduceIte]
    refine DS.mapO (b := b) V.peek (fun _ _ _ h => V.peek_Rl h) zdc (by simp only [zaa, ↓reduceIte]; exact rfl) ?_
    simp only [setS, ↓reduceIte]
    refine DS.back (hB (i + 1, (L.set i (.own false 3 1 (l[i].map cI))).map V.peek) _ _ (by dsimp only; omega) ⟨by dsimp only; omega, by simp; omega, fun k hk => ztt (by omega) (H.out k hk)⟩ yS yS (fun d o e => by exact e))
  · refine DS.freeze (b := b) (l := L) (T := 22) (len := l.length) (t := 3) (sz := 1) yR (by simp only [zaa, ↓reduceIte]) (by omega) ⟨k2, k3⟩ ?_
    have hch : chunk 1 l.length (L.map V.copy) = l.map cR := zlr _ _ _ (by rw [List.length_map]) fun k hk => by
      rw [List.length_map] at hk
      have h1 := H.out k hk
      obtain ⟨hk2, h3⟩ := List.getElem?_eq_some_iff.1 h1
      rw [Nat.mul_one, List.drop_eq_getElem_cons (by rw [List.length_map]; exact hk2), List.take_succ_cons, List.take_zero, List.getElem_map, h3, List.getElem_map]
      rfl
    rw [hch]
    repeat' (first | (with_reducible first | refine DS.fltS yU yU yE ?_ | refine DS.opsNil ?_ | refine DS.seq ?_ | refine DS.regionL ?_ | (refine DS.cE yE ?_; refine CG.no ?_) | refine DS.exit yU ?_) | refine DS.retT [] yE trivial ?_ | fail)
    rfl
theorem zsc {α : Type} {f : α → List V} (hf : ∀ a, (f a).length = 3) (junk : List V) : ∀ (R : List α) (k : Nat) (h : k < R.length) (j : Nat), j < 3 → ((R.map f).flatten ++ junk)[k * 3 + j]? = (f R[k])[j]?
  | [], k, h, _, _ => by cases h
  | a :: R, 0, h, j, hj => by
    rw [List.map_cons, List.flatten_cons, List.append_assoc, Nat.zero_mul, Nat.zero_add, List.getElem?_append_left (by rw [hf]; exact hj)]
    rfl
  | a :: R, k + 1, h, j, hj => by
    have h1 := zsc hf junk R k (by simpa using h) j hj
    rw [List.map_cons, List.flatten_cons, List.append_assoc, List.getElem?_append_right (by rw [hf]; omega), hf, show (k + 1) * 3 + j - 3 = k * 3 + j by omega, h1]
    rfl
theorem zet {α : Type} {f : α → List V} (hf : ∀ a, (f a).length = 3) (R : List α) : (R.map f).flatten.length = R.length * 3 := by
  rw [zgr (sz := 3) (fun c hc => by obtain ⟨a, -, rfl⟩ := List.mem_map.1 hc; exact hf a), List.length_map]
structure SitAt (L : List V) (R : List Sitting) : Prop where
  len : R.length * 3 ≤ L.length
  tab : ∀ (k : Nat) (h : k < R.length), L[k * 3]? = some (rows R[k].tables)
  pts : ∀ (k : Nat) (h : k < R.length), L[k * 3 + 1]? = some (rows R[k].points)
  rul : ∀ (k : Nat) (h : k < R.length), L[k * 3 + 2]? = some (.lst (R[k].rulings.map Ruling.cells))
theorem zjk (R : List Sitting) (junk : List V) : SitAt ((R.map Sitting.cells).flatten ++ junk) R where
  len := by rw [List.length_append, zet Sitting.len]; omega
  tab := fun k h => by have := zsc Sitting.len junk R k h 0 (by omega); rw [Nat.add_zero] at this; rw [this]; rfl
  pts := fun k h => by rw [zsc Sitting.len junk R k h 1 (by omega)]; rfl
  rul := fun k h => by rw [zsc Sitting.len junk R k h 2 (by omega)]; rfl
structure RulAt (L : List V) (R : List Ruling) : Prop where
  len : R.length * 3 ≤ L.length
  rnd : ∀ (k : Nat) (h : k < R.length), L[k * 3]? = some (I R[k].round)
  tab : ∀ (k : Nat) (h : k < R.length), L[k * 3 + 1]? = some (I R[k].table)
  pts : ∀ (k : Nat) (h : k < R.length), L[k * 3 + 2]? = some (ints R[k].points)
theorem zph (R : List Ruling) (junk : List V) : RulAt ((R.map Ruling.cells).flatten ++ junk) R where
  len := by rw [List.length_append, zet Ruling.len]; omega
  rnd := fun k h => by have := zsc Ruling.len junk R k h 0 (by omega); rw [Nat.add_zero] at this; rw [this]; rfl
  tab := fun k h => by rw [zsc Ruling.len junk R k h 1 (by omega)]; rfl
  pts := fun k h => by rw [zsc Ruling.len junk R k h 2 (by omega)]; rfl
theorem zpy {L : List V} {i : Nat} {a b c : V} (h0 : L[i]? = some a) (h1 : L[i + 1]? = some b) (h2 : L[i + 2]? = some c) : (L.drop i).take 3 = [a, b, c] := by
  obtain ⟨k0, e0⟩ := List.getElem?_eq_some_iff.1 h0
  obtain ⟨k1, e1⟩ := List.getElem?_eq_some_iff.1 h1
  obtain ⟨k2, e2⟩ := List.getElem?_eq_some_iff.1 h2
  rw [List.drop_eq_getElem_cons k0, List.drop_eq_getElem_cons k1, List.drop_eq_getElem_cons k2, e0, e1, e2]
  rfl
theorem zjt {L : List V} {i : Nat} {a : V} (h : L[i]? = some a) : (L.map V.copy)[i]? = some a.copy := by rw [List.getElem?_map, h]; rfl
theorem SitAt.chunk {L : List V} {R : List Sitting} (h : SitAt L R) : chunk 3 R.length (L.map V.copy) = R.map Sitting.cells :=
  zlr _ _ _ (by rw [List.length_map]) fun k hk => by
    rw [List.length_map] at hk
    rw [zpy (zjt (h.tab k hk)) (zjt (h.pts k hk)) (zjt (h.rul k hk)), List.getElem_map]
    rfl
theorem RulAt.chunk {L : List V} {R : List Ruling} (h : RulAt L R) : chunk 3 R.length (L.map V.copy) = R.map Ruling.cells :=
  zlr _ _ _ (by rw [List.length_map]) fun k hk => by
    rw [List.length_map] at hk
    rw [zpy (zjt (h.rnd k hk)) (zjt (h.tab k hk)) (zjt (h.pts k hk)), List.getElem_map]
    rfl
theorem zim {α : Type} {L : List α} {i j : Nat} {x y : α} (h : L[j]? = some y) (hi : i ≠ j) : (L.set i x)[j]? = some y := by
  rw [List.getElem?_set_ne hi]; exact h
theorem zgy {α : Type} {L : List α} {i : Nat} {x : α} (h : i < L.length) : (L.set i x)[i]? = some x := by
  rw [List.getElem?_set, if_pos rfl, if_pos h]
theorem SitAt.put {L : List V} {R : List Sitting} {i : Nat} (h : SitAt L R) (hi : i < R.length) :
    SitAt (((L.set (i * 3) (.lst (R[i].tables.map cR))).set (i * 3 + 1) (.lst (R[i].points.map cR))).set (i * 3 + 2) (.lst (R[i].rulings.map Ruling.cells))) R where
  len := by simp only [List.length_set]; exact h.len
  tab := fun k hk => by
    have hl := h.len
    refine zim (zim ?_ (by omega)) (by omega)
    by_cases e : i = k
    · subst e; exact zgy (by omega)
    · exact zim (h.tab k hk) (by omega)
  pts := fun k hk => by
    have hl := h.len
    refine zim ?_ (by omega)
    by_cases e : i = k
    · subst e; exact zgy (by simp only [List.length_set]; omega)
    · exact zim (zim (h.pts k hk) (by omega)) (by omega)
  rul := fun k hk => by
    have hl := h.len
    by_cases e : i = k
    · subst e; exact zgy (by simp only [List.length_set]; omega)
    · exact zim (zim (zim (h.rul k hk) (by omega)) (by omega)) (by omega)
theorem zob {L : List V} {i : Nat} {x : V} (h : L[i]? = some x) : (L.map V.peek)[i]? = some x.peek := by rw [List.getElem?_map, h]; rfl
theorem SitAt.peek {L : List V} {R : List Sitting} (h : SitAt L R) : SitAt (L.map V.peek) R where
  len := by rw [List.length_map]; exact h.len
  tab := fun k hk => zob (h.tab k hk)
  pts := fun k hk => zob (h.pts k hk)
  rul := fun k hk => zob (h.rul k hk)
theorem RulAt.put {L : List V} {R : List Ruling} {i : Nat} {m : Bool} {T s : Nat} (h : RulAt L R) (hi : i < R.length) :
    RulAt ((L.set (i * 3 + 2) (.own m T s (R[i].points.map cI))).map V.peek) R where
  len := by rw [List.length_map, List.length_set]; exact h.len
  rnd := fun k hk => zob (zim (h.rnd k hk) (by omega))
  tab := fun k hk => zob (zim (h.tab k hk) (by omega))
  pts := fun k hk => by
    have hl := h.len
    by_cases e : i = k
    · subst e; exact zob (zgy (by omega))
    · exact zob (zim (h.pts k hk) (by omega))
abbrev cpC (c : Club) (v : V) : List V := [I c.size, I c.start, I c.absent, I c.window, .own false 3 1 (c.places.map cI), Bo c.share, .own false 88 4 (c.members.map Member.cells), v]
theorem yX49 {p : Prop} (h : p := by (simp (disch := omega) only [go_sem, dopV, Option.map_some, Option.map_none, Option.bind_some, Option.bind_none, ↓reduceIte, Nat.reduceEqDiff, Nat.reduceLT, Nat.reduceLeDiff, Nat.reduceAdd, Nat.reduceMul, Nat.reduceSub, Nat.zero_add, Nat.add_zero, Nat.zero_le, Nat.zero_mul, Nat.mul_one, Nat.one_mul, Int.natCast_zero, Int.toNat_zero, Int.reduceToNat, Int.reduceLT, Int.reduceLE, Int.reduceEq, decide_true, decide_false, true_and, and_true, Bool.and_self, Bool.and_true, Bool.true_and, Bool.not_true, Bool.not_false, IntWalk.toNatUp, IntWalk.iteOmega, IntWalk.i64_in, Option.isSome_some, not_true_eq_false, not_false_eq_true, Option.getD_some, Option.getD_none, Int.toNat_natCast, List.length_map, List.getElem?_map, List.getElem?_eq_getElem, V.flat, V.one, List.all_cons, List.all_nil, *, List.forall_mem_map, implies_true, zed, Value.oneCell']; exact rfl)) : p := h
theorem yX50 {p : Prop} (h : p := by (simp (disch := omega) only [go_sem, dopV, Option.map_some, Option.map_none, Option.bind_some, Option.bind_none, ↓reduceIte, Nat.reduceEqDiff, Nat.reduceLT, Nat.reduceLeDiff, Nat.reduceAdd, Nat.reduceMul, Nat.reduceSub, Nat.zero_add, Nat.add_zero, Nat.zero_le, Nat.zero_mul, Nat.mul_one, Nat.one_mul, Int.natCast_zero, Int.toNat_zero, Int.reduceToNat, Int.reduceLT, Int.reduceLE, Int.reduceEq, decide_true, decide_false, true_and, and_true, Bool.and_self, Bool.and_true, Bool.true_and, Bool.not_true, Bool.not_false, IntWalk.toNatUp, IntWalk.iteOmega, IntWalk.i64_in, Option.isSome_some, not_true_eq_false, not_false_eq_true, Option.getD_some, Option.getD_none, Int.toNat_natCast, List.length_map, List.getElem?_map, List.getElem?_eq_getElem, V.flat, V.one, List.all_cons, List.all_nil, *, List.forall_mem_map, implies_true, zed, Value.oneCell']; try exact rfl)) : p := h
theorem yX51 {p : Prop} (h : p := by first | exact rfl | (simp (disch := omega) only [go_sem, dopV, Option.map_some, Option.map_none, Option.bind_some, Option.bind_none, ↓reduceIte, Nat.reduceEqDiff, Nat.reduceLT, Nat.reduceLeDiff, Nat.reduceAdd, Nat.reduceMul, Nat.reduceSub, Nat.zero_add, Nat.add_zero, Nat.zero_le, Nat.zero_mul, Nat.mul_one, Nat.one_mul, Int.natCast_zero, Int.toNat_zero, Int.reduceToNat, Int.reduceLT, Int.reduceLE, Int.reduceEq, decide_true, decide_false, true_and, and_true, Bool.and_self, Bool.and_true, Bool.true_and, Bool.not_true, Bool.not_false, IntWalk.toNatUp, IntWalk.iteOmega, IntWalk.i64_in, Option.isSome_some, not_true_eq_false, not_false_eq_true, Option.getD_some, Option.getD_none, Int.toNat_natCast, List.length_map, List.getElem?_map, List.getElem?_eq_getElem, V.flat, V.one, List.all_cons, List.all_nil, *, List.forall_mem_map, implies_true, zed, Value.oneCell']; exact rfl)) : p := h
end Go.XL
namespace Go.XL
open Go.Proofs
set_option maxRecDepth 100000
set_option maxHeartbeats 8000000
def zwx (P : Program) (n : Nat) (fs : List Field) : Bool := fs.all fun f => decide (f.offset < n) && match P.underlying f.type with | some (.int _) => true | _ => false
theorem zlo {P : Program} (d : Nat) (xs : Array Value) (hx : ∀ (i : Nat) (h : i < xs.size), ∃ k a, xs[i] = .int k a) (w : World) : ∀ (fs : List Field), zwx P xs.size fs = true → (Op.eqFields (d + 1) xs xs fs).run P w = .ok true w
  | [], _ => by simp [Op.eqFields]
  | f :: fs, h => by
    rw [zwx, List.all_cons, Bool.and_eq_true, Bool.and_eq_true] at h
    obtain ⟨⟨h1, h2⟩, h3⟩ := h
    have h1 := of_decide_eq_true h1
    obtain ⟨k, a, hv⟩ := hx f.offset h1
    have hg : xs[f.offset]? = some (.int k a) := by rw [Array.getElem?_eq_getElem h1, hv]
    have ih := zlo d xs hx w fs h3
    cases hu : P.underlying f.type with
    | none => rw [hu] at h2; cases h2
    | some u =>
      rw [hu] at h2
      cases u with
      | int k' =>
        have hp : (part f.type xs f.offset).run P w = .ok (.int k a) w := by simp [part, isAgg, run_underlying hu, hg]
        rw [Op.eqFields]
        split
        · simp [hp, run_equalIn_int w d f.type k k' a a hu, ih]
        · exact ih
      | _ => cases h2
theorem neq_agg_run {P : Program} {T : TypeId} {x y : Operand} {xs : Array Value} (hx : ∀ (i : Nat) (h : i < xs.size), ∃ k a, xs[i] = .int k a) (hm : P.eqGuardType P.depth T = false) (ht : P.underlying T = some (.struct (P.fieldsOf T))) (hp : P.stoodInHeld T = false) (hf : zwx P xs.size (P.fieldsOf T).toList = true) (w : World) :
    (do eqGuard .neq T x y (.agg xs) (.agg xs); binOp .neq T (.agg xs) (.agg xs) : Sem Value).run P w = .ok (.bool false) w := by
  rw [Sem.run_bind, run_eqGuard_agg w _ _ _ _ _ _ hm, Result.andThen_ok, run_neq_struct, run_equalIn_agg w _ _ _ _ ht hp, zlo 9998 xs hx w _ hf]
  rfl
theorem DS.neqI {P : Program} {n : Nat} {r : Rr} {Q : VEnv → Sto → Prop} {k : List Fr} {E : VEnv} {S : Sto} {ops l : List Oper} {t : Tmp} {T T' ty : TypeId} {x y : Operand} {pos : String} {af : Array Edge} {cs : List Value}
    (hx : evV E x = some (.agg (cs.map V.v))) (hy : evV E y = some (.agg (cs.map V.v))) (hd : decide (t < n) = true) (hc : ∀ c ∈ cs, ∃ k a, c = .int k a)
    (hm : P.eqGuardType P.depth T = false) (ht : P.underlying T = some (.struct (P.fieldsOf T))) (hp : P.stoodInHeld T = false) (hf : zwx P cs.length (P.fieldsOf T).toList = true)
    (q : DS P n r Q (.ops ops l :: k) ((t, .v (.bool false)) :: E) S) : DS P n r Q (.ops ops (⟨some t, .binOp .neq T x y T', ty, pos, af, none⟩ :: l) :: k) E S := fun K W a w ⟨K', D, hvv, hold, env, hb, ha, s⟩ hw => by
  have hrl : ∀ (cs : List Value) (ys : List Value), RlL hvv (cs.map V.v) ys → ys = cs := by
    intro cs
    induction cs with
    | nil => intro ys h; simpa only [List.map_nil, RlL] using h
    | cons c cs ih =>
      intro ys h
      simp only [List.map_cons, RlL] at h
      obtain ⟨z, zs, rfl, h2, h3⟩ := h
      simp only [V.Rl] at h2
      rw [ih zs h3, h2]
  obtain ⟨v1, e1, r1⟩ := s.rl _ _ hx
  obtain ⟨v2, e2, r2⟩ := s.rl _ _ hy
  simp only [V.Rl] at r1 r2
  obtain ⟨y1, rfl, r1⟩ := r1
  obtain ⟨y2, rfl, r2⟩ := r2
  obtain rfl := hrl _ _ r1
  obtain rfl := hrl _ _ r2
  have hr : (execOp a.eval ⟨some t, .binOp .neq T x y T', ty, pos, af, none⟩).run P w = .ok (.value (.bool false)) w := by
    have hb := neq_agg_run (x := x) (y := y) (xs := y2.toArray) (fun i h => hc _ (by simp)) hm ht hp (by simpa using hf) w
    simp only [execOp, ha.ev e1, ha.ev e2, Sem.run_bind] at hb ⊢
    simp only [hb, Result.andThen_ok, Sem.run_pure]
  refine zmv (zht rfl a) ⟨fun _ _ => trivial, ?_⟩
  rw [Oper.semAt_eq _ _ _ (zfd yR), hr]
  have hd' : dok n (some t) = true := hd
  exact q K W _ w ⟨K', D, hvv, hold, XL.put env (some t) (.bool false), hb, ha.put' hd' _, s.put (some t) (V.Rl_v) fun _ _ => V.free_Own rfl _⟩ hw
theorem sameRounds_refl (s : Sitting) (hs : s.Small) : PC Try.prog 63 [.agg s.cells, .agg s.cells] (Bo true) := by
  have q := hs.rulings
  refine DC.of_run Try.func63 rfl Try.ntmps63 Try.results63 (by simp) (fun _ => ?_); simp only [zan, zas, go_sem, Nat.zero_add, Nat.reduceAdd]
  repeat' (first | (with_reducible first | refine DS.fltS yU yU yE ?_ | refine DS.opsNil ?_ | refine DS.seq ?_ | refine DS.regionL ?_ | (refine DS.cE yE ?_; refine CG.no ?_) | (refine DS.gE yU yE ?_; refine GG.run ?_) | refine DS.block ?_ | refine DS.skip ?_) | refine DS.pcS inferInstance (zmp _ _) yR yT ?_ | (refine DS.boxF (t := 2) yU yE yU ?_; simp only [zbk, zcd, zbi, zbu, zbf, zaz, zbp, zbb, zca, zcc, zbq, zcb, zbt, zbs]) | (refine DS.boxF (t := 3) yU yE yU ?_; simp only [zbk, zcd, zbi, zbu, zbf, zaz, zbp, zbb, zca, zcc, zbq, zcb, zbt, zbs]) | fail)
  refine DS.loopK [2, 3] (by (simp only [go_sem, Nat.reduceEqDiff, ↓reduceIte]; exact rfl)) (fun (i : Nat) => [(5, I i)]) (fun (i : Nat) => i ≤ s.rulings.length) (fun (i : Nat) => s.rulings.length - i) 0 yS (Nat.zero_le _) (fun i B hI hB => ?_); try dsimp only at hI hB; simp only [zap, zau]
  by_cases hi : (i : Int) < (s.rulings.length : Int)
  · have hi' : i < s.rulings.length := by omega
    repeat' (first | (with_reducible first | refine DS.fltS yU yU yE ?_ | refine DS.opsNil ?_ | refine DS.seq ?_ | refine DS.regionL ?_ | (refine DS.cE yE ?_; refine CG.yes ?_) | refine DS.block ?_ | refine DS.skip ?_) | refine DS.drawL (id := 6) [0, 1, 2, 3, 4, 5, 6, 7, 8, 9, 10, 11, 12] 13 (by kernel_rfl) zct (by simp only [zay, zbc, zbd, zbe, zax]; exact rfl) (by simp only [zav, zaw, List.drop_nil]; exact rfl) ?_ | with_reducible refine DD.fltS yU yU yU yE ?_ | fail)
    refine DD.alloc yR yU yU (fun u1 a1 a1' => ?_)
    refine DD.alloc yR yU yU (fun u2 a2 a2' => ?_)
    have n1 : ¬ u1 = u2 := fun e => by rw [zaa, if_pos e] at a2; cases a2
    have n1' : ¬ u2 = u1 := fun e => n1 e.symm
    clear a1 a1' a2 a2'
    have e0 : (Value.agg #[.int .i64 0, .int .i64 0, .slice none 0 0]).cells.toList.map V.v = [I 0, I 0, .v (.slice none 0 0)] := rfl
    rw [e0]
    clear e0
    refine DD.store (b := u1) (off := 0) (m := 3) (cl := [I 0, I 0, .v (.slice none 0 0)]) (T' := 78) yR yH yG yU (by simp only [zaa, n1', ↓reduceIte]) yR ⟨by rfl, by decide⟩ (fun _ => MpOk.nil) ?_
    simp only [setS, n1', ↓reduceIte, zbh, zaq, zat, zbr, zbx, Nat.reduceAdd, Nat.zero_add]
    repeat' (first | (with_reducible first | refine DS.fltS yU yU yE ?_ | refine DS.opsNil ?_ | refine DS.seq ?_ | refine DS.regionL ?_ | (refine DS.cE yE ?_; refine CG.no ?_) | (refine DS.gE yU yE ?_; refine GG.run ?_) | refine DS.blk ?_ | refine DS.skip ?_) | refine DS.pcS inferInstance (zkg _ _) yR yT ?_ | (refine DS.store yR yE yE yE yE yU (by exact ⟨by with_unfolding_all rfl, by (try simp only [List.length_map, List.length_append, List.length_set, List.length_replicate, List.length_cons, List.length_nil]); omega⟩) ?_; simp only [zbm, zaq, zat, zbz, zbn, zbl, zbh]; try simp only [zak, zac, zad, Nat.reduceEqDiff, ↓reduceIte, zag, zah, zao, zaf, zae, zal, zai]) | (with_reducible refine DD.nil ?_; simp only [zap, zau]) | fail)
    refine DS.back (hB (i + 1) _ _ (by omega) (by omega) yS yS (fun d o e => by cases e))
  · repeat' (first | (with_reducible first | refine DS.fltS yU yU yE ?_ | refine DS.opsNil ?_ | refine DS.seq ?_ | refine DS.regionL ?_ | (refine DS.cE yE ?_; refine CG.no ?_) | refine DS.exit yU ?_) | refine DS.retT [] yE trivial ?_ | fail)
    rfl
theorem yX52 {p : Prop} (h : p := by (simp (disch := omega) only [go_sem, dopV, Option.map_some, Option.map_none, Option.bind_some, Option.bind_none, ↓reduceIte, Nat.reduceEqDiff, Nat.reduceLT, Nat.reduceLeDiff, Nat.reduceAdd, Nat.reduceMul, Nat.reduceSub, Nat.zero_add, Nat.add_zero, Nat.zero_le, Nat.zero_mul, Nat.mul_one, Nat.one_mul, Int.natCast_zero, Int.toNat_zero, Int.reduceToNat, Int.reduceLT, Int.reduceLE, Int.reduceEq, decide_true, decide_false, true_and, and_true, Bool.and_self, Bool.and_true, Bool.true_and, Bool.not_true, Bool.not_false, IntWalk.toNatUp, IntWalk.iteOmega, IntWalk.i64_in, Option.isSome_some, not_true_eq_false, not_false_eq_true, Option.getD_some, Option.getD_none, Int.toNat_natCast, List.length_map, List.getElem?_map, List.getElem?_eq_getElem, V.flat, V.one, List.all_cons, List.all_nil, Member.cells]; try exact rfl)) : p := h
theorem zri (c : Club) (hs : c.Small) : PC Try.prog 21 [c.val, c.val] (Bo true) := by
  have q1 := hs.rounds
  have q2 := hs.members
  have q3 := hs.places
  refine DC.of_run Try.func21 rfl Try.ntmps21 Try.results21 (by simp) (fun _ => ?_); simp only [zan, zas, go_sem, Nat.zero_add, Nat.reduceAdd]
  repeat' (first | (with_reducible first | refine DS.fltS yU yU (by (simp (disch := omega) only [go_sem, dopV, Option.map_some, Option.map_none, Option.bind_some, Option.bind_none, ↓reduceIte, Nat.reduceEqDiff, Nat.reduceLT, Nat.reduceLeDiff, Nat.reduceAdd, Nat.reduceMul, Nat.reduceSub, Nat.zero_add, Nat.add_zero, Nat.zero_le, Nat.zero_mul, Nat.mul_one, Nat.one_mul, Int.natCast_zero, Int.toNat_zero, Int.reduceToNat, Int.reduceLT, Int.reduceLE, Int.reduceEq, decide_true, decide_false, true_and, and_true, Bool.and_self, Bool.and_true, Bool.true_and, Bool.not_true, Bool.not_false, IntWalk.toNatUp, IntWalk.iteOmega, IntWalk.i64_in, Option.isSome_some, not_true_eq_false, not_false_eq_true, Option.getD_some, Option.getD_none, Int.toNat_natCast, List.length_map, List.getElem?_map, List.getElem?_eq_getElem, V.flat, V.one, List.all_cons, List.all_nil, *, bne_self_eq_false]; exact rfl)) ?_ | refine DS.opsNil ?_ | refine DS.seq ?_ | refine DS.regionL ?_) | (with_reducible refine DS.cE (by (simp (disch := omega) only [go_sem, dopV, Option.map_some, Option.map_none, Option.bind_some, Option.bind_none, ↓reduceIte, Nat.reduceEqDiff, Nat.reduceLT, Nat.reduceLeDiff, Nat.reduceAdd, Nat.reduceMul, Nat.reduceSub, Nat.zero_add, Nat.add_zero, Nat.zero_le, Nat.zero_mul, Nat.mul_one, Nat.one_mul, Int.natCast_zero, Int.toNat_zero, Int.reduceToNat, Int.reduceLT, Int.reduceLE, Int.reduceEq, decide_true, decide_false, true_and, and_true, Bool.and_self, Bool.and_true, Bool.true_and, Bool.not_true, Bool.not_false, IntWalk.toNatUp, IntWalk.iteOmega, IntWalk.i64_in, Option.isSome_some, not_true_eq_false, not_false_eq_true, Option.getD_some, Option.getD_none, Int.toNat_natCast, List.length_map, List.getElem?_map, List.getElem?_eq_getElem, V.flat, V.one, List.all_cons, List.all_nil, *, bne_self_eq_false]; exact rfl)) ?_; with_reducible refine CG.no ?_) | (with_reducible refine DS.gE yU (by (simp (disch := omega) only [go_sem, dopV, Option.map_some, Option.map_none, Option.bind_some, Option.bind_none, ↓reduceIte, Nat.reduceEqDiff, Nat.reduceLT, Nat.reduceLeDiff, Nat.reduceAdd, Nat.reduceMul, Nat.reduceSub, Nat.zero_add, Nat.add_zero, Nat.zero_le, Nat.zero_mul, Nat.mul_one, Nat.one_mul, Int.natCast_zero, Int.toNat_zero, Int.reduceToNat, Int.reduceLT, Int.reduceLE, Int.reduceEq, decide_true, decide_false, true_and, and_true, Bool.and_self, Bool.and_true, Bool.true_and, Bool.not_true, Bool.not_false, IntWalk.toNatUp, IntWalk.iteOmega, IntWalk.i64_in, Option.isSome_some, not_true_eq_false, not_false_eq_true, Option.getD_some, Option.getD_none, Int.toNat_natCast, List.length_map, List.getElem?_map, List.getElem?_eq_getElem, V.flat, V.one, List.all_cons, List.all_nil, *, bne_self_eq_false]; exact rfl)) ?_; with_reducible refine GG.run ?_) | (with_reducible first | refine DS.block ?_ | refine DS.skip ?_) | refine DS.pcS inferInstance (zkg _ _) yR (by (simp (disch := omega) only [go_sem, dopV, Option.map_some, Option.map_none, Option.bind_some, Option.bind_none, ↓reduceIte, Nat.reduceEqDiff, Nat.reduceLT, Nat.reduceLeDiff, Nat.reduceAdd, Nat.reduceMul, Nat.reduceSub, Nat.zero_add, Nat.add_zero, Nat.zero_le, Nat.zero_mul, Nat.mul_one, Nat.one_mul, Int.natCast_zero, Int.toNat_zero, Int.reduceToNat, Int.reduceLT, Int.reduceLE, Int.reduceEq, decide_true, decide_false, true_and, and_true, Bool.and_self, Bool.and_true, Bool.true_and, Bool.not_true, Bool.not_false, IntWalk.toNatUp, IntWalk.iteOmega, IntWalk.i64_in, Option.isSome_some, not_true_eq_false, not_false_eq_true, Option.getD_some, Option.getD_none, Int.toNat_natCast, List.length_map, List.getElem?_map, List.getElem?_eq_getElem, V.flat, V.one, List.all_cons, List.all_nil, *, bne_self_eq_false]; try exact rfl)) ?_ | (refine DS.boxF (t := 2) yU (by (simp (disch := omega) only [go_sem, dopV, Option.map_some, Option.map_none, Option.bind_some, Option.bind_none, ↓reduceIte, Nat.reduceEqDiff, Nat.reduceLT, Nat.reduceLeDiff, Nat.reduceAdd, Nat.reduceMul, Nat.reduceSub, Nat.zero_add, Nat.add_zero, Nat.zero_le, Nat.zero_mul, Nat.mul_one, Nat.one_mul, Int.natCast_zero, Int.toNat_zero, Int.reduceToNat, Int.reduceLT, Int.reduceLE, Int.reduceEq, decide_true, decide_false, true_and, and_true, Bool.and_self, Bool.and_true, Bool.true_and, Bool.not_true, Bool.not_false, IntWalk.toNatUp, IntWalk.iteOmega, IntWalk.i64_in, Option.isSome_some, not_true_eq_false, not_false_eq_true, Option.getD_some, Option.getD_none, Int.toNat_natCast, List.length_map, List.getElem?_map, List.getElem?_eq_getElem, V.flat, V.one, List.all_cons, List.all_nil, *, bne_self_eq_false]; exact rfl)) yU ?_; simp only [zbk, zcd, zbi, zbu, zbf, zaz, zbp, zbb, zca, zcc, zbq, zcb, zbt, zbs]) | (refine DS.boxF (t := 3) yU (by (simp (disch := omega) only [go_sem, dopV, Option.map_some, Option.map_none, Option.bind_some, Option.bind_none, ↓reduceIte, Nat.reduceEqDiff, Nat.reduceLT, Nat.reduceLeDiff, Nat.reduceAdd, Nat.reduceMul, Nat.reduceSub, Nat.zero_add, Nat.add_zero, Nat.zero_le, Nat.zero_mul, Nat.mul_one, Nat.one_mul, Int.natCast_zero, Int.toNat_zero, Int.reduceToNat, Int.reduceLT, Int.reduceLE, Int.reduceEq, decide_true, decide_false, true_and, and_true, Bool.and_self, Bool.and_true, Bool.true_and, Bool.not_true, Bool.not_false, IntWalk.toNatUp, IntWalk.iteOmega, IntWalk.i64_in, Option.isSome_some, not_true_eq_false, not_false_eq_true, Option.getD_some, Option.getD_none, Int.toNat_natCast, List.length_map, List.getElem?_map, List.getElem?_eq_getElem, V.flat, V.one, List.all_cons, List.all_nil, *, bne_self_eq_false]; exact rfl)) yU ?_; simp only [zbk, zcd, zbi, zbu, zbf, zaz, zbp, zbb, zca, zcc, zbq, zcb, zbt, zbs]) | fail)
  refine DS.loopK [2, 3] (by (simp only [go_sem, Nat.reduceEqDiff, ↓reduceIte]; exact rfl)) (fun (i : Nat) => [(5, I i)]) (fun (i : Nat) => i ≤ c.members.length) (fun (i : Nat) => c.members.length - i) 0 yS (Nat.zero_le _) (fun i B hI hB => ?_); try dsimp only at hI hB; simp only [zap, zau]
  by_cases hi : (i : Int) < (c.members.length : Int)
  · have hi' : i < c.members.length := by omega
    repeat' (first | (with_reducible first | refine DS.fltS yU yU (by (simp (disch := omega) only [go_sem, dopV, Option.map_some, Option.map_none, Option.bind_some, Option.bind_none, ↓reduceIte, Nat.reduceEqDiff, Nat.reduceLT, Nat.reduceLeDiff, Nat.reduceAdd, Nat.reduceMul, Nat.reduceSub, Nat.zero_add, Nat.add_zero, Nat.zero_le, Nat.zero_mul, Nat.mul_one, Nat.one_mul, Int.natCast_zero, Int.toNat_zero, Int.reduceToNat, Int.reduceLT, Int.reduceLE, Int.reduceEq, decide_true, decide_false, true_and, and_true, Bool.and_self, Bool.and_true, Bool.true_and, Bool.not_true, Bool.not_false, IntWalk.toNatUp, IntWalk.iteOmega, IntWalk.i64_in, Option.isSome_some, not_true_eq_false, not_false_eq_true, Option.getD_some, Option.getD_none, Int.toNat_natCast, List.length_map, List.getElem?_map, List.getElem?_eq_getElem, V.flat, V.one, List.all_cons, List.all_nil, *, bne_self_eq_false]; exact rfl)) ?_ | refine DS.opsNil ?_ | refine DS.seq ?_ | refine DS.regionL ?_) | (with_reducible refine DS.cE (by (simp (disch := omega) only [go_sem, dopV, Option.map_some, Option.map_none, Option.bind_some, Option.bind_none, ↓reduceIte, Nat.reduceEqDiff, Nat.reduceLT, Nat.reduceLeDiff, Nat.reduceAdd, Nat.reduceMul, Nat.reduceSub, Nat.zero_add, Nat.add_zero, Nat.zero_le, Nat.zero_mul, Nat.mul_one, Nat.one_mul, Int.natCast_zero, Int.toNat_zero, Int.reduceToNat, Int.reduceLT, Int.reduceLE, Int.reduceEq, decide_true, decide_false, true_and, and_true, Bool.and_self, Bool.and_true, Bool.true_and, Bool.not_true, Bool.not_false, IntWalk.toNatUp, IntWalk.iteOmega, IntWalk.i64_in, Option.isSome_some, not_true_eq_false, not_false_eq_true, Option.getD_some, Option.getD_none, Int.toNat_natCast, List.length_map, List.getElem?_map, List.getElem?_eq_getElem, V.flat, V.one, List.all_cons, List.all_nil, *, bne_self_eq_false]; exact rfl)) ?_; with_reducible refine CG.yes ?_) | (with_reducible first | refine DS.block ?_ | refine DS.skip ?_) | refine DS.drawL (id := 6) [0, 1, 2, 3, 4, 5, 6, 7, 8, 9] 10 (by kernel_rfl) zct (by simp only [zay, zbc, zbd, zbe, zax]; exact rfl) (by simp only [zav, zaw, List.drop_nil]; exact rfl) ?_ | (with_reducible first | refine DD.fltS yU yU yU (by (simp (disch := omega) only [go_sem, dopV, Option.map_some, Option.map_none, Option.bind_some, Option.bind_none, ↓reduceIte, Nat.reduceEqDiff, Nat.reduceLT, Nat.reduceLeDiff, Nat.reduceAdd, Nat.reduceMul, Nat.reduceSub, Nat.zero_add, Nat.add_zero, Nat.zero_le, Nat.zero_mul, Nat.mul_one, Nat.one_mul, Int.natCast_zero, Int.toNat_zero, Int.reduceToNat, Int.reduceLT, Int.reduceLE, Int.reduceEq, decide_true, decide_false, true_and, and_true, Bool.and_self, Bool.and_true, Bool.true_and, Bool.not_true, Bool.not_false, IntWalk.toNatUp, IntWalk.iteOmega, IntWalk.i64_in, Option.isSome_some, not_true_eq_false, not_false_eq_true, Option.getD_some, Option.getD_none, Int.toNat_natCast, List.length_map, List.getElem?_map, List.getElem?_eq_getElem, V.flat, V.one, List.all_cons, List.all_nil, *, bne_self_eq_false]; exact rfl)) ?_ | refine DD.nil0 ?_) | fail)
    refine DS.neqI (cs := [.int .i64 c.members[i].id, .int .i64 c.members[i].hand, .int .i64 c.members[i].from_, .int .i64 c.members[i].to]) yX52 yX52 (by decide) (fun x hx => by simp only [List.mem_cons, List.not_mem_nil, or_false] at hx; rcases hx with rfl | rfl | rfl | rfl <;> exact ⟨_, _, rfl⟩) (by kernel_rfl) (by kernel_rfl) (by kernel_rfl) (by kernel_rfl) ?_
    repeat' (first | (with_reducible first | refine DS.fltS yU yU yE ?_ | refine DS.opsNil ?_ | refine DS.regionL ?_ | (refine DS.cE yE ?_; refine CG.no ?_) | refine DS.blk ?_ | refine DS.skip ?_) | fail)
    exact DS.back (hB (i + 1) _ _ (by omega) (by omega) yS yS (fun b o e => by first | exact e | (simp only [zaa]; split <;> simp_all)))
  clear hB
  repeat' (first | (with_reducible first | refine DS.fltS yU yU yE ?_ | refine DS.opsNil ?_ | refine DS.seq ?_ | refine DS.regionL ?_ | (refine DS.cE yE ?_; refine CG.no ?_) | refine DS.block ?_ | refine DS.exit yU ?_) | fail)
  refine DS.loopK [2, 3] (by (simp only [go_sem, Nat.reduceEqDiff, ↓reduceIte]; exact rfl)) (fun (k : Nat) => [(6, I k)]) (fun (k : Nat) => k ≤ c.rounds.length) (fun (k : Nat) => c.rounds.length - k) 0 yS (Nat.zero_le _) (fun k B hI hB => ?_); try dsimp only at hI hB; simp only [zap, zau]
  by_cases hk : (k : Int) < (c.rounds.length : Int)
  · have hk' : k < c.rounds.length := by omega
    repeat' (first | (with_reducible first | refine DS.fltS yU yU yE ?_ | refine DS.opsNil ?_ | refine DS.seq ?_ | refine DS.regionL ?_ | (refine DS.cE yE ?_; first | refine CG.yes ?_ | refine CG.no ?_) | refine DS.blk ?_ | refine DS.block ?_ | refine DS.skip ?_) | refine DS.pcS inferInstance (sameRounds_refl c.rounds[k] (hs.at hk')) yR yT ?_ | refine DS.drawL (id := 11) [0, 1, 2, 3, 4, 5, 6, 7, 8, 9] 10 (by kernel_rfl) zct (by simp only [zay, zbc, zbd, zbe, zax]; exact rfl) (by simp only [zav, zaw, List.drop_nil]; exact rfl) ?_ | (with_reducible first | refine DD.fltS yU yU yU yE ?_ | refine DD.nil0 ?_) | fail)
    exact DS.back (hB (k + 1) _ _ (by omega) (by omega) yS yS (fun b o e => by first | exact e | (simp only [zaa]; split <;> simp_all)))
  · repeat' (first | (with_reducible first | refine DS.fltS yU yU yE ?_ | refine DS.opsNil ?_ | refine DS.seq ?_ | refine DS.regionL ?_ | (refine DS.cE yE ?_; refine CG.no ?_) | refine DS.exit yU ?_) | refine DS.retT [] yE trivial ?_ | fail)
    rfl
def BigT (s : Sitting) : Prop := 20 < s.tables.length ∨ 20 < s.points.length ∨ 30 < s.rulings.length ∨ (∃ t ∈ s.tables, 10 < t.length) ∨ (∃ t ∈ s.points, 10 < t.length) ∨ ∃ r ∈ s.rulings, 10 < r.points.length
def BigP (c : Club) : Prop := 10 < c.places.length ∨ 50 < c.members.length ∨ 25 < c.rounds.length ∨ ∃ s ∈ c.rounds, BigT s
noncomputable def bigS (c : Club) : Bool := @decide (BigP c) (Classical.propDecidable _)
theorem zls {c : Club} (h : BigP c) : bigS c = true := @decide_eq_true _ (Classical.propDecidable _) h
theorem bigS_false {c : Club} (h : ¬ BigP c) : bigS c = false := @decide_eq_false _ (Classical.propDecidable _) h
theorem not_big {c : Club} (h : bigS c = false) : ¬ BigP c := @of_decide_eq_false _ (Classical.propDecidable _) h
theorem big_pc (c : Club) : PC Try.prog 12 [c.val] (Bo (bigS c)) := by
  refine DC.of_run Try.func12 rfl Try.ntmps12 Try.results12 (by simp) (fun _ => ?_); simp only [zan, zas, go_sem, Nat.zero_add, Nat.reduceAdd]
  repeat' (first | (with_reducible first | refine DS.fltS yU yU yE ?_ | refine DS.opsNil ?_ | refine DS.seq ?_ | refine DS.regionL ?_ | (refine DS.cE yE ?_; first | refine CG.p (fun _ => ?_) (fun _ => ?_) | refine CG.yes ?_) | (refine DS.gE yU yE ?_; first | refine GG.pF (fun _ => ?_) (fun _ => ?_) | refine GG.run ?_ | refine GG.sT ?_) | refine DS.block ?_ | refine DS.skip ?_) | (refine DS.boxF (t := 1) yU yE yU ?_; simp only [zbk, zcd, zbi, zbu, zbf, zaz, zbp, zbb, zca, zcc, zbq, zcb, zbt, zbs]) | fail)
  · repeat' (first | refine DS.retT [] yE trivial ?_ | fail)
    rw [zls (.inr (.inr (.inl (by omega))))]; rfl
  · rename_i w1 w2 w3
    refine DS.loopK [1] (by (simp only [go_sem, Nat.reduceEqDiff, ↓reduceIte]; exact rfl)) (fun (i : Nat) => [(3, I i)]) (fun (i : Nat) => i ≤ c.rounds.length ∧ ∀ (j : Nat) (h : j < c.rounds.length), j < i → ¬ BigT c.rounds[j]) (fun (i : Nat) => c.rounds.length - i) 0 yS ⟨Nat.zero_le _, fun j h h2 => by omega⟩ (fun i B hI hB => ?_); try dsimp only at hI hB; simp only [zap, zau]
    obtain ⟨hI, hI2⟩ := hI
    by_cases hi : (i : Int) < (c.rounds.length : Int)
    · have hi' : i < c.rounds.length := by omega
      have hmem : c.rounds[i] ∈ c.rounds := List.getElem_mem hi'
      have big : BigT c.rounds[i] → bigS c = true := fun h => zls (.inr (.inr (.inr ⟨_, hmem, h⟩)))
      have hB0 := hB
      clear hB
      repeat' (first | (with_reducible first | refine DS.fltS yU yU yE ?_ | refine DS.opsNil ?_ | refine DS.seq ?_ | refine DS.regionL ?_ | (refine DS.cE yE ?_; first | refine CG.p (fun _ => ?_) (fun _ => ?_) | refine CG.yes ?_) | (refine DS.gE yU yE ?_; first | refine GG.pF (fun _ => ?_) (fun _ => ?_) | refine GG.run ?_ | refine GG.sT ?_) | refine DS.block ?_ | refine DS.skip ?_) | (refine DS.letF (t := 4) yU yE yU (fun _ => by (simp (disch := omega) only [go_sem, dopV, Option.map_some, Option.map_none, Option.bind_some, Option.bind_none, ↓reduceIte, Nat.reduceEqDiff, Nat.reduceLT, Nat.reduceLeDiff, Nat.reduceAdd, Nat.reduceMul, Nat.reduceSub, Nat.zero_add, Nat.add_zero, Nat.zero_le, Nat.zero_mul, Nat.mul_one, Nat.one_mul, Int.natCast_zero, Int.toNat_zero, Int.reduceToNat, Int.reduceLT, Int.reduceLE, Int.reduceEq, decide_true, decide_false, true_and, and_true, Bool.and_self, Bool.and_true, Bool.true_and, Bool.not_true, Bool.not_false, IntWalk.toNatUp, IntWalk.iteOmega, IntWalk.i64_in, Option.isSome_some, not_true_eq_false, not_false_eq_true, Option.getD_some, Option.getD_none, Int.toNat_natCast, List.length_map, List.getElem?_map, List.getElem?_eq_getElem, V.flat, V.one, List.all_cons, List.all_nil, *]; exact rfl)) yE yU (by exact ⟨by with_unfolding_all rfl, by with_unfolding_all decide⟩) (fun _ => by simp only [go_sem, Nat.reduceEqDiff, ↓reduceIte]) ?_; simp only [go_sem]) | fail)
      · repeat' (first | refine DS.retT [] yE trivial ?_ | fail)
        rw [big (.inr (.inr (.inl (by omega))))]; rfl
      · rename_i w4 w5 w6
        refine DS.loopK [1, 3, 4] (by (simp only [go_sem, Nat.reduceEqDiff, ↓reduceIte]; exact rfl)) (fun (k : Nat) => [(5, I k)]) (fun (k : Nat) => k ≤ c.rounds[i].tables.length ∧ ∀ (j : Nat) (h : j < c.rounds[i].tables.length), j < k → ¬ 10 < c.rounds[i].tables[j].length) (fun (k : Nat) => c.rounds[i].tables.length - k) 0 yS ⟨Nat.zero_le _, fun j h h2 => by omega⟩ (fun k B hI hB => ?_); try dsimp only at hI hB; simp only [zap, zau]
        obtain ⟨hI, hI3⟩ := hI
        by_cases hk : (k : Int) < (c.rounds[i].tables.length : Int)
        · have hk' : k < c.rounds[i].tables.length := by omega
          repeat' (first | (with_reducible first | refine DS.fltS yU yU yE ?_ | refine DS.opsNil ?_ | refine DS.seq ?_ | refine DS.regionL ?_ | (refine DS.cE yE ?_; first | refine CG.p (fun _ => ?_) (fun _ => ?_) | refine CG.yes ?_) | refine DS.blk ?_ | refine DS.block ?_ | refine DS.skip ?_) | fail)
          · repeat' (first | refine DS.retT [] yE trivial ?_ | fail)
            rw [big (.inr (.inr (.inr (.inl ⟨_, List.getElem_mem hk', by omega⟩))))]; rfl
          · exact DS.back (hB (k + 1) _ _ (by omega) (⟨by omega, fun j h h2 => if e : j = k then by subst e; omega else hI3 j h (by omega)⟩) yS yS (fun b o e => by first | exact e | (simp only [zaa]; split <;> simp_all)))
        clear hB
        have hI4 : ∀ t ∈ c.rounds[i].tables, ¬ 10 < t.length := fun t ht => by
          obtain ⟨j, hj, rfl⟩ := List.getElem_of_mem ht
          exact hI3 j hj (by omega)
        clear hI3
        repeat' (first | (with_reducible first | refine DS.fltS yU yU yE ?_ | refine DS.opsNil ?_ | refine DS.seq ?_ | refine DS.regionL ?_ | (refine DS.cE yE ?_; refine CG.no ?_) | refine DS.block ?_ | refine DS.exit yU ?_) | fail)
        refine DS.loopK [1, 3, 4] (by (simp only [go_sem, Nat.reduceEqDiff, ↓reduceIte]; exact rfl)) (fun (k2 : Nat) => [(6, I k2)]) (fun (k2 : Nat) => k2 ≤ c.rounds[i].points.length ∧ ∀ (j : Nat) (h : j < c.rounds[i].points.length), j < k2 → ¬ 10 < c.rounds[i].points[j].length) (fun (k2 : Nat) => c.rounds[i].points.length - k2) 0 yS ⟨Nat.zero_le _, fun j h h2 => by omega⟩ (fun k2 B hI hB => ?_); try dsimp only at hI hB; simp only [zap, zau]
        obtain ⟨hI, hI3⟩ := hI
        by_cases hk2 : (k2 : Int) < (c.rounds[i].points.length : Int)
        · have hk' : k2 < c.rounds[i].points.length := by omega
          repeat' (first | (with_reducible first | refine DS.fltS yU yU yE ?_ | refine DS.opsNil ?_ | refine DS.seq ?_ | refine DS.regionL ?_ | (refine DS.cE yE ?_; first | refine CG.p (fun _ => ?_) (fun _ => ?_) | refine CG.yes ?_) | refine DS.blk ?_ | refine DS.block ?_ | refine DS.skip ?_) | fail)
          · repeat' (first | refine DS.retT [] yE trivial ?_ | fail)
            rw [big (.inr (.inr (.inr (.inr (.inl ⟨_, List.getElem_mem hk', by omega⟩)))))]; rfl
          · exact DS.back (hB (k2 + 1) _ _ (by omega) (⟨by omega, fun j h h2 => if e : j = k2 then by subst e; omega else hI3 j h (by omega)⟩) yS yS (fun b o e => by first | exact e | (simp only [zaa]; split <;> simp_all)))
        clear hB
        have hI5 : ∀ t ∈ c.rounds[i].points, ¬ 10 < t.length := fun t ht => by
          obtain ⟨j, hj, rfl⟩ := List.getElem_of_mem ht
          exact hI3 j hj (by omega)
        clear hI3
        repeat' (first | (with_reducible first | refine DS.fltS yU yU yE ?_ | refine DS.opsNil ?_ | refine DS.seq ?_ | refine DS.regionL ?_ | (refine DS.cE yE ?_; refine CG.no ?_) | refine DS.block ?_ | refine DS.exit yU ?_) | fail)
        refine DS.loopK [1, 3, 4] (by (simp only [go_sem, Nat.reduceEqDiff, ↓reduceIte]; exact rfl)) (fun (k3 : Nat) => [(7, I k3)]) (fun (k3 : Nat) => k3 ≤ c.rounds[i].rulings.length ∧ ∀ (j : Nat) (h : j < c.rounds[i].rulings.length), j < k3 → ¬ 10 < c.rounds[i].rulings[j].points.length) (fun (k3 : Nat) => c.rounds[i].rulings.length - k3) 0 yS ⟨Nat.zero_le _, fun j h h2 => by omega⟩ (fun k3 B hI hB => ?_); try dsimp only at hI hB; simp only [zap, zau]
        obtain ⟨hI, hI3⟩ := hI
        by_cases hk3 : (k3 : Int) < (c.rounds[i].rulings.length : Int)
        · have hk' : k3 < c.rounds[i].rulings.length := by omega
          repeat' (first | (with_reducible first | refine DS.fltS yU yU yE ?_ | refine DS.opsNil ?_ | refine DS.seq ?_ | refine DS.regionL ?_ | (refine DS.cE yE ?_; first | refine CG.p (fun _ => ?_) (fun _ => ?_) | refine CG.yes ?_) | refine DS.blk ?_ | refine DS.block ?_ | refine DS.skip ?_) | fail)
          · repeat' (first | refine DS.retT [] yE trivial ?_ | fail)
            rw [big (.inr (.inr (.inr (.inr (.inr ⟨_, List.getElem_mem hk', by omega⟩)))))]; rfl
          · exact DS.back (hB (k3 + 1) _ _ (by omega) (⟨by omega, fun j h h2 => if e : j = k3 then by subst e; omega else hI3 j h (by omega)⟩) yS yS (fun b o e => by first | exact e | (simp only [zaa]; split <;> simp_all)))
        clear hB
        have hI6 : ∀ t ∈ c.rounds[i].rulings, ¬ 10 < t.points.length := fun t ht => by
          obtain ⟨j, hj, rfl⟩ := List.getElem_of_mem ht
          exact hI3 j hj (by omega)
        clear hI3 big
        repeat' (first | (with_reducible first | refine DS.fltS yU yU yE ?_ | refine DS.opsNil ?_ | refine DS.seq ?_ | refine DS.regionL ?_ | (refine DS.cE yE ?_; refine CG.no ?_) | refine DS.blk ?_ | refine DS.exit yU ?_) | fail)
        refine DS.back (hB0 (i + 1) _ _ (by omega) ⟨by omega, fun j h h2 => if e : j = i then by
          subst e
          rintro (h | h | h | ⟨t, h, h2⟩ | ⟨t, h, h2⟩ | ⟨t, h, h2⟩)
          · omega
          · omega
          · omega
          · exact hI4 t h h2
          · exact hI5 t h h2
          · exact hI6 t h h2
          else hI2 j h (by omega)⟩ yS yS (fun d o e => by cases e))
      · repeat' (first | refine DS.retT [] yE trivial ?_ | fail)
        rw [big (.inr (.inl (by omega)))]; rfl
      · repeat' (first | refine DS.retT [] yE trivial ?_ | fail)
        rw [big (.inl (by omega))]; rfl
    · repeat' (first | (with_reducible first | refine DS.fltS yU yU yE ?_ | refine DS.opsNil ?_ | refine DS.seq ?_ | refine DS.regionL ?_ | (refine DS.cE yE ?_; refine CG.no ?_) | refine DS.exit yU ?_) | refine DS.retT [] yE trivial ?_ | fail)
      rw [bigS_false]; rfl
      rintro (h | h | h | ⟨s, h, h2⟩)
      · omega
      · omega
      · omega
      · obtain ⟨j, hj, rfl⟩ := List.getElem_of_mem h
        exact hI2 j hj (by omega) h2
  · repeat' (first | refine DS.retT [] yE trivial ?_ | fail)
    rw [zls (.inr (.inl (by omega)))]; rfl
  · repeat' (first | refine DS.retT [] yE trivial ?_ | fail)
    rw [zls (.inl (by omega))]; rfl
end Go.XL
namespace Go.XL
open Go.Proofs
set_option maxHeartbeats 4000000
section
variable {v0 : VH} {P : Program} {n : Nat} {E : VEnv} {S : Sto} {dst : Option Tmp} {ty : TypeId} {pos : String} {af : Array Edge}
theorem OpS.mono {o : Oper} {R R' : V → VEnv → Sto → Prop} (h : OpS v0 P n o E S R) (k : ∀ u E' S', R u E' S' → R' u E' S') : OpS v0 P n o E S R' := fun K D hv hold env a w h1 h2 h3 =>
  (h K D hv hold env a w h1 h2 h3).mono fun _ _ ⟨hs, u, E', S', hv', hold', p, q, r⟩ => ⟨hs, u, E', S', hv', hold', p, q, k _ _ _ r⟩
theorem OpS.appE {g : GR} {T t by_ e sz : Nat} {sx x : Operand} {vx : V} (hd : dst = some t) (ht : tel P T = some (e, sz, by_))
    (hs : evV E sx = some g.cell) (hok : g.Ok e sz S) (hx : evV E x = some vx) (hxl : zdz vx = some []) :
    OpS v0 P n ⟨dst, .call { callee := .builtin .append, args := #[sx, x], argTypes := #[T, T] }, ty, pos, af, none⟩ E S (fun u E' S' => E' = E ∧ u = g.cell ∧ S' = S) := by
  subst hd
  intro K D hv hold env a w hfl ha s
  obtain ⟨yx, g3, g3'⟩ := s.rl _ _ hx
  have hxR := zfw hxl g3'
  obtain ⟨hu, i, hi, hisz, hiby⟩ := zhu ht
  obtain ⟨ao, c, sz', rfl, x1, x2, x3, x4⟩ := hxR
  simp only [List.length_nil] at g3
  have key : ∀ y, g.cell.Rl hv y → ev env sx = some y → (Builtin.append_ #[T, T] ty #[y, .slice ao 0 c]).run P w = .ok y w → Yields P ⟨some t, .call { callee := .builtin .append, args := #[sx, x], argTypes := #[T, T] }, ty, pos, af, none⟩ a w fun y' w' => Same w w' ∧ ∃ u E' S' hv' hold', PreV hv hv' ∧ St K hv' hold' (putV E' (some t) u) S' (put env (some t) y') w'.heap ∧ (E' = E ∧ u = g.cell ∧ S' = S) := fun y h1 h2 hr => by
    have hrun : (execOp a.eval ⟨some t, .call { callee := .builtin .append, args := #[sx, x], argTypes := #[T, T] }, ty, pos, af, none⟩).run P w = .ok (.value y) w := by
      simp [execOp, resolve, invoke, builtin, ha.ev h2, ha.ev g3, hr]
    refine zdy hrun ⟨Same.refl w, g.cell, E, S, hv, hold, PreV.refl hv, s.put (some t) h1 fun u hu => ?_, rfl, rfl, rfl⟩
    obtain ⟨l, blk⟩ := g
    cases blk <;> exact trivial
  obtain ⟨y, g2, g2'⟩ := s.rl _ _ hs
  refine key y g2' g2 ?_
  obtain ⟨l, blk⟩ := g
  cases blk with
  | none =>
    simp only [GR.cell, V.Rl] at g2'; subst g2'
    cases ao <;> simp [Builtin.append_, run_underlying hu, sizeOf, typeInfo, hi, Builtin.lenOf, Builtin.firstCells, loadCells, loadCellsFrom]
  | some z =>
    obtain ⟨b, cap, j⟩ := z
    simp only [GR.cell, V.Rl] at g2'; subst g2'
    have hle := hok.le
    cases ao <;> simp [Builtin.append_, run_underlying hu, sizeOf, typeInfo, hi, Builtin.lenOf, Builtin.firstCells, loadCells, loadCellsFrom, hle, storeCells]
theorem OpS.appA {g : GR} {T t by_ e sz : Nat} {z : Value} {sx x : Operand} {vx : V} {ml : List (List V)} (hd : dst = some t) (ht : tel P T = some (e, sz, by_)) (hz : zde P e = some z) (hzs : z.cells.size = sz) (hzo : zgf z.cells.toList = true) (hsz : 0 < sz)
    (hs : evV E sx = some g.cell) (hok : g.Ok e sz S) (hx : evV E x = some vx) (hxl : zdz vx = some ml) (hml : ∀ c ∈ ml, c.length = sz) (hfit : g.l.length + ml.length ≤ 2147483648 ∧ by_ ≤ 65536) :
    OpS v0 P n ⟨dst, .call { callee := .builtin .append, args := #[sx, x], argTypes := #[T, T] }, ty, pos, af, none⟩ E S
      (fun u E' S' => E' = E ∧ ∃ g' : GR, u = g'.cell ∧ g'.l = g.l ++ ml.map (·.map V.copy) ∧ g'.Ok e sz S' ∧ (∀ b cap j, g'.blk = some (b, cap, j) → (∃ cap j, g.blk = some (b, cap, j)) ∨ zab S b = none) ∧
        ∀ b, (∀ cap j, g'.blk ≠ some (b, cap, j)) → (∀ cap j, g.blk ≠ some (b, cap, j)) → zab S' b = zab S b) := by
  cases ml with
  | nil =>
    refine (OpS.appE hd ht hs hok hx hxl).mono ?_
    rintro u E' S' ⟨rfl, rfl, rfl⟩
    exact ⟨rfl, g, rfl, by simp, hok, fun b cap j h => .inl ⟨cap, j, h⟩, fun _ _ _ => rfl⟩
  | cons c r =>
    refine (OpS.appG hd ht hz hzs hzo hsz hs hok hx hxl (by simp) hml hfit).mono ?_
    rintro u E' S' ⟨rfl, b', cap', junk, rfl, m1, m2, m3⟩
    exact ⟨rfl, _, rfl, rfl, m1, fun b cap j h => by cases h; exact m2, fun b h1 h2 => m3 b (fun h => h1 cap' junk (by rw [h])) h2⟩
end
end Go.XL
namespace Go.XL
open Go.Proofs
set_option maxRecDepth 100000
set_option maxHeartbeats 8000000
theorem ne_cells {α : Type} {f : α → List V} (hf : ∀ a, f a ≠ []) (l : List α) : ∀ c ∈ l.map f, c ≠ [] := fun c hc => by
  obtain ⟨x, _, rfl⟩ := List.mem_map.1 hc; exact hf x
theorem cloneL_dc (l : List (List Int)) (hl : l.length ≤ 2147483647) : DC Try.prog 106 [.lst (l.map cR)] [] (fun u S' => ∃ g : GR, u = g.cell ∧ g.Ok 22 1 S' ∧ g.l = l.map cR) := by
  refine DC.of_run Try.func106 rfl Try.ntmps106 Try.results106 (by simp) (fun _ => ?_); simp only [zan, zas, go_sem, Nat.zero_add, Nat.reduceAdd]
  repeat' (first | (with_reducible first | refine DS.fltS yU yU yE ?_ | refine DS.opsNil ?_ | refine DS.seq ?_ | refine DS.regionL ?_) | fail)
  refine DS.eqNil yR yU yG yR (ne_cells (fun _ h => by cases h) l) (fun b hb => ?_)
  cases b with
  | true =>
    have hb := hb rfl
    rw [hb]
    repeat' (first | (with_reducible first | refine DS.fltS yU yU yE ?_ | refine DS.opsNil ?_ | refine DS.seq ?_ | refine DS.regionL ?_ | (refine DS.cE yE ?_; refine CG.yes ?_)) | fail)
    refine DS.retA yG ⟨⟨[], none⟩, rfl, rfl, rfl⟩
  | false =>
    clear hb
    repeat' (first | (with_reducible first | refine DS.opsNil ?_ | refine DS.seq ?_ | refine DS.regionL ?_ | (refine DS.cE yE ?_; refine CG.no ?_) | refine DS.skip ?_) | fail)
    refine DS.bslO yR yG yG (fun b hb => ?_)
    repeat' (first | with_reducible refine DS.fltS yU yU yE ?_ | fail)
    have G : GR.Ok 22 1 [(b, .cells [] 22)] ⟨[], some (b, 0, [])⟩ := ⟨by simp [zab], rfl, Nat.le_refl _, Nat.zero_le _, by simp, by simp, by simp⟩
    refine DS.step rfl rfl yR (OpS.appA (g := ⟨[], some (b, 0, [])⟩) (ml := l.map cR) rfl yH yH yR yR (by decide) yH G yH yH (by intro x hx; obtain ⟨y, -, rfl⟩ := List.mem_map.1 hx; rfl) ⟨by simp only [List.length_map, List.length_nil]; omega, by decide⟩) (fun u2 E' S4 hu2 => ?_)
    obtain ⟨rfl, g, rfl, m1, m2, -⟩ := hu2
    simp only [zcj]
    repeat' (first | (with_reducible first | refine DS.fltS yU yU yE ?_ | refine DS.opsNil ?_) | fail)
    refine DS.retA yG ⟨g, (by exact g.cell_copy), m2, ?_⟩
    rw [m1, List.nil_append, List.map_map]; rfl
theorem cloneM_pc (l : List Member) (hl : l.length ≤ 2147483647) : PC Try.prog 103 [.lst (l.map Member.cells)] (.own false 88 4 (l.map Member.cells)) := by
  refine DC.of_run Try.func103 rfl Try.ntmps103 Try.results103 (by simp) (fun _ => ?_); simp only [zan, zas, go_sem, Nat.zero_add, Nat.reduceAdd]
  repeat' (first | (with_reducible first | (refine DS.nilOwn (t := 2) yU (by first | exact .inl rfl | exact .inr rfl) yE ?_) | refine DS.fltS yU yU yE ?_ | refine DS.opsNil ?_ | refine DS.seq ?_ | refine DS.regionL ?_) | fail)
  refine DS.eqNil yR yU yG yR (ne_cells (fun _ h => by cases h) l) (fun b hb => ?_)
  cases b with
  | true =>
    have hb := hb rfl
    simp only [List.map_eq_nil_iff] at hb
    subst hb
    repeat' (first | (with_reducible first | (refine DS.nilOwn (t := 2) yU (by first | exact .inl rfl | exact .inr rfl) yE ?_) | refine DS.opsNil ?_ | refine DS.seq ?_ | refine DS.regionL ?_ | (refine DS.cE yE ?_; refine CG.yes ?_)) | refine DS.retT [] yE trivial ?_ | fail)
    rfl
  | false =>
    clear hb
    repeat' (first | (with_reducible refine DS.mv (t := 2) yU (by first | exact .inl rfl | exact .inr rfl) yE ?_; simp only [zak, zac, zad, Nat.reduceEqDiff, ↓reduceIte, zag, zah, zao, zaf, zae, zal, zai]) | (with_reducible first | refine DS.fltS yU yU yE ?_ | refine DS.opsNil ?_ | refine DS.seq ?_ | refine DS.regionL ?_ | (refine DS.cE yE ?_; refine CG.no ?_) | refine DS.skip ?_) | (refine DS.bsl yU yE yE ?_; simp only [go_sem, Nat.zero_add, Nat.reduceAdd]) | (refine DS.append (mm := false) yU yE yE yU (by decide) yE (by first | exact .inl rfl | exact .inr ⟨rfl, rfl⟩) yE yX0 (by first | exact zar zcu _ | exact zar zdm _ | exact zar Member.len _ | exact zar Sitting.len _ | exact zar Ruling.len _ | (simp only [List.mem_cons, List.not_mem_nil, or_false, forall_eq]; rfl) | simp) ⟨by (try simp only [List.length_map, List.length_cons, List.length_nil, List.length_append, List.length_take, List.length_drop]); omega, by decide⟩ ?_; simp only [zak, zac, zad, Nat.reduceEqDiff, ↓reduceIte, zag, zah, zao, zaf, zae, zal, zai]) | refine DS.retT [] yE trivial ?_ | fail)
    rfl
theorem cloneS_dc (l : List Sitting) (hl : l.length ≤ 2147483647) : DC Try.prog 104 [.lst (l.map Sitting.cells)] [] (fun u S' => ∃ g : GR, u = g.cell ∧ g.Ok 81 3 S' ∧ g.l = l.map Sitting.cells) := by
  refine DC.of_run Try.func104 rfl Try.ntmps104 Try.results104 (by simp) (fun _ => ?_); simp only [zan, zas, go_sem, Nat.zero_add, Nat.reduceAdd]
  repeat' (first | (with_reducible first | refine DS.fltS yU yU yE ?_ | refine DS.opsNil ?_ | refine DS.seq ?_ | refine DS.regionL ?_) | fail)
  refine DS.eqNil yR yU yG yR (ne_cells (fun _ h => by cases h) l) (fun b hb => ?_)
  cases b with
  | true =>
    have hb := hb rfl
    rw [hb]
    repeat' (first | (with_reducible first | refine DS.fltS yU yU yE ?_ | refine DS.opsNil ?_ | refine DS.seq ?_ | refine DS.regionL ?_ | (refine DS.cE yE ?_; refine CG.yes ?_)) | fail)
    refine DS.retA yG ⟨⟨[], none⟩, rfl, rfl, rfl⟩
  | false =>
    clear hb
    repeat' (first | (with_reducible first | refine DS.opsNil ?_ | refine DS.seq ?_ | refine DS.regionL ?_ | (refine DS.cE yE ?_; refine CG.no ?_) | refine DS.skip ?_) | fail)
    refine DS.bslO yR yG yG (fun b hb => ?_)
    repeat' (first | with_reducible refine DS.fltS yU yU yE ?_ | fail)
    have G : GR.Ok 81 3 [(b, .cells [] 81)] ⟨[], some (b, 0, [])⟩ := ⟨by simp [zab], rfl, Nat.le_refl _, Nat.zero_le _, by simp, by simp, by simp⟩
    refine DS.step rfl rfl yR (OpS.appA (g := ⟨[], some (b, 0, [])⟩) (ml := l.map Sitting.cells) rfl yH yH yR yR (by decide) yH G yH yH (by intro x hx; obtain ⟨y, -, rfl⟩ := List.mem_map.1 hx; rfl) ⟨by simp only [List.length_map, List.length_nil]; omega, by decide⟩) (fun u2 E' S4 hu2 => ?_)
    obtain ⟨rfl, g, rfl, m1, m2, -⟩ := hu2
    simp only [zcj]
    repeat' (first | (with_reducible first | refine DS.fltS yU yU yE ?_ | refine DS.opsNil ?_) | fail)
    refine DS.retA yG ⟨g, (by exact g.cell_copy), m2, ?_⟩
    rw [m1, List.nil_append, List.map_map]; rfl
theorem cloneR_dc (l : List Ruling) (hl : l.length ≤ 2147483647) : DC Try.prog 105 [.lst (l.map Ruling.cells)] [] (fun u S' => ∃ g : GR, u = g.cell ∧ g.Ok 78 3 S' ∧ g.l = l.map Ruling.cells) := by
  refine DC.of_run Try.func105 rfl Try.ntmps105 Try.results105 (by simp) (fun _ => ?_); simp only [zan, zas, go_sem, Nat.zero_add, Nat.reduceAdd]
  repeat' (first | (with_reducible first | refine DS.fltS yU yU yE ?_ | refine DS.opsNil ?_ | refine DS.seq ?_ | refine DS.regionL ?_) | fail)
  refine DS.eqNil yR yU yG yR (ne_cells (fun _ h => by cases h) l) (fun b hb => ?_)
  cases b with
  | true =>
    have hb := hb rfl
    rw [hb]
    repeat' (first | (with_reducible first | refine DS.fltS yU yU yE ?_ | refine DS.opsNil ?_ | refine DS.seq ?_ | refine DS.regionL ?_ | (refine DS.cE yE ?_; refine CG.yes ?_)) | fail)
    refine DS.retA yG ⟨⟨[], none⟩, rfl, rfl, rfl⟩
  | false =>
    clear hb
    repeat' (first | (with_reducible first | refine DS.opsNil ?_ | refine DS.seq ?_ | refine DS.regionL ?_ | (refine DS.cE yE ?_; refine CG.no ?_) | refine DS.skip ?_) | fail)
    refine DS.bslO yR yG yG (fun b hb => ?_)
    repeat' (first | with_reducible refine DS.fltS yU yU yE ?_ | fail)
    have G : GR.Ok 78 3 [(b, .cells [] 78)] ⟨[], some (b, 0, [])⟩ := ⟨by simp [zab], rfl, Nat.le_refl _, Nat.zero_le _, by simp, by simp, by simp⟩
    refine DS.step rfl rfl yR (OpS.appA (g := ⟨[], some (b, 0, [])⟩) (ml := l.map Ruling.cells) rfl yH yH yR yR (by decide) yH G yH yH (by intro x hx; obtain ⟨y, -, rfl⟩ := List.mem_map.1 hx; rfl) ⟨by simp only [List.length_map, List.length_nil]; omega, by decide⟩) (fun u2 E' S4 hu2 => ?_)
    obtain ⟨rfl, g, rfl, m1, m2, -⟩ := hu2
    simp only [zcj]
    repeat' (first | (with_reducible first | refine DS.fltS yU yU yE ?_ | refine DS.opsNil ?_) | fail)
    refine DS.retA yG ⟨g, (by exact g.cell_copy), m2, ?_⟩
    rw [m1, List.nil_append, List.map_map]; rfl
end Go.XL
namespace Go.XL
open Go.Proofs
set_option maxRecDepth 100000
set_option maxHeartbeats 8000000
theorem PC.of_peek {P : Program} {f : FuncId} {args : List V} {v : V} (h : DC P f args [] fun u _ => u.peek = v) : PC P f args v := by
  intro v0 K hv hold hp xs hx ha s
  refine (h v0 K hv hold hp xs hx ha s).mono ?_
  rintro y h' ⟨u, S', hv', hold', p, st, rfl⟩
  refine ⟨u.peek, S', hv', hold', p, ⟨st.pre, fun t w e => ?_, st.obj, st.held, st.base, st.vbase⟩, rfl⟩
  rw [zad] at e
  split at e
  · rename_i ht
    cases e
    obtain ⟨z, h1, h2, -⟩ := st.slot t u (by rw [zad, if_pos ht])
    exact ⟨z, h1, V.peek_Rl h2, V.free_Own (zdc u) z⟩
  · cases e
theorem zki (l : List (List Int)) (hl : l.length ≤ 1000000) (hr : ∀ t ∈ l, t.length ≤ 1000000) : PC Try.prog 69 [rows l] (rows l) := by
  refine PC.of_peek ?_
  refine DC.of_run Try.func69 rfl Try.ntmps69 Try.results69 (by simp) (fun _ => ?_); simp only [zan, zas, go_sem, Nat.zero_add, Nat.reduceAdd]
  repeat' (first | (with_reducible first | refine DS.fltS yU yU yE ?_ | refine DS.opsNil ?_ | refine DS.seq ?_ | refine DS.regionL ?_) | fail)
  refine DS.callA inferInstance (cloneL_dc l (by omega)) yR yH (fun u S' hu => ?_)
  obtain ⟨⟨R, blk⟩, rfl, gok, rfl⟩ := hu
  cases blk with
  | none =>
    have h0 : l = [] := List.map_eq_nil_iff.1 gok
    subst h0
    simp only [List.map_nil, GR.cell_none]
    repeat' (first | (with_reducible first | refine DS.fltS yU yU yE ?_ | refine DS.opsNil ?_ | refine DS.seq ?_ | refine DS.regionL ?_ | refine DS.block ?_) | fail)
    refine DS.loopK [3, 8] (by (simp only [go_sem, Nat.reduceEqDiff, ↓reduceIte]; exact rfl)) (fun (y : Nat) => [(9, I y)]) (fun (y : Nat) => y = 0) (fun (y : Nat) => y) 0 yS rfl (fun y B hI hB => ?_); try dsimp only at hI hB; simp only [zap, zau]
    subst hI
    repeat' (first | (with_reducible first | refine DS.fltS yU yU yE ?_ | refine DS.opsNil ?_ | refine DS.seq ?_ | refine DS.regionL ?_ | (refine DS.cE yE ?_; refine CG.no ?_) | refine DS.exit yU ?_) | refine DS.retT [] yE trivial ?_ | fail)
    rfl
  | some z =>
  obtain ⟨b, cap, junk⟩ := z
  have k1 := gok.look
  have k2 := gok.le
  have k3 := gok.cap
  rw [zwg] at k1
  rw [List.length_map] at k2
  simp only [GR.cell_some, List.length_map]
  refine DS.reS (S' := [(b, .cells ((l.map fun t => ints t) ++ junk) 22)]) (fun d o e => by
    simp only [zaa, zce] at e
    split at e
    · rename_i h; subst h; rw [k1]; exact e
    · cases e) ?_
  clear gok k1
  repeat' (first | (with_reducible first | refine DS.fltS yU yU yE ?_ | refine DS.opsNil ?_ | refine DS.seq ?_ | refine DS.regionL ?_ | refine DS.block ?_) | fail)
  refine DS.loopS [3, 8] (by (simp only [go_sem, Nat.reduceEqDiff, ↓reduceIte]; exact rfl)) (fun (y : Nat × List V) => [(9, I y.1)]) (fun (y : Nat × List V) => [(b, .cells y.2 22)]) (fun (y : Nat × List V) => y.1 ≤ l.length ∧ l.length ≤ y.2.length ∧ ∀ (k : Nat) (h : k < l.length), y.2[k]? = some (ints l[k])) (fun (y : Nat × List V) => l.length - y.1) (0, (l.map fun t => ints t) ++ junk) yS (fun b o e => by exact e) ⟨Nat.zero_le _, by simp, fun k h => zmc h⟩ (fun y B hI hB => ?_); try dsimp only at hI hB; simp only [zap, zau]
  obtain ⟨i, L⟩ := y
  dsimp only at hI hB ⊢
  obtain ⟨g1, g2, g3⟩ := hI
  have H := Box.mk g3
  clear g3
  by_cases hi : (i : Int) < (l.length : Int)
  · have hi' : i < l.length := by omega
    have h1 := H.out i hi'
    have h2 := hr _ (List.getElem_mem hi')
    repeat' (first | (with_reducible first | refine DS.fltS yU yU yE ?_ | refine DS.opsNil ?_ | refine DS.seq ?_ | refine DS.regionL ?_ | (refine DS.cE yE ?_; refine CG.yes ?_) | refine DS.blk ?_ | refine DS.block ?_ | refine DS.skip ?_) | refine DS.pcS inferInstance (zjd _ (Nat.le_trans h2 (by decide))) yR yT ?_ | (refine DS.store yR yE yE yE yE yU (by exact ⟨by with_unfolding_all rfl, by (try simp only [List.length_map, List.length_append, List.length_set, List.length_replicate, List.length_cons, List.length_nil]); omega⟩) ?_; simp only [zbm, zaq, zat, zbz, zbn, zbl, zbh]; try simp only [zak, zac, zad, Nat.reduceEqDiff, ↓reduceIte, zag, zah, zao, zaf, zae, zal, zai]) | fail)
    simp only [setS, ↓reduceIte]
    refine DS.mapO (b := b) V.peek (fun _ _ _ h => V.peek_Rl h) zdc (by simp only [zaa, ↓reduceIte]; exact rfl) ?_
    simp only [setS, ↓reduceIte]
    refine DS.back (hB (i + 1, (L.set i (.own false 3 1 (l[i].map cI))).map V.peek) _ _ (by dsimp only; omega) ⟨by dsimp only; omega, by simp; omega, fun k hk => ztt (by omega) (H.out k hk)⟩ yS yS (fun d o e => by exact e))
  · refine DS.freeze (b := b) (l := L) (T := 22) (len := l.length) (t := 3) (sz := 1) yR (by simp only [zaa, ↓reduceIte]) (by omega) ⟨k2, k3⟩ ?_
    have hch : chunk 1 l.length (L.map V.copy) = l.map cR := zlr _ _ _ (by rw [List.length_map]) fun k hk => by
      rw [List.length_map] at hk
      have h1 := H.out k hk
      obtain ⟨hk2, h3⟩ := List.getElem?_eq_some_iff.1 h1
      rw [Nat.mul_one, List.drop_eq_getElem_cons (by rw [List.length_map]; exact hk2), List.take_succ_cons, List.take_zero, List.getElem_map, h3, List.getElem_map]
      rfl
    rw [hch]
    repeat' (first | (with_reducible first | refine DS.fltS yU yU yE ?_ | refine DS.opsNil ?_ | refine DS.seq ?_ | refine DS.regionL ?_ | (refine DS.cE yE ?_; refine CG.no ?_) | refine DS.exit yU ?_) | refine DS.retT [] yE trivial ?_ | fail)
    rfl
end Go.XL
namespace Go.XL
open Go.Proofs
set_option maxRecDepth 100000
set_option maxHeartbeats 8000000
section
variable {P : Program} {n : Nat} {r : Rr} {Q : VEnv → Sto → Prop} {ops : List Oper} {S0 S1 : Sto} {k : List Fr} {E0 E : VEnv} {dst : Option Tmp} {ty : TypeId} {pos : String} {af : Array Edge} {ts : Array TypeId}
theorem DD.callL {g : FuncId} {args : List V} {xs : Array Operand} {fn : Func} {R : V → Sto → Prop} (hf : FnOk P g fn) (hc : DC P g args [] R) (hd : dok n dst = true) (he : (evsV (evV E) xs.toList).map (·.map V.peek) = some args)
    (q : ∀ v Sg, R v Sg → (∀ b o, zab S0 b = some o → zab Sg b = none) → DS P n r Q k (putV E dst v) (Sg ++ S0)) : DD P n r Q ops S0 [] [⟨dst, .call { callee := .value (.func g), args := xs, argTypes := ts }, ty, pos, af, none⟩] k E0 E S1 := by
  rw [Option.map_eq_some_iff] at he
  obtain ⟨ws, e1, e2⟩ := he
  refine DD.last rfl rfl rfl hd (OpS.call (fs := []) (cs := []) hf rfl e1 (S1 := []) (S2 := []) (R := R) (by simpa [e2] using hc _) (fun _ _ e => by cases e) (fun _ _ e => by cases e)) fun v E' S' h hdis => ?_
  obtain ⟨rfl, Sg, rfl, h1, -⟩ := h
  rw [List.append_nil] at hdis ⊢
  exact q v Sg h1 hdis
end
theorem zjz {Sg S0 : Sto} (hdis : ∀ b o, zab S0 b = some o → zab Sg b = none) {b : Nat} {o : Ob} (h : zab S0 b = some o) : zab (Sg ++ S0) b = some o := by rw [zby, hdis b o h]; exact h
theorem app_l {Sg S0 : Sto} {b : Nat} {o : Ob} (h : zab Sg b = some o) : zab (Sg ++ S0) b = some o := by rw [zby, h]
theorem zmo {Sg S0 : Sto} (hdis : ∀ b o, zab S0 b = some o → zab Sg b = none) {b d : Nat} {o o' : Ob} (h : zab Sg b = some o) (h0 : zab S0 d = some o') : ¬ b = d := fun e => by
  subst e; rw [hdis _ _ h0] at h; cases h
abbrev gC (c : Club) (v : V) : List V := [I c.size, I c.start, I c.absent, I c.window, ints c.places, Bo c.share, .lst (c.members.map Member.cells), v]
theorem SitAt.flat {L : List V} {R : List Sitting} (h : SitAt L R) : L = (R.map Sitting.cells).flatten ++ L.drop (R.length * 3) := by
  apply List.ext_getElem?
  intro i
  by_cases hi : i < R.length * 3
  · obtain ⟨k, j, hj, rfl⟩ : ∃ k j, j < 3 ∧ i = k * 3 + j := ⟨i / 3, i % 3, by omega, by omega⟩
    have hk : k < R.length := by omega
    rw [zsc Sitting.len _ R k hk j hj]
    rcases (by omega : j = 0 ∨ j = 1 ∨ j = 2) with rfl | rfl | rfl
    · rw [Nat.add_zero, h.tab k hk]; rfl
    · rw [h.pts k hk]; rfl
    · rw [h.rul k hk]; rfl
  · rw [List.getElem?_append_right (by rw [zet Sitting.len]; omega), zet Sitting.len, List.getElem?_drop]
    congr 1; omega
theorem sits_rows (R : List Sitting) : ∀ v ∈ (R.map Sitting.cells).flatten, v.free = true := fun v hv => by
  obtain ⟨l, h1, h2⟩ := List.mem_flatten.1 hv
  obtain ⟨s, -, rfl⟩ := List.mem_map.1 h1
  simp only [Sitting.cells, List.mem_cons, List.not_mem_nil, or_false] at h2
  rcases h2 with rfl | rfl | rfl <;> rfl
theorem SitAt.ok {L : List V} {R : List Sitting} (h : SitAt L R) {b cap : Nat} {S : Sto} {e : Nat} (hS : zab S b = some (.cells (L.map V.peek) e)) (hl : L.length = cap * 3) (hc : R.length ≤ cap ∧ cap ≤ maxLen) : ∃ g : GR, g.cell = .v (.slice (some ⟨b, 0, none⟩) R.length cap) ∧ g.Ok e 3 S ∧ g.l = R.map Sitting.cells := by
  have hp := h.peek
  have hln := h.len
  refine ⟨⟨R.map Sitting.cells, some (b, cap, (L.map V.peek).drop (R.length * 3))⟩, by rw [GR.cell_some, List.length_map], ⟨by rw [hS]; congr 2; exact hp.flat, ?_, by rw [List.length_map]; exact hc.1, hc.2, fun v hv => ?_, sits_rows R, fun c hc => ?_⟩, rfl⟩
  · rw [List.length_map, List.length_drop, List.length_map]; omega
  · obtain ⟨u, -, rfl⟩ := List.mem_map.1 (List.mem_of_mem_drop hv)
    exact zdc u
  · obtain ⟨s, -, rfl⟩ := List.mem_map.1 hc; rfl
theorem copyP_dc (c : Club) (hs : c.Small) : DC Try.prog 68 [c.val] [] (fun u S' => ∃ g : GR, u = .agg (gC c g.cell) ∧ g.Ok 81 3 S' ∧ g.l = c.rounds.map Sitting.cells) := by
  have q1 := hs.rounds
  have q2 := hs.members
  have q3 := hs.places
  refine DC.of_runC Try.func68 rfl Try.ntmps68 Try.results68 (by simp) rfl (fun _ => ?_); simp only [zan, zas, go_sem, Nat.zero_add, Nat.reduceAdd]
  repeat' (first | (with_reducible first | refine DS.seq ?_ | refine DS.regionL ?_) | (with_reducible refine DS.boxS yU yE yU (fun _ hfr => ?_); have hfr := zgh hfr; simp only [zeg, zfe, and_true] at hfr; simp only [zbk, zcd, zbi, zbu, zbf, zaz, zbp, zbb, zca, zcc, zbq, zcb, zbt, zbs]) | fail)
  rename_i b1 hb1
  refine DS.allocS yR yU yU (fun b2 h2 => ?_)
  have n1 : ¬ b1 = b2 := fun e => by rw [zaa, if_pos e] at h2; cases h2
  have n1' : ¬ b2 = b1 := fun e => n1 e.symm
  clear h2 hb1
  have e0 : (Value.agg #[.int .i64 0, .int .i64 0, .int .i64 0, .int .i64 0, .slice none 0 0, .bool false, .slice none 0 0, .slice none 0 0]).cells.toList.map V.v = zci := rfl
  rw [e0]
  clear e0
  repeat' (first | (with_reducible first | refine DS.opsNil ?_ | refine DS.seq ?_) | refine DS.drawL (id := 1) [0, 1, 2, 3, 4, 5, 6, 7, 9, 8] 10 (by kernel_rfl) zct (by simp only [zay, zbc, zbd, zbe, zax]; exact rfl) (by simp only [zav, zaw, List.drop_nil]; exact rfl) ?_ | with_reducible refine DD.fltS yU yU yU yX49 ?_ | refine DD.pcS inferInstance (zjd c.places (by omega)) yU yX50 ?_; simp only [zbo, zbw, Nat.reduceEqDiff, ↓reduceIte] | refine DD.pcS inferInstance (cloneM_pc c.members (by omega)) yU yX50 ?_; simp only [zbo, zbw, Nat.reduceEqDiff, ↓reduceIte] | fail)
  refine DD.callL inferInstance (cloneS_dc c.rounds (by omega)) yR yH (fun u Sg hu hdis => ?_)
  obtain ⟨⟨R, blk⟩, rfl, gok, rfl⟩ := hu
  simp only [zcj]
  have l1 : zab [(b2, Ob.cells zci 26), (b1, .cells (gC c (.lst (c.rounds.map Sitting.cells))) 26)] b1 = some (.cells (gC c (.lst (c.rounds.map Sitting.cells))) 26) := by simp only [zaa, n1', ↓reduceIte]
  have l2 : zab [(b2, Ob.cells zci 26), (b1, .cells (gC c (.lst (c.rounds.map Sitting.cells))) 26)] b2 = some (.cells zci 26) := by simp only [zaa, ↓reduceIte]
  cases blk with
  | none =>
    have h0 : c.rounds = [] := List.map_eq_nil_iff.1 gok
    refine DS.reS (S' := [(b1, .cells (gC c (.lst (c.rounds.map Sitting.cells))) 26), (b2, .cells zci 26)]) (zdq ⟨zjz hdis l1, zjz hdis l2, trivial⟩) ?_
    clear hdis gok l1 l2
    simp only [GR.cell_none]
    repeat' (first | (with_reducible first | refine DS.fltS yU yU yE ?_ | refine DS.opsNil ?_ | refine DS.seq ?_ | refine DS.regionL ?_ | refine DS.block ?_) | (refine DS.store yR yE yE yE yE yU (by exact ⟨by with_unfolding_all rfl, by (try simp only [List.length_map, List.length_append, List.length_set, List.length_replicate, List.length_cons, List.length_nil]); omega⟩) ?_; simp only [zbm, zaq, zat, zbz, zbn, zbl, zbh]; try simp only [zak, zac, zad, Nat.reduceEqDiff, ↓reduceIte, zag, zah, zao, zaf, zae, zal, zai]) | fail)
    simp only [setS, n1, n1', ↓reduceIte, zbx, zbr]
    refine DS.mapO (b := b1) V.copy (fun _ _ _ h => V.copy_Rl h) zei (by simp only [zaa, n1, n1', ↓reduceIte]; exact rfl) ?_
    simp only [setS, n1, n1', ↓reduceIte]
    refine DS.loopS [1, 2, 20] (by (simp only [go_sem, Nat.reduceEqDiff, ↓reduceIte]; exact rfl)) (fun (y : Nat) => [(21, I y)]) (fun (y : Nat) => [(b1, .cells (gC c (.v (.slice none 0 0))) 26), (b2, .cells zci 26)]) (fun (y : Nat) => y = 0) (fun (y : Nat) => y) 0 yS (fun b o e => by exact e) rfl (fun y B hI hB => ?_); try dsimp only at hI hB; simp only [zap, zau]
    subst hI
    refine DS.freezeP (t := 1) yE yE ?_; simp only [zbj, zbv, ↓reduceIte, *, zbf, zaz, zbp, zbb, zca, zcc, zbq, zcb]
    repeat' (first | (refine DS.ldC (t := 78) yU yE yU (by simp only [List.length_cons, List.length_nil]; omega) ?_; simp only [List.take_succ_cons, List.take_zero, List.map_cons, List.map_nil, zbp, zbb, zca, Nat.reduceAdd]) | (with_reducible first | refine DS.fltS yU yU yE ?_ | refine DS.opsNil ?_ | refine DS.seq ?_ | refine DS.regionL ?_ | (refine DS.cE yE ?_; refine CG.no ?_) | refine DS.exit yU ?_) | (refine DS.store yR yE yE yE yE yU (by exact ⟨by with_unfolding_all rfl, by (try simp only [List.length_map, List.length_append, List.length_set, List.length_replicate, List.length_cons, List.length_nil]); omega⟩) ?_; simp only [zbm, zaq, zat, zbz, zbn, zbl, zbh]; try simp only [zak, zac, zad, Nat.reduceEqDiff, ↓reduceIte, zag, zah, zao, zaf, zae, zal, zai]) | fail)
    simp only [setS, n1, n1', ↓reduceIte, zaq, zat, zbr, zbx, zci, Nat.reduceAdd, Nat.zero_add]
    refine DS.retC [] yH yH yH yH (fun d o e => by cases e) ⟨⟨[], none⟩, rfl, rfl, by first | rfl | (rw [h0]; rfl)⟩
  | some z =>
  obtain ⟨b, cap, junk⟩ := z
  have k1 := gok.look
  have k2 := gok.le
  have k3 := gok.cap
  have k4 := gok.len
  rw [List.length_map] at k2 k4
  simp only [GR.cell_some, List.length_map]
  have e1 := zmo hdis k1 l1
  have e2 := zmo hdis k1 l2
  have e1' : ¬ b1 = b := fun h => e1 h.symm
  have e2' : ¬ b2 = b := fun h => e2 h.symm
  refine DS.reS (S' := [(b1, .cells (gC c (.lst (c.rounds.map Sitting.cells))) 26), (b2, .cells zci 26), (b, .cells ((c.rounds.map Sitting.cells).flatten ++ junk) 81)]) (zdq ⟨zjz hdis l1, zjz hdis l2, app_l k1, trivial⟩) ?_
  clear hdis gok k1 l1 l2
  repeat' (first | (with_reducible first | refine DS.fltS yU yU yE ?_ | refine DS.opsNil ?_ | refine DS.seq ?_ | refine DS.regionL ?_ | refine DS.block ?_) | (refine DS.store yR yE yE yE yE yU (by exact ⟨by with_unfolding_all rfl, by (try simp only [List.length_map, List.length_append, List.length_set, List.length_replicate, List.length_cons, List.length_nil]); omega⟩) ?_; simp only [zbm, zaq, zat, zbz, zbn, zbl, zbh]; try simp only [zak, zac, zad, Nat.reduceEqDiff, ↓reduceIte, zag, zah, zao, zaf, zae, zal, zai]) | fail)
  simp only [setS, ↓reduceIte, zbx, zbr]
  refine DS.mapO (b := b1) V.copy (fun _ _ _ h => V.copy_Rl h) zei (by simp only [zaa, n1, n1', e1', ↓reduceIte]; exact rfl) ?_
  simp only [setS, n1, n1', ↓reduceIte]
  refine DS.loopS [1, 2, 20] (by (simp only [go_sem, Nat.reduceEqDiff, ↓reduceIte]; exact rfl)) (fun (y : Nat × List V) => [(21, I y.1)]) (fun (y : Nat × List V) => [(b1, .cells (gC c (.v (.slice (some ⟨b, 0, none⟩) c.rounds.length cap))) 26), (b2, .cells zci 26), (b, .cells y.2 81)]) (fun (y : Nat × List V) => y.1 ≤ c.rounds.length ∧ SitAt y.2 c.rounds ∧ y.2.length = cap * 3) (fun (y : Nat × List V) => c.rounds.length - y.1) (0, (c.rounds.map Sitting.cells).flatten ++ junk) yS (fun b o e => by exact e) ⟨Nat.zero_le _, zjk _ _, by rw [List.length_append, zet Sitting.len]; exact k4⟩ (fun y B hI hB => ?_); try dsimp only at hI hB; simp only [zap, zau]
  obtain ⟨i, L⟩ := y
  dsimp only at hI hB ⊢
  have hB0 := hB
  clear hB
  obtain ⟨g1, g2, gl⟩ := hI
  by_cases hi : (i : Int) < (c.rounds.length : Int)
  · have hi' : i < c.rounds.length := by omega
    have hsm := hs.round _ (List.getElem_mem hi')
    have hL := g2.len
    have h1 := g2.tab i hi'
    have h2 := g2.pts i hi'
    have h3 := g2.rul i hi'
    repeat' (first | (with_reducible first | refine DS.fltS yU yU yE ?_ | refine DS.opsNil ?_ | refine DS.seq ?_ | refine DS.regionL ?_ | (refine DS.cE yE ?_; refine CG.yes ?_) | refine DS.block ?_ | refine DS.skip ?_) | fail)
    refine DS.drawPL (id := 6) [(b1, .cells (gC c (.v (.slice (some ⟨b, 0, none⟩) c.rounds.length cap))) 26), (b2, .cells zci 26), (b, .cells L 81)] [] [1, 2] [0, 3, 4, 5, 6, 7, 8, 9, 10, 11, 12, 13, 14, 15, 16, 17] 18 rfl (by kernel_rfl) (by decide) zct (fun _ _ e => ⟨e, rfl⟩) (fun _ _ e => by cases e)
      ⟨_, _, _, _, _, _, rfl, rfl, yG, _, _, _, _, _, _, rfl, rfl, yG, rfl⟩ (by simp only [zay, zbc, zbd, zbe, zax]; exact rfl) (by simp only [zav, zaw, List.drop_nil]; exact rfl) ?_
    have q5 := hsm.rulings
    repeat' (first | with_reducible refine DD.fltS yU yU yU yE ?_ | refine DD.pcS inferInstance (zki c.rounds[i].tables hsm.tables hsm.table) yU yF ?_; simp only [zbo, zbw, Nat.reduceEqDiff, ↓reduceIte] | refine DD.pcS inferInstance (zki c.rounds[i].points hsm.points hsm.point) yU yF ?_; simp only [zbo, zbw, Nat.reduceEqDiff, ↓reduceIte] | fail)
    refine DD.callL inferInstance (cloneR_dc c.rounds[i].rulings (by omega)) yR yH (fun u Sg hu hdis => ?_)
    obtain ⟨⟨R, blk⟩, rfl, gok, rfl⟩ := hu
    simp only [zcj]
    have l1 : zab [(b1, .cells (gC c (.v (.slice (some ⟨b, 0, none⟩) c.rounds.length cap))) 26), (b2, .cells zci 26), (b, .cells L 81)] b1 = some (.cells (gC c (.v (.slice (some ⟨b, 0, none⟩) c.rounds.length cap))) 26) := by simp only [zaa, ↓reduceIte]
    have l2 : zab [(b1, .cells (gC c (.v (.slice (some ⟨b, 0, none⟩) c.rounds.length cap))) 26), (b2, .cells zci 26), (b, .cells L 81)] b2 = some (.cells zci 26) := by simp only [zaa, n1, ↓reduceIte]
    have l3 : zab [(b1, .cells (gC c (.v (.slice (some ⟨b, 0, none⟩) c.rounds.length cap))) 26), (b2, .cells zci 26), (b, .cells L 81)] b = some (.cells L 81) := by simp only [zaa, e1', e2', ↓reduceIte]
    cases blk with
    | none =>
      have hr0 : c.rounds[i].rulings = [] := List.map_eq_nil_iff.1 gok
      refine DS.reS (S' := [(b1, .cells (gC c (.v (.slice (some ⟨b, 0, none⟩) c.rounds.length cap))) 26), (b2, .cells zci 26), (b, .cells L 81)]) (zdq ⟨zjz hdis l1, zjz hdis l2, zjz hdis l3, trivial⟩) ?_
      clear hdis gok l1 l2 l3
      simp only [GR.cell_none]
      repeat' (first | (with_reducible first | refine DS.fltS yU yU yE ?_ | refine DS.opsNil ?_ | refine DS.seq ?_ | refine DS.regionL ?_) | (refine DS.store yR yE yE yE yE yU (by exact ⟨by with_unfolding_all rfl, by (try simp only [List.length_map, List.length_append, List.length_set, List.length_replicate, List.length_cons, List.length_nil]); omega⟩) ?_; simp only [zbm, zaq, zat, zbz, zbn, zbl, zbh]; try simp only [zak, zac, zad, Nat.reduceEqDiff, ↓reduceIte, zag, zah, zao, zaf, zae, zal, zai]) | fail)
      simp only [setS, e1, e2, e1', e2', ↓reduceIte]
      have g3 := g2.put hi'
      refine DS.mapO (b := b) V.peek (fun _ _ _ h => V.peek_Rl h) zdc (by simp only [zaa, e1', e2', ↓reduceIte]; exact rfl) ?_
      have hL' : (((L.set (i * 3) (.lst (c.rounds[i].tables.map cR))).set (i * 3 + 1) (.lst (c.rounds[i].points.map cR))).set (i * 3 + 2) (.v (.slice none 0 0))).map V.peek = (((L.set (i * 3) (.lst (c.rounds[i].tables.map cR))).set (i * 3 + 1) (.lst (c.rounds[i].points.map cR))).set (i * 3 + 2) (.lst (List.map Ruling.cells c.rounds[i].rulings))).map V.peek := by
        rw [hr0]; simp only [List.map_set]; rfl
      have g4 := g3.peek
      rw [← hL'] at g4
      have gl4 : ((((L.set (i * 3) (.lst (c.rounds[i].tables.map cR))).set (i * 3 + 1) (.lst (c.rounds[i].points.map cR))).set (i * 3 + 2) (.v (.slice none 0 0))).map V.peek).length = cap * 3 := by simp only [List.length_map, List.length_set]; exact gl
      clear hL' g3
      generalize hgL : (((L.set (i * 3) (.lst (c.rounds[i].tables.map cR))).set (i * 3 + 1) (.lst (c.rounds[i].points.map cR))).set (i * 3 + 2) (.v (.slice none 0 0))).map V.peek = L' at g4 gl4
      simp only [setS, e1, e2, e1', e2', ↓reduceIte, hgL]
      have h6 := g4.rul i hi'
      rw [hr0] at h6
      clear hgL
      repeat' (first | (with_reducible first | refine DS.fltS yU yU yE ?_ | refine DS.opsNil ?_ | refine DS.block ?_) | fail)
      refine DS.loopS [1, 2, 4, 20, 21, 56] (by (simp only [go_sem, Nat.reduceEqDiff, ↓reduceIte]; exact rfl)) (fun (y : Nat) => [(57, I y)]) (fun (y : Nat) => [(b1, .cells (gC c (.v (.slice (some ⟨b, 0, none⟩) c.rounds.length cap))) 26), (b2, .cells zci 26), (b, .cells L' 81)]) (fun (y : Nat) => y = 0) (fun (y : Nat) => y) 0 yS (fun b o e => by exact e) rfl (fun y B hI hB => ?_); try dsimp only at hI hB; simp only [zap, zau]
      subst hI
      repeat' (first | (with_reducible first | refine DS.fltS yU yU yE ?_ | refine DS.opsNil ?_ | refine DS.seq ?_ | refine DS.regionL ?_ | (refine DS.cE yE ?_; refine CG.no ?_) | refine DS.blk ?_ | refine DS.exit yU ?_) | fail)
      refine DS.back (hB0 (i + 1, L') _ _ (by dsimp only; omega) ⟨by dsimp only; omega, g4, gl4⟩ yS yS (fun d o e => by exact e))
    | some z =>
    obtain ⟨bk, capk, junkk⟩ := z
    have k1 := gok.look
    have k6 := gok.le
    have k7 := gok.cap
    rw [List.length_map] at k6
    simp only [GR.cell_some, List.length_map]
    have u1 := zmo hdis k1 l1
    have u2 := zmo hdis k1 l2
    have u3 := zmo hdis k1 l3
    have u1' : ¬ b1 = bk := fun h => u1 h.symm
    have u2' : ¬ b2 = bk := fun h => u2 h.symm
    have u3' : ¬ b = bk := fun h => u3 h.symm
    refine DS.reS (S' := [(b1, .cells (gC c (.v (.slice (some ⟨b, 0, none⟩) c.rounds.length cap))) 26), (b2, .cells zci 26), (b, .cells L 81), (bk, .cells ((c.rounds[i].rulings.map Ruling.cells).flatten ++ junkk) 78)]) (zdq ⟨zjz hdis l1, zjz hdis l2, zjz hdis l3, app_l k1, trivial⟩) ?_
    clear hdis gok k1 l1 l2 l3
    repeat' (first | (with_reducible first | refine DS.fltS yU yU yE ?_ | refine DS.opsNil ?_ | refine DS.seq ?_ | refine DS.regionL ?_) | (refine DS.store yR yE yE yE yE yU (by exact ⟨by with_unfolding_all rfl, by (try simp only [List.length_map, List.length_append, List.length_set, List.length_replicate, List.length_cons, List.length_nil]); omega⟩) ?_; simp only [zbm, zaq, zat, zbz, zbn, zbl, zbh]; try simp only [zak, zac, zad, Nat.reduceEqDiff, ↓reduceIte, zag, zah, zao, zaf, zae, zal, zai]) | fail)
    simp only [setS, e1, e2, e1', e2', u1, u2, u3, u1', u2', u3', ↓reduceIte]
    have h6 := zgy (L := (L.set (i * 3) (.lst (c.rounds[i].tables.map cR))).set (i * 3 + 1) (.lst (c.rounds[i].points.map cR))) (i := i * 3 + 2) (x := V.v (.slice (some ⟨bk, 0, none⟩) c.rounds[i].rulings.length capk)) (by simp only [List.length_set]; omega)
    have g4 := g2.put hi'
    have hgL : ((L.set (i * 3) (.lst (c.rounds[i].tables.map cR))).set (i * 3 + 1) (.lst (c.rounds[i].points.map cR))).set (i * 3 + 2) (.lst (c.rounds[i].rulings.map Ruling.cells)) = (((L.set (i * 3) (.lst (c.rounds[i].tables.map cR))).set (i * 3 + 1) (.lst (c.rounds[i].points.map cR))).set (i * 3 + 2) (V.v (.slice (some ⟨bk, 0, none⟩) c.rounds[i].rulings.length capk))).set (i * 3 + 2) (.lst (c.rounds[i].rulings.map Ruling.cells)) := by rw [List.set_set]
    rw [hgL] at g4
    clear hgL
    have h7 : i * 3 + 2 < (((L.set (i * 3) (.lst (c.rounds[i].tables.map cR))).set (i * 3 + 1) (.lst (c.rounds[i].points.map cR))).set (i * 3 + 2) (V.v (.slice (some ⟨bk, 0, none⟩) c.rounds[i].rulings.length capk))).length := by simp only [List.length_set]; omega
    have gl5 : (((L.set (i * 3) (.lst (c.rounds[i].tables.map cR))).set (i * 3 + 1) (.lst (c.rounds[i].points.map cR))).set (i * 3 + 2) (V.v (.slice (some ⟨bk, 0, none⟩) c.rounds[i].rulings.length capk))).length = cap * 3 := by simp only [List.length_set]; exact gl
    generalize hgL : ((L.set (i * 3) (.lst (c.rounds[i].tables.map cR))).set (i * 3 + 1) (.lst (c.rounds[i].points.map cR))).set (i * 3 + 2) (V.v (.slice (some ⟨bk, 0, none⟩) c.rounds[i].rulings.length capk)) = L' at h6 g4 h7 gl5
    try simp only [hgL]
    clear hgL
    repeat' (first | (with_reducible first | refine DS.fltS yU yU yE ?_ | refine DS.opsNil ?_ | refine DS.block ?_) | fail)
    refine DS.loopS [1, 2, 4, 20, 21, 56] (by (simp only [go_sem, Nat.reduceEqDiff, ↓reduceIte]; exact rfl)) (fun (y : Nat × List V) => [(57, I y.1)]) (fun (y : Nat × List V) => [(b1, .cells (gC c (.v (.slice (some ⟨b, 0, none⟩) c.rounds.length cap))) 26), (b2, .cells zci 26), (b, .cells L' 81), (bk, .cells y.2 78)]) (fun (y : Nat × List V) => y.1 ≤ c.rounds[i].rulings.length ∧ RulAt y.2 c.rounds[i].rulings) (fun (y : Nat × List V) => c.rounds[i].rulings.length - y.1) (0, (c.rounds[i].rulings.map Ruling.cells).flatten ++ junkk) yS (fun b o e => by exact e) ⟨Nat.zero_le _, zph _ _⟩ (fun y B hI hB => ?_); try dsimp only at hI hB; simp only [zap, zau]
    obtain ⟨k, M⟩ := y
    dsimp only at hI hB ⊢
    obtain ⟨p1, p2⟩ := hI
    by_cases hk : (k : Int) < (c.rounds[i].rulings.length : Int)
    · have hk' : k < c.rounds[i].rulings.length := by omega
      have hM := p2.len
      have h8 := p2.pts k hk'
      have h9 := hsm.ruling _ (List.getElem_mem hk')
      repeat' (first | (with_reducible first | refine DS.fltS yU yU yE ?_ | refine DS.opsNil ?_ | refine DS.seq ?_ | refine DS.regionL ?_ | (refine DS.cE yE ?_; refine CG.yes ?_) | refine DS.blk ?_ | refine DS.block ?_ | refine DS.skip ?_) | (refine DS.store yR yE yE yE yE yU (by exact ⟨by with_unfolding_all rfl, by (try simp only [List.length_map, List.length_append, List.length_set, List.length_replicate, List.length_cons, List.length_nil]); omega⟩) ?_; simp only [zbm, zaq, zat, zbz, zbn, zbl, zbh]; try simp only [zak, zac, zad, Nat.reduceEqDiff, ↓reduceIte, zag, zah, zao, zaf, zae, zal, zai]) | refine DS.drawL (id := 10) [0, 1, 2, 3, 4, 5, 6, 7, 8, 9, 10, 11, 12, 13] 14 (by kernel_rfl) zct (by simp only [zay, zbc, zbd, zbe, zax]; exact rfl) (by simp only [zav, zaw, List.drop_nil]; exact rfl) ?_ | (with_reducible first | refine DD.fltS yU yU yU yE ?_ | refine DD.nil0 ?_) | refine DD.pcS inferInstance (zjd c.rounds[i].rulings[k].points (Nat.le_trans h9 (by decide))) yU yT ?_; simp only [zbo, zbw, Nat.reduceEqDiff, ↓reduceIte] | fail)
      simp only [setS, u1', u2', u3', ↓reduceIte]
      refine DS.mapO (b := bk) V.peek (fun _ _ _ h => V.peek_Rl h) zdc (by simp only [zaa, u1', u2', u3', ↓reduceIte]; exact rfl) ?_
      simp only [setS, u1', u2', u3', ↓reduceIte]
      refine DS.back (hB (k + 1, (M.set (k * 3 + 2) (.own false 3 1 (c.rounds[i].rulings[k].points.map cI))).map V.peek) _ _ (by dsimp only; omega) ⟨by dsimp only; omega, p2.put hk'⟩ yS yS (fun d o e => by exact e))
    · obtain rfl : k = c.rounds[i].rulings.length := by omega
      refine DS.freezeC (b := bk) (b' := b) (i := i * 3 + 2) (sz := 3) (len := c.rounds[i].rulings.length) (cap := capk) (l := M) (T := 78) (l' := L') (T' := 81) u3' (by simp only [zaa, e1', e2', ↓reduceIte]) h6 (by simp only [zaa, u1', u2', u3', ↓reduceIte]) p2.len ⟨k6, k7⟩ ?_
      rw [p2.chunk]
      simp only [setS, zbj, zbv, e1, e2, e1', e2', u1, u2, u3, u1', u2', u3', ↓reduceIte]
      have h6' := zgy (x := V.lst (c.rounds[i].rulings.map Ruling.cells)) h7
      clear h6 hB
      repeat' (first | (with_reducible first | refine DS.fltS yU yU yE ?_ | refine DS.opsNil ?_ | refine DS.seq ?_ | refine DS.regionL ?_ | (refine DS.cE yE ?_; refine CG.no ?_) | refine DS.blk ?_ | refine DS.exit yU ?_) | fail)
      refine DS.back (hB0 (i + 1, L'.set (i * 3 + 2) (.lst (c.rounds[i].rulings.map Ruling.cells))) _ _ (by dsimp only; omega) ⟨by dsimp only; omega, g4, by rw [List.length_set]; exact gl5⟩ yS yS (fun d o e => by exact e))
  · obtain rfl : i = c.rounds.length := by omega
    refine DS.mapO (b := b) V.peek (fun _ _ _ h => V.peek_Rl h) zdc (by simp only [zaa, e1', e2', ↓reduceIte]; exact rfl) ?_
    simp only [setS, e1', e2', ↓reduceIte]
    clear hB0
    repeat' (first | (with_reducible first | refine DS.fltS yU yU yE ?_ | refine DS.opsNil ?_ | refine DS.seq ?_ | refine DS.regionL ?_ | (refine DS.cE yE ?_; refine CG.no ?_) | refine DS.exit yU ?_) | (refine DS.store yR yE yE yE yE yU (by exact ⟨by with_unfolding_all rfl, by (try simp only [List.length_map, List.length_append, List.length_set, List.length_replicate, List.length_cons, List.length_nil]); omega⟩) ?_; simp only [zbm, zaq, zat, zbz, zbn, zbl, zbh]; try simp only [zak, zac, zad, Nat.reduceEqDiff, ↓reduceIte, zag, zah, zao, zaf, zae, zal, zai]) | fail)
    obtain ⟨g, z1, z2, z3⟩ := g2.ok (S := [(b, .cells (L.map V.peek) 81)]) (b := b) (e := 81) (by simp only [zaa, ↓reduceIte]) gl ⟨k2, k3⟩
    simp only [setS, n1, n1', e1', e2', ↓reduceIte, zaq, zat, zbr, zbx, zci, Nat.reduceAdd, Nat.zero_add]
    refine DS.retC [(b, .cells (L.map V.peek) 81)] yH yH yH yH (zdq ⟨?_, trivial⟩) ⟨g, by rw [z1]; rfl, z2, z3⟩
    simp only [zaa, e1', e2', ↓reduceIte]
end Go.XL
namespace Go.XL
open Go.Proofs
set_option maxRecDepth 100000
set_option maxHeartbeats 8000000
theorem PC.of_row {P : Program} {f : FuncId} {args pre : List V} {e sz : Nat} {L : List (List V)} (hL : L.flatten.map V.copy = L.flatten)
    (h : DC P f args [] fun u S' => ∃ g : GR, u = .agg (pre ++ [g.cell]) ∧ g.Ok e sz S' ∧ g.l = L) : PC P f args (.agg (pre ++ [.lst L])) := by
  intro v0 K hv hold hp xs hx ha s
  refine (h v0 K hv hold hp xs hx ha s).mono ?_
  rintro y h' ⟨u, S', hv', hold', p, st, ⟨l, blk⟩, rfl, gok, rfl⟩
  have key : ∀ (hv2 : VH) (S2 : Sto) (c : V), St K hv2 hold' [(0, .agg (pre ++ [c]))] S2 [(0, y)] h' → (∀ z, c.Rl hv2 z → (V.lst l).Rl hv2 z) → St K hv2 hold' [(0, .agg (pre ++ [.lst l]))] S2 [(0, y)] h' := fun hv2 S2 c st hc => by
    refine ⟨st.pre, fun t w ew => ?_, st.obj, st.held, st.base, st.vbase⟩
    rw [zad] at ew
    split at ew
    · rename_i ht
      cases ew
      obtain ⟨z, h1, h2, -⟩ := st.slot t _ (by rw [zad, if_pos ht])
      refine ⟨z, h1, ?_, trivial⟩
      simp only [V.Rl] at h2 ⊢
      obtain ⟨ys, rfl, h3⟩ := h2
      refine ⟨ys, rfl, ?_⟩
      have hi : (pre ++ [c])[pre.length]? = some c := List.getElem?_concat_length
      obtain ⟨x, z1, z2⟩ := h3.get hi
      have h4 := RlL.setL h3 z1 (hc _ z2)
      rw [List.set_append_right _ _ (Nat.le_refl _), Nat.sub_self] at h4
      exact h4
    · cases ew
  cases blk with
  | none =>
    have h0 : l = [] := gok
    subst h0
    exact ⟨_, S', hv', hold', p, key _ _ _ st fun z hz => V.peek_Rl (v := .v (.slice none 0 0)) hz, rfl⟩
  | some x =>
    obtain ⟨b, cap, j⟩ := x
    obtain ⟨hv2, q1, q2, q3⟩ := st.freeze gok.look
    refine ⟨_, delS b S', hv2, hold', p.trans q1, key _ _ _ q2 fun z hz => ?_, rfl⟩
    simp only [GR.cell, V.Rl] at hz ⊢
    subst hz
    refine ⟨_, cap, sz, rfl, gok.le, gok.cap, gok.ll, RlE.of_flat ?_⟩
    rw [List.map_append, hL] at q3
    have h5 := q3.take l.flatten.length
    rw [List.take_append_of_le_length (Nat.le_refl _), List.take_length] at h5
    exact h5
theorem zuy (c : Club) (hs : c.Small) : DC Try.prog 17 [c.val] [] (fun u S' => ∃ g : GR, u = .agg (gC c g.cell) ∧ g.Ok 81 3 S' ∧ g.l = c.rounds.map Sitting.cells) := by
  have q1 := hs.rounds
  have q2 := hs.members
  have q3 := hs.places
  refine DC.of_runC Try.func17 rfl Try.ntmps17 Try.results17 (by simp) rfl (fun _ => ?_); simp only [zan, zas, go_sem, Nat.zero_add, Nat.reduceAdd]
  repeat' (first | (with_reducible first | refine DS.seq ?_ | refine DS.regionL ?_) | (with_reducible refine DS.boxS yU yE yU (fun _ hfr => ?_); have hfr := zgh hfr; simp only [zeg, zfe, and_true] at hfr; simp only [zbk, zcd, zbi, zbu, zbf, zaz, zbp, zbb, zca, zcc, zbq, zcb, zbt, zbs]) | fail)
  rename_i b1 hb1
  refine DS.allocS yR yU yU (fun b2 h2 => ?_)
  have n1 : ¬ b1 = b2 := fun e => by rw [zaa, if_pos e] at h2; cases h2
  have n1' : ¬ b2 = b1 := fun e => n1 e.symm
  clear h2 hb1
  have e0 : (Value.agg #[.int .i64 0, .int .i64 0, .int .i64 0, .int .i64 0, .slice none 0 0, .bool false, .slice none 0 0, .slice none 0 0]).cells.toList.map V.v = zci := rfl
  rw [e0]
  clear e0
  repeat' (first | (with_reducible first | refine DS.fltS yU yU yX49 ?_ | refine DS.opsNil ?_ | refine DS.seq ?_ | refine DS.regionL ?_) | (refine DS.store yR yX49 yX49 yX49 yX49 yU (by exact ⟨by with_unfolding_all rfl, by (try simp only [List.length_map, List.length_append, List.length_set, List.length_replicate, List.length_cons, List.length_nil]); omega⟩) ?_; simp only [zbm, zaq, zat, zbz, zbn, zbl, zbh]; try simp only [zak, zac, zad, Nat.reduceEqDiff, ↓reduceIte, zag, zah, zao, zaf, zae, zal, zai]) | refine DS.drawL (id := 1) [0, 1, 2, 3, 4, 5, 6] 7 (by kernel_rfl) zct (by simp only [zay, zbc, zbd, zbe, zax]; exact rfl) (by simp only [zav, zaw, List.drop_nil]; exact rfl) ?_ | (with_reducible first | refine DD.fltS yU yU yU yX49 ?_ | refine DD.nil0 ?_) | refine DD.pcS inferInstance (zoe c.places (by omega)) yU yX50 ?_; simp only [zbo, zbw, Nat.reduceEqDiff, ↓reduceIte] | (refine DD.append (mm := false) yU yX49 yX49 yU (by decide) yX49 (by first | exact .inl rfl | exact .inr ⟨rfl, rfl⟩) yX49 yX51 (by first | exact zar zcu _ | exact zar zdm _ | exact zar Member.len _ | exact zar Sitting.len _ | exact zar Ruling.len _ | (simp only [List.mem_cons, List.not_mem_nil, or_false, forall_eq]; rfl) | simp) ⟨by (try simp only [List.length_map, List.length_cons, List.length_nil, List.length_append, List.length_take, List.length_drop]); omega, by decide⟩ ?_; simp only [zak, zac, zad, Nat.reduceEqDiff, ↓reduceIte, zag, zah, zao, zaf, zae, zal, zai]; simp only [zbo, zbw, Nat.reduceEqDiff, ↓reduceIte]) | fail)
  simp only [setS, n1, n1', ↓reduceIte, zbx, zbr, List.nil_append]
  refine DS.step rfl rfl yR (OpS.appA (g := ⟨[], none⟩) (ml := c.rounds.map Sitting.cells) rfl yH yH yR yR (by decide) yH rfl yH yH (by intro x hx; obtain ⟨y, -, rfl⟩ := List.mem_map.1 hx; rfl) ⟨by simp only [List.length_map, List.length_nil]; omega, by decide⟩) (fun u2 E' S4 hu2 => ?_)
  obtain ⟨rfl, ⟨R, blk⟩, rfl, gl0, gok, m2, m3⟩ := hu2
  obtain rfl : R = c.rounds.map Sitting.cells := by rw [show R = _ from gl0, List.nil_append, List.map_map]; rfl
  clear gl0
  simp only [zcj]
  cases blk with
  | none =>
    have h0 : c.rounds = [] := List.map_eq_nil_iff.1 gok
    have f1 := m3 b1 (fun _ _ h => by cases h) (fun _ _ h => by cases h)
    have f2 := m3 b2 (fun _ _ h => by cases h) (fun _ _ h => by cases h)
    simp only [zaa, n1', ↓reduceIte] at f1 f2
    refine DS.reS (S' := [(b1, .cells (cpC c (.lst (c.rounds.map Sitting.cells))) 26), (b2, .cells zci 26)]) (zdq ⟨f1, f2, trivial⟩) ?_
    clear m2 m3 gok f1 f2
    simp only [GR.cell_none]
    repeat' (first | (with_reducible first | refine DS.fltS yU yU yE ?_ | refine DS.opsNil ?_ | refine DS.seq ?_ | refine DS.regionL ?_ | refine DS.block ?_) | (refine DS.store yR yE yE yE yE yU (by exact ⟨by with_unfolding_all rfl, by (try simp only [List.length_map, List.length_append, List.length_set, List.length_replicate, List.length_cons, List.length_nil]); omega⟩) ?_; simp only [zbm, zaq, zat, zbz, zbn, zbl, zbh]; try simp only [zak, zac, zad, Nat.reduceEqDiff, ↓reduceIte, zag, zah, zao, zaf, zae, zal, zai]) | fail)
    simp only [setS, n1, n1', ↓reduceIte, zbx, zbr]
    refine DS.mapO (b := b1) V.copy (fun _ _ _ h => V.copy_Rl h) zei (by simp only [zaa, n1, n1', ↓reduceIte]; exact rfl) ?_
    simp only [setS, n1, n1', ↓reduceIte]
    refine DS.loopS [1, 2] (by (simp only [go_sem, Nat.reduceEqDiff, ↓reduceIte]; exact rfl)) (fun (y : Nat) => [(3, I y)]) (fun (y : Nat) => [(b1, .cells (gC c (.v (.slice none 0 0))) 26), (b2, .cells zci 26)]) (fun (y : Nat) => y = 0) (fun (y : Nat) => y) 0 yS (fun b o e => by exact e) rfl (fun y B hI hB => ?_); try dsimp only at hI hB; simp only [zap, zau]
    subst hI
    refine DS.freezeP (t := 1) yE yE ?_; simp only [zbj, zbv, ↓reduceIte, *, zbf, zaz, zbp, zbb, zca, zcc, zbq, zcb]
    repeat' (first | (refine DS.ldC (t := 78) yU yE yU (by simp only [List.length_cons, List.length_nil]; omega) ?_; simp only [List.take_succ_cons, List.take_zero, List.map_cons, List.map_nil, zbp, zbb, zca, Nat.reduceAdd]) | (with_reducible first | refine DS.fltS yU yU yE ?_ | refine DS.opsNil ?_ | refine DS.seq ?_ | refine DS.regionL ?_ | (refine DS.cE yE ?_; refine CG.no ?_) | refine DS.exit yU ?_) | (refine DS.store yR yE yE yE yE yU (by exact ⟨by with_unfolding_all rfl, by (try simp only [List.length_map, List.length_append, List.length_set, List.length_replicate, List.length_cons, List.length_nil]); omega⟩) ?_; simp only [zbm, zaq, zat, zbz, zbn, zbl, zbh]; try simp only [zak, zac, zad, Nat.reduceEqDiff, ↓reduceIte, zag, zah, zao, zaf, zae, zal, zai]) | fail)
    simp only [setS, n1, n1', ↓reduceIte, zaq, zat, zbr, zbx, zci, Nat.reduceAdd, Nat.zero_add]
    refine DS.retC [] yH yH yH yH (fun d o e => by cases e) ⟨⟨[], none⟩, rfl, rfl, by first | rfl | (rw [h0]; rfl)⟩
  | some z =>
  obtain ⟨b, cap, junk⟩ := z
  have k1 := gok.look
  have k2 := gok.le
  have k3 := gok.cap
  have k4 := gok.len
  rw [List.length_map] at k2 k4
  simp only [GR.cell_some, List.length_map]
  have hn := (m2 b cap junk rfl).resolve_left (fun ⟨_, _, h⟩ => by cases h)
  have e1 : ¬ b = b1 := fun h => by rw [h, zaa, if_neg n1', zaa, if_pos rfl] at hn; cases hn
  have e2 : ¬ b = b2 := fun h => by rw [h, zaa, if_pos rfl] at hn; cases hn
  have e1' : ¬ b1 = b := fun h => e1 h.symm
  have e2' : ¬ b2 = b := fun h => e2 h.symm
  have f1 := m3 b1 (fun _ _ h => by cases h; exact e1 rfl) (fun _ _ h => by cases h)
  have f2 := m3 b2 (fun _ _ h => by cases h; exact e2 rfl) (fun _ _ h => by cases h)
  simp only [zaa, n1', ↓reduceIte] at f1 f2
  refine DS.reS (S' := [(b1, .cells (cpC c (.lst (c.rounds.map Sitting.cells))) 26), (b2, .cells zci 26), (b, .cells ((c.rounds.map Sitting.cells).flatten ++ junk) 81)]) (zdq ⟨f1, f2, k1, trivial⟩) ?_
  clear hn m2 m3 gok k1 f1 f2
  repeat' (first | (with_reducible first | refine DS.fltS yU yU yE ?_ | refine DS.opsNil ?_ | refine DS.seq ?_ | refine DS.regionL ?_ | refine DS.block ?_) | (refine DS.store yR yE yE yE yE yU (by exact ⟨by with_unfolding_all rfl, by (try simp only [List.length_map, List.length_append, List.length_set, List.length_replicate, List.length_cons, List.length_nil]); omega⟩) ?_; simp only [zbm, zaq, zat, zbz, zbn, zbl, zbh]; try simp only [zak, zac, zad, Nat.reduceEqDiff, ↓reduceIte, zag, zah, zao, zaf, zae, zal, zai]) | fail)
  simp only [setS, ↓reduceIte, zbx, zbr]
  refine DS.mapO (b := b1) V.copy (fun _ _ _ h => V.copy_Rl h) zei (by simp only [zaa, n1, n1', e1', ↓reduceIte]; exact rfl) ?_
  simp only [setS, n1, n1', ↓reduceIte]
  refine DS.loopS [1, 2] (by (simp only [go_sem, Nat.reduceEqDiff, ↓reduceIte]; exact rfl)) (fun (y : Nat × List V) => [(3, I y.1)]) (fun (y : Nat × List V) => [(b1, .cells (gC c (.v (.slice (some ⟨b, 0, none⟩) c.rounds.length cap))) 26), (b2, .cells zci 26), (b, .cells y.2 81)]) (fun (y : Nat × List V) => y.1 ≤ c.rounds.length ∧ SitAt y.2 c.rounds ∧ y.2.length = cap * 3) (fun (y : Nat × List V) => c.rounds.length - y.1) (0, (c.rounds.map Sitting.cells).flatten ++ junk) yS (fun b o e => by exact e) ⟨Nat.zero_le _, zjk _ _, by rw [List.length_append, zet Sitting.len]; exact k4⟩ (fun y B hI hB => ?_); try dsimp only at hI hB; simp only [zap, zau]
  obtain ⟨i, L⟩ := y
  dsimp only at hI hB ⊢
  have hB0 := hB
  clear hB
  obtain ⟨g1, g2, gl⟩ := hI
  by_cases hi : (i : Int) < (c.rounds.length : Int)
  · have hi' : i < c.rounds.length := by omega
    have hsm := hs.round _ (List.getElem_mem hi')
    have hL := g2.len
    have h1 := g2.tab i hi'
    have h2 := g2.pts i hi'
    have h3 := g2.rul i hi'
    repeat' (first | (with_reducible first | refine DS.fltS yU yU yE ?_ | refine DS.opsNil ?_ | refine DS.seq ?_ | refine DS.regionL ?_ | (refine DS.cE yE ?_; refine CG.yes ?_) | refine DS.block ?_ | refine DS.skip ?_) | fail)
    refine DS.drawPL (id := 7) [(b1, .cells (gC c (.v (.slice (some ⟨b, 0, none⟩) c.rounds.length cap))) 26), (b2, .cells zci 26), (b, .cells L 81)] [] [1, 2] [0, 3, 4, 5, 6, 7, 8, 9, 10, 11, 12, 13, 14, 15, 16, 17] 18 rfl (by kernel_rfl) (by decide) zct (fun _ _ e => ⟨e, rfl⟩) (fun _ _ e => by cases e)
      ⟨_, _, _, _, _, _, rfl, rfl, yG, _, _, _, _, _, _, rfl, rfl, yG, rfl⟩ (by simp only [zay, zbc, zbd, zbe, zax]; exact rfl) (by simp only [zav, zaw, List.drop_nil]; exact rfl) ?_
    have q5 := hsm.rulings
    repeat' (first | with_reducible refine DD.fltS yU yU yU yE ?_ | refine DD.pcS inferInstance (zqq c.rounds[i].tables hsm.tables hsm.table) yU yF ?_; simp only [zbo, zbw, Nat.reduceEqDiff, ↓reduceIte] | refine DD.pcS inferInstance (zqq c.rounds[i].points hsm.points hsm.point) yU yF ?_; simp only [zbo, zbw, Nat.reduceEqDiff, ↓reduceIte] | fail)
    refine DD.last rfl rfl rfl yR (OpS.appA (g := ⟨[], none⟩) (ml := c.rounds[i].rulings.map Ruling.cells) rfl yH yH yR yR (by decide) yH rfl yH yH (by intro x hx; obtain ⟨y, -, rfl⟩ := List.mem_map.1 hx; rfl) ⟨by simp only [List.length_map, List.length_nil]; omega, by decide⟩) (fun u2 E' Sg hu2 hdis => ?_)
    obtain ⟨rfl, ⟨R, blk⟩, rfl, gl0, gok, -, -⟩ := hu2
    obtain rfl : R = c.rounds[i].rulings.map Ruling.cells := by rw [show R = _ from gl0, List.nil_append, List.map_map]; rfl
    clear gl0
    simp only [zcj]
    have l1 : zab [(b1, .cells (gC c (.v (.slice (some ⟨b, 0, none⟩) c.rounds.length cap))) 26), (b2, .cells zci 26), (b, .cells L 81)] b1 = some (.cells (gC c (.v (.slice (some ⟨b, 0, none⟩) c.rounds.length cap))) 26) := by simp only [zaa, ↓reduceIte]
    have l2 : zab [(b1, .cells (gC c (.v (.slice (some ⟨b, 0, none⟩) c.rounds.length cap))) 26), (b2, .cells zci 26), (b, .cells L 81)] b2 = some (.cells zci 26) := by simp only [zaa, n1, ↓reduceIte]
    have l3 : zab [(b1, .cells (gC c (.v (.slice (some ⟨b, 0, none⟩) c.rounds.length cap))) 26), (b2, .cells zci 26), (b, .cells L 81)] b = some (.cells L 81) := by simp only [zaa, e1', e2', ↓reduceIte]
    cases blk with
    | none =>
      have hr0 : c.rounds[i].rulings = [] := List.map_eq_nil_iff.1 gok
      refine DS.reS (S' := [(b1, .cells (gC c (.v (.slice (some ⟨b, 0, none⟩) c.rounds.length cap))) 26), (b2, .cells zci 26), (b, .cells L 81)]) (zdq ⟨zjz hdis l1, zjz hdis l2, zjz hdis l3, trivial⟩) ?_
      clear hdis gok l1 l2 l3
      simp only [GR.cell_none]
      repeat' (first | (with_reducible first | refine DS.fltS yU yU yE ?_ | refine DS.opsNil ?_ | refine DS.seq ?_ | refine DS.regionL ?_ | refine DS.block ?_) | (refine DS.store yR yE yE yE yE yU (by exact ⟨by with_unfolding_all rfl, by (try simp only [List.length_map, List.length_append, List.length_set, List.length_replicate, List.length_cons, List.length_nil]); omega⟩) ?_; simp only [zbm, zaq, zat, zbz, zbn, zbl, zbh]; try simp only [zak, zac, zad, Nat.reduceEqDiff, ↓reduceIte, zag, zah, zao, zaf, zae, zal, zai]) | fail)
      simp only [setS, e1, e2, e1', e2', ↓reduceIte]
      have g3 := g2.put hi'
      refine DS.mapO (b := b) V.peek (fun _ _ _ h => V.peek_Rl h) zdc (by simp only [zaa, e1', e2', ↓reduceIte]; exact rfl) ?_
      have hL' : (((L.set (i * 3) (.lst (c.rounds[i].tables.map cR))).set (i * 3 + 1) (.lst (c.rounds[i].points.map cR))).set (i * 3 + 2) (.v (.slice none 0 0))).map V.peek = (((L.set (i * 3) (.lst (c.rounds[i].tables.map cR))).set (i * 3 + 1) (.lst (c.rounds[i].points.map cR))).set (i * 3 + 2) (.lst (List.map Ruling.cells c.rounds[i].rulings))).map V.peek := by
        rw [hr0]; simp only [List.map_set]; rfl
      have g4 := g3.peek
      rw [← hL'] at g4
      have gl4 : ((((L.set (i * 3) (.lst (c.rounds[i].tables.map cR))).set (i * 3 + 1) (.lst (c.rounds[i].points.map cR))).set (i * 3 + 2) (.v (.slice none 0 0))).map V.peek).length = cap * 3 := by simp only [List.length_map, List.length_set]; exact gl
      clear hL' g3
      generalize hgL : (((L.set (i * 3) (.lst (c.rounds[i].tables.map cR))).set (i * 3 + 1) (.lst (c.rounds[i].points.map cR))).set (i * 3 + 2) (.v (.slice none 0 0))).map V.peek = L' at g4 gl4
      simp only [setS, e1, e2, e1', e2', ↓reduceIte, hgL]
      have h6 := g4.rul i hi'
      rw [hr0] at h6
      clear hgL
      skip
      refine DS.loopS [1, 2, 3, 4] (by (simp only [go_sem, Nat.reduceEqDiff, ↓reduceIte]; exact rfl)) (fun (y : Nat) => [(5, I y)]) (fun (y : Nat) => [(b1, .cells (gC c (.v (.slice (some ⟨b, 0, none⟩) c.rounds.length cap))) 26), (b2, .cells zci 26), (b, .cells L' 81)]) (fun (y : Nat) => y = 0) (fun (y : Nat) => y) 0 yS (fun b o e => by exact e) rfl (fun y B hI hB => ?_); try dsimp only at hI hB; simp only [zap, zau]
      subst hI
      repeat' (first | (with_reducible first | refine DS.fltS yU yU yE ?_ | refine DS.opsNil ?_ | refine DS.seq ?_ | refine DS.regionL ?_ | (refine DS.cE yE ?_; refine CG.no ?_) | refine DS.blk ?_ | refine DS.exit yU ?_) | fail)
      refine DS.back (hB0 (i + 1, L') _ _ (by dsimp only; omega) ⟨by dsimp only; omega, g4, gl4⟩ yS yS (fun d o e => by exact e))
    | some z =>
    obtain ⟨bk, capk, junkk⟩ := z
    have k1 := gok.look
    have k6 := gok.le
    have k7 := gok.cap
    rw [List.length_map] at k6
    simp only [GR.cell_some, List.length_map]
    have u1 := zmo hdis k1 l1
    have u2 := zmo hdis k1 l2
    have u3 := zmo hdis k1 l3
    have u1' : ¬ b1 = bk := fun h => u1 h.symm
    have u2' : ¬ b2 = bk := fun h => u2 h.symm
    have u3' : ¬ b = bk := fun h => u3 h.symm
    refine DS.reS (S' := [(b1, .cells (gC c (.v (.slice (some ⟨b, 0, none⟩) c.rounds.length cap))) 26), (b2, .cells zci 26), (b, .cells L 81), (bk, .cells ((c.rounds[i].rulings.map Ruling.cells).flatten ++ junkk) 78)]) (zdq ⟨zjz hdis l1, zjz hdis l2, zjz hdis l3, app_l k1, trivial⟩) ?_
    clear hdis gok k1 l1 l2 l3
    repeat' (first | (with_reducible first | refine DS.fltS yU yU yE ?_ | refine DS.opsNil ?_ | refine DS.seq ?_ | refine DS.regionL ?_ | refine DS.block ?_) | (refine DS.store yR yE yE yE yE yU (by exact ⟨by with_unfolding_all rfl, by (try simp only [List.length_map, List.length_append, List.length_set, List.length_replicate, List.length_cons, List.length_nil]); omega⟩) ?_; simp only [zbm, zaq, zat, zbz, zbn, zbl, zbh]; try simp only [zak, zac, zad, Nat.reduceEqDiff, ↓reduceIte, zag, zah, zao, zaf, zae, zal, zai]) | fail)
    simp only [setS, e1, e2, e1', e2', u1, u2, u3, u1', u2', u3', ↓reduceIte]
    have h6 := zgy (L := (L.set (i * 3) (.lst (c.rounds[i].tables.map cR))).set (i * 3 + 1) (.lst (c.rounds[i].points.map cR))) (i := i * 3 + 2) (x := V.v (.slice (some ⟨bk, 0, none⟩) c.rounds[i].rulings.length capk)) (by simp only [List.length_set]; omega)
    have g4 := g2.put hi'
    have hgL : ((L.set (i * 3) (.lst (c.rounds[i].tables.map cR))).set (i * 3 + 1) (.lst (c.rounds[i].points.map cR))).set (i * 3 + 2) (.lst (c.rounds[i].rulings.map Ruling.cells)) = (((L.set (i * 3) (.lst (c.rounds[i].tables.map cR))).set (i * 3 + 1) (.lst (c.rounds[i].points.map cR))).set (i * 3 + 2) (V.v (.slice (some ⟨bk, 0, none⟩) c.rounds[i].rulings.length capk))).set (i * 3 + 2) (.lst (c.rounds[i].rulings.map Ruling.cells)) := by rw [List.set_set]
    rw [hgL] at g4
    clear hgL
    have h7 : i * 3 + 2 < (((L.set (i * 3) (.lst (c.rounds[i].tables.map cR))).set (i * 3 + 1) (.lst (c.rounds[i].points.map cR))).set (i * 3 + 2) (V.v (.slice (some ⟨bk, 0, none⟩) c.rounds[i].rulings.length capk))).length := by simp only [List.length_set]; omega
    have gl5 : (((L.set (i * 3) (.lst (c.rounds[i].tables.map cR))).set (i * 3 + 1) (.lst (c.rounds[i].points.map cR))).set (i * 3 + 2) (V.v (.slice (some ⟨bk, 0, none⟩) c.rounds[i].rulings.length capk))).length = cap * 3 := by simp only [List.length_set]; exact gl
    generalize hgL : ((L.set (i * 3) (.lst (c.rounds[i].tables.map cR))).set (i * 3 + 1) (.lst (c.rounds[i].points.map cR))).set (i * 3 + 2) (V.v (.slice (some ⟨bk, 0, none⟩) c.rounds[i].rulings.length capk)) = L' at h6 g4 h7 gl5
    try simp only [hgL]
    clear hgL
    skip
    refine DS.loopS [1, 2, 3, 4] (by (simp only [go_sem, Nat.reduceEqDiff, ↓reduceIte]; exact rfl)) (fun (y : Nat × List V) => [(5, I y.1)]) (fun (y : Nat × List V) => [(b1, .cells (gC c (.v (.slice (some ⟨b, 0, none⟩) c.rounds.length cap))) 26), (b2, .cells zci 26), (b, .cells L' 81), (bk, .cells y.2 78)]) (fun (y : Nat × List V) => y.1 ≤ c.rounds[i].rulings.length ∧ RulAt y.2 c.rounds[i].rulings) (fun (y : Nat × List V) => c.rounds[i].rulings.length - y.1) (0, (c.rounds[i].rulings.map Ruling.cells).flatten ++ junkk) yS (fun b o e => by exact e) ⟨Nat.zero_le _, zph _ _⟩ (fun y B hI hB => ?_); try dsimp only at hI hB; simp only [zap, zau]
    obtain ⟨k, M⟩ := y
    dsimp only at hI hB ⊢
    obtain ⟨p1, p2⟩ := hI
    by_cases hk : (k : Int) < (c.rounds[i].rulings.length : Int)
    · have hk' : k < c.rounds[i].rulings.length := by omega
      have hM := p2.len
      have h8 := p2.pts k hk'
      have h9 := hsm.ruling _ (List.getElem_mem hk')
      repeat' (first | (with_reducible first | refine DS.fltS yU yU yE ?_ | refine DS.opsNil ?_ | refine DS.seq ?_ | refine DS.regionL ?_ | (refine DS.cE yE ?_; refine CG.yes ?_) | refine DS.blk ?_ | refine DS.block ?_ | refine DS.skip ?_) | (refine DS.store yR yE yE yE yE yU (by exact ⟨by with_unfolding_all rfl, by (try simp only [List.length_map, List.length_append, List.length_set, List.length_replicate, List.length_cons, List.length_nil]); omega⟩) ?_; simp only [zbm, zaq, zat, zbz, zbn, zbl, zbh]; try simp only [zak, zac, zad, Nat.reduceEqDiff, ↓reduceIte, zag, zah, zao, zaf, zae, zal, zai]) | refine DS.drawL (id := 11) [0, 1, 2, 3, 4, 5, 6, 7, 8, 9, 10, 11, 12, 13] 14 (by kernel_rfl) zct (by simp only [zay, zbc, zbd, zbe, zax]; exact rfl) (by simp only [zav, zaw, List.drop_nil]; exact rfl) ?_ | (with_reducible first | refine DD.fltS yU yU yU yE ?_ | refine DD.nil0 ?_) | refine DD.pcS inferInstance (zoe c.rounds[i].rulings[k].points (Nat.le_trans h9 (by decide))) yU yT ?_; simp only [zbo, zbw, Nat.reduceEqDiff, ↓reduceIte] | fail)
      simp only [setS, u1', u2', u3', ↓reduceIte]
      refine DS.mapO (b := bk) V.peek (fun _ _ _ h => V.peek_Rl h) zdc (by simp only [zaa, u1', u2', u3', ↓reduceIte]; exact rfl) ?_
      simp only [setS, u1', u2', u3', ↓reduceIte]
      refine DS.back (hB (k + 1, (M.set (k * 3 + 2) (.own false 3 1 (c.rounds[i].rulings[k].points.map cI))).map V.peek) _ _ (by dsimp only; omega) ⟨by dsimp only; omega, p2.put hk'⟩ yS yS (fun d o e => by exact e))
    · obtain rfl : k = c.rounds[i].rulings.length := by omega
      refine DS.freezeC (b := bk) (b' := b) (i := i * 3 + 2) (sz := 3) (len := c.rounds[i].rulings.length) (cap := capk) (l := M) (T := 78) (l' := L') (T' := 81) u3' (by simp only [zaa, e1', e2', ↓reduceIte]) h6 (by simp only [zaa, u1', u2', u3', ↓reduceIte]) p2.len ⟨k6, k7⟩ ?_
      rw [p2.chunk]
      simp only [setS, zbj, zbv, e1, e2, e1', e2', u1, u2, u3, u1', u2', u3', ↓reduceIte]
      have h6' := zgy (x := V.lst (c.rounds[i].rulings.map Ruling.cells)) h7
      clear h6 hB
      repeat' (first | (with_reducible first | refine DS.fltS yU yU yE ?_ | refine DS.opsNil ?_ | refine DS.seq ?_ | refine DS.regionL ?_ | (refine DS.cE yE ?_; refine CG.no ?_) | refine DS.blk ?_ | refine DS.exit yU ?_) | fail)
      refine DS.back (hB0 (i + 1, L'.set (i * 3 + 2) (.lst (c.rounds[i].rulings.map Ruling.cells))) _ _ (by dsimp only; omega) ⟨by dsimp only; omega, g4, by rw [List.length_set]; exact gl5⟩ yS yS (fun d o e => by exact e))
  · obtain rfl : i = c.rounds.length := by omega
    refine DS.mapO (b := b) V.peek (fun _ _ _ h => V.peek_Rl h) zdc (by simp only [zaa, e1', e2', ↓reduceIte]; exact rfl) ?_
    simp only [setS, e1', e2', ↓reduceIte]
    clear hB0
    repeat' (first | (with_reducible first | refine DS.fltS yU yU yE ?_ | refine DS.opsNil ?_ | refine DS.seq ?_ | refine DS.regionL ?_ | (refine DS.cE yE ?_; refine CG.no ?_) | refine DS.exit yU ?_) | (refine DS.store yR yE yE yE yE yU (by exact ⟨by with_unfolding_all rfl, by (try simp only [List.length_map, List.length_append, List.length_set, List.length_replicate, List.length_cons, List.length_nil]); omega⟩) ?_; simp only [zbm, zaq, zat, zbz, zbn, zbl, zbh]; try simp only [zak, zac, zad, Nat.reduceEqDiff, ↓reduceIte, zag, zah, zao, zaf, zae, zal, zai]) | fail)
    obtain ⟨g, z1, z2, z3⟩ := g2.ok (S := [(b, .cells (L.map V.peek) 81)]) (b := b) (e := 81) (by simp only [zaa, ↓reduceIte]) gl ⟨k2, k3⟩
    simp only [setS, n1, n1', e1', e2', ↓reduceIte, zaq, zat, zbr, zbx, zci, Nat.reduceAdd, Nat.zero_add]
    refine DS.retC [(b, .cells (L.map V.peek) 81)] yH yH yH yH (zdq ⟨?_, trivial⟩) ⟨g, by rw [z1]; rfl, z2, z3⟩
    simp only [zaa, e1', e2', ↓reduceIte]
theorem copy_pc' (c : Club) (hs : c.Small) : PC Try.prog 17 [c.val] c.val :=
  PC.of_row (pre := [I c.size, I c.start, I c.absent, I c.window, ints c.places, Bo c.share, .lst (c.members.map Member.cells)]) (zre _) (zuy c hs)
end Go.XL
namespace Go.XL
set_option maxHeartbeats 4000000
structure RoundOk (size : Nat) (met : Int → Int → Bool) (ids : List Int) (T : List (List Int)) : Prop where
  perm : T.flatten.Perm ids
  heads : T.Pairwise fun a b => a.headD 0 < b.headD 0
  len : ∀ t ∈ T, t.length = size
  asc : ∀ t ∈ T, t.Pairwise (· < ·)
  fair : ∀ t ∈ T, zwh met t = true
inductive Fnd (size : Nat) (rounds : List (List Int)) : (Int → Int → Bool) → Nat → List Int → List (Nat × List Int) → Prop
  | done {met : Int → Int → Bool} {round : Nat} : round + 1 = rounds.length → Fnd size rounds met round [] []
  | next {met : Int → Int → Bool} {round : Nat} {Q : List (Nat × List Int)} : round + 1 ≠ rounds.length → Fnd size rounds met (round + 1) (rounds.getD (round + 1) []) Q → Fnd size rounds met round [] Q
  | table {met : Int → Int → Bool} {round : Nat} {f : Int} {fr t : List Int} {Q : List (Nat × List Int)} : t ∈ zga (zcg met) (size - 1) [f] fr → Fnd size rounds (zic met t) round ((f :: fr).filter fun id => !decide (id ∈ t)) Q → Fnd size rounds met round (f :: fr) ((round, t) :: Q)
theorem zsi (met : Int → Int → Bool) : ∀ t : List Int, zwh met t = true ↔ t.Pairwise fun a b => met a b = false
  | [] => by simp [zwh]
  | a :: r => by
    rw [zwh, Bool.and_eq_true, List.pairwise_cons, zsi met r, List.all_eq_true]
    simp
def Club.sat (c : Club) (T : List (List Int)) : Club := { c with rounds := c.rounds ++ [⟨T, List.replicate T.length [], []⟩] }
def noClub : Club := ⟨0, 0, 0, 0, [], false, [], []⟩
def zir (c : Club) (T : List (List Int)) : Club × Int :=
  if zcx c ≠ 0 then (noClub, zcx c) else if c.rounds.length = 20 then (noClub, 8) else if zcx (c.sat T) ≠ 0 then (noClub, zcx (c.sat T)) else (c.sat T, 0)
end Go.XL
namespace Go.XL
set_option maxHeartbeats 4000000
theorem znx {a b : Int} : ∀ {T : List (List Int)}, (∀ t ∈ T, ¬ (a ∈ t ∧ b ∈ t)) → metT a b T = 0
  | [], _ => rfl
  | t :: T, h => by
    rw [metT, if_neg (fun h1 => h t (List.mem_cons_self ..) h1.2), znx fun t ht => h t (List.mem_cons_of_mem _ ht)]
theorem zud {a b : Int} : ∀ {T : List (List Int)}, T.flatten.Nodup → metT a b T ≤ 1
  | [], _ => by simp [metT]
  | t :: T, h => by
    rw [List.flatten_cons] at h
    obtain ⟨h1, h2, h3⟩ := List.nodup_append.1 h
    rw [metT]
    by_cases h4 : a ≠ b ∧ a ∈ t ∧ b ∈ t
    · rw [if_pos h4, znx fun t' ht h5 => h3 a h4.2.1 a (List.mem_flatten.2 ⟨t', ht, h5.1⟩) rfl]
      omega
    · rw [if_neg h4]
      have := zud (a := a) (b := b) h2
      omega
theorem RoundOk.met {c : Club} {size : Nat} {ids : List Int} {T : List (List Int)} (h : RoundOk size (met0 c) ids T) (hn : ids.Nodup) {a b : Int} (hab : a ≠ b) : metT a b T ≤ 1 ∧ (0 < metS c a b → metT a b T = 0) := by
  refine ⟨zud (h.perm.nodup_iff.2 hn), fun h1 => znx fun t ht h2 => ?_⟩
  have h3 := List.pairwise_iff_getElem.1 ((zsi _ _).1 (h.fair t ht))
  obtain ⟨i, hi, rfl⟩ := List.getElem_of_mem h2.1
  obtain ⟨j, hj, rfl⟩ := List.getElem_of_mem h2.2
  have h4 : met0 c t[i] t[j] = true := decide_eq_true h1
  rcases Nat.lt_trichotomy i j with h5 | h5 | h5
  · rw [h3 i j hi hj h5] at h4; cases h4
  · subst h5; exact hab rfl
  · rw [zny, h3 j i hj hi h5] at h4; cases h4
theorem znj {c : Club} (h : c.Small) (hr : c.rounds.length ≤ 25) {T : List (List Int)} (hT : T.length ≤ 1000000) (ht : ∀ t ∈ T, t.length ≤ 1000000) : (c.sat T).Small where
  places := h.places
  members := h.members
  rounds := by simp [Club.sat]; omega
  round := fun s hs => by
    simp only [Club.sat, List.mem_append, List.mem_singleton] at hs
    rcases hs with hs | rfl
    · exact h.round s hs
    · refine ⟨hT, by simpa using hT, by simp, ht, fun t h1 => ?_, fun x h1 => by cases h1⟩
      obtain ⟨-, rfl⟩ := List.mem_replicate.1 h1
      simp
structure AheadI (n : Nat) (P : List (List (List Int))) (c : Club) (i : Nat) : Prop where
  chk : zcx c = 0
  size : c.size = 3 ∨ c.size = 4
  asc : c.members.Pairwise fun a b => a.id < b.id
  pos : ∀ m ∈ c.members, 0 < m.id
  len : i ≤ n ∧ c.rounds.length + (n - i) ≤ 20
  small : c.Small
  tab : zss c
  ids : ∀ m ∈ c.members, In64 m.id
  mem : c.members.length ≤ 1000
  plan : P.length = n
  fnd : i < n → ∃ rounds Q, rounds.length = n ∧ (∀ j, i ≤ j → j < n → rounds.getD j [] = zge c ((c.rounds.length : Int) + ((j - i : Nat) : Int))) ∧ Fnd c.size.toNat rounds (met0 c) i (zge c c.rounds.length) Q ∧ ∀ j, i ≤ j → j < n → P.getD j [] = (Q.filter fun q => decide (q.1 = j)).map Prod.snd
end Go.XL
namespace Go.XL
open Go.Proofs
set_option maxRecDepth 100000
set_option maxHeartbeats 8000000
theorem seatP_pc (c : Club) (hs : c.Small) (T : List (List Int)) (hT : T.length ≤ 1000000) (ht : ∀ t ∈ T, t.length ≤ 1000000) : PC Try.prog 29 [c.val, rows T] (tupV [(zir c T).1.val, I (zir c T).2]) := by
  have q1 := hs.rounds
  have hck := zih c hs
  generalize hR : zir c T = R
  have HR := Box.mk hR
  clear hR
  have e0 : (Value.agg #[.int .i64 0, .int .i64 0, .int .i64 0, .int .i64 0, .slice none 0 0, .bool false, .slice none 0 0, .slice none 0 0]).cells.toList.map V.v = zci := rfl
  refine DC.of_run Try.func29 rfl Try.ntmps29 Try.results29 (by simp) (fun _ => ?_); simp only [zan, zas, go_sem, Nat.zero_add, Nat.reduceAdd]
  repeat' (first | (with_reducible first | refine DS.seq ?_ | refine DS.regionL ?_) | (refine DS.boxF (t := 2) yU yE yU ?_; simp only [zbk, zcd, zbi, zbu, zbf, zaz, zbp, zbb, zca, zcc, zbq, zcb, zbt, zbs]) | fail)
  refine DS.allocS yR yU yU (fun b4 h4 => ?_)
  rw [e0]
  clear h4
  repeat' (first | (with_reducible first | refine DS.fltS yU yU yE ?_ | refine DS.opsNil ?_ | refine DS.seq ?_ | refine DS.regionL ?_ | (refine DS.cE yE ?_; first | refine CG.np (fun _ => ?_) (fun _ => ?_) | refine CG.p (fun _ => ?_) (fun _ => ?_)) | refine DS.skip ?_) | refine DS.pcS inferInstance (hck) yR yT ?_ | (refine DS.store yR yE yE yE yE yU (by exact ⟨by with_unfolding_all rfl, by (try simp only [List.length_map, List.length_append, List.length_set, List.length_replicate, List.length_cons, List.length_nil]); omega⟩) ?_; simp only [zbm, zaq, zat, zbz, zbn, zbl, zbh]; try simp only [zak, zac, zad, Nat.reduceEqDiff, ↓reduceIte, zag, zah, zao, zaf, zae, zal, zai]) | fail)
  · rename_i e1
    refine DS.retW [] (vs := [noClub.val, I (zcx c)]) (by simp only [setS, ↓reduceIte, zaq, zat, zbr, zbx, zci, List.map_cons, List.map_nil, zca, Nat.reduceAdd, Nat.zero_add]; (simp (disch := omega) only [go_sem, dopV, Option.map_some, Option.map_none, Option.bind_some, Option.bind_none, ↓reduceIte, Nat.reduceEqDiff, Nat.reduceLT, Nat.reduceLeDiff, Nat.reduceAdd, Nat.reduceMul, Nat.reduceSub, Nat.zero_add, Nat.add_zero, Nat.zero_le, Nat.zero_mul, Nat.mul_one, Nat.one_mul, Int.natCast_zero, Int.toNat_zero, Int.reduceToNat, Int.reduceLT, Int.reduceLE, Int.reduceEq, decide_true, decide_false, true_and, and_true, Bool.and_self, Bool.and_true, Bool.true_and, Bool.not_true, Bool.not_false, IntWalk.toNatUp, IntWalk.iteOmega, IntWalk.i64_in, Option.isSome_some, not_true_eq_false, not_false_eq_true, Option.getD_some, Option.getD_none, Int.toNat_natCast, List.length_map, List.getElem?_map, List.getElem?_eq_getElem, V.flat, V.one, List.all_cons, List.all_nil]; try exact rfl)) (fun d o e => by cases e) (by rw [← HR.out, zir, if_pos e1]; rfl)
  · rename_i e1 e2
    refine DS.retW [] (vs := [noClub.val, I 8]) (by simp only [setS, ↓reduceIte, zaq, zat, zbr, zbx, zci, List.map_cons, List.map_nil, zca, Nat.reduceAdd, Nat.zero_add]; (simp (disch := omega) only [go_sem, dopV, Option.map_some, Option.map_none, Option.bind_some, Option.bind_none, ↓reduceIte, Nat.reduceEqDiff, Nat.reduceLT, Nat.reduceLeDiff, Nat.reduceAdd, Nat.reduceMul, Nat.reduceSub, Nat.zero_add, Nat.add_zero, Nat.zero_le, Nat.zero_mul, Nat.mul_one, Nat.one_mul, Int.natCast_zero, Int.toNat_zero, Int.reduceToNat, Int.reduceLT, Int.reduceLE, Int.reduceEq, decide_true, decide_false, true_and, and_true, Bool.and_self, Bool.and_true, Bool.true_and, Bool.not_true, Bool.not_false, IntWalk.toNatUp, IntWalk.iteOmega, IntWalk.i64_in, Option.isSome_some, not_true_eq_false, not_false_eq_true, Option.getD_some, Option.getD_none, Int.toNat_natCast, List.length_map, List.getElem?_map, List.getElem?_eq_getElem, V.flat, V.one, List.all_cons, List.all_nil]; try exact rfl)) (fun d o e => by cases e) (by rw [← HR.out, zir, if_neg (by omega), if_pos (by omega)]; rfl)
  rename_i e1 e2
  obtain ⟨k1, k2, k3⟩ := zel e1
  have hck2 := zih (c.sat T) (znj hs (by omega) hT ht)
  refine DS.call (dst := some 21) [] [(b4, .cells zci 26)] inferInstance (copyP_dc c hs) yR yH (fun _ _ e => by cases e) (fun _ _ e => ⟨e, rfl⟩) ?_
  rintro v Sg ⟨g, rfl, gok, gl⟩ hdis
  have n4 : zab Sg b4 = none := by
    cases h : zab Sg b4 with
    | none => rfl
    | some o => have := hdis b4 o h; rw [zaa, if_pos rfl] at this; cases this
  obtain ⟨xg, hxg, hone⟩ : ∃ x : Value, g.cell = .v x ∧ x.oneCell' = true := by obtain ⟨l, blk⟩ := g; cases blk <;> exact ⟨_, rfl, rfl⟩
  simp only [gC, hxg]
  simp only [zcj]
  refine DS.reS (S' := (b4, .cells zci 26) :: Sg) (fun d o e => by
    rw [zaa] at e
    rw [zby]
    split at e
    · rename_i h; subst h; rw [n4, zaa, if_pos rfl]; exact e
    · rw [e]) ?_
  clear hdis
  skip
  refine DS.allocS yR yU yU (fun b7 h7 => ?_)
  rw [e0]
  rw [zaa] at h7
  have n1 : ¬ b4 = b7 := fun e => by rw [if_pos e] at h7; cases h7
  have n1' : ¬ b7 = b4 := fun e => n1 e.symm
  rw [if_neg n1] at h7
  skip
  refine DS.store yR yH yH yH yH (by simp only [V.flat, V.one, List.all_cons, List.all_nil, hone]; rfl) ⟨by rfl, by simp [zci]⟩ ?_
  simp only [zbm, zaq, zat, zbh, zak, zad, Nat.reduceEqDiff, ↓reduceIte, zae, setS, zbr, zbx, zci, List.map_cons, List.map_nil, zca, zbb, Nat.reduceAdd, Nat.zero_add]
  repeat' (first | (with_reducible first | refine DS.opsNil ?_ | refine DS.seq ?_) | refine DS.drawL (id := 7) [0, 1, 2, 3, 4, 5, 6, 7, 8] 9 (by kernel_rfl) zct (by simp only [zay, zbc, zbd, zbe, zax]; exact rfl) (by simp only [zav, zaw, List.drop_nil]; exact rfl) ?_ | with_reducible refine DD.fltS yU yU yU yE ?_ | refine DD.pcS inferInstance (zki T hT ht) yU yT ?_; simp only [zbo, zbw, Nat.reduceEqDiff, ↓reduceIte] | fail)
  refine DD.mk yU yG yG yG yG yU yU ⟨by omega, by omega, by decide, by omega⟩ (fun u u1 u2 => ?_)
  simp only [Int.toNat_natCast]
  rw [zaa] at u2
  have m7 : ¬ b7 = u := fun e => by rw [if_pos e] at u2; cases u2
  rw [if_neg m7, zaa] at u2
  have m4 : ¬ b4 = u := fun e => by rw [if_pos e] at u2; cases u2
  rw [if_neg m4] at u2
  have U := Box.mk u2
  have N := Box.mk (And.intro n4 h7)
  clear u1 u2 e0 n4 h7
  refine DD.flt1S yU yU yU yU yG ?_
  simp only [zbo, zbw, Nat.reduceEqDiff, ↓reduceIte]
  refine DD.bslS yU yG yG ?_
  simp only [go_sem, Nat.zero_add, Nat.reduceAdd, zbo, zbw, Nat.reduceEqDiff, ↓reduceIte]
  refine DD.nil ?_
  simp only [zap, zau]
  have gok' : g.Ok 81 3 ((u, .cells (List.replicate T.length (.v (.slice none 0 0))) 22) :: (b7, .cells (gC c (.v xg)) 26) :: (b4, .cells zci 26) :: Sg) := gok.of fun b cap j hb => by
    have hb2 : ∃ o, zab Sg b = some o := by obtain ⟨l, blk⟩ := g; cases hb; exact ⟨_, gok.look⟩
    obtain ⟨o, ho⟩ := hb2
    rw [zaa, if_neg (fun e => by subst e; rw [U.out] at ho; cases ho), zaa, if_neg (fun e => by subst e; rw [N.out.2] at ho; cases ho), zaa, if_neg (fun e => by subst e; rw [N.out.1] at ho; cases ho)]
  have gne : ∀ d, zab Sg d = none → ∀ cap j, g.blk ≠ some (d, cap, j) := fun d hd cap j hb => by
    obtain ⟨l, blk⟩ := g; cases hb; have h := gok.look; rw [hd] at h; cases h
  have hgl : g.l.length = c.rounds.length := by rw [gl, List.length_map]
  refine DS.step rfl rfl yR (OpS.appG (g := g) (ml := [[rows T, .v (.slice (some ⟨u, 0, none⟩) T.length T.length), .v (.slice none 0 0)]]) rfl yH yH yR yR (by decide) (by rw [hxg]; (simp (disch := omega) only [go_sem, dopV, Option.map_some, Option.map_none, Option.bind_some, Option.bind_none, ↓reduceIte, Nat.reduceEqDiff, Nat.reduceLT, Nat.reduceLeDiff, Nat.reduceAdd, Nat.reduceMul, Nat.reduceSub, Nat.zero_add, Nat.add_zero, Nat.zero_le, Nat.zero_mul, Nat.mul_one, Nat.one_mul, Int.natCast_zero, Int.toNat_zero, Int.reduceToNat, Int.reduceLT, Int.reduceLE, Int.reduceEq, decide_true, decide_false, true_and, and_true, Bool.and_self, Bool.and_true, Bool.true_and, Bool.not_true, Bool.not_false, IntWalk.toNatUp, IntWalk.iteOmega, IntWalk.i64_in, Option.isSome_some, not_true_eq_false, not_false_eq_true, Option.getD_some, Option.getD_none, Int.toNat_natCast, List.length_map, List.getElem?_map, List.getElem?_eq_getElem, V.flat, V.one, List.all_cons, List.all_nil]; try exact rfl)) gok' yH yH (by simp) (by simp) ⟨by rw [hgl]; simp only [List.length_singleton]; omega, by decide⟩) (fun u2 E' S4 hu2 => ?_)
  obtain ⟨rfl, b, cap, junk, rfl, m1, m2, m3⟩ := hu2
  have k4 := m1.look
  have k5 := m1.le
  have k6 := m1.cap
  simp only [GR.cell_some, zcj, List.length_append, List.length_map, List.length_singleton, hgl] at k5 ⊢
  have z7 := m3 b7
  have z4 := m3 b4
  have zu := m3 u
  have ne : ∀ d o, zab Sg d = none → zab ((u, .cells (List.replicate T.length (.v (.slice none 0 0))) 22) :: (b7, .cells (gC c (.v xg)) 26) :: (b4, .cells zci 26) :: Sg) d = some o → ¬ d = b := fun d o h1 h2 e => by
    subst e
    rcases m2 with ⟨cap, j, h⟩ | h
    · exact gne d h1 _ _ h
    · rw [h2] at h; cases h
  have m7' : ¬ u = b7 := fun h => m7 h.symm
  have m4' : ¬ u = b4 := fun h => m4 h.symm
  have w7 := ne b7 (.cells (gC c (.v xg)) 26) N.out.2 (by simp only [zaa, m7', ↓reduceIte])
  have w4 := ne b4 (.cells zci 26) N.out.1 (by simp only [zaa, m4', n1', ↓reduceIte])
  have wu := ne u (.cells (List.replicate T.length (.v (.slice none 0 0))) 22) U.out (by simp only [zaa, ↓reduceIte])
  have w7' : ¬ b = b7 := fun h => w7 h.symm
  have w4' : ¬ b = b4 := fun h => w4 h.symm
  have wu' : ¬ b = u := fun h => wu h.symm
  replace z7 := z7 w7 (gne b7 N.out.2)
  replace z4 := z4 w4 (gne b4 N.out.1)
  replace zu := zu wu (gne u U.out)
  simp only [zaa, m7', m4', n1', ↓reduceIte] at z7 z4 zu
  rw [gl] at k4
  refine DS.reS (S' := [(b7, .cells (gC c (.v xg)) 26), (b4, .cells zci 26), (u, .cells (List.replicate T.length (.v (.slice none 0 0))) 22), (b, .cells ((c.rounds.map Sitting.cells).flatten ++ (rows T :: .v (.slice (some ⟨u, 0, none⟩) T.length T.length) :: .v (.slice none 0 0) :: junk)) 81)]) (zdq ⟨z7, z4, zu, by rw [k4]; simp; exact ⟨rfl, rfl, rfl⟩, trivial⟩) ?_
  clear m1 m2 m3 ne gne gok gok' U N z7 z4 zu hgl gl
  refine DS.fltS yU yU yG ?_
  refine DS.store yR yH yH yH yH yR ⟨by rfl, by simp [gC]⟩ ?_
  simp only [zbm, zaq, zat, zbz, zak, zad, Nat.reduceEqDiff, ↓reduceIte, zao, setS, gC, zbx, zbr, Nat.reduceAdd, Nat.zero_add]
  have r1 : (List.replicate T.length (V.v (.slice none 0 0))).map V.peek = (List.replicate T.length ([] : List Int)).map fun t => ints t := by simp only [List.map_replicate]; rfl
  have r2 : chunk 1 T.length (((List.replicate T.length ([] : List Int)).map fun t => ints t).map V.copy) = (List.replicate T.length ([] : List Int)).map cR := by
    have h := zhq (List.replicate T.length ([] : List Int)) []
    rw [List.length_replicate, List.append_nil] at h
    exact h
  have r3 : ((c.rounds.map Sitting.cells).flatten ++ (rows T :: .lst ((List.replicate T.length ([] : List Int)).map cR) :: .v (.slice none 0 0) :: junk)).map V.peek = ((c.sat T).rounds.map Sitting.cells).flatten ++ junk.map V.peek := by
    rw [List.map_append, zkx]
    simp only [Club.sat, List.map_append, List.map_cons, List.map_nil, List.flatten_append, List.flatten_cons, List.flatten_nil, List.append_nil, List.append_assoc]
    rfl
  have r4 : (c.sat T).rounds.length = c.rounds.length + 1 := by simp [Club.sat]
  have r5 : chunk 3 (c.rounds.length + 1) ((((c.sat T).rounds.map Sitting.cells).flatten ++ junk.map V.peek).map V.copy) = (c.sat T).rounds.map Sitting.cells := by
    rw [← r4]; exact (zjk _ _).chunk
  have r6 : ((c.rounds.map Sitting.cells).flatten).length = c.rounds.length * 3 := zet Sitting.len _
  refine DS.mapO (b := u) V.peek (fun _ _ _ h => V.peek_Rl h) zdc (by simp only [zaa, m7, m4, ↓reduceIte]; exact rfl) ?_
  simp only [setS, m7, m4, ↓reduceIte, r1]
  refine DS.freezeC (b := u) (b' := b) (i := c.rounds.length * 3 + 1) (sz := 1) (len := T.length) (cap := T.length) (l := (List.replicate T.length ([] : List Int)).map fun t => ints t) (T := 22) (l' := (c.rounds.map Sitting.cells).flatten ++ (rows T :: .v (.slice (some ⟨u, 0, none⟩) T.length T.length) :: .v (.slice none 0 0) :: junk)) (T' := 81) wu' (by simp only [zaa, w7, w4, wu, ↓reduceIte]) (by rw [List.getElem?_append_right (by omega), r6, Nat.add_sub_cancel_left]; rfl) (by simp only [zaa, m7, m4, ↓reduceIte]) (by simp) ⟨Nat.le_refl _, by unfold maxLen; omega⟩ ?_
  rw [r2, List.set_append_right _ _ (by omega), r6, Nat.add_sub_cancel_left, List.set_cons_succ, List.set_cons_zero]
  simp only [setS, zbj, zbv, m7, m4, m7', m4', w7, w4, wu, w7', w4', wu', ↓reduceIte]
  refine DS.mapO (b := b) V.peek (fun _ _ _ h => V.peek_Rl h) zdc (by simp only [zaa, w7, w4, ↓reduceIte]; exact rfl) ?_
  simp only [setS, w7, w4, ↓reduceIte, r3]
  refine DS.freezeC (b := b) (b' := b7) (i := 7) (sz := 3) (len := c.rounds.length + 1) (cap := cap) (l := ((c.sat T).rounds.map Sitting.cells).flatten ++ junk.map V.peek) (T := 81) (l' := gC c (.v (.slice (some ⟨b, 0, none⟩) (c.rounds.length + 1) cap))) (T' := 26) w7 (by simp only [zaa, ↓reduceIte]) yR (by simp only [zaa, w7, w4, ↓reduceIte]) (by rw [List.length_append, zet Sitting.len, r4]; omega) ⟨k5, k6⟩ ?_
  rw [r5]
  simp only [setS, zbj, zbv, w7, w4, w7', w4', ↓reduceIte, zbx, zbr]
  repeat' (first | (with_reducible first | refine DS.fltS yU yU yE ?_ | refine DS.opsNil ?_ | refine DS.seq ?_ | refine DS.regionL ?_ | (refine DS.cE yE ?_; refine CG.np (fun _ => ?_) (fun _ => ?_)) | refine DS.skip ?_) | refine DS.pcS inferInstance (hck2) yR yT ?_ | (refine DS.store yR yE yE yE yE yU (by exact ⟨by with_unfolding_all rfl, by (try simp only [List.length_map, List.length_append, List.length_set, List.length_replicate, List.length_cons, List.length_nil]); omega⟩) ?_; simp only [zbm, zaq, zat, zbz, zbn, zbl, zbh]; try simp only [zak, zac, zad, Nat.reduceEqDiff, ↓reduceIte, zag, zah, zao, zaf, zae, zal, zai]) | fail)
  · rename_i e3
    refine DS.retW [] (vs := [noClub.val, I (zcx (c.sat T))]) (by simp only [setS, w7', w4', n1, n1', ↓reduceIte, zaq, zat, zbr, zbx, zci, List.map_cons, List.map_nil, zca, Nat.reduceAdd, Nat.zero_add]; (simp (disch := omega) only [go_sem, dopV, Option.map_some, Option.map_none, Option.bind_some, Option.bind_none, ↓reduceIte, Nat.reduceEqDiff, Nat.reduceLT, Nat.reduceLeDiff, Nat.reduceAdd, Nat.reduceMul, Nat.reduceSub, Nat.zero_add, Nat.add_zero, Nat.zero_le, Nat.zero_mul, Nat.mul_one, Nat.one_mul, Int.natCast_zero, Int.toNat_zero, Int.reduceToNat, Int.reduceLT, Int.reduceLE, Int.reduceEq, decide_true, decide_false, true_and, and_true, Bool.and_self, Bool.and_true, Bool.true_and, Bool.not_true, Bool.not_false, IntWalk.toNatUp, IntWalk.iteOmega, IntWalk.i64_in, Option.isSome_some, not_true_eq_false, not_false_eq_true, Option.getD_some, Option.getD_none, Int.toNat_natCast, List.length_map, List.getElem?_map, List.getElem?_eq_getElem, V.flat, V.one, List.all_cons, List.all_nil]; try exact rfl)) (fun d o e => by cases e) (by rw [← HR.out, zir, if_neg (by omega), if_neg (by omega), if_pos e3]; rfl)
  · rename_i e3
    refine DS.retW [] (vs := [(c.sat T).val, I 0]) (by simp only [setS, w7', w4', n1, n1', ↓reduceIte, zaq, zat, zbr, zbx, zci, List.map_cons, List.map_nil, zca, zbb, Nat.reduceAdd, Nat.zero_add]; (simp (disch := omega) only [go_sem, dopV, Option.map_some, Option.map_none, Option.bind_some, Option.bind_none, ↓reduceIte, Nat.reduceEqDiff, Nat.reduceLT, Nat.reduceLeDiff, Nat.reduceAdd, Nat.reduceMul, Nat.reduceSub, Nat.zero_add, Nat.add_zero, Nat.zero_le, Nat.zero_mul, Nat.mul_one, Nat.one_mul, Int.natCast_zero, Int.toNat_zero, Int.reduceToNat, Int.reduceLT, Int.reduceLE, Int.reduceEq, decide_true, decide_false, true_and, and_true, Bool.and_self, Bool.and_true, Bool.true_and, Bool.not_true, Bool.not_false, IntWalk.toNatUp, IntWalk.iteOmega, IntWalk.i64_in, Option.isSome_some, not_true_eq_false, not_false_eq_true, Option.getD_some, Option.getD_none, Int.toNat_natCast, List.length_map, List.getElem?_map, List.getElem?_eq_getElem, V.flat, V.one, List.all_cons, List.all_nil]; try exact rfl)) (fun d o e => by cases e) (by rw [← HR.out, zir, if_neg (by omega), if_neg (by omega), if_neg (by omega)]; rfl)
end Go.XL
namespace Go.XL
open Go.Proofs
set_option maxRecDepth 100000
set_option maxHeartbeats 8000000
theorem seatR_pc (c : Club) (hs : c.Small) (T : List (List Int)) (hT : T.length ≤ 1000000) (ht : ∀ t ∈ T, t.length ≤ 1000000) : PC Try.prog 37 [c.val, rows T] (tupV [(zir c T).1.val, I (zir c T).2]) := by
  have q1 := hs.rounds
  have hck := zgs c hs
  generalize hR : zir c T = R
  have HR := Box.mk hR
  clear hR
  have e0 : (Value.agg #[.int .i64 0, .int .i64 0, .int .i64 0, .int .i64 0, .slice none 0 0, .bool false, .slice none 0 0, .slice none 0 0]).cells.toList.map V.v = zci := rfl
  refine DC.of_run Try.func37 rfl Try.ntmps37 Try.results37 (by simp) (fun _ => ?_); simp only [zan, zas, go_sem, Nat.zero_add, Nat.reduceAdd]
  repeat' (first | (with_reducible first | refine DS.seq ?_ | refine DS.regionL ?_) | (with_reducible refine DS.boxS yU yE yU (fun _ hfr => ?_); have hfr := zgh hfr; simp only [zeg, zfe, and_true] at hfr; simp only [zbk, zcd, zbi, zbu, zbf, zaz, zbp, zbb, zca, zcc, zbq, zcb, zbt, zbs]) | fail)
  rename_i b7 hb7
  clear hb7
  refine DS.allocS yR yU yU (fun b4 h4 => ?_)
  rw [e0]
  have n1' : ¬ b7 = b4 := fun e => by rw [zaa, if_pos e] at h4; cases h4
  have n1 : ¬ b4 = b7 := fun e => n1' e.symm
  clear h4
  repeat' (first | (with_reducible first | refine DS.fltS yU yU yE ?_ | refine DS.opsNil ?_ | refine DS.seq ?_ | refine DS.regionL ?_ | (refine DS.cE yE ?_; first | refine CG.np (fun _ => ?_) (fun _ => ?_) | refine CG.p (fun _ => ?_) (fun _ => ?_)) | refine DS.skip ?_) | refine DS.pcS inferInstance (hck) yR yT ?_ | (refine DS.store yR yE yE yE yE yU (by exact ⟨by with_unfolding_all rfl, by (try simp only [List.length_map, List.length_append, List.length_set, List.length_replicate, List.length_cons, List.length_nil]); omega⟩) ?_; simp only [zbm, zaq, zat, zbz, zbn, zbl, zbh]; try simp only [zak, zac, zad, Nat.reduceEqDiff, ↓reduceIte, zag, zah, zao, zaf, zae, zal, zai]) | fail)
  · rename_i e1
    refine DS.retW [] (vs := [noClub.val, I (zcx c)]) (by simp only [setS, ↓reduceIte, zaq, zat, zbr, zbx, zci, List.map_cons, List.map_nil, zca, Nat.reduceAdd, Nat.zero_add]; (simp (disch := omega) only [go_sem, dopV, Option.map_some, Option.map_none, Option.bind_some, Option.bind_none, ↓reduceIte, Nat.reduceEqDiff, Nat.reduceLT, Nat.reduceLeDiff, Nat.reduceAdd, Nat.reduceMul, Nat.reduceSub, Nat.zero_add, Nat.add_zero, Nat.zero_le, Nat.zero_mul, Nat.mul_one, Nat.one_mul, Int.natCast_zero, Int.toNat_zero, Int.reduceToNat, Int.reduceLT, Int.reduceLE, Int.reduceEq, decide_true, decide_false, true_and, and_true, Bool.and_self, Bool.and_true, Bool.true_and, Bool.not_true, Bool.not_false, IntWalk.toNatUp, IntWalk.iteOmega, IntWalk.i64_in, Option.isSome_some, not_true_eq_false, not_false_eq_true, Option.getD_some, Option.getD_none, Int.toNat_natCast, List.length_map, List.getElem?_map, List.getElem?_eq_getElem, V.flat, V.one, List.all_cons, List.all_nil]; try exact rfl)) (fun d o e => by cases e) (by rw [← HR.out, zir, if_pos e1]; rfl)
  · rename_i e1 e2
    refine DS.retW [] (vs := [noClub.val, I 8]) (by simp only [setS, ↓reduceIte, zaq, zat, zbr, zbx, zci, List.map_cons, List.map_nil, zca, Nat.reduceAdd, Nat.zero_add]; (simp (disch := omega) only [go_sem, dopV, Option.map_some, Option.map_none, Option.bind_some, Option.bind_none, ↓reduceIte, Nat.reduceEqDiff, Nat.reduceLT, Nat.reduceLeDiff, Nat.reduceAdd, Nat.reduceMul, Nat.reduceSub, Nat.zero_add, Nat.add_zero, Nat.zero_le, Nat.zero_mul, Nat.mul_one, Nat.one_mul, Int.natCast_zero, Int.toNat_zero, Int.reduceToNat, Int.reduceLT, Int.reduceLE, Int.reduceEq, decide_true, decide_false, true_and, and_true, Bool.and_self, Bool.and_true, Bool.true_and, Bool.not_true, Bool.not_false, IntWalk.toNatUp, IntWalk.iteOmega, IntWalk.i64_in, Option.isSome_some, not_true_eq_false, not_false_eq_true, Option.getD_some, Option.getD_none, Int.toNat_natCast, List.length_map, List.getElem?_map, List.getElem?_eq_getElem, V.flat, V.one, List.all_cons, List.all_nil]; try exact rfl)) (fun d o e => by cases e) (by rw [← HR.out, zir, if_neg (by omega), if_pos (by omega)]; rfl)
  rename_i e1 e2
  obtain ⟨k1, k2, k3⟩ := zel e1
  have hck2 := zgs (c.sat T) (znj hs (by omega) hT ht)
  refine DS.call (dst := some 20) [] [(b4, .cells zci 26), (b7, .cells (mC c) 26)] inferInstance (zuy c hs) yR yH (fun _ _ e => by cases e) (fun _ _ e => ⟨e, rfl⟩) ?_
  rintro v Sg ⟨g, rfl, gok, gl⟩ hdis
  have n4 : zab Sg b4 = none := by
    cases h : zab Sg b4 with
    | none => rfl
    | some o => have := hdis b4 o h; rw [zaa, if_pos rfl] at this; cases this
  have h7 : zab Sg b7 = none := by
    cases h : zab Sg b7 with
    | none => rfl
    | some o => have := hdis b7 o h; rw [zaa, if_neg n1, zaa, if_pos rfl] at this; cases this
  obtain ⟨xg, hxg, hone⟩ : ∃ x : Value, g.cell = .v x ∧ x.oneCell' = true := by obtain ⟨l, blk⟩ := g; cases blk <;> exact ⟨_, rfl, rfl⟩
  simp only [gC, hxg]
  simp only [zcj]
  refine DS.reS (S' := (b7, .cells (mC c) 26) :: (b4, .cells zci 26) :: Sg) (fun d o e => by
    rw [zaa, zaa] at e
    rw [zby]
    split at e
    · rename_i h; subst h; rw [h7, zaa, if_neg n1, zaa, if_pos rfl]; exact e
    split at e
    · rename_i h; subst h; rw [n4, zaa, if_pos rfl]; exact e
    · rw [e]) ?_
  clear hdis
  refine DS.store yR yH yH yH yH (by simp only [V.flat, V.one, List.all_cons, List.all_nil, hone]; rfl) ⟨by rfl, by simp [mC]⟩ ?_
  simp only [zbm, zaq, zat, zbh, zak, zad, Nat.reduceEqDiff, ↓reduceIte, zae, setS, zbr, zbx, zci, List.map_cons, List.map_nil, zca, zbb, Nat.reduceAdd, Nat.zero_add]
  repeat' (first | (with_reducible first | refine DS.opsNil ?_ | refine DS.seq ?_) | refine DS.drawL (id := 7) [0, 1, 2, 3, 4, 5, 6, 7, 8] 9 (by kernel_rfl) zct (by simp only [zay, zbc, zbd, zbe, zax]; exact rfl) (by simp only [zav, zaw, List.drop_nil]; exact rfl) ?_ | with_reducible refine DD.fltS yU yU yU yE ?_ | refine DD.pcS inferInstance (zqq T hT ht) yU yT ?_; simp only [zbo, zbw, Nat.reduceEqDiff, ↓reduceIte] | fail)
  refine DD.mk yU yG yG yG yG yU yU ⟨by omega, by omega, by decide, by omega⟩ (fun u u1 u2 => ?_)
  simp only [Int.toNat_natCast]
  rw [zaa] at u2
  have m7 : ¬ b7 = u := fun e => by rw [if_pos e] at u2; cases u2
  rw [if_neg m7, zaa] at u2
  have m4 : ¬ b4 = u := fun e => by rw [if_pos e] at u2; cases u2
  rw [if_neg m4] at u2
  have U := Box.mk u2
  have N := Box.mk (And.intro n4 h7)
  clear u1 u2 e0 n4 h7
  refine DD.flt1S yU yU yU yU yG ?_
  simp only [zbo, zbw, Nat.reduceEqDiff, ↓reduceIte]
  refine DD.bslS yU yG yG ?_
  simp only [go_sem, Nat.zero_add, Nat.reduceAdd, zbo, zbw, Nat.reduceEqDiff, ↓reduceIte]
  refine DD.nil ?_
  simp only [zap, zau]
  have gok' : g.Ok 81 3 ((u, .cells (List.replicate T.length (.v (.slice none 0 0))) 22) :: (b7, .cells (gC c (.v xg)) 26) :: (b4, .cells zci 26) :: Sg) := gok.of fun b cap j hb => by
    have hb2 : ∃ o, zab Sg b = some o := by obtain ⟨l, blk⟩ := g; cases hb; exact ⟨_, gok.look⟩
    obtain ⟨o, ho⟩ := hb2
    rw [zaa, if_neg (fun e => by subst e; rw [U.out] at ho; cases ho), zaa, if_neg (fun e => by subst e; rw [N.out.2] at ho; cases ho), zaa, if_neg (fun e => by subst e; rw [N.out.1] at ho; cases ho)]
  have gne : ∀ d, zab Sg d = none → ∀ cap j, g.blk ≠ some (d, cap, j) := fun d hd cap j hb => by
    obtain ⟨l, blk⟩ := g; cases hb; have h := gok.look; rw [hd] at h; cases h
  have hgl : g.l.length = c.rounds.length := by rw [gl, List.length_map]
  refine DS.step rfl rfl yR (OpS.appG (g := g) (ml := [[rows T, .v (.slice (some ⟨u, 0, none⟩) T.length T.length), .v (.slice none 0 0)]]) rfl yH yH yR yR (by decide) (by rw [hxg]; (simp (disch := omega) only [go_sem, dopV, Option.map_some, Option.map_none, Option.bind_some, Option.bind_none, ↓reduceIte, Nat.reduceEqDiff, Nat.reduceLT, Nat.reduceLeDiff, Nat.reduceAdd, Nat.reduceMul, Nat.reduceSub, Nat.zero_add, Nat.add_zero, Nat.zero_le, Nat.zero_mul, Nat.mul_one, Nat.one_mul, Int.natCast_zero, Int.toNat_zero, Int.reduceToNat, Int.reduceLT, Int.reduceLE, Int.reduceEq, decide_true, decide_false, true_and, and_true, Bool.and_self, Bool.and_true, Bool.true_and, Bool.not_true, Bool.not_false, IntWalk.toNatUp, IntWalk.iteOmega, IntWalk.i64_in, Option.isSome_some, not_true_eq_false, not_false_eq_true, Option.getD_some, Option.getD_none, Int.toNat_natCast, List.length_map, List.getElem?_map, List.getElem?_eq_getElem, V.flat, V.one, List.all_cons, List.all_nil]; try exact rfl)) gok' yH yH (by simp) (by simp) ⟨by rw [hgl]; simp only [List.length_singleton]; omega, by decide⟩) (fun u2 E' S4 hu2 => ?_)
  obtain ⟨rfl, b, cap, junk, rfl, m1, m2, m3⟩ := hu2
  have k4 := m1.look
  have k5 := m1.le
  have k6 := m1.cap
  simp only [GR.cell_some, zcj, List.length_append, List.length_map, List.length_singleton, hgl] at k5 ⊢
  have z7 := m3 b7
  have z4 := m3 b4
  have zu := m3 u
  have ne : ∀ d o, zab Sg d = none → zab ((u, .cells (List.replicate T.length (.v (.slice none 0 0))) 22) :: (b7, .cells (gC c (.v xg)) 26) :: (b4, .cells zci 26) :: Sg) d = some o → ¬ d = b := fun d o h1 h2 e => by
    subst e
    rcases m2 with ⟨cap, j, h⟩ | h
    · exact gne d h1 _ _ h
    · rw [h2] at h; cases h
  have m7' : ¬ u = b7 := fun h => m7 h.symm
  have m4' : ¬ u = b4 := fun h => m4 h.symm
  have w7 := ne b7 (.cells (gC c (.v xg)) 26) N.out.2 (by simp only [zaa, m7', ↓reduceIte])
  have w4 := ne b4 (.cells zci 26) N.out.1 (by simp only [zaa, m4', n1', ↓reduceIte])
  have wu := ne u (.cells (List.replicate T.length (.v (.slice none 0 0))) 22) U.out (by simp only [zaa, ↓reduceIte])
  have w7' : ¬ b = b7 := fun h => w7 h.symm
  have w4' : ¬ b = b4 := fun h => w4 h.symm
  have wu' : ¬ b = u := fun h => wu h.symm
  replace z7 := z7 w7 (gne b7 N.out.2)
  replace z4 := z4 w4 (gne b4 N.out.1)
  replace zu := zu wu (gne u U.out)
  simp only [zaa, m7', m4', n1', ↓reduceIte] at z7 z4 zu
  rw [gl] at k4
  refine DS.reS (S' := [(b7, .cells (gC c (.v xg)) 26), (b4, .cells zci 26), (u, .cells (List.replicate T.length (.v (.slice none 0 0))) 22), (b, .cells ((c.rounds.map Sitting.cells).flatten ++ (rows T :: .v (.slice (some ⟨u, 0, none⟩) T.length T.length) :: .v (.slice none 0 0) :: junk)) 81)]) (zdq ⟨z7, z4, zu, by rw [k4]; simp; exact ⟨rfl, rfl, rfl⟩, trivial⟩) ?_
  clear m1 m2 m3 ne gne gok gok' U N z7 z4 zu hgl gl
  refine DS.fltS yU yU yG ?_
  refine DS.store yR yH yH yH yH yR ⟨by rfl, by simp [gC]⟩ ?_
  simp only [zbm, zaq, zat, zbz, zak, zad, Nat.reduceEqDiff, ↓reduceIte, zao, setS, gC, zbx, zbr, Nat.reduceAdd, Nat.zero_add]
  have r1 : (List.replicate T.length (V.v (.slice none 0 0))).map V.peek = (List.replicate T.length ([] : List Int)).map fun t => ints t := by simp only [List.map_replicate]; rfl
  have r2 : chunk 1 T.length (((List.replicate T.length ([] : List Int)).map fun t => ints t).map V.copy) = (List.replicate T.length ([] : List Int)).map cR := by
    have h := zhq (List.replicate T.length ([] : List Int)) []
    rw [List.length_replicate, List.append_nil] at h
    exact h
  have r3 : ((c.rounds.map Sitting.cells).flatten ++ (rows T :: .lst ((List.replicate T.length ([] : List Int)).map cR) :: .v (.slice none 0 0) :: junk)).map V.peek = ((c.sat T).rounds.map Sitting.cells).flatten ++ junk.map V.peek := by
    rw [List.map_append, zkx]
    simp only [Club.sat, List.map_append, List.map_cons, List.map_nil, List.flatten_append, List.flatten_cons, List.flatten_nil, List.append_nil, List.append_assoc]
    rfl
  have r4 : (c.sat T).rounds.length = c.rounds.length + 1 := by simp [Club.sat]
  have r5 : chunk 3 (c.rounds.length + 1) ((((c.sat T).rounds.map Sitting.cells).flatten ++ junk.map V.peek).map V.copy) = (c.sat T).rounds.map Sitting.cells := by
    rw [← r4]; exact (zjk _ _).chunk
  have r6 : ((c.rounds.map Sitting.cells).flatten).length = c.rounds.length * 3 := zet Sitting.len _
  refine DS.mapO (b := u) V.peek (fun _ _ _ h => V.peek_Rl h) zdc (by simp only [zaa, m7, m4, ↓reduceIte]; exact rfl) ?_
  simp only [setS, m7, m4, ↓reduceIte, r1]
  refine DS.freezeC (b := u) (b' := b) (i := c.rounds.length * 3 + 1) (sz := 1) (len := T.length) (cap := T.length) (l := (List.replicate T.length ([] : List Int)).map fun t => ints t) (T := 22) (l' := (c.rounds.map Sitting.cells).flatten ++ (rows T :: .v (.slice (some ⟨u, 0, none⟩) T.length T.length) :: .v (.slice none 0 0) :: junk)) (T' := 81) wu' (by simp only [zaa, w7, w4, wu, ↓reduceIte]) (by rw [List.getElem?_append_right (by omega), r6, Nat.add_sub_cancel_left]; rfl) (by simp only [zaa, m7, m4, ↓reduceIte]) (by simp) ⟨Nat.le_refl _, by unfold maxLen; omega⟩ ?_
  rw [r2, List.set_append_right _ _ (by omega), r6, Nat.add_sub_cancel_left, List.set_cons_succ, List.set_cons_zero]
  simp only [setS, zbj, zbv, m7, m4, m7', m4', w7, w4, wu, w7', w4', wu', ↓reduceIte]
  refine DS.mapO (b := b) V.peek (fun _ _ _ h => V.peek_Rl h) zdc (by simp only [zaa, w7, w4, ↓reduceIte]; exact rfl) ?_
  simp only [setS, w7, w4, ↓reduceIte, r3]
  refine DS.freezeC (b := b) (b' := b7) (i := 7) (sz := 3) (len := c.rounds.length + 1) (cap := cap) (l := ((c.sat T).rounds.map Sitting.cells).flatten ++ junk.map V.peek) (T := 81) (l' := gC c (.v (.slice (some ⟨b, 0, none⟩) (c.rounds.length + 1) cap))) (T' := 26) w7 (by simp only [zaa, ↓reduceIte]) yR (by simp only [zaa, w7, w4, ↓reduceIte]) (by rw [List.length_append, zet Sitting.len, r4]; omega) ⟨k5, k6⟩ ?_
  rw [r5]
  simp only [setS, zbj, zbv, w7, w4, w7', w4', ↓reduceIte, zbx, zbr]
  repeat' (first | (with_reducible first | refine DS.fltS yU yU yE ?_ | refine DS.opsNil ?_ | refine DS.seq ?_ | refine DS.regionL ?_ | (refine DS.cE yE ?_; refine CG.np (fun _ => ?_) (fun _ => ?_)) | refine DS.skip ?_) | refine DS.pcS inferInstance (hck2) yR yT ?_ | (refine DS.store yR yE yE yE yE yU (by exact ⟨by with_unfolding_all rfl, by (try simp only [List.length_map, List.length_append, List.length_set, List.length_replicate, List.length_cons, List.length_nil]); omega⟩) ?_; simp only [zbm, zaq, zat, zbz, zbn, zbl, zbh]; try simp only [zak, zac, zad, Nat.reduceEqDiff, ↓reduceIte, zag, zah, zao, zaf, zae, zal, zai]) | fail)
  · rename_i e3
    refine DS.retW [] (vs := [noClub.val, I (zcx (c.sat T))]) (by simp only [setS, w7', w4', n1, n1', ↓reduceIte, zaq, zat, zbr, zbx, zci, List.map_cons, List.map_nil, zca, Nat.reduceAdd, Nat.zero_add]; (simp (disch := omega) only [go_sem, dopV, Option.map_some, Option.map_none, Option.bind_some, Option.bind_none, ↓reduceIte, Nat.reduceEqDiff, Nat.reduceLT, Nat.reduceLeDiff, Nat.reduceAdd, Nat.reduceMul, Nat.reduceSub, Nat.zero_add, Nat.add_zero, Nat.zero_le, Nat.zero_mul, Nat.mul_one, Nat.one_mul, Int.natCast_zero, Int.toNat_zero, Int.reduceToNat, Int.reduceLT, Int.reduceLE, Int.reduceEq, decide_true, decide_false, true_and, and_true, Bool.and_self, Bool.and_true, Bool.true_and, Bool.not_true, Bool.not_false, IntWalk.toNatUp, IntWalk.iteOmega, IntWalk.i64_in, Option.isSome_some, not_true_eq_false, not_false_eq_true, Option.getD_some, Option.getD_none, Int.toNat_natCast, List.length_map, List.getElem?_map, List.getElem?_eq_getElem, V.flat, V.one, List.all_cons, List.all_nil]; try exact rfl)) (fun d o e => by cases e) (by rw [← HR.out, zir, if_neg (by omega), if_neg (by omega), if_pos e3]; rfl)
  · rename_i e3
    refine DS.retW [] (vs := [(c.sat T).val, I 0]) (by simp only [setS, w7', w4', n1, n1', ↓reduceIte, zaq, zat, zbr, zbx, zci, List.map_cons, List.map_nil, zca, zbb, Nat.reduceAdd, Nat.zero_add]; (simp (disch := omega) only [go_sem, dopV, Option.map_some, Option.map_none, Option.bind_some, Option.bind_none, ↓reduceIte, Nat.reduceEqDiff, Nat.reduceLT, Nat.reduceLeDiff, Nat.reduceAdd, Nat.reduceMul, Nat.reduceSub, Nat.zero_add, Nat.add_zero, Nat.zero_le, Nat.zero_mul, Nat.mul_one, Nat.one_mul, Int.natCast_zero, Int.toNat_zero, Int.reduceToNat, Int.reduceLT, Int.reduceLE, Int.reduceEq, decide_true, decide_false, true_and, and_true, Bool.and_self, Bool.and_true, Bool.true_and, Bool.not_true, Bool.not_false, IntWalk.toNatUp, IntWalk.iteOmega, IntWalk.i64_in, Option.isSome_some, not_true_eq_false, not_false_eq_true, Option.getD_some, Option.getD_none, Int.toNat_natCast, List.length_map, List.getElem?_map, List.getElem?_eq_getElem, V.flat, V.one, List.all_cons, List.all_nil]; try exact rfl)) (fun d o e => by cases e) (by rw [← HR.out, zir, if_neg (by omega), if_neg (by omega), if_neg (by omega)]; rfl)
end Go.XL
namespace Go.XL
def zio (round table : Int) : List Ruling → List Int → List Int
  | [], out => out
  | x :: r, out => zio round table r (if x.round = round ∧ x.table = table then x.points else out)
def zke (round table : Int) : List Sitting → List Int → List Int
  | [], out => out
  | s :: r, out => zke round table r (zio round table s.rulings out)
def zen (c : Club) (round table : Int) : List Int := zke round table c.rounds ((c.round round).points.getD table.toNat [])
def zgi (c : Club) (round table : Int) : List Int × Int :=
  if zcx c ≠ 0 then ([], zcx c) else if ¬ (0 ≤ round ∧ round ≤ (c.rounds.length : Int) - 1) then ([], 7) else if ¬ (0 ≤ table ∧ table ≤ ((c.round round).tables.length : Int) - 1) then ([], 7) else
  if zhd c round table = false then ([], 10) else (zen c round table, 0)
theorem zhp {round table : Int} {l : List Ruling} {i : Nat} (h : i < l.length) (out : List Int) : zio round table (l.drop i) out = zio round table (l.drop (i + 1)) (if l[i].round = round ∧ l[i].table = table then l[i].points else out) := by
  rw [List.drop_eq_getElem_cons h, zio]
theorem zsn {round table : Int} {l : List Sitting} {i : Nat} (h : i < l.length) (out : List Int) : zke round table (l.drop i) out = zke round table (l.drop (i + 1)) (zio round table l[i].rulings out) := by
  rw [List.drop_eq_getElem_cons h, zke]
theorem zqa {round table : Int} {n : Nat} : ∀ {l : List Ruling} {out : List Int}, (∀ x ∈ l, x.points.length ≤ n) → out.length ≤ n → (zio round table l out).length ≤ n
  | [], _, _, h => h
  | x :: r, out, h1, h2 => by
    rw [zio]
    refine zqa (fun y hy => h1 y (List.mem_cons_of_mem _ hy)) ?_
    split
    · exact h1 x (List.mem_cons_self ..)
    · exact h2
theorem zme {round table : Int} {n : Nat} : ∀ {l : List Sitting} {out : List Int}, (∀ s ∈ l, ∀ x ∈ s.rulings, x.points.length ≤ n) → out.length ≤ n → (zke round table l out).length ≤ n
  | [], _, _, h => h
  | s :: r, out, h1, h2 => zme (l := r) (fun y hy => h1 y (List.mem_cons_of_mem _ hy)) (zqa (h1 s (List.mem_cons_self ..)) h2)
end Go.XL
namespace Go.XL
open Go.Proofs
set_option maxRecDepth 100000
set_option maxHeartbeats 8000000
theorem countedP_pc (c : Club) (hs : c.Small) {a b : Nat} (ha : a < c.rounds.length) (hb : b < c.rounds[a].points.length) :
    PC Try.prog 75 [c.val, I a, I b] (ints (zen c a b)) := by
  have q1 := hs.rounds
  have q2 := (hs.at ha).point _ (List.getElem_mem hb)
  have q3 := (hs.at ha).points
  have hl : (zen c a b).length ≤ 1000000 := zme (fun s h1 x h2 => (hs.round s h1).ruling x h2) (by rw [c.round_at ha, Int.toNat_natCast, List.getD_eq_getElem?_getD, List.getElem?_eq_getElem hb]; exact q2)
  have h0 : zen c a b = zke a b c.rounds c.rounds[a].points[b] := by rw [zen, c.round_at ha, Int.toNat_natCast, List.getD_eq_getElem?_getD, List.getElem?_eq_getElem hb]; rfl
  have H := Box.mk h0
  clear h0
  generalize zen c a b = R at *
  have i1 : (a : Int) < (c.rounds.length : Int) := by omega
  have i2 : (b : Int) < (c.rounds[a].points.length : Int) := by omega
  refine DC.of_run Try.func75 rfl Try.ntmps75 Try.results75 (by simp) (fun _ => ?_); simp only [zan, zas, go_sem, Nat.zero_add, Nat.reduceAdd]
  repeat' (first | (with_reducible first | refine DS.fltS yU yU yE ?_ | refine DS.opsNil ?_ | refine DS.seq ?_ | refine DS.regionL ?_ | refine DS.block ?_) | (refine DS.boxF (t := 3) yU yE yU ?_; simp only [zbk, zcd, zbi, zbu, zbf, zaz, zbp, zbb, zca, zcc, zbq, zcb, zbt, zbs]) | fail)
  refine DS.loopK [1, 2, 22, 23] (by (simp only [go_sem, Nat.reduceEqDiff, ↓reduceIte]; exact rfl)) (fun (y : Nat × List Int) => [(7, ints y.2), (24, I y.1)]) (fun (y : Nat × List Int) => y.1 ≤ c.rounds.length ∧ R = zke a b (c.rounds.drop y.1) y.2) (fun (y : Nat × List Int) => c.rounds.length - y.1) (0, c.rounds[a].points[b]) yS ⟨Nat.zero_le _, H.out⟩ (fun y B hI hB => ?_); try dsimp only at hI hB; simp only [zap, zau]
  clear H
  obtain ⟨i, out⟩ := y
  dsimp only at hI hB ⊢
  obtain ⟨g1, g2⟩ := hI
  have H := Box.mk g2
  have hB0 := hB
  clear g2 hB
  by_cases hi : (i : Int) < (c.rounds.length : Int)
  · have hi' : i < c.rounds.length := by omega
    have q4 := (hs.at hi').rulings
    repeat' (first | (with_reducible first | refine DS.fltS yU yU yE ?_ | refine DS.opsNil ?_ | refine DS.seq ?_ | refine DS.regionL ?_ | (refine DS.cE yE ?_; refine CG.yes ?_) | refine DS.block ?_ | refine DS.skip ?_) | (refine DS.letF (t := 9) yU yE yU (fun _ => by (simp (disch := omega) only [go_sem, dopV, Option.map_some, Option.map_none, Option.bind_some, Option.bind_none, ↓reduceIte, Nat.reduceEqDiff, Nat.reduceLT, Nat.reduceLeDiff, Nat.reduceAdd, Nat.reduceMul, Nat.reduceSub, Nat.zero_add, Nat.add_zero, Nat.zero_le, Nat.zero_mul, Nat.mul_one, Nat.one_mul, Int.natCast_zero, Int.toNat_zero, Int.reduceToNat, Int.reduceLT, Int.reduceLE, Int.reduceEq, decide_true, decide_false, true_and, and_true, Bool.and_self, Bool.and_true, Bool.true_and, Bool.not_true, Bool.not_false, IntWalk.toNatUp, IntWalk.iteOmega, IntWalk.i64_in, Option.isSome_some, not_true_eq_false, not_false_eq_true, Option.getD_some, Option.getD_none, Int.toNat_natCast, List.length_map, List.getElem?_map, List.getElem?_eq_getElem, V.flat, V.one, List.all_cons, List.all_nil, *]; exact rfl)) yE yU (by exact ⟨by with_unfolding_all rfl, by with_unfolding_all decide⟩) (fun _ => by simp only [go_sem, Nat.reduceEqDiff, ↓reduceIte]) ?_; simp only [go_sem]) | fail)
    refine DS.loopK [1, 2, 22, 23, 24, 29, 30] (by (simp only [go_sem, Nat.reduceEqDiff, ↓reduceIte]; exact rfl)) (fun (y : Nat × List Int) => [(7, ints y.2), (31, I y.1)]) (fun (y : Nat × List Int) => y.1 ≤ c.rounds[i].rulings.length ∧ zio a b c.rounds[i].rulings out = zio a b (c.rounds[i].rulings.drop y.1) y.2) (fun (y : Nat × List Int) => c.rounds[i].rulings.length - y.1) (0, out) yS ⟨Nat.zero_le _, rfl⟩ (fun y B hI hB => ?_); try dsimp only at hI hB; simp only [zap, zau]
    obtain ⟨k, o2⟩ := y
    dsimp only at hI hB ⊢
    obtain ⟨g3, g4⟩ := hI
    have H2 := Box.mk g4
    clear g4
    by_cases hk : (k : Int) < (c.rounds[i].rulings.length : Int)
    · have hk' : k < c.rounds[i].rulings.length := by omega
      repeat' (first | (with_reducible first | refine DS.fltS yU yU yE ?_ | refine DS.opsNil ?_ | refine DS.seq ?_ | refine DS.regionL ?_ | (refine DS.cE yE ?_; first | refine CG.p (fun _ => ?_) (fun _ => ?_) | refine CG.yes ?_ | refine CG.no ?_) | (refine DS.gE yU yE ?_; first | refine GG.pT (fun _ => ?_) (fun _ => ?_) | refine GG.run ?_ | refine GG.sF ?_) | refine DS.blk ?_ | refine DS.block ?_ | refine DS.skip ?_) | (refine DS.letF (t := 11) yU yE yU (fun _ => by (simp (disch := omega) only [go_sem, dopV, Option.map_some, Option.map_none, Option.bind_some, Option.bind_none, ↓reduceIte, Nat.reduceEqDiff, Nat.reduceLT, Nat.reduceLeDiff, Nat.reduceAdd, Nat.reduceMul, Nat.reduceSub, Nat.zero_add, Nat.add_zero, Nat.zero_le, Nat.zero_mul, Nat.mul_one, Nat.one_mul, Int.natCast_zero, Int.toNat_zero, Int.reduceToNat, Int.reduceLT, Int.reduceLE, Int.reduceEq, decide_true, decide_false, true_and, and_true, Bool.and_self, Bool.and_true, Bool.true_and, Bool.not_true, Bool.not_false, IntWalk.toNatUp, IntWalk.iteOmega, IntWalk.i64_in, Option.isSome_some, not_true_eq_false, not_false_eq_true, Option.getD_some, Option.getD_none, Int.toNat_natCast, List.length_map, List.getElem?_map, List.getElem?_eq_getElem, V.flat, V.one, List.all_cons, List.all_nil, *]; exact rfl)) yE yU (by exact ⟨by with_unfolding_all rfl, by with_unfolding_all decide⟩) (fun _ => by simp only [go_sem, Nat.reduceEqDiff, ↓reduceIte]) ?_; simp only [go_sem]) | fail)
      · rename_i e1 e2
        refine DS.back (hB (k + 1, c.rounds[i].rulings[k].points) _ _ (by dsimp only; omega) ⟨by dsimp only; omega, by rw [H2.out, zhp hk', if_pos ⟨e1, e2⟩]⟩ yS yS (fun d o e => by exact e))
      · rename_i e1 e2
        refine DS.back (hB (k + 1, o2) _ _ (by dsimp only; omega) ⟨by dsimp only; omega, by rw [H2.out, zhp hk', if_neg (fun h => e2 h.2)]⟩ yS yS (fun d o e => by exact e))
      · rename_i e1
        refine DS.back (hB (k + 1, o2) _ _ (by dsimp only; omega) ⟨by dsimp only; omega, by rw [H2.out, zhp hk', if_neg (fun h => e1 h.1)]⟩ yS yS (fun d o e => by exact e))
    · have hd : c.rounds[i].rulings.drop k = [] := List.drop_eq_nil_of_le (by omega)
      repeat' (first | (with_reducible first | refine DS.fltS yU yU yE ?_ | refine DS.opsNil ?_ | refine DS.seq ?_ | refine DS.regionL ?_ | (refine DS.cE yE ?_; refine CG.no ?_) | refine DS.blk ?_ | refine DS.exit yU ?_) | fail)
      refine DS.back (hB0 (i + 1, o2) _ _ (by dsimp only; omega) ⟨by dsimp only; omega, by rw [H.out, zsn hi', H2.out, hd]; rfl⟩ yS yS (fun d o e => by exact e))
  · have hd : c.rounds.drop i = [] := List.drop_eq_nil_of_le (by omega)
    obtain rfl : R = out := by rw [H.out, hd]; rfl
    repeat' (first | (with_reducible first | refine DS.fltS yU yU yE ?_ | refine DS.opsNil ?_ | refine DS.seq ?_ | refine DS.regionL ?_ | (refine DS.cE yE ?_; refine CG.no ?_) | refine DS.exit yU ?_) | refine DS.pcS inferInstance (zjd R (by omega)) yR yT ?_ | refine DS.retT [] yE trivial ?_ | fail)
    rfl
theorem countedR_pc (c : Club) (hs : c.Small) {a b : Nat} (ha : a < c.rounds.length) (hb : b < c.rounds[a].points.length) :
    PC Try.prog 77 [c.val, I a, I b] (ints (zen c a b)) := by
  have q1 := hs.rounds
  have q2 := (hs.at ha).point _ (List.getElem_mem hb)
  have q3 := (hs.at ha).points
  have hl : (zen c a b).length ≤ 1000000 := zme (fun s h1 x h2 => (hs.round s h1).ruling x h2) (by rw [c.round_at ha, Int.toNat_natCast, List.getD_eq_getElem?_getD, List.getElem?_eq_getElem hb]; exact q2)
  have h0 : zen c a b = zke a b c.rounds c.rounds[a].points[b] := by rw [zen, c.round_at ha, Int.toNat_natCast, List.getD_eq_getElem?_getD, List.getElem?_eq_getElem hb]; rfl
  have H := Box.mk h0
  clear h0
  generalize zen c a b = R at *
  have i1 : (a : Int) < (c.rounds.length : Int) := by omega
  have i2 : (b : Int) < (c.rounds[a].points.length : Int) := by omega
  refine DC.of_run Try.func77 rfl Try.ntmps77 Try.results77 (by simp) (fun _ => ?_); simp only [zan, zas, go_sem, Nat.zero_add, Nat.reduceAdd]
  repeat' (first | (with_reducible first | refine DS.fltS yU yU yE ?_ | refine DS.opsNil ?_ | refine DS.seq ?_ | refine DS.regionL ?_ | refine DS.block ?_) | (refine DS.boxF (t := 3) yU yE yU ?_; simp only [zbk, zcd, zbi, zbu, zbf, zaz, zbp, zbb, zca, zcc, zbq, zcb, zbt, zbs]) | fail)
  refine DS.loopK [1, 2, 3] (by (simp only [go_sem, Nat.reduceEqDiff, ↓reduceIte]; exact rfl)) (fun (y : Nat × List Int) => [(7, ints y.2), (8, I y.1)]) (fun (y : Nat × List Int) => y.1 ≤ c.rounds.length ∧ R = zke a b (c.rounds.drop y.1) y.2) (fun (y : Nat × List Int) => c.rounds.length - y.1) (0, c.rounds[a].points[b]) yS ⟨Nat.zero_le _, H.out⟩ (fun y B hI hB => ?_); try dsimp only at hI hB; simp only [zap, zau]
  clear H
  obtain ⟨i, out⟩ := y
  dsimp only at hI hB ⊢
  obtain ⟨g1, g2⟩ := hI
  have H := Box.mk g2
  have hB0 := hB
  clear g2 hB
  by_cases hi : (i : Int) < (c.rounds.length : Int)
  · have hi' : i < c.rounds.length := by omega
    have q4 := (hs.at hi').rulings
    repeat' (first | (with_reducible first | refine DS.fltS yU yU yE ?_ | refine DS.opsNil ?_ | refine DS.seq ?_ | refine DS.regionL ?_ | (refine DS.cE yE ?_; refine CG.yes ?_) | refine DS.block ?_ | refine DS.skip ?_) | fail)
    refine DS.loopK [1, 2, 3, 8] (by (simp only [go_sem, Nat.reduceEqDiff, ↓reduceIte]; exact rfl)) (fun (y : Nat × List Int) => [(7, ints y.2), (9, I y.1)]) (fun (y : Nat × List Int) => y.1 ≤ c.rounds[i].rulings.length ∧ zio a b c.rounds[i].rulings out = zio a b (c.rounds[i].rulings.drop y.1) y.2) (fun (y : Nat × List Int) => c.rounds[i].rulings.length - y.1) (0, out) yS ⟨Nat.zero_le _, rfl⟩ (fun y B hI hB => ?_); try dsimp only at hI hB; simp only [zap, zau]
    obtain ⟨k, o2⟩ := y
    dsimp only at hI hB ⊢
    obtain ⟨g3, g4⟩ := hI
    have H2 := Box.mk g4
    clear g4
    by_cases hk : (k : Int) < (c.rounds[i].rulings.length : Int)
    · have hk' : k < c.rounds[i].rulings.length := by omega
      repeat' (first | (with_reducible first | refine DS.fltS yU yU yE ?_ | refine DS.opsNil ?_ | refine DS.seq ?_ | refine DS.regionL ?_ | (refine DS.cE yE ?_; first | refine CG.p (fun _ => ?_) (fun _ => ?_) | refine CG.yes ?_ | refine CG.no ?_) | (refine DS.gE yU yE ?_; first | refine GG.pT (fun _ => ?_) (fun _ => ?_) | refine GG.run ?_ | refine GG.sF ?_) | refine DS.blk ?_ | refine DS.block ?_ | refine DS.skip ?_) | (refine DS.letF (t := 10) yU yE yU (fun _ => by (simp (disch := omega) only [go_sem, dopV, Option.map_some, Option.map_none, Option.bind_some, Option.bind_none, ↓reduceIte, Nat.reduceEqDiff, Nat.reduceLT, Nat.reduceLeDiff, Nat.reduceAdd, Nat.reduceMul, Nat.reduceSub, Nat.zero_add, Nat.add_zero, Nat.zero_le, Nat.zero_mul, Nat.mul_one, Nat.one_mul, Int.natCast_zero, Int.toNat_zero, Int.reduceToNat, Int.reduceLT, Int.reduceLE, Int.reduceEq, decide_true, decide_false, true_and, and_true, Bool.and_self, Bool.and_true, Bool.true_and, Bool.not_true, Bool.not_false, IntWalk.toNatUp, IntWalk.iteOmega, IntWalk.i64_in, Option.isSome_some, not_true_eq_false, not_false_eq_true, Option.getD_some, Option.getD_none, Int.toNat_natCast, List.length_map, List.getElem?_map, List.getElem?_eq_getElem, V.flat, V.one, List.all_cons, List.all_nil, *]; exact rfl)) yE yU (by exact ⟨by with_unfolding_all rfl, by with_unfolding_all decide⟩) (fun _ => by simp only [go_sem, Nat.reduceEqDiff, ↓reduceIte]) ?_; simp only [go_sem]) | fail)
      · rename_i e1 e2
        refine DS.back (hB (k + 1, c.rounds[i].rulings[k].points) _ _ (by dsimp only; omega) ⟨by dsimp only; omega, by rw [H2.out, zhp hk', if_pos ⟨e1, e2⟩]⟩ yS yS (fun d o e => by exact e))
      · rename_i e1 e2
        refine DS.back (hB (k + 1, o2) _ _ (by dsimp only; omega) ⟨by dsimp only; omega, by rw [H2.out, zhp hk', if_neg (fun h => e2 h.2)]⟩ yS yS (fun d o e => by exact e))
      · rename_i e1
        refine DS.back (hB (k + 1, o2) _ _ (by dsimp only; omega) ⟨by dsimp only; omega, by rw [H2.out, zhp hk', if_neg (fun h => e1 h.1)]⟩ yS yS (fun d o e => by exact e))
    · have hd : c.rounds[i].rulings.drop k = [] := List.drop_eq_nil_of_le (by omega)
      repeat' (first | (with_reducible first | refine DS.fltS yU yU yE ?_ | refine DS.opsNil ?_ | refine DS.seq ?_ | refine DS.regionL ?_ | (refine DS.cE yE ?_; refine CG.no ?_) | refine DS.blk ?_ | refine DS.exit yU ?_) | fail)
      refine DS.back (hB0 (i + 1, o2) _ _ (by dsimp only; omega) ⟨by dsimp only; omega, by rw [H.out, zsn hi', H2.out, hd]; rfl⟩ yS yS (fun d o e => by exact e))
  · have hd : c.rounds.drop i = [] := List.drop_eq_nil_of_le (by omega)
    obtain rfl : R = out := by rw [H.out, hd]; rfl
    repeat' (first | (with_reducible first | refine DS.fltS yU yU yE ?_ | refine DS.opsNil ?_ | refine DS.seq ?_ | refine DS.regionL ?_ | (refine DS.cE yE ?_; refine CG.no ?_) | refine DS.exit yU ?_) | refine DS.pcS inferInstance (zoe R (by omega)) yR yT ?_ | refine DS.retT [] yE trivial ?_ | fail)
    rfl
theorem CountedP_pc (c : Club) (hs : c.Small) (a b : Int) : PC Try.prog 38 [c.val, I a, I b] (tupV [ints (zgi c a b).1, I (zgi c a b).2]) := by
  have q1 := hs.rounds
  rw [zgi]
  by_cases h0 : zcx c = 0
  · rw [if_neg (by omega)]
    have hck := zih c hs
    rw [h0] at hck
    by_cases h1 : 0 ≤ a ∧ a ≤ (c.rounds.length : Int) - 1
    · rw [if_neg (by omega)]
      obtain ⟨i, rfl⟩ : ∃ i : Nat, a = i := ⟨a.toNat, by omega⟩
      have hi : i < c.rounds.length := by omega
      have hsi := (hs.at hi).tables
      rw [c.round_at hi]
      by_cases h2 : 0 ≤ b ∧ b ≤ (c.rounds[i].tables.length : Int) - 1
      · rw [if_neg (by omega)]
        obtain ⟨k, rfl⟩ : ∃ k : Nat, b = k := ⟨b.toNat, by omega⟩
        have hpl := zrk c hs i k
        cases hp : zhd c i k with
        | true =>
          rw [hp] at hpl
          rw [if_neg (by decide)]
          rw [zjn hi, decide_eq_true_eq] at hp
          have hct := countedP_pc c hs hi (b := k) (by omega)
          generalize zen c i k = R at *
          refine DC.of_run Try.func38 rfl Try.ntmps38 Try.results38 (by simp) (fun _ => ?_); simp only [zan, zas, go_sem, Nat.zero_add, Nat.reduceAdd]
          repeat' (first | (with_reducible first | refine DS.fltS yU yU yE ?_ | refine DS.opsNil ?_ | refine DS.seq ?_ | refine DS.regionL ?_ | (refine DS.cE yE ?_; refine CG.no ?_) | (refine DS.gE yU yE ?_; refine GG.run ?_) | refine DS.blk ?_ | refine DS.block ?_ | refine DS.skip ?_) | refine DS.pcS inferInstance (hck) yR yT ?_ | refine DS.pcS inferInstance (zhf _ _ _) yR yT ?_ | refine DS.pcS inferInstance (hpl) yR yT ?_ | refine DS.pcS inferInstance (hct) yR yT ?_ | (refine DS.boxF (t := 3) yU yE yU ?_; simp only [zbk, zcd, zbi, zbu, zbf, zaz, zbp, zbb, zca, zcc, zbq, zcb, zbt, zbs]) | refine DS.retT [] yE trivial ?_ | fail)
          all_goals first | rfl | (exfalso; omega)
        | false =>
          rw [hp] at hpl
          rw [if_pos rfl]
          refine DC.of_run Try.func38 rfl Try.ntmps38 Try.results38 (by simp) (fun _ => ?_); simp only [zan, zas, go_sem, Nat.zero_add, Nat.reduceAdd]
          repeat' (first | (with_reducible first | refine DS.fltS yU yU yE ?_ | refine DS.opsNil ?_ | refine DS.seq ?_ | refine DS.regionL ?_ | (refine DS.cE yE ?_; first | refine CG.yes ?_ | refine CG.no ?_) | (refine DS.gE yU yE ?_; refine GG.run ?_) | refine DS.block ?_ | refine DS.skip ?_) | refine DS.pcS inferInstance (hck) yR yT ?_ | refine DS.pcS inferInstance (zhf _ _ _) yR yT ?_ | refine DS.pcS inferInstance (hpl) yR yT ?_ | (refine DS.boxF (t := 3) yU yE yU ?_; simp only [zbk, zcd, zbi, zbu, zbf, zaz, zbp, zbb, zca, zcc, zbq, zcb, zbt, zbs]) | refine DS.retT [] yE trivial ?_ | fail)
          all_goals first | rfl | (exfalso; omega)
      · rw [if_pos h2]
        refine DC.of_run Try.func38 rfl Try.ntmps38 Try.results38 (by simp) (fun _ => ?_); simp only [zan, zas, go_sem, Nat.zero_add, Nat.reduceAdd]
        repeat' (first | (with_reducible first | refine DS.fltS yU yU yE ?_ | refine DS.opsNil ?_ | refine DS.seq ?_ | refine DS.regionL ?_ | (refine DS.cE yE ?_; first | refine CG.yes ?_ | refine CG.no ?_) | (refine DS.gE yU yE ?_; refine GG.run ?_) | refine DS.block ?_ | refine DS.skip ?_) | refine DS.pcS inferInstance (hck) yR yT ?_ | refine DS.pcS inferInstance (zhf _ _ _) yR yT ?_ | (refine DS.boxF (t := 3) yU yE yU ?_; simp only [zbk, zcd, zbi, zbu, zbf, zaz, zbp, zbb, zca, zcc, zbq, zcb, zbt, zbs]) | refine DS.retT [] yE trivial ?_ | fail)
        all_goals first | rfl | (exfalso; omega)
    · rw [if_pos h1]
      refine DC.of_run Try.func38 rfl Try.ntmps38 Try.results38 (by simp) (fun _ => ?_); simp only [zan, zas, go_sem, Nat.zero_add, Nat.reduceAdd]
      repeat' (first | (with_reducible first | refine DS.fltS yU yU yE ?_ | refine DS.opsNil ?_ | refine DS.seq ?_ | refine DS.regionL ?_ | (refine DS.cE yE ?_; first | refine CG.yes ?_ | refine CG.no ?_) | (refine DS.gE yU yE ?_; refine GG.sT ?_) | refine DS.block ?_ | refine DS.skip ?_) | refine DS.pcS inferInstance (hck) yR yT ?_ | refine DS.pcS inferInstance (zhf _ _ _) yR yT ?_ | (refine DS.boxF (t := 3) yU yE yU ?_; simp only [zbk, zcd, zbi, zbu, zbf, zaz, zbp, zbb, zca, zcc, zbq, zcb, zbt, zbs]) | refine DS.retT [] yE trivial ?_ | fail)
      all_goals first | rfl | (exfalso; omega)
  · rw [if_pos h0]
    have hck := zih c hs
    generalize zcx c = e at *
    refine DC.of_run Try.func38 rfl Try.ntmps38 Try.results38 (by simp) (fun _ => ?_); simp only [zan, zas, go_sem, Nat.zero_add, Nat.reduceAdd]
    repeat' (first | (with_reducible first | refine DS.fltS yU yU yE ?_ | refine DS.opsNil ?_ | refine DS.seq ?_ | refine DS.regionL ?_ | (refine DS.cE yE ?_; refine CG.yes ?_)) | refine DS.pcS inferInstance (hck) yR yT ?_ | (refine DS.boxF (t := 3) yU yE yU ?_; simp only [zbk, zcd, zbi, zbu, zbf, zaz, zbp, zbb, zca, zcc, zbq, zcb, zbt, zbs]) | refine DS.retT [] yE trivial ?_ | fail)
    all_goals first | rfl | (exfalso; omega)
theorem CountedR_pc (c : Club) (hs : c.Small) (a b : Int) : PC Try.prog 39 [c.val, I a, I b] (tupV [ints (zgi c a b).1, I (zgi c a b).2]) := by
  have q1 := hs.rounds
  rw [zgi]
  by_cases h0 : zcx c = 0
  · rw [if_neg (by omega)]
    have hck := zgs c hs
    rw [h0] at hck
    by_cases h1 : 0 ≤ a ∧ a ≤ (c.rounds.length : Int) - 1
    · rw [if_neg (by omega)]
      obtain ⟨i, rfl⟩ : ∃ i : Nat, a = i := ⟨a.toNat, by omega⟩
      have hi : i < c.rounds.length := by omega
      have hsi := (hs.at hi).tables
      rw [c.round_at hi]
      by_cases h2 : 0 ≤ b ∧ b ≤ (c.rounds[i].tables.length : Int) - 1
      · rw [if_neg (by omega)]
        obtain ⟨k, rfl⟩ : ∃ k : Nat, b = k := ⟨b.toNat, by omega⟩
        have hpl := zpj c hs i k
        cases hp : zhd c i k with
        | true =>
          rw [hp] at hpl
          rw [if_neg (by decide)]
          rw [zjn hi, decide_eq_true_eq] at hp
          have hct := countedR_pc c hs hi (b := k) (by omega)
          generalize zen c i k = R at *
          refine DC.of_run Try.func39 rfl Try.ntmps39 Try.results39 (by simp) (fun _ => ?_); simp only [zan, zas, go_sem, Nat.zero_add, Nat.reduceAdd]
          repeat' (first | (with_reducible first | refine DS.fltS yU yU yE ?_ | refine DS.opsNil ?_ | refine DS.seq ?_ | refine DS.regionL ?_ | (refine DS.cE yE ?_; refine CG.no ?_) | (refine DS.gE yU yE ?_; refine GG.run ?_) | refine DS.skip ?_) | refine DS.pcS inferInstance (hck) yR yT ?_ | refine DS.pcS inferInstance (zdx _ _ _) yR yT ?_ | refine DS.pcS inferInstance (hpl) yR yT ?_ | refine DS.pcS inferInstance (hct) yR yT ?_ | (refine DS.boxF (t := 3) yU yE yU ?_; simp only [zbk, zcd, zbi, zbu, zbf, zaz, zbp, zbb, zca, zcc, zbq, zcb, zbt, zbs]) | refine DS.retT [] yE trivial ?_ | fail)
          all_goals first | rfl | (exfalso; omega)
        | false =>
          rw [hp] at hpl
          rw [if_pos rfl]
          refine DC.of_run Try.func39 rfl Try.ntmps39 Try.results39 (by simp) (fun _ => ?_); simp only [zan, zas, go_sem, Nat.zero_add, Nat.reduceAdd]
          repeat' (first | (with_reducible first | refine DS.fltS yU yU yE ?_ | refine DS.opsNil ?_ | refine DS.seq ?_ | refine DS.regionL ?_ | (refine DS.cE yE ?_; first | refine CG.yes ?_ | refine CG.no ?_) | (refine DS.gE yU yE ?_; refine GG.run ?_) | refine DS.skip ?_) | refine DS.pcS inferInstance (hck) yR yT ?_ | refine DS.pcS inferInstance (zdx _ _ _) yR yT ?_ | refine DS.pcS inferInstance (hpl) yR yT ?_ | (refine DS.boxF (t := 3) yU yE yU ?_; simp only [zbk, zcd, zbi, zbu, zbf, zaz, zbp, zbb, zca, zcc, zbq, zcb, zbt, zbs]) | refine DS.retT [] yE trivial ?_ | fail)
          all_goals first | rfl | (exfalso; omega)
      · rw [if_pos h2]
        refine DC.of_run Try.func39 rfl Try.ntmps39 Try.results39 (by simp) (fun _ => ?_); simp only [zan, zas, go_sem, Nat.zero_add, Nat.reduceAdd]
        repeat' (first | (with_reducible first | refine DS.fltS yU yU yE ?_ | refine DS.opsNil ?_ | refine DS.seq ?_ | refine DS.regionL ?_ | (refine DS.cE yE ?_; first | refine CG.yes ?_ | refine CG.no ?_) | (refine DS.gE yU yE ?_; refine GG.run ?_) | refine DS.skip ?_) | refine DS.pcS inferInstance (hck) yR yT ?_ | refine DS.pcS inferInstance (zdx _ _ _) yR yT ?_ | (refine DS.boxF (t := 3) yU yE yU ?_; simp only [zbk, zcd, zbi, zbu, zbf, zaz, zbp, zbb, zca, zcc, zbq, zcb, zbt, zbs]) | refine DS.retT [] yE trivial ?_ | fail)
        all_goals first | rfl | (exfalso; omega)
    · rw [if_pos h1]
      refine DC.of_run Try.func39 rfl Try.ntmps39 Try.results39 (by simp) (fun _ => ?_); simp only [zan, zas, go_sem, Nat.zero_add, Nat.reduceAdd]
      repeat' (first | (with_reducible first | refine DS.fltS yU yU yE ?_ | refine DS.opsNil ?_ | refine DS.seq ?_ | refine DS.regionL ?_ | (refine DS.cE yE ?_; first | refine CG.yes ?_ | refine CG.no ?_) | (refine DS.gE yU yE ?_; refine GG.sT ?_) | refine DS.skip ?_) | refine DS.pcS inferInstance (hck) yR yT ?_ | refine DS.pcS inferInstance (zdx _ _ _) yR yT ?_ | (refine DS.boxF (t := 3) yU yE yU ?_; simp only [zbk, zcd, zbi, zbu, zbf, zaz, zbp, zbb, zca, zcc, zbq, zcb, zbt, zbs]) | refine DS.retT [] yE trivial ?_ | fail)
      all_goals first | rfl | (exfalso; omega)
  · rw [if_pos h0]
    have hck := zgs c hs
    generalize zcx c = e at *
    refine DC.of_run Try.func39 rfl Try.ntmps39 Try.results39 (by simp) (fun _ => ?_); simp only [zan, zas, go_sem, Nat.zero_add, Nat.reduceAdd]
    repeat' (first | (with_reducible first | refine DS.fltS yU yU yE ?_ | refine DS.opsNil ?_ | refine DS.seq ?_ | refine DS.regionL ?_ | (refine DS.cE yE ?_; refine CG.yes ?_)) | refine DS.pcS inferInstance (hck) yR yT ?_ | (refine DS.boxF (t := 3) yU yE yU ?_; simp only [zbk, zcd, zbi, zbu, zbf, zaz, zbp, zbb, zca, zcc, zbq, zcb, zbt, zbs]) | refine DS.retT [] yE trivial ?_ | fail)
    all_goals first | rfl | (exfalso; omega)
end Go.XL
