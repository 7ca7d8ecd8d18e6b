/- A part of a program logic over the kit's walk rules, and contracts of functions in it. Conditions: as each theorem says. -/
import Derived.Test.YtdkmlmmelehcbaaN4
set_option linter.all false
namespace Go.XL
open Go.Proofs
set_option maxRecDepth 100000
set_option maxHeartbeats 4000000
theorem zef {α β : Type} (f : α → β) (l : List α) : (l.map f).take l.length = l.map f := List.take_of_length_le (by simp)
theorem zgd {α β : Type} (f : α → β) (l : List α) (n : Nat) : (l.map f).drop n = (l.drop n).map f := by rw [List.map_drop]
theorem zqy {st : List Int → Int → Bool} {f : List Int → List Int → List (List Int)} {t l : List Int} {i : Nat} (h : i < l.length) : zet st f t (l.drop i) = (if st t l[i] = true then (f (t ++ [l[i]]) (l.drop (i + 1))).map (l[i] :: ·) else []) ++ zet st f t (l.drop (i + 1)) := by
  rw [List.drop_eq_getElem_cons h, zet]
theorem zng (st : List Int → Int → Bool) : ∀ (n : Nat) (t ids : List Int), ∀ x ∈ zfj st n t ids, x.length = n ∧ ∀ a ∈ x, a ∈ ids
  | 0, t, ids, x, h => by simp only [zfj, List.mem_singleton] at h; subst h; simp
  | n + 1, t, ids, x, h => by
    have key : ∀ l : List Int, ∀ x ∈ zet st (zfj st n) t l, x.length = n + 1 ∧ ∀ a ∈ x, a ∈ l := by
      intro l
      induction l with
      | nil => intro x h; simp [zet] at h
      | cons id r ih =>
        intro x h
        simp only [zet, List.mem_append] at h
        rcases h with h | h
        · split at h
          · obtain ⟨y, hy, rfl⟩ := List.mem_map.1 h
            obtain ⟨h1, h2⟩ := zng st n _ _ y hy
            refine ⟨by simp [h1], fun a ha => ?_⟩
            rcases List.mem_cons.1 ha with rfl | ha
            · exact List.mem_cons_self ..
            · exact List.mem_cons_of_mem _ (h2 a ha)
          · simp at h
        · obtain ⟨h1, h2⟩ := ih x h
          exact ⟨h1, fun a ha => List.mem_cons_of_mem _ (h2 a ha)⟩
    exact key ids x h
theorem yX7 {p : Prop} (h : p := by (simp (disch := omega) only [go_sem, dopV, Option.map_some, Option.map_none, Option.bind_some, Option.bind_none, ↓reduceIte, Nat.reduceEqDiff, Nat.reduceLT, Nat.reduceLeDiff, Nat.reduceAdd, Nat.reduceMul, Nat.reduceSub, Nat.zero_add, Nat.add_zero, Nat.zero_le, Nat.zero_mul, Nat.mul_one, Nat.one_mul, Int.natCast_zero, Int.toNat_zero, Int.reduceToNat, Int.reduceLT, Int.reduceLE, Int.reduceEq, decide_true, decide_false, true_and, and_true, Bool.and_self, Bool.and_true, Bool.true_and, Bool.not_true, Bool.not_false, IntWalk.toNatUp, IntWalk.iteOmega, IntWalk.i64_in, Option.isSome_some, not_true_eq_false, not_false_eq_true, Option.getD_some, Option.getD_none, Int.toNat_natCast, List.length_map, List.getElem?_map, List.getElem?_eq_getElem, V.flat, V.one, List.all_cons, List.all_nil, *, List.forall_mem_map, implies_true, zef]; exact rfl)) : p := h
theorem more_rc (S : Sto) {bx bp R : Nat} {c : Club} {rs : List (List Int)} {bs : List Nat} {budget steps : Int} {met : Int → Int → Bool} (hs : c.Small)
    (hx : zaa S bx = some (.cells (sC c rs bp R (.own false 134 1 (bs.map (rowC c.members.length))) budget steps) 102)) (hm : MetR S bs c met) :
    ∀ (n : Nat) (t ids : List Int), n ≤ 4 → ids.length ≤ 40 → t.length ≤ 100 - n → (∀ a ∈ t, ¬ zgy c a < 0) → (∀ a ∈ ids, ¬ zgy c a < 0) →
    RC Try.prog 99 [.v (.pointer (some ⟨bx, 0, none⟩)), ints t, ints ids, I n] S (.own false 22 1 ((zfj (zcm met) n t ids).map cR))
  | 0, t, ids, hn, hl, htl, ht, hi => by
    show RC Try.prog 99 [.v (.pointer (some ⟨bx, 0, none⟩)), ints t, ints ids, I 0] S _
    refine DC.of_run Try.func99 rfl Try.ntmps99 Try.results99 (by simp) (fun _ => ?_); simp only [zaq, zas, go_sem, Nat.zero_add, Nat.reduceAdd]
    repeat' (first | with_reducible (refine DS.nilOwn (t := 8) yU (by first | exact .inl rfl | exact .inr rfl) yE ?_) | (with_reducible refine DS.mv (t := 8) yU (by first | exact .inl rfl | exact .inr rfl) yE ?_; simp only [zal, zac, zae, Nat.reduceEqDiff, ↓reduceIte, zag, zah, zao, zaf, zaj, zam, zai]) | (with_reducible first | refine DS.fltS yU yU yE ?_ | refine DS.opsNil ?_ | refine DS.seq ?_ | refine DS.regionL ?_ | (refine DS.cE yE ?_; refine CG.yes ?_)) | (refine DS.bsl yU yE yE ?_; simp only [go_sem, Nat.zero_add, Nat.reduceAdd]) | fail)
    refine DS.nrm (t := 8) yG ?_
    refine DS.retA yG ⟨?_, rfl⟩
    rfl
  | n + 1, t, ids, hn, hl, htl, ht, hi => by
    have ih := more_rc S hs hx hm n
    have hlen : (zfj (zcm met) (n + 1) t ids).length ≤ 41 ^ 4 := Nat.le_trans (znh _ _ _ _) (Nat.le_trans (Nat.pow_le_pow_left (show ids.length + 1 ≤ 41 by omega) _) (Nat.pow_le_pow_right (by omega) hn))
    have hne : ¬ (((n + 1 : Nat) : Int) = 0) := by omega
    have hsub : ((n + 1 : Nat) : Int) - 1 = n := by omega
    refine DC.of_run Try.func99 rfl Try.ntmps99 Try.results99 (by simp) (fun _ => ?_); simp only [zaq, zas, go_sem, Nat.zero_add, Nat.reduceAdd]
    repeat' (first | (with_reducible first | (refine DS.nilOwn (t := 8) yU (by first | exact .inl rfl | exact .inr rfl) yE ?_) | (refine DS.nilOwn (t := 9) yU (by first | exact .inl rfl | exact .inr rfl) yE ?_) | refine DS.fltS yU yU yE ?_ | refine DS.opsNil ?_ | refine DS.seq ?_ | refine DS.regionL ?_ | (refine DS.cE yE ?_; refine CG.no ?_) | refine DS.block ?_ | refine DS.skip ?_) | fail)
    refine DS.loopK [0, 1, 2, 3] (by (simp only [go_sem, Nat.reduceEqDiff, ↓reduceIte]; exact rfl)) (fun (i : Nat × List (List Int)) => [(9, .own false 22 1 (i.2.map cR)), (10, I i.1)]) (fun (i : Nat × List (List Int)) => i.1 ≤ ids.length ∧ i.2 ++ zet (zcm met) (zfj (zcm met) n) t (ids.drop i.1) = zfj (zcm met) (n + 1) t ids) (fun (i : Nat × List (List Int)) => ids.length - i.1) (0, []) yS (by simp [zfj]) (fun i B hI hB => ?_); try dsimp only at hI hB; simp only [zap, zar]
    repeat' (first | (with_reducible refine DS.mv (t := 8) yU (by first | exact .inl rfl | exact .inr rfl) yE ?_; simp only [zal, zac, zae, Nat.reduceEqDiff, ↓reduceIte, zag, zah, zao, zaf, zaj, zam, zai]) | (with_reducible refine DS.mv (t := 64) yU (by first | exact .inl rfl | exact .inr rfl) yE ?_; simp only [zal, zac, zae, Nat.reduceEqDiff, ↓reduceIte, zag, zah, zao, zaf, zaj, zam, zai]) | (with_reducible first | refine DS.fltS yU yU yE ?_ | refine DS.opsNil ?_ | refine DS.seq ?_ | refine DS.regionL ?_ | (refine DS.cE yE ?_; first | refine CG.p (fun _ => ?_) (fun _ => ?_) | refine CG.b (fun _ => ?_) (fun _ => ?_)) | refine DS.blk ?_ | refine DS.block ?_ | refine DS.exit yU ?_ | refine DS.skip ?_) | refine DS.rcS inferInstance (fair_rc S hs hx hm t (ids[i.1]'(by omega)) ht (hi _ (List.getElem_mem (by omega)))) yR yT ?_ | refine DS.drawL (id := 8) [0, 1, 2, 3, 4, 5, 6, 7, 8, 9, 10, 11, 12, 13, 14] 15 (by kernel_rfl) zdb (by simp only [zay, zbf, zbg, zbh, zax]; exact rfl) (by simp only [zat, zau, List.drop_nil]; exact rfl) ?_ | with_reducible refine DD.fltS yU yU yU yE ?_ | refine DD.pcS inferInstance (zqc t (by omega)) yU yT ?_; simp only [zbs, zby, Nat.reduceEqDiff, ↓reduceIte] | (refine DD.bslS yU yE yE ?_; simp only [go_sem, Nat.zero_add, Nat.reduceAdd]; simp only [zbs, zby, Nat.reduceEqDiff, ↓reduceIte]) | (refine DD.append (mm := false) yU yE yE yU (by decide) yE (by first | exact .inl rfl | exact .inr ⟨rfl, rfl⟩) yE yX0 (by first | exact zan zcw _ | exact zan zdg _ | exact zan Member.len _ | exact zan Sitting.len _ | exact zan Ruling.len _ | (simp only [List.mem_cons, List.not_mem_nil, or_false, forall_eq]; rfl) | simp) ⟨by (try simp only [List.length_map, List.length_cons, List.length_nil, List.length_append, List.length_take, List.length_drop]); omega, by decide⟩ ?_; simp only [zal, zac, zae, Nat.reduceEqDiff, ↓reduceIte, zag, zah, zao, zaf, zaj, zam, zai]; simp only [zbs, zby, Nat.reduceEqDiff, ↓reduceIte]) | refine DS.retA yE ⟨?_, rfl⟩ | fail)
    · have hlr : (ids.drop (i.1 + 1)).length ≤ 40 := by simp; omega
      have htr : ∀ a ∈ t ++ [ids[i.1]'(by omega)], ¬ zgy c a < 0 := fun a ha => by
        rcases List.mem_append.1 ha with ha | ha
        · exact ht a ha
        · rw [List.mem_singleton.1 ha]; exact hi _ (List.getElem_mem (by omega))
      have H := And.intro (ih (t ++ [ids[i.1]'(by omega)]) (ids.drop (i.1 + 1)) (by omega) hlr (by simp; omega) htr (fun a ha => hi a (List.mem_of_mem_drop ha))) hlen
      clear ih htr hlen hlr
      repeat' (first | (with_reducible first | refine DD.fltS yU yU yU yX7 ?_ | refine DD.nil0 ?_) | fail)
      · refine DS.rcS inferInstance H.1 yR (by simp (disch := omega) only [go_sem, dopV, Option.map_some, Option.map_none, Option.bind_some, Option.bind_none, ↓reduceIte, Nat.reduceEqDiff, Nat.reduceLT, Nat.reduceLeDiff, Nat.reduceAdd, Nat.reduceMul, Nat.reduceSub, Nat.zero_add, Nat.add_zero, Nat.zero_le, Nat.zero_mul, Nat.mul_one, Nat.one_mul, Int.natCast_zero, Int.toNat_zero, Int.reduceToNat, Int.reduceLT, Int.reduceLE, Int.reduceEq, decide_true, decide_false, true_and, and_true, Bool.and_self, Bool.and_true, Bool.true_and, Bool.not_true, Bool.not_false, IntWalk.toNatUp, IntWalk.iteOmega, IntWalk.i64_in, Option.isSome_some, not_true_eq_false, not_false_eq_true, Option.getD_some, Option.getD_none, Int.toNat_natCast, List.length_map, List.getElem?_map, List.getElem?_eq_getElem, V.flat, V.one, List.all_cons, List.all_nil, *, zgd, List.map_append, ints]) ?_
        repeat' (first | (with_reducible first | refine DS.fltS yU yU yE ?_ | refine DS.opsNil ?_ | refine DS.seq ?_ | refine DS.regionL ?_ | refine DS.block ?_) | fail)
        rename_i hst
        have hB0 := hB
        have hI1 := hI.1
        have hI2 := hI.2
        rw [zqy (by omega), if_pos hst] at hI2
        have hmem : ∀ x ∈ zfj (zcm met) n (t ++ [ids[i.1]'(by omega)]) (ids.drop (i.1 + 1)), x.length = n := fun x hx => (zng _ _ _ _ x hx).1
        have hlen := H.2
        rw [← hI2] at hlen
        clear hB H hI
        generalize zfj (zcm met) n (t ++ [ids[i.1]'(by omega)]) (ids.drop (i.1 + 1)) = X at *
        simp only [List.length_append, List.length_map] at hlen
        refine DS.loopK [0, 1, 2, 3, 10, 11] (by (simp only [go_sem, Nat.reduceEqDiff, ↓reduceIte]; exact rfl)) (fun (k : Nat × List (List Int)) => [(9, .own false 22 1 (k.2.map cR)), (12, I k.1)]) (fun (k : Nat × List (List Int)) => k.1 ≤ X.length ∧ i.2 ++ (X.take k.1).map (ids[i.1]'(by omega) :: ·) = k.2 ∧ k.2.length = i.2.length + k.1) (fun (k : Nat × List (List Int)) => X.length - k.1) (0, i.2) yS (by simp) (fun k B hI hB => ?_); try dsimp only at hI hB; simp only [zap, zar]
        have hI3 := hI.2.1
        have hI4 := hI.2.2
        have hI5 := hI.1
        clear hI
        have H := And.intro hI2 hI3
        clear hI2 hI3
        by_cases hk : k.1 < X.length
        · have hkl := hmem _ (List.getElem_mem hk)
          repeat' (first | (with_reducible refine DS.mv (t := 9) yU (by first | exact .inl rfl | exact .inr rfl) yE ?_; simp only [zal, zac, zae, Nat.reduceEqDiff, ↓reduceIte, zag, zah, zao, zaf, zaj, zam, zai]) | (with_reducible first | refine DS.fltS yU yU yE ?_ | refine DS.opsNil ?_ | refine DS.seq ?_ | refine DS.regionL ?_ | (refine DS.cE yE ?_; refine CG.p (fun _ => ?_) (fun _ => ?_)) | refine DS.blk ?_ | refine DS.block ?_ | refine DS.exit yU ?_ | refine DS.skip ?_) | (refine DS.append (mm := false) yU yE yE yU (by decide) yE (by first | exact .inl rfl | exact .inr ⟨rfl, rfl⟩) yE yX0 (by first | exact zan zcw _ | exact zan zdg _ | exact zan Member.len _ | exact zan Sitting.len _ | exact zan Ruling.len _ | (simp only [List.mem_cons, List.not_mem_nil, or_false, forall_eq]; rfl) | simp) ⟨by (try simp only [List.length_map, List.length_cons, List.length_nil, List.length_append, List.length_take, List.length_drop]); omega, by decide⟩ ?_; simp only [zal, zac, zae, Nat.reduceEqDiff, ↓reduceIte, zag, zah, zao, zaf, zaj, zam, zai]) | refine DS.drawL (id := 12) [0, 1, 2, 3, 4, 6, 7, 8, 9, 5, 10, 11] 12 (by kernel_rfl) zdb (by simp only [zay, zbf, zbg, zbh, zax]; exact rfl) (by simp only [zat, zau, List.drop_nil]; exact rfl) ?_ | (with_reducible refine DD.mvS (t := 51) yU (by first | exact .inl rfl | exact .inr rfl) yE ?_; simp only [zal, zac, zae, Nat.reduceEqDiff, ↓reduceIte, zag, zah, zao, zaf, zaj, zam, zai]; simp only [zbs, zby, Nat.reduceEqDiff, ↓reduceIte]) | (with_reducible first | refine DD.fltS yU yU yU yE ?_ | refine DD.nil0 ?_) | (refine DD.bslS yU yE yE ?_; simp only [go_sem, Nat.zero_add, Nat.reduceAdd]; simp only [zbs, zby, Nat.reduceEqDiff, ↓reduceIte]) | (refine DD.append (mm := false) yU yE yE yU (by decide) yE (by first | exact .inl rfl | exact .inr ⟨rfl, rfl⟩) yE yX0 (by first | exact zan zcw _ | exact zan zdg _ | exact zan Member.len _ | exact zan Sitting.len _ | exact zan Ruling.len _ | (simp only [List.mem_cons, List.not_mem_nil, or_false, forall_eq]; rfl) | simp) ⟨by (try simp only [List.length_map, List.length_cons, List.length_nil, List.length_append, List.length_take, List.length_drop]); omega, by decide⟩ ?_; simp only [zal, zac, zae, Nat.reduceEqDiff, ↓reduceIte, zag, zah, zao, zaf, zaj, zam, zai]; simp only [zbs, zby, Nat.reduceEqDiff, ↓reduceIte]) | fail)
          all_goals first | (exfalso; omega) | skip
          exact DS.back (hB (k.1 + 1, k.2 ++ [ids[i.1]'(by omega) :: X[k.1]]) _ _ (by simp; omega) (⟨by simp; omega, by rw [List.take_succ_eq_append_getElem hk, List.map_append, ← H.2]; simp, by simp; omega⟩) yS yS (fun b o e => by first | exact e | (simp only [zab]; split <;> simp_all)))
        · repeat' (first | (with_reducible first | refine DS.fltS yU yU yE ?_ | refine DS.opsNil ?_ | refine DS.seq ?_ | refine DS.regionL ?_ | (refine DS.cE yE ?_; refine CG.p (fun _ => ?_) (fun _ => ?_)) | refine DS.blk ?_ | refine DS.block ?_ | refine DS.exit yU ?_ | refine DS.skip ?_) | refine DS.drawL (id := 12) [0, 1, 2, 3, 4, 6, 7, 8, 9, 5, 10, 11] 12 (by kernel_rfl) zdb (by simp only [zay, zbf, zbg, zbh, zax]; exact rfl) (by simp only [zat, zau, List.drop_nil]; exact rfl) ?_ | (with_reducible refine DD.mvS (t := 51) yU (by first | exact .inl rfl | exact .inr rfl) yE ?_; simp only [zal, zac, zae, Nat.reduceEqDiff, ↓reduceIte, zag, zah, zao, zaf, zaj, zam, zai]; simp only [zbs, zby, Nat.reduceEqDiff, ↓reduceIte]) | with_reducible refine DD.fltS yU yU yU yE ?_ | fail)
          all_goals first | (exfalso; omega) | skip
          refine DS.back (hB0 (i.1 + 1, k.2) _ _ (by simp; omega) ⟨by simp; omega, ?_⟩ yS yS (fun b o e => by exact e))
          rw [← H.1, ← H.2, List.take_of_length_le (by omega), List.append_assoc]
    · rename_i hst
      exact DS.back (hB (i.1 + 1, i.2) _ _ (by simp; omega) (⟨by simp; omega, by have e := hI.2; rw [zqy (i := i.1) (by omega), if_neg (by simp [hst]), List.nil_append] at e; exact e⟩) yS yS (fun b o e => by first | exact e | (simp only [zab]; split <;> simp_all)))
    · have de1 := zdk (l := ids) (i := i.1) (by omega); rw [de1] at hI
      simp [tupV, ← hI.2, zet]
end Go.XL
namespace Go.XL
open Go.Proofs
set_option maxRecDepth 100000
set_option maxHeartbeats 4000000
theorem DS.drawLS {P : Program} {n : Nat} {r : Rr} {Q : VEnv → Sto → Prop} {k : List Fr} {E : VEnv} {S : Sto} {id : Nat} {os l1 l2 : List Oper} (S0 S1 : Sto) (ord : List Nat) (m : Nat) (hok : zla os.toArray ord m = true) (hm : P.follows .mixedOrders = true) (h1 : zlm os ord = l1) (h2 : os.drop m = l2)
    (h0 : ∀ b o, zaa S0 b = some o → zaa S b = some o ∧ zaa S1 b = none) (h3 : ∀ b o, zaa S1 b = some o → zaa S b = some o)
    (q : DD P n r Q os S0 [] l1 (.ops os l2 :: k) E E S1) : DS P n r Q (.code (.region id os.toArray true) :: k) E S :=
  DS.draw S0 S1 [] MpOk.nil ord m hok hm h0 h3 (by rw [zkm, h1]; simpa [h2] using q)
abbrev TS : Nat := 102
abbrev mtV (bs : List Nat) (n : Nat) : V := .own false 134 1 (bs.map (rowC n))
structure SearchR (S : Sto) (bx bp : Nat) (c : Club) (rs : List (List Int)) (bs : List Nat) (budget steps : Int) (met : Int → Int → Bool) (ps : List PRow) : Prop where
  obj : zaa S bx = some (.cells (sC c rs bp ps.length (mtV bs c.members.length) budget steps) TS)
  mat : MetR S bs c met
  pln : zaa S bp = some (.cells (ps.map PRow.cell) 35)
  row : ∀ (i : Nat) (h : i < ps.length), ps[i].Ok S
  xp : bx ≠ bp
  xb : ¬ bx ∈ bs
  pb : ¬ bp ∈ bs
  nd : bs.Nodup
  rx : ∀ (i : Nat) (h : i < ps.length) (b cap : Nat) (j : List V), ps[i].blk = some (b, cap, j) → b ≠ bx ∧ b ≠ bp ∧ ¬ b ∈ bs
  rr : ∀ (i k : Nat) (hi : i < ps.length) (hk : k < ps.length) (b cap cap' : Nat) (j j' : List V), ps[i].blk = some (b, cap, j) → ps[k].blk = some (b, cap', j') → i = k
theorem PRow.Ok.of {S S' : Sto} {p : PRow} (h : p.Ok S) (e : ∀ b cap j, p.blk = some (b, cap, j) → zaa S' b = zaa S b) : p.Ok S' := by
  obtain ⟨T, blk⟩ := p
  cases blk with
  | none => exact h
  | some x =>
    obtain ⟨b, cap, j⟩ := x
    obtain ⟨h1, h2⟩ := h
    exact ⟨by rw [e b cap j rfl]; exact h1, h2⟩
theorem MetR.of {S S' : Sto} {bs : List Nat} {c : Club} {met : Int → Int → Bool} (m : MetR S bs c met) (e : ∀ b, b ∈ bs → zaa S' b = zaa S b) : MetR S' bs c met :=
  ⟨m.len, fun i h h' => by rw [e _ (List.getElem_mem h)]; exact m.row i h h'⟩
theorem SearchR.steps {S : Sto} {bx bp : Nat} {c : Club} {rs : List (List Int)} {bs : List Nat} {budget steps : Int} {met : Int → Int → Bool} {ps : List PRow} (s : SearchR S bx bp c rs bs budget steps met ps) (n : Int) {l : List V} (hl : l = sC c rs bp ps.length (mtV bs c.members.length) budget n) :
    SearchR (setS bx (.cells l TS) S) bx bp c rs bs budget n met ps := by
  subst hl
  have e : ∀ b, b ≠ bx → zaa (setS bx (.cells (sC c rs bp ps.length (mtV bs c.members.length) budget n) TS) S) b = zaa S b := fun b hb => by rw [zba s.obj, if_neg hb]
  refine ⟨by rw [zba s.obj, if_pos rfl], s.mat.of fun b hb => e b (fun h => s.xb (h ▸ hb)), by rw [e _ s.xp.symm]; exact s.pln, fun i h => (s.row i h).of fun b cap j hb => e b (s.rx i h b cap j hb).1, s.xp, s.xb, s.pb, s.nd, s.rx, s.rr⟩
theorem SearchR.marked {S S' : Sto} {bx bp : Nat} {c : Club} {rs : List (List Int)} {bs : List Nat} {budget steps : Int} {met met' : Int → Int → Bool} {ps : List PRow} (s : SearchR S bx bp c rs bs budget steps met ps) (m : MetR S' bs c met') (e : ∀ b, ¬ b ∈ bs → zaa S' b = zaa S b) :
    SearchR S' bx bp c rs bs budget steps met' ps :=
  ⟨by rw [e _ s.xb]; exact s.obj, m, by rw [e _ s.pb]; exact s.pln, fun i h => (s.row i h).of fun b cap j hb => e b (s.rx i h b cap j hb).2.2, s.xp, s.xb, s.pb, s.nd, s.rx, s.rr⟩
theorem SearchR.turn {S S' : Sto} {bx bp : Nat} {c : Club} {rs : List (List Int)} {bs : List Nat} {budget steps : Int} {met : Int → Int → Bool} {ps : List PRow} (s : SearchR S bx bp c rs bs budget steps met ps) {r : Nat} (hr : r < ps.length) {T : List (List Int)} {b' cap' : Nat} {junk : List V}
    (hb : (∃ cap j, ps[r].blk = some (b', cap, j)) ∨ zaa S b' = none) (hok : PRow.Ok S' ⟨T, some (b', cap', junk)⟩) (hp : zaa S' bp = some (.cells ((ps.map PRow.cell).set r (.v (.slice (some ⟨b', 0, none⟩) T.length cap'))) 35))
    (e : ∀ b, b ≠ bp → b ≠ b' → (∀ cap j, ps[r].blk ≠ some (b, cap, j)) → zaa S' b = zaa S b) :
    SearchR S' bx bp c rs bs budget steps met (ps.set r ⟨T, some (b', cap', junk)⟩) := by
  have n1 : b' ≠ bx ∧ b' ≠ bp ∧ ¬ b' ∈ bs := by
    rcases hb with ⟨cap, j, h⟩ | h
    · exact s.rx r hr b' cap j h
    · refine ⟨?_, ?_, ?_⟩
      · intro h'; rw [h', s.obj] at h; cases h
      · intro h'; rw [h', s.pln] at h; cases h
      · intro h'
        obtain ⟨i, hi, rfl⟩ := List.getElem_of_mem h'
        rw [s.mat.row i hi (s.mat.len ▸ hi)] at h; cases h
  have nb : ∀ (i : Nat) (h : i < ps.length) (cap : Nat) (j : List V), ps[i].blk = some (b', cap, j) → i = r := fun i h cap j hi => by
    rcases hb with ⟨cap2, j2, h2⟩ | h2
    · exact s.rr i r h hr b' cap cap2 j j2 hi h2
    · have h3 := s.row i h
      generalize ps[i] = p at hi h3
      obtain ⟨T', blk⟩ := p
      dsimp only at hi
      subst hi
      rw [h3.1] at h2; cases h2
  have eb : ∀ (i : Nat) (h : i < ps.length) (b cap : Nat) (j : List V), i ≠ r → ps[i].blk = some (b, cap, j) → zaa S' b = zaa S b := fun i h b cap j hir hi => by
    refine e b (s.rx i h b cap j hi).2.1 (fun hbb => ?_) fun cap2 j2 h2 => hir (s.rr i r h hr b cap cap2 j j2 hi h2)
    subst hbb; exact hir (nb i h cap j hi)
  have ex : ∀ b, b ≠ bp → b ≠ b' → (b = bx ∨ b ∈ bs) → zaa S' b = zaa S b := fun b h1 h2 h3 => e b h1 h2 fun cap j h4 => by
    have := s.rx r hr b cap j h4
    rcases h3 with h3 | h3
    · exact this.1 h3
    · exact this.2.2 h3
  have gs : ∀ (i : Nat) (h : i < (ps.set r ⟨T, some (b', cap', junk)⟩).length), (ps.set r ⟨T, some (b', cap', junk)⟩)[i] = if r = i then ⟨T, some (b', cap', junk)⟩ else ps[i]'(by simpa using h) := fun i h => by rw [List.getElem_set]
  refine ⟨?_, s.mat.of fun b hb' => ex b (fun h => s.pb (h ▸ hb')) (fun h => n1.2.2 (h ▸ hb')) (.inr hb'), ?_, fun i h => ?_, s.xp, s.xb, s.pb, s.nd, fun i h b cap j hi => ?_, fun i k hi hk b cap cap2 j j2 h1 h2 => ?_⟩
  · rw [ex bx s.xp n1.1.symm (.inl rfl), s.obj, List.length_set]
  · rw [hp, List.map_set]; rfl
  · rw [gs]
    have h' : i < ps.length := by simpa using h
    by_cases hir : r = i
    · rw [if_pos hir]; exact hok
    · rw [if_neg hir]; exact (s.row i h').of fun b cap j hi => eb i h' b cap j (Ne.symm hir) hi
  · rw [gs] at hi
    have h' : i < ps.length := by simpa using h
    by_cases hir : r = i
    · rw [if_pos hir] at hi; cases hi; exact n1
    · rw [if_neg hir] at hi; exact s.rx i h' b cap j hi
  · rw [gs] at h1 h2
    have hi' : i < ps.length := by simpa using hi
    have hk' : k < ps.length := by simpa using hk
    by_cases hir : r = i
    · rw [if_pos hir] at h1
      by_cases hkr : r = k
      · omega
      · rw [if_neg hkr] at h2
        simp only [Option.some.injEq, Prod.mk.injEq] at h1
        obtain ⟨rfl, _⟩ := h1
        exact hir ▸ (nb k hk' cap2 j2 h2).symm
    · rw [if_neg hir] at h1
      by_cases hkr : r = k
      · rw [if_pos hkr] at h2
        simp only [Option.some.injEq, Prod.mk.injEq] at h2
        obtain ⟨rfl, _⟩ := h2
        exact hkr ▸ nb i hi' cap j h1
      · rw [if_neg hkr] at h2
        exact s.rr i k hi' hk' b cap cap2 j j2 h1 h2
end Go.XL
namespace Go.XL
open Go.Proofs
set_option maxRecDepth 100000
set_option maxHeartbeats 4000000
structure Box (p : Prop) : Prop where
  out : p
theorem PRow.split {S : Sto} {p : PRow} (h : p.Ok S) : ∃ S0 S1, (∀ b o, zaa S0 b = some o → zaa S b = some o ∧ zaa S1 b = none) ∧ (∀ b o, zaa S1 b = some o → zaa S b = some o) ∧ p.Ok S1 ∧
    ∀ b, (∀ cap j, p.blk ≠ some (b, cap, j)) → zaa S0 b = zaa S b ∧ zaa S1 b = none := by
  obtain ⟨T, blk⟩ := p
  cases blk with
  | none => exact ⟨S, [], fun _ _ e => ⟨e, rfl⟩, (fun _ _ e => by cases e), h, fun _ _ => ⟨rfl, rfl⟩⟩
  | some x =>
    obtain ⟨b0, cap, j⟩ := x
    obtain ⟨h1, h2⟩ := h
    refine ⟨delS b0 S, [(b0, .cells ((T.map fun t => ints t) ++ j) 22)], fun b o e => ?_, fun b o e => ?_, ⟨by simp [zaa], h2⟩, fun b hb => ?_⟩
    · rw [zco] at e
      split at e
      · cases e
      · rename_i hne
        exact ⟨e, by simp only [zaa]; rw [if_neg (fun h => hne h.symm)]⟩
    · simp only [zaa] at e
      split at e
      · rename_i hbb; subst hbb; rw [h1]; exact e
      · cases e
    · have hne : ¬ b0 = b := fun h => hb cap j (by rw [h])
      exact ⟨by rw [zco, if_neg (fun h => hne h.symm)], by simp only [zaa]; rw [if_neg hne]⟩
theorem PRow.cell_copy (p : PRow) : p.cell.copy = p.cell := by
  obtain ⟨T, blk⟩ := p
  cases blk <;> rfl
theorem PRow.cell_some (T : List (List Int)) (b cap : Nat) (j : List V) : PRow.cell ⟨T, some (b, cap, j)⟩ = .v (.slice (some ⟨b, 0, none⟩) T.length cap) := rfl
theorem SearchR.appended {S S0 Sr S4 : Sto} {bx bp : Nat} {c : Club} {rs : List (List Int)} {bs : List Nat} {budget steps : Int} {met : Int → Int → Bool} {ps : List PRow} (s : SearchR S bx bp c rs bs budget steps met ps) {r : Nat} (hr : r < ps.length) {p : PRow} (hp : p = ps[r])
    (k3 : ∀ b, (∀ cap j, p.blk ≠ some (b, cap, j)) → zaa S0 b = zaa S b ∧ zaa Sr b = none) (hdis : ∀ b o, zaa S0 b = some o → zaa S4 b = none) {T : List (List Int)} {b' cap' : Nat} {junk : List V} (m1 : PRow.Ok S4 ⟨T, some (b', cap', junk)⟩)
    (m2 : (∃ cap j, p.blk = some (b', cap, j)) ∨ zaa Sr b' = none) (m3 : ∀ b, b ≠ b' → (∀ cap j, p.blk ≠ some (b, cap, j)) → zaa S4 b = zaa Sr b) :
    zaa (S4 ++ S0) bp = some (.cells (ps.map PRow.cell) 35) ∧
    SearchR (setS bp (.cells ((ps.map PRow.cell).set r (.v (.slice (some ⟨b', 0, none⟩) T.length cap'))) 35) (S4 ++ S0)) bx bp c rs bs budget steps met (ps.set r ⟨T, some (b', cap', junk)⟩) := by
  subst hp
  have hbp := k3 bp fun cap j h => (s.rx r hr bp cap j h).2.1 rfl
  have h0 : zaa S0 bp = some (.cells (ps.map PRow.cell) 35) := hbp.1.trans s.pln
  have h1 : zaa (S4 ++ S0) bp = some (.cells (ps.map PRow.cell) 35) := by rw [zbv, hdis bp _ h0]; exact h0
  have h2 : ∃ cap j, zaa S4 b' = some (.cells ((T.map fun t => ints t) ++ j) cap) := ⟨_, _, m1.1⟩
  have h3 : b' ≠ bp := fun h => by
    obtain ⟨_, _, h2⟩ := h2
    rw [h, hdis bp _ h0] at h2; cases h2
  refine ⟨h1, s.turn hr ?_ (m1.of fun b cap j h => ?_) ?_ fun b e1 e2 e3 => ?_⟩
  · by_cases hold : ∃ cap j, ps[r].blk = some (b', cap, j)
    · exact .inl hold
    · right
      have hk := k3 b' fun cap j h => hold ⟨cap, j, h⟩
      rw [← hk.1]
      cases hh : zaa S0 b' with
      | none => rfl
      | some o =>
        obtain ⟨_, _, h2⟩ := h2
        rw [hdis b' o hh] at h2; cases h2
  · simp only [Option.some.injEq, Prod.mk.injEq] at h
    obtain ⟨rfl, _⟩ := h
    rw [zba h1, if_neg h3, zbv, m1.1]
  · rw [zba h1, if_pos rfl]
  · rw [zba h1, if_neg e1, zbv, m3 b e2 e3, (k3 b e3).2]
    exact (k3 b e3).1
theorem freeS_append (ids : List Int) (T : List (List Int)) (t : List Int) : zfs ids (T ++ [t]) = (zfs ids T).filter fun id => !decide (id ∈ t) := by
  simp only [zfs, List.filter_filter]
  apply List.filter_congr
  intro x _
  simp [Bool.and_comm]
theorem rows_free (T : List (List Int)) {j : List V} (h : ∀ v ∈ j, v.free = true) : ∀ v ∈ (T.map fun t => ints t) ++ j, v.free = true := fun v hv => by
  rcases List.mem_append.1 hv with h1 | h1
  · obtain ⟨t, _, rfl⟩ := List.mem_map.1 h1; rfl
  · exact h v h1
section
variable {v0 : VH} {P : Program} {n : Nat} {E : VEnv} {S : Sto} {dst : Option Tmp} {ty : TypeId} {pos : String} {af : Array Edge}
theorem OpS.appRow {p : PRow} {T t by_ : Nat} {z : Value} {sx x : Operand} {vx : V} {tab : List Int} (hd : dst = some t) (ht : tel P T = some (22, 1, by_)) (hz : zbx P 22 = some z) (hzs : z.cells.size = 1) (hzo : zgs z.cells.toList = true)
    (hs : evV E sx = some p.cell) (hok : p.Ok S) (hx : evV E x = some vx) (hxl : zee vx = some [[ints tab]]) (hfit : p.rows.length + 1 ≤ 2147483648 ∧ by_ ≤ 65536) :
    OpS v0 P n ⟨dst, .call { callee := .builtin .append, args := #[sx, x], argTypes := #[T, T] }, ty, pos, af, none⟩ E S
      (fun u E' S' => E' = E ∧ ∃ b' cap' junk, u = PRow.cell ⟨p.rows ++ [tab], some (b', cap', junk)⟩ ∧ PRow.Ok S' ⟨p.rows ++ [tab], some (b', cap', junk)⟩ ∧ ((∃ cap j, p.blk = some (b', cap, j)) ∨ zaa S b' = none) ∧
        ∀ b, b ≠ b' → (∀ cap j, p.blk ≠ some (b, cap, j)) → zaa S' b = zaa S b) := by
  obtain ⟨R, blk⟩ := p
  intro K D hv hold env a w hfl ha s
  cases blk with
  | none =>
    simp only [PRow.Ok] at hok
    subst hok
    refine (OpS.appN hd ht hz hzs hzo (by decide) hs hx hxl (by simp) (by simp) (by simpa [Fits] using hfit) K D hv hold env a w hfl ha s).mono ?_
    rintro y w' ⟨hsame, u, E2, S2, hv2, hold2, q1, q2, h1, b', cap', junk, h2, h3, h4, h5, h6, h7, h8⟩
    refine ⟨hsame, u, E2, S2, hv2, hold2, q1, q2, h1, b', cap', junk, ?_, ?_, ?_, ?_⟩
    · rw [h2]; simp [PRow.cell]
    · subst h3
      refine ⟨by simp [zaa, V.copy], by simpa using h5, h7, h8⟩
    · exact .inr (h4.resolve_left (by simp))
    · intro b hb _
      subst h3
      simp only [zaa, delB]
      rw [if_neg (fun h => hb h.symm)]
  | some x =>
    obtain ⟨b0, cap0, j0⟩ := x
    obtain ⟨k1, k2, k3, k4⟩ := hok
    refine (OpS.appC hd ht hz hzs hzo (by decide) hs k1 (by simpa using k2) (by omega) k3 (rows_free R k4) hx hxl (by simp) (by simp) (by simpa [Fits] using hfit) K D hv hold env a w hfl ha s).mono ?_
    rintro y w' ⟨hsame, u, E2, S2, hv2, hold2, q1, q2, h1, b', cap', junk, h2, h3, h4, h5, h6, h7, h8⟩
    refine ⟨hsame, u, E2, S2, hv2, hold2, q1, q2, h1, b', cap', junk, ?_, ?_, ?_, ?_⟩
    · rw [h2]; simp [PRow.cell]
    · subst h3
      refine ⟨?_, by simpa using h5, h7, h8⟩
      simp only [zaa, if_true, Option.some.injEq, Ob.cells.injEq, and_true]
      simp [V.copy]
    · rcases h4 with h4 | h4
      · cases h4; exact .inl ⟨_, _, rfl⟩
      · exact .inr h4
    · intro b hb hnb
      subst h3
      simp only [zaa, delB]
      rw [if_neg (fun h => hb h.symm), zco, if_neg]
      intro h; subst h; exact hnb _ _ rfl
end
end Go.XL
namespace Go.XL
open Go.Proofs
set_option maxRecDepth 100000
set_option maxHeartbeats 8000000
abbrev ptr (b : Nat) : V := .v (.pointer (some ⟨b, 0, none⟩))
theorem zde (bs : Nat) (x n : Int) (hn : n ≤ 1000000000000) : SC Try.prog 27 [ptr bs, I n] bs x (I (zak x n)) (zad x) := by
  unfold SC
  refine DC.of_run Try.func27 rfl Try.ntmps27 Try.results27 (by simp) (fun _ => ?_); simp only [zaq, zas, go_sem, Nat.zero_add, Nat.reduceAdd]
  repeat' (first | (with_reducible first | refine DS.fltS yU yU yE ?_ | refine DS.opsNil ?_ | refine DS.seq ?_ | refine DS.regionL ?_ | (refine DS.cE yE ?_; refine CG.p (fun _ => ?_) (fun _ => ?_)) | refine DS.skip ?_) | (refine DS.store yR yE yE yE yE yU (by exact ⟨by with_unfolding_all rfl, by (try simp only [List.length_map, List.length_append, List.length_set, List.length_replicate, List.length_cons, List.length_nil]); omega⟩) ?_; simp only [zbu, zaw, zbd, zcf, zbq, zbn, zbr]; try simp only [zal, zac, zae, Nat.reduceEqDiff, ↓reduceIte, zag, zah, zao, zaf, zaj, zam, zai]) | refine DS.drawL (id := 4) [0, 1, 2, 3, 4, 5, 6, 7, 8, 9, 10, 11, 12] 13 (by kernel_rfl) zdb (by simp only [zay, zbf, zbg, zbh, zax]; exact rfl) (by simp only [zat, zau, List.drop_nil]; exact rfl) ?_ | (with_reducible first | refine DD.fltS yU yU yU yE ?_ | refine DD.nil0 ?_) | fail)
  · rename_i e1
    refine DS.retA yG ⟨?_, ?_⟩
    · rw [zak, if_pos (by omega)]; rfl
    · simp only [setS, if_true, zce]; rfl
  · rename_i e1
    have hw : IntKind.u64.wrap n = n := wrapU_id ⟨by omega, by omega⟩
    repeat' (first | (with_reducible first | refine DS.fltS yU yU yE ?_ | refine DS.opsNil ?_) | fail)
    refine DS.retA yG ⟨?_, ?_⟩
    · rw [zak, if_neg e1]
      show I (IntKind.i64.wrap ((mixX (zad x)).tmod n)) = _
      have h1 := mixX_bd (zad x)
      have h2 := Int.emod_nonneg (mixX (zad x)) (show n ≠ 0 by omega)
      have h3 := Int.emod_lt_of_pos (mixX (zad x)) (show 0 < n by omega)
      rw [Int.tmod_eq_emod_of_nonneg h1.1]
      have h4 := zqk (n := mixX (zad x) % n) (by omega)
      unfold w64 at h4
      rw [h4]
    · simp only [setS, if_true, zce]; rfl
theorem zjx (bs : Nat) (x n : Int) (hn : n ≤ 1000000000000) : SC Try.prog 48 [ptr bs, I n] bs x (Bo (zmc x n)) (zad x) := by
  unfold SC
  refine DC.of_run Try.func48 rfl Try.ntmps48 Try.results48 (by simp) (fun _ => ?_); simp only [zaq, zas, go_sem, Nat.zero_add, Nat.reduceAdd]
  repeat' (first | (with_reducible first | refine DS.fltS yU yU yE ?_ | refine DS.opsNil ?_ | refine DS.seq ?_ | refine DS.regionL ?_) | (refine DS.scS inferInstance (zde bs x n hn) yR yT yT ?_; (try simp only [zbj, zbt, ↓reduceIte, *])) | fail)
  refine DS.retA yG ⟨rfl, rfl⟩
theorem zub (bs : Nat) (x lo hi : Int) (hn : -1000 ≤ lo ∧ lo ≤ 1000 ∧ -1000 ≤ hi ∧ hi ≤ 1000) : SC Try.prog 82 [ptr bs, I lo, I hi] bs x (I (zcu x lo hi)) (zad x) := by
  have hb := zcr x (hi - lo + 1)
  obtain ⟨h1, h2, h3⟩ := hb
  obtain ⟨n1, n2, n3, n4⟩ := hn
  have h4 : zak x (hi - lo + 1) ≤ 3000 := by
    rcases Int.lt_or_le (hi - lo + 1) 1 with h | h
    · rw [h3 h]; omega
    · have := h2 h; omega
  clear h2 h3
  unfold SC
  refine DC.of_run Try.func82 rfl Try.ntmps82 Try.results82 (by simp) (fun _ => ?_); simp only [zaq, zas, go_sem, Nat.zero_add, Nat.reduceAdd]
  repeat' (first | (with_reducible first | refine DS.fltS yU yU yE ?_ | refine DS.opsNil ?_ | refine DS.seq ?_ | refine DS.regionL ?_) | (refine DS.scS inferInstance (zde bs x (hi - lo + 1) (by omega)) yR yT yT ?_; (try simp only [zbj, zbt, ↓reduceIte, *])) | fail)
  refine DS.retA yG ⟨rfl, rfl⟩
theorem yX8 {p : Prop} (h : p := by (simp (disch := omega) only [go_sem, dopV, Option.map_some, Option.map_none, Option.bind_some, Option.bind_none, ↓reduceIte, Nat.reduceEqDiff, Nat.reduceLT, Nat.reduceLeDiff, Nat.reduceAdd, Nat.reduceMul, Nat.reduceSub, Nat.zero_add, Nat.add_zero, Nat.zero_le, Nat.zero_mul, Nat.mul_one, Nat.one_mul, Int.natCast_zero, Int.toNat_zero, Int.reduceToNat, Int.reduceLT, Int.reduceLE, Int.reduceEq, decide_true, decide_false, true_and, and_true, Bool.and_self, Bool.and_true, Bool.true_and, Bool.not_true, Bool.not_false, IntWalk.toNatUp, IntWalk.iteOmega, IntWalk.i64_in, Option.isSome_some, not_true_eq_false, not_false_eq_true, Option.getD_some, Option.getD_none, Int.toNat_natCast, List.length_map, List.getElem?_map, List.getElem?_eq_getElem, V.flat, V.one, List.all_cons, List.all_nil, *, Value.oneCell']; exact rfl)) : p := h
theorem newSource_dc (l : List Int) : DC Try.prog 26 [ints l] [] (fun u S' => ∃ bs, u = ptr bs ∧ S' = [(bs, srcO (newX l))]) := by
  refine DC.of_run Try.func26 rfl Try.ntmps26 Try.results26 (by simp) (fun _ => ?_); simp only [zaq, zas, go_sem, Nat.zero_add, Nat.reduceAdd]
  refine DS.bnd (t := 0) yG (.inl rfl) (fun hb0 => ?_); simp only [List.length_map] at hb0
  repeat' (first | (with_reducible first | refine DS.fltS yU yU yX8 ?_ | refine DS.opsNil ?_ | refine DS.seq ?_ | refine DS.regionL ?_ | refine DS.block ?_) | (with_reducible refine DS.boxS yU yX8 yU (fun _ hfr => ?_); have hfr := zhy hfr; simp only [zfr, zgl, and_true] at hfr; simp only [zbp, zcj, zbo, zcc, zbl, zbi, zbw, zbm, zcl, zci, zbz, zch, zcb, zca]) | fail)
  rename_i bs hbs
  refine DS.loopS [0, 3] (by (simp only [go_sem, Nat.reduceEqDiff, ↓reduceIte]; exact rfl)) (fun (y : Nat × Int) => [(4, I y.1)]) (fun (y : Nat × Int) => [(bs, srcO y.2)]) (fun (y : Nat × Int) => y.1 ≤ l.length ∧ newX l = seedX (l.drop y.1) y.2) (fun (y : Nat × Int) => l.length - y.1) (0, 2685821657736338717) yS (fun b o e => by exact e) ⟨Nat.zero_le _, rfl⟩ (fun y B hI hB => ?_); try dsimp only at hI hB; simp only [zap, zar]
  obtain ⟨i, x⟩ := y
  dsimp only at hI hB
  obtain ⟨g1, g2⟩ := hI
  have H := Box.mk g2
  clear g2
  repeat' (first | (with_reducible first | refine DS.fltS yU yU yE ?_ | refine DS.opsNil ?_ | refine DS.seq ?_ | refine DS.regionL ?_ | (refine DS.cE yE ?_; refine CG.p (fun _ => ?_) (fun _ => ?_)) | refine DS.blk ?_ | refine DS.block ?_ | refine DS.exit yU ?_ | refine DS.skip ?_) | (refine DS.store yR yE yE yE yE yU (by exact ⟨by with_unfolding_all rfl, by (try simp only [List.length_map, List.length_append, List.length_set, List.length_replicate, List.length_cons, List.length_nil]); omega⟩) ?_; simp only [zbu, zaw, zbd, zcf, zbq, zbn, zbr]; try simp only [zal, zac, zae, Nat.reduceEqDiff, ↓reduceIte, zag, zah, zao, zaf, zaj, zam, zai]) | refine DS.drawL (id := 5) [0, 1, 2, 3, 4, 5, 6, 7, 8, 9, 10, 11] 12 (by kernel_rfl) zdb (by simp only [zay, zbf, zbg, zbh, zax]; exact rfl) (by simp only [zat, zau, List.drop_nil]; exact rfl) ?_ | refine DS.drawL (id := 6) [0, 1, 2, 3, 4, 5, 6, 7, 8, 9, 10] 11 (by kernel_rfl) zdb (by simp only [zay, zbf, zbg, zbh, zax]; exact rfl) (by simp only [zat, zau, List.drop_nil]; exact rfl) ?_ | (with_reducible first | refine DD.fltS yU yU yU yE ?_ | refine DD.nil0 ?_) | fail)
  · rename_i e1
    have hi : i < l.length := by omega
    refine DS.back (hB (i + 1, xorI .u64 (IntKind.u64.wrap (xorI .u64 x (IntKind.u64.wrap l[i]) * 11400714819323198485)) ((IntKind.u64.wrap (xorI .u64 x (IntKind.u64.wrap l[i]) * 11400714819323198485)).fdiv 536870912)) _ _ (by dsimp only; omega) ⟨by dsimp only; omega, by rw [H.out, List.drop_eq_getElem_cons hi, seedX]⟩ yS yS (fun b o e => ?_))
    simp only [setS, if_true, zce]
    exact e
  · rename_i e1
    have h := H.out
    rw [List.drop_eq_nil_of_le (by omega)] at h
    refine DS.retA yG ⟨bs, rfl, ?_⟩
    rw [h]; rfl
end Go.XL
namespace Go.XL
open Go.Proofs
theorem indexFuncM_pc (l : List Member) {g : FuncId} {fs cs : List V} {fn : Func} (p : Member → Bool) (hf : FnOk Try.prog g fn) (h : ∀ m, PC Try.prog g (fs ++ [m.val] ++ cs) (Bo (p m))) :
    PC Try.prog 94 [.lst (l.map Member.cells), .fn g fs cs] (I (idxF p l 0)) := by
  refine DC.of_run Try.func94 rfl Try.ntmps94 Try.results94 (by simp) (fun _ => ?_); simp only [zaq, zas, go_sem, Nat.zero_add, Nat.reduceAdd]
  refine DS.bnd (t := 0) yG (.inl rfl) (fun hb0 => ?_); simp only [List.length_map] at hb0
  repeat' (first | (with_reducible first | refine DS.fltS yU yU yE ?_ | refine DS.opsNil ?_ | refine DS.seq ?_ | refine DS.regionL ?_ | refine DS.block ?_) | fail)
  refine DS.loopG (fun (i : Nat) => [(0, .lst (l.map Member.cells)), (1, .fn g fs cs), (7, I l.length), (8, I i)]) (fun (i : Nat) => []) (fun (i : Nat) => i ≤ l.length ∧ idxF p l 0 = idxF p (l.drop i) i) (fun (i : Nat) => l.length - i) 0 yS yS (by simp) (fun i B hI hB => ?_); try dsimp only at hI hB ⊢
  repeat' (first | (with_reducible first | refine DS.fltS yU yU yE ?_ | refine DS.opsNil ?_ | refine DS.seq ?_ | refine DS.regionL ?_ | (refine DS.cE yE ?_; refine CG.p (fun _ => ?_) (fun _ => ?_)) | refine DS.block ?_ | refine DS.exit yU ?_ | refine DS.skip ?_) | refine DS.retT [] yE trivial ?_ | fail)
  · refine DS.pcVS hf (by simp (disch := omega) only [go_sem, dopV, Option.map_some, Option.map_none, Option.bind_some, Option.bind_none, ↓reduceIte, Nat.reduceEqDiff, Nat.reduceLT, Nat.reduceLeDiff, Nat.reduceAdd, Nat.reduceMul, Nat.reduceSub, Nat.zero_add, Nat.add_zero, Nat.zero_le, Nat.zero_mul, Nat.mul_one, Nat.one_mul, Int.natCast_zero, Int.toNat_zero, Int.reduceToNat, Int.reduceLT, Int.reduceLE, Int.reduceEq, decide_true, decide_false, true_and, and_true, Bool.and_self, Bool.and_true, Bool.true_and, Bool.not_true, Bool.not_false, IntWalk.toNatUp, IntWalk.iteOmega, IntWalk.i64_in, Option.isSome_some, not_true_eq_false, not_false_eq_true, Option.getD_some, Option.getD_none, Int.toNat_natCast, List.length_map, List.getElem?_map, List.getElem?_eq_getElem, V.flat, V.one, List.all_cons, List.all_nil]) (h l[i]) yR yG ?_
    repeat' (first | (with_reducible first | refine DS.fltS yU yU yE ?_ | refine DS.opsNil ?_ | refine DS.seq ?_ | refine DS.regionL ?_ | (refine DS.cE yE ?_; refine CG.b (fun _ => ?_) (fun _ => ?_)) | refine DS.blk ?_ | refine DS.skip ?_) | refine DS.retT [] yE trivial ?_ | fail)
    · rename_i h1 h2
      have := zjf (p := p) (l := l) (i := i) (by omega) h2
      simp only [tupV]; rw [hI.2, this]
    · rename_i h1 h2
      exact DS.back (hB (i + 1) _ _ (by omega) ⟨by omega, by rw [hI.2, zhm (by omega) h2]⟩ yS yS)
  · have := zjg (p := p) (l := l) (i := i) (by omega)
    simp only [tupV]; rw [hI.2, this]
theorem findC_pc (m : Member) (id : Int) : PC Try.prog 95 [m.val, .plc [I id]] (Bo (decide (m.id = id))) := by
  refine DC.of_run Try.func95 rfl Try.ntmps95 Try.results95 (by simp) (fun _ => ?_); simp only [zaq, zas, go_sem, Nat.zero_add, Nat.reduceAdd]
  repeat' (first | (with_reducible first | refine DS.fltS yU yU yE ?_ | refine DS.opsNil ?_ | refine DS.seq ?_ | refine DS.regionL ?_) | (refine DS.boxF (t := 2) yU yE yU ?_; simp only [zbp, zcj, zbo, zcc, zbl, zbi, zbw, zbm, zcl, zci, zbz, zch, zcb, zca]) | refine DS.retT [] yE trivial ?_ | fail)
  all_goals first | (simp_all [tupV]; done)
theorem find_pc (c : Club) (id : Int) : PC Try.prog 54 [c.val, I id] (I (idxF (fun m => decide (m.id = id)) c.members 0)) := by
  refine DC.of_run Try.func54 rfl Try.ntmps54 Try.results54 (by simp) (fun _ => ?_); simp only [zaq, zas, go_sem, Nat.zero_add, Nat.reduceAdd]
  repeat (first | refine DS.seq ?_ | refine DS.block ?_ | refine DS.scope ?_ | refine DS.region ?_ | refine DS.opsNil ?_ | refine DS.blk ?_ | refine DS.label ?_ | refine DS.skip ?_ | refine DS.exit yR ?_ | refine DS.fltS yR yR yG ?_ | refine DS.cT yG yR ?_ | refine DS.cF yG yR ?_ | refine DS.gT yG yR ?_ | refine DS.gF yG yR yR ?_ | refine DS.gU yG yR yR ?_ )
  refine DS.boxS yR yG yR (fun b hb => ?_); have hb := zhy hb; simp only [zfr, zgl, and_true, zbp, zcj, zbo, zcc, zbl, zbi, zbw, zbm, zcl, zci, zbz, zch, zcb, zca, ite_eq_right_iff, reduceCtorEq, imp_false] at hb ⊢
  refine DS.boxS yR yG yR (fun d hd => ?_); have hd := zhy hd; simp only [zfr, zgl, and_true, zbp, zcj, zbo, zcc, zbl, zbi, zbw, zbm, zcl, zci, zbz, zch, zcb, zca, ite_eq_right_iff, reduceCtorEq, imp_false] at hd ⊢
  refine DS.freezeP (t := 3) yE yE ?_; simp only [zbj, zbt, ↓reduceIte, *, zbl, zbi, zbw, zbm, zcl, zci, zbz, zch]
  repeat' (first | (with_reducible first | refine DS.fltS yU yU yE ?_ | refine DS.opsNil ?_ | refine DS.seq ?_ | refine DS.regionL ?_) | refine DS.pcS inferInstance (indexFuncM_pc c.members (fun m => decide (m.id = id)) inferInstance (fun m => findC_pc m id)) yR yT ?_ | refine DS.retT [] yE trivial ?_ | fail)
  all_goals first | (simp_all [tupV]; done)
end Go.XL
namespace Go.XL
open Go.Proofs
theorem totalGo_in {most : Int} {l : List Int} {i : Nat} {w : Int} (hi : i < l.length) (h : -most ≤ l[i] ∧ l[i] ≤ most) : zeb most (l.drop i) w = zeb most (l.drop (i + 1)) (w - l[i]) := by
  rw [List.drop_eq_getElem_cons hi, zeb, if_pos h]
theorem totalGo_out {most : Int} {l : List Int} {i : Nat} {w : Int} (hi : i < l.length) (h : ¬ (-most ≤ l[i] ∧ l[i] ≤ most)) : zeb most (l.drop i) w = 2 := by
  rw [List.drop_eq_getElem_cons hi, zeb, if_neg h]
theorem zmn {most : Int} {l : List Int} {i : Nat} {w : Int} (hi : l.length ≤ i) : zeb most (l.drop i) w = if w = 0 then 0 else 12 := by
  rw [List.drop_eq_nil_of_le hi, zeb]
theorem ztq (c : Club) (l : List Int) (most want : Int) (h1 : c.size ≤ 4) (h2 : 0 ≤ most ∧ most ≤ 1099511627776) (h3 : -1099511627776 ≤ want ∧ want ≤ 1099511627776) : PC Try.prog 90 [c.val, ints l, I most, I want] (I (zhg c.size l most want)) := by
  refine DC.of_run Try.func90 rfl Try.ntmps90 Try.results90 (by simp) (fun _ => ?_); simp only [zaq, zas, go_sem, Nat.zero_add, Nat.reduceAdd]
  refine DS.bnd (t := 1) yG (.inl rfl) (fun hb1 => ?_); simp only [List.length_map] at hb1
  repeat' (first | (with_reducible first | refine DS.fltS yU yU yE ?_ | refine DS.opsNil ?_ | refine DS.seq ?_ | refine DS.regionL ?_ | (refine DS.cE yE ?_; refine CG.np (fun _ => ?_) (fun _ => ?_)) | refine DS.block ?_ | refine DS.skip ?_) | (refine DS.boxF (t := 4) yU yE yU ?_; simp only [zbp, zcj, zbo, zcc, zbl, zbi, zbw, zbm, zcl, zci, zbz, zch, zcb, zca]) | refine DS.retT [] yE trivial ?_ | fail)
  · simp [tupV, zhg, *]
  refine DS.loopG (fun (i : Nat × Int) => [(1, ints l), (2, I most), (3, I i.2), (16, ints l), (17, I l.length), (18, I i.1)]) (fun (i : Nat × Int) => []) (fun (i : Nat × Int) => i.1 ≤ l.length ∧ zeb most l want = zeb most (l.drop i.1) i.2 ∧ -1099511627776 * (i.1 + 1) ≤ i.2 ∧ i.2 ≤ 1099511627776 * (i.1 + 1)) (fun (i : Nat × Int) => l.length - i.1) (0, want) yS yS (by simp; omega) (fun i B hI hB => ?_); try dsimp only at hI hB ⊢
  repeat' (first | (with_reducible first | refine DS.fltS yU yU yE ?_ | refine DS.opsNil ?_ | refine DS.seq ?_ | refine DS.regionL ?_ | (refine DS.cE yE ?_; first | refine CG.np (fun _ => ?_) (fun _ => ?_) | refine CG.p (fun _ => ?_) (fun _ => ?_)) | refine DS.blk ?_ | refine DS.block ?_ | refine DS.exit yU ?_ | refine DS.skip ?_) | refine DS.pcS inferInstance (zlo _ _ _) yR yT ?_ | refine DS.retT [] yE trivial ?_ | fail)
  · rename_i q1 q2
    have hs : (l.length : Int) = c.size := by omega
    rw [zei, zhg, if_pos hs, hI.2.1, totalGo_out (by omega) (by simpa using q2)]
  · rename_i q1 q2
    have q3 : -most ≤ l[i.1] ∧ l[i.1] ≤ most := by simpa using q2
    exact DS.back (hB (i.1 + 1, i.2 - l[i.1]) _ _ (by simp; omega) ⟨by simp; omega, by rw [hI.2.1, totalGo_in (by omega) q3], by simp; omega, by simp; omega⟩ yS yS)
  · rename_i q1 q2
    have hs : (l.length : Int) = c.size := by omega
    rw [zei, zhg, if_pos hs, hI.2.1, zmn (by omega), if_neg (by simpa using q2)]
  · rename_i q1 q2
    have hs : (l.length : Int) = c.size := by omega
    rw [zei, zhg, if_pos hs, hI.2.1, zmn (by omega), if_pos (by simpa using q2)]
end Go.XL
namespace Go.XL
open Go.Proofs
set_option maxRecDepth 100000
set_option maxHeartbeats 4000000
theorem members_pc (l : List Member) : PC Try.prog 91 [.lst (l.map Member.cells)] (I (zed l)) := by
  refine DC.of_run Try.func91 rfl Try.ntmps91 Try.results91 (by simp) (fun _ => ?_); simp only [zaq, zas, go_sem, Nat.zero_add, Nat.reduceAdd]
  refine DS.bnd (t := 0) yG (.inl rfl) (fun hb0 => ?_); simp only [List.length_map] at hb0
  repeat' (first | (with_reducible first | refine DS.fltS yU yU yE ?_ | refine DS.opsNil ?_ | refine DS.seq ?_ | refine DS.regionL ?_ | (refine DS.cE yE ?_; refine CG.p (fun _ => ?_) (fun _ => ?_)) | refine DS.block ?_ | refine DS.skip ?_) | refine DS.retT [] yE trivial ?_ | fail)
  · rename_i q; rw [zed, if_pos (by omega)]; rfl
  refine DS.loopK [9, 10] (by (simp only [go_sem, Nat.reduceEqDiff, ↓reduceIte]; exact rfl)) (fun (i : Nat × Int) => [(3, I i.2), (11, I i.1)]) (fun (i : Nat × Int) => i.1 ≤ l.length ∧ zed l = zdl (l.drop i.1) i.2) (fun (i : Nat × Int) => l.length - i.1) (0, 0) yS (by simp [zed]; omega) (fun i B hI hB => ?_); try dsimp only at hI hB; simp only [zap, zar]
  repeat' (first | (with_reducible first | refine DS.fltS yU yU yE ?_ | refine DS.opsNil ?_ | refine DS.seq ?_ | refine DS.regionL ?_ | (refine DS.cE yE ?_; first | refine CG.np (fun _ => ?_) (fun _ => ?_) | refine CG.p (fun _ => ?_) (fun _ => ?_) | refine CG.yes ?_ | refine CG.no ?_) | (refine DS.gE yU yE ?_; first | refine GG.sU ?_ | refine GG.npT (fun _ => ?_) (fun _ => ?_) | refine GG.npF (fun _ => ?_) (fun _ => ?_) | refine GG.run ?_ | refine GG.sF ?_ | refine GG.sT ?_) | refine DS.blk ?_ | refine DS.block ?_ | refine DS.exit yU ?_ | refine DS.skip ?_) | (refine DS.letF (t := 5) yU yE yU (fun _ => by (simp (disch := omega) only [go_sem, dopV, Option.map_some, Option.map_none, Option.bind_some, Option.bind_none, ↓reduceIte, Nat.reduceEqDiff, Nat.reduceLT, Nat.reduceLeDiff, Nat.reduceAdd, Nat.reduceMul, Nat.reduceSub, Nat.zero_add, Nat.add_zero, Nat.zero_le, Nat.zero_mul, Nat.mul_one, Nat.one_mul, Int.natCast_zero, Int.toNat_zero, Int.reduceToNat, Int.reduceLT, Int.reduceLE, Int.reduceEq, decide_true, decide_false, true_and, and_true, Bool.and_self, Bool.and_true, Bool.true_and, Bool.not_true, Bool.not_false, IntWalk.toNatUp, IntWalk.iteOmega, IntWalk.i64_in, Option.isSome_some, not_true_eq_false, not_false_eq_true, Option.getD_some, Option.getD_none, Int.toNat_natCast, List.length_map, List.getElem?_map, List.getElem?_eq_getElem, V.flat, V.one, List.all_cons, List.all_nil, *]; exact rfl)) yE yU (by exact ⟨by with_unfolding_all rfl, by with_unfolding_all decide⟩) (fun _ => by simp only [go_sem, Nat.reduceEqDiff, ↓reduceIte]) ?_; simp only [go_sem]) | refine DS.pcS inferInstance (zlo _ _ _) yR yT ?_ | refine DS.retT [] yE trivial ?_ | fail)
  all_goals try first | (clear hB; obtain ⟨_, r, dr1, rfl, dr3⟩ := zcg (l := l) (i := i.1) (by omega); rw [dr1] at hI; rw [hI.2]; simp [tupV, zdl, *]; done) | (clear hB; have de1 := zdk (l := l) (i := i.1) (by omega); rw [de1] at hI; rw [hI.2]; simp [tupV, zdl, *]; done)
  · obtain ⟨_, r, dr1, rfl, dr3⟩ := zcg (l := l) (i := i.1) (by omega); rw [dr1] at hI
    exact DS.back (hB (i.1 + 1, l[i.1].id) _ _ (by simp; omega) (⟨by simp; omega, by rw [hI.2, dr3]; simp [zdl, *]⟩) yS yS (fun b o e => by first | exact e | (simp only [zab]; split <;> simp_all)))
  · obtain ⟨_, r, dr1, rfl, dr3⟩ := zcg (l := l) (i := i.1) (by omega); rw [dr1] at hI
    exact DS.back (hB (i.1 + 1, l[i.1].id) _ _ (by simp; omega) (⟨by simp; omega, by rw [hI.2, dr3]; simp [zdl, *]⟩) yS yS (fun b o e => by first | exact e | (simp only [zab]; split <;> simp_all)))
theorem played_pc (c : Club) (hs : c.Small) (a b : Int) : PC Try.prog 74 [c.val, I a, I b] (Bo (zjw c a b)) := by
  have h1 := hs.rounds
  by_cases ha : 0 ≤ a ∧ a ≤ (c.rounds.length : Int) - 1
  · obtain ⟨i, rfl⟩ := Int.eq_ofNat_of_zero_le ha.1
    have hi : i < c.rounds.length := by omega
    have h2 := (hs.at hi).points
    rw [zor hi]
    refine DC.of_run Try.func74 rfl Try.ntmps74 Try.results74 (by simp) (fun _ => ?_); simp only [zaq, zas, go_sem, Nat.zero_add, Nat.reduceAdd]
    repeat' (first | (with_reducible first | refine DS.fltS yU yU yE ?_ | refine DS.opsNil ?_ | refine DS.seq ?_ | refine DS.regionL ?_ | (refine DS.gE yU yE ?_; first | refine GG.pT (fun _ => ?_) (fun _ => ?_) | refine GG.run ?_ | refine GG.sF ?_)) | refine DS.pcS inferInstance (zlo _ _ _) yR yT ?_ | (refine DS.boxF (t := 3) yU yE yU ?_; simp only [zbp, zcj, zbo, zcc, zbl, zbi, zbw, zbm, zcl, zci, zbz, zch, zcb, zca]) | refine DS.retT [] yE trivial ?_ | fail)
    · rename_i q1 q2
      have : b.toNat < c.rounds[i].points.length := by omega
      simp [tupV, List.getD_eq_getElem?_getD, *]
    · simp [tupV, *]
  · rw [zna ha]
    refine DC.of_run Try.func74 rfl Try.ntmps74 Try.results74 (by simp) (fun _ => ?_); simp only [zaq, zas, go_sem, Nat.zero_add, Nat.reduceAdd]
    repeat' (first | (with_reducible first | refine DS.fltS yU yU yE ?_ | refine DS.opsNil ?_ | refine DS.seq ?_ | refine DS.regionL ?_ | (refine DS.gE yU yE ?_; refine GG.sF ?_)) | refine DS.pcS inferInstance (zlo _ _ _) yR yT ?_ | (refine DS.boxF (t := 3) yU yE yU ?_; simp only [zbp, zcj, zbo, zcc, zbl, zbi, zbw, zbm, zcl, zci, zbz, zch, zcb, zca]) | refine DS.retT [] yE trivial ?_ | fail)
    all_goals first | rfl | omega
theorem zqt (c : Club) (l : List Int) (h1 : c.size ≤ 4) (h2 : 0 ≤ c.size) (h3 : 0 ≤ c.start ∧ c.start ≤ 1000000) : PC Try.prog 118 [c.val, ints l] (I (zjs c l)) := by
  have h4 : 0 ≤ c.size * c.start := Int.mul_nonneg h2 h3.1
  have h5 : c.size * c.start ≤ 4 * 1000000 := Int.mul_le_mul h1 h3.2 h3.1 (by decide)
  rw [zjs]
  refine DC.of_run Try.func118 rfl Try.ntmps118 Try.results118 (by simp) (fun _ => ?_); simp only [zaq, zas, go_sem, Nat.zero_add, Nat.reduceAdd]
  repeat' (first | (with_reducible first | refine DS.fltS yU yU yE ?_ | refine DS.opsNil ?_ | refine DS.seq ?_ | refine DS.regionL ?_) | refine DS.pcS inferInstance (ztq c l 1099511627776 (c.size * c.start) h1 (by decide) ⟨by omega, by omega⟩) yR yT ?_ | (refine DS.boxF (t := 2) yU yE yU ?_; simp only [zbp, zcj, zbo, zcc, zbl, zbi, zbw, zbm, zcl, zci, zbz, zch, zcb, zca]) | refine DS.retT [] yE trivial ?_ | fail)
  rfl
theorem index_pc (l : List Int) (n : Int) : PC Try.prog 108 [ints l, I n] (I (idxF (fun x => decide (x = n)) l 0)) := by
  refine DC.of_run Try.func108 rfl Try.ntmps108 Try.results108 (by simp) (fun _ => ?_); simp only [zaq, zas, go_sem, Nat.zero_add, Nat.reduceAdd]
  refine DS.bnd (t := 0) yG (.inl rfl) (fun hb0 => ?_); simp only [List.length_map] at hb0
  repeat' (first | (with_reducible first | refine DS.fltS yU yU yE ?_ | refine DS.opsNil ?_ | refine DS.seq ?_ | refine DS.regionL ?_ | refine DS.block ?_) | fail)
  refine DS.loopK [0, 1, 7] (by (simp only [go_sem, Nat.reduceEqDiff, ↓reduceIte]; exact rfl)) (fun (i : Nat) => [(8, I i)]) (fun (i : Nat) => i ≤ l.length ∧ idxF (fun x => decide (x = n)) l 0 = idxF (fun x => decide (x = n)) (l.drop i) i) (fun (i : Nat) => l.length - i) 0 yS (by simp) (fun i B hI hB => ?_); try dsimp only at hI hB; simp only [zap, zar]
  repeat' (first | (with_reducible first | refine DS.fltS yU yU yE ?_ | refine DS.opsNil ?_ | refine DS.seq ?_ | refine DS.regionL ?_ | (refine DS.cE yE ?_; refine CG.p (fun _ => ?_) (fun _ => ?_)) | refine DS.blk ?_ | refine DS.block ?_ | refine DS.exit yU ?_ | refine DS.skip ?_) | refine DS.retT [] yE trivial ?_ | fail)
  · rename_i q1 q2
    rw [hI.2, zjf (p := fun x => decide (x = n)) (l := l) (i := i) (by omega) (decide_eq_true q2.symm)]; rfl
  · rename_i q1 q2
    exact DS.back (hB (i + 1) _ _ (by omega) (⟨by omega, by rw [hI.2, zhm (p := fun x => decide (x = n)) (l := l) (i := i) (by omega) (by simpa using fun h => q2 h.symm)]⟩) yS yS (fun b o e => by first | exact e | (simp only [zab]; split <;> simp_all)))
  · rename_i q1
    rw [hI.2, zjg (p := fun x => decide (x = n)) (l := l) (i := i) (by omega)]; rfl
theorem zks {α : Type} (p : α → Bool) (l : List α) : decide (0 ≤ idxF p l 0) = l.any p := by
  have key : ∀ (l : List α) (i : Nat), (0 ≤ idxF p l i) ↔ l.any p = true := by
    intro l
    induction l with
    | nil => intro i; simp [idxF]
    | cons x r ih =>
      intro i
      simp only [idxF, List.any_cons]
      by_cases h : p x = true
      · simp only [h, if_true, Bool.true_or, iff_true]; omega
      · rw [if_neg h, ih (i + 1)]; simp [h]
  cases h : l.any p with
  | true => exact decide_eq_true ((key l 0).2 h)
  | false => exact decide_eq_false (fun h' => by rw [(key l 0).1 h'] at h; cases h)
theorem contains_pc (l : List Int) (n : Int) : PC Try.prog 117 [ints l, I n] (Bo (decide (n ∈ l))) := by
  refine DC.of_run Try.func117 rfl Try.ntmps117 Try.results117 (by simp) (fun _ => ?_); simp only [zaq, zas, go_sem, Nat.zero_add, Nat.reduceAdd]
  repeat' (first | (with_reducible first | refine DS.fltS yU yU yE ?_ | refine DS.opsNil ?_ | refine DS.seq ?_ | refine DS.regionL ?_) | refine DS.pcS inferInstance (index_pc l n) yR yT ?_ | refine DS.retT [] yE trivial ?_ | fail)
  rw [zei, zks]
  simp [List.any_eq]
theorem restS_A {c : Club} {r e : Int} (h : zfh c r = e) (h2 : e ≠ 0) : zhv c r = e := by rw [zhv, if_pos (by rw [h]; exact h2), h]
theorem restS_B {c : Club} {r : Int} (h : zfh c r = 0) : zhv c r = zew c r := by rw [zhv, if_neg (by rw [h]; decide)]
theorem rest_pc (c : Club) (hs : c.Small) (h1 : c.size ≤ 4) (h2 : 0 ≤ c.size) (h3 : 0 ≤ c.start ∧ c.start ≤ 1000000) (h4 : 0 ≤ c.window ∧ c.window ≤ 20) {i : Nat} (hi : i < c.rounds.length) (h5 : c.rounds.length ≤ 20) : PC Try.prog 93 [c.val, I i] (I (zhv c i)) := by
  have q1 := hs.rounds
  have q2 := hs.at hi
  have q3 := q2.points
  have q4 := q2.tables
  have q5 := q2.rulings
  refine DC.of_run Try.func93 rfl Try.ntmps93 Try.results93 (by simp) (fun _ => ?_); simp only [zaq, zas, go_sem, Nat.zero_add, Nat.reduceAdd]
  repeat' (first | (with_reducible first | refine DS.fltS yU yU yE ?_ | refine DS.opsNil ?_ | refine DS.seq ?_ | refine DS.regionL ?_ | (refine DS.cE yE ?_; refine CG.np (fun _ => ?_) (fun _ => ?_)) | refine DS.block ?_ | refine DS.skip ?_) | (refine DS.letF (t := 5) yU yE yU (fun _ => by (simp (disch := omega) only [go_sem, dopV, Option.map_some, Option.map_none, Option.bind_some, Option.bind_none, ↓reduceIte, Nat.reduceEqDiff, Nat.reduceLT, Nat.reduceLeDiff, Nat.reduceAdd, Nat.reduceMul, Nat.reduceSub, Nat.zero_add, Nat.add_zero, Nat.zero_le, Nat.zero_mul, Nat.mul_one, Nat.one_mul, Int.natCast_zero, Int.toNat_zero, Int.reduceToNat, Int.reduceLT, Int.reduceLE, Int.reduceEq, decide_true, decide_false, true_and, and_true, Bool.and_self, Bool.and_true, Bool.true_and, Bool.not_true, Bool.not_false, IntWalk.toNatUp, IntWalk.iteOmega, IntWalk.i64_in, Option.isSome_some, not_true_eq_false, not_false_eq_true, Option.getD_some, Option.getD_none, Int.toNat_natCast, List.length_map, List.getElem?_map, List.getElem?_eq_getElem, V.flat, V.one, List.all_cons, List.all_nil, *]; exact rfl)) yE yU (by exact ⟨by with_unfolding_all rfl, by with_unfolding_all decide⟩) (fun _ => by simp only [go_sem, Nat.reduceEqDiff, ↓reduceIte]) ?_; simp only [go_sem]) | (refine DS.boxF (t := 2) yU yE yU ?_; simp only [zbp, zcj, zbo, zcc, zbl, zbi, zbw, zbm, zcl, zci, zbz, zch, zcb, zca]) | refine DS.retT [] yE trivial ?_ | fail)
  · rename_i q
    rw [restS_A (e := 3) (by rw [zfh, c.round_at hi, if_pos (by omega)]) (by decide)]; rfl
  rename_i q
  have hps : zfh c i = zej c c.rounds[i].points := by rw [zfh, c.round_at hi, if_neg (by omega)]
  have hrs : c.rounds[i].rulings.length ≤ 20 → zew c i = zdx c i c.rounds[i].rulings := fun h => by rw [zew, c.round_at hi, if_neg (by omega)]
  refine DS.loopK [1, 2, 5, 25, 26] (by (simp only [go_sem, Nat.reduceEqDiff, ↓reduceIte]; exact rfl)) (fun (k : Nat) => [(27, I k)]) (fun (k : Nat) => k ≤ c.rounds[i].points.length ∧ zej c c.rounds[i].points = zej c (c.rounds[i].points.drop k)) (fun (k : Nat) => c.rounds[i].points.length - k) 0 yS ⟨Nat.zero_le _, rfl⟩ (fun k B hI hB => ?_); try dsimp only at hI hB; simp only [zap, zar]
  repeat' (first | (with_reducible first | refine DS.fltS yU yU yE ?_ | refine DS.opsNil ?_ | refine DS.seq ?_ | refine DS.regionL ?_ | (refine DS.cE yE ?_; first | refine CG.np (fun _ => ?_) (fun _ => ?_) | refine CG.p (fun _ => ?_) (fun _ => ?_) | refine CG.no ?_) | (refine DS.gE yU yE ?_; first | refine GG.pT (fun _ => ?_) (fun _ => ?_) | refine GG.run ?_ | refine GG.sF ?_) | refine DS.blk ?_ | refine DS.block ?_ | refine DS.exit yU ?_ | refine DS.skip ?_) | refine DS.pcS inferInstance (zqt c _ h1 h2 h3) yR yT ?_ | refine DS.retT [] yE trivial ?_ | fail)
  · rename_i e1 e2 e3
    obtain ⟨_, r, dr1, rfl, dr3⟩ := zcg (l := c.rounds[i].points) (i := k) (by omega); rw [dr1] at hI
    rw [restS_A (hps.trans (hI.2.trans (by rw [zej, if_neg (by omega), if_pos e3]))) e3]; rfl
  · rename_i e1 e2 e3
    obtain ⟨_, r, dr1, rfl, dr3⟩ := zcg (l := c.rounds[i].points) (i := k) (by omega); rw [dr1] at hI
    exact DS.back (hB (k + 1) _ _ (by omega) (⟨by omega, by rw [hI.2, dr3, zej, if_neg (by omega), if_neg (by omega)]⟩) yS yS (fun b o e => by first | exact e | (simp only [zab]; split <;> simp_all)))
  · rename_i e1 e2
    obtain ⟨_, r, dr1, rfl, dr3⟩ := zcg (l := c.rounds[i].points) (i := k) (by omega); rw [dr1] at hI
    exact DS.back (hB (k + 1) _ _ (by omega) (⟨by omega, by rw [hI.2, dr3, zej, if_pos (by omega)]⟩) yS yS (fun b o e => by first | exact e | (simp only [zab]; split <;> simp_all)))
  · rename_i e1 e2
    have de1 := zdk (l := c.rounds[i].points) (i := k) (by omega); rw [de1] at hI
    rw [restS_B (hps.trans hI.2), zew, c.round_at hi, if_pos (by omega)]; rfl
  · rename_i e1 e2
    have de1 := zdk (l := c.rounds[i].points) (i := k) (by omega); rw [de1] at hI
    have hr := (restS_B (hps.trans hI.2)).trans (hrs (by omega))
    clear hps hrs hI hB
    rw [hr]
    clear hr
    refine DS.loopK [1, 2, 48, 49] (by (simp only [go_sem, Nat.reduceEqDiff, ↓reduceIte]; exact rfl)) (fun (k : Nat) => [(50, I k)]) (fun (k : Nat) => k ≤ c.rounds[i].rulings.length ∧ zdx c i c.rounds[i].rulings = zdx c i (c.rounds[i].rulings.drop k)) (fun (k : Nat) => c.rounds[i].rulings.length - k) 0 yS ⟨Nat.zero_le _, rfl⟩ (fun k B hI hB => ?_); try dsimp only at hI hB; simp only [zap, zar]
    repeat' (first | (with_reducible first | refine DS.fltS yU yU yE ?_ | refine DS.opsNil ?_ | refine DS.seq ?_ | refine DS.regionL ?_ | (refine DS.cE yE ?_; first | refine CG.np (fun _ => ?_) (fun _ => ?_) | refine CG.p (fun _ => ?_) (fun _ => ?_) | refine CG.nb (fun _ => ?_) (fun _ => ?_)) | refine DS.blk ?_ | refine DS.block ?_ | refine DS.exit yU ?_ | refine DS.skip ?_) | (refine DS.letF (t := 10) yU yE yU (fun _ => by (simp (disch := omega) only [go_sem, dopV, Option.map_some, Option.map_none, Option.bind_some, Option.bind_none, ↓reduceIte, Nat.reduceEqDiff, Nat.reduceLT, Nat.reduceLeDiff, Nat.reduceAdd, Nat.reduceMul, Nat.reduceSub, Nat.zero_add, Nat.add_zero, Nat.zero_le, Nat.zero_mul, Nat.mul_one, Nat.one_mul, Int.natCast_zero, Int.toNat_zero, Int.reduceToNat, Int.reduceLT, Int.reduceLE, Int.reduceEq, decide_true, decide_false, true_and, and_true, Bool.and_self, Bool.and_true, Bool.true_and, Bool.not_true, Bool.not_false, IntWalk.toNatUp, IntWalk.iteOmega, IntWalk.i64_in, Option.isSome_some, not_true_eq_false, not_false_eq_true, Option.getD_some, Option.getD_none, Int.toNat_natCast, List.length_map, List.getElem?_map, List.getElem?_eq_getElem, V.flat, V.one, List.all_cons, List.all_nil, *]; exact rfl)) yE yU (by exact ⟨by with_unfolding_all rfl, by with_unfolding_all decide⟩) (fun _ => by simp only [go_sem, Nat.reduceEqDiff, ↓reduceIte]) ?_; simp only [go_sem]) | refine DS.pcS inferInstance (zlo _ _ _) yR yT ?_ | refine DS.pcS inferInstance (zqt c _ h1 h2 h3) yR yT ?_ | refine DS.pcS inferInstance (played_pc c hs _ _) yR yT ?_ | refine DS.retT [] yE trivial ?_ | fail)
    · rename_i e1 e2 e3
      obtain ⟨_, r, dr1, rfl, dr3⟩ := zcg (l := c.rounds[i].rulings) (i := k) (by omega); rw [dr1] at hI
      rw [hI.2, zdx, if_pos (by omega)]; rfl
    · rename_i e1 e2 e3 e4
      obtain ⟨_, r, dr1, rfl, dr3⟩ := zcg (l := c.rounds[i].rulings) (i := k) (by omega); rw [dr1] at hI
      rw [hI.2, zdx, if_neg (by omega), if_pos e4]; rfl
    · rename_i e1 e2 e3 e4 e5
      obtain ⟨_, r, dr1, rfl, dr3⟩ := zcg (l := c.rounds[i].rulings) (i := k) (by omega); rw [dr1] at hI
      rw [hI.2, zdx, if_neg (by omega), if_neg (by simp [e4]), if_pos e5]; rfl
    · rename_i e1 e2 e3 e4 e5
      obtain ⟨_, r, dr1, rfl, dr3⟩ := zcg (l := c.rounds[i].rulings) (i := k) (by omega); rw [dr1] at hI
      exact DS.back (hB (k + 1) _ _ (by omega) (⟨by omega, by rw [hI.2, dr3, zdx, if_neg (by omega), if_neg (by simp [e4]), if_neg (by omega)]⟩) yS yS (fun b o e => by first | exact e | (simp only [zab]; split <;> simp_all)))
    · rename_i e1 e2
      have de1 := zdk (l := c.rounds[i].rulings) (i := k) (by omega); rw [de1] at hI
      rw [hI.2]; rfl
theorem indexFuncI_rc (S : Sto) (l : List Int) {g : FuncId} {fs cs : List V} {fn : Func} (p : Int → Bool) (hf : FnOk Try.prog g fn) (h : ∀ x, RC Try.prog g (fs ++ [I x] ++ cs) S (Bo (p x))) :
    RC Try.prog 135 [ints l, .fn g fs cs] S (I (idxF p l 0)) := by
  refine DC.of_run Try.func135 rfl Try.ntmps135 Try.results135 (by simp) (fun _ => ?_); simp only [zaq, zas, go_sem, Nat.zero_add, Nat.reduceAdd]
  refine DS.bnd (t := 0) yG (.inl rfl) (fun hb0 => ?_); simp only [List.length_map] at hb0
  repeat' (first | (with_reducible first | refine DS.fltS yU yU yE ?_ | refine DS.opsNil ?_ | refine DS.seq ?_ | refine DS.regionL ?_ | refine DS.block ?_) | fail)
  refine DS.loopK [0, 1, 7] (by (simp only [go_sem, Nat.reduceEqDiff, ↓reduceIte]; exact rfl)) (fun (i : Nat) => [(8, I i)]) (fun (i : Nat) => i ≤ l.length ∧ idxF p l 0 = idxF p (l.drop i) i) (fun (i : Nat) => l.length - i) 0 yS ⟨Nat.zero_le _, rfl⟩ (fun i B hI hB => ?_); try dsimp only at hI hB; simp only [zap, zar]
  repeat' (first | (with_reducible first | refine DS.fltS yU yU yE ?_ | refine DS.opsNil ?_ | refine DS.seq ?_ | refine DS.regionL ?_ | (refine DS.cE yE ?_; refine CG.p (fun _ => ?_) (fun _ => ?_)) | refine DS.block ?_ | refine DS.exit yU ?_ | refine DS.skip ?_) | refine DS.retA yE ⟨?_, rfl⟩ | fail)
  · refine DS.rcVS hf (by simp (disch := omega) only [go_sem, dopV, Option.map_some, Option.map_none, Option.bind_some, Option.bind_none, ↓reduceIte, Nat.reduceEqDiff, Nat.reduceLT, Nat.reduceLeDiff, Nat.reduceAdd, Nat.reduceMul, Nat.reduceSub, Nat.zero_add, Nat.add_zero, Nat.zero_le, Nat.zero_mul, Nat.mul_one, Nat.one_mul, Int.natCast_zero, Int.toNat_zero, Int.reduceToNat, Int.reduceLT, Int.reduceLE, Int.reduceEq, decide_true, decide_false, true_and, and_true, Bool.and_self, Bool.and_true, Bool.true_and, Bool.not_true, Bool.not_false, IntWalk.toNatUp, IntWalk.iteOmega, IntWalk.i64_in, Option.isSome_some, not_true_eq_false, not_false_eq_true, Option.getD_some, Option.getD_none, Int.toNat_natCast, List.length_map, List.getElem?_map, List.getElem?_eq_getElem, V.flat, V.one, List.all_cons, List.all_nil]) (h l[i]) yR yH ?_
    repeat' (first | (with_reducible first | refine DS.fltS yU yU yE ?_ | refine DS.opsNil ?_ | refine DS.seq ?_ | refine DS.regionL ?_ | (refine DS.cE yE ?_; refine CG.b (fun _ => ?_) (fun _ => ?_)) | refine DS.blk ?_ | refine DS.skip ?_) | refine DS.retA yE ⟨?_, rfl⟩ | fail)
    · rename_i h1 h2
      rw [hI.2, zjf (p := p) (l := l) (i := i) (by omega) h2]; rfl
    · rename_i h1 h2
      exact DS.back (hB (i + 1) _ _ (by omega) (⟨by omega, by rw [hI.2, zhm (by omega) h2]⟩) yS yS (fun b o e => by first | exact e | (simp only [zab]; split <;> simp_all)))
  · rw [hI.2, zjg (p := p) (l := l) (i := i) (by omega)]; rfl
theorem containsFunc_rc (S : Sto) (l : List Int) {g : FuncId} {fs cs : List V} {fn : Func} (p : Int → Bool) (hf : FnOk Try.prog g fn) (h : ∀ x, RC Try.prog g (fs ++ [I x] ++ cs) S (Bo (p x))) :
    RC Try.prog 115 [ints l, .fn g fs cs] S (Bo (l.any p)) := by
  refine DC.of_run Try.func115 rfl Try.ntmps115 Try.results115 (by simp) (fun _ => ?_); simp only [zaq, zas, go_sem, Nat.zero_add, Nat.reduceAdd]
  repeat' (first | (with_reducible first | refine DS.fltS yU yU yE ?_ | refine DS.opsNil ?_ | refine DS.seq ?_ | refine DS.regionL ?_) | refine DS.rcS inferInstance (indexFuncI_rc S l p hf h) yR yT ?_ | refine DS.retA yE ⟨?_, rfl⟩ | fail)
  rw [zei, zks]
abbrev GR.Int (g : GR) (l : List Int) : Prop := g.l = l.map cI
theorem zlp : ∀ l : List Int, (l.map cI).flatten = l.map fun x => I x
  | [] => rfl
  | x :: r => by rw [List.map_cons, List.flatten_cons, zlp r]; rfl
theorem yX9 {p : Prop} (h : p := by (simp (disch := omega) only [go_sem, dopV, Option.map_some, Option.map_none, Option.bind_some, Option.bind_none, ↓reduceIte, Nat.reduceEqDiff, Nat.reduceLT, Nat.reduceLeDiff, Nat.reduceAdd, Nat.reduceMul, Nat.reduceSub, Nat.zero_add, Nat.add_zero, Nat.zero_le, Nat.zero_mul, Nat.mul_one, Nat.one_mul, Int.natCast_zero, Int.toNat_zero, Int.reduceToNat, Int.reduceLT, Int.reduceLE, Int.reduceEq, decide_true, decide_false, true_and, and_true, Bool.and_self, Bool.and_true, Bool.true_and, Bool.not_true, Bool.not_false, IntWalk.toNatUp, IntWalk.iteOmega, IntWalk.i64_in, Option.isSome_some, not_true_eq_false, not_false_eq_true, Option.getD_some, Option.getD_none, Int.toNat_natCast, List.length_map, List.getElem?_map, List.getElem?_eq_getElem, V.flat, V.one, List.all_cons, List.all_nil, *, zou]; exact rfl)) : p := h
theorem index_rc (S : Sto) (g : GR) (l : List Int) (n : Int) (ok : g.Ok 3 1 S) (hg : g.l = l.map cI) : RC Try.prog 108 [g.cell.peek, I n] S (I (idxF (fun x => decide (x = n)) l 0)) := by
  obtain ⟨gl, blk⟩ := g
  dsimp only at hg
  subst hg
  cases blk with
  | none =>
    simp only [GR.Ok, List.map_eq_nil_iff] at ok
    subst ok
    simp only [GR.cell, zpt]
    refine DC.of_run Try.func108 rfl Try.ntmps108 Try.results108 (by simp) (fun _ => ?_); simp only [zaq, zas, go_sem, Nat.zero_add, Nat.reduceAdd]
    repeat' (first | (with_reducible first | refine DS.fltS yU yU yE ?_ | refine DS.opsNil ?_ | refine DS.seq ?_ | refine DS.regionL ?_ | refine DS.block ?_) | fail)
    refine DS.loopK [0, 1, 7] (by (simp only [go_sem, Nat.reduceEqDiff, ↓reduceIte]; exact rfl)) (fun (i : Nat) => [(8, I 0)]) (fun (i : Nat) => True) (fun (i : Nat) => i) 0 yS trivial (fun i B hI hB => ?_); try dsimp only at hI hB; simp only [zap, zar]
    repeat' (first | (with_reducible first | refine DS.fltS yU yU yE ?_ | refine DS.opsNil ?_ | refine DS.seq ?_ | refine DS.regionL ?_ | (refine DS.cE yE ?_; refine CG.no ?_) | refine DS.exit yU ?_) | refine DS.retA yE ⟨?_, rfl⟩ | fail)
    rfl
  | some x =>
    obtain ⟨b, cap, j⟩ := x
    have k1 := ok.look
    have k2 := ok.le
    have k3 := ok.cap
    have hfl := zlp l
    rw [hfl] at k1
    clear hfl ok
    simp only [List.length_map] at k2
    simp only [maxLen] at k3
    simp only [GR.cell, zjd, List.length_map]
    refine DC.of_run Try.func108 rfl Try.ntmps108 Try.results108 (by simp) (fun _ => ?_); simp only [zaq, zas, go_sem, Nat.zero_add, Nat.reduceAdd]
    repeat' (first | (with_reducible first | refine DS.fltS yU yU yE ?_ | refine DS.opsNil ?_ | refine DS.seq ?_ | refine DS.regionL ?_ | refine DS.block ?_) | fail)
    refine DS.loopK [0, 1, 7] (by (simp only [go_sem, Nat.reduceEqDiff, ↓reduceIte]; exact rfl)) (fun (i : Nat) => [(8, I i)]) (fun (i : Nat) => i ≤ l.length ∧ idxF (fun x => decide (x = n)) l 0 = idxF (fun x => decide (x = n)) (l.drop i) i) (fun (i : Nat) => l.length - i) 0 yS ⟨Nat.zero_le _, rfl⟩ (fun i B hI hB => ?_); try dsimp only at hI hB; simp only [zap, zar]
    repeat' (first | (with_reducible first | refine DS.fltS yU yU yX9 ?_ | refine DS.opsNil ?_ | refine DS.seq ?_ | refine DS.regionL ?_) | (with_reducible refine DS.cE yX9 ?_; with_reducible refine CG.p (fun _ => ?_) (fun _ => ?_)) | (with_reducible first | refine DS.blk ?_ | refine DS.block ?_ | refine DS.exit yU ?_ | refine DS.skip ?_) | refine DS.retA yX9 ⟨?_, rfl⟩ | fail)
    · rename_i q1 q2
      rw [hI.2, zjf (p := fun x => decide (x = n)) (l := l) (i := i) (by omega) (decide_eq_true q2.symm)]; rfl
    · rename_i q1 q2
      exact DS.back (hB (i + 1) _ _ (by omega) (⟨by omega, by rw [hI.2, zhm (p := fun x => decide (x = n)) (l := l) (i := i) (by omega) (by simpa using fun h => q2 h.symm)]⟩) yS yS (fun b o e => by first | exact e | (simp only [zab]; split <;> simp_all)))
    · rename_i q1
      rw [hI.2, zjg (p := fun x => decide (x = n)) (l := l) (i := i) (by omega)]; rfl
theorem contains_rc (S : Sto) (g : GR) (l : List Int) (n : Int) (ok : g.Ok 3 1 S) (hg : g.l = l.map cI) : RC Try.prog 117 [g.cell.peek, I n] S (Bo (decide (n ∈ l))) := by
  have h := index_rc S g l n ok hg
  clear ok hg
  obtain ⟨gl, blk⟩ := g
  cases blk with
  | none =>
    simp only [GR.cell, zpt] at h ⊢
    refine DC.of_run Try.func117 rfl Try.ntmps117 Try.results117 (by simp) (fun _ => ?_); simp only [zaq, zas, go_sem, Nat.zero_add, Nat.reduceAdd]
    repeat' (first | (with_reducible first | refine DS.fltS yU yU yE ?_ | refine DS.opsNil ?_ | refine DS.seq ?_ | refine DS.regionL ?_) | refine DS.rcS inferInstance (h) yR yT ?_ | refine DS.retA yE ⟨?_, rfl⟩ | fail)
    rw [zei, zks]
    simp [List.any_eq]
  | some x =>
    obtain ⟨b, cap, j⟩ := x
    simp only [GR.cell, zjd] at h ⊢
    refine DC.of_run Try.func117 rfl Try.ntmps117 Try.results117 (by simp) (fun _ => ?_); simp only [zaq, zas, go_sem, Nat.zero_add, Nat.reduceAdd]
    repeat' (first | (with_reducible first | refine DS.fltS yU yU yE ?_ | refine DS.opsNil ?_ | refine DS.seq ?_ | refine DS.regionL ?_) | refine DS.rcS inferInstance (h) yR yT ?_ | refine DS.retA yE ⟨?_, rfl⟩ | fail)
    rw [zei, zks]
    simp [List.any_eq]
end Go.XL
namespace Go.XL
open Go.Proofs
set_option maxRecDepth 100000
set_option maxHeartbeats 8000000
theorem cI_ne (l : List Int) : ∀ c ∈ l.map cI, c ≠ [] := fun c hc => by
  obtain ⟨x, _, rfl⟩ := List.mem_map.1 hc; simp [cI]
theorem cloneI_pc (l : List Int) (hl : l.length ≤ 2147483647) : PC Try.prog 102 [ints l] (.own false 3 1 (l.map cI)) := by
  refine DC.of_run Try.func102 rfl Try.ntmps102 Try.results102 (by simp) (fun _ => ?_); simp only [zaq, zas, go_sem, Nat.zero_add, Nat.reduceAdd]
  repeat' (first | (with_reducible first | (refine DS.nilOwn (t := 2) yU (by first | exact .inl rfl | exact .inr rfl) yE ?_) | refine DS.fltS yU yU yE ?_ | refine DS.opsNil ?_ | refine DS.seq ?_ | refine DS.regionL ?_) | fail)
  refine DS.eqNil yR yU yG yR (cI_ne l) (fun b hb => ?_)
  cases b with
  | true =>
    have hb := hb rfl
    simp only [List.map_eq_nil_iff] at hb
    subst hb
    repeat' (first | (with_reducible first | (refine DS.nilOwn (t := 2) yU (by first | exact .inl rfl | exact .inr rfl) yE ?_) | refine DS.opsNil ?_ | refine DS.seq ?_ | refine DS.regionL ?_ | (refine DS.cE yE ?_; refine CG.yes ?_)) | refine DS.retT [] yE trivial ?_ | fail)
    rfl
  | false =>
    clear hb
    repeat' (first | (with_reducible refine DS.mv (t := 2) yU (by first | exact .inl rfl | exact .inr rfl) yE ?_; simp only [zal, zac, zae, Nat.reduceEqDiff, ↓reduceIte, zag, zah, zao, zaf, zaj, zam, zai]) | (with_reducible first | refine DS.fltS yU yU yE ?_ | refine DS.opsNil ?_ | refine DS.seq ?_ | refine DS.regionL ?_ | (refine DS.cE yE ?_; refine CG.no ?_) | refine DS.skip ?_) | (refine DS.bsl yU yE yE ?_; simp only [go_sem, Nat.zero_add, Nat.reduceAdd]) | (refine DS.append (mm := false) yU yE yE yU (by decide) yE (by first | exact .inl rfl | exact .inr ⟨rfl, rfl⟩) yE yX0 (by first | exact zan zcw _ | exact zan zdg _ | exact zan Member.len _ | exact zan Sitting.len _ | exact zan Ruling.len _ | (simp only [List.mem_cons, List.not_mem_nil, or_false, forall_eq]; rfl) | simp) ⟨by (try simp only [List.length_map, List.length_cons, List.length_nil, List.length_append, List.length_take, List.length_drop]); omega, by decide⟩ ?_; simp only [zal, zac, zae, Nat.reduceEqDiff, ↓reduceIte, zag, zah, zao, zaf, zaj, zam, zai]) | refine DS.retT [] yE trivial ?_ | fail)
    rfl
theorem cloneI_dc (l : List Int) (hl : l.length ≤ 2147483647) (hl0 : l ≠ []) : DC Try.prog 102 [ints l] [] (fun u S' => ∃ g : GR, u = g.cell ∧ g.Ok 3 1 S' ∧ g.l = l.map cI) := by
  refine DC.of_run Try.func102 rfl Try.ntmps102 Try.results102 (by simp) (fun _ => ?_); simp only [zaq, zas, go_sem, Nat.zero_add, Nat.reduceAdd]
  repeat' (first | (with_reducible first | refine DS.fltS yU yU yE ?_ | refine DS.opsNil ?_ | refine DS.seq ?_ | refine DS.regionL ?_) | fail)
  refine DS.eqNil yR yU yG yR (cI_ne l) (fun b hb => ?_)
  cases b with
  | true =>
    have hb := hb rfl
    simp only [List.map_eq_nil_iff] at hb
    exact absurd hb hl0
  | false =>
    clear hb
    repeat' (first | (with_reducible first | refine DS.opsNil ?_ | refine DS.seq ?_ | refine DS.regionL ?_ | (refine DS.cE yE ?_; refine CG.no ?_) | refine DS.skip ?_) | fail)
    refine DS.bslO yR yG yG (fun b hb => ?_)
    repeat' (first | with_reducible refine DS.fltS yU yU yE ?_ | fail)
    have G : GR.Ok 3 1 [(b, .cells [] 3)] ⟨[], some (b, 0, [])⟩ := ⟨by simp [zaa], rfl, Nat.le_refl _, Nat.zero_le _, by simp, by simp, by simp⟩
    have hlp : 0 < l.length := List.length_pos_iff.2 hl0
    refine DS.step rfl rfl yR (OpS.appG (g := ⟨[], some (b, 0, [])⟩) (ml := l.map cI) rfl yH yH yR yR (by decide) yH G yH yH (by rw [List.length_map]; omega) (by intro x hx; obtain ⟨y, -, rfl⟩ := List.mem_map.1 hx; rfl) ⟨by simp only [List.length_map, List.length_nil]; omega, by decide⟩) (fun u2 E' S4 hu2 => ?_)
    obtain ⟨rfl, b', cap', junk', rfl, m1, m2, m3⟩ := hu2
    simp only [GR.cell_some, zcz]
    repeat' (first | (with_reducible first | refine DS.fltS yU yU yE ?_ | refine DS.opsNil ?_) | fail)
    refine DS.retA yG ⟨⟨l.map cI, some (b', cap', junk')⟩, by simp [GR.cell, tupV], ?_, rfl⟩
    have hml : [] ++ (l.map cI).map (·.map V.copy) = l.map cI := by rw [List.nil_append, List.map_map]; rfl
    rw [hml] at m1
    exact m1
theorem indexFuncG_rc (S : Sto) (l : List Int) {b cap : Nat} {j : List V} {T : TypeId} (hS : zaa S b = some (.cells ((l.map fun x => I x) ++ j) T)) (hc : l.length ≤ cap ∧ cap ≤ maxLen) {g : FuncId} {fs cs : List V} {fn : Func} (p : Int → Bool) (hf : FnOk Try.prog g fn) (h : ∀ x ∈ l, PC Try.prog g (fs ++ [I x] ++ cs) (Bo (p x))) :
    RC Try.prog 135 [.v (.slice (some ⟨b, 0, none⟩) l.length cap), .fn g fs cs] S (I (idxF p l 0)) := by
  have k3 := hc.2
  have k2 := hc.1
  simp only [maxLen] at k3
  clear hc
  refine DC.of_run Try.func135 rfl Try.ntmps135 Try.results135 (by simp) (fun _ => ?_); simp only [zaq, zas, go_sem, Nat.zero_add, Nat.reduceAdd]
  repeat' (first | (with_reducible first | refine DS.fltS yU yU yE ?_ | refine DS.opsNil ?_ | refine DS.seq ?_ | refine DS.regionL ?_ | refine DS.block ?_) | fail)
  refine DS.loopK [0, 1, 7] (by (simp only [go_sem, Nat.reduceEqDiff, ↓reduceIte]; exact rfl)) (fun (i : Nat) => [(8, I i)]) (fun (i : Nat) => i ≤ l.length ∧ idxF p l 0 = idxF p (l.drop i) i) (fun (i : Nat) => l.length - i) 0 yS ⟨Nat.zero_le _, rfl⟩ (fun i B hI hB => ?_); try dsimp only at hI hB; simp only [zap, zar]
  repeat' (first | (with_reducible first | refine DS.fltS yU yU yX9 ?_ | refine DS.opsNil ?_ | refine DS.seq ?_ | refine DS.regionL ?_) | (with_reducible refine DS.cE yX9 ?_; with_reducible refine CG.p (fun _ => ?_) (fun _ => ?_)) | (with_reducible first | refine DS.block ?_ | refine DS.exit yU ?_ | refine DS.skip ?_) | refine DS.retA yX9 ⟨?_, rfl⟩ | fail)
  · refine DS.pcVS hf (by simp (disch := omega) only [go_sem, dopV, Option.map_some, Option.map_none, Option.bind_some, Option.bind_none, ↓reduceIte, Nat.reduceEqDiff, Nat.reduceLT, Nat.reduceLeDiff, Nat.reduceAdd, Nat.reduceMul, Nat.reduceSub, Nat.zero_add, Nat.add_zero, Nat.zero_le, Nat.zero_mul, Nat.mul_one, Nat.one_mul, Int.natCast_zero, Int.toNat_zero, Int.reduceToNat, Int.reduceLT, Int.reduceLE, Int.reduceEq, decide_true, decide_false, true_and, and_true, Bool.and_self, Bool.and_true, Bool.true_and, Bool.not_true, Bool.not_false, IntWalk.toNatUp, IntWalk.iteOmega, IntWalk.i64_in, Option.isSome_some, not_true_eq_false, not_false_eq_true, Option.getD_some, Option.getD_none, Int.toNat_natCast, List.length_map, List.getElem?_map, List.getElem?_eq_getElem, V.flat, V.one, List.all_cons, List.all_nil]) (h l[i] (List.getElem_mem _)) yR yH ?_
    repeat' (first | (with_reducible first | refine DS.fltS yU yU yE ?_ | refine DS.opsNil ?_ | refine DS.seq ?_ | refine DS.regionL ?_ | (refine DS.cE yE ?_; refine CG.b (fun _ => ?_) (fun _ => ?_)) | refine DS.blk ?_ | refine DS.skip ?_) | refine DS.retA yE ⟨?_, rfl⟩ | fail)
    · rename_i h1 h2
      rw [hI.2, zjf (p := p) (l := l) (i := i) (by omega) h2]; rfl
    · rename_i h1 h2
      exact DS.back (hB (i + 1) _ _ (by omega) (⟨by omega, by rw [hI.2, zhm (by omega) h2]⟩) yS yS (fun b o e => by first | exact e | (simp only [zab]; split <;> simp_all)))
  · rw [hI.2, zjg (p := p) (l := l) (i := i) (by omega)]; rfl
theorem zul {p : Int → Bool} : ∀ (l : List Int) (s : Nat), (idxF p l s = -1 ∧ l.filter (fun x => !p x) = l) ∨ ∃ i : Nat, idxF p l s = (s + i : Nat) ∧ i < l.length ∧ l.take i = (l.take (i + 1)).filter (fun x => !p x)
  | [], s => .inl ⟨rfl, rfl⟩
  | x :: r, s => by
    simp only [idxF]
    by_cases hx : p x = true
    · rw [if_pos hx]
      exact .inr ⟨0, by simp, by simp, by simp [hx]⟩
    · rw [if_neg hx]
      rcases zul r (s + 1) with ⟨h1, h2⟩ | ⟨i, h1, h2, h3⟩
      · exact .inl ⟨h1, by simp [hx, h2]⟩
      · refine .inr ⟨i + 1, by rw [h1]; congr 1; omega, by simp; omega, ?_⟩
        rw [List.take_succ_cons, List.take_succ_cons, List.filter_cons, if_pos (by simpa using hx), ← h3]
structure DelI (p : Int → Bool) (l m : List Int) (i j : Nat) : Prop where
  ij : i < j
  jl : j ≤ l.length
  len : m.length = l.length
  keep : m.take i = (l.take j).filter (fun x => !p x)
  rest : m.drop j = l.drop j
theorem znw (l : List Int) (k : Nat) (r : List V) (hk : k ≤ l.length) : chunk 1 k ((l.map fun x => I x) ++ r) = (l.take k).map cI := by
  induction k generalizing l with
  | zero => simp [chunk]
  | succ k ih =>
    cases l with
    | nil => simp at hk
    | cons x l =>
      simp only [List.length_cons] at hk
      simp only [chunk, List.map_cons, List.cons_append, List.take_succ_cons, List.take_zero, List.drop_succ_cons, List.drop_zero, ih l (by omega)]
      rfl
theorem deleteFunc_dc (l : List Int) (gr : GR) (S : Sto) (ok : gr.Ok 3 1 S) (hl0 : l ≠ []) (hg : gr.l = l.map cI) {g : FuncId} {fs cs : List V} {fn : Func} (p : Int → Bool) (hf : FnOk Try.prog g fn) (h : ∀ x ∈ l, PC Try.prog g (fs ++ [I x] ++ cs) (Bo (p x))) :
    DC Try.prog 121 [gr.cell.peek, .fn g fs cs] S (fun u S' => u = ints (l.filter fun x => !p x)) := by
  obtain ⟨gl, blk⟩ := gr
  dsimp only at hg
  subst hg
  cases blk with
  | none =>
    simp only [GR.Ok, List.map_eq_nil_iff] at ok
    exact absurd ok hl0
  | some x =>
    obtain ⟨b, cap, j⟩ := x
    have k1 := ok.look
    have k2 := ok.le
    have k3 := ok.cap
    have k4 := ok.len
    have hfl := zlp l
    rw [hfl] at k1
    clear hfl ok
    simp only [List.length_map, Nat.mul_one] at k2 k4
    simp only [GR.cell, zjd, List.length_map]
    have hix := indexFuncG_rc S l k1 ⟨k2, k3⟩ p hf h
    simp only [maxLen] at k3
    have hpre := zul (p := p) l 0
    rcases hpre with ⟨e1, e2⟩ | ⟨i0, e1, e2, e3⟩
    · rw [e1] at hix
      rw [e2]
      clear e1 e2
      refine DC.of_run Try.func121 rfl Try.ntmps121 Try.results121 (by simp) (fun _ => ?_); simp only [zaq, zas, go_sem, Nat.zero_add, Nat.reduceAdd]
      repeat' (first | (with_reducible first | refine DS.fltS yU yU yE ?_ | refine DS.opsNil ?_ | refine DS.seq ?_ | refine DS.regionL ?_ | (refine DS.cE yE ?_; refine CG.yes ?_)) | refine DS.rcS inferInstance (hix) yR yT ?_ | fail)
      refine DS.freeze (t := 4) (sz := 1) yR k1 (by simp) ⟨k2, by simp only [maxLen]; exact k3⟩ ?_
      refine DS.retT [] yG trivial ?_
      rw [zei, List.map_append, List.map_map, show (V.copy ∘ fun x => I x) = (fun x => I x) from rfl, znw l _ _ (Nat.le_refl _), List.take_length]
    · rw [Nat.zero_add] at e1
      rw [e1] at hix
      have D0 : DelI p l l i0 (i0 + 1) := ⟨by omega, by omega, rfl, e3, rfl⟩
      clear e1 e3
      refine DC.of_run Try.func121 rfl Try.ntmps121 Try.results121 (by simp) (fun _ => ?_); simp only [zaq, zas, go_sem, Nat.zero_add, Nat.reduceAdd]
      repeat' (first | (with_reducible first | refine DS.fltS yU yU yE ?_ | refine DS.opsNil ?_ | refine DS.seq ?_ | refine DS.regionL ?_ | (refine DS.cE yE ?_; refine CG.p (fun _ => ?_) (fun _ => ?_)) | refine DS.block ?_ | refine DS.skip ?_) | refine DS.rcS inferInstance (hix) yR yT ?_ | fail)
      all_goals first | (exfalso; omega) | skip
      rename_i e4
      clear hix
      refine DS.loopS [0, 1] (by (simp only [go_sem, Nat.reduceEqDiff, ↓reduceIte]; exact rfl)) (fun (x : Nat × Nat × List Int × Sto) => [(5, I x.1), (6, I x.2.1)]) (fun (x : Nat × Nat × List Int × Sto) => x.2.2.2) (fun (x : Nat × Nat × List Int × Sto) => DelI p l x.2.2.1 x.1 x.2.1 ∧ zaa x.2.2.2 b = some (.cells ((x.2.2.1.map fun x => I x) ++ j) 3)) (fun (x : Nat × Nat × List Int × Sto) => l.length - x.2.1) (i0, i0 + 1, l, S) yS (fun b o e => by exact e) ⟨D0, k1⟩ (fun x B hI hB => ?_); try dsimp only at hI hB; simp only [zap, zar]
      obtain ⟨a, c, m, S1⟩ := x
      dsimp only at hI hB
      obtain ⟨D, g2⟩ := hI
      have d1 := D.ij
      have d2 := D.jl
      have d3 := D.len
      have hcc : c < l.length → ∃ h1 : c < m.length, ∃ h2 : c < l.length, m[c] = l[c] := fun hc => by
        have h1 : c < m.length := by omega
        refine ⟨h1, hc, ?_⟩
        have := D.rest
        rw [List.drop_eq_getElem_cons h1, List.drop_eq_getElem_cons hc] at this
        exact (List.cons.inj this).1
      repeat' (first | (with_reducible first | refine DS.fltS yU yU yX9 ?_ | refine DS.opsNil ?_ | refine DS.seq ?_ | refine DS.regionL ?_) | (with_reducible refine DS.cE yX9 ?_; with_reducible refine CG.p (fun _ => ?_) (fun _ => ?_)) | (with_reducible first | refine DS.block ?_ | refine DS.exit yU ?_ | refine DS.skip ?_) | fail)
      · rename_i e5
        obtain ⟨h1, h2, h3⟩ := hcc (by omega)
        have hpx := h l[c] (List.getElem_mem h2)
        rw [← h3] at hpx
        refine DS.pcVS hf (by simp (disch := omega) only [go_sem, dopV, Option.map_some, Option.map_none, Option.bind_some, Option.bind_none, ↓reduceIte, Nat.reduceEqDiff, Nat.reduceLT, Nat.reduceLeDiff, Nat.reduceAdd, Nat.reduceMul, Nat.reduceSub, Nat.zero_add, Nat.add_zero, Nat.zero_le, Nat.zero_mul, Nat.mul_one, Nat.one_mul, Int.natCast_zero, Int.toNat_zero, Int.reduceToNat, Int.reduceLT, Int.reduceLE, Int.reduceEq, decide_true, decide_false, true_and, and_true, Bool.and_self, Bool.and_true, Bool.true_and, Bool.not_true, Bool.not_false, IntWalk.toNatUp, IntWalk.iteOmega, IntWalk.i64_in, Option.isSome_some, not_true_eq_false, not_false_eq_true, Option.getD_some, Option.getD_none, Int.toNat_natCast, List.length_map, List.getElem?_map, List.getElem?_eq_getElem, V.flat, V.one, List.all_cons, List.all_nil]) hpx yR yH ?_
        repeat' (first | (with_reducible first | refine DS.fltS yU yU yE ?_ | refine DS.opsNil ?_ | refine DS.seq ?_ | refine DS.regionL ?_ | (refine DS.cE yE ?_; refine CG.nb (fun _ => ?_) (fun _ => ?_)) | refine DS.blk ?_ | refine DS.skip ?_) | (refine DS.store yR yE yE yE yE yU (by exact ⟨by with_unfolding_all rfl, by (try simp only [List.length_map, List.length_append, List.length_set, List.length_replicate, List.length_cons, List.length_nil]); omega⟩) ?_; simp only [zbu, zaw, zbd, zcf, zbq, zbn, zbr]; try simp only [zal, zac, zae, Nat.reduceEqDiff, ↓reduceIte, zag, zah, zao, zaf, zaj, zam, zai]) | fail)
        · rename_i e6
          have hai : a < m.length := by omega
          have hset : ((m.map fun x => I x) ++ j).set a (.v (.int .i64 l[c])) = ((m.set a l[c]).map fun x => I x) ++ j := by
            rw [List.set_append_left _ _ (by simpa using hai), List.map_set]
          refine DS.reS (S' := setS b (.cells (((m.set a l[c]).map fun x => I x) ++ j) 3) S1) (fun b' o e => by rw [← hset] at e; exact e) ?_
          have g3 : zaa (setS b (.cells (((m.set a l[c]).map fun x => I x) ++ j) 3) S1) b = some (.cells (((m.set a l[c]).map fun x => I x) ++ j) 3) := by rw [zba g2, if_pos rfl]
          have D2 : DelI p l (m.set a l[c]) (a + 1) (c + 1) := by
            refine ⟨by omega, by omega, by rw [List.length_set]; exact D.len, ?_, ?_⟩
            · rw [List.take_succ_eq_append_getElem (by rw [List.length_set]; omega), List.take_set_of_le (Nat.le_refl _), D.keep, List.getElem_set_self, List.take_succ_eq_append_getElem h2, List.filter_append]
              simp [e6]
            · rw [List.drop_set_of_lt (by omega)]
              have := D.rest
              rw [List.drop_eq_getElem_cons h1, List.drop_eq_getElem_cons h2] at this
              exact (List.cons.inj this).2
          generalize setS b (.cells (((m.set a l[c]).map fun x => I x) ++ j) 3) S1 = S2 at *
          clear hset hcc
          skip
          refine DS.back (hB (a + 1, c + 1, m.set a l[c], S2) _ _ (by dsimp only; omega) ⟨D2, g3⟩ yS yS (fun b o e => by exact e))
        · rename_i e6
          have D2 : DelI p l m a (c + 1) := by
            refine ⟨by omega, by omega, D.len, ?_, ?_⟩
            · rw [List.take_succ_eq_append_getElem h2, List.filter_append, ← D.keep]
              simp [e6]
            · have := D.rest
              rw [List.drop_eq_getElem_cons h1, List.drop_eq_getElem_cons h2] at this
              exact (List.cons.inj this).2
          clear hcc
          skip
          refine DS.back (hB (a, c + 1, m, S1) _ _ (by dsimp only; omega) ⟨D2, g2⟩ yS yS (fun b o e => by exact e))
      · rename_i e5
        have hc : c = m.length := by omega
        have hkeep := D.keep
        rw [List.take_of_length_le (l := l) (by omega)] at hkeep
        rw [← hkeep]
        clear hcc hkeep
        refine DS.clear (z := .int .i64 0) yU yU yR yR (m := l.length - a) (by omega) yG g2 (by simp only [List.length_append, List.length_map]; omega) ?_
        have hset : setAll ((m.map fun x => I x) ++ j) a (List.replicate (l.length - a) (.v (.int .i64 0))) = ((m.take a).map fun x => I x) ++ (List.replicate (l.length - a) (.v (.int .i64 0)) ++ j) := by
          apply List.ext_getElem?
          intro i
          rw [zfn _ _ _ _ (by simp; omega), List.length_replicate]
          by_cases h1 : i < a
          · rw [if_neg (by omega), List.getElem?_append_left (by simp; omega), List.getElem?_append_left (by simp; omega), List.map_take, List.getElem?_take_of_lt h1]
          · rw [List.getElem?_append_right (l₁ := (m.take a).map fun x => I x) (by simp; omega), List.length_map, List.length_take, Nat.min_eq_left (by omega)]
            by_cases h2 : i < l.length
            · rw [if_pos (by omega), List.getElem?_append_left (by simp; omega)]
            · rw [if_neg (by omega), List.getElem?_append_right (by simp; omega), List.getElem?_append_right (by simp; omega), List.length_map, List.length_replicate]
              congr 1; omega
        refine DS.reS (S' := setS b (.cells (((m.take a).map fun x => I x) ++ (List.replicate (l.length - a) (.v (.int .i64 0)) ++ j)) 3) S1) (fun b' o e => by rw [← hset] at e; exact e) ?_
        have g3 : zaa (setS b (.cells (((m.take a).map fun x => I x) ++ (List.replicate (l.length - a) (.v (.int .i64 0)) ++ j)) 3) S1) b = some (.cells (((m.take a).map fun x => I x) ++ (List.replicate (l.length - a) (.v (.int .i64 0)) ++ j)) 3) := by rw [zba g2, if_pos rfl]
        generalize setS b (.cells (((m.take a).map fun x => I x) ++ (List.replicate (l.length - a) (.v (.int .i64 0)) ++ j)) 3) S1 = S2 at *
        repeat' (first | (with_reducible first | refine DS.fltS yU yU yE ?_ | refine DS.opsNil ?_ | refine DS.seq ?_ | refine DS.regionL ?_) | fail)
        refine DS.freeze (t := 4) (sz := 1) yR g3 (by simp; omega) ⟨by omega, by simp only [maxLen]; exact k3⟩ ?_
        refine DS.retT [] yG trivial ?_
        rw [zei, List.map_append, List.map_map, show (V.copy ∘ fun x => I x) = (fun x => I x) from rfl, znw _ _ _ (by simp; omega), Nat.sub_zero, List.take_take, Nat.min_self]
end Go.XL
namespace Go.XL
open Go.Proofs
set_option maxRecDepth 100000
set_option maxHeartbeats 8000000
theorem zij {α β : Type} (f : α → β) (l : List α) (n : Nat) : (l.map f).take n = (l.take n).map f := by rw [List.map_take]
theorem yX10 {p : Prop} (h : p := by (simp (disch := omega) only [go_sem, dopV, Option.map_some, Option.map_none, Option.bind_some, Option.bind_none, ↓reduceIte, Nat.reduceEqDiff, Nat.reduceLT, Nat.reduceLeDiff, Nat.reduceAdd, Nat.reduceMul, Nat.reduceSub, Nat.zero_add, Nat.add_zero, Nat.zero_le, Nat.zero_mul, Nat.mul_one, Nat.one_mul, Int.natCast_zero, Int.toNat_zero, Int.reduceToNat, Int.reduceLT, Int.reduceLE, Int.reduceEq, decide_true, decide_false, true_and, and_true, Bool.and_self, Bool.and_true, Bool.true_and, Bool.not_true, Bool.not_false, IntWalk.toNatUp, IntWalk.iteOmega, IntWalk.i64_in, Option.isSome_some, not_true_eq_false, not_false_eq_true, Option.getD_some, Option.getD_none, Int.toNat_natCast, List.length_map, List.getElem?_map, List.getElem?_eq_getElem, V.flat, V.one, List.all_cons, List.all_nil, *, List.forall_mem_map, implies_true, zef, zcw, zgd, zij, List.take_length]; exact rfl)) : p := h
theorem yX11 {p : Prop} (h : p := by first | exact rfl | (simp (disch := omega) only [go_sem, dopV, Option.map_some, Option.map_none, Option.bind_some, Option.bind_none, ↓reduceIte, Nat.reduceEqDiff, Nat.reduceLT, Nat.reduceLeDiff, Nat.reduceAdd, Nat.reduceMul, Nat.reduceSub, Nat.zero_add, Nat.add_zero, Nat.zero_le, Nat.zero_mul, Nat.mul_one, Nat.one_mul, Int.natCast_zero, Int.toNat_zero, Int.reduceToNat, Int.reduceLT, Int.reduceLE, Int.reduceEq, decide_true, decide_false, true_and, and_true, Bool.and_self, Bool.and_true, Bool.true_and, Bool.not_true, Bool.not_false, IntWalk.toNatUp, IntWalk.iteOmega, IntWalk.i64_in, Option.isSome_some, not_true_eq_false, not_false_eq_true, Option.getD_some, Option.getD_none, Int.toNat_natCast, List.length_map, List.getElem?_map, List.getElem?_eq_getElem, V.flat, V.one, List.all_cons, List.all_nil, *, List.forall_mem_map, implies_true, zef, zcw, zgd, zij, List.take_length]; exact rfl)) : p := h
theorem yX12 {p : Prop} (h : p := by (simp (disch := omega) only [go_sem, dopV, Option.map_some, Option.map_none, Option.bind_some, Option.bind_none, ↓reduceIte, Nat.reduceEqDiff, Nat.reduceLT, Nat.reduceLeDiff, Nat.reduceAdd, Nat.reduceMul, Nat.reduceSub, Nat.zero_add, Nat.add_zero, Nat.zero_le, Nat.zero_mul, Nat.mul_one, Nat.one_mul, Int.natCast_zero, Int.toNat_zero, Int.reduceToNat, Int.reduceLT, Int.reduceLE, Int.reduceEq, decide_true, decide_false, true_and, and_true, Bool.and_self, Bool.and_true, Bool.true_and, Bool.not_true, Bool.not_false, IntWalk.toNatUp, IntWalk.iteOmega, IntWalk.i64_in, Option.isSome_some, not_true_eq_false, not_false_eq_true, Option.getD_some, Option.getD_none, Int.toNat_natCast, List.length_map, List.getElem?_map, List.getElem?_eq_getElem, V.flat, V.one, List.all_cons, List.all_nil, *, List.forall_mem_map, implies_true, zef, zcw, zgd, zij, List.take_length]; try exact rfl)) : p := h
theorem znd (bs : Nat) (x : Int) (l : List Int) (size : Int) (hs : 3 ≤ size ∧ size ≤ 4) (hl : l.length ≤ 1000000) : SC Try.prog 15 [ptr bs, ints l, I size] bs x (.own false 3 1 ((zcy size x l).1.map cI)) (zcy size x l).2 := by
  unfold SC
  obtain ⟨hs1, hs2⟩ := hs
  refine DC.of_run Try.func15 rfl Try.ntmps15 Try.results15 (by simp) (fun _ => ?_); simp only [zaq, zas, go_sem, Nat.zero_add, Nat.reduceAdd]
  repeat' (first | with_reducible (refine DS.nilOwn (t := 6) yU (by first | exact .inl rfl | exact .inr rfl) yE ?_) | (with_reducible refine DS.mv (t := 7) yU (by first | exact .inl rfl | exact .inr rfl) yE ?_; simp only [zal, zac, zae, Nat.reduceEqDiff, ↓reduceIte, zag, zah, zao, zaf, zaj, zam, zai]) | (with_reducible first | refine DS.fltS yU yU yE ?_ | refine DS.opsNil ?_ | refine DS.seq ?_ | refine DS.regionL ?_ | refine DS.block ?_) | (refine DS.bsl yU yE yE ?_; simp only [go_sem, Nat.zero_add, Nat.reduceAdd]) | (refine DS.append (mm := false) yU yE yE yU (by decide) yE (by first | exact .inl rfl | exact .inr ⟨rfl, rfl⟩) yE yX0 (by first | exact zan zcw _ | exact zan zdg _ | exact zan Member.len _ | exact zan Sitting.len _ | exact zan Ruling.len _ | (simp only [List.mem_cons, List.not_mem_nil, or_false, forall_eq]; rfl) | simp) ⟨by (try simp only [List.length_map, List.length_cons, List.length_nil, List.length_append, List.length_take, List.length_drop]); omega, by decide⟩ ?_; simp only [zal, zac, zae, Nat.reduceEqDiff, ↓reduceIte, zag, zah, zao, zaf, zaj, zam, zai]) | fail)
  refine DS.loopS [0, 2] (by (simp only [go_sem, Nat.reduceEqDiff, ↓reduceIte]; exact rfl)) (fun (y : Nat × Int × List Int) => [(7, .own false 3 1 (y.2.2.map cI))]) (fun (y : Nat × Int × List Int) => [(bs, srcO y.2.1)]) (fun (y : Nat × Int × List Int) => y.2.2.length < y.1 ∧ y.2.2.length ≤ l.length ∧ zcy size x l = znf size y.1 y.2.1 y.2.2) (fun (y : Nat × Int × List Int) => y.2.2.length) (l.length + 1, x, l) yS (fun b o e => by exact e) ⟨Nat.lt_succ_self _, Nat.le_refl _, rfl⟩ (fun y B hI hB => ?_); try dsimp only at hI hB; simp only [zap, zar]
  obtain ⟨n, x1, l1⟩ := y
  dsimp only at hI hB
  obtain ⟨g1, g2, g3⟩ := hI
  have H := Box.mk g3
  clear g3
  obtain ⟨n, rfl⟩ : ∃ n', n = n' + 1 := ⟨n - 1, by omega⟩
  have hb1 := zcr x1 l1.length
  have hb2 := zcr (zad x1) l1.length
  obtain ⟨b1, b2, b3⟩ := hb1
  obtain ⟨b4, b5, b6⟩ := hb2
  by_cases h0 : l1.length = 0
  · have hl0 : l1 = [] := List.eq_nil_of_length_eq_zero h0
    subst hl0
    clear b2 b3 b5 b6
    repeat' (first | (with_reducible refine DS.mv (t := 6) yU (by first | exact .inl rfl | exact .inr rfl) yE ?_; simp only [zal, zac, zae, Nat.reduceEqDiff, ↓reduceIte, zag, zah, zao, zaf, zaj, zam, zai]) | (with_reducible refine DS.mv (t := 40) yU (by first | exact .inl rfl | exact .inr rfl) yE ?_; simp only [zal, zac, zae, Nat.reduceEqDiff, ↓reduceIte, zag, zah, zao, zaf, zaj, zam, zai]) | (with_reducible first | refine DS.fltS yU yU yE ?_ | refine DS.opsNil ?_ | refine DS.seq ?_ | refine DS.regionL ?_ | (refine DS.cE yE ?_; refine CG.no ?_) | (refine DS.gE yU yE ?_; first | refine GG.sU ?_ | refine GG.sF ?_) | refine DS.exit yU ?_) | fail)
    have h := H.out
    simp only [znf, List.length_nil, if_true] at h
    refine DS.retA yG ⟨by rw [h]; rfl, by rw [h]⟩
  · have c2 := b2 (by omega)
    have c5 := b5 (by omega)
    clear b2 b3 b5 b6
    have hmod : ((l1.length : Int)).tmod size = (l1.length : Int) % size := Int.tmod_eq_emod_of_nonneg (by omega)
    have hbl1 := zde bs x1 l1.length (by omega)
    have hbl2 := zde bs (zad x1) l1.length (by omega)
    have hmg : znf size (n + 1) x1 l1 = if (l1.length : Int) % size ≠ 0 then znf size n (zad x1) (l1.take (zak x1 l1.length).toNat ++ l1.drop ((zak x1 l1.length).toNat + 1)) else if zmc x1 9 = true then znf size n (zad (zad x1)) (l1.take (zak (zad x1) l1.length).toNat ++ l1.drop ((zak (zad x1) l1.length).toNat + 1)) else (l1, zad x1) := by
      rw [znf, if_neg h0]
    have H2 := Box.mk (And.intro hmg (And.intro hbl1 hbl2))
    clear hmg hbl1 hbl2
    obtain ⟨i1, hi1⟩ : ∃ i1 : Nat, zak x1 l1.length = i1 := ⟨(zak x1 l1.length).toNat, by omega⟩
    obtain ⟨i2, hi2⟩ : ∃ i2 : Nat, zak (zad x1) l1.length = i2 := ⟨(zak (zad x1) l1.length).toNat, by omega⟩
    repeat' (first | (with_reducible refine DS.mv (t := 6) yU (by first | exact .inl rfl | exact .inr rfl) yE ?_; simp only [zal, zac, zae, Nat.reduceEqDiff, ↓reduceIte, zag, zah, zao, zaf, zaj, zam, zai]) | (with_reducible refine DS.mv (t := 40) yU (by first | exact .inl rfl | exact .inr rfl) yE ?_; simp only [zal, zac, zae, Nat.reduceEqDiff, ↓reduceIte, zag, zah, zao, zaf, zaj, zam, zai]) | (with_reducible first | refine DS.fltS yU yU yE ?_ | refine DS.opsNil ?_ | refine DS.seq ?_ | refine DS.regionL ?_ | (refine DS.cE yE ?_; first | refine CG.yes ?_ | refine CG.no ?_ | refine CG.b (fun _ => ?_) (fun _ => ?_)) | (refine DS.gE yU yE ?_; first | refine GG.sU ?_ | refine GG.npF (fun _ => ?_) (fun _ => ?_) | refine GG.pT (fun _ => ?_) (fun _ => ?_) | refine GG.run ?_ | refine GG.sF ?_ | refine GG.sT ?_) | refine DS.block ?_ | refine DS.exit yU ?_ | refine DS.skip ?_) | (refine DS.scS inferInstance (zjx bs x1 9 (by omega)) yR yT yT ?_; (try simp only [zbj, zbt, ↓reduceIte, *])) | fail)
    · rename_i e1 e2 e3
      have hb := H2.out.2.2
      rw [hi2] at hb
      repeat' (first | (with_reducible refine DS.mv (t := 7) yU (by first | exact .inl rfl | exact .inr rfl) yX10 ?_; simp only [zal, zac, zae, Nat.reduceEqDiff, ↓reduceIte, zag, zah, zao, zaf, zaj, zam, zai]) | (with_reducible first | refine DS.fltS yU yU yX10 ?_ | refine DS.opsNil ?_ | refine DS.blk ?_) | (refine DS.append (mm := false) yU yX10 yX10 yU (by decide) yX10 (by first | exact .inl rfl | exact .inr ⟨rfl, rfl⟩) yX10 yX11 (by first | exact zan zcw _ | exact zan zdg _ | exact zan Member.len _ | exact zan Sitting.len _ | exact zan Ruling.len _ | (simp only [List.mem_cons, List.not_mem_nil, or_false, forall_eq]; rfl) | simp) ⟨by (try simp only [List.length_map, List.length_cons, List.length_nil, List.length_append, List.length_take, List.length_drop]); omega, by decide⟩ ?_; simp only [zal, zac, zae, Nat.reduceEqDiff, ↓reduceIte, zag, zah, zao, zaf, zaj, zam, zai]) | (refine DS.scS inferInstance (hb) yR yX12 yX12 ?_; (try simp only [zbj, zbt, ↓reduceIte, *])) | refine DS.drawL (id := 4) [1, 2, 3, 0, 4, 5, 6, 7, 8] 9 (by kernel_rfl) zdb (by simp only [zay, zbf, zbg, zbh, zax]; exact rfl) (by simp only [zat, zau, List.drop_nil]; exact rfl) ?_ | (with_reducible first | refine DD.fltS yU yU yU yX10 ?_ | refine DD.nil0 ?_) | (refine DD.bslS yU yX10 yX10 ?_; simp only [go_sem, Nat.zero_add, Nat.reduceAdd]; simp only [zbs, zby, Nat.reduceEqDiff, ↓reduceIte]) | (refine DD.append (mm := false) yU yX10 yX10 yU (by decide) yX10 (by first | exact .inl rfl | exact .inr ⟨rfl, rfl⟩) yX10 yX11 (by first | exact zan zcw _ | exact zan zdg _ | exact zan Member.len _ | exact zan Sitting.len _ | exact zan Ruling.len _ | (simp only [List.mem_cons, List.not_mem_nil, or_false, forall_eq]; rfl) | simp) ⟨by (try simp only [List.length_map, List.length_cons, List.length_nil, List.length_append, List.length_take, List.length_drop]); omega, by decide⟩ ?_; simp only [zal, zac, zae, Nat.reduceEqDiff, ↓reduceIte, zag, zah, zao, zaf, zaj, zam, zai]; simp only [zbs, zby, Nat.reduceEqDiff, ↓reduceIte]) | fail)
      have h := H.out
      rw [H2.out.1, if_neg (by omega), if_pos (by assumption), hi2] at h
      refine DS.back (hB (n, zad (zad x1), l1.take i2 ++ l1.drop (i2 + 1)) _ _ (by simp; omega) ⟨by simp; omega, by simp; omega, by rw [h]; rfl⟩ yS yS (fun b o e => by exact e))
    · rename_i e1 e2 e3
      have h := H.out
      rw [H2.out.1, if_neg (by omega), if_neg (by simp [*])] at h
      refine DS.retA yG ⟨by rw [h]; rfl, by rw [h]⟩
    · rename_i e1 e2
      have hb := H2.out.2.1
      rw [hi1] at hb
      repeat' (first | (with_reducible refine DS.mv (t := 7) yU (by first | exact .inl rfl | exact .inr rfl) yX10 ?_; simp only [zal, zac, zae, Nat.reduceEqDiff, ↓reduceIte, zag, zah, zao, zaf, zaj, zam, zai]) | (with_reducible first | refine DS.fltS yU yU yX10 ?_ | refine DS.opsNil ?_ | refine DS.blk ?_) | (refine DS.append (mm := false) yU yX10 yX10 yU (by decide) yX10 (by first | exact .inl rfl | exact .inr ⟨rfl, rfl⟩) yX10 yX11 (by first | exact zan zcw _ | exact zan zdg _ | exact zan Member.len _ | exact zan Sitting.len _ | exact zan Ruling.len _ | (simp only [List.mem_cons, List.not_mem_nil, or_false, forall_eq]; rfl) | simp) ⟨by (try simp only [List.length_map, List.length_cons, List.length_nil, List.length_append, List.length_take, List.length_drop]); omega, by decide⟩ ?_; simp only [zal, zac, zae, Nat.reduceEqDiff, ↓reduceIte, zag, zah, zao, zaf, zaj, zam, zai]) | (refine DS.scS inferInstance (hb) yR yX12 yX12 ?_; (try simp only [zbj, zbt, ↓reduceIte, *])) | refine DS.drawL (id := 4) [1, 2, 3, 0, 4, 5, 6, 7, 8] 9 (by kernel_rfl) zdb (by simp only [zay, zbf, zbg, zbh, zax]; exact rfl) (by simp only [zat, zau, List.drop_nil]; exact rfl) ?_ | (with_reducible first | refine DD.fltS yU yU yU yX10 ?_ | refine DD.nil0 ?_) | (refine DD.bslS yU yX10 yX10 ?_; simp only [go_sem, Nat.zero_add, Nat.reduceAdd]; simp only [zbs, zby, Nat.reduceEqDiff, ↓reduceIte]) | (refine DD.append (mm := false) yU yX10 yX10 yU (by decide) yX10 (by first | exact .inl rfl | exact .inr ⟨rfl, rfl⟩) yX10 yX11 (by first | exact zan zcw _ | exact zan zdg _ | exact zan Member.len _ | exact zan Sitting.len _ | exact zan Ruling.len _ | (simp only [List.mem_cons, List.not_mem_nil, or_false, forall_eq]; rfl) | simp) ⟨by (try simp only [List.length_map, List.length_cons, List.length_nil, List.length_append, List.length_take, List.length_drop]); omega, by decide⟩ ?_; simp only [zal, zac, zae, Nat.reduceEqDiff, ↓reduceIte, zag, zah, zao, zaf, zaj, zam, zai]; simp only [zbs, zby, Nat.reduceEqDiff, ↓reduceIte]) | fail)
      have h := H.out
      rw [H2.out.1, if_pos (by omega), hi1] at h
      refine DS.back (hB (n, zad x1, l1.take i1 ++ l1.drop (i1 + 1)) _ _ (by simp; omega) ⟨by simp; omega, by simp; omega, by rw [h]; rfl⟩ yS yS (fun b o e => by exact e))
    · exfalso; omega
end Go.XL
namespace Go.XL
open Go.Proofs
set_option maxRecDepth 100000
set_option maxHeartbeats 8000000
theorem ztu (n : Int) (out : List Int) : ∀ a, zmb n out a ≤ a
  | 0 => Nat.le_refl _
  | a + 1 => by
    have := ztu n out a
    simp only [zmb]; split <;> omega
theorem rising_pc (l : List Int) (hl : l.length ≤ 1000000) : PC Try.prog 30 [ints l] (.own false 3 1 ((zik l).map cI)) := by
  refine DC.of_run Try.func30 rfl Try.ntmps30 Try.results30 (by simp) (fun _ => ?_); simp only [zaq, zas, go_sem, Nat.zero_add, Nat.reduceAdd]
  repeat' (first | (with_reducible first | (refine DS.nilOwn (t := 2) yU (by first | exact .inl rfl | exact .inr rfl) yE ?_) | (refine DS.nilOwn (t := 3) yU (by first | exact .inl rfl | exact .inr rfl) yE ?_) | refine DS.fltS yU yU yE ?_ | refine DS.opsNil ?_ | refine DS.seq ?_ | refine DS.regionL ?_ | refine DS.block ?_) | fail)
  refine DS.loopK [0] (by (simp only [go_sem, Nat.reduceEqDiff, ↓reduceIte]; exact rfl)) (fun (y : Nat × List Int) => [(3, .own false 3 1 (y.2.map cI)), (4, I y.1)]) (fun (y : Nat × List Int) => y.1 ≤ l.length ∧ y.2.length = y.1 ∧ zik l = (l.drop y.1).foldl insS y.2) (fun (y : Nat × List Int) => l.length - y.1) (0, []) yS (by simp [zik]) (fun y B hI hB => ?_); try dsimp only at hI hB; simp only [zap, zar]
  obtain ⟨i, out⟩ := y
  dsimp only at hI hB
  obtain ⟨g1, g2, g3⟩ := hI
  have H := Box.mk g3
  clear g3
  repeat' (first | (with_reducible refine DS.mv (t := 2) yU (by first | exact .inl rfl | exact .inr rfl) yE ?_; simp only [zal, zac, zae, Nat.reduceEqDiff, ↓reduceIte, zag, zah, zao, zaf, zaj, zam, zai]) | (with_reducible refine DS.mv (t := 45) yU (by first | exact .inl rfl | exact .inr rfl) yE ?_; simp only [zal, zac, zae, Nat.reduceEqDiff, ↓reduceIte, zag, zah, zao, zaf, zaj, zam, zai]) | (with_reducible first | refine DS.fltS yU yU yE ?_ | refine DS.opsNil ?_ | refine DS.seq ?_ | refine DS.regionL ?_ | (refine DS.cE yE ?_; refine CG.p (fun _ => ?_) (fun _ => ?_)) | refine DS.block ?_ | refine DS.exit yU ?_ | refine DS.skip ?_) | refine DS.retT [] yE trivial ?_ | fail)
  · rename_i e1
    have hi : i < l.length := by omega
    have hto : List.take i out = out := by rw [← g2]; exact List.take_length
    have hB0 := hB
    clear hB
    refine DS.loopK [0, 3, 4] (by (simp only [go_sem, Nat.reduceEqDiff, ↓reduceIte]; exact rfl)) (fun (a : Nat) => [(5, I a)]) (fun (a : Nat) => a ≤ out.length ∧ zmb l[i] out out.length = zmb l[i] out a) (fun (a : Nat) => a) out.length yS ⟨Nat.le_refl _, rfl⟩ (fun a B hI hB => ?_); try dsimp only at hI hB; simp only [zap, zar]
    obtain ⟨a1, a2⟩ := hI
    have H2 := Box.mk a2
    clear a2
    have hend : zmb l[i] out out.length = a → ∀ E' : VEnv, subV [(3, .own false 3 1 (List.map cI (List.take a out) ++ [[V.v (Value.int IntKind.i64 l[i])]] ++ List.map cI (List.drop a out))), (4, I ((i : Int) + 1))] E' → subV [(3, .own false 3 1 ((insS out l[i]).map cI)), (4, I ((i + 1 : Nat) : Int))] E' := fun h E' hE => by
      have h1 : (insS out l[i]).map cI = List.map cI (List.take a out) ++ [[V.v (Value.int IntKind.i64 l[i])]] ++ List.map cI (List.drop a out) := by
        rw [insS, h, List.map_append, List.map_cons, List.append_assoc]; rfl
      rw [h1]
      exact hE
    have hil : (insS out l[i]).length = i + 1 := by
      rw [insS, List.length_append, List.length_cons, List.length_take, List.length_drop]
      have := ztu l[i] out out.length
      omega
    have hir : zik l = (l.drop (i + 1)).foldl insS (insS out l[i]) := by rw [H.out, List.drop_eq_getElem_cons hi, List.foldl_cons]
    have H3 := Box.mk (And.intro hend (And.intro hil hir))
    clear hend hil hir
    repeat' (first | (with_reducible refine DS.mv (t := 3) yU (by first | exact .inl rfl | exact .inr rfl) yX10 ?_; simp only [zal, zac, zae, Nat.reduceEqDiff, ↓reduceIte, zag, zah, zao, zaf, zaj, zam, zai]) | (with_reducible first | refine DS.fltS yU yU yX10 ?_ | refine DS.opsNil ?_ | refine DS.seq ?_ | refine DS.regionL ?_) | (with_reducible refine DS.cE yX10 ?_; first | with_reducible refine CG.p (fun _ => ?_) (fun _ => ?_) | with_reducible refine CG.no ?_) | (with_reducible refine DS.gE yU yX10 ?_; first | with_reducible refine GG.run ?_ | with_reducible refine GG.sF ?_) | (with_reducible first | refine DS.blk ?_ | refine DS.block ?_ | refine DS.exit yU ?_ | refine DS.skip ?_) | (refine DS.append (mm := false) yU yX10 yX10 yU (by decide) yX10 (by first | exact .inl rfl | exact .inr ⟨rfl, rfl⟩) yX10 yX11 (by first | exact zan zcw _ | exact zan zdg _ | exact zan Member.len _ | exact zan Sitting.len _ | exact zan Ruling.len _ | (simp only [List.mem_cons, List.not_mem_nil, or_false, forall_eq]; rfl) | simp) ⟨by (try simp only [List.length_map, List.length_cons, List.length_nil, List.length_append, List.length_take, List.length_drop]); omega, by decide⟩ ?_; simp only [zal, zac, zae, Nat.reduceEqDiff, ↓reduceIte, zag, zah, zao, zaf, zaj, zam, zai]) | refine DS.drawL (id := 6) [0, 1, 2, 3, 4, 5, 6, 7, 8, 9, 10, 11] 12 (by kernel_rfl) zdb (by simp only [zay, zbf, zbg, zbh, zax]; exact rfl) (by simp only [zat, zau, List.drop_nil]; exact rfl) ?_ | refine DS.drawL (id := 8) [1, 2, 3, 0, 4, 5, 6, 7, 8, 9, 10, 11, 12, 13] 14 (by kernel_rfl) zdb (by simp only [zay, zbf, zbg, zbh, zax]; exact rfl) (by simp only [zat, zau, List.drop_nil]; exact rfl) ?_ | with_reducible refine DD.fltS yU yU yU yX10 ?_ | (with_reducible refine DD.gE yU yX10 ?_; first | with_reducible refine DGG.pT (fun _ => ?_) (fun _ => ?_) | with_reducible refine DGG.run ?_ | with_reducible refine DGG.sF ?_) | with_reducible refine DD.nil0 ?_ | (refine DD.bslS yU yX10 yX10 ?_; simp only [go_sem, Nat.zero_add, Nat.reduceAdd]; simp only [zbs, zby, Nat.reduceEqDiff, ↓reduceIte]) | (refine DD.append (mm := false) yU yX10 yX10 yU (by decide) yX10 (by first | exact .inl rfl | exact .inr ⟨rfl, rfl⟩) yX10 yX11 (by first | exact zan zcw _ | exact zan zdg _ | exact zan Member.len _ | exact zan Sitting.len _ | exact zan Ruling.len _ | (simp only [List.mem_cons, List.not_mem_nil, or_false, forall_eq]; rfl) | simp) ⟨by (try simp only [List.length_map, List.length_cons, List.length_nil, List.length_append, List.length_take, List.length_drop]); omega, by decide⟩ ?_; simp only [zal, zac, zae, Nat.reduceEqDiff, ↓reduceIte, zag, zah, zao, zaf, zaj, zam, zai]; simp only [zbs, zby, Nat.reduceEqDiff, ↓reduceIte]) | fail)
    · rename_i e2 e3
      obtain ⟨a', rfl⟩ : ∃ a', a = a' + 1 := ⟨a - 1, by omega⟩
      refine DS.back (hB a' _ _ (by omega) ⟨by omega, by rw [H2.out, zmb, if_pos (by rw [List.getD_eq_getElem?_getD, List.getElem?_eq_getElem (by omega)]; simpa using e3)]⟩ ⟨?_, trivial⟩ yS (fun b o e => by exact e))
      have e9 : ((a' : Int) + 1 - 1) = a' := by omega
      simp only [zcp, if_true, Int.natCast_add, Int.natCast_one, e9]
    · rename_i e2 e3
      obtain ⟨a', rfl⟩ : ∃ a', a = a' + 1 := ⟨a - 1, by omega⟩
      have h : zmb l[i] out out.length = a' + 1 := by rw [H2.out, zmb, if_neg (by rw [List.getD_eq_getElem?_getD, List.getElem?_eq_getElem (by omega)]; simpa using e3)]
      refine DS.back (hB0 (i + 1, insS out l[i]) _ _ (by dsimp only; omega) ⟨by dsimp only; omega, H3.out.2.1, H3.out.2.2⟩ (H3.out.1 h _ yS) yS (fun b o e => by exact e))
    · rename_i e2
      have : a = 0 := by omega
      subst this
      have h : zmb l[i] out out.length = 0 := by rw [H2.out]; rfl
      refine DS.back (hB0 (i + 1, insS out l[i]) _ _ (by dsimp only; omega) ⟨by dsimp only; omega, H3.out.2.1, H3.out.2.2⟩ (H3.out.1 h _ yS) yS (fun b o e => by exact e))
  · have h := H.out
    rw [List.drop_eq_nil_of_le (by omega)] at h
    rw [h]; rfl
end Go.XL
namespace Go.XL
open Go.Proofs
set_option maxRecDepth 100000
set_option maxHeartbeats 8000000
theorem zsf (start : Int) : ∀ (n : Nat) (x : Int) (acc : List Int), (znr start n x acc).1.length = acc.length + n
  | 0, x, acc => rfl
  | n + 1, x, acc => by rw [znr, zsf]; simp; omega
theorem znq (size start x : Int) (h : 1 ≤ size) : ((zev size start x).1.length : Int) = size := by
  simp only [zev, List.length_cons, zsf, List.length_nil]; omega
def evC (sz : Nat) (acc : List Int) : List V := I 0 :: (acc.map fun a => I a) ++ List.replicate (sz - 1 - acc.length) (I 0)
theorem zti {sz : Nat} {acc : List Int} (h : acc.length + 1 ≤ sz) : (evC sz acc).length = sz := by simp [evC]; omega
theorem evC_set {sz : Nat} {acc : List Int} (h : acc.length + 1 < sz) (a : Int) : (evC sz acc).set (acc.length + 1) (I a) = evC sz (acc ++ [a]) := by
  apply List.ext_getElem?
  intro i
  obtain ⟨m, hm⟩ : ∃ m, sz - 1 - acc.length = m + 1 := ⟨sz - 1 - acc.length - 1, by omega⟩
  have hm2 : sz - 1 - (acc ++ [a]).length = m := by simp; omega
  have e1 : evC sz acc = (I 0 :: acc.map fun a => I a) ++ I 0 :: List.replicate m (I 0) := by rw [evC, hm, List.replicate_succ]
  have e2 : evC sz (acc ++ [a]) = (I 0 :: acc.map fun a => I a) ++ I a :: List.replicate m (I 0) := by rw [evC, hm2]; simp
  have hl : (I 0 :: acc.map fun a => I a).length = acc.length + 1 := by simp
  rw [e1, e2, List.set_append_right _ _ (by omega), hl, Nat.sub_self, List.set_cons_zero]
theorem evC_get {sz : Nat} {acc : List Int} (h : acc.length + 1 < sz) (a : Int) : (evC sz (acc ++ [a]))[acc.length + 1]? = some (I a) := by
  rw [← evC_set h, List.getElem?_set_self (by have := zti (sz := sz) (acc := acc) (by omega); omega)]
theorem even_sc (bs : Nat) (x : Int) (sz : Nat) (start : Int) (hs : 3 ≤ sz ∧ sz ≤ 4) (h0 : 0 ≤ start ∧ start ≤ 1000000) : SC Try.prog 84 [ptr bs, I sz, I start] bs x (ints (zev sz start x).1) (zev sz start x).2 := by
  obtain ⟨hs1, hs2⟩ := hs
  obtain ⟨h01, h02⟩ := h0
  have hmul : 0 ≤ (sz : Int) * start ∧ (sz : Int) * start ≤ 4000000 := by
    rcases (show sz = 3 ∨ sz = 4 by omega) with rfl | rfl <;> omega
  obtain ⟨hm1, hm2⟩ := hmul
  unfold SC
  refine DC.of_run Try.func84 rfl Try.ntmps84 Try.results84 (by simp) (fun _ => ?_); simp only [zaq, zas, go_sem, Nat.zero_add, Nat.reduceAdd]
  repeat' (first | (with_reducible first | refine DS.fltS yU yU yE ?_ | refine DS.opsNil ?_ | refine DS.seq ?_ | refine DS.regionL ?_ | refine DS.block ?_) | (refine DS.mkS yU yE yE yE yE yU yU ⟨by omega, by omega, by decide, by omega⟩ (fun _ hfr => ?_)) | fail)
  rename_i b
  have nb : ¬ bs = b := fun e => by rw [zab, if_pos e] at hfr; cases hfr
  have nb' : ¬ b = bs := fun e => nb e.symm
  clear hfr
  have hz : (zdp (Value.int IntKind.i64 0) ((sz : Int)).toNat) = evC sz [] := by
    rw [Int.toNat_natCast, zerosV_int]
    obtain ⟨m, rfl⟩ : ∃ m, sz = m + 1 := ⟨sz - 1, by omega⟩
    rfl
  rw [hz]
  clear hz
  refine DS.loopS [0, 1, 2, 7] (by (simp only [go_sem, Nat.reduceEqDiff, ↓reduceIte]; exact rfl)) (fun (y : Int × List Int × Int × Nat) => [(8, I y.2.2.1), (9, I y.2.2.2)]) (fun (y : Int × List Int × Int × Nat) => [(b, .cells (evC sz y.2.1) 3), (bs, srcO y.1)]) (fun (y : Int × List Int × Int × Nat) => y.2.2.2 = y.2.1.length + 1 ∧ y.2.2.2 ≤ sz ∧ y.2.2.1 = (sz : Int) * start - y.2.1.sum ∧ znr start (sz - 1) x [] = znr start (sz - y.2.2.2) y.1 y.2.1 ∧ -(y.2.2.2 : Int) * 2000000 ≤ y.2.1.sum ∧ y.2.1.sum ≤ (y.2.2.2 : Int) * 2000000) (fun (y : Int × List Int × Int × Nat) => sz - y.2.2.2) (x, [], sz * start, 1) yS (fun b o e => by exact e) ⟨rfl, by dsimp only; omega, by simp, rfl, by simp, by simp⟩ (fun y B hI hB => ?_); try dsimp only at hI hB; simp only [zap, zar]
  obtain ⟨x1, acc, rest, k⟩ := y
  dsimp only at hI hB
  obtain ⟨g1, g2, g3, g4, g5, g6⟩ := hI
  have g7 : -8000000 ≤ rest ∧ rest ≤ 12000000 := by omega
  obtain ⟨g7, g8⟩ := g7
  have H := Box.mk (And.intro g1 (And.intro g3 g4))
  obtain ⟨b1, b2, -⟩ := zcr x1 7
  have b3 := b2 (by omega)
  clear b2
  have hlen := zti (sz := sz) (acc := acc) (by omega)
  have hgen : ∀ a, k < sz → (evC sz acc).set k (I a) = evC sz (acc ++ [a]) := fun a h => by rw [g1]; exact evC_set (by omega) a
  have hge2 : k < sz → (evC sz (acc ++ [start + (zak x1 7 - 3) * 10]))[k]? = some (I (start + (zak x1 7 - 3) * 10)) := fun h => by rw [g1]; exact evC_get (by omega) _
  have hgl : k < sz → (evC sz (acc ++ [start + (zak x1 7 - 3) * 10])).length = sz := fun h => zti (by simp; omega)
  have H2 := Box.mk (And.intro hgen (And.intro hge2 hgl))
  clear hgen hge2 hgl g1 g3 g4
  repeat' (first | (with_reducible first | refine DS.fltS yU yU yE ?_ | refine DS.opsNil ?_ | refine DS.seq ?_ | refine DS.regionL ?_ | (refine DS.cE yE ?_; refine CG.p (fun _ => ?_) (fun _ => ?_)) | refine DS.block ?_ | refine DS.exit yU ?_ | refine DS.skip ?_) | (refine DS.scS inferInstance (zde bs x1 7 (by omega)) yR yT yT ?_; (try simp only [zbj, zbt, ↓reduceIte, *])) | (refine DS.store yR yE yE yE yE yU (by exact ⟨by with_unfolding_all rfl, by (try simp only [List.length_map, List.length_append, List.length_set, List.length_replicate, List.length_cons, List.length_nil]); omega⟩) ?_; simp only [zbu, zaw, zbd, zcf, zbq, zbn, zbr]; try simp only [zal, zac, zae, Nat.reduceEqDiff, ↓reduceIte, zag, zah, zao, zaf, zaj, zam, zai]) | fail)
  · rename_i e1
    have hk : k < sz := by omega
    have h2 := H2.out.2.1 hk
    have h3 := H2.out.2.2 hk
    refine DS.reS (S' := [(b, .cells (evC sz (acc ++ [start + (zak x1 7 - 3) * 10])) 3), (bs, srcO (zad x1))]) (fun b' o e => ?_) ?_
    · rw [← H2.out.1 _ hk] at e
      simp only [setS, zaa, nb, nb', ↓reduceIte] at e ⊢
      by_cases h4 : b = b'
      · subst h4
        simp only [nb, ↓reduceIte] at e ⊢; exact e
      · simp only [h4, ↓reduceIte] at e ⊢; exact e
    repeat' (first | (with_reducible first | refine DS.fltS yU yU yE ?_ | refine DS.opsNil ?_ | refine DS.regionL ?_ | refine DS.blk ?_) | fail)
    obtain ⟨q1, q3, q4⟩ := H.out
    refine DS.back (hB (zad x1, acc ++ [start + (zak x1 7 - 3) * 10], rest - (start + (zak x1 7 - 3) * 10), k + 1) _ _ (by dsimp only; omega) ⟨by simp; omega, by dsimp only; omega, by simp [q3]; omega, ?_, by simp; omega, by simp; omega⟩ yS yS (fun b o e => by exact e))
    obtain ⟨m, hm⟩ : ∃ m, sz - k = m + 1 := ⟨sz - k - 1, by omega⟩
    dsimp only
    rw [q4, hm, znr, show sz - (k + 1) = m by omega]
  · rename_i e1
    obtain ⟨q1, q3, q4⟩ := H.out
    have hk : k = sz := by omega
    have hcells : (evC sz acc).set 0 (I rest) = (rest :: acc).map fun a => I a := by
      rw [evC, show sz - 1 - acc.length = 0 by omega]; simp
    refine DS.reS (S' := [(b, .cells ((rest :: acc).map fun a => I a) 3), (bs, srcO x1)]) (fun b' o e => ?_) ?_
    · rw [← hcells] at e
      simp only [setS, ↓reduceIte] at e ⊢
      exact e
    refine DS.freeze (t := 6) (b := b) (sz := 1) (l := (rest :: acc).map fun a => I a) (T := 3) yR (by simp only [zab, ↓reduceIte]) (by simp; omega) ⟨Nat.le_refl _, by simp only [maxLen]; omega⟩ ?_
    simp only [zbj, zbt, nb, ↓reduceIte]
    refine DS.retA yG ⟨?_, ?_⟩
    · have h := znw (rest :: acc) sz [] (by simp; omega)
      rw [List.append_nil] at h
      rw [zei, List.map_map, show (V.copy ∘ fun a => I a) = (fun x => I x) from rfl]
      rw [List.take_of_length_le (by simp; omega)] at h
      refine (congrArg V.lst h).trans ?_
      simp only [zev, Int.toNat_natCast, q4, hk, Nat.sub_self, znr]
      rw [q3]
    · simp only [zev, Int.toNat_natCast, q4, hk, Nat.sub_self, znr]
end Go.XL
namespace Go.XL
open Go.Proofs
set_option maxRecDepth 100000
set_option maxHeartbeats 8000000
theorem ztr (size : Int) : ∀ (n : Nat) (x : Int) (t rest : List Int), (t.length : Int) ≤ size → size ≤ (t.length : Int) + n → ((tabG size n x t rest).1.length : Int) = size
  | 0, x, t, rest, h1, h2 => by
    show (t.length : Int) = size
    omega
  | n + 1, x, t, rest, h1, h2 => by
    simp only [tabG]
    split
    · exact ztr size n _ _ _ (by simp; omega) (by simp; omega)
    · show (t.length : Int) = size
      omega
theorem tabG_stop (size : Int) : ∀ (n : Nat) (x : Int) (t rest : List Int), ¬ (t.length : Int) < size → tabG size n x t rest = (t, rest, x)
  | 0, x, t, rest, h => rfl
  | n + 1, x, t, rest, h => by rw [tabG, if_neg h]
theorem yX13 {p : Prop} (h : p := by (simp (disch := omega) only [go_sem, dopV, Option.map_some, Option.map_none, Option.bind_some, Option.bind_none, ↓reduceIte, Nat.reduceEqDiff, Nat.reduceLT, Nat.reduceLeDiff, Nat.reduceAdd, Nat.reduceMul, Nat.reduceSub, Nat.zero_add, Nat.add_zero, Nat.zero_le, Nat.zero_mul, Nat.mul_one, Nat.one_mul, Int.natCast_zero, Int.toNat_zero, Int.reduceToNat, Int.reduceLT, Int.reduceLE, Int.reduceEq, decide_true, decide_false, true_and, and_true, Bool.and_self, Bool.and_true, Bool.true_and, Bool.not_true, Bool.not_false, IntWalk.toNatUp, IntWalk.iteOmega, IntWalk.i64_in, Option.isSome_some, not_true_eq_false, not_false_eq_true, Option.getD_some, Option.getD_none, Int.toNat_natCast, List.length_map, List.getElem?_map, List.getElem?_eq_getElem, V.flat, V.one, List.all_cons, List.all_nil, *, List.forall_mem_cons, List.forall_mem_map, implies_true, zef, zcw, zgd, zij, List.take_length, List.length_singleton, and_self]; exact rfl)) : p := h
theorem tablesOf_sc (bs : Nat) (x : Int) (l : List Int) (size : Int) (hs : 3 ≤ size ∧ size ≤ 4) (hl : l.length ≤ 1000000) : SC Try.prog 36 [ptr bs, ints l, I size] bs x (.own false 22 1 ((zdt size x l).1.map cR)) (zdt size x l).2 := by
  unfold SC
  obtain ⟨hs1, hs2⟩ := hs
  refine DC.of_run Try.func36 rfl Try.ntmps36 Try.results36 (by simp) (fun _ => ?_); simp only [zaq, zas, go_sem, Nat.zero_add, Nat.reduceAdd]
  repeat' (first | (with_reducible first | (refine DS.nilOwn (t := 6) yU (by first | exact .inl rfl | exact .inr rfl) yE ?_) | (refine DS.nilOwn (t := 8) yU (by first | exact .inl rfl | exact .inr rfl) yE ?_) | refine DS.fltS yU yU yE ?_ | refine DS.opsNil ?_ | refine DS.seq ?_ | refine DS.regionL ?_ | refine DS.block ?_) | (refine DS.bsl yU yE yE ?_; simp only [go_sem, Nat.zero_add, Nat.reduceAdd]) | (refine DS.append (mm := false) yU yE yE yU (by decide) yE (by first | exact .inl rfl | exact .inr ⟨rfl, rfl⟩) yE yX0 (by first | exact zan zcw _ | exact zan zdg _ | exact zan Member.len _ | exact zan Sitting.len _ | exact zan Ruling.len _ | (simp only [List.mem_cons, List.not_mem_nil, or_false, forall_eq]; rfl) | simp) ⟨by (try simp only [List.length_map, List.length_cons, List.length_nil, List.length_append, List.length_take, List.length_drop]); omega, by decide⟩ ?_; simp only [zal, zac, zae, Nat.reduceEqDiff, ↓reduceIte, zag, zah, zao, zaf, zaj, zam, zai]) | fail)
  refine DS.loopS [0, 2] (by (simp only [go_sem, Nat.reduceEqDiff, ↓reduceIte]; exact rfl)) (fun (y : Nat × Int × List Int × List (List Int)) => [(7, ints y.2.2.1), (8, .own false 22 1 (y.2.2.2.map cR))]) (fun (y : Nat × Int × List Int × List (List Int)) => [(bs, srcO y.2.1)]) (fun (y : Nat × Int × List Int × List (List Int)) => y.2.2.1.length < y.1 ∧ y.2.2.1.length + y.2.2.2.length ≤ l.length ∧ zdt size x l = zlj size y.1 y.2.1 y.2.2.1 y.2.2.2) (fun (y : Nat × Int × List Int × List (List Int)) => y.2.2.1.length) (l.length + 1, x, l, []) yS (fun b o e => by exact e) ⟨Nat.lt_succ_self _, Nat.le_refl _, rfl⟩ (fun y B hI hB => ?_); try dsimp only at hI hB; simp only [zap, zar]
  obtain ⟨n, x1, rest, out⟩ := y
  dsimp only at hI hB
  obtain ⟨g1, g2, g3⟩ := hI
  have H := Box.mk g3
  clear g3
  obtain ⟨n, rfl⟩ : ∃ n', n = n' + 1 := ⟨n - 1, by omega⟩
  have hB0 := hB
  clear hB
  by_cases h0 : size ≤ (rest.length : Int)
  · obtain ⟨a, r, rfl⟩ : ∃ a r, rest = a :: r := by
      cases rest with
      | nil => simp at h0; omega
      | cons a r => exact ⟨a, r, rfl⟩
    have h0 : size ≤ ((r.length : Int) + 1) := by simpa using h0
    have g1 : r.length + 1 < n + 1 := by simpa using g1
    have g2 : r.length + 1 + out.length ≤ l.length := by simpa using g2
    repeat' (first | (with_reducible refine DS.mv (t := 6) yU (by first | exact .inl rfl | exact .inr rfl) yX13 ?_; simp only [zal, zac, zae, Nat.reduceEqDiff, ↓reduceIte, zag, zah, zao, zaf, zaj, zam, zai]) | (with_reducible refine DS.mv (t := 9) yU (by first | exact .inl rfl | exact .inr rfl) yX13 ?_; simp only [zal, zac, zae, Nat.reduceEqDiff, ↓reduceIte, zag, zah, zao, zaf, zaj, zam, zai]) | (with_reducible refine DS.mv (t := 54) yU (by first | exact .inl rfl | exact .inr rfl) yX13 ?_; simp only [zal, zac, zae, Nat.reduceEqDiff, ↓reduceIte, zag, zah, zao, zaf, zaj, zam, zai]) | (with_reducible first | refine DS.fltS yU yU yX13 ?_ | refine DS.opsNil ?_ | refine DS.seq ?_ | refine DS.regionL ?_) | (with_reducible refine DS.cE yX13 ?_; with_reducible refine CG.p (fun _ => ?_) (fun _ => ?_)) | (with_reducible first | refine DS.block ?_ | refine DS.exit yU ?_ | refine DS.skip ?_) | (refine DS.bsl yU yX13 yX13 ?_; simp only [go_sem, Nat.zero_add, Nat.reduceAdd]) | fail)
    all_goals first | (exfalso; omega) | skip
    refine DS.loopS [0, 2, 8] (by (simp only [go_sem, Nat.reduceEqDiff, ↓reduceIte]; exact rfl)) (fun (z : Nat × Int × List Int × List Int) => [(7, ints z.2.2.2), (9, .own false 3 1 (z.2.2.1.map cI))]) (fun (z : Nat × Int × List Int × List Int) => [(bs, srcO z.2.1)]) (fun (z : Nat × Int × List Int × List Int) => (z.2.2.1.length : Int) ≤ size ∧ size ≤ (z.2.2.1.length : Int) + z.1 ∧ size ≤ (z.2.2.1.length : Int) + z.2.2.2.length ∧ z.2.2.1.length + z.2.2.2.length = r.length + 1 ∧ tabG size size.toNat x1 [a] r = tabG size z.1 z.2.1 z.2.2.1 z.2.2.2) (fun (z : Nat × Int × List Int × List Int) => z.2.2.2.length) (size.toNat, x1, [a], r) yS (fun b o e => by exact e) ⟨by simp; omega, by simp; omega, by simp; omega, by simp; omega, rfl⟩ (fun z B hI hB => ?_); try dsimp only at hI hB; simp only [zap, zar]
    obtain ⟨m, x2, t, rest⟩ := z
    dsimp only at hI hB
    obtain ⟨k1, k2, k3, k4, k5⟩ := hI
    have K := Box.mk k5
    clear k5
    by_cases ht : (t.length : Int) < size
    · obtain ⟨b1, b2, -⟩ := zcr x2 rest.length
      have b3 := b2 (by omega)
      obtain ⟨i, hi⟩ : ∃ i : Nat, zak x2 rest.length = i := ⟨(zak x2 rest.length).toNat, by omega⟩
      have hbl := zde bs x2 rest.length (by omega)
      have hdi := hi
      rw [hi] at b3 hbl
      have K2 := Box.mk hi
      clear hi b1 b2 hdi
      have hir : i < rest.length := by omega
      repeat' (first | (with_reducible refine DS.mv (t := 9) yU (by first | exact .inl rfl | exact .inr rfl) yX10 ?_; simp only [zal, zac, zae, Nat.reduceEqDiff, ↓reduceIte, zag, zah, zao, zaf, zaj, zam, zai]) | (with_reducible refine DS.mv (t := 32) yU (by first | exact .inl rfl | exact .inr rfl) yX10 ?_; simp only [zal, zac, zae, Nat.reduceEqDiff, ↓reduceIte, zag, zah, zao, zaf, zaj, zam, zai]) | (with_reducible first | refine DS.fltS yU yU yX10 ?_ | refine DS.opsNil ?_ | refine DS.seq ?_ | refine DS.regionL ?_) | (with_reducible refine DS.cE yX10 ?_; with_reducible refine CG.yes ?_) | (with_reducible first | refine DS.blk ?_ | refine DS.block ?_ | refine DS.skip ?_) | (refine DS.bsl yU yX10 yX10 ?_; simp only [go_sem, Nat.zero_add, Nat.reduceAdd]) | (refine DS.append (mm := false) yU yX10 yX10 yU (by decide) yX10 (by first | exact .inl rfl | exact .inr ⟨rfl, rfl⟩) yX10 yX11 (by first | exact zan zcw _ | exact zan zdg _ | exact zan Member.len _ | exact zan Sitting.len _ | exact zan Ruling.len _ | (simp only [List.mem_cons, List.not_mem_nil, or_false, forall_eq]; rfl) | simp) ⟨by (try simp only [List.length_map, List.length_cons, List.length_nil, List.length_append, List.length_take, List.length_drop]); omega, by decide⟩ ?_; simp only [zal, zac, zae, Nat.reduceEqDiff, ↓reduceIte, zag, zah, zao, zaf, zaj, zam, zai]) | (refine DS.scS inferInstance (hbl) yR yX12 yX12 ?_; (try simp only [zbj, zbt, ↓reduceIte, *])) | refine DS.drawL (id := 9) [1, 2, 3, 0, 4, 5, 6, 7, 8] 9 (by kernel_rfl) zdb (by simp only [zay, zbf, zbg, zbh, zax]; exact rfl) (by simp only [zat, zau, List.drop_nil]; exact rfl) ?_ | (with_reducible first | refine DD.fltS yU yU yU yX10 ?_ | refine DD.nil0 ?_) | (refine DD.bslS yU yX10 yX10 ?_; simp only [go_sem, Nat.zero_add, Nat.reduceAdd]; simp only [zbs, zby, Nat.reduceEqDiff, ↓reduceIte]) | (refine DD.append (mm := false) yU yX10 yX10 yU (by decide) yX10 (by first | exact .inl rfl | exact .inr ⟨rfl, rfl⟩) yX10 yX11 (by first | exact zan zcw _ | exact zan zdg _ | exact zan Member.len _ | exact zan Sitting.len _ | exact zan Ruling.len _ | (simp only [List.mem_cons, List.not_mem_nil, or_false, forall_eq]; rfl) | simp) ⟨by (try simp only [List.length_map, List.length_cons, List.length_nil, List.length_append, List.length_take, List.length_drop]); omega, by decide⟩ ?_; simp only [zal, zac, zae, Nat.reduceEqDiff, ↓reduceIte, zag, zah, zao, zaf, zaj, zam, zai]; simp only [zbs, zby, Nat.reduceEqDiff, ↓reduceIte]) | fail)
      all_goals first | (exfalso; omega) | skip
      obtain ⟨m, rfl⟩ : ∃ m', m = m' + 1 := ⟨m - 1, by omega⟩
      have hk := K.out
      rw [tabG, if_pos ht, K2.out, Int.toNat_natCast, List.getD_eq_getElem?_getD, List.getElem?_eq_getElem hir, Option.getD_some] at hk
      refine DS.back (hB (m, zad x2, t ++ [rest[i]], rest.take i ++ rest.drop (i + 1)) _ _ (by simp; omega) ⟨by simp; omega, by simp; omega, by simp; omega, by simp; omega, hk⟩ yS yS (fun b o e => by exact e))
    · repeat' (first | (with_reducible refine DS.mv (t := 8) yU (by first | exact .inl rfl | exact .inr rfl) yX10 ?_; simp only [zal, zac, zae, Nat.reduceEqDiff, ↓reduceIte, zag, zah, zao, zaf, zaj, zam, zai]) | (with_reducible refine DS.mv (t := 49) yU (by first | exact .inl rfl | exact .inr rfl) yX10 ?_; simp only [zal, zac, zae, Nat.reduceEqDiff, ↓reduceIte, zag, zah, zao, zaf, zaj, zam, zai]) | (with_reducible first | refine DS.fltS yU yU yX10 ?_ | refine DS.opsNil ?_ | refine DS.seq ?_ | refine DS.regionL ?_) | (with_reducible refine DS.cE yX10 ?_; with_reducible refine CG.no ?_) | (with_reducible first | refine DS.blk ?_ | refine DS.exit yU ?_) | (refine DS.bsl yU yX10 yX10 ?_; simp only [go_sem, Nat.zero_add, Nat.reduceAdd]) | (refine DS.append (mm := false) yU yX10 yX10 yU (by decide) yX10 (by first | exact .inl rfl | exact .inr ⟨rfl, rfl⟩) yX10 yX11 (by first | exact zan zcw _ | exact zan zdg _ | exact zan Member.len _ | exact zan Sitting.len _ | exact zan Ruling.len _ | (simp only [List.mem_cons, List.not_mem_nil, or_false, forall_eq]; rfl) | simp) ⟨by (try simp only [List.length_map, List.length_cons, List.length_nil, List.length_append, List.length_take, List.length_drop]); omega, by decide⟩ ?_; simp only [zal, zac, zae, Nat.reduceEqDiff, ↓reduceIte, zag, zah, zao, zaf, zaj, zam, zai]) | refine DS.pcS inferInstance (rising_pc t (by omega)) yR yX12 ?_ | fail)
      all_goals first | (exfalso; omega) | skip
      have hk := K.out
      rw [tabG_stop size m x2 t rest ht] at hk
      have h := H.out
      rw [zlj, if_pos (by simpa using h0), List.headD_cons, List.drop_succ_cons, List.drop_zero, hk] at h
      refine DS.back (hB0 (n, x2, rest, out ++ [zik t]) _ _ (by simp; omega) ⟨by simp; omega, by simp; omega, h⟩ yS yS (fun b o e => by exact e))
  · repeat' (first | (with_reducible refine DS.mv (t := 6) yU (by first | exact .inl rfl | exact .inr rfl) yE ?_; simp only [zal, zac, zae, Nat.reduceEqDiff, ↓reduceIte, zag, zah, zao, zaf, zaj, zam, zai]) | (with_reducible refine DS.mv (t := 54) yU (by first | exact .inl rfl | exact .inr rfl) yE ?_; simp only [zal, zac, zae, Nat.reduceEqDiff, ↓reduceIte, zag, zah, zao, zaf, zaj, zam, zai]) | (with_reducible first | refine DS.fltS yU yU yE ?_ | refine DS.opsNil ?_ | refine DS.seq ?_ | refine DS.regionL ?_ | (refine DS.cE yE ?_; refine CG.no ?_) | refine DS.exit yU ?_) | fail)
    all_goals first | (exfalso; omega) | skip
    have h := H.out
    rw [zlj, if_neg h0] at h
    refine DS.retA yG ⟨by rw [h]; rfl, by rw [h]⟩
end Go.XL
namespace Go.XL
def ptsG (size start : Int) : Nat → Int → List (List Int) → List (List Int) × Int
  | 0, x, out => (out, x)
  | n + 1, x, out => if 0 < zak x 5 then ptsG size start n (zev size start (zad x)).2 (out ++ [(zev size start (zad x)).1]) else ptsG size start n (zad x) (out ++ [[]])
def zdj (c : Club) (x : Int) : List Int × Int := zcy c.size x (zcn c c.rounds.length)
def zaz (c : Club) (x : Int) : List (List Int) × Int :=
  if (zdj c x).1.length ≤ 12 then
    (if 0 < zak (zdt c.size (zdj c x).2 (zdj c x).1).2 3 ∧ (zjn c (zdj c x).1).2 = 0 then (zjn c (zdj c x).1).1 else (zdt c.size (zdj c x).2 (zdj c x).1).1, zad (zdt c.size (zdj c x).2 (zdj c x).1).2)
  else zdt c.size (zdj c x).2 (zdj c x).1
def zct (c : Club) (x : Int) : List (List Int) × Int := ptsG c.size c.start (zaz c x).1.length (zaz c x).2 []
theorem zto {budget : Int} {round n : Nat} {rec : List Int → Int → Int × Int × List (Nat × List Int)} (h : ∀ t s, (rec t s).2.2.length ≤ n) : ∀ (l : List (List Int)) (s : Int), (tryL budget round rec l s).2.2.length ≤ n + 1
  | [], s => by simp [tryL]
  | t :: r, s => by
    simp only [tryL]
    split
    · simp
    split
    · exact zto h r _
    · simp only [List.length_cons]; have := h t (w64 (s + 1)); omega
theorem zpn {size : Nat} {budget : Int} {rounds : List (List Int)} : ∀ (n : Nat) (met : Int → Int → Bool) (round : Nat) (ids : List Int) (s : Int), (srch size budget rounds n met round ids s).2.2.length ≤ n
  | 0, met, round, ids, s => by simp [srch]
  | n + 1, met, round, [], s => by
    rw [srch]
    split
    · simp
    · exact Nat.le_succ_of_le (zpn n met _ _ _)
  | n + 1, met, round, f :: fr, s => by
    rw [srch]
    exact zto (fun t s => zpn n _ _ _ _) _ _
theorem nextS_len (c : Club) (ids : List Int) : (zjn c ids).1.length ≤ ids.length + 2 := by
  unfold zjn
  repeat' split
  all_goals first | (simp; done) | skip
  simp only [List.length_map, runS]
  have := zpn (size := c.size.toNat) (budget := -1) (rounds := [ids]) (zkv [ids]) (met0 c) 0 ([ids].headD []) 0
  simp [zkv] at this ⊢
  omega
theorem zqm (size : Int) : ∀ (n : Nat) (x : Int) (rest : List Int) (out : List (List Int)), (zlj size n x rest out).1.length ≤ out.length + n
  | 0, x, rest, out => by simp [zlj]
  | n + 1, x, rest, out => by
    simp only [zlj]
    split
    · have := zqm size n (tabG size size.toNat x [rest.headD 0] (rest.drop 1)).2.2 (tabG size size.toNat x [rest.headD 0] (rest.drop 1)).2.1 (out ++ [zik (tabG size size.toNat x [rest.headD 0] (rest.drop 1)).1])
      simp only [List.length_append, List.length_singleton] at this
      omega
    · show out.length ≤ _
      omega
theorem tablesOfS_len (size x : Int) (l : List Int) : (zdt size x l).1.length ≤ l.length + 1 := by
  have := zqm size (l.length + 1) x l []
  simpa [zdt] using this
theorem zkl (c : Club) (x : Int) : (zaz c x).1.length ≤ c.members.length + 2 := by
  have h1 := (zgh c.size x (zcn c c.rounds.length)).length_le
  have h2 : (zcn c c.rounds.length).length ≤ c.members.length := by
    unfold zcn
    repeat' split
    all_goals first | (simp; done) | skip
    rw [zjc, List.length_map]
    exact List.length_filter_le _ _
  have h3 := nextS_len c (zdj c x).1
  have h4 := tablesOfS_len c.size (zdj c x).2 (zdj c x).1
  unfold zdj at *
  unfold zaz zdj
  split
  · dsimp only
    split <;> omega
  · omega
end Go.XL
namespace Go.XL
open Go.Proofs
set_option maxRecDepth 100000
set_option maxHeartbeats 8000000
def mzS (rs : List (List Int)) (round k : Nat) : Nat := k + ((rs.drop (round + 1)).map List.length).sum + (rs.length - round)
def GoPost (bx bp : Nat) (c : Club) (rs : List (List Int)) (bs : List Nat) (budget : Int) (met : Int → Int → Bool) (ps : List PRow) (res : Int × Int × List (Nat × List Int)) (u : V) (S' : Sto) : Prop :=
  u = I res.1 ∧ ∃ met' ps', SearchR S' bx bp c rs bs budget res.2.1 met' ps' ∧ ps'.length = ps.length ∧ (res.1 = 2 → met' = met ∧ ∀ (i : Nat) (h : i < ps.length) (h' : i < ps'.length), ps'[i].rows = ps[i].rows) ∧
    (res.1 = 1 → ∀ (i : Nat) (h : i < ps.length) (h' : i < ps'.length), ps'[i].rows = ps[i].rows ++ (res.2.2.filter fun q => decide (q.1 = i)).map Prod.snd)
theorem zri (ids : List Int) : zfs ids [] = ids := by simp [zfs]
theorem zug {rs : List (List Int)} {round : Nat} (h : round + 1 < rs.length) : mzS rs (round + 1) rs[round + 1].length + 1 = mzS rs round 0 := by
  simp only [mzS]
  rw [List.drop_eq_getElem_cons h, List.map_cons, List.sum_cons]
  omega
theorem zqx (st : List Int → Int → Bool) : ∀ (n : Nat) (t ids : List Int), ∀ x ∈ zfj st n t ids, x.Sublist ids
  | 0, t, ids, x, h => by simp only [zfj, List.mem_singleton] at h; subst h; exact List.nil_sublist _
  | n + 1, t, ids, x, h => by
    have key : ∀ l : List Int, ∀ x ∈ zet st (zfj st n) t l, x.Sublist l := by
      intro l
      induction l with
      | nil => intro x h; simp [zet] at h
      | cons id r ih =>
        intro x h
        simp only [zet, List.mem_append] at h
        rcases h with h | h
        · split at h
          · obtain ⟨y, hy, rfl⟩ := List.mem_map.1 h
            exact (zqx st n _ _ y hy).cons_cons id
          · simp at h
        · exact (ih x h).cons id
    exact key ids x h
theorem zot (met : Int → Int → Bool) : ∀ (n : Nat) (t ids : List Int), t.Pairwise (fun a b => met a b = false) → ∀ x ∈ zfj (zcm met) n t ids, (t ++ x).Pairwise fun a b => met a b = false
  | 0, t, ids, ht, x, h => by simp only [zfj, List.mem_singleton] at h; subst h; simpa using ht
  | n + 1, t, ids, ht, x, h => by
    have key : ∀ l : List Int, ∀ x ∈ zet (zcm met) (zfj (zcm met) n) t l, (t ++ x).Pairwise fun a b => met a b = false := by
      intro l
      induction l with
      | nil => intro x h; simp [zet] at h
      | cons id r ih =>
        intro x h
        simp only [zet, List.mem_append] at h
        rcases h with h | h
        · split at h
          · rename_i hst
            obtain ⟨y, hy, rfl⟩ := List.mem_map.1 h
            have := zot met n (t ++ [id]) r (by
              rw [List.pairwise_append]
              refine ⟨ht, by simp, fun a ha b hb => ?_⟩
              rw [List.mem_singleton.1 hb]
              have := List.all_eq_true.1 hst a ha
              simpa using this) y hy
            rwa [List.append_assoc] at this
          · simp at h
        · exact ih x h
    exact key ids x h
theorem markB_back {met : Int → Int → Bool} {t : List Int} (hp : t.Pairwise fun a b => met a b = false) (hs : ∀ a b, met a b = met b a) : zln (zln met t true) t false = met := by
  funext a b
  simp only [zln]
  by_cases h : a ∈ t ∧ b ∈ t ∧ a ≠ b
  · rw [if_pos h]
    obtain ⟨h1, h2, h3⟩ := h
    obtain ⟨i, hi, rfl⟩ := List.getElem_of_mem h1
    obtain ⟨j, hj, rfl⟩ := List.getElem_of_mem h2
    rcases Nat.lt_trichotomy i j with h4 | h4 | h4
    · exact (List.pairwise_iff_getElem.1 hp i j hi hj h4).symm
    · subst h4; exact absurd rfl h3
    · rw [hs]; exact (List.pairwise_iff_getElem.1 hp j i hj hi h4).symm
  · rw [if_neg h, if_neg h]
theorem markB_sym {met : Int → Int → Bool} {t : List Int} {v : Bool} (hs : ∀ a b, met a b = met b a) (a b : Int) : zln met t v a b = zln met t v b a := by
  simp only [zln, hs a b]
  by_cases h : a ∈ t ∧ b ∈ t ∧ a ≠ b
  · rw [if_pos h, if_pos ⟨h.2.1, h.1, h.2.2.symm⟩]
  · rw [if_neg h, if_neg (fun h' => h ⟨h'.2.1, h'.1, h'.2.2.symm⟩)]
theorem markS_eq (met : Int → Int → Bool) (t : List Int) : zii met t = zln met t true := rfl
theorem go1_end {S : Sto} {bx bp : Nat} {c : Club} {rs : List (List Int)} {bs : List Nat} {budget steps : Int} {met : Int → Int → Bool} {ps : List PRow} (s : SearchR S bx bp c rs bs budget steps met ps) :
    RC Try.prog 60 [.v (.pointer (some ⟨bx, 0, none⟩)), I rs.length] S (I 1) := by
  have hx := s.obj
  clear s
  refine DC.of_run Try.func60 rfl Try.ntmps60 Try.results60 (by simp) (fun _ => ?_); simp only [zaq, zas, go_sem, Nat.zero_add, Nat.reduceAdd]
  repeat' (first | (with_reducible first | refine DS.fltS yU yU yX1 ?_ | refine DS.opsNil ?_ | refine DS.seq ?_ | refine DS.regionL ?_) | (with_reducible refine DS.cE yX1 ?_; with_reducible refine CG.yes ?_) | refine DS.retA yX1 ⟨?_, rfl⟩ | fail)
  rfl
theorem yX14 {p : Prop} (h : p := by (simp (disch := omega) only [go_sem, dopV, Option.map_some, Option.map_none, Option.bind_some, Option.bind_none, ↓reduceIte, Nat.reduceEqDiff, Nat.reduceLT, Nat.reduceLeDiff, Nat.reduceAdd, Nat.reduceMul, Nat.reduceSub, Nat.zero_add, Nat.add_zero, Nat.zero_le, Nat.zero_mul, Nat.mul_one, Nat.one_mul, Int.natCast_zero, Int.toNat_zero, Int.reduceToNat, Int.reduceLT, Int.reduceLE, Int.reduceEq, decide_true, decide_false, true_and, and_true, Bool.and_self, Bool.and_true, Bool.true_and, Bool.not_true, Bool.not_false, IntWalk.toNatUp, IntWalk.iteOmega, IntWalk.i64_in, Option.isSome_some, not_true_eq_false, not_false_eq_true, Option.getD_some, Option.getD_none, Int.toNat_natCast, List.length_map, List.getElem?_map, List.getElem?_eq_getElem, V.flat, V.one, List.all_cons, List.all_nil, *, zok, List.forall_mem_cons, List.forall_mem_map, implies_true, zef]; exact rfl)) : p := h
theorem yX15 {p : Prop} (h : p := by (simp (disch := omega) only [go_sem, dopV, Option.map_some, Option.map_none, Option.bind_some, Option.bind_none, ↓reduceIte, Nat.reduceEqDiff, Nat.reduceLT, Nat.reduceLeDiff, Nat.reduceAdd, Nat.reduceMul, Nat.reduceSub, Nat.zero_add, Nat.add_zero, Nat.zero_le, Nat.zero_mul, Nat.mul_one, Nat.one_mul, Int.natCast_zero, Int.toNat_zero, Int.reduceToNat, Int.reduceLT, Int.reduceLE, Int.reduceEq, decide_true, decide_false, true_and, and_true, Bool.and_self, Bool.and_true, Bool.true_and, Bool.not_true, Bool.not_false, IntWalk.toNatUp, IntWalk.iteOmega, IntWalk.i64_in, Option.isSome_some, not_true_eq_false, not_false_eq_true, Option.getD_some, Option.getD_none, Int.toNat_natCast, List.length_map, List.getElem?_map, List.getElem?_eq_getElem, V.flat, V.one, List.all_cons, List.all_nil, *, zok, List.forall_mem_cons, List.forall_mem_map, implies_true, zef]; try exact rfl)) : p := h
theorem yX16 {p : Prop} (h : p := by (simp (disch := omega) only [go_sem, dopV, Option.map_some, Option.map_none, Option.bind_some, Option.bind_none, ↓reduceIte, Nat.reduceEqDiff, Nat.reduceLT, Nat.reduceLeDiff, Nat.reduceAdd, Nat.reduceMul, Nat.reduceSub, Nat.zero_add, Nat.add_zero, Nat.zero_le, Nat.zero_mul, Nat.mul_one, Nat.one_mul, Int.natCast_zero, Int.toNat_zero, Int.reduceToNat, Int.reduceLT, Int.reduceLE, Int.reduceEq, decide_true, decide_false, true_and, and_true, Bool.and_self, Bool.and_true, Bool.true_and, Bool.not_true, Bool.not_false, IntWalk.toNatUp, IntWalk.iteOmega, IntWalk.i64_in, Option.isSome_some, not_true_eq_false, not_false_eq_true, Option.getD_some, Option.getD_none, Int.toNat_natCast, List.length_map, List.getElem?_map, List.getElem?_eq_getElem, V.flat, V.one, List.all_cons, List.all_nil, *, zok, PRow.cell_copy]; exact rfl)) : p := h
theorem yX17 {p : Prop} (h : p := by (simp (disch := omega) only [go_sem, dopV, Option.map_some, Option.map_none, Option.bind_some, Option.bind_none, ↓reduceIte, Nat.reduceEqDiff, Nat.reduceLT, Nat.reduceLeDiff, Nat.reduceAdd, Nat.reduceMul, Nat.reduceSub, Nat.zero_add, Nat.add_zero, Nat.zero_le, Nat.zero_mul, Nat.mul_one, Nat.one_mul, Int.natCast_zero, Int.toNat_zero, Int.reduceToNat, Int.reduceLT, Int.reduceLE, Int.reduceEq, decide_true, decide_false, true_and, and_true, Bool.and_self, Bool.and_true, Bool.true_and, Bool.not_true, Bool.not_false, IntWalk.toNatUp, IntWalk.iteOmega, IntWalk.i64_in, Option.isSome_some, not_true_eq_false, not_false_eq_true, Option.getD_some, Option.getD_none, Int.toNat_natCast, List.length_map, List.getElem?_map, List.getElem?_eq_getElem, V.flat, V.one, List.all_cons, List.all_nil, *, ints]; try exact rfl)) : p := h
theorem yX18 {p : Prop} (h : p := by (simp (disch := omega) only [go_sem, dopV, Option.map_some, Option.map_none, Option.bind_some, Option.bind_none, ↓reduceIte, Nat.reduceEqDiff, Nat.reduceLT, Nat.reduceLeDiff, Nat.reduceAdd, Nat.reduceMul, Nat.reduceSub, Nat.zero_add, Nat.add_zero, Nat.zero_le, Nat.zero_mul, Nat.mul_one, Nat.one_mul, Int.natCast_zero, Int.toNat_zero, Int.reduceToNat, Int.reduceLT, Int.reduceLE, Int.reduceEq, decide_true, decide_false, true_and, and_true, Bool.and_self, Bool.and_true, Bool.true_and, Bool.not_true, Bool.not_false, IntWalk.toNatUp, IntWalk.iteOmega, IntWalk.i64_in, Option.isSome_some, not_true_eq_false, not_false_eq_true, Option.getD_some, Option.getD_none, Int.toNat_natCast, List.length_map, List.getElem?_map, List.getElem?_eq_getElem, V.flat, V.one, List.all_cons, List.all_nil, *, ints, List.map_append]; try exact rfl)) : p := h
theorem go1_dc {bx bp : Nat} {c : Club} {rs : List (List Int)} {bs : List Nat} {budget : Int} (hs : c.Small) (ha : c.Asc) (hsz : 3 ≤ c.size ∧ c.size ≤ 4) (hrl : rs.length ≤ 1000) (hrs : ∀ ids ∈ rs, ids.length ≤ 40 ∧ ids.Nodup ∧ ∀ a ∈ ids, ¬ zgy c a < 0) :
    ∀ (n : Nat) (S : Sto) (met : Int → Int → Bool) (steps : Int) (ps : List PRow) (round : Nat) (s : SearchR S bx bp c rs bs budget steps met ps) (hps : ps.length = rs.length) (hr : round < rs.length) (hrest : ∀ i, round < i → ∀ h : i < ps.length, ps[i].rows = []) (hsym : ∀ a b, met a b = met b a)
      (hn : mzS rs round (zfs rs[round] (ps[round]'(hps ▸ hr)).rows).length < n) (hT : ∀ i (h : i < ps.length), ps[i].rows.length + n ≤ 10000),
    DC Try.prog 60 [.v (.pointer (some ⟨bx, 0, none⟩)), I round] S (GoPost bx bp c rs bs budget met ps (srch c.size.toNat budget rs n met round (zfs rs[round] (ps[round]'(hps ▸ hr)).rows) steps))
  | 0, S, met, steps, ps, round, s, hps, hr, hrest, hsym, hn, hT => by omega
  | n + 1, S, met, steps, ps, round, s, hps, hr, hrest, hsym, hn, hT => by
    have hr' : round < ps.length := hps ▸ hr
    have hx := s.obj
    have hrr := hrs _ (List.getElem_mem hr)
    have hfree := free_rc S (mt := mtV bs c.members.length) s.obj s.pln hr' hr (s.row round hr') (by omega) (by have := hT round hr'; omega)
    generalize hids : zfs rs[round] (ps[round]'hr').rows = ids at *
    cases ids with
    | nil =>
      by_cases hend : round + 1 = rs.length
      · have he := go1_end s
        rw [srch, if_pos hend]
        have H := And.intro s (And.intro hps hend)
        clear s hrs hrest hsym hn hT hps
        have hend' : (round : Int) + 1 = rs.length := by omega
        refine DC.of_run Try.func60 rfl Try.ntmps60 Try.results60 (by simp) (fun _ => ?_); simp only [zaq, zas, go_sem, Nat.zero_add, Nat.reduceAdd]
        repeat' (first | (with_reducible first | refine DS.fltS yU yU yX1 ?_ | refine DS.opsNil ?_ | refine DS.seq ?_ | refine DS.regionL ?_) | (with_reducible refine DS.cE yX1 ?_; first | with_reducible refine CG.p (fun _ => ?_) (fun _ => ?_) | with_reducible refine CG.yes ?_) | with_reducible refine DS.skip ?_ | refine DS.rcS inferInstance (hfree) yR yX2 ?_ | refine DS.rcS inferInstance (he) yR yX2 ?_ | fail)
        all_goals first | (exfalso; omega) | skip
        refine DS.retA yG ⟨rfl, met, ps, H.1, rfl, fun h => by simp at h, fun _ i h h' => by simp⟩
      · have hnx : round + 1 < rs.length := by omega
        have hf2 : zfs (rs[round + 1]'hnx) (ps[round + 1]'(hps ▸ hnx)).rows = rs[round + 1]'hnx := by rw [hrest (round + 1) (by omega) (hps ▸ hnx), zri]
        have ih := go1_dc hs ha hsz hrl hrs n S met steps ps (round + 1) s hps hnx (fun i hi h => hrest i (by omega) h) hsym (by rw [hf2]; have := zug hnx; simp only [List.length_nil] at hn; omega) (fun i h => by have := hT i h; omega)
        rw [hf2] at ih
        rw [srch, if_neg hend, List.getD_eq_getElem?_getD, List.getElem?_eq_getElem hnx, Option.getD_some]
        clear s hrs hrest hsym hn hT hps hf2
        refine DC.of_run Try.func60 rfl Try.ntmps60 Try.results60 (by simp) (fun _ => ?_); simp only [zaq, zas, go_sem, Nat.zero_add, Nat.reduceAdd]
        repeat' (first | (with_reducible first | refine DS.fltS yU yU yX1 ?_ | refine DS.opsNil ?_ | refine DS.seq ?_ | refine DS.regionL ?_) | (with_reducible refine DS.cE yX1 ?_; first | with_reducible refine CG.p (fun _ => ?_) (fun _ => ?_) | with_reducible refine CG.yes ?_) | with_reducible refine DS.skip ?_ | refine DS.rcS inferInstance (hfree) yR yX2 ?_ | fail)
        all_goals first | (exfalso; omega) | skip
        refine DS.callA inferInstance ih yR (by simp (disch := omega) only [go_sem, dopV, Option.map_some, Option.map_none, Option.bind_some, Option.bind_none, ↓reduceIte, Nat.reduceEqDiff, Nat.reduceLT, Nat.reduceLeDiff, Nat.reduceAdd, Nat.reduceMul, Nat.reduceSub, Nat.zero_add, Nat.add_zero, Nat.zero_le, Nat.zero_mul, Nat.mul_one, Nat.one_mul, Int.natCast_zero, Int.toNat_zero, Int.reduceToNat, Int.reduceLT, Int.reduceLE, Int.reduceEq, decide_true, decide_false, true_and, and_true, Bool.and_self, Bool.and_true, Bool.true_and, Bool.not_true, Bool.not_false, IntWalk.toNatUp, IntWalk.iteOmega, IntWalk.i64_in, Option.isSome_some, not_true_eq_false, not_false_eq_true, Option.getD_some, Option.getD_none, Int.toNat_natCast, List.length_map, List.getElem?_map, List.getElem?_eq_getElem, V.flat, V.one, List.all_cons, List.all_nil, *, Int.natCast_add, Int.natCast_one]) (fun u S' hu => ?_)
        obtain ⟨rfl, hu2⟩ := hu
        repeat' (first | (with_reducible first | refine DS.fltS yU yU yE ?_ | refine DS.opsNil ?_) | fail)
        refine DS.retA yG ⟨rfl, hu2⟩
    | cons f fr =>
      generalize hres : srch c.size.toNat budget rs (n + 1) met round (f :: fr) steps = res
      rw [srch] at hres
      obtain ⟨k, hk⟩ : ∃ k : Nat, (k : Int) = c.size - 1 := ⟨(c.size - 1).toNat, by omega⟩
      have hk2 : c.size.toNat - 1 = k := by omega
      rw [hk2, zpb] at hres
      have hmem : ∀ a ∈ f :: fr, a ∈ rs[round] := fun a h => by rw [← hids] at h; exact (List.mem_filter.1 h).1
      have hlen : (f :: fr).length ≤ 40 := by rw [← hids]; exact Nat.le_trans (List.length_filter_le _ _) hrr.1
      have hm1 := more_rc S hs s.obj s.mat k [f] fr (by omega) (by simp at hlen; omega) (by simp; omega) (fun a h => hrr.2.2 a (hmem a (by simp at h; simp [h]))) (fun a h => hrr.2.2 a (hmem a (List.mem_cons_of_mem _ h)))
      rw [hk] at hm1
      have hXl := znh (zcm met) k [f] fr
      have H := And.intro hres (And.intro hmem hids)
      clear hres hmem hids
      refine DC.of_run Try.func60 rfl Try.ntmps60 Try.results60 (by simp) (fun _ => ?_); simp only [zaq, zas, go_sem, Nat.zero_add, Nat.reduceAdd]
      repeat' (first | (with_reducible first | refine DS.fltS yU yU yX14 ?_ | refine DS.opsNil ?_ | refine DS.seq ?_ | refine DS.regionL ?_) | (with_reducible refine DS.cE yX14 ?_; with_reducible refine CG.p (fun _ => ?_) (fun _ => ?_)) | (with_reducible first | refine DS.block ?_ | refine DS.skip ?_) | refine DS.rcS inferInstance (hfree) yR yX15 ?_ | refine DS.rcS inferInstance (hm1) yR yX15 ?_ | refine DS.drawL (id := 6) [0, 1, 2, 3, 4, 5, 6, 7, 8, 9, 10] 11 (by kernel_rfl) zdb (by simp only [zay, zbf, zbg, zbh, zax]; exact rfl) (by simp only [zat, zau, List.drop_nil]; exact rfl) ?_ | (with_reducible first | refine DD.fltS yU yU yU yX14 ?_ | refine DD.nil0 ?_) | fail)
      all_goals first | (exfalso; omega) | skip
      have hXs := zqx (zcm met) k [f] fr
      have hXp := zot met k [f] fr (by simp)
      have hXm := zng (zcm met) k [f] fr
      have hXl2 : (zfj (zcm met) k [f] fr).length ≤ 41 ^ 3 := Nat.le_trans hXl (Nat.le_trans (Nat.pow_le_pow_left (show fr.length + 1 ≤ 41 by simp at hlen; omega) _) (Nat.pow_le_pow_right (by omega) (by omega)))
      have hres := H.1
      have hids := H.2.2
      have hmem := H.2.1
      clear H hm1 hXl
      generalize zfj (zcm met) k [f] fr = X at *
      have hndf : (f :: fr).Nodup := by rw [← hids]; exact hrr.2.1.filter _
      have H := And.intro hXs (And.intro hXp (And.intro hXm (And.intro hids (And.intro hmem hndf))))
      clear hXs hXp hXm hids hmem hndf
      refine DS.loopS [0, 1, 5, 6] (by (simp only [go_sem, Nat.reduceEqDiff, ↓reduceIte]; exact rfl)) (fun (x : Nat × Sto × Int × List PRow) => [(7, I x.1)]) (fun (x : Nat × Sto × Int × List PRow) => x.2.1) (fun (x : Nat × Sto × Int × List PRow) => x.1 ≤ X.length ∧ SearchR x.2.1 bx bp c rs bs budget x.2.2.1 met x.2.2.2 ∧ x.2.2.2.length = ps.length ∧ (∀ (i : Nat) (h : i < ps.length) (h' : i < x.2.2.2.length), x.2.2.2[i].rows = ps[i].rows) ∧ tryL budget round (fun t s => srch c.size.toNat budget rs n (zii met t) round ((f :: fr).filter fun id => !decide (id ∈ t)) s) ((X.drop x.1).map ([f] ++ ·)) x.2.2.1 = res) (fun (x : Nat × Sto × Int × List PRow) => X.length - x.1) (0, S, steps, ps) yS (fun b o e => by exact e) ⟨Nat.zero_le _, s, rfl, fun _ _ _ => rfl, hres⟩ (fun x B hI hB => ?_); try dsimp only at hI hB; simp only [zap, zar]
      obtain ⟨j, S1, st1, ps1⟩ := x
      dsimp only at hI hB
      obtain ⟨g1, g2, g3, g4, g5⟩ := hI
      have hx1 := g2.obj
      have G := And.intro g2 (And.intro g4 g5)
      have Kp := And.intro hrest (And.intro hn (And.intro hT (And.intro hrs hsym)))
      clear g2 g4 g5 hres s hx hrs hrest hn hT hfree hsym
      simp only [zap, zar]
      have hr1 : round < ps1.length := g3 ▸ hr'
      repeat' (first | (with_reducible first | refine DS.fltS yU yU yX1 ?_ | refine DS.opsNil ?_ | refine DS.seq ?_ | refine DS.regionL ?_) | (with_reducible refine DS.cE yX1 ?_; with_reducible refine CG.p (fun _ => ?_) (fun _ => ?_)) | (with_reducible first | refine DS.block ?_ | refine DS.exit yU ?_ | refine DS.skip ?_) | (refine DS.store yR yX1 yX1 yX1 yX1 yU (by exact ⟨by with_unfolding_all rfl, by (try simp only [List.length_map, List.length_append, List.length_set, List.length_replicate, List.length_cons, List.length_nil]); omega⟩) ?_; simp only [zbu, zaw, zbd, zcf, zbq, zbn, zbr]; try simp only [zal, zac, zae, Nat.reduceEqDiff, ↓reduceIte, zag, zah, zao, zaf, zaj, zam, zai]) | refine DS.drawL (id := 10) [0, 1, 2, 3, 4, 5, 6, 7] 8 (by kernel_rfl) zdb (by simp only [zay, zbf, zbg, zbh, zax]; exact rfl) (by simp only [zat, zau, List.drop_nil]; exact rfl) ?_ | refine DS.drawL (id := 13) [0, 1, 2, 4, 5, 6, 7, 3] 8 (by kernel_rfl) zdb (by simp only [zay, zbf, zbg, zbh, zax]; exact rfl) (by simp only [zat, zau, List.drop_nil]; exact rfl) ?_ | (with_reducible first | refine DD.fltS yU yU yU yX1 ?_ | refine DD.nil0 ?_) | (refine DD.bslS yU yX1 yX1 ?_; simp only [go_sem, Nat.zero_add, Nat.reduceAdd]; simp only [zbs, zby, Nat.reduceEqDiff, ↓reduceIte]) | fail)
      · rename_i e1 e2
        have e3 : res = (3, st1, []) := by
          rw [← G.2.2, List.drop_eq_getElem_cons (show j < X.length by omega), List.map_cons, tryL, if_pos e2]
        rw [e3]
        refine DS.retA yG ⟨rfl, met, ps1, G.1, g3, fun h => by simp at h, fun h => by simp at h⟩
      · rename_i e1 e2
        have hj : j < X.length := by omega
        have hk3 := (H.2.2.1 _ (List.getElem_mem hj)).1
        have g6 := G.1.steps (w64 (st1 + 1)) (l := sC c rs bp ps1.length (mtV bs c.members.length) budget (w64 (st1 + 1))) rfl
        refine DS.reS (S' := setS bx (.cells (sC c rs bp ps1.length (mtV bs c.members.length) budget (w64 (st1 + 1))) TS) S1) (fun b o e => by rw [g3.trans hps] at e; exact e) ?_
        generalize setS bx (.cells (sC c rs bp ps1.length (mtV bs c.members.length) budget (w64 (st1 + 1))) TS) S1 = S2 at *
        repeat' (first | (with_reducible first | refine DS.fltS yU yU yX1 ?_ | refine DS.opsNil ?_ | refine DS.seq ?_ | refine DS.regionL ?_) | (refine DS.append (mm := false) yU yX1 yX1 yU (by decide) yX1 (by first | exact .inl rfl | exact .inr ⟨rfl, rfl⟩) yX1 yX3 (by first | exact zan zcw _ | exact zan zdg _ | exact zan Member.len _ | exact zan Sitting.len _ | exact zan Ruling.len _ | (simp only [List.mem_cons, List.not_mem_nil, or_false, forall_eq]; rfl) | simp) ⟨by (try simp only [List.length_map, List.length_cons, List.length_nil, List.length_append, List.length_take, List.length_drop]); omega, by decide⟩ ?_; simp only [zal, zac, zae, Nat.reduceEqDiff, ↓reduceIte, zag, zah, zao, zaf, zaj, zam, zai]) | fail)
        have htab : ([f] ++ X[j]).Sublist (f :: fr) := (H.1 _ (List.getElem_mem hj)).cons_cons f
        have hmk := mark_dc S2 hs ha g6.nd g6.xb g6.obj g6.mat ([f] ++ X[j]) true (fun a h => hrr.2.2 a (H.2.2.2.2.1 a (htab.subset h))) (htab.nodup H.2.2.2.2.2) (by simp; omega)
        refine DS.callA inferInstance hmk yR (by simp (disch := omega) only [go_sem, dopV, Option.map_some, Option.map_none, Option.bind_some, Option.bind_none, ↓reduceIte, Nat.reduceEqDiff, Nat.reduceLT, Nat.reduceLeDiff, Nat.reduceAdd, Nat.reduceMul, Nat.reduceSub, Nat.zero_add, Nat.add_zero, Nat.zero_le, Nat.zero_mul, Nat.mul_one, Nat.one_mul, Int.natCast_zero, Int.toNat_zero, Int.reduceToNat, Int.reduceLT, Int.reduceLE, Int.reduceEq, decide_true, decide_false, true_and, and_true, Bool.and_self, Bool.and_true, Bool.true_and, Bool.not_true, Bool.not_false, IntWalk.toNatUp, IntWalk.iteOmega, IntWalk.i64_in, Option.isSome_some, not_true_eq_false, not_false_eq_true, Option.getD_some, Option.getD_none, Int.toNat_natCast, List.length_map, List.getElem?_map, List.getElem?_eq_getElem, V.flat, V.one, List.all_cons, List.all_nil, *, ints, List.map_append]) (fun u S3 hu => ?_)
        have g7 := g6.marked hu.1 hu.2
        clear hmk hu g6 hx1
        have hx3 := g7.obj
        have hp3 := g7.pln
        obtain ⟨p, hp⟩ : ∃ p, p = ps1[round] := ⟨_, rfl⟩
        have hrow := g7.row round hr1
        rw [← hp] at hrow
        have hpc : (ps1.map PRow.cell)[round]? = some p.cell := by rw [List.getElem?_map, List.getElem?_eq_getElem hr1, ← hp]; rfl
        obtain ⟨S0, Sr, k0, k1, k2, k3⟩ := PRow.split hrow
        have hx0 : zaa S0 bx = _ := (k3 bx fun cap jk h => (g7.rx round hr1 bx cap jk (hp ▸ h)).1 rfl).1.trans hx3
        have hp0 : zaa S0 bp = _ := (k3 bp fun cap jk h => (g7.rx round hr1 bp cap jk (hp ▸ h)).2.1 rfl).1.trans hp3
        have hpr : p.rows.length + (n + 1) ≤ 10000 := by rw [hp, G.2.1 round hr' hr1]; exact Kp.2.2.1 round hr'
        subst hp
        have Kq := And.intro hrow (And.intro k3 (And.intro k2 (And.intro g7 hpr)))
        clear hx3 hp3 hrow k3 g7 k2 hpc
        repeat' (first | (with_reducible first | refine DS.opsNil ?_ | refine DS.seq ?_) | fail)
        refine DS.drawLS (id := 15) (S0) (Sr) [0, 1, 2, 3, 4, 5, 6, 7, 8, 9, 10, 11, 12, 13, 14] 15 (by kernel_rfl) zdb (by simp only [zay, zbf, zbg, zbh, zax]; exact rfl) (by simp only [zat, zau, List.drop_nil]; exact rfl) (k0) (k1) ?_
        repeat' (first | with_reducible refine DD.fltS yU yU yU yX16 ?_ | (refine DD.bslS yU yX16 yX16 ?_; simp only [go_sem, Nat.zero_add, Nat.reduceAdd]; simp only [zbs, zby, Nat.reduceEqDiff, ↓reduceIte]) | fail)
        refine DD.last rfl rfl rfl yR (OpS.appRow (p := ps1[round]'hr1) (tab := [f] ++ X[j]) rfl yT yT yR yR yT Kq.2.2.1 yT yX17 ⟨by omega, by decide⟩) (fun u2 E' S4 hu2 hdis => ?_)
        obtain ⟨rfl, b', cap', junk', rfl, m1, m2, m3⟩ := hu2
        have g8 := Kq.2.2.2.1.appended hr1 rfl Kq.2.1 hdis m1 m2 m3
        have hbp4 := g8.1
        clear m1 m2 m3 hdis hx0 hp0 k0 k1
        simp only [PRow.cell_some, zcz]
        repeat' (first | (with_reducible first | refine DS.fltS yU yU yX1 ?_ | refine DS.opsNil ?_ | refine DS.seq ?_ | refine DS.regionL ?_) | (refine DS.store yR yX1 yX1 yX1 yX1 yU (by exact ⟨by with_unfolding_all rfl, by (try simp only [List.length_map, List.length_append, List.length_set, List.length_replicate, List.length_cons, List.length_nil]); omega⟩) ?_; simp only [zbu, zaw, zbd, zcf, zbq, zbn, zbr]; try simp only [zal, zac, zae, Nat.reduceEqDiff, ↓reduceIte, zag, zah, zao, zaf, zaj, zam, zai]) | fail)
        have hrow1 := G.2.1 round hr' hr1
        refine DS.reS (S' := setS bp (.cells ((ps1.map PRow.cell).set round (.v (.slice (some ⟨b', 0, none⟩) ((ps1[round]'hr1).rows ++ [[f] ++ X[j]]).length cap'))) 35) (S4 ++ S0)) (fun b o e => by rw [hrow1] at e; exact e) ?_
        have g9 := g8.2
        clear g8 hbp4
        generalize setS bp (.cells ((ps1.map PRow.cell).set round (.v (.slice (some ⟨b', 0, none⟩) ((ps1[round]'hr1).rows ++ [[f] ++ X[j]]).length cap'))) 35) (S4 ++ S0) = S5 at *
        have hr5 : round < (ps1.set round ⟨(ps1[round]'hr1).rows ++ [[f] ++ X[j]], some (b', cap', junk')⟩).length := by simpa using hr1
        have hrow5 : ((ps1.set round ⟨(ps1[round]'hr1).rows ++ [[f] ++ X[j]], some (b', cap', junk')⟩)[round]'hr5).rows = (ps1[round]'hr1).rows ++ [[f] ++ X[j]] := by rw [List.getElem_set_self]
        have hfree5 : zfs rs[round] ((ps1.set round ⟨(ps1[round]'hr1).rows ++ [[f] ++ X[j]], some (b', cap', junk')⟩)[round]'hr5).rows = (f :: fr).filter fun id => !decide (id ∈ [f] ++ X[j]) := by
          rw [hrow5, freeS_append, hrow1, H.2.2.2.1]
        have hlt5 : ((f :: fr).filter fun id => !decide (id ∈ [f] ++ X[j])).length ≤ fr.length := by
          rw [List.filter_cons, if_neg (by simp)]; exact List.length_filter_le _ _
        have ih := go1_dc hs ha hsz hrl Kp.2.2.2.1 n S5 (zln met ([f] ++ X[j]) true) (w64 (st1 + 1)) (ps1.set round ⟨(ps1[round]'hr1).rows ++ [[f] ++ X[j]], some (b', cap', junk')⟩) round g9 (by rw [List.length_set]; exact g3.trans hps) hr
          (fun i hi h => by
            have h' : i < ps1.length := by simpa using h
            rw [List.getElem_set_ne (by omega), G.2.1 i (g3 ▸ h') h']; exact Kp.1 i hi _)
          (markB_sym Kp.2.2.2.2)
          (by rw [hfree5]; have := Kp.2.1; simp only [mzS, List.length_cons] at this ⊢; omega)
          (fun i h => by
            have h' : i < ps1.length := by simpa using h
            by_cases hir : round = i
            · subst hir; rw [hrow5, hrow1]; have := Kp.2.2.1 round hr'; simp only [List.length_append, List.length_cons, List.length_nil]; omega
            · rw [List.getElem_set_ne hir, G.2.1 i (g3 ▸ h') h']; have := Kp.2.2.1 i (g3 ▸ h'); omega)
        rw [hfree5] at ih
        have Kr := And.intro g9 (And.intro hrow1 (And.intro hrow5 hfree5))
        clear g9 hrow1 hrow5 hfree5
        refine DS.callA inferInstance ih yR yT (fun u3 S6 hu3 => ?_)
        obtain ⟨rfl, met2, ps2, g10, g11, g12, g13⟩ := hu3
        generalize hr2 : srch c.size.toNat budget rs n (zln met ([f] ++ X[j]) true) round ((f :: fr).filter fun id => !decide (id ∈ [f] ++ X[j])) (w64 (st1 + 1)) = res2 at *
        have htry : tryL budget round (fun t s => srch c.size.toNat budget rs n (zii met t) round ((f :: fr).filter fun id => !decide (id ∈ t)) s) ((X.drop j).map ([f] ++ ·)) st1 =
            if res2.1 = 2 then tryL budget round (fun t s => srch c.size.toNat budget rs n (zii met t) round ((f :: fr).filter fun id => !decide (id ∈ t)) s) ((X.drop (j + 1)).map ([f] ++ ·)) res2.2.1 else (res2.1, res2.2.1, (round, [f] ++ X[j]) :: res2.2.2) := by
          rw [List.drop_eq_getElem_cons hj, List.map_cons, tryL, if_neg e2]
          simp only [markS_eq, hr2]
        have Ks := And.intro g10 (And.intro g12 (And.intro g13 (And.intro hr2 htry)))
        clear g10 g12 g13 hr2 htry ih
        have hlen2 : ps2.length = ps1.length := by rw [g11, List.length_set]
        clear g11
        have g5r : ∀ (i : Nat) (h : i < ps1.length) (h' : i < (ps1.set round ⟨(ps1[round]'hr1).rows ++ [[f] ++ X[j]], some (b', cap', junk')⟩).length), ((ps1.set round ⟨(ps1[round]'hr1).rows ++ [[f] ++ X[j]], some (b', cap', junk')⟩)[i]'h').rows = if round = i then (ps1[round]'hr1).rows ++ [[f] ++ X[j]] else (ps1[i]'h).rows := fun i h h' => by
          rw [List.getElem_set]; split <;> rfl
        have Kt := g5r
        clear g5r
        repeat' (first | (with_reducible first | refine DS.fltS yU yU yE ?_ | refine DS.opsNil ?_ | refine DS.seq ?_ | refine DS.regionL ?_ | (refine DS.cE yE ?_; refine CG.np (fun _ => ?_) (fun _ => ?_)) | refine DS.skip ?_) | fail)
        · rename_i e3
          have e4 : res = (res2.1, res2.2.1, (round, [f] ++ X[j]) :: res2.2.2) := by rw [← G.2.2, Ks.2.2.2.2, if_neg e3]
          rw [e4]
          refine DS.retA yG ⟨rfl, met2, ps2, Ks.1, hlen2.trans g3, fun h => absurd h e3, fun h i h1 h2 => ?_⟩
          have hi1 : i < ps1.length := g3 ▸ h1
          rw [Ks.2.2.1 h i (by simpa using hi1) h2, Kt i hi1 (by simpa using hi1)]
          by_cases hir : round = i
          · subst hir
            rw [if_pos rfl, G.2.1 round h1 hi1, List.filter_cons, if_pos (by simp)]; simp
          · rw [if_neg hir, G.2.1 i h1 hi1, List.filter_cons, if_neg (by simpa using hir)]
        · rename_i e3
          obtain ⟨rfl, hrows2⟩ := Ks.2.1 e3
          have hr2' : round < ps2.length := hlen2 ▸ hr1
          have hrow2 := hrows2 round hr5 hr2'
          rw [Kt round hr1 hr5, if_pos rfl] at hrow2
          have hok2 := Ks.1.row round hr2'
          obtain ⟨b6, cap6, junk6, hblk⟩ : ∃ b6 cap6 junk6, (ps2[round]'hr2').blk = some (b6, cap6, junk6) := by
            generalize ps2[round]'hr2' = p2 at hok2 hrow2
            obtain ⟨T2, blk2⟩ := p2
            cases blk2 with
            | none => simp only [PRow.Ok] at hok2; subst hok2; simp at hrow2
            | some x => exact ⟨x.1, x.2.1, x.2.2, rfl⟩
          have hp2e : ps2[round]'hr2' = ⟨(ps1[round]'hr1).rows ++ [[f] ++ X[j]], some (b6, cap6, junk6)⟩ := by
            generalize ps2[round]'hr2' = p2 at hblk hrow2
            obtain ⟨T2, blk2⟩ := p2
            dsimp only at hblk hrow2; rw [hblk, hrow2]
          rw [hp2e] at hok2
          obtain ⟨o1, o2, o3, o4⟩ := hok2
          obtain ⟨ℓ, hℓ⟩ : ∃ ℓ, ℓ = (ps1[round]'hr1).rows.length := ⟨_, rfl⟩
          have hc6 : (ps2[round]'hr2').cell = .v (.slice (some ⟨b6, 0, none⟩) (ℓ + 1) cap6) := by rw [hp2e, PRow.cell_some, hℓ]; simp
          have hlc : ℓ + 1 ≤ cap6 := by rw [List.length_append, List.length_singleton] at o2; omega
          have hx6 := Ks.1.obj
          have hp6 := Ks.1.pln
          have Ku := Box.mk (And.intro hp2e (And.intro hblk (And.intro o1 (And.intro o2 (And.intro o3 (And.intro o4 hrows2))))))
          clear hp2e hblk o1 o2 o3 o4 hrows2 hrow2
          have hℓ2 : ℓ ≤ 10000 := by rw [hℓ, (G.2.1 round hr' hr1)]; have := Kp.2.2.1 round hr'; omega
          have Kv := Box.mk hℓ
          clear hℓ
          repeat' (first | (with_reducible first | refine DS.fltS yU yU yX16 ?_ | refine DS.opsNil ?_ | refine DS.regionL ?_) | (refine DS.store yR yX16 yX16 yX16 yX16 yU (by exact ⟨by with_unfolding_all rfl, by (try simp only [List.length_map, List.length_append, List.length_set, List.length_replicate, List.length_cons, List.length_nil]); omega⟩) ?_; simp only [zbu, zaw, zbd, zcf, zbq, zbn, zbr]; try simp only [zal, zac, zae, Nat.reduceEqDiff, ↓reduceIte, zag, zah, zao, zaf, zaj, zam, zai]) | refine DS.drawL (id := 19) [0, 1, 2, 3, 4, 5, 6, 7, 8, 9, 10, 11, 12, 13, 14, 15, 16, 17, 18, 19, 20, 21] 22 (by kernel_rfl) zdb (by simp only [zay, zbf, zbg, zbh, zax]; exact rfl) (by simp only [zat, zau, List.drop_nil]; exact rfl) ?_ | (with_reducible first | refine DD.fltS yU yU yU yX16 ?_ | refine DD.nil0 ?_) | fail)
          refine DS.reS (S' := setS bp (.cells ((ps2.map PRow.cell).set round (.v (.slice (some ⟨b6, 0, none⟩) (ps1[round]'hr1).rows.length cap6))) 35) S6) (fun b o e => by rw [← Kv.out] at e; exact e) ?_
          have hbp6 : b6 ≠ bp := (Ks.1.rx round hr2' b6 cap6 junk6 Ku.out.2.1).2.1
          have g14 : SearchR (setS bp (.cells ((ps2.map PRow.cell).set round (.v (.slice (some ⟨b6, 0, none⟩) (ps1[round]'hr1).rows.length cap6))) 35) S6) bx bp c rs bs budget res2.2.1 (zln met ([f] ++ X[j]) true) (ps2.set round ⟨(ps1[round]'hr1).rows, some (b6, cap6, ints ([f] ++ X[j]) :: junk6)⟩) := by
            refine Ks.1.turn hr2' (.inl ⟨cap6, junk6, Ku.out.2.1⟩) ⟨?_, ?_, Ku.out.2.2.2.2.1, ?_⟩ ?_ fun b e4 e5 e6 => ?_
            · rw [zba Ks.1.pln, if_neg hbp6, Ku.out.2.2.1]; simp
            · have := Ku.out.2.2.2.1; simp only [List.length_append, List.length_cons, List.length_nil] at this ⊢; omega
            · intro v hv
              rcases List.mem_cons.1 hv with rfl | hv
              · rfl
              · exact Ku.out.2.2.2.2.2.1 v hv
            · rw [zba Ks.1.pln, if_pos rfl]
            · rw [zba Ks.1.pln, if_neg e4]
          generalize setS bp (.cells ((ps2.map PRow.cell).set round (.v (.slice (some ⟨b6, 0, none⟩) (ps1[round]'hr1).rows.length cap6))) 35) S6 = S7 at *
          have hmk2 := mark_dc S7 hs ha g14.nd g14.xb g14.obj g14.mat ([f] ++ X[j]) false (fun a h => hrr.2.2 a (H.2.2.2.2.1 a (htab.subset h))) (htab.nodup H.2.2.2.2.2) (by simp; omega)
          refine DS.callA inferInstance hmk2 yR yX18 (fun u4 S8 hu4 => ?_)
          have g15 := g14.marked hu4.1 hu4.2
          rw [markB_back (H.2.1 _ (List.getElem_mem hj)) Kp.2.2.2.2] at g15
          have hrows8 : ∀ (i : Nat) (h : i < ps.length) (h' : i < (ps2.set round ⟨(ps1[round]'hr1).rows, some (b6, cap6, ints ([f] ++ X[j]) :: junk6)⟩).length), ((ps2.set round ⟨(ps1[round]'hr1).rows, some (b6, cap6, ints ([f] ++ X[j]) :: junk6)⟩)[i]'h').rows = (ps[i]'h).rows := fun i h h' => by
            have hi1 : i < ps1.length := g3 ▸ h
            have hi2 : i < ps2.length := by simpa using h'
            rw [List.getElem_set]
            by_cases hir : round = i
            · subst hir; rw [if_pos rfl]; exact G.2.1 round h hi1
            · rw [if_neg hir, Ku.out.2.2.2.2.2.2 i (by simpa using hi1) hi2, Kt i hi1 (by simpa using hi1), if_neg hir]; exact G.2.1 i h hi1
          have htry2 : tryL budget round (fun t s => srch c.size.toNat budget rs n (zii met t) round ((f :: fr).filter fun id => !decide (id ∈ t)) s) ((X.drop (j + 1)).map ([f] ++ ·)) res2.2.1 = res := by
            rw [← G.2.2, Ks.2.2.2.2, if_pos e3]
          clear Ku Kv Kt Ks Kr hc6 hx6 hp6 hmk2 g14 hu4 Kq
          repeat' (first | (with_reducible first | refine DS.fltS yU yU yE ?_ | refine DS.opsNil ?_ | refine DS.regionL ?_ | refine DS.blk ?_) | fail)
          exact DS.back (hB (j + 1, S8, res2.2.1, ps2.set round ⟨(ps1[round]'hr1).rows, some (b6, cap6, ints ([f] ++ X[j]) :: junk6)⟩) _ _ (by simp; omega) ⟨by simp; omega, g15, by rw [List.length_set]; exact hlen2.trans g3, hrows8, htry2⟩ yS yS (fun b o e => by exact e))
      · rename_i e1
        have e3 : res = (2, st1, []) := by
          rw [← G.2.2, List.drop_eq_nil_of_le (by omega)]; rfl
        rw [e3]
        refine DS.retA yG ⟨rfl, met, ps1, G.1, g3, fun _ => ⟨rfl, fun i h h' => G.2.1 i h h'⟩, fun h => by simp at h⟩
end Go.XL
namespace Go.XL
open Go.Proofs
set_option maxRecDepth 100000
set_option maxHeartbeats 4000000
theorem metT_le (a b : Int) : ∀ l : List (List Int), metT a b l ≤ l.length
  | [] => Nat.le_refl _
  | t :: r => by
    have := metT_le a b r
    simp only [metT, List.length_cons]; split <;> omega
theorem met_pc (c : Club) (hs : c.Small) (a b : Int) : PC Try.prog 97 [c.val, I a, I b] (I (metS c a b)) := by
  have q1 := hs.rounds
  refine DC.of_run Try.func97 rfl Try.ntmps97 Try.results97 (by simp) (fun _ => ?_); simp only [zaq, zas, go_sem, Nat.zero_add, Nat.reduceAdd]
  repeat' (first | (with_reducible first | refine DS.fltS yU yU yE ?_ | refine DS.opsNil ?_ | refine DS.seq ?_ | refine DS.regionL ?_ | refine DS.block ?_) | (refine DS.boxF (t := 3) yU yE yU ?_; simp only [zbp, zcj, zbo, zcc, zbl, zbi, zbw, zbm, zcl, zci, zbz, zch, zcb, zca]) | fail)
  refine DS.loopK [1, 2, 3] (by (simp only [go_sem, Nat.reduceEqDiff, ↓reduceIte]; exact rfl)) (fun (i : Nat × Nat) => [(7, I i.2), (8, I i.1)]) (fun (i : Nat × Nat) => i.1 ≤ c.rounds.length ∧ i.2 ≤ 1000000 * i.1 ∧ i.2 + zmd a b (c.rounds.drop i.1) = metS c a b) (fun (i : Nat × Nat) => c.rounds.length - i.1) (0, 0) yS (by simp [metS]) (fun i B hI hB => ?_); try dsimp only at hI hB; simp only [zap, zar]
  repeat' (first | (with_reducible first | refine DS.fltS yU yU yE ?_ | refine DS.opsNil ?_ | refine DS.seq ?_ | refine DS.regionL ?_ | (refine DS.cE yE ?_; refine CG.p (fun _ => ?_) (fun _ => ?_)) | refine DS.block ?_ | refine DS.exit yU ?_ | refine DS.skip ?_) | refine DS.retT [] yE trivial ?_ | fail)
  · rename_i e1
    have hi : i.1 < c.rounds.length := by omega
    have q2 := (hs.at hi).tables
    have q3 := metT_le a b c.rounds[i.1].tables
    have hB0 := hB
    have hI0 := hI
    clear hB hI
    refine DS.loopK [1, 2, 3, 8] (by (simp only [go_sem, Nat.reduceEqDiff, ↓reduceIte]; exact rfl)) (fun (k : Nat × Nat) => [(7, I k.2), (9, I k.1)]) (fun (k : Nat × Nat) => k.1 ≤ c.rounds[i.1].tables.length ∧ k.2 + metT a b (c.rounds[i.1].tables.drop k.1) = i.2 + metT a b c.rounds[i.1].tables) (fun (k : Nat × Nat) => c.rounds[i.1].tables.length - k.1) (0, i.2) yS (by simp) (fun k B hI hB => ?_); try dsimp only at hI hB; simp only [zap, zar]
    repeat' (first | (with_reducible first | refine DS.fltS yU yU yE ?_ | refine DS.opsNil ?_ | refine DS.seq ?_ | refine DS.regionL ?_ | (refine DS.cE yE ?_; first | refine CG.p (fun _ => ?_) (fun _ => ?_) | refine CG.no ?_) | (refine DS.gE yU yE ?_; first | refine GG.npT (fun _ => ?_) (fun _ => ?_) | refine GG.pT (fun _ => ?_) (fun _ => ?_) | refine GG.run ?_ | refine GG.sF ?_) | refine DS.blk ?_ | refine DS.block ?_ | refine DS.exit yU ?_ | refine DS.skip ?_) | refine DS.pcS inferInstance (has_pc _ _) yR yT ?_ | fail)
    · rename_i e2 e3 e4 e5
      obtain ⟨_, r, dr1, rfl, dr3⟩ := zcg (l := c.rounds[i.1].tables) (i := k.1) (by omega); rw [dr1] at hI
      exact DS.back (hB (k.1 + 1, k.2 + 1) _ _ (by simp; omega) (⟨by simp; omega, by rw [← hI.2, dr3, metT, if_pos ⟨e3, e4, e5⟩]; simp; omega⟩) yS yS (fun b o e => by first | exact e | (simp only [zab]; split <;> simp_all)))
    · rename_i e2 e3 e4 e5
      obtain ⟨_, r, dr1, rfl, dr3⟩ := zcg (l := c.rounds[i.1].tables) (i := k.1) (by omega); rw [dr1] at hI
      exact DS.back (hB (k.1 + 1, k.2) _ _ (by simp; omega) (⟨by simp; omega, by rw [← hI.2, dr3, metT, if_neg (fun h => e5 h.2.2)]; simp⟩) yS yS (fun b o e => by first | exact e | (simp only [zab]; split <;> simp_all)))
    · rename_i e2 e3 e4
      obtain ⟨_, r, dr1, rfl, dr3⟩ := zcg (l := c.rounds[i.1].tables) (i := k.1) (by omega); rw [dr1] at hI
      exact DS.back (hB (k.1 + 1, k.2) _ _ (by simp; omega) (⟨by simp; omega, by rw [← hI.2, dr3, metT, if_neg (fun h => e4 h.2.1)]; simp⟩) yS yS (fun b o e => by first | exact e | (simp only [zab]; split <;> simp_all)))
    · rename_i e2 e3
      obtain ⟨_, r, dr1, rfl, dr3⟩ := zcg (l := c.rounds[i.1].tables) (i := k.1) (by omega); rw [dr1] at hI
      exact DS.back (hB (k.1 + 1, k.2) _ _ (by simp; omega) (⟨by simp; omega, by rw [← hI.2, dr3, metT, if_neg (fun h => h.1 e3)]; simp⟩) yS yS (fun b o e => by first | exact e | (simp only [zab]; split <;> simp_all)))
    · rename_i e2
      have de1 := zdk (l := c.rounds[i.1].tables) (i := k.1) (by omega); rw [de1] at hI
      have e3 : k.2 = i.2 + metT a b c.rounds[i.1].tables := by rw [← hI.2]; simp [metT]
      have e4 : i.2 + (metT a b c.rounds[i.1].tables + zmd a b (c.rounds.drop (i.1 + 1))) = metS c a b := by
        rw [← hI0.2.2, List.drop_eq_getElem_cons hi]; rfl
      refine DS.back (hB0 (i.1 + 1, k.2) _ _ (by simp; omega) ⟨by simp; omega, by simp; omega, by simp only [e3]; omega⟩ yS yS (fun b o e => by exact e))
  · rename_i e1
    have de1 := zdk (l := c.rounds) (i := i.1) (by omega); rw [de1] at hI
    simp only [zei]; rw [← hI.2.2]; simp [zmd]
end Go.XL
