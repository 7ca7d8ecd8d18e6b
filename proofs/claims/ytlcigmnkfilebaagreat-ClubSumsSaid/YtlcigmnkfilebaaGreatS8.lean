/- A part of a program logic over the kit's walk rules, and contracts of functions in it. Conditions: as each theorem says. -/
import Derived.Test.YtlcigmnkfilebaaGreatS7
import Derived.Test.YtlcigmnkfilebaaGreatRows
import Derived.WideKeyArgs
import Derived.OpenShut
import Derived.WalkKit
import Derived.ProofKit
set_option linter.all false
namespace Go.XL
open Go.Proofs
set_option maxRecDepth 100000
set_option maxHeartbeats 8000000
theorem zwh (junk : List V) (v : Int) : ∀ (d : List Rank) (i : Nat) (h : i < d.length), (rkC d junk).set (i * 5 + 1) (I v) = rkC (d.set i { d[i] with place := v }) junk
 | a :: r, 0, h => by simp [rkC, Rank.cells]
 | a :: r, i + 1, h => by
  have h2 : ∀ r : List Rank, rkC (a :: r) junk = a.cells ++ rkC r junk := fun y => by simp [rkC]
  rw [h2, List.set_append_right _ _ (by rw [Rank.len]; omega), show (i + 1) * 5 + 1 - a.cells.length = i * 5 + 1 by rw [Rank.len]; omega, zwh junk v r i (by simpa using h)]
  simp [h2]
@[go_sem] theorem GR.cell_nil : GR.cell ⟨[], none⟩ = .v (.slice none 0 0) := rfl
@[go_sem] theorem stripO_gr (E : VEnv) (t : Nat) (g : GR) : zms E t (some g.cell) = E := by obtain ⟨l, blk⟩ := g; cases blk <;> rfl
def ypm (n : Nat) : Prop := ∀ (b cap : Nat) (d : Array Rank) (junk : List V), d.size = n → n ≤ cap → (d.toList.map (·.id)).Nodup → DC Tryz.prog 79 [rkI b n cap] (rkS b d.toList junk) (fun u S' => ∃ e : Array Rank, Sort.PermIn 0 n d e ∧ Sort.SortedIn zdi 0 n e ∧ S' = rkS b e.toList junk)
theorem zsk {q s : List Rank} {k : Nat} (hk : k < s.length) (hq : q.length = s.length) {x : Rank} (hx : q[k]? = some x) : (q.take k ++ s.drop k).set k x = q.take (k + 1) ++ s.drop (k + 1) := by
 have hl : (q.take k).length = k := by rw [List.length_take]; omega
 obtain ⟨h1, rfl⟩ := List.getElem?_eq_some_iff.1 hx
 rw [List.set_append_right _ _ (by omega), hl, Nat.sub_self, List.drop_eq_getElem_cons hk, List.set_cons_zero, List.take_succ_eq_append_getElem h1, List.append_assoc, List.singleton_append]
theorem yof {q s : List Rank} {k : Nat} (hk : k < s.length) (hq : q.length = s.length) (h : k < (q.take k ++ s.drop k).length) : (q.take k ++ s.drop k)[k] = s[k] := by
 have hl : (q.take k).length = k := by rw [List.length_take]; omega
 rw [List.getElem_append_right (by omega), List.getElem_drop]
 congr 1; omega
theorem ykm {q s : List Rank} {k : Nat} (hk : k < s.length) (hq : q.length = s.length) (k0 : k ≠ 0) {x : Rank} (h : k - 1 < ((q.take k ++ s.drop k).set k x).length) : ((q.take k ++ s.drop k).set k x)[k - 1] = q[k - 1]'(by omega) := by
 have hl : (q.take k).length = k := by rw [List.length_take]; omega
 rw [List.getElem_set_ne (by omega), List.getElem_append_left (by omega), List.getElem_take]
theorem zrk {s q : List Rank} (hp : zes default 0 s = q) (h : 0 < s.length) : q[0]? = some { s[0] with place := 0 } := by
 have := zrm s default 0 0 h
 rw [hp] at this
 rw [this]; simp
theorem zrl {s q : List Rank} (hp : zes default 0 s = q) {k : Nat} (h : k < s.length) (k0 : k ≠ 0) (h2 : k - 1 < q.length) : q[k]? = some { s[k] with place := if cmpK q[k - 1] s[k] = 0 then q[k - 1].place else (k : Int) } := by
 have := zrm s default 0 k h
 rw [hp] at this
 rw [this]
 simp only [if_neg k0, List.getD_eq_getElem?_getD, List.getElem?_eq_getElem h2, Option.getD_some, Nat.zero_add]
 congr 2
 simp [show 0 < k by omega]
theorem yif {q : List Rank} {j : List V} {n : Nat} (h : q.length = n) : chunk 5 n ((rkC q j).map V.copy) = q.map Rank.cells := by
 have e : (rkC q j).map V.copy = (q.map Rank.cells).flatten ++ j.map V.copy := by
  rw [rkC, List.map_append, List.map_flatten, List.map_map]
  congr 2
 have k := zid (sz := 5) (j := j.map V.copy) (l := q.map Rank.cells) (fun c hc => by obtain ⟨a, -, rfl⟩ := List.mem_map.1 hc; rfl)
 rw [List.length_map, h] at k
 rw [e, k]
theorem yX48 {p : Prop} (h : p := by (simp (disch := omega) only [go_sem, dopV, Option.map_some, Option.map_none, Option.bind_some, Option.bind_none, ↓reduceIte, Nat.reduceEqDiff, Nat.reduceLT, Nat.reduceLeDiff, Nat.reduceAdd, Nat.reduceMul, Nat.reduceSub, Nat.zero_add, Nat.add_zero, Nat.zero_le, Nat.zero_mul, Nat.mul_one, Nat.one_mul, Int.natCast_zero, Int.toNat_zero, Int.reduceToNat, Int.reduceLT, Int.reduceLE, Int.reduceEq, decide_true, decide_false, true_and, and_true, Bool.and_self, Bool.and_true, Bool.true_and, Bool.not_true, Bool.not_false, IntWalk.toNatUp, IntWalk.iteOmega, IntWalk.i64_in, Option.isSome_some, not_true_eq_false, not_false_eq_true, Option.getD_some, Option.getD_none, Int.toNat_natCast, List.length_map, List.getElem?_map, List.getElem?_eq_getElem, V.flat, V.one, List.all_cons, List.all_nil, *, GR.cell_copy]; try exact rfl)) : p := h
theorem yhp (c : Club) (hs : c.Small) (hn : c.members.length ≤ 1000) (hso : ypm c.members.length) (hc : zdf c = 0) (h0 : 0 < c.members.length) : PC Tryz.prog 29 [c.val] (tupV [ysd (zjo c), I 0]) := by
 have hck := zor c hs
 rw [hc] at hck
 generalize hR : zjo c = R
 have HR := Box.mk hR
 clear hR
 refine DC.of_run Tryz.func29 rfl Tryz.ntmps29 Tryz.results29 (by simp) (fun _ => ?_); simp only [zaq, zau, go_sem, Nat.zero_add, Nat.reduceAdd]
 repeat' (first | (with_reducible first | refine zac yU yU yE ?_ | refine zab ?_ | refine DS.seq ?_ | refine zaa ?_ | (refine zbc yE ?_; refine zdk ?_) | refine DS.block ?_ | refine DS.skip ?_) | refine zcb inferInstance (hck) yR yT ?_ | (refine zcz (t := 1) yU yE yU ?_; simp only [zbp, zct, zbn, zce, zbm, zbj, zbx, zbl, zcv, zcr, zca, zcq, zcd, zcc]) | fail)
 refine zco [1, 16, 17] yN (fun (y : Nat × GR) => [(5, y.2.cell), (18, I y.1)]) (fun (y : Nat × GR) => SR 57 y.2) (fun (y : Nat × GR) => y.1 ≤ c.members.length ∧ y.2.l = ((c.members.take y.1).map fun m => (zgh c m).cells) ∧ y.2.Ok 57 5 (SR 57 y.2)) (fun (y : Nat × GR) => c.members.length - y.1) (0, ⟨[], none⟩) yS (fun b o e => by exact e) ⟨Nat.zero_le _, rfl, rfl⟩ (fun y B hI hB => ?_); try dsimp only at hI hB; simp only [zas, zav]
 obtain ⟨i, g⟩ := y
 dsimp only at hI hB ⊢
 obtain ⟨g1, g2, g3⟩ := hI
 by_cases hi : (i : Int) < (c.members.length : Int)
 ·have hi' : i < c.members.length := by omega
  have hrk := yqa c hs hc c.members[i]
  repeat' (first | (with_reducible refine zee (t := 22) yU yO yX21 ?_; simp only [zao, zag, zah, Nat.reduceEqDiff, ↓reduceIte, zal, zam, zar, zak, zai, zap, zan]) | (with_reducible first | refine zac yU yU yX21 ?_ | refine zab ?_ | refine DS.seq ?_ | refine zaa ?_ | (refine zbc yX21 ?_; refine zdh ?_) | refine DS.block ?_ | refine DS.skip ?_) | (refine zff yU yX21 yX21 ?_; simp only [go_sem, Nat.zero_add, Nat.reduceAdd]) | (refine zhj (t := 7) yU yX21 yU (fun _ => yX21) yX21 yU (by exact ⟨by with_unfolding_all rfl, by with_unfolding_all decide⟩) (fun _ => by simp only [go_sem, Nat.reduceEqDiff, ↓reduceIte]) ?_; simp only [go_sem]) | refine zcb inferInstance (hrk) yR yX48 ?_ | fail)
  have hgl : g.l.length = i := by rw [g2, List.length_map, List.length_take]; omega
  refine zej rfl rfl yR (zmi (g := g) (ml := [(zgh c c.members[i]).cells]) rfl yH yH yR yR (by decide) yH g3 yH yH (by exact Nat.zero_lt_succ _) (by intro x hx; obtain rfl := List.mem_singleton.1 hx; rfl) ⟨by rw [hgl, List.length_singleton]; omega, by decide⟩) (fun u2 E' S4 hu2 => ?_)
  obtain ⟨rfl, b', cap', junk', rfl, m1, m2, m3⟩ := hu2
  have hml : g.l ++ [(zgh c c.members[i]).cells].map (fun x => List.map V.copy x) = (c.members.take (i + 1)).map fun m => (zgh c m).cells := by
   rw [g2, List.take_succ_eq_append_getElem hi', List.map_append]; rfl
  rw [hml] at m1 ⊢
  generalize hL : ((c.members.take (i + 1)).map fun m => (zgh c m).cells) = L at m1 ⊢
  refine zfj (S' := SR 57 ⟨L, some (b', cap', junk')⟩) (fun d o e => ?_) ?_
  ·simp only [zaf, zcg, SR] at e
   by_cases c3 : b' = d
   ·subst c3; rw [if_pos rfl] at e; rw [m1.look]; exact e
   ·rw [if_neg c3] at e; cases e
  have m1' : GR.Ok 57 5 (SR 57 ⟨L, some (b', cap', junk')⟩) ⟨L, some (b', cap', junk')⟩ := ⟨by simp [SR, zad], m1.len, m1.le, m1.cap, m1.jf, m1.lf, m1.ll⟩
  have H := Box.mk m1'
  clear m1 m1' m2 m3 g3 hml
  generalize hG : (⟨L, some (b', cap', junk')⟩ : GR) = G at *
  have hGl : G.l = L := by rw [← hG]
  clear hG
  simp only [zdr]
  repeat' (first | (with_reducible refine zee (t := 5) yU yO yE ?_; simp only [zao, zag, zah, Nat.reduceEqDiff, ↓reduceIte, zal, zam, zar, zak, zai, zap, zan]) | (with_reducible first | refine zac yU yU yE ?_ | refine zab ?_ | refine zaa ?_ | refine DS.blk ?_) | fail)
  refine DS.back (hB (i + 1, G) _ _ (by dsimp only; omega) ⟨by dsimp only; omega, by dsimp only; rw [hGl, hL], H.out⟩ yS yS (fun d o e => by exact e))
 ·have hi2 : i = c.members.length := by omega
  subst hi2
  rw [List.take_length] at g2
  clear hB hi g1
  obtain ⟨l, blk⟩ := g
  dsimp only at g2
  cases blk with
  | none =>
   have h : l = [] := g3
   rw [h] at g2
   have := congrArg List.length g2
   simp at this; omega
  | some z =>
   obtain ⟨b, cap, j⟩ := z
   generalize hD : (c.members.map (zgh c)).toArray = D at *
   have hDl : D.toList = c.members.map (zgh c) := by rw [← hD]
   have hDn : D.size = c.members.length := by rw [← hD]; simp
   have hl : l = D.toList.map Rank.cells := by rw [hDl, List.map_map]; exact g2
   have eS : SR 57 ⟨l, some (b, cap, j)⟩ = rkS b D.toList j := by simp only [SR, rkS, rkC, hl]
   have hln : l.length = c.members.length := by rw [hl, List.length_map, Array.length_toList, hDn]
   have hcap : c.members.length ≤ cap := by have := g3.le; omega
   have hcm : cap ≤ maxLen := g3.cap
   rw [eS, GR.cell_some, hln]
   clear eS g3 g2
   obtain ⟨n, hn'⟩ : ∃ n, c.members.length = n := ⟨_, rfl⟩
   have hn'' := hn'
   have hsort := hso b cap D j (by omega) (by omega) (by rw [hDl, List.map_map]; exact zpb hc)
   simp only [hn'] at hn h0 hDn hln hcap hsort ⊢
   repeat' (first | (with_reducible first | refine zac yU yU yE ?_ | refine zab ?_ | refine DS.seq ?_ | refine zaa ?_ | (refine zbc yE ?_; refine zeo (fun _ => ?_) (fun _ => ?_)) | refine DS.block ?_ | refine DS.exit yU ?_ | refine DS.skip ?_) | fail)
   ·exfalso; omega
   refine yoz yR yU (by intro ms h; cases h) yH ?_
   repeat' (first | (with_reducible first | refine zac yU yU yE ?_ | refine zab ?_ | refine DS.seq ?_ | refine zaa ?_) | fail)
   refine zdx inferInstance hsort yR yH (fun u S' hu => ?_)
   obtain ⟨e, he1, he2, rfl⟩ := hu
   repeat' (first | (with_reducible first | refine zac yU yU yE ?_ | refine zab ?_ | refine DS.seq ?_ | refine zaa ?_) | fail)
   have hss : e.toList = zqa (c.members.map (zgh c)) := ypw (by rw [List.map_map]; exact zpb hc) (by rw [List.length_map, hn'']) (by rw [hD]; exact he1) he2
   have hsl : e.toList.length = n := by rw [hss, zxy, List.length_map, hn'']
   generalize hs' : e.toList = s at *
   clear he1 he2
   have HSS := Box.mk hss
   clear hss
   have hln2 := yjf b cap s j
   rw [hsl] at hln2
   refine DS.invoke inferInstance (zzn _ _ _) yH hln2 yR yH (fun u S' hu => ?_)
   obtain ⟨rfl, rfl⟩ := hu
   repeat' (first | (with_reducible first | refine zac yU yU yE ?_ | refine zab ?_ | refine DS.block ?_) | fail)
   refine zco [5, 34] yN (fun (k : Nat) => [(35, I k)]) (fun (k : Nat) => rkS b ((zes default 0 s).take k ++ s.drop k) j) (fun (k : Nat) => k ≤ n) (fun (k : Nat) => n - k) 0 yS (fun b o e => by exact e) (Nat.zero_le n) (fun k B hI hB => ?_); try dsimp only at hI hB; simp only [zas, zav]
   generalize hp : zes default 0 s = q at *
   have hql : q.length = n := by rw [← hp, zig, hsl]
   by_cases hk : (k : Int) < (n : Int)
   ·have hk' : k < n := by omega
    have hL : (q.take k ++ s.drop k).length = n := by rw [List.length_append, List.length_take, List.length_drop]; omega
    have h1 := zkz j (q.take k ++ s.drop k) k (by omega)
    have hget : (q.take k ++ s.drop k)[k]'(by omega) = s[k]'(by omega) := yof (by omega) (by omega) _
    have h3 := ydh (q.take k ++ s.drop k) j
    have hst := zwh j k (q.take k ++ s.drop k) k (by omega)
    rw [hget] at h1 hst
    rw [hL] at h3
    have hM : ((q.take k ++ s.drop k).set k { s[k]'(by omega) with place := (k : Int) }).length = n := by rw [List.length_set]; exact hL
    simp only [rkS]
    simp only [Rank.cells_eq, List.cons_append, List.nil_append] at h1
    have h4 := zkz j ((q.take k ++ s.drop k).set k { s[k]'(by omega) with place := (k : Int) }) k (by omega)
    rw [← hst, List.getElem_set_self] at h4
    simp only [Rank.cells_eq, List.cons_append, List.nil_append] at h4
    by_cases k0 : k = 0
    ·generalize rkC (q.take k ++ s.drop k) j = C at *
     repeat' (first | (with_reducible refine zee (t := 2) yU yO yE ?_; simp only [zao, zag, zah, Nat.reduceEqDiff, ↓reduceIte, zal, zam, zar, zak, zai, zap, zan]) | (with_reducible refine zee (t := 69) yU yO yE ?_; simp only [zao, zag, zah, Nat.reduceEqDiff, ↓reduceIte, zal, zam, zar, zak, zai, zap, zan]) | (with_reducible first | refine zac yU yU yE ?_ | refine zab ?_ | refine DS.seq ?_ | refine zaa ?_ | (refine zbc yE ?_; first | refine zeo (fun _ => ?_) (fun _ => ?_) | refine zdk ?_) | (refine zdz yU yE ?_; refine zfx ?_) | refine DS.blk ?_ | refine DS.block ?_ | refine DS.exit yU ?_ | refine DS.skip ?_) | (refine DS.store yR yE yE yE yE yU (by exact ⟨by with_unfolding_all rfl, by (try simp only [List.length_map, List.length_append, List.length_set, List.length_replicate, List.length_cons, List.length_nil]); omega⟩) ?_; simp only [zbt, zbb, zbh, zcm, zbq, zbo, zbr]; try simp only [zao, zag, zah, Nat.reduceEqDiff, ↓reduceIte, zal, zam, zar, zak, zai, zap, zan]) | refine zbz (id := 16) [0, 1, 2, 3, 4, 5, 6, 7, 8, 9, 10, 11] 12 (by kernel_rfl) zdq (by simp only [zba, zbd, zbe, zbf, zaz]; exact rfl) (by simp only [zaw, zax, List.drop_nil]; exact rfl) ?_ | (with_reducible first | refine zbv yU yU yU yE ?_ | (refine zpq yU yE ?_; refine zmv ?_) | refine zdb ?_) | fail)
     all_goals first | (exfalso; omega) | skip
     simp only [setS, ↓reduceIte]
     subst k0
     have hst2 : C.set 1 (I 0) = rkC (q.take (0 + 1) ++ s.drop (0 + 1)) j := by
      rw [← zsk (by omega) (by omega) (zrk hp (by omega))]
      exact hst
     rw [hst2]
     refine DS.back (hB (0 + 1) _ _ (by omega) (by omega) ⟨rfl, trivial⟩ yS (fun d o e => by exact e))
    ·have h5 := zkz j ((q.take k ++ s.drop k).set k { s[k]'(by omega) with place := (k : Int) }) (k - 1) (by omega)
     have hg5 : ((q.take k ++ s.drop k).set k { s[k]'(by omega) with place := (k : Int) })[k - 1]'(by omega) = q[k - 1]'(by omega) := ykm (by omega) (by omega) k0 _
     rw [← hst, hg5] at h5
     simp only [Rank.cells_eq, List.cons_append, List.nil_append] at h5
     have hcp := zst (q[k - 1]'(by omega)) { s[k]'(by omega) with place := (k : Int) }
     have ht : ((k : Int) - 1).toNat = k - 1 := by omega
     generalize rkC (q.take k ++ s.drop k) j = C at *
     have h6 : (C.set (k * 5 + 1) (I k)).length = n * 5 + j.length := by rw [List.length_set]; exact h3
     repeat' (first | (with_reducible first | refine zac yU yU yE ?_ | refine zab ?_ | refine DS.seq ?_ | refine zaa ?_ | (refine zbc yE ?_; first | refine zdh ?_ | refine zdk ?_) | (refine zdz yU yE ?_; refine zfx ?_) | refine DS.blk ?_ | refine DS.block ?_ | refine DS.skip ?_) | (refine DS.store yR yE yE yE yE yU (by exact ⟨by with_unfolding_all rfl, by (try simp only [List.length_map, List.length_append, List.length_set, List.length_replicate, List.length_cons, List.length_nil]); omega⟩) ?_; simp only [zbt, zbb, zbh, zcm, zbq, zbo, zbr]; try simp only [zao, zag, zah, Nat.reduceEqDiff, ↓reduceIte, zal, zam, zar, zak, zai, zap, zan]) | refine zbz (id := 16) [0, 1, 2, 3, 4, 5, 6, 7, 8, 9, 10, 11] 12 (by kernel_rfl) zdq (by simp only [zba, zbd, zbe, zbf, zaz]; exact rfl) (by simp only [zaw, zax, List.drop_nil]; exact rfl) ?_ | (with_reducible first | refine zbv yU yU yU yE ?_ | (refine zpq yU yE ?_; first | refine zvo (fun _ => ?_) (fun _ => ?_) | refine DGG.run ?_ | refine zmv ?_) | refine zdb ?_) | fail)
     all_goals first | (exfalso; omega) | skip
     simp only [setS, ↓reduceIte]
     generalize hC2 : C.set (k * 5 + 1) (I k) = C2 at *
     have HST := Box.mk hst
     clear hst hC2
     have hgv : C2[(k - 1) * 5 + 1]'(by omega) = I (q[k - 1]'(by omega)).place := by
      have := congrArg (fun l => l[1]?) h5
      simpa [List.getElem?_drop, List.getElem?_eq_getElem (show (k - 1) * 5 + 1 < C2.length by omega)] using this
     have hqk := zrl hp (by omega) k0 (by omega)
     have HQK := Box.mk hqk
     clear hqk
     repeat' (first | (with_reducible first | refine zac yU yU yE ?_ | refine zab ?_ | refine zaa ?_ | (refine zbc yE ?_; refine zeo (fun _ => ?_) (fun _ => ?_)) | (refine zdz yU yE ?_; refine GG.run ?_) | refine DS.blk ?_ | refine DS.skip ?_) | refine zcb inferInstance (hcp) yR yT ?_ | (refine DS.store yR yE yE yE yE yU (by exact ⟨by with_unfolding_all rfl, by (try simp only [List.length_map, List.length_append, List.length_set, List.length_replicate, List.length_cons, List.length_nil]); omega⟩) ?_; simp only [zbt, zbb, zbh, zcm, zbq, zbo, zbr]; try simp only [zao, zag, zah, Nat.reduceEqDiff, ↓reduceIte, zal, zam, zar, zak, zai, zap, zan]) | (with_reducible first | refine zbv yU yU yU yE ?_ | (refine zpq yU yE ?_; refine DGG.run ?_) | refine zdb ?_) | fail)
     ·simp only [setS, ↓reduceIte]
      rename_i e1
      have h7 := zwh j (q[k - 1]'(by omega)).place ((q.take k ++ s.drop k).set k { s[k]'(by omega) with place := (k : Int) }) k (by omega)
      rw [← HST.out, List.getElem_set_self, List.set_set] at h7
      rw [h7, zsk (by omega) (by omega) (HQK.out.trans (by rw [if_pos (show cmpK (q[k - 1]'(by omega)) (s[k]'(by omega)) = 0 from (zne rfl rfl rfl rfl).trans e1)]))]
      refine DS.back (hB (k + 1) _ _ (by omega) (by omega) yS yS (fun d o e => by exact e))
     ·rename_i e1
      rw [HST.out, zsk (by omega) (by omega) (HQK.out.trans (by rw [if_neg (show ¬ cmpK (q[k - 1]'(by omega)) (s[k]'(by omega)) = 0 from fun h => e1 ((zne rfl rfl rfl rfl).trans h))]))]
      refine DS.back (hB (k + 1) _ _ (by omega) (by omega) yS yS (fun d o e => by exact e))
   ·have hkn : k = n := by omega
    clear hB hk
    have e2 : List.take k q ++ List.drop k s = q := by rw [List.take_of_length_le (by omega), List.drop_eq_nil_of_le (by omega), List.append_nil]
    rw [e2]
    repeat' (first | (with_reducible refine zee (t := 2) yU yO yE ?_; simp only [zao, zag, zah, Nat.reduceEqDiff, ↓reduceIte, zal, zam, zar, zak, zai, zap, zan]) | (with_reducible refine zee (t := 69) yU yO yE ?_; simp only [zao, zag, zah, Nat.reduceEqDiff, ↓reduceIte, zal, zam, zar, zak, zai, zap, zan]) | (with_reducible first | refine zac yU yU yE ?_ | refine zab ?_ | refine DS.seq ?_ | refine zaa ?_ | (refine zbc yE ?_; refine zdk ?_) | refine DS.exit yU ?_) | fail)
    refine zjz (b := b) (t := 2) (sz := 5) (len := n) (cap := cap) (l := rkC q j) (T := 57) yR (by simp only [zaf, ↓reduceIte]) (by rw [ydh]; omega) ⟨hcap, hcm⟩ ?_
    rw [yif hql]
    refine zbi [] yG trivial ?_
    rw [← HR.out, zjo, ← HSS.out, hp]
    rfl
end Go.XL
namespace Go.XL
section
variable {P : Program} {n : Nat} {r : Rr} {Q : VEnv → Sto → Prop} {k : List Fr} {E : VEnv} {S : Sto}
theorem ymb {x : Code} (F : VEnv) (T : Sto) (h1 : DS P n r Q (.code x :: .back (fun E' S' => subV F E' ∧ subS T S') :: k) E S) (h2 : DS P n r Q k F T) : DS P n r Q (.code x :: k) E S := fun K W a w hs hw => by
 refine wpIn_mono (h1 K W a w hs hw) fun e a2 w2 t => ?_
 cases e with
 | normal => obtain ⟨E3, S3, q1, q2, q3, q4⟩ := t; exact zxk q3 q4 h2 K W a2 w2 q1 q2
 | _ => exact t
theorem zox {α : Type} {x : Code} {j : Nat} (F : α → VEnv) (T : α → Sto) (I : α → Prop) (h1 : DS P n r Q (.code x :: .blk j :: .back (fun E' S' => ∃ y, I y ∧ subV (F y) E' ∧ subS (T y) S') :: k) E S) (h2 : ∀ y, I y → DS P n r Q k (F y) (T y)) :
  DS P n r Q (.code x :: .blk j :: k) E S := fun K W a w hs hw => by
 refine wpIn_mono (h1 K W a w hs hw) fun e a2 w2 t => ?_
 have fin : (∃ E3 S3, StA n r K E3 S3 a2 w2 ∧ Same W w2 ∧ ∃ y, I y ∧ subV (F y) E3 ∧ subS (T y) S3) → ksem P n r K W Q k .normal a2 w2 := fun ⟨E3, S3, q1, q2, y, hy, q3, q4⟩ => zxk q3 q4 (h2 y hy) K W a2 w2 q1 q2
 cases e with
 | normal => exact fin t
 | exit id =>
  by_cases h : id = j
  ·subst h
   simp only [ksem, ↓reduceIte] at t ⊢
   exact fin t
  ·simp only [ksem, h, ↓reduceIte] at t ⊢
   exact t
 | _ => exact t
theorem ypa {x y : Code} (F : VEnv) (T : Sto) (h1 : DS P n r Q (.code x :: .code y :: .back (fun E' S' => subV F E' ∧ subS T S') :: k) E S) (h2 : DS P n r Q k F T) : DS P n r Q (.code x :: .code y :: k) E S := fun K W a w hs hw => by
 refine wpIn_mono (h1 K W a w hs hw) fun e a2 w2 t => ?_
 cases e with
 | normal =>
  refine wpIn_mono t fun e a3 w3 t => ?_
  cases e with
  | normal => obtain ⟨E3, S3, q1, q2, q3, q4⟩ := t; exact zxk q3 q4 h2 K W a3 w3 q1 q2
  | _ => exact t
 | _ => exact t
end
end Go.XL
namespace Go.XL
open Go.Proofs
set_option maxRecDepth 100000
set_option maxHeartbeats 8000000
section
variable {P : Program} {n : Nat} {r : Rr} {Q : VEnv → Sto → Prop} {k : List Fr} {E : VEnv} {S : Sto} {ty : TypeId} {pos : String} {af : Array Edge} {ts : Array TypeId}
theorem yhd {t : Nat} {rx : Operand} {T : TypeId} {rv : Value} {name : String} {g : FuncId} {args : List V} {xs : Array Operand} {fn : Func} {ops l : List Oper} (S1 S2 : Sto) {R : V → Sto → Prop} (hf : FnOk P g fn) (hm : ycl P T rv name g) (hr : evV E rx = some (.v (.iface T rv))) (hc : DC P g (.v rv :: args) S1 R) (hd : decide (t < n) = true)
  (he : (evsV (evV E) xs.toList).map (·.map V.peek) = some args) (h1 : ∀ b o, zad S1 b = some o → zad S b = some o) (h2 : ∀ b o, zad S2 b = some o → zad S b = some o ∧ zad S1 b = none)
  (q : ∀ u S0, R u S0 → (∀ b o, zad S0 b = some o → zad S2 b = none) → DS P n r Q (.ops ops l :: k) ((t, u) :: E) (S0 ++ S2)) :
  DS P n r Q (.ops ops (⟨some t, .call { callee := .invoke rx name, args := xs, argTypes := ts }, ty, pos, af, none⟩ :: l) :: k) E S := by
 rw [Option.map_eq_some_iff] at he
 obtain ⟨ws, e1, e2⟩ := he
 refine zej rfl rfl hd (OpS.invoke hf hm hr e1 (S1 := S1) (S2 := S2) (R := R) (by simpa [e2] using hc _) h1 h2) fun v E' S' ⟨eE, S0, eS, hR, hdis⟩ => ?_
 subst eE; subst eS
 exact q v S0 hR hdis
end
def ApartK (n : Nat) (D : Array Rank) : Prop := ∀ p q, p < n → q < n → p ≠ q → zdi D[p]! D[q]! = true ∨ zdi D[q]! D[p]! = true
theorem yot {D : Array Rank} {n : Nat} (hD : D.size = n) (h : (D.toList.map (·.id)).Nodup) : ApartK n D := by
 intro p q hp hq hpq
 rcases zoa D[p]! D[q]! with e | e | e
 ·exact .inl e
 ·exact .inr e
 ·exfalso
  have hp' : p < D.toList.length := by simpa [hD] using hp
  have hq' : q < D.toList.length := by simpa [hD] using hq
  have h3 := e.2.2
  rw [← zvk hp', ← zvk hq'] at h3
  have h4 := List.pairwise_iff_getElem.1 h
  rcases Nat.lt_or_gt_of_ne hpq with h5 | h5
  ·have := h4 p q (by simpa using hp') (by simpa using hq') h5
   rw [List.getElem_map, List.getElem_map] at this
   exact this h3
  ·have := h4 q p (by simpa using hq') (by simpa using hp') h5
   rw [List.getElem_map, List.getElem_map] at this
   exact this h3.symm
theorem ApartK.perm {n : Nat} {D D' : Array Rank} (hD : D.size = n) (hn : (D.toList.map (·.id)).Nodup) {a e : Nat} (he : a ≤ e ∧ e ≤ n) (h : Sort.PermIn a e D D') : (D'.toList.map (·.id)).Nodup := by
 have h2 := Sort.permIn_mono D D' a e 0 n (Nat.zero_le _) he.2 (by omega) h
 obtain ⟨p1, -, p3⟩ := h2
 have e1 : D.extract 0 n = D := by rw [← hD]; exact Array.extract_size
 have e2 : D'.extract 0 n = D' := by rw [← hD, ← p1]; exact Array.extract_size
 rw [e1, e2] at p3
 exact (p3.map (·.id)).nodup_iff.2 hn
abbrev swO (bw : Nat) (w : Nat) : Nat × Ob := (bw, .cells [I w] 3)
theorem zro (b cap n bw w : Nat) (D : Array Rank) (junk : List V) (hD : D.size = n) (hA : ApartK n D) (hbw : ¬ b = bw) {x y : Nat} (hx : x < n) (hy : y < n) (hxy : x ≠ y) (hw : w ≤ 1000) (hn : n ≤ 1000000 ∧ n ≤ cap) :
  DC Tryz.prog 142 [rkI b n cap, I x, I y, .v (.pointer (some ⟨bw, 0, none⟩))] (rkS b D.toList junk ++ [swO bw w]) (fun u S' => ∃ p q w' : Nat, u = .tup [I p, I q] ∧ (p = x ∧ q = y ∨ p = y ∧ q = x) ∧ zdi D[p]! D[q]! = true ∧ w' ≤ w + 1 ∧ S' = rkS b D.toList junk ++ [swO bw w']) := by
 have hlt := zjb b cap n D junk hD (i := y) (j := x) hy hx hn
 have hbw' : ¬ bw = b := fun e => hbw e.symm
 refine DC.of_run Tryz.func142 rfl Tryz.ntmps142 Tryz.results142 (by simp) (fun _ => ?_); simp only [zaq, zau, go_sem, Nat.zero_add, Nat.reduceAdd]
 repeat' (first | (with_reducible first | refine zac yU yU yE ?_ | refine zab ?_ | refine DS.seq ?_ | refine zaa ?_) | fail)
 refine yhd (rkS b D.toList junk) [swO bw w] inferInstance (zgn _ _ _) yH hlt yR yH (fun d o e => by simp only [List.cons_append, List.nil_append, zaf, zcg] at e ⊢; split at e <;> simp_all) (fun d o e => by simp only [List.cons_append, List.nil_append, zaf, zcg] at e ⊢; split at e <;> simp_all) (fun u S' hu _ => ?_)
 obtain ⟨rfl, rfl⟩ := hu
 simp only [List.cons_append, List.nil_append]
 cases hb : zdi D[y]! D[x]! with
 | true =>
  repeat' (first | (with_reducible first | refine zac yU yU yE ?_ | refine zab ?_ | refine DS.seq ?_ | refine zaa ?_ | (refine zbc yE ?_; refine zdh ?_)) | (refine DS.store yR yE yE yE yE yU (by exact ⟨by with_unfolding_all rfl, by (try simp only [List.length_map, List.length_append, List.length_set, List.length_replicate, List.length_cons, List.length_nil]); omega⟩) ?_; simp only [zbt, zbb, zbh, zcm, zbq, zbo, zbr]; try simp only [zao, zag, zah, Nat.reduceEqDiff, ↓reduceIte, zal, zam, zar, zak, zai, zap, zan]) | fail)
  refine zch yG ⟨y, x, w + 1, rfl, .inr ⟨rfl, rfl⟩, hb, Nat.le_refl _, ?_⟩
  simp only [setS, hbw, hbw', ↓reduceIte, List.cons_append, List.nil_append, zcl]
  first | rfl
 | false =>
  repeat' (first | (with_reducible first | refine zac yU yU yE ?_ | refine zab ?_ | refine DS.seq ?_ | refine zaa ?_ | (refine zbc yE ?_; refine zdk ?_) | refine DS.skip ?_) | fail)
  have h2 := (hA x y hx hy hxy).resolve_right (by rw [hb]; decide)
  refine zch yG ⟨x, y, w, rfl, .inl ⟨rfl, rfl⟩, h2, Nat.le_succ _, rfl⟩
theorem yja (b cap n bw w : Nat) (D : Array Rank) (junk : List V) (hD : D.size = n) (hA : ApartK n D) (hbw : ¬ b = bw) {x y z : Nat} (hx : x < n) (hy : y < n) (hz : z < n) (hxy : x ≠ y) (hyz : y ≠ z) (hxz : x ≠ z) (hw : w ≤ 900) (hn : n ≤ 1000000 ∧ n ≤ cap) :
  DC Tryz.prog 137 [rkI b n cap, I x, I y, I z, .v (.pointer (some ⟨bw, 0, none⟩))] (rkS b D.toList junk ++ [swO bw w]) (fun u S' => ∃ m i w' : Nat, u = I m ∧ (m = x ∨ m = y ∨ m = z) ∧ (i = x ∨ i = y ∨ i = z) ∧ zdi D[i]! D[m]! = true ∧ w' ≤ w + 3 ∧ S' = rkS b D.toList junk ++ [swO bw w']) := by
 have h1 := zro b cap n bw w D junk hD hA hbw hx hy hxy (by omega) hn
 refine DC.of_run Tryz.func137 rfl Tryz.ntmps137 Tryz.results137 (by simp) (fun _ => ?_); simp only [zaq, zau, go_sem, Nat.zero_add, Nat.reduceAdd]
 repeat' (first | (with_reducible first | refine zac yU yU yE ?_ | refine zab ?_ | refine DS.seq ?_ | refine zaa ?_) | fail)
 refine zdx inferInstance h1 yR yH (fun u S' hu => ?_)
 obtain ⟨a1, b1, w1, rfl, c1, l1, m1, rfl⟩ := hu
 have d1 : a1 < n ∧ b1 < n ∧ a1 ≠ b1 ∧ b1 ≠ z ∧ a1 ≠ z := by omega
 have h2 := zro b cap n bw w1 D junk hD hA hbw (x := b1) (y := z) d1.2.1 hz d1.2.2.2.1 (by omega) hn
 repeat' (first | (with_reducible first | refine zac yU yU yE ?_ | refine zab ?_ | refine DS.seq ?_ | refine zaa ?_) | fail)
 refine zdx inferInstance h2 yR yH (fun u S' hu => ?_)
 obtain ⟨b2, c2, w2, rfl, k2, l2, m2, rfl⟩ := hu
 have d2 : b2 < n ∧ a1 ≠ b2 := by omega
 have h3 := zro b cap n bw w2 D junk hD hA hbw (x := a1) (y := b2) d1.1 d2.1 d2.2 (by omega) hn
 repeat' (first | (with_reducible first | refine zac yU yU yE ?_ | refine zab ?_ | refine DS.seq ?_ | refine zaa ?_) | fail)
 refine zdx inferInstance h3 yR yH (fun u S' hu => ?_)
 obtain ⟨a3, b3, w3, rfl, k3, l3, m3, rfl⟩ := hu
 repeat' (first | (with_reducible first | refine zac yU yU yE ?_ | refine zab ?_ | refine DS.seq ?_ | refine zaa ?_) | fail)
 exact zch yG ⟨b3, a3, w3, rfl, by omega, by omega, l3, by omega, rfl⟩
theorem ztw (b cap n : Nat) (D : Array Rank) (junk : List V) (hD : D.size = n) (hA : ApartK n D) {a e : Nat} (hae : a + 12 < e ∧ e ≤ n ∧ e - a < 50) (hn : n ≤ 1000000 ∧ n ≤ cap) :
  DC Tryz.prog 122 [rkI b n cap, I a, I e] (rkS b D.toList junk) (fun u S' => ∃ m i h : Nat, u = .tup [I m, I h] ∧ (a ≤ m ∧ m < e) ∧ (a ≤ i ∧ i < e) ∧ zdi D[i]! D[m]! = true ∧ h ≤ 1 ∧ S' = rkS b D.toList junk) := by
 refine DC.of_run Tryz.func122 rfl Tryz.ntmps122 Tryz.results122 (by simp) (fun _ => ?_); simp only [zaq, zau, go_sem, Nat.zero_add, Nat.reduceAdd]
 repeat' (first | (with_reducible first | refine zac yU yU yE ?_ | refine zab ?_ | refine DS.seq ?_ | refine zaa ?_) | fail)
 refine zex yR yU yU (fun bw hw => ?_)
 have hbw : ¬ b = bw := fun h => by simp only [zaf, h, ↓reduceIte] at hw; cases hw
 have hbw' : ¬ bw = b := fun h => hbw h.symm
 clear hw
 have e0 : (Value.int .i64 0).cells.toList.map V.v = [I 0] := rfl
 rw [e0]
 clear e0
 refine zfj (S' := rkS b D.toList junk ++ [swO bw 0]) (fun d o e => ?_) ?_
 ·simp only [List.cons_append, List.nil_append, zaf, zcg] at e ⊢
  by_cases h1 : b = d
  ·subst h1; rw [if_pos rfl] at e; rw [if_neg hbw']; simpa using e
  ·rw [if_neg h1] at e
   by_cases h2 : bw = d
   ·rw [if_pos h2] at e ⊢; exact e
   ·rw [if_neg h2] at e; cases e
 have q1 : ((e : Int) - a).tdiv 4 = ((e - a) / 4 : Nat) := by
  rw [Int.tdiv_eq_ediv_of_nonneg (by omega)]; omega
 have q2 : 3 ≤ (e - a) / 4 ∧ (e - a) / 4 * 3 < e - a := by omega
 obtain ⟨g, hg⟩ : ∃ g : Nat, (e - a) / 4 = g := ⟨_, rfl⟩
 rw [hg] at q1 q2
 clear hg
 have hmd := yja b cap n bw 0 D junk hD hA hbw (x := a + g) (y := a + g * 2) (z := a + g * 3) (by omega) (by omega) (by omega) (by omega) (by omega) (by omega) (by omega) hn
 rw [show ((a + g : Nat) : Int) = (a : Int) + (g : Int) * 1 by omega, show ((a + g * 2 : Nat) : Int) = (a : Int) + (g : Int) * 2 by omega, show ((a + g * 3 : Nat) : Int) = (a : Int) + (g : Int) * 3 by omega] at hmd
 repeat' (first | (with_reducible first | refine zac yU yU yE ?_ | refine zab ?_ | refine DS.seq ?_ | refine zaa ?_ | (refine zbc yE ?_; first | refine zeo (fun _ => ?_) (fun _ => ?_) | refine zdh ?_) | refine DS.block ?_ | refine DS.skip ?_) | fail)
 all_goals first | (exfalso; omega) | skip
 refine zdx inferInstance hmd yR yH (fun u S' hu => ?_)
 obtain ⟨m, i, w, rfl, c1, c2, l1, hw, rfl⟩ := hu
 have hR : ∀ h : Nat, h ≤ 1 → ∃ m' i' h' : Nat, V.tup [I m, I h] = .tup [I m', I h'] ∧ (a ≤ m' ∧ m' < e) ∧ (a ≤ i' ∧ i' < e) ∧ zdi D[i']! D[m']! = true ∧ h' ≤ 1 ∧ rkS b D.toList junk = rkS b D.toList junk := fun h hh => ⟨m, i, h, rfl, by omega, by omega, l1, hh, rfl⟩
 simp only [List.cons_append, List.nil_append]
 repeat' (first | (with_reducible first | refine zac yU yU yE ?_ | refine zab ?_ | refine DS.seq ?_ | refine zaa ?_ | (refine zbc yE ?_; refine zeo (fun _ => ?_) (fun _ => ?_)) | refine DS.block ?_) | fail)
 all_goals first | (exfalso; omega) | skip
 ·refine DS.ret rfl ⟨[I m, I 1], rkS b D.toList junk, by (simp (disch := omega) only [go_sem, dopV, Option.map_some, Option.map_none, Option.bind_some, Option.bind_none, ↓reduceIte, Nat.reduceEqDiff, Nat.reduceLT, Nat.reduceLeDiff, Nat.reduceAdd, Nat.reduceMul, Nat.reduceSub, Nat.zero_add, Nat.add_zero, Nat.zero_le, Nat.zero_mul, Nat.mul_one, Nat.one_mul, Int.natCast_zero, Int.toNat_zero, Int.reduceToNat, Int.reduceLT, Int.reduceLE, Int.reduceEq, decide_true, decide_false, true_and, and_true, Bool.and_self, Bool.and_true, Bool.true_and, Bool.not_true, Bool.not_false, IntWalk.toNatUp, IntWalk.iteOmega, IntWalk.i64_in, Option.isSome_some, not_true_eq_false, not_false_eq_true, Option.getD_some, Option.getD_none, Int.toNat_natCast, List.length_map, List.getElem?_map, List.getElem?_eq_getElem, V.flat, V.one, List.all_cons, List.all_nil]; try exact rfl), fun d o e => ?_, hR 1 (by omega)⟩
  simp only [zaf, zcg] at e ⊢
  split at e <;> simp_all
 ·refine DS.ret rfl ⟨[I m, I 0], rkS b D.toList junk, by (simp (disch := omega) only [go_sem, dopV, Option.map_some, Option.map_none, Option.bind_some, Option.bind_none, ↓reduceIte, Nat.reduceEqDiff, Nat.reduceLT, Nat.reduceLeDiff, Nat.reduceAdd, Nat.reduceMul, Nat.reduceSub, Nat.zero_add, Nat.add_zero, Nat.zero_le, Nat.zero_mul, Nat.mul_one, Nat.one_mul, Int.natCast_zero, Int.toNat_zero, Int.reduceToNat, Int.reduceLT, Int.reduceLE, Int.reduceEq, decide_true, decide_false, true_and, and_true, Bool.and_self, Bool.and_true, Bool.true_and, Bool.not_true, Bool.not_false, IntWalk.toNatUp, IntWalk.iteOmega, IntWalk.i64_in, Option.isSome_some, not_true_eq_false, not_false_eq_true, Option.getD_some, Option.getD_none, Int.toNat_natCast, List.length_map, List.getElem?_map, List.getElem?_eq_getElem, V.flat, V.one, List.all_cons, List.all_nil]; try exact rfl), fun d o e => ?_, hR 0 (by omega)⟩
  simp only [zaf, zcg] at e ⊢
  split at e <;> simp_all
structure PI (n a e : Nat) (D0 : Array Rank) (X : Rank) (i j : Nat) (D : Array Rank) : Prop where
 sz : D.size = n
 perm : Sort.PermIn a e D0 D
 at_ : D[a]! = X
 lo : a + 1 ≤ i
 mid : i ≤ j + 1
 hi : j + 1 ≤ e
 en : e ≤ n
 left : ∀ x, a < x → x < i → zdi D[x]! X = true
 right : ∀ x, j < x → x < e → zdi D[x]! X = false
theorem zqy (D : Array Rank) (i j x : Nat) (hi : i < D.size) (hj : j < D.size) : (Sort.swp D i j)[x]! = if x = j then D[i]! else if x = i then D[j]! else D[x]! := by
 by_cases h1 : x = j
 ·subst h1; rw [if_pos rfl]; exact Sort.swp_right D i x hj
 ·rw [if_neg h1]
  by_cases h2 : x = i
  ·subst h2; rw [if_pos rfl]; exact Sort.swp_left D x j hi h1
  ·rw [if_neg h2]; exact Sort.swp_other D i j x h2 h1
theorem PI.up {n a e : Nat} {D0 : Array Rank} {X : Rank} {i j : Nat} {D : Array Rank} (h : PI n a e D0 X i j D) (h1 : i ≤ j) (h2 : zdi D[i]! X = true) : PI n a e D0 X (i + 1) j D :=
 ⟨h.sz, h.perm, h.at_, by have := h.lo; omega, by omega, h.hi, h.en, fun x h3 h4 => by
  by_cases h5 : x = i
  ·rw [h5]; exact h2
  ·exact h.left x h3 (by omega), h.right⟩
theorem PI.down {n a e : Nat} {D0 : Array Rank} {X : Rank} {i j : Nat} {D : Array Rank} (h : PI n a e D0 X i j D) (h1 : i ≤ j) (h2 : zdi D[j]! X = false) : PI n a e D0 X i (j - 1) D :=
 ⟨h.sz, h.perm, h.at_, h.lo, by have := h.lo; omega, by have := h.hi; omega, h.en, h.left, fun x h3 h4 => by
  by_cases h5 : x = j
  ·rw [h5]; exact h2
  ·exact h.right x (by omega) h4⟩
theorem PI.swap {n a e : Nat} {D0 : Array Rank} {X : Rank} {i j : Nat} {D : Array Rank} (h : PI n a e D0 X i j D) (h1 : i ≤ j) (h2 : zdi D[i]! X = false) (h3 : zdi D[j]! X = true) : PI n a e D0 X (i + 1) (j - 1) (Sort.swp D i j) := by
 have hne : i ≠ j := fun e => by rw [e, h3] at h2; cases h2
 have q := h.lo; have q2 := h.hi; have q3 := h.en; have q4 := h.sz
 refine ⟨by rw [Sort.size_swp]; exact h.sz, Sort.permIn_trans _ _ _ _ _ h.perm (Sort.swp_permIn D a e i j (by omega) (by omega) (by omega) (by omega) (by omega)), ?_, by omega, by omega, by omega, h.en, fun x h4 h5 => ?_, fun x h4 h5 => ?_⟩
 ·rw [zqy D i j a (by omega) (by omega), if_neg (by omega), if_neg (by omega)]; exact h.at_
 ·rw [zqy D i j x (by omega) (by omega)]
  by_cases h6 : x = i
  ·rw [if_neg (by omega), if_pos h6]; exact h3
  ·rw [if_neg (by omega), if_neg h6]; exact h.left x h4 (by omega)
 ·rw [zqy D i j x (by omega) (by omega)]
  by_cases h6 : x = j
  ·rw [if_pos h6]; exact h2
  ·rw [if_neg h6, if_neg (by omega)]; exact h.right x (by omega) h5
structure PE (n a e : Nat) (D0 : Array Rank) (X : Rank) (m : Nat) (D : Array Rank) : Prop where
 sz : D.size = n
 perm : Sort.PermIn a e D0 D
 at_ : D[m]! = X
 lo : a ≤ m
 hi : m < e
 left : ∀ x, a ≤ x → x < m → zdi D[x]! X = true
 right : ∀ x, m < x → x < e → zdi D[x]! X = false
theorem PI.done {n a e : Nat} {D0 : Array Rank} {X : Rank} {i j : Nat} {D : Array Rank} (h : PI n a e D0 X i j D) (h1 : j < i) : PE n a e D0 X j (Sort.swp D j a) := by
 have q := h.lo; have q2 := h.hi; have q3 := h.en; have q4 := h.sz; have q5 := h.mid
 refine ⟨by rw [Sort.size_swp]; exact h.sz, Sort.permIn_trans _ _ _ _ _ h.perm (Sort.swp_permIn D a e j a (by omega) (by omega) (by omega) (by omega) (by omega)), ?_, by omega, by omega, fun x h4 h5 => ?_, fun x h4 h5 => ?_⟩
 ·rw [zqy D j a j (by omega) (by omega)]
  by_cases h6 : j = a
  ·rw [if_pos h6, h6]; exact h.at_
  ·rw [if_neg h6, if_pos rfl]; exact h.at_
 ·rw [zqy D j a x (by omega) (by omega)]
  by_cases h6 : x = a
  ·rw [if_pos h6]; exact h.left j (by omega) (by omega)
  ·rw [if_neg h6, if_neg (by omega)]; exact h.left x (by omega) (by omega)
 ·rw [zqy D j a x (by omega) (by omega), if_neg (by omega), if_neg (by omega)]; exact h.right x h4 h5
theorem PI.first {n a e p : Nat} {D : Array Rank} (hD : D.size = n) (h : a ≤ p ∧ p < e ∧ e ≤ n) : PI n a e D D[p]! (a + 1) (e - 1) (Sort.swp D a p) := by
 refine ⟨by rw [Sort.size_swp]; exact hD, Sort.swp_permIn D a e a p (by omega) (by omega) (by omega) (by omega) (by omega), ?_, by omega, by omega, by omega, by omega, fun x h4 h5 => by omega, fun x h4 h5 => by omega⟩
 rw [zqy D a p a (by omega) (by omega)]
 by_cases h6 : a = p
 ·rw [if_pos h6, h6]
 ·rw [if_neg h6, if_pos rfl]
end Go.XL
namespace Go.XL
open Go.Proofs
set_option maxRecDepth 100000
set_option maxHeartbeats 8000000
theorem yfs {D : Array Rank} {a e : Nat} (h : ∀ k, a < k → k < e → zdi D[k]! D[k - 1]! = false) : Sort.SortedIn zdi a e D := by
 intro i j h1 h2 h3
 induction j with
 | zero => omega
 | succ j ih =>
  have h4 := h (j + 1) (by omega) h3
  rw [Nat.add_sub_cancel] at h4
  by_cases h5 : i = j
  ·rw [h5]; exact h4
  ·exact lessK_swo.ntrans _ _ _ h4 (ih (by omega) (by omega))
theorem zwm (b cap n : Nat) (D : Array Rank) (junk : List V) (hD : D.size = n) {a e : Nat} (hae : a < e ∧ e ≤ n ∧ e - a < 50) (hn : n ≤ 1000000 ∧ n ≤ cap) :
  DC Tryz.prog 124 [rkI b n cap, I a, I e] (rkS b D.toList junk) (fun u S' => ∃ r : Bool, u = Bo r ∧ (r = true → Sort.SortedIn zdi a e D) ∧ S' = rkS b D.toList junk) := by
 refine DC.of_run Tryz.func124 rfl Tryz.ntmps124 Tryz.results124 (by simp) (fun _ => ?_); simp only [zaq, zau, go_sem, Nat.zero_add, Nat.reduceAdd]
 repeat' (first | (with_reducible first | refine zac yU yU yE ?_ | refine zab ?_ | refine DS.seq ?_ | refine zaa ?_ | refine DS.block ?_) | fail)
 refine zco [0, 1, 2] yN (fun (y : Nat) => [(7, I (a + 1)), (8, I 0)]) (fun (y : Nat) => rkS b D.toList junk) (fun (y : Nat) => y = 0) (fun (y : Nat) => y) 0 yS (fun b o e => by exact e) rfl (fun y B hI hB => ?_); try dsimp only at hI hB; simp only [zas, zav]
 clear hB
 repeat' (first | (with_reducible first | refine zac yU yU yE ?_ | refine zab ?_ | refine DS.seq ?_ | refine zaa ?_ | (refine zbc yE ?_; refine zdh ?_) | refine DS.block ?_ | refine DS.skip ?_) | fail)
 refine zox (fun y : Nat => [(0, rkI b n cap), (1, I a), (2, I e), (7, I y), (8, I 0)]) (fun _ => rkS b D.toList junk) (fun y => a < y ∧ y ≤ e ∧ ∀ k, a < k → k < y → zdi D[k]! D[k - 1]! = false) ?_ (fun y hI => ?_)
 ·refine zco [0, 1, 2, 8] yN (fun (y : Nat) => [(7, I y)]) (fun (y : Nat) => rkS b D.toList junk) (fun (y : Nat) => a < y ∧ y ≤ e ∧ ∀ k, a < k → k < y → zdi D[k]! D[k - 1]! = false) (fun (y : Nat) => e - y) (a + 1) yS (fun b o e => by exact e) ⟨by omega, by omega, fun k h1 h2 => by omega⟩ (fun y B hI hB => ?_); try dsimp only at hI hB; simp only [zas, zav]
  obtain ⟨g1, g2, g3⟩ := hI
  have H := Box.mk g3
  clear g3
  by_cases hi : (y : Int) < (e : Int)
  ·have hlt := zjb b cap n D junk hD (i := y) (j := y - 1) (by omega) (by omega) hn
   have hj1 : ((y - 1 : Nat) : Int) = (y : Int) - 1 := by omega
   rw [hj1] at hlt
   repeat' (first | (with_reducible first | refine zac yU yU yE ?_ | refine DS.seq ?_ | refine zaa ?_ | (refine zdz yU yE ?_; refine GG.run ?_)) | fail)
   refine DS.invoke inferInstance (zgn _ _ _) yH hlt yR yH (fun u S' hu => ?_)
   obtain ⟨rfl, rfl⟩ := hu
   cases hb : zdi D[y]! D[y - 1]! with
   | true =>
    repeat' (first | (with_reducible first | refine zac yU yU yE ?_ | refine zab ?_ | (refine zbc yE ?_; refine zdk ?_) | (refine zdz yU yE ?_; refine GG.run ?_) | refine DS.exit yU ?_) | fail)
    refine DS.back ⟨y, ⟨g1, g2, H.out⟩, yS, yS⟩
   | false =>
    repeat' (first | (with_reducible first | refine zac yU yU yE ?_ | refine zab ?_ | refine zaa ?_ | (refine zbc yE ?_; refine zdh ?_) | (refine zdz yU yE ?_; refine GG.run ?_) | refine DS.blk ?_ | refine DS.block ?_ | refine DS.skip ?_) | fail)
    refine DS.back (hB (y + 1) _ _ (by omega) ⟨by omega, by omega, fun k h1 h2 => ?_⟩ yS yS (fun d o e => by exact e))
    by_cases h3 : k = y
    ·rw [h3]; exact hb
    ·exact H.out k h1 (by omega)
  ·repeat' (first | (with_reducible first | refine zac yU yU yE ?_ | refine zab ?_ | refine DS.seq ?_ | refine zaa ?_ | (refine zbc yE ?_; refine zdk ?_) | (refine zdz yU yE ?_; refine zfx ?_) | refine DS.exit yU ?_) | fail)
   refine DS.back ⟨y, ⟨g1, g2, H.out⟩, yS, yS⟩
 ·obtain ⟨g1, g2, g3⟩ := hI
  have H := Box.mk g3
  clear g3
  repeat' (first | (with_reducible first | refine zac yU yU yE ?_ | refine zab ?_ | refine DS.seq ?_ | refine zaa ?_ | (refine zbc yE ?_; refine zeo (fun _ => ?_) (fun _ => ?_)) | refine DS.skip ?_) | fail)
  all_goals first | (exfalso; omega) | skip
  ·rename_i h5
   exact zch yG ⟨true, rfl, fun _ => yfs fun k h1 h2 => H.out k h1 (by omega), rfl⟩
  ·exact zch yG ⟨false, rfl, fun h => absurd h (by decide), rfl⟩
theorem zyp (b cap n : Nat) (D : Array Rank) (junk : List V) (hD : D.size = n) {a e p : Nat} (hae : a ≤ p ∧ p < e ∧ e ≤ n) (hn : n ≤ 1000000 ∧ n ≤ cap) :
  DC Tryz.prog 126 [rkI b n cap, I a, I e, I p] (rkS b D.toList junk) (fun u S' => ∃ (m : Nat) (al : Bool) (D' : Array Rank), u = .tup [I m, Bo al] ∧ PE n a e D D[p]! m D' ∧ S' = rkS b D'.toList junk) := by
 have hf := PI.first hD hae
 have hsw := zlw b cap n D junk hD (i := a) (j := p) (by omega) (by omega) hn
 have hc : ((e - 1 : Nat) : Int) = (e : Int) - 1 := by omega
 generalize hX : D[p]! = X at *
 generalize Sort.swp D a p = D1 at *
 refine DC.of_run Tryz.func126 rfl Tryz.ntmps126 Tryz.results126 (by simp) (fun _ => ?_); simp only [zaq, zau, go_sem, Nat.zero_add, Nat.reduceAdd]
 repeat' (first | (with_reducible first | refine zac yU yU yE ?_ | refine zab ?_ | refine DS.seq ?_ | refine zaa ?_) | fail)
 refine DS.invoke inferInstance (zii _ _ _) yH hsw yR yH (fun u S' hu => ?_)
 subst hu
 repeat' (first | (with_reducible first | refine zac yU yU yE ?_ | refine zab ?_ | refine DS.seq ?_ | refine zaa ?_ | refine DS.block ?_) | fail)
 refine zox (fun i : Nat => [(0, rkI b n cap), (1, I a), (10, I i), (11, .v (.int .i64 ((e : Int) - 1)))]) (fun _ => rkS b D1.toList junk) (fun i => PI n a e D X i (e - 1) D1 ∧ (i ≤ e - 1 → zdi D1[i]! X = false)) ?_ (fun i hI => ?_)
 ·refine zco [0, 1, 11] yN (fun (i : Nat) => [(10, I i)]) (fun (i : Nat) => rkS b D1.toList junk) (fun (i : Nat) => PI n a e D X i (e - 1) D1) (fun (i : Nat) => e - i) (a + 1) yS (fun b o e => by exact e) hf (fun i B hI hB => ?_); try dsimp only at hI hB; simp only [zas, zav]
  have q1 := hI.lo; have q2 := hI.mid; have q3 := hI.sz; have q4 := hI.at_
  by_cases hi : (i : Int) ≤ (e : Int) - 1
  ·have hlt := zjb b cap n D1 junk q3 (i := i) (j := a) (by omega) (by omega) hn
   rw [q4] at hlt
   repeat' (first | (with_reducible first | refine zac yU yU yE ?_ | refine DS.seq ?_ | refine zaa ?_ | (refine zdz yU yE ?_; refine GG.run ?_)) | fail)
   refine DS.invoke inferInstance (zgn _ _ _) yH hlt yR yH (fun u S' hu => ?_)
   obtain ⟨rfl, rfl⟩ := hu
   cases hb : zdi D1[i]! X with
   | true =>
    repeat' (first | (with_reducible first | refine zac yU yU yE ?_ | refine zab ?_ | refine zaa ?_ | (refine zbc yE ?_; refine zdh ?_) | refine DS.blk ?_ | refine DS.block ?_ | refine DS.skip ?_) | fail)
    refine DS.back (hB (i + 1) _ _ (by omega) (hI.up (by omega) hb) yS yS (fun d o e => by exact e))
   | false =>
    repeat' (first | (with_reducible first | refine zac yU yU yE ?_ | refine zab ?_ | (refine zbc yE ?_; refine zdk ?_) | refine DS.exit yU ?_) | fail)
    refine DS.back ⟨i, ⟨hI, fun _ => hb⟩, yS, yS⟩
  ·repeat' (first | (with_reducible first | refine zac yU yU yE ?_ | refine zab ?_ | refine DS.seq ?_ | refine zaa ?_ | (refine zbc yE ?_; refine zdk ?_) | (refine zdz yU yE ?_; refine zfx ?_) | refine DS.exit yU ?_) | fail)
   refine DS.back ⟨i, ⟨hI, fun h => by omega⟩, yS, yS⟩
 clear hf hsw
 obtain ⟨hI, hi0⟩ := hI
 repeat' (first | (with_reducible first | refine DS.seq ?_ | refine DS.block ?_) | fail)
 refine zox (fun j : Nat => [(0, rkI b n cap), (1, I a), (10, I i), (11, I j)]) (fun _ => rkS b D1.toList junk) (fun j => PI n a e D X i j D1 ∧ (i ≤ j → zdi D1[j]! X = true)) ?_ (fun j hJ => ?_)
 ·refine zco [0, 1, 10] yN (fun (j : Nat) => [(11, I j)]) (fun (j : Nat) => rkS b D1.toList junk) (fun (j : Nat) => PI n a e D X i j D1) (fun (j : Nat) => j) (e - 1) yS (fun b o e => by exact e) hI (fun j B hI hB => ?_); try dsimp only at hI hB; simp only [zas, zav]
  have q1 := hI.lo; have q2 := hI.mid; have q3 := hI.sz; have q4 := hI.at_; have q5 := hI.hi; have q6 := hI.en
  by_cases hi : (i : Int) ≤ (j : Int)
  ·have hlt := zjb b cap n D1 junk q3 (i := j) (j := a) (by omega) (by omega) hn
   have hj1 : ((j - 1 : Nat) : Int) = (j : Int) - 1 := by omega
   rw [q4] at hlt
   repeat' (first | (with_reducible first | refine zac yU yU yE ?_ | refine DS.seq ?_ | refine zaa ?_ | (refine zdz yU yE ?_; refine GG.run ?_)) | fail)
   refine DS.invoke inferInstance (zgn _ _ _) yH hlt yR yH (fun u S' hu => ?_)
   obtain ⟨rfl, rfl⟩ := hu
   cases hb : zdi D1[j]! X with
   | true =>
    repeat' (first | (with_reducible first | refine zac yU yU yE ?_ | refine zab ?_ | (refine zbc yE ?_; refine zdk ?_) | (refine zdz yU yE ?_; refine GG.run ?_) | refine DS.exit yU ?_) | fail)
    refine DS.back ⟨j, ⟨hI, fun _ => hb⟩, yS, yS⟩
   | false =>
    repeat' (first | (with_reducible first | refine zac yU yU yE ?_ | refine zab ?_ | refine zaa ?_ | (refine zbc yE ?_; refine zdh ?_) | (refine zdz yU yE ?_; refine GG.run ?_) | refine DS.blk ?_ | refine DS.block ?_ | refine DS.skip ?_) | fail)
    refine DS.back (hB (j - 1) _ _ (by omega) (hI.down (by omega) hb) yS yS (fun d o e => by exact e))
  ·repeat' (first | (with_reducible first | refine zac yU yU yE ?_ | refine zab ?_ | refine DS.seq ?_ | refine zaa ?_ | (refine zbc yE ?_; refine zdk ?_) | (refine zdz yU yE ?_; refine zfx ?_) | refine DS.exit yU ?_) | fail)
   refine DS.back ⟨j, ⟨hI, fun h => by omega⟩, yS, yS⟩
 clear hI
 obtain ⟨hI, hj0⟩ := hJ
 have q1 := hI.lo; have q2 := hI.mid; have q3 := hI.sz; have q4 := hI.at_; have q5 := hI.hi; have q6 := hI.en
 by_cases hij : (j : Int) < (i : Int)
 ·have hs := zlw b cap n D1 junk q3 (i := j) (j := a) (by omega) (by omega) hn
  repeat' (first | (with_reducible first | refine zac yU yU yE ?_ | refine zab ?_ | refine DS.seq ?_ | refine zaa ?_ | (refine zbc yE ?_; refine zdh ?_)) | fail)
  refine DS.invoke inferInstance (zii _ _ _) yH hs yR yH (fun u S' hu => ?_)
  subst hu
  repeat' (first | (with_reducible first | refine zac yU yU yE ?_ | refine zab ?_ | refine DS.seq ?_ | refine zaa ?_) | fail)
  exact zch yG ⟨j, true, _, rfl, hI.done (by omega), rfl⟩
 have hs := zlw b cap n D1 junk q3 (i := i) (j := j) (by omega) (by omega) hn
 have hj1 : ((j - 1 : Nat) : Int) = (j : Int) - 1 := by omega
 repeat' (first | (with_reducible first | refine zac yU yU yE ?_ | refine zab ?_ | refine DS.seq ?_ | refine zaa ?_ | (refine zbc yE ?_; refine zdk ?_) | refine DS.skip ?_) | fail)
 refine DS.invoke inferInstance (zii _ _ _) yH hs yR yH (fun u S' hu => ?_)
 subst hu
 have hM := hI.swap (by omega) (hi0 (by omega)) (hj0 (by omega))
 repeat' (first | (with_reducible first | refine zac yU yU yE ?_ | refine zab ?_ | refine DS.seq ?_ | refine zaa ?_ | refine DS.block ?_) | fail)
 refine zco [0, 1] yN (fun (y : Nat × Nat × Array Rank) => [(10, I y.1), (11, I y.2.1)]) (fun (y : Nat × Nat × Array Rank) => rkS b y.2.2.toList junk) (fun (y : Nat × Nat × Array Rank) => PI n a e D X y.1 y.2.1 y.2.2) (fun (y : Nat × Nat × Array Rank) => y.2.1 + 1 - y.1) (i + 1, j - 1, Sort.swp D1 i j) yS (fun b o e => by exact e) hM (fun y B hI hB => ?_); try dsimp only at hI hB; simp only [zas, zav]
 clear hM hs hi0 hj0 hij hj1 q1 q2 q3 q4 q5 q6
 obtain ⟨i1, j1, D2⟩ := y
 dsimp only at hI hB ⊢
 rename_i hI0
 clear hI0
 have hB0 := hB
 clear hB
 repeat' (first | (with_reducible first | refine DS.seq ?_ | refine DS.block ?_) | fail)
 refine zox (fun i2 : Nat => [(0, rkI b n cap), (1, I a), (10, I i2), (11, I j1)]) (fun _ => rkS b D2.toList junk) (fun i2 => i1 ≤ i2 ∧ PI n a e D X i2 j1 D2 ∧ (i2 ≤ j1 → zdi D2[i2]! X = false)) ?_ (fun i2 hJ => ?_)
 ·refine zco [0, 1, 11] yN (fun (i2 : Nat) => [(10, I i2)]) (fun (i2 : Nat) => rkS b D2.toList junk) (fun (i2 : Nat) => i1 ≤ i2 ∧ PI n a e D X i2 j1 D2) (fun (i2 : Nat) => e - i2) i1 yS (fun b o e => by exact e) ⟨Nat.le_refl _, hI⟩ (fun i2 B hI hB => ?_); try dsimp only at hI hB; simp only [zas, zav]
  obtain ⟨hle, hI⟩ := hI
  have q1 := hI.lo; have q2 := hI.mid; have q3 := hI.sz; have q4 := hI.at_; have q5 := hI.hi; have q6 := hI.en
  by_cases hi : (i2 : Int) ≤ (j1 : Int)
  ·have hlt := zjb b cap n D2 junk q3 (i := i2) (j := a) (by omega) (by omega) hn
   rw [q4] at hlt
   repeat' (first | (with_reducible first | refine zac yU yU yE ?_ | refine DS.seq ?_ | refine zaa ?_ | (refine zdz yU yE ?_; refine GG.run ?_)) | fail)
   refine DS.invoke inferInstance (zgn _ _ _) yH hlt yR yH (fun u S' hu => ?_)
   obtain ⟨rfl, rfl⟩ := hu
   cases hb : zdi D2[i2]! X with
   | true =>
    repeat' (first | (with_reducible first | refine zac yU yU yE ?_ | refine zab ?_ | refine zaa ?_ | (refine zbc yE ?_; refine zdh ?_) | refine DS.blk ?_ | refine DS.block ?_ | refine DS.skip ?_) | fail)
    refine DS.back (hB (i2 + 1) _ _ (by omega) ⟨by omega, hI.up (by omega) hb⟩ yS yS (fun d o e => by exact e))
   | false =>
    repeat' (first | (with_reducible first | refine zac yU yU yE ?_ | refine zab ?_ | (refine zbc yE ?_; refine zdk ?_) | refine DS.exit yU ?_) | fail)
    refine DS.back ⟨i2, ⟨hle, hI, fun _ => hb⟩, yS, yS⟩
  ·repeat' (first | (with_reducible first | refine zac yU yU yE ?_ | refine zab ?_ | refine DS.seq ?_ | refine zaa ?_ | (refine zbc yE ?_; refine zdk ?_) | (refine zdz yU yE ?_; refine zfx ?_) | refine DS.exit yU ?_) | fail)
   refine DS.back ⟨i2, ⟨hle, hI, fun h => by omega⟩, yS, yS⟩
 clear hI
 obtain ⟨hle, hI, hi0⟩ := hJ
 repeat' (first | (with_reducible first | refine DS.seq ?_ | refine DS.block ?_) | fail)
 refine zox (fun j2 : Nat => [(0, rkI b n cap), (1, I a), (10, I i2), (11, I j2)]) (fun _ => rkS b D2.toList junk) (fun j2 => j2 ≤ j1 ∧ PI n a e D X i2 j2 D2 ∧ (i2 ≤ j2 → zdi D2[j2]! X = true)) ?_ (fun j2 hJ => ?_)
 ·refine zco [0, 1, 10] yN (fun (j2 : Nat) => [(11, I j2)]) (fun (j2 : Nat) => rkS b D2.toList junk) (fun (j2 : Nat) => j2 ≤ j1 ∧ PI n a e D X i2 j2 D2) (fun (j2 : Nat) => j2) j1 yS (fun b o e => by exact e) ⟨Nat.le_refl _, hI⟩ (fun j2 B hI hB => ?_); try dsimp only at hI hB; simp only [zas, zav]
  obtain ⟨hle2, hI⟩ := hI
  have q1 := hI.lo; have q2 := hI.mid; have q3 := hI.sz; have q4 := hI.at_; have q5 := hI.hi; have q6 := hI.en
  by_cases hi : (i2 : Int) ≤ (j2 : Int)
  ·have hlt := zjb b cap n D2 junk q3 (i := j2) (j := a) (by omega) (by omega) hn
   have hj1 : ((j2 - 1 : Nat) : Int) = (j2 : Int) - 1 := by omega
   rw [q4] at hlt
   repeat' (first | (with_reducible first | refine zac yU yU yE ?_ | refine DS.seq ?_ | refine zaa ?_ | (refine zdz yU yE ?_; refine GG.run ?_)) | fail)
   refine DS.invoke inferInstance (zgn _ _ _) yH hlt yR yH (fun u S' hu => ?_)
   obtain ⟨rfl, rfl⟩ := hu
   cases hb : zdi D2[j2]! X with
   | true =>
    repeat' (first | (with_reducible first | refine zac yU yU yE ?_ | refine zab ?_ | (refine zbc yE ?_; refine zdk ?_) | (refine zdz yU yE ?_; refine GG.run ?_) | refine DS.exit yU ?_) | fail)
    refine DS.back ⟨j2, ⟨hle2, hI, fun _ => hb⟩, yS, yS⟩
   | false =>
    repeat' (first | (with_reducible first | refine zac yU yU yE ?_ | refine zab ?_ | refine zaa ?_ | (refine zbc yE ?_; refine zdh ?_) | (refine zdz yU yE ?_; refine GG.run ?_) | refine DS.blk ?_ | refine DS.block ?_ | refine DS.skip ?_) | fail)
    refine DS.back (hB (j2 - 1) _ _ (by omega) ⟨by omega, hI.down (by omega) hb⟩ yS yS (fun d o e => by exact e))
  ·repeat' (first | (with_reducible first | refine zac yU yU yE ?_ | refine zab ?_ | refine DS.seq ?_ | refine zaa ?_ | (refine zbc yE ?_; refine zdk ?_) | (refine zdz yU yE ?_; refine zfx ?_) | refine DS.exit yU ?_) | fail)
   refine DS.back ⟨j2, ⟨hle2, hI, fun h => by omega⟩, yS, yS⟩
 clear hI
 obtain ⟨hle2, hI, hj0⟩ := hJ
 have q1 := hI.lo; have q2 := hI.mid; have q3 := hI.sz; have q4 := hI.at_; have q5 := hI.hi; have q6 := hI.en
 by_cases hij : (j2 : Int) < (i2 : Int)
 ·clear hB0
  have hs := zlw b cap n D2 junk q3 (i := j2) (j := a) (by omega) (by omega) hn
  repeat' (first | (with_reducible first | refine zac yU yU yE ?_ | refine zab ?_ | refine DS.seq ?_ | refine zaa ?_ | (refine zbc yE ?_; refine zdh ?_) | refine DS.exit yU ?_) | fail)
  refine DS.invoke inferInstance (zii _ _ _) yH hs yR yH (fun u S' hu => ?_)
  subst hu
  repeat' (first | (with_reducible first | refine zac yU yU yE ?_ | refine zab ?_ | refine DS.seq ?_ | refine zaa ?_) | fail)
  exact zch yG ⟨j2, false, _, rfl, hI.done (by omega), rfl⟩
 ·have hs := zlw b cap n D2 junk q3 (i := i2) (j := j2) (by omega) (by omega) hn
  have hj1 : ((j2 - 1 : Nat) : Int) = (j2 : Int) - 1 := by omega
  repeat' (first | (with_reducible first | refine zac yU yU yE ?_ | refine zab ?_ | refine DS.seq ?_ | refine zaa ?_ | (refine zbc yE ?_; refine zdk ?_) | refine DS.skip ?_) | fail)
  refine DS.invoke inferInstance (zii _ _ _) yH hs yR yH (fun u S' hu => ?_)
  subst hu
  repeat' (first | (with_reducible first | refine zac yU yU yE ?_ | refine zab ?_ | refine DS.seq ?_ | refine zaa ?_ | refine DS.blk ?_) | fail)
  refine DS.back (hB0 (i2 + 1, j2 - 1, Sort.swp D2 i2 j2) _ _ (by dsimp only; omega) (hI.swap (by omega) (hi0 (by omega)) (hj0 (by omega))) yS yS (fun d o e => by exact e))
end Go.XL
namespace Go.XL
open Go.Proofs
set_option maxRecDepth 100000
set_option maxHeartbeats 8000000
section
variable {P : Program} {n : Nat} {r : Rr} {Q : VEnv → Sto → Prop} {k : List Fr} {E : VEnv} {S : Sto} {dst : Option Tmp} {ty : TypeId} {pos : String} {af : Array Edge}
theorem yam {t M i : Nat} (p : Nat → Nat → Bool) {T : TypeId} {s : ByteArray} {x : Operand} {kd : IntKind} {ops l : List Oper} (hd : decide (t < n) = true) (hT : P.underlying T = some .string) (hx : evV E x = some (.v (.int kd i))) (hs : ((List.range M).all fun i => match s[i]? with | some b => p i b.toNat | none => false) = true) (hi : i < M)
  (q : ∀ m : Nat, p i m = true → DS P n r Q (.ops ops l :: k) ((t, .v (.int .u8 m)) :: E) S) : DS P n r Q (.ops ops (⟨some t, .index T (.const (.string s)) x, ty, pos, af, none⟩ :: l) :: k) E S := by
 have h := List.all_eq_true.1 hs i (List.mem_range.2 hi)
 cases hb : s[i]? with
 | none => rw [hb] at h; cases h
 | some b =>
  rw [hb] at h
  exact ycn hd hT hx (Int.natCast_nonneg i) (by rw [Int.toNat_natCast]; exact hb) (q b.toNat h)
end
theorem yjg (n : Nat) (h0 : 0 < n) (hn : n < 256) : DC Tryz.prog 118 [.v (.int .u64 n)] [] (fun u S' => ∃ m : Nat, u = I m ∧ 1 ≤ m ∧ m ≤ 64) := by
 refine DC.of_run Tryz.func118 rfl Tryz.ntmps118 Tryz.results118 (by simp) (fun _ => ?_); simp only [zaq, zau, go_sem, Nat.zero_add, Nat.reduceAdd]
 repeat' (first | (with_reducible first | refine zac yU yU yE ?_ | refine zab ?_ | refine DS.seq ?_ | refine zaa ?_ | (refine zbc yE ?_; refine zeo (fun _ => ?_) (fun _ => ?_)) | refine DS.skip ?_) | fail)
 all_goals first | (exfalso; omega) | skip
 have hw : IntKind.u8.wrap (n : Int) = n := by
  have h1 : (2 : Int) ^ 8 = 256 := by decide
  simp only [IntKind.wrap, IntKind.bits, IntKind.signed, Bool.false_and, Bool.false_eq_true, if_false, h1]
  omega
 rw [hw]
 refine yam (M := 256) (fun i m => decide (m ≤ 64) && (decide (i = 0) || decide (1 ≤ m))) yR yR yH (by kernel_rfl) hn (fun m hm => ?_)
 simp only [Bool.and_eq_true, Bool.or_eq_true, decide_eq_true_eq] at hm
 repeat' (first | (with_reducible first | refine zac yU yU yE ?_ | refine zab ?_) | fail)
 refine zch yG ⟨m, ?_, by omega, by omega⟩
 first | rfl | (simp [tupV]; done)
theorem yqi (n : Nat) (h0 : 0 < n) (hn : n < 256) : DC Tryz.prog 107 [.v (.int .u64 n)] [] (fun u S' => ∃ m : Nat, u = I m ∧ 1 ≤ m ∧ m ≤ 64) := by
 refine DC.of_run Tryz.func107 rfl Tryz.ntmps107 Tryz.results107 (by simp) (fun _ => ?_); simp only [zaq, zau, go_sem, Nat.zero_add, Nat.reduceAdd]
 repeat' (first | (with_reducible first | refine zac yU yU yE ?_ | refine zab ?_ | refine DS.seq ?_ | refine zaa ?_ | (refine zbc yE ?_; refine zdk ?_) | refine DS.skip ?_) | fail)
 refine zdx inferInstance (yjg n h0 hn) yR yH (fun u S' hu => ?_)
 obtain ⟨m, rfl, hm⟩ := hu
 repeat' (first | (with_reducible first | refine zac yU yU yE ?_ | refine zab ?_) | fail)
 exact zch yG ⟨m, rfl, hm⟩
structure Stl (n : Nat) (d : Array Rank) (a e : Nat) (D : Array Rank) : Prop where
 sz : D.size = n
 perm : Sort.PermIn 0 n d D
 ae : a ≤ e ∧ e ≤ n
 lo : ∀ i j, i < a → i < j → j < n → zdi D[j]! D[i]! = false
 hi : ∀ i j, i < j → e ≤ j → j < n → zdi D[j]! D[i]! = false
theorem Stl.turn {n : Nat} {d : Array Rank} {a e : Nat} {D D' : Array Rank} (h : Stl n d a e D) (p : Sort.PermIn a e D D') : Stl n d a e D' := by
 have q := h.ae; have q2 := h.sz
 refine ⟨by rw [p.1]; exact h.sz, Sort.permIn_trans _ _ _ _ _ h.perm (Sort.permIn_mono D D' a e 0 n (Nat.zero_le _) q.2 (by omega) p), q, fun i j h1 h2 h3 => ?_, fun i j h1 h2 h3 => ?_⟩
 ·rw [p.2.1 i (.inl h1)]
  by_cases h4 : a ≤ j ∧ j < e
  ·exact Sort.permIn_all D D' a e (fun r => zdi r D[i]! = false) (by omega) p (fun x h5 h6 => h.lo i x h1 (by omega) (by omega)) j h4.1 h4.2
  ·rw [p.2.1 j (by omega)]; exact h.lo i j h1 h2 h3
 ·rw [p.2.1 j (.inr h2)]
  by_cases h4 : a ≤ i ∧ i < e
  ·exact Sort.permIn_all D D' a e (fun r => zdi D[j]! r = false) (by omega) p (fun x h5 h6 => h.hi x j (by omega) h2 h3) i h4.1 h4.2
  ·rw [p.2.1 i (by omega)]; exact h.hi i j h1 h2 h3
theorem Stl.end_ {n : Nat} {d : Array Rank} {a e : Nat} {D : Array Rank} (h : Stl n d a e D) (s : Sort.SortedIn zdi a e D) : Sort.PermIn 0 n d D ∧ Sort.SortedIn zdi 0 n D := by
 refine ⟨h.perm, fun i j _ h2 h3 => ?_⟩
 by_cases h4 : i < a
 ·exact h.lo i j h4 h2 h3
 by_cases h5 : e ≤ j
 ·exact h.hi i j h2 h5 h3
 exact s i j (by omega) h2 (by omega)
theorem Stl.left {n : Nat} {d : Array Rank} {a e m : Nat} {D0 D D' : Array Rank} {X : Rank} (h0 : Stl n d a e D0) (h : PE n a e D0 X m D) (p : Sort.PermIn a m D D') (s : Sort.SortedIn zdi a m D') : Stl n d (m + 1) e D' := by
 have q1 := h.lo; have q2 := h.hi; have q3 := h0.ae; have q4 := h.sz
 have h1 := (h0.turn h.perm).turn (Sort.permIn_mono D D' a m a e (Nat.le_refl _) (by omega) (by omega) p)
 have lt : ∀ x, a ≤ x → x < m → zdi D'[x]! X = true := Sort.permIn_all D D' a m (fun r => zdi r X = true) (by omega) p h.left
 have at_ : D'[m]! = X := by rw [p.2.1 m (.inr (Nat.le_refl _))]; exact h.at_
 have ge : ∀ x, m < x → x < e → zdi D'[x]! X = false := fun x h2 h3 => by rw [p.2.1 x (.inr (by omega))]; exact h.right x h2 h3
 refine ⟨h1.sz, h1.perm, by omega, fun i j h2 h3 h4 => ?_, h1.hi⟩
 by_cases h5 : i < a
 ·exact h1.lo i j h5 h3 h4
 by_cases h6 : e ≤ j
 ·exact h1.hi i j h3 h6 h4
 by_cases h7 : i = m
 ·rw [h7, at_]; exact ge j (by omega) (by omega)
 have k := zhe (lt i (by omega) (by omega))
 by_cases h8 : j < m
 ·exact s i j (by omega) h3 h8
 by_cases h9 : j = m
 ·rw [h9, at_]; exact k
 exact lessK_swo.ntrans _ _ _ (ge j (by omega) (by omega)) k
theorem Stl.right {n : Nat} {d : Array Rank} {a e m : Nat} {D0 D D' : Array Rank} {X : Rank} (h0 : Stl n d a e D0) (h : PE n a e D0 X m D) (p : Sort.PermIn (m + 1) e D D') (s : Sort.SortedIn zdi (m + 1) e D') : Stl n d a m D' := by
 have q1 := h.lo; have q2 := h.hi; have q3 := h0.ae; have q4 := h.sz
 have h1 := (h0.turn h.perm).turn (Sort.permIn_mono D D' (m + 1) e a e (by omega) (Nat.le_refl _) (by omega) p)
 have lt : ∀ x, a ≤ x → x < m → zdi D'[x]! X = true := fun x h2 h3 => by rw [p.2.1 x (.inl (by omega))]; exact h.left x h2 h3
 have at_ : D'[m]! = X := by rw [p.2.1 m (.inl (by omega))]; exact h.at_
 have ge : ∀ x, m + 1 ≤ x → x < e → zdi D'[x]! X = false := Sort.permIn_all D D' (m + 1) e (fun r => zdi r X = false) (by omega) p fun x h2 h3 => h.right x (by omega) h3
 refine ⟨h1.sz, h1.perm, by omega, h1.lo, fun i j h2 h3 h4 => ?_⟩
 by_cases h5 : i < a
 ·exact h1.lo i j h5 h2 h4
 by_cases h6 : e ≤ j
 ·exact h1.hi i j h2 h6 h4
 by_cases h7 : j = m
 ·rw [h7, at_]; exact zhe (lt i (by omega) (by omega))
 have k := ge j (by omega) (by omega)
 by_cases h8 : i = m
 ·rw [h8, at_]; exact k
 by_cases h9 : i < m
 ·exact lessK_swo.ntrans _ _ _ k (zhe (lt i (by omega) h9))
 exact s i j (by omega) h2 (by omega)
theorem PE.not_first {n a e m : Nat} {D0 D : Array Rank} {X : Rank} (h : PE n a e D0 X m D) (hn : e ≤ n) {i : Nat} (h1 : a ≤ i ∧ i < e) (h2 : zdi D0[i]! X = true) : a < m := by
 have q1 := h.lo; have q2 := h.hi; have q4 := h.sz
 by_cases h3 : m = a
 ·exfalso
  have p : Sort.PermIn a e D D0 := ⟨h.perm.1.symm, fun i hi => (h.perm.2.1 i hi).symm, h.perm.2.2.symm⟩
  have := Sort.permIn_all D D0 a e (fun r => zdi r X = false) (by omega) p (fun x h4 h5 => by
   by_cases h6 : x = m
   ·rw [h6, h.at_]; exact zpw X
   ·exact h.right x (by omega) h5) i h1.1 h1.2
  rw [h2] at this; cases this
 ·omega
theorem ysf (b cap n : Nat) (d : Array Rank) (junk : List V) (hd : d.size = n) (hu : (d.toList.map (·.id)).Nodup) (l : Nat) (hl : 1 ≤ l ∧ l ≤ 64) (hs : n ≤ 15) (hn : n ≤ 1000000 ∧ n ≤ cap) :
  DC Tryz.prog 108 [rkI b n cap, I 0, I n, I l] (rkS b d.toList junk) (fun u S' => ∃ e : Array Rank, Sort.PermIn 0 n d e ∧ Sort.SortedIn zdi 0 n e ∧ S' = rkS b e.toList junk) := by
 refine DC.of_run Tryz.func108 rfl Tryz.ntmps108 Tryz.results108 (by simp) (fun _ => ?_); simp only [zaq, zau, go_sem, Nat.zero_add, Nat.reduceAdd]
 repeat' (first | (with_reducible first | refine zac yU yU yE ?_ | refine zab ?_ | refine DS.seq ?_ | refine zaa ?_ | refine DS.block ?_) | fail)
 refine zco [0] yN (fun (y : Nat × Nat × Bool × Array Rank) => [(1, I y.1), (2, I y.2.1), (3, I l), (8, Bo true), (9, Bo y.2.2.1)]) (fun (y : Nat × Nat × Bool × Array Rank) => rkS b y.2.2.2.toList junk) (fun (y : Nat × Nat × Bool × Array Rank) => Stl n d y.1 y.2.1 y.2.2.2) (fun (y : Nat × Nat × Bool × Array Rank) => y.2.1 - y.1) (0, n, true, d) yS (fun b o e => by exact e) ⟨hd, Sort.permIn_refl _ _ _, ⟨Nat.zero_le _, Nat.le_refl _⟩, fun i j h => by omega, fun i j h1 h2 h3 => by dsimp only at h2; omega⟩ (fun y B hI hB => ?_); try dsimp only at hI hB; simp only [zas, zav]
 obtain ⟨a, e, wp, D⟩ := y
 dsimp only at hI hB ⊢
 have q1 := hI.sz; have q2 := hI.ae
 have hA := yot q1 (ApartK.perm hd hu ⟨Nat.zero_le _, Nat.le_refl _⟩ hI.perm)
 have hB0 := hB
 clear hB
 by_cases hle : (e : Int) - a ≤ 12
 ·clear hB0
  have hin := zur b cap n D junk q1 (a := a) (e := e) q2 hn
  have k := Sort.insertionSort_holds lessK_swo D a e q2.1 (by omega)
  have k2 := (hI.turn k.1).end_ k.2
  repeat' (first | (with_reducible first | refine zac yU yU yE ?_ | refine zab ?_ | refine DS.seq ?_ | refine zaa ?_ | (refine zbc yE ?_; refine zdh ?_) | refine DS.block ?_) | fail)
  refine zdx inferInstance hin yR yH (fun u S' hu => ?_)
  subst hu
  repeat' (first | with_reducible refine zab ?_ | fail)
  exact zch yG ⟨_, k2.1, k2.2, rfl⟩
 have hcp := ztw b cap n D junk q1 hA (a := a) (e := e) (by omega) hn
 repeat' (first | (with_reducible first | refine zac yU yU yE ?_ | refine zab ?_ | refine DS.seq ?_ | refine zaa ?_ | (refine zbc yE ?_; first | refine zeo (fun _ => ?_) (fun _ => ?_) | refine zdk ?_) | refine DS.block ?_ | refine DS.skip ?_) | fail)
 all_goals first | (exfalso; omega) | skip
 refine zdx inferInstance hcp yR yH (fun u S' hu => ?_)
 obtain ⟨p, i0, h, rfl, c1, c2, c3, c4, rfl⟩ := hu
 have hh2 : ¬ (h : Int) = 2 := by omega
 repeat' (first | (with_reducible first | refine zac yU yU yE ?_ | refine zab ?_ | refine DS.seq ?_ | refine zaa ?_) | fail)
 refine ytd yE yR ?_
 refine DS.skip ?_
 refine DS.seq ?_
 refine ymb [(0, rkI b n cap), (1, I a), (2, I e), (3, I l), (8, Bo true), (9, Bo wp), (10, .v (.int .i64 ((e : Int) - a))), (11, I p)] (rkS b D.toList junk) ?_ ?_
 ·have hpi := zwm b cap n D junk q1 (a := a) (e := e) (by omega) hn
  repeat' (first | (with_reducible first | refine zac yU yU yE ?_ | refine zab ?_ | refine DS.seq ?_ | refine zaa ?_ | (refine zbc yE ?_; first | refine zeo (fun _ => ?_) (fun _ => ?_) | refine zdk ?_) | (refine zdz yU yE ?_; first | refine GG.run ?_ | refine zfx ?_ | refine yul (fun _ => ?_) (fun _ => ?_)) | refine DS.skip ?_) | fail)
  all_goals first | (refine DS.back ⟨yS, yS⟩; done) | skip
  ·refine zdx inferInstance hpi yR yH (fun u S' hu => ?_)
   obtain ⟨r, rfl, hr, rfl⟩ := hu
   cases r with
   | false =>
    repeat' (first | (with_reducible first | refine zab ?_ | (refine zbc yE ?_; refine zdk ?_) | refine DS.skip ?_) | fail)
    refine DS.back ⟨yS, yS⟩
   | true =>
    have k2 := hI.end_ (hr rfl)
    clear hB0
    repeat' (first | (with_reducible first | refine zab ?_ | (refine zbc yE ?_; refine zdh ?_)) | fail)
    exact zch yG ⟨_, k2.1, k2.2, rfl⟩
 refine DS.seq ?_
 refine ymb [(0, rkI b n cap), (1, I a), (2, I e), (3, I l), (8, Bo true), (9, Bo wp), (10, .v (.int .i64 ((e : Int) - a))), (11, I p)] (rkS b D.toList junk) ?_ ?_
 ·by_cases ha0 : (0 : Int) < a
  ·have hlt := zjb b cap n D junk q1 (i := a - 1) (j := p) (by omega) (by omega) hn
   have hlt2 := (hA (a - 1) p (by omega) (by omega) (by omega)).resolve_right (by rw [hI.lo (a - 1) p (by omega) (by omega) (by omega)]; decide)
   have hj1 : ((a - 1 : Nat) : Int) = (a : Int) - 1 := by omega
   rw [hj1, hlt2] at hlt
   repeat' (first | (with_reducible first | refine zac yU yU yE ?_ | refine DS.seq ?_ | refine zaa ?_ | (refine zdz yU yE ?_; refine GG.run ?_)) | fail)
   refine DS.invoke inferInstance (zgn _ _ _) yH hlt yR yH (fun u S' hu => ?_)
   obtain ⟨rfl, rfl⟩ := hu
   repeat' (first | (with_reducible first | refine zac yU yU yE ?_ | refine zab ?_ | (refine zbc yE ?_; refine zdk ?_) | (refine zdz yU yE ?_; refine GG.run ?_) | refine DS.skip ?_) | fail)
   refine DS.back ⟨yS, yS⟩
  ·repeat' (first | (with_reducible first | refine zac yU yU yE ?_ | refine zab ?_ | refine DS.seq ?_ | refine zaa ?_ | (refine zbc yE ?_; refine zdk ?_) | (refine zdz yU yE ?_; refine zfx ?_) | refine DS.skip ?_) | fail)
   refine DS.back ⟨yS, yS⟩
 have hpt := zyp b cap n D junk q1 (a := a) (e := e) (p := p) (by omega) hn
 repeat' (first | (with_reducible first | refine zac yU yU yE ?_ | refine DS.seq ?_ | refine zaa ?_) | fail)
 refine zdx inferInstance hpt yR yH (fun u S' hu => ?_)
 obtain ⟨m, al, D', rfl, hP, rfl⟩ := hu
 have hm1 := hP.not_first q2.2 (i := i0) (by omega) c3
 have hm2 := hP.hi
 have hm3 := hP.sz
 have q8 : ((e : Int) - a).tdiv 8 = 1 := by rw [Int.tdiv_eq_ediv_of_nonneg (by omega)]; omega
 by_cases hsd : (m : Int) - a < (e : Int) - m
 ·have hmi : (1 : Int) ≤ (m : Int) - a := by omega
  have hsm := zrn b cap n D' junk hm3 l (a := a) (e := m) (by omega) (by omega) hn
  have k := Sort.insertionSort_holds lessK_swo D' a m (by omega) (by omega)
  repeat' (first | (with_reducible first | refine zac yU yU yE ?_ | refine zab ?_ | refine DS.seq ?_ | refine zaa ?_ | (refine zbc yE ?_; refine zdh ?_)) | fail)
  refine zdx inferInstance hsm yR yH (fun u S' hu => ?_)
  subst hu
  repeat' (first | (with_reducible first | refine zac yU yU yE ?_ | refine zab ?_ | refine zaa ?_ | refine DS.blk ?_) | fail)
  refine DS.back (hB0 (m + 1, e, al, Sort.insertionSort zdi D' a m) _ _ (by dsimp only; omega) (hI.left hP k.1 k.2) yS yS (fun d o e => by exact e))
 ·have hmi : (1 : Int) ≤ (e : Int) - m := by omega
  have hsm := zrn b cap n D' junk hm3 l (a := m + 1) (e := e) (by omega) (by omega) hn
  have k := Sort.insertionSort_holds lessK_swo D' (m + 1) e (by omega) (by omega)
  rw [show ((m + 1 : Nat) : Int) = (m : Int) + 1 by omega] at hsm
  repeat' (first | (with_reducible first | refine zac yU yU yE ?_ | refine zab ?_ | refine DS.seq ?_ | refine zaa ?_ | (refine zbc yE ?_; refine zdk ?_)) | fail)
  refine zdx inferInstance hsm yR yH (fun u S' hu => ?_)
  subst hu
  repeat' (first | (with_reducible first | refine zac yU yU yE ?_ | refine zab ?_ | refine zaa ?_ | refine DS.blk ?_) | fail)
  refine DS.back (hB0 (a, m, al, Sort.insertionSort zdi D' (m + 1) e) _ _ (by dsimp only; omega) (hI.right hP k.1 k.2) yS yS (fun d o e => by exact e))
theorem yhq {n : Nat} (hs : n ≤ 15) : ypm n := fun b cap d junk hd hn hu => by
 have hln := yjf b cap d.toList junk
 rw [show d.toList.length = n by simpa using hd] at hln
 refine DC.of_run Tryz.func79 rfl Tryz.ntmps79 Tryz.results79 (by simp) (fun _ => ?_); simp only [zaq, zau, go_sem, Nat.zero_add, Nat.reduceAdd]
 repeat' (first | (with_reducible first | refine zac yU yU yE ?_ | refine DS.seq ?_ | refine zaa ?_) | fail)
 refine DS.invoke inferInstance (zzn _ _ _) yH hln yR yH (fun u S' hu => ?_)
 obtain ⟨rfl, rfl⟩ := hu
 have hw : IntKind.u64.wrap (n : Int) = n := ycq (by omega)
 repeat' (first | (with_reducible first | refine zac yU yU yE ?_ | refine zab ?_ | refine DS.seq ?_ | refine zaa ?_ | (refine zbc yE ?_; refine zeo (fun _ => ?_) (fun _ => ?_)) | refine DS.skip ?_) | fail)
 ·rename_i e1
  exact zch yG ⟨d, Sort.permIn_refl _ _ _, fun i j h1 h2 h3 => by omega, rfl⟩
 ·refine DS.call (dst := some 10) [] (rkS b d.toList junk) inferInstance (yqi n (by omega) (by omega)) yR yH (fun _ _ e => by cases e) (fun _ _ e => ⟨e, rfl⟩) ?_
  rintro v Sg ⟨m, rfl, hm⟩ hdis
  refine zqq hdis ?_
  simp only [zdr]
  repeat' (first | (with_reducible first | refine zac yU yU yE ?_ | refine zab ?_ | refine zaa ?_) | fail)
  have hp := ysf b cap n d junk hd hu m hm hs (by omega)
  refine zdx inferInstance hp yR yH (fun u S' hu => ?_)
  obtain ⟨e, k1, k2, rfl⟩ := hu
  repeat' (first | with_reducible refine zab ?_ | fail)
  exact zpp yG ⟨e, k1, k2, rfl⟩
end Go.XL
namespace Go.XL
open Go.Proofs
set_option maxRecDepth 100000
set_option maxHeartbeats 8000000
theorem ybk (c : Club) (hs : c.Small) (round : Int) : PC Tryz.prog 17 [c.val, I round] (ints (zck c round)) := by
 refine PC.of_peek ?_
 have hck := zor c hs
 have hpl := ygb c round hs.members
 rw [zck]
 refine DC.of_run Tryz.func17 rfl Tryz.ntmps17 Tryz.results17 (by simp) (fun _ => ?_); simp only [zaq, zau, go_sem, Nat.zero_add, Nat.reduceAdd]
 repeat' (first | (with_reducible first | refine zac yU yU yE ?_ | refine zab ?_ | refine DS.seq ?_ | refine zaa ?_ | (refine zbc yE ?_; first | refine zga (fun _ => ?_) (fun _ => ?_) | refine zdh ?_) | (refine zdz yU yE ?_; first | refine yrg (fun _ => ?_) (fun _ => ?_) | refine GG.run ?_ | refine ztm ?_) | refine DS.skip ?_) | refine zcb inferInstance (hck) yR yT ?_ | refine zcb inferInstance (hpl) yR yT ?_ | (refine zcz (t := 2) yU yE yU ?_; simp only [zbp, zct, zbn, zce, zbm, zbj, zbx, zbl, zcv, zcr, zca, zcq, zcd, zcc]) | refine zbi [] yE trivial ?_ | fail)
 ·rw [if_neg (by omega), if_pos (by assumption)]; rfl
 ·rw [if_neg (by omega), if_neg (by omega)]; rfl
 ·rw [if_pos (by assumption)]; rfl
end Go.XL
namespace Go.XL
set_option maxHeartbeats 4000000
theorem zud (n : Int) (out : List Int) : ∀ k : Nat, zks n out k ≤ k ∧ (∀ a : Nat, zks n out k ≤ a → a < k → n < out.getD a 0) ∧ (zks n out k = 0 ∨ out.getD (zks n out k - 1) 0 ≤ n)
 | 0 => ⟨Nat.le_refl _, fun a _ h => by omega, .inl rfl⟩
 | k + 1 => by
  rw [zks]
  split
  ·rename_i h
   obtain ⟨h1, h2, h3⟩ := zud n out k
   refine ⟨by omega, fun a ha hk => ?_, h3⟩
   by_cases e : a = k
   ·subst e; exact h
   ·exact h2 a ha (by omega)
  ·rename_i h
   exact ⟨Nat.le_refl _, fun a _ _ => by omega, .inr (by simpa using Int.not_lt.1 h)⟩
theorem yjo (out : List Int) (n : Int) : (insS out n).Perm (n :: out) := by
 rw [insS]
 refine List.perm_middle.trans ?_
 rw [List.take_append_drop]
theorem ybr {out : List Int} (h : out.Pairwise (· ≤ ·)) (n : Int) : (insS out n).Pairwise (· ≤ ·) := by
 obtain ⟨h1, h2, h3⟩ := zud n out out.length
 rw [insS]
 generalize zks n out out.length = p at *
 have hp := List.pairwise_iff_getElem.1 h
 rw [List.pairwise_append]
 refine ⟨List.Pairwise.sublist (List.take_sublist ..) h, .cons (fun x hx => ?_) (List.Pairwise.sublist (List.drop_sublist ..) h), fun x hx y hy => ?_⟩
 ·obtain ⟨i, hi, rfl⟩ := List.mem_iff_getElem.1 hx
  rw [List.length_drop] at hi
  have := h2 (p + i) (by omega) (by omega)
  rw [List.getD_eq_getElem?_getD, List.getElem?_eq_getElem (by omega), Option.getD_some] at this
  rw [List.getElem_drop]; omega
 ·obtain ⟨i, hi, rfl⟩ := List.mem_iff_getElem.1 hx
  rw [List.length_take] at hi
  rw [List.getElem_take]
  have hx2 : out[i]'(by omega) ≤ n := by
   rcases h3 with h3 | h3
   ·omega
   ·rw [List.getD_eq_getElem?_getD, List.getElem?_eq_getElem (by omega), Option.getD_some] at h3
    by_cases e : i = p - 1
    ·subst e; exact h3
    ·have := hp i (p - 1) (by omega) (by omega) (by omega)
     omega
  rcases List.mem_cons.1 hy with rfl | hy
  ·exact hx2
  ·obtain ⟨j, hj, rfl⟩ := List.mem_iff_getElem.1 hy
   rw [List.length_drop] at hj
   rw [List.getElem_drop]
   exact hp i (p + j) (by omega) (by omega) (by omega)
theorem zzk : ∀ (l out : List Int), out.Pairwise (· ≤ ·) → (l.foldl insS out).Pairwise (· ≤ ·) ∧ (l.foldl insS out).Perm (l ++ out)
 | [], out, h => ⟨h, .refl _⟩
 | n :: l, out, h => by
  obtain ⟨h1, h2⟩ := zzk l (insS out n) (ybr h n)
  refine ⟨h1, h2.trans ?_⟩
  refine ((yjo out n).append_left l).trans ?_
  exact List.perm_middle
theorem zrt {a b : Int} : ∀ {T : List (List Int)}, (∀ t ∈ T, ¬ (a ∈ t ∧ b ∈ t)) → metT a b T = 0
 | [], _ => rfl
 | t :: T, h => by
  rw [metT, if_neg (fun h1 => h t (List.mem_cons_self ..) h1.2), zrt fun t ht => h t (List.mem_cons_of_mem _ ht)]
theorem ydt {a b : Int} : ∀ {T : List (List Int)}, T.flatten.Nodup → metT a b T ≤ 1
 | [], _ => by simp [metT]
 | t :: T, h => by
  rw [List.flatten_cons] at h
  obtain ⟨h1, h2, h3⟩ := List.nodup_append.1 h
  rw [metT]
  by_cases h4 : a ≠ b ∧ a ∈ t ∧ b ∈ t
  ·rw [if_pos h4, zrt fun t' ht h5 => h3 a h4.2.1 a (List.mem_flatten.2 ⟨t', ht, h5.1⟩) rfl]
   omega
  ·rw [if_neg h4]
   have := ydt (a := a) (b := b) h2
   omega
theorem RoundOk.met {c : Club} {size : Nat} {ids : List Int} {T : List (List Int)} (h : RoundOk size (met0 c) ids T) (hn : ids.Nodup) {a b : Int} (hab : a ≠ b) : metT a b T ≤ 1 ∧ (0 < metS c a b → metT a b T = 0) := by
 refine ⟨ydt (h.perm.nodup_iff.2 hn), fun h1 => zrt fun t ht h2 => ?_⟩
 have h3 := List.pairwise_iff_getElem.1 ((zlj _ _).1 (h.fair t ht))
 obtain ⟨i, hi, rfl⟩ := List.getElem_of_mem h2.1
 obtain ⟨j, hj, rfl⟩ := List.getElem_of_mem h2.2
 have h4 : met0 c t[i] t[j] = true := decide_eq_true h1
 rcases Nat.lt_trichotomy i j with h5 | h5 | h5
 ·rw [h3 i j hi hj h5] at h4; cases h4
 ·subst h5; exact hab rfl
 ·rw [zru, h3 j i hj hi h5] at h4; cases h4
theorem ybm {c : Club} {ids : List Int} (hz : 1 ≤ c.size) (ha : ids.Pairwise (· < ·)) (h : (zjt c ids).2 = 0) : zdf c = 0 ∧ RoundOk c.size.toNat (met0 c) ids (zjt c ids).1 := by
 by_cases h1 : zdf c = 0
 ·refine ⟨h1, ?_⟩
  rw [zjt, if_neg (by omega)] at h ⊢
  split at h
  ·cases h
  rename_i h2
  rw [if_neg h2]
  split at h
  ·cases h
  rename_i h3
  rw [if_neg h3]
  split at h
  ·contradiction
  rename_i h4
  rw [if_neg h4]
  split at h
  ·cases h
  rename_i h5
  rw [if_neg h5]
  split at h
  ·cases h
  rename_i h6
  rw [if_neg h6]
  have h7 := zwa (size := c.size.toNat) (budget := -1) (rounds := [ids]) (znc [ids]) (met0 c) 0 ids 0 (by rw [runS] at h6; exact Decidable.not_not.1 h6)
  obtain ⟨T, Q', e, h8, h9⟩ := ykk (by omega) h7 ha
  have e2 : (runS c [ids] (-1)).2.2 = T.map (fun t => (0, t)) ++ Q' := e
  rcases h9 with ⟨-, rfl⟩ | ⟨h9, -⟩
  ·rw [e2]
   simpa [Function.comp_def] using h8
  ·exact absurd rfl h9
 ·rw [zjt, if_pos h1] at h
  exact absurd h h1
theorem ztg {c : Club} (hm : c.members.Pairwise fun a b => a.id < b.id) (r : Int) : (zer c r).Pairwise (· < ·) := by
 rw [zer, List.pairwise_map]
 exact hm.filter _
structure AheadI (n : Nat) (P : List (List (List Int))) (c : Club) (i : Nat) : Prop where
 chk : zdf c = 0
 size : c.size = 3 ∨ c.size = 4
 asc : c.members.Pairwise fun a b => a.id < b.id
 pos : ∀ m ∈ c.members, 0 < m.id
 len : i ≤ n ∧ c.rounds.length + (n - i) ≤ 20
 small : c.Small
 tab : yci c
 ids : ∀ m ∈ c.members, In64 m.id
 mem : c.members.length ≤ 1000
 plan : P.length = n
 fnd : i < n → ∃ rounds Q, rounds.length = n ∧ (∀ j, i ≤ j → j < n → rounds.getD j [] = zer c ((c.rounds.length : Int) + ((j - i : Nat) : Int))) ∧ Fnd c.size.toNat rounds (met0 c) i (zer c c.rounds.length) Q ∧ ∀ j, i ≤ j → j < n → P.getD j [] = (Q.filter fun q => decide (q.1 = j)).map Prod.snd
end Go.XL
namespace Go.XL
set_option maxHeartbeats 4000000
def Falls (l : List Int) : Prop := ∀ i, 1 ≤ i → i < l.length → l.getD i 0 ≤ l.getD (i - 1) 0
theorem Falls.le {l : List Int} (h : Falls l) {i : Nat} : ∀ {j : Nat}, i ≤ j → j < l.length → l.getD j 0 ≤ l.getD i 0
  | 0, h1, _ => by obtain rfl : i = 0 := by omega
                   exact Int.le_refl _
  | j + 1, h1, h2 => by
    rcases Nat.lt_or_ge i (j + 1) with h3 | h3
    · have h4 := h.le (i := i) (j := j) (by omega) (by omega)
      have h5 := h (j + 1) (by omega) h2
      rw [Nat.add_sub_cancel] at h5
      omega
    · obtain rfl : i = j + 1 := by omega
      exact Int.le_refl _
theorem yiv {p r : Int} (h : p < r) : ∀ q : List Int, zem q r + zdc q r ≤ zem q p
 | [] => by simp [zem, zdc]
 | x :: q => by
  have h1 := yiv h q
  simp only [zem, zdc, List.filter_cons] at h1 ⊢
  by_cases h2 : r < x
  ·rw [if_pos (decide_eq_true h2), if_neg (by simp; omega), if_pos (decide_eq_true (show p < x by omega))]
   simp only [List.length_cons]; omega
  ·rw [if_neg (by simpa using h2)]
   by_cases h3 : x = r
   ·rw [if_pos (decide_eq_true h3), if_pos (decide_eq_true (show p < x by omega))]
    simp only [List.length_cons]; omega
   ·rw [if_neg (by simpa using h3)]
    split <;> (try simp only [List.length_cons]) <;> omega
theorem yph {L U : Int} : ∀ (l : List Int), (∀ x ∈ l, L ≤ x ∧ x ≤ U) → l.length * L ≤ l.sum ∧ l.sum ≤ l.length * U
 | [], _ => by simp
 | x :: l, h => by
  have h1 := yph l fun y hy => h y (List.mem_cons_of_mem _ hy)
  have h2 := h x (List.mem_cons_self ..)
  simp only [List.length_cons, List.sum_cons, Int.natCast_add, Int.natCast_one, Int.add_mul, Int.one_mul]
  omega
theorem zue {sum many at_ : Int} (h : 0 ≤ at_) (h2 : at_ < many) : zkx sum many at_ = (sum + (many - 1 - at_)) / many := by
 have h3 := Int.mul_ediv_add_emod sum many
 have h4 := Int.emod_nonneg sum (show many ≠ 0 by omega)
 have h5 := Int.emod_lt_of_pos sum (show 0 < many by omega)
 rw [zkx]
 have e : sum + (many - 1 - at_) = (sum % many + (many - 1 - at_)) + many * (sum / many) := by omega
 rw [e, Int.add_mul_ediv_left _ _ (by omega)]
 split
 ·have : (sum % many + (many - 1 - at_)) / many = 1 := by
   have h9 : (sum % many + (many - 1 - at_)) = (sum % many - 1 - at_) + many * 1 := by omega
   rw [h9, Int.add_mul_ediv_left _ _ (by omega), Int.ediv_eq_zero_of_lt (by omega) (by omega)]; rfl
  omega
 ·have h8 : (sum % many + (many - 1 - at_)) / many = 0 := Int.ediv_eq_zero_of_lt (by omega) (by omega)
  omega
end Go.XL
namespace Go.XL
set_option maxHeartbeats 4000000
theorem yde (x : Int) : zgc x = 3 ∨ zgc x = 4 := by unfold zgc; split <;> simp
def yfa (size : Int) (l : List Int) : Prop :=
 (size = 3 ∧ ∃ a b c : Int, l = [a, b, c] ∧ a + b + c = 0 ∧ (-1000 ≤ a ∧ a ≤ 1000) ∧ (-1000 ≤ b ∧ b ≤ 1000) ∧ (-1000 ≤ c ∧ c ≤ 1000)) ∨
 (size = 4 ∧ ∃ a b c d : Int, l = [a, b, c, d] ∧ a + b + c + d = 0 ∧ (-1000 ≤ a ∧ a ≤ 1000) ∧ (-1000 ≤ b ∧ b ≤ 1000) ∧ (-1000 ≤ c ∧ c ≤ 1000) ∧ (-1000 ≤ d ∧ d ≤ 1000))
theorem yhi {n i : Int} (h : 0 ≤ n ∧ n ≤ 40) (hi : 1 ≤ i) : 0 ≤ n.tdiv i ∧ n.tdiv i ≤ 40 := by
 refine ⟨Int.tdiv_nonneg h.1 (by omega), ?_⟩
 rw [Int.tdiv_eq_ediv_of_nonneg h.1]
 exact Int.le_trans (Int.ediv_le_self _ h.1) h.2
theorem zuj (x : Int) : yfa (zgc x) (zdj x).1 := by
 have k1 := zbs (x5 x) 5
 have k2 := zbs (zae (x5 x)) 2
 have k3 := zbs (zae (zae (x5 x))) 9
 have k4 := zbs (zae (zae (zae (x5 x)))) 9
 have k5 := yhi (n := zaj (x5 x) 5 * 10) (i := 1 + 1) (by omega) (by omega)
 have k6 := yhi (n := zaj (x5 x) 5 * 10) (i := 1 + 1 + 1) (by omega) (by omega)
 rcases yde x with h | h
 ·refine .inl ⟨h, zaj (x5 x) 5 * 10 + zaj (zae (x5 x)) 2, (zaj (x5 x) 5 * 10).tdiv (1 + 1) - zaj (zae (zae (x5 x))) 9, -(zaj (x5 x) 5 * 10 + zaj (zae (x5 x)) 2 + ((zaj (x5 x) 5 * 10).tdiv (1 + 1) - zaj (zae (zae (x5 x))) 9)), ?_, ?_, ?_, ?_, ?_⟩
  ·rw [zdj, h]; rfl
  all_goals omega
 ·refine .inr ⟨h, zaj (x5 x) 5 * 10 + zaj (zae (x5 x)) 2, (zaj (x5 x) 5 * 10).tdiv (1 + 1) - zaj (zae (zae (x5 x))) 9, (zaj (x5 x) 5 * 10).tdiv (1 + 1 + 1) - zaj (zae (zae (zae (x5 x)))) 9, -(zaj (x5 x) 5 * 10 + zaj (zae (x5 x)) 2 + ((zaj (x5 x) 5 * 10).tdiv (1 + 1) - zaj (zae (zae (x5 x))) 9) + ((zaj (x5 x) 5 * 10).tdiv (1 + 1 + 1) - zaj (zae (zae (zae (x5 x)))) 9)), ?_, ?_, ?_, ?_, ?_, ?_⟩
  ·rw [zdj, h]; rfl
  all_goals omega
structure ZClub (c : Club) : Prop where
 start : 0 ≤ c.start ∧ c.start ≤ 300
 size : c.size = 3 ∨ c.size = 4
 places : yfa c.size c.places
end Go.XL
namespace Go.XL
set_option maxHeartbeats 4000000
theorem ycu {budget : Int} {round : Nat} {Q : Int → Prop} {rec : List Int → Int → Int × Int × List (Nat × List Int)} (h : ∀ t s, ∀ q ∈ (rec t s).2.2, ∀ x ∈ q.2, Q x) : ∀ (l : List (List Int)) (s : Int), (∀ t ∈ l, ∀ x ∈ t, Q x) → ∀ q ∈ (tryL budget round rec l s).2.2, ∀ x ∈ q.2, Q x
 | [], s, _, q, hq => by simp [tryL] at hq
 | t :: r, s, hl, q, hq => by
  simp only [tryL] at hq
  split at hq
  ·cases hq
  split at hq
  ·exact ycu h r _ (fun t' ht => hl t' (List.mem_cons_of_mem _ ht)) q hq
  ·rcases List.mem_cons.1 hq with rfl | hq
   ·exact hl t (List.mem_cons_self ..)
   ·exact h _ _ q hq
theorem zzq {st : List Int → Int → Bool} {Q : Int → Prop} {x : List Int} : ∀ (n : Nat) (t ids : List Int), (∀ a ∈ t, Q a) → (∀ a ∈ ids, Q a) → x ∈ zgo st n t ids → ∀ a ∈ x, Q a
 | 0, t, ids, h1, _, h => by
  simp only [zgo, List.mem_singleton] at h; subst h; exact h1
 | n + 1, t, ids, h1, h2, h => by
  rw [zgo] at h
  induction ids with
  | nil => simp [zfr] at h
  | cons id r ih =>
   rw [zfr] at h
   rcases List.mem_append.1 h with h | h
   ·split at h
    ·refine zzq n _ _ (fun a ha => ?_) (fun a ha => h2 a (List.mem_cons_of_mem _ ha)) h
     rcases List.mem_append.1 ha with ha | ha
     ·exact h1 a ha
     ·obtain rfl := List.mem_singleton.1 ha
      exact h2 a (List.mem_cons_self ..)
    ·cases h
   ·exact ih (fun a ha => h2 a (List.mem_cons_of_mem _ ha)) h
theorem zwb {size : Nat} {budget : Int} {rounds : List (List Int)} {Q : Int → Prop} (hr : ∀ l ∈ rounds, ∀ x ∈ l, Q x) : ∀ (n : Nat) (met : Int → Int → Bool) (round : Nat) (ids : List Int) (s : Int), (∀ x ∈ ids, Q x) → ∀ q ∈ (srch size budget rounds n met round ids s).2.2, ∀ x ∈ q.2, Q x
 | 0, met, round, ids, s, _, q, hq => by simp [srch] at hq
 | n + 1, met, round, [], s, _, q, hq => by
  rw [srch] at hq
  split at hq
  ·cases hq
  ·refine zwb hr n met _ _ _ (fun x hx => ?_) q hq
   rw [List.getD_eq_getElem?_getD] at hx
   cases e : rounds[round + 1]? with
   | none => rw [e] at hx; cases hx
   | some l => rw [e] at hx; exact hr l (List.mem_of_getElem? e) x hx
 | n + 1, met, round, f :: fr, s, hi, q, hq => by
  rw [srch] at hq
  refine ycu (fun t s => zwb hr n _ _ _ _ fun x hx => hi x (List.mem_filter.1 hx).1) _ _ (fun t ht => ?_) q hq
  exact zzq _ _ _ (fun a ha => by obtain rfl := List.mem_singleton.1 ha; exact hi _ (List.mem_cons_self ..)) (fun a ha => hi a (List.mem_cons_of_mem _ ha)) ht
theorem yit (c : Club) {Q : Int → Prop} (ids : List Int) (h : ∀ x ∈ ids, Q x) : ∀ t ∈ (zjt c ids).1, ∀ x ∈ t, Q x := by
 intro t ht
 unfold zjt at ht
 repeat' split at ht
 all_goals first | (cases ht; done) | skip
 obtain ⟨q, hq, rfl⟩ := List.mem_map.1 ht
 exact zwb (fun l hl => by obtain rfl := List.mem_singleton.1 hl; exact h) _ _ _ _ _ h q hq
theorem ynq {Q : Int → Prop} {out : List Int} {n : Int} (h : ∀ x ∈ out, Q x) (hn : Q n) : ∀ x ∈ insS out n, Q x := by
 intro x hx
 rw [insS] at hx
 rcases List.mem_append.1 hx with hx | hx
 ·exact h x (List.mem_of_mem_take hx)
 ·rcases List.mem_cons.1 hx with rfl | hx
  ·exact hn
  ·exact h x (List.mem_of_mem_drop hx)
theorem zoj {Q : Int → Prop} : ∀ (l out : List Int), (∀ x ∈ out, Q x) → (∀ x ∈ l, Q x) → ∀ x ∈ l.foldl insS out, Q x
 | [], out, h, _ => h
 | a :: r, out, h, hl => zoj r _ (ynq h (hl a (List.mem_cons_self ..))) fun x hx => hl x (List.mem_cons_of_mem _ hx)
theorem ynt {Q : Int → Prop} (h0 : Q 0) {l : List Int} (h : ∀ x ∈ l, Q x) (i : Nat) : Q (l.getD i 0) := by
 rw [List.getD_eq_getElem?_getD]
 cases e : l[i]? with
 | none => exact h0
 | some x => exact h x (List.mem_of_getElem? e)
theorem ycy {Q : Int → Prop} (h0 : Q 0) (size : Int) : ∀ (n : Nat) (x : Int) (t rest : List Int), (∀ a ∈ t, Q a) → (∀ a ∈ rest, Q a) → (∀ a ∈ (tabG size n x t rest).1, Q a) ∧ ∀ a ∈ (tabG size n x t rest).2.1, Q a
 | 0, x, t, rest, h1, h2 => ⟨h1, h2⟩
 | n + 1, x, t, rest, h1, h2 => by
  rw [tabG]
  split
  ·refine ycy h0 size n _ _ _ (fun a ha => ?_) (fun a ha => ?_)
   ·rcases List.mem_append.1 ha with ha | ha
    ·exact h1 a ha
    ·obtain rfl := List.mem_singleton.1 ha
     exact ynt h0 h2 _
   ·rcases List.mem_append.1 ha with ha | ha
    ·exact h2 a (List.mem_of_mem_take ha)
    ·exact h2 a (List.mem_of_mem_drop ha)
  ·exact ⟨h1, h2⟩
theorem zqw {Q : Int → Prop} (h0 : Q 0) (size : Int) : ∀ (n : Nat) (x : Int) (rest : List Int) (out : List (List Int)), (∀ a ∈ rest, Q a) → (∀ t ∈ out, ∀ a ∈ t, Q a) → ∀ t ∈ (zmx size n x rest out).1, ∀ a ∈ t, Q a
 | 0, x, rest, out, h1, h2 => h2
 | n + 1, x, rest, out, h1, h2 => by
  simp only [zmx]
  split
  ·have h3 := ycy h0 size size.toNat x [rest.headD 0] (rest.drop 1) (fun a ha => by
    obtain rfl := List.mem_singleton.1 ha
    cases rest with
    | nil => exact h0
    | cons b r => exact h1 b (List.mem_cons_self ..)) (fun a ha => h1 a (List.mem_of_mem_drop ha))
   refine zqw h0 size n _ _ _ h3.2 fun t ht => ?_
   rcases List.mem_append.1 ht with ht | ht
   ·exact h2 t ht
   ·obtain rfl := List.mem_singleton.1 ht
    exact zoj _ _ (fun x hx => by cases hx) h3.1
  ·exact h2
theorem zwg {Q : Int → Prop} (h0 : Q 0) (c : Club) (x : Int) (h : ∀ m ∈ c.members, Q m.id) : ∀ t ∈ (zay c x).1, ∀ a ∈ t, Q a := by
 have h1 : ∀ a ∈ (zdp c x).1, Q a := fun a ha => by
  have h2 := (zgr c.size x (zck c c.rounds.length)).subset ha
  unfold zck at h2
  repeat' split at h2
  all_goals first | (cases h2; done) | skip
  obtain ⟨m, hm, rfl⟩ := List.mem_map.1 h2
  exact h m (List.mem_filter.1 hm).1
 unfold zay
 split
 ·dsimp only
  split
  ·exact yit c _ h1
  ·exact zqw h0 c.size _ _ _ _ h1 (fun t ht => by cases ht)
 ·exact zqw h0 c.size _ _ _ _ h1 (fun t ht => by cases ht)
structure MadeQ (c : Club) (Q : Int → Prop) (L : Nat) (s : Sitting) : Prop where
 made : MadeR c.size L s
 ids : ∀ t ∈ s.tables, ∀ a ∈ t, Q a
theorem zpu {Q : Int → Prop} (h0 : Q 0) (c : Club) (L : Nat) (hs : 1 ≤ c.size) (hL : c.members.length + 2 ≤ L) (hm : ∀ m ∈ c.members, Q m.id) : ∀ (k : Nat) (x : Int) (R : List Sitting), (∀ s ∈ R, MadeQ c Q L s) →
  (∀ s ∈ (zez c k x R).1, MadeQ c Q L s) ∧ (zez c k x R).1.length = R.length + k
 | 0, x, R, h => ⟨h, rfl⟩
 | k + 1, x, R, h => by
  rw [zez]
  have h1 := zrd c x R L hs hL fun s hs => (h s hs).made
  have h2 := zpu h0 c L hs hL hm k (zhn c x R).2 (R ++ [⟨(zay (zcu c R) x).1, (zcn (zcu c R) x).1, (zhn c x R).1⟩]) fun s hs => by
   rcases List.mem_append.1 hs with hs | hs
   ·exact h s hs
   ·obtain rfl := List.mem_singleton.1 hs
    exact ⟨h1, zwg h0 (zcu c R) x hm⟩
  exact ⟨h2.1, by rw [h2.2, List.length_append, List.length_singleton]; omega⟩
theorem zib : ∀ (k : Nat) (id x : Int) (out : List Member), (0 ≤ id ∧ ∀ m ∈ out, 0 ≤ m.id ∧ m.id ≤ id) → (zdd k id x out).1.length = out.length + k ∧ ∀ m ∈ (zdd k id x out).1, 0 ≤ m.id ∧ m.id ≤ id + 3 * k
 | 0, id, x, out, h => ⟨rfl, fun m hm => by have := h.2 m hm; omega⟩
 | k + 1, id, x, out, h => by
  rw [zdd]
  have h1 := zbs x (3 - 1 + 1)
  have h2 : 1 ≤ zcw x 1 3 ∧ zcw x 1 3 ≤ 3 := by unfold zcw; omega
  have h3 := zib k (id + zcw x 1 3) (zkv (zic (zae x)).2).2 (out ++ [⟨id + zcw x 1 3, (zic (zae x)).1, (zkv (zic (zae x)).2).1.1, (zkv (zic (zae x)).2).1.2⟩]) ⟨by omega, fun m hm => by
   rcases List.mem_append.1 hm with hm | hm
   ·have := h.2 m hm; omega
   ·obtain rfl := List.mem_singleton.1 hm
    dsimp only; omega⟩
  refine ⟨by rw [h3.1, List.length_append, List.length_singleton]; omega, fun m hm => ?_⟩
  have := h3.2 m hm
  omega
structure MClub (c : Club) : Prop where
 size : c.size = 3 ∨ c.size = 4
 mem : c.members.length ≤ 13
 id : ∀ m ∈ c.members, 0 ≤ m.id ∧ m.id ≤ 39
 rounds : c.rounds.length ≤ 3
 round : ∀ s ∈ c.rounds, MadeQ c (fun n => 0 ≤ n ∧ n ≤ 39) 15 s
 places : (c.places.length : Int) = c.size
theorem zqh (x : Int) : zgc x = 3 ∨ zgc x = 4 := by unfold zgc; split <;> simp
theorem zrj (x : Int) : ((zdj x).1.length : Int) = zgc x := by
 rcases zqh x with h | h <;> (rw [zdj, h]; rfl)
theorem yom (x : Int) : MClub (zen x 3).1 := by
 have h1 := zqh x
 have h2 := zbs (zdj x).2 (3 - 1 + 1)
 have h3 := zbs (zae (zdj x).2) 2
 have h4 : 1 ≤ zcw (zdj x).2 1 3 ∧ zcw (zdj x).2 1 3 ≤ 3 := by unfold zcw; omega
 have h5 : 0 ≤ zgc x * zcw (zdj x).2 1 3 ∧ zgc x * zcw (zdj x).2 1 3 ≤ 12 := by
  rcases h1 with h | h <;> rw [h] <;> omega
 have h6 := zib (zgc x * zcw (zdj x).2 1 3 + zaj (zae (zdj x).2) 2).toNat 0 (zae (zae (zdj x).2)) [] ⟨Int.le_refl _, fun m hm => by cases hm⟩
 have h7 : (zfo x).1.length ≤ 13 := by rw [zfo, h6.1]; simp only [List.length_nil]; omega
 have h8 : ∀ m ∈ (zfo x).1, 0 ≤ m.id ∧ m.id ≤ 39 := fun m hm => by have := h6.2 m hm; omega
 have h9 := zbs (zfo x).2 (3 + 1)
 have h10 := zpu (Q := fun n => 0 ≤ n ∧ n ≤ 39) (by omega) (zhy x) 15 (by show 1 ≤ zgc x; omega) (by show (zfo x).1.length + 2 ≤ 15; omega) h8 (zaj (zfo x).2 (3 + 1)).toNat (zae (zfo x).2) [] (fun s hs => by cases hs)
 refine ⟨h1, h7, h8, ?_, fun s hs => ⟨(h10.1 s hs).made, (h10.1 s hs).ids⟩, zrj x⟩
 show (zez (zhy x) (zaj (zfo x).2 (3 + 1)).toNat (zae (zfo x).2) []).1.length ≤ 3
 rw [h10.2]; simp only [List.length_nil]; omega
theorem MClub.small {c : Club} (h : MClub c) : c.Small where
 places := by have := h.places; have := h.size; omega
 members := Nat.le_trans h.mem (by omega)
 rounds := Nat.le_trans h.rounds (by omega)
 round := fun s hs => (h.round s hs).made.small (by have := h.size; omega) (by omega)
theorem MClub.tab {c : Club} (h : MClub c) : yci c := by
 intro s hs t ht x hx
 have := (h.round s hs).ids t ht x hx
 unfold In64; omega
theorem MClub.in64 {c : Club} (h : MClub c) : ∀ m ∈ c.members, In64 m.id := fun m hm => by
 have := h.id m hm
 unfold In64; omega
end Go.XL
namespace Go.XL
set_option maxHeartbeats 4000000
def Club.add (c : Club) (s : Sitting) : Club := { c with rounds := c.rounds ++ [s] }
theorem zxd (c : Club) (s : Sitting) : (c.add s).rounds.length = c.rounds.length + 1 := by simp [Club.add]
theorem zrc (c : Club) (s : Sitting) {k : Int} (h0 : 0 ≤ k) (h : k < c.rounds.length) : (c.add s).round k = c.round k := by
 rw [Club.round, Club.round, Club.add]
 dsimp only
 rw [List.getD_eq_getElem?_getD, List.getD_eq_getElem?_getD, List.getElem?_append_left (by omega)]
theorem zui (c : Club) (s : Sitting) : (c.add s).round (c.rounds.length : Int) = s := by
 rw [Club.round_at (c.add s) (by rw [zxd]; omega)]
 simp [Club.add]
theorem ygd (c : Club) (s : Sitting) {k : Int} (h : k < c.rounds.length) (table : Int) : zdv (c.add s) k table = zdv c k table := by
 by_cases h0 : 0 ≤ k
 ·rw [zdv, zdv, zrc c s h0 h, decide_eq_decide]
  rw [zxd]
  constructor
  ·rintro ⟨-, h2⟩; exact ⟨⟨h0, by omega⟩, h2⟩
  ·rintro ⟨-, h2⟩; exact ⟨⟨h0, by omega⟩, h2⟩
 ·rw [zdv, zdv, decide_eq_false (by omega), decide_eq_false (by omega)]
theorem znt (c : Club) (s : Sitting) {k : Int} (h : k < c.rounds.length) : ∀ l, zcx (c.add s) k l = zcx c k l
 | [] => rfl
 | x :: r => by
  rw [zcx, zcx, znt c s h r]
  have hw : (c.add s).window = c.window := rfl
  have hr : zfn (c.add s) x.points = zfn c x.points := rfl
  rw [hw, hr]
  by_cases h1 : ¬ (max 0 (k - c.window) ≤ x.round ∧ x.round ≤ k)
  ·rw [if_pos h1, if_pos h1]
  ·rw [if_neg h1, if_neg h1, ygd c s (by have := (Decidable.not_not.1 h1).2; omega)]
theorem ygy {c : Club} (hc : zdf c = 0) {s : Sitting} (hl : c.rounds.length < 20) (ht : zdn c c.rounds.length s.tables [] 0 = 0) (h1 : s.points.length = s.tables.length) (h2 : zdm c s.points = 0)
  (h3 : s.rulings.length ≤ 20) (h4 : zcx (c.add s) c.rounds.length s.rulings = 0) : zdf (c.add s) = 0 := by
 have hr : zfq (c.add s) = zfq c := rfl
 rw [zdf] at hc
 split at hc
 ·contradiction
 split at hc
 ·contradiction
 split at hc
 ·cases hc
 rename_i k1 k2 k3
 have h5 := (zhm c c.rounds.length 0).1 hc
 rw [zdf, hr, if_neg k1, show (c.add s).members = c.members from rfl, if_neg k2, zxd, if_neg (by omega)]
 refine (zhm (c.add s) _ 0).2 fun k _ hk => ?_
 by_cases hk2 : k < c.rounds.length
 ·obtain ⟨h6, h7⟩ := h5 k (Nat.zero_le _) (by omega)
  have e := zrc c s (k := k) (by omega) (by omega)
  constructor
  ·rw [zev, e, zji (c := c.add s) (d := c) rfl rfl]; exact h6
  ·rw [zhx, zft, zfm, e, znt c s (by omega), zjk (c := c.add s) (d := c) rfl rfl]
   exact h7
 ·obtain rfl : k = c.rounds.length := by omega
  have e := zui c s
  constructor
  ·rw [zev, e, zji (c := c.add s) (d := c) rfl rfl]; exact ht
  ·rw [zhx, zft, zfm, e, if_neg (show ¬ s.points.length ≠ s.tables.length by omega), zjk (c := c.add s) (d := c) rfl rfl, h2, if_neg (by decide), if_neg (by omega), h4]
theorem zrq {size : Int} (hs : 1 ≤ size) : ∀ (n : Nat) (x : Int) (l : List Int), l.length < n → ((zph size n x l).1.length : Int) % size = 0
 | 0, _, _, h => by omega
 | n + 1, x, l, h => by
  simp only [zph]
  have key : ∀ i : Nat, i < l.length → (l.take i ++ l.drop (i + 1)).length < n := fun i hi => by
   rw [List.length_append, List.length_take, List.length_drop]; omega
  split
  ·rename_i h1; show ((l.length : Nat) : Int) % size = 0; rw [h1]; simp
  ·have h2 := zbs x l.length
   have h3 := zbs (zae x) l.length
   split
   ·exact zrq hs n _ _ (key _ (by omega))
   ·rename_i h4
    split
    ·exact zrq hs n _ _ (key _ (by omega))
    ·exact Decidable.not_not.1 h4
theorem zxw (size : Int) : ∀ (n : Nat) (x : Int) (t rest : List Int), ((t.length : Int) + rest.length ≥ size) → ((tabG size n x t rest).1 ++ (tabG size n x t rest).2.1).Perm (t ++ rest) ∧ (tabG size n x t rest).2.1.Sublist rest
 | 0, x, t, rest, h => ⟨.refl _, .refl _⟩
 | n + 1, x, t, rest, h => by
  simp only [tabG]
  split
  ·rename_i h1
   have hb := zbs x rest.length
   have hi : (zaj x rest.length).toNat < rest.length := by omega
   generalize (zaj x rest.length).toNat = i at hi ⊢
   have e : rest.getD i 0 = rest[i] := by rw [List.getD_eq_getElem?_getD, List.getElem?_eq_getElem hi]; rfl
   have e2 : rest = rest.take i ++ rest[i] :: rest.drop (i + 1) := by rw [← List.drop_eq_getElem_cons hi, List.take_append_drop]
   have hl : (rest.take i ++ rest.drop (i + 1)).length + 1 = rest.length := by rw [List.length_append, List.length_take, List.length_drop]; omega
   obtain ⟨k1, k2⟩ := zxw size n (zae x) (t ++ [rest.getD i 0]) (rest.take i ++ rest.drop (i + 1)) (by rw [List.length_append, List.length_singleton]; omega)
   refine ⟨k1.trans ?_, k2.trans ?_⟩
   ·rw [e, List.append_assoc, List.singleton_append]
    refine List.Perm.append_left _ ?_
    conv => rhs; rw [e2]
    exact List.perm_middle.symm
   ·conv => rhs; rw [e2]
    exact List.Sublist.append (List.Sublist.refl _) (List.sublist_cons_self ..)
  ·exact ⟨.refl _, .refl _⟩
abbrev yln (size : Nat) (ids : List Int) (T : List (List Int)) : Prop := RoundOk size (fun _ _ => false) ids T
theorem yeu (t : List Int) : zlk (fun _ _ => false) t = true := (zlj _ _).2 (List.pairwise_of_forall fun _ _ => rfl)
theorem ycx {size : Int} (hs : 1 ≤ size) {ids : List Int} : ∀ (n : Nat) (x : Int) (rest : List Int) (out : List (List Int)), rest.length < n → (rest.length : Int) % size = 0 → rest.Pairwise (· < ·) → (out.flatten ++ rest).Perm ids → (∀ t ∈ out, ∀ a ∈ rest, t.headD 0 < a) →
  out.Pairwise (fun a b => a.headD 0 < b.headD 0) → (∀ t ∈ out, (t.length : Int) = size) → (∀ t ∈ out, t.Pairwise (· < ·)) → ids.Nodup → yln size.toNat ids (zmx size n x rest out).1
 | 0, _, _, _, h, _, _, _, _, _, _, _, _ => by omega
 | n + 1, x, rest, out, h1, h2, h3, h4, h5, h6, h7, h8, h9 => by
  simp only [zmx]
  split
  ·rename_i hle
   cases rest with
   | nil => simp only [List.length_nil] at hle; omega
   | cons f fr =>
    have q := zxw size size.toNat x [f] fr (by simp only [List.length_cons, List.length_nil] at hle ⊢; omega)
    have ql := zvv size size.toNat x [f] fr (by simp; omega) (by simp; omega)
    simp only [List.headD_cons, List.drop_one, List.tail_cons] at q ql ⊢
    generalize tabG size size.toNat x [f] fr = g at q ql ⊢
    obtain ⟨t, r2, x2⟩ := g
    dsimp only at q ql ⊢
    obtain ⟨q1, q2⟩ := q
    obtain ⟨a1, a2⟩ := List.pairwise_cons.1 h3
    have hnd : (t ++ r2).Nodup := q1.nodup_iff.2 (h3.imp fun h => by omega)
    obtain ⟨s1, s2⟩ := zzk t [] .nil
    rw [List.append_nil] at s2
    have hrl : (zfs t).length = t.length := s2.length_eq
    have hrp : (zfs t).Perm t := s2
    have hra : (zfs t).Pairwise (· < ·) := by
     have n1 : (zfs t).Nodup := hrp.nodup_iff.2 (List.nodup_append.1 hnd).1
     exact (List.pairwise_and_iff.2 ⟨s1, n1⟩).imp fun {a b} h => by omega
    have hmem : ∀ a ∈ zfs t, a = f ∨ f < a := fun a ha => by
     have : a ∈ f :: fr := (q1.mem_iff.1 (List.mem_append_left _ (hrp.mem_iff.1 ha)))
     rcases List.mem_cons.1 this with e | e
     ·exact .inl e
     ·exact .inr (a1 a e)
    have hf : f ∈ zfs t := by
     have : f ∈ t ++ r2 := q1.mem_iff.2 (List.mem_cons_self ..)
     rcases List.mem_append.1 this with e | e
     ·exact hrp.mem_iff.2 e
     ·have := a1 f (q2.subset e); omega
    have hhead : (zfs t).headD 0 = f := by
     generalize zfs t = R at *
     cases R with
     | nil => cases hf
     | cons a r =>
      rw [List.headD_cons]
      rcases hmem a (List.mem_cons_self ..) with e | e
      ·exact e
      ·rcases List.mem_cons.1 hf with e2 | e2
       ·exact e2.symm
       ·have := (List.pairwise_cons.1 hra).1 f e2; omega
    have hlen : (t ++ r2).length = (f :: fr).length := q1.length_eq
    rw [List.length_append, List.length_cons] at hlen
    refine ycx hs n x2 r2 (out ++ [zfs t]) ?_ ?_ (List.Pairwise.sublist q2 a2) ?_ ?_ ?_ ?_ ?_ h9
    ·simp only [List.length_cons] at h1; omega
    ·rw [List.length_cons] at h2
     have e3 : ((fr.length + 1 : Nat) : Int) = size + r2.length := by omega
     rw [e3, Int.add_emod_left] at h2
     exact h2
    ·refine List.Perm.trans ?_ h4
     rw [List.flatten_append, List.flatten_singleton, List.append_assoc]
     exact List.Perm.append_left _ ((List.Perm.append_right _ hrp).trans q1)
    ·intro t' ht' a ha
     rcases List.mem_append.1 ht' with ht' | ht'
     ·exact h5 t' ht' a (List.mem_cons_of_mem _ (q2.subset ha))
     ·obtain rfl := List.mem_singleton.1 ht'
      rw [hhead]; exact a1 a (q2.subset ha)
    ·refine List.pairwise_append.2 ⟨h6, List.pairwise_singleton .., fun a ha b hb => ?_⟩
     obtain rfl := List.mem_singleton.1 hb
     rw [hhead]; exact h5 a ha f (List.mem_cons_self ..)
    ·intro t' ht'
     rcases List.mem_append.1 ht' with ht' | ht'
     ·exact h7 t' ht'
     ·obtain rfl := List.mem_singleton.1 ht'
      rw [hrl]; exact ql
    ·intro t' ht'
     rcases List.mem_append.1 ht' with ht' | ht'
     ·exact h8 t' ht'
     ·obtain rfl := List.mem_singleton.1 ht'
      exact hra
  ·rename_i hle
   have h0 : rest = [] := by
    have h10 := Int.emod_eq_of_lt (a := (rest.length : Int)) (b := size) (by omega) (by omega)
    have : (rest.length : Int) = 0 := by omega
    exact List.length_eq_zero_iff.1 (by omega)
   subst h0
   rw [List.append_nil] at h4
   exact ⟨h4, h6, fun t ht => by have := h7 t ht; omega, h8, fun t _ => yeu t⟩
theorem zxu {size : Int} (hs : 1 ≤ size) {ids : List Int} (x : Int) (h1 : (ids.length : Int) % size = 0) (h2 : ids.Pairwise (· < ·)) : yln size.toNat ids (zeq size x ids).1 :=
 ycx hs _ x ids [] (Nat.lt_succ_self _) h1 h2 (.refl _) (fun t ht => by cases ht) .nil (fun t ht => by cases ht) (fun t ht => by cases ht) (h2.imp fun h => by omega)
theorem zyi {c : Club} (hz : 1 ≤ c.size) (hm : c.members.Pairwise fun a b => a.id < b.id) (x : Int) : yln c.size.toNat (zdp c x).1 (zay c x).1 := by
 have ha : (zdp c x).1.Pairwise (· < ·) := by
  refine List.Pairwise.sublist (zgr c.size x _) ?_
  unfold zck
  split
  ·exact .nil
  split
  ·exact .nil
  exact ztg hm _
 have hd : ((zdp c x).1.length : Int) % c.size = 0 := zrq hz _ x _ (Nat.lt_succ_self _)
 have h1 := zxu hz (ids := (zdp c x).1) (zdp c x).2 hd ha
 unfold zay
 split
 ·dsimp only
  split
  ·rename_i h2
   have h3 := (ybm hz ha h2.2).2
   exact ⟨h3.perm, h3.heads, h3.len, h3.asc, fun t _ => yeu t⟩
  ·exact h1
 ·exact h1
theorem zky (c : Club) (x : Int) : (zdp c x).1.Sublist (zck c c.rounds.length) := zgr c.size x _
theorem yev (start : Int) : ∀ (n : Nat) (x : Int) (out : List Int), (∀ a ∈ out, start - 30 ≤ a ∧ a ≤ start + 30) → (∀ a ∈ (zll start n x out).1, start - 30 ≤ a ∧ a ≤ start + 30) ∧ (zll start n x out).1.length = out.length + n
 | 0, x, out, h => ⟨h, rfl⟩
 | n + 1, x, out, h => by
  have hb := zbs x 7
  obtain ⟨h1, h2⟩ := yev start n (zae x) (out ++ [start + (zaj x 7 - 3) * 10]) fun a ha => by
   rcases List.mem_append.1 ha with ha | ha
   ·exact h a ha
   ·obtain rfl := List.mem_singleton.1 ha
    omega
  exact ⟨h1, by rw [zll, h2, List.length_append, List.length_singleton]; omega⟩
theorem zlu {most : Int} : ∀ {l : List Int} {want : Int}, (∀ a ∈ l, -most ≤ a ∧ a ≤ most) → l.sum = want → zea most l want = 0
 | [], want, _, h => by rw [zea, if_pos (by simpa using h.symm)]
 | a :: l, want, h1, h => by
  rw [zea, if_pos (h1 a (List.mem_cons_self ..))]
  exact zlu (fun b hb => h1 b (List.mem_cons_of_mem _ hb)) (by rw [List.sum_cons] at h; omega)
theorem zsl {c : Club} (hz : 3 ≤ c.size ∧ c.size ≤ 4) (hst : 0 ≤ c.start ∧ c.start ≤ 1000000) (x : Int) : zfn c (zfv c.size c.start x).1 = 0 := by
 obtain ⟨h1, h2⟩ := yev c.start (c.size.toNat - 1) x [] (fun a ha => by cases ha)
 have h3 := zol c.size c.start x (by omega)
 rw [zfn, zgi, if_pos h3]
 have h4 := yph (L := c.start - 30) (U := c.start + 30) (zll c.start (c.size.toNat - 1) x []).1 h1
 have h5 : (zll c.start (c.size.toNat - 1) x []).1.length = 2 ∨ (zll c.start (c.size.toNat - 1) x []).1.length = 3 := by rw [h2, List.length_nil]; omega
 refine zlu (fun a ha => ?_) ?_
 ·rw [zfv] at ha
  rcases List.mem_cons.1 ha with rfl | ha
  ·have h6 : c.size = 3 ∨ c.size = 4 := by omega
   rcases h5 with h5 | h5 <;> rw [h5] at h4 <;> rcases h6 with h6 | h6 <;> rw [h6] at h4 ⊢ <;> omega
  ·have := h1 a ha; omega
 ·rw [zfv, List.sum_cons]; omega
theorem ybh {c : Club} (hz : 3 ≤ c.size ∧ c.size ≤ 4) (hst : 0 ≤ c.start ∧ c.start ≤ 1000000) : ∀ (n : Nat) (x : Int) (out : List (List Int)), zdm c out = 0 → zdm c (ptsG c.size c.start n x out).1 = 0
 | 0, x, out, h => h
 | n + 1, x, out, h => by
  have key : ∀ (p : List Int), p.length = 0 ∨ zfn c p = 0 → ∀ out, zdm c out = 0 → zdm c (out ++ [p]) = 0 := fun p hp out => by
   induction out with
   | nil =>
    intro _
    rw [List.nil_append, zdm, zdm]
    rcases hp with hp | hp
    ·rw [if_pos hp]
    ·rw [hp]; split <;> rfl
   | cons a r ih =>
    intro h
    rw [List.cons_append, zdm]
    rw [zdm] at h
    split
    ·rename_i h1; rw [if_pos h1] at h; exact ih h
    ·rename_i h1
     rw [if_neg h1] at h
     split at h
     ·contradiction
     ·rename_i h2; rw [if_neg h2]; exact ih h
  rw [ptsG]
  split
  ·exact ybh hz hst n _ _ (key _ (.inr (zsl hz hst _)) _ h)
  ·exact ybh hz hst n _ _ (key _ (.inl rfl) _ h)
theorem znr {c : Club} {k : Int} (x : Ruling) (h1 : max 0 (k - c.window) ≤ x.round ∧ x.round ≤ k) (h2 : zdv c x.round x.table = true) (h3 : zfn c x.points = 0) : ∀ R, zcx c k R = 0 → zcx c k (R ++ [x]) = 0
 | [], _ => by rw [List.nil_append, zcx, zcx, if_neg (fun h => h h1), h2, if_neg (by decide), h3]; rfl
 | a :: r, h => by
  rw [List.cons_append, zcx]
  rw [zcx] at h
  split
  ·rename_i h4; rw [if_pos h4] at h; exact h
  rename_i h4
  rw [if_neg h4] at h
  split
  ·rename_i h5; rw [if_pos h5] at h; exact h
  rename_i h5
  rw [if_neg h5] at h
  split
  ·rename_i h6; rw [if_pos h6] at h; exact h
  rename_i h6
  rw [if_neg h6] at h
  exact znr x h1 h2 h3 r h
theorem zwf {c : Club} (hz : 3 ≤ c.size ∧ c.size ≤ 4) (hst : 0 ≤ c.start ∧ c.start ≤ 1000000) {k round : Int} (h1 : max 0 (k - c.window) ≤ round ∧ round ≤ k) : ∀ (l : List (List Int)) (t : Nat) (x : Int) (R : List Ruling),
  (∀ (j : Nat), j < l.length → 0 < (l.getD j []).length → zdv c round ((t + j : Nat) : Int) = true) → zcx c k R = 0 → zcx c k (rulG c.size c.start round l t x R).1 = 0
 | [], t, x, R, h2, h => h
 | p :: l, t, x, R, h2, h => by
  have h3 : ∀ (j : Nat), j < l.length → 0 < (l.getD j []).length → zdv c round ((t + 1 + j : Nat) : Int) = true := fun j hj hp => by
   have := h2 (j + 1) (by simpa using hj) (by simpa using hp)
   rw [show t + 1 + j = t + (j + 1) by omega]; exact this
  have e : ((t : Nat) : Int) + 1 = ((t + 1 : Nat) : Int) := by omega
  rw [rulG, e]
  split
  ·rename_i h4
   have h5 := h2 0 (by simp) (by simpa using h4)
   split
   ·exact zwf hz hst h1 l (t + 1) _ _ h3 (znr _ h1 h5 (zsl hz hst _) R h)
   ·exact zwf hz hst h1 l (t + 1) _ _ h3 h
  ·exact zwf hz hst h1 l (t + 1) _ _ h3 h
theorem yia {c : Club} (hz : 3 ≤ c.size ∧ c.size ≤ 4) (hst : 0 ≤ c.start ∧ c.start ≤ 1000000) (hw : 0 ≤ c.window) {n : Nat} {ps : List (List (List Int))} (hn : ps.length = n + 1) (hps : ∀ i : Nat, i < n + 1 → (c.round i).points = ps.getD i []) (hcl : c.rounds.length = n + 1) :
  ∀ (k : Nat) (x : Int) (R : List Ruling), zcx c n R = 0 → zcx c n (rulK c.size c.start c.window ps k x R).1 = 0
 | 0, x, R, h => h
 | k + 1, x, R, h => by
  rw [rulK]
  have hb := zbs x (c.window + 1)
  have ha : max 0 ((n : Int) - c.window) ≤ zjj c.window x ps.length ∧ zjj c.window x ps.length ≤ n := by
   rw [zjj, hn]; omega
  obtain ⟨i, hi⟩ : ∃ i : Nat, zjj c.window x ps.length = i := ⟨(zjj c.window x ps.length).toNat, by omega⟩
  refine yia hz hst hw hn hps hcl k _ _ ?_
  rw [hi] at ha ⊢
  refine zwf hz hst ha _ 0 _ _ (fun j hj hp => ?_) h
  rw [Int.toNat_natCast] at hj hp
  have e := hps i (by omega)
  rw [zdv, e, decide_eq_true_eq]
  refine ⟨by omega, ⟨by omega, by omega⟩, ?_⟩
  rw [Nat.zero_add, Int.toNat_natCast]; exact hp
theorem zmt : ∀ (k : Nat) (id x : Int) (out : List Member) (last : Int), (∀ m ∈ out, -10000 ≤ m.hand ∧ m.hand ≤ 10000 ∧ 0 ≤ m.from_ ∧ m.from_ ≤ 20 ∧ (m.to = -1 ∨ m.from_ ≤ m.to ∧ m.to ≤ 20)) → out.Pairwise (fun a b => a.id < b.id) → (∀ m ∈ out, last < m.id ∧ m.id ≤ id) → last ≤ id → zeb (zdd k id x out).1 last = 0
 | 0, id, x, out, last, h1, h2, h3, _ => by
  show zeb out last = 0
  induction out generalizing last with
  | nil => rfl
  | cons m r ih =>
   obtain ⟨a1, a2⟩ := List.pairwise_cons.1 h2
   have b1 := h1 m (List.mem_cons_self ..)
   have b2 := h3 m (List.mem_cons_self ..)
   rw [zeb, if_neg (by omega), if_neg (by omega), if_neg (by omega)]
   have ih2 := ih m.id (fun y hy => h1 y (List.mem_cons_of_mem _ hy)) a2 (fun y hy => ⟨a1 y hy, (h3 y (List.mem_cons_of_mem _ hy)).2⟩) (by omega)
   split
   ·exact ih2
   ·rw [if_pos (by omega)]; exact ih2
 | k + 1, id, x, out, last, h1, h2, h3, h4 => by
  rw [zdd]
  have hb := zbs x (3 - 1 + 1)
  have hr : 1 ≤ zcw x 1 3 := by unfold zcw; omega
  refine zmt k _ _ _ last (fun m hm => ?_) ?_ (fun m hm => ?_) (by omega)
  ·rcases List.mem_append.1 hm with hm | hm
   ·exact h1 m hm
   ·obtain rfl := List.mem_singleton.1 hm
    have c1 := zbs (zae (zae x)) 21
    have c2 := zbs (zae (zic (zae x)).2) 3
    have c3 := zbs (zae (zae (zic (zae x)).2)) 2
    have d1 : -10000 ≤ (zic (zae x)).1 ∧ (zic (zae x)).1 ≤ 10000 := by unfold zic; split <;> (dsimp only; omega)
    have d2 : 0 ≤ (zkv (zic (zae x)).2).1.1 ∧ (zkv (zic (zae x)).2).1.1 ≤ 20 ∧ ((zkv (zic (zae x)).2).1.2 = -1 ∨ (zkv (zic (zae x)).2).1.1 ≤ (zkv (zic (zae x)).2).1.2 ∧ (zkv (zic (zae x)).2).1.2 ≤ 20) := by
     generalize (zic (zae x)).2 = y at *
     unfold zkv; split <;> (dsimp only; omega)
    exact ⟨d1.1, d1.2, d2⟩
  ·refine List.pairwise_append.2 ⟨h2, List.pairwise_singleton .., fun a ha b hb => ?_⟩
   obtain rfl := List.mem_singleton.1 hb
   have := (h3 a ha).2
   dsimp only; omega
  ·rcases List.mem_append.1 hm with hm | hm
   ·have := h3 m hm; omega
   ·obtain rfl := List.mem_singleton.1 hm
    dsimp only; omega
theorem yon (x : Int) : zdf (zhy x) = 0 ∧ (3 ≤ (zhy x).size ∧ (zhy x).size ≤ 4) ∧ (0 ≤ (zhy x).start ∧ (zhy x).start ≤ 1000000) ∧ 0 ≤ (zhy x).window ∧ (zhy x).members.length ≤ 13 := by
 have b1 := zbs x 4
 have b2 := zbs (zae x) 5
 have b3 := zbs (zae (zae x)) 3
 have hz : 3 ≤ (zhy x).size ∧ (zhy x).size ≤ 4 := by have := yde x; show 3 ≤ zgc x ∧ zgc x ≤ 4; omega
 have hst : 0 ≤ (zhy x).start ∧ (zhy x).start ≤ 1000000 := by show 0 ≤ zaj x 4 * 100 ∧ zaj x 4 * 100 ≤ 1000000; omega
 have hab : -1000000 ≤ (zhy x).absent ∧ (zhy x).absent ≤ 1000000 := by show -1000000 ≤ zaj (zae x) 5 * 10 - 30 ∧ zaj (zae x) 5 * 10 - 30 ≤ 1000000; omega
 have hw : 0 ≤ (zhy x).window ∧ (zhy x).window ≤ 20 := by show 0 ≤ zaj (zae (zae x)) 3 ∧ zaj (zae (zae x)) 3 ≤ 20; omega
 have hpl : zgi (zhy x).size (zhy x).places 1000000 0 = 0 := by
  show zgi (zgc x) (zdj x).1 1000000 0 = 0
  rw [zgi, if_pos (zrj x)]
  rcases zuj x with ⟨-, a, b, c, e, h0, h1, h2, h3⟩ | ⟨-, a, b, c, d, e, h0, h1, h2, h3, h4⟩
  ·rw [e]
   exact zlu (fun y hy => by simp only [List.mem_cons, List.not_mem_nil, or_false] at hy; omega) (by simp only [List.sum_cons, List.sum_nil]; omega)
  ·rw [e]
   exact zlu (fun y hy => by simp only [List.mem_cons, List.not_mem_nil, or_false] at hy; omega) (by simp only [List.sum_cons, List.sum_nil]; omega)
 have hr : zfq (zhy x) = 0 := by
  rw [zfq, if_neg (by omega), if_neg (by omega), if_neg (by omega), if_neg (by omega), hpl]
 have hm := zmt (zgc x * zcw (zdj x).2 1 3 + zaj (zae (zdj x).2) 2).toNat 0 (zae (zae (zdj x).2)) [] 0 (fun m hm => by cases hm) .nil (fun m hm => by cases hm) (Int.le_refl _)
 have hml : (zhy x).members.length ≤ 13 := by
  have h1 := zqh x
  have h2 := zbs (zdj x).2 (3 - 1 + 1)
  have h3 := zbs (zae (zdj x).2) 2
  have h4 : 1 ≤ zcw (zdj x).2 1 3 ∧ zcw (zdj x).2 1 3 ≤ 3 := by unfold zcw; omega
  have h5 : 0 ≤ zgc x * zcw (zdj x).2 1 3 ∧ zgc x * zcw (zdj x).2 1 3 ≤ 12 := by
   rcases h1 with h | h <;> rw [h] <;> omega
  have h6 := zib (zgc x * zcw (zdj x).2 1 3 + zaj (zae (zdj x).2) 2).toNat 0 (zae (zae (zdj x).2)) [] ⟨Int.le_refl _, fun m hm => by cases hm⟩
  show (zfo x).1.length ≤ 13
  rw [zfo, h6.1]; simp only [List.length_nil]; omega
 have hmem : zey (zhy x).members = 0 := by
  rw [zey, if_neg (by omega)]; exact hm
 refine ⟨?_, hz, hst, hw.1, hml⟩
 rw [zdf, hr, if_neg (by decide), hmem, if_neg (by decide), show (zhy x).rounds = [] from rfl]
 rfl
theorem ylb {c : Club} (hc : zdf c = 0) : (c.members.Pairwise fun a b => a.id < b.id) ∧ ∀ m ∈ c.members, 0 < m.id := by
 obtain ⟨-, k2, -⟩ := zfi hc
 exact ⟨ylc k2, (zwz k2).pos⟩
theorem yic {c : Club} {R : List Sitting} (hc : zdf (zcu c R) = 0) (hz : 3 ≤ c.size ∧ c.size ≤ 4) (hst : 0 ≤ c.start ∧ c.start ≤ 1000000) (hw : 0 ≤ c.window) (hm : c.members.length ≤ 13) (hR : R.length ≤ 10) (hR4 : ∀ s ∈ R, s.points.length ≤ 4) (x : Int) :
  zdf (zcu c (R ++ [⟨(zay (zcu c R) x).1, (zcn (zcu c R) x).1, (zhn c x R).1⟩])) = 0 ∧ (zcn (zcu c R) x).1.length ≤ 4 := by
 obtain ⟨ha, hp⟩ := ylb hc
 have h1 := zyi (c := zcu c R) (by show 1 ≤ c.size; omega) ha x
 have h2 := (zky (zcu c R) x).subset
 have e : zck (zcu c R) (zcu c R).rounds.length = zer (zcu c R) (zcu c R).rounds.length := by
  rw [zck, if_neg (by omega), if_neg (by omega)]
 rw [e] at h2
 have hids : (zdp (zcu c R) x).1.Pairwise (· < ·) := by
  have := (zky (zcu c R) x)
  rw [e] at this
  exact List.Pairwise.sublist this (ztg ha _)
 have h3 := h1.count
 have h4 : (zdp (zcu c R) x).1.length ≤ 13 := by
  have k1 := (zky (zcu c R) x).length_le
  rw [e, zer, List.length_map] at k1
  have k2 := List.length_filter_le (fun m : Member => m.plays (zcu c R).rounds.length) (zcu c R).members
  have k3 : (zcu c R).members.length ≤ 13 := hm
  omega
 have h5 : (zay (zcu c R) x).1.length ≤ 4 := by
  have k1 : 3 ≤ (zcu c R).size.toNat := by show 3 ≤ c.size.toNat; omega
  have k2 := Nat.mul_le_mul_left (zay (zcu c R) x).1.length k1
  omega
 have hpl := (znw c.size c.start (by omega) (zay (zcu c R) x).1.length (zay (zcu c R) x).2 [] (fun p hp => by cases hp)).2
 rw [List.length_nil, Nat.zero_add] at hpl
 have hpl' : (zcn (zcu c R) x).1.length = (zay (zcu c R) x).1.length := hpl
 have e2 : zcu c (R ++ [⟨(zay (zcu c R) x).1, (zcn (zcu c R) x).1, (zhn c x R).1⟩]) = (zcu c R).add ⟨(zay (zcu c R) x).1, (zcn (zcu c R) x).1, (zhn c x R).1⟩ := rfl
 rw [e2]
 have mem : ∀ t ∈ (zay (zcu c R) x).1, ∀ y ∈ t, y ∈ zer (zcu c R) (zcu c R).rounds.length := fun t ht y hy => h2 (h1.perm.mem_iff.1 (List.mem_flatten.2 ⟨t, ht, hy⟩))
 refine ⟨ygy hc (by show R.length < 20; omega) ?_ hpl' (ybh (c := zcu c R) hz hst _ _ [] rfl) ?_ ?_, by rw [hpl']; exact h5⟩
 ·refine zqx (fun t ht => ?_) (fun t ht => zof ha _ (mem t ht) (h1.asc t ht) fun p hp => by cases hp) ?_ (fun t ht => ?_) h1.heads
  ·have := h1.len t ht
   have k : (zcu c R).size = c.size := rfl
   rw [k] at this ⊢; omega
  ·rw [List.nil_append]; exact h1.perm.nodup_iff.2 (hids.imp fun h => by omega)
  ·have h6 := h1.len t ht
   have k : (zcu c R).size = c.size := rfl
   rw [k] at h6
   cases t with
   | nil => simp at h6; omega
   | cons y r =>
    obtain ⟨m, hm1, hm2⟩ := List.mem_map.1 (mem _ ht y (List.mem_cons_self ..))
    have := hp m (List.mem_filter.1 hm1).1
    simp only [List.headD_cons]; omega
 ·have h6 := (zwe c.size c.start c.window (by omega) (R.map Sitting.points ++ [(zcn (zcu c R) x).1]) 4 (ybs (fun p hp => by
   rcases List.mem_append.1 hp with hp | hp
   ·obtain ⟨s, hs, rfl⟩ := List.mem_map.1 hp
    exact hR4 s hs
   ·obtain rfl := List.mem_singleton.1 hp
    rw [hpl']; exact h5)) (zaj (zcn (zcu c R) x).2 3).toNat (zae (zcn (zcu c R) x).2) [] (fun r hr => by cases hr)).2
  have h7 := zbs (zcn (zcu c R) x).2 3
  rw [List.length_nil, Nat.zero_add] at h6
  refine Nat.le_trans h6 ?_
  have h8 : (zaj (zcn (zcu c R) x).2 3).toNat ≤ 2 := by omega
  have := Nat.mul_le_mul_right 4 h8
  omega
 ·refine yia (c := (zcu c R).add ⟨(zay (zcu c R) x).1, (zcn (zcu c R) x).1, (zhn c x R).1⟩) hz hst hw (n := R.length) (ps := R.map Sitting.points ++ [(zcn (zcu c R) x).1]) (by simp) (fun i hi => ?_) (by rw [zxd]; rfl) _ _ [] rfl
  by_cases h7 : i < R.length
  ·rw [zrc _ _ (by omega) (by show ((i : Nat) : Int) < (R.length : Int); omega), Club.round_at _ (show i < (zcu c R).rounds.length from h7), List.getD_eq_getElem?_getD, List.getElem?_append_left (by simpa using h7), List.getElem?_map, List.getElem?_eq_getElem h7]
   rfl
  ·obtain rfl : i = R.length := by omega
   have k := zui (zcu c R) ⟨(zay (zcu c R) x).1, (zcn (zcu c R) x).1, (zhn c x R).1⟩
   rw [show ((zcu c R).rounds.length : Int) = (R.length : Int) from rfl] at k
   rw [k]
   simp
theorem zuh {c : Club} (hz : 3 ≤ c.size ∧ c.size ≤ 4) (hst : 0 ≤ c.start ∧ c.start ≤ 1000000) (hw : 0 ≤ c.window) (hm : c.members.length ≤ 13) : ∀ (k : Nat) (x : Int) (R : List Sitting), R.length + k ≤ 10 → (∀ s ∈ R, s.points.length ≤ 4) → zdf (zcu c R) = 0 →
  zdf (zcu c (zez c k x R).1) = 0 ∧ ∀ s ∈ (zez c k x R).1, s.points.length ≤ 4
 | 0, x, R, h1, h2, h3 => ⟨h3, h2⟩
 | k + 1, x, R, h1, h2, h3 => by
  rw [zez]
  obtain ⟨h4, h5⟩ := yic h3 hz hst hw hm (by omega) h2 x
  exact zuh hz hst hw hm k _ _ (by rw [List.length_append, List.length_singleton]; omega) (fun s hs => by
   rcases List.mem_append.1 hs with hs | hs
   ·exact h2 s hs
   ·obtain rfl := List.mem_singleton.1 hs
    exact h5) h4
theorem yku (x : Int) : zdf (zen x 3).1 = 0 ∧ ∀ s ∈ (zen x 3).1.rounds, s.points.length ≤ 4 := by
 obtain ⟨h1, h2, h3, h4, h5⟩ := yon x
 have hb := zbs (zfo x).2 (3 + 1)
 exact zuh h2 h3 h4 h5 (zaj (zfo x).2 (3 + 1)).toNat _ [] (by rw [List.length_nil]; omega) (fun s hs => by cases hs) h1
end Go.XL
namespace Go.XL
open Go.Proofs
set_option maxRecDepth 100000
set_option maxHeartbeats 8000000
abbrev wI (n : Int) : Int := IntKind.i64.wrap n
def sumI (l : List Int) (n : Int) : Int := l.foldl (fun n x => wI (n + x)) n
def zku (r : Rank) (ms : List Member) (w : Int) : Int := ms.foldl (fun w m => if m.id = r.id then wI (w + wI (m.hand * r.games)) else w) w
def accR (ms : List Member) (s : Int × Int × Int) (r : Rank) : Int × Int × Int := (wI (s.1 + r.total), zku r ms s.2.1, wI (s.2.2 + sumI r.places 0))
def accT (c : Club) (pts : List (List Int)) : Nat → Nat → Int × Int → Int × Int
 | _, 0, p => p
 | k, n + 1, p => accT c pts (k + 1) n (wI (p.1 - wI (c.absent * c.size)), if 0 < (pts.getD k []).length then wI (p.2 - c.size) else p.2)
def accS (c : Club) : List Sitting → Nat → Int × Int → Int × Int
 | [], _, p => p
 | s :: r, i, p => accS c r (i + 1) (accT c s.points 0 s.tables.length (wI (p.1 + wI (c.absent * (zck c i).length)), p.2))
abbrev smC (c : Club) : List V := [I c.size, I c.start, I c.absent, I c.window, ints c.places, Bo c.share, .lst (c.members.map Member.cells), .lst (c.rounds.map Sitting.cells)]
theorem yil (c : Club) (r : Int) : (zck c r).length ≤ c.members.length := by
 unfold zck
 split
 ·simp
 split
 ·simp
 rw [zer, List.length_map]
 exact List.length_filter_le ..
structure RowOk (R : List Rank) (i : Nat) (h : i < R.length) : Prop where
 games : sumI R[i].places 0 = R[i].games
 plen : R[i].places.length ≤ 1000
 total : 0 < i → R[i].total ≤ (R[i - 1]'(by omega)).total
 place : 0 < i → (R[i - 1]'(by omega)).place ≤ R[i].place
 id : 0 < i → R[i].place = (R[i - 1]'(by omega)).place → (R[i - 1]'(by omega)).id < R[i].id
 le : R[i].place ≤ i
theorem yab (nums : List Int) (hR : ∀ i h, RowOk (zjo (zen (newX nums) 3).1) i h) (hc : zdf (zen (newX nums) 3).1 = 0) (h0 : 0 < (zen (newX nums) 3).1.members.length) (hend : ∀ S W G, (zjo (zen (newX nums) 3).1).foldl (accR (zen (newX nums) 3).1.members) (0, 0, 0) = (S, W, G) → accS (zen (newX nums) 3).1 (zen (newX nums) 3).1.rounds 0 (W, G) = (S, 0)) :
  PC Tryz.prog 6 [ints nums] (Bo true) := by
 have hM := yom (newX nums)
 refine DC.of_run Tryz.func6 rfl Tryz.ntmps6 Tryz.results6 (by simp) (fun _ => ?_); simp only [zaq, zau, go_sem, Nat.zero_add, Nat.reduceAdd]
 repeat' (first | (with_reducible first | refine zac yU yU yE ?_ | refine zab ?_ | refine DS.seq ?_ | refine zaa ?_) | fail)
 refine DS.call (dst := some 18) [] [] inferInstance (yqg nums) yR yH (fun _ _ e => by cases e) (fun _ _ e => by cases e) ?_
 rintro v S0 ⟨bs, rfl, rfl⟩ -
 refine zfj (S' := []) (fun _ _ e => by cases e) ?_
 generalize (zen (newX nums) 3).1 = c at *
 simp only [zdr]
 have hs := hM.small
 have hst := yhp c hs (by have := hM.mem; omega) (yhq (by have := hM.mem; omega)) hc h0
 have hRl : (zjo c).length = c.members.length := by rw [zjo, zig, zxy, List.length_map]
 have hm13 := hM.mem
 have hrl := hM.rounds
 generalize zjo c = R at *
 have HR := Box.mk hR
 clear hR
 repeat' (first | with_reducible refine zac yU yU yE ?_ | fail)
 refine zex yR yU yU (fun b4 h4 => ?_)
 clear h4
 repeat' (first | (with_reducible first | refine zac yU yU yE ?_ | refine zab ?_ | refine DS.seq ?_ | refine zaa ?_) | (refine DS.store yR yE yE yE yE yU (by exact ⟨by with_unfolding_all rfl, by (try simp only [List.length_map, List.length_append, List.length_set, List.length_replicate, List.length_cons, List.length_nil]); omega⟩) ?_; simp only [zbt, zbb, zbh, zcm, zbq, zbo, zbr]; try simp only [zao, zag, zah, Nat.reduceEqDiff, ↓reduceIte, zal, zam, zar, zak, zai, zap, zan]) | fail)
 simp only [Club.cells_eq, List.map_cons, List.map_nil, zcv, zbl, zbb, zbh, zcy, zcl, setS, ↓reduceIte, Nat.reduceAdd, Nat.zero_add]
 repeat' (first | (with_reducible first | refine zac yU yU yE ?_ | refine zab ?_ | refine DS.seq ?_ | refine zaa ?_ | (refine zbc yE ?_; refine zdk ?_) | (refine zdz yU yE ?_; refine GG.run ?_) | refine DS.block ?_ | refine DS.skip ?_) | refine zcb inferInstance (hst) yR yT ?_ | fail)
 generalize hA : R.foldl (accR c.members) (0, 0, 0) = A at *
 obtain ⟨SA, WA, GA⟩ := A
 have hE := Box.mk (hend SA WA GA rfl)
 clear hend hst
 have HA := Box.mk hA
 clear hA
 refine zco [4, 5] yN (fun (y : Nat × Int × Int × Int) => [(7, I y.2.1), (8, I y.2.2.1), (9, I y.2.2.2), (10, I y.1)]) (fun (y : Nat × Int × Int × Int) => [(b4, .cells (smC c) 26)]) (fun (y : Nat × Int × Int × Int) => y.1 ≤ R.length ∧ (SA, WA, GA) = (R.drop y.1).foldl (accR c.members) y.2) (fun (y : Nat × Int × Int × Int) => R.length - y.1) (0, 0, 0, 0) yS (fun b o e => by exact e) ⟨Nat.zero_le _, HA.out.symm⟩ (fun y B hI hB => ?_); try dsimp only at hI hB; simp only [zas, zav]
 clear HA
 obtain ⟨i, sm, w, g⟩ := y
 dsimp only at hI hB ⊢
 obtain ⟨g1, g2⟩ := hI
 have H := Box.mk g2
 clear g2
 have HB0 := Box.mk hB
 clear hB
 by_cases hi : (i : Int) < (c.members.length : Int)
 ·have hi' : i < R.length := by omega
  obtain ⟨r1, r2, r3, r4, r5, r6⟩ := HR.out i hi'
  have HS := Box.mk r1
  clear r1
  repeat' (first | (with_reducible first | refine zac yU yU yE ?_ | refine zab ?_ | refine DS.seq ?_ | refine zaa ?_ | (refine zbc yE ?_; refine zdh ?_) | refine DS.block ?_ | refine DS.skip ?_) | fail)
  refine zco [4, 5, 7, 8, 9, 10] yN (fun (z : Nat × Int) => [(11, I z.2), (12, I z.1)]) (fun (z : Nat × Int) => [(b4, .cells (smC c) 26)]) (fun (z : Nat × Int) => z.1 ≤ R[i].places.length ∧ sumI R[i].places 0 = sumI (R[i].places.drop z.1) z.2) (fun (z : Nat × Int) => R[i].places.length - z.1) (0, 0) yS (fun b o e => by exact e) ⟨Nat.zero_le _, rfl⟩ (fun z B hI hB => ?_); try dsimp only at hI hB; simp only [zas, zav]
  obtain ⟨k, n⟩ := z
  dsimp only at hI hB ⊢
  obtain ⟨f1, f2⟩ := hI
  have H2 := Box.mk f2
  clear f2
  by_cases hk : (k : Int) < (R[i].places.length : Int)
  ·have hk' : k < R[i].places.length := by omega
   repeat' (first | (with_reducible first | refine zac yU yU yE ?_ | refine zab ?_ | refine DS.seq ?_ | refine zaa ?_ | (refine zbc yE ?_; refine zdh ?_) | refine DS.blk ?_ | refine DS.block ?_ | refine DS.skip ?_) | fail)
   refine DS.back (hB (k + 1, wI (n + R[i].places[k])) _ _ (by dsimp only; omega) ⟨by dsimp only; omega, ?_⟩ yS yS (fun d o e => by exact e))
   rw [H2.out, List.drop_eq_getElem_cons hk']; rfl
  ·have hn : n = R[i].games := by
    rw [← HS.out, H2.out, List.drop_eq_nil_of_le (by omega)]; rfl
   subst hn
   clear hB H2
   repeat' (first | (with_reducible first | refine zac yU yU yE ?_ | refine zab ?_ | refine DS.seq ?_ | refine zaa ?_ | (refine zbc yE ?_; refine zdk ?_) | refine DS.exit yU ?_) | fail)
   simp only [List.append_eq, List.cons_append, List.nil_append]
   refine ypa [(4, .v (.pointer (some ⟨b4, 0, none⟩))), (5, ysd R), (7, I (wI (sm + R[i].total))), (8, I w), (9, I g), (10, I i), (11, I R[i].games)] [(b4, .cells (smC c) 26)] ?_ ?_
   ·
    have H0 := Box.mk hc
    clear hc hk f1
    have s5 : ¬ (i : Int) < R[i].place := by omega
    by_cases hi0 : (0 : Int) < i
    ·have s1 := r3 (by omega)
     have s2 := r4 (by omega)
     have s3 : ¬ (R[i - 1]'(by omega)).total < R[i].total := by omega
     have s4 : ¬ R[i].place < (R[i - 1]'(by omega)).place := by omega
     have ht : ((i : Int) - 1).toNat = i - 1 := by omega
     by_cases hp : R[i].place = (R[i - 1]'(by omega)).place
     ·have s6 : ¬ R[i].id ≤ (R[i - 1]'(by omega)).id := by have := r5 (by omega) hp; omega
      have hp' : decide (R[i].place = (R[i - 1]'(by omega)).place) = true := decide_eq_true hp
      have HP := Box.mk hp
      clear hp r3 r4 r5 s1 s2 r2
      repeat' (first | (with_reducible first | refine zac yU yU yE ?_ | refine zab ?_ | (refine zbc yE ?_; refine zdk ?_) | (refine zdz yU yE ?_; refine GG.run ?_) | refine DS.skip ?_) | refine zbz (id := 15) [0, 1, 2, 3, 4, 5, 6, 7, 8, 9, 10, 11, 12, 13, 14, 15, 16, 17, 18, 19, 20, 21, 22, 23, 24, 25, 26, 27, 28, 29, 30, 31, 32, 33, 34, 35, 36, 37, 38, 39, 40, 41, 42, 43, 44, 45, 46, 47, 48, 49, 50, 51, 52, 53, 54, 55, 56, 57, 58, 59, 60, 61, 62, 63, 64, 65, 66, 67, 68, 69, 70, 71, 72, 73] 74 (by kernel_rfl) zdq (by simp only [zba, zbd, zbe, zbf, zaz]; exact rfl) (by simp only [zaw, zax, List.drop_nil]; exact rfl) ?_ | (with_reducible first | refine zbv yU yU yU yE ?_ | (refine zpq yU yE ?_; refine DGG.run ?_) | refine zdb ?_) | fail)
      refine DS.back ⟨yS, yS⟩
     ·clear r3 r4 r5 s1 s2 r2
      repeat' (first | (with_reducible first | refine zac yU yU yE ?_ | refine zab ?_ | (refine zbc yE ?_; refine zdk ?_) | (refine zdz yU yE ?_; refine GG.run ?_) | refine DS.skip ?_) | refine zbz (id := 15) [0, 1, 2, 3, 4, 5, 6, 7, 8, 9, 10, 11, 12, 13, 14, 15, 16, 17, 18, 19, 20, 21, 22, 23, 24, 25, 26, 27, 28, 29, 30, 31, 32, 33, 34, 35, 36, 37, 38, 39, 40, 41, 42, 43, 44, 45, 46, 47, 48, 49, 50, 51, 52, 53, 54, 55, 56, 57, 58, 59, 60, 61, 62, 63, 64, 65, 66, 67, 68, 69, 70, 71, 72, 73] 74 (by kernel_rfl) zdq (by simp only [zba, zbd, zbe, zbf, zaz]; exact rfl) (by simp only [zaw, zax, List.drop_nil]; exact rfl) ?_ | (with_reducible first | refine zbv yU yU yU yE ?_ | (refine zpq yU yE ?_; first | refine DGG.run ?_ | refine zmv ?_) | refine zdb ?_) | fail)
      refine DS.back ⟨yS, yS⟩
    ·clear r3 r4 r5 r2
     repeat' (first | (with_reducible first | refine zac yU yU yE ?_ | refine zab ?_ | (refine zbc yE ?_; refine zdk ?_) | (refine zdz yU yE ?_; refine GG.run ?_) | refine DS.skip ?_) | refine zbz (id := 15) [0, 1, 2, 3, 4, 5, 6, 7, 8, 9, 10, 11, 12, 13, 14, 15, 16, 17, 18, 19, 20, 21, 22, 23, 24, 25, 26, 27, 28, 29, 30, 31, 32, 33, 34, 35, 36, 37, 38, 39, 40, 41, 42, 43, 44, 45, 46, 47, 48, 49, 50, 51, 52, 53, 54, 55, 56, 57, 58, 59, 60, 61, 62, 63, 64, 65, 66, 67, 68, 69, 70, 71, 72, 73] 74 (by kernel_rfl) zdq (by simp only [zba, zbd, zbe, zbf, zaz]; exact rfl) (by simp only [zaw, zax, List.drop_nil]; exact rfl) ?_ | (with_reducible first | refine zbv yU yU yU yE ?_ | (refine zpq yU yE ?_; first | refine ypo ?_ | refine DGG.run ?_ | refine zmv ?_) | refine zdb ?_) | fail)
     refine DS.back ⟨yS, yS⟩
   clear r2 r3 r4 r5 r6 hk f1
   repeat' (first | (with_reducible first | refine zac yU yU yE ?_ | refine zab ?_ | refine DS.seq ?_ | refine zaa ?_ | refine DS.block ?_) | fail)
   refine zco [4, 5, 7, 9, 10] yN (fun (z : Nat × Int) => [(8, I z.2), (13, I z.1)]) (fun (z : Nat × Int) => [(b4, .cells (smC c) 26)]) (fun (z : Nat × Int) => z.1 ≤ c.members.length ∧ zku R[i] c.members w = zku R[i] (c.members.drop z.1) z.2) (fun (z : Nat × Int) => c.members.length - z.1) (0, w) yS (fun b o e => by exact e) ⟨Nat.zero_le _, rfl⟩ (fun z B hI hB => ?_); try dsimp only at hI hB; simp only [zas, zav]
   obtain ⟨k, w1⟩ := z
   dsimp only at hI hB ⊢
   obtain ⟨f1, f2⟩ := hI
   have H2 := Box.mk f2
   clear f2
   by_cases hk : (k : Int) < (c.members.length : Int)
   ·have hk' : k < c.members.length := by omega
    have HB := Box.mk hB
    clear hB
    have e1 := List.drop_eq_getElem_cons hk'
    by_cases hid : c.members[k].id = R[i].id
    ·have hw2 : zku R[i] (c.members.drop k) w1 = zku R[i] (c.members.drop (k + 1)) (wI (w1 + wI (c.members[k].hand * R[i].games))) := by
      rw [e1, zku, List.foldl_cons, if_pos hid]; rfl
     have HW := Box.mk hw2
     clear e1 hw2
     repeat' (first | (with_reducible first | refine zac yU yU yE ?_ | refine zab ?_ | refine DS.seq ?_ | refine zaa ?_ | (refine zbc yE ?_; refine zdh ?_) | refine DS.blk ?_ | refine DS.block ?_ | refine DS.skip ?_) | refine zbz (id := 21) [0, 1, 2, 3, 4, 5, 6, 7, 8, 9, 10] 11 (by kernel_rfl) zdq (by simp only [zba, zbd, zbe, zbf, zaz]; exact rfl) (by simp only [zaw, zax, List.drop_nil]; exact rfl) ?_ | refine zbz (id := 22) [0, 1, 2, 3, 4, 5, 6, 7, 8, 9, 10, 11, 12] 13 (by kernel_rfl) zdq (by simp only [zba, zbd, zbe, zbf, zaz]; exact rfl) (by simp only [zaw, zax, List.drop_nil]; exact rfl) ?_ | (with_reducible first | refine zbv yU yU yU yE ?_ | refine zdb ?_) | fail)
     refine DS.back (HB.out (k + 1, wI (w1 + wI (c.members[k].hand * R[i].games))) _ _ (by dsimp only; omega) ⟨by dsimp only; omega, H2.out.trans HW.out⟩ yS yS (fun d o e => by exact e))
    ·have hw2 : zku R[i] (c.members.drop k) w1 = zku R[i] (c.members.drop (k + 1)) w1 := by
      rw [e1, zku, List.foldl_cons, if_neg hid]; rfl
     have HW := Box.mk hw2
     clear e1 hw2
     repeat' (first | (with_reducible first | refine zac yU yU yE ?_ | refine zab ?_ | refine DS.seq ?_ | refine zaa ?_ | (refine zbc yE ?_; first | refine zdh ?_ | refine zdk ?_) | refine DS.blk ?_ | refine DS.block ?_ | refine DS.skip ?_) | refine zbz (id := 21) [0, 1, 2, 3, 4, 5, 6, 7, 8, 9, 10] 11 (by kernel_rfl) zdq (by simp only [zba, zbd, zbe, zbf, zaz]; exact rfl) (by simp only [zaw, zax, List.drop_nil]; exact rfl) ?_ | (with_reducible first | refine zbv yU yU yU yE ?_ | refine zdb ?_) | fail)
     refine DS.back (HB.out (k + 1, w1) _ _ (by dsimp only; omega) ⟨by dsimp only; omega, H2.out.trans HW.out⟩ yS yS (fun d o e => by exact e))
   ·have hw2 : w1 = zku R[i] c.members w := by rw [H2.out, List.drop_eq_nil_of_le (by omega)]; rfl
    subst hw2
    clear hB H2
    have hw3 : (R.drop i).foldl (accR c.members) (sm, w, g) = (R.drop (i + 1)).foldl (accR c.members) (wI (sm + R[i].total), zku R[i] c.members w, wI (g + R[i].games)) := by
     rw [List.drop_eq_getElem_cons hi', List.foldl_cons, accR, HS.out]
    have HW := Box.mk hw3
    clear hw3
    repeat' (first | (with_reducible first | refine zac yU yU yE ?_ | refine zab ?_ | refine DS.seq ?_ | refine zaa ?_ | (refine zbc yE ?_; refine zdk ?_) | refine DS.blk ?_ | refine DS.exit yU ?_) | fail)
    refine DS.back (HB0.out (i + 1, wI (sm + R[i].total), zku R[i] c.members w, wI (g + R[i].games)) _ _ (by dsimp only; omega) ⟨by dsimp only; omega, H.out.trans HW.out⟩ yS yS (fun d o e => by exact e))
 ·have e1 : (sm, w, g) = (SA, WA, GA) := by
   rw [H.out, List.drop_eq_nil_of_le (by omega)]; rfl
  cases e1
  clear H HB0 HR
  repeat' (first | (with_reducible first | refine zac yU yU yE ?_ | refine zab ?_ | refine DS.seq ?_ | refine zaa ?_ | (refine zbc yE ?_; refine zdk ?_) | refine DS.block ?_ | refine DS.exit yU ?_) | fail)
  refine zco [4, 7] yN (fun (y : Nat × Int × Int) => [(8, I y.2.1), (9, I y.2.2), (14, I y.1)]) (fun (y : Nat × Int × Int) => [(b4, .cells (smC c) 26)]) (fun (y : Nat × Int × Int) => y.1 ≤ c.rounds.length ∧ accS c c.rounds 0 (WA, GA) = accS c (c.rounds.drop y.1) y.1 y.2) (fun (y : Nat × Int × Int) => c.rounds.length - y.1) (0, WA, GA) yS (fun b o e => by exact e) ⟨Nat.zero_le _, rfl⟩ (fun y B hI hB => ?_); try dsimp only at hI hB; simp only [zas, zav]
  clear g1
  obtain ⟨i2, w1, g1⟩ := y
  dsimp only at hI hB ⊢
  obtain ⟨f1, f2⟩ := hI
  have H := Box.mk f2
  have HB0 := Box.mk hB
  clear f2 hB hi
  by_cases hi2 : (i2 : Int) < (c.rounds.length : Int)
  ·have hi' : i2 < c.rounds.length := by omega
   have hpp := ybk c hs i2
   have HC := zql hi' (zgz hc hi').2
   have hpt := HC.2.2.1
   have hpl := yil c i2
   have hsi := (hs.at hi').tables
   have HC := Box.mk hc
   clear hc
   repeat' (first | (with_reducible first | refine zac yU yU yE ?_ | refine zab ?_ | refine DS.seq ?_ | refine zaa ?_ | (refine zbc yE ?_; refine zdh ?_) | refine DS.block ?_ | refine DS.skip ?_) | refine zbz (id := 26) [0, 1, 2, 3, 4, 5, 6, 7] 8 (by kernel_rfl) zdq (by simp only [zba, zbd, zbe, zbf, zaz]; exact rfl) (by simp only [zaw, zax, List.drop_nil]; exact rfl) ?_ | (with_reducible first | refine zbv yU yU yU yE ?_ | refine zjh yU yU yU yU yE ?_ | refine zdb ?_) | refine yaq inferInstance (hpp) yU yT ?_; simp only [zci, zcs, Nat.reduceEqDiff, ↓reduceIte] | fail)
   refine zco [4, 7, 14] yN (fun (z : Nat × Int × Int) => [(8, I z.2.1), (9, I z.2.2), (15, I z.1)]) (fun (z : Nat × Int × Int) => [(b4, .cells (smC c) 26)]) (fun (z : Nat × Int × Int) => z.1 ≤ c.rounds[i2].tables.length ∧ accT c c.rounds[i2].points 0 c.rounds[i2].tables.length (wI (w1 + wI (c.absent * (zck c i2).length)), g1) = accT c c.rounds[i2].points z.1 (c.rounds[i2].tables.length - z.1) z.2) (fun (z : Nat × Int × Int) => c.rounds[i2].tables.length - z.1) (0, wI (w1 + wI (c.absent * (zck c i2).length)), g1) yS (fun b o e => by exact e) ⟨Nat.zero_le _, rfl⟩ (fun z B hI hB => ?_); try dsimp only at hI hB; simp only [zas, zav]
   obtain ⟨k, w2, g2⟩ := z
   dsimp only at hI hB ⊢
   obtain ⟨f3, f4⟩ := hI
   have H2 := Box.mk f4
   have HB := Box.mk hB
   clear f4 hB
   by_cases hk : (k : Int) < (c.rounds[i2].tables.length : Int)
   ·have hk' : k < c.rounds[i2].points.length := by omega
    have e2 : accT c c.rounds[i2].points k (c.rounds[i2].tables.length - k) (w2, g2) = accT c c.rounds[i2].points (k + 1) (c.rounds[i2].tables.length - (k + 1)) (wI (w2 - wI (c.absent * c.size)), if 0 < (c.rounds[i2].points[k]'hk').length then wI (g2 - c.size) else g2) := by
     rw [show c.rounds[i2].tables.length - k = (c.rounds[i2].tables.length - (k + 1)) + 1 by omega, accT, List.getD_eq_getElem?_getD, List.getElem?_eq_getElem hk', Option.getD_some]
    have H3 := Box.mk (H2.out.trans e2)
    clear e2 H2
    by_cases hp : (0 : Int) < ((c.rounds[i2].points[k]'hk').length : Int)
    ·repeat' (first | (with_reducible first | refine zac yU yU yE ?_ | refine zab ?_ | refine DS.seq ?_ | refine zaa ?_ | (refine zbc yE ?_; refine zdh ?_) | refine DS.blk ?_ | refine DS.block ?_ | refine DS.skip ?_) | fail)
     refine DS.back (HB.out (k + 1, wI (w2 - wI (c.absent * c.size)), wI (g2 - c.size)) _ _ (by dsimp only; omega) ⟨by dsimp only; omega, H3.out.trans (by rw [if_pos (by omega)])⟩ yS yS (fun d o e => by exact e))
    ·repeat' (first | (with_reducible first | refine zac yU yU yE ?_ | refine zab ?_ | refine DS.seq ?_ | refine zaa ?_ | (refine zbc yE ?_; first | refine zdh ?_ | refine zdk ?_) | refine DS.blk ?_ | refine DS.block ?_ | refine DS.skip ?_) | fail)
     refine DS.back (HB.out (k + 1, wI (w2 - wI (c.absent * c.size)), g2) _ _ (by dsimp only; omega) ⟨by dsimp only; omega, H3.out.trans (by rw [if_neg (by omega)])⟩ yS yS (fun d o e => by exact e))
   ·have e2 := H2.out
    rw [show c.rounds[i2].tables.length - k = 0 by omega, accT] at e2
    have e3 : accS c (c.rounds.drop i2) i2 (w1, g1) = accS c (c.rounds.drop (i2 + 1)) (i2 + 1) (w2, g2) := by
     rw [List.drop_eq_getElem_cons hi', accS, e2]
    have H3 := Box.mk (H.out.trans e3)
    clear e2 e3 H2 HB H
    repeat' (first | (with_reducible first | refine zac yU yU yE ?_ | refine zab ?_ | refine DS.seq ?_ | refine zaa ?_ | (refine zbc yE ?_; refine zdk ?_) | refine DS.blk ?_ | refine DS.exit yU ?_) | fail)
    refine DS.back (HB0.out (i2 + 1, w2, g2) _ _ (by dsimp only; omega) ⟨by dsimp only; omega, H3.out⟩ yS yS (fun d o e => by exact e))
  ·have e1 : (w1, g1) = (SA, 0) := by
    have := hE.out
    rw [H.out, List.drop_eq_nil_of_le (by omega)] at this
    exact this
   cases e1
   clear H HB0
   repeat' (first | (with_reducible first | refine zac yU yU yE ?_ | refine zab ?_ | refine DS.seq ?_ | refine zaa ?_ | (refine zbc yE ?_; refine zdk ?_) | (refine zdz yU yE ?_; refine GG.run ?_) | refine DS.exit yU ?_) | refine zcb inferInstance (yor) yR yT ?_ | refine zbi [] yE trivial ?_ | fail)
   rfl
end Go.XL
namespace Go.XL
set_option maxHeartbeats 4000000
set_option maxRecDepth 100000
def triN (r : List Nat) : List (Nat × Nat × Nat) := (List.range r.length).map fun i => ((r.filter fun x => decide (x < r.getD i 0)).length, (r.filter fun x => decide (x = r.getD i 0)).length, ((r.take i).filter fun x => decide (x = r.getD i 0)).length)
def zyq (P : List Int) (shared : Bool) (t : Nat × Nat × Nat) : Int := if shared then zkx ((P.drop t.1).take t.2.1).sum t.2.1 t.2.2 else P.getD (t.1 + t.2.2) 0
theorem zqf {α : Type} (f : α → Int) {a b : List α} (h : a.Perm b) : (a.map f).sum = (b.map f).sum := by
 induction h with
 | nil => rfl
 | cons x _ ih => simp only [List.map_cons, List.sum_cons]; omega
 | swap x y l => simp only [List.map_cons, List.sum_cons]; omega
 | trans _ _ h1 h2 => omega
def canon3 : List (List (Nat × Nat × Nat)) := [[(0,3,0),(0,3,1),(0,3,2)], [(0,1,0),(1,2,0),(1,2,1)], [(0,2,0),(0,2,1),(2,1,0)], [(0,1,0),(1,1,0),(2,1,0)]]
def canon4 : List (List (Nat × Nat × Nat)) := [[(0,4,0),(0,4,1),(0,4,2),(0,4,3)], [(0,1,0),(1,3,0),(1,3,1),(1,3,2)], [(0,2,0),(0,2,1),(2,2,0),(2,2,1)], [(0,3,0),(0,3,1),(0,3,2),(3,1,0)],
 [(0,1,0),(1,1,0),(2,2,0),(2,2,1)], [(0,1,0),(1,2,0),(1,2,1),(3,1,0)], [(0,2,0),(0,2,1),(2,1,0),(3,1,0)], [(0,1,0),(1,1,0),(2,1,0),(3,1,0)]]
def ydm (r : List Nat) : Bool := r.all fun x => decide ((r.filter fun y => decide (y < x)).length = x)
def all3 : Bool := (List.range 3).all fun a => (List.range 3).all fun b => (List.range 3).all fun c => !ydm [a, b, c] || canon3.any fun t => (triN [a, b, c]).isPerm t
def all4 : Bool := (List.range 4).all fun a => (List.range 4).all fun b => (List.range 4).all fun c => (List.range 4).all fun d => !ydm [a, b, c, d] || canon4.any fun t => (triN [a, b, c, d]).isPerm t
theorem yrb : all3 = true := by decide +kernel
theorem yra : all4 = true := by decide +kernel
theorem yha (a b c : Int) (s : Bool) : ∀ t ∈ canon3, (t.map (zyq [a, b, c] s)).sum = a + b + c := by
 intro t ht
 simp only [canon3, List.mem_cons, List.not_mem_nil, or_false] at ht
 cases s
 ·rcases ht with rfl | rfl | rfl | rfl <;> (show a + (b + (c + 0)) = _; omega)
 ·rcases ht with rfl | rfl | rfl | rfl <;> simp (disch := omega) [zyq, zue] <;> omega
theorem ygz (a b c d : Int) (s : Bool) : ∀ t ∈ canon4, (t.map (zyq [a, b, c, d] s)).sum = a + b + c + d := by
 intro t ht
 simp only [canon4, List.mem_cons, List.not_mem_nil, or_false] at ht
 cases s
 ·rcases ht with rfl | rfl | rfl | rfl | rfl | rfl | rfl | rfl <;> (show a + (b + (c + (d + 0))) = _; omega)
 ·rcases ht with rfl | rfl | rfl | rfl | rfl | rfl | rfl | rfl <;> simp (disch := omega) [zyq, zue] <;> omega
theorem zzt {l : List Int} {p : Int} (h : p ∈ l) : 0 < zdc l p := by
 rw [zdc]
 exact List.length_pos_of_mem (List.mem_filter.2 ⟨h, by simp⟩)
theorem yik {q : List Int} {a b : Int} (hb : b ∈ q) (h : a < b) : zem q b < zem q a := by
 have := yiv h q
 have := zzt hb
 omega
theorem ymx {q : List Int} {a b : Int} (ha : a ∈ q) (hb : b ∈ q) : (zem q b < zem q a ↔ a < b) ∧ (zem q b = zem q a ↔ b = a) := by
 rcases Int.lt_trichotomy a b with h | h | h
 ·have := yik hb h
  omega
 ·subst h; omega
 ·have := yik ha h
  omega
theorem ygi (a : Int) (l : List Int) (p : Int) : zem (a :: l) p = (if p < a then 1 else 0) + zem l p := by
 rw [zem, zem, List.filter_cons]
 by_cases h : p < a
 ·rw [if_pos (decide_eq_true h), if_pos h, List.length_cons]; omega
 ·rw [if_neg (by simpa using h), if_neg h]; omega
theorem ybw (a : Int) (l : List Int) (p : Int) : zdc (a :: l) p = (if a = p then 1 else 0) + zdc l p := by
 rw [zdc, zdc, List.filter_cons]
 by_cases h : a = p
 ·rw [if_pos (decide_eq_true h), if_pos h, List.length_cons]; omega
 ·rw [if_neg (by simpa using h), if_neg h]; omega
theorem zjf (q : List Int) {p : Int} (hp : p ∈ q) : ∀ l : List Int, (∀ x ∈ l, x ∈ q) → ((l.map (zem q)).filter fun x => decide (x < zem q p)).length = zem l p ∧ ((l.map (zem q)).filter fun x => decide (x = zem q p)).length = zdc l p
 | [], _ => ⟨rfl, rfl⟩
 | a :: l, h => by
  obtain ⟨h1, h2⟩ := zjf q hp l fun x hx => h x (List.mem_cons_of_mem _ hx)
  have k := ymx hp (h a (List.mem_cons_self ..))
  rw [ygi, ybw, List.map_cons, List.filter_cons, List.filter_cons]
  constructor
  ·by_cases c : p < a
   ·rw [if_pos (decide_eq_true (k.1.2 c)), if_pos c, List.length_cons, h1]; omega
   ·rw [if_neg (by rw [decide_eq_true_eq]; exact fun h => c (k.1.1 h)), if_neg c, h1]; omega
  ·by_cases c : a = p
   ·rw [if_pos (decide_eq_true (k.2.2 c)), if_pos c, List.length_cons, h2]; omega
   ·rw [if_neg (by rw [decide_eq_true_eq]; exact fun h => c (k.2.1 h)), if_neg c, h2]; omega
theorem yrw (q : List Int) : triN (q.map (zem q)) = (List.range q.length).map fun i => (zem q (q.getD i 0), zdc q (q.getD i 0), zdc (q.take i) (q.getD i 0)) := by
 rw [triN, List.length_map]
 refine List.map_congr_left fun i hi => ?_
 have hi' : i < q.length := List.mem_range.1 hi
 have e : (q.map (zem q)).getD i 0 = zem q (q.getD i 0) := by
  rw [List.getD_eq_getElem?_getD, List.getD_eq_getElem?_getD, List.getElem?_map, List.getElem?_eq_getElem hi']; rfl
 have hm : q.getD i 0 ∈ q := by
  rw [List.getD_eq_getElem?_getD, List.getElem?_eq_getElem hi']; exact List.getElem_mem hi'
 obtain ⟨h1, h2⟩ := zjf q hm q fun x hx => hx
 obtain ⟨-, h3⟩ := zjf q hm (q.take i) fun x hx => List.mem_of_mem_take hx
 rw [e, h1, h2, ← List.map_take, h3]
theorem ymw (q : List Int) : ydm (q.map (zem q)) = true := by
 rw [ydm, List.all_eq_true]
 intro x hx
 obtain ⟨p, hp, rfl⟩ := List.mem_map.1 hx
 rw [decide_eq_true_eq]
 exact (zjf q hp q fun x hx => hx).1
theorem yqb (q : List Int) : ∀ x ∈ q.map (zem q), x < q.length := by
 intro x hx
 obtain ⟨p, hp, rfl⟩ := List.mem_map.1 hx
 have := yjb q p
 have := zzt hp
 omega
theorem yim {q P : List Int} (hl : P.length = q.length) (hq : q.length = 3 ∨ q.length = 4) (s : Bool) : ((triN (q.map (zem q))).map (zyq P s)).sum = P.sum := by
 have h1 := ymw q
 have h2 := yqb q
 have h3 : (q.map (zem q)).length = q.length := List.length_map _
 generalize q.map (zem q) = r at *
 rcases hq with hq | hq
 ·rw [hq] at hl h2 h3
  match r, P, h3, hl with
  | [a, b, c], [x, y, z], _, _ =>
   have k := List.all_eq_true.1 (List.all_eq_true.1 (List.all_eq_true.1 yrb a (List.mem_range.2 (h2 a (by simp)))) b (List.mem_range.2 (h2 b (by simp)))) c (List.mem_range.2 (h2 c (by simp)))
   rw [h1, Bool.not_true, Bool.false_or, List.any_eq_true] at k
   obtain ⟨t, ht, hp⟩ := k
   rw [zqf _ (List.isPerm_iff.1 hp), yha x y z s t ht]
   simp only [List.sum_cons, List.sum_nil]; omega
 ·rw [hq] at hl h2 h3
  match r, P, h3, hl with
  | [a, b, c, d], [x, y, z, u], _, _ =>
   have k := List.all_eq_true.1 (List.all_eq_true.1 (List.all_eq_true.1 (List.all_eq_true.1 yra a (List.mem_range.2 (h2 a (by simp)))) b (List.mem_range.2 (h2 b (by simp)))) c (List.mem_range.2 (h2 c (by simp)))) d (List.mem_range.2 (h2 d (by simp)))
   rw [h1, Bool.not_true, Bool.false_or, List.any_eq_true] at k
   obtain ⟨t, ht, hp⟩ := k
   rw [zqf _ (List.isPerm_iff.1 hp), ygz x y z u s t ht]
   simp only [List.sum_cons, List.sum_nil]; omega
theorem yaz {α : Type} (f g : α → Int) : ∀ l : List α, (l.map fun x => f x + g x).sum = (l.map f).sum + (l.map g).sum
 | [] => rfl
 | x :: l => by simp only [List.map_cons, List.sum_cons, yaz f g l]; omega
theorem yga (l : List Int) (s : Int) : ((List.range l.length).map fun i => l.getD i 0 - s).sum = l.sum - l.length * s := by
 have e : (List.range l.length).map (fun i => l.getD i 0 - s) = l.map fun x => x - s := by
  refine List.ext_getElem (by simp) fun i h1 h2 => ?_
  simp only [List.length_map, List.length_range] at h1
  simp [List.getD_eq_getElem?_getD, List.getElem?_eq_getElem h1]
 rw [e]
 clear e
 induction l with
 | nil => simp
 | cons a l ih => simp only [List.map_cons, List.sum_cons, ih, List.length_cons, Int.natCast_add, Int.natCast_one, Int.add_mul, Int.one_mul]; omega
theorem yfu {q P : List Int} (hl : P.length = q.length) (hq : q.length = 3 ∨ q.length = 4) (start : Int) (s : Bool) : (zfd q P start s).sum = q.sum - q.length * start + P.sum := by
 have e : zfd q P start s = (List.range q.length).map fun i => (q.getD i 0 - start) + zyq P s (zem q (q.getD i 0), zdc q (q.getD i 0), zdc (q.take i) (q.getD i 0)) := by
  rw [zfd, if_neg (by omega)]; rfl
 rw [e, yaz, yga]
 have k := yim hl hq s
 rw [yrw, List.map_map] at k
 rw [show ((fun i => zyq P s (zem q (q.getD i 0), zdc q (q.getD i 0), zdc (q.take i) (q.getD i 0))) : Nat → Int) = zyq P s ∘ (fun i => (zem q (q.getD i 0), zdc q (q.getD i 0), zdc (q.take i) (q.getD i 0))) from rfl, k]
end Go.XL
namespace Go.XL
set_option maxHeartbeats 4000000
set_option maxRecDepth 100000
theorem zlt (n : Int) : IntKind.i64.wrap n = (n + 9223372036854775808) % 18446744073709551616 - 9223372036854775808 := by
 have h1 : (2 : Int) ^ 64 = 18446744073709551616 := by decide
 have h2 : (2 : Int) ^ (64 - 1) = 9223372036854775808 := by decide
 simp only [IntKind.wrap, IntKind.bits, IntKind.signed, Bool.true_and, decide_eq_true_eq, h1, h2]
 split <;> omega
theorem yjs : ∀ {t : List Int} (h : t.Nodup) (n p : Nat) (hp : p < t.length), idxF (fun x => decide (x = t[p])) t n = ((n + p : Nat) : Int)
 | a :: r, h, n, 0, hp => by simp [idxF]
 | a :: r, h, n, p + 1, hp => by
  obtain ⟨h1, h2⟩ := List.nodup_cons.1 h
  have h3 : p < r.length := by simpa using hp
  have h4 : ¬ a = r[p] := fun e => h1 (e ▸ List.getElem_mem h3)
  have ih := yjs h2 (n + 1) p h3
  simp only [List.getElem_cons_succ, idxF, h4, decide_false, Bool.false_eq_true, if_false]
  rw [ih]; congr 1; omega
theorem yqn {t s : List Int} (h : t.Nodup) (hl : s.length = t.length) : t.map (fun x => s.getD (idxI t x).toNat 0) = s := by
 refine List.ext_getElem (by simp [hl]) fun i h1 h2 => ?_
 have hi : i < t.length := by simpa using h1
 have e := yjs h 0 i hi
 rw [List.getElem_map, idxI, e, Nat.zero_add, Int.toNat_natCast, List.getD_eq_getElem?_getD, List.getElem?_eq_getElem h2]; rfl
theorem idxI_neg {t : List Int} {x : Int} : idxI t x < 0 ↔ ¬ x ∈ t := by
 constructor
 ·intro h hx
  obtain ⟨p, hp, rfl⟩ := List.mem_iff_getElem.1 hx
  have key : ∀ (t : List Int) (n : Nat) (x : Int), x ∈ t → 0 ≤ idxF (fun y => decide (y = x)) t n := by
   intro t
   induction t with
   | nil => intro n x hx; cases hx
   | cons a r ih =>
    intro n x hx
    rw [idxF]
    by_cases e : a = x
    ·rw [if_pos (decide_eq_true e)]; omega
    ·rw [if_neg (by simpa using e)]
     exact ih (n + 1) x ((List.mem_cons.1 hx).resolve_left fun h => e h.symm)
  have := key t 0 t[p] (List.getElem_mem hp)
  rw [idxI] at h; omega
 ·intro h
  rcases zwx (fun y => decide (y = x)) t 0 with e | ⟨j, y, e1, e2, e3⟩
  ·rw [idxI, e]; decide
  ·exact absurd (of_decide_eq_true e2 ▸ List.mem_of_getElem? e1) h
def cT (c : Club) (i : Nat) (m : Member) : List (List Int) → Nat → Int × Int
 | [], _ => (if m.plays i = true then c.absent else 0, 0)
 | t :: T, k => if idxI t m.id < 0 then cT c i m T (k + 1) else if zdv c i k = false then (0, 0) else ((zfd (zde c i k) c.places c.start c.share).getD (idxI t m.id).toNat 0 + m.hand, 1)
def sumM (f : Member → Int) (M : List Member) : Int := (M.map f).sum
theorem zlx (f : Member → Int) (p : Member → Bool) : ∀ M : List Member, sumM f M = sumM f (M.filter p) + sumM f (M.filter fun m => !p m)
 | [] => rfl
 | m :: M => by
  have h := zlx f p M
  simp only [sumM, List.map_cons, List.sum_cons, List.filter_cons] at h ⊢
  cases p m <;> simp <;> omega
theorem zfh {f g : Member → Int} {M : List Member} (h : ∀ m ∈ M, f m = g m) : sumM f M = sumM g M := by
 rw [sumM, sumM, List.map_congr_left h]
theorem zqg (f g : Member → Int) (M : List Member) : sumM (fun m => f m + g m) M = sumM f M + sumM g M := yaz f g M
theorem zno : ∀ A : List Member, sumM (fun _ => 0) A = 0
 | [] => rfl
 | a :: A => by have := zno A; simp only [sumM, List.map_cons, List.sum_cons] at this ⊢; omega
theorem yda : ∀ A : List Member, sumM (fun _ => 1) A = A.length
 | [] => rfl
 | a :: A => by have := yda A; simp only [sumM, List.map_cons, List.sum_cons, List.length_cons] at this ⊢; omega
theorem zut (p q : Member → Bool) : ∀ M : List Member, (M.filter p).length = ((M.filter q).filter p).length + ((M.filter fun m => !q m).filter p).length
 | [] => rfl
 | m :: M => by
  have ih := zut p q M
  simp only [List.filter_filter] at ih ⊢
  cases hq : q m <;> cases hp : p m <;> simp [hq, hp] <;> omega
theorem zsf {c : Club} {round : Int} : ∀ {l : List Int} {pre : Option Int}, zec c round l pre = 0 → (∀ x ∈ l, ∃ m ∈ c.members, m.id = x ∧ m.plays round = true) ∧ l.Pairwise (· < ·) ∧ ∀ p, pre = some p → ∀ x ∈ l, p < x
 | [], _, _ => ⟨(fun x hx => by cases hx), List.Pairwise.nil, (fun p _ x hx => by cases hx)⟩
 | id :: l, pre, h => by
  rw [zec] at h
  split at h
  ·cases h
  rename_i h1
  split at h
  ·cases h
  rename_i h2
  split at h
  ·cases h
  rename_i h3
  obtain ⟨k1, k2, k3⟩ := zsf h
  obtain ⟨i, hi, e1, e2, e3⟩ := zgf h1
  rw [e3] at h2
  refine ⟨fun x hx => ?_, List.pairwise_cons.2 ⟨fun x hx => k3 id rfl x hx, k2⟩, fun p hp x hx => ?_⟩
  ·rcases List.mem_cons.1 hx with rfl | hx
   ·exact ⟨_, List.getElem_mem hi, e2, by simpa using h2⟩
   ·exact k1 x hx
  ·subst hp
   have : p < id := by
    simp only [zht, decide_eq_true_eq] at h3; omega
   rcases List.mem_cons.1 hx with rfl | hx
   ·exact this
   ·have := k3 id rfl x hx; omega
theorem zyh {c : Club} {i : Nat} (hm : c.members.Pairwise fun a b => a.id < b.id) (hz : c.size = 3 ∨ c.size = 4) (hpl : (c.places.length : Int) = c.size) (hps : c.places.sum = 0)
  (hct : ∀ k : Nat, zdv c i k = true → ((zde c i k).length : Int) = c.size ∧ (zde c i k).sum = c.size * c.start) :
  ∀ (T : List (List Int)) (k : Nat) (seated : List Int) (first : Int), zdn c i T seated first = 0 →
   sumM (fun m => (cT c i m T k).1) (c.members.filter fun m => !decide (m.id ∈ seated)) = sumM (fun m => m.hand * (cT c i m T k).2) (c.members.filter fun m => !decide (m.id ∈ seated)) + c.absent * (((c.members.filter fun m => !decide (m.id ∈ seated)).filter fun m => m.plays i).length - T.length * c.size) ∧
   sumM (fun m => (cT c i m T k).2) (c.members.filter fun m => !decide (m.id ∈ seated)) = c.size * (((List.range' k T.length).filter fun j => zdv c i (j : Nat)).length : Nat)
 | [], k, seated, first, _ => by
  generalize (c.members.filter fun m => !decide (m.id ∈ seated)) = M
  have key : ∀ M : List Member, sumM (fun m => (cT c i m [] k).1) M = sumM (fun m => m.hand * (cT c i m [] k).2) M + c.absent * ((M.filter fun m => m.plays i).length) ∧ sumM (fun m => (cT c i m [] k).2) M = 0 := by
   intro M
   induction M with
   | nil => simp [sumM]
   | cons m M ih =>
    obtain ⟨h1, h2⟩ := ih
    simp only [sumM, List.map_cons, List.sum_cons, List.filter_cons, cT, Int.mul_zero, Int.zero_add] at h1 h2 ⊢
    refine ⟨?_, h2⟩
    rw [h1]
    cases m.plays i <;> simp [Int.mul_add] <;> omega
  obtain ⟨k1, k2⟩ := key M
  refine ⟨by rw [k1]; simp, by rw [k2]; simp⟩
 | t :: T, k, seated, first, h => by
  rw [zdn] at h
  split at h
  ·cases h
  rename_i h1
  split at h
  ·contradiction
  rename_i h2
  split at h
  ·cases h
  rename_i h3
  split at h
  ·cases h
  obtain ⟨f1, f2, -⟩ := zsf (Decidable.not_not.1 h2)
  have hnd : t.Nodup := f2.imp fun h => by omega
  have hlen : (t.length : Int) = c.size := Decidable.not_not.1 h1
  have hsep : ∀ x ∈ t, ¬ x ∈ seated := fun x hx hs => h3 (List.any_eq_true.2 ⟨x, hx, decide_eq_true hs⟩)
  obtain ⟨ih1, ih2⟩ := zyh hm hz hpl hps hct T (k + 1) (seated ++ t) (t.headD 0) h
  have hB : (c.members.filter fun m => !decide (m.id ∈ seated)).filter (fun m => !decide (m.id ∈ t)) = c.members.filter fun m => !decide (m.id ∈ seated ++ t) := by
   rw [List.filter_filter]
   refine List.filter_congr fun m _ => ?_
   simp only [List.mem_append]
   by_cases a1 : m.id ∈ seated <;> by_cases a2 : m.id ∈ t <;> simp [a1, a2]
  have hA : (c.members.filter fun m => !decide (m.id ∈ seated)).filter (fun m => decide (m.id ∈ t)) = c.members.filter fun m => decide (m.id ∈ t) := by
   rw [List.filter_filter]
   refine List.filter_congr fun m _ => ?_
   by_cases a2 : m.id ∈ t
   ·simp [a2, hsep _ a2]
   ·simp [a2]
  have hAp : ((c.members.filter fun m => decide (m.id ∈ t)).map (·.id)).Perm t := by
   have n1 : ((c.members.filter fun m => decide (m.id ∈ t)).map (·.id)).Nodup := by
    rw [List.Nodup, List.pairwise_map]
    exact List.Pairwise.imp (fun h => by omega) (hm.filter _)
   refine (List.perm_ext_iff_of_nodup n1 hnd).2 fun x => ⟨fun hx => ?_, fun hx => ?_⟩
   ·obtain ⟨m, hm1, rfl⟩ := List.mem_map.1 hx
    exact of_decide_eq_true (List.mem_filter.1 hm1).2
   ·obtain ⟨m, hm1, rfl, -⟩ := f1 x hx
    exact List.mem_map.2 ⟨m, List.mem_filter.2 ⟨hm1, decide_eq_true hx⟩, rfl⟩
  have hAl : (c.members.filter fun m => decide (m.id ∈ t)).length = t.length := by rw [← hAp.length_eq, List.length_map]
  have hApl : ((c.members.filter fun m => decide (m.id ∈ t)).filter fun m => m.plays i) = c.members.filter fun m => decide (m.id ∈ t) := by
   refine List.filter_eq_self.2 fun m hm1 => ?_
   obtain ⟨hm2, hm3⟩ := List.mem_filter.1 hm1
   obtain ⟨m', hm4, e, hp⟩ := f1 m.id (of_decide_eq_true hm3)
   rw [← ypl hm hm4 hm2 e]; exact hp
  have hplen : ((c.members.filter fun m => !decide (m.id ∈ seated)).filter fun m => m.plays i).length = t.length + ((c.members.filter fun m => !decide (m.id ∈ seated ++ t)).filter fun m => m.plays i).length := by
   rw [zut _ (fun m => decide (m.id ∈ t)), hB, hA, hApl, hAl]
  have cB : ∀ m ∈ c.members.filter fun m => !decide (m.id ∈ seated ++ t), cT c i m (t :: T) k = cT c i m T (k + 1) := fun m hm1 => by
   have h5 := (List.mem_filter.1 hm1).2
   simp only [List.mem_append, Bool.not_eq_true', decide_eq_false_iff_not, not_or] at h5
   rw [cT, if_pos (idxI_neg.2 h5.2)]
  have cA : ∀ m ∈ c.members.filter fun m => decide (m.id ∈ t), cT c i m (t :: T) k = if zdv c i k = false then (0, 0) else ((zfd (zde c i k) c.places c.start c.share).getD (idxI t m.id).toNat 0 + m.hand, 1) := fun m hm1 => by
   have h5 := of_decide_eq_true (List.mem_filter.1 hm1).2
   rw [cT, if_neg (fun h => idxI_neg.1 h h5)]
  have hsum : zdv c i k = true → sumM (fun m => (zfd (zde c i k) c.places c.start c.share).getD (idxI t m.id).toNat 0) (c.members.filter fun m => decide (m.id ∈ t)) = 0 := fun hp => by
   obtain ⟨p1, p2⟩ := hct k hp
   have hl : c.places.length = (zde c i k).length := by omega
   have hsl : (zfd (zde c i k) c.places c.start c.share).length = t.length := by
    rw [zfd, if_neg (by omega), List.length_map, List.length_range]; omega
   have e1 : sumM (fun m => (zfd (zde c i k) c.places c.start c.share).getD (idxI t m.id).toNat 0) (c.members.filter fun m => decide (m.id ∈ t)) = (((c.members.filter fun m => decide (m.id ∈ t)).map (·.id)).map fun x => (zfd (zde c i k) c.places c.start c.share).getD (idxI t x).toNat 0).sum := by
    rw [sumM, List.map_map]; rfl
   rw [e1, zqf _ hAp, yqn hnd hsl, yfu hl (by omega), p2, hps, p1]; omega
  have r1 : List.range' k (t :: T).length = k :: List.range' (k + 1) T.length := by rw [List.length_cons, List.range'_succ]
  have b1 : sumM (fun m => (cT c i m (t :: T) k).1) (c.members.filter fun m => !decide (m.id ∈ seated ++ t)) = sumM (fun m => (cT c i m T (k + 1)).1) (c.members.filter fun m => !decide (m.id ∈ seated ++ t)) := zfh fun m hm1 => by rw [cB m hm1]
  have b2 : sumM (fun m => m.hand * (cT c i m (t :: T) k).2) (c.members.filter fun m => !decide (m.id ∈ seated ++ t)) = sumM (fun m => m.hand * (cT c i m T (k + 1)).2) (c.members.filter fun m => !decide (m.id ∈ seated ++ t)) := zfh fun m hm1 => by rw [cB m hm1]
  have b3 : sumM (fun m => (cT c i m (t :: T) k).2) (c.members.filter fun m => !decide (m.id ∈ seated ++ t)) = sumM (fun m => (cT c i m T (k + 1)).2) (c.members.filter fun m => !decide (m.id ∈ seated ++ t)) := zfh fun m hm1 => by rw [cB m hm1]
  rw [zlx (fun m => (cT c i m (t :: T) k).1) (fun m => decide (m.id ∈ t)), zlx (fun m => m.hand * (cT c i m (t :: T) k).2) (fun m => decide (m.id ∈ t)), zlx (fun m => (cT c i m (t :: T) k).2) (fun m => decide (m.id ∈ t)), hA, hB,
   b1, b2, b3, ih1, ih2, hplen, r1, List.filter_cons, List.length_cons, Int.natCast_add, Int.natCast_add, hlen]
  have e9 : c.absent * (c.size + ((c.members.filter fun m => !decide (m.id ∈ seated ++ t)).filter fun m => m.plays i).length - ((T.length : Int) + (1 : Nat)) * c.size) = c.absent * (((c.members.filter fun m => !decide (m.id ∈ seated ++ t)).filter fun m => m.plays i).length - T.length * c.size) := by
   congr 1; rw [Int.add_mul]; simp; omega
  rw [e9]
  generalize c.members.filter (fun m => decide (m.id ∈ t)) = A at *
  cases hp : zdv c i k with
  | false =>
   have a1 : sumM (fun m => (cT c i m (t :: T) k).1) A = sumM (fun _ => 0) A := zfh fun m hm1 => by rw [cA m hm1, if_pos hp]
   have a2 : sumM (fun m => m.hand * (cT c i m (t :: T) k).2) A = sumM (fun _ => 0) A := zfh fun m hm1 => by rw [cA m hm1, if_pos hp]; simp
   have a3 : sumM (fun m => (cT c i m (t :: T) k).2) A = sumM (fun _ => 0) A := zfh fun m hm1 => by rw [cA m hm1, if_pos hp]
   rw [a1, a2, a3, zno]
   simp
  | true =>
   have hp' : ¬ zdv c i k = false := by rw [hp]; decide
   have a1 : sumM (fun m => (cT c i m (t :: T) k).1) A = sumM (fun m => (zfd (zde c i k) c.places c.start c.share).getD (idxI t m.id).toNat 0 + m.hand) A := zfh fun m hm1 => by rw [cA m hm1, if_neg hp']
   have a2 : sumM (fun m => m.hand * (cT c i m (t :: T) k).2) A = sumM (fun m => m.hand) A := zfh fun m hm1 => by rw [cA m hm1, if_neg hp']; simp
   have a3 : sumM (fun m => (cT c i m (t :: T) k).2) A = sumM (fun _ => 1) A := zfh fun m hm1 => by rw [cA m hm1, if_neg hp']
   rw [a1, a2, a3, zqg, hsum hp, yda, hAl, hlen]
   refine ⟨by change 0 + sumM Member.hand A + _ = sumM Member.hand A + _ + _; omega, ?_⟩
   simp only [if_true, List.length_cons, Int.natCast_add, Int.mul_add]
   omega
end Go.XL
namespace Go.XL
open Go.Proofs
set_option maxHeartbeats 4000000
set_option maxRecDepth 100000
theorem wr1 (a b : Int) : wI (wI a + b) = wI (a + b) := by simp only [wI, zlt]; omega
theorem wr2 (a b : Int) : wI (a + wI b) = wI (a + b) := by simp only [wI, zlt]; omega
theorem wr3 (a b : Int) : wI (wI a - b) = wI (a - b) := by simp only [wI, zlt]; omega
theorem wr4 (a b : Int) : wI (a - wI b) = wI (a - b) := by simp only [wI, zlt]; omega
theorem wr5 {a b c d : Int} (h : wI a = wI b) (k : wI c = wI d) : wI (a + c) = wI (b + d) := by simp only [wI, zlt] at *; omega
theorem wr0 : wI 0 = 0 := by decide
theorem wrI {n : Int} (h : -1000000 ≤ n ∧ n ≤ 1000000) : wI n = n := by simp only [wI, zlt]; omega
theorem ybb : ∀ (l : List Int) (n : Int), sumI l (wI n) = wI (n + l.sum)
 | [], n => by simp [sumI]
 | x :: l, n => by
  have := ybb l (n + x)
  rw [sumI] at this ⊢
  rw [List.foldl_cons, wr1, this, List.sum_cons]; congr 1; omega
theorem zvs (r : Rank) : ∀ (ms : List Member) (w : Int), zku r ms (wI w) = wI (w + sumM (fun m => if m.id = r.id then m.hand * r.games else 0) ms)
 | [], w => by simp [zku, sumM]
 | m :: ms, w => by
  rw [sumM, List.map_cons, List.sum_cons, zku, List.foldl_cons]
  split
  ·have := zvs r ms (w + m.hand * r.games)
   rw [zku, sumM] at this
   rw [wr2, wr1, this]; congr 1; omega
  ·have := zvs r ms w
   rw [zku, sumM] at this
   rw [this]; congr 1; omega
def sumR (f : Rank → Int) (R : List Rank) : Int := (R.map f).sum
theorem ylm (ms : List Member) : ∀ (R : List Rank) (s w g : Int), R.foldl (accR ms) (wI s, wI w, wI g) = (wI (s + sumR (·.total) R), wI (w + sumR (fun r => sumM (fun m => if m.id = r.id then m.hand * r.games else 0) ms) R), wI (g + sumR (fun r => r.places.sum) R))
 | [], s, w, g => by simp [sumR]
 | r :: R, s, w, g => by
  have h0 := ybb r.places 0
  rw [wr0, Int.zero_add] at h0
  rw [List.foldl_cons, accR]
  dsimp only
  rw [wr1, zvs, h0, wr2, wr1, ylm ms R]
  simp only [sumR, List.map_cons, List.sum_cons]
  refine Prod.ext ?_ (Prod.ext ?_ ?_) <;> dsimp only <;> congr 1 <;> omega
def cntP (pts : List (List Int)) (k n : Nat) : Nat := ((List.range' k n).filter fun j => decide (0 < (pts.getD j []).length)).length
theorem ych (c : Club) (pts : List (List Int)) : ∀ (n k : Nat) (w g : Int), accT c pts k n (wI w, wI g) = (wI (w - n * (c.absent * c.size)), wI (g - c.size * cntP pts k n))
 | 0, k, w, g => by simp [accT, cntP]
 | n + 1, k, w, g => by
  rw [accT]
  dsimp only
  rw [wr4, wr3, cntP, List.range'_succ, List.filter_cons]
  by_cases h : 0 < (pts.getD k []).length
  ·rw [if_pos h, wr3, ych c pts n, if_pos (decide_eq_true h), List.length_cons, cntP]
   refine Prod.ext ?_ ?_ <;> dsimp only <;> congr 1
   ·rw [Int.natCast_add, Int.add_mul]; simp; omega
   ·rw [Int.natCast_add, Int.mul_add]; simp; omega
  ·rw [if_neg h, ych c pts n, if_neg (by simpa using h), cntP]
   refine Prod.ext ?_ ?_ <;> dsimp only <;> congr 1
   rw [Int.natCast_add, Int.add_mul]; simp; omega
def absR (c : Club) : List Sitting → Nat → Int
 | [], _ => 0
 | s :: r, i => c.absent * ((zck c i).length - s.tables.length * c.size) + absR c r (i + 1)
def gamR (c : Club) : List Sitting → Int
 | [] => 0
 | s :: r => c.size * cntP s.points 0 s.tables.length + gamR c r
theorem yll (c : Club) : ∀ (R : List Sitting) (i : Nat) (w g : Int), accS c R i (wI w, wI g) = (wI (w + absR c R i), wI (g - gamR c R))
 | [], i, w, g => by simp [accS, absR, gamR]
 | s :: R, i, w, g => by
  rw [accS]
  dsimp only
  rw [wr2, wr1, ych, yll c R]
  refine Prod.ext ?_ ?_ <;> dsimp only [absR, gamR] <;> congr 1
  ·have e : c.absent * ((s.tables.length : Int) * c.size) = (s.tables.length : Int) * (c.absent * c.size) := by rw [← Int.mul_assoc, Int.mul_comm c.absent, Int.mul_assoc]
   rw [Int.mul_sub, e]; omega
  ·omega
structure WR (c : Club) (r : Rank) (tot gam : Int) : Prop where
 total : wI r.total = wI tot
 games : r.games = wI gam
 sum : wI r.places.sum = wI gam
 len : r.places.length = c.size.toNat
theorem yhm : ∀ (l : List Int) (i : Nat) (x : Int), i < l.length → (l.set i x).sum = l.sum - l.getD i 0 + x
 | a :: l, 0, x, _ => by simp; omega
 | a :: l, i + 1, x, h => by
  have := yhm l i x (by simpa using h)
  simp only [List.set_cons_succ, List.sum_cons, this, List.getD_cons_succ]; omega
theorem ydk {c : Club} {m : Member} {i : Nat} (hz : 1 ≤ c.size) (hct : ∀ k : Nat, zdv c i k = true → ((zde c i k).length : Int) = c.size) : ∀ (T : List (List Int)) (k : Nat) (r : Rank) (tot gam : Int), (∀ t ∈ T, (t.length : Int) = c.size) → WR c r tot gam →
  WR c (zlb c m i T k r) (tot + (cT c i m T k).1) (gam + (cT c i m T k).2)
 | [], k, r, tot, gam, _, h => by
  refine ⟨?_, by rw [cT, Int.add_zero]; exact h.games, by rw [cT, Int.add_zero]; exact h.sum, h.len⟩
  show wI (wI (r.total + if m.plays i = true then c.absent else 0)) = _
  have : wI (wI (r.total + if m.plays i = true then c.absent else 0)) = wI (r.total + if m.plays i = true then c.absent else 0) := by
   have := wr1 (r.total + if m.plays i = true then c.absent else 0) 0
   simpa using this
  rw [this]
  exact wr5 h.total rfl
 | t :: T, k, r, tot, gam, hl, h => by
  rw [zlb, cT]
  split
  ·exact ydk hz hct T (k + 1) r tot gam (fun t ht => hl t (List.mem_cons_of_mem _ ht)) h
  rename_i h1
  split
  ·simpa using h
  rename_i h2
  have h3 : zdv c i k = true := by simpa using h2
  have h4 := hct k h3
  have h5 := hl t (List.mem_cons_self ..)
  obtain ⟨p, hp, hp2⟩ := yjr h1
  have h6 := zyn (points := zde c i k) (i := p) (by omega) c.share
  have e : (idxI t m.id).toNat = p := by omega
  rw [e]
  refine ⟨?_, ?_, ?_, ?_⟩
  ·show wI (wI (r.total + wI _)) = _
   rw [wr2]
   have := wr1 (r.total + ((zfd (zde c i k) c.places c.start c.share).getD p 0 + m.hand)) 0
   rw [Int.add_zero, Int.add_zero] at this
   rw [this]
   exact wr5 h.total rfl
  ·show wI (r.games + 1) = _
   rw [h.games, wr1]
  ·show wI (r.places.set _ (wI _)).sum = _
   have h7 := h.len
   rw [yhm _ _ _ (by omega), wr2]
   have e2 : ∀ a x : Int, a - x + (x + 1) = a + 1 := fun a x => by omega
   rw [e2]
   exact wr5 h.sum rfl
  ·show (r.places.set _ _).length = _
   rw [List.length_set]; exact h.len
def totG (c : Club) (m : Member) : List Sitting → Nat → Int × Int
 | [], _ => (0, 0)
 | s :: R, i => ((cT c i m s.tables 0).1 + (totG c m R (i + 1)).1, (cT c i m s.tables 0).2 + (totG c m R (i + 1)).2)
theorem ydn {c : Club} {m : Member} (hz : 1 ≤ c.size) : ∀ (R : List Sitting) (i : Nat) (r : Rank) (tot gam : Int), (∀ j, j < R.length → ∀ k : Nat, zdv c (i + j : Nat) k = true → ((zde c (i + j : Nat) k).length : Int) = c.size) → (∀ s ∈ R, ∀ t ∈ s.tables, (t.length : Int) = c.size) → WR c r tot gam →
  WR c (zpc c m R i r) (tot + (totG c m R i).1) (gam + (totG c m R i).2)
 | [], i, r, tot, gam, _, _, h => by simpa [totG, zpc] using h
 | s :: R, i, r, tot, gam, h1, h2, h => by
  have h3 := ydk (c := c) (m := m) (i := i) hz (fun k hk => h1 0 (by simp) k hk) s.tables 0 r tot gam (h2 s (List.mem_cons_self ..)) h
  have h4 := ydn (m := m) hz R (i + 1) _ _ _ (fun j hj k hk => by
   have := h1 (j + 1) (by simpa using hj) k (by rw [show i + (j + 1) = i + 1 + j by omega]; exact hk)
   rw [show i + (j + 1) = i + 1 + j by omega] at this; exact this) (fun s hs => h2 s (List.mem_cons_of_mem _ hs)) h3
  rw [zpc, totG]
  dsimp only
  rw [← Int.add_assoc, ← Int.add_assoc]
  exact h4
theorem ypk (c : Club) (i : Nat) (m : Member) : ∀ (T : List (List Int)) (k : Nat), 0 ≤ (cT c i m T k).2 ∧ (cT c i m T k).2 ≤ 1
 | [], k => by simp [cT]
 | t :: T, k => by
  rw [cT]
  split
  ·exact ypk c i m T (k + 1)
  split <;> simp
theorem yhh (c : Club) (m : Member) : ∀ (R : List Sitting) (i : Nat), 0 ≤ (totG c m R i).2 ∧ (totG c m R i).2 ≤ R.length
 | [], i => by simp [totG]
 | s :: R, i => by
  have h1 := ypk c i m s.tables 0
  have h2 := yhh c m R (i + 1)
  simp only [totG, List.length_cons]; omega
theorem zvg {c : Club} {i : Nat} (hi : i < c.rounds.length) {n : Nat} (hn : n ≤ c.rounds[i].points.length) : ∀ (l : List Nat), (∀ j ∈ l, j < n) → (l.filter fun j => zdv c i (j : Nat)).length = (l.filter fun j => decide (0 < (c.rounds[i].points.getD j []).length)).length
 | [], _ => rfl
 | j :: l, h => by
  have ih := zvg hi hn l fun x hx => h x (List.mem_cons_of_mem _ hx)
  have hj := h j (List.mem_cons_self ..)
  have e : zdv c i (j : Nat) = decide (0 < (c.rounds[i].points.getD j []).length) := by
   rw [zjq hi, decide_eq_decide, Int.toNat_natCast]
   exact ⟨fun h => h.2, fun h => ⟨by omega, h⟩⟩
  rw [List.filter_cons, List.filter_cons, e]
  split <;> simp [ih]
theorem ylg {c : Club} (hc : zdf c = 0) (hpsum : c.places.sum = 0) (hct : ∀ i k : Nat, i < c.rounds.length → zdv c i k = true → ((zde c i k).length : Int) = c.size ∧ (zde c i k).sum = c.size * c.start) : ∀ (n i : Nat), i + n = c.rounds.length →
  sumM (fun m => (totG c m (c.rounds.drop i) i).1) c.members = sumM (fun m => m.hand * (totG c m (c.rounds.drop i) i).2) c.members + absR c (c.rounds.drop i) i ∧ sumM (fun m => (totG c m (c.rounds.drop i) i).2) c.members = gamR c (c.rounds.drop i)
 | 0, i, h => by
  rw [List.drop_eq_nil_of_le (by omega)]
  simp only [totG, absR, gamR, Int.mul_zero, zno]
  simp
 | n + 1, i, h => by
  have hi : i < c.rounds.length := by omega
  obtain ⟨ih1, ih2⟩ := ylg hc hpsum hct n (i + 1) (by omega)
  obtain ⟨p1, -, p3, -, -⟩ := znx hc
  obtain ⟨ha, -⟩ := ylb hc
  have ht := (zgz hc hi).1
  rw [zev, c.round_at hi] at ht
  obtain ⟨r1, r2⟩ := zyh ha (by omega) p1 hpsum (fun k hk => hct i k hi hk) c.rounds[i].tables 0 [] 0 ht
  have e0 : (c.members.filter fun m => !decide (m.id ∈ ([] : List Int))) = c.members := List.filter_eq_self.2 fun m _ => by simp
  rw [e0] at r1 r2
  have hpl : zck c i = zer c i := by rw [zck, if_neg (by omega), if_neg (by omega)]
  have hpll : (zck c i).length = (c.members.filter fun m => m.plays i).length := by rw [hpl, zer, List.length_map]
  have hcnt := zvg hi (Nat.le_refl _) (List.range' 0 c.rounds[i].tables.length) fun j hj => by
   have := List.mem_range'_1.1 hj
   have := (zql hi (zgz hc hi).2).2.2.1
   omega
  rw [hcnt] at r2
  rw [List.drop_eq_getElem_cons hi]
  simp only [totG, absR, gamR, Int.mul_add]
  rw [zqg, zqg (fun m => m.hand * (cT c i m c.rounds[i].tables 0).2), zqg (fun m => (cT c i m c.rounds[i].tables 0).2), ih1, ih2, r1, r2, hpll, cntP]
  exact ⟨by omega, rfl⟩
theorem zpf {β : Type} (f : Rank → β) (hf : ∀ (r : Rank) (x : Int), f { r with place := x } = f r) : ∀ (l : List Rank) (p : Rank) (i : Nat), (zes p i l).map f = l.map f
 | [], _, _ => rfl
 | r :: l, p, i => by rw [zes, List.map_cons, List.map_cons, hf, zpf f hf l]
theorem zpa (c : Club) (f : Rank → Int) (hf : ∀ (r : Rank) (x : Int), f { r with place := x } = f r) : sumR f (zjo c) = sumM (fun m => f (zgh c m)) c.members := by
 rw [sumR, zjo, zpf f hf, zqf f (zie _), List.map_map]; rfl
theorem yba {f g : Member → Int} : ∀ {M : List Member}, (∀ m ∈ M, wI (f m) = wI (g m)) → wI (sumM f M) = wI (sumM g M)
 | [], _ => rfl
 | m :: M, h => by
  have := yba (M := M) fun x hx => h x (List.mem_cons_of_mem _ hx)
  exact wr5 (h m (List.mem_cons_self ..)) this
theorem yne {M : List Member} (hm : M.Pairwise fun a b => a.id < b.id) {m : Member} (h : m ∈ M) (g : Int) : sumM (fun x => if x.id = m.id then x.hand * g else 0) M = m.hand * g := by
 induction M with
 | nil => cases h
 | cons a M ih =>
  obtain ⟨h1, h2⟩ := List.pairwise_cons.1 hm
  rw [sumM, List.map_cons, List.sum_cons]
  rcases List.mem_cons.1 h with rfl | h
  ·rw [if_pos rfl]
   have : sumM (fun x => if x.id = m.id then x.hand * g else 0) M = sumM (fun _ => 0) M := zfh fun x hx => if_neg (by have := h1 x hx; omega)
   rw [zno, sumM] at this
   omega
  ·have h3 := ih h2 h
   rw [sumM] at h3
   rw [if_neg (by have := h1 m h; omega), h3]; omega
theorem zqm {c : Club} (hc : zdf c = 0) (m : Member) : WR c (zgh c m) (totG c m c.rounds 0).1 (totG c m c.rounds 0).2 := by
 obtain ⟨p1, -, p3, -, -⟩ := znx hc
 have h := ydn (m := m) (c := c) (by omega) c.rounds 0 (ymz c m) 0 0 (fun j hj k hk => by
  rw [Nat.zero_add] at hk ⊢
  exact (zre (zkj hc hj hk)).1) (fun s hs => by
  obtain ⟨j, hj, rfl⟩ := List.mem_iff_getElem.1 hs
  exact zxv hc hj) ⟨rfl, wr0.symm, by show wI (List.replicate c.size.toNat (0 : Int)).sum = wI 0; rw [show (List.replicate c.size.toNat (0 : Int)).sum = 0 by simp], by simp [ymz]⟩
 rw [Int.zero_add, Int.zero_add] at h
 exact h
theorem ynu {c : Club} (hc : zdf c = 0) (m : Member) : (zgh c m).games = (totG c m c.rounds 0).2 := by
 have h := (zqm hc m).games
 have h2 := yhh c m c.rounds 0
 obtain ⟨-, -, k3⟩ := zfi hc
 rw [h, wrI (by omega)]
theorem ymj {c : Club} (hc : zdf c = 0) (hpsum : c.places.sum = 0) (S W G : Int) (h : (zjo c).foldl (accR c.members) (0, 0, 0) = (S, W, G)) : accS c c.rounds 0 (W, G) = (S, 0) := by
 have hct : ∀ i k : Nat, i < c.rounds.length → zdv c i k = true → ((zde c i k).length : Int) = c.size ∧ (zde c i k).sum = c.size * c.start := fun i k hi hk => by
  have h1 := zkj hc hi hk
  have h2 := zre h1
  refine ⟨h2.1, ?_⟩
  rw [zfn, zgi, if_pos h2.1] at h1
  have key : ∀ (l : List Int) (w : Int), zea 1099511627776 l w = 0 → l.sum = w := by
   intro l
   induction l with
   | nil => intro w hw; rw [zea] at hw; split at hw <;> simp_all
   | cons a r ih =>
    intro w hw
    rw [zea] at hw
    split at hw
    ·have := ih _ hw; rw [List.sum_cons]; omega
    ·cases hw
  exact key _ _ h1
 obtain ⟨a1, a2⟩ := ylg hc hpsum hct c.rounds.length 0 (by omega)
 rw [List.drop_zero] at a1 a2
 obtain ⟨ha, -⟩ := ylb hc
 have e := ylm c.members (zjo c) 0 0 0
 rw [wr0, h, Int.zero_add, Int.zero_add, Int.zero_add, zpa c _ (fun _ _ => rfl), zpa c _ (fun _ _ => rfl), zpa c _ (fun _ _ => rfl)] at e
 obtain ⟨e1, e2⟩ := Prod.ext_iff.1 e
 obtain ⟨e2, e3⟩ := Prod.ext_iff.1 e2
 dsimp only at e1 e2 e3
 have f1 : wI (sumM (fun m => (zgh c m).total) c.members) = wI (sumM (fun m => (totG c m c.rounds 0).1) c.members) := yba fun m _ => (zqm hc m).total
 have f3 : wI (sumM (fun m => (zgh c m).places.sum) c.members) = wI (sumM (fun m => (totG c m c.rounds 0).2) c.members) := yba fun m _ => (zqm hc m).sum
 have f2 : sumM (fun m => sumM (fun x => if x.id = (zgh c m).id then x.hand * (zgh c m).games else 0) c.members) c.members = sumM (fun m => m.hand * (totG c m c.rounds 0).2) c.members := zfh fun m hm => by
  rw [zwk, ynu hc, yne ha hm]
 rw [f1, a1] at e1
 rw [f2] at e2
 rw [f3, a2] at e3
 rw [e2, e3, yll, e1, Int.sub_self, wr0]
theorem zym {L : List Rank} (hs : zjn L) (hn : (L.map (·.id)).Nodup) : ∀ (i : Nat) (h : i < (zes default 0 L).length), (zes default 0 L)[i].place ≤ i ∧ (∀ h0 : 0 < i, ((zes default 0 L)[i - 1]'(by omega)).place ≤ (zes default 0 L)[i].place ∧ ((zes default 0 L)[i].place = ((zes default 0 L)[i - 1]'(by omega)).place → cmpK ((zes default 0 L)[i - 1]'(by omega)) (zes default 0 L)[i] = 0)) := by
 intro i
 induction i with
 | zero =>
  intro h
  have hl : 0 < L.length := by rw [zig] at h; exact h
  obtain ⟨hh, e⟩ := List.getElem?_eq_some_iff.1 (zrk (s := L) rfl hl)
  rw [e]
  exact ⟨Int.le_refl _, fun h0 => absurd h0 (by omega)⟩
 | succ k ih =>
  intro h
  have hl : k + 1 < L.length := by rw [zig] at h; exact h
  obtain ⟨hh, e⟩ := List.getElem?_eq_some_iff.1 (zrl (s := L) rfl hl (by omega) (by omega))
  obtain ⟨i1, -⟩ := ih (by omega)
  simp only [Nat.add_sub_cancel] at e ⊢
  rw [e]
  dsimp only
  by_cases hc : cmpK ((zes default 0 L)[k]'(by omega)) L[k + 1] = 0
  ·rw [if_pos hc]
   exact ⟨by omega, fun _ => ⟨Int.le_refl _, fun _ => (zne rfl rfl rfl rfl).trans hc⟩⟩
  ·rw [if_neg hc]
   exact ⟨Int.le_refl _, fun _ => ⟨by omega, fun h => by omega⟩⟩
theorem zmy {L : List Rank} (i : Nat) (h : i < (zes default 0 L).length) (hl : i < L.length) : (zes default 0 L)[i].id = L[i].id ∧ (zes default 0 L)[i].total = L[i].total ∧ (zes default 0 L)[i].games = L[i].games ∧ (zes default 0 L)[i].places = L[i].places := by
 have key : ∀ {β : Type} (f : Rank → β), (∀ (r : Rank) (x : Int), f { r with place := x } = f r) → f (zes default 0 L)[i] = f L[i] := fun f hf => by
  have := zpf f hf L default 0
  have h1 : ((zes default 0 L).map f)[i]? = (L.map f)[i]? := by rw [this]
  simpa [List.getElem?_eq_getElem h, List.getElem?_eq_getElem hl] using h1
 exact ⟨key (·.id) fun _ _ => rfl, key (·.total) fun _ _ => rfl, key (·.games) fun _ _ => rfl, key (·.places) fun _ _ => rfl⟩
theorem ybg {c : Club} (hc : zdf c = 0) : ∀ i h, RowOk (zjo c) i h := by
 intro i h
 have hs := zkw (c.members.map (zgh c))
 have hn : ((zqa (c.members.map (zgh c))).map (·.id)).Nodup := ((zie _).map (·.id)).nodup_iff.2 (by rw [List.map_map]; exact zpb hc)
 have hm : ∀ r ∈ zqa (c.members.map (zgh c)), ∃ m, r = zgh c m := fun r hr => by
  obtain ⟨m, -, rfl⟩ := List.mem_map.1 ((zie _).mem_iff.1 hr)
  exact ⟨m, rfl⟩
 have h' : i < (zes default 0 (zqa (c.members.map (zgh c)))).length := h
 have q : RowOk (zes default 0 (zqa (c.members.map (zgh c)))) i h' := by
  generalize zqa (c.members.map (zgh c)) = L at *
  have hl : i < L.length := by rw [zig] at h'; exact h'
  obtain ⟨f1, f2⟩ := zym hs hn i h'
  obtain ⟨e1, e2, e3, e4⟩ := zmy i h' hl
  obtain ⟨m, hm⟩ := hm L[i] (List.getElem_mem hl)
  have hw := zqm hc m
  have hd : 0 < i → zdi L[i] (L[i - 1]'(by omega)) = false := fun h0 => List.pairwise_iff_getElem.1 hs (i - 1) i (by omega) hl (by omega)
  refine ⟨?_, ?_, fun h0 => ?_, fun h0 => (f2 h0).1, fun h0 he => ?_, f1⟩
  ·rw [e3, e4, hm]
   have := ybb (zgh c m).places 0
   rw [wr0, Int.zero_add] at this
   rw [this, hw.sum, hw.games]
  ·rw [e4, hm, hw.len]
   obtain ⟨-, -, p3, -, -⟩ := znx hc
   omega
  ·obtain ⟨-, k2, -, -⟩ := zmy (i - 1) (by omega) (by omega : i - 1 < L.length)
   rw [e2, k2]
   have := hd h0
   rw [Bool.eq_false_iff, Ne, zhq] at this
   have hnp : ¬ 0 < cmpK L[i] (L[i - 1]'(by omega)) := fun h => this (.inl h)
   by_cases ht : L[i].total ≤ (L[i - 1]'(by omega)).total
   ·exact ht
   ·exfalso; apply hnp
    rw [cmpK, if_pos (by omega), if_pos (by omega)]; decide
  ·obtain ⟨k1, k2, k3, k4⟩ := zmy (i - 1) (by omega) (by omega : i - 1 < L.length)
   have hz := (f2 h0).2 he
   have hz' : cmpK (L[i - 1]'(by omega)) L[i] = 0 := (zne k2.symm k4.symm e2.symm e4.symm).trans hz
   have := hd h0
   rw [Bool.eq_false_iff, Ne, zhq] at this
   have hsw := zop (L[i - 1]'(by omega)) L[i]
   have hni : ¬ L[i].id < (L[i - 1]'(by omega)).id := fun h => this (.inr ⟨by omega, h⟩)
   have hne : (L[i - 1]'(by omega)).id ≠ L[i].id := by
    have := List.pairwise_iff_getElem.1 hn (i - 1) i (by simp; omega) (by simpa using hl) (by omega)
    simpa using this
   rw [e1, k1]; omega
 exact q
theorem yge (x : Int) : (zen x 3).1.places.sum = 0 := by
 show (zdj x).1.sum = 0
 rcases zuj x with ⟨-, a, b, c, e, h0, -⟩ | ⟨-, a, b, c, d, e, h0, -⟩
 ·rw [e]; simp only [List.sum_cons, List.sum_nil]; omega
 ·rw [e]; simp only [List.sum_cons, List.sum_nil]; omega
theorem ybo (x : Int) : 0 < (zen x 3).1.members.length := by
 have h1 := zqh x
 have h2 := zbs (zdj x).2 (3 - 1 + 1)
 have h3 := zbs (zae (zdj x).2) 2
 have h4 : 1 ≤ zcw (zdj x).2 1 3 ∧ zcw (zdj x).2 1 3 ≤ 3 := by unfold zcw; omega
 have h5 : 3 ≤ zgc x * zcw (zdj x).2 1 3 := by
  rcases h1 with h | h <;> rw [h] <;> omega
 have h6 := zib (zgc x * zcw (zdj x).2 1 3 + zaj (zae (zdj x).2) 2).toNat 0 (zae (zae (zdj x).2)) [] ⟨Int.le_refl _, fun m hm => by cases hm⟩
 show 0 < (zfo x).1.length
 rw [zfo, h6.1]; simp only [List.length_nil]; omega
theorem yce (nums : List Int) : PC Tryz.prog 6 [ints nums] (Bo true) := by
 have hc := (yku (newX nums)).1
 exact yab nums (ybg hc) hc (ybo _) fun S W G h => ymj hc (yge _) S W G h
end Go.XL
namespace Go.XL
open Go.Proofs Go.ChangeShapes Go.WideShapes Go.ChangeAt Go.RowKit
def hvW (W : World) : VH := fun b => W.heap[b]?
def yso (W : World) : Bs := ⟨fun b => b < W.heap.size, W.heap, hvW W⟩
theorem stW (W : World) : St (yso W) (hvW W) (fun _ => none) [] [] [] W.heap where
 pre := fun b o e => ⟨o, e, leO.refl o⟩
 slot := fun t v e => by cases e
 obj := fun b o e => by cases e
 held := fun g x e => by cases e
 base := ⟨fun b h => h, Nat.le_refl _, fun b _ => rfl⟩
 vbase := ⟨PreV.refl _, fun _ _ => rfl⟩
structure KeptW (W W' : World) : Prop where
 os : W'.os = W.os
 output : W'.output = W.output
 size : W.heap.size ≤ W'.heap.size
 old : ∀ b, b < W.heap.size → W'.heap[b]? = W.heap[b]?
theorem PC.door {P : Program} {f : FuncId} {vs : List V} {xs : List Value} (h : PC P f vs (.v (.bool true))) (W : World) (hx : RlL (hvW W) vs xs) :
  Calls P f xs.toArray W fun e w' => e = .returned (.bool true) ∧ KeptW W w' := by
 refine (h (hvW W) (yso W) (hvW W) (fun _ => none) W.heap xs (PreV.refl _) hx (stW W) W rfl).mono fun e w' => ?_
 rintro ⟨y, rfl, ⟨s1, s2, s3⟩, v, S', hv', hold', -, st, rfl⟩
 obtain ⟨z, h1, h2, -⟩ := st.slot 0 (.v (.bool true)) rfl
 simp only [V.Rl] at h2
 subst h2
 have h3 : look [(0, y)] 0 = some y := by simp [look]
 rw [h3] at h1
 cases h1
 exact ⟨rfl, s1, s3, st.base.2.1, st.base.2.2⟩
theorem KeptW.keptBut {W W' : World} (k : KeptW W W') (may : MemPlace → Prop) : W.keptBut W' may := by
 refine ⟨k.os, k.output, fun i hi => ?_⟩
 rw [k.old i hi]
 generalize W.heap[i]? = o
 cases o with
 | none => trivial
 | some o => cases o <;> simp
theorem KeptW.cell {W W' : World} (k : KeptW W W') {a : Addr} (h : a.block < W.heap.size) : W'.cell? a = W.cell? a := by
 unfold World.cell?
 rw [k.old _ h]
theorem KeptW.sameAt {W W' : World} (k : KeptW W W') {p : MemPlace} (h : p.block < W.heap.size) : W.sameAt W' p := by
 cases p with
 | cell b off => exact k.cell h
 | map b => exact k.old _ h
section
variable {H : Type} {enc : TypeId × Value → H} {P : Program}
theorem znj (hl : laidOutB P = true) {W W' : World} {sp : Nat → Bool} : ∀ {ts : List TypeId} {vs : List Value} {ds : List (DataW H)} {ps : List MemPlace}, (∀ t ∈ ts, P.readableRec t = true ∧ t < P.types.size) →
  DataW.TrodAll enc P W 0 (fun _ => true) true ts vs ds ps → (∀ p ∈ ps, W.sameAt W' p) → (∀ p ∈ ps, sp p.block = true) → DataW.TrodAll enc P W' 0 sp true ts vs ds ps
 | [], vs, ds, ps, _, h, _, _ => by
  obtain ⟨rfl, rfl, rfl⟩ := trodAll_nil h
  rfl
 | t :: ts, vs, ds, ps, ht, h, h1, h2 => by
  obtain ⟨v, vs', d, ds', p, q, rfl, rfl, rfl, h3, h4⟩ := trodAll_cons h
  obtain ⟨r1, r2⟩ := ht t (List.mem_cons_self ..)
  exact ⟨p, q, WideElems.Trod_stays hl r1 r2 h3 (fun x hx => h1 x (List.mem_append_left _ hx)) (fun x hx => h2 x (List.mem_append_left _ hx)),
   znj hl (fun t h => ht t (List.mem_cons_of_mem _ h)) h4 (fun x hx => h1 x (List.mem_append_right _ hx)) (fun x hx => h2 x (List.mem_append_right _ hx)), rfl⟩
theorem ynb {f : Func} {s : ChangeSpec} {apart fresh handsOn : Bool} {W W' : World} {args : Array Value} {ds gs : List (DataW H)} {before : List MemPlace} {tb : TypeId}
  (hW : DataW.Whole enc P f.params.toList s.vars apart W args.toList ds gs before) (hv : s.vars = []) (hs : s.fn H ds = { results := [.lit (.bool true)], args := ds })
  (hrt : f.resultTypes = #[tb]) (hb : P.underlying tb = some .bool) (hl : laidOutB P = true) (hr : ∀ t ∈ f.params.toList, P.readableRec t = true ∧ t < P.types.size) (k : KeptW W W') :
  s.post enc P f apart fresh handsOn false W args (.bool true) W' := by
 have hlt := fun p hp => hW.lt (p := p) hp
 have hW' := hW
 obtain ⟨p, q, hA, hV, rfl, -, -⟩ := hW
 rw [hv] at hV
 obtain ⟨rfl, rfl⟩ := trodVars_none hV
 refine ⟨ds, [], p ++ [], [], p, [], hW', ?_, ?_, ?_, k.keptBut _, fun h => by cases h⟩
 ·rw [List.append_nil, hs, hrt]
  exact trodAll_mk1 (shut_bool hb _)
 ·rw [List.append_nil, hs]
  exact znj hl hr hA (fun x hx => k.sameAt (hlt x (by simpa using hx))) (fun x hx => by simpa using hlt x (by simpa using hx))
 ·rw [List.append_nil, hs, hv]
  rfl
def yrc (P : Program) (W : World) (H : Type) (enc : TypeId × Value → H) (t : TypeId) {α : Type} (f : α → List V) (G : α → Prop) : Prop :=
 ∀ fuel cs x, DataW.trod enc P W 0 (fun _ => true) true fuel t cs = some x → ∃ a, RlL (hvW W) (f a) cs ∧ (∀ u ∈ cs, u.oneCell' = true) ∧ G a
variable {W : World} {t e : TypeId}
theorem yiq {k : IntKind} (ht : P.underlying t = some (.int k)) : yrc P W H enc t (fun n : Int => [.v (.int k n)]) (fun n => (Lit.int k n).wf = true) := by
 intro fuel cs x h
 obtain ⟨n, rfl, -, hw⟩ := DataW.trod_int ht h
 exact ⟨n, by simp [RlL, V.Rl], by simp [Value.oneCell'], hw⟩
theorem RlL.len {hv : VH} : ∀ {vs : List V} {cs : List Value}, RlL hv vs cs → vs.length = cs.length
 | [], _, h => by simp only [RlL] at h; subst h; rfl
 | v :: vs, cs, h => by
  simp only [RlL] at h
  obtain ⟨z, zs, rfl, -, h⟩ := h
  simp [RlL.len h]
theorem RlL.one {hv : VH} {v : V} {y : Value} (h : v.Rl hv y) : RlL hv [v] [y] := by
 simp only [RlL]; exact ⟨y, [], rfl, h, rfl⟩
theorem ypj {a : Addr} {m : Nat} : ∀ {vs : List V} {cs : List Value} {i : Nat}, RlL (hvW W) vs cs → (∀ u ∈ cs, u.oneCell' = true) → (∀ j, j < cs.length → W.cell? (a.add (i + j)) = cs[j]?) → RlC (hvW W) (some a) i vs
 | [], _, _, _, _, _ => by simp only [RlC]
 | v :: vs, cs, i, h, h1, h2 => by
  simp only [RlL] at h
  obtain ⟨z, zs, rfl, h3, h4⟩ := h
  simp only [RlC]
  refine ⟨⟨z, ?_, h3, h1 z (List.mem_cons_self ..)⟩, ypj (m := m) h4 (fun u hu => h1 u (List.mem_cons_of_mem _ hu)) fun j hj => ?_⟩
  ·have := h2 0 (by simp)
   rw [Nat.add_zero] at this
   exact this
  ·have := h2 (j + 1) (by simpa using hj)
   rw [show i + 1 + j = i + (j + 1) by omega, this]
   rfl
theorem ypi {a : Addr} {sz : Nat} : ∀ {l : List (List V)} {i : Nat}, (∀ (j : Nat) (h : j < l.length), l[j].length = sz ∧ RlC (hvW W) (some a) (i + j * sz) l[j]) → RlE (hvW W) (some a) i l
 | [], _, _ => by simp only [RlE]
 | c :: l, i, h => by
  simp only [RlE]
  have h0 := h 0 (by simp)
  simp only [Nat.zero_mul, Nat.add_zero, List.getElem_cons_zero] at h0
  refine ⟨h0.2, ypi (sz := sz) fun j hj => ?_⟩
  have h1 := h (j + 1) (by simpa using hj)
  simp only [List.getElem_cons_succ] at h1
  refine ⟨h1.1, ?_⟩
  have e : i + c.length + j * sz = i + (j + 1) * sz := by rw [h0.1, Nat.add_mul, Nat.one_mul]; omega
  rw [e]
  exact h1.2
theorem zsz {α β : Type} {R : Nat → α → Prop} : ∀ (n : Nat), (∀ i, i < n → ∃ a, R i a) → ∃ l : List α, l.length = n ∧ ∀ (i : Nat) (h : i < l.length), R i l[i]
 | 0, _ => ⟨[], rfl, fun i h => by cases h⟩
 | n + 1, h => by
  obtain ⟨l, h1, h2⟩ := zsz (β := β) n fun i hi => h i (by omega)
  obtain ⟨a, ha⟩ := h n (by omega)
  refine ⟨l ++ [a], by simp [h1], fun i hi => ?_⟩
  rw [List.length_append, List.length_singleton] at hi
  by_cases h3 : i < l.length
  ·rw [List.getElem_append_left h3]; exact h2 i h3
  ·obtain rfl : i = l.length := by omega
   simp only [List.getElem_concat_length]
   rw [h1]; exact ha
theorem ybl {α : Type} {f : α → List V} {G : α → Prop} {sz : Nat} (ht : P.underlying t = some (.slice e)) (hc : P.cellsOf e = sz) (h : yrc P W H enc e f G) :
  yrc P W H enc t (fun l : List α => [.lst (l.map f)]) (fun l => ∀ a ∈ l, G a) := by
 intro fuel cs x hx
 rcases DataW.trod_slice ht hx with ⟨rfl, -⟩ | ⟨a, len, cap, elems, rest, n, rfl, rfl, -, -, h1, h2, h3, h4, -, -⟩
 ·refine ⟨[], ?_, by simp [Value.oneCell'], fun a h => by cases h⟩
  simp only [RlL, V.Rl, List.map_nil]
  exact ⟨_, [], rfl, ⟨none, 0, 0, rfl, Nat.le_refl _, Nat.zero_le _, (fun c h => by cases h), by simp only [RlE]⟩, rfl⟩
 ·obtain ⟨l, hl, hk⟩ := zsz (β := Unit) (R := fun i y => ∃ cs, W.cells? 0 (a.add (i * sz)) sz = some cs ∧ RlL (hvW W) (f y) cs ∧ (∀ u ∈ cs, u.oneCell' = true) ∧ G y) len (fun i hi => by
   have h5 := h4 i hi
   rw [List.getElem?_eq_getElem (by omega), Option.bind_eq_some_iff, hc] at h5
   obtain ⟨cs, h6, h7⟩ := h5
   obtain ⟨y, h8, h9, h10⟩ := h _ _ _ h7
   exact ⟨y, cs, h6, h8, h9, h10⟩)
  have hlen : ∀ y ∈ l, (f y).length = sz := fun y hy => by
   obtain ⟨i, hi, rfl⟩ := List.mem_iff_getElem.1 hy
   obtain ⟨cs, k1, k2, -, -⟩ := hk i hi
   rw [k2.len, (World.cells?_some k1).2.1]
  refine ⟨l, ?_, by simp [Value.oneCell'], fun y hy => ?_⟩
  ·simp only [RlL, V.Rl]
   refine ⟨_, [], rfl, ⟨some a, cap, sz, by rw [List.length_map, hl], by rw [List.length_map, hl]; exact h1, h2, fun c hc => ?_, ypi (sz := sz) fun j hj => ?_⟩, rfl⟩
   ·obtain ⟨y, hy, rfl⟩ := List.mem_map.1 hc
    exact hlen y hy
   ·rw [List.length_map] at hj
    rw [List.getElem_map]
    obtain ⟨cs, k1, k2, k3, k4⟩ := hk j hj
    obtain ⟨-, k5, k6⟩ := World.cells?_some k1
    refine ⟨hlen _ (List.getElem_mem hj), ypj (m := sz) k2 k3 fun i hi => ?_⟩
    rw [Nat.zero_add, ← ylh]
    exact k6 i (by omega)
  ·obtain ⟨i, hi, rfl⟩ := List.mem_iff_getElem.1 hy
   obtain ⟨cs, -, -, -, k4⟩ := hk i hi
   exact k4
end
end Go.XL
