/- A part of a program logic over the kit's walk rules, and contracts of functions in it. Conditions: as each theorem says. -/
import Derived.Test.YtlcigmnkfilebaaGreatT7
import Derived.Test.YtlcigmnkfilebaaGreatRows
import Derived.WideKeyArgs
import Derived.OpenShut
import Derived.WalkKit
import Derived.ProofKit
set_option linter.all false
namespace Go.XL
open Go.Proofs
set_option maxRecDepth 100000
set_option maxHeartbeats 8000000
theorem zwe (junk : List V) (v : Int) : ∀ (d : List Rank) (i : Nat) (h : i < d.length), (rkC d junk).set (i * 5 + 1) (I v) = rkC (d.set i { d[i] with place := v }) junk
 | a :: r, 0, h => by simp [rkC, Rank.cells]
 | a :: r, i + 1, h => by
  have h2 : ∀ r : List Rank, rkC (a :: r) junk = a.cells ++ rkC r junk := fun y => by simp [rkC]
  rw [h2, List.set_append_right _ _ (by rw [Rank.len]; omega), show (i + 1) * 5 + 1 - a.cells.length = i * 5 + 1 by rw [Rank.len]; omega, zwe junk v r i (by simpa using h)]
  simp [h2]
@[go_sem] theorem GR.cell_nil : GR.cell ⟨[], none⟩ = .v (.slice none 0 0) := rfl
@[go_sem] theorem stripO_gr (E : VEnv) (t : Nat) (g : GR) : zmp E t (some g.cell) = E := by obtain ⟨l, blk⟩ := g; cases blk <;> rfl
def yoz (n : Nat) : Prop := ∀ (b cap : Nat) (d : Array Rank) (junk : List V), d.size = n → n ≤ cap → (d.toList.map (·.id)).Nodup → DC Tryz.prog 79 [rkI b n cap] (rkS b d.toList junk) (fun u S' => ∃ e : Array Rank, Sort.PermIn 0 n d e ∧ Sort.SortedIn zdh 0 n e ∧ S' = rkS b e.toList junk)
theorem zsd {q s : List Rank} {k : Nat} (hk : k < s.length) (hq : q.length = s.length) {x : Rank} (hx : q[k]? = some x) : (q.take k ++ s.drop k).set k x = q.take (k + 1) ++ s.drop (k + 1) := by
 have hl : (q.take k).length = k := by rw [List.length_take]; omega
 obtain ⟨h1, rfl⟩ := List.getElem?_eq_some_iff.1 hx
 rw [List.set_append_right _ _ (by omega), hl, Nat.sub_self, List.drop_eq_getElem_cons hk, List.set_cons_zero, List.take_succ_eq_append_getElem h1, List.append_assoc, List.singleton_append]
theorem ynq {q s : List Rank} {k : Nat} (hk : k < s.length) (hq : q.length = s.length) (h : k < (q.take k ++ s.drop k).length) : (q.take k ++ s.drop k)[k] = s[k] := by
 have hl : (q.take k).length = k := by rw [List.length_take]; omega
 rw [List.getElem_append_right (by omega), List.getElem_drop]
 congr 1; omega
theorem ykb {q s : List Rank} {k : Nat} (hk : k < s.length) (hq : q.length = s.length) (k0 : k ≠ 0) {x : Rank} (h : k - 1 < ((q.take k ++ s.drop k).set k x).length) : ((q.take k ++ s.drop k).set k x)[k - 1] = q[k - 1]'(by omega) := by
 have hl : (q.take k).length = k := by rw [List.length_take]; omega
 rw [List.getElem_set_ne (by omega), List.getElem_append_left (by omega), List.getElem_take]
theorem ybe {s q : List Rank} (hp : ziu default 0 s = q) (h : 0 < s.length) : q[0]? = some { s[0] with place := 0 } := by
 have := zre s default 0 0 h
 rw [hp] at this
 rw [this]; simp
theorem ybf {s q : List Rank} (hp : ziu default 0 s = q) {k : Nat} (h : k < s.length) (k0 : k ≠ 0) (h2 : k - 1 < q.length) : q[k]? = some { s[k] with place := if cmpK q[k - 1] s[k] = 0 then q[k - 1].place else (k : Int) } := by
 have := zre s default 0 k h
 rw [hp] at this
 rw [this]
 simp only [if_neg k0, List.getD_eq_getElem?_getD, List.getElem?_eq_getElem h2, Option.getD_some, Nat.zero_add]
 congr 2
 simp [show 0 < k by omega]
theorem yhx {q : List Rank} {j : List V} {n : Nat} (h : q.length = n) : chunk 5 n ((rkC q j).map V.copy) = q.map Rank.cells := by
 have e : (rkC q j).map V.copy = (q.map Rank.cells).flatten ++ j.map V.copy := by
  rw [rkC, List.map_append, List.map_flatten, List.map_map]
  congr 2
 have k := zgw (sz := 5) (j := j.map V.copy) (l := q.map Rank.cells) (fun c hc => by obtain ⟨a, -, rfl⟩ := List.mem_map.1 hc; rfl)
 rw [List.length_map, h] at k
 rw [e, k]
theorem yX49 {p : Prop} (h : p := by (simp (disch := omega) only [go_sem, dopV, yV0, ↓reduceIte, Nat.reduceEqDiff, Nat.reduceLT, Nat.reduceLeDiff, Nat.reduceAdd, Nat.reduceMul, Nat.reduceSub, Int.reduceToNat, Int.reduceLT, Int.reduceLE, Int.reduceEq, IntWalk.toNatUp, IntWalk.iteOmega, IntWalk.i64_in, V.flat, V.one, *, GR.cell_copy]; try exact rfl)) : p := h
theorem zxw (c : Club) (hs : c.Small) (hn : c.members.length ≤ 1000) (hso : yoz c.members.length) (hc : zdd c = 0) (h0 : 0 < c.members.length) : PC Tryz.prog 29 [c.val] (tupV [ytq (zjf c), I 0]) := by
 have hck := zqj c hs
 rw [hc] at hck
 generalize hR : zjf c = R
 have HR := Box.mk hR
 clear hR
 refine DC.of_run Tryz.func29 rfl Tryz.ntmps29 Tryz.results29 (by simp) (fun _ => ?_); simp only [zaq, zau, go_sem, Nat.zero_add, Nat.reduceAdd]
 repeat' (first | (with_reducible first | refine zac yU yU yE ?_ | refine zab ?_ | refine DS.seq ?_ | refine zaa ?_ | (refine zbd yE ?_; refine zdk ?_) | refine DS.block ?_ | refine DS.skip ?_) | refine zcf inferInstance (hck) yR yT ?_ | (refine zdb (t := 1) yU yE yU ?_; simp only [zbu, zcx, zbt, zcj, zbq, zbm, zbx, zbp, zcr, zcv, zcd, zcu, zch, zcg]) | fail)
 refine zcq [1, 16, 17] yN (fun (y : Nat × GR) => [(5, y.2.cell), (18, I y.1)]) (fun (y : Nat × GR) => SR 57 y.2) (fun (y : Nat × GR) => y.1 ≤ c.members.length ∧ y.2.l = ((c.members.take y.1).map fun m => (zjo c m).cells) ∧ y.2.Ok 57 5 (SR 57 y.2)) (fun (y : Nat × GR) => c.members.length - y.1) (0, ⟨[], none⟩) yS (fun b o e => by exact e) ⟨Nat.zero_le _, rfl, rfl⟩ (fun y B hI hB => ?_); try dsimp only at hI hB; simp only [zas, zaw]
 obtain ⟨i, g⟩ := y
 dsimp only at hI hB ⊢
 obtain ⟨g1, g2, g3⟩ := hI
 by_cases hi : (i : Int) < (c.members.length : Int)
 ·have hi' : i < c.members.length := by omega
  have hrk := ypo c hs hc c.members[i]
  repeat' (first | (with_reducible refine zeg (t := 22) yU yO yX21 ?_; simp only [zao, zaf, zah, Nat.reduceEqDiff, ↓reduceIte, zak, zal, zar, zaj, zai, zap, zam]) | (with_reducible first | refine zac yU yU yX21 ?_ | refine zab ?_ | refine DS.seq ?_ | refine zaa ?_ | (refine zbd yX21 ?_; refine zde ?_) | refine DS.block ?_ | refine DS.skip ?_) | (refine zfg yU yX21 yX21 ?_; simp only [go_sem, Nat.zero_add, Nat.reduceAdd]) | (refine zia (t := 7) yU yX21 yU (fun _ => yX21) yX21 yU (by exact ⟨by with_unfolding_all rfl, by with_unfolding_all decide⟩) (fun _ => by simp only [go_sem, Nat.reduceEqDiff, ↓reduceIte]) ?_; simp only [go_sem]) | refine zcf inferInstance (hrk) yR yX49 ?_ | fail)
  have hgl : g.l.length = i := by rw [g2, List.length_map, List.length_take]; omega
  refine zea rfl rfl yR (zij (g := g) (ml := [(zjo c c.members[i]).cells]) rfl yH yH yR yR (by decide) yH g3 yH yH (by exact Nat.zero_lt_succ _) (by intro x hx; obtain rfl := List.mem_singleton.1 hx; rfl) ⟨by rw [hgl, List.length_singleton]; omega, by decide⟩) (fun u2 E' S4 hu2 => ?_)
  obtain ⟨rfl, b', cap', junk', rfl, m1, m2, m3⟩ := hu2
  have hml : g.l ++ [(zjo c c.members[i]).cells].map (fun x => List.map V.copy x) = (c.members.take (i + 1)).map fun m => (zjo c m).cells := by
   rw [g2, List.take_succ_eq_append_getElem hi', List.map_append]; rfl
  rw [hml] at m1 ⊢
  generalize hL : ((c.members.take (i + 1)).map fun m => (zjo c m).cells) = L at m1 ⊢
  refine zer (S' := SR 57 ⟨L, some (b', cap', junk')⟩) (fun d o e => ?_) ?_
  ·simp only [zae, zca, SR] at e
   by_cases c3 : b' = d
   ·subst c3; rw [if_pos rfl] at e; rw [m1.look]; exact e
   ·rw [if_neg c3] at e; cases e
  have m1' : GR.Ok 57 5 (SR 57 ⟨L, some (b', cap', junk')⟩) ⟨L, some (b', cap', junk')⟩ := ⟨by simp [SR, zad], m1.len, m1.le, m1.cap, m1.jf, m1.lf, m1.ll⟩
  have H := Box.mk m1'
  clear m1 m1' m2 m3 g3 hml
  generalize hG : (⟨L, some (b', cap', junk')⟩ : GR) = G at *
  have hGl : G.l = L := by rw [← hG]
  clear hG
  simp only [zcz]
  repeat' (first | (with_reducible refine zeg (t := 5) yU yO yE ?_; simp only [zao, zaf, zah, Nat.reduceEqDiff, ↓reduceIte, zak, zal, zar, zaj, zai, zap, zam]) | (with_reducible first | refine zac yU yU yE ?_ | refine zab ?_ | refine zaa ?_ | refine DS.blk ?_) | fail)
  refine DS.back (hB (i + 1, G) _ _ (by dsimp only; omega) ⟨by dsimp only; omega, by dsimp only; rw [hGl, hL], H.out⟩ yS yS (fun d o e => by exact e))
 ·have hi2 : i = c.members.length := by omega
  subst hi2
  rw [List.take_length] at g2
  clear hB hi g1
  obtain ⟨l, blk⟩ := g
  dsimp only at g2
  cases blk with
  | none =>
   have h : l = [] := g3
   rw [h] at g2
   have := congrArg List.length g2
   simp at this; omega
  | some z =>
   obtain ⟨b, cap, j⟩ := z
   generalize hD : (c.members.map (zjo c)).toArray = D at *
   have hDl : D.toList = c.members.map (zjo c) := by rw [← hD]
   have hDn : D.size = c.members.length := by rw [← hD]; simp
   have hl : l = D.toList.map Rank.cells := by rw [hDl, List.map_map]; exact g2
   have eS : SR 57 ⟨l, some (b, cap, j)⟩ = rkS b D.toList j := by simp only [SR, rkS, rkC, hl]
   have hln : l.length = c.members.length := by rw [hl, List.length_map, Array.length_toList, hDn]
   have hcap : c.members.length ≤ cap := by have := g3.le; omega
   have hcm : cap ≤ maxLen := g3.cap
   rw [eS, GR.cell_some, hln]
   clear eS g3 g2
   obtain ⟨n, hn'⟩ : ∃ n, c.members.length = n := ⟨_, rfl⟩
   have hn'' := hn'
   have hsort := hso b cap D j (by omega) (by omega) (by rw [hDl, List.map_map]; exact zuf hc)
   simp only [hn'] at hn h0 hDn hln hcap hsort ⊢
   repeat' (first | (with_reducible first | refine zac yU yU yE ?_ | refine zab ?_ | refine DS.seq ?_ | refine zaa ?_ | (refine zbd yE ?_; refine zel (fun _ => ?_) (fun _ => ?_)) | refine DS.block ?_ | refine DS.exit yU ?_ | refine DS.skip ?_) | fail)
   ·exfalso; omega
   refine yon yR yU (by intro ms h; cases h) yH ?_
   repeat' (first | (with_reducible first | refine zac yU yU yE ?_ | refine zab ?_ | refine DS.seq ?_ | refine zaa ?_) | fail)
   refine zdv inferInstance hsort yR yH (fun u S' hu => ?_)
   obtain ⟨e, he1, he2, rfl⟩ := hu
   repeat' (first | (with_reducible first | refine zac yU yU yE ?_ | refine zab ?_ | refine DS.seq ?_ | refine zaa ?_) | fail)
   have hss : e.toList = yba (c.members.map (zjo c)) := ypk (by rw [List.map_map]; exact zuf hc) (by rw [List.length_map, hn'']) (by rw [hD]; exact he1) he2
   have hsl : e.toList.length = n := by rw [hss, zxy, List.length_map, hn'']
   generalize hs' : e.toList = s at *
   clear he1 he2
   have HSS := Box.mk hss
   clear hss
   have hln2 := yiv b cap s j
   rw [hsl] at hln2
   refine DS.invoke inferInstance (zzm _ _ _) yH hln2 yR yH (fun u S' hu => ?_)
   obtain ⟨rfl, rfl⟩ := hu
   repeat' (first | (with_reducible first | refine zac yU yU yE ?_ | refine zab ?_ | refine DS.block ?_) | fail)
   refine zcq [5, 34] yN (fun (k : Nat) => [(35, I k)]) (fun (k : Nat) => rkS b ((ziu default 0 s).take k ++ s.drop k) j) (fun (k : Nat) => k ≤ n) (fun (k : Nat) => n - k) 0 yS (fun b o e => by exact e) (Nat.zero_le n) (fun k B hI hB => ?_); try dsimp only at hI hB; simp only [zas, zaw]
   generalize hp : ziu default 0 s = q at *
   have hql : q.length = n := by rw [← hp, zpe, hsl]
   by_cases hk : (k : Int) < (n : Int)
   ·have hk' : k < n := by omega
    have hL : (q.take k ++ s.drop k).length = n := by rw [List.length_append, List.length_take, List.length_drop]; omega
    have h1 := zld j (q.take k ++ s.drop k) k (by omega)
    have hget : (q.take k ++ s.drop k)[k]'(by omega) = s[k]'(by omega) := ynq (by omega) (by omega) _
    have h3 := ycz (q.take k ++ s.drop k) j
    have hst := zwe j k (q.take k ++ s.drop k) k (by omega)
    rw [hget] at h1 hst
    rw [hL] at h3
    have hM : ((q.take k ++ s.drop k).set k { s[k]'(by omega) with place := (k : Int) }).length = n := by rw [List.length_set]; exact hL
    simp only [rkS]
    simp only [Rank.cells_eq, List.cons_append, List.nil_append] at h1
    have h4 := zld j ((q.take k ++ s.drop k).set k { s[k]'(by omega) with place := (k : Int) }) k (by omega)
    rw [← hst, List.getElem_set_self] at h4
    simp only [Rank.cells_eq, List.cons_append, List.nil_append] at h4
    by_cases k0 : k = 0
    ·generalize rkC (q.take k ++ s.drop k) j = C at *
     repeat' (first | (with_reducible refine zeg (t := 2) yU yO yE ?_; simp only [zao, zaf, zah, Nat.reduceEqDiff, ↓reduceIte, zak, zal, zar, zaj, zai, zap, zam]) | (with_reducible refine zeg (t := 69) yU yO yE ?_; simp only [zao, zaf, zah, Nat.reduceEqDiff, ↓reduceIte, zak, zal, zar, zaj, zai, zap, zam]) | (with_reducible first | refine zac yU yU yE ?_ | refine zab ?_ | refine DS.seq ?_ | refine zaa ?_ | (refine zbd yE ?_; first | refine zel (fun _ => ?_) (fun _ => ?_) | refine zdk ?_) | (refine zdz yU yE ?_; refine zfo ?_) | refine DS.blk ?_ | refine DS.block ?_ | refine DS.exit yU ?_ | refine DS.skip ?_) | (refine DS.store yR yE yE yE yE yU (by exact ⟨by with_unfolding_all rfl, by (try simp only [List.length_map, List.length_append, List.length_set, List.length_replicate, List.length_cons, List.length_nil]); omega⟩) ?_; simp only [zbo, zav, zaz, zbz, zbl, zbj, zbk]; try simp only [zao, zaf, zah, Nat.reduceEqDiff, ↓reduceIte, zak, zal, zar, zaj, zai, zap, zam]) | refine zce (id := 16) [0, 1, 2, 3, 4, 5, 6, 7, 8, 9, 10, 11] 12 (by kernel_rfl) zdq (by simp only [zbb, zbe, zbf, zbg, zba]; exact rfl) (by simp only [zax, zay, List.drop_nil]; exact rfl) ?_ | (with_reducible first | refine zbw yU yU yU yE ?_ | (refine zni yU yE ?_; refine zmt ?_) | refine zdc ?_) | fail)
     all_goals first | (exfalso; omega) | skip
     simp only [setS, ↓reduceIte]
     subst k0
     have hst2 : C.set 1 (I 0) = rkC (q.take (0 + 1) ++ s.drop (0 + 1)) j := by
      rw [← zsd (by omega) (by omega) (ybe hp (by omega))]
      exact hst
     rw [hst2]
     refine DS.back (hB (0 + 1) _ _ (by omega) (by omega) ⟨rfl, trivial⟩ yS (fun d o e => by exact e))
    ·have h5 := zld j ((q.take k ++ s.drop k).set k { s[k]'(by omega) with place := (k : Int) }) (k - 1) (by omega)
     have hg5 : ((q.take k ++ s.drop k).set k { s[k]'(by omega) with place := (k : Int) })[k - 1]'(by omega) = q[k - 1]'(by omega) := ykb (by omega) (by omega) k0 _
     rw [← hst, hg5] at h5
     simp only [Rank.cells_eq, List.cons_append, List.nil_append] at h5
     have hcp := zsm (q[k - 1]'(by omega)) { s[k]'(by omega) with place := (k : Int) }
     have ht : ((k : Int) - 1).toNat = k - 1 := by omega
     generalize rkC (q.take k ++ s.drop k) j = C at *
     have h6 : (C.set (k * 5 + 1) (I k)).length = n * 5 + j.length := by rw [List.length_set]; exact h3
     repeat' (first | (with_reducible first | refine zac yU yU yE ?_ | refine zab ?_ | refine DS.seq ?_ | refine zaa ?_ | (refine zbd yE ?_; first | refine zde ?_ | refine zdk ?_) | (refine zdz yU yE ?_; refine zfo ?_) | refine DS.blk ?_ | refine DS.block ?_ | refine DS.skip ?_) | (refine DS.store yR yE yE yE yE yU (by exact ⟨by with_unfolding_all rfl, by (try simp only [List.length_map, List.length_append, List.length_set, List.length_replicate, List.length_cons, List.length_nil]); omega⟩) ?_; simp only [zbo, zav, zaz, zbz, zbl, zbj, zbk]; try simp only [zao, zaf, zah, Nat.reduceEqDiff, ↓reduceIte, zak, zal, zar, zaj, zai, zap, zam]) | refine zce (id := 16) [0, 1, 2, 3, 4, 5, 6, 7, 8, 9, 10, 11] 12 (by kernel_rfl) zdq (by simp only [zbb, zbe, zbf, zbg, zba]; exact rfl) (by simp only [zax, zay, List.drop_nil]; exact rfl) ?_ | (with_reducible first | refine zbw yU yU yU yE ?_ | (refine zni yU yE ?_; first | refine zvl (fun _ => ?_) (fun _ => ?_) | refine DGG.run ?_ | refine zmt ?_) | refine zdc ?_) | fail)
     all_goals first | (exfalso; omega) | skip
     simp only [setS, ↓reduceIte]
     generalize hC2 : C.set (k * 5 + 1) (I k) = C2 at *
     have HST := Box.mk hst
     clear hst hC2
     have hgv : C2[(k - 1) * 5 + 1]'(by omega) = I (q[k - 1]'(by omega)).place := by
      have := congrArg (fun l => l[1]?) h5
      simpa [List.getElem?_drop, List.getElem?_eq_getElem (show (k - 1) * 5 + 1 < C2.length by omega)] using this
     have hqk := ybf hp (by omega) k0 (by omega)
     have HQK := Box.mk hqk
     clear hqk
     repeat' (first | (with_reducible first | refine zac yU yU yE ?_ | refine zab ?_ | refine zaa ?_ | (refine zbd yE ?_; refine zel (fun _ => ?_) (fun _ => ?_)) | (refine zdz yU yE ?_; refine GG.run ?_) | refine DS.blk ?_ | refine DS.skip ?_) | refine zcf inferInstance (hcp) yR yT ?_ | (refine DS.store yR yE yE yE yE yU (by exact ⟨by with_unfolding_all rfl, by (try simp only [List.length_map, List.length_append, List.length_set, List.length_replicate, List.length_cons, List.length_nil]); omega⟩) ?_; simp only [zbo, zav, zaz, zbz, zbl, zbj, zbk]; try simp only [zao, zaf, zah, Nat.reduceEqDiff, ↓reduceIte, zak, zal, zar, zaj, zai, zap, zam]) | (with_reducible first | refine zbw yU yU yU yE ?_ | (refine zni yU yE ?_; refine DGG.run ?_) | refine zdc ?_) | fail)
     ·simp only [setS, ↓reduceIte]
      rename_i e1
      have h7 := zwe j (q[k - 1]'(by omega)).place ((q.take k ++ s.drop k).set k { s[k]'(by omega) with place := (k : Int) }) k (by omega)
      rw [← HST.out, List.getElem_set_self, List.set_set] at h7
      rw [h7, zsd (by omega) (by omega) (HQK.out.trans (by rw [if_pos (show cmpK (q[k - 1]'(by omega)) (s[k]'(by omega)) = 0 from (zsp rfl rfl rfl rfl).trans e1)]))]
      refine DS.back (hB (k + 1) _ _ (by omega) (by omega) yS yS (fun d o e => by exact e))
     ·rename_i e1
      rw [HST.out, zsd (by omega) (by omega) (HQK.out.trans (by rw [if_neg (show ¬ cmpK (q[k - 1]'(by omega)) (s[k]'(by omega)) = 0 from fun h => e1 ((zsp rfl rfl rfl rfl).trans h))]))]
      refine DS.back (hB (k + 1) _ _ (by omega) (by omega) yS yS (fun d o e => by exact e))
   ·have hkn : k = n := by omega
    clear hB hk
    have e2 : List.take k q ++ List.drop k s = q := by rw [List.take_of_length_le (by omega), List.drop_eq_nil_of_le (by omega), List.append_nil]
    rw [e2]
    repeat' (first | (with_reducible refine zeg (t := 2) yU yO yE ?_; simp only [zao, zaf, zah, Nat.reduceEqDiff, ↓reduceIte, zak, zal, zar, zaj, zai, zap, zam]) | (with_reducible refine zeg (t := 69) yU yO yE ?_; simp only [zao, zaf, zah, Nat.reduceEqDiff, ↓reduceIte, zak, zal, zar, zaj, zai, zap, zam]) | (with_reducible first | refine zac yU yU yE ?_ | refine zab ?_ | refine DS.seq ?_ | refine zaa ?_ | (refine zbd yE ?_; refine zdk ?_) | refine DS.exit yU ?_) | fail)
    refine zjb (b := b) (t := 2) (sz := 5) (len := n) (cap := cap) (l := rkC q j) (T := 57) yR (by simp only [zae, ↓reduceIte]) (by rw [ycz]; omega) ⟨hcap, hcm⟩ ?_
    rw [yhx hql]
    refine zbi [] yG trivial ?_
    rw [← HR.out, zjf, ← HSS.out, hp]
    rfl
end Go.XL
namespace Go.XL
section
variable {P : Program} {n : Nat} {r : Rr} {Q : VEnv → Sto → Prop} {k : List Fr} {E : VEnv} {S : Sto}
theorem ylq {x : Code} (F : VEnv) (T : Sto) (h1 : DS P n r Q (.code x :: .back (fun E' S' => subV F E' ∧ subS T S') :: k) E S) (h2 : DS P n r Q k F T) : DS P n r Q (.code x :: k) E S := fun K W a w hs hw => by
 refine wpIn_mono (h1 K W a w hs hw) fun e a2 w2 t => ?_
 cases e with
 | normal => obtain ⟨E3, S3, q1, q2, q3, q4⟩ := t; exact ycd q3 q4 h2 K W a2 w2 q1 q2
 | _ => exact t
theorem zox {α : Type} {x : Code} {j : Nat} (F : α → VEnv) (T : α → Sto) (I : α → Prop) (h1 : DS P n r Q (.code x :: .blk j :: .back (fun E' S' => ∃ y, I y ∧ subV (F y) E' ∧ subS (T y) S') :: k) E S) (h2 : ∀ y, I y → DS P n r Q k (F y) (T y)) :
  DS P n r Q (.code x :: .blk j :: k) E S := fun K W a w hs hw => by
 refine wpIn_mono (h1 K W a w hs hw) fun e a2 w2 t => ?_
 have fin : (∃ E3 S3, StA n r K E3 S3 a2 w2 ∧ Same W w2 ∧ ∃ y, I y ∧ subV (F y) E3 ∧ subS (T y) S3) → ksem P n r K W Q k .normal a2 w2 := fun ⟨E3, S3, q1, q2, y, hy, q3, q4⟩ => ycd q3 q4 (h2 y hy) K W a2 w2 q1 q2
 cases e with
 | normal => exact fin t
 | exit id =>
  by_cases h : id = j
  ·subst h
   simp only [ksem, ↓reduceIte] at t ⊢
   exact fin t
  ·simp only [ksem, h, ↓reduceIte] at t ⊢
   exact t
 | _ => exact t
end
end Go.XL
namespace Go.XL
open Go.Proofs
set_option maxRecDepth 100000
set_option maxHeartbeats 8000000
section
variable {P : Program} {n : Nat} {r : Rr} {Q : VEnv → Sto → Prop} {k : List Fr} {E : VEnv} {S : Sto} {ty : TypeId} {pos : String} {af : Array Edge} {ts : Array TypeId}
theorem ygy {t : Nat} {rx : Operand} {T : TypeId} {rv : Value} {name : String} {g : FuncId} {args : List V} {xs : Array Operand} {fn : Func} {ops l : List Oper} (S1 S2 : Sto) {R : V → Sto → Prop} (hf : FnOk P g fn) (hm : ycc P T rv name g) (hr : evV E rx = some (.v (.iface T rv))) (hc : DC P g (.v rv :: args) S1 R) (hd : decide (t < n) = true)
  (he : (evsV (evV E) xs.toList).map (·.map V.peek) = some args) (h1 : ∀ b o, zad S1 b = some o → zad S b = some o) (h2 : ∀ b o, zad S2 b = some o → zad S b = some o ∧ zad S1 b = none)
  (q : ∀ u S0, R u S0 → (∀ b o, zad S0 b = some o → zad S2 b = none) → DS P n r Q (.ops ops l :: k) ((t, u) :: E) (S0 ++ S2)) :
  DS P n r Q (.ops ops (⟨some t, .call { callee := .invoke rx name, args := xs, argTypes := ts }, ty, pos, af, none⟩ :: l) :: k) E S := by
 rw [Option.map_eq_some_iff] at he
 obtain ⟨ws, e1, e2⟩ := he
 refine zea rfl rfl hd (OpS.invoke hf hm hr e1 (S1 := S1) (S2 := S2) (R := R) (by simpa [e2] using hc _) h1 h2) fun v E' S' ⟨eE, S0, eS, hR, hdis⟩ => ?_
 subst eE; subst eS
 exact q v S0 hR hdis
end
def ApartK (n : Nat) (D : Array Rank) : Prop := ∀ p q, p < n → q < n → p ≠ q → zdh D[p]! D[q]! = true ∨ zdh D[q]! D[p]! = true
theorem yof {D : Array Rank} {n : Nat} (hD : D.size = n) (h : (D.toList.map (·.id)).Nodup) : ApartK n D := by
 intro p q hp hq hpq
 rcases zob D[p]! D[q]! with e | e | e
 ·exact .inl e
 ·exact .inr e
 ·exfalso
  have hp' : p < D.toList.length := by simpa [hD] using hp
  have hq' : q < D.toList.length := by simpa [hD] using hq
  have h3 := e.2.2
  rw [← zvh hp', ← zvh hq'] at h3
  have h4 := List.pairwise_iff_getElem.1 h
  rcases Nat.lt_or_gt_of_ne hpq with h5 | h5
  ·have := h4 p q (by simpa using hp') (by simpa using hq') h5
   rw [List.getElem_map, List.getElem_map] at this
   exact this h3
  ·have := h4 q p (by simpa using hq') (by simpa using hp') h5
   rw [List.getElem_map, List.getElem_map] at this
   exact this h3.symm
theorem ApartK.perm {n : Nat} {D D' : Array Rank} (hD : D.size = n) (hn : (D.toList.map (·.id)).Nodup) {a e : Nat} (he : a ≤ e ∧ e ≤ n) (h : Sort.PermIn a e D D') : (D'.toList.map (·.id)).Nodup := by
 have h2 := Sort.permIn_mono D D' a e 0 n (Nat.zero_le _) he.2 (by omega) h
 obtain ⟨p1, -, p3⟩ := h2
 have e1 : D.extract 0 n = D := by rw [← hD]; exact Array.extract_size
 have e2 : D'.extract 0 n = D' := by rw [← hD, ← p1]; exact Array.extract_size
 rw [e1, e2] at p3
 exact (p3.map (·.id)).nodup_iff.2 hn
abbrev swO (bw : Nat) (w : Nat) : Nat × Ob := (bw, .cells [I w] 3)
theorem zrg (b cap n bw w : Nat) (D : Array Rank) (junk : List V) (hD : D.size = n) (hA : ApartK n D) (hbw : ¬ b = bw) {x y : Nat} (hx : x < n) (hy : y < n) (hxy : x ≠ y) (hw : w ≤ 1000) (hn : n ≤ 1000000 ∧ n ≤ cap) :
  DC Tryz.prog 142 [rkI b n cap, I x, I y, .v (.pointer (some ⟨bw, 0, none⟩))] (rkS b D.toList junk ++ [swO bw w]) (fun u S' => ∃ p q w' : Nat, u = .tup [I p, I q] ∧ (p = x ∧ q = y ∨ p = y ∧ q = x) ∧ zdh D[p]! D[q]! = true ∧ w' ≤ w + 1 ∧ S' = rkS b D.toList junk ++ [swO bw w']) := by
 have hlt := zjg b cap n D junk hD (i := y) (j := x) hy hx hn
 have hbw' : ¬ bw = b := fun e => hbw e.symm
 refine DC.of_run Tryz.func142 rfl Tryz.ntmps142 Tryz.results142 (by simp) (fun _ => ?_); simp only [zaq, zau, go_sem, Nat.zero_add, Nat.reduceAdd]
 repeat' (first | (with_reducible first | refine zac yU yU yE ?_ | refine zab ?_ | refine DS.seq ?_ | refine zaa ?_) | fail)
 refine ygy (rkS b D.toList junk) [swO bw w] inferInstance (zgn _ _ _) yH hlt yR yH (fun d o e => by simp only [List.cons_append, List.nil_append, zae, zca] at e ⊢; split at e <;> simp_all) (fun d o e => by simp only [List.cons_append, List.nil_append, zae, zca] at e ⊢; split at e <;> simp_all) (fun u S' hu _ => ?_)
 obtain ⟨rfl, rfl⟩ := hu
 simp only [List.cons_append, List.nil_append]
 cases hb : zdh D[y]! D[x]! with
 | true =>
  repeat' (first | (with_reducible first | refine zac yU yU yE ?_ | refine zab ?_ | refine DS.seq ?_ | refine zaa ?_ | (refine zbd yE ?_; refine zde ?_)) | (refine DS.store yR yE yE yE yE yU (by exact ⟨by with_unfolding_all rfl, by (try simp only [List.length_map, List.length_append, List.length_set, List.length_replicate, List.length_cons, List.length_nil]); omega⟩) ?_; simp only [zbo, zav, zaz, zbz, zbl, zbj, zbk]; try simp only [zao, zaf, zah, Nat.reduceEqDiff, ↓reduceIte, zak, zal, zar, zaj, zai, zap, zam]) | fail)
  refine zck yG ⟨y, x, w + 1, rfl, .inr ⟨rfl, rfl⟩, hb, Nat.le_refl _, ?_⟩
  simp only [setS, hbw, hbw', ↓reduceIte, List.cons_append, List.nil_append, zby]
  first | rfl
 | false =>
  repeat' (first | (with_reducible first | refine zac yU yU yE ?_ | refine zab ?_ | refine DS.seq ?_ | refine zaa ?_ | (refine zbd yE ?_; refine zdk ?_) | refine DS.skip ?_) | fail)
  have h2 := (hA x y hx hy hxy).resolve_right (by rw [hb]; decide)
  refine zck yG ⟨x, y, w, rfl, .inl ⟨rfl, rfl⟩, h2, Nat.le_succ _, rfl⟩
theorem yir (b cap n bw w : Nat) (D : Array Rank) (junk : List V) (hD : D.size = n) (hA : ApartK n D) (hbw : ¬ b = bw) {x y z : Nat} (hx : x < n) (hy : y < n) (hz : z < n) (hxy : x ≠ y) (hyz : y ≠ z) (hxz : x ≠ z) (hw : w ≤ 900) (hn : n ≤ 1000000 ∧ n ≤ cap) :
  DC Tryz.prog 137 [rkI b n cap, I x, I y, I z, .v (.pointer (some ⟨bw, 0, none⟩))] (rkS b D.toList junk ++ [swO bw w]) (fun u S' => ∃ m i w' : Nat, u = I m ∧ (m = x ∨ m = y ∨ m = z) ∧ (i = x ∨ i = y ∨ i = z) ∧ zdh D[i]! D[m]! = true ∧ w' ≤ w + 3 ∧ S' = rkS b D.toList junk ++ [swO bw w']) := by
 have h1 := zrg b cap n bw w D junk hD hA hbw hx hy hxy (by omega) hn
 refine DC.of_run Tryz.func137 rfl Tryz.ntmps137 Tryz.results137 (by simp) (fun _ => ?_); simp only [zaq, zau, go_sem, Nat.zero_add, Nat.reduceAdd]
 repeat' (first | (with_reducible first | refine zac yU yU yE ?_ | refine zab ?_ | refine DS.seq ?_ | refine zaa ?_) | fail)
 refine zdv inferInstance h1 yR yH (fun u S' hu => ?_)
 obtain ⟨a1, b1, w1, rfl, c1, l1, m1, rfl⟩ := hu
 have d1 : a1 < n ∧ b1 < n ∧ a1 ≠ b1 ∧ b1 ≠ z ∧ a1 ≠ z := by omega
 have h2 := zrg b cap n bw w1 D junk hD hA hbw (x := b1) (y := z) d1.2.1 hz d1.2.2.2.1 (by omega) hn
 repeat' (first | (with_reducible first | refine zac yU yU yE ?_ | refine zab ?_ | refine DS.seq ?_ | refine zaa ?_) | fail)
 refine zdv inferInstance h2 yR yH (fun u S' hu => ?_)
 obtain ⟨b2, c2, w2, rfl, k2, l2, m2, rfl⟩ := hu
 have d2 : b2 < n ∧ a1 ≠ b2 := by omega
 have h3 := zrg b cap n bw w2 D junk hD hA hbw (x := a1) (y := b2) d1.1 d2.1 d2.2 (by omega) hn
 repeat' (first | (with_reducible first | refine zac yU yU yE ?_ | refine zab ?_ | refine DS.seq ?_ | refine zaa ?_) | fail)
 refine zdv inferInstance h3 yR yH (fun u S' hu => ?_)
 obtain ⟨a3, b3, w3, rfl, k3, l3, m3, rfl⟩ := hu
 repeat' (first | (with_reducible first | refine zac yU yU yE ?_ | refine zab ?_ | refine DS.seq ?_ | refine zaa ?_) | fail)
 exact zck yG ⟨b3, a3, w3, rfl, by omega, by omega, l3, by omega, rfl⟩
theorem ztr (b cap n : Nat) (D : Array Rank) (junk : List V) (hD : D.size = n) (hA : ApartK n D) {a e : Nat} (hae : a + 12 < e ∧ e ≤ n ∧ e - a < 50) (hn : n ≤ 1000000 ∧ n ≤ cap) :
  DC Tryz.prog 122 [rkI b n cap, I a, I e] (rkS b D.toList junk) (fun u S' => ∃ m i h : Nat, u = .tup [I m, I h] ∧ (a ≤ m ∧ m < e) ∧ (a ≤ i ∧ i < e) ∧ zdh D[i]! D[m]! = true ∧ h ≤ 1 ∧ S' = rkS b D.toList junk) := by
 refine DC.of_run Tryz.func122 rfl Tryz.ntmps122 Tryz.results122 (by simp) (fun _ => ?_); simp only [zaq, zau, go_sem, Nat.zero_add, Nat.reduceAdd]
 repeat' (first | (with_reducible first | refine zac yU yU yE ?_ | refine zab ?_ | refine DS.seq ?_ | refine zaa ?_) | fail)
 refine zeh yR yU yU (fun bw hw => ?_)
 have hbw : ¬ b = bw := fun h => by simp only [zae, h, ↓reduceIte] at hw; cases hw
 have hbw' : ¬ bw = b := fun h => hbw h.symm
 clear hw
 have e0 : (Value.int .i64 0).cells.toList.map V.v = [I 0] := rfl
 rw [e0]
 clear e0
 refine zer (S' := rkS b D.toList junk ++ [swO bw 0]) (fun d o e => ?_) ?_
 ·simp only [List.cons_append, List.nil_append, zae, zca] at e ⊢
  by_cases h1 : b = d
  ·subst h1; rw [if_pos rfl] at e; rw [if_neg hbw']; simpa using e
  ·rw [if_neg h1] at e
   by_cases h2 : bw = d
   ·rw [if_pos h2] at e ⊢; exact e
   ·rw [if_neg h2] at e; cases e
 have q1 : ((e : Int) - a).tdiv 4 = ((e - a) / 4 : Nat) := by
  rw [Int.tdiv_eq_ediv_of_nonneg (by omega)]; omega
 have q2 : 3 ≤ (e - a) / 4 ∧ (e - a) / 4 * 3 < e - a := by omega
 obtain ⟨g, hg⟩ : ∃ g : Nat, (e - a) / 4 = g := ⟨_, rfl⟩
 rw [hg] at q1 q2
 clear hg
 have hmd := yir b cap n bw 0 D junk hD hA hbw (x := a + g) (y := a + g * 2) (z := a + g * 3) (by omega) (by omega) (by omega) (by omega) (by omega) (by omega) (by omega) hn
 rw [show ((a + g : Nat) : Int) = (a : Int) + (g : Int) * 1 by omega, show ((a + g * 2 : Nat) : Int) = (a : Int) + (g : Int) * 2 by omega, show ((a + g * 3 : Nat) : Int) = (a : Int) + (g : Int) * 3 by omega] at hmd
 repeat' (first | (with_reducible first | refine zac yU yU yE ?_ | refine zab ?_ | refine DS.seq ?_ | refine zaa ?_ | (refine zbd yE ?_; first | refine zel (fun _ => ?_) (fun _ => ?_) | refine zde ?_) | refine DS.block ?_ | refine DS.skip ?_) | fail)
 all_goals first | (exfalso; omega) | skip
 refine zdv inferInstance hmd yR yH (fun u S' hu => ?_)
 obtain ⟨m, i, w, rfl, c1, c2, l1, hw, rfl⟩ := hu
 have hR : ∀ h : Nat, h ≤ 1 → ∃ m' i' h' : Nat, V.tup [I m, I h] = .tup [I m', I h'] ∧ (a ≤ m' ∧ m' < e) ∧ (a ≤ i' ∧ i' < e) ∧ zdh D[i']! D[m']! = true ∧ h' ≤ 1 ∧ rkS b D.toList junk = rkS b D.toList junk := fun h hh => ⟨m, i, h, rfl, by omega, by omega, l1, hh, rfl⟩
 simp only [List.cons_append, List.nil_append]
 repeat' (first | (with_reducible first | refine zac yU yU yE ?_ | refine zab ?_ | refine DS.seq ?_ | refine zaa ?_ | (refine zbd yE ?_; refine zel (fun _ => ?_) (fun _ => ?_)) | refine DS.block ?_) | fail)
 all_goals first | (exfalso; omega) | skip
 ·refine DS.ret rfl ⟨[I m, I 1], rkS b D.toList junk, by (simp (disch := omega) only [go_sem, dopV, yV0, ↓reduceIte, Nat.reduceEqDiff, Nat.reduceLT, Nat.reduceLeDiff, Nat.reduceAdd, Nat.reduceMul, Nat.reduceSub, Int.reduceToNat, Int.reduceLT, Int.reduceLE, Int.reduceEq, IntWalk.toNatUp, IntWalk.iteOmega, IntWalk.i64_in, V.flat, V.one]; try exact rfl), fun d o e => ?_, hR 1 (by omega)⟩
  simp only [zae, zca] at e ⊢
  split at e <;> simp_all
 ·refine DS.ret rfl ⟨[I m, I 0], rkS b D.toList junk, by (simp (disch := omega) only [go_sem, dopV, yV0, ↓reduceIte, Nat.reduceEqDiff, Nat.reduceLT, Nat.reduceLeDiff, Nat.reduceAdd, Nat.reduceMul, Nat.reduceSub, Int.reduceToNat, Int.reduceLT, Int.reduceLE, Int.reduceEq, IntWalk.toNatUp, IntWalk.iteOmega, IntWalk.i64_in, V.flat, V.one]; try exact rfl), fun d o e => ?_, hR 0 (by omega)⟩
  simp only [zae, zca] at e ⊢
  split at e <;> simp_all
structure PI (n a e : Nat) (D0 : Array Rank) (X : Rank) (i j : Nat) (D : Array Rank) : Prop where
 sz : D.size = n
 perm : Sort.PermIn a e D0 D
 at_ : D[a]! = X
 lo : a + 1 ≤ i
 mid : i ≤ j + 1
 hi : j + 1 ≤ e
 en : e ≤ n
 left : ∀ x, a < x → x < i → zdh D[x]! X = true
 right : ∀ x, j < x → x < e → zdh D[x]! X = false
theorem zqs (D : Array Rank) (i j x : Nat) (hi : i < D.size) (hj : j < D.size) : (Sort.swp D i j)[x]! = if x = j then D[i]! else if x = i then D[j]! else D[x]! := by
 by_cases h1 : x = j
 ·subst h1; rw [if_pos rfl]; exact Sort.swp_right D i x hj
 ·rw [if_neg h1]
  by_cases h2 : x = i
  ·subst h2; rw [if_pos rfl]; exact Sort.swp_left D x j hi h1
  ·rw [if_neg h2]; exact Sort.swp_other D i j x h2 h1
theorem PI.up {n a e : Nat} {D0 : Array Rank} {X : Rank} {i j : Nat} {D : Array Rank} (h : PI n a e D0 X i j D) (h1 : i ≤ j) (h2 : zdh D[i]! X = true) : PI n a e D0 X (i + 1) j D :=
 ⟨h.sz, h.perm, h.at_, by have := h.lo; omega, by omega, h.hi, h.en, fun x h3 h4 => by
  by_cases h5 : x = i
  ·rw [h5]; exact h2
  ·exact h.left x h3 (by omega), h.right⟩
theorem PI.down {n a e : Nat} {D0 : Array Rank} {X : Rank} {i j : Nat} {D : Array Rank} (h : PI n a e D0 X i j D) (h1 : i ≤ j) (h2 : zdh D[j]! X = false) : PI n a e D0 X i (j - 1) D :=
 ⟨h.sz, h.perm, h.at_, h.lo, by have := h.lo; omega, by have := h.hi; omega, h.en, h.left, fun x h3 h4 => by
  by_cases h5 : x = j
  ·rw [h5]; exact h2
  ·exact h.right x (by omega) h4⟩
theorem PI.swap {n a e : Nat} {D0 : Array Rank} {X : Rank} {i j : Nat} {D : Array Rank} (h : PI n a e D0 X i j D) (h1 : i ≤ j) (h2 : zdh D[i]! X = false) (h3 : zdh D[j]! X = true) : PI n a e D0 X (i + 1) (j - 1) (Sort.swp D i j) := by
 have hne : i ≠ j := fun e => by rw [e, h3] at h2; cases h2
 have q := h.lo; have q2 := h.hi; have q3 := h.en; have q4 := h.sz
 refine ⟨by rw [Sort.size_swp]; exact h.sz, Sort.permIn_trans _ _ _ _ _ h.perm (Sort.swp_permIn D a e i j (by omega) (by omega) (by omega) (by omega) (by omega)), ?_, by omega, by omega, by omega, h.en, fun x h4 h5 => ?_, fun x h4 h5 => ?_⟩
 ·rw [zqs D i j a (by omega) (by omega), if_neg (by omega), if_neg (by omega)]; exact h.at_
 ·rw [zqs D i j x (by omega) (by omega)]
  by_cases h6 : x = i
  ·rw [if_neg (by omega), if_pos h6]; exact h3
  ·rw [if_neg (by omega), if_neg h6]; exact h.left x h4 (by omega)
 ·rw [zqs D i j x (by omega) (by omega)]
  by_cases h6 : x = j
  ·rw [if_pos h6]; exact h2
  ·rw [if_neg h6, if_neg (by omega)]; exact h.right x (by omega) h5
structure PE (n a e : Nat) (D0 : Array Rank) (X : Rank) (m : Nat) (D : Array Rank) : Prop where
 sz : D.size = n
 perm : Sort.PermIn a e D0 D
 at_ : D[m]! = X
 lo : a ≤ m
 hi : m < e
 left : ∀ x, a ≤ x → x < m → zdh D[x]! X = true
 right : ∀ x, m < x → x < e → zdh D[x]! X = false
theorem PI.done {n a e : Nat} {D0 : Array Rank} {X : Rank} {i j : Nat} {D : Array Rank} (h : PI n a e D0 X i j D) (h1 : j < i) : PE n a e D0 X j (Sort.swp D j a) := by
 have q := h.lo; have q2 := h.hi; have q3 := h.en; have q4 := h.sz; have q5 := h.mid
 refine ⟨by rw [Sort.size_swp]; exact h.sz, Sort.permIn_trans _ _ _ _ _ h.perm (Sort.swp_permIn D a e j a (by omega) (by omega) (by omega) (by omega) (by omega)), ?_, by omega, by omega, fun x h4 h5 => ?_, fun x h4 h5 => ?_⟩
 ·rw [zqs D j a j (by omega) (by omega)]
  by_cases h6 : j = a
  ·rw [if_pos h6, h6]; exact h.at_
  ·rw [if_neg h6, if_pos rfl]; exact h.at_
 ·rw [zqs D j a x (by omega) (by omega)]
  by_cases h6 : x = a
  ·rw [if_pos h6]; exact h.left j (by omega) (by omega)
  ·rw [if_neg h6, if_neg (by omega)]; exact h.left x (by omega) (by omega)
 ·rw [zqs D j a x (by omega) (by omega), if_neg (by omega), if_neg (by omega)]; exact h.right x h4 h5
theorem PI.first {n a e p : Nat} {D : Array Rank} (hD : D.size = n) (h : a ≤ p ∧ p < e ∧ e ≤ n) : PI n a e D D[p]! (a + 1) (e - 1) (Sort.swp D a p) := by
 refine ⟨by rw [Sort.size_swp]; exact hD, Sort.swp_permIn D a e a p (by omega) (by omega) (by omega) (by omega) (by omega), ?_, by omega, by omega, by omega, by omega, fun x h4 h5 => by omega, fun x h4 h5 => by omega⟩
 rw [zqs D a p a (by omega) (by omega)]
 by_cases h6 : a = p
 ·rw [if_pos h6, h6]
 ·rw [if_neg h6, if_pos rfl]
end Go.XL
namespace Go.XL
open Go.Proofs
set_option maxRecDepth 100000
set_option maxHeartbeats 8000000
theorem yfn {D : Array Rank} {a e : Nat} (h : ∀ k, a < k → k < e → zdh D[k]! D[k - 1]! = false) : Sort.SortedIn zdh a e D := by
 intro i j h1 h2 h3
 induction j with
 | zero => omega
 | succ j ih =>
  have h4 := h (j + 1) (by omega) h3
  rw [Nat.add_sub_cancel] at h4
  by_cases h5 : i = j
  ·rw [h5]; exact h4
  ·exact lessK_swo.ntrans _ _ _ h4 (ih (by omega) (by omega))
theorem zwj (b cap n : Nat) (D : Array Rank) (junk : List V) (hD : D.size = n) {a e : Nat} (hae : a < e ∧ e ≤ n ∧ e - a < 50) (hn : n ≤ 1000000 ∧ n ≤ cap) :
  DC Tryz.prog 124 [rkI b n cap, I a, I e] (rkS b D.toList junk) (fun u S' => ∃ r : Bool, u = Bo r ∧ (r = true → Sort.SortedIn zdh a e D) ∧ S' = rkS b D.toList junk) := by
 refine DC.of_run Tryz.func124 rfl Tryz.ntmps124 Tryz.results124 (by simp) (fun _ => ?_); simp only [zaq, zau, go_sem, Nat.zero_add, Nat.reduceAdd]
 repeat' (first | (with_reducible first | refine zac yU yU yE ?_ | refine zab ?_ | refine DS.seq ?_ | refine zaa ?_ | refine DS.block ?_) | fail)
 refine zcq [0, 1, 2] yN (fun (y : Nat) => [(7, I (a + 1)), (8, I 0)]) (fun (y : Nat) => rkS b D.toList junk) (fun (y : Nat) => y = 0) (fun (y : Nat) => y) 0 yS (fun b o e => by exact e) rfl (fun y B hI hB => ?_); try dsimp only at hI hB; simp only [zas, zaw]
 clear hB
 repeat' (first | (with_reducible first | refine zac yU yU yE ?_ | refine zab ?_ | refine DS.seq ?_ | refine zaa ?_ | (refine zbd yE ?_; refine zde ?_) | refine DS.block ?_ | refine DS.skip ?_) | fail)
 refine zox (fun y : Nat => [(0, rkI b n cap), (1, I a), (2, I e), (7, I y), (8, I 0)]) (fun _ => rkS b D.toList junk) (fun y => a < y ∧ y ≤ e ∧ ∀ k, a < k → k < y → zdh D[k]! D[k - 1]! = false) ?_ (fun y hI => ?_)
 ·refine zcq [0, 1, 2, 8] yN (fun (y : Nat) => [(7, I y)]) (fun (y : Nat) => rkS b D.toList junk) (fun (y : Nat) => a < y ∧ y ≤ e ∧ ∀ k, a < k → k < y → zdh D[k]! D[k - 1]! = false) (fun (y : Nat) => e - y) (a + 1) yS (fun b o e => by exact e) ⟨by omega, by omega, fun k h1 h2 => by omega⟩ (fun y B hI hB => ?_); try dsimp only at hI hB; simp only [zas, zaw]
  obtain ⟨g1, g2, g3⟩ := hI
  have H := Box.mk g3
  clear g3
  by_cases hi : (y : Int) < (e : Int)
  ·have hlt := zjg b cap n D junk hD (i := y) (j := y - 1) (by omega) (by omega) hn
   have hj1 : ((y - 1 : Nat) : Int) = (y : Int) - 1 := by omega
   rw [hj1] at hlt
   repeat' (first | (with_reducible first | refine zac yU yU yE ?_ | refine DS.seq ?_ | refine zaa ?_ | (refine zdz yU yE ?_; refine GG.run ?_)) | fail)
   refine DS.invoke inferInstance (zgn _ _ _) yH hlt yR yH (fun u S' hu => ?_)
   obtain ⟨rfl, rfl⟩ := hu
   cases hb : zdh D[y]! D[y - 1]! with
   | true =>
    repeat' (first | (with_reducible first | refine zac yU yU yE ?_ | refine zab ?_ | (refine zbd yE ?_; refine zdk ?_) | (refine zdz yU yE ?_; refine GG.run ?_) | refine DS.exit yU ?_) | fail)
    refine DS.back ⟨y, ⟨g1, g2, H.out⟩, yS, yS⟩
   | false =>
    repeat' (first | (with_reducible first | refine zac yU yU yE ?_ | refine zab ?_ | refine zaa ?_ | (refine zbd yE ?_; refine zde ?_) | (refine zdz yU yE ?_; refine GG.run ?_) | refine DS.blk ?_ | refine DS.block ?_ | refine DS.skip ?_) | fail)
    refine DS.back (hB (y + 1) _ _ (by omega) ⟨by omega, by omega, fun k h1 h2 => ?_⟩ yS yS (fun d o e => by exact e))
    by_cases h3 : k = y
    ·rw [h3]; exact hb
    ·exact H.out k h1 (by omega)
  ·repeat' (first | (with_reducible first | refine zac yU yU yE ?_ | refine zab ?_ | refine DS.seq ?_ | refine zaa ?_ | (refine zbd yE ?_; refine zdk ?_) | (refine zdz yU yE ?_; refine zfo ?_) | refine DS.exit yU ?_) | fail)
   refine DS.back ⟨y, ⟨g1, g2, H.out⟩, yS, yS⟩
 ·obtain ⟨g1, g2, g3⟩ := hI
  have H := Box.mk g3
  clear g3
  repeat' (first | (with_reducible first | refine zac yU yU yE ?_ | refine zab ?_ | refine DS.seq ?_ | refine zaa ?_ | (refine zbd yE ?_; refine zel (fun _ => ?_) (fun _ => ?_)) | refine DS.skip ?_) | fail)
  all_goals first | (exfalso; omega) | skip
  ·rename_i h5
   exact zck yG ⟨true, rfl, fun _ => yfn fun k h1 h2 => H.out k h1 (by omega), rfl⟩
  ·exact zck yG ⟨false, rfl, fun h => absurd h (by decide), rfl⟩
theorem zyn (b cap n : Nat) (D : Array Rank) (junk : List V) (hD : D.size = n) {a e p : Nat} (hae : a ≤ p ∧ p < e ∧ e ≤ n) (hn : n ≤ 1000000 ∧ n ≤ cap) :
  DC Tryz.prog 126 [rkI b n cap, I a, I e, I p] (rkS b D.toList junk) (fun u S' => ∃ (m : Nat) (al : Bool) (D' : Array Rank), u = .tup [I m, Bo al] ∧ PE n a e D D[p]! m D' ∧ S' = rkS b D'.toList junk) := by
 have hf := PI.first hD hae
 have hsw := zlw b cap n D junk hD (i := a) (j := p) (by omega) (by omega) hn
 have hc : ((e - 1 : Nat) : Int) = (e : Int) - 1 := by omega
 generalize hX : D[p]! = X at *
 generalize Sort.swp D a p = D1 at *
 refine DC.of_run Tryz.func126 rfl Tryz.ntmps126 Tryz.results126 (by simp) (fun _ => ?_); simp only [zaq, zau, go_sem, Nat.zero_add, Nat.reduceAdd]
 repeat' (first | (with_reducible first | refine zac yU yU yE ?_ | refine zab ?_ | refine DS.seq ?_ | refine zaa ?_) | fail)
 refine DS.invoke inferInstance (zin _ _ _) yH hsw yR yH (fun u S' hu => ?_)
 subst hu
 repeat' (first | (with_reducible first | refine zac yU yU yE ?_ | refine zab ?_ | refine DS.seq ?_ | refine zaa ?_ | refine DS.block ?_) | fail)
 refine zox (fun i : Nat => [(0, rkI b n cap), (1, I a), (10, I i), (11, .v (.int .i64 ((e : Int) - 1)))]) (fun _ => rkS b D1.toList junk) (fun i => PI n a e D X i (e - 1) D1 ∧ (i ≤ e - 1 → zdh D1[i]! X = false)) ?_ (fun i hI => ?_)
 ·refine zcq [0, 1, 11] yN (fun (i : Nat) => [(10, I i)]) (fun (i : Nat) => rkS b D1.toList junk) (fun (i : Nat) => PI n a e D X i (e - 1) D1) (fun (i : Nat) => e - i) (a + 1) yS (fun b o e => by exact e) hf (fun i B hI hB => ?_); try dsimp only at hI hB; simp only [zas, zaw]
  have q1 := hI.lo; have q2 := hI.mid; have q3 := hI.sz; have q4 := hI.at_
  by_cases hi : (i : Int) ≤ (e : Int) - 1
  ·have hlt := zjg b cap n D1 junk q3 (i := i) (j := a) (by omega) (by omega) hn
   rw [q4] at hlt
   repeat' (first | (with_reducible first | refine zac yU yU yE ?_ | refine DS.seq ?_ | refine zaa ?_ | (refine zdz yU yE ?_; refine GG.run ?_)) | fail)
   refine DS.invoke inferInstance (zgn _ _ _) yH hlt yR yH (fun u S' hu => ?_)
   obtain ⟨rfl, rfl⟩ := hu
   cases hb : zdh D1[i]! X with
   | true =>
    repeat' (first | (with_reducible first | refine zac yU yU yE ?_ | refine zab ?_ | refine zaa ?_ | (refine zbd yE ?_; refine zde ?_) | refine DS.blk ?_ | refine DS.block ?_ | refine DS.skip ?_) | fail)
    refine DS.back (hB (i + 1) _ _ (by omega) (hI.up (by omega) hb) yS yS (fun d o e => by exact e))
   | false =>
    repeat' (first | (with_reducible first | refine zac yU yU yE ?_ | refine zab ?_ | (refine zbd yE ?_; refine zdk ?_) | refine DS.exit yU ?_) | fail)
    refine DS.back ⟨i, ⟨hI, fun _ => hb⟩, yS, yS⟩
  ·repeat' (first | (with_reducible first | refine zac yU yU yE ?_ | refine zab ?_ | refine DS.seq ?_ | refine zaa ?_ | (refine zbd yE ?_; refine zdk ?_) | (refine zdz yU yE ?_; refine zfo ?_) | refine DS.exit yU ?_) | fail)
   refine DS.back ⟨i, ⟨hI, fun h => by omega⟩, yS, yS⟩
 clear hf hsw
 obtain ⟨hI, hi0⟩ := hI
 repeat' (first | (with_reducible first | refine DS.seq ?_ | refine DS.block ?_) | fail)
 refine zox (fun j : Nat => [(0, rkI b n cap), (1, I a), (10, I i), (11, I j)]) (fun _ => rkS b D1.toList junk) (fun j => PI n a e D X i j D1 ∧ (i ≤ j → zdh D1[j]! X = true)) ?_ (fun j hJ => ?_)
 ·refine zcq [0, 1, 10] yN (fun (j : Nat) => [(11, I j)]) (fun (j : Nat) => rkS b D1.toList junk) (fun (j : Nat) => PI n a e D X i j D1) (fun (j : Nat) => j) (e - 1) yS (fun b o e => by exact e) hI (fun j B hI hB => ?_); try dsimp only at hI hB; simp only [zas, zaw]
  have q1 := hI.lo; have q2 := hI.mid; have q3 := hI.sz; have q4 := hI.at_; have q5 := hI.hi; have q6 := hI.en
  by_cases hi : (i : Int) ≤ (j : Int)
  ·have hlt := zjg b cap n D1 junk q3 (i := j) (j := a) (by omega) (by omega) hn
   have hj1 : ((j - 1 : Nat) : Int) = (j : Int) - 1 := by omega
   rw [q4] at hlt
   repeat' (first | (with_reducible first | refine zac yU yU yE ?_ | refine DS.seq ?_ | refine zaa ?_ | (refine zdz yU yE ?_; refine GG.run ?_)) | fail)
   refine DS.invoke inferInstance (zgn _ _ _) yH hlt yR yH (fun u S' hu => ?_)
   obtain ⟨rfl, rfl⟩ := hu
   cases hb : zdh D1[j]! X with
   | true =>
    repeat' (first | (with_reducible first | refine zac yU yU yE ?_ | refine zab ?_ | (refine zbd yE ?_; refine zdk ?_) | (refine zdz yU yE ?_; refine GG.run ?_) | refine DS.exit yU ?_) | fail)
    refine DS.back ⟨j, ⟨hI, fun _ => hb⟩, yS, yS⟩
   | false =>
    repeat' (first | (with_reducible first | refine zac yU yU yE ?_ | refine zab ?_ | refine zaa ?_ | (refine zbd yE ?_; refine zde ?_) | (refine zdz yU yE ?_; refine GG.run ?_) | refine DS.blk ?_ | refine DS.block ?_ | refine DS.skip ?_) | fail)
    refine DS.back (hB (j - 1) _ _ (by omega) (hI.down (by omega) hb) yS yS (fun d o e => by exact e))
  ·repeat' (first | (with_reducible first | refine zac yU yU yE ?_ | refine zab ?_ | refine DS.seq ?_ | refine zaa ?_ | (refine zbd yE ?_; refine zdk ?_) | (refine zdz yU yE ?_; refine zfo ?_) | refine DS.exit yU ?_) | fail)
   refine DS.back ⟨j, ⟨hI, fun h => by omega⟩, yS, yS⟩
 clear hI
 obtain ⟨hI, hj0⟩ := hJ
 have q1 := hI.lo; have q2 := hI.mid; have q3 := hI.sz; have q4 := hI.at_; have q5 := hI.hi; have q6 := hI.en
 by_cases hij : (j : Int) < (i : Int)
 ·have hs := zlw b cap n D1 junk q3 (i := j) (j := a) (by omega) (by omega) hn
  repeat' (first | (with_reducible first | refine zac yU yU yE ?_ | refine zab ?_ | refine DS.seq ?_ | refine zaa ?_ | (refine zbd yE ?_; refine zde ?_)) | fail)
  refine DS.invoke inferInstance (zin _ _ _) yH hs yR yH (fun u S' hu => ?_)
  subst hu
  repeat' (first | (with_reducible first | refine zac yU yU yE ?_ | refine zab ?_ | refine DS.seq ?_ | refine zaa ?_) | fail)
  exact zck yG ⟨j, true, _, rfl, hI.done (by omega), rfl⟩
 have hs := zlw b cap n D1 junk q3 (i := i) (j := j) (by omega) (by omega) hn
 have hj1 : ((j - 1 : Nat) : Int) = (j : Int) - 1 := by omega
 repeat' (first | (with_reducible first | refine zac yU yU yE ?_ | refine zab ?_ | refine DS.seq ?_ | refine zaa ?_ | (refine zbd yE ?_; refine zdk ?_) | refine DS.skip ?_) | fail)
 refine DS.invoke inferInstance (zin _ _ _) yH hs yR yH (fun u S' hu => ?_)
 subst hu
 have hM := hI.swap (by omega) (hi0 (by omega)) (hj0 (by omega))
 repeat' (first | (with_reducible first | refine zac yU yU yE ?_ | refine zab ?_ | refine DS.seq ?_ | refine zaa ?_ | refine DS.block ?_) | fail)
 refine zcq [0, 1] yN (fun (y : Nat × Nat × Array Rank) => [(10, I y.1), (11, I y.2.1)]) (fun (y : Nat × Nat × Array Rank) => rkS b y.2.2.toList junk) (fun (y : Nat × Nat × Array Rank) => PI n a e D X y.1 y.2.1 y.2.2) (fun (y : Nat × Nat × Array Rank) => y.2.1 + 1 - y.1) (i + 1, j - 1, Sort.swp D1 i j) yS (fun b o e => by exact e) hM (fun y B hI hB => ?_); try dsimp only at hI hB; simp only [zas, zaw]
 clear hM hs hi0 hj0 hij hj1 q1 q2 q3 q4 q5 q6
 obtain ⟨i1, j1, D2⟩ := y
 dsimp only at hI hB ⊢
 rename_i hI0
 clear hI0
 have hB0 := hB
 clear hB
 repeat' (first | (with_reducible first | refine DS.seq ?_ | refine DS.block ?_) | fail)
 refine zox (fun i2 : Nat => [(0, rkI b n cap), (1, I a), (10, I i2), (11, I j1)]) (fun _ => rkS b D2.toList junk) (fun i2 => i1 ≤ i2 ∧ PI n a e D X i2 j1 D2 ∧ (i2 ≤ j1 → zdh D2[i2]! X = false)) ?_ (fun i2 hJ => ?_)
 ·refine zcq [0, 1, 11] yN (fun (i2 : Nat) => [(10, I i2)]) (fun (i2 : Nat) => rkS b D2.toList junk) (fun (i2 : Nat) => i1 ≤ i2 ∧ PI n a e D X i2 j1 D2) (fun (i2 : Nat) => e - i2) i1 yS (fun b o e => by exact e) ⟨Nat.le_refl _, hI⟩ (fun i2 B hI hB => ?_); try dsimp only at hI hB; simp only [zas, zaw]
  obtain ⟨hle, hI⟩ := hI
  have q1 := hI.lo; have q2 := hI.mid; have q3 := hI.sz; have q4 := hI.at_; have q5 := hI.hi; have q6 := hI.en
  by_cases hi : (i2 : Int) ≤ (j1 : Int)
  ·have hlt := zjg b cap n D2 junk q3 (i := i2) (j := a) (by omega) (by omega) hn
   rw [q4] at hlt
   repeat' (first | (with_reducible first | refine zac yU yU yE ?_ | refine DS.seq ?_ | refine zaa ?_ | (refine zdz yU yE ?_; refine GG.run ?_)) | fail)
   refine DS.invoke inferInstance (zgn _ _ _) yH hlt yR yH (fun u S' hu => ?_)
   obtain ⟨rfl, rfl⟩ := hu
   cases hb : zdh D2[i2]! X with
   | true =>
    repeat' (first | (with_reducible first | refine zac yU yU yE ?_ | refine zab ?_ | refine zaa ?_ | (refine zbd yE ?_; refine zde ?_) | refine DS.blk ?_ | refine DS.block ?_ | refine DS.skip ?_) | fail)
    refine DS.back (hB (i2 + 1) _ _ (by omega) ⟨by omega, hI.up (by omega) hb⟩ yS yS (fun d o e => by exact e))
   | false =>
    repeat' (first | (with_reducible first | refine zac yU yU yE ?_ | refine zab ?_ | (refine zbd yE ?_; refine zdk ?_) | refine DS.exit yU ?_) | fail)
    refine DS.back ⟨i2, ⟨hle, hI, fun _ => hb⟩, yS, yS⟩
  ·repeat' (first | (with_reducible first | refine zac yU yU yE ?_ | refine zab ?_ | refine DS.seq ?_ | refine zaa ?_ | (refine zbd yE ?_; refine zdk ?_) | (refine zdz yU yE ?_; refine zfo ?_) | refine DS.exit yU ?_) | fail)
   refine DS.back ⟨i2, ⟨hle, hI, fun h => by omega⟩, yS, yS⟩
 clear hI
 obtain ⟨hle, hI, hi0⟩ := hJ
 repeat' (first | (with_reducible first | refine DS.seq ?_ | refine DS.block ?_) | fail)
 refine zox (fun j2 : Nat => [(0, rkI b n cap), (1, I a), (10, I i2), (11, I j2)]) (fun _ => rkS b D2.toList junk) (fun j2 => j2 ≤ j1 ∧ PI n a e D X i2 j2 D2 ∧ (i2 ≤ j2 → zdh D2[j2]! X = true)) ?_ (fun j2 hJ => ?_)
 ·refine zcq [0, 1, 10] yN (fun (j2 : Nat) => [(11, I j2)]) (fun (j2 : Nat) => rkS b D2.toList junk) (fun (j2 : Nat) => j2 ≤ j1 ∧ PI n a e D X i2 j2 D2) (fun (j2 : Nat) => j2) j1 yS (fun b o e => by exact e) ⟨Nat.le_refl _, hI⟩ (fun j2 B hI hB => ?_); try dsimp only at hI hB; simp only [zas, zaw]
  obtain ⟨hle2, hI⟩ := hI
  have q1 := hI.lo; have q2 := hI.mid; have q3 := hI.sz; have q4 := hI.at_; have q5 := hI.hi; have q6 := hI.en
  by_cases hi : (i2 : Int) ≤ (j2 : Int)
  ·have hlt := zjg b cap n D2 junk q3 (i := j2) (j := a) (by omega) (by omega) hn
   have hj1 : ((j2 - 1 : Nat) : Int) = (j2 : Int) - 1 := by omega
   rw [q4] at hlt
   repeat' (first | (with_reducible first | refine zac yU yU yE ?_ | refine DS.seq ?_ | refine zaa ?_ | (refine zdz yU yE ?_; refine GG.run ?_)) | fail)
   refine DS.invoke inferInstance (zgn _ _ _) yH hlt yR yH (fun u S' hu => ?_)
   obtain ⟨rfl, rfl⟩ := hu
   cases hb : zdh D2[j2]! X with
   | true =>
    repeat' (first | (with_reducible first | refine zac yU yU yE ?_ | refine zab ?_ | (refine zbd yE ?_; refine zdk ?_) | (refine zdz yU yE ?_; refine GG.run ?_) | refine DS.exit yU ?_) | fail)
    refine DS.back ⟨j2, ⟨hle2, hI, fun _ => hb⟩, yS, yS⟩
   | false =>
    repeat' (first | (with_reducible first | refine zac yU yU yE ?_ | refine zab ?_ | refine zaa ?_ | (refine zbd yE ?_; refine zde ?_) | (refine zdz yU yE ?_; refine GG.run ?_) | refine DS.blk ?_ | refine DS.block ?_ | refine DS.skip ?_) | fail)
    refine DS.back (hB (j2 - 1) _ _ (by omega) ⟨by omega, hI.down (by omega) hb⟩ yS yS (fun d o e => by exact e))
  ·repeat' (first | (with_reducible first | refine zac yU yU yE ?_ | refine zab ?_ | refine DS.seq ?_ | refine zaa ?_ | (refine zbd yE ?_; refine zdk ?_) | (refine zdz yU yE ?_; refine zfo ?_) | refine DS.exit yU ?_) | fail)
   refine DS.back ⟨j2, ⟨hle2, hI, fun h => by omega⟩, yS, yS⟩
 clear hI
 obtain ⟨hle2, hI, hj0⟩ := hJ
 have q1 := hI.lo; have q2 := hI.mid; have q3 := hI.sz; have q4 := hI.at_; have q5 := hI.hi; have q6 := hI.en
 by_cases hij : (j2 : Int) < (i2 : Int)
 ·clear hB0
  have hs := zlw b cap n D2 junk q3 (i := j2) (j := a) (by omega) (by omega) hn
  repeat' (first | (with_reducible first | refine zac yU yU yE ?_ | refine zab ?_ | refine DS.seq ?_ | refine zaa ?_ | (refine zbd yE ?_; refine zde ?_) | refine DS.exit yU ?_) | fail)
  refine DS.invoke inferInstance (zin _ _ _) yH hs yR yH (fun u S' hu => ?_)
  subst hu
  repeat' (first | (with_reducible first | refine zac yU yU yE ?_ | refine zab ?_ | refine DS.seq ?_ | refine zaa ?_) | fail)
  exact zck yG ⟨j2, false, _, rfl, hI.done (by omega), rfl⟩
 ·have hs := zlw b cap n D2 junk q3 (i := i2) (j := j2) (by omega) (by omega) hn
  have hj1 : ((j2 - 1 : Nat) : Int) = (j2 : Int) - 1 := by omega
  repeat' (first | (with_reducible first | refine zac yU yU yE ?_ | refine zab ?_ | refine DS.seq ?_ | refine zaa ?_ | (refine zbd yE ?_; refine zdk ?_) | refine DS.skip ?_) | fail)
  refine DS.invoke inferInstance (zin _ _ _) yH hs yR yH (fun u S' hu => ?_)
  subst hu
  repeat' (first | (with_reducible first | refine zac yU yU yE ?_ | refine zab ?_ | refine DS.seq ?_ | refine zaa ?_ | refine DS.blk ?_) | fail)
  refine DS.back (hB0 (i2 + 1, j2 - 1, Sort.swp D2 i2 j2) _ _ (by dsimp only; omega) (hI.swap (by omega) (hi0 (by omega)) (hj0 (by omega))) yS yS (fun d o e => by exact e))
end Go.XL
namespace Go.XL
open Go.Proofs
set_option maxRecDepth 100000
set_option maxHeartbeats 8000000
section
variable {P : Program} {n : Nat} {r : Rr} {Q : VEnv → Sto → Prop} {k : List Fr} {E : VEnv} {S : Sto} {dst : Option Tmp} {ty : TypeId} {pos : String} {af : Array Edge}
theorem yal {t M i : Nat} (p : Nat → Nat → Bool) {T : TypeId} {s : ByteArray} {x : Operand} {kd : IntKind} {ops l : List Oper} (hd : decide (t < n) = true) (hT : P.underlying T = some .string) (hx : evV E x = some (.v (.int kd i))) (hs : ((List.range M).all fun i => match s[i]? with | some b => p i b.toNat | none => false) = true) (hi : i < M)
  (q : ∀ m : Nat, p i m = true → DS P n r Q (.ops ops l :: k) ((t, .v (.int .u8 m)) :: E) S) : DS P n r Q (.ops ops (⟨some t, .index T (.const (.string s)) x, ty, pos, af, none⟩ :: l) :: k) E S := by
 have h := List.all_eq_true.1 hs i (List.mem_range.2 hi)
 cases hb : s[i]? with
 | none => rw [hb] at h; cases h
 | some b =>
  rw [hb] at h
  exact ycg hd hT hx (Int.natCast_nonneg i) (by rw [Int.toNat_natCast]; exact hb) (q b.toNat h)
end
theorem yiw (n : Nat) (h0 : 0 < n) (hn : n < 256) : DC Tryz.prog 118 [.v (.int .u64 n)] [] (fun u S' => ∃ m : Nat, u = I m ∧ 1 ≤ m ∧ m ≤ 64) := by
 refine DC.of_run Tryz.func118 rfl Tryz.ntmps118 Tryz.results118 (by simp) (fun _ => ?_); simp only [zaq, zau, go_sem, Nat.zero_add, Nat.reduceAdd]
 repeat' (first | (with_reducible first | refine zac yU yU yE ?_ | refine zab ?_ | refine DS.seq ?_ | refine zaa ?_ | (refine zbd yE ?_; refine zel (fun _ => ?_) (fun _ => ?_)) | refine DS.skip ?_) | fail)
 all_goals first | (exfalso; omega) | skip
 have hw : IntKind.u8.wrap (n : Int) = n := by
  have h1 : (2 : Int) ^ 8 = 256 := by decide
  simp only [IntKind.wrap, IntKind.bits, IntKind.signed, Bool.false_and, Bool.false_eq_true, if_false, h1]
  omega
 rw [hw]
 refine yal (M := 256) (fun i m => decide (m ≤ 64) && (decide (i = 0) || decide (1 ≤ m))) yR yR yH (by kernel_rfl) hn (fun m hm => ?_)
 simp only [Bool.and_eq_true, Bool.or_eq_true, decide_eq_true_eq] at hm
 repeat' (first | (with_reducible first | refine zac yU yU yE ?_ | refine zab ?_) | fail)
 refine zck yG ⟨m, ?_, by omega, by omega⟩
 first | rfl | (simp [tupV]; done)
theorem ypv (n : Nat) (h0 : 0 < n) (hn : n < 256) : DC Tryz.prog 107 [.v (.int .u64 n)] [] (fun u S' => ∃ m : Nat, u = I m ∧ 1 ≤ m ∧ m ≤ 64) := by
 refine DC.of_run Tryz.func107 rfl Tryz.ntmps107 Tryz.results107 (by simp) (fun _ => ?_); simp only [zaq, zau, go_sem, Nat.zero_add, Nat.reduceAdd]
 repeat' (first | (with_reducible first | refine zac yU yU yE ?_ | refine zab ?_ | refine DS.seq ?_ | refine zaa ?_ | (refine zbd yE ?_; refine zdk ?_) | refine DS.skip ?_) | fail)
 refine zdv inferInstance (yiw n h0 hn) yR yH (fun u S' hu => ?_)
 obtain ⟨m, rfl, hm⟩ := hu
 repeat' (first | (with_reducible first | refine zac yU yU yE ?_ | refine zab ?_) | fail)
 exact zck yG ⟨m, rfl, hm⟩
structure Stl (n : Nat) (d : Array Rank) (a e : Nat) (D : Array Rank) : Prop where
 sz : D.size = n
 perm : Sort.PermIn 0 n d D
 ae : a ≤ e ∧ e ≤ n
 lo : ∀ i j, i < a → i < j → j < n → zdh D[j]! D[i]! = false
 hi : ∀ i j, i < j → e ≤ j → j < n → zdh D[j]! D[i]! = false
theorem Stl.turn {n : Nat} {d : Array Rank} {a e : Nat} {D D' : Array Rank} (h : Stl n d a e D) (p : Sort.PermIn a e D D') : Stl n d a e D' := by
 have q := h.ae; have q2 := h.sz
 refine ⟨by rw [p.1]; exact h.sz, Sort.permIn_trans _ _ _ _ _ h.perm (Sort.permIn_mono D D' a e 0 n (Nat.zero_le _) q.2 (by omega) p), q, fun i j h1 h2 h3 => ?_, fun i j h1 h2 h3 => ?_⟩
 ·rw [p.2.1 i (.inl h1)]
  by_cases h4 : a ≤ j ∧ j < e
  ·exact Sort.permIn_all D D' a e (fun r => zdh r D[i]! = false) (by omega) p (fun x h5 h6 => h.lo i x h1 (by omega) (by omega)) j h4.1 h4.2
  ·rw [p.2.1 j (by omega)]; exact h.lo i j h1 h2 h3
 ·rw [p.2.1 j (.inr h2)]
  by_cases h4 : a ≤ i ∧ i < e
  ·exact Sort.permIn_all D D' a e (fun r => zdh D[j]! r = false) (by omega) p (fun x h5 h6 => h.hi x j (by omega) h2 h3) i h4.1 h4.2
  ·rw [p.2.1 i (by omega)]; exact h.hi i j h1 h2 h3
theorem Stl.end_ {n : Nat} {d : Array Rank} {a e : Nat} {D : Array Rank} (h : Stl n d a e D) (s : Sort.SortedIn zdh a e D) : Sort.PermIn 0 n d D ∧ Sort.SortedIn zdh 0 n D := by
 refine ⟨h.perm, fun i j _ h2 h3 => ?_⟩
 by_cases h4 : i < a
 ·exact h.lo i j h4 h2 h3
 by_cases h5 : e ≤ j
 ·exact h.hi i j h2 h5 h3
 exact s i j (by omega) h2 (by omega)
theorem Stl.left {n : Nat} {d : Array Rank} {a e m : Nat} {D0 D D' : Array Rank} {X : Rank} (h0 : Stl n d a e D0) (h : PE n a e D0 X m D) (p : Sort.PermIn a m D D') (s : Sort.SortedIn zdh a m D') : Stl n d (m + 1) e D' := by
 have q1 := h.lo; have q2 := h.hi; have q3 := h0.ae; have q4 := h.sz
 have h1 := (h0.turn h.perm).turn (Sort.permIn_mono D D' a m a e (Nat.le_refl _) (by omega) (by omega) p)
 have lt : ∀ x, a ≤ x → x < m → zdh D'[x]! X = true := Sort.permIn_all D D' a m (fun r => zdh r X = true) (by omega) p h.left
 have at_ : D'[m]! = X := by rw [p.2.1 m (.inr (Nat.le_refl _))]; exact h.at_
 have ge : ∀ x, m < x → x < e → zdh D'[x]! X = false := fun x h2 h3 => by rw [p.2.1 x (.inr (by omega))]; exact h.right x h2 h3
 refine ⟨h1.sz, h1.perm, by omega, fun i j h2 h3 h4 => ?_, h1.hi⟩
 by_cases h5 : i < a
 ·exact h1.lo i j h5 h3 h4
 by_cases h6 : e ≤ j
 ·exact h1.hi i j h3 h6 h4
 by_cases h7 : i = m
 ·rw [h7, at_]; exact ge j (by omega) (by omega)
 have k := zhi (lt i (by omega) (by omega))
 by_cases h8 : j < m
 ·exact s i j (by omega) h3 h8
 by_cases h9 : j = m
 ·rw [h9, at_]; exact k
 exact lessK_swo.ntrans _ _ _ (ge j (by omega) (by omega)) k
theorem Stl.right {n : Nat} {d : Array Rank} {a e m : Nat} {D0 D D' : Array Rank} {X : Rank} (h0 : Stl n d a e D0) (h : PE n a e D0 X m D) (p : Sort.PermIn (m + 1) e D D') (s : Sort.SortedIn zdh (m + 1) e D') : Stl n d a m D' := by
 have q1 := h.lo; have q2 := h.hi; have q3 := h0.ae; have q4 := h.sz
 have h1 := (h0.turn h.perm).turn (Sort.permIn_mono D D' (m + 1) e a e (by omega) (Nat.le_refl _) (by omega) p)
 have lt : ∀ x, a ≤ x → x < m → zdh D'[x]! X = true := fun x h2 h3 => by rw [p.2.1 x (.inl (by omega))]; exact h.left x h2 h3
 have at_ : D'[m]! = X := by rw [p.2.1 m (.inl (by omega))]; exact h.at_
 have ge : ∀ x, m + 1 ≤ x → x < e → zdh D'[x]! X = false := Sort.permIn_all D D' (m + 1) e (fun r => zdh r X = false) (by omega) p fun x h2 h3 => h.right x (by omega) h3
 refine ⟨h1.sz, h1.perm, by omega, h1.lo, fun i j h2 h3 h4 => ?_⟩
 by_cases h5 : i < a
 ·exact h1.lo i j h5 h2 h4
 by_cases h6 : e ≤ j
 ·exact h1.hi i j h2 h6 h4
 by_cases h7 : j = m
 ·rw [h7, at_]; exact zhi (lt i (by omega) (by omega))
 have k := ge j (by omega) (by omega)
 by_cases h8 : i = m
 ·rw [h8, at_]; exact k
 by_cases h9 : i < m
 ·exact lessK_swo.ntrans _ _ _ k (zhi (lt i (by omega) h9))
 exact s i j (by omega) h2 (by omega)
theorem PE.not_first {n a e m : Nat} {D0 D : Array Rank} {X : Rank} (h : PE n a e D0 X m D) (hn : e ≤ n) {i : Nat} (h1 : a ≤ i ∧ i < e) (h2 : zdh D0[i]! X = true) : a < m := by
 have q1 := h.lo; have q2 := h.hi; have q4 := h.sz
 by_cases h3 : m = a
 ·exfalso
  have p : Sort.PermIn a e D D0 := ⟨h.perm.1.symm, fun i hi => (h.perm.2.1 i hi).symm, h.perm.2.2.symm⟩
  have := Sort.permIn_all D D0 a e (fun r => zdh r X = false) (by omega) p (fun x h4 h5 => by
   by_cases h6 : x = m
   ·rw [h6, h.at_]; exact zpw X
   ·exact h.right x (by omega) h5) i h1.1 h1.2
  rw [h2] at this; cases this
 ·omega
theorem yro (b cap n : Nat) (d : Array Rank) (junk : List V) (hd : d.size = n) (hu : (d.toList.map (·.id)).Nodup) (l : Nat) (hl : 1 ≤ l ∧ l ≤ 64) (hs : n ≤ 15) (hn : n ≤ 1000000 ∧ n ≤ cap) :
  DC Tryz.prog 108 [rkI b n cap, I 0, I n, I l] (rkS b d.toList junk) (fun u S' => ∃ e : Array Rank, Sort.PermIn 0 n d e ∧ Sort.SortedIn zdh 0 n e ∧ S' = rkS b e.toList junk) := by
 refine DC.of_run Tryz.func108 rfl Tryz.ntmps108 Tryz.results108 (by simp) (fun _ => ?_); simp only [zaq, zau, go_sem, Nat.zero_add, Nat.reduceAdd]
 repeat' (first | (with_reducible first | refine zac yU yU yE ?_ | refine zab ?_ | refine DS.seq ?_ | refine zaa ?_ | refine DS.block ?_) | fail)
 refine zcq [0] yN (fun (y : Nat × Nat × Bool × Array Rank) => [(1, I y.1), (2, I y.2.1), (3, I l), (8, Bo true), (9, Bo y.2.2.1)]) (fun (y : Nat × Nat × Bool × Array Rank) => rkS b y.2.2.2.toList junk) (fun (y : Nat × Nat × Bool × Array Rank) => Stl n d y.1 y.2.1 y.2.2.2) (fun (y : Nat × Nat × Bool × Array Rank) => y.2.1 - y.1) (0, n, true, d) yS (fun b o e => by exact e) ⟨hd, Sort.permIn_refl _ _ _, ⟨Nat.zero_le _, Nat.le_refl _⟩, fun i j h => by omega, fun i j h1 h2 h3 => by dsimp only at h2; omega⟩ (fun y B hI hB => ?_); try dsimp only at hI hB; simp only [zas, zaw]
 obtain ⟨a, e, wp, D⟩ := y
 dsimp only at hI hB ⊢
 have q1 := hI.sz; have q2 := hI.ae
 have hA := yof q1 (ApartK.perm hd hu ⟨Nat.zero_le _, Nat.le_refl _⟩ hI.perm)
 have hB0 := hB
 clear hB
 by_cases hle : (e : Int) - a ≤ 12
 ·clear hB0
  have hin := zuq b cap n D junk q1 (a := a) (e := e) q2 hn
  have k := Sort.insertionSort_holds lessK_swo D a e q2.1 (by omega)
  have k2 := (hI.turn k.1).end_ k.2
  repeat' (first | (with_reducible first | refine zac yU yU yE ?_ | refine zab ?_ | refine DS.seq ?_ | refine zaa ?_ | (refine zbd yE ?_; refine zde ?_) | refine DS.block ?_) | fail)
  refine zdv inferInstance hin yR yH (fun u S' hu => ?_)
  subst hu
  repeat' (first | with_reducible refine zab ?_ | fail)
  exact zck yG ⟨_, k2.1, k2.2, rfl⟩
 have hcp := ztr b cap n D junk q1 hA (a := a) (e := e) (by omega) hn
 repeat' (first | (with_reducible first | refine zac yU yU yE ?_ | refine zab ?_ | refine DS.seq ?_ | refine zaa ?_ | (refine zbd yE ?_; first | refine zel (fun _ => ?_) (fun _ => ?_) | refine zdk ?_) | refine DS.block ?_ | refine DS.skip ?_) | fail)
 all_goals first | (exfalso; omega) | skip
 refine zdv inferInstance hcp yR yH (fun u S' hu => ?_)
 obtain ⟨p, i0, h, rfl, c1, c2, c3, c4, rfl⟩ := hu
 have hh2 : ¬ (h : Int) = 2 := by omega
 repeat' (first | (with_reducible first | refine zac yU yU yE ?_ | refine zab ?_ | refine DS.seq ?_ | refine zaa ?_) | fail)
 refine yso yE yR ?_
 refine DS.skip ?_
 refine DS.seq ?_
 refine ylq [(0, rkI b n cap), (1, I a), (2, I e), (3, I l), (8, Bo true), (9, Bo wp), (10, .v (.int .i64 ((e : Int) - a))), (11, I p)] (rkS b D.toList junk) ?_ ?_
 ·have hpi := zwj b cap n D junk q1 (a := a) (e := e) (by omega) hn
  repeat' (first | (with_reducible first | refine zac yU yU yE ?_ | refine zab ?_ | refine DS.seq ?_ | refine zaa ?_ | (refine zbd yE ?_; first | refine zel (fun _ => ?_) (fun _ => ?_) | refine zdk ?_) | (refine zdz yU yE ?_; first | refine GG.run ?_ | refine zfo ?_ | refine ytw (fun _ => ?_) (fun _ => ?_)) | refine DS.skip ?_) | fail)
  all_goals first | (refine DS.back ⟨yS, yS⟩; done) | skip
  ·refine zdv inferInstance hpi yR yH (fun u S' hu => ?_)
   obtain ⟨r, rfl, hr, rfl⟩ := hu
   cases r with
   | false =>
    repeat' (first | (with_reducible first | refine zab ?_ | (refine zbd yE ?_; refine zdk ?_) | refine DS.skip ?_) | fail)
    refine DS.back ⟨yS, yS⟩
   | true =>
    have k2 := hI.end_ (hr rfl)
    clear hB0
    repeat' (first | (with_reducible first | refine zab ?_ | (refine zbd yE ?_; refine zde ?_)) | fail)
    exact zck yG ⟨_, k2.1, k2.2, rfl⟩
 refine DS.seq ?_
 refine ylq [(0, rkI b n cap), (1, I a), (2, I e), (3, I l), (8, Bo true), (9, Bo wp), (10, .v (.int .i64 ((e : Int) - a))), (11, I p)] (rkS b D.toList junk) ?_ ?_
 ·by_cases ha0 : (0 : Int) < a
  ·have hlt := zjg b cap n D junk q1 (i := a - 1) (j := p) (by omega) (by omega) hn
   have hlt2 := (hA (a - 1) p (by omega) (by omega) (by omega)).resolve_right (by rw [hI.lo (a - 1) p (by omega) (by omega) (by omega)]; decide)
   have hj1 : ((a - 1 : Nat) : Int) = (a : Int) - 1 := by omega
   rw [hj1, hlt2] at hlt
   repeat' (first | (with_reducible first | refine zac yU yU yE ?_ | refine DS.seq ?_ | refine zaa ?_ | (refine zdz yU yE ?_; refine GG.run ?_)) | fail)
   refine DS.invoke inferInstance (zgn _ _ _) yH hlt yR yH (fun u S' hu => ?_)
   obtain ⟨rfl, rfl⟩ := hu
   repeat' (first | (with_reducible first | refine zac yU yU yE ?_ | refine zab ?_ | (refine zbd yE ?_; refine zdk ?_) | (refine zdz yU yE ?_; refine GG.run ?_) | refine DS.skip ?_) | fail)
   refine DS.back ⟨yS, yS⟩
  ·repeat' (first | (with_reducible first | refine zac yU yU yE ?_ | refine zab ?_ | refine DS.seq ?_ | refine zaa ?_ | (refine zbd yE ?_; refine zdk ?_) | (refine zdz yU yE ?_; refine zfo ?_) | refine DS.skip ?_) | fail)
   refine DS.back ⟨yS, yS⟩
 have hpt := zyn b cap n D junk q1 (a := a) (e := e) (p := p) (by omega) hn
 repeat' (first | (with_reducible first | refine zac yU yU yE ?_ | refine DS.seq ?_ | refine zaa ?_) | fail)
 refine zdv inferInstance hpt yR yH (fun u S' hu => ?_)
 obtain ⟨m, al, D', rfl, hP, rfl⟩ := hu
 have hm1 := hP.not_first q2.2 (i := i0) (by omega) c3
 have hm2 := hP.hi
 have hm3 := hP.sz
 have q8 : ((e : Int) - a).tdiv 8 = 1 := by rw [Int.tdiv_eq_ediv_of_nonneg (by omega)]; omega
 by_cases hsd : (m : Int) - a < (e : Int) - m
 ·have hmi : (1 : Int) ≤ (m : Int) - a := by omega
  have hsm := zrf b cap n D' junk hm3 l (a := a) (e := m) (by omega) (by omega) hn
  have k := Sort.insertionSort_holds lessK_swo D' a m (by omega) (by omega)
  repeat' (first | (with_reducible first | refine zac yU yU yE ?_ | refine zab ?_ | refine DS.seq ?_ | refine zaa ?_ | (refine zbd yE ?_; refine zde ?_)) | fail)
  refine zdv inferInstance hsm yR yH (fun u S' hu => ?_)
  subst hu
  repeat' (first | (with_reducible first | refine zac yU yU yE ?_ | refine zab ?_ | refine zaa ?_ | refine DS.blk ?_) | fail)
  refine DS.back (hB0 (m + 1, e, al, Sort.insertionSort zdh D' a m) _ _ (by dsimp only; omega) (hI.left hP k.1 k.2) yS yS (fun d o e => by exact e))
 ·have hmi : (1 : Int) ≤ (e : Int) - m := by omega
  have hsm := zrf b cap n D' junk hm3 l (a := m + 1) (e := e) (by omega) (by omega) hn
  have k := Sort.insertionSort_holds lessK_swo D' (m + 1) e (by omega) (by omega)
  rw [show ((m + 1 : Nat) : Int) = (m : Int) + 1 by omega] at hsm
  repeat' (first | (with_reducible first | refine zac yU yU yE ?_ | refine zab ?_ | refine DS.seq ?_ | refine zaa ?_ | (refine zbd yE ?_; refine zdk ?_)) | fail)
  refine zdv inferInstance hsm yR yH (fun u S' hu => ?_)
  subst hu
  repeat' (first | (with_reducible first | refine zac yU yU yE ?_ | refine zab ?_ | refine zaa ?_ | refine DS.blk ?_) | fail)
  refine DS.back (hB0 (a, m, al, Sort.insertionSort zdh D' (m + 1) e) _ _ (by dsimp only; omega) (hI.right hP k.1 k.2) yS yS (fun d o e => by exact e))
theorem zxx {n : Nat} (hs : n ≤ 15) : yoz n := fun b cap d junk hd hn hu => by
 have hln := yiv b cap d.toList junk
 rw [show d.toList.length = n by simpa using hd] at hln
 refine DC.of_run Tryz.func79 rfl Tryz.ntmps79 Tryz.results79 (by simp) (fun _ => ?_); simp only [zaq, zau, go_sem, Nat.zero_add, Nat.reduceAdd]
 repeat' (first | (with_reducible first | refine zac yU yU yE ?_ | refine DS.seq ?_ | refine zaa ?_) | fail)
 refine DS.invoke inferInstance (zzm _ _ _) yH hln yR yH (fun u S' hu => ?_)
 obtain ⟨rfl, rfl⟩ := hu
 have hw : IntKind.u64.wrap (n : Int) = n := ycj (by omega)
 repeat' (first | (with_reducible first | refine zac yU yU yE ?_ | refine zab ?_ | refine DS.seq ?_ | refine zaa ?_ | (refine zbd yE ?_; refine zel (fun _ => ?_) (fun _ => ?_)) | refine DS.skip ?_) | fail)
 ·rename_i e1
  exact zck yG ⟨d, Sort.permIn_refl _ _ _, fun i j h1 h2 h3 => by omega, rfl⟩
 ·refine DS.call (dst := some 10) [] (rkS b d.toList junk) inferInstance (ypv n (by omega) (by omega)) yR yH (fun _ _ e => by cases e) (fun _ _ e => ⟨e, rfl⟩) ?_
  rintro v Sg ⟨m, rfl, hm⟩ hdis
  refine zqk hdis ?_
  simp only [zcz]
  repeat' (first | (with_reducible first | refine zac yU yU yE ?_ | refine zab ?_ | refine zaa ?_) | fail)
  have hp := yro b cap n d junk hd hu m hm hs (by omega)
  refine zdv inferInstance hp yR yH (fun u S' hu => ?_)
  obtain ⟨e, k1, k2, rfl⟩ := hu
  repeat' (first | with_reducible refine zab ?_ | fail)
  exact zpo yG ⟨e, k1, k2, rfl⟩
end Go.XL
namespace Go.XL
open Go.Proofs
set_option maxRecDepth 100000
set_option maxHeartbeats 8000000
theorem yqa (n m : Int) (hn : In64 n) (hm : 1 ≤ m ∧ m ≤ 1000000) : PC Tryz.prog 26 [I n, I m] (I (n % m)) := by
 have h1 := Int.emod_nonneg n (show m ≠ 0 by omega)
 have h2 := Int.emod_lt_of_pos n (show 0 < m by omega)
 have h3 : n.tmod m < m := Int.tmod_lt_of_pos n (show 0 < m by omega)
 have h4 : -m < n.tmod m := Int.lt_tmod_of_pos n (show 0 < m by omega)
 have h5 : n % m = n.tmod m ∨ n % m = n.tmod m + m := by
  rw [Int.tmod_eq_emod]
  split <;> omega
 refine DC.of_run Tryz.func26 rfl Tryz.ntmps26 Tryz.results26 (by simp) (fun _ => ?_); simp only [zaq, zau, go_sem, Nat.zero_add, Nat.reduceAdd]
 repeat' (first | (with_reducible first | refine zac yU yU yE ?_ | refine zab ?_ | refine DS.seq ?_ | refine zaa ?_ | (refine zbd yE ?_; refine zel (fun _ => ?_) (fun _ => ?_)) | refine DS.skip ?_) | refine zbi [] yE trivial ?_ | fail)
 ·have h6 : n.tmod m + m = n % m := by omega
  rw [h6]; rfl
 ·have h6 : n.tmod m = n % m := by omega
  rw [h6]; rfl
end Go.XL
namespace Go.XL
open Go.Proofs
set_option maxRecDepth 100000
set_option maxHeartbeats 4000000
theorem yrp {F : Fence} {n : Nat} {P : Program} {o : Oper} {a : Act} {w : World} {K K' : Act → World → Prop} {Q Q' : Exit → Act → World → Prop} (h : ∀ a w, K a w → K' a w) (hq : ∀ e a w, Q e a w → Q' e a w)
  (hh : o.wpIn F n P a w K Q) : o.wpIn F n P a w K' Q' := by
 unfold Oper.wpIn at *
 refine ⟨hh.1, ?_⟩
 have hh := hh.2
 generalize (o.semAt F.round a.eval).run P w = r at *
 cases r with
 | ok x w' =>
  cases x <;> simp only [Oper.uponIn] at hh ⊢ <;>
   first
    | exact h _ _ hh
    | exact ⟨hh.1, CallsIn.mono hh.2 (fun e w'' he => by cases e <;> first | exact h _ _ he | exact hq _ _ _ he | exact he.elim fun a h1 => h1.elim fun w h2 => ⟨a, w, hq _ _ _ h2⟩)⟩
    | exact ⟨hh.1, RowsIn.mono hh.2 (fun _ _ he => h _ _ he)⟩
    | exact ⟨hh.1, RoundIn.mono hh.2 (fun e w'' he => by cases e <;> first | exact h _ _ he | exact hq _ _ _ he | exact he.elim fun a h1 => h1.elim fun w h2 => ⟨a, w, hq _ _ _ h2⟩)⟩
 | halt x w' => cases x <;> simp only [Oper.uponIn] at hh ⊢ <;> first | exact hq _ _ _ hh | exact hh
theorem zvp {r : Option Nat} {P : Program} {ops : Array Oper} {Q Q' : Exit → Act → World → Prop} (hq : ∀ e a w, Q e a w → Q' e a w) : ∀ (l : List Oper) (a : Act) (w : World), wpL r P ops Q l a w → wpL r P ops Q' l a w
 | [], a, w, h => hq _ _ _ h
 | o :: l, a, w, h => by
  unfold wpL at h ⊢
  split at h
  ·rename_i hw; rw [if_pos hw]; exact yrp (zvp hq l) hq h
  ·rename_i hw; rw [if_neg hw]; exact zvp hq l _ _ h
def dis (F S : Sto) : Prop := ∀ b o, zad S b = some o → zad F b = none
def frK (F : Sto) : Fr → Fr
 | .back B => .back fun E S => dis F S → B E (S ++ F)
 | .rnd B => .rnd fun e E S => dis F S → B e E (S ++ F)
 | x => x
theorem zfz {P : Program} {n : Nat} {r : Rr} {K K' : Bs} {W : World} {Q : VEnv → Sto → Prop} {F : Sto}
  (hc : ∀ E S a w, StA n r K' E S a w → StA n r K E (S ++ F) a w ∧ dis F S) : ∀ (k : List Fr) (e : Exit) (a : Act) (w : World),
  ksem P n r K' W (fun E S => dis F S → Q E (S ++ F)) (k.map (frK F)) e a w → ksem P n r K W Q k e a w
 | [], e, a, w, h => by
  cases e with
  | normal => obtain ⟨E, S, h1, h2, h3⟩ := h; exact ⟨E, S ++ F, (hc _ _ _ _ h1).1, h2, h3 (hc _ _ _ _ h1).2⟩
  | ret => obtain ⟨E, S, h1, h2, h3⟩ := h; exact ⟨E, S ++ F, (hc _ _ _ _ h1).1, h2, h3 (hc _ _ _ _ h1).2⟩
  | _ => exact h
 | .code c :: k, e, a, w, h => by
  cases e with
  | normal => exact wpIn_mono h fun e a w t => zfz hc k e a w t
  | _ => exact zfz hc k _ a w h
 | .ops ops l :: k, e, a, w, h => by
  cases e with
  | normal => exact zvp (fun e a w t => zfz hc k e a w t) l a w h
  | _ => exact zfz hc k _ a w h
 | .blk id :: k, e, a, w, h => by
  cases e with
  | exit i =>
   have h' : (if i = id then ksem P n r K' W (fun E S => dis F S → Q E (S ++ F)) (k.map (frK F)) .normal a w else ksem P n r K' W (fun E S => dis F S → Q E (S ++ F)) (k.map (frK F)) (.exit i) a w) := h
   show (if i = id then ksem P n r K W Q k .normal a w else ksem P n r K W Q k (.exit i) a w)
   split
   ·rename_i hi; rw [if_pos hi] at h'; exact zfz hc k _ a w h'
   ·rename_i hi; rw [if_neg hi] at h'; exact zfz hc k _ a w h'
  | _ => exact zfz hc k _ a w h
 | .back B :: k, e, a, w, h => by
  cases e with
  | normal => obtain ⟨E, S, h1, h2, h3⟩ := h; exact ⟨E, S ++ F, (hc _ _ _ _ h1).1, h2, h3 (hc _ _ _ _ h1).2⟩
  | _ => exact zfz hc k _ a w h
 | .rnd B :: k, e, a, w, h => by
  cases e with
  | normal => obtain ⟨E, S, h1, h2, h3⟩ := h; exact ⟨E, S ++ F, (hc _ _ _ _ h1).1, h2, h3 (hc _ _ _ _ h1).2⟩
  | ret => obtain ⟨E, S, h1, h2, h3⟩ := h; exact ⟨E, S ++ F, (hc _ _ _ _ h1).1, h2, h3 (hc _ _ _ _ h1).2⟩
  | exit id => obtain ⟨E, S, h1, h2, h3⟩ := h; exact ⟨E, S ++ F, (hc _ _ _ _ h1).1, h2, h3 (hc _ _ _ _ h1).2⟩
  | _ => exact h
open Classical in
theorem StA.frame {n : Nat} {r : Rr} {K0 : Bs} {E : VEnv} {S S1 F : Sto} {a : Act} {w : World} (hs : StA n r K0 E S a w) (h1 : ∀ b o, zad S1 b = some o → zad S b = some o) (h2 : ∀ b o, zad F b = some o → zad S b = some o ∧ zad S1 b = none) :
  ∃ K1, StA n r K1 E S1 a w ∧ ∀ E' S' a' w', StA n r K1 E' S' a' w' → StA n r K0 E' (S' ++ F) a' w' ∧ dis F S' := by
 obtain ⟨K, D, hv, hold, env, hb, ha, s⟩ := hs
 let foot : Nat → Prop := fun b => (∃ o, zad F b = some o) ∨ ∃ b1 off o, hold b = some (.cell b1 off) ∧ zad F b1 = some o ∧ hv b ≠ none
 have fB : ∀ {b}, foot b → ¬ K.B b := fun {b} hf hB => by
  rcases hf with ⟨o, e⟩ | ⟨b1, off, o, e, -, -⟩
  ·exact (s.obj b o (h2 b o e).1).1 hB
  ·exact s.held b _ e hB
 have flt : ∀ {b}, foot b → b < w.heap.size := fun {b} hf => by
  rcases hf with ⟨o, e⟩ | ⟨b1, off, o, e, -, e3⟩
  ·exact Ob.lt (s.obj b o (h2 b o e).1).2.2
  ·cases hx : hv b with
   | none => exact absurd hx e3
   | some ob =>
    obtain ⟨o', q1, -⟩ := s.pre b ob hx
    exact (Array.getElem?_eq_some_iff.1 q1).1
 let K1 : Bs := ⟨fun b => K0.B b ∨ foot b, w.heap, hv⟩
 let K2 : Bs := ⟨fun b => K.B b ∨ foot b, w.heap, hv⟩
 have hb1 : Bx r K1 K2 D := ⟨hb.floor s, fun b h => h.imp (hb.sub b) id, Nat.le_refl _, fun _ _ => rfl, PreV.refl _, fun _ _ => rfl, fun b h => h.elim (fun h => Nat.lt_of_lt_of_le (hb.lt b h) (Nat.le_trans hb.sz s.base.2.1)) flt, fun d hd => by
  obtain ⟨g, q1, q2, q3, q4, q5⟩ := hb.marks d hd
  exact ⟨g, q1, .inl q2, fun h => h.elim q3 fun h => fB h q2, (s.vbase.2 g q2).trans q4, (s.base.2.2 g q2).trans q5⟩, hb.nodup⟩
 have s1 : St K2 hv (fun g => if foot g then none else hold g) E S1 env w.heap := by
  refine ⟨s.pre, fun t v e => ?_, fun b o e => ?_, fun g x e => ?_, ⟨fun b h => h.elim (fun h => Nat.lt_of_lt_of_le (s.base.1 b h) s.base.2.1) flt, Nat.le_refl _, fun _ _ => rfl⟩, PreV.refl _, fun _ _ => rfl⟩
  ·obtain ⟨y, q1, q2, q3⟩ := s.slot t v e
   refine ⟨y, q1, q2, q3.keep fun g ob a1 a2 a3 => ⟨rfl, rfl, ?_⟩⟩
   have hn : ¬ foot g := by
    rintro (⟨o, e⟩ | ⟨b1, off, o, e, -, -⟩)
    ·have := (s.obj g o (h2 g o e).1).2.1; rw [this] at a2; cases a2
    ·rw [a1] at e; cases e
   show (if foot g then none else hold g) = _
   rw [if_neg hn]; exact a1
  ·obtain ⟨q1, q2, q3⟩ := s.obj b o (h1 b o e)
   refine ⟨fun h => h.elim q1 ?_, q2, Ob.keep q3 (PreV.refl _) rfl fun g i ob a1 a2 a3 => ⟨rfl, rfl, ?_⟩⟩
   ·rintro (⟨o', e'⟩ | ⟨b1, off, o', e', -, e3⟩)
    ·have := (h2 b o' e').2; rw [this] at e; cases e
    ·exact e3 q2
   ·have hn : ¬ foot g := by
     rintro (⟨o', e'⟩ | ⟨b1, off, o', e', e2, -⟩)
     ·have := (s.obj g o' (h2 g o' e').1).2.1; rw [this] at a2; cases a2
     ·rw [a1] at e'; cases e'; have := (h2 b o' e2).2; rw [this] at e; cases e
    show (if foot g then none else hold g) = _
    rw [if_neg hn]; exact a1
  ·have e' : (if foot g then none else hold g) = some x := e
   split at e'
   ·cases e'
   ·rename_i hf; exact fun h => h.elim (s.held g x e') hf
 refine ⟨K1, ⟨K2, D, hv, _, env, hb1, ha, s1⟩, ?_⟩
 rintro E' S' a' w' ⟨K3, D3, hv3, hold3, env3, hb3, ha3, s3⟩
 have k1 : ∀ {b}, K1.B b → K3.B b := fun {b} h => hb3.sub b h
 have vb : ∀ {b}, K1.B b → hv3 b = hv b := fun {b} h => (s3.vbase.2 b (k1 h)).trans (hb3.hv b h)
 have hp : ∀ {b}, K1.B b → w'.heap[b]? = w.heap[b]? := fun {b} h => (s3.base.2.2 b (k1 h)).trans (hb3.h0 b h)
 have hd : dis F S' := fun b o e => by
  cases e2 : zad F b with
  | none => rfl
  | some o2 => exact absurd (k1 (.inr (.inl ⟨o2, e2⟩))) (s3.obj b o e).1
 have pv : PreV hv hv3 := hb3.pv.trans s3.vbase.1
 refine ⟨⟨⟨fun b => K3.B b ∧ ¬ foot b, K3.h0, K3.hv0⟩, D3, hv3, fun g => if foot g then hold g else hold3 g, env3, ⟨hb.fl, fun b h => ⟨k1 (.inl h), fun hf => fB hf (hb.sub b h)⟩, Nat.le_trans hb.sz (Nat.le_trans s.base.2.1 hb3.sz), fun b h => ?_, hb.pv.trans (s.vbase.1.trans hb3.pv), fun b h => ?_, hb.lt, fun d hd => ?_, hb3.nodup⟩, ha3, ?_⟩, hd⟩
 ·exact ((hb3.h0 b (.inl h)).trans (s.base.2.2 b (hb.sub b h))).trans (hb.h0 b h)
 ·exact ((hb3.hv b (.inl h)).trans (s.vbase.2 b (hb.sub b h))).trans (hb.hv b h)
 ·obtain ⟨g, q1, q2, q3, q4, q5⟩ := hb3.marks d hd
  exact ⟨g, q1, ⟨q2, fun hf => q3 (.inr hf)⟩, fun h => q3 (.inl h), q4, q5⟩
 ·refine ⟨s3.pre, fun t v e => ?_, fun b o e => ?_, fun g x e => ?_, ⟨fun b h => s3.base.1 b h.1, s3.base.2.1, fun b h => s3.base.2.2 b h.1⟩, s3.vbase.1, fun b h => s3.vbase.2 b h.1⟩
  ·obtain ⟨y, q1, q2, q3⟩ := s3.slot t v e
   refine ⟨y, q1, q2, q3.keep fun g ob a1 a2 a3 => ⟨rfl, rfl, ?_⟩⟩
   show (if foot g then hold g else hold3 g) = _
   rw [if_neg fun hf => s3.held g _ a1 (k1 (.inr hf))]; exact a1
  ·rw [zbr] at e
   cases e1 : zad S' b with
   | some o' =>
    rw [e1] at e; simp only [Option.some.injEq] at e; subst e
    obtain ⟨q1, q2, q3⟩ := s3.obj b _ e1
    refine ⟨fun h => q1 h.1, q2, Ob.keep q3 (PreV.refl _) rfl fun g i ob a1 a2 a3 => ⟨rfl, rfl, ?_⟩⟩
    show (if foot g then hold g else hold3 g) = _
    rw [if_neg fun hf => s3.held g _ a1 (k1 (.inr hf))]; exact a1
   | none =>
    rw [e1] at e
    have hf : foot b := .inl ⟨o, e⟩
    obtain ⟨q1, q2, q3⟩ := s.obj b o (h2 b o e).1
    refine ⟨fun h => h.2 hf, by rw [vb (.inr hf)]; exact q2, Ob.keep q3 pv (hp (.inr hf)) fun g i ob a1 a2 a3 => ?_⟩
    have hg : foot g := .inr ⟨b, i, o, a1, e, by rw [a2]; simp⟩
    exact ⟨hp (.inr hg), vb (.inr hg), by show (if foot g then hold g else hold3 g) = _; rw [if_pos hg]; exact a1⟩
  ·intro h
   have e' : (if foot g then hold g else hold3 g) = some x := e
   rw [if_neg h.2] at e'
   exact s3.held g x e' h.1
theorem yoo {P : Program} {n : Nat} {r : Rr} {Q : VEnv → Sto → Prop} {k : List Fr} {E : VEnv} {S : Sto} (S1 F : Sto) (h1 : ∀ b o, zad S1 b = some o → zad S b = some o) (h2 : ∀ b o, zad F b = some o → zad S b = some o ∧ zad S1 b = none)
  (q : DS P n r (fun E S => dis F S → Q E (S ++ F)) (k.map (frK F)) E S1) : DS P n r Q k E S := fun K W a w hs hw => by
 obtain ⟨K1, q1, q2⟩ := hs.frame h1 h2
 exact zfz q2 k _ a w (q K1 W a w q1 hw)
theorem DS.mono {P : Program} {n : Nat} {r : Rr} {Q Q' : VEnv → Sto → Prop} (hq : ∀ E S, Q E S → Q' E S) {k : List Fr} {E : VEnv} {S : Sto} (q : DS P n r Q k E S) : DS P n r Q' k E S := by
 have key : ∀ (K : Bs) (W : World) (k : List Fr) (e : Exit) (a : Act) (w : World), ksem P n r K W Q k e a w → ksem P n r K W Q' k e a w := by
  intro K W k
  induction k with
  | nil => intro e a w h; cases e <;> first | exact h | (obtain ⟨E, S, h1, h2, h3⟩ := h; exact ⟨E, S, h1, h2, hq _ _ h3⟩)
  | cons x k ih =>
   intro e a w h
   cases x with
   | code c => cases e <;> first | exact ih _ _ _ h | exact wpIn_mono h ih
   | ops ops l => cases e <;> first | exact ih _ _ _ h | exact zvp ih l a w h
   | blk id =>
    cases e <;> first | exact ih _ _ _ h | skip
    rename_i i
    have h' : (if i = id then ksem P n r K W Q k .normal a w else ksem P n r K W Q k (.exit i) a w) := h
    show (if i = id then ksem P n r K W Q' k .normal a w else ksem P n r K W Q' k (.exit i) a w)
    split
    ·rename_i hi; rw [if_pos hi] at h'; exact ih _ _ _ h'
    ·rename_i hi; rw [if_neg hi] at h'; exact ih _ _ _ h'
   | back B => cases e <;> first | exact ih _ _ _ h | exact h
   | rnd B => cases e <;> exact h
 exact fun K W a w hs hw => key K W k _ a w (q K W a w hs hw)
theorem ylr {P : Program} {n : Nat} {r : Rr} {a T : Nat} {R : V → Sto → Prop} {k : List Fr} {E : VEnv} {S : Sto} (S1 F : Sto) (h1 : ∀ b o, zad S1 b = some o → zad S b = some o) (h2 : ∀ b o, zad F b = some o → zad S b = some o ∧ zad S1 b = none)
  (hk : k.map (frK F) = k) (q : DS P n r (FinC P a T fun u S' => dis F S' → R u (S' ++ F)) k E S1) : DS P n r (FinC P a T R) k E S := by
 refine yoo S1 F h1 h2 ?_
 rw [hk]
 refine DS.mono (fun E S h hd => ?_) q
 obtain ⟨c, T', b, m, S', q1, q2, q3, q4, q5, q6⟩ := h
 have hd' : dis F S' := fun b o e => hd b o (q5 b o e)
 refine ⟨c, T', b, m, S' ++ F, q1, by rw [zbr, q2], q3, q4, fun b o e => ?_, q6 hd'⟩
 rw [zbr] at e ⊢
 cases e1 : zad S' b with
 | some o' => rw [e1] at e; rw [q5 b _ e1]; exact e
 | none =>
  rw [e1] at e
  cases e2 : zad S b with
  | none => exact e
  | some o2 => have := hd b o2 e2; rw [show zad F b = _ from e] at this; cases this
end Go.XL
namespace Go.XL
open Go.Proofs
set_option maxRecDepth 100000
set_option maxHeartbeats 8000000
abbrev gN (c : Club) (m v : V) : List V := [I c.size, I c.start, I c.absent, I c.window, ints c.places, Bo c.share, m, v]
def CpM (c : Club) (u : V) (S' : Sto) : Prop := ∃ gm g : GR, u = .agg (gN c gm.cell g.cell) ∧ gm.Ok 47 4 S' ∧ gm.l = c.members.map Member.cells ∧ g.Ok 61 3 S' ∧ g.l = c.rounds.map Sitting.cells
abbrev cpN (c : Club) (m v : V) : List V := [I c.size, I c.start, I c.absent, I c.window, .own false 3 1 (c.places.map cI), Bo c.share, m, v]
def CpR (c : Club) (m : V) (u : V) (S' : Sto) : Prop := ∃ g : GR, u = .agg (gN c m g.cell) ∧ g.Ok 61 3 S' ∧ g.l = c.rounds.map Sitting.cells
theorem yca {e sz : Nat} {S : Sto} {g : GR} (h : g.Ok e sz S) {b : Nat} {o : Ob} (k : zad (SR e g) b = some o) : zad S b = some o := by
 obtain ⟨l, blk⟩ := g
 cases blk with
 | none => cases k
 | some x =>
  obtain ⟨b1, cap, j⟩ := x
  have k' : (if b1 = b then some (Ob.cells (l.flatten ++ j) e) else none) = some o := k
  split at k'
  ·rename_i hb; subst hb; cases k'; exact GR.At.look h
  ·cases k'
theorem GR.Ok.mono {e sz : Nat} {S S' : Sto} {g : GR} (h : g.Ok e sz S) (k : ∀ b o, zad (SR e g) b = some o → zad S' b = some o) : g.Ok e sz S' := by
 obtain ⟨l, blk⟩ := g
 cases blk with
 | none => exact h
 | some x =>
  obtain ⟨b1, cap, j⟩ := x
  have h' : GR.At e sz S l b1 cap j := h
  exact (⟨k b1 _ (by simp [SR, zad]), h'.len, h'.le, h'.cap, h'.jf, h'.lf, h'.ll⟩ : GR.At e sz S' l b1 cap j)
theorem yol {P : Program} {n : Nat} {r : Rr} {a T : Nat} {R R' : V → Sto → Prop} {k : List Fr} {E : VEnv} {S : Sto} (h : ∀ u S', R u S' → R' u S') (q : DS P n r (FinC P a T R) k E S) : DS P n r (FinC P a T R') k E S :=
 DS.mono (fun E S ⟨c, T', b, m, S', q1, q2, q3, q4, q5, q6⟩ => ⟨c, T', b, m, S', q1, q2, q3, q4, q5, h _ _ q6⟩) q
theorem yta {c : Club} {gm : GR} {S : Sto} (h : gm.Ok 47 4 S) (hl : gm.l = c.members.map Member.cells := by rfl) {u : V} {S' : Sto} (k : CpR c gm.cell u S') (hd : dis (SR 47 gm) S') : CpM c u (S' ++ SR 47 gm) := by
 obtain ⟨g, rfl, g2, g3⟩ := k
 refine ⟨gm, g, rfl, h.mono fun b o e => ?_, hl, g2.mono fun b o e => ykw (yca g2 e), g3⟩
 cases e2 : zad S' b with
 | none => rw [zbr, e2]; exact e
 | some o2 => have := hd b o2 e2; rw [e] at this; cases this
theorem GR.cell_slice (g : GR) : ∃ p n m, g.cell = .v (.slice p n m) := by
 obtain ⟨l, blk⟩ := g
 cases blk <;> exact ⟨_, _, _, rfl⟩
theorem ynv (c : Club) (hs : c.Small) : DC Tryz.prog 11 [c.val] [] (CpM c) := by
 have q1 := hs.rounds
 have q2 := hs.members
 have q3 := hs.places
 refine DC.of_runC Tryz.func11 rfl Tryz.ntmps11 Tryz.results11 (by simp) rfl (fun _ => ?_); simp only [zaq, zau, go_sem, Nat.zero_add, Nat.reduceAdd]
 repeat' (first | (with_reducible first | refine DS.seq ?_ | refine zaa ?_) | (with_reducible refine zkq yU yE yU (fun _ hfr => ?_); have hfr := zkk hfr; simp only [zhj, zim, and_true] at hfr; simp only [zbu, zcx, zbt, zcj, zbq, zbm, zbx, zbp, zcr, zcv, zcd, zcu, zch, zcg]) | fail)
 rename_i b1 hb1
 refine zeh yR yU yU (fun b2 h2 => ?_)
 have n1 : ¬ b1 = b2 := fun e => by rw [zae, if_pos e] at h2; cases h2
 have n1' : ¬ b2 = b1 := fun e => n1 e.symm
 clear h2 hb1
 have e0 : (Value.agg #[.int .i64 0, .int .i64 0, .int .i64 0, .int .i64 0, .slice none 0 0, .bool false, .slice none 0 0, .slice none 0 0]).cells.toList.map V.v = zeb := rfl
 rw [e0]
 clear e0
 repeat' (first | (with_reducible first | refine zab ?_ | refine DS.seq ?_) | fail)
 have e3 : [V.v (.int .i64 c.size), V.v (.int .i64 c.start), V.v (.int .i64 c.absent), V.v (.int .i64 c.window), V.lst (c.places.map cI), V.v (.bool c.share), V.lst (c.members.map Member.cells), V.lst (c.rounds.map Sitting.cells)] = gN c (.lst (c.members.map Member.cells)) (.lst (c.rounds.map Sitting.cells)) := rfl
 rw [e3]
 clear e3
 refine zoy (id := 1) [(b2, .cells zeb 26), (b1, .cells (gN c (.lst (c.members.map Member.cells)) (.lst (c.rounds.map Sitting.cells))) 26)] [] [] [0, 1, 2, 3, 4, 6, 5] 7 rfl (by kernel_rfl) (by decide) zdq (fun _ _ e => ⟨e, rfl⟩) (fun _ _ e => by cases e)
  rfl (by simp only [zbb, zbe, zbf, zbg, zba]; exact rfl) (by simp only [zax, zay, List.drop_nil]; exact rfl) ?_
 repeat' (first | with_reducible refine zbw yU yU yU yE ?_ | refine zpa inferInstance (zwt c.places (by omega)) yU yF ?_; simp only [zcc, zcm, Nat.reduceEqDiff, ↓reduceIte] | fail)
 refine znh rfl rfl rfl yR (zxk (g := ⟨[], none⟩) (ml := c.members.map Member.cells) rfl yH yH yR yR (by decide) yH rfl yH yH (by intro x hx; obtain ⟨y, -, rfl⟩ := List.mem_map.1 hx; rfl) ⟨by simp only [List.length_map, List.length_nil]; omega, by decide⟩) (fun u2 E' Sg hu2 hdis => ?_)
 obtain ⟨rfl, ⟨R, blk⟩, rfl, gl0, gok, -, -⟩ := hu2
 obtain rfl : R = c.members.map Member.cells := by rw [show R = _ from gl0, List.nil_append, List.map_map]; rfl
 clear gl0
 simp only [zcz]
 have hF := fun b o e => yca (S := Sg) (g := ⟨c.members.map Member.cells, blk⟩) gok (b := b) (o := o) e
 refine ylr [(b2, .cells zeb 26), (b1, .cells (gN c (.lst (c.members.map Member.cells)) (.lst (c.rounds.map Sitting.cells))) 26)] (SR 47 ⟨c.members.map Member.cells, blk⟩) (fun b o e => ztu hdis e) (fun b o e => ⟨ykw (hF b o e), by cases e2 : zad [(b2, Ob.cells zeb 26), (b1, .cells (gN c (.lst (c.members.map Member.cells)) (.lst (c.rounds.map Sitting.cells))) 26)] b with | none => rfl | some o2 => have h3 := hdis b o2 e2; rw [hF b o e] at h3; cases h3⟩) rfl ?_
 refine yol (R := CpR c (GR.cell ⟨c.members.map Member.cells, blk⟩)) (fun u S' => yta gok) ?_
 clear hF gok hdis
 obtain ⟨x1, x2, x3, hx⟩ := GR.cell_slice ⟨c.members.map Member.cells, blk⟩
 rw [hx]
 clear hx
 repeat' (first | (with_reducible first | refine zac yU yU yX45 ?_ | refine zab ?_ | refine DS.seq ?_ | refine zaa ?_) | (refine DS.store yR yX45 yX45 yX45 yX45 yU (by exact ⟨by with_unfolding_all rfl, by (try simp only [List.length_map, List.length_append, List.length_set, List.length_replicate, List.length_cons, List.length_nil]); omega⟩) ?_; simp only [zbo, zav, zaz, zbz, zbl, zbj, zbk]; try simp only [zao, zaf, zah, Nat.reduceEqDiff, ↓reduceIte, zak, zal, zar, zaj, zai, zap, zam]) | fail)
 simp only [setS, n1, n1', ↓reduceIte, zcl, zby, List.nil_append]
 refine zea rfl rfl yR (zxk (g := ⟨[], none⟩) (ml := c.rounds.map Sitting.cells) rfl yH yH yR yR (by decide) yH rfl yH yH (by intro x hx; obtain ⟨y, -, rfl⟩ := List.mem_map.1 hx; rfl) ⟨by simp only [List.length_map, List.length_nil]; omega, by decide⟩) (fun u2 E' S4 hu2 => ?_)
 obtain ⟨rfl, ⟨R, blk⟩, rfl, gl0, gok, m2, m3⟩ := hu2
 obtain rfl : R = c.rounds.map Sitting.cells := by rw [show R = _ from gl0, List.nil_append, List.map_map]; rfl
 clear gl0
 simp only [zcz]
 cases blk with
 | none =>
  have h0 : c.rounds = [] := List.map_eq_nil_iff.1 gok
  have f1 := m3 b1 (fun _ _ h => by cases h) (fun _ _ h => by cases h)
  have f2 := m3 b2 (fun _ _ h => by cases h) (fun _ _ h => by cases h)
  simp only [zae, n1', ↓reduceIte] at f1 f2
  refine zer (S' := [(b1, .cells (cpN c (.v (.slice x1 x2 x3)) (.lst (c.rounds.map Sitting.cells))) 26), (b2, .cells zeb 26)]) (zfm ⟨f1, f2, trivial⟩) ?_
  clear m2 m3 gok f1 f2
  simp only [GR.cell_none]
  repeat' (first | (with_reducible first | refine zac yU yU yE ?_ | refine zab ?_ | refine DS.seq ?_ | refine zaa ?_ | refine DS.block ?_) | (refine DS.store yR yE yE yE yE yU (by exact ⟨by with_unfolding_all rfl, by (try simp only [List.length_map, List.length_append, List.length_set, List.length_replicate, List.length_cons, List.length_nil]); omega⟩) ?_; simp only [zbo, zav, zaz, zbz, zbl, zbj, zbk]; try simp only [zao, zaf, zah, Nat.reduceEqDiff, ↓reduceIte, zak, zal, zar, zaj, zai, zap, zam]) | fail)
  simp only [setS, n1, n1', ↓reduceIte, zcl, zby]
  refine zng (b := b1) V.copy (fun _ _ _ h => V.copy_Rl h) zgv (by simp only [zae, n1, n1', ↓reduceIte]; exact rfl) ?_
  simp only [setS, n1, n1', ↓reduceIte]
  refine zcq [1, 2] yN (fun (y : Nat) => [(3, I y)]) (fun (y : Nat) => [(b1, .cells (gN c (.v (.slice x1 x2 x3)) (.v (.slice none 0 0))) 26), (b2, .cells zeb 26)]) (fun (y : Nat) => y = 0) (fun (y : Nat) => y) 0 yS (fun b o e => by exact e) rfl (fun y B hI hB => ?_); try dsimp only at hI hB; simp only [zas, zaw]
  subst hI
  refine zir (t := 1) yE yE ?_; simp only [zbn, zbs, ↓reduceIte, *, zbq, zbm, zbx, zbp, zcr, zcv, zcd, zcu]
  repeat' (first | (refine yew (t := 78) yU yE yU (by simp only [List.length_cons, List.length_nil]; omega) ?_; simp only [List.take_succ_cons, List.take_zero, List.map_cons, List.map_nil, zbx, zbp, zcr, Nat.reduceAdd]) | (with_reducible first | refine zac yU yU yE ?_ | refine zab ?_ | refine DS.seq ?_ | refine zaa ?_ | (refine zbd yE ?_; refine zdk ?_) | refine DS.exit yU ?_) | (refine DS.store yR yE yE yE yE yU (by exact ⟨by with_unfolding_all rfl, by (try simp only [List.length_map, List.length_append, List.length_set, List.length_replicate, List.length_cons, List.length_nil]); omega⟩) ?_; simp only [zbo, zav, zaz, zbz, zbl, zbj, zbk]; try simp only [zao, zaf, zah, Nat.reduceEqDiff, ↓reduceIte, zak, zal, zar, zaj, zai, zap, zam]) | fail)
  simp only [setS, n1, n1', ↓reduceIte, zav, zaz, zby, zcl, zeb, Nat.reduceAdd, Nat.zero_add]
  refine yce [] yH yH yH yH (fun d o e => by cases e) ⟨⟨[], none⟩, rfl, rfl, by first | rfl | (rw [h0]; rfl)⟩
 | some z =>
 obtain ⟨b, cap, junk⟩ := z
 have k1 := gok.look
 have k2 := gok.le
 have k3 := gok.cap
 have k4 := gok.len
 rw [List.length_map] at k2 k4
 simp only [GR.cell_some, List.length_map]
 have hn := (m2 b cap junk rfl).resolve_left (fun ⟨_, _, h⟩ => by cases h)
 have e1 : ¬ b = b1 := fun h => by rw [h, zae, if_neg n1', zae, if_pos rfl] at hn; cases hn
 have e2 : ¬ b = b2 := fun h => by rw [h, zae, if_pos rfl] at hn; cases hn
 have e1' : ¬ b1 = b := fun h => e1 h.symm
 have e2' : ¬ b2 = b := fun h => e2 h.symm
 have f1 := m3 b1 (fun _ _ h => by cases h; exact e1 rfl) (fun _ _ h => by cases h)
 have f2 := m3 b2 (fun _ _ h => by cases h; exact e2 rfl) (fun _ _ h => by cases h)
 simp only [zae, n1', ↓reduceIte] at f1 f2
 refine zer (S' := [(b1, .cells (cpN c (.v (.slice x1 x2 x3)) (.lst (c.rounds.map Sitting.cells))) 26), (b2, .cells zeb 26), (b, .cells ((c.rounds.map Sitting.cells).flatten ++ junk) 61)]) (zfm ⟨f1, f2, k1, trivial⟩) ?_
 clear hn m2 m3 gok k1 f1 f2
 repeat' (first | (with_reducible first | refine zac yU yU yE ?_ | refine zab ?_ | refine DS.seq ?_ | refine zaa ?_ | refine DS.block ?_) | (refine DS.store yR yE yE yE yE yU (by exact ⟨by with_unfolding_all rfl, by (try simp only [List.length_map, List.length_append, List.length_set, List.length_replicate, List.length_cons, List.length_nil]); omega⟩) ?_; simp only [zbo, zav, zaz, zbz, zbl, zbj, zbk]; try simp only [zao, zaf, zah, Nat.reduceEqDiff, ↓reduceIte, zak, zal, zar, zaj, zai, zap, zam]) | fail)
 simp only [setS, ↓reduceIte, zcl, zby]
 refine zng (b := b1) V.copy (fun _ _ _ h => V.copy_Rl h) zgv (by simp only [zae, n1, n1', e1', ↓reduceIte]; exact rfl) ?_
 simp only [setS, n1, n1', ↓reduceIte]
 refine zcq [1, 2] yN (fun (y : Nat × List V) => [(3, I y.1)]) (fun (y : Nat × List V) => [(b1, .cells (gN c (.v (.slice x1 x2 x3)) (.v (.slice (some ⟨b, 0, none⟩) c.rounds.length cap))) 26), (b2, .cells zeb 26), (b, .cells y.2 61)]) (fun (y : Nat × List V) => y.1 ≤ c.rounds.length ∧ SitAt y.2 c.rounds ∧ y.2.length = cap * 3) (fun (y : Nat × List V) => c.rounds.length - y.1) (0, (c.rounds.map Sitting.cells).flatten ++ junk) yS (fun b o e => by exact e) ⟨Nat.zero_le _, yfp _ _, by rw [List.length_append, zll Sitting.len]; exact k4⟩ (fun y B hI hB => ?_); try dsimp only at hI hB; simp only [zas, zaw]
 obtain ⟨i, L⟩ := y
 dsimp only at hI hB ⊢
 have hB0 := hB
 clear hB
 obtain ⟨g1, g2, gl⟩ := hI
 by_cases hi : (i : Int) < (c.rounds.length : Int)
 ·have hi' : i < c.rounds.length := by omega
  have hsm := hs.round _ (List.getElem_mem hi')
  have hL := g2.len
  have h1 := g2.tab i hi'
  have h2 := g2.pts i hi'
  have h3 := g2.rul i hi'
  repeat' (first | (with_reducible first | refine zac yU yU yE ?_ | refine zab ?_ | refine DS.seq ?_ | refine zaa ?_ | (refine zbd yE ?_; refine zde ?_) | refine DS.block ?_ | refine DS.skip ?_) | fail)
  refine zoy (id := 7) [(b1, .cells (gN c (.v (.slice x1 x2 x3)) (.v (.slice (some ⟨b, 0, none⟩) c.rounds.length cap))) 26), (b2, .cells zeb 26), (b, .cells L 61)] [] [1, 2] [0, 3, 4, 5, 6, 7, 8, 9, 10, 11, 12, 13, 14, 15, 16, 17] 18 rfl (by kernel_rfl) (by decide) zdq (fun _ _ e => ⟨e, rfl⟩) (fun _ _ e => by cases e)
   ⟨_, _, _, _, _, _, rfl, rfl, yG, _, _, _, _, _, _, rfl, rfl, yG, rfl⟩ (by simp only [zbb, zbe, zbf, zbg, zba]; exact rfl) (by simp only [zax, zay, List.drop_nil]; exact rfl) ?_
  have q5 := hsm.rulings
  repeat' (first | with_reducible refine zbw yU yU yU yE ?_ | refine zpa inferInstance (ydm c.rounds[i].tables hsm.tables hsm.table) yU yF ?_; simp only [zcc, zcm, Nat.reduceEqDiff, ↓reduceIte] | refine zpa inferInstance (ydm c.rounds[i].points hsm.points hsm.point) yU yF ?_; simp only [zcc, zcm, Nat.reduceEqDiff, ↓reduceIte] | fail)
  refine znh rfl rfl rfl yR (zxk (g := ⟨[], none⟩) (ml := c.rounds[i].rulings.map Ruling.cells) rfl yH yH yR yR (by decide) yH rfl yH yH (by intro x hx; obtain ⟨y, -, rfl⟩ := List.mem_map.1 hx; rfl) ⟨by simp only [List.length_map, List.length_nil]; omega, by decide⟩) (fun u2 E' Sg hu2 hdis => ?_)
  obtain ⟨rfl, ⟨R, blk⟩, rfl, gl0, gok, -, -⟩ := hu2
  obtain rfl : R = c.rounds[i].rulings.map Ruling.cells := by rw [show R = _ from gl0, List.nil_append, List.map_map]; rfl
  clear gl0
  simp only [zcz]
  have l1 : zad [(b1, .cells (gN c (.v (.slice x1 x2 x3)) (.v (.slice (some ⟨b, 0, none⟩) c.rounds.length cap))) 26), (b2, .cells zeb 26), (b, .cells L 61)] b1 = some (.cells (gN c (.v (.slice x1 x2 x3)) (.v (.slice (some ⟨b, 0, none⟩) c.rounds.length cap))) 26) := by simp only [zae, ↓reduceIte]
  have l2 : zad [(b1, .cells (gN c (.v (.slice x1 x2 x3)) (.v (.slice (some ⟨b, 0, none⟩) c.rounds.length cap))) 26), (b2, .cells zeb 26), (b, .cells L 61)] b2 = some (.cells zeb 26) := by simp only [zae, n1, ↓reduceIte]
  have l3 : zad [(b1, .cells (gN c (.v (.slice x1 x2 x3)) (.v (.slice (some ⟨b, 0, none⟩) c.rounds.length cap))) 26), (b2, .cells zeb 26), (b, .cells L 61)] b = some (.cells L 61) := by simp only [zae, e1', e2', ↓reduceIte]
  cases blk with
  | none =>
   have hr0 : c.rounds[i].rulings = [] := List.map_eq_nil_iff.1 gok
   refine zer (S' := [(b1, .cells (gN c (.v (.slice x1 x2 x3)) (.v (.slice (some ⟨b, 0, none⟩) c.rounds.length cap))) 26), (b2, .cells zeb 26), (b, .cells L 61)]) (zfm ⟨ztu hdis l1, ztu hdis l2, ztu hdis l3, trivial⟩) ?_
   clear hdis gok l1 l2 l3
   simp only [GR.cell_none]
   repeat' (first | (with_reducible first | refine zac yU yU yE ?_ | refine zab ?_ | refine DS.seq ?_ | refine zaa ?_ | refine DS.block ?_) | (refine DS.store yR yE yE yE yE yU (by exact ⟨by with_unfolding_all rfl, by (try simp only [List.length_map, List.length_append, List.length_set, List.length_replicate, List.length_cons, List.length_nil]); omega⟩) ?_; simp only [zbo, zav, zaz, zbz, zbl, zbj, zbk]; try simp only [zao, zaf, zah, Nat.reduceEqDiff, ↓reduceIte, zak, zal, zar, zaj, zai, zap, zam]) | fail)
   simp only [setS, e1, e2, e1', e2', ↓reduceIte]
   have g3 := g2.put hi'
   refine zng (b := b) V.peek (fun _ _ _ h => V.peek_Rl h) zgs (by simp only [zae, e1', e2', ↓reduceIte]; exact rfl) ?_
   have hL' : (((L.set (i * 3) (.lst (c.rounds[i].tables.map cR))).set (i * 3 + 1) (.lst (c.rounds[i].points.map cR))).set (i * 3 + 2) (.v (.slice none 0 0))).map V.peek = (((L.set (i * 3) (.lst (c.rounds[i].tables.map cR))).set (i * 3 + 1) (.lst (c.rounds[i].points.map cR))).set (i * 3 + 2) (.lst (List.map Ruling.cells c.rounds[i].rulings))).map V.peek := by
    rw [hr0]; simp only [List.map_set]; rfl
   have g4 := g3.peek
   rw [← hL'] at g4
   have gl4 : ((((L.set (i * 3) (.lst (c.rounds[i].tables.map cR))).set (i * 3 + 1) (.lst (c.rounds[i].points.map cR))).set (i * 3 + 2) (.v (.slice none 0 0))).map V.peek).length = cap * 3 := by simp only [List.length_map, List.length_set]; exact gl
   clear hL' g3
   generalize hgL : (((L.set (i * 3) (.lst (c.rounds[i].tables.map cR))).set (i * 3 + 1) (.lst (c.rounds[i].points.map cR))).set (i * 3 + 2) (.v (.slice none 0 0))).map V.peek = L' at g4 gl4
   simp only [setS, e1, e2, e1', e2', ↓reduceIte, hgL]
   have h6 := g4.rul i hi'
   rw [hr0] at h6
   clear hgL
   skip
   refine zcq [1, 2, 3, 4] yN (fun (y : Nat) => [(5, I y)]) (fun (y : Nat) => [(b1, .cells (gN c (.v (.slice x1 x2 x3)) (.v (.slice (some ⟨b, 0, none⟩) c.rounds.length cap))) 26), (b2, .cells zeb 26), (b, .cells L' 61)]) (fun (y : Nat) => y = 0) (fun (y : Nat) => y) 0 yS (fun b o e => by exact e) rfl (fun y B hI hB => ?_); try dsimp only at hI hB; simp only [zas, zaw]
   subst hI
   repeat' (first | (with_reducible first | refine zac yU yU yE ?_ | refine zab ?_ | refine DS.seq ?_ | refine zaa ?_ | (refine zbd yE ?_; refine zdk ?_) | refine DS.blk ?_ | refine DS.exit yU ?_) | fail)
   refine DS.back (hB0 (i + 1, L') _ _ (by dsimp only; omega) ⟨by dsimp only; omega, g4, gl4⟩ yS yS (fun d o e => by exact e))
  | some z =>
  obtain ⟨bk, capk, junkk⟩ := z
  have k1 := gok.look
  have k6 := gok.le
  have k7 := gok.cap
  rw [List.length_map] at k6
  simp only [GR.cell_some, List.length_map]
  have u1 := yad hdis k1 l1
  have u2 := yad hdis k1 l2
  have u3 := yad hdis k1 l3
  have u1' : ¬ b1 = bk := fun h => u1 h.symm
  have u2' : ¬ b2 = bk := fun h => u2 h.symm
  have u3' : ¬ b = bk := fun h => u3 h.symm
  refine zer (S' := [(b1, .cells (gN c (.v (.slice x1 x2 x3)) (.v (.slice (some ⟨b, 0, none⟩) c.rounds.length cap))) 26), (b2, .cells zeb 26), (b, .cells L 61), (bk, .cells ((c.rounds[i].rulings.map Ruling.cells).flatten ++ junkk) 65)]) (zfm ⟨ztu hdis l1, ztu hdis l2, ztu hdis l3, ykw k1, trivial⟩) ?_
  clear hdis gok k1 l1 l2 l3
  repeat' (first | (with_reducible first | refine zac yU yU yE ?_ | refine zab ?_ | refine DS.seq ?_ | refine zaa ?_ | refine DS.block ?_) | (refine DS.store yR yE yE yE yE yU (by exact ⟨by with_unfolding_all rfl, by (try simp only [List.length_map, List.length_append, List.length_set, List.length_replicate, List.length_cons, List.length_nil]); omega⟩) ?_; simp only [zbo, zav, zaz, zbz, zbl, zbj, zbk]; try simp only [zao, zaf, zah, Nat.reduceEqDiff, ↓reduceIte, zak, zal, zar, zaj, zai, zap, zam]) | fail)
  simp only [setS, e1, e2, e1', e2', u1, u2, u3, u1', u2', u3', ↓reduceIte]
  have h6 := zly (L := (L.set (i * 3) (.lst (c.rounds[i].tables.map cR))).set (i * 3 + 1) (.lst (c.rounds[i].points.map cR))) (i := i * 3 + 2) (x := V.v (.slice (some ⟨bk, 0, none⟩) c.rounds[i].rulings.length capk)) (by simp only [List.length_set]; omega)
  have g4 := g2.put hi'
  have hgL : ((L.set (i * 3) (.lst (c.rounds[i].tables.map cR))).set (i * 3 + 1) (.lst (c.rounds[i].points.map cR))).set (i * 3 + 2) (.lst (c.rounds[i].rulings.map Ruling.cells)) = (((L.set (i * 3) (.lst (c.rounds[i].tables.map cR))).set (i * 3 + 1) (.lst (c.rounds[i].points.map cR))).set (i * 3 + 2) (V.v (.slice (some ⟨bk, 0, none⟩) c.rounds[i].rulings.length capk))).set (i * 3 + 2) (.lst (c.rounds[i].rulings.map Ruling.cells)) := by rw [List.set_set]
  rw [hgL] at g4
  clear hgL
  have h7 : i * 3 + 2 < (((L.set (i * 3) (.lst (c.rounds[i].tables.map cR))).set (i * 3 + 1) (.lst (c.rounds[i].points.map cR))).set (i * 3 + 2) (V.v (.slice (some ⟨bk, 0, none⟩) c.rounds[i].rulings.length capk))).length := by simp only [List.length_set]; omega
  have gl5 : (((L.set (i * 3) (.lst (c.rounds[i].tables.map cR))).set (i * 3 + 1) (.lst (c.rounds[i].points.map cR))).set (i * 3 + 2) (V.v (.slice (some ⟨bk, 0, none⟩) c.rounds[i].rulings.length capk))).length = cap * 3 := by simp only [List.length_set]; exact gl
  generalize hgL : ((L.set (i * 3) (.lst (c.rounds[i].tables.map cR))).set (i * 3 + 1) (.lst (c.rounds[i].points.map cR))).set (i * 3 + 2) (V.v (.slice (some ⟨bk, 0, none⟩) c.rounds[i].rulings.length capk)) = L' at h6 g4 h7 gl5
  try simp only [hgL]
  clear hgL
  skip
  refine zcq [1, 2, 3, 4] yN (fun (y : Nat × List V) => [(5, I y.1)]) (fun (y : Nat × List V) => [(b1, .cells (gN c (.v (.slice x1 x2 x3)) (.v (.slice (some ⟨b, 0, none⟩) c.rounds.length cap))) 26), (b2, .cells zeb 26), (b, .cells L' 61), (bk, .cells y.2 65)]) (fun (y : Nat × List V) => y.1 ≤ c.rounds[i].rulings.length ∧ RulAt y.2 c.rounds[i].rulings) (fun (y : Nat × List V) => c.rounds[i].rulings.length - y.1) (0, (c.rounds[i].rulings.map Ruling.cells).flatten ++ junkk) yS (fun b o e => by exact e) ⟨Nat.zero_le _, yfr _ _⟩ (fun y B hI hB => ?_); try dsimp only at hI hB; simp only [zas, zaw]
  obtain ⟨k, M⟩ := y
  dsimp only at hI hB ⊢
  obtain ⟨p1, p2⟩ := hI
  by_cases hk : (k : Int) < (c.rounds[i].rulings.length : Int)
  ·have hk' : k < c.rounds[i].rulings.length := by omega
   have hM := p2.len
   have h8 := p2.pts k hk'
   have h9 := hsm.ruling _ (List.getElem_mem hk')
   repeat' (first | (with_reducible first | refine zac yU yU yE ?_ | refine zab ?_ | refine DS.seq ?_ | refine zaa ?_ | (refine zbd yE ?_; refine zde ?_) | refine DS.blk ?_ | refine DS.block ?_ | refine DS.skip ?_) | (refine DS.store yR yE yE yE yE yU (by exact ⟨by with_unfolding_all rfl, by (try simp only [List.length_map, List.length_append, List.length_set, List.length_replicate, List.length_cons, List.length_nil]); omega⟩) ?_; simp only [zbo, zav, zaz, zbz, zbl, zbj, zbk]; try simp only [zao, zaf, zah, Nat.reduceEqDiff, ↓reduceIte, zak, zal, zar, zaj, zai, zap, zam]) | refine zce (id := 11) [0, 1, 2, 3, 4, 5, 6, 7, 8, 9, 10, 11, 12, 13] 14 (by kernel_rfl) zdq (by simp only [zbb, zbe, zbf, zbg, zba]; exact rfl) (by simp only [zax, zay, List.drop_nil]; exact rfl) ?_ | (with_reducible first | refine zbw yU yU yU yE ?_ | refine zdc ?_) | refine zpa inferInstance (zwt c.rounds[i].rulings[k].points (Nat.le_trans h9 (by decide))) yU yT ?_; simp only [zcc, zcm, Nat.reduceEqDiff, ↓reduceIte] | fail)
   simp only [setS, u1', u2', u3', ↓reduceIte]
   refine zng (b := bk) V.peek (fun _ _ _ h => V.peek_Rl h) zgs (by simp only [zae, u1', u2', u3', ↓reduceIte]; exact rfl) ?_
   simp only [setS, u1', u2', u3', ↓reduceIte]
   refine DS.back (hB (k + 1, (M.set (k * 3 + 2) (.own false 3 1 (c.rounds[i].rulings[k].points.map cI))).map V.peek) _ _ (by dsimp only; omega) ⟨by dsimp only; omega, p2.put hk'⟩ yS yS (fun d o e => by exact e))
  ·obtain rfl : k = c.rounds[i].rulings.length := by omega
   refine zis (b := bk) (b' := b) (i := i * 3 + 2) (sz := 3) (len := c.rounds[i].rulings.length) (cap := capk) (l := M) (T := 65) (l' := L') (T' := 61) u3' (by simp only [zae, e1', e2', ↓reduceIte]) h6 (by simp only [zae, u1', u2', u3', ↓reduceIte]) p2.len ⟨k6, k7⟩ ?_
   rw [p2.chunk]
   simp only [setS, zbn, zbs, e1, e2, e1', e2', u1, u2, u3, u1', u2', u3', ↓reduceIte]
   have h6' := zly (x := V.lst (c.rounds[i].rulings.map Ruling.cells)) h7
   clear h6 hB
   repeat' (first | (with_reducible first | refine zac yU yU yE ?_ | refine zab ?_ | refine DS.seq ?_ | refine zaa ?_ | (refine zbd yE ?_; refine zdk ?_) | refine DS.blk ?_ | refine DS.exit yU ?_) | fail)
   refine DS.back (hB0 (i + 1, L'.set (i * 3 + 2) (.lst (c.rounds[i].rulings.map Ruling.cells))) _ _ (by dsimp only; omega) ⟨by dsimp only; omega, g4, by rw [List.length_set]; exact gl5⟩ yS yS (fun d o e => by exact e))
 ·obtain rfl : i = c.rounds.length := by omega
  refine zng (b := b) V.peek (fun _ _ _ h => V.peek_Rl h) zgs (by simp only [zae, e1', e2', ↓reduceIte]; exact rfl) ?_
  simp only [setS, e1', e2', ↓reduceIte]
  clear hB0
  refine zir (t := 1) yE yE ?_; simp only [zbn, zbs, ↓reduceIte, *, zbq, zbm, zbx, zbp, zcr, zcv, zcd, zcu]
  repeat' (first | (refine yew (t := 78) yU yE yU (by simp only [List.length_cons, List.length_nil]; omega) ?_; simp only [List.take_succ_cons, List.take_zero, List.map_cons, List.map_nil, zbx, zbp, zcr, Nat.reduceAdd]) | (with_reducible first | refine zac yU yU yE ?_ | refine zab ?_ | refine DS.seq ?_ | refine zaa ?_ | (refine zbd yE ?_; refine zdk ?_) | refine DS.exit yU ?_) | (refine DS.store yR yE yE yE yE yU (by exact ⟨by with_unfolding_all rfl, by (try simp only [List.length_map, List.length_append, List.length_set, List.length_replicate, List.length_cons, List.length_nil]); omega⟩) ?_; simp only [zbo, zav, zaz, zbz, zbl, zbj, zbk]; try simp only [zao, zaf, zah, Nat.reduceEqDiff, ↓reduceIte, zak, zal, zar, zaj, zai, zap, zam]) | fail)
  obtain ⟨g, z1, z2, z3⟩ := g2.ok (S := [(b, .cells (L.map V.peek) 61)]) (b := b) (e := 61) (by simp only [zae, ↓reduceIte]) gl ⟨k2, k3⟩
  simp only [setS, n1, n1', e1', e2', ↓reduceIte, zav, zaz, zby, zcl, zeb, Nat.reduceAdd, Nat.zero_add]
  refine yce [(b, .cells (L.map V.peek) 61)] yH yH yH yH (zfm ⟨?_, trivial⟩) ⟨g, by rw [z1]; rfl, z2, z3⟩
  simp only [zae, e1', e2', ↓reduceIte]
theorem GR.ne {e e' sz sz' : Nat} {S : Sto} {l l' : List (List V)} {b b' cap cap' : Nat} {j j' : List V} (h : GR.At e sz S l b cap j) (h' : GR.At e' sz' S l' b' cap' j') (he : e ≠ e') : b ≠ b' := fun hb => by
 subst hb
 have := h.look.symm.trans h'.look
 simp only [Option.some.injEq, Ob.cells.injEq] at this
 exact he this.2
theorem ynu (c : Club) (hs : c.Small) : DC Tryz.prog 11 [c.val] [] (fun u S' => ∃ gm : GR, u = .agg (gN c gm.cell (.lst (c.rounds.map Sitting.cells))) ∧ gm.Ok 47 4 S' ∧ gm.l = c.members.map Member.cells) := by
 intro v0 K hv hold hp xs hx ha s
 refine (ynv c hs v0 K hv hold hp xs hx ha s).mono ?_
 rintro y h' ⟨u, S', hv', hold', p, st, gm, ⟨l, blk⟩, rfl, ok1, l1, gok, rfl⟩
 have key : ∀ (hv2 : VH) (S2 : Sto) (cc : V), St K hv2 hold' [(0, .agg (gN c gm.cell cc))] S2 [(0, y)] h' → (∀ z, cc.Rl hv2 z → (V.lst (c.rounds.map Sitting.cells)).Rl hv2 z) → St K hv2 hold' [(0, .agg (gN c gm.cell (.lst (c.rounds.map Sitting.cells))))] S2 [(0, y)] h' := fun hv2 S2 cc st hc => by
  refine ⟨st.pre, fun t w ew => ?_, st.obj, st.held, st.base, st.vbase⟩
  rw [zah] at ew
  split at ew
  ·rename_i ht
   cases ew
   obtain ⟨z, h1, h2, -⟩ := st.slot t _ (by rw [zah, if_pos ht])
   refine ⟨z, h1, ?_, trivial⟩
   simp only [V.Rl] at h2 ⊢
   obtain ⟨ys, rfl, h3⟩ := h2
   refine ⟨ys, rfl, ?_⟩
   obtain ⟨x, z1, z2⟩ := h3.get (i := 7) rfl
   exact RlL.setL h3 z1 (hc _ z2)
  ·cases ew
 cases blk with
 | none =>
  have h0 : c.rounds.map Sitting.cells = [] := gok
  exact ⟨_, S', hv', hold', p, key _ _ _ st fun z hz => by rw [h0]; exact V.peek_Rl (v := .v (.slice none 0 0)) hz, gm, rfl, ok1, l1⟩
 | some x =>
  obtain ⟨b, cap, j⟩ := x
  have gok : GR.At 61 3 S' (c.rounds.map Sitting.cells) b cap j := gok
  obtain ⟨hv2, q1, q2, q3⟩ := st.freeze gok.look
  refine ⟨_, delS b S', hv2, hold', p.trans q1, key _ _ _ q2 fun z hz => ?_, gm, rfl, ok1.mono fun d o e => ?_, l1⟩
  ·simp only [GR.cell, V.Rl] at hz ⊢
   subst hz
   refine ⟨_, cap, 3, rfl, gok.le, gok.cap, gok.ll, RlE.of_flat ?_⟩
   rw [List.map_append, zyc] at q3
   have h5 := q3.take (c.rounds.map Sitting.cells).flatten.length
   rw [List.take_append_of_le_length (Nat.le_refl _), List.take_length] at h5
   exact h5
  ·rw [zda]
   have e2 := yca ok1 e
   split
   ·rename_i hb
    subst hb
    obtain ⟨l2, blk2⟩ := gm
    cases blk2 with
    | none => cases e
    | some x2 =>
     obtain ⟨b2, cap2, j2⟩ := x2
     have h6 : (if b2 = d then some (Ob.cells (l2.flatten ++ j2) 47) else none) = some o := e
     split at h6
     ·rename_i hb2; subst hb2; exact absurd rfl (GR.ne ok1 gok (by decide))
     ·cases h6
   ·exact e2
end Go.XL
namespace Go.XL
set_option maxHeartbeats 4000000
def Falls (l : List Int) : Prop := ∀ i, 1 ≤ i → i < l.length → l.getD i 0 ≤ l.getD (i - 1) 0
theorem Falls.le {l : List Int} (h : Falls l) {i : Nat} : ∀ {j : Nat}, i ≤ j → j < l.length → l.getD j 0 ≤ l.getD i 0
  | 0, h1, _ => by obtain rfl : i = 0 := by omega
                   exact Int.le_refl _
  | j + 1, h1, h2 => by
    rcases Nat.lt_or_ge i (j + 1) with h3 | h3
    · have h4 := h.le (i := i) (j := j) (by omega) (by omega)
      have h5 := h (j + 1) (by omega) h2
      rw [Nat.add_sub_cancel] at h5
      omega
    · obtain rfl : i = j + 1 := by omega
      exact Int.le_refl _
theorem yow {L U : Int} : ∀ (l : List Int), (∀ x ∈ l, L ≤ x ∧ x ≤ U) → l.length * L ≤ l.sum ∧ l.sum ≤ l.length * U
 | [], _ => by simp
 | x :: l, h => by
  have h1 := yow l fun y hy => h y (List.mem_cons_of_mem _ hy)
  have h2 := h x (List.mem_cons_self ..)
  simp only [List.length_cons, List.sum_cons, Int.natCast_add, Int.natCast_one, Int.add_mul, Int.one_mul]
  omega
end Go.XL
namespace Go.XL
set_option maxHeartbeats 4000000
theorem zua (n : Int) (out : List Int) : ∀ k : Nat, zkz n out k ≤ k ∧ (∀ a : Nat, zkz n out k ≤ a → a < k → n < out.getD a 0) ∧ (zkz n out k = 0 ∨ out.getD (zkz n out k - 1) 0 ≤ n)
 | 0 => ⟨Nat.le_refl _, fun a _ h => by omega, .inl rfl⟩
 | k + 1 => by
  rw [zkz]
  split
  ·rename_i h
   obtain ⟨h1, h2, h3⟩ := zua n out k
   refine ⟨by omega, fun a ha hk => ?_, h3⟩
   by_cases e : a = k
   ·subst e; exact h
   ·exact h2 a ha (by omega)
  ·rename_i h
   exact ⟨Nat.le_refl _, fun a _ _ => by omega, .inr (by simpa using Int.not_lt.1 h)⟩
theorem yje (out : List Int) (n : Int) : (insS out n).Perm (n :: out) := by
 rw [insS]
 refine List.perm_middle.trans ?_
 rw [List.take_append_drop]
theorem ybk {out : List Int} (h : out.Pairwise (· ≤ ·)) (n : Int) : (insS out n).Pairwise (· ≤ ·) := by
 obtain ⟨h1, h2, h3⟩ := zua n out out.length
 rw [insS]
 generalize zkz n out out.length = p at *
 have hp := List.pairwise_iff_getElem.1 h
 rw [List.pairwise_append]
 refine ⟨List.Pairwise.sublist (List.take_sublist ..) h, .cons (fun x hx => ?_) (List.Pairwise.sublist (List.drop_sublist ..) h), fun x hx y hy => ?_⟩
 ·obtain ⟨i, hi, rfl⟩ := List.mem_iff_getElem.1 hx
  rw [List.length_drop] at hi
  have := h2 (p + i) (by omega) (by omega)
  rw [List.getD_eq_getElem?_getD, List.getElem?_eq_getElem (by omega), Option.getD_some] at this
  rw [List.getElem_drop]; omega
 ·obtain ⟨i, hi, rfl⟩ := List.mem_iff_getElem.1 hx
  rw [List.length_take] at hi
  rw [List.getElem_take]
  have hx2 : out[i]'(by omega) ≤ n := by
   rcases h3 with h3 | h3
   ·omega
   ·rw [List.getD_eq_getElem?_getD, List.getElem?_eq_getElem (by omega), Option.getD_some] at h3
    by_cases e : i = p - 1
    ·subst e; exact h3
    ·have := hp i (p - 1) (by omega) (by omega) (by omega)
     omega
  rcases List.mem_cons.1 hy with rfl | hy
  ·exact hx2
  ·obtain ⟨j, hj, rfl⟩ := List.mem_iff_getElem.1 hy
   rw [List.length_drop] at hj
   rw [List.getElem_drop]
   exact hp i (p + j) (by omega) (by omega) (by omega)
theorem zzj : ∀ (l out : List Int), out.Pairwise (· ≤ ·) → (l.foldl insS out).Pairwise (· ≤ ·) ∧ (l.foldl insS out).Perm (l ++ out)
 | [], out, h => ⟨h, .refl _⟩
 | n :: l, out, h => by
  obtain ⟨h1, h2⟩ := zzj l (insS out n) (ybk h n)
  refine ⟨h1, h2.trans ?_⟩
  refine ((yje out n).append_left l).trans ?_
  exact List.perm_middle
theorem zrn {a b : Int} : ∀ {T : List (List Int)}, (∀ t ∈ T, ¬ (a ∈ t ∧ b ∈ t)) → metT a b T = 0
 | [], _ => rfl
 | t :: T, h => by
  rw [metT, if_neg (fun h1 => h t (List.mem_cons_self ..) h1.2), zrn fun t ht => h t (List.mem_cons_of_mem _ ht)]
theorem ydk {a b : Int} : ∀ {T : List (List Int)}, T.flatten.Nodup → metT a b T ≤ 1
 | [], _ => by simp [metT]
 | t :: T, h => by
  rw [List.flatten_cons] at h
  obtain ⟨h1, h2, h3⟩ := List.nodup_append.1 h
  rw [metT]
  by_cases h4 : a ≠ b ∧ a ∈ t ∧ b ∈ t
  ·rw [if_pos h4, zrn fun t' ht h5 => h3 a h4.2.1 a (List.mem_flatten.2 ⟨t', ht, h5.1⟩) rfl]
   omega
  ·rw [if_neg h4]
   have := ydk (a := a) (b := b) h2
   omega
theorem RoundOk.met {c : Club} {size : Nat} {ids : List Int} {T : List (List Int)} (h : RoundOk size (met0 c) ids T) (hn : ids.Nodup) {a b : Int} (hab : a ≠ b) : metT a b T ≤ 1 ∧ (0 < metS c a b → metT a b T = 0) := by
 refine ⟨ydk (h.perm.nodup_iff.2 hn), fun h1 => zrn fun t ht h2 => ?_⟩
 have h3 := List.pairwise_iff_getElem.1 ((zln _ _).1 (h.fair t ht))
 obtain ⟨i, hi, rfl⟩ := List.getElem_of_mem h2.1
 obtain ⟨j, hj, rfl⟩ := List.getElem_of_mem h2.2
 have h4 : met0 c t[i] t[j] = true := decide_eq_true h1
 rcases Nat.lt_trichotomy i j with h5 | h5 | h5
 ·rw [h3 i j hi hj h5] at h4; cases h4
 ·subst h5; exact hab rfl
 ·rw [zro, h3 j i hj hi h5] at h4; cases h4
theorem ybh {c : Club} {ids : List Int} (hz : 1 ≤ c.size) (ha : ids.Pairwise (· < ·)) (h : (zhy c ids).2 = 0) : zdd c = 0 ∧ RoundOk c.size.toNat (met0 c) ids (zhy c ids).1 := by
 by_cases h1 : zdd c = 0
 ·refine ⟨h1, ?_⟩
  rw [zhy, if_neg (by omega)] at h ⊢
  split at h
  ·cases h
  rename_i h2
  rw [if_neg h2]
  split at h
  ·cases h
  rename_i h3
  rw [if_neg h3]
  split at h
  ·contradiction
  rename_i h4
  rw [if_neg h4]
  split at h
  ·cases h
  rename_i h5
  rw [if_neg h5]
  split at h
  ·cases h
  rename_i h6
  rw [if_neg h6]
  have h7 := zvx (size := c.size.toNat) (budget := -1) (rounds := [ids]) (zna [ids]) (met0 c) 0 ids 0 (by rw [runS] at h6; exact Decidable.not_not.1 h6)
  obtain ⟨T, Q', e, h8, h9⟩ := yjy (by omega) h7 ha
  have e2 : (runS c [ids] (-1)).2.2 = T.map (fun t => (0, t)) ++ Q' := e
  rcases h9 with ⟨-, rfl⟩ | ⟨h9, -⟩
  ·rw [e2]
   simpa [Function.comp_def] using h8
  ·exact absurd rfl h9
 ·rw [zhy, if_pos h1] at h
  exact absurd h h1
theorem zta {c : Club} (hm : c.members.Pairwise fun a b => a.id < b.id) (r : Int) : (zfb c r).Pairwise (· < ·) := by
 rw [zfb, List.pairwise_map]
 exact hm.filter _
structure AheadI (n : Nat) (P : List (List (List Int))) (c : Club) (i : Nat) : Prop where
 chk : zdd c = 0
 size : c.size = 3 ∨ c.size = 4
 asc : c.members.Pairwise fun a b => a.id < b.id
 pos : ∀ m ∈ c.members, 0 < m.id
 len : i ≤ n ∧ c.rounds.length + (n - i) ≤ 20
 small : c.Small
 tab : ybz c
 ids : ∀ m ∈ c.members, In64 m.id
 mem : c.members.length ≤ 1000
 plan : P.length = n
 fnd : i < n → ∃ rounds Q, rounds.length = n ∧ (∀ j, i ≤ j → j < n → rounds.getD j [] = zfb c ((c.rounds.length : Int) + ((j - i : Nat) : Int))) ∧ Fnd c.size.toNat rounds (met0 c) i (zfb c c.rounds.length) Q ∧ ∀ j, i ≤ j → j < n → P.getD j [] = (Q.filter fun q => decide (q.1 = j)).map Prod.snd
end Go.XL
namespace Go.XL
set_option maxHeartbeats 4000000
theorem ycw (x : Int) : zgd x = 3 ∨ zgd x = 4 := by unfold zgd; split <;> simp
def yeu (size : Int) (l : List Int) : Prop :=
 (size = 3 ∧ ∃ a b c : Int, l = [a, b, c] ∧ a + b + c = 0 ∧ (-1000 ≤ a ∧ a ≤ 1000) ∧ (-1000 ≤ b ∧ b ≤ 1000) ∧ (-1000 ≤ c ∧ c ≤ 1000)) ∨
 (size = 4 ∧ ∃ a b c d : Int, l = [a, b, c, d] ∧ a + b + c + d = 0 ∧ (-1000 ≤ a ∧ a ≤ 1000) ∧ (-1000 ≤ b ∧ b ≤ 1000) ∧ (-1000 ≤ c ∧ c ≤ 1000) ∧ (-1000 ≤ d ∧ d ≤ 1000))
theorem yhd {n i : Int} (h : 0 ≤ n ∧ n ≤ 40) (hi : 1 ≤ i) : 0 ≤ n.tdiv i ∧ n.tdiv i ≤ 40 := by
 refine ⟨Int.tdiv_nonneg h.1 (by omega), ?_⟩
 rw [Int.tdiv_eq_ediv_of_nonneg h.1]
 exact Int.le_trans (Int.ediv_le_self _ h.1) h.2
theorem ygb (x : Int) : yeu (zgd x) (zdn x).1 := by
 have k1 := zbv (x5 x) 5
 have k2 := zbv (zag (x5 x)) 2
 have k3 := zbv (zag (zag (x5 x))) 9
 have k4 := zbv (zag (zag (zag (x5 x)))) 9
 have k5 := yhd (n := zan (x5 x) 5 * 10) (i := 1 + 1) (by omega) (by omega)
 have k6 := yhd (n := zan (x5 x) 5 * 10) (i := 1 + 1 + 1) (by omega) (by omega)
 rcases ycw x with h | h
 ·refine .inl ⟨h, zan (x5 x) 5 * 10 + zan (zag (x5 x)) 2, (zan (x5 x) 5 * 10).tdiv (1 + 1) - zan (zag (zag (x5 x))) 9, -(zan (x5 x) 5 * 10 + zan (zag (x5 x)) 2 + ((zan (x5 x) 5 * 10).tdiv (1 + 1) - zan (zag (zag (x5 x))) 9)), ?_, ?_, ?_, ?_, ?_⟩
  ·rw [zdn, h]; rfl
  all_goals omega
 ·refine .inr ⟨h, zan (x5 x) 5 * 10 + zan (zag (x5 x)) 2, (zan (x5 x) 5 * 10).tdiv (1 + 1) - zan (zag (zag (x5 x))) 9, (zan (x5 x) 5 * 10).tdiv (1 + 1 + 1) - zan (zag (zag (zag (x5 x)))) 9, -(zan (x5 x) 5 * 10 + zan (zag (x5 x)) 2 + ((zan (x5 x) 5 * 10).tdiv (1 + 1) - zan (zag (zag (x5 x))) 9) + ((zan (x5 x) 5 * 10).tdiv (1 + 1 + 1) - zan (zag (zag (zag (x5 x)))) 9)), ?_, ?_, ?_, ?_, ?_, ?_⟩
  ·rw [zdn, h]; rfl
  all_goals omega
structure ZClub (c : Club) : Prop where
 start : 0 ≤ c.start ∧ c.start ≤ 300
 size : c.size = 3 ∨ c.size = 4
 places : yeu c.size c.places
end Go.XL
namespace Go.XL
set_option maxHeartbeats 4000000
def Club.add (c : Club) (s : Sitting) : Club := { c with rounds := c.rounds ++ [s] }
theorem zxe (c : Club) (s : Sitting) : (c.add s).rounds.length = c.rounds.length + 1 := by simp [Club.add]
theorem zqv (c : Club) (s : Sitting) {k : Int} (h0 : 0 ≤ k) (h : k < c.rounds.length) : (c.add s).round k = c.round k := by
 rw [Club.round, Club.round, Club.add]
 dsimp only
 rw [List.getD_eq_getElem?_getD, List.getD_eq_getElem?_getD, List.getElem?_append_left (by omega)]
theorem zue (c : Club) (s : Sitting) : (c.add s).round (c.rounds.length : Int) = s := by
 rw [Club.round_at (c.add s) (by rw [zxe]; omega)]
 simp [Club.add]
theorem yga (c : Club) (s : Sitting) {k : Int} (h : k < c.rounds.length) (table : Int) : zfe (c.add s) k table = zfe c k table := by
 by_cases h0 : 0 ≤ k
 ·rw [zfe, zfe, zqv c s h0 h, decide_eq_decide]
  rw [zxe]
  constructor
  ·rintro ⟨-, h2⟩; exact ⟨⟨h0, by omega⟩, h2⟩
  ·rintro ⟨-, h2⟩; exact ⟨⟨h0, by omega⟩, h2⟩
 ·rw [zfe, zfe, decide_eq_false (by omega), decide_eq_false (by omega)]
theorem znt (c : Club) (s : Sitting) {k : Int} (h : k < c.rounds.length) : ∀ l, zct (c.add s) k l = zct c k l
 | [] => rfl
 | x :: r => by
  rw [zct, zct, znt c s h r]
  have hw : (c.add s).window = c.window := rfl
  have hr : zfq (c.add s) x.points = zfq c x.points := rfl
  rw [hw, hr]
  by_cases h1 : ¬ (max 0 (k - c.window) ≤ x.round ∧ x.round ≤ k)
  ·rw [if_pos h1, if_pos h1]
  ·rw [if_neg h1, if_neg h1, yga c s (by have := (Decidable.not_not.1 h1).2; omega)]
theorem ygv {c : Club} (hc : zdd c = 0) {s : Sitting} (hl : c.rounds.length < 20) (ht : zdl c c.rounds.length s.tables [] 0 = 0) (h1 : s.points.length = s.tables.length) (h2 : zdm c s.points = 0)
  (h3 : s.rulings.length ≤ 20) (h4 : zct (c.add s) c.rounds.length s.rulings = 0) : zdd (c.add s) = 0 := by
 have hr : zfi (c.add s) = zfi c := rfl
 rw [zdd] at hc
 split at hc
 ·contradiction
 split at hc
 ·contradiction
 split at hc
 ·cases hc
 rename_i k1 k2 k3
 have h5 := (zgl c c.rounds.length 0).1 hc
 rw [zdd, hr, if_neg k1, show (c.add s).members = c.members from rfl, if_neg k2, zxe, if_neg (by omega)]
 refine (zgl (c.add s) _ 0).2 fun k _ hk => ?_
 by_cases hk2 : k < c.rounds.length
 ·obtain ⟨h6, h7⟩ := h5 k (Nat.zero_le _) (by omega)
  have e := zqv c s (k := k) (by omega) (by omega)
  constructor
  ·rw [zex, e, zjl (c := c.add s) (d := c) rfl rfl]; exact h6
  ·rw [zgr, zfl, zfa, e, znt c s (by omega), zhp (c := c.add s) (d := c) rfl rfl]
   exact h7
 ·obtain rfl : k = c.rounds.length := by omega
  have e := zue c s
  constructor
  ·rw [zex, e, zjl (c := c.add s) (d := c) rfl rfl]; exact ht
  ·rw [zgr, zfl, zfa, e, if_neg (show ¬ s.points.length ≠ s.tables.length by omega), zhp (c := c.add s) (d := c) rfl rfl, h2, if_neg (by decide), if_neg (by omega), h4]
theorem zrk {size : Int} (hs : 1 ≤ size) : ∀ (n : Nat) (x : Int) (l : List Int), l.length < n → ((zmx size n x l).1.length : Int) % size = 0
 | 0, _, _, h => by omega
 | n + 1, x, l, h => by
  simp only [zmx]
  have key : ∀ i : Nat, i < l.length → (l.take i ++ l.drop (i + 1)).length < n := fun i hi => by
   rw [List.length_append, List.length_take, List.length_drop]; omega
  split
  ·rename_i h1; show ((l.length : Nat) : Int) % size = 0; rw [h1]; simp
  ·have h2 := zbv x l.length
   have h3 := zbv (zag x) l.length
   split
   ·exact zrk hs n _ _ (key _ (by omega))
   ·rename_i h4
    split
    ·exact zrk hs n _ _ (key _ (by omega))
    ·exact Decidable.not_not.1 h4
theorem zxu (size : Int) : ∀ (n : Nat) (x : Int) (t rest : List Int), ((t.length : Int) + rest.length ≥ size) → ((tabG size n x t rest).1 ++ (tabG size n x t rest).2.1).Perm (t ++ rest) ∧ (tabG size n x t rest).2.1.Sublist rest
 | 0, x, t, rest, h => ⟨.refl _, .refl _⟩
 | n + 1, x, t, rest, h => by
  simp only [tabG]
  split
  ·rename_i h1
   have hb := zbv x rest.length
   have hi : (zan x rest.length).toNat < rest.length := by omega
   generalize (zan x rest.length).toNat = i at hi ⊢
   have e : rest.getD i 0 = rest[i] := by rw [List.getD_eq_getElem?_getD, List.getElem?_eq_getElem hi]; rfl
   have e2 : rest = rest.take i ++ rest[i] :: rest.drop (i + 1) := by rw [← List.drop_eq_getElem_cons hi, List.take_append_drop]
   have hl : (rest.take i ++ rest.drop (i + 1)).length + 1 = rest.length := by rw [List.length_append, List.length_take, List.length_drop]; omega
   obtain ⟨k1, k2⟩ := zxu size n (zag x) (t ++ [rest.getD i 0]) (rest.take i ++ rest.drop (i + 1)) (by rw [List.length_append, List.length_singleton]; omega)
   refine ⟨k1.trans ?_, k2.trans ?_⟩
   ·rw [e, List.append_assoc, List.singleton_append]
    refine List.Perm.append_left _ ?_
    conv => rhs; rw [e2]
    exact List.perm_middle.symm
   ·conv => rhs; rw [e2]
    exact List.Sublist.append (List.Sublist.refl _) (List.sublist_cons_self ..)
  ·exact ⟨.refl _, .refl _⟩
abbrev ylb (size : Nat) (ids : List Int) (T : List (List Int)) : Prop := RoundOk size (fun _ _ => false) ids T
theorem yem (t : List Int) : zlo (fun _ _ => false) t = true := (zln _ _).2 (List.pairwise_of_forall fun _ _ => rfl)
theorem ycq {size : Int} (hs : 1 ≤ size) {ids : List Int} : ∀ (n : Nat) (x : Int) (rest : List Int) (out : List (List Int)), rest.length < n → (rest.length : Int) % size = 0 → rest.Pairwise (· < ·) → (out.flatten ++ rest).Perm ids → (∀ t ∈ out, ∀ a ∈ rest, t.headD 0 < a) →
  out.Pairwise (fun a b => a.headD 0 < b.headD 0) → (∀ t ∈ out, (t.length : Int) = size) → (∀ t ∈ out, t.Pairwise (· < ·)) → ids.Nodup → ylb size.toNat ids (zmv size n x rest out).1
 | 0, _, _, _, h, _, _, _, _, _, _, _, _ => by omega
 | n + 1, x, rest, out, h1, h2, h3, h4, h5, h6, h7, h8, h9 => by
  simp only [zmv]
  split
  ·rename_i hle
   cases rest with
   | nil => simp only [List.length_nil] at hle; omega
   | cons f fr =>
    have q := zxu size size.toNat x [f] fr (by simp only [List.length_cons, List.length_nil] at hle ⊢; omega)
    have ql := zvs size size.toNat x [f] fr (by simp; omega) (by simp; omega)
    simp only [List.headD_cons, List.drop_one, List.tail_cons] at q ql ⊢
    generalize tabG size size.toNat x [f] fr = g at q ql ⊢
    obtain ⟨t, r2, x2⟩ := g
    dsimp only at q ql ⊢
    obtain ⟨q1, q2⟩ := q
    obtain ⟨a1, a2⟩ := List.pairwise_cons.1 h3
    have hnd : (t ++ r2).Nodup := q1.nodup_iff.2 (h3.imp fun h => by omega)
    obtain ⟨s1, s2⟩ := zzj t [] .nil
    rw [List.append_nil] at s2
    have hrl : (zft t).length = t.length := s2.length_eq
    have hrp : (zft t).Perm t := s2
    have hra : (zft t).Pairwise (· < ·) := by
     have n1 : (zft t).Nodup := hrp.nodup_iff.2 (List.nodup_append.1 hnd).1
     exact (List.pairwise_and_iff.2 ⟨s1, n1⟩).imp fun {a b} h => by omega
    have hmem : ∀ a ∈ zft t, a = f ∨ f < a := fun a ha => by
     have : a ∈ f :: fr := (q1.mem_iff.1 (List.mem_append_left _ (hrp.mem_iff.1 ha)))
     rcases List.mem_cons.1 this with e | e
     ·exact .inl e
     ·exact .inr (a1 a e)
    have hf : f ∈ zft t := by
     have : f ∈ t ++ r2 := q1.mem_iff.2 (List.mem_cons_self ..)
     rcases List.mem_append.1 this with e | e
     ·exact hrp.mem_iff.2 e
     ·have := a1 f (q2.subset e); omega
    have hhead : (zft t).headD 0 = f := by
     generalize zft t = R at *
     cases R with
     | nil => cases hf
     | cons a r =>
      rw [List.headD_cons]
      rcases hmem a (List.mem_cons_self ..) with e | e
      ·exact e
      ·rcases List.mem_cons.1 hf with e2 | e2
       ·exact e2.symm
       ·have := (List.pairwise_cons.1 hra).1 f e2; omega
    have hlen : (t ++ r2).length = (f :: fr).length := q1.length_eq
    rw [List.length_append, List.length_cons] at hlen
    refine ycq hs n x2 r2 (out ++ [zft t]) ?_ ?_ (List.Pairwise.sublist q2 a2) ?_ ?_ ?_ ?_ ?_ h9
    ·simp only [List.length_cons] at h1; omega
    ·rw [List.length_cons] at h2
     have e3 : ((fr.length + 1 : Nat) : Int) = size + r2.length := by omega
     rw [e3, Int.add_emod_left] at h2
     exact h2
    ·refine List.Perm.trans ?_ h4
     rw [List.flatten_append, List.flatten_singleton, List.append_assoc]
     exact List.Perm.append_left _ ((List.Perm.append_right _ hrp).trans q1)
    ·intro t' ht' a ha
     rcases List.mem_append.1 ht' with ht' | ht'
     ·exact h5 t' ht' a (List.mem_cons_of_mem _ (q2.subset ha))
     ·obtain rfl := List.mem_singleton.1 ht'
      rw [hhead]; exact a1 a (q2.subset ha)
    ·refine List.pairwise_append.2 ⟨h6, List.pairwise_singleton .., fun a ha b hb => ?_⟩
     obtain rfl := List.mem_singleton.1 hb
     rw [hhead]; exact h5 a ha f (List.mem_cons_self ..)
    ·intro t' ht'
     rcases List.mem_append.1 ht' with ht' | ht'
     ·exact h7 t' ht'
     ·obtain rfl := List.mem_singleton.1 ht'
      rw [hrl]; exact ql
    ·intro t' ht'
     rcases List.mem_append.1 ht' with ht' | ht'
     ·exact h8 t' ht'
     ·obtain rfl := List.mem_singleton.1 ht'
      exact hra
  ·rename_i hle
   have h0 : rest = [] := by
    have h10 := Int.emod_eq_of_lt (a := (rest.length : Int)) (b := size) (by omega) (by omega)
    have : (rest.length : Int) = 0 := by omega
    exact List.length_eq_zero_iff.1 (by omega)
   subst h0
   rw [List.append_nil] at h4
   exact ⟨h4, h6, fun t ht => by have := h7 t ht; omega, h8, fun t _ => yem t⟩
theorem zxt {size : Int} (hs : 1 ≤ size) {ids : List Int} (x : Int) (h1 : (ids.length : Int) % size = 0) (h2 : ids.Pairwise (· < ·)) : ylb size.toNat ids (zep size x ids).1 :=
 ycq hs _ x ids [] (Nat.lt_succ_self _) h1 h2 (.refl _) (fun t ht => by cases ht) .nil (fun t ht => by cases ht) (fun t ht => by cases ht) (h2.imp fun h => by omega)
theorem zyi {c : Club} (hz : 1 ≤ c.size) (hm : c.members.Pairwise fun a b => a.id < b.id) (x : Int) : ylb c.size.toNat (zdr c x).1 (zbc c x).1 := by
 have ha : (zdr c x).1.Pairwise (· < ·) := by
  refine List.Pairwise.sublist (zfy c.size x _) ?_
  unfold zcs
  split
  ·exact .nil
  split
  ·exact .nil
  exact zta hm _
 have hd : ((zdr c x).1.length : Int) % c.size = 0 := zrk hz _ x _ (Nat.lt_succ_self _)
 have h1 := zxt hz (ids := (zdr c x).1) (zdr c x).2 hd ha
 unfold zbc
 split
 ·dsimp only
  split
  ·rename_i h2
   have h3 := (ybh hz ha h2.2).2
   exact ⟨h3.perm, h3.heads, h3.len, h3.asc, fun t _ => yem t⟩
  ·exact h1
 ·exact h1
theorem zlc (c : Club) (x : Int) : (zdr c x).1.Sublist (zcs c c.rounds.length) := zfy c.size x _
theorem yen (start : Int) : ∀ (n : Nat) (x : Int) (out : List Int), (∀ a ∈ out, start - 30 ≤ a ∧ a ≤ start + 30) → (∀ a ∈ (zlp start n x out).1, start - 30 ≤ a ∧ a ≤ start + 30) ∧ (zlp start n x out).1.length = out.length + n
 | 0, x, out, h => ⟨h, rfl⟩
 | n + 1, x, out, h => by
  have hb := zbv x 7
  obtain ⟨h1, h2⟩ := yen start n (zag x) (out ++ [start + (zan x 7 - 3) * 10]) fun a ha => by
   rcases List.mem_append.1 ha with ha | ha
   ·exact h a ha
   ·obtain rfl := List.mem_singleton.1 ha
    omega
  exact ⟨h1, by rw [zlp, h2, List.length_append, List.length_singleton]; omega⟩
theorem zlv {most : Int} : ∀ {l : List Int} {want : Int}, (∀ a ∈ l, -most ≤ a ∧ a ≤ most) → l.sum = want → zei most l want = 0
 | [], want, _, h => by rw [zei, if_pos (by simpa using h.symm)]
 | a :: l, want, h1, h => by
  rw [zei, if_pos (h1 a (List.mem_cons_self ..))]
  exact zlv (fun b hb => h1 b (List.mem_cons_of_mem _ hb)) (by rw [List.sum_cons] at h; omega)
theorem zse {c : Club} (hz : 3 ≤ c.size ∧ c.size ≤ 4) (hst : 0 ≤ c.start ∧ c.start ≤ 1000000) (x : Int) : zfq c (zfv c.size c.start x).1 = 0 := by
 obtain ⟨h1, h2⟩ := yen c.start (c.size.toNat - 1) x [] (fun a ha => by cases ha)
 have h3 := zom c.size c.start x (by omega)
 rw [zfq, zgq, if_pos h3]
 have h4 := yow (L := c.start - 30) (U := c.start + 30) (zlp c.start (c.size.toNat - 1) x []).1 h1
 have h5 : (zlp c.start (c.size.toNat - 1) x []).1.length = 2 ∨ (zlp c.start (c.size.toNat - 1) x []).1.length = 3 := by rw [h2, List.length_nil]; omega
 refine zlv (fun a ha => ?_) ?_
 ·rw [zfv] at ha
  rcases List.mem_cons.1 ha with rfl | ha
  ·have h6 : c.size = 3 ∨ c.size = 4 := by omega
   rcases h5 with h5 | h5 <;> rw [h5] at h4 <;> rcases h6 with h6 | h6 <;> rw [h6] at h4 ⊢ <;> omega
  ·have := h1 a ha; omega
 ·rw [zfv, List.sum_cons]; omega
theorem ybc {c : Club} (hz : 3 ≤ c.size ∧ c.size ≤ 4) (hst : 0 ≤ c.start ∧ c.start ≤ 1000000) : ∀ (n : Nat) (x : Int) (out : List (List Int)), zdm c out = 0 → zdm c (ptsG c.size c.start n x out).1 = 0
 | 0, x, out, h => h
 | n + 1, x, out, h => by
  have key : ∀ (p : List Int), p.length = 0 ∨ zfq c p = 0 → ∀ out, zdm c out = 0 → zdm c (out ++ [p]) = 0 := fun p hp out => by
   induction out with
   | nil =>
    intro _
    rw [List.nil_append, zdm, zdm]
    rcases hp with hp | hp
    ·rw [if_pos hp]
    ·rw [hp]; split <;> rfl
   | cons a r ih =>
    intro h
    rw [List.cons_append, zdm]
    rw [zdm] at h
    split
    ·rename_i h1; rw [if_pos h1] at h; exact ih h
    ·rename_i h1
     rw [if_neg h1] at h
     split at h
     ·contradiction
     ·rename_i h2; rw [if_neg h2]; exact ih h
  rw [ptsG]
  split
  ·exact ybc hz hst n _ _ (key _ (.inr (zse hz hst _)) _ h)
  ·exact ybc hz hst n _ _ (key _ (.inl rfl) _ h)
theorem znr {c : Club} {k : Int} (x : Ruling) (h1 : max 0 (k - c.window) ≤ x.round ∧ x.round ≤ k) (h2 : zfe c x.round x.table = true) (h3 : zfq c x.points = 0) : ∀ R, zct c k R = 0 → zct c k (R ++ [x]) = 0
 | [], _ => by rw [List.nil_append, zct, zct, if_neg (fun h => h h1), h2, if_neg (by decide), h3]; rfl
 | a :: r, h => by
  rw [List.cons_append, zct]
  rw [zct] at h
  split
  ·rename_i h4; rw [if_pos h4] at h; exact h
  rename_i h4
  rw [if_neg h4] at h
  split
  ·rename_i h5; rw [if_pos h5] at h; exact h
  rename_i h5
  rw [if_neg h5] at h
  split
  ·rename_i h6; rw [if_pos h6] at h; exact h
  rename_i h6
  rw [if_neg h6] at h
  exact znr x h1 h2 h3 r h
theorem zwc {c : Club} (hz : 3 ≤ c.size ∧ c.size ≤ 4) (hst : 0 ≤ c.start ∧ c.start ≤ 1000000) {k round : Int} (h1 : max 0 (k - c.window) ≤ round ∧ round ≤ k) : ∀ (l : List (List Int)) (t : Nat) (x : Int) (R : List Ruling),
  (∀ (j : Nat), j < l.length → 0 < (l.getD j []).length → zfe c round ((t + j : Nat) : Int) = true) → zct c k R = 0 → zct c k (rulG c.size c.start round l t x R).1 = 0
 | [], t, x, R, h2, h => h
 | p :: l, t, x, R, h2, h => by
  have h3 : ∀ (j : Nat), j < l.length → 0 < (l.getD j []).length → zfe c round ((t + 1 + j : Nat) : Int) = true := fun j hj hp => by
   have := h2 (j + 1) (by simpa using hj) (by simpa using hp)
   rw [show t + 1 + j = t + (j + 1) by omega]; exact this
  have e : ((t : Nat) : Int) + 1 = ((t + 1 : Nat) : Int) := by omega
  rw [rulG, e]
  split
  ·rename_i h4
   have h5 := h2 0 (by simp) (by simpa using h4)
   split
   ·exact zwc hz hst h1 l (t + 1) _ _ h3 (znr _ h1 h5 (zse hz hst _) R h)
   ·exact zwc hz hst h1 l (t + 1) _ _ h3 h
  ·exact zwc hz hst h1 l (t + 1) _ _ h3 h
theorem yhs {c : Club} (hz : 3 ≤ c.size ∧ c.size ≤ 4) (hst : 0 ≤ c.start ∧ c.start ≤ 1000000) (hw : 0 ≤ c.window) {n : Nat} {ps : List (List (List Int))} (hn : ps.length = n + 1) (hps : ∀ i : Nat, i < n + 1 → (c.round i).points = ps.getD i []) (hcl : c.rounds.length = n + 1) :
  ∀ (k : Nat) (x : Int) (R : List Ruling), zct c n R = 0 → zct c n (rulK c.size c.start c.window ps k x R).1 = 0
 | 0, x, R, h => h
 | k + 1, x, R, h => by
  rw [rulK]
  have hb := zbv x (c.window + 1)
  have ha : max 0 ((n : Int) - c.window) ≤ zjn c.window x ps.length ∧ zjn c.window x ps.length ≤ n := by
   rw [zjn, hn]; omega
  obtain ⟨i, hi⟩ : ∃ i : Nat, zjn c.window x ps.length = i := ⟨(zjn c.window x ps.length).toNat, by omega⟩
  refine yhs hz hst hw hn hps hcl k _ _ ?_
  rw [hi] at ha ⊢
  refine zwc hz hst ha _ 0 _ _ (fun j hj hp => ?_) h
  rw [Int.toNat_natCast] at hj hp
  have e := hps i (by omega)
  rw [zfe, e, decide_eq_true_eq]
  refine ⟨by omega, ⟨by omega, by omega⟩, ?_⟩
  rw [Nat.zero_add, Int.toNat_natCast]; exact hp
theorem zmr : ∀ (k : Nat) (id x : Int) (out : List Member) (last : Int), (∀ m ∈ out, -10000 ≤ m.hand ∧ m.hand ≤ 10000 ∧ 0 ≤ m.from_ ∧ m.from_ ≤ 20 ∧ (m.to = -1 ∨ m.from_ ≤ m.to ∧ m.to ≤ 20)) → out.Pairwise (fun a b => a.id < b.id) → (∀ m ∈ out, last < m.id ∧ m.id ≤ id) → last ≤ id → zdi (zdf k id x out).1 last = 0
 | 0, id, x, out, last, h1, h2, h3, _ => by
  show zdi out last = 0
  induction out generalizing last with
  | nil => rfl
  | cons m r ih =>
   obtain ⟨a1, a2⟩ := List.pairwise_cons.1 h2
   have b1 := h1 m (List.mem_cons_self ..)
   have b2 := h3 m (List.mem_cons_self ..)
   rw [zdi, if_neg (by omega), if_neg (by omega), if_neg (by omega)]
   have ih2 := ih m.id (fun y hy => h1 y (List.mem_cons_of_mem _ hy)) a2 (fun y hy => ⟨a1 y hy, (h3 y (List.mem_cons_of_mem _ hy)).2⟩) (by omega)
   split
   ·exact ih2
   ·rw [if_pos (by omega)]; exact ih2
 | k + 1, id, x, out, last, h1, h2, h3, h4 => by
  rw [zdf]
  have hb := zbv x (3 - 1 + 1)
  have hr : 1 ≤ zcy x 1 3 := by unfold zcy; omega
  refine zmr k _ _ _ last (fun m hm => ?_) ?_ (fun m hm => ?_) (by omega)
  ·rcases List.mem_append.1 hm with hm | hm
   ·exact h1 m hm
   ·obtain rfl := List.mem_singleton.1 hm
    have c1 := zbv (zag (zag x)) 21
    have c2 := zbv (zag (zii (zag x)).2) 3
    have c3 := zbv (zag (zag (zii (zag x)).2)) 2
    have d1 : -10000 ≤ (zii (zag x)).1 ∧ (zii (zag x)).1 ≤ 10000 := by unfold zii; split <;> (dsimp only; omega)
    have d2 : 0 ≤ (zlb (zii (zag x)).2).1.1 ∧ (zlb (zii (zag x)).2).1.1 ≤ 20 ∧ ((zlb (zii (zag x)).2).1.2 = -1 ∨ (zlb (zii (zag x)).2).1.1 ≤ (zlb (zii (zag x)).2).1.2 ∧ (zlb (zii (zag x)).2).1.2 ≤ 20) := by
     generalize (zii (zag x)).2 = y at *
     unfold zlb; split <;> (dsimp only; omega)
    exact ⟨d1.1, d1.2, d2⟩
  ·refine List.pairwise_append.2 ⟨h2, List.pairwise_singleton .., fun a ha b hb => ?_⟩
   obtain rfl := List.mem_singleton.1 hb
   have := (h3 a ha).2
   dsimp only; omega
  ·rcases List.mem_append.1 hm with hm | hm
   ·have := h3 m hm; omega
   ·obtain rfl := List.mem_singleton.1 hm
    dsimp only; omega
theorem ynz (x : Int) : zdd (zhz x) = 0 ∧ (3 ≤ (zhz x).size ∧ (zhz x).size ≤ 4) ∧ (0 ≤ (zhz x).start ∧ (zhz x).start ≤ 1000000) ∧ 0 ≤ (zhz x).window ∧ (zhz x).members.length ≤ 13 := by
 have b1 := zbv x 4
 have b2 := zbv (zag x) 5
 have b3 := zbv (zag (zag x)) 3
 have hz : 3 ≤ (zhz x).size ∧ (zhz x).size ≤ 4 := by have := ycw x; show 3 ≤ zgd x ∧ zgd x ≤ 4; omega
 have hst : 0 ≤ (zhz x).start ∧ (zhz x).start ≤ 1000000 := by show 0 ≤ zan x 4 * 100 ∧ zan x 4 * 100 ≤ 1000000; omega
 have hab : -1000000 ≤ (zhz x).absent ∧ (zhz x).absent ≤ 1000000 := by show -1000000 ≤ zan (zag x) 5 * 10 - 30 ∧ zan (zag x) 5 * 10 - 30 ≤ 1000000; omega
 have hw : 0 ≤ (zhz x).window ∧ (zhz x).window ≤ 20 := by show 0 ≤ zan (zag (zag x)) 3 ∧ zan (zag (zag x)) 3 ≤ 20; omega
 have hpl : zgq (zhz x).size (zhz x).places 1000000 0 = 0 := by
  show zgq (zgd x) (zdn x).1 1000000 0 = 0
  rw [zgq, if_pos (zrc x)]
  rcases ygb x with ⟨-, a, b, c, e, h0, h1, h2, h3⟩ | ⟨-, a, b, c, d, e, h0, h1, h2, h3, h4⟩
  ·rw [e]
   exact zlv (fun y hy => by simp only [List.mem_cons, List.not_mem_nil, or_false] at hy; omega) (by simp only [List.sum_cons, List.sum_nil]; omega)
  ·rw [e]
   exact zlv (fun y hy => by simp only [List.mem_cons, List.not_mem_nil, or_false] at hy; omega) (by simp only [List.sum_cons, List.sum_nil]; omega)
 have hr : zfi (zhz x) = 0 := by
  rw [zfi, if_neg (by omega), if_neg (by omega), if_neg (by omega), if_neg (by omega), hpl]
 have hm := zmr (zgd x * zcy (zdn x).2 1 3 + zan (zag (zdn x).2) 2).toNat 0 (zag (zag (zdn x).2)) [] 0 (fun m hm => by cases hm) .nil (fun m hm => by cases hm) (Int.le_refl _)
 have hml : (zhz x).members.length ≤ 13 := by
  have h1 := zqe x
  have h2 := zbv (zdn x).2 (3 - 1 + 1)
  have h3 := zbv (zag (zdn x).2) 2
  have h4 : 1 ≤ zcy (zdn x).2 1 3 ∧ zcy (zdn x).2 1 3 ≤ 3 := by unfold zcy; omega
  have h5 : 0 ≤ zgd x * zcy (zdn x).2 1 3 ∧ zgd x * zcy (zdn x).2 1 3 ≤ 12 := by
   rcases h1 with h | h <;> rw [h] <;> omega
  have h6 := zif (zgd x * zcy (zdn x).2 1 3 + zan (zag (zdn x).2) 2).toNat 0 (zag (zag (zdn x).2)) [] ⟨Int.le_refl _, fun m hm => by cases hm⟩
  show (zfn x).1.length ≤ 13
  rw [zfn, h6.1]; simp only [List.length_nil]; omega
 have hmem : zen (zhz x).members = 0 := by
  rw [zen, if_neg (by omega)]; exact hm
 refine ⟨?_, hz, hst, hw.1, hml⟩
 rw [zdd, hr, if_neg (by decide), hmem, if_neg (by decide), show (zhz x).rounds = [] from rfl]
 rfl
theorem ykr {c : Club} (hc : zdd c = 0) : (c.members.Pairwise fun a b => a.id < b.id) ∧ ∀ m ∈ c.members, 0 < m.id := by
 obtain ⟨-, k2, -⟩ := zfj hc
 exact ⟨yks k2, (zwz k2).pos⟩
theorem yhu {c : Club} {R : List Sitting} (hc : zdd (zcw c R) = 0) (hz : 3 ≤ c.size ∧ c.size ≤ 4) (hst : 0 ≤ c.start ∧ c.start ≤ 1000000) (hw : 0 ≤ c.window) (hm : c.members.length ≤ 13) (hR : R.length ≤ 10) (hR4 : ∀ s ∈ R, s.points.length ≤ 4) (x : Int) :
  zdd (zcw c (R ++ [⟨(zbc (zcw c R) x).1, (zcp (zcw c R) x).1, (zhs c x R).1⟩])) = 0 ∧ (zcp (zcw c R) x).1.length ≤ 4 := by
 obtain ⟨ha, hp⟩ := ykr hc
 have h1 := zyi (c := zcw c R) (by show 1 ≤ c.size; omega) ha x
 have h2 := (zlc (zcw c R) x).subset
 have e : zcs (zcw c R) (zcw c R).rounds.length = zfb (zcw c R) (zcw c R).rounds.length := by
  rw [zcs, if_neg (by omega), if_neg (by omega)]
 rw [e] at h2
 have hids : (zdr (zcw c R) x).1.Pairwise (· < ·) := by
  have := (zlc (zcw c R) x)
  rw [e] at this
  exact List.Pairwise.sublist this (zta ha _)
 have h3 := h1.count
 have h4 : (zdr (zcw c R) x).1.length ≤ 13 := by
  have k1 := (zlc (zcw c R) x).length_le
  rw [e, zfb, List.length_map] at k1
  have k2 := List.length_filter_le (fun m : Member => m.plays (zcw c R).rounds.length) (zcw c R).members
  have k3 : (zcw c R).members.length ≤ 13 := hm
  omega
 have h5 : (zbc (zcw c R) x).1.length ≤ 4 := by
  have k1 : 3 ≤ (zcw c R).size.toNat := by show 3 ≤ c.size.toNat; omega
  have k2 := Nat.mul_le_mul_left (zbc (zcw c R) x).1.length k1
  omega
 have hpl := (znx c.size c.start (by omega) (zbc (zcw c R) x).1.length (zbc (zcw c R) x).2 [] (fun p hp => by cases hp)).2
 rw [List.length_nil, Nat.zero_add] at hpl
 have hpl' : (zcp (zcw c R) x).1.length = (zbc (zcw c R) x).1.length := hpl
 have e2 : zcw c (R ++ [⟨(zbc (zcw c R) x).1, (zcp (zcw c R) x).1, (zhs c x R).1⟩]) = (zcw c R).add ⟨(zbc (zcw c R) x).1, (zcp (zcw c R) x).1, (zhs c x R).1⟩ := rfl
 rw [e2]
 have mem : ∀ t ∈ (zbc (zcw c R) x).1, ∀ y ∈ t, y ∈ zfb (zcw c R) (zcw c R).rounds.length := fun t ht y hy => h2 (h1.perm.mem_iff.1 (List.mem_flatten.2 ⟨t, ht, hy⟩))
 refine ⟨ygv hc (by show R.length < 20; omega) ?_ hpl' (ybc (c := zcw c R) hz hst _ _ [] rfl) ?_ ?_, by rw [hpl']; exact h5⟩
 ·refine zqr (fun t ht => ?_) (fun t ht => zkj ha _ (mem t ht) (h1.asc t ht) fun p hp => by cases hp) ?_ (fun t ht => ?_) h1.heads
  ·have := h1.len t ht
   have k : (zcw c R).size = c.size := rfl
   rw [k] at this ⊢; omega
  ·rw [List.nil_append]; exact h1.perm.nodup_iff.2 (hids.imp fun h => by omega)
  ·have h6 := h1.len t ht
   have k : (zcw c R).size = c.size := rfl
   rw [k] at h6
   cases t with
   | nil => simp at h6; omega
   | cons y r =>
    obtain ⟨m, hm1, hm2⟩ := List.mem_map.1 (mem _ ht y (List.mem_cons_self ..))
    have := hp m (List.mem_filter.1 hm1).1
    simp only [List.headD_cons]; omega
 ·have h6 := (zwb c.size c.start c.window (by omega) (R.map Sitting.points ++ [(zcp (zcw c R) x).1]) 4 (ybl (fun p hp => by
   rcases List.mem_append.1 hp with hp | hp
   ·obtain ⟨s, hs, rfl⟩ := List.mem_map.1 hp
    exact hR4 s hs
   ·obtain rfl := List.mem_singleton.1 hp
    rw [hpl']; exact h5)) (zan (zcp (zcw c R) x).2 3).toNat (zag (zcp (zcw c R) x).2) [] (fun r hr => by cases hr)).2
  have h7 := zbv (zcp (zcw c R) x).2 3
  rw [List.length_nil, Nat.zero_add] at h6
  refine Nat.le_trans h6 ?_
  have h8 : (zan (zcp (zcw c R) x).2 3).toNat ≤ 2 := by omega
  have := Nat.mul_le_mul_right 4 h8
  omega
 ·refine yhs (c := (zcw c R).add ⟨(zbc (zcw c R) x).1, (zcp (zcw c R) x).1, (zhs c x R).1⟩) hz hst hw (n := R.length) (ps := R.map Sitting.points ++ [(zcp (zcw c R) x).1]) (by simp) (fun i hi => ?_) (by rw [zxe]; rfl) _ _ [] rfl
  by_cases h7 : i < R.length
  ·rw [zqv _ _ (by omega) (by show ((i : Nat) : Int) < (R.length : Int); omega), Club.round_at _ (show i < (zcw c R).rounds.length from h7), List.getD_eq_getElem?_getD, List.getElem?_append_left (by simpa using h7), List.getElem?_map, List.getElem?_eq_getElem h7]
   rfl
  ·obtain rfl : i = R.length := by omega
   have k := zue (zcw c R) ⟨(zbc (zcw c R) x).1, (zcp (zcw c R) x).1, (zhs c x R).1⟩
   rw [show ((zcw c R).rounds.length : Int) = (R.length : Int) from rfl] at k
   rw [k]
   simp
theorem zud {c : Club} (hz : 3 ≤ c.size ∧ c.size ≤ 4) (hst : 0 ≤ c.start ∧ c.start ≤ 1000000) (hw : 0 ≤ c.window) (hm : c.members.length ≤ 13) : ∀ (k : Nat) (x : Int) (R : List Sitting), R.length + k ≤ 10 → (∀ s ∈ R, s.points.length ≤ 4) → zdd (zcw c R) = 0 →
  zdd (zcw c (zey c k x R).1) = 0 ∧ ∀ s ∈ (zey c k x R).1, s.points.length ≤ 4
 | 0, x, R, h1, h2, h3 => ⟨h3, h2⟩
 | k + 1, x, R, h1, h2, h3 => by
  rw [zey]
  obtain ⟨h4, h5⟩ := yhu h3 hz hst hw hm (by omega) h2 x
  exact zud hz hst hw hm k _ _ (by rw [List.length_append, List.length_singleton]; omega) (fun s hs => by
   rcases List.mem_append.1 hs with hs | hs
   ·exact h2 s hs
   ·obtain rfl := List.mem_singleton.1 hs
    exact h5) h4
theorem ykk (x : Int) : zdd (zet x 3).1 = 0 ∧ ∀ s ∈ (zet x 3).1.rounds, s.points.length ≤ 4 := by
 obtain ⟨h1, h2, h3, h4, h5⟩ := ynz x
 have hb := zbv (zfn x).2 (3 + 1)
 exact zud h2 h3 h4 h5 (zan (zfn x).2 (3 + 1)).toNat _ [] (by rw [List.length_nil]; omega) (fun s hs => by cases hs) h1
end Go.XL
namespace Go.XL
set_option maxHeartbeats 4000000
set_option maxRecDepth 100000
def cT (c : Club) (i : Nat) (m : Member) : List (List Int) → Nat → Int × Int
 | [], _ => (if m.plays i = true then c.absent else 0, 0)
 | t :: T, k => if idxI t m.id < 0 then cT c i m T (k + 1) else if zfe c i k = false then (0, 0) else ((zjm (zes c i k) c.places c.start c.share).getD (idxI t m.id).toNat 0 + m.hand, 1)
end Go.XL
namespace Go.XL
set_option maxHeartbeats 4000000
set_option maxRecDepth 100000
def Club.more (c : Club) (m : Member) : Club := { c with members := c.members ++ [m] }
theorem ydr {α : Type} {p : α → Bool} : ∀ (l r : List α) (n : Nat), 0 ≤ idxF p l n → idxF p (l ++ r) n = idxF p l n
 | [], _, _, h => by simp [idxF] at h
 | a :: l, r, n, h => by
  rw [List.cons_append, idxF, idxF]
  rw [idxF] at h
  split
  ·rfl
  ·rename_i hp; rw [if_neg hp] at h; exact ydr l r (n + 1) h
theorem yjz {c : Club} {m : Member} {id : Int} (h : ¬ zfs c id < 0) : zfs (c.more m) id = zfs c id := ydr _ _ _ (by rw [zfs] at h; omega)
theorem ymt {c : Club} {m : Member} {id : Int} (h : ¬ zfs c id < 0) : (c.more m).mem (zfs c id) = c.mem (zfs c id) := by
 have hl : (zfs c id).toNat < c.members.length := by
  rcases zwx (fun m => decide (m.id = id)) c.members 0 with e | ⟨j, y, e1, e2, e3⟩
  ·rw [zfs, e] at h; omega
  ·rw [zfs, e3]
   have := (List.getElem?_eq_some_iff.1 e1).1
   omega
 rw [Club.mem, Club.mem, Club.more]
 dsimp only
 rw [List.getD_eq_getElem?_getD, List.getD_eq_getElem?_getD, List.getElem?_append_left hl]
theorem zpi {c : Club} {m : Member} {round : Int} : ∀ {l : List Int} {pre : Option Int}, zdw c round l pre = 0 → zdw (c.more m) round l pre = 0
 | [], _, _ => rfl
 | id :: l, pre, h => by
  rw [zdw] at h ⊢
  split at h
  ·cases h
  rename_i h1
  rw [yjz h1, ymt h1, if_neg h1]
  split at h
  ·cases h
  rename_i h2
  rw [if_neg h2]
  split at h
  ·cases h
  rename_i h3
  rw [if_neg h3]
  exact zpi h
theorem znm {c : Club} {m : Member} {round : Int} : ∀ {T : List (List Int)} {s : List Int} {f : Int}, zdl c round T s f = 0 → zdl (c.more m) round T s f = 0
 | [], _, _, _ => rfl
 | t :: T, s, f, h => by
  rw [zdl] at h ⊢
  rw [show (c.more m).size = c.size from rfl]
  split at h
  ·cases h
  rename_i h1
  rw [if_neg h1]
  split at h
  ·rename_i h2; exact absurd h h2
  rename_i h2
  have h2 := zpi (m := m) (Decidable.not_not.1 h2)
  rw [if_neg (by rw [h2]; decide)]
  split at h
  ·cases h
  rename_i h3
  rw [if_neg h3]
  split at h
  ·cases h
  rename_i h4
  rw [if_neg h4]
  exact znm h
theorem zmq (c : Club) (m : Member) (k : Int) : ∀ l, zct (c.more m) k l = zct c k l
 | [] => rfl
 | x :: r => by
  rw [zct, zct, zmq c m k r]
  rfl
theorem yfx (c : Club) (m : Member) (k : Int) : zgr (c.more m) k = zgr c k := by
 rw [zgr, zgr, zfl, zfl, zfa, zfa, zmq, zhp (c := c.more m) (d := c) rfl rfl]
 rfl
theorem zoa {m : Member} (h1 : -10000 ≤ m.hand ∧ m.hand ≤ 10000) (h2 : 0 ≤ m.from_ ∧ m.from_ ≤ 20) (h3 : m.from_ ≤ m.to ∧ m.to ≤ 20) : ∀ {l : List Member} {last : Int}, zdi l last = 0 → (∀ x ∈ l, x.id < m.id) → last < m.id → zdi (l ++ [m]) last = 0
 | [], last, _, _, hl => by
  rw [List.nil_append, zdi, if_neg (by omega), if_neg (by omega), if_neg (by omega)]
  split <;> first | rfl | (rw [if_pos h3]; rfl) | (simp [h3, zdi])
 | x :: l, last, h, hx, hl => by
  have hm := hx x (List.mem_cons_self ..)
  have ih := fun e => zoa h1 h2 h3 (l := l) (last := x.id) e (fun y hy => hx y (List.mem_cons_of_mem _ hy)) hm
  rw [List.cons_append, zdi]
  rw [zdi] at h
  split at h
  ·cases h
  rename_i k1
  rw [if_neg k1]
  split at h
  ·cases h
  rename_i k2
  rw [if_neg k2]
  split at h
  ·cases h
  rename_i k3
  rw [if_neg k3]
  split at h
  ·rename_i k4; rw [if_pos k4]; exact ih h
  rename_i k4
  rw [if_neg k4]
  split at h
  ·rename_i k5; rw [if_pos k5]; exact ih h
  ·cases h
theorem ybw {c : Club} (hc : zdd c = 0) {m : Member} (hl : c.members.length < 40) (h0 : 0 < m.id) (hx : ∀ x ∈ c.members, x.id < m.id) (h1 : -10000 ≤ m.hand ∧ m.hand ≤ 10000) (h2 : 0 ≤ m.from_ ∧ m.from_ ≤ 20) (h3 : m.from_ ≤ m.to ∧ m.to ≤ 20) : zdd (c.more m) = 0 := by
 have hr : zfi (c.more m) = zfi c := rfl
 obtain ⟨a1, a2, a3⟩ := zfj hc
 have a2' : zen (c.more m).members = 0 := by
  rw [zen] at a2
  rw [if_neg (by omega)] at a2
  rw [zen, Club.more]
  dsimp only
  rw [if_neg (by rw [List.length_append, List.length_singleton]; omega)]
  exact zoa h1 h2 h3 a2 hx h0
 rw [zdd, hr, if_neg (by rw [a1]; decide), if_neg (by rw [a2']; decide), show (c.more m).rounds = c.rounds from rfl, if_neg (by omega)]
 refine (zgl (c.more m) _ 0).2 fun k _ hk => ?_
 obtain ⟨b1, b2⟩ := zkf hc (i := k) (by omega)
 exact ⟨znm b1, by rw [yfx]; exact b2⟩
theorem zug (c : Club) (w : Member) (m : Member) (i : Nat) : ∀ (T : List (List Int)) (k : Nat) (r : Rank), zkh (c.more w) m i T k r = zkh c m i T k r
 | [], _, _ => rfl
 | t :: T, k, r => by
  rw [zkh, zkh, zug c w m i T]
  rfl
theorem zuh (c : Club) (w : Member) (m : Member) : ∀ (R : List Sitting) (i : Nat) (r : Rank), znw (c.more w) m R i r = znw c m R i r
 | [], _, _ => rfl
 | s :: R, i, r => by rw [znw, znw, zuh c w m R, zug]
theorem yfy (c : Club) (w m : Member) : zjo (c.more w) m = zjo c m := zuh c w m _ _ _
theorem yge {c : Club} (hc : zdd c = 0) {w : Member} (hw : zdd (c.more w) = 0) {ids : List Int} (hid : zdw c c.rounds.length ids none = 0) : zhy (c.more w) ids = zhy c ids := by
 have hid2 := zpi (m := w) hid
 rw [zhy, zhy, hc, hw, show (c.more w).rounds = c.rounds from rfl, hid, hid2]
 rfl
theorem zrd {β : Type} (f : Rank → β) (hf : ∀ (r : Rank) (x : Int), f { r with place := x } = f r) : ∀ (l : List Rank) (p : Rank) (i : Nat), (ziu p i l).map f = l.map f
 | [], _, _ => rfl
 | r :: l, p, i => by rw [ziu, List.map_cons, List.map_cons, hf, zrd f hf l]
theorem zty {β : Type} (c : Club) (f : Rank → β) (hf : ∀ (r : Rank) (x : Int), f { r with place := x } = f r) : ((zjf c).map f).Perm (c.members.map fun m => f (zjo c m)) := by
 rw [zjf, zrd f hf]
 have := (zlx (c.members.map (zjo c))).map f
 rwa [List.map_map] at this
theorem yfm (c : Club) (w : Member) : (zjf (c.more w)).length = (zjf c).length + 1 ∧ ∀ r ∈ zjf c, ∃ r' ∈ zjf (c.more w), r'.id = r.id ∧ r'.total = r.total ∧ r'.games = r.games := by
 let f : Rank → Int × Int × Int := fun r => (r.id, r.total, r.games)
 have p1 := zty c f fun _ _ => rfl
 have p2 := zty (c.more w) f fun _ _ => rfl
 have hl1 := p1.length_eq
 have hl2 := p2.length_eq
 simp only [List.length_map, Club.more, List.length_append, List.length_singleton] at hl1 hl2
 refine ⟨by rw [hl1]; exact hl2, fun r hr => ?_⟩
 have h1 : f r ∈ c.members.map fun m => f (zjo c m) := p1.mem_iff.1 (List.mem_map.2 ⟨r, hr, rfl⟩)
 obtain ⟨m, hm, e⟩ := List.mem_map.1 h1
 have h2 : f r ∈ (zjf (c.more w)).map f := p2.mem_iff.2 (List.mem_map.2 ⟨m, List.mem_append_left _ hm, by rw [yfy]; exact e⟩)
 obtain ⟨r', hr', e'⟩ := List.mem_map.1 h2
 have e1 : (r'.id, r'.total, r'.games) = (r.id, r.total, r.games) := e'
 obtain ⟨q1, q2⟩ := Prod.ext_iff.1 e1
 obtain ⟨q2, q3⟩ := Prod.ext_iff.1 q2
 exact ⟨r', hr', q1, q2, q3⟩
theorem ygs {c : Club} (hc : zdd c = 0) {ids : List Int} {most : Nat} (h : Comers c ids most) : zdw c c.rounds.length ids none = 0 := by
 have hm := (ykr hc).1
 have hsub : ids.Sublist (zfb c c.rounds.length) := by
  have := h.sub
  rw [zcs, if_neg (by omega), if_neg (by omega)] at this
  exact this
 have h1 : (zfb c c.rounds.length).Pairwise (· < ·) := by
  rw [zfb, List.pairwise_map]
  exact hm.filter _
 exact zkj hm _ (fun x hx => hsub.subset hx) (List.Pairwise.sublist hsub h1) fun p hp => by cases hp
theorem yfo {c : Club} (h : c.Small) (hl : c.members.length ≤ 100) (w : Member) : (c.more w).Small :=
 ⟨h.places, by show (c.members ++ [w]).length ≤ _; rw [List.length_append, List.length_singleton]; omega, h.rounds, h.round⟩
end Go.XL
namespace Go.XL
open Go.Proofs
set_option maxRecDepth 100000
set_option maxHeartbeats 8000000
theorem zyu : ∀ l : List Member, (l.map Member.cells).flatten.map V.copy = (l.map Member.cells).flatten
 | [] => rfl
 | m :: l => by rw [List.map_cons, List.flatten_cons, List.map_append, zyu l]; rfl
theorem yX50 {p : Prop} (h : p := by (simp (disch := omega) only [go_sem, dopV, yV0, ↓reduceIte, Nat.reduceEqDiff, Nat.reduceLT, Nat.reduceLeDiff, Nat.reduceAdd, Nat.reduceMul, Nat.reduceSub, Int.reduceToNat, Int.reduceLT, Int.reduceLE, Int.reduceEq, IntWalk.toNatUp, IntWalk.iteOmega, IntWalk.i64_in, V.flat, V.one, GR.cell_some, List.length_map]; try exact rfl)) : p := h
theorem ztq (nums : List Int) (at_ : Int) (hat : In64 at_) (h0 : 0 < (zet (newX nums) 3).1.members.length) : PC Tryz.prog 4 [ints nums, I at_] (Bo true) := by
 have hz := yeo (newX nums)
 have hc := (ykk (newX nums)).1
 have hin := yqa at_ 9 hat (by omega)
 refine DC.of_run Tryz.func4 rfl Tryz.ntmps4 Tryz.results4 (by simp) (fun _ => ?_); simp only [zaq, zau, go_sem, Nat.zero_add, Nat.reduceAdd]
 repeat' (first | (with_reducible first | refine zac yU yU yE ?_ | refine zab ?_ | refine DS.seq ?_ | refine zaa ?_) | fail)
 refine DS.call (dst := some 22) [] [] inferInstance (ykg nums 12 (by omega)) yR yH (fun _ _ e => by cases e) (fun _ _ e => by cases e) ?_
 rintro v S0 ⟨bs, x, ids, rfl, rfl, hcm⟩ -
 refine zer (S' := []) (fun _ _ e => by cases e) ?_
 generalize (zet (newX nums) 3).1 = c at hz hcm hc h0 ⊢
 have hsm := hz.small
 have htb := hz.tab
 have hid := hz.in64
 have hsz := hz.size
 have hrl := hz.rounds
 have hml := hz.mem
 have hlen := hcm.len
 simp only [zcz]
 repeat' (first | with_reducible refine zac yU yU yE ?_ | fail)
 refine zeh yR yU yU (fun b6 h6 => ?_)
 clear h6
 have e0 : (Value.agg #[.int .i64 0, .int .i64 0, .int .i64 0, .int .i64 0, .slice none 0 0, .bool false, .slice none 0 0, .slice none 0 0]).cells.toList.map V.v = zeb := rfl
 rw [e0]
 repeat' (first | (with_reducible first | refine zac yU yU yE ?_ | refine zab ?_ | refine DS.seq ?_ | refine zaa ?_) | (refine DS.store yR yE yE yE yE yU (by exact ⟨by with_unfolding_all rfl, by (try simp only [List.length_map, List.length_append, List.length_set, List.length_replicate, List.length_cons, List.length_nil]); omega⟩) ?_; simp only [zbo, zav, zaz, zbz, zbl, zbj, zbk]; try simp only [zao, zaf, zah, Nat.reduceEqDiff, ↓reduceIte, zak, zal, zar, zaj, zai, zap, zam]) | fail)
 simp only [Club.cells_eq, zeb, List.map_cons, List.map_nil, zcr, zbp, zav, zaz, zcl, zby, setS, ↓reduceIte, Nat.reduceAdd, Nat.zero_add]
 refine DS.call (dst := some 27) [] [(b6, .cells (gN c (.lst (c.members.map Member.cells)) (.lst (c.rounds.map Sitting.cells))) 26)] inferInstance (ynu c hsm) yR yH (fun _ _ e => by cases e) (fun _ _ e => ⟨e, rfl⟩) ?_
 rintro v S0 ⟨⟨ml, blk⟩, rfl, gok, rfl⟩ hdis
 cases blk with
 | none =>
  have : c.members.map Member.cells = [] := gok
  have := List.map_eq_nil_iff.1 this
  rw [this] at h0; exact absurd h0 (by simp)
 | some z =>
 obtain ⟨bm, cap, junk⟩ := z
 have gok : GR.At 47 4 S0 (c.members.map Member.cells) bm cap junk := gok
 have k1 := gok.look
 have n1 := hdis bm _ k1
 have n6 : ¬ b6 = bm := fun h => by rw [zae, if_pos h] at n1; cases n1
 have n6' : ¬ bm = b6 := fun h => n6 h.symm
 have g2 := gok.len
 have g3 := gok.le
 have g4 := gok.cap
 have g5 := gok.jf
 refine zer (S' := [(bm, .cells ((c.members.map Member.cells).flatten ++ junk) 47), (b6, .cells (gN c (.lst (c.members.map Member.cells)) (.lst (c.rounds.map Sitting.cells))) 26)]) (zfm ⟨ykw k1, ztu (fun b o e => by cases e2 : zad S0 b with | none => rfl | some o2 => have := hdis b o2 e2; rw [e] at this; cases this) (by simp only [zae, ↓reduceIte]), trivial⟩) ?_
 clear n1 hdis k1
 simp only [zcz, GR.cell_some, List.length_map]
 skip
 refine zeh yR yU yU (fun b8 h8 => ?_)
 rw [e0]
 clear e0
 have m8 : ¬ b6 = b8 := fun e => by simp only [zae, e, n6', n6, ↓reduceIte] at h8; first | (cases h8; done) | (split at h8 <;> cases h8)
 have m8' : ¬ b8 = b6 := fun e => m8 e.symm
 have n8 : ¬ bm = b8 := fun e => by simp only [zae, e, ↓reduceIte] at h8; first | (cases h8; done) | (split at h8 <;> cases h8)
 have n8' : ¬ b8 = bm := fun e => n8 e.symm
 clear h8
 have hpos : (0 : Int) < (c.members.length : Int) := by omega
 have hli := hz.id (c.members[c.members.length - 1]'(by omega)) (List.getElem_mem _)
 have hlast : ∀ x ∈ c.members, x.id ≤ (c.members[c.members.length - 1]'(by omega)).id := fun x hx => by
  obtain ⟨j, hj, rfl⟩ := List.mem_iff_getElem.1 hx
  by_cases e : j = c.members.length - 1
  ·subst e; exact Int.le_refl _
  ·exact Int.le_of_lt (List.pairwise_iff_getElem.1 (ykr hc).1 j (c.members.length - 1) hj (by omega) (by omega))
 repeat' (first | (with_reducible first | refine zac yU yU yE ?_ | refine zab ?_ | refine DS.seq ?_ | refine zaa ?_ | (refine zbd yE ?_; refine zde ?_)) | (refine DS.store yR yE yE yE yE yU (by exact ⟨by with_unfolding_all rfl, by (try simp only [List.length_map, List.length_append, List.length_set, List.length_replicate, List.length_cons, List.length_nil]); omega⟩) ?_; simp only [zbo, zav, zaz, zbz, zbl, zbj, zbk]; try simp only [zao, zaf, zah, Nat.reduceEqDiff, ↓reduceIte, zak, zal, zar, zaj, zai, zap, zam]) | fail)
 clear hpos
 simp only [zeb, List.map_cons, List.map_nil, zcr, zbp, zav, zaz, zcl, zby, setS, m8, m8', n8, n8', n6, n6', ↓reduceIte, Nat.reduceAdd, Nat.zero_add]
 generalize (c.members[c.members.length - 1]'(by omega)).id = lid at hli hlast ⊢
 have hS1 : subS [(b8, .cells (gN c (.v (.slice (some ⟨bm, 0, none⟩) c.members.length cap)) (.lst (c.rounds.map Sitting.cells))) 26), (b6, .cells (gN c (.lst (c.members.map Member.cells)) (.lst (c.rounds.map Sitting.cells))) 26)] [(b8, .cells (gN c (.v (.slice (some ⟨bm, 0, none⟩) c.members.length cap)) (.lst (c.rounds.map Sitting.cells))) 26), (bm, .cells ((c.members.map Member.cells).flatten ++ junk) 47), (b6, .cells (gN c (.lst (c.members.map Member.cells)) (.lst (c.rounds.map Sitting.cells))) 26)] := ⟨by simp only [zae, m8, m8', n8, n8', n6, n6', ↓reduceIte], by simp only [zae, m8, m8', n8, n8', n6, n6', ↓reduceIte], trivial⟩
 have hS0 : ∀ d o, zad [(b8, .cells (gN c (.v (.slice (some ⟨bm, 0, none⟩) c.members.length cap)) (.lst (c.rounds.map Sitting.cells))) 26), (b6, .cells (gN c (.lst (c.members.map Member.cells)) (.lst (c.rounds.map Sitting.cells))) 26)] d = some o → zad [(b8, .cells (gN c (.v (.slice (some ⟨bm, 0, none⟩) c.members.length cap)) (.lst (c.rounds.map Sitting.cells))) 26), (bm, .cells ((c.members.map Member.cells).flatten ++ junk) 47), (b6, .cells (gN c (.lst (c.members.map Member.cells)) (.lst (c.rounds.map Sitting.cells))) 26)] d = some o ∧ zad [(bm, .cells ((c.members.map Member.cells).flatten ++ junk) 47)] d = none := fun d o e => ⟨zfm hS1 d o e, by
  rw [zae]
  split
  ·rename_i h; subst h
   simp only [zae, zca, n8', n6, ↓reduceIte] at e
   cases e
  ·rfl⟩
 refine zoy (id := 7) [(b8, .cells (gN c (.v (.slice (some ⟨bm, 0, none⟩) c.members.length cap)) (.lst (c.rounds.map Sitting.cells))) 26), (b6, .cells (gN c (.lst (c.members.map Member.cells)) (.lst (c.rounds.map Sitting.cells))) 26)] [(bm, .cells ((c.members.map Member.cells).flatten ++ junk) 47)] [] [0, 1, 2, 3, 4, 5, 6, 7, 8, 9] 10 rfl (by kernel_rfl) (by decide) zdq hS0 (zfm ⟨by simp only [zae, m8, m8', n8, n8', n6, n6', ↓reduceIte], trivial⟩)
  rfl (by simp only [zbb, zbe, zbf, zbg, zba]; exact rfl) (by simp only [zax, zay, List.drop_nil]; exact rfl) ?_
 repeat' (first | with_reducible refine zbw yU yU yU yX8 ?_ | refine zkr inferInstance (hin) yU yX35 ?_ | (refine zhn yU yX8 yX8 ?_; simp only [go_sem, Nat.zero_add, Nat.reduceAdd]; simp only [zcc, zcm, Nat.reduceEqDiff, ↓reduceIte]) | fail)
 have hai := Int.emod_nonneg at_ (show (9 : Int) ≠ 0 by omega)
 have haj := Int.emod_lt_of_pos at_ (show (0 : Int) < 9 by omega)
 generalize hw : (⟨lid + 1 + at_ % 9, 0, 20, 20⟩ : Member) = w
 refine znh rfl rfl rfl yR (zij (g := ⟨c.members.map Member.cells, some (bm, cap, junk)⟩) (ml := [w.cells]) rfl yH yH yR yR (by decide) yX50 (⟨by simp only [zae, ↓reduceIte], g2, g3, g4, g5, gok.lf, gok.ll⟩ : GR.At 47 4 _ (c.members.map Member.cells) bm cap junk) (by subst hw; (simp (disch := omega) only [go_sem, dopV, yV0, ↓reduceIte, Nat.reduceEqDiff, Nat.reduceLT, Nat.reduceLeDiff, Nat.reduceAdd, Nat.reduceMul, Nat.reduceSub, Int.reduceToNat, Int.reduceLT, Int.reduceLE, Int.reduceEq, IntWalk.toNatUp, IntWalk.iteOmega, IntWalk.i64_in, V.flat, V.one]; try exact rfl)) (by subst hw; (simp (disch := omega) only [go_sem, dopV, yV0, ↓reduceIte, Nat.reduceEqDiff, Nat.reduceLT, Nat.reduceLeDiff, Nat.reduceAdd, Nat.reduceMul, Nat.reduceSub, Int.reduceToNat, Int.reduceLT, Int.reduceLE, Int.reduceEq, IntWalk.toNatUp, IntWalk.iteOmega, IntWalk.i64_in, V.flat, V.one]; try exact rfl)) (by exact Nat.zero_lt_succ _) (by intro y hy; obtain rfl := List.mem_singleton.1 hy; rfl) ⟨by rw [List.length_map, List.length_singleton]; omega, by decide⟩) (fun u2 E' Sg hu2 hdis => ?_)
 obtain ⟨rfl, b', cap', junk', rfl, q1, q2, q3⟩ := hu2
 have hml2 : c.members.map Member.cells ++ [w.cells].map (fun x => List.map V.copy x) = (c.more w).members.map Member.cells := by
  rw [Club.more, List.map_append]; rfl
 rw [hml2] at q1 ⊢
 have hln : ((c.more w).members.map Member.cells).length = c.members.length + 1 := by rw [List.length_map, Club.more, List.length_append]; rfl
 have l8 : zad [(b8, .cells (gN c (.v (.slice (some ⟨bm, 0, none⟩) c.members.length cap)) (.lst (c.rounds.map Sitting.cells))) 26), (b6, .cells (gN c (.lst (c.members.map Member.cells)) (.lst (c.rounds.map Sitting.cells))) 26)] b8 = some (.cells (gN c (.v (.slice (some ⟨bm, 0, none⟩) c.members.length cap)) (.lst (c.rounds.map Sitting.cells))) 26) := by simp only [zae, ↓reduceIte]
 have l6 : zad [(b8, .cells (gN c (.v (.slice (some ⟨bm, 0, none⟩) c.members.length cap)) (.lst (c.rounds.map Sitting.cells))) 26), (b6, .cells (gN c (.lst (c.members.map Member.cells)) (.lst (c.rounds.map Sitting.cells))) 26)] b6 = some (.cells (gN c (.lst (c.members.map Member.cells)) (.lst (c.rounds.map Sitting.cells))) 26) := by simp only [zae, m8', ↓reduceIte]
 have u8 := yad hdis q1.look l8
 have u6 := yad hdis q1.look l6
 have u8' : ¬ b8 = b' := fun h => u8 h.symm
 have u6' : ¬ b6 = b' := fun h => u6 h.symm
 refine zer (S' := [(b', .cells (((c.more w).members.map Member.cells).flatten ++ junk') 47), (b8, .cells (gN c (.v (.slice (some ⟨bm, 0, none⟩) c.members.length cap)) (.lst (c.rounds.map Sitting.cells))) 26), (b6, .cells (gN c (.lst (c.members.map Member.cells)) (.lst (c.rounds.map Sitting.cells))) 26)]) (zfm ⟨ykw q1.look, ztu hdis l8, ztu hdis l6, trivial⟩) ?_
 simp only [zcz, GR.cell_some, hln]
 have hck : zdd (c.more w) = 0 := ybw hc (by omega) (by subst hw; dsimp only; omega) (fun x hx => by have := hlast x hx; subst hw; dsimp only; omega) (by subst hw; dsimp only; omega) (by subst hw; dsimp only; omega) (by subst hw; dsimp only; omega)
 have hsm2 := yfo hsm (by omega) w
 have hnx := zwl c hsm htb hid ids (by omega)
 have hnx2 := zwl (c.more w) hsm2 htb (fun m hm => by
  rcases List.mem_append.1 (show m ∈ c.members ++ [w] from hm) with h | h
  ·exact hid m h
  ·obtain rfl := List.mem_singleton.1 h
   subst hw; unfold In64; dsimp only; omega) ids (by omega)
 rw [yge hc hck (ygs hc hcm)] at hnx2
 have hst := zxw c hsm (by omega) (zxx (by omega)) hc h0
 have hl2 : (c.more w).members.length = c.members.length + 1 := by rw [Club.more, List.length_append]; rfl
 have hst2 := zxw (c.more w) hsm2 (by omega) (zxx (by omega)) hck (by omega)
 obtain ⟨r1, r2⟩ := yfm c w
 have r3 : (zjf c).length = c.members.length := by rw [zjf, zpe, zxy, List.length_map]
 generalize zjf c = R at *
 generalize zjf (c.more w) = R2 at *
 generalize zhy c ids = N at *
 obtain ⟨T, e⟩ := N
 dsimp only at hnx hnx2
 have HR := Box.mk r2
 have f2 := q1.len
 have f3 := q1.le
 have f4 := q1.cap
 have fll : (((c.more w).members.map Member.cells).flatten ++ junk').length = cap' * 4 := by rw [List.length_append, zgh q1.ll]; exact f2
 have hch : chunk 4 (c.members.length + 1) ((((c.more w).members.map Member.cells).flatten ++ junk').map V.copy) = (c.more w).members.map Member.cells := by
  rw [List.map_append, zyu]
  have := zgw (sz := 4) (j := junk'.map V.copy) (l := (c.more w).members.map Member.cells) (fun y hy => by obtain ⟨z, _, rfl⟩ := List.mem_map.1 hy; rfl)
  rw [hln] at this; exact this
 rw [hln] at f3
 clear r2 hc hck hcm hid hlast hz hml2 hln l8 l6 gok hdis q1 q2 q3 g2 g3 g4 g5
 repeat' (first | (with_reducible first | refine zac yU yU yE ?_ | refine zab ?_ | refine DS.seq ?_ | refine zaa ?_) | (refine DS.store yR yE yE yE yE yU (by exact ⟨by with_unfolding_all rfl, by (try simp only [List.length_map, List.length_append, List.length_set, List.length_replicate, List.length_cons, List.length_nil]); omega⟩) ?_; simp only [zbo, zav, zaz, zbz, zbl, zbj, zbk]; try simp only [zao, zaf, zah, Nat.reduceEqDiff, ↓reduceIte, zak, zal, zar, zaj, zai, zap, zam]) | fail)
 simp only [setS, zbn, zbs, u8, u8', u6, u6', m8, m8', ↓reduceIte, zcl, zby, zcr]
 refine zis (b := b') (b' := b8) (i := 6) (sz := 4) (len := c.members.length + 1) (cap := cap') (l' := gN c (.v (.slice (some ⟨b', 0, none⟩) (c.members.length + 1) cap')) (.lst (c.rounds.map Sitting.cells))) (l := ((c.more w).members.map Member.cells).flatten ++ junk') (T := 47) (T' := 26) u8' (by simp only [zae, m8, m8', u8, u8', u6, u6', ↓reduceIte]) yR (by simp only [zae, m8, m8', u8, u8', u6, u6', ↓reduceIte]) (by rw [fll]; omega) ⟨f3, f4⟩ ?_
 rw [hch]
 simp only [setS, zbn, zbs, u8, u8', u6, u6', m8, m8', ↓reduceIte, zcl, zby]
 clear hch fll f2 f3 f4
 have hsame := zou T T
 rw [decide_eq_true rfl] at hsame
 clear hsm hsm2 htb hat hin
 refine ylo (dst := some 54) inferInstance hnx yR yH ?_
 simp only [zcz]
 repeat' (first | (with_reducible first | refine zac yU yU yE ?_ | refine zab ?_ | refine DS.seq ?_ | refine zaa ?_) | fail)
 refine ylo (dst := some 60) inferInstance hnx2 yR yH ?_
 simp only [zcz]
 repeat' (first | (with_reducible first | refine zac yU yU yE ?_ | refine zab ?_ | refine DS.seq ?_ | refine zaa ?_ | (refine zbd yE ?_; refine zdk ?_) | (refine zdz yU yE ?_; refine GG.run ?_) | refine DS.skip ?_) | refine zcf inferInstance (hsame) yR yT ?_ | fail)
 refine ylo (dst := some 74) inferInstance hst yR yH ?_
 simp only [zcz]
 repeat' (first | (with_reducible first | refine zac yU yU yE ?_ | refine zab ?_ | refine DS.seq ?_ | refine zaa ?_) | fail)
 refine ylo (dst := some 79) inferInstance hst2 yR yH ?_
 simp only [zcz]
 clear hnx hnx2 hst hst2 hsame
 repeat' (first | (with_reducible first | refine zac yU yU yE ?_ | refine zab ?_ | refine DS.seq ?_ | refine zaa ?_ | (refine zbd yE ?_; refine zgb (fun _ => ?_) (fun _ => ?_)) | (refine zdz yU yE ?_; refine GG.run ?_) | refine DS.block ?_ | refine DS.skip ?_) | fail)
 all_goals first | (exfalso; omega) | skip
 clear u8 u8' u6 u6' m8 m8' n8 n8' n6 n6' hw hli hai haj
 refine zcn [15, 16] yN (fun (i : Nat) => [(17, I i)]) (fun (i : Nat) => i ≤ R.length) (fun (i : Nat) => R.length - i) 0 yS (Nat.zero_le _) (fun i B hI hB => ?_); try dsimp only at hI hB; simp only [zas, zaw]
 have HB := Box.mk hB
 clear hB
 by_cases hi : (i : Int) < (c.members.length : Int)
 ·have hi' : i < R.length := by omega
  repeat' (first | (with_reducible first | refine zac yU yU yE ?_ | refine zab ?_ | refine DS.seq ?_ | refine zaa ?_ | (refine zbd yE ?_; refine zde ?_) | refine DS.block ?_ | refine DS.skip ?_) | fail)
  refine zcn [15, 16, 17] yN (fun (z : Nat × Bool) => [(18, Bo z.2), (19, I z.1)]) (fun (z : Nat × Bool) => z.1 ≤ R2.length ∧ ∀ j (hj : j < R2.length), j < z.1 → R2[j].id = R[i].id → R2[j].total = R[i].total → R2[j].games = R[i].games → z.2 = true) (fun (z : Nat × Bool) => R2.length - z.1) (0, false) yS ⟨Nat.zero_le _, fun j hj h => absurd h (Nat.not_lt_zero _)⟩ (fun z B hI hB => ?_); try dsimp only at hI hB; simp only [zas, zaw]
  obtain ⟨k, f⟩ := z
  dsimp only at hI hB ⊢
  obtain ⟨g1, g2⟩ := hI
  have H := Box.mk g2
  clear g2
  have HB1 := Box.mk hB
  clear hB
  by_cases hk : (k : Int) < (c.members.length : Int) + 1
  ·have hk' : k < R2.length := by omega
   cases f with
   | true =>
    repeat' (first | (with_reducible first | refine zac yU yU yE ?_ | refine zab ?_ | refine DS.seq ?_ | refine zaa ?_ | (refine zbd yE ?_; refine zde ?_) | (refine zdz yU yE ?_; first | refine yaj ?_ | refine ztg ?_) | refine DS.blk ?_ | refine DS.block ?_ | refine DS.skip ?_) | refine zce (id := 23) [0, 1, 2, 3, 4, 5, 6, 7, 8, 9, 10, 11, 12, 13, 14, 15, 16, 17, 18, 19, 20, 21, 22, 23, 24, 25, 26, 27, 28, 29, 30, 31, 32, 33, 34, 35, 36] 37 (by kernel_rfl) zdq (by simp only [zbb, zbe, zbf, zbg, zba]; exact rfl) (by simp only [zax, zay, List.drop_nil]; exact rfl) ?_ | (with_reducible first | refine zbw yU yU yU yE ?_ | (refine zni yU yE ?_; first | refine ypa ?_ | refine ypb ?_) | refine zdc ?_) | fail)
    refine DS.back (HB1.out (k + 1, true) _ _ (by dsimp only; omega) ⟨by dsimp only; omega, fun _ _ _ _ _ _ => rfl⟩ yS yS (fun d o e => by exact e))
   | false =>
    by_cases e1 : R2[k].id = R[i].id
    ·by_cases e2 : R2[k].total = R[i].total
     ·by_cases e3 : R2[k].games = R[i].games
      ·repeat' (first | (with_reducible first | refine zac yU yU yE ?_ | refine zab ?_ | refine DS.seq ?_ | refine zaa ?_ | (refine zbd yE ?_; refine zde ?_) | (refine zdz yU yE ?_; refine GG.run ?_) | refine DS.blk ?_ | refine DS.block ?_ | refine DS.skip ?_) | refine zce (id := 23) [0, 1, 2, 3, 4, 5, 6, 7, 8, 9, 10, 11, 12, 13, 14, 15, 16, 17, 18, 19, 20, 21, 22, 23, 24, 25, 26, 27, 28, 29, 30, 31, 32, 33, 34, 35, 36] 37 (by kernel_rfl) zdq (by simp only [zbb, zbe, zbf, zbg, zba]; exact rfl) (by simp only [zax, zay, List.drop_nil]; exact rfl) ?_ | (with_reducible first | refine zbw yU yU yU yE ?_ | (refine zni yU yE ?_; refine DGG.run ?_) | refine zdc ?_) | fail)
       refine DS.back (HB1.out (k + 1, true) _ _ (by dsimp only; omega) ⟨by dsimp only; omega, fun _ _ _ _ _ _ => rfl⟩ yS yS (fun d o e => by exact e))
      ·repeat' (first | (with_reducible first | refine zac yU yU yE ?_ | refine zab ?_ | refine DS.seq ?_ | refine zaa ?_ | (refine zbd yE ?_; refine zde ?_) | (refine zdz yU yE ?_; refine GG.run ?_) | refine DS.blk ?_ | refine DS.block ?_ | refine DS.skip ?_) | refine zce (id := 23) [0, 1, 2, 3, 4, 5, 6, 7, 8, 9, 10, 11, 12, 13, 14, 15, 16, 17, 18, 19, 20, 21, 22, 23, 24, 25, 26, 27, 28, 29, 30, 31, 32, 33, 34, 35, 36] 37 (by kernel_rfl) zdq (by simp only [zbb, zbe, zbf, zbg, zba]; exact rfl) (by simp only [zax, zay, List.drop_nil]; exact rfl) ?_ | (with_reducible first | refine zbw yU yU yU yE ?_ | (refine zni yU yE ?_; refine DGG.run ?_) | refine zdc ?_) | fail)
       refine DS.back (HB1.out (k + 1, false) _ _ (by dsimp only; omega) ⟨by dsimp only; omega, fun j hj h a1 a2 a3 => ?_⟩ yS yS (fun d o e => by exact e))
       by_cases hj2 : j = k
       ·subst hj2; exact absurd a3 e3
       ·exact H.out j hj (by dsimp only at h ⊢; omega) a1 a2 a3
     ·repeat' (first | (with_reducible first | refine zac yU yU yE ?_ | refine zab ?_ | refine DS.seq ?_ | refine zaa ?_ | (refine zbd yE ?_; refine zde ?_) | (refine zdz yU yE ?_; first | refine GG.run ?_ | refine zfo ?_) | refine DS.blk ?_ | refine DS.block ?_ | refine DS.skip ?_) | refine zce (id := 23) [0, 1, 2, 3, 4, 5, 6, 7, 8, 9, 10, 11, 12, 13, 14, 15, 16, 17, 18, 19, 20, 21, 22, 23, 24, 25, 26, 27, 28, 29, 30, 31, 32, 33, 34, 35, 36] 37 (by kernel_rfl) zdq (by simp only [zbb, zbe, zbf, zbg, zba]; exact rfl) (by simp only [zax, zay, List.drop_nil]; exact rfl) ?_ | (with_reducible first | refine zbw yU yU yU yE ?_ | (refine zni yU yE ?_; first | refine DGG.run ?_ | refine zmt ?_) | refine zdc ?_) | fail)
      refine DS.back (HB1.out (k + 1, false) _ _ (by dsimp only; omega) ⟨by dsimp only; omega, fun j hj h a1 a2 a3 => ?_⟩ yS yS (fun d o e => by exact e))
      by_cases hj2 : j = k
      ·subst hj2; exact absurd a2 e2
      ·exact H.out j hj (by dsimp only at h ⊢; omega) a1 a2 a3
    ·repeat' (first | (with_reducible first | refine zac yU yU yE ?_ | refine zab ?_ | refine DS.seq ?_ | refine zaa ?_ | (refine zbd yE ?_; refine zde ?_) | (refine zdz yU yE ?_; first | refine GG.run ?_ | refine zfo ?_) | refine DS.blk ?_ | refine DS.block ?_ | refine DS.skip ?_) | refine zce (id := 23) [0, 1, 2, 3, 4, 5, 6, 7, 8, 9, 10, 11, 12, 13, 14, 15, 16, 17, 18, 19, 20, 21, 22, 23, 24, 25, 26, 27, 28, 29, 30, 31, 32, 33, 34, 35, 36] 37 (by kernel_rfl) zdq (by simp only [zbb, zbe, zbf, zbg, zba]; exact rfl) (by simp only [zax, zay, List.drop_nil]; exact rfl) ?_ | (with_reducible first | refine zbw yU yU yU yE ?_ | (refine zni yU yE ?_; first | refine DGG.run ?_ | refine zmt ?_) | refine zdc ?_) | fail)
     refine DS.back (HB1.out (k + 1, false) _ _ (by dsimp only; omega) ⟨by dsimp only; omega, fun j hj h a1 a2 a3 => ?_⟩ yS yS (fun d o e => by exact e))
     by_cases hj2 : j = k
     ·subst hj2; exact absurd a1 e1
     ·exact H.out j hj (by dsimp only at h ⊢; omega) a1 a2 a3
  ·have hf : f = true := by
    obtain ⟨r', hr', a1, a2, a3⟩ := HR.out R[i] (List.getElem_mem hi')
    obtain ⟨j, hj, rfl⟩ := List.mem_iff_getElem.1 hr'
    exact H.out j hj (by omega) a1 a2 a3
   subst hf
   repeat' (first | (with_reducible first | refine zac yU yU yE ?_ | refine zab ?_ | refine DS.seq ?_ | refine zaa ?_ | (refine zbd yE ?_; refine zdk ?_) | refine DS.blk ?_ | refine DS.exit yU ?_ | refine DS.skip ?_) | fail)
   refine DS.back (HB.out (i + 1) _ _ (by omega) (by omega) yS yS (fun d o e => by exact e))
 ·repeat' (first | (with_reducible first | refine zac yU yU yE ?_ | refine zab ?_ | refine DS.seq ?_ | refine zaa ?_ | (refine zbd yE ?_; refine zdk ?_) | refine DS.exit yU ?_) | refine zcf inferInstance (yod) yR yT ?_ | refine zbi [] yE trivial ?_ | fail)
  all_goals rfl
theorem zyv (x : Int) : 0 < (zet x 3).1.members.length := by
 have h1 := zqe x
 have h2 := zbv (zdn x).2 (3 - 1 + 1)
 have h3 := zbv (zag (zdn x).2) 2
 have h4 : 1 ≤ zcy (zdn x).2 1 3 ∧ zcy (zdn x).2 1 3 ≤ 3 := by unfold zcy; omega
 have h5 : 3 ≤ zgd x * zcy (zdn x).2 1 3 := by
  rcases h1 with h | h <;> rw [h] <;> omega
 have h6 := zif (zgd x * zcy (zdn x).2 1 3 + zan (zag (zdn x).2) 2).toNat 0 (zag (zag (zdn x).2)) [] ⟨Int.le_refl _, fun m hm => by cases hm⟩
 show 0 < (zfn x).1.length
 rw [zfn, h6.1]; simp only [List.length_nil]; omega
theorem zxc (nums : List Int) (at_ : Int) (hat : In64 at_) : PC Tryz.prog 4 [ints nums, I at_] (Bo true) := ztq nums at_ hat (zyv _)
end Go.XL
namespace Go.XL
open Go.Proofs Go.ChangeShapes Go.WideShapes Go.ChangeAt Go.RowKit
def hvW (W : World) : VH := fun b => W.heap[b]?
def yrx (W : World) : Bs := ⟨fun b => b < W.heap.size, W.heap, hvW W⟩
theorem stW (W : World) : St (yrx W) (hvW W) (fun _ => none) [] [] [] W.heap where
 pre := fun b o e => ⟨o, e, leO.refl o⟩
 slot := fun t v e => by cases e
 obj := fun b o e => by cases e
 held := fun g x e => by cases e
 base := ⟨fun b h => h, Nat.le_refl _, fun b _ => rfl⟩
 vbase := ⟨PreV.refl _, fun _ _ => rfl⟩
structure KeptW (W W' : World) : Prop where
 os : W'.os = W.os
 output : W'.output = W.output
 size : W.heap.size ≤ W'.heap.size
 old : ∀ b, b < W.heap.size → W'.heap[b]? = W.heap[b]?
theorem PC.door {P : Program} {f : FuncId} {vs : List V} {xs : List Value} (h : PC P f vs (.v (.bool true))) (W : World) (hx : RlL (hvW W) vs xs) :
  Calls P f xs.toArray W fun e w' => e = .returned (.bool true) ∧ KeptW W w' := by
 refine (h (hvW W) (yrx W) (hvW W) (fun _ => none) W.heap xs (PreV.refl _) hx (stW W) W rfl).mono fun e w' => ?_
 rintro ⟨y, rfl, ⟨s1, s2, s3⟩, v, S', hv', hold', -, st, rfl⟩
 obtain ⟨z, h1, h2, -⟩ := st.slot 0 (.v (.bool true)) rfl
 simp only [V.Rl] at h2
 subst h2
 have h3 : look [(0, y)] 0 = some y := by simp [look]
 rw [h3] at h1
 cases h1
 exact ⟨rfl, s1, s3, st.base.2.1, st.base.2.2⟩
theorem KeptW.keptBut {W W' : World} (k : KeptW W W') (may : MemPlace → Prop) : W.keptBut W' may := by
 refine ⟨k.os, k.output, fun i hi => ?_⟩
 rw [k.old i hi]
 generalize W.heap[i]? = o
 cases o with
 | none => trivial
 | some o => cases o <;> simp
theorem KeptW.cell {W W' : World} (k : KeptW W W') {a : Addr} (h : a.block < W.heap.size) : W'.cell? a = W.cell? a := by
 unfold World.cell?
 rw [k.old _ h]
theorem KeptW.sameAt {W W' : World} (k : KeptW W W') {p : MemPlace} (h : p.block < W.heap.size) : W.sameAt W' p := by
 cases p with
 | cell b off => exact k.cell h
 | map b => exact k.old _ h
section
variable {H : Type} {enc : TypeId × Value → H} {P : Program}
theorem znk (hl : laidOutB P = true) {W W' : World} {sp : Nat → Bool} : ∀ {ts : List TypeId} {vs : List Value} {ds : List (DataW H)} {ps : List MemPlace}, (∀ t ∈ ts, P.readableRec t = true ∧ t < P.types.size) →
  DataW.TrodAll enc P W 0 (fun _ => true) true ts vs ds ps → (∀ p ∈ ps, W.sameAt W' p) → (∀ p ∈ ps, sp p.block = true) → DataW.TrodAll enc P W' 0 sp true ts vs ds ps
 | [], vs, ds, ps, _, h, _, _ => by
  obtain ⟨rfl, rfl, rfl⟩ := trodAll_nil h
  rfl
 | t :: ts, vs, ds, ps, ht, h, h1, h2 => by
  obtain ⟨v, vs', d, ds', p, q, rfl, rfl, rfl, h3, h4⟩ := trodAll_cons h
  obtain ⟨r1, r2⟩ := ht t (List.mem_cons_self ..)
  exact ⟨p, q, WideElems.Trod_stays hl r1 r2 h3 (fun x hx => h1 x (List.mem_append_left _ hx)) (fun x hx => h2 x (List.mem_append_left _ hx)),
   znk hl (fun t h => ht t (List.mem_cons_of_mem _ h)) h4 (fun x hx => h1 x (List.mem_append_right _ hx)) (fun x hx => h2 x (List.mem_append_right _ hx)), rfl⟩
theorem ymn {f : Func} {s : ChangeSpec} {apart fresh handsOn : Bool} {W W' : World} {args : Array Value} {ds gs : List (DataW H)} {before : List MemPlace} {tb : TypeId}
  (hW : DataW.Whole enc P f.params.toList s.vars apart W args.toList ds gs before) (hv : s.vars = []) (hs : s.fn H ds = { results := [.lit (.bool true)], args := ds })
  (hrt : f.resultTypes = #[tb]) (hb : P.underlying tb = some .bool) (hl : laidOutB P = true) (hr : ∀ t ∈ f.params.toList, P.readableRec t = true ∧ t < P.types.size) (k : KeptW W W') :
  s.post enc P f apart fresh handsOn false W args (.bool true) W' := by
 have hlt := fun p hp => hW.lt (p := p) hp
 have hW' := hW
 obtain ⟨p, q, hA, hV, rfl, -, -⟩ := hW
 rw [hv] at hV
 obtain ⟨rfl, rfl⟩ := trodVars_none hV
 refine ⟨ds, [], p ++ [], [], p, [], hW', ?_, ?_, ?_, k.keptBut _, fun h => by cases h⟩
 ·rw [List.append_nil, hs, hrt]
  exact trodAll_mk1 (shut_bool hb _)
 ·rw [List.append_nil, hs]
  exact znk hl hr hA (fun x hx => k.sameAt (hlt x (by simpa using hx))) (fun x hx => by simpa using hlt x (by simpa using hx))
 ·rw [List.append_nil, hs, hv]
  rfl
def yqq (P : Program) (W : World) (H : Type) (enc : TypeId × Value → H) (t : TypeId) {α : Type} (f : α → List V) (G : α → Prop) : Prop :=
 ∀ fuel cs x, DataW.trod enc P W 0 (fun _ => true) true fuel t cs = some x → ∃ a, RlL (hvW W) (f a) cs ∧ (∀ u ∈ cs, u.oneCell' = true) ∧ G a
variable {W : World} {t e : TypeId}
theorem yii {k : IntKind} (ht : P.underlying t = some (.int k)) : yqq P W H enc t (fun n : Int => [.v (.int k n)]) (fun n => (Lit.int k n).wf = true) := by
 intro fuel cs x h
 obtain ⟨n, rfl, -, hw⟩ := DataW.trod_int ht h
 exact ⟨n, by simp [RlL, V.Rl], by simp [Value.oneCell'], hw⟩
theorem RlL.len {hv : VH} : ∀ {vs : List V} {cs : List Value}, RlL hv vs cs → vs.length = cs.length
 | [], _, h => by simp only [RlL] at h; subst h; rfl
 | v :: vs, cs, h => by
  simp only [RlL] at h
  obtain ⟨z, zs, rfl, -, h⟩ := h
  simp [RlL.len h]
theorem yqb {n : Int} (h : (Lit.int .i64 n).wf = true) : -9223372036854775808 ≤ n ∧ n ≤ 9223372036854775807 := by
 have h1 : IntKind.min .i64 = -9223372036854775808 := by decide
 have h2 : IntKind.max .i64 = 9223372036854775807 := by decide
 simp only [Lit.wf, h1, h2, Bool.and_eq_true, decide_eq_true_eq] at h
 exact h
theorem RlL.one {hv : VH} {v : V} {y : Value} (h : v.Rl hv y) : RlL hv [v] [y] := by
 simp only [RlL]; exact ⟨y, [], rfl, h, rfl⟩
theorem RlL.cons_one {hv : VH} {v : V} {y : Value} {vs : List V} {ys : List Value} (h : RlL hv [v] [y]) (k : RlL hv vs ys) : RlL hv (v :: vs) (y :: ys) := by
 simp only [RlL] at h ⊢
 obtain ⟨z, zs, e, h1, h2⟩ := h
 cases e
 exact ⟨_, _, rfl, h1, k⟩
theorem yoy {a : Addr} {m : Nat} : ∀ {vs : List V} {cs : List Value} {i : Nat}, RlL (hvW W) vs cs → (∀ u ∈ cs, u.oneCell' = true) → (∀ j, j < cs.length → W.cell? (a.add (i + j)) = cs[j]?) → RlC (hvW W) (some a) i vs
 | [], _, _, _, _, _ => by simp only [RlC]
 | v :: vs, cs, i, h, h1, h2 => by
  simp only [RlL] at h
  obtain ⟨z, zs, rfl, h3, h4⟩ := h
  simp only [RlC]
  refine ⟨⟨z, ?_, h3, h1 z (List.mem_cons_self ..)⟩, yoy (m := m) h4 (fun u hu => h1 u (List.mem_cons_of_mem _ hu)) fun j hj => ?_⟩
  ·have := h2 0 (by simp)
   rw [Nat.add_zero] at this
   exact this
  ·have := h2 (j + 1) (by simpa using hj)
   rw [show i + 1 + j = i + (j + 1) by omega, this]
   rfl
theorem yox {a : Addr} {sz : Nat} : ∀ {l : List (List V)} {i : Nat}, (∀ (j : Nat) (h : j < l.length), l[j].length = sz ∧ RlC (hvW W) (some a) (i + j * sz) l[j]) → RlE (hvW W) (some a) i l
 | [], _, _ => by simp only [RlE]
 | c :: l, i, h => by
  simp only [RlE]
  have h0 := h 0 (by simp)
  simp only [Nat.zero_mul, Nat.add_zero, List.getElem_cons_zero] at h0
  refine ⟨h0.2, yox (sz := sz) fun j hj => ?_⟩
  have h1 := h (j + 1) (by simpa using hj)
  simp only [List.getElem_cons_succ] at h1
  refine ⟨h1.1, ?_⟩
  have e : i + c.length + j * sz = i + (j + 1) * sz := by rw [h0.1, Nat.add_mul, Nat.one_mul]; omega
  rw [e]
  exact h1.2
theorem zst {α β : Type} {R : Nat → α → Prop} : ∀ (n : Nat), (∀ i, i < n → ∃ a, R i a) → ∃ l : List α, l.length = n ∧ ∀ (i : Nat) (h : i < l.length), R i l[i]
 | 0, _ => ⟨[], rfl, fun i h => by cases h⟩
 | n + 1, h => by
  obtain ⟨l, h1, h2⟩ := zst (β := β) n fun i hi => h i (by omega)
  obtain ⟨a, ha⟩ := h n (by omega)
  refine ⟨l ++ [a], by simp [h1], fun i hi => ?_⟩
  rw [List.length_append, List.length_singleton] at hi
  by_cases h3 : i < l.length
  ·rw [List.getElem_append_left h3]; exact h2 i h3
  ·obtain rfl : i = l.length := by omega
   simp only [List.getElem_concat_length]
   rw [h1]; exact ha
theorem ybg {α : Type} {f : α → List V} {G : α → Prop} {sz : Nat} (ht : P.underlying t = some (.slice e)) (hc : P.cellsOf e = sz) (h : yqq P W H enc e f G) :
  yqq P W H enc t (fun l : List α => [.lst (l.map f)]) (fun l => ∀ a ∈ l, G a) := by
 intro fuel cs x hx
 rcases DataW.trod_slice ht hx with ⟨rfl, -⟩ | ⟨a, len, cap, elems, rest, n, rfl, rfl, -, -, h1, h2, h3, h4, -, -⟩
 ·refine ⟨[], ?_, by simp [Value.oneCell'], fun a h => by cases h⟩
  simp only [RlL, V.Rl, List.map_nil]
  exact ⟨_, [], rfl, ⟨none, 0, 0, rfl, Nat.le_refl _, Nat.zero_le _, (fun c h => by cases h), by simp only [RlE]⟩, rfl⟩
 ·obtain ⟨l, hl, hk⟩ := zst (β := Unit) (R := fun i y => ∃ cs, W.cells? 0 (a.add (i * sz)) sz = some cs ∧ RlL (hvW W) (f y) cs ∧ (∀ u ∈ cs, u.oneCell' = true) ∧ G y) len (fun i hi => by
   have h5 := h4 i hi
   rw [List.getElem?_eq_getElem (by omega), Option.bind_eq_some_iff, hc] at h5
   obtain ⟨cs, h6, h7⟩ := h5
   obtain ⟨y, h8, h9, h10⟩ := h _ _ _ h7
   exact ⟨y, cs, h6, h8, h9, h10⟩)
  have hlen : ∀ y ∈ l, (f y).length = sz := fun y hy => by
   obtain ⟨i, hi, rfl⟩ := List.mem_iff_getElem.1 hy
   obtain ⟨cs, k1, k2, -, -⟩ := hk i hi
   rw [k2.len, (World.cells?_some k1).2.1]
  refine ⟨l, ?_, by simp [Value.oneCell'], fun y hy => ?_⟩
  ·simp only [RlL, V.Rl]
   refine ⟨_, [], rfl, ⟨some a, cap, sz, by rw [List.length_map, hl], by rw [List.length_map, hl]; exact h1, h2, fun c hc => ?_, yox (sz := sz) fun j hj => ?_⟩, rfl⟩
   ·obtain ⟨y, hy, rfl⟩ := List.mem_map.1 hc
    exact hlen y hy
   ·rw [List.length_map] at hj
    rw [List.getElem_map]
    obtain ⟨cs, k1, k2, k3, k4⟩ := hk j hj
    obtain ⟨-, k5, k6⟩ := World.cells?_some k1
    refine ⟨hlen _ (List.getElem_mem hj), yoy (m := sz) k2 k3 fun i hi => ?_⟩
    rw [Nat.zero_add, ← ykx]
    exact k6 i (by omega)
  ·obtain ⟨i, hi, rfl⟩ := List.mem_iff_getElem.1 hy
   obtain ⟨cs, -, -, -, k4⟩ := hk i hi
   exact k4
end
end Go.XL
namespace Go.Proofs.YtlcigmnkfilebaaGreat
open Go.XL Go.ChangeShapes Go.WideShapes Go.ChangeAt Go.RowKit
theorem own : ownKnob Tryz.prog.godebug = none := by kernel_rfl
theorem laid : laidOutB Tryz.prog = true := by kernel_rfl
set_option maxRecDepth 100000 in
theorem zpl (os : Os) (started : os.Started) (H : Type) (enc : TypeId × Value → H) :
  ReturnsInHanded {} Tryz.checked os 4 .any (Rows.clubSilentSpec.pre6 enc Tryz.prog Tryz.f4 Rows.clubSilentRow.domain false) (Rows.clubSilentSpec.post enc Tryz.prog Tryz.f4 false true false false) := by
 refine returnsInHanded_of_change (C := Tryz.checked) own started (by kernel_rfl) Tryz.func4
  (ChangeSpec.witness6 (enc := enc) (C := Tryz.checked) false ⟨#[], #[.slice none 0 0, .int .i64 0], []⟩ 8 (by kernel_rfl) (by kernel_rfl) (by kernel_rfl) (by kernel_rfl)) ?_
 intro W base args ds gs before hval0 hW hcnd _
 have hW' := hW
 obtain ⟨p, q, hA, -, -, -, -⟩ := hW'
 have hval : ∀ (j : Nat) t v, Tryz.f4.params[j]? = some t → args[j]? = some v → Value.okWide Tryz.prog W .any base t v := hval0
 have hA1 : DataW.TrodAll enc Tryz.prog W 0 (fun _ => true) true Tryz.f4.params.toList args.toList ds p := hA
 rw [Tryz.params4] at hA1 hval
 obtain ⟨v0, vs0, d0, ds0, p0, q0, hargs, rfl, -, h0, r0⟩ := trodAll_cons hA1
 obtain ⟨v1, vs1, d1, ds1, p1, q1, rfl, rfl, -, h1, r1⟩ := trodAll_cons r0
 obtain ⟨rfl, rfl, -⟩ := trodAll_nil r1
 obtain rfl : args = #[v0, v1] := by cases args; simp_all
 obtain ⟨a0, len0, cap0, rfl⟩ := okWide_slice Tryz.underlying22 (hval 0 22 v0 rfl rfl)
 obtain ⟨fuel0, hf0⟩ := h0
 obtain ⟨x0, e0, -, w0⟩ := ybg (sz := 1) Tryz.underlying22 (by kernel_rfl) (yii Tryz.underlying3) _ _ _ hf0
 obtain ⟨x1, rfl, -, -, w1⟩ := open_int Tryz.underlying3 (hval 1 3 v1 rfl rfl) h1
 refine (PC.door (zxc x0 x1 (yqb w1)) W (xs := [.slice a0 len0 cap0, .int .i64 x1]) (RlL.cons_one e0 (RlL.one V.Rl_v))).mono fun e W' ⟨he, k⟩ => ⟨_, he, ?_⟩
 exact ymn hW rfl rfl rfl Tryz.underlying4 laid (by rw [show Tryz.f4.params = _ from Tryz.params4]; intro t ht; simp only [List.mem_cons, List.not_mem_nil, or_false] at ht; rcases ht with rfl | rfl <;> exact ⟨by kernel_rfl, of_decide_eq_true (by kernel_rfl)⟩) k
theorem clubSilent_holds : Rows.ClubSilentSaid :=
 OpenClaim.holds_of_wide 4 Tryz.f4 rfl rfl rfl rfl rfl rfl rfl ⟨rfl, rfl, rfl, rfl, rfl⟩ rfl rfl rfl rfl rfl (by kernel_rfl) Tryz.func4 (by kernel_rfl)
  (of_decide_eq_true (by kernel_rfl)) (by unfold Func.isWrapper; first | (rw [if_pos (by decide +kernel)]; kernel_rfl) | (rw [if_neg (by decide +kernel)]; exact ⟨rfl, rfl⟩))
  (fun os started H enc _ => zpl os started H enc)
end Go.Proofs.YtlcigmnkfilebaaGreat
