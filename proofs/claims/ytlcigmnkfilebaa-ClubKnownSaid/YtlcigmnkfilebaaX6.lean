/- A part of a program logic over the kit's walk rules, and contracts of functions in it. Conditions: as each theorem says. -/
import Derived.Test.YtlcigmnkfilebaaX5
import Derived.Maps.RangeRun
import Derived.Test.YtlcigmnkfilebaaRows
import Derived.WideKeyArgs
import Derived.OpenShut
import Derived.WalkKit
import Derived.ProofKit
set_option linter.all false
namespace Go.XL
open Go.Proofs
set_option maxRecDepth 100000
set_option maxHeartbeats 8000000
theorem ycj (n : Nat) (hn : n < 256) : DC Try.prog 57 [.v (.int .u64 n)] [] (fun u S' => ∃ m : Nat, u = I m ∧ m ≤ 64) := by
 refine DC.of_run Try.func57 rfl Try.ntmps57 Try.results57 (by simp) (fun _ => ?_); simp only [zaf, zai, go_sem, Nat.zero_add, Nat.reduceAdd]
 repeat' (first | (with_reducible first | refine zad yU yU yE ?_ | refine zab ?_ | refine DS.seq ?_ | refine zaa ?_ | (refine zbe yE ?_; refine zeq (fun _ => ?_) (fun _ => ?_)) | refine DS.skip ?_) | fail)
 all_goals first | (exfalso; omega) | skip
 have hw : IntKind.u8.wrap (n : Int) = n := by
  have h1 : (2 : Int) ^ 8 = 256 := by decide
  simp only [IntKind.wrap, IntKind.bits, IntKind.signed, Bool.false_and, Bool.false_eq_true, if_false, h1]
  omega
 rw [hw]
 refine ztl (M := 256) (B := 64) yR yR yH (by kernel_rfl) hn (fun m hm => ?_)
 repeat' (first | (with_reducible first | refine zad yU yU yE ?_ | refine zab ?_) | fail)
 refine zcl yG ⟨m, ?_, hm⟩
 first | rfl | (simp [tupV]; done)
theorem ygs (n : Nat) (hn : n < 256) : DC Try.prog 44 [.v (.int .u64 n)] [] (fun u S' => ∃ m : Nat, u = I m ∧ m ≤ 64) := by
 refine DC.of_run Try.func44 rfl Try.ntmps44 Try.results44 (by simp) (fun _ => ?_); simp only [zaf, zai, go_sem, Nat.zero_add, Nat.reduceAdd]
 repeat' (first | (with_reducible first | refine zad yU yU yE ?_ | refine zab ?_ | refine DS.seq ?_ | refine zaa ?_ | (refine zbe yE ?_; refine zdd ?_) | refine DS.skip ?_) | fail)
 refine zek inferInstance (ycj n hn) yR yH (fun u S' hu => ?_)
 obtain ⟨m, rfl, hm⟩ := hu
 repeat' (first | (with_reducible first | refine zad yU yU yE ?_ | refine zab ?_) | fail)
 exact zcl yG ⟨m, rfl, hm⟩
theorem zuf (b cap n : Nat) (d : Array Rank) (junk : List V) (hd : d.size = n) (l : Int) {a e : Nat} (hae : a ≤ e ∧ e ≤ n) (hs : e - a ≤ 12) (hn : n ≤ 1000000 ∧ n ≤ cap) :
  DC Try.prog 45 [rkI b n cap, I a, I e, I l] (rkS b d.toList junk) (fun u S' => S' = rkS b (Sort.insertionSort zdp d a e).toList junk) := by
 have hin := zxs b cap n d junk hd (a := a) (e := e) hae hn
 refine DC.of_run Try.func45 rfl Try.ntmps45 Try.results45 (by simp) (fun _ => ?_); simp only [zaf, zai, go_sem, Nat.zero_add, Nat.reduceAdd]
 repeat' (first | (with_reducible first | refine zad yU yU yE ?_ | refine zab ?_ | refine DS.seq ?_ | refine zaa ?_ | refine DS.block ?_) | fail)
 refine zda [0] yN (fun (y : Nat) => [(1, I a), (2, I e), (3, I l), (8, Bo true), (9, Bo true)]) (fun (y : Nat) => rkS b d.toList junk) (fun (y : Nat) => y = 0) (fun (y : Nat) => y) 0 yS (fun b o e => by exact e) rfl (fun y B hI hB => ?_); try dsimp only at hI hB; simp only [zaw, zbg]
 clear hB
 repeat' (first | (with_reducible first | refine zad yU yU yE ?_ | refine zab ?_ | refine DS.seq ?_ | refine zaa ?_ | (refine zbe yE ?_; first | refine zeq (fun _ => ?_) (fun _ => ?_) | refine zdd ?_) | refine DS.block ?_ | refine DS.skip ?_) | fail)
 all_goals first | (exfalso; omega) | skip
 refine zek inferInstance hin yR yH (fun u S' hu => ?_)
 subst hu
 repeat' (first | with_reducible refine zab ?_ | fail)
 exact zcl yG rfl
theorem zrp (b cap n : Nat) (d : Array Rank) (junk : List V) (hd : d.size = n) (hs : n ≤ 12) (hn : n ≤ cap) :
  DC Try.prog 23 [rkI b n cap] (rkS b d.toList junk) (fun u S' => S' = rkS b (Sort.insertionSort zdp d 0 n).toList junk) := by
 have hln := zzn b cap d.toList junk
 rw [show d.toList.length = n by simpa using hd] at hln
 refine DC.of_run Try.func23 rfl Try.ntmps23 Try.results23 (by simp) (fun _ => ?_); simp only [zaf, zai, go_sem, Nat.zero_add, Nat.reduceAdd]
 repeat' (first | (with_reducible first | refine zad yU yU yE ?_ | refine DS.seq ?_ | refine zaa ?_) | fail)
 refine DS.invoke inferInstance (zsp _ _ _) yH hln yR yH (fun u S' hu => ?_)
 obtain ⟨rfl, rfl⟩ := hu
 have hw : IntKind.u64.wrap (n : Int) = n := ybj (by omega)
 repeat' (first | (with_reducible first | refine zad yU yU yE ?_ | refine zab ?_ | refine DS.seq ?_ | refine zaa ?_ | (refine zbe yE ?_; refine zeq (fun _ => ?_) (fun _ => ?_)) | refine DS.skip ?_) | fail)
 ·rename_i e1
  rw [Sort.insertionSort, insOuter_stop zdp 0 n 1 d (by omega)]
  exact zcl yG rfl
 ·refine DS.call (dst := some 10) [] (rkS b d.toList junk) inferInstance (ygs n (by omega)) yR yH (fun _ _ e => by cases e) (fun _ _ e => ⟨e, rfl⟩) ?_
  rintro v Sg ⟨m, rfl, hm⟩ hdis
  refine zml hdis ?_
  simp only [zca]
  repeat' (first | (with_reducible first | refine zad yU yU yE ?_ | refine zab ?_ | refine zaa ?_) | fail)
  have hp := zuf b cap n d junk hd m (a := 0) (e := n) (by omega) (by omega) (by omega)
  refine zek inferInstance hp yR yH (fun u S' hu => ?_)
  subst hu
  repeat' (first | with_reducible refine zab ?_ | fail)
  exact zoj yG rfl
end Go.XL
namespace Go.XL
open Go.Proofs
set_option maxRecDepth 100000
set_option maxHeartbeats 8000000
theorem zns (c : Club) (hs : c.Small) {a b : Nat} (ha : a < c.rounds.length) (hb : b < c.rounds[a].points.length) :
  PC Try.prog 27 [c.val, I a, I b] (ints (zcz c a b)) := by
 have q1 := hs.rounds
 have q2 := (hs.at ha).point _ (List.getElem_mem hb)
 have q3 := (hs.at ha).points
 have hl : (zcz c a b).length ≤ 1000000 := zpl (fun s h1 x h2 => (hs.round s h1).ruling x h2) (by rw [c.round_at ha, Int.toNat_natCast, List.getD_eq_getElem?_getD, List.getElem?_eq_getElem hb]; exact q2)
 have h0 : zcz c a b = zkx a b c.rounds c.rounds[a].points[b] := by rw [zcz, c.round_at ha, Int.toNat_natCast, List.getD_eq_getElem?_getD, List.getElem?_eq_getElem hb]; rfl
 have H := Box.mk h0
 clear h0
 generalize zcz c a b = R at *
 have i1 : (a : Int) < (c.rounds.length : Int) := by omega
 have i2 : (b : Int) < (c.rounds[a].points.length : Int) := by omega
 refine DC.of_run Try.func27 rfl Try.ntmps27 Try.results27 (by simp) (fun _ => ?_); simp only [zaf, zai, go_sem, Nat.zero_add, Nat.reduceAdd]
 repeat' (first | (with_reducible first | refine zad yU yU yE ?_ | refine zab ?_ | refine DS.seq ?_ | refine zaa ?_ | refine DS.block ?_) | (refine zci (t := 3) yU yE yU ?_; simp only [zbh, zcg, zbf, zbv, zbc, zau, zbq, zay, zcd, zcf, zbr, zce, zbu, zbt]) | fail)
 refine zcp [1, 2, 22, 23] yN (fun (y : Nat × List Int) => [(7, ints y.2), (24, I y.1)]) (fun (y : Nat × List Int) => y.1 ≤ c.rounds.length ∧ R = zkx a b (c.rounds.drop y.1) y.2) (fun (y : Nat × List Int) => c.rounds.length - y.1) (0, c.rounds[a].points[b]) yS ⟨Nat.zero_le _, H.out⟩ (fun y B hI hB => ?_); try dsimp only at hI hB; simp only [zaw, zbg]
 clear H
 obtain ⟨i, out⟩ := y
 dsimp only at hI hB ⊢
 obtain ⟨g1, g2⟩ := hI
 have H := Box.mk g2
 have hB0 := hB
 clear g2 hB
 by_cases hi : (i : Int) < (c.rounds.length : Int)
 ·have hi' : i < c.rounds.length := by omega
  have q4 := (hs.at hi').rulings
  repeat' (first | (with_reducible first | refine zad yU yU yE ?_ | refine zab ?_ | refine DS.seq ?_ | refine zaa ?_ | (refine zbe yE ?_; refine zcy ?_) | refine DS.block ?_ | refine DS.skip ?_) | (refine zgt (t := 9) yU yE yU (fun _ => yE) yE yU (by exact ⟨by with_unfolding_all rfl, by with_unfolding_all decide⟩) (fun _ => by simp only [go_sem, Nat.reduceEqDiff, ↓reduceIte]) ?_; simp only [go_sem]) | fail)
  refine zcp [1, 2, 22, 23, 24, 29, 30] yN (fun (y : Nat × List Int) => [(7, ints y.2), (31, I y.1)]) (fun (y : Nat × List Int) => y.1 ≤ c.rounds[i].rulings.length ∧ zhu a b c.rounds[i].rulings out = zhu a b (c.rounds[i].rulings.drop y.1) y.2) (fun (y : Nat × List Int) => c.rounds[i].rulings.length - y.1) (0, out) yS ⟨Nat.zero_le _, rfl⟩ (fun y B hI hB => ?_); try dsimp only at hI hB; simp only [zaw, zbg]
  obtain ⟨k, o2⟩ := y
  dsimp only at hI hB ⊢
  obtain ⟨g3, g4⟩ := hI
  have H2 := Box.mk g4
  clear g4
  by_cases hk : (k : Int) < (c.rounds[i].rulings.length : Int)
  ·have hk' : k < c.rounds[i].rulings.length := by omega
   repeat' (first | (with_reducible first | refine zad yU yU yE ?_ | refine zab ?_ | refine DS.seq ?_ | refine zaa ?_ | (refine zbe yE ?_; first | refine zeq (fun _ => ?_) (fun _ => ?_) | refine zcy ?_ | refine zdd ?_) | (refine zdv yU yE ?_; first | refine zuw (fun _ => ?_) (fun _ => ?_) | refine GG.run ?_ | refine zkb ?_) | refine DS.blk ?_ | refine DS.block ?_ | refine DS.skip ?_) | (refine zgt (t := 11) yU yE yU (fun _ => yE) yE yU (by exact ⟨by with_unfolding_all rfl, by with_unfolding_all decide⟩) (fun _ => by simp only [go_sem, Nat.reduceEqDiff, ↓reduceIte]) ?_; simp only [go_sem]) | fail)
   ·rename_i e1 e2
    refine DS.back (hB (k + 1, c.rounds[i].rulings[k].points) _ _ (by dsimp only; omega) ⟨by dsimp only; omega, by rw [H2.out, znt hk', if_pos ⟨e1, e2⟩]⟩ yS yS (fun d o e => by exact e))
   ·rename_i e1 e2
    refine DS.back (hB (k + 1, o2) _ _ (by dsimp only; omega) ⟨by dsimp only; omega, by rw [H2.out, znt hk', if_neg (fun h => e2 h.2)]⟩ yS yS (fun d o e => by exact e))
   ·rename_i e1
    refine DS.back (hB (k + 1, o2) _ _ (by dsimp only; omega) ⟨by dsimp only; omega, by rw [H2.out, znt hk', if_neg (fun h => e1 h.1)]⟩ yS yS (fun d o e => by exact e))
  ·have hd : c.rounds[i].rulings.drop k = [] := List.drop_eq_nil_of_le (by omega)
   repeat' (first | (with_reducible first | refine zad yU yU yE ?_ | refine zab ?_ | refine DS.seq ?_ | refine zaa ?_ | (refine zbe yE ?_; refine zdd ?_) | refine DS.blk ?_ | refine DS.exit yU ?_) | fail)
   refine DS.back (hB0 (i + 1, o2) _ _ (by dsimp only; omega) ⟨by dsimp only; omega, by rw [H.out, yah hi', H2.out, hd]; rfl⟩ yS yS (fun d o e => by exact e))
 ·have hd : c.rounds.drop i = [] := List.drop_eq_nil_of_le (by omega)
  obtain rfl : R = out := by rw [H.out, hd]; rfl
  repeat' (first | (with_reducible first | refine zad yU yU yE ?_ | refine zab ?_ | refine DS.seq ?_ | refine zaa ?_ | (refine zbe yE ?_; refine zdd ?_) | refine DS.exit yU ?_) | refine zav inferInstance (zsz R (by omega)) yR yT ?_ | refine zat [] yE trivial ?_ | fail)
  rfl
theorem zkc (c : Club) (hs : c.Small) (a b : Int) : PC Try.prog 11 [c.val, I a, I b] (tupV [ints (zje c a b).1, I (zje c a b).2]) := by
 have q1 := hs.rounds
 rw [zje]
 by_cases h0 : zcm c = 0
 ·rw [if_neg (by omega)]
  have hck := zdr c hs
  rw [h0] at hck
  by_cases h1 : 0 ≤ a ∧ a ≤ (c.rounds.length : Int) - 1
  ·rw [if_neg (by omega)]
   obtain ⟨i, rfl⟩ : ∃ i : Nat, a = i := ⟨a.toNat, by omega⟩
   have hi : i < c.rounds.length := by omega
   have hsi := (hs.at hi).tables
   rw [c.round_at hi]
   by_cases h2 : 0 ≤ b ∧ b ≤ (c.rounds[i].tables.length : Int) - 1
   ·rw [if_neg (by omega)]
    obtain ⟨k, rfl⟩ : ∃ k : Nat, b = k := ⟨b.toNat, by omega⟩
    have hpl := zmx c hs i k
    cases hp : zfx c i k with
    | true =>
     rw [hp] at hpl
     rw [if_neg (by decide)]
     rw [ziv hi, decide_eq_true_eq] at hp
     have hct := zns c hs hi (b := k) (by omega)
     generalize zcz c i k = R at *
     refine DC.of_run Try.func11 rfl Try.ntmps11 Try.results11 (by simp) (fun _ => ?_); simp only [zaf, zai, go_sem, Nat.zero_add, Nat.reduceAdd]
     repeat' (first | (with_reducible first | refine zad yU yU yE ?_ | refine zab ?_ | refine DS.seq ?_ | refine zaa ?_ | (refine zbe yE ?_; refine zdd ?_) | (refine zdv yU yE ?_; refine GG.run ?_) | refine DS.blk ?_ | refine DS.block ?_ | refine DS.skip ?_) | refine zav inferInstance (hck) yR yT ?_ | refine zav inferInstance (zfd _ _ _) yR yT ?_ | refine zav inferInstance (hpl) yR yT ?_ | refine zav inferInstance (hct) yR yT ?_ | (refine zci (t := 3) yU yE yU ?_; simp only [zbh, zcg, zbf, zbv, zbc, zau, zbq, zay, zcd, zcf, zbr, zce, zbu, zbt]) | refine zat [] yE trivial ?_ | fail)
     all_goals first | rfl | (exfalso; omega)
    | false =>
     rw [hp] at hpl
     rw [if_pos rfl]
     refine DC.of_run Try.func11 rfl Try.ntmps11 Try.results11 (by simp) (fun _ => ?_); simp only [zaf, zai, go_sem, Nat.zero_add, Nat.reduceAdd]
     repeat' (first | (with_reducible first | refine zad yU yU yE ?_ | refine zab ?_ | refine DS.seq ?_ | refine zaa ?_ | (refine zbe yE ?_; first | refine zcy ?_ | refine zdd ?_) | (refine zdv yU yE ?_; refine GG.run ?_) | refine DS.block ?_ | refine DS.skip ?_) | refine zav inferInstance (hck) yR yT ?_ | refine zav inferInstance (zfd _ _ _) yR yT ?_ | refine zav inferInstance (hpl) yR yT ?_ | (refine zci (t := 3) yU yE yU ?_; simp only [zbh, zcg, zbf, zbv, zbc, zau, zbq, zay, zcd, zcf, zbr, zce, zbu, zbt]) | refine zat [] yE trivial ?_ | fail)
     all_goals first | rfl | (exfalso; omega)
   ·rw [if_pos h2]
    refine DC.of_run Try.func11 rfl Try.ntmps11 Try.results11 (by simp) (fun _ => ?_); simp only [zaf, zai, go_sem, Nat.zero_add, Nat.reduceAdd]
    repeat' (first | (with_reducible first | refine zad yU yU yE ?_ | refine zab ?_ | refine DS.seq ?_ | refine zaa ?_ | (refine zbe yE ?_; first | refine zcy ?_ | refine zdd ?_) | (refine zdv yU yE ?_; refine GG.run ?_) | refine DS.block ?_ | refine DS.skip ?_) | refine zav inferInstance (hck) yR yT ?_ | refine zav inferInstance (zfd _ _ _) yR yT ?_ | (refine zci (t := 3) yU yE yU ?_; simp only [zbh, zcg, zbf, zbv, zbc, zau, zbq, zay, zcd, zcf, zbr, zce, zbu, zbt]) | refine zat [] yE trivial ?_ | fail)
    all_goals first | rfl | (exfalso; omega)
  ·rw [if_pos h1]
   refine DC.of_run Try.func11 rfl Try.ntmps11 Try.results11 (by simp) (fun _ => ?_); simp only [zaf, zai, go_sem, Nat.zero_add, Nat.reduceAdd]
   repeat' (first | (with_reducible first | refine zad yU yU yE ?_ | refine zab ?_ | refine DS.seq ?_ | refine zaa ?_ | (refine zbe yE ?_; first | refine zcy ?_ | refine zdd ?_) | (refine zdv yU yE ?_; refine zuv ?_) | refine DS.block ?_ | refine DS.skip ?_) | refine zav inferInstance (hck) yR yT ?_ | refine zav inferInstance (zfd _ _ _) yR yT ?_ | (refine zci (t := 3) yU yE yU ?_; simp only [zbh, zcg, zbf, zbv, zbc, zau, zbq, zay, zcd, zcf, zbr, zce, zbu, zbt]) | refine zat [] yE trivial ?_ | fail)
   all_goals first | rfl | (exfalso; omega)
 ·rw [if_pos h0]
  have hck := zdr c hs
  generalize zcm c = e at *
  refine DC.of_run Try.func11 rfl Try.ntmps11 Try.results11 (by simp) (fun _ => ?_); simp only [zaf, zai, go_sem, Nat.zero_add, Nat.reduceAdd]
  repeat' (first | (with_reducible first | refine zad yU yU yE ?_ | refine zab ?_ | refine DS.seq ?_ | refine zaa ?_ | (refine zbe yE ?_; refine zcy ?_)) | refine zav inferInstance (hck) yR yT ?_ | (refine zci (t := 3) yU yE yU ?_; simp only [zbh, zcg, zbf, zbv, zbc, zau, zbq, zay, zcd, zcf, zbr, zce, zbu, zbt]) | refine zat [] yE trivial ?_ | fail)
  all_goals first | rfl | (exfalso; omega)
end Go.XL
namespace Go.XL
open Go.Proofs
set_option maxRecDepth 100000
set_option maxHeartbeats 8000000
theorem yca (l : List Int) {i : Nat} (hi : i < l.length) (hl : l.length ≤ 1000000) (share : Bool) : PC Try.prog 42 [ints l, I i, Bo share] (I (zlt l i share)) := by
 have ab := zwp l hi hl
 have e : l.getD i 0 = l[i] := by rw [List.getD_eq_getElem?_getD, List.getElem?_eq_getElem hi]; rfl
 have h1 := ycg l l[i]
 have h2 := znp (l.take i) l[i]
 have h3 : (l.take i).length ≤ l.length := by rw [List.length_take]; omega
 rw [zlt, e]
 generalize zfo l l[i] = p at *
 generalize zco (l.take i) l[i] = q at *
 generalize zco l l[i] = r at *
 cases share with
 | true =>
  refine DC.of_run Try.func42 rfl Try.ntmps42 Try.results42 (by simp) (fun _ => ?_); simp only [zaf, zai, go_sem, Nat.zero_add, Nat.reduceAdd]
  repeat' (first | (with_reducible first | refine zad yU yU yE ?_ | refine zab ?_ | refine DS.seq ?_ | refine zaa ?_ | (refine zbe yE ?_; refine zcy ?_)) | refine zav inferInstance (ab) yR yT ?_ | refine zat [] yE trivial ?_ | fail)
  rfl
 | false =>
  refine DC.of_run Try.func42 rfl Try.ntmps42 Try.results42 (by simp) (fun _ => ?_); simp only [zaf, zai, go_sem, Nat.zero_add, Nat.reduceAdd]
  repeat' (first | (with_reducible first | refine zad yU yU yE ?_ | refine zab ?_ | refine DS.seq ?_ | refine zaa ?_ | (refine zbe yE ?_; refine zdd ?_) | refine DS.skip ?_) | refine zav inferInstance (ab) yR yT ?_ | refine zat [] yE trivial ?_ | fail)
  rfl
def zR : List V := [I 0, I 0, I 0, I 0, .v (.slice none 0 0)]
abbrev rkO (b5 bp b4 sz : Nat) (r : Rank) : Sto := [(b5, .cells [I r.id, I r.place, I r.total, I r.games, .v (.slice (some ⟨bp, 0, none⟩) sz sz)] 37), (bp, .cells (r.places.map I) 3), (b4, .cells [I 0, I 0, I 0, I 0, .v (.slice none 0 0)] 37)]
theorem zye : ∀ n : Nat, zdu (.int .i64 0) n = (List.replicate n (0 : Int)).map I
 | 0 => rfl
 | n + 1 => by
  have := zye n
  rw [List.replicate_succ, List.map_cons, ← this]; rfl
theorem ybw {c : Club} {m : Member} {i : Nat} (h : i < c.rounds.length) (r : Rank) : zon c m (c.rounds.drop i) i r = zon c m (c.rounds.drop (i + 1)) (i + 1) (zjw c m i c.rounds[i].tables 0 r) := by
 rw [List.drop_eq_getElem_cons h, zon]
theorem yX24 {p : Prop} (h : p := by (simp (disch := omega) only [go_sem, dopV, Option.map_some, Option.map_none, Option.bind_some, Option.bind_none, ↓reduceIte, Nat.reduceEqDiff, Nat.reduceLT, Nat.reduceLeDiff, Nat.reduceAdd, Nat.reduceMul, Nat.reduceSub, Nat.zero_add, Nat.add_zero, Nat.zero_le, Nat.zero_mul, Nat.mul_one, Nat.one_mul, Int.natCast_zero, Int.toNat_zero, Int.reduceToNat, Int.reduceLT, Int.reduceLE, Int.reduceEq, decide_true, decide_false, true_and, and_true, Bool.and_self, Bool.and_true, Bool.true_and, Bool.not_true, Bool.not_false, IntWalk.toNatUp, IntWalk.iteOmega, IntWalk.i64_in, Option.isSome_some, not_true_eq_false, not_false_eq_true, Option.getD_some, Option.getD_none, Int.toNat_natCast, List.length_map, List.getElem?_map, List.getElem?_eq_getElem, V.flat, V.one, List.all_cons, List.all_nil, *, zR, Value.oneCell']; exact rfl)) : p := h
theorem yfc (c : Club) (hs : c.Small) (hc : zcm c = 0) (m : Member) : PC Try.prog 22 [c.val, m.val] (zjk c m).val := by
 obtain ⟨p1, p2, p3, p4, p5⟩ := zzd hc
 have q1 := hs.rounds
 obtain ⟨sz, hsz⟩ : ∃ z : Nat, c.size.toNat = z := ⟨_, rfl⟩
 have hsz2 : (sz : Int) = c.size := by omega
 have HS := Box.mk (And.intro hsz hsz2)
 clear hsz2
 generalize hR : zjk c m = R
 have HR := Box.mk hR
 clear hR
 refine DC.of_run Try.func22 rfl Try.ntmps22 Try.results22 (by simp) (fun _ => ?_); simp only [zaf, zai, go_sem, Nat.zero_add, Nat.reduceAdd]
 repeat' (first | (with_reducible first | refine DS.seq ?_ | refine zaa ?_) | (refine zci (t := 2) yU yE yU ?_; simp only [zbh, zcg, zbf, zbv, zbc, zau, zbq, zay, zcd, zcf, zbr, zce, zbu, zbt]) | (refine zci (t := 3) yU yE yU ?_; simp only [zbh, zcg, zbf, zbv, zbc, zau, zbq, zay, zcd, zcf, zbr, zce, zbu, zbt]) | fail)
 refine zdl yR yU yU (fun b4 h4 => ?_)
 clear h4
 have e0 : (Value.agg #[.int .i64 0, .int .i64 0, .int .i64 0, .int .i64 0, .slice none 0 0]).cells.toList.map V.v = zR := rfl
 rw [e0]
 repeat' (first | (with_reducible first | refine zab ?_ | refine DS.seq ?_ | refine DS.scope ?_) | refine zcr (id := 1) [0, 1, 2, 3, 4, 5, 6] 7 (by kernel_rfl) zei (by simp only [zbp, zbx, zby, zbz, zbo]; exact rfl) (by simp only [zbk, zbl, List.drop_nil]; exact rfl) ?_ | with_reducible refine zcj yU yU yU yE ?_ | fail)
 refine yjh yU yG yG yG yG yU yU ⟨by omega, by omega, by decide, by omega⟩ (fun bp a1 a2 => ?_)
 simp only [hsz]
 clear hsz
 have n1 : ¬ b4 = bp := fun e => by simp only [zae, e, ↓reduceIte] at a2; cases a2
 have n1' : ¬ bp = b4 := fun e => n1 e.symm
 clear a1 a2
 refine zmm yU yU yU yU yG ?_
 simp only [zfs, zhc, Nat.reduceEqDiff, ↓reduceIte]
 refine DD.alloc yR yU yU (fun b5 a1 a2 => ?_)
 have n2 : ¬ b4 = b5 := fun e => by simp only [zae, e, ↓reduceIte] at a2; cases a2
 have n2' : ¬ b5 = b4 := fun e => n2 e.symm
 have n3 : ¬ bp = b5 := fun e => by simp only [zae, e, ↓reduceIte] at a1; cases a1
 have n3' : ¬ b5 = bp := fun e => n3 e.symm
 clear a1 a2
 rw [e0]
 clear e0
 refine DD.nil ?_
 simp only [zaw, zbg, zca]
 repeat' (first | (with_reducible first | refine zad yU yU yX24 ?_ | refine zab ?_ | refine DS.seq ?_ | refine zaa ?_ | refine DS.block ?_ | refine DS.label ?_) | (refine DS.store yR yX24 yX24 yX24 yX24 yU (by exact ⟨by with_unfolding_all rfl, by (try simp only [List.length_map, List.length_append, List.length_set, List.length_replicate, List.length_cons, List.length_nil]); omega⟩) ?_; simp only [zbm, zao, zar, zcb, zbn, zbi, zbj]; try simp only [zap, zag, zah, Nat.reduceEqDiff, ↓reduceIte, zal, zam, zax, zak, zaj, zaq, zan]) | fail)
 simp only [setS, ↓reduceIte, zao, zar, List.map_cons, List.map_nil, zcd, zaz, zbb, Nat.reduceAdd, Nat.zero_add, zye, zR]
 refine zda [2, 3, 4, 5, 19, 20] yN (fun (y : Nat × Rank) => [(21, I y.1)]) (fun (y : Nat × Rank) => rkO b5 bp b4 sz y.2) (fun (y : Nat × Rank) => y.1 ≤ c.rounds.length ∧ y.2.places.length = sz ∧ R = zon c m (c.rounds.drop y.1) y.1 y.2) (fun (y : Nat × Rank) => c.rounds.length - y.1) (0, ⟨m.id, 0, 0, 0, List.replicate sz 0⟩) yS (fun b o e => by exact e) ⟨Nat.zero_le _, by simp, by rw [← HR.out, List.drop_zero, zjk, ygq, HS.out.1]⟩ (fun y B hI hB => ?_); try dsimp only at hI hB; simp only [zaw, zbg]
 obtain ⟨i, r⟩ := y
 dsimp only at hI hB ⊢
 obtain ⟨g1, g2, g3⟩ := hI
 have H := Box.mk g3
 have hB0 := hB
 clear hB g3 HR
 by_cases hi : (i : Int) < (c.rounds.length : Int)
 ·have hi' : i < c.rounds.length := by omega
  have hsi := (hs.at hi').tables
  have htl := zyj hc hi'
  have HG := Box.mk (ybw (m := m) hi' r)
  repeat' (first | (with_reducible first | refine zad yU yU yE ?_ | refine zab ?_ | refine DS.seq ?_ | refine zaa ?_ | (refine zbe yE ?_; refine zcy ?_) | refine DS.block ?_ | refine DS.skip ?_) | fail)
  refine zdl yR yU yU (fun b7 h7 => ?_)
  simp only [zae] at h7
  have m5 : ¬ b5 = b7 := fun e => by rw [if_pos e] at h7; cases h7
  rw [if_neg m5] at h7
  have mp : ¬ bp = b7 := fun e => by rw [if_pos e] at h7; cases h7
  rw [if_neg mp] at h7
  have m4 : ¬ b4 = b7 := fun e => by rw [if_pos e] at h7; cases h7
  clear h7
  have e1 : (Value.agg #[.slice none 0 0, .slice none 0 0, .slice none 0 0]).cells.toList.map V.v = [.v (.slice none 0 0), .v (.slice none 0 0), .v (.slice none 0 0)] := rfl
  rw [e1]
  clear e1
  refine zad yU yU yG ?_
  refine DS.store yR yH yH yH yH yR ⟨by rfl, by simp⟩ ?_
  simp only [zbm, zao, zar, zbj, zap, zah, Nat.reduceEqDiff, ↓reduceIte, zaj, setS, zaz, zbb, List.map_cons, List.map_nil, zcd, zay, Nat.reduceAdd, Nat.zero_add]
  refine zji (t := 7) yE yE ?_; simp only [zbs, zcc, ↓reduceIte, *, zbc, zau, zbq, zay, zcd, zcf, zbr, zce]
  repeat' (first | (with_reducible first | refine zad yU yU yE ?_ | refine zab ?_ | refine DS.seq ?_ | refine zaa ?_ | refine DS.block ?_) | fail)
  refine zcp [2, 3, 4, 5, 6, 19, 20, 21, 27, 28] yN (fun (k : Nat) => [(29, I k)]) (fun (k : Nat) => k ≤ c.rounds[i].tables.length ∧ zjw c m i c.rounds[i].tables 0 r = zjw c m i (c.rounds[i].tables.drop k) k r) (fun (k : Nat) => c.rounds[i].tables.length - k) 0 yS ⟨Nat.zero_le _, rfl⟩ (fun k B hI hB => ?_); try dsimp only at hI hB; simp only [zaw, zbg]
  obtain ⟨f1, f2⟩ := hI
  have H2 := Box.mk f2
  clear f2
  by_cases hk : (k : Int) < (c.rounds[i].tables.length : Int)
  ·have hk' : k < c.rounds[i].tables.length := by omega
   have hix := zvy (c.rounds[i].tables[k]'(by omega)) m.id
   have htk := htl _ (List.getElem_mem hk')
   have hrt : zjw c m i (c.rounds[i].tables.drop k) k r = zjw c m i ((c.rounds[i].tables[k]'(by omega)) :: c.rounds[i].tables.drop (k + 1)) k r := by rw [← List.drop_eq_getElem_cons hk']
   rw [zjw] at hrt
   have HT := Box.mk hrt
   clear hrt
   change PC _ _ _ (I (idxI (c.rounds[i].tables[k]'(by omega)) m.id)) at hix
   by_cases hneg : idxI (c.rounds[i].tables[k]'(by omega)) m.id < 0
   ·generalize idxI (c.rounds[i].tables[k]'(by omega)) m.id = z at *
    repeat' (first | (with_reducible first | refine zad yU yU yE ?_ | refine zab ?_ | refine DS.seq ?_ | refine zaa ?_ | (refine zbe yE ?_; refine zcy ?_) | refine DS.block ?_ | refine DS.exit yU ?_ | refine DS.skip ?_) | refine zav inferInstance (hix) yR yT ?_ | fail)
    refine DS.back (hB (k + 1) _ _ (by omega) ⟨by omega, by rw [H2.out, HT.out, if_pos hneg]⟩ yS yS (fun d o e => by exact e))
   ·obtain ⟨at_, e1, e2⟩ := yfl hneg
    rw [e1] at hix
    have HE := Box.mk e1
    clear e1 hneg
    have hpl := zmx c hs i k
    cases hp : zfx c i k with
    | false =>
     rw [hp] at hpl
     clear hB
     repeat' (first | (with_reducible first | refine zad yU yU yE ?_ | refine zab ?_ | refine DS.seq ?_ | refine zaa ?_ | (refine zbe yE ?_; first | refine zeq (fun _ => ?_) (fun _ => ?_) | refine zcy ?_ | refine zdd ?_) | refine DS.block ?_ | refine DS.exit yU ?_ | refine DS.skip ?_) | refine zav inferInstance (hix) yR yT ?_ | refine zav inferInstance (hpl) yR yT ?_ | fail)
     ·exfalso; omega
     refine DS.back (hB0 (i + 1, r) _ _ (by dsimp only; omega) ⟨by dsimp only; omega, g2, by rw [H.out, HG.out, H2.out, HT.out, if_neg (by rw [HE.out]; omega), if_pos hp]⟩ yS yS (fun d o e => by exact e))
    | true =>
     rw [hp] at hpl
     clear hB
     have hkp : k < c.rounds[i].points.length := by
      rw [ziv hi', decide_eq_true_eq] at hp; omega
     have hct := zns c hs hi' hkp
     obtain ⟨r1, r2⟩ := zyz (zqt hc hi' hp)
     have hsc := zmv (zcz c i k) c.places c.start c.share (by omega) (by omega) (fun x hx => r2 x hx) (fun x hx => by have := p2 x hx; unfold B40; omega) (by unfold B40; omega)
     have hpc := yca (zcz c i k) (i := at_) (by omega) (by omega) c.share
     have hpt := zze (points := zcz c i k) (i := at_) (by omega) c.share
     have hln : (zgr (zcz c i k) c.places c.start c.share).length = sz := by
      rw [zgr, if_neg (by omega), List.length_map, List.length_range]
      have := HS.out.2
      omega
     have hat : at_ < sz := by have := HS.out.2; omega
     have hpl2 : zlt (zcz c i k) at_ c.share < sz := by have := HS.out.2; omega
     have hgd : (zgr (zcz c i k) c.places c.start c.share).getD at_ 0 = (zgr (zcz c i k) c.places c.start c.share)[at_]'(by omega) := by rw [List.getD_eq_getElem?_getD, List.getElem?_eq_getElem (by omega)]; rfl
     have HT2 := HT.out
     rw [if_neg (by rw [HE.out]; omega), if_neg (by rw [hp]; decide), HE.out, Int.toNat_natCast, hgd] at HT2
     have HT3 := Box.mk HT2
     clear HT2 HT hgd r1 r2 hpt
     generalize zlt (zcz c i k) at_ c.share = pz at *
     have hpr : r.places[pz]? = some (r.places[pz]'(by omega)) := List.getElem?_eq_getElem (by omega)
     repeat' (first | (with_reducible first | refine zad yU yU yE ?_ | refine zab ?_ | refine DS.seq ?_ | refine zaa ?_ | (refine zbe yE ?_; first | refine zeq (fun _ => ?_) (fun _ => ?_) | refine zcy ?_) | refine DS.block ?_ | refine DS.exit yU ?_ | refine DS.skip ?_) | refine zav inferInstance (hix) yR yT ?_ | refine zav inferInstance (hpl) yR yT ?_ | refine zav inferInstance (hct) yR yT ?_ | (refine DS.store yR yE yE yE yE yU (by exact ⟨by with_unfolding_all rfl, by (try simp only [List.length_map, List.length_append, List.length_set, List.length_replicate, List.length_cons, List.length_nil]); omega⟩) ?_; simp only [zbm, zao, zar, zcb, zbn, zbi, zbj]; try simp only [zap, zag, zah, Nat.reduceEqDiff, ↓reduceIte, zal, zam, zax, zak, zaj, zaq, zan]) | refine zcr (id := 13) [0, 1, 2, 3, 4, 5, 6, 7, 8, 9, 10, 11, 12, 13, 14, 15] 16 (by kernel_rfl) zei (by simp only [zbp, zbx, zby, zbz, zbo]; exact rfl) (by simp only [zbk, zbl, List.drop_nil]; exact rfl) ?_ | with_reducible refine zcj yU yU yU yE ?_ | fail)
     ·exfalso; omega
     repeat' (first | (with_reducible first | refine zcj yU yU yU yE ?_ | refine zmm yU yU yU yU yE ?_) | refine yet inferInstance (hsc) yU yT ?_; simp only [zfs, zhc, Nat.reduceEqDiff, ↓reduceIte] | fail)
     refine ygd yU yU yG ?_
     repeat' (first | (with_reducible first | refine zad yU yU yE ?_ | refine zab ?_ | refine zaa ?_ | refine DS.exit yU ?_) | (refine DS.store yR yE yE yE yE yU (by exact ⟨by with_unfolding_all rfl, by (try simp only [List.length_map, List.length_append, List.length_set, List.length_replicate, List.length_cons, List.length_nil]); omega⟩) ?_; simp only [zbm, zao, zar, zcb, zbn, zbi, zbj]; try simp only [zap, zag, zah, Nat.reduceEqDiff, ↓reduceIte, zal, zam, zax, zak, zaj, zaq, zan]) | refine zcr (id := 14) [0, 1, 2, 3, 4, 5, 6] 7 (by kernel_rfl) zei (by simp only [zbp, zbx, zby, zbz, zbo]; exact rfl) (by simp only [zbk, zbl, List.drop_nil]; exact rfl) ?_ | (with_reducible first | refine zcj yU yU yU yE ?_ | refine zdm ?_) | refine zva inferInstance (hpc) yU yT ?_ | fail)
     simp only [setS, n3, n3', ↓reduceIte, zaz, zbb]
     have em : (List.map I r.places).set pz (V.v (Value.int IntKind.i64 (IntKind.i64.wrap (r.places[pz]'(by omega) + 1)))) = List.map I (r.places.set pz (w64 (r.places[pz]'(by omega) + 1))) := by rw [List.map_set]; rfl
     rw [em]
     have eg : r.places.getD pz 0 = r.places[pz]'(by omega) := by rw [List.getD_eq_getElem?_getD, hpr]; rfl
     refine DS.back (hB0 (i + 1, { r with games := w64 (r.games + 1), total := w64 (r.total + w64 ((zgr (zcz c i k) c.places c.start c.share)[at_]'(by omega) + m.hand)), places := r.places.set pz (w64 (r.places[pz]'(by omega) + 1)) }) _ _ (by dsimp only; omega) ⟨by dsimp only; omega, by simp [g2], by rw [H.out, HG.out, H2.out, HT3.out, eg]⟩ yS yS (fun d o e => by exact e))
  ·clear hB
   have hpy := zmh m i
   have htr := zvf (m.plays i)
   repeat' (first | (with_reducible first | refine zad yU yU yE ?_ | refine zab ?_ | refine DS.seq ?_ | refine zaa ?_ | (refine zbe yE ?_; refine zdd ?_) | refine DS.blk ?_ | refine DS.exit yU ?_) | (refine DS.store yR yE yE yE yE yU (by exact ⟨by with_unfolding_all rfl, by (try simp only [List.length_map, List.length_append, List.length_set, List.length_replicate, List.length_cons, List.length_nil]); omega⟩) ?_; simp only [zbm, zao, zar, zcb, zbn, zbi, zbj]; try simp only [zap, zag, zah, Nat.reduceEqDiff, ↓reduceIte, zal, zam, zax, zak, zaj, zaq, zan]) | refine zcr (id := 16) [0, 1, 2, 3, 4, 5, 6, 7, 8] 9 (by kernel_rfl) zei (by simp only [zbp, zbx, zby, zbz, zbo]; exact rfl) (by simp only [zbk, zbl, List.drop_nil]; exact rfl) ?_ | (with_reducible first | refine zcj yU yU yU yE ?_ | refine zdm ?_) | refine zva inferInstance (hpy) yU yT ?_ | refine zva inferInstance (htr) yU yT ?_ | fail)
   simp only [setS, ↓reduceIte, zaz, zbb]
   have et : IntKind.i64.wrap (c.absent * if m.plays ↑i = true then 1 else 0) = if m.plays ↑i = true then c.absent else 0 := by
    split
    ·rw [Int.mul_one]; exact zrl (by omega)
    ·rw [Int.mul_zero]; rfl
   rw [et]
   have ed : c.rounds[i].tables.drop k = [] := List.drop_eq_nil_of_le (by omega)
   refine DS.back (hB0 (i + 1, { r with total := w64 (r.total + if m.plays i = true then c.absent else 0) }) _ _ (by dsimp only; omega) ⟨by dsimp only; omega, g2, by rw [H.out, HG.out, H2.out, ed, zjw]⟩ yS yS (fun d o e => by exact e))
 ·refine zcn (b := bp) (b' := b5) (i := 4) (sz := 1) n3' yG yR yG (by simp; omega) ⟨Nat.le_refl _, by have := HS.out; unfold maxLen; omega⟩ ?_
  repeat' (first | (with_reducible first | refine zad yU yU yE ?_ | refine zab ?_ | refine DS.seq ?_ | refine zaa ?_ | (refine zbe yE ?_; refine zdd ?_) | refine DS.exit yU ?_) | (refine DS.store yR yE yE yE yE yU (by exact ⟨by with_unfolding_all rfl, by (try simp only [List.length_map, List.length_append, List.length_set, List.length_replicate, List.length_cons, List.length_nil]); omega⟩) ?_; simp only [zbm, zao, zar, zcb, zbn, zbi, zbj]; try simp only [zap, zag, zah, Nat.reduceEqDiff, ↓reduceIte, zal, zam, zax, zak, zaj, zaq, zan]) | fail)
  have ec : chunk 1 sz (List.map V.copy (List.map I r.places)) = r.places.map cI := by
   have h1 : List.map V.copy (List.map I r.places) = (r.places.map fun x => I x) ++ [] := by rw [List.append_nil, List.map_map]; rfl
   rw [h1, zoc _ _ _ (by omega), List.take_of_length_le (by omega)]
  have ed : c.rounds.drop i = [] := List.drop_eq_nil_of_le (by omega)
  have er : R = r := by rw [H.out, ed, zon]
  rw [er]
  refine zrb [] (vs := [r.val]) (by simp only [go_sem, setS, n1, n1', n2, n2', n3, n3', ↓reduceIte, zao, zar, zaz, zbb, List.map_cons, List.map_nil, zcd, zay, Nat.reduceAdd, Nat.zero_add, ec]; (simp (disch := omega) only [go_sem, dopV, Option.map_some, Option.map_none, Option.bind_some, Option.bind_none, ↓reduceIte, Nat.reduceEqDiff, Nat.reduceLT, Nat.reduceLeDiff, Nat.reduceAdd, Nat.reduceMul, Nat.reduceSub, Nat.zero_add, Nat.add_zero, Nat.zero_le, Nat.zero_mul, Nat.mul_one, Nat.one_mul, Int.natCast_zero, Int.toNat_zero, Int.reduceToNat, Int.reduceLT, Int.reduceLE, Int.reduceEq, decide_true, decide_false, true_and, and_true, Bool.and_self, Bool.and_true, Bool.true_and, Bool.not_true, Bool.not_false, IntWalk.toNatUp, IntWalk.iteOmega, IntWalk.i64_in, Option.isSome_some, not_true_eq_false, not_false_eq_true, Option.getD_some, Option.getD_none, Int.toNat_natCast, List.length_map, List.getElem?_map, List.getElem?_eq_getElem, V.flat, V.one, List.all_cons, List.all_nil]; try exact rfl)) (fun d o e => by cases e) rfl
end Go.XL
namespace Go.XL
open Go.Proofs
set_option maxRecDepth 100000
set_option maxHeartbeats 8000000
theorem zqb (junk : List V) (v : Int) : ∀ (d : List Rank) (i : Nat) (h : i < d.length), (rkC d junk).set (i * 5 + 1) (I v) = rkC (d.set i { d[i] with place := v }) junk
 | a :: r, 0, h => by simp [rkC, Rank.cells]
 | a :: r, i + 1, h => by
  have h2 : ∀ r : List Rank, rkC (a :: r) junk = a.cells ++ rkC r junk := fun y => by simp [rkC]
  rw [h2, List.set_append_right _ _ (by rw [Rank.len]; omega), show (i + 1) * 5 + 1 - a.cells.length = i * 5 + 1 by rw [Rank.len]; omega, zqb junk v r i (by simpa using h)]
  simp [h2]
@[go_sem] theorem GR.cell_nil : GR.cell ⟨[], none⟩ = .v (.slice none 0 0) := rfl
@[go_sem] theorem stripO_gr (E : VEnv) (t : Nat) (g : GR) : zjo E t (some g.cell) = E := by obtain ⟨l, blk⟩ := g; cases blk <;> rfl
def yeo (n : Nat) : Prop := ∀ (b cap : Nat) (d : Array Rank) (junk : List V), d.size = n → n ≤ cap → (d.toList.map (·.id)).Nodup → DC Try.prog 23 [rkI b n cap] (rkS b d.toList junk) (fun u S' => ∃ e : Array Rank, Sort.PermIn 0 n d e ∧ Sort.SortedIn zdp 0 n e ∧ S' = rkS b e.toList junk)
theorem zrq {n : Nat} (hn : n ≤ 12) : yeo n := fun b cap d junk hd hc _ => by
 have h := zrp b cap n d junk hd hn hc
 have k := Sort.insertionSort_holds lessK_swo d 0 n (Nat.zero_le _) (by omega)
 exact h.mono fun u S' e => ⟨_, k.1, k.2, e⟩
theorem znn {q s : List Rank} {k : Nat} (hk : k < s.length) (hq : q.length = s.length) {x : Rank} (hx : q[k]? = some x) : (q.take k ++ s.drop k).set k x = q.take (k + 1) ++ s.drop (k + 1) := by
 have hl : (q.take k).length = k := by rw [List.length_take]; omega
 obtain ⟨h1, rfl⟩ := List.getElem?_eq_some_iff.1 hx
 rw [List.set_append_right _ _ (by omega), hl, Nat.sub_self, List.drop_eq_getElem_cons hk, List.set_cons_zero, List.take_succ_eq_append_getElem h1, List.append_assoc, List.singleton_append]
theorem ydo {q s : List Rank} {k : Nat} (hk : k < s.length) (hq : q.length = s.length) (h : k < (q.take k ++ s.drop k).length) : (q.take k ++ s.drop k)[k] = s[k] := by
 have hl : (q.take k).length = k := by rw [List.length_take]; omega
 rw [List.getElem_append_right (by omega), List.getElem_drop]
 congr 1; omega
theorem yad {q s : List Rank} {k : Nat} (hk : k < s.length) (hq : q.length = s.length) (k0 : k ≠ 0) {x : Rank} (h : k - 1 < ((q.take k ++ s.drop k).set k x).length) : ((q.take k ++ s.drop k).set k x)[k - 1] = q[k - 1]'(by omega) := by
 have hl : (q.take k).length = k := by rw [List.length_take]; omega
 rw [List.getElem_set_ne (by omega), List.getElem_append_left (by omega), List.getElem_take]
theorem zud {s q : List Rank} (hp : zgx default 0 s = q) (h : 0 < s.length) : q[0]? = some { s[0] with place := 0 } := by
 have := zmy s default 0 0 h
 rw [hp] at this
 rw [this]; simp
theorem zue {s q : List Rank} (hp : zgx default 0 s = q) {k : Nat} (h : k < s.length) (k0 : k ≠ 0) (h2 : k - 1 < q.length) : q[k]? = some { s[k] with place := if cmpK q[k - 1] s[k] = 0 then q[k - 1].place else (k : Int) } := by
 have := zmy s default 0 k h
 rw [hp] at this
 rw [this]
 simp only [if_neg k0, List.getD_eq_getElem?_getD, List.getElem?_eq_getElem h2, Option.getD_some, Nat.zero_add]
 congr 2
 simp [show 0 < k by omega]
theorem zyy {q : List Rank} {j : List V} {n : Nat} (h : q.length = n) : chunk 5 n ((rkC q j).map V.copy) = q.map Rank.cells := by
 have e : (rkC q j).map V.copy = (q.map Rank.cells).flatten ++ j.map V.copy := by
  rw [rkC, List.map_append, List.map_flatten, List.map_map]
  congr 2
 have k := zky (sz := 5) (j := j.map V.copy) (l := q.map Rank.cells) (fun c hc => by obtain ⟨a, -, rfl⟩ := List.mem_map.1 hc; rfl)
 rw [List.length_map, h] at k
 rw [e, k]
theorem yX25 {p : Prop} (h : p := by (simp (disch := omega) only [go_sem, dopV, Option.map_some, Option.map_none, Option.bind_some, Option.bind_none, ↓reduceIte, Nat.reduceEqDiff, Nat.reduceLT, Nat.reduceLeDiff, Nat.reduceAdd, Nat.reduceMul, Nat.reduceSub, Nat.zero_add, Nat.add_zero, Nat.zero_le, Nat.zero_mul, Nat.mul_one, Nat.one_mul, Int.natCast_zero, Int.toNat_zero, Int.reduceToNat, Int.reduceLT, Int.reduceLE, Int.reduceEq, decide_true, decide_false, true_and, and_true, Bool.and_self, Bool.and_true, Bool.true_and, Bool.not_true, Bool.not_false, IntWalk.toNatUp, IntWalk.iteOmega, IntWalk.i64_in, Option.isSome_some, not_true_eq_false, not_false_eq_true, Option.getD_some, Option.getD_none, Int.toNat_natCast, List.length_map, List.getElem?_map, List.getElem?_eq_getElem, V.flat, V.one, List.all_cons, List.all_nil, *, GR.cell_copy]; try exact rfl)) : p := h
theorem zym (c : Club) (hs : c.Small) (hn : c.members.length ≤ 1000) (hso : yeo c.members.length) (hc : zcm c = 0) (h0 : 0 < c.members.length) : PC Try.prog 9 [c.val] (tupV [yit (zlo c), I 0]) := by
 have hck := zdr c hs
 rw [hc] at hck
 generalize hR : zlo c = R
 have HR := Box.mk hR
 clear hR
 refine DC.of_run Try.func9 rfl Try.ntmps9 Try.results9 (by simp) (fun _ => ?_); simp only [zaf, zai, go_sem, Nat.zero_add, Nat.reduceAdd]
 repeat' (first | (with_reducible first | refine zad yU yU yE ?_ | refine zab ?_ | refine DS.seq ?_ | refine zaa ?_ | (refine zbe yE ?_; refine zdd ?_) | refine DS.block ?_ | refine DS.skip ?_) | refine zav inferInstance (hck) yR yT ?_ | (refine zci (t := 1) yU yE yU ?_; simp only [zbh, zcg, zbf, zbv, zbc, zau, zbq, zay, zcd, zcf, zbr, zce, zbu, zbt]) | fail)
 refine zda [1, 16, 17] yN (fun (y : Nat × GR) => [(5, y.2.cell), (18, I y.1)]) (fun (y : Nat × GR) => SR 37 y.2) (fun (y : Nat × GR) => y.1 ≤ c.members.length ∧ y.2.l = ((c.members.take y.1).map fun m => (zjk c m).cells) ∧ y.2.Ok 37 5 (SR 37 y.2)) (fun (y : Nat × GR) => c.members.length - y.1) (0, ⟨[], none⟩) yS (fun b o e => by exact e) ⟨Nat.zero_le _, rfl, rfl⟩ (fun y B hI hB => ?_); try dsimp only at hI hB; simp only [zaw, zbg]
 obtain ⟨i, g⟩ := y
 dsimp only at hI hB ⊢
 obtain ⟨g1, g2, g3⟩ := hI
 by_cases hi : (i : Int) < (c.members.length : Int)
 ·have hi' : i < c.members.length := by omega
  have hrk := yfc c hs hc c.members[i]
  repeat' (first | (with_reducible refine zgj (t := 22) yU yO yX2 ?_; simp only [zap, zag, zah, Nat.reduceEqDiff, ↓reduceIte, zal, zam, zax, zak, zaj, zaq, zan]) | (with_reducible first | refine zad yU yU yX2 ?_ | refine zab ?_ | refine DS.seq ?_ | refine zaa ?_ | (refine zbe yX2 ?_; refine zcy ?_) | refine DS.block ?_ | refine DS.skip ?_) | (refine zdn yU yX2 yX2 ?_; simp only [go_sem, Nat.zero_add, Nat.reduceAdd]) | (refine zgt (t := 7) yU yX2 yU (fun _ => yX2) yX2 yU (by exact ⟨by with_unfolding_all rfl, by with_unfolding_all decide⟩) (fun _ => by simp only [go_sem, Nat.reduceEqDiff, ↓reduceIte]) ?_; simp only [go_sem]) | refine zav inferInstance (hrk) yR yX25 ?_ | fail)
  have hgl : g.l.length = i := by rw [g2, List.length_map, List.length_take]; omega
  refine zcu rfl rfl yR (zld (g := g) (ml := [(zjk c c.members[i]).cells]) rfl yH yH yR yR (by decide) yH g3 yH yH (by exact Nat.zero_lt_succ _) (by intro x hx; obtain rfl := List.mem_singleton.1 hx; rfl) ⟨by rw [hgl, List.length_singleton]; omega, by decide⟩) (fun u2 E' S4 hu2 => ?_)
  obtain ⟨rfl, b', cap', junk', rfl, m1, m2, m3⟩ := hu2
  have hml : g.l ++ [(zjk c c.members[i]).cells].map (fun x => List.map V.copy x) = (c.members.take (i + 1)).map fun m => (zjk c m).cells := by
   rw [g2, List.take_succ_eq_append_getElem hi', List.map_append]; rfl
  rw [hml] at m1 ⊢
  generalize hL : ((c.members.take (i + 1)).map fun m => (zjk c m).cells) = L at m1 ⊢
  refine zew (S' := SR 37 ⟨L, some (b', cap', junk')⟩) (fun d o e => ?_) ?_
  ·simp only [zae, zfh, SR] at e
   by_cases c3 : b' = d
   ·subst c3; rw [if_pos rfl] at e; rw [m1.look]; exact e
   ·rw [if_neg c3] at e; cases e
  have m1' : GR.Ok 37 5 (SR 37 ⟨L, some (b', cap', junk')⟩) ⟨L, some (b', cap', junk')⟩ := ⟨by simp [SR, zac], m1.len, m1.le, m1.cap, m1.jf, m1.lf, m1.ll⟩
  have H := Box.mk m1'
  clear m1 m1' m2 m3 g3 hml
  generalize hG : (⟨L, some (b', cap', junk')⟩ : GR) = G at *
  have hGl : G.l = L := by rw [← hG]
  clear hG
  simp only [zca]
  repeat' (first | (with_reducible refine zgj (t := 5) yU yO yE ?_; simp only [zap, zag, zah, Nat.reduceEqDiff, ↓reduceIte, zal, zam, zax, zak, zaj, zaq, zan]) | (with_reducible first | refine zad yU yU yE ?_ | refine zab ?_ | refine zaa ?_ | refine DS.blk ?_) | fail)
  refine DS.back (hB (i + 1, G) _ _ (by dsimp only; omega) ⟨by dsimp only; omega, by dsimp only; rw [hGl, hL], H.out⟩ yS yS (fun d o e => by exact e))
 ·have hi2 : i = c.members.length := by omega
  subst hi2
  rw [List.take_length] at g2
  clear hB hi g1
  obtain ⟨l, blk⟩ := g
  dsimp only at g2
  cases blk with
  | none =>
   have h : l = [] := g3
   rw [h] at g2
   have := congrArg List.length g2
   simp at this; omega
  | some z =>
   obtain ⟨b, cap, j⟩ := z
   generalize hD : (c.members.map (zjk c)).toArray = D at *
   have hDl : D.toList = c.members.map (zjk c) := by rw [← hD]
   have hDn : D.size = c.members.length := by rw [← hD]; simp
   have hl : l = D.toList.map Rank.cells := by rw [hDl, List.map_map]; exact g2
   have eS : SR 37 ⟨l, some (b, cap, j)⟩ = rkS b D.toList j := by simp only [SR, rkS, rkC, hl]
   have hln : l.length = c.members.length := by rw [hl, List.length_map, Array.length_toList, hDn]
   have hcap : c.members.length ≤ cap := by have := g3.le; omega
   have hcm : cap ≤ maxLen := g3.cap
   rw [eS, GR.cell_some, hln]
   clear eS g3 g2
   obtain ⟨n, hn'⟩ : ∃ n, c.members.length = n := ⟨_, rfl⟩
   have hn'' := hn'
   have hsort := hso b cap D j (by omega) (by omega) (by rw [hDl, List.map_map]; exact zoz hc)
   simp only [hn'] at hn h0 hDn hln hcap hsort ⊢
   repeat' (first | (with_reducible first | refine zad yU yU yE ?_ | refine zab ?_ | refine DS.seq ?_ | refine zaa ?_ | (refine zbe yE ?_; refine zeq (fun _ => ?_) (fun _ => ?_)) | refine DS.block ?_ | refine DS.exit yU ?_ | refine DS.skip ?_) | fail)
   ·exfalso; omega
   refine yee yR yU (by intro ms h; cases h) yH ?_
   repeat' (first | (with_reducible first | refine zad yU yU yE ?_ | refine zab ?_ | refine DS.seq ?_ | refine zaa ?_) | fail)
   refine zek inferInstance hsort yR yH (fun u S' hu => ?_)
   obtain ⟨e, he1, he2, rfl⟩ := hu
   repeat' (first | (with_reducible first | refine zad yU yU yE ?_ | refine zab ?_ | refine DS.seq ?_ | refine zaa ?_) | fail)
   have hss : e.toList = zty (c.members.map (zjk c)) := yey (by rw [List.map_map]; exact zoz hc) (by rw [List.length_map, hn'']) (by rw [hD]; exact he1) he2
   have hsl : e.toList.length = n := by rw [hss, zyn, List.length_map, hn'']
   generalize hs' : e.toList = s at *
   clear he1 he2
   have HSS := Box.mk hss
   clear hss
   have hln2 := zzn b cap s j
   rw [hsl] at hln2
   refine DS.invoke inferInstance (zsp _ _ _) yH hln2 yR yH (fun u S' hu => ?_)
   obtain ⟨rfl, rfl⟩ := hu
   repeat' (first | (with_reducible first | refine zad yU yU yE ?_ | refine zab ?_ | refine DS.block ?_) | fail)
   refine zda [5, 34] yN (fun (k : Nat) => [(35, I k)]) (fun (k : Nat) => rkS b ((zgx default 0 s).take k ++ s.drop k) j) (fun (k : Nat) => k ≤ n) (fun (k : Nat) => n - k) 0 yS (fun b o e => by exact e) (Nat.zero_le n) (fun k B hI hB => ?_); try dsimp only at hI hB; simp only [zaw, zbg]
   generalize hp : zgx default 0 s = q at *
   have hql : q.length = n := by rw [← hp, zpa, hsl]
   by_cases hk : (k : Int) < (n : Int)
   ·have hk' : k < n := by omega
    have hL : (q.take k ++ s.drop k).length = n := by rw [List.length_append, List.length_take, List.length_drop]; omega
    have h1 := zic j (q.take k ++ s.drop k) k (by omega)
    have hget : (q.take k ++ s.drop k)[k]'(by omega) = s[k]'(by omega) := ydo (by omega) (by omega) _
    have h3 := zvo (q.take k ++ s.drop k) j
    have hst := zqb j k (q.take k ++ s.drop k) k (by omega)
    rw [hget] at h1 hst
    rw [hL] at h3
    have hM : ((q.take k ++ s.drop k).set k { s[k]'(by omega) with place := (k : Int) }).length = n := by rw [List.length_set]; exact hL
    simp only [rkS]
    simp only [Rank.cells_eq, List.cons_append, List.nil_append] at h1
    have h4 := zic j ((q.take k ++ s.drop k).set k { s[k]'(by omega) with place := (k : Int) }) k (by omega)
    rw [← hst, List.getElem_set_self] at h4
    simp only [Rank.cells_eq, List.cons_append, List.nil_append] at h4
    by_cases k0 : k = 0
    ·generalize rkC (q.take k ++ s.drop k) j = C at *
     repeat' (first | (with_reducible refine zgj (t := 2) yU yO yE ?_; simp only [zap, zag, zah, Nat.reduceEqDiff, ↓reduceIte, zal, zam, zax, zak, zaj, zaq, zan]) | (with_reducible refine zgj (t := 69) yU yO yE ?_; simp only [zap, zag, zah, Nat.reduceEqDiff, ↓reduceIte, zal, zam, zax, zak, zaj, zaq, zan]) | (with_reducible first | refine zad yU yU yE ?_ | refine zab ?_ | refine DS.seq ?_ | refine zaa ?_ | (refine zbe yE ?_; first | refine zeq (fun _ => ?_) (fun _ => ?_) | refine zdd ?_) | (refine zdv yU yE ?_; refine zkb ?_) | refine DS.blk ?_ | refine DS.block ?_ | refine DS.exit yU ?_ | refine DS.skip ?_) | (refine DS.store yR yE yE yE yE yU (by exact ⟨by with_unfolding_all rfl, by (try simp only [List.length_map, List.length_append, List.length_set, List.length_replicate, List.length_cons, List.length_nil]); omega⟩) ?_; simp only [zbm, zao, zar, zcb, zbn, zbi, zbj]; try simp only [zap, zag, zah, Nat.reduceEqDiff, ↓reduceIte, zal, zam, zax, zak, zaj, zaq, zan]) | refine zcr (id := 16) [0, 1, 2, 3, 4, 5, 6, 7, 8, 9, 10, 11] 12 (by kernel_rfl) zei (by simp only [zbp, zbx, zby, zbz, zbo]; exact rfl) (by simp only [zbk, zbl, List.drop_nil]; exact rfl) ?_ | (with_reducible first | refine zcj yU yU yU yE ?_ | (refine zvb yU yE ?_; refine zto ?_) | refine zdm ?_) | fail)
     all_goals first | (exfalso; omega) | skip
     simp only [setS, ↓reduceIte]
     subst k0
     have hst2 : C.set 1 (I 0) = rkC (q.take (0 + 1) ++ s.drop (0 + 1)) j := by
      rw [← znn (by omega) (by omega) (zud hp (by omega))]
      exact hst
     rw [hst2]
     refine DS.back (hB (0 + 1) _ _ (by omega) (by omega) ⟨rfl, trivial⟩ yS (fun d o e => by exact e))
    ·have h5 := zic j ((q.take k ++ s.drop k).set k { s[k]'(by omega) with place := (k : Int) }) (k - 1) (by omega)
     have hg5 : ((q.take k ++ s.drop k).set k { s[k]'(by omega) with place := (k : Int) })[k - 1]'(by omega) = q[k - 1]'(by omega) := yad (by omega) (by omega) k0 _
     rw [← hst, hg5] at h5
     simp only [Rank.cells_eq, List.cons_append, List.nil_append] at h5
     have hcp := znv (q[k - 1]'(by omega)) { s[k]'(by omega) with place := (k : Int) }
     have ht : ((k : Int) - 1).toNat = k - 1 := by omega
     generalize rkC (q.take k ++ s.drop k) j = C at *
     have h6 : (C.set (k * 5 + 1) (I k)).length = n * 5 + j.length := by rw [List.length_set]; exact h3
     repeat' (first | (with_reducible first | refine zad yU yU yE ?_ | refine zab ?_ | refine DS.seq ?_ | refine zaa ?_ | (refine zbe yE ?_; first | refine zcy ?_ | refine zdd ?_) | (refine zdv yU yE ?_; refine zkb ?_) | refine DS.blk ?_ | refine DS.block ?_ | refine DS.skip ?_) | (refine DS.store yR yE yE yE yE yU (by exact ⟨by with_unfolding_all rfl, by (try simp only [List.length_map, List.length_append, List.length_set, List.length_replicate, List.length_cons, List.length_nil]); omega⟩) ?_; simp only [zbm, zao, zar, zcb, zbn, zbi, zbj]; try simp only [zap, zag, zah, Nat.reduceEqDiff, ↓reduceIte, zal, zam, zax, zak, zaj, zaq, zan]) | refine zcr (id := 16) [0, 1, 2, 3, 4, 5, 6, 7, 8, 9, 10, 11] 12 (by kernel_rfl) zei (by simp only [zbp, zbx, zby, zbz, zbo]; exact rfl) (by simp only [zbk, zbl, List.drop_nil]; exact rfl) ?_ | (with_reducible first | refine zcj yU yU yU yE ?_ | (refine zvb yU yE ?_; first | refine yer (fun _ => ?_) (fun _ => ?_) | refine DGG.run ?_ | refine zto ?_) | refine zdm ?_) | fail)
     all_goals first | (exfalso; omega) | skip
     simp only [setS, ↓reduceIte]
     generalize hC2 : C.set (k * 5 + 1) (I k) = C2 at *
     have HST := Box.mk hst
     clear hst hC2
     have hgv : C2[(k - 1) * 5 + 1]'(by omega) = I (q[k - 1]'(by omega)).place := by
      have := congrArg (fun l => l[1]?) h5
      simpa [List.getElem?_drop, List.getElem?_eq_getElem (show (k - 1) * 5 + 1 < C2.length by omega)] using this
     have hqk := zue hp (by omega) k0 (by omega)
     have HQK := Box.mk hqk
     clear hqk
     repeat' (first | (with_reducible first | refine zad yU yU yE ?_ | refine zab ?_ | refine zaa ?_ | (refine zbe yE ?_; refine zeq (fun _ => ?_) (fun _ => ?_)) | (refine zdv yU yE ?_; refine GG.run ?_) | refine DS.blk ?_ | refine DS.skip ?_) | refine zav inferInstance (hcp) yR yT ?_ | (refine DS.store yR yE yE yE yE yU (by exact ⟨by with_unfolding_all rfl, by (try simp only [List.length_map, List.length_append, List.length_set, List.length_replicate, List.length_cons, List.length_nil]); omega⟩) ?_; simp only [zbm, zao, zar, zcb, zbn, zbi, zbj]; try simp only [zap, zag, zah, Nat.reduceEqDiff, ↓reduceIte, zal, zam, zax, zak, zaj, zaq, zan]) | (with_reducible first | refine zcj yU yU yU yE ?_ | (refine zvb yU yE ?_; refine DGG.run ?_) | refine zdm ?_) | fail)
     ·simp only [setS, ↓reduceIte]
      rename_i e1
      have h7 := zqb j (q[k - 1]'(by omega)).place ((q.take k ++ s.drop k).set k { s[k]'(by omega) with place := (k : Int) }) k (by omega)
      rw [← HST.out, List.getElem_set_self, List.set_set] at h7
      rw [h7, znn (by omega) (by omega) (HQK.out.trans (by rw [if_pos (show cmpK (q[k - 1]'(by omega)) (s[k]'(by omega)) = 0 from (zny rfl rfl rfl rfl).trans e1)]))]
      refine DS.back (hB (k + 1) _ _ (by omega) (by omega) yS yS (fun d o e => by exact e))
     ·rename_i e1
      rw [HST.out, znn (by omega) (by omega) (HQK.out.trans (by rw [if_neg (show ¬ cmpK (q[k - 1]'(by omega)) (s[k]'(by omega)) = 0 from fun h => e1 ((zny rfl rfl rfl rfl).trans h))]))]
      refine DS.back (hB (k + 1) _ _ (by omega) (by omega) yS yS (fun d o e => by exact e))
   ·have hkn : k = n := by omega
    clear hB hk
    have e2 : List.take k q ++ List.drop k s = q := by rw [List.take_of_length_le (by omega), List.drop_eq_nil_of_le (by omega), List.append_nil]
    rw [e2]
    repeat' (first | (with_reducible refine zgj (t := 2) yU yO yE ?_; simp only [zap, zag, zah, Nat.reduceEqDiff, ↓reduceIte, zal, zam, zax, zak, zaj, zaq, zan]) | (with_reducible refine zgj (t := 69) yU yO yE ?_; simp only [zap, zag, zah, Nat.reduceEqDiff, ↓reduceIte, zal, zam, zax, zak, zaj, zaq, zan]) | (with_reducible first | refine zad yU yU yE ?_ | refine zab ?_ | refine DS.seq ?_ | refine zaa ?_ | (refine zbe yE ?_; refine zdd ?_) | refine DS.exit yU ?_) | fail)
    refine zim (b := b) (t := 2) (sz := 5) (len := n) (cap := cap) (l := rkC q j) (T := 37) yR (by simp only [zae, ↓reduceIte]) (by rw [zvo]; omega) ⟨hcap, hcm⟩ ?_
    rw [zyy hql]
    refine zat [] yG trivial ?_
    rw [← HR.out, zlo, ← HSS.out, hp]
    rfl
end Go.XL
namespace Go.XL
set_option maxRecDepth 100000
set_option maxHeartbeats 8000000
def zjp (T P : List (List Int)) (R : List Ruling) : Club := { shownC with rounds := [⟨T, P, R⟩] }
def knT0 : List (List Int) := [[1, 2, 10], [4, 5, 6], [7, 8, 9]]
def knT1 : List (List Int) := [[2, 1, 3], [4, 5, 6], [7, 8, 9]]
def knT : List (List Int) := [[1, 2, 3], [4, 5, 6], [7, 8, 9]]
def knP : List (List Int) := [[130, 100, 70], [120, 120, 60], []]
def knP2 : List (List Int) := [[130, 100, 71], [120, 120, 60], []]
def knR : List Ruling := [⟨0, 0, [100, 100, 100]⟩]
def fewC : Club := { shownC with members := shownC.members.take 3, rounds := [⟨[[1, 2, 3]], [[130, 100, 70]], []⟩] }
theorem kn_check : zcm shownC = 0 ∧ zcm (zjp knT0 knP []) = 7 ∧ zcm (zjp knT1 knP []) = 11 ∧ zcm (zjp knT knP2 []) = 12 := by decide +kernel
theorem kn_next : (zoq shownC [1, 2, 3]).2 = 12 ∧ (zoq shownC [1, 2, 4]).2 = 12 ∧ (zoq shownC [1, 2]).2 = 3 := by decide +kernel
def knA : List (List Int) := [[1, 4, 7], [2, 5, 8], [3, 6, 9]]
def knB : List (List Int) := [[1, 5, 9], [2, 6, 7], [3, 4, 8]]
def knC : List (List Int) := [[1, 6, 8], [2, 4, 9], [3, 5, 7]]
theorem ycp : zqe shownC 2 100 = ([knA, knB], 1, 6, 0) := by decide +kernel
theorem ycn : zqe shownC 2 5 = ([], 3, 5, 0) := by decide +kernel
theorem yco : zqe shownC 3 100 = ([knA, knB, knC], 1, 9, 0) := by decide +kernel
theorem ygu : zqe fewC 1 9 = ([], 2, 0, 0) := by decide +kernel
theorem ygt : metX shownC 1 4 = 0 := by decide +kernel
theorem kn_counted : zje shownC 0 0 = ([130, 100, 70], 0) ∧ zje shownC 0 2 = ([], 10) ∧ zje (zjp knT knP knR) 0 0 = ([100, 100, 100], 0) := by decide +kernel
theorem zzs : zgr [120, 120, 60] [30, 0, -30] 100 false = [50, 20, -70] := by decide +kernel
theorem ycm : (zlo shownC).map (·.id) = [1, 4, 5, 2, 7, 8, 9, 3, 6] ∧ (zlo shownC).map (·.total) = [60, 35, 35, 0, 0, 0, 0, -60, -70] ∧ (zlo shownC).map (·.place) = [0, 1, 1, 3, 4, 4, 4, 7, 8] := by decide +kernel
theorem yae : fewC.Small := by
 refine ⟨by decide, by decide, by decide, fun s hs => ?_⟩
 obtain rfl := List.mem_singleton.1 hs
 exact ⟨by decide, by decide, by decide, by decide, by decide, by intro x hx; cases hx⟩
theorem yfr : ztg fewC := by
 intro s hs t ht x hx
 obtain rfl := List.mem_singleton.1 hs
 have h : ∀ t ∈ [[1, 2, 3]], ∀ x ∈ t, (1 : Int) ≤ x ∧ x ≤ 9 := by decide
 have := h t ht x hx
 unfold In64; omega
theorem yfs : ∀ m ∈ fewC.members, In64 m.id := by
 intro m hm
 have h : ∀ m ∈ fewC.members, (1 : Int) ≤ m.id ∧ m.id ≤ 9 := by decide
 have := h m hm
 unfold In64; omega
theorem zgk (T P : List (List Int)) (R : List Ruling) (h : T.length ≤ 10 ∧ P.length ≤ 10 ∧ R.length ≤ 10) (h1 : ∀ t ∈ T, t.length ≤ 10) (h2 : ∀ t ∈ P, t.length ≤ 10) (h3 : ∀ x ∈ R, x.points.length ≤ 10) : (zjp T P R).Small := by
 refine ⟨(by decide : shownC.places.length ≤ 1000000), (by decide : shownC.members.length ≤ 1000000), (by decide : 1 ≤ 1000000), fun s hs => ?_⟩
 obtain rfl := List.mem_singleton.1 hs
 exact ⟨by show T.length ≤ _; omega, by show P.length ≤ _; omega, by show R.length ≤ _; omega, fun t ht => Nat.le_trans (h1 t ht) (by decide), fun t ht => Nat.le_trans (h2 t ht) (by decide), fun x hx => Nat.le_trans (h3 x hx) (by decide)⟩
end Go.XL
namespace Go.XL
open Go.Proofs
set_option maxRecDepth 100000
set_option maxHeartbeats 8000000
section
variable {P : Program} {n : Nat} {r : Rr} {Q : VEnv → Sto → Prop} {k : List Fr} {E : VEnv}
theorem zlg : ∀ {S : Sto} {b : Nat}, b ∈ S.map Prod.fst → ∃ o, zac S b = some o
 | (c, o) :: r, b, h => by
  rw [zae]
  by_cases hc : c = b
  ·exact ⟨o, if_pos hc⟩
  ·rw [if_neg hc]
   rcases List.mem_cons.1 h with h | h
   ·exact absurd h.symm hc
   ·exact zlg h
theorem zre {S0 S2 : Sto} (hdis : ∀ b o, zac S0 b = some o → zac S2 b = none) (q : DS P n r Q k E (S2 ++ S0)) : DS P n r Q k E (S0 ++ S2) :=
 zew (S' := S2 ++ S0) (fun d o e => by
  rw [zba] at e ⊢
  cases h : zac S0 d with
  | none =>
   rw [h] at e
   cases h2 : zac S2 d with
   | none => rw [h2] at e; exact e
   | some o2 => rw [h2] at e; exact e
  | some o2 => rw [hdis d o2 h, h] at e; exact e) q
theorem zli {S0 S2 : Sto} (hdis : ∀ b o, zac S0 b = some o → zac S2 b = none) (h2 : (S2.map Prod.fst).Nodup) (h0 : (S0.map Prod.fst).Nodup) : ((S2 ++ S0).map Prod.fst).Nodup := by
 rw [List.map_append]
 refine List.nodup_append.2 ⟨h2, h0, fun a ha b hb e => ?_⟩
 subst e
 obtain ⟨o, ho⟩ := zlg hb
 obtain ⟨o2, ho2⟩ := zlg ha
 rw [hdis a o ho] at ho2; cases ho2
end
abbrev B3 := Nat × Nat × Nat
def knC3 (i : Nat) (x y z : B3) : List V := match i with
 | 0 => zjj ++ zjj ++ zjj
 | 1 => shW (.v (.slice (some ⟨x.1, 0, none⟩) 1 1)) ++ zjj ++ zjj
 | 2 => shW (.v (.slice (some ⟨x.1, 0, none⟩) 1 1)) ++ shW (.v (.slice (some ⟨y.1, 0, none⟩) 1 1)) ++ zjj
 | _ => shW (.v (.slice (some ⟨x.1, 0, none⟩) 1 1)) ++ shW (.v (.slice (some ⟨y.1, 0, none⟩) 1 1)) ++ shW (.v (.slice (some ⟨z.1, 0, none⟩) 1 1))
abbrev shO (x : B3) : Sto := shS x.1 x.2.1 x.2.2 [ints [1, 2, 3], ints [4, 5, 6], ints [7, 8, 9]] [ints [130, 100, 70], ints [120, 120, 60], .v (.slice none 0 0)]
def knS (b i : Nat) (x y z : B3) : Sto := match i with
 | 0 => [(b, .cells (knC3 0 x y z) 52)]
 | 1 => (b, .cells (knC3 1 x y z) 52) :: shO x
 | 2 => (b, .cells (knC3 2 x y z) 52) :: (shO x ++ shO y)
 | _ => (b, .cells (knC3 3 x y z) 52) :: (shO x ++ shO y ++ shO z)
theorem yX26 {p : Prop} (h : p := by (simp (disch := omega) only [go_sem, dopV, Option.map_some, Option.map_none, Option.bind_some, Option.bind_none, ↓reduceIte, Nat.reduceEqDiff, Nat.reduceLT, Nat.reduceLeDiff, Nat.reduceAdd, Nat.reduceMul, Nat.reduceSub, Nat.zero_add, Nat.add_zero, Nat.zero_le, Nat.zero_mul, Nat.mul_one, Nat.one_mul, Int.natCast_zero, Int.toNat_zero, Int.reduceToNat, Int.reduceLT, Int.reduceLE, Int.reduceEq, decide_true, decide_false, true_and, and_true, Bool.and_self, Bool.and_true, Bool.true_and, Bool.not_true, Bool.not_false, IntWalk.toNatUp, IntWalk.iteOmega, IntWalk.i64_in, Option.isSome_some, not_true_eq_false, not_false_eq_true, Option.getD_some, Option.getD_none, Int.toNat_natCast, List.length_map, List.getElem?_map, List.getElem?_eq_getElem, V.flat, V.one, List.all_cons, List.all_nil, *, Value.oneCell']; first | done | exact rfl)) : p := h
theorem yaf : PC Try.prog 5 [] (Bo true) := by
 refine DC.of_run Try.func5 rfl Try.ntmps5 Try.results5 (by simp) (fun _ => ?_); simp only [zaf, zai, go_sem, Nat.zero_add, Nat.reduceAdd]
 repeat' (first | (with_reducible first | refine zad yU yU yE ?_ | refine zab ?_ | refine DS.seq ?_ | refine zaa ?_) | fail)
 refine zdl yR yU yU (fun b1 h1 => ?_)
 clear h1
 repeat' (first | (with_reducible first | refine zad yU yU yE ?_ | refine zab ?_ | refine DS.seq ?_ | refine zaa ?_ | refine DS.block ?_) | fail)
 have e0 : (Value.agg #[.int .i64 0, .int .i64 0, .int .i64 0, .int .i64 0, .slice none 0 0, .bool false, .slice none 0 0, .slice none 0 0, .int .i64 0, .int .i64 0, .int .i64 0, .int .i64 0, .slice none 0 0, .bool false, .slice none 0 0, .slice none 0 0, .int .i64 0, .int .i64 0, .int .i64 0, .int .i64 0, .slice none 0 0, .bool false, .slice none 0 0, .slice none 0 0]).cells.toList.map V.v = knC3 0 (0, 0, 0) (0, 0, 0) (0, 0, 0) := rfl
 rw [e0]
 clear e0
 refine zda [1] yN (fun (y : Nat × B3 × B3 × B3) => [(2, I y.1)]) (fun (y : Nat × B3 × B3 × B3) => knS b1 y.1 y.2.1 y.2.2.1 y.2.2.2) (fun (y : Nat × B3 × B3 × B3) => y.1 ≤ 3 ∧ ((knS b1 y.1 y.2.1 y.2.2.1 y.2.2.2).map Prod.fst).Nodup) (fun (y : Nat × B3 × B3 × B3) => 3 - y.1) (0, (0, 0, 0), (0, 0, 0), (0, 0, 0)) yS (fun b o e => by exact e) ⟨by decide, by simp [knS]⟩ (fun y B hI hB => ?_); try dsimp only at hI hB; simp only [zaw, zbg]
 obtain ⟨i, x, y, z⟩ := y
 dsimp only at hI hB ⊢
 obtain ⟨g1, g2⟩ := hI
 have HN := Box.mk g2
 clear g2
 by_cases hi : (i : Int) < 3
 ·have HB := Box.mk hB
  clear hB
  obtain rfl | rfl | rfl : i = 0 ∨ i = 1 ∨ i = 2 := by omega
  ·repeat' (first | (with_reducible first | refine zad yU yU yE ?_ | refine zab ?_ | refine DS.seq ?_ | refine zaa ?_ | (refine zbe yE ?_; refine zcy ?_) | refine DS.block ?_ | refine DS.skip ?_) | fail)
   refine DS.call (dst := some 14) [] (knS b1 0 x y z) inferInstance zia yR yH (fun _ _ e => by cases e) (fun _ _ e => ⟨e, rfl⟩) ?_
   rintro v S0 ⟨br, bt, bp, hn, rfl, rfl⟩ hdis
   simp only [zca]
   refine zre hdis ?_
   have hN2 := zli hdis HN.out (by simp [hn])
   clear hdis HN
   have hL : (knC3 0 x y z).length = 24 := rfl
   show DS _ _ _ _ _ _ ((b1, .cells (knC3 0 x y z) 52) :: shO (br, bt, bp))
   repeat' (first | (with_reducible first | refine zad yU yU yE ?_ | refine zab ?_ | refine zaa ?_ | refine DS.blk ?_) | (refine DS.store yR yE yE yE yE yU (by exact ⟨by with_unfolding_all rfl, by (try simp only [List.length_map, List.length_append, List.length_set, List.length_replicate, List.length_cons, List.length_nil]); omega⟩) ?_; simp only [zbm, zao, zar, zcb, zbn, zbi, zbj]; try simp only [zap, zag, zah, Nat.reduceEqDiff, ↓reduceIte, zal, zam, zax, zak, zaj, zaq, zan]) | fail)
   simp only [setS, ↓reduceIte]
   refine DS.back (HB.out (1, (br, bt, bp), y, z) _ _ (by dsimp only; omega) ⟨by dsimp only; omega, hN2⟩ ⟨rfl, trivial⟩ yS (fun d o e => by exact e))
  ·repeat' (first | (with_reducible first | refine zad yU yU yE ?_ | refine zab ?_ | refine DS.seq ?_ | refine zaa ?_ | (refine zbe yE ?_; refine zcy ?_) | refine DS.block ?_ | refine DS.skip ?_) | fail)
   refine DS.call (dst := some 14) [] (knS b1 1 x y z) inferInstance zia yR yH (fun _ _ e => by cases e) (fun _ _ e => ⟨e, rfl⟩) ?_
   rintro v S0 ⟨br, bt, bp, hn, rfl, rfl⟩ hdis
   simp only [zca]
   refine zre hdis ?_
   have hN2 := zli hdis HN.out (by simp [hn])
   clear hdis HN
   have hL : (knC3 1 x y z).length = 24 := rfl
   show DS _ _ _ _ _ _ ((b1, .cells (knC3 1 x y z) 52) :: (shO x ++ shO (br, bt, bp)))
   repeat' (first | (with_reducible first | refine zad yU yU yE ?_ | refine zab ?_ | refine zaa ?_ | refine DS.blk ?_) | (refine DS.store yR yE yE yE yE yU (by exact ⟨by with_unfolding_all rfl, by (try simp only [List.length_map, List.length_append, List.length_set, List.length_replicate, List.length_cons, List.length_nil]); omega⟩) ?_; simp only [zbm, zao, zar, zcb, zbn, zbi, zbj]; try simp only [zap, zag, zah, Nat.reduceEqDiff, ↓reduceIte, zal, zam, zax, zak, zaj, zaq, zan]) | fail)
   simp only [setS, ↓reduceIte]
   refine DS.back (HB.out (2, x, (br, bt, bp), z) _ _ (by dsimp only; omega) ⟨by dsimp only; omega, hN2⟩ ⟨rfl, trivial⟩ yS (fun d o e => by exact e))
  ·repeat' (first | (with_reducible first | refine zad yU yU yE ?_ | refine zab ?_ | refine DS.seq ?_ | refine zaa ?_ | (refine zbe yE ?_; refine zcy ?_) | refine DS.block ?_ | refine DS.skip ?_) | fail)
   refine DS.call (dst := some 14) [] (knS b1 2 x y z) inferInstance zia yR yH (fun _ _ e => by cases e) (fun _ _ e => ⟨e, rfl⟩) ?_
   rintro v S0 ⟨br, bt, bp, hn, rfl, rfl⟩ hdis
   simp only [zca]
   refine zre hdis ?_
   have hN2 := zli hdis HN.out (by simp [hn])
   clear hdis HN
   have hL : (knC3 2 x y z).length = 24 := rfl
   show DS _ _ _ _ _ _ ((b1, .cells (knC3 2 x y z) 52) :: (shO x ++ shO y ++ shO (br, bt, bp)))
   repeat' (first | (with_reducible first | refine zad yU yU yE ?_ | refine zab ?_ | refine zaa ?_ | refine DS.blk ?_) | (refine DS.store yR yE yE yE yE yU (by exact ⟨by with_unfolding_all rfl, by (try simp only [List.length_map, List.length_append, List.length_set, List.length_replicate, List.length_cons, List.length_nil]); omega⟩) ?_; simp only [zbm, zao, zar, zcb, zbn, zbi, zbj]; try simp only [zap, zag, zah, Nat.reduceEqDiff, ↓reduceIte, zal, zam, zax, zak, zaj, zaq, zan]) | fail)
   simp only [setS, ↓reduceIte]
   refine DS.back (HB.out (3, x, y, (br, bt, bp)) _ _ (by dsimp only; omega) ⟨by dsimp only; omega, by simpa [knS] using hN2⟩ ⟨rfl, trivial⟩ yS (fun d o e => by exact e))
 ·obtain rfl : i = 3 := by omega
  clear hB g1
  obtain ⟨r0, t0, p0⟩ := x
  obtain ⟨r1, t1, p1⟩ := y
  obtain ⟨r2, t2, p2⟩ := z
  have hN1 : [b1, r0, t0, p0, r1, t1, p1, r2, t2, p2].Nodup := HN.out
  have hN2 : [p2, t2, r2, p1, t1, r1, p0, t0, r0, b1].Nodup := List.pairwise_reverse.2 (hN1.imp fun h => h.symm)
  clear HN
  simp only [List.nodup_cons, List.mem_cons, List.not_mem_nil, or_false, not_or, not_false_eq_true, List.nodup_nil, and_true, and_self] at hN1 hN2
  show DS _ _ _ _ _ _ [(b1, .cells (knC3 3 (r0, t0, p0) (r1, t1, p1) (r2, t2, p2)) 52), shRo r0 t0 p0 (.v (.slice none 0 0)), shT t0 [ints [1, 2, 3], ints [4, 5, 6], ints [7, 8, 9]], shT p0 [ints [130, 100, 70], ints [120, 120, 60], .v (.slice none 0 0)], shRo r1 t1 p1 (.v (.slice none 0 0)), shT t1 [ints [1, 2, 3], ints [4, 5, 6], ints [7, 8, 9]], shT p1 [ints [130, 100, 70], ints [120, 120, 60], .v (.slice none 0 0)], shRo r2 t2 p2 (.v (.slice none 0 0)), shT t2 [ints [1, 2, 3], ints [4, 5, 6], ints [7, 8, 9]], shT p2 [ints [130, 100, 70], ints [120, 120, 60], .v (.slice none 0 0)]]
  simp only [knC3, shW, List.cons_append, List.nil_append, List.append_assoc]
  refine zeg (b := p0) V.peek (fun _ _ _ h => V.peek_Rl h) zcx (by simp only [zae, ↓reduceIte, hN1, hN2]; try exact rfl) ?_
  simp only [setS, zbs, zcc, hN1, hN2, ↓reduceIte, zbb, zaz, List.map_cons, List.map_nil, Nat.reduceMul, Nat.reduceAdd]
  refine zeg (b := p1) V.peek (fun _ _ _ h => V.peek_Rl h) zcx (by simp only [zae, ↓reduceIte, hN1, hN2]; try exact rfl) ?_
  simp only [setS, zbs, zcc, hN1, hN2, ↓reduceIte, zbb, zaz, List.map_cons, List.map_nil, Nat.reduceMul, Nat.reduceAdd]
  refine zeg (b := p2) V.peek (fun _ _ _ h => V.peek_Rl h) zcx (by simp only [zae, ↓reduceIte, hN1, hN2]; try exact rfl) ?_
  simp only [setS, zbs, zcc, hN1, hN2, ↓reduceIte, zbb, zaz, List.map_cons, List.map_nil, Nat.reduceMul, Nat.reduceAdd]
  refine zeg (b := r0) V.peek (fun _ _ _ h => V.peek_Rl h) zcx (by simp only [zae, ↓reduceIte, hN1, hN2]; try exact rfl) ?_
  simp only [setS, zbs, zcc, hN1, hN2, ↓reduceIte, zbb, zaz, List.map_cons, List.map_nil, Nat.reduceMul, Nat.reduceAdd]
  refine zeg (b := r1) V.peek (fun _ _ _ h => V.peek_Rl h) zcx (by simp only [zae, ↓reduceIte, hN1, hN2]; try exact rfl) ?_
  simp only [setS, zbs, zcc, hN1, hN2, ↓reduceIte, zbb, zaz, List.map_cons, List.map_nil, Nat.reduceMul, Nat.reduceAdd]
  refine zeg (b := r2) V.peek (fun _ _ _ h => V.peek_Rl h) zcx (by simp only [zae, ↓reduceIte, hN1, hN2]; try exact rfl) ?_
  simp only [setS, zbs, zcc, hN1, hN2, ↓reduceIte, zbb, zaz, List.map_cons, List.map_nil, Nat.reduceMul, Nat.reduceAdd]
  refine zcn (b := p0) (b' := r0) (i := 1) (sz := 1) (len := 3) (cap := 3) (l := [ints [130, 100, 70], ints [120, 120, 60], .lst []]) (T := 25) (l' := [.v (.slice (some ⟨t0, 0, none⟩) 3 3), .v (.slice (some ⟨p0, 0, none⟩) 3 3), .lst []]) (T' := 45) (by simp only [ne_eq, hN1, hN2, not_false_eq_true]) (by simp only [zae, ↓reduceIte, hN1, hN2]; try exact rfl) yR (by simp only [zae, ↓reduceIte, hN1, hN2]; try exact rfl) (by decide) (by decide) ?_
  simp only [setS, zbs, zcc, hN1, hN2, ↓reduceIte, zbb, zaz, List.map_cons, List.map_nil, Nat.reduceMul, Nat.reduceAdd]
  refine zcn (b := p1) (b' := r1) (i := 1) (sz := 1) (len := 3) (cap := 3) (l := [ints [130, 100, 70], ints [120, 120, 60], .lst []]) (T := 25) (l' := [.v (.slice (some ⟨t1, 0, none⟩) 3 3), .v (.slice (some ⟨p1, 0, none⟩) 3 3), .lst []]) (T' := 45) (by simp only [ne_eq, hN1, hN2, not_false_eq_true]) (by simp only [zae, ↓reduceIte, hN1, hN2]; try exact rfl) yR (by simp only [zae, ↓reduceIte, hN1, hN2]; try exact rfl) (by decide) (by decide) ?_
  simp only [setS, zbs, zcc, hN1, hN2, ↓reduceIte, zbb, zaz, List.map_cons, List.map_nil, Nat.reduceMul, Nat.reduceAdd]
  refine zcn (b := t2) (b' := r2) (i := 0) (sz := 1) (len := 3) (cap := 3) (l := [ints [1, 2, 3], ints [4, 5, 6], ints [7, 8, 9]]) (T := 25) (l' := [.v (.slice (some ⟨t2, 0, none⟩) 3 3), .v (.slice (some ⟨p2, 0, none⟩) 3 3), .lst []]) (T' := 45) (by simp only [ne_eq, hN1, hN2, not_false_eq_true]) (by simp only [zae, ↓reduceIte, hN1, hN2]; try exact rfl) yR (by simp only [zae, ↓reduceIte, hN1, hN2]; try exact rfl) (by decide) (by decide) ?_
  simp only [setS, zbs, zcc, hN1, hN2, ↓reduceIte, zbb, zaz, List.map_cons, List.map_nil, Nat.reduceMul, Nat.reduceAdd]
  repeat' (first | (with_reducible first | refine zad yU yU yE ?_ | refine zab ?_ | refine DS.seq ?_ | refine zaa ?_ | (refine zbe yE ?_; refine zdd ?_) | refine DS.exit yU ?_) | (refine zdn yU yE yE ?_; simp only [go_sem, Nat.zero_add, Nat.reduceAdd]) | (refine DS.store yR yE yE yE yE yU (by exact ⟨by with_unfolding_all rfl, by (try simp only [List.length_map, List.length_append, List.length_set, List.length_replicate, List.length_cons, List.length_nil]); omega⟩) ?_; simp only [zbm, zao, zar, zcb, zbn, zbi, zbj]; try simp only [zap, zag, zah, Nat.reduceEqDiff, ↓reduceIte, zal, zam, zax, zak, zaj, zaq, zan]) | fail)
  simp only [setS, zbs, zcc, hN1, hN2, ↓reduceIte, zbb, zaz, List.map_cons, List.map_nil, Nat.reduceMul, Nat.reduceAdd]
  refine zeg (b := t0) V.peek (fun _ _ _ h => V.peek_Rl h) zcx (by simp only [zae, ↓reduceIte, hN1, hN2]; try exact rfl) ?_
  simp only [setS, zbs, zcc, hN1, hN2, ↓reduceIte, zbb, zaz, List.map_cons, List.map_nil, Nat.reduceMul, Nat.reduceAdd]
  refine zeg (b := t1) V.peek (fun _ _ _ h => V.peek_Rl h) zcx (by simp only [zae, ↓reduceIte, hN1, hN2]; try exact rfl) ?_
  simp only [setS, zbs, zcc, hN1, hN2, ↓reduceIte, zbb, zaz, List.map_cons, List.map_nil, Nat.reduceMul, Nat.reduceAdd]
  refine zeg (b := p2) V.peek (fun _ _ _ h => V.peek_Rl h) zcx (by simp only [zae, ↓reduceIte, hN1, hN2]; try exact rfl) ?_
  simp only [setS, zbs, zcc, hN1, hN2, ↓reduceIte, zbb, zaz, List.map_cons, List.map_nil, Nat.reduceMul, Nat.reduceAdd]
  refine zcn (b := t0) (b' := r0) (i := 0) (sz := 1) (len := 3) (cap := 3) (l := knT0.map fun t => ints t) (T := 25) (l' := [.v (.slice (some ⟨t0, 0, none⟩) 3 3), .lst (knP.map cR), .lst []]) (T' := 45) (by simp only [ne_eq, hN1, hN2, not_false_eq_true]) (by simp only [zae, ↓reduceIte, hN1, hN2]; try exact rfl) yR (by simp only [zae, ↓reduceIte, hN1, hN2]; try exact rfl) (by decide) (by decide) ?_
  simp only [setS, zbs, zcc, hN1, hN2, ↓reduceIte, zbb, zaz, List.map_cons, List.map_nil, Nat.reduceMul, Nat.reduceAdd]
  refine zcn (b := t1) (b' := r1) (i := 0) (sz := 1) (len := 3) (cap := 3) (l := knT1.map fun t => ints t) (T := 25) (l' := [.v (.slice (some ⟨t1, 0, none⟩) 3 3), .lst (knP.map cR), .lst []]) (T' := 45) (by simp only [ne_eq, hN1, hN2, not_false_eq_true]) (by simp only [zae, ↓reduceIte, hN1, hN2]; try exact rfl) yR (by simp only [zae, ↓reduceIte, hN1, hN2]; try exact rfl) (by decide) (by decide) ?_
  simp only [setS, zbs, zcc, hN1, hN2, ↓reduceIte, zbb, zaz, List.map_cons, List.map_nil, Nat.reduceMul, Nat.reduceAdd]
  refine zcn (b := p2) (b' := r2) (i := 1) (sz := 1) (len := 3) (cap := 3) (l := knP2.map fun t => ints t) (T := 25) (l' := [.lst (knT.map cR), .v (.slice (some ⟨p2, 0, none⟩) 3 3), .lst []]) (T' := 45) (by simp only [ne_eq, hN1, hN2, not_false_eq_true]) (by simp only [zae, ↓reduceIte, hN1, hN2]; try exact rfl) yR (by simp only [zae, ↓reduceIte, hN1, hN2]; try exact rfl) (by decide) (by decide) ?_
  simp only [setS, zbs, zcc, hN1, hN2, ↓reduceIte, zbb, zaz, List.map_cons, List.map_nil, Nat.reduceMul, Nat.reduceAdd]
  refine zcn (b := r0) (b' := b1) (i := 7) (sz := 3) (len := 1) (cap := 1) (l := [.lst (knT0.map cR), .lst (knP.map cR), .lst []]) (T := 45) (l' := [I 3, I 100, I (-50), I 1, ints [30, 0, -30], Bo true, .lst (shownC.members.map Member.cells), .v (.slice (some ⟨r0, 0, none⟩) 1 1), I 3, I 100, I (-50), I 1, ints [30, 0, -30], Bo true, .lst (shownC.members.map Member.cells), .v (.slice (some ⟨r1, 0, none⟩) 1 1), I 3, I 100, I (-50), I 1, ints [30, 0, -30], Bo true, .lst (shownC.members.map Member.cells), .v (.slice (some ⟨r2, 0, none⟩) 1 1)]) (T' := 52) (by simp only [ne_eq, hN1, hN2, not_false_eq_true]) (by simp only [zae, ↓reduceIte, hN1, hN2]; try exact rfl) yR (by simp only [zae, ↓reduceIte, hN1, hN2]; try exact rfl) (by decide) (by decide) ?_
  simp only [setS, zbs, zcc, hN1, hN2, ↓reduceIte, zbb, zaz, List.map_cons, List.map_nil, Nat.reduceMul, Nat.reduceAdd]
  refine zcn (b := r1) (b' := b1) (i := 15) (sz := 3) (len := 1) (cap := 1) (l := [.lst (knT1.map cR), .lst (knP.map cR), .lst []]) (T := 45) (l' := [I 3, I 100, I (-50), I 1, ints [30, 0, -30], Bo true, .lst (shownC.members.map Member.cells), .lst [[.lst (knT0.map cR), .lst (knP.map cR), .lst []]], I 3, I 100, I (-50), I 1, ints [30, 0, -30], Bo true, .lst (shownC.members.map Member.cells), .v (.slice (some ⟨r1, 0, none⟩) 1 1), I 3, I 100, I (-50), I 1, ints [30, 0, -30], Bo true, .lst (shownC.members.map Member.cells), .v (.slice (some ⟨r2, 0, none⟩) 1 1)]) (T' := 52) (by simp only [ne_eq, hN1, hN2, not_false_eq_true]) (by simp only [zae, ↓reduceIte, hN1, hN2]; try exact rfl) yR (by simp only [zae, ↓reduceIte, hN1, hN2]; try exact rfl) (by decide) (by decide) ?_
  simp only [setS, zbs, zcc, hN1, hN2, ↓reduceIte, zbb, zaz, List.map_cons, List.map_nil, Nat.reduceMul, Nat.reduceAdd]
  refine zcn (b := r2) (b' := b1) (i := 23) (sz := 3) (len := 1) (cap := 1) (l := [.lst (knT.map cR), .lst (knP2.map cR), .lst []]) (T := 45) (l' := [I 3, I 100, I (-50), I 1, ints [30, 0, -30], Bo true, .lst (shownC.members.map Member.cells), .lst [[.lst (knT0.map cR), .lst (knP.map cR), .lst []]], I 3, I 100, I (-50), I 1, ints [30, 0, -30], Bo true, .lst (shownC.members.map Member.cells), .lst [[.lst (knT1.map cR), .lst (knP.map cR), .lst []]], I 3, I 100, I (-50), I 1, ints [30, 0, -30], Bo true, .lst (shownC.members.map Member.cells), .v (.slice (some ⟨r2, 0, none⟩) 1 1)]) (T' := 52) (by simp only [ne_eq, hN1, hN2, not_false_eq_true]) (by simp only [zae, ↓reduceIte, hN1, hN2]; try exact rfl) yR (by simp only [zae, ↓reduceIte, hN1, hN2]; try exact rfl) (by decide) (by decide) ?_
  simp only [setS, zbs, zcc, hN1, hN2, ↓reduceIte, zbb, zaz, List.map_cons, List.map_nil, Nat.reduceMul, Nat.reduceAdd]
  refine zew (S' := [(b1, .cells [I 3, I 100, I (-50), I 1, ints [30, 0, -30], Bo true, .lst (shownC.members.map Member.cells), .lst [[.lst (knT0.map cR), .lst (knP.map cR), .lst []]], I 3, I 100, I (-50), I 1, ints [30, 0, -30], Bo true, .lst (shownC.members.map Member.cells), .lst [[.lst (knT1.map cR), .lst (knP.map cR), .lst []]], I 3, I 100, I (-50), I 1, ints [30, 0, -30], Bo true, .lst (shownC.members.map Member.cells), .lst [[.lst (knT.map cR), .lst (knP2.map cR), .lst []]]] 52)]) (fun d o e => by exact e) ?_
  clear hN1 hN2 hi
  have m1 := zmj shownC zcv zeh zfu [1, 2, 3] (by decide)
  rw [kn_next.1] at m1
  have m2 := zmj shownC zcv zeh zfu [1, 2, 4] (by decide)
  rw [kn_next.2.1] at m2
  have m3 := zmj shownC zcv zeh zfu [1, 2] (by decide)
  rw [kn_next.2.2] at m3
  generalize (zoq shownC [1, 2, 3]).1 = l1 at *
  generalize (zoq shownC [1, 2, 4]).1 = l2 at *
  generalize (zoq shownC [1, 2]).1 = l3 at *
  have c0 := zdr shownC zcv
  rw [kn_check.1] at c0
  have c1 := zdr (zjp knT0 knP []) (zgk _ _ _ (by decide) (by decide) (by decide) (by decide))
  rw [kn_check.2.1] at c1
  have c2 := zdr (zjp knT1 knP []) (zgk _ _ _ (by decide) (by decide) (by decide) (by decide))
  rw [kn_check.2.2.1] at c2
  have c3 := zdr (zjp knT knP2 []) (zgk _ _ _ (by decide) (by decide) (by decide) (by decide))
  rw [kn_check.2.2.2] at c3
  repeat' (first | (with_reducible first | refine zad yU yU yX4 ?_ | refine zab ?_ | refine DS.seq ?_ | refine zaa ?_ | (refine zdv yU yX4 ?_; refine GG.run ?_)) | (refine zdn yU yX4 yX4 ?_; simp only [go_sem, Nat.zero_add, Nat.reduceAdd]) | refine zav inferInstance (zir) yR yX26 ?_ | refine zav inferInstance (m1) yR yX26 ?_ | refine zav inferInstance (m2) yR yX26 ?_ | refine zav inferInstance (m3) yR yX26 ?_ | refine zav inferInstance (c0) yR yX26 ?_ | refine zav inferInstance (c1) yR yX26 ?_ | refine zav inferInstance (c2) yR yX26 ?_ | refine zav inferInstance (c3) yR yX26 ?_ | refine zat [] yX4 trivial ?_ | fail)
  rfl
end Go.XL
namespace Go.XL
open Go.Proofs
set_option maxRecDepth 100000
set_option maxHeartbeats 8000000
theorem zls (a b : List (List (List Int))) : PC Try.prog 19 [yfd a, yfd b] (Bo (decide (a = b))) := by
 refine DC.of_run Try.func19 rfl Try.ntmps19 Try.results19 (by simp) (fun _ => ?_); simp only [zaf, zai, go_sem, Nat.zero_add, Nat.reduceAdd]
 refine zhv (t := 0) yG (.inl rfl) (fun hb0 => ?_); simp only [List.length_map] at hb0
 repeat' (first | (with_reducible first | refine zad yU yU yE ?_ | refine zab ?_ | refine DS.seq ?_ | refine zaa ?_ | (refine zbe yE ?_; refine zgu (fun _ => ?_) (fun _ => ?_)) | refine DS.block ?_ | refine DS.skip ?_) | refine zat [] yE trivial ?_ | fail)
 ·rename_i h; have : a ≠ b := fun e => by subst e; exact h rfl
  simp [tupV, this]
 refine zcp [0, 1] yN (fun (i : Nat) => [(5, I i)]) (fun (i : Nat) => i ≤ a.length ∧ a.take i = b.take i) (fun (i : Nat) => a.length - i) 0 yS (by simp) (fun i B hI hB => ?_); try dsimp only at hI hB; simp only [zaw, zbg]
 repeat' (first | (with_reducible first | refine zad yU yU yE ?_ | refine zab ?_ | refine DS.seq ?_ | refine zaa ?_ | (refine zbe yE ?_; first | refine zgu (fun _ => ?_) (fun _ => ?_) | refine zeq (fun _ => ?_) (fun _ => ?_)) | refine DS.blk ?_ | refine DS.block ?_ | refine DS.exit yU ?_ | refine DS.skip ?_) | refine zav inferInstance (zlb _ _) yR yT ?_ | refine zcr (id := 6) [0, 1, 2, 3, 4, 5, 6, 7] 8 (by kernel_rfl) zei (by simp only [zbp, zbx, zby, zbz, zbo]; exact rfl) (by simp only [zbk, zbl, List.drop_nil]; exact rfl) ?_ | (with_reducible first | refine zcj yU yU yU yE ?_ | refine zdm ?_) | refine zat [] yE trivial ?_ | fail)
 ·rename_i h1 h2
  have : a ≠ b := fun e => h2 (by subst e; rfl)
  simp [tupV, this]
 ·rename_i h1 h2
  exact DS.back (hB (i + 1) _ _ (by omega) (⟨by omega, zhg hI.2 (by omega) (by omega) h2⟩) yS yS (fun b o e => by first | exact e | (simp only [zae]; split <;> simp_all)))
 ·rename_i h1
  have := zlk hI.2 (by omega) (by omega)
  simp [tupV, this]
end Go.XL
namespace Go.XL
open Go.Proofs
set_option maxRecDepth 100000
set_option maxHeartbeats 8000000
section
variable {P : Program} {n : Nat} {r : Rr} {Q : VEnv → Sto → Prop} {ops : List Oper} {S0 : Sto} {Mp : List MpE} {l : List Oper} {k : List Fr} {E0 E : VEnv} {S1 : Sto} {dst : Option Tmp} {ty : TypeId} {pos : String} {af : Array Edge}
theorem zww {T : TypeId} {p : Operand} {x : Value} (hlt : Go.XL.late ops.toArray ⟨dst, .load T p, ty, pos, af, none⟩ = true) (hd : dok n dst = true) (hv : dopV P (S1 ++ S0) (evV E) (.load T p) = some (.v x)) (q : DD P n r Q ops S0 Mp l k (putV E0 dst (.v x)) (putV E dst (.v x)) S1) :
  DD P n r Q ops S0 Mp (⟨dst, .load T p, ty, pos, af, none⟩ :: l) k E0 E S1 := fun K0 K D W hv0 hs a SPs hbx hfl hE hp hS0 hz hl hR => by
 have run : ∀ (w : World) (F : Nat → Prop), SPs F w.heap → Same W w → (execOp a.eval ⟨dst, .load T p, ty, pos, af, none⟩).run P w = .ok (.value x) w := fun w F hF hw => by
  obtain ⟨_, _, hv1, hold1, env1, ha1, s1, _⟩ := hR F w.heap hF
  obtain ⟨y, h2, h3⟩ := zge (S := S1 ++ S0) s1.pre (fun b o e => (s1.obj b o e).2.2.rd) s1.rl hv
  simp only [V.Rl] at h3
  subst h3
  exact zhn ha1 h2
 show SW P ops.toArray _ W _ (_ :: l) SPs a
 unfold SW Front
 rw [if_pos (by simp [Region.wanted]), if_neg (by simp [zct, zgl, zot])]
 refine ⟨x, .inr ⟨hlt, run⟩, ?_⟩
 refine q K0 K D W hv0 hs _ SPs hbx hfl (zlx hE hd V.Rl_v) hp hS0 hz hl fun F h1 hF => ?_
 obtain ⟨p1, p2, hv', hold, env', ha', s, p, f, g⟩ := hR F h1 hF
 exact ⟨p1, p2, hv', hold, _, ha'.put' hd x, s.put dst V.Rl_v fun _ _ => trivial, p, f, g⟩
end
theorem yX27 {p : Prop} (h : p := by (simp (disch := omega) only [go_sem, dopV, Option.map_some, Option.map_none, Option.bind_some, Option.bind_none, ↓reduceIte, Nat.reduceEqDiff, Nat.reduceLT, Nat.reduceLeDiff, Nat.reduceAdd, Nat.reduceMul, Nat.reduceSub, Nat.zero_add, Nat.add_zero, Nat.zero_le, Nat.zero_mul, Nat.mul_one, Nat.one_mul, Int.natCast_zero, Int.toNat_zero, Int.reduceToNat, Int.reduceLT, Int.reduceLE, Int.reduceEq, decide_true, decide_false, true_and, and_true, Bool.and_self, Bool.and_true, Bool.true_and, Bool.not_true, Bool.not_false, IntWalk.toNatUp, IntWalk.iteOmega, IntWalk.i64_in, Option.isSome_some, not_true_eq_false, not_false_eq_true, Option.getD_some, Option.getD_none, Int.toNat_natCast, List.length_map, List.getElem?_map, List.getElem?_eq_getElem, V.flat, V.one, List.all_cons, List.all_nil, *, Value.oneCell', List.forall_mem_map, implies_true, Member.len, zoe, zyg, zkf]; exact rfl)) : p := h
theorem yX28 {p : Prop} (h : p := by (simp (disch := omega) only [go_sem, dopV, Option.map_some, Option.map_none, Option.bind_some, Option.bind_none, ↓reduceIte, Nat.reduceEqDiff, Nat.reduceLT, Nat.reduceLeDiff, Nat.reduceAdd, Nat.reduceMul, Nat.reduceSub, Nat.zero_add, Nat.add_zero, Nat.zero_le, Nat.zero_mul, Nat.mul_one, Nat.one_mul, Int.natCast_zero, Int.toNat_zero, Int.reduceToNat, Int.reduceLT, Int.reduceLE, Int.reduceEq, decide_true, decide_false, true_and, and_true, Bool.and_self, Bool.and_true, Bool.true_and, Bool.not_true, Bool.not_false, IntWalk.toNatUp, IntWalk.iteOmega, IntWalk.i64_in, Option.isSome_some, not_true_eq_false, not_false_eq_true, Option.getD_some, Option.getD_none, Int.toNat_natCast, List.length_map, List.getElem?_map, List.getElem?_eq_getElem, V.flat, V.one, List.all_cons, List.all_nil, *, Value.oneCell', Club.cells_eq]; exact rfl)) : p := h
theorem yX29 {p : Prop} (h : p := by (simp (disch := omega) only [go_sem, dopV, Option.map_some, Option.map_none, Option.bind_some, Option.bind_none, ↓reduceIte, Nat.reduceEqDiff, Nat.reduceLT, Nat.reduceLeDiff, Nat.reduceAdd, Nat.reduceMul, Nat.reduceSub, Nat.zero_add, Nat.add_zero, Nat.zero_le, Nat.zero_mul, Nat.mul_one, Nat.one_mul, Int.natCast_zero, Int.toNat_zero, Int.reduceToNat, Int.reduceLT, Int.reduceLE, Int.reduceEq, decide_true, decide_false, true_and, and_true, Bool.and_self, Bool.and_true, Bool.true_and, Bool.not_true, Bool.not_false, IntWalk.toNatUp, IntWalk.iteOmega, IntWalk.i64_in, Option.isSome_some, not_true_eq_false, not_false_eq_true, Option.getD_some, Option.getD_none, Int.toNat_natCast, List.length_map, List.getElem?_map, List.getElem?_eq_getElem, V.flat, V.one, List.all_cons, List.all_nil, *, Value.oneCell', Club.cells_eq]; first | done | exact rfl)) : p := h
theorem yX30 {p : Prop} (h : p := by (simp (disch := omega) only [go_sem, dopV, Option.map_some, Option.map_none, Option.bind_some, Option.bind_none, ↓reduceIte, Nat.reduceEqDiff, Nat.reduceLT, Nat.reduceLeDiff, Nat.reduceAdd, Nat.reduceMul, Nat.reduceSub, Nat.zero_add, Nat.add_zero, Nat.zero_le, Nat.zero_mul, Nat.mul_one, Nat.one_mul, Int.natCast_zero, Int.toNat_zero, Int.reduceToNat, Int.reduceLT, Int.reduceLE, Int.reduceEq, decide_true, decide_false, true_and, and_true, Bool.and_self, Bool.and_true, Bool.true_and, Bool.not_true, Bool.not_false, IntWalk.toNatUp, IntWalk.iteOmega, IntWalk.i64_in, Option.isSome_some, not_true_eq_false, not_false_eq_true, Option.getD_some, Option.getD_none, Int.toNat_natCast, List.length_map, List.getElem?_map, List.getElem?_eq_getElem, V.flat, V.one, List.all_cons, List.all_nil, List.cons_append, List.nil_append, *]; exact rfl)) : p := h
theorem ybz : PC Try.prog 6 [] (Bo true) := by
 have p1 := zmi shownC zcv zeh zfu 2 100 (by unfold In64; omega)
 rw [ycp] at p1
 have p2 := zmi shownC zcv zeh zfu 2 5 (by unfold In64; omega)
 rw [ycn] at p2
 have p3 := zmi shownC zcv zeh zfu 3 100 (by unfold In64; omega)
 rw [yco] at p3
 have p4 := zmi fewC yae yfr yfs 1 9 (by unfold In64; omega)
 rw [ygu] at p4
 have s1 := zls [knA, knB] [knA, knB]
 rw [decide_eq_true rfl] at s1
 have s2 := zls [knA, knB, knC] [knA, knB, knC]
 rw [decide_eq_true rfl] at s2
 refine DC.of_run Try.func6 rfl Try.ntmps6 Try.results6 (by simp) (fun _ => ?_); simp only [zaf, zai, go_sem, Nat.zero_add, Nat.reduceAdd]
 repeat' (first | (with_reducible first | refine zad yU yU yX4 ?_ | refine zab ?_ | refine DS.seq ?_ | refine zaa ?_) | (refine zdn yU yX4 yX4 ?_; simp only [go_sem, Nat.zero_add, Nat.reduceAdd]) | fail)
 refine zav inferInstance zir yR yH ?_
 repeat' (first | (with_reducible first | refine zad yU yU yX4 ?_ | refine zab ?_ | refine DS.seq ?_ | refine zaa ?_) | refine zav inferInstance (p1) yR yX23 ?_ | fail)
 skip
 refine zav inferInstance zir yR yH ?_
 repeat' (first | (with_reducible first | refine zad yU yU yX4 ?_ | refine zab ?_ | refine DS.seq ?_ | refine zaa ?_) | refine zav inferInstance (p2) yR yX23 ?_ | fail)
 skip
 refine zav inferInstance zir yR yH ?_
 repeat' (first | (with_reducible first | refine zad yU yU yX4 ?_ | refine zab ?_ | refine DS.seq ?_ | refine zaa ?_) | refine zav inferInstance (p3) yR yX23 ?_ | fail)
 refine DS.call (dst := some 54) [] [] inferInstance zia yR yH (fun _ _ e => by cases e) (fun _ _ e => by cases e) ?_
 rintro v S0 ⟨r, t, p, ⟨n1, n2, n3⟩, rfl, rfl⟩ -
 have n1' : ¬ t = r := fun h => n1 h.symm
 have n2' : ¬ p = r := fun h => n2 h.symm
 have n3' : ¬ p = t := fun h => n3 h.symm
 simp only [zca, List.append_nil]
 skip
 refine zdl yR yU yU (fun b hb => ?_)
 have hb := zff hb
 simp only [zdq, zed, and_true] at hb
 obtain ⟨⟨n4', n4⟩, ⟨n5', n5⟩, n6', n6⟩ := hb
 have e0 : (Value.agg #[.int .i64 0, .int .i64 0, .int .i64 0, .int .i64 0, .slice none 0 0, .bool false, .slice none 0 0, .slice none 0 0]).cells.toList.map V.v = zjj := rfl
 rw [e0]
 clear e0
 have hm9 : shownC.members.length = 9 := rfl
 repeat' (first | (with_reducible first | refine zad yU yU yX27 ?_ | refine zab ?_ | refine DS.seq ?_ | refine zaa ?_) | (refine DS.store yR yX27 yX27 yX27 yX27 yU (by exact ⟨by with_unfolding_all rfl, by (try simp only [List.length_map, List.length_append, List.length_set, List.length_replicate, List.length_cons, List.length_nil]); omega⟩) ?_; simp only [zbm, zao, zar, zcb, zbn, zbi, zbj]; try simp only [zap, zag, zah, Nat.reduceEqDiff, ↓reduceIte, zal, zam, zax, zak, zaj, zaq, zan]) | fail)
 simp only [setS, zbs, zcc, n1, n2, n3, n4, n5, n6, n1', n2', n3', n4', n5', n6', ↓reduceIte, zjj, shW, zcd, zay, zao, zar, zbb, zaz, List.map_cons, List.map_nil, Nat.reduceMul, Nat.reduceAdd, Nat.zero_add]
 refine zew (S' := [(b, .cells [I 3, I 100, I (-50), I 1, ints [30, 0, -30], Bo true, .lst ((shownC.members.take 3).map Member.cells), .v (.slice (some ⟨r, 0, none⟩) 1 1)] 29), (r, .cells [.v (.slice (some ⟨t, 0, none⟩) 3 3), .v (.slice (some ⟨p, 0, none⟩) 3 3), .v (.slice none 0 0)] 45), shT t [ints [1, 2, 3], ints [4, 5, 6], ints [7, 8, 9]], shT p [ints [130, 100, 70], ints [120, 120, 60], .v (.slice none 0 0)]]) (fun d o e => by exact e) ?_
 refine zin (id := 7) ([(b, .cells [I 3, I 100, I (-50), I 1, ints [30, 0, -30], Bo true, .lst ((shownC.members.take 3).map Member.cells), .v (.slice (some ⟨r, 0, none⟩) 1 1)] 29), shT t [ints [1, 2, 3], ints [4, 5, 6], ints [7, 8, 9]], shT p [ints [130, 100, 70], ints [120, 120, 60], .v (.slice none 0 0)]]) ([(r, .cells [.v (.slice (some ⟨t, 0, none⟩) 3 3), .v (.slice (some ⟨p, 0, none⟩) 3 3), .v (.slice none 0 0)] 45)]) [0, 1, 2, 3, 4, 5, 6, 7, 8, 9, 10, 11, 12, 13, 14, 15, 16, 17, 18] 19 (by kernel_rfl) zei (by simp only [zbp, zbx, zby, zbz, zbo]; exact rfl) (by simp only [zbk, zbl, List.drop_nil]; exact rfl) (fun d o e => by
  simp only [zae, zfh] at e ⊢
  by_cases c1 : b = d
  ·subst c1; simp only [↓reduceIte, n4, n4'] at e ⊢; exact ⟨e, trivial⟩
  by_cases c2 : t = d
  ·subst c2; simp only [c1, ↓reduceIte, n1, n1'] at e ⊢; exact ⟨e, trivial⟩
  by_cases c3 : p = d
  ·subst c3; simp only [c1, c2, ↓reduceIte, n2, n2'] at e ⊢; exact ⟨e, trivial⟩
  simp only [c1, c2, c3, ↓reduceIte] at e; cases e) (fun d o e => by
  simp only [zae, zfh] at e ⊢
  by_cases c1 : r = d
  ·subst c1; simp only [↓reduceIte, n4, n4'] at e ⊢; exact e
  simp only [c1, ↓reduceIte] at e; cases e) ?_
 repeat' (first | with_reducible refine zcj yU yU yU yX4 ?_ | fail)
 refine zww yU yU yX30 ?_
 simp only [zca]
 repeat' (first | with_reducible refine zcj yU yU yU yX4 ?_ | fail)
 refine zww yU yU yX30 ?_
 simp only [zca]
 repeat' (first | with_reducible refine zcj yU yU yU yX4 ?_ | fail)
 refine DD.store yR yE yE yU (by simp only [zae, ↓reduceIte]; exact rfl) yR ⟨by with_unfolding_all rfl, by show 0 + 1 ≤ 3; decide⟩ (fun _ => by intro m hm; cases hm) ?_
 simp only [setS, ↓reduceIte, zao, zar, zcb, zaz, zbb, zbm]
 refine DD.nil ?_
 simp only [zaw, zbg]
 refine zad yU yU yE ?_
 refine zad yU yU yE ?_
 refine DS.store yR yE yE yE (by simp only [zae, ↓reduceIte]; exact rfl) yU ⟨by with_unfolding_all rfl, by show 1 + 1 ≤ 3; decide⟩ ?_
 simp only [setS, ↓reduceIte, zao, zar, zcb, zaz, zbb, zbm]
 refine zeg (b := p) V.peek (fun _ _ _ h => V.peek_Rl h) zcx (by simp only [zae, ↓reduceIte, n1, n2, n3, n4, n5, n6, n1', n2', n3', n4', n5', n6']; try exact rfl) ?_
 simp only [setS, zbs, zcc, n1, n2, n3, n4, n5, n6, n1', n2', n3', n4', n5', n6', ↓reduceIte, zbb, zaz, List.map_cons, List.map_nil, Nat.reduceMul, Nat.reduceAdd]
 refine zeg (b := r) V.peek (fun _ _ _ h => V.peek_Rl h) zcx (by simp only [zae, ↓reduceIte, n1, n2, n3, n4, n5, n6, n1', n2', n3', n4', n5', n6']; try exact rfl) ?_
 simp only [setS, zbs, zcc, n1, n2, n3, n4, n5, n6, n1', n2', n3', n4', n5', n6', ↓reduceIte, zbb, zaz, List.map_cons, List.map_nil, Nat.reduceMul, Nat.reduceAdd]
 refine zcn (b := p) (b' := r) (i := 1) (sz := 1) (len := 1) (cap := 3) (l := knP.map fun t => ints t) (T := 25) (l' := [.v (.slice (some ⟨t, 0, none⟩) 1 3), .v (.slice (some ⟨p, 0, none⟩) 1 3), .lst []]) (T' := 45) (by simp only [ne_eq, n1, n2, n3, n4, n5, n6, n1', n2', n3', n4', n5', n6', not_false_eq_true]) (by simp only [zae, ↓reduceIte, n1, n2, n3, n4, n5, n6, n1', n2', n3', n4', n5', n6']; try exact rfl) yR (by simp only [zae, ↓reduceIte, n1, n2, n3, n4, n5, n6, n1', n2', n3', n4', n5', n6']; try exact rfl) (by decide) (by decide) ?_
 simp only [setS, zbs, zcc, n1, n2, n3, n4, n5, n6, n1', n2', n3', n4', n5', n6', ↓reduceIte, zbb, zaz, List.map_cons, List.map_nil, Nat.reduceMul, Nat.reduceAdd]
 refine zcn (b := t) (b' := r) (i := 0) (sz := 1) (len := 1) (cap := 3) (l := knT.map fun t => ints t) (T := 25) (l' := [.v (.slice (some ⟨t, 0, none⟩) 1 3), .lst ([[130, 100, 70]].map cR), .lst []]) (T' := 45) (by simp only [ne_eq, n1, n2, n3, n4, n5, n6, n1', n2', n3', n4', n5', n6', not_false_eq_true]) (by simp only [zae, ↓reduceIte, n1, n2, n3, n4, n5, n6, n1', n2', n3', n4', n5', n6']; try exact rfl) yR (by simp only [zae, ↓reduceIte, n1, n2, n3, n4, n5, n6, n1', n2', n3', n4', n5', n6']; try exact rfl) (by decide) (by decide) ?_
 simp only [setS, zbs, zcc, n1, n2, n3, n4, n5, n6, n1', n2', n3', n4', n5', n6', ↓reduceIte, zbb, zaz, List.map_cons, List.map_nil, Nat.reduceMul, Nat.reduceAdd]
 refine zcn (b := r) (b' := b) (i := 7) (sz := 3) (len := 1) (cap := 1) (l := [.lst ([[1, 2, 3]].map cR), .lst ([[130, 100, 70]].map cR), .lst []]) (T := 45) (l' := [I 3, I 100, I (-50), I 1, ints [30, 0, -30], Bo true, .lst ((shownC.members.take 3).map Member.cells), .v (.slice (some ⟨r, 0, none⟩) 1 1)]) (T' := 29) (by simp only [ne_eq, n1, n2, n3, n4, n5, n6, n1', n2', n3', n4', n5', n6', not_false_eq_true]) (by simp only [zae, ↓reduceIte, n1, n2, n3, n4, n5, n6, n1', n2', n3', n4', n5', n6']; try exact rfl) yR (by simp only [zae, ↓reduceIte, n1, n2, n3, n4, n5, n6, n1', n2', n3', n4', n5', n6']; try exact rfl) (by decide) (by decide) ?_
 simp only [setS, zbs, zcc, n1, n2, n3, n4, n5, n6, n1', n2', n3', n4', n5', n6', ↓reduceIte, zbb, zaz, List.map_cons, List.map_nil, Nat.reduceMul, Nat.reduceAdd]
 refine zew (S' := [(b, .cells fewC.cells 29)]) (fun d o e => by exact e) ?_
 clear n1 n2 n3 n4 n5 n6 n1' n2' n3' n4' n5' n6' hm9
 repeat' (first | (with_reducible first | refine zad yU yU yX28 ?_ | refine zab ?_ | refine DS.seq ?_ | refine zaa ?_ | (refine zbe yX28 ?_; refine zdd ?_) | (refine zdv yU yX28 ?_; refine GG.run ?_) | refine DS.skip ?_) | (refine zdn yU yX28 yX28 ?_; simp only [go_sem, Nat.zero_add, Nat.reduceAdd]) | refine zav inferInstance (p4) yR yX29 ?_ | refine zav inferInstance (s1) yR yX29 ?_ | refine zav inferInstance (s2) yR yX29 ?_ | refine zat [] yX28 trivial ?_ | fail)
 rfl
end Go.XL
namespace Go.XL
open Go.Maps (Keyed)
open Go.ChangeMaps (setBlock)
section
variable {v0 : VH} {P : Program} {n : Nat} {r : Rr} {Q : VEnv → Sto → Prop} {k : List Fr} {E : VEnv} {S : Sto} {dst : Option Tmp} {ty : TypeId} {pos : String} {af : Array Edge} {ops l : List Oper}
theorem OpS.range {T kt e : TypeId} {mx : Operand} {b : Nat} {es : Array MapEntry} {clock : Nat} (ht : P.underlying T = some (.map kt e)) (h1 : evV E mx = some (.v (.map (some b)))) (hS : zac S b = some (.raw (.map es clock))) :
  OpS v0 P n ⟨dst, .range T mx, ty, pos, af, none⟩ E S (fun u E' S' => ∃ x, zac S x = none ∧ u = .v (.pointer (some ⟨x, 0, none⟩)) ∧ E' = E ∧ S' = (x, .raw (.mapIter (some b) clock #[] clock)) :: S) := by
 intro K1 D hv hold env a w hfl ha s
 obtain ⟨y1, a1, b1⟩ := s.rl _ _ h1
 simp only [V.Rl] at b1
 subst b1
 have hb : w.heap[b]? = some (.map es clock) := (s.obj b _ hS).2.2
 have hrun := run_range_map w T kt e b es clock ht hb
 refine zcq (y := .pointer (some ⟨w.heap.size, 0, none⟩)) (w' := w.alloc (.mapIter (some b) clock #[] clock)) (by simp [execOp, ha.ev a1, hrun, Result.andThen]) ⟨⟨rfl, rfl, rfl⟩, ?_⟩
 obtain ⟨s', hn⟩ := s.born (o := .raw (.mapIter (some b) clock #[] clock)) (x := .mapIter (some b) clock #[] clock) (by show (Array.push _ _)[_]? = _; exact Array.getElem?_push_size)
 exact ⟨.v (.pointer (some ⟨w.heap.size, 0, none⟩)), E, _, hv, hold, PreV.refl hv, s'.put dst V.Rl_v fun _ _ => trivial, _, hn, rfl, rfl, rfl⟩
def Nxt (b x : Nat) (es : Array MapEntry) (clock : Nat) (seen : Array Nat) (S : Sto) (u : V) (S' : Sto) : Prop :=
 ((∀ e ∈ es.toList, seen.contains e.born = true) ∧ u = .v (.tuple #[.bool false]) ∧ S' = S) ∨
 ∃ e ∈ es.toList, seen.contains e.born = false ∧ u = .v (.tuple #[.bool true, e.key, e.val]) ∧ S' = setS x (.raw (.mapIter (some b) clock (seen.push e.born) clock)) S
theorem OpS.next {it : Operand} {b x c0 : Nat} {es : Array MapEntry} {clock : Nat} {seen : Array Nat} (h1 : evV E it = some (.v (.pointer (some ⟨x, 0, none⟩)))) (hS : zac S b = some (.raw (.map es clock))) (hx : zac S x = some (.raw (.mapIter (some b) clock seen clock)))
  (hold : ∀ e ∈ es.toList, e.born < clock) :
  OpS v0 P n ⟨dst, .next it false, ty, pos, af, none⟩ E S (fun u E' S' => E' = E ∧ Nxt b x es clock seen S u S') := by
 intro K1 D hv hol env a w hfl ha s
 obtain ⟨y1, a1, b1⟩ := s.rl _ _ h1
 simp only [V.Rl] at b1
 subst b1
 have hb : w.heap[b]? = some (.map es clock) := (s.obj b _ hS).2.2
 have hr : w.heap[x]? = some (.mapIter (some b) clock seen clock) := (s.obj x _ hx).2.2
 rcases run_next_at (P := P) w ty x b clock clock seen es clock hr hb hold (Nat.le_refl _) with ⟨h0, hrun⟩ | ⟨e, he, w1, hal, hrun⟩
 ·refine zcq (w' := w) (by simp [execOp, ha.ev a1, hrun, Result.andThen]) ⟨Same.refl w, _, E, S, hv, hol, PreV.refl hv, s.put dst V.Rl_v fun _ _ => trivial, rfl, .inl ⟨fun e he => ?_, rfl, rfl⟩⟩
  cases hc : seen.contains e.born with
  | true => rfl
  | false =>
   have : e ∈ (leftOf es seen).toList := by unfold leftOf; simp only [Array.toList_filter, List.mem_filter]; exact ⟨he, by simp at hc ⊢; exact hc⟩
   have h2 : 0 < (leftOf es seen).toList.length := List.length_pos_of_mem this
   simp at h2; omega
 ·have hm : e ∈ es.toList ∧ seen.contains e.born = false := by
   unfold leftOf at he
   simp only [Array.toList_filter, List.mem_filter] at he
   exact ⟨he.1, by simpa using he.2⟩
  obtain ⟨-, s'⟩ := s.putObj (o' := .mapIter (some b) clock (seen.push e.born) clock) hx
  have hh : w1.heap = w.heap ∧ w1.os = w.os ∧ w1.tape = w.tape ∧ w1.output = w.output := by rcases hal with rfl | rfl <;> exact ⟨rfl, rfl, rfl, rfl⟩
  refine zcq (w' := setBlock w1 x (.mapIter (some b) clock (seen.push e.born) clock)) (by simp [execOp, ha.ev a1, hrun, Result.andThen]) ⟨⟨hh.2.1, hh.2.2.1, hh.2.2.2⟩, .v (.tuple #[.bool true, e.key, e.val]), E, _, hv, hol, PreV.refl hv, St.put (h := (setBlock w1 x _).heap) (by show St _ _ _ _ _ _ (w1.heap.setIfInBounds x _); rw [hh.1]; exact s') dst V.Rl_v fun _ _ => trivial, rfl, .inr ⟨e, hm.1, hm.2, rfl, rfl⟩⟩
theorem zuu {it : Operand} {b x : Nat} {es : Array MapEntry} {clock : Nat} {seen : Array Nat} {e : MapEntry} (h1 : evV E it = some (.v (.pointer (some ⟨x, 0, none⟩)))) (hS : zac S b = some (.raw (.map es clock))) (hx : zac S x = some (.raw (.mapIter (some b) clock (seen.push e.born) clock)))
  (he : e ∈ es.toList) (hn : (es.toList.map (·.born)).Nodup) :
  OpS v0 P n ⟨dst, .entry it, ty, pos, af, none⟩ E S (fun u E' S' => u = .v (.tuple #[e.key, e.val]) ∧ E' = E ∧ S' = S) := by
 intro K1 D hv hol env a w hfl ha s
 obtain ⟨y1, a1, b1⟩ := s.rl _ _ h1
 simp only [V.Rl] at b1
 subst b1
 have hb : w.heap[b]? = some (.map es clock) := (s.obj b _ hS).2.2
 have hr : w.heap[x]? = some (.mapIter (some b) clock (seen.push e.born) clock) := (s.obj x _ hx).2.2
 have hrun := run_entry_at (P := P) w x b clock seen es clock e hr hb he hn
 exact zcq (w' := w) (by simp [execOp, ha.ev a1, hrun, Result.andThen]) ⟨Same.refl w, _, E, S, hv, hol, PreV.refl hv, s.put dst V.Rl_v fun _ _ => trivial, rfl, rfl, rfl⟩
theorem DS.range {T kt e : TypeId} {mx : Operand} {b t : Nat} {es : Array MapEntry} {clock : Nat} (ht : P.underlying T = some (.map kt e)) (h1 : evV E mx = some (.v (.map (some b)))) (hS : zac S b = some (.raw (.map es clock))) (hd : dok n (some t) = true)
  (q : ∀ x, zac S x = none → DS P n r Q (.ops ops l :: k) ((t, .v (.pointer (some ⟨x, 0, none⟩))) :: E) ((x, .raw (.mapIter (some b) clock #[] clock)) :: S)) :
  DS P n r Q (.ops ops (⟨some t, .range T mx, ty, pos, af, none⟩ :: l) :: k) E S := by
 refine zcu rfl rfl hd (OpS.range ht h1 hS) fun u E' S' ⟨x, g1, h2, h3, h4⟩ => ?_
 subst h2; subst h3; subst h4; exact q x g1
theorem DS.next {it : Operand} {b x t : Nat} {es : Array MapEntry} {clock : Nat} {seen : Array Nat} (h1 : evV E it = some (.v (.pointer (some ⟨x, 0, none⟩)))) (hS : zac S b = some (.raw (.map es clock))) (hx : zac S x = some (.raw (.mapIter (some b) clock seen clock)))
  (hold : ∀ e ∈ es.toList, e.born < clock) (hd : dok n (some t) = true)
  (q1 : (∀ e ∈ es.toList, seen.contains e.born = true) → DS P n r Q (.ops ops l :: k) ((t, .v (.tuple #[.bool false])) :: E) S)
  (q2 : ∀ e ∈ es.toList, seen.contains e.born = false → DS P n r Q (.ops ops l :: k) ((t, .v (.tuple #[.bool true, e.key, e.val])) :: E) (setS x (.raw (.mapIter (some b) clock (seen.push e.born) clock)) S)) :
  DS P n r Q (.ops ops (⟨some t, .next it false, ty, pos, af, none⟩ :: l) :: k) E S := by
 refine zcu rfl rfl hd (OpS.next (c0 := clock) h1 hS hx hold) fun u E' S' ⟨h1, h2⟩ => ?_
 subst h1
 rcases h2 with ⟨a, b, c⟩ | ⟨e, a, b, c, d⟩
 ·subst b; subst c; exact q1 a
 ·subst c; subst d; exact q2 e a b
theorem zyd {it : Operand} {b x t : Nat} {es : Array MapEntry} {clock : Nat} {seen : Array Nat} {e : MapEntry} (h1 : evV E it = some (.v (.pointer (some ⟨x, 0, none⟩)))) (hS : zac S b = some (.raw (.map es clock))) (hx : zac S x = some (.raw (.mapIter (some b) clock (seen.push e.born) clock)))
  (he : e ∈ es.toList) (hn : (es.toList.map (·.born)).Nodup) (hd : dok n (some t) = true) (q : DS P n r Q (.ops ops l :: k) ((t, .v (.tuple #[e.key, e.val])) :: E) S) :
  DS P n r Q (.ops ops (⟨some t, .entry it, ty, pos, af, none⟩ :: l) :: k) E S := by
 refine zcu rfl rfl hd (zuu h1 hS hx he hn) fun u E' S' ⟨h1, h2, h3⟩ => ?_
 subst h1; subst h2; subst h3; exact q
end
end Go.XL
namespace Go.XL
open Go.Proofs
set_option maxRecDepth 100000
set_option maxHeartbeats 8000000
theorem yen {m : Nat} {x : Value} {l : List Lit} (h : Try.prog.keyLits (m + 1) 3 [x] = some l) : ∃ n, x = .int .i64 n ∧ In64 n := by
 have h4 : Try.prog.underlying 3 = some (.int .i64) := by with_unfolding_all rfl
 unfold Program.keyLits at h
 rw [h4] at h
 cases x with
 | int k n =>
  simp only at h
  split at h
  ·rename_i hw
   obtain ⟨rfl, hw⟩ := hw
   refine ⟨n, rfl, ?_⟩
   simp only [Lit.wf, Bool.and_eq_true, decide_eq_true_eq] at hw
   exact hw
  ·cases h
 | _ => simp at h
theorem ygv {key : Value} (h : zhx Try.prog 58 key) : ∃ a b, key = kA a b ∧ In64 a ∧ In64 b := by
 have h1 : Try.prog.underlying 58 = some (.array 2 3) := by with_unfolding_all rfl
 have h4 : Try.prog.underlying 3 = some (.int .i64) := by with_unfolding_all rfl
 have h5 : Try.prog.cellsOf 58 = 2 := by with_unfolding_all rfl
 have h6 : Try.prog.cellsOf 3 = 1 := by with_unfolding_all rfl
 obtain ⟨m, hm⟩ : ∃ m, Try.prog.types.size = m + 1 := ⟨Try.prog.types.size - 1, by with_unfolding_all rfl⟩
 obtain ⟨l, hl⟩ := h
 unfold keyOf at hl
 rw [h1] at hl
 simp only at hl
 split at hl
 ·rename_i hf
  rw [hm] at hl
  unfold Program.keyLits at hl
  rw [h1] at hl
  simp only [h5, h6] at hl
  have hfm : Value.formed Try.prog 58 key = true := by
   rw [Bool.and_eq_true] at hf; exact hf.2
  split at hl
  ·rename_i hlen
   have hkey : ∃ cs, key = .agg cs := by
    cases key <;> first | exact ⟨_, rfl⟩ | (simp [Value.formed, h1] at hfm; done)
   obtain ⟨cs, rfl⟩ := hkey
   obtain ⟨cl⟩ := cs
   have hcl : (Value.agg ⟨cl⟩).cells.toList = cl := rfl
   rw [hcl] at hlen hl
   match cl, hlen with
   | [x, y], _ =>
    have hr : List.range 2 = [0, 1] := rfl
    rw [hr] at hl
    simp only [List.mapM_cons, List.mapM_nil, Nat.zero_mul, Nat.one_mul, List.drop_zero, List.drop_succ_cons, List.take_succ_cons, List.take_zero] at hl
    cases e1 : Try.prog.keyLits (m + 1) 3 [x] with
    | none => rw [e1] at hl; cases hl
    | some l1 =>
     cases e2 : Try.prog.keyLits (m + 1) 3 [y] with
     | none => rw [e1, e2] at hl; cases hl
     | some l2 =>
      obtain ⟨a, rfl, ha⟩ := yen e1
      obtain ⟨b, rfl, hb⟩ := yen e2
      exact ⟨a, b, rfl, ha, hb⟩
  ·cases hl
 ·cases hl
section
variable {P : Program} {n : Nat} {r : Rr} {Q : VEnv → Sto → Prop} {k : List Fr} {E : VEnv} {S : Sto}
theorem ybb {t : Nat} {x y : Value} (hE : zch E t = some (.v (.agg #[x, y]))) (q : DS P n r Q k ((t, .agg [.v x, .v y]) :: E) S) : DS P n r Q k E S := fun K W a w ⟨K', D, hv, hold, env, hb, ha, s⟩ hw => by
 refine q K W a w ⟨K', D, hv, hold, env, hb, ha, ⟨s.pre, fun u v e => ?_, s.obj, s.held, s.base, s.vbase⟩⟩ hw
 rw [zah] at e
 split at e
 ·rename_i hu
  subst hu
  simp only [Option.some.injEq] at e; subst e
  obtain ⟨z, e1, e2, -⟩ := s.slot t _ hE
  refine ⟨z, e1, ?_, trivial⟩
  simp only [V.Rl] at e2 ⊢
  subst e2
  exact ⟨[x, y], rfl, by simp only [RlL]; exact ⟨x, [y], rfl, V.Rl_v, y, [], rfl, V.Rl_v, rfl⟩⟩
 ·exact s.slot u v e
end
section
variable {P : Program} {n : Nat} {r : Rr} {Q : VEnv → Sto → Prop} {ops : List Oper} {S0 : Sto} {Mp : List MpE} {l : List Oper} {k : List Fr} {E0 E : VEnv} {S1 : Sto} {dst : Option Tmp} {ty : TypeId} {pos : String} {af : Array Edge}
theorem zqw {hv : VH} : ∀ {cs ys : List Value}, RlL hv (cs.map V.v) ys → ys = cs
 | [], ys, h => by simpa only [List.map_nil, RlL] using h
 | c :: cs, ys, h => by
  simp only [List.map_cons, RlL] at h
  obtain ⟨z, zs, rfl, h2, h3⟩ := h
  simp only [V.Rl] at h2
  rw [zqw h3, h2]
theorem ygf {T T' : TypeId} {x y : Operand} {cs ds : List Value} {b : Bool} (hx : evV E x = some (.agg (cs.map V.v))) (hy : evV E y = some (.agg (ds.map V.v))) (hd : dok n dst = true)
  (hrun : ∀ w, (do eqGuard .eql T x y (.agg cs.toArray) (.agg ds.toArray); binOp .eql T (.agg cs.toArray) (.agg ds.toArray) : Sem Value).run P w = .ok (.bool b) w)
  (q : DD P n r Q ops S0 Mp l k (delO dst E0) (putV E dst (.v (.bool b))) S1) :
  DD P n r Q ops S0 Mp (⟨dst, .binOp .eql T x y T', ty, pos, af, none⟩ :: l) k E0 E S1 := fun K0 K D W hv0 hs a SPs hbx hfl hE hp hS0 hz hl hR => by
 obtain ⟨w1, hw1, hSP⟩ := hl
 have run : ∀ w : World, (execOp a.eval ⟨dst, .binOp .eql T x y T', ty, pos, af, none⟩).run P w = .ok (.value (.bool b)) w := fun w => by
  obtain ⟨_, _, hv1, hold1, env1, ha1, s1, _⟩ := hR noF w1.heap hSP
  obtain ⟨v1, e1, r1⟩ := s1.rl _ _ hx
  obtain ⟨v2, e2, r2⟩ := s1.rl _ _ hy
  simp only [V.Rl] at r1 r2
  obtain ⟨y1, rfl, r1⟩ := r1
  obtain ⟨y2, rfl, r2⟩ := r2
  obtain rfl := zqw r1
  obtain rfl := zqw r2
  have hb := hrun w
  simp only [execOp, ha1.ev e1, ha1.ev e2, Sem.run_bind] at hb ⊢
  simp only [hb, Result.andThen_ok, Sem.run_pure]
 show SW P ops.toArray _ W _ (_ :: l) SPs a
 unfold SW Front
 rw [if_pos (by simp [Region.wanted]), if_neg (by simp [zct, zgl, zot])]
 refine ⟨.bool b, .inl fun w' _ => run w', ?_⟩
 refine q K0 K D W hv0 hs _ SPs hbx hfl (zst hE hd _) hp hS0 hz ⟨w1, hw1, hSP⟩ fun F h1 hF => ?_
 obtain ⟨p1, p2, hv', hold, env', ha', s, p, f, g⟩ := hR F h1 hF
 exact ⟨p1, p2, hv', hold, _, ha'.put' hd _, s.put dst V.Rl_v fun _ _ => trivial, p, f, g⟩
end
def zug (es : List MapEntry) (seen : Array Nat) : Nat := (es.filter fun e => !seen.contains e.born).length
theorem zxp {es : List MapEntry} {seen : Array Nat} {e : MapEntry} (he : e ∈ es) (hs : seen.contains e.born = false) : zug es (seen.push e.born) < zug es seen := by
 have hsub : ∀ l : List MapEntry, zug l (seen.push e.born) ≤ zug l seen := fun l => by
  unfold zug
  induction l with
  | nil => exact Nat.le_refl _
  | cons a l ih =>
   rw [List.filter_cons, List.filter_cons]
   by_cases h1 : seen.contains a.born = true
   ·have h2 : (seen.push e.born).contains a.born = true := by simp at h1 ⊢; exact .inl h1
    rw [h1, h2]; exact ih
   ·have h1' : seen.contains a.born = false := by simpa using h1
    rw [h1']
    split
    ·simp only [Bool.not_false, if_true, List.length_cons]; omega
    ·simp only [Bool.not_false, if_true, List.length_cons]; omega
 induction es with
 | nil => cases he
 | cons a l ih =>
  unfold zug at ih hsub ⊢
  rw [List.filter_cons, List.filter_cons]
  rcases List.mem_cons.1 he with rfl | he
  ·have h2 : (seen.push e.born).contains e.born = true := by simp
   rw [h2, hs]
   have := hsub l
   simp only [Bool.not_true, Bool.false_eq_true, if_false, Bool.not_false, if_true, List.length_cons]; omega
  ·have h3 := ih he
   by_cases h1 : seen.contains a.born = true
   ·have h2 : (seen.push e.born).contains a.born = true := by simp at h1 ⊢; exact .inl h1
    rw [h1, h2]; exact h3
   ·have h1' : seen.contains a.born = false := by simpa using h1
    rw [h1']
    split
    ·simp only [Bool.not_false, if_true, List.length_cons]; omega
    ·simp only [Bool.not_false, if_true, List.length_cons]; omega
theorem yX31 {p : Prop} (h : p := by (simp (disch := omega) only [go_sem, dopV, Option.map_some, Option.map_none, Option.bind_some, Option.bind_none, ↓reduceIte, Nat.reduceEqDiff, Nat.reduceLT, Nat.reduceLeDiff, Nat.reduceAdd, Nat.reduceMul, Nat.reduceSub, Nat.zero_add, Nat.add_zero, Nat.zero_le, Nat.zero_mul, Nat.mul_one, Nat.one_mul, Int.natCast_zero, Int.toNat_zero, Int.reduceToNat, Int.reduceLT, Int.reduceLE, Int.reduceEq, decide_true, decide_false, true_and, and_true, Bool.and_self, Bool.and_true, Bool.true_and, Bool.not_true, Bool.not_false, IntWalk.toNatUp, IntWalk.iteOmega, IntWalk.i64_in, Option.isSome_some, not_true_eq_false, not_false_eq_true, Option.getD_some, Option.getD_none, Int.toNat_natCast, List.length_map, List.getElem?_map, List.getElem?_eq_getElem, V.flat, V.one, List.all_cons, List.all_nil, kA]; try exact rfl)) : p := h
theorem ydq (c : Club) (hs : c.Small) (hc : ztg c) (h0 : zcm c = 0) (hm : ∀ a b, metS c a b ≤ 1) : PC Try.prog 7 [c.val] (tupV [I 0, I 0, Bo true]) := by
 have hck := zdr c hs
 rw [h0] at hck
 refine DC.of_run Try.func7 rfl Try.ntmps7 Try.results7 (by simp) (fun _ => ?_); simp only [zaf, zai, go_sem, Nat.zero_add, Nat.reduceAdd]
 repeat' (first | (with_reducible first | refine zad yU yU yE ?_ | refine zab ?_ | refine DS.seq ?_ | refine zaa ?_ | (refine zbe yE ?_; refine zdd ?_) | refine DS.skip ?_) | refine zav inferInstance (hck) yR yT ?_ | (refine zci (t := 1) yU yE yU ?_; simp only [zbh, zcg, zbf, zbv, zbc, zau, zbq, zay, zcd, zcf, zbr, zce, zbu, zbt]) | fail)
 refine zdl yR yU yU (fun b5 h5 => ?_)
 clear h5
 repeat' (first | (with_reducible first | refine zad yU yU yE ?_ | refine zab ?_ | refine DS.seq ?_ | refine zaa ?_) | fail)
 have e0 : (Value.agg #[.int .i64 0, .int .i64 0]).cells.toList.map V.v = [I 0, I 0] := rfl
 rw [e0]
 clear e0
 refine DS.call (dst := some 12) [] [(b5, .cells [I 0, I 0] 58)] inferInstance (zjx c hs hc) yR yH (fun _ _ e => by cases e) (fun _ _ e => ⟨e, rfl⟩) ?_
 rintro v S0 ⟨m, rfl, hw⟩ hdis
 obtain ⟨f, es, clock, m1, m2, m3⟩ := hw.out
 have nm : ¬ m = b5 := fun h => by have := hdis m _ m1; rw [zae, if_pos h.symm] at this; cases this
 have nm' : ¬ b5 = m := fun h => nm h.symm
 simp only [zca]
 refine zre hdis ?_
 refine zew (S' := [(m, .raw (.map es clock)), (b5, .cells [I 0, I 0] 58)]) (zkj ⟨by rw [List.cons_append, List.nil_append, zae, if_neg nm']; exact m1, by rw [List.cons_append, zae, if_pos rfl], trivial⟩) ?_
 have hval : ∀ e ∈ es.toList, ∃ a b n, e.key = kA a b ∧ e.val = .int .i64 n ∧ ¬ 1 < n := fun e he => by
  obtain ⟨a, b, hk, ha, hb⟩ := ygv (m2.keys e he)
  have h1 := m3 a b ha hb
  rw [← hk, m2.hit e he, Option.getD_some, zmk hs h0] at h1
  refine ⟨a, b, _, hk, h1, ?_⟩
  have := hm a b
  split <;> omega
 have hold := m2.old
 have hnd := m2.nodup
 clear m1 m2 m3 hw hdis hck hm
 refine DS.range yU yG (by simp only [zae, ↓reduceIte]; exact rfl) yR (fun x hx => ?_)
 have hx := zff hx
 simp only [zdq, zed, and_true] at hx
 obtain ⟨⟨x1, x1'⟩, x2, x2'⟩ := hx
 repeat' (first | (with_reducible first | refine zab ?_ | refine DS.block ?_) | fail)
 refine zda [5, 13] yN (fun (seen : Array Nat) => []) (fun (seen : Array Nat) => [(x, .raw (.mapIter (some m) clock seen clock)), (m, .raw (.map es clock)), (b5, .cells [I 0, I 0] 58)]) (fun (seen : Array Nat) => True) (fun (seen : Array Nat) => zug es.toList seen) #[] yS (fun b o e => by exact e) trivial (fun seen B hI hB => ?_); try dsimp only at hI hB; simp only [zaw, zbg]
 clear hI
 repeat' (first | (with_reducible first | refine DS.seq ?_ | refine zaa ?_) | fail)
 refine DS.next (b := m) (x := x) yH (by simp only [zae, x1, x1', ↓reduceIte]; try exact rfl) (by simp only [zae, ↓reduceIte]; try exact rfl) hold yR (fun _ => ?_) (fun e he hs2 => ?_)
 ·clear hB
  repeat' (first | (with_reducible first | refine zad yU yU yE ?_ | refine zab ?_ | refine DS.seq ?_ | (refine zbe yE ?_; refine zdd ?_) | refine DS.exit yU ?_) | refine zcr (id := 9) [0, 1, 2, 3, 4, 5, 6, 7, 8] 9 (by kernel_rfl) zei (by simp only [zbp, zbx, zby, zbz, zbo]; exact rfl) (by simp only [zbk, zbl, List.drop_nil]; exact rfl) ?_ | with_reducible refine zcj yU yU yU yE ?_ | fail)
  refine ygf (cs := [.int .i64 0, .int .i64 0]) (ds := [.int .i64 0, .int .i64 0]) (b := true) yH yH yR (fun w => by with_unfolding_all rfl) ?_
  simp only [zca]
  repeat' (first | (with_reducible first | refine zad yU yU yE ?_ | refine zab ?_ | refine zcj yU yU yU yE ?_ | refine zdm ?_) | fail)
  refine zat [] yG trivial ?_
  rfl
 ·obtain ⟨a, b, n, k1, k2, k3⟩ := hval e he
  simp only [setS, ↓reduceIte]
  repeat' (first | (with_reducible first | refine zad yU yU yE ?_ | refine zab ?_ | refine DS.seq ?_ | refine zaa ?_ | (refine zbe yE ?_; refine zcy ?_) | refine DS.block ?_ | refine DS.skip ?_) | fail)
  refine zyd (b := m) (x := x) (e := e) yH (by simp only [zae, x1, x1', ↓reduceIte]; try exact rfl) (by simp only [zae, ↓reduceIte]; try exact rfl) he hnd yR ?_
  rw [k1, k2]
  have hlt := zxp he hs2
  repeat' (first | with_reducible refine zad yU yU yE ?_ | fail)
  refine ybb (t := 17) (x := .int .i64 a) (y := .int .i64 b) yX31 ?_
  refine zdl yR yU yU (fun b6 h6 => ?_)
  have h6 := zff h6
  simp only [zdq, zed, and_true] at h6
  repeat' (first | (with_reducible first | refine zad yU yU yE ?_ | refine zab ?_ | refine DS.seq ?_ | (refine zbe yE ?_; refine zdd ?_) | (refine zdv yU yE ?_; first | refine yeb ?_ | refine zkb ?_) | refine DS.blk ?_ | refine DS.skip ?_) | (refine DS.store yR yE yE yE yE yU (by exact ⟨by with_unfolding_all rfl, by (try simp only [List.length_map, List.length_append, List.length_set, List.length_replicate, List.length_cons, List.length_nil]); omega⟩) ?_; simp only [zbm, zao, zar, zcb, zbn, zbi, zbj]; try simp only [zap, zag, zah, Nat.reduceEqDiff, ↓reduceIte, zal, zam, zax, zak, zaj, zaq, zan]) | refine zcr (id := 7) [0, 1, 2, 3, 4, 5, 6, 7, 8] 9 (by kernel_rfl) zei (by simp only [zbp, zbx, zby, zbz, zbo]; exact rfl) (by simp only [zbk, zbl, List.drop_nil]; exact rfl) ?_ | (with_reducible first | refine zcj yU yU yU yE ?_ | (refine zvb yU yE ?_; first | refine yeq ?_ | refine zto ?_) | refine zdm ?_) | fail)
  refine DS.back (hB (seen.push e.born) _ _ hlt trivial trivial yS (fun d o eq => ?_))
  simp only [setS, ↓reduceIte, zae, zfh] at eq ⊢
  by_cases c1 : b6 = d
  ·subst c1
   simp only [h6.1.1, h6.2.1.1, h6.2.2.1, ↓reduceIte] at eq
   cases eq
  ·rw [if_neg c1]; exact eq
end Go.XL
namespace Go.XL
open Go.Proofs
set_option maxRecDepth 100000
set_option maxHeartbeats 8000000
open Classical in
theorem yaz {v0 : VH} {P : Program} {n : Nat} {E : VEnv} {S : Sto} {dst : Option Tmp} {ty : TypeId} {pos : String} {af : Array Edge} {ts : Array TypeId} {g : FuncId} {xs : Array Operand} {fn : Func} {S1 S2 : Sto} {R : V → Sto → Prop} {pre l B : List V} {b len cap sz T : Nat} {cl : List (List V)}
  (hf : FnOk P g fn) (he : evsV (evV E) xs.toList = some (.agg (pre ++ [.v (.slice (some ⟨b, 0, none⟩) len cap)]) :: B)) (hc : DCh v0 P g (.agg (pre ++ [.lst cl]) :: B.map V.peek) S1 R)
  (hS : zac S b = some (.cells l T)) (hfree : ∀ v ∈ l, v.free = true) (hlen : cl.length = len) (hsz : ∀ c ∈ cl, c.length = sz) (hflat : cl.flatten = (l.take (len * sz)).map V.peek) (hcap : len ≤ cap ∧ cap ≤ maxLen)
  (h1 : ∀ j o, zac S1 j = some o → zac (delS b S) j = some o) (h2 : ∀ j o, zac S2 j = some o → zac (delS b S) j = some o ∧ zac S1 j = none)
  (hsR : ∀ v S', R v S' → Safe b (l.take (len * sz)) v ∧ v.free = true ∧ ∀ j c T', zac S' j = some (.cells c T') → ∀ v ∈ c, Safe b (l.take (len * sz)) v)
  (hs2 : ∀ j c T', zac S2 j = some (.cells c T') → ∀ v ∈ c, Safe b (l.take (len * sz)) v) :
  OpS v0 P n ⟨dst, .call { callee := .value (.func g), args := xs, argTypes := ts }, ty, pos, af, none⟩ E S (fun v E' S' => E' = E ∧ ∃ S0, S' = (b, .cells l T) :: (S0 ++ S2) ∧ R v S0 ∧ (∀ j o, zac S0 j = some o → zac S2 j = none ∧ j ≠ b)) := by
 intro K D hv hold env a w hfl ha s
 obtain ⟨ax, e5, e6⟩ := zgd s.rl he
 obtain ⟨o1, o2, cs, o3, o4, o5, o6⟩ := s.obj b _ hS
 have hpre : PreV hv (addB hv b (.cells (cs.take (len * sz)).toArray T (0, 0))) := zjg (.inl o2)
 have hlt := (Array.getElem?_eq_some_iff.1 o3).1
 have s1 : St ⟨fun j => K.B j ∨ j = b, w.heap, addB hv b (.cells (cs.take (len * sz)).toArray T (0, 0))⟩ (addB hv b (.cells (cs.take (len * sz)).toArray T (0, 0))) (fun g => if g = b then none else hold g) E (delS b S) env w.heap := by
  refine ⟨zla s.pre o3 ⟨(cs.drop (len * sz)).toArray, by rw [List.append_toArray, List.take_append_drop]⟩, fun t v e => ?_, fun b' o e => ?_, fun g x e => ?_, ⟨fun j hj => ?_, Nat.le_refl _, fun _ _ => rfl⟩, PreV.refl _, fun _ _ => rfl⟩
  ·obtain ⟨y, q1, q2, q3⟩ := s.slot t v e
   refine ⟨y, q1, V.Rl_mono hpre v y q2, q3.keep fun g ob a1 a2 a3 => ?_⟩
   have hne : g ≠ b := fun e => by subst e; rw [o2] at a2; cases a2
   exact ⟨rfl, zef _ hne, by simp [hne, a1]⟩
  ·rw [zbw] at e
   split at e
   ·cases e
   ·rename_i hb
    obtain ⟨r1, r2, r3⟩ := s.obj b' o e
    refine ⟨fun h => h.elim r1 hb, by rw [zef _ hb]; exact r2, Ob.keep r3 hpre rfl fun g i ob a1 a2 a3 => ?_⟩
    have hne : g ≠ b := fun e => by subst e; rw [o2] at a2; cases a2
    exact ⟨rfl, zef _ hne, by simp [hne, a1]⟩
  ·have e' : (if g = b then none else hold g) = some x := e
   split at e'
   ·cases e'
   ·rename_i hne
    exact fun h => h.elim (s.held g x e') hne
  ·rcases hj with hj | rfl
   ·exact Nat.lt_of_lt_of_le (s.base.1 j hj) s.base.2.1
   ·exact hlt
 obtain ⟨K', hcl, s2, back⟩ := s1.call h1 h2
 obtain ⟨y1, ys, rfl, a3, a4⟩ := e6.cons
 have hargs : RlL (addB hv b (.cells (cs.take (len * sz)).toArray T (0, 0))) (.agg (pre ++ [.lst cl]) :: B.map V.peek) (y1 :: ys) := by
  simp only [V.Rl] at a3
  obtain ⟨zs, rfl, a6⟩ := a3
  have hz := a6.length
  have a7 := a6.take pre.length
  have a8 := a6.drop pre.length
  rw [List.take_left' rfl] at a7
  rw [List.drop_left' rfl] at a8
  obtain ⟨z, zs', e1, a9, a10⟩ := a8.cons
  have a11 : zs' = [] := by simpa only [RlL] using a10
  subst a11
  simp only [V.Rl] at a9; subst a9
  have hzs : zs = zs.take pre.length ++ [.slice (some ⟨b, 0, none⟩) len cap] := by rw [← e1, List.take_append_drop]
  have hC : RlC (addB hv b (.cells (cs.take (len * sz)).toArray T (0, 0))) (some ⟨b, 0, none⟩) 0 ((l.take (len * sz)).map V.peek) := zka (T := T) (f := (0, 0)) (cs := cs.take (len * sz)) (i := 0) ⟨#[], by simp [addB]⟩ rfl (zgp (zde hpre _ _ (o4.take _))) (fun u hu => o5 u (List.mem_of_mem_take hu))
  have hlst : (V.lst cl).Rl (addB hv b (.cells (cs.take (len * sz)).toArray T (0, 0))) (.slice (some ⟨b, 0, none⟩) len cap) := by
   simp only [V.Rl]
   refine ⟨_, cap, sz, by rw [hlen], by rw [hlen]; exact hcap.1, hcap.2, hsz, RlE.of_flat ?_⟩
   rw [hflat]
   exact hC
  simp only [RlL]
  refine ⟨_, ys, rfl, ?_, zgp (zde hpre _ _ a4)⟩
  simp only [V.Rl]
  refine ⟨zs, rfl, ?_⟩
  rw [hzs]
  refine (zde hpre _ _ a7).app ?_
  simp only [RlL]
  exact ⟨_, _, rfl, hlst, rfl⟩
 have hfl' : PreV v0 (addB hv b (.cells (cs.take (len * sz)).toArray T (0, 0))) := hfl.trans hpre
 refine zmn (fs := []) (cs := []) (args := y1 :: ys) ha hf rfl e5 ?_
 refine (hc K' _ hcl w.heap _ hfl' (by simpa using hargs) s2 w rfl).mono fun e w' ⟨v, ev, hs, u, S', hv', hold', p1, p2, p3⟩ => ?_
 obtain ⟨hold2, q1, q2⟩ := back (d := dst) p1 p2
 obtain ⟨g1, g2, g3⟩ := hsR u S' p3
 have hb1 : hv' b = some (.cells (cs.take (len * sz)).toArray T (0, 0)) := by rw [q1.vbase.2 b (.inr rfl)]; exact zfk ..
 have hb2 : w'.heap[b]? = some (.cells cs.toArray T (0, 0)) := by rw [q1.base.2.2 b (.inr rfl)]; exact o3
 have m1 : PreV hv (fun j => if j = b then none else hv' j) := fun j o e => by
  have hne : j ≠ b := fun e1 => by subst e1; rw [o2] at e; cases e
  obtain ⟨o', r1, r2⟩ := (hpre.trans p1) j o e
  exact ⟨o', by simp [hne, r1], r2⟩
 have th : Th b (l.take (len * sz)) hv' (fun j => if j = b then none else hv' j) := ⟨⟨cs.take (len * sz), T, hb1, zde (hpre.trans p1) _ _ (o4.take _)⟩, fun j hj => by simp [hj]⟩
 have kO : ∀ {x : Hd} {u : V} {z : Value}, Own hv' w'.heap hold2 x u z → Own (fun j => if j = b then none else hv' j) w'.heap hold2 x u z := fun ho =>
  ho.keep fun g ob a1 a2 a3 => by
   have hne : g ≠ b := fun e1 => q1.held g _ a1 (.inr e1)
   exact ⟨rfl, by simp [hne], a1⟩
 refine ⟨v, ev, hs, u, E, _, _, hold2, m1, ⟨fun j o e => ?_, fun t x e => ?_, fun j o e => ?_, fun g x e h => q1.held g x e (.inl h), ⟨s.base.1, Nat.le_trans s.base.2.1 q1.base.2.1, fun j hj => (q1.base.2.2 j (.inl hj)).trans (s.base.2.2 j hj)⟩, s.vbase.1.trans m1, fun j hj => ?_⟩, rfl, S', rfl, p3, fun j o e => ⟨q2 j o e, fun e1 => ?_⟩⟩
 ·have e' : (if j = b then none else hv' j) = some o := e
  split at e'
  ·cases e'
  ·exact q1.pre j o e'
 ·obtain ⟨y, r1, r2, r3⟩ := q1.slot t x e
  refine ⟨y, r1, ?_, kO r3⟩
  have old : ∀ {t x y}, zch E t = some x → XL.look env t = some y → x.Rl (fun j => if j = b then none else hv' j) y := fun {t x y} e1 e2 => by
   obtain ⟨y', f1, f2, _⟩ := s.slot t x e1
   rw [f1] at e2; cases e2
   exact V.Rl_mono m1 _ _ f2
  cases dst with
  | none => exact old e r1
  | some d =>
   simp only [putV, zch] at e
   simp only [XL.put, XL.look] at r1
   by_cases hd : d = t
   ·simp only [hd, if_true, Option.some.injEq] at e
    subst e
    exact g1 _ _ th _ r2
   ·rw [if_neg hd] at e r1
    exact old e r1
 ·simp only [zac] at e
  split at e
  ·rename_i hj; subst hj
   simp only [Option.some.injEq] at e; subst e
   exact ⟨o1, by simp, cs, hb2, zde m1 _ _ o4, o5, fun i c u hc hu => V.free_Own (hfree c (List.mem_of_getElem? hc)) u⟩
  ·rename_i hj
   obtain ⟨r1, r2, r3⟩ := q1.obj j o e
   have hj' : j ≠ b := fun h => hj h.symm
   refine ⟨fun h => r1 (.inl h), by simp only [hj', if_false]; exact r2, ?_⟩
   cases o with
   | raw o => exact r3
   | cells c T' =>
    obtain ⟨cs', u1, u2, u3, u4⟩ := r3
    have hsafe : ∀ v ∈ c, Safe b (l.take (len * sz)) v := by
     rw [zba] at e
     cases e1 : zac S' j with
     | some o' => rw [e1] at e; simp only [Option.some.injEq] at e; subst e; exact g3 j c T' e1
     | none => rw [e1] at e; exact hs2 j c T' e
    exact ⟨cs', u1, Safe.list th hsafe u2, u3, fun i c u hc hu => kO (u4 i c u hc hu)⟩
 ·have hne : j ≠ b := fun e => by subst e; exact o1 hj
  simp only [hne, if_false]
  exact (q1.vbase.2 j (.inl hj)).trans ((zef _ hne).trans (s.vbase.2 j hj))
 ·subst e1
  have := (p2.obj j o e).2.1
  rw [hb1] at this; cases this
theorem zrd {P : Program} {n : Nat} {r : Rr} {Q : VEnv → Sto → Prop} {k : List Fr} {E : VEnv} {S : Sto} {t : Nat} {ty : TypeId} {pos : String} {af : Array Edge} {ts : Array TypeId} {g : FuncId} {xs : Array Operand} {fn : Func} {ops l : List Oper} (S1 S2 : Sto) {R : V → Sto → Prop} {pre cs B : List V} {b len cap sz T : Nat} {cl : List (List V)}
  (hf : FnOk P g fn) (hd : decide (t < n) = true) (he : evsV (evV E) xs.toList = some (.agg (pre ++ [.v (.slice (some ⟨b, 0, none⟩) len cap)]) :: B)) (hc : DC P g (.agg (pre ++ [.lst cl]) :: B.map V.peek) S1 R)
  (hS : zac S b = some (.cells cs T)) (hfree : ∀ v ∈ cs, v.free = true) (hlen : cl.length = len) (hsz : ∀ c ∈ cl, c.length = sz) (hflat : cl.flatten = (cs.take (len * sz)).map V.peek) (hcap : len ≤ cap ∧ cap ≤ maxLen)
  (h1 : ∀ j o, zac S1 j = some o → zac (delS b S) j = some o) (h2 : ∀ j o, zac S2 j = some o → zac (delS b S) j = some o ∧ zac S1 j = none)
  (hsR : ∀ v S', R v S' → Safe b (cs.take (len * sz)) v ∧ v.free = true ∧ ∀ j c T', zac S' j = some (.cells c T') → ∀ v ∈ c, Safe b (cs.take (len * sz)) v)
  (hs2 : ∀ j c T', zac S2 j = some (.cells c T') → ∀ v ∈ c, Safe b (cs.take (len * sz)) v)
  (q : ∀ v S0, R v S0 → (∀ j o, zac S0 j = some o → zac S2 j = none ∧ j ≠ b) → DS P n r Q (.ops ops l :: k) ((t, v) :: E) ((b, .cells cs T) :: (S0 ++ S2))) :
  DS P n r Q (.ops ops (⟨some t, .call { callee := .value (.func g), args := xs, argTypes := ts }, ty, pos, af, none⟩ :: l) :: k) E S := by
 refine zcu rfl rfl hd (yaz hf he (hc _) hS hfree hlen hsz hflat hcap h1 h2 hsR hs2) fun v E' S' ⟨eE, S0, eS, hR, hdis⟩ => ?_
 subst eE; subst eS
 exact q v S0 hR hdis
end Go.XL
namespace Go.XL
open Go.Proofs
set_option maxRecDepth 100000
set_option maxHeartbeats 8000000
theorem DC.noS {P : Program} {g : FuncId} {args : List V} {v : V} (h : PC P g args v) : DC P g args [] (fun u S' => u = v ∧ S' = []) := by
 intro v0 K hv hold hp xs hx ha s
 refine (h v0 K hv hold hp xs hx ha s).mono ?_
 rintro y h' ⟨u, S', hv', hold', p, st, e⟩
 obtain rfl : u = v := e
 exact ⟨u, [], hv', hold', p, st.weaken (fun _ _ e => e) (fun _ _ e => by cases e), rfl, rfl⟩
theorem Safe.tup {b : Nat} {l c : List V} (h : ∀ v ∈ c, Safe b l v) : Safe b l (.tup c) := fun _ _ t _ e => by
 simp only [V.Rl] at e ⊢
 obtain ⟨ys, rfl, e2⟩ := e
 exact ⟨ys, rfl, Safe.list t h e2⟩
theorem zzt (a b c d e f : Int) : PC Try.prog 12 [.lst [[I a], [I b], [I c]], .lst [[I d], [I e], [I f]]] (Bo (decide ([a, b, c] = [d, e, f]))) := zne [a, b, c] [d, e, f]
theorem zui {b : Nat} {l : List V} (hl : ∀ v ∈ l, SlV v) (L : List Int) (n : Int) : ∀ v S', v = tupV [ints L, I n] ∧ S' = ([] : Sto) → Safe b l v ∧ v.free = true ∧ ∀ j c T', zac S' j = some (.cells c T') → ∀ v ∈ c, Safe b l v := by
 rintro v S' ⟨rfl, rfl⟩
 refine ⟨Safe.tup fun v hv => ?_, rfl, fun _ _ _ e => by cases e⟩
 rcases List.mem_cons.1 hv with rfl | hv
 ·exact Safe.ints hl L
 ·obtain rfl := List.mem_singleton.1 hv
  exact Safe.v _
theorem yfi {T P R : List (List V)} {n : Nat} : ∀ v ∈ [V.lst T, .lst P, .lst R].take n, SlV v := by
 intro v hv
 have hv := List.mem_of_mem_take hv
 simp only [List.mem_cons, List.not_mem_nil, or_false] at hv
 rcases hv with rfl | rfl | rfl <;> exact .inl ⟨_, rfl⟩
theorem yfj (a b : Int) : metS shownC a b ≤ 1 := by
 show metT a b [[1, 2, 3], [4, 5, 6], [7, 8, 9]] + 0 ≤ 1
 simp only [metT, List.mem_cons, List.not_mem_nil, or_false]
 repeat' split
 all_goals omega
theorem yX32 {p : Prop} (h : p := by (simp (disch := omega) only [go_sem, dopV, Option.map_some, Option.map_none, Option.bind_some, Option.bind_none, ↓reduceIte, Nat.reduceEqDiff, Nat.reduceLT, Nat.reduceLeDiff, Nat.reduceAdd, Nat.reduceMul, Nat.reduceSub, Nat.zero_add, Nat.add_zero, Nat.zero_le, Nat.zero_mul, Nat.mul_one, Nat.one_mul, Int.natCast_zero, Int.toNat_zero, Int.reduceToNat, Int.reduceLT, Int.reduceLE, Int.reduceEq, decide_true, decide_false, true_and, and_true, Bool.and_self, Bool.and_true, Bool.true_and, Bool.not_true, Bool.not_false, IntWalk.toNatUp, IntWalk.iteOmega, IntWalk.i64_in, Option.isSome_some, not_true_eq_false, not_false_eq_true, Option.getD_some, Option.getD_none, Int.toNat_natCast, List.length_map, List.getElem?_map, List.getElem?_eq_getElem, V.flat, V.one, List.all_cons, List.all_nil, *, Value.oneCell', List.length_cons, List.length_nil]; exact rfl)) : p := h
theorem yX33 {p : Prop} (h : p := by (simp (disch := omega) only [go_sem, dopV, Option.map_some, Option.map_none, Option.bind_some, Option.bind_none, ↓reduceIte, Nat.reduceEqDiff, Nat.reduceLT, Nat.reduceLeDiff, Nat.reduceAdd, Nat.reduceMul, Nat.reduceSub, Nat.zero_add, Nat.add_zero, Nat.zero_le, Nat.zero_mul, Nat.mul_one, Nat.one_mul, Int.natCast_zero, Int.toNat_zero, Int.reduceToNat, Int.reduceLT, Int.reduceLE, Int.reduceEq, decide_true, decide_false, true_and, and_true, Bool.and_self, Bool.and_true, Bool.true_and, Bool.not_true, Bool.not_false, IntWalk.toNatUp, IntWalk.iteOmega, IntWalk.i64_in, Option.isSome_some, not_true_eq_false, not_false_eq_true, Option.getD_some, Option.getD_none, Int.toNat_natCast, List.length_map, List.getElem?_map, List.getElem?_eq_getElem, V.flat, V.one, List.all_cons, List.all_nil, *, Value.oneCell', List.length_cons, List.length_nil]; try exact rfl)) : p := h
theorem zsy : PC Try.prog 3 [] (Bo true) := by
 have hc := kn_check.1
 have f0 := ydq shownC zcv zeh hc yfj
 have st := zym shownC zcv (by decide) (zrq (by decide)) hc (by decide)
 obtain ⟨k1, k2, k3⟩ := ycm
 have kl : (zlo shownC).length = 9 := by have := congrArg List.length k1; simpa using this
 have m1 := zzk shownC zcv zeh 1 4 (by unfold In64; omega) (by unfold In64; omega)
 rw [ygt] at m1
 generalize zlo shownC = R at *
 match R, kl with
 | [r0, r1, r2, r3, r4, r5, r6, r7, r8], _ =>
  simp only [List.map_cons, List.map_nil, List.cons.injEq, and_true] at k1 k2 k3
  have h9 : ((9 : Nat) : Int) = 9 := rfl
  refine DC.of_run Try.func3 rfl Try.ntmps3 Try.results3 (by simp) (fun _ => ?_); simp only [zaf, zai, go_sem, Nat.zero_add, Nat.reduceAdd]
  repeat' (first | (with_reducible first | refine zad yU yU yX32 ?_ | refine zab ?_ | refine DS.seq ?_ | refine zaa ?_ | (refine zbe yX32 ?_; refine zdd ?_) | (refine zdv yU yX32 ?_; refine GG.run ?_) | refine DS.block ?_ | refine DS.skip ?_) | (refine zdn yU yX32 yX32 ?_; simp only [go_sem, Nat.zero_add, Nat.reduceAdd]) | refine zav inferInstance (ydx) yR yX33 ?_ | refine zav inferInstance (yaf) yR yX33 ?_ | refine zav inferInstance (ybz) yR yX33 ?_ | refine zav inferInstance (zir) yR yX33 ?_ | refine zav inferInstance (f0) yR yX33 ?_ | refine zav inferInstance (st) yR yX33 ?_ | refine zav inferInstance (m1) yR yX33 ?_ | fail)
  all_goals first | (exfalso; omega) | skip
  refine zcp [4, 6, 7, 8] yN (fun (i : Nat) => [(9, I i)]) (fun (i : Nat) => i ≤ 9) (fun (i : Nat) => 9 - i) 0 yS (Nat.zero_le _) (fun i B hI hB => ?_); try dsimp only at hI hB; simp only [zaw, zbg]
  by_cases hi : (i : Int) < 9
  ·have hi9 : i = 0 ∨ i = 1 ∨ i = 2 ∨ i = 3 ∨ i = 4 ∨ i = 5 ∨ i = 6 ∨ i = 7 ∨ i = 8 := by omega
   have HB := Box.mk hB
   clear hB f0 st m1 hI
   rcases hi9 with rfl | rfl | rfl | rfl | rfl | rfl | rfl | rfl | rfl
   all_goals repeat' (first | (with_reducible first | refine zad yU yU yE ?_ | refine zab ?_ | refine DS.seq ?_ | refine zaa ?_ | (refine zbe yE ?_; first | refine zcy ?_ | refine zdd ?_) | (refine zdv yU yE ?_; refine GG.run ?_) | refine DS.blk ?_ | refine DS.block ?_ | refine DS.skip ?_) | refine zcr (id := 11) [0, 1, 2, 3, 4, 5, 6, 7, 8, 9, 10, 11, 12, 13, 14, 15, 16, 17, 18, 19, 20, 21, 22, 23, 24, 25, 26, 27, 28, 29, 30, 31] 32 (by kernel_rfl) zei (by simp only [zbp, zbx, zby, zbz, zbo]; exact rfl) (by simp only [zbk, zbl, List.drop_nil]; exact rfl) ?_ | (with_reducible first | refine zcj yU yU yU yE ?_ | (refine zvb yU yE ?_; refine DGG.run ?_) | refine zdm ?_) | fail)
   all_goals first | (refine DS.back (HB.out 1 _ _ (by omega) (by omega) ⟨rfl, trivial⟩ yS (fun d o e => by exact e)); done) | (refine DS.back (HB.out 2 _ _ (by omega) (by omega) ⟨rfl, trivial⟩ yS (fun d o e => by exact e)); done) | (refine DS.back (HB.out 3 _ _ (by omega) (by omega) ⟨rfl, trivial⟩ yS (fun d o e => by exact e)); done) | (refine DS.back (HB.out 4 _ _ (by omega) (by omega) ⟨rfl, trivial⟩ yS (fun d o e => by exact e)); done) | (refine DS.back (HB.out 5 _ _ (by omega) (by omega) ⟨rfl, trivial⟩ yS (fun d o e => by exact e)); done) | (refine DS.back (HB.out 6 _ _ (by omega) (by omega) ⟨rfl, trivial⟩ yS (fun d o e => by exact e)); done) | (refine DS.back (HB.out 7 _ _ (by omega) (by omega) ⟨rfl, trivial⟩ yS (fun d o e => by exact e)); done) | (refine DS.back (HB.out 8 _ _ (by omega) (by omega) ⟨rfl, trivial⟩ yS (fun d o e => by exact e)); done) | (refine DS.back (HB.out 9 _ _ (by omega) (by omega) ⟨rfl, trivial⟩ yS (fun d o e => by exact e)); done)
  ·clear hB hI k1 k2 k3 f0 st
   repeat' (first | (with_reducible first | refine zad yU yU yE ?_ | refine zab ?_ | refine DS.seq ?_ | refine zaa ?_ | (refine zbe yE ?_; refine zdd ?_) | refine DS.exit yU ?_) | fail)
   refine DS.call (dst := some 95) [] [] inferInstance zia yR yH (fun _ _ e => by cases e) (fun _ _ e => by cases e) ?_
   rintro v S0 ⟨r, t, p, ⟨n1, n2, n3⟩, rfl, rfl⟩ -
   have n1' : ¬ t = r := fun h => n1 h.symm
   have n2' : ¬ p = r := fun h => n2 h.symm
   have n3' : ¬ p = t := fun h => n3 h.symm
   simp only [zca, List.append_nil]
   repeat' (first | (with_reducible first | refine zad yU yU yE ?_ | refine zab ?_ | refine DS.seq ?_ | refine zaa ?_) | (refine zgt (t := 10) yU yE yU (fun _ => yE) yE yU (by exact ⟨by with_unfolding_all rfl, by with_unfolding_all decide⟩) (fun _ => by simp only [go_sem, Nat.reduceEqDiff, ↓reduceIte]) ?_; simp only [go_sem]) | fail)
   refine zeg (b := p) V.peek (fun _ _ _ h => V.peek_Rl h) zcx (by simp only [zae, ↓reduceIte, n1, n2, n3, n1', n2', n3']; try exact rfl) ?_
   simp only [setS, zbs, zcc, n1, n2, n3, n1', n2', n3', ↓reduceIte, zcd, zay, zao, zar, zbb, zaz, List.map_cons, List.map_nil, V.peek, Nat.reduceMul, Nat.reduceAdd, Nat.zero_add]
   refine zeg (b := r) V.peek (fun _ _ _ h => V.peek_Rl h) zcx (by simp only [zae, ↓reduceIte, n1, n2, n3, n1', n2', n3']; try exact rfl) ?_
   simp only [setS, zbs, zcc, n1, n2, n3, n1', n2', n3', ↓reduceIte, zcd, zay, zao, zar, zbb, zaz, List.map_cons, List.map_nil, V.peek, Nat.reduceMul, Nat.reduceAdd, Nat.zero_add]
   refine zcn (b := p) (b' := r) (i := 1) (sz := 1) (len := 3) (cap := 3) (l := knP.map fun t => ints t) (T := 25) (l' := [.v (.slice (some ⟨t, 0, none⟩) 3 3), .v (.slice (some ⟨p, 0, none⟩) 3 3), .lst []]) (T' := 45) (by simp only [ne_eq, n1, n2, n3, n1', n2', n3', not_false_eq_true]) (by simp only [zae, ↓reduceIte, n1, n2, n3, n1', n2', n3']; try exact rfl) yR (by simp only [zae, ↓reduceIte, n1, n2, n3, n1', n2', n3']; try exact rfl) (by decide) (by decide) ?_
   simp only [setS, zbs, zcc, n1, n2, n3, n1', n2', n3', ↓reduceIte, zcd, zay, zao, zar, zbb, zaz, List.map_cons, List.map_nil, V.peek, Nat.reduceMul, Nat.reduceAdd, Nat.zero_add]
   refine zcn (b := t) (b' := r) (i := 0) (sz := 1) (len := 3) (cap := 3) (l := knT.map fun t => ints t) (T := 25) (l' := [.v (.slice (some ⟨t, 0, none⟩) 3 3), .lst (knP.map cR), .lst []]) (T' := 45) (by simp only [ne_eq, n1, n2, n3, n1', n2', n3', not_false_eq_true]) (by simp only [zae, ↓reduceIte, n1, n2, n3, n1', n2', n3']; try exact rfl) yR (by simp only [zae, ↓reduceIte, n1, n2, n3, n1', n2', n3']; try exact rfl) (by decide) (by decide) ?_
   simp only [setS, zbs, zcc, n1, n2, n3, n1', n2', n3', ↓reduceIte, zcd, zay, zao, zar, zbb, zaz, List.map_cons, List.map_nil, V.peek, Nat.reduceMul, Nat.reduceAdd, Nat.zero_add]
   refine zew (S' := [(r, .cells [.lst (knT.map cR), .lst (knP.map cR), .lst []] 45)]) (fun d o e => by exact e) ?_
   have c0 := zkc shownC zcv 0 0
   have c2 := zkc shownC zcv 0 2
   have c3 := zkc (zjp knT knP knR) (zgk _ _ _ (by decide) (by decide) (by decide) (by decide)) 0 0
   rw [kn_counted.1] at c0
   rw [kn_counted.2.1] at c2
   rw [kn_counted.2.2] at c3
   refine zrd (t := 98) [] [] (B := [I 0, I 0]) (pre := [I 3, I 100, I (-50), I 1, ints [30, 0, -30], Bo true, .lst (shownC.members.map Member.cells)]) (cs := [.lst (knT.map cR), .lst (knP.map cR), .lst []]) (b := r) (len := 1) (cap := 1) (sz := 3) (T := 45) (cl := shownC.rounds.map Sitting.cells) inferInstance yR yH (DC.noS c0) (by simp only [zae, ↓reduceIte]) (by decide) (by decide) (by decide) yR (by decide) (fun _ _ e => by cases e) (fun _ _ e => by cases e) (zui yfi _ _) (fun _ _ _ e => by cases e) ?_
   rintro v S0 ⟨rfl, rfl⟩ -
   simp only [List.nil_append]
   repeat' (first | (with_reducible first | refine zad yU yU yE ?_ | refine zab ?_ | refine DS.seq ?_ | refine zaa ?_) | fail)
   refine zrd (t := 103) [] [] (B := [I 0, I 2]) (pre := [I 3, I 100, I (-50), I 1, ints [30, 0, -30], Bo true, .lst (shownC.members.map Member.cells)]) (cs := [.lst (knT.map cR), .lst (knP.map cR), .lst []]) (b := r) (len := 1) (cap := 1) (sz := 3) (T := 45) (cl := shownC.rounds.map Sitting.cells) inferInstance yR yH (DC.noS c2) (by simp only [zae, ↓reduceIte]) (by decide) (by decide) (by decide) yR (by decide) (fun _ _ e => by cases e) (fun _ _ e => by cases e) (zui yfi _ _) (fun _ _ _ e => by cases e) ?_
   rintro v S0 ⟨rfl, rfl⟩ -
   simp only [List.nil_append]
   repeat' (first | (with_reducible first | refine zad yU yU yE ?_ | refine zab ?_ | refine DS.seq ?_ | refine zaa ?_) | (refine zdn yU yE yE ?_; simp only [go_sem, Nat.zero_add, Nat.reduceAdd]) | (refine DS.store yR yE yE yE yE yU (by exact ⟨by with_unfolding_all rfl, by (try simp only [List.length_map, List.length_append, List.length_set, List.length_replicate, List.length_cons, List.length_nil]); omega⟩) ?_; simp only [zbm, zao, zar, zcb, zbn, zbi, zbj]; try simp only [zap, zag, zah, Nat.reduceEqDiff, ↓reduceIte, zal, zam, zax, zak, zaj, zaq, zan]) | fail)
   simp only [setS, zbs, zcc, ↓reduceIte, zcd, zay, List.map_cons, List.map_nil, V.peek, Nat.reduceMul, Nat.reduceAdd, Nat.zero_add, List.set_cons_succ, List.set_cons_zero]
   refine zeg (b := r) V.peek (fun _ _ _ h => V.peek_Rl h) zcx (by simp only [zae, ↓reduceIte]; try exact rfl) ?_
   simp only [setS, zbs, zcc, ↓reduceIte, zcd, zay, List.map_cons, List.map_nil, V.peek, Nat.reduceMul, Nat.reduceAdd, Nat.zero_add, List.set_cons_succ, List.set_cons_zero]
   refine zrd (t := 115) [] [] (B := [I 0, I 0]) (pre := [I 3, I 100, I (-50), I 1, ints [30, 0, -30], Bo true, .lst (shownC.members.map Member.cells)]) (cs := [.lst (knT.map cR), .lst (knP.map cR), .lst (knR.map Ruling.cells)]) (b := r) (len := 1) (cap := 1) (sz := 3) (T := 45) (cl := (zjp knT knP knR).rounds.map Sitting.cells) inferInstance yR yH (DC.noS c3) (by simp only [zae, ↓reduceIte]; rfl) (by decide) (by decide) (by decide) yR (by decide) (fun _ _ e => by cases e) (fun _ _ e => by cases e) (zui yfi _ _) (fun _ _ _ e => by cases e) ?_
   rintro v S0 ⟨rfl, rfl⟩ -
   simp only [List.nil_append]
   have s1 := zmv [120, 120, 60] [30, 0, -30] 100 false (by decide) (by decide) (by unfold B40; decide) (by unfold B40; decide) (by unfold B40; decide)
   rw [zzs] at s1
   repeat' (first | (with_reducible first | refine zad yU yU yX4 ?_ | refine zab ?_ | refine DS.seq ?_ | refine zaa ?_ | (refine zdv yU yX4 ?_; refine GG.run ?_)) | (refine zdn yU yX4 yX4 ?_; simp only [go_sem, Nat.zero_add, Nat.reduceAdd]) | fail)
   refine yec (dst := some 131) inferInstance (zzt 130 100 70 130 100 70) yR yH ?_
   simp only [zca, decide_true]
   repeat' (first | (with_reducible first | refine zad yU yU yX4 ?_ | (refine zdv yU yX4 ?_; refine GG.run ?_)) | (refine zdn yU yX4 yX4 ?_; simp only [go_sem, Nat.zero_add, Nat.reduceAdd]) | fail)
   refine yec (dst := some 136) inferInstance (zzt 100 100 100 100 100 100) yR yH ?_
   simp only [zca, decide_true]
   repeat' (first | (with_reducible first | refine zad yU yU yX4 ?_ | (refine zdv yU yX4 ?_; refine GG.run ?_)) | (refine zdn yU yX4 yX4 ?_; simp only [go_sem, Nat.zero_add, Nat.reduceAdd]) | refine zav inferInstance (s1) yR yX23 ?_ | fail)
   refine yec (dst := some 143) inferInstance (zzt 50 20 (-70) 50 20 (-70)) yR yH ?_
   simp only [zca, decide_true]
   repeat' (first | (with_reducible first | refine zad yU yU yX4 ?_ | refine zab ?_) | fail)
   exact zcl yG rfl
end Go.XL
namespace Go.XL
open Go.Proofs Go.ChangeShapes Go.WideShapes Go.ChangeAt Go.RowKit
def hvW (W : World) : VH := fun b => W.heap[b]?
def yhc (W : World) : Bs := ⟨fun b => b < W.heap.size, W.heap, hvW W⟩
theorem stW (W : World) : St (yhc W) (hvW W) (fun _ => none) [] [] [] W.heap where
 pre := fun b o e => ⟨o, e, leO.refl o⟩
 slot := fun t v e => by cases e
 obj := fun b o e => by cases e
 held := fun g x e => by cases e
 base := ⟨fun b h => h, Nat.le_refl _, fun b _ => rfl⟩
 vbase := ⟨PreV.refl _, fun _ _ => rfl⟩
structure KeptW (W W' : World) : Prop where
 os : W'.os = W.os
 output : W'.output = W.output
 size : W.heap.size ≤ W'.heap.size
 old : ∀ b, b < W.heap.size → W'.heap[b]? = W.heap[b]?
theorem PC.door {P : Program} {f : FuncId} {vs : List V} {xs : List Value} (h : PC P f vs (.v (.bool true))) (W : World) (hx : RlL (hvW W) vs xs) :
  Calls P f xs.toArray W fun e w' => e = .returned (.bool true) ∧ KeptW W w' := by
 refine (h (hvW W) (yhc W) (hvW W) (fun _ => none) W.heap xs (PreV.refl _) hx (stW W) W rfl).mono fun e w' => ?_
 rintro ⟨y, rfl, ⟨s1, s2, s3⟩, v, S', hv', hold', -, st, rfl⟩
 obtain ⟨z, h1, h2, -⟩ := st.slot 0 (.v (.bool true)) rfl
 simp only [V.Rl] at h2
 subst h2
 have h3 : look [(0, y)] 0 = some y := by simp [look]
 rw [h3] at h1
 cases h1
 exact ⟨rfl, s1, s3, st.base.2.1, st.base.2.2⟩
theorem KeptW.keptBut {W W' : World} (k : KeptW W W') (may : MemPlace → Prop) : W.keptBut W' may := by
 refine ⟨k.os, k.output, fun i hi => ?_⟩
 rw [k.old i hi]
 generalize W.heap[i]? = o
 cases o with
 | none => trivial
 | some o => cases o <;> simp
theorem KeptW.cell {W W' : World} (k : KeptW W W') {a : Addr} (h : a.block < W.heap.size) : W'.cell? a = W.cell? a := by
 unfold World.cell?
 rw [k.old _ h]
theorem KeptW.sameAt {W W' : World} (k : KeptW W W') {p : MemPlace} (h : p.block < W.heap.size) : W.sameAt W' p := by
 cases p with
 | cell b off => exact k.cell h
 | map b => exact k.old _ h
section
variable {H : Type} {enc : TypeId × Value → H} {P : Program}
theorem zke (hl : laidOutB P = true) {W W' : World} {sp : Nat → Bool} : ∀ {ts : List TypeId} {vs : List Value} {ds : List (DataW H)} {ps : List MemPlace}, (∀ t ∈ ts, P.readableRec t = true ∧ t < P.types.size) →
  DataW.TrodAll enc P W 0 (fun _ => true) true ts vs ds ps → (∀ p ∈ ps, W.sameAt W' p) → (∀ p ∈ ps, sp p.block = true) → DataW.TrodAll enc P W' 0 sp true ts vs ds ps
 | [], vs, ds, ps, _, h, _, _ => by
  obtain ⟨rfl, rfl, rfl⟩ := trodAll_nil h
  rfl
 | t :: ts, vs, ds, ps, ht, h, h1, h2 => by
  obtain ⟨v, vs', d, ds', p, q, rfl, rfl, rfl, h3, h4⟩ := trodAll_cons h
  obtain ⟨r1, r2⟩ := ht t (List.mem_cons_self ..)
  exact ⟨p, q, WideElems.Trod_stays hl r1 r2 h3 (fun x hx => h1 x (List.mem_append_left _ hx)) (fun x hx => h2 x (List.mem_append_left _ hx)),
   zke hl (fun t h => ht t (List.mem_cons_of_mem _ h)) h4 (fun x hx => h1 x (List.mem_append_right _ hx)) (fun x hx => h2 x (List.mem_append_right _ hx)), rfl⟩
theorem ybx {f : Func} {s : ChangeSpec} {apart fresh handsOn : Bool} {W W' : World} {args : Array Value} {ds gs : List (DataW H)} {before : List MemPlace} {tb : TypeId}
  (hW : DataW.Whole enc P f.params.toList s.vars apart W args.toList ds gs before) (hv : s.vars = []) (hs : s.fn H ds = { results := [.lit (.bool true)], args := ds })
  (hrt : f.resultTypes = #[tb]) (hb : P.underlying tb = some .bool) (hl : laidOutB P = true) (hr : ∀ t ∈ f.params.toList, P.readableRec t = true ∧ t < P.types.size) (k : KeptW W W') :
  s.post enc P f apart fresh handsOn false W args (.bool true) W' := by
 have hlt := fun p hp => hW.lt (p := p) hp
 have hW' := hW
 obtain ⟨p, q, hA, hV, rfl, -, -⟩ := hW
 rw [hv] at hV
 obtain ⟨rfl, rfl⟩ := trodVars_none hV
 refine ⟨ds, [], p ++ [], [], p, [], hW', ?_, ?_, ?_, k.keptBut _, fun h => by cases h⟩
 ·rw [List.append_nil, hs, hrt]
  exact trodAll_mk1 (shut_bool hb _)
 ·rw [List.append_nil, hs]
  exact zke hl hr hA (fun x hx => k.sameAt (hlt x (by simpa using hx))) (fun x hx => by simpa using hlt x (by simpa using hx))
 ·rw [List.append_nil, hs, hv]
  rfl
variable {W : World} {t e : TypeId}
theorem RlL.len {hv : VH} : ∀ {vs : List V} {cs : List Value}, RlL hv vs cs → vs.length = cs.length
 | [], _, h => by simp only [RlL] at h; subst h; rfl
 | v :: vs, cs, h => by
  simp only [RlL] at h
  obtain ⟨z, zs, rfl, -, h⟩ := h
  simp [RlL.len h]
theorem RlL.one {hv : VH} {v : V} {y : Value} (h : v.Rl hv y) : RlL hv [v] [y] := by
 simp only [RlL]; exact ⟨y, [], rfl, h, rfl⟩
end
end Go.XL
namespace Go.Proofs.Ytlcigmnkfilebaa
open Go.XL Go.ChangeShapes Go.WideShapes Go.ChangeAt Go.RowKit
theorem own : ownKnob Try.prog.godebug = none := by kernel_rfl
theorem laid : laidOutB Try.prog = true := by kernel_rfl
set_option maxRecDepth 100000 in
theorem zme (os : Os) (started : os.Started) (H : Type) (enc : TypeId × Value → H) :
  ReturnsInHanded {} Try.checked os 3 .any (Rows.clubKnownSpec.pre6 enc Try.prog Try.f3 Rows.clubKnownRow.domain false) (Rows.clubKnownSpec.post enc Try.prog Try.f3 false true false false) := by
 refine returnsInHanded_of_change (C := Try.checked) own started (by kernel_rfl) Try.func3
  (ChangeSpec.witness6 (enc := enc) (C := Try.checked) false ⟨#[], #[], []⟩ 8 (by kernel_rfl) (by kernel_rfl) (by kernel_rfl) (by kernel_rfl)) ?_
 intro W base args ds gs before hval0 hW hcnd _
 have hW' := hW
 obtain ⟨p, q, hA, -, -, -, -⟩ := hW'
 have hval : ∀ (j : Nat) t v, Try.f3.params[j]? = some t → args[j]? = some v → Value.okWide Try.prog W .any base t v := hval0
 have hA1 : DataW.TrodAll enc Try.prog W 0 (fun _ => true) true Try.f3.params.toList args.toList ds p := hA
 rw [Try.params3] at hA1 hval
 obtain ⟨ha, rfl, -⟩ := trodAll_nil hA1
 obtain rfl : args = #[] := by cases args; simp_all
 refine (PC.door zsy W (xs := []) rfl).mono fun e W' ⟨he, k⟩ => ⟨_, he, ?_⟩
 exact ybx hW rfl rfl rfl Try.underlying4 laid (by rw [show Try.f3.params = _ from Try.params3]; intro t ht; simp only [List.mem_cons, List.not_mem_nil, or_false] at ht) k
theorem clubKnown_holds : Rows.ClubKnownSaid :=
 OpenClaim.holds_of_wide 3 Try.f3 rfl rfl rfl rfl rfl rfl rfl ⟨rfl, rfl, rfl, rfl, rfl⟩ rfl rfl rfl rfl rfl (by kernel_rfl) Try.func3 (by kernel_rfl)
  (of_decide_eq_true (by kernel_rfl)) (by unfold Func.isWrapper; first | (rw [if_pos (by decide +kernel)]; kernel_rfl) | (rw [if_neg (by decide +kernel)]; exact ⟨rfl, rfl⟩))
  (fun os started H enc _ => zme os started H enc)
end Go.Proofs.Ytlcigmnkfilebaa
