/- A part of a program logic over the kit's walk rules, and contracts of functions in it. Conditions: as each theorem says. -/
import Derived.Test.YtbbhoipphnbdiaaGreatDoorK7
import Derived.Test.YtbbhoipphnbdiaaGreatDoorRows
import Derived.WideKeyArgs
import Derived.OpenShut
import Derived.WalkKit
import Derived.ProofKit
import Derived.Laws.StructEq
import Derived.WideKeyElems2
import Derived.LaidMore
import Derived.Lay
import Derived.SevenTiedAt
import Derived.Stop.Joined
import Derived.LaidSub
set_option linter.all false
namespace Go.XL
open Go.Proofs
set_option maxRecDepth 100000
set_option maxHeartbeats 8000000
theorem ybi (L:List Int) (n:Nat) (h:L.length=n):zdj 1 n ((L.map I).map V.copy)=L.map cI:=by
 subst h
 rw[List.map_map]
 exact zqm (V.copy∘I) L
theorem zss (p : PayM) (liable : Int) (hk : PC Tryz.prog 25 [p.h.val] (I 0))
    (s1 : PC Tryz.prog 34 [p.h.val, I p.dealer] (Bo true)) (s2 : PC Tryz.prog 34 [p.h.val, I p.winner] (Bo true)) (s3 : PC Tryz.prog 34 [p.h.val, I p.from_] (Bo true)) (s4 : PC Tryz.prog 34 [p.h.val, I liable] (Bo (p.h.seat liable)))
    (ok : p.Ok) (b1 : 0 ≤ p.dealer ∧ p.dealer < p.h.set.players) (b2 : 0 ≤ p.winner ∧ p.winner < p.h.set.players) (b3 : 0 ≤ p.from_ ∧ p.from_ < p.h.set.players) (b4 : liable = -1 ∨ (p.h.seat liable = true ∧ liable ≠ p.winner ∧ 0 ≤ liable ∧ liable < p.h.set.players)) :
    PC Tryz.prog 16 [p.h.val, I p.points, I p.dealer, I p.winner, I p.from_, I p.counters, I liable] (.tup [ints (outS p liable p.h.set.players.toNat), I 0]) := by
  have hpl := ok.players
  have hpt := ok.points
  have hct := ok.counters
  have Hout := zvk p ok liable
  have Hsum := zna p ok
  have How := fun j => yml p j ok
  clear ok
  refine DC.of_run Tryz.func16 rfl Tryz.ntmps16 Tryz.results16 (by simp) (fun _ _ => ?_); simp only [zag, zaj, go_sem, Nat.zero_add, Nat.reduceAdd]
  repeat' (first | refine yJ ?_ | (with_reducible first | (refine zax yE ?_; first | refine zdt (fun _ => ?_) (fun _ => ?_) | refine zaz ?_ | refine zbk ?_) | (refine zbm yU yE ?_; first | refine zfw ?_ | refine ygd (fun _ => ?_) (fun _ => ?_) | refine zer (fun _ => ?_) (fun _ => ?_) | refine GG.run ?_ | refine zco ?_ | refine zcy ?_ | refine ybr (fun _ => ?_) (fun _ => ?_))) | (refine zbs (t := 17) yU yE yU (fun _ => yE) yE yU yV1 (fun _ => yN1) ?_; simp only [go_sem]) | (refine zbs (t := 18) yU yE yU (fun _ => yE) yE yU yV1 (fun _ => yN1) ?_; simp only [go_sem]) | refine zan inferInstance (hk) yR yF ?_ | refine zan inferInstance (s1) yR yF ?_ | refine zan inferInstance (s2) yR yF ?_ | refine zan inferInstance (s3) yR yF ?_ | refine zan inferInstance (s4) yR yF ?_ | (refine zaq (t := 7) yU yE yU ?_; simp only [yS3]) | (refine zaq (t := 10) yU yE yU ?_; simp only [yS3]) | (refine zmo yU yE yE yE yE yU yU ⟨by omega, by omega, by decide, by omega⟩ (fun _ hfr => ?_)) | refine zao [] yE trivial ?_ | fail)
  all_goals try (exfalso; omega)
  rotate_left 1
  · rename_i e1 e2
    rcases b4 with b4 | b4
    · exact absurd b4 e1
    · rw [b4.1] at e2; cases e2
  all_goals
    rename_i bo
    clear hk s1 s2 s3 s4
    have hb4 : liable = -1 ∨ (liable ≠ p.winner ∧ 0 ≤ liable ∧ liable < p.h.set.players) := by omega
    clear b4
    have hz : List.replicate p.h.set.players.toNat (V.v (Value.int IntKind.i64 0)) = (outS p liable 0).map I := by simp [outS]
    rw [hz]
    clear hz
    refine zbo [4, 6, 10, 17, 18, 19, 86] yN (fun (k : Nat) => [(87, I k)]) (fun (k : Nat) => [(bo, .cells ((outS p liable k).map I) 3)]) (fun (k : Nat) => k ≤ p.h.set.players.toNat) (fun (k : Nat) => p.h.set.players.toNat - k) 0 yS (fun b o e => by exact e) (Nat.zero_le _) (fun k B hI hB => ?_); try dsimp only at hI hB; simp only [zad, zaf]
    obtain ⟨Hl, Hx⟩ := Hout k
    have hsum := Hsum k
    have Hl2 := Hl
    have how := How k
    have Hx1 : ∀ x ∈ outS p liable k, -1000000000000 ≤ x ∧ x ≤ 1000000000000 := fun x hx => by have := Hx x hx; omega
    have Hx2 : ∀ (j w : Nat) (n : Int), 0 ≤ n ∧ n ≤ 1000000000 → ∀ x ∈ payL (outS p liable k) j w n, -1000000000000 ≤ x ∧ x ≤ 1000000000000 := fun j w n hn x hx => by
      have := zns Hx hn (by omega) x hx; omega
    have hw := Int.toNat_of_nonneg b2.1
    have hwl : p.winner.toNat < p.h.set.players.toNat := by omega
    have D1 : ∀ (j : Nat) (n : Int), j < p.h.set.players.toNat → 0 ≤ n ∧ n ≤ 1000000000 → _ := fun j n hj hn => ycm bo (outS p liable k) j p.winner.toNat n (by rw [Hl]; exact hj) (by rw [Hl]; exact hwl) hn Hx1 (by omega)
    have D2 : ∀ (j j2 : Nat) (n n2 : Int), j < p.h.set.players.toNat → j2 < p.h.set.players.toNat → 0 ≤ n ∧ n ≤ 1000000000 → 0 ≤ n2 ∧ n2 ≤ 1000000000 → _ := fun j j2 n n2 hj hj2 hn hn2 => ycm bo (payL (outS p liable k) j2 p.winner.toNat n2) j p.winner.toNat n (by rw [zfm, Hl]; exact hj) (by rw [zfm, Hl]; exact hwl) hn (Hx2 _ _ _ hn2) (by rw [zfm]; omega)
    simp only [zfm, Hl, hw] at D1 D2
    have hout := outS.eq_2 p liable k
    have hT : (zgt p.h p.points p.dealer p.winner p.from_ p.counters k).tdiv 2 = zgt p.h p.points p.dealer p.winner p.from_ p.counters k / 2 := Int.tdiv_eq_ediv_of_nonneg hsum.1
    generalize hN : zgt p.h p.points p.dealer p.winner p.from_ p.counters k = N at *
    clear hN
    have H := Box.mk (And.intro D1 D2)
    have HO := Box.mk hout
    have HB := Box.mk hB
    clear hB Hl Hx Hx1 Hx2 Hsum How Hout D1 D2 hout
    repeat' (first | refine yJ ?_ | (with_reducible first | (refine zax yE ?_; first | refine zex (fun _ => ?_) (fun _ => ?_) | refine zdt (fun _ => ?_) (fun _ => ?_) | refine zbk ?_) | (refine zbm yU yE ?_; first | refine zfd (fun _ => ?_) (fun _ => ?_) | refine GG.run ?_ | refine zco ?_)) | refine zan inferInstance (how) yR yT ?_ | fail)
    all_goals first
      | (exfalso; omega)
      | refine DS.back (HB.out (k + 1) _ _ (by omega) (by omega) yS yS (fun b o e => by rw [HO.out, if_pos (by omega)] at e; exact e))
      | (have D := H.out.1 k N (by omega) hsum
         try rw [show ((k : Nat) : Int) = p.from_ by omega] at D
         refine zlp inferInstance yH D (by decide) yH (fun u S' hu => ?_)
         obtain ⟨rfl, rfl⟩ := hu
         repeat' (first | refine yJ ?_ | fail)
         exact DS.back (HB.out (k + 1) _ _ (by omega) (by omega) yS yS (fun b o e => by rw [HO.out, if_neg (by omega), if_neg (by omega), if_neg (by omega)] at e; exact e)))
      | (have D := H.out.1 liable.toNat N (by omega) hsum
         rw [Int.toNat_of_nonneg (by omega)] at D
         refine zlp inferInstance yH D (by decide) yH (fun u S' hu => ?_)
         obtain ⟨rfl, rfl⟩ := hu
         repeat' (first | refine yJ ?_ | fail)
         exact DS.back (HB.out (k + 1) _ _ (by omega) (by omega) yS yS (fun b o e => by rw [HO.out, if_neg (by omega), if_pos (by omega)] at e; exact e)))
      | (have D := H.out.1 liable.toNat (N - N / 2) (by omega) (by omega)
         rw [Int.toNat_of_nonneg (by omega)] at D
         refine zlp inferInstance yH D (by decide) (by (simp (disch := omega) only [go_sem, dopV, yV0, ↓reduceIte, Nat.reduceEqDiff, Nat.reduceLT, Nat.reduceLeDiff, Nat.reduceAdd, Nat.reduceMul, Nat.reduceSub, Int.reduceToNat, Int.reduceLT, Int.reduceLE, Int.reduceEq, IntWalk.toNatUp, IntWalk.iteOmega, IntWalk.i64_in, V.flat, V.one, hT]; try exact rfl)) (fun u S' hu => ?_)
         obtain ⟨rfl, rfl⟩ := hu
         have D3 := H.out.2 k liable.toNat (N / 2) (N - N / 2) (by omega) (by omega) (by omega) (by omega)
         rw [show ((k : Nat) : Int) = p.from_ by omega] at D3
         repeat' (first | refine yJ ?_ | fail)
         refine zlp inferInstance yH D3 (by decide) yH (fun u S' hu => ?_)
         obtain ⟨rfl, rfl⟩ := hu
         repeat' (first | refine yJ ?_ | fail)
         exact DS.back (HB.out (k + 1) _ _ (by omega) (by omega) yS yS (fun b o e => by rw [HO.out, if_neg (by omega), if_neg (by omega), if_pos (by omega)] at e; exact e)))
      | (have hk : k = p.h.set.players.toNat := by omega
         subst hk
         refine zlo (t := 14) (b := bo) (sz := 1) (l := (outS p liable p.h.set.players.toNat).map I) (T := 3) yR (by simp only [zaa, ↓reduceIte]) (by simp [Hl2]) ⟨Nat.le_refl _, by simp only [maxLen]; omega⟩ ?_
         refine zbi yG ?_
         rw [ybi _ _ Hl2]
         rfl)
theorem zjs (h:House) (hc:h.CondsPC) (points dealer winner from_ counters liable:Int) :
  PC Tryz.prog 16 [h.val,I points,I dealer,I winner,I from_,I counters,I liable] (.tup [ints (zky h points dealer winner from_ counters liable).1,I (zky h points dealer winner from_ counters liable).2]):=by
 have hk:=zxx h hc
 by_cases h0:zew h=0
 ·rw[h0]at hk
  have s1:=zrc h dealer
  have s2:=zrc h winner
  have s3:=zrc h from_
  have s4:=zrc h liable
  have ex:zky h points dealer winner from_ counters liable=if points<0∨points > 1000000∨counters<0∨counters > 100 then([],2)else
   if(h.seat dealer&&h.seat winner&&h.seat from_)=false then([],2)else
   if liable ≠ -1∧(h.seat liable=false∨liable=winner)then([],2)else
   (outS ⟨h,points,dealer,winner,from_,counters⟩ liable h.set.players.toNat,0):=by rw[zky,if_neg (by omega)]
  rw[ex]
  clear ex
  by_cases g1:points<0∨points > 1000000∨counters<0∨counters > 100
  ·rw[if_pos g1]
   refine DC.of_run Tryz.func16 rfl Tryz.ntmps16 Tryz.results16 (by simp) (fun _ _=>?_);simp only[zag,zaj,go_sem,Nat.zero_add,Nat.reduceAdd]
   repeat' (first|refine yJ ?_|(with_reducible first|(refine zax yE ?_;first|refine zdt (fun _=>?_) (fun _=>?_)|refine zaz ?_|refine zbk ?_)|(refine zbm yU yE ?_;first|refine zer (fun _=>?_) (fun _=>?_)|refine GG.run ?_|refine zcy ?_))|refine zan inferInstance (hk) yR yF ?_|(refine zaq (t:=7) yU yE yU ?_;simp only[yS3])|(refine zaq (t:=10) yU yE yU ?_;simp only[yS3])|refine zao [] yE trivial ?_|fail)
   all_goals first|rfl|(exfalso;omega)
  rw[if_neg g1]
  by_cases g2:(h.seat dealer&&h.seat winner&&h.seat from_)=false
  ·rw[if_pos g2]
   refine DC.of_run Tryz.func16 rfl Tryz.ntmps16 Tryz.results16 (by simp) (fun _ _=>?_);simp only[zag,zaj,go_sem,Nat.zero_add,Nat.reduceAdd]
   repeat' (first|refine yJ ?_|(with_reducible first|(refine zax yE ?_;first|refine zdt (fun _=>?_) (fun _=>?_)|refine zaz ?_|refine zbk ?_|refine ybs (fun _=>?_) (fun _=>?_))|(refine zbm yU yE ?_;first|refine zfw ?_|refine ygd (fun _=>?_) (fun _=>?_)|refine zer (fun _=>?_) (fun _=>?_)|refine GG.run ?_|refine zco ?_|refine zcy ?_|refine ybr (fun _=>?_) (fun _=>?_)))|(refine zbs (t:=17) yU yE yU (fun _=>yE) yE yU yV1 (fun _=>yN1) ?_;simp only[go_sem])|refine zan inferInstance (hk) yR yF ?_|refine zan inferInstance (s1) yR yF ?_|refine zan inferInstance (s2) yR yF ?_|refine zan inferInstance (s3) yR yF ?_|refine zan inferInstance (s4) yR yF ?_|(refine zaq (t:=7) yU yE yU ?_;simp only[yS3])|(refine zaq (t:=10) yU yE yU ?_;simp only[yS3])|refine zao [] yE trivial ?_|fail)
   all_goals first|rfl|(exfalso;omega)|(exfalso;simp_all;done)|trace_state
  rw[if_neg g2]
  simp only[Bool.not_eq_false,Bool.and_eq_true]at g2
  rw[g2.1.1]at s1
  rw[g2.1.2]at s2
  rw[g2.2]at s3
  by_cases g3:liable ≠ -1∧(h.seat liable=false∨liable=winner)
  ·rw[if_pos g3]
   refine DC.of_run Tryz.func16 rfl Tryz.ntmps16 Tryz.results16 (by simp) (fun _ _=>?_);simp only[zag,zaj,go_sem,Nat.zero_add,Nat.reduceAdd]
   repeat' (first|refine yJ ?_|(with_reducible first|(refine zax yE ?_;first|refine zdt (fun _=>?_) (fun _=>?_)|refine zaz ?_|refine zbk ?_)|(refine zbm yU yE ?_;first|refine zer (fun _=>?_) (fun _=>?_)|refine GG.run ?_|refine zcy ?_|refine ybr (fun _=>?_) (fun _=>?_)))|(refine zbs (t:=17) yU yE yU (fun _=>yE) yE yU yV1 (fun _=>yN1) ?_;simp only[go_sem])|refine zan inferInstance (hk) yR yF ?_|refine zan inferInstance (s1) yR yF ?_|refine zan inferInstance (s2) yR yF ?_|refine zan inferInstance (s3) yR yF ?_|refine zan inferInstance (s4) yR yF ?_|(refine zaq (t:=7) yU yE yU ?_;simp only[yS3])|(refine zaq (t:=10) yU yE yU ?_;simp only[yS3])|refine zao [] yE trivial ?_|fail)
   all_goals first|rfl|(exfalso;omega)|(exfalso;simp_all;done)|trace_state
  rw[if_neg g3]
  have ok:PayM.Ok ⟨h,points,dealer,winner,from_,counters⟩:=zvj h0 g1
  refine zss ⟨h,points,dealer,winner,from_,counters⟩ liable hk s1 s2 s3 s4 ok ?_ ?_ ?_ ?_
  ·simpa [House.seat] using g2.1.1
  ·simpa [House.seat] using g2.1.2
  ·simpa [House.seat] using g2.2
  ·by_cases hl:liable = -1
   ·exact .inl hl
   ·have h1:h.seat liable=true:=by
     cases hs:h.seat liable with
     | true=>rfl
     | false=>exact absurd ⟨hl, .inl hs⟩ g3
    have h2:liable≠winner:=fun e=>g3 ⟨hl, .inr e⟩
    have h3:0≤liable∧liable<h.set.players:=by simpa [House.seat] using h1
    exact .inr ⟨h1,h2,h3.1,h3.2⟩
 ·rw[zky,if_pos h0]
  refine DC.of_run Tryz.func16 rfl Tryz.ntmps16 Tryz.results16 (by simp) (fun _ _=>?_);simp only[zag,zaj,go_sem,Nat.zero_add,Nat.reduceAdd]
  repeat' (first|refine yJT ?_|refine zan inferInstance (hk) yR yT ?_|(refine zaq (t:=7) yU yE yU ?_;simp only[yS3])|(refine zaq (t:=10) yU yE yU ?_;simp only[yS3])|refine zao [] yE trivial ?_|fail)
  all_goals first|rfl|(exfalso;omega)
end Go.XL
namespace Go.XL
theorem zdx {f g:Nat→Int}: ∀{n:Nat},(∀i,i<n→f i=g i)→zcx f n=zcx g n
 | 0,_=>rfl
 | n+1,h=>by rw[zcx,zcx,zdx fun i hi=>h i (by omega),h n (by omega)]
theorem zkq {f g:Nat→Int}: ∀{n:Nat},zcx (fun i=>f i+g i) n=zcx f n+zcx g n
 | 0=>rfl
 | n+1=>by rw[zcx,zcx,zcx,zkq];omega
theorem znj {a:Nat} {c:Int}: ∀{n:Nat},zcx (fun i=>if i=a then c else 0) n=if a<n then c else 0
 | 0=>by simp[zcx]
 | n+1=>by
  rw[zcx,znj]
  by_cases h:n=a
  ·rw[if_pos h,if_neg (by omega),if_pos (by omega)];omega
  ·rw[if_neg h]
   by_cases h2:a<n
   ·rw[if_pos h2,if_pos (by omega)];omega
   ·rw[if_neg h2,if_neg (by omega)];rfl
def dl (x a b:Nat) (n:Int):Int:=(if x=b then n else 0)-(if x=a then n else 0)
theorem zrx {L:List Int} {j x:Nat} {v:Int} (hj:j<L.length):(L.set j v).getD x 0=if x=j then v else L.getD x 0:=by
 rw[List.getD_eq_getElem?_getD,List.getD_eq_getElem?_getD,List.getElem?_set]
 by_cases h:j=x
 ·subst h;simp[hj]
 ·rw[if_neg h,if_neg (fun e=>h e.symm)]
theorem zri {L:List Int} {j w x:Nat} {n:Int} (hj:j<L.length) (hw:w<L.length):(payL L j w n).getD x 0=L.getD x 0+dl x j w n:=by
 rw[payL,zrx (by simpa using hw),zrx hj]
 by_cases h1:x=w
 ·subst h1
  rw[if_pos rfl]
  unfold dl
  rw[if_pos rfl]
  by_cases h2:x=j
  ·subst h2;rw[if_pos rfl,if_pos rfl];omega
  ·rw[if_neg h2,if_neg h2];omega
 ·rw[if_neg h1,zrx hj]
  unfold dl
  rw[if_neg h1]
  by_cases h2:x=j
  ·subst h2;rw[if_pos rfl,if_pos rfl];omega
  ·rw[if_neg h2,if_neg h2];omega
def trS (p:PayM) (liable:Int) (x i:Nat):Int :=
 if(i:Int)=p.winner then 0 else
   if 0≤liable∧p.from_=p.winner then dl x liable.toNat p.winner.toNat (zgt p.h p.points p.dealer p.winner p.from_ p.counters i)else
   if 0≤liable∧(i:Int)=p.from_∧liable≠p.from_ then
    dl x liable.toNat p.winner.toNat (zgt p.h p.points p.dealer p.winner p.from_ p.counters i-zgt p.h p.points p.dealer p.winner p.from_ p.counters i / 2)+dl x i p.winner.toNat (zgt p.h p.points p.dealer p.winner p.from_ p.counters i / 2)
   else dl x i p.winner.toNat (zgt p.h p.points p.dealer p.winner p.from_ p.counters i)
theorem zrj (p:PayM) (liable:Int): ∀k,(outS p liable k).length=p.h.set.players.toNat
 | 0=>by simp[outS]
 | k+1=>by
  rw[outS]
  (repeat' split) <;> simp only[zfm,zrj p liable k]
theorem ziu (p:PayM) (liable:Int) (hw:p.winner.toNat<p.h.set.players.toNat) (hl:liable.toNat<p.h.set.players.toNat) (x:Nat): ∀k,k≤p.h.set.players.toNat→(outS p liable k).getD x 0=zcx (trS p liable x) k
 | 0,_=>by
  rw[outS,zcx,List.getD_eq_getElem?_getD,List.getElem?_replicate]
  split <;> rfl
 | k+1,hk=>by
  have ih:=ziu p liable hw hl x k (by omega)
  have hn:=zrj p liable k
  rw[outS,zcx,trS]
  by_cases h1:(k:Int)=p.winner
  ·rw[if_pos h1,if_pos h1,ih];omega
  rw[if_neg h1,if_neg h1]
  by_cases h2:0≤liable∧p.from_=p.winner
  ·rw[if_pos h2,if_pos h2,zri (by omega) (by omega),ih]
  rw[if_neg h2,if_neg h2]
  by_cases h3:0≤liable∧(k:Int)=p.from_∧liable≠p.from_
  ·rw[if_pos h3,if_pos h3,zri (by rw[zfm];omega) (by rw[zfm];omega),zri (by omega) (by omega),ih];omega
  ·rw[if_neg h3,if_neg h3,zri (by omega) (by omega),ih]
end Go.XL
namespace Go.XL
structure WinRow where
 who:Int
 from_:Int
 value:Int
 points:Int
 liable:Int
def WinRow.cells (x:WinRow):List V:= [I x.who,I x.from_,I x.value,I x.points,I x.liable]
@[go_sem] theorem WinRow.cells_eq (x:WinRow):x.cells= [I x.who,I x.from_,I x.value,I x.points,I x.liable]:=rfl
theorem WinRow.len (f:WinRow):f.cells.length=5:=rfl
abbrev WinRow.val (x:WinRow):V := .agg x.cells
end Go.XL
namespace Go.XL
theorem zih : ∀n,zcx (fun _=>0) n=0
 | 0=>rfl
 | n+1=>by rw[zcx,zih n];rfl
theorem zpf (f:Nat→Nat→Int) (m:Nat): ∀n,zcx (fun x=>zcx (f x) m) n=zcx (fun i=>zcx (fun x=>f x i) n) m
 | 0=>(zih m).symm
 | n+1=>by
  rw[zcx,zpf f m n,←zkq]
  exact zdx fun i _=>rfl
theorem zqs {f g:Nat→Int}: ∀{n:Nat},(∀i,i<n→f i≤g i)→zcx f n≤zcx g n
 | 0,_=>Int.le_refl _
 | n+1,h=>by
  have:=zqs (n:=n) fun i hi=>h i (by omega)
  have:=h n (by omega)
  rw[zcx,zcx];omega
theorem zzz : ∀(l:List Int),sumI l=zcx (fun i=>l.getD i 0) l.length:=by
 intro l
 have key: ∀(l m:List Int),zcx (fun i=>(m++l).getD i 0) (m.length+l.length)=zcx (fun i=>m.getD i 0) m.length+sumI l:=by
  intro l
  induction l with
  | nil=>intro m;simp[sumI]
  | cons a l ih =>
   intro m
   have h:=ih (m++ [a])
   rw[List.append_assoc,List.singleton_append,List.length_append,List.length_singleton]at h
   rw[List.length_cons,show m.length+(l.length+1)=m.length+1+l.length by omega,h,sumI,zcx]
   have e1:(m++ [a]).getD m.length 0=a:=by simp
   have e2:zcx (fun i=>(m++ [a]).getD i 0) m.length=zcx (fun i=>m.getD i 0) m.length:=zdx fun i hi=>by
    rw[List.getD_eq_getElem?_getD,List.getElem?_append_left hi,←List.getD_eq_getElem?_getD]
   rw[e1,e2];omega
 have:=key l []
 simp only[List.nil_append,List.length_nil,Nat.zero_add,zcx]at this
 omega
theorem zyx {a b n:Nat} (ha:a<n) (hb:b<n) (N:Int):zcx (fun x=>dl x a b N) n=0:=by
 have e:zcx (fun x=>dl x a b N) n=zcx (fun x=>(if x=b then N else 0)+(if x=a then -N else 0)) n:=zdx fun x _=>by
  unfold dl;split <;> split <;> omega
 rw[e,zkq,znj,znj,if_pos ha,if_pos hb];omega
section
variable (p:PayM) (liable:Int) (hw:p.winner.toNat<p.h.set.players.toNat) (hl:liable.toNat<p.h.set.players.toNat)
include hw hl
theorem ycu :sumI (outS p liable p.h.set.players.toNat)=0:=by
 rw[zzz,zrj,zdx fun x hx=>ziu p liable hw hl x _ (Nat.le_refl _),zpf]
 rw[zdx (g:=fun _=>0) fun i hi=>?_,zih]
 unfold trS
 by_cases h1:(i:Int)=p.winner
 ·simp only[if_pos h1];exact zih _
 simp only[if_neg h1]
 by_cases h2:0≤liable∧p.from_=p.winner
 ·simp only[if_pos h2];exact zyx hl hw _
 simp only[if_neg h2]
 by_cases h3:0≤liable∧(i:Int)=p.from_∧liable≠p.from_
 ·simp only[if_pos h3]
  rw[zkq,zyx hl hw,zyx hi hw];rfl
 ·simp only[if_neg h3];exact zyx hi hw _
end
theorem zpw (p:PayM) (ok:p.Ok) (liable:Int) (b2:0≤p.winner∧p.winner<p.h.set.players) (hl:0≤liable∧liable<p.h.set.players) (hlw:liable≠p.winner) :
  (outS p liable p.h.set.players.toNat).getD p.winner.toNat 0=(outS p (-1) p.h.set.players.toNat).getD p.winner.toNat 0 ∧
  ∀x:Nat,(x:Int)≠liable→(x:Int)≠p.winner→(outS p (-1) p.h.set.players.toNat).getD x 0≤(outS p liable p.h.set.players.toNat).getD x 0:=by
 have hp:=ok.players
 have hn:=fun i:Nat=>zna p ok i
 refine⟨?_,fun x hx1 hx2=>?_⟩
 ·rw[ziu p _ (by omega) (by omega) _ _ (Nat.le_refl _),ziu p _ (by omega) (by omega) _ _ (Nat.le_refl _)]
  refine zdx fun i hi=>?_
  unfold trS
  by_cases h1:(i:Int)=p.winner
  ·rw[if_pos h1,if_pos h1]
  have hd: ∀a N,a≠p.winner.toNat→dl p.winner.toNat a p.winner.toNat N=N:=fun a N ha=>by
   unfold dl;rw[if_pos rfl,if_neg (fun e=>ha e.symm)];omega
  have hd1:=fun N=>hd i N (by omega)
  have hd2:=fun N=>hd liable.toNat N (by omega)
  rw[if_neg h1,if_neg h1,if_neg (c:=(0:Int) ≤ -1∧p.from_=p.winner) (by omega),if_neg (c:=(0:Int) ≤ -1∧(i:Int)=p.from_ ∧ -1≠p.from_) (by omega)]
  by_cases h2:0≤liable∧p.from_=p.winner
  ·rw[if_pos h2,hd1,hd2]
  rw[if_neg h2]
  by_cases h3:0≤liable∧(i:Int)=p.from_∧liable≠p.from_
  ·rw[if_pos h3,hd1,hd2,hd1];omega
  ·rw[if_neg h3]
 ·rw[ziu p _ (by omega) (by omega) _ _ (Nat.le_refl _),ziu p _ (by omega) (by omega) _ _ (Nat.le_refl _)]
  refine zqs fun i hi=>?_
  have hni:=hn i
  unfold trS
  by_cases h1:(i:Int)=p.winner
  ·rw[if_pos h1,if_pos h1];exact Int.le_refl _
  have hd: ∀a N,dl x a p.winner.toNat N=if x=a then -N else 0:=fun a N=>by
   unfold dl;rw[if_neg (by omega)];split <;> omega
  rw[if_neg h1,if_neg h1,if_neg (c:=(0:Int) ≤ -1∧p.from_=p.winner) (by omega),if_neg (c:=(0:Int) ≤ -1∧(i:Int)=p.from_ ∧ -1≠p.from_) (by omega),hd]
  by_cases h2:0≤liable∧p.from_=p.winner
  ·rw[if_pos h2,hd,if_neg (c:=x=liable.toNat) (by omega)];split <;> omega
  rw[if_neg h2]
  by_cases h3:0≤liable∧(i:Int)=p.from_∧liable≠p.from_
  ·rw[if_pos h3,hd,hd,if_neg (c:=x=liable.toNat) (by omega)];split <;> omega
  ·rw[if_neg h3];first|exact Int.le_refl _|(rw[hd];exact Int.le_refl _)
theorem ymn (p:PayM) (ok:p.Ok) (b2:0≤p.winner∧p.winner<p.h.set.players) (x:Nat) (hx:(x:Int)≠p.winner):(outS p (-1) p.h.set.players.toNat).getD x 0≤0:=by
 have hp:=ok.players
 rw[ziu p _ (by omega) (by omega) _ _ (Nat.le_refl _)]
 refine Int.le_trans (zqs (g:=fun _=>0) fun i hi=>?_) (Int.le_of_eq (zih _))
 have hni:=zna p ok i
 unfold trS
 by_cases h1:(i:Int)=p.winner
 ·rw[if_pos h1];exact Int.le_refl _
 rw[if_neg h1,if_neg (by omega),if_neg (by omega)]
 unfold dl;rw[if_neg (by omega)];split <;> omega
def rotI (n j:Int):Int:=(j+1) % n
theorem zno {n j:Int} (h:0<n):0≤rotI n j∧rotI n j<n:=⟨Int.emod_nonneg _ (by omega),Int.emod_lt_of_pos _ h⟩
theorem zme {n:Int} (hn:n=3∨n=4) {a b:Int} (ha:0≤a∧a<n) (hb:0≤b∧b<n):(rotI n a=rotI n b)↔a=b:=by
 unfold rotI
 rcases hn with rfl|rfl <;> omega
theorem zsl {n:Int} (hn:n=3∨n=4) (f:Nat→Int):zcx f n.toNat=zcx (fun i=>f (rotI n i).toNat) n.toNat:=by
 rcases hn with rfl|rfl
 ·show zcx f 3=zcx _ 3
  have e0:(rotI 3 (0:Nat)).toNat=1:=by decide
  have e1:(rotI 3 (1:Nat)).toNat=2:=by decide
  have e2:(rotI 3 (2:Nat)).toNat=0:=by decide
  simp only[zcx,e0,e1,e2];omega
 ·show zcx f 4=zcx _ 4
  have e0:(rotI 4 (0:Nat)).toNat=1:=by decide
  have e1:(rotI 4 (1:Nat)).toNat=2:=by decide
  have e2:(rotI 4 (2:Nat)).toNat=3:=by decide
  have e3:(rotI 4 (3:Nat)).toNat=0:=by decide
  simp only[zcx,e0,e1,e2,e3];omega
section
variable {h:House} (hn:h.set.players=3∨h.set.players=4) {d w f:Int} (hd:0≤d∧d<h.set.players) (hw:0≤w∧w<h.set.players) (hf:0≤f∧f<h.set.players)
include hn hd hw
theorem zsp {j:Int} (hj:0≤j∧j<h.set.players):zdl h (rotI h.set.players d) (rotI h.set.players w) (rotI h.set.players j)=zdl h d w j:=by
 unfold zdl
 simp only[zme hn hj hw,zme hn hj hd,zme hn hw hd]
include hf
theorem yhl (points counters:Int) {j:Int} (hj:0≤j∧j<h.set.players) :
  zgt h points (rotI h.set.players d) (rotI h.set.players w) (rotI h.set.players f) counters (rotI h.set.players j)=zgt h points d w f counters j:=by
 unfold zgt
 rw[zsp hn hd hw hj,zsl hn]
 have e:zcx (fun i:Nat=>zdl h (rotI h.set.players d) (rotI h.set.players w) ((rotI h.set.players i).toNat:Int)) h.set.players.toNat=zcx (fun i:Nat=>zdl h d w i) h.set.players.toNat:=zdx fun i hi=>by
  have:=zno (n:=h.set.players) (j:=i) (by omega)
  rw[Int.toNat_of_nonneg this.1,zsp hn hd hw (by omega)]
 rw[e]
 simp only[zme hn hj hf,zme hn hf hw]
theorem ymm (points counters:Int) {x:Nat} (hx:(x:Int)<h.set.players) :
  (outS ⟨h,points,rotI h.set.players d,rotI h.set.players w,rotI h.set.players f,counters⟩ (-1) h.set.players.toNat).getD (rotI h.set.players x).toNat 0=(outS ⟨h,points,d,w,f,counters⟩ (-1) h.set.players.toNat).getD x 0:=by
 have rw_:=zno (n:=h.set.players) (j:=w) (by omega)
 have h1:=ziu ⟨h,points,rotI h.set.players d,rotI h.set.players w,rotI h.set.players f,counters⟩ (-1) (by dsimp only;omega) (by dsimp only;omega) (rotI h.set.players x).toNat h.set.players.toNat (Nat.le_refl _)
 have h2:=ziu ⟨h,points,d,w,f,counters⟩ (-1) (by dsimp only;omega) (by dsimp only;omega) x h.set.players.toNat (Nat.le_refl _)
 rw[h1,h2,zsl hn]
 refine zdx fun i hi=>?_
 have ri:=zno (n:=h.set.players) (j:=i) (by omega)
 have rx:=zno (n:=h.set.players) (j:=x) (by omega)
 have q1:=zme hn (a:=i) (b:=w) (by omega) hw
 have q2:=zme hn (a:=x) (b:=w) (by omega) hw
 have q3:=zme hn (a:=x) (b:=i) (by omega) (by omega)
 unfold trS
 dsimp only
 rw[Int.toNat_of_nonneg ri.1]
 by_cases c1:(i:Int)=w
 ·rw[if_pos c1,if_pos (q1.2 c1)]
 rw[if_neg c1,if_neg (fun e=>c1 (q1.1 e)),if_neg (by omega),if_neg (by omega),if_neg (by omega),if_neg (by omega),yhl hn hd hw hf points counters (by omega)]
 unfold dl
 have t1:((rotI h.set.players x).toNat=(rotI h.set.players w).toNat)↔x=w.toNat:=by omega
 have t2:((rotI h.set.players x).toNat=(rotI h.set.players i).toNat)↔x=i:=by omega
 simp only[t1,t2]
end
end Go.XL
namespace Go.XL
theorem zht {h:House} {x:Int} (hx:0≤x∧x<h.set.players):h.seat x=true:=by
 rw[House.seat,decide_eq_true hx.1,decide_eq_true hx.2];rfl
theorem zkx {h:House} (e:zew h=0) {p d w f c li:Int} (hp:0≤p∧p≤1000000) (hc:0≤c∧c≤100) (hd:0≤d∧d<h.set.players) (hw:0≤w∧w<h.set.players) (hf:0≤f∧f<h.set.players)
  (hl:li = -1∨(0≤li∧li<h.set.players∧li≠w)):zky h p d w f c li=(outS ⟨h,p,d,w,f,c⟩ li h.set.players.toNat,0):=by
 rw[zky,if_neg (by omega),if_neg (by omega),if_neg (by rw[zht hd,zht hw,zht hf];decide),if_neg]
 rcases hl with rfl|⟨h1,h2,h3⟩
 ·exact fun h=>h.1 rfl
 ·rw[zht ⟨h1,h2⟩]
  rintro⟨-,h|h⟩
  ·cases h
  ·exact h3 h
theorem yaj {h:House} (e:zew h=0) {p d w f c:Int} (hp:0≤p∧p≤1000000) (hc:0≤c∧c≤100) (hd:0≤d∧d<h.set.players) (hw:0≤w∧w<h.set.players) (hf:0≤f∧f<h.set.players) :
  zky h p d w f c w=([],2):=by
 rw[zky,if_neg (by omega),if_neg (by omega),if_neg (by rw[zht hd,zht hw,zht hf];decide),if_pos]
 exact⟨by omega, .inr rfl⟩
structure Paid (n:Nat) (L:List Int):Prop where
 len:L.length=n
 bd: ∀x∈L,-1000000000000≤x∧x≤1000000000000
 sum:sumI L=0
theorem paid {h:House} (e:zew h=0) {p d w f c li:Int} (hp:0≤p∧p≤1000000) (hc:0≤c∧c≤100) (hd:0≤d∧d<h.set.players) (hw:0≤w∧w<h.set.players) (hf:0≤f∧f<h.set.players)
  (hl:li = -1∨(0≤li∧li<h.set.players∧li≠w)): ∃A,zky h p d w f c li=(A,0)∧Paid h.set.players.toNat A:=by
 have ok:PayM.Ok ⟨h,p,d,w,f,c⟩:=zvj e (by dsimp only;omega)
 have hn:=ok.players
 dsimp only at hn
 obtain⟨h1,h2⟩:=zvk _ ok li h.set.players.toNat
 refine⟨_,zkx e hp hc hd hw hf hl,h1,fun x hx=>?_,ycu _ li (by dsimp only;omega) (by dsimp only;omega)⟩
 have:=h2 x hx
 omega
structure Keeps (n w li:Int) (A B C:List Int):Prop where
 a:Paid n.toNat A
 b:Paid n.toNat B
 neg: ∀i:Nat,(i:Int)<n→(i:Int)≠w→A.getD i 0≤0
 rot: ∀i:Nat,(i:Int)<n→B.getD (((i:Int)+1) % n).toNat 0=A.getD i 0
 c:li≠w→Paid n.toNat C
 win:li≠w→C.getD w.toNat 0=A.getD w.toNat 0
 more:li≠w→ ∀i:Nat,(i:Int)<n→(i:Int)≠li→(i:Int)≠w→A.getD i 0≤C.getD i 0
theorem zvu {h:House} (e:zew h=0) {p d w f c li:Int} (hp:0≤p∧p≤1000000) (hc:0≤c∧c≤100) (hd:0≤d∧d<h.set.players) (hw:0≤w∧w<h.set.players) (hf:0≤f∧f<h.set.players) (hl:0≤li∧li<h.set.players) :
  ∃A B C,zky h p d w f c (-1)=(A,0)∧zky h p ((d+1) % h.set.players) ((w+1) % h.set.players) ((f+1) % h.set.players) c (-1)=(B,0)∧(zky h p d w f c li=if li=w then([],2)else(C,0))∧Keeps h.set.players w li A B C:=by
 have ok:PayM.Ok ⟨h,p,d,w,f,c⟩:=zvj e (by dsimp only;omega)
 have hn:=ok.players
 dsimp only at hn
 have hn':h.set.players=3∨h.set.players=4:=by omega
 have rd:=zno (n:=h.set.players) (j:=d) (by omega)
 have rw_:=zno (n:=h.set.players) (j:=w) (by omega)
 have rf:=zno (n:=h.set.players) (j:=f) (by omega)
 unfold rotI at rd rw_ rf
 obtain⟨A,eA,pA⟩:=paid e hp hc hd hw hf (.inl rfl)
 obtain⟨B,eB,pB⟩:=paid e hp hc rd rw_ rf (.inl rfl)
 have eA':=zkx e hp hc hd hw hf (li := -1) (.inl rfl)
 have eB':=zkx e hp hc rd rw_ rf (li := -1) (.inl rfl)
 have hA:A=outS ⟨h,p,d,w,f,c⟩ (-1) h.set.players.toNat:=(Prod.mk.inj (eA.symm.trans eA')).1
 have hB:B=outS ⟨h,p,(d+1) % h.set.players,(w+1) % h.set.players,(f+1) % h.set.players,c⟩ (-1) h.set.players.toNat:=(Prod.mk.inj (eB.symm.trans eB')).1
 refine⟨A,B,outS ⟨h,p,d,w,f,c⟩ li h.set.players.toNat,eA,eB,?_,pA,pB,fun i hi hw'=>?_,fun i hi=>?_,fun hne=>?_,fun hne=>?_,fun hne i hi h1 h2=>?_⟩
 ·by_cases hlw:li=w
  ·subst hlw;rw[if_pos rfl];exact yaj e hp hc hd hw hf
  ·rw[if_neg hlw];exact zkx e hp hc hd hw hf (.inr ⟨hl.1,hl.2,hlw⟩)
 ·rw[hA];exact ymn _ ok hw i hw'
 ·rw[hA,hB]
  exact ymm hn' hd hw hf p c hi
 ·obtain⟨C,eC,pC⟩:=paid e hp hc hd hw hf (.inr ⟨hl.1,hl.2,hne⟩)
  have:=(Prod.mk.inj (eC.symm.trans (zkx e hp hc hd hw hf (.inr ⟨hl.1,hl.2,hne⟩)))).1
  rw[←this];exact pC
 ·rw[hA];exact(zpw _ ok li hw hl hne).1
 ·rw[hA];exact(zpw _ ok li hw hl hne).2 i h1 h2
end Go.XL
namespace Go.XL
structure Hold where
 pattern:Int
 times:Int
def Hold.cells (x:Hold):List V:= [I x.pattern,I x.times]
@[go_sem] theorem Hold.cells_eq (x:Hold):x.cells= [I x.pattern,I x.times]:=rfl
theorem Hold.len (x:Hold):x.cells.length=2:=rfl
abbrev Hold.val (x:Hold):V := .agg x.cells
abbrev ydm (l:List Hold):V := .lst (l.map Hold.cells)
def zka (p:Pattern) (o:Bool):Int:=if o=true then p.open_ else p.closed
def zgi (many:Int):List Hold→Int→Int
 | [],_=>0
 | x::l,last=>if ¬(0≤x.pattern∧x.pattern<many∧1≤x.times∧x.times≤1000)then 2 else if x.pattern≤last then 11 else zgi many l x.pattern
def zpe (h:House) (o:Bool):List Hold→List Int→List Int
 | [],L=>L
 | x::l,L=>zpe h o l (L.set x.pattern.toNat (x.times*zka (h.pat x.pattern.toNat) o))
def zve (h:House) (holds:List Hold) (o:Bool):List Int:=zpe h o holds (List.replicate h.patterns.length 0)
def allK (L:List Int):Nat→Nat
 | 0=>0
 | k+1=>if 0<L.getD k 0 then allK L k ||| 2 ^ k else allK L k
theorem zwn (L:List Int): ∀k,allK L k<2 ^ k
 | 0=>by simp[allK]
 | k+1=>by
  have h:=zwn L k
  have h2:2 ^ k<2 ^ (k+1):=Nat.pow_lt_pow_right (by omega) (by omega)
  rw[allK]
  split
  ·exact Nat.or_lt_two_pow (by omega) h2
  ·omega
def zop (h:House) (L:List Int):Int×Nat:=zhz (fun i k=>(clM h i).testBit k) (fun i=>L.getD i 0) (allK L h.patterns.length)
def natI (n:Nat):Int:=n
def zhy (h:House) (holds:List Hold) (o:Bool):List Int×Int×Int :=
 if zew h≠0 then([],0,zew h)else if 40<(holds.length:Int)then([],0,8)else
 if zgi h.patterns.length holds (-1)≠0 then([],0,zgi h.patterns.length holds (-1))else
 ((zfv (zop h (zve h holds o)).2).map natI,(zop h (zve h holds o)).1,0)
theorem yay {many:Int} {l:List Hold} {i:Nat} (hi:i<l.length) (last:Int):zgi many (l.drop i) last=if ¬(0≤l[i].pattern∧l[i].pattern<many∧1≤l[i].times∧l[i].times≤1000)then 2 else if l[i].pattern≤last then 11 else zgi many (l.drop (i+1)) l[i].pattern:=by
 rw[List.drop_eq_getElem_cons hi,zgi]
theorem ybt {h:House} {o:Bool} {l:List Hold} {i:Nat} (hi:i<l.length) (L:List Int):zpe h o (l.drop i) L=zpe h o (l.drop (i+1)) (L.set l[i].pattern.toNat (l[i].times*zka (h.pat l[i].pattern.toNat) o)):=by
 rw[List.drop_eq_getElem_cons hi,zpe]
end Go.XL
namespace Go.XL
open Go.Proofs
set_option maxRecDepth 100000
set_option maxHeartbeats 8000000
def tinyG :GSet:=⟨3,[3],0,1,0,4,1,2,[1]⟩
def strA (c:UInt8):ByteArray:=⟨#[c]⟩
def smallH :House where
 set:=tinyG
 forms:= [⟨1,[],false⟩]
 patterns:= [⟨strA 97,2,1,[],[],[]⟩,⟨strA 98,3,3,[],[0],[]⟩,⟨strA 99,2,0,[],[],[0]⟩]
 minor:= []
 least:=1
 scale:=⟨8,true,[⟨5,2000⟩,⟨6,3000⟩],100⟩
 pay:=⟨1,true,0,100,1000,0,0,0,1,0,false,[],[]⟩
 play:=⟨false,1,false,0,false,0,0,0,false,false,false,5,1,0,false,false⟩
def fourH :House:={smallH with set:=⟨4,[4],0,1,0,4,1,2,[1]⟩}
theorem ylr :PC Tryz.prog 62 [] tinyG.val:=by
 refine DC.of_run Tryz.func62 rfl Tryz.ntmps62 Tryz.results62 (by simp) (fun _ _=>?_);simp only[zag,zaj,go_sem,Nat.zero_add,Nat.reduceAdd]
 refine DS.seq ?_
 repeat' (first|refine yJ ?_|fail)
 refine zbd yR yU yU (fun b0 h0=>?_)
 clear h0
 repeat' (first|with_reducible refine zak yU yU yX0 ?_|refine yJ ?_|(refine zbw yU yX0 yX0 ?_;simp only[go_sem,Nat.zero_add,Nat.reduceAdd])|(refine DS.store yR yX0 yX0 yX0 yX0 yU yQ ?_;simp only[yS1];try simp only[yS2,Nat.reduceEqDiff,↓reduceIte])|fail)
 refine zbi yX12 ?_
 rfl
theorem zqb {d b:Nat} {o:Ob} {r:Sto} (h:zae ((d,o)::r) b=none): ¬d=b∧zae r b=none:=by
 simp only[zae]at h
 by_cases e:d=b
 ·rw[if_pos e]at h;cases h
 ·rw[if_neg e]at h;exact⟨e,h⟩
theorem zxb :PC Tryz.prog 30 [] smallH.val:=by
 have ht:=ylr
 refine DC.of_run Tryz.func30 rfl Tryz.ntmps30 Tryz.results30 (by simp) (fun _ _=>?_);simp only[zag,zaj,go_sem,Nat.zero_add,Nat.reduceAdd]
 repeat' (first|refine yJ ?_|fail)
 refine zbd yR yU yU (fun b0 h0=>?_)
 clear h0
 repeat' (first|with_reducible refine zak yU yU yX0 ?_|refine yJ ?_|(refine zbw yU yX0 yX0 ?_;simp only[go_sem,Nat.zero_add,Nat.reduceAdd])|refine zan inferInstance (ht) yR yX6 ?_|fail)
 refine zbd yR yU yU (fun b1 h1=>?_)
 obtain⟨n1,-⟩:=zqb h1
 have n1':=fun e=>n1 (Eq.symm e)
 clear h1
 repeat' (first|with_reducible refine zak yU yU yX0 ?_|refine yJ ?_|(refine zbw yU yX0 yX0 ?_;simp only[go_sem,Nat.zero_add,Nat.reduceAdd])|(refine DS.store yR yX0 yX0 yX0 yX0 yU yQ ?_;simp only[yS1];try simp only[yS2,Nat.reduceEqDiff,↓reduceIte])|fail)
 refine zia (b:=b0) deep (fun _ _ _ h=>zhx h) (fun v=>zey _ v) (by(simp (disch:=omega) only[go_sem,dopV,yV0,↓reduceIte,Nat.reduceEqDiff,Nat.reduceLT,Nat.reduceLeDiff,Nat.reduceAdd,Nat.reduceMul,Nat.reduceSub,Int.reduceToNat,Int.reduceLT,Int.reduceLE,Int.reduceEq,IntWalk.toNatUp,IntWalk.iteOmega,IntWalk.i64_in,V.flat,V.one,setS,setAll,n1,n1'];exact rfl)) ?_
 refine zbi (by(simp (disch:=omega) only[go_sem,dopV,yV0,↓reduceIte,Nat.reduceEqDiff,Nat.reduceLT,Nat.reduceLeDiff,Nat.reduceAdd,Nat.reduceMul,Nat.reduceSub,Int.reduceToNat,Int.reduceLT,Int.reduceLE,Int.reduceEq,IntWalk.toNatUp,IntWalk.iteOmega,IntWalk.i64_in,V.flat,V.one,setS,setAll,n1,n1'];exact rfl)) ?_
 rfl
theorem yne :PC Tryz.prog 32 [] fourH.val:=by
 have hs:=zxb
 refine DC.of_run Tryz.func32 rfl Tryz.ntmps32 Tryz.results32 (by simp) (fun _ _=>?_);simp only[zag,zaj,go_sem,Nat.zero_add,Nat.reduceAdd]
 repeat' (first|refine yJ ?_|fail)
 refine zbd yR yU yU (fun b0 h0=>?_)
 clear h0
 repeat' (first|refine yJ ?_|refine zan inferInstance (hs) yR yX6 ?_|fail)
 refine zbd yR yU yU (fun b1 h1=>?_)
 obtain⟨n1,-⟩:=zqb h1
 have n1':=fun e=>n1 (Eq.symm e)
 clear h1
 repeat' (first|with_reducible refine zak yU yU yX0 ?_|refine yJ ?_|(refine zbw yU yX0 yX0 ?_;simp only[go_sem,Nat.zero_add,Nat.reduceAdd])|(refine DS.store yR yX0 yX0 yX0 yX0 yU yQ ?_;simp only[yS1];try simp only[yS2,Nat.reduceEqDiff,↓reduceIte])|fail)
 refine zbi (by(simp (disch:=omega) only[go_sem,dopV,yV0,↓reduceIte,Nat.reduceEqDiff,Nat.reduceLT,Nat.reduceLeDiff,Nat.reduceAdd,Nat.reduceMul,Nat.reduceSub,Int.reduceToNat,Int.reduceLT,Int.reduceLE,Int.reduceEq,IntWalk.toNatUp,IntWalk.iteOmega,IntWalk.i64_in,V.flat,V.one,setS,setAll,n1,n1'];exact rfl)) ?_
 rfl
theorem ydn (l:List Int) (hl:l.length≤1000):PC Tryz.prog 31 [ints l] (ydm (l.map fun n=>⟨n,1⟩)):=by
 have h:PC Tryz.prog 31 [ints l] (.own false 55 2 ((l.map fun n=>(⟨n,1⟩:Hold)).map Hold.cells)):=by
  refine DC.of_run Tryz.func31 rfl Tryz.ntmps31 Tryz.results31 (by simp) (fun _ _=>?_);simp only[zag,zaj,go_sem,Nat.zero_add,Nat.reduceAdd]
  repeat' (first|(with_reducible first|(refine zbu (t:=2) yU yO yE ?_)|(refine zbu (t:=3) yU yO yE ?_))|refine yJ ?_|fail)
  refine zbq [0] yN (fun(i:Nat)=> [(3, .own false 55 2 (((l.take i).map fun n=>(⟨n,1⟩:Hold)).map Hold.cells)),(4,I i)]) (fun(i:Nat)=>i≤l.length) (fun(i:Nat)=>l.length-i) 0 yS (Nat.zero_le _) (fun i B hI hB=>?_);try dsimp only at hI hB;simp only[zad,zaf]
  by_cases hi:i<l.length
  ·have hi':(i:Int)<(l.length:Int):=by omega
   repeat' (first|(with_reducible refine zcj (t:=3) yU yO yE ?_;simp only[yS2,Nat.reduceEqDiff,↓reduceIte])|(with_reducible refine zcj (t:=11) yU yO yE ?_;simp only[yS2,Nat.reduceEqDiff,↓reduceIte])|refine yJT ?_|(refine zbw yU yE yE ?_;simp only[go_sem,Nat.zero_add,Nat.reduceAdd])|(refine DS.append (mm:=false) yU yE yE yU (by decide) yE yO2 yE yX1 yLM yQ2 ?_;simp only[yS2,Nat.reduceEqDiff,↓reduceIte])|fail)
   have hts:=List.take_succ_eq_append_getElem hi
   exact DS.back (hB (i+1) _ _ (by omega) (by omega) yS yS (fun b o e=>by exact e))
  ·have hi': ¬(i:Int)<(l.length:Int):=by omega
   have ht:l.take i=l:=List.take_of_length_le (by omega)
   repeat' (first|(with_reducible refine zcj (t:=2) yU yO yE ?_;simp only[yS2,Nat.reduceEqDiff,↓reduceIte])|(with_reducible refine zcj (t:=19) yU yO yE ?_;simp only[yS2,Nat.reduceEqDiff,↓reduceIte])|refine yJT ?_|refine zao [] yE trivial ?_|fail)
   all_goals first|rfl|(exfalso;omega)
 exact h.peek
end Go.XL
namespace Go.XL
section
variable {P:Program} {n:Nat} {r:Rr} {Q:VEnv→Sto→Prop} {k:List Fr} {E0 E:VEnv} {S0 S1:Sto} {T1:Sto→Prop} {ops l:List Oper} {dst:Option Tmp} {op:Op} {ty:TypeId} {pos:String} {af:Array Edge}
theorem ylm (q:DX P n r Q ops S0 l k E0 E (fun S=>S=S1)):DD P n r Q ops S0 [] l k E0 E S1:=fun K0 K D W hv0 hs a SPs h1 h2 h3 h4 h5 h6 h7 h8 =>
 q K0 K D W hv0 hs a SPs h1 h2 h3 h4 h5 h6 h7 fun F h hF=>⟨S1,rfl,h8 F h hF⟩
theorem DX.nil (q: ∀S1,T1 S1→(∀b o,zae S0 b=some o→zae S1 b=none)→DS P n r Q k E (S1++S0)):DX P n r Q ops S0 [] k E0 E T1:=fun K0 K D W hv0 hs a SPs hbx hfl _ _ _ _ _ hR w' hS hw=>by
 obtain⟨S1,h0,_,_,hv,hold,env,ha,s,_,_,hg⟩:=hR noF w'.heap hS
 exact q S1 h0 (fun b o e=>(hg b o e).2.1) K0 W a w' ⟨K,D,hv,hold,env,hbx,ha,s⟩ hw
theorem DX.stepX {ι:Type} {o:Oper} {T:Sto→V→VEnv→Sto→Prop} (vf:ι→V) (inj: ∀hv hv' x x' y,(vf x).Rl hv y→(vf x').Rl hv' y→x=x') (hg:o.guard=none) (hc:zcq o=true) (hb:zea o.op=false) (hd:dok n o.dst=true) (ho: ∀S1,T1 S1→OpS r.v0 P n o E S1 (T S1)) {E':VEnv} (hT: ∀S1 v E2 S',T1 S1→T S1 v E2 S'→E2=E'∧ ∃x,v=vf x) (hdst: ∃td:Nat,o.dst=some td)
  (q: ∀x,DX P n r Q ops S0 l k (delO o.dst E0) (putV E' o.dst (vf x)) (fun S'=> ∃S1,T1 S1∧T S1 (vf x) E' S')):DX P n r Q ops S0 (o::l) k E0 E T1:=fun K0 K D W hv0 hs a SPs hbx hfl hE hp hS0 hz hl hR=>by
 show SW P ops.toArray _ W _ (o::l) SPs a
 unfold SW Front
 rw[if_pos (by simp[Region.wanted,hg]),if_pos hc]
 refine⟨fun _ y=>y,fun _ y=>fun F h1=> ∃S1 v E' S',(T1 S1∧T S1 v E' S')∧RunS P [] D n K hv0 hs S0 (putV E' o.dst v) S' (a.put o.dst y) F h1,?_,fun _ y ⟨w',hw',hT'⟩=>?_⟩
 ·unfold Spec
  rw[if_neg (by simp[hb])]
  have G:=fun v E' S' y=>RunS.good P [] D n K hv0 hs S0 (putV E' o.dst v) S' (a.put o.dst y)
  refine⟨rfl,_,rfl,fun y=>⟨fun F h ⟨S1,v,E',S',_,h2⟩=>(G v E' S' y).ext F h h2,fun F h ob ⟨S1,v,E',S',h1,h2⟩=>⟨S1,v,E',S',h1,(G v E' S' y).push F h ob h2⟩,fun F F' h hF ⟨S1,v,E',S',h1,h2⟩=>⟨S1,v,E',S',h1,(G v E' S' y).less F F' h hF h2⟩⟩,fun w F hF hw=>?_⟩
  obtain⟨S1,t1,t2⟩:=hR F w.heap hF
  refine(RunS.after hd (ho S1 t1) hfl t2).mono ?_
  rintro y w' ⟨g1,⟨u,E2,S2,g4,g2⟩,g3⟩
  exact⟨g1,⟨S1,u,E2,S2,⟨t1,g4⟩,g2⟩,g3⟩
 ·obtain⟨td,htd⟩:=hdst
  have rd: ∀{F h1 v S'},RunS P [] D n K hv0 hs S0 (putV E' o.dst v) S' (a.put o.dst y) F h1→ ∃hv,v.Rl hv y:=fun{F h1 v S'} t2=>by
   obtain⟨_,_,hv',hold,env',ha',s,_⟩:=t2
   obtain⟨y',e1,e2,_⟩:=s.slot td v (by rw[htd];simp[putV,zbr])
   have h1:=ha'.look td y' e1
   have hlt:td<n:=by rw[htd]at hd;simpa [dok] using hd
   rw[htd]at h1 ha'
   have hsz:=ha'.size
   simp only[Act.put]at h1 hsz
   rw[Array.getD_eq_getD_getElem?]at h1
   rw[Array.size_setIfInBounds]at hsz
   rw[Array.getElem?_setIfInBounds_self_of_lt (by omega)]at h1
   simp only[Option.getD_some]at h1
   exact⟨hv',by rw[h1];exact e2⟩
  have hT0:=hT'
  obtain⟨Sa,va,Ea,Sa',⟨u1,u2⟩,u3⟩:=hT0
  obtain⟨rfl,x,rfl⟩:=hT Sa va Ea Sa' u1 u2
  obtain⟨hva,ra⟩:=rd u3
  refine q x K0 K D W hv0 hs _ _ hbx hfl (zok hE hd y) hp hS0 hz ⟨w',hw',hT'⟩ fun F h1 ⟨S1,v,E2,S',⟨t0,t1⟩,t2⟩=>?_
  obtain⟨rfl,x',rfl⟩:=hT S1 v E2 S' t0 t1
  obtain⟨hvb,rb⟩:=rd t2
  obtain rfl:=inj _ _ _ _ _ rb ra
  exact⟨S',⟨S1,t0,t1⟩,t2⟩
theorem DX.bornO {o:Oper} {cl:List V} {T:TypeId} {vb:Nat→Value} (hg:o.guard=none) (hc:zcq o=true) (hb:zea o.op=true) (hd:dok n o.dst=true)
  (hr: ∃cs:List Value,(∀hv,RlL hv cl cs)∧Ones cs∧ ∀(a:Act) (w:World),a.tmps.size=n→(execOp a.eval o).run P w = .ok (.value (vb w.heap.size)) {w with heap:=w.heap.push (.cells cs.toArray T)}) (hfree: ∀v∈cl,v.free=true)
  (q: ∀u,zae S0 u=none→DX P n r Q ops S0 l k (putV E0 o.dst (.v (vb u))) (putV E o.dst (.v (vb u))) (fun S'=> ∃S1,T1 S1∧zae S1 u=none∧S'=(u, .cells cl T)::S1)):DX P n r Q ops S0 (o::l) k E0 E T1:=fun K0 K D W hv0 hs a SPs hbx hfl hE hp hS0 hz hl hR=>by
 obtain⟨w1,hw1,hSP⟩:=hl
 obtain⟨_,_,_,_,hv1,hold1,env1,ha1,s1,_⟩:=hR noF w1.heap hSP
 obtain⟨cs,c1,c2,c3⟩:=hr
 show SW P ops.toArray _ W _ (o::l) SPs a
 unfold SW Front
 rw[if_pos (by simp[Region.wanted,hg]),if_pos hc]
 refine⟨fun u _=>vb u,fun u _=>zeu SPs u (.cells cs.toArray T),?_,fun u _ ⟨w',hw',hT⟩=>?_⟩
 ·unfold Spec
  rw[if_pos hb]
  exact⟨.cells cs.toArray T,vb,rfl,fun w=>c3 a w ha1.size,rfl,rfl⟩
 ·have key: ∀F h1,zeu SPs u (.cells cs.toArray T) F h1→ ∃S1,T1 S1∧RunS P [] D n K hv0 hs S0 (putV E o.dst (.v (vb u))) ((u, .cells cl T)::S1) (a.put o.dst (vb u)) F h1∧zae S1 u=none∧zae S0 u=none:=by
   rintro F h1 ⟨t1,t2,t3⟩
   obtain⟨S1,t0,p1,p2,hv',hold,env',ha',s,p,f,g⟩:=hR _ h1 t1
   have hu:=p1 u (.inr rfl)
   have fu:=f u (.inr rfl)
   have hB: ¬K.B u:=fun hb=>by
    have:=s.base.1 u hb
    omega
   have nS:zae S1 u=none∧zae S0 u=none:=by
    have:=fu.2
    rw[zbp]at this
    cases e:zae S1 u with
    | some o=>rw[e]at this;cases this
    | none=>rw[e]at this;exact⟨rfl,this⟩
   refine⟨S1,t0,⟨fun b hb=>p1 b (.inl hb),⟨p2.1,MpOk.nil⟩,hv',hold,_,ha'.put' hd (vb u),(s.adoptO t3 hB fu.1 (c1 hv') c2 hfree).put o.dst V.Rl_v fun _ _=>trivial,p,fun b hb=>⟨(f b (.inl hb)).1,?_⟩,fun b ob e=>?_⟩,nS⟩
   ·show zae ((u,_)::(S1++S0)) b=none
    simp only[zae]
    rw[if_neg (fun(e:u=b)=>t2 (by subst e;exact hb))];exact(f b (.inl hb)).2
   ·obtain⟨g1,g2,g3⟩:=g b ob e
    refine⟨g1,?_,g3⟩
    simp only[zae]
    rw[if_neg (fun e=>by subst e;omega)];exact g2
  obtain⟨_,_,_,_,n2⟩:=key noF w'.heap hT
  exact q u n2 K0 K D W hv0 hs _ _ hbx hfl (zml hE hd V.Rl_v) hp hS0 hz ⟨w',hw',hT⟩ fun F h1 hF=>let ⟨S1,a1,a2,a3,_⟩:=key F h1 hF;⟨_,⟨S1,a1,a3,rfl⟩,a2⟩
theorem DX.alloc {T:TypeId} {z:Value} (hd:dok n dst=true) (hz:zcr P T=some z) (ho:zhu z.cells.toList=true) (q: ∀u,zae S0 u=none→DX P n r Q ops S0 l k (putV E0 dst (.v (.pointer (some ⟨u,0,none⟩)))) (putV E dst (.v (.pointer (some ⟨u,0,none⟩)))) (fun S'=> ∃S1,T1 S1∧zae S1 u=none∧S'=(u, .cells (z.cells.toList.map V.v) T)::S1)) :
  DX P n r Q ops S0 (⟨dst, .alloc T,ty,pos,af,none⟩::l) k E0 E T1:=by
 refine DX.bornO (vb:=fun u => .pointer (some ⟨u,0,none⟩)) rfl rfl rfl hd ⟨z.cells.toList,fun hv=>zha _,zge ho,fun a w hsz=>?_⟩ (zev _) q
 have ha:Agree a.defers n [] a:=⟨hsz,rfl,fun t v e=>by cases e⟩
 refine zle (P:=P) (y:=fun u => .pointer (some ⟨u,0,none⟩)) ha (fun i=>by simp[undef]) (fun h1'=>?_) w
 simp only[hop,hz]
end
end Go.XL
namespace Go.XL
open Go.Proofs
set_option maxRecDepth 100000
set_option maxHeartbeats 4000000
def DCf (v1:VH) (P:Program) (f:FuncId) (args:List V) (S:Sto) (R:V→Sto→Prop):Prop:= ∀v0,PreV v1 v0→DCh v0 P f args S R
theorem DCf.of_run {v1:VH} {P:Program} {f:FuncId} {fn:Func} {c:Code} {args:List V} {S:Sto} {R:V→Sto→Prop} (hf:P.funcs[f]?=some fn) (hb:fn.body=some c) {m:Nat} (hm:fn.ntmps=m) {rs:List ResultVar} (hrs:fn.results=rs.toArray) (hn:args.length≤m)
  (q: ∀(v0:VH) (hk0:Kn v0),PreV v1 v0→DS P m ⟨none,v0,hk0⟩ (FinV P rs R) [.code c] (argV 0 args) S):DCf v1 P f args S R:=fun v0 hp K hv hold h xs hfl ha st=>(DCh.of_run (K.kn.mono st.vbase.1) hf hb hm hrs hn (q hv _ (hp.trans hfl))) K hv hold h xs (PreV.refl hv) ha st
theorem St.freezeV {K:Bs} {hv:VH} {hold:Nat→Option Hd} {E:VEnv} {S:Sto} {env:Env} {h:Heap} (s:St K hv hold E S env h) {b:Nat} {cs0:List Value} {T:TypeId} (hS:zae S b=some (.cells (cs0.map V.v) T)) :
  ∃hv',PreV hv hv'∧St K hv' hold E (delS b S) env h∧hv' b=some (.cells cs0.toArray T (0,0)):=by
 obtain⟨o1,o2,cs,o3,o4,o5,o6⟩:=s.obj b _ hS
 have hcs:cs=cs0:=by
  have key: ∀(l:List Value) (ys:List Value),RlL hv (l.map V.v) ys→ys=l:=by
   intro l
   induction l with
   | nil=>intro ys h;simpa [RlL] using h
   | cons a l ih =>
    intro ys h
    simp only[List.map_cons,RlL,V.Rl]at h
    obtain⟨z,zs,rfl,rfl,h3⟩:=h
    rw[ih _ h3]
  exact key _ _ o4
 subst hcs
 have hpre:PreV hv (addB hv b (.cells cs.toArray T (0,0))):=zgp (.inl o2)
 refine⟨_,hpre,⟨zhi s.pre o3 (leO.refl _),fun t v e=>?_,fun b' o e=>?_,s.held,s.base,s.vbase.1.trans hpre,fun j hj=>?_⟩,zed ..⟩
 ·obtain⟨y,h1,h2,h3⟩:=s.slot t v e
  refine⟨y,h1,V.Rl_mono hpre v y h2,h3.keep fun g ob a1 a2 a3=>⟨rfl,zcl _ fun e=>?_,a1⟩⟩
  subst e;rw[o2]at a2;cases a2
 ·rw[zbz]at e
  split at e
  ·cases e
  ·rename_i hb
   obtain⟨r1,r2,r3⟩:=s.obj b' o e
   exact⟨r1,by rw[zcl _ hb];exact r2,Ob.keep r3 hpre rfl fun g i ob a1 a2 a3=>⟨rfl,zcl _ (fun e=>by subst e;rw[o2]at a2;cases a2),a1⟩⟩
 ·have hne:j≠b:=fun e=>by subst e;exact o1 hj
  rw[zcl _ hne];exact s.vbase.2 j hj
def VHs :List (Nat×List Value×TypeId)→VH
 | [],_=>none
 | (b,cs,T)::r,j=>if j=b then some (.cells cs.toArray T (0,0))else VHs r j
def yew :List (Nat×List Value×TypeId)→Sto→Sto
 | [],S=>S
 | (b,_,_)::r,S=>yew r (delS b S)
theorem St.freezeVs {K:Bs} {hold:Nat→Option Hd} {E:VEnv} {env:Env} {h:Heap}: ∀(F:List (Nat×List Value×TypeId)) {hv:VH} {S:Sto},St K hv hold E S env h→F.Pairwise (fun a b=>a.1≠b.1)→(∀x∈F,zae S x.1=some (.cells (x.2.1.map V.v) x.2.2)) →
  ∃hv',PreV hv hv'∧St K hv' hold E (yew F S) env h∧PreV (VHs F) hv'
 | [],hv,S,s,_,_=>⟨hv,PreV.refl hv,s,fun _ _ e=>by cases e⟩
 | (b,cs,T)::r,hv,S,s,hp,hF=>by
  rw[List.pairwise_cons]at hp
  obtain⟨hv1,p1,s1,e1⟩:=s.freezeV (hF _ (List.mem_cons_self ..))
  obtain⟨hv2,p2,s2,e2⟩:=St.freezeVs r s1 hp.2 (fun x hx=>by
   rw[zbz,if_neg (fun e=>hp.1 x hx e.symm)];exact hF x (List.mem_cons_of_mem _ hx))
  refine⟨hv2,p1.trans p2,s2,fun j o ej=>?_⟩
  simp only[VHs]at ej
  split at ej
  ·rename_i hj;subst hj;cases ej
   exact p2 _ _ e1
  ·exact e2 j o ej
section
variable {v0:VH} {P:Program} {n:Nat} {r:Rr} {Q:VEnv→Sto→Prop} {k:List Fr} {E E0:VEnv} {S S0:Sto} {T1:Sto→Prop} {dst:Option Tmp} {ty:TypeId} {pos:String} {af:Array Edge} {ts:Array TypeId} {ops l:List Oper}
theorem zux {cx:Operand} {g:FuncId} {cs:List Value} {args:List V} {xs:Array Operand} {fn:Func} {S1 S2:Sto} {R:V→Sto→Prop} (hf:FnOk P g fn) (hcx:evV E cx=some (.v (.func (.func g) #[] cs.toArray))) (he:evsV (evV E) xs.toList=some args)
  (hc:DCh v0 P g (args++cs.map V.v) S1 R) (h1: ∀b o,zae S1 b=some o→zae S b=some o) (h2: ∀b o,zae S2 b=some o→zae S b=some o∧zae S1 b=none) :
  OpS v0 P n ⟨dst, .call {callee := .value cx,args:=xs,argTypes:=ts},ty,pos,af,none⟩ E S (fun v E' S'=>E'=E∧ ∃S0,S'=S0++S2∧R v S0∧ ∀b o,zae S0 b=some o→zae S2 b=none):=by
 intro K D hv hold env a w hfl ha s
 obtain⟨y,e1,e2⟩:=s.rl _ _ hcx
 simp only[V.Rl]at e2;subst e2
 obtain⟨ax,e5,e6⟩:=zfp s.rl he
 obtain⟨K',hcl,s1,back⟩:=s.call h1 h2
 refine zfz (fs:= []) (cs:=cs) ha hf e1 e5 ?_
 refine(hc K' hv hcl w.heap _ hfl (by simpa using e6.app (zha cs)) s1 w rfl).mono fun e w' ⟨v,ev,hs,u,S',hv',hold',p1,p2,p3⟩=>?_
 obtain⟨hold2,q1,q2⟩:=back (d:=dst) p1 p2
 exact⟨v,ev,hs,u,E,_,hv',hold2,p1,q1,rfl,S',rfl,p3,q2⟩
theorem yks {t:Nat} {cx:Operand} {g:FuncId} {cs:List Value} {args:List V} {xs:Array Operand} {fn:Func} {R:V→Sto→Prop} (hf:FnOk P g fn) (hcx:evV E cx=some (.v (.func (.func g) #[] cs.toArray))) (he:evsV (evV E) xs.toList=some args) (S1 S2:Sto)
  (hc:DCh r.v0 P g (args++cs.map V.v) S1 R) (h1: ∀b o,zae S1 b=some o→zae S b=some o) (h2: ∀b o,zae S2 b=some o→zae S b=some o∧zae S1 b=none) (hd:decide (t<n)=true)
  (q: ∀u S',R u S'→(∀b o,zae S' b=some o→zae S2 b=none)→DS P n r Q (.ops ops l::k) ((t,u)::E) (S'++S2)):DS P n r Q (.ops ops (⟨some t, .call {callee := .value cx,args:=xs,argTypes:=ts},ty,pos,af,none⟩::l)::k) E S:=by
 refine zce rfl rfl hd (zux hf hcx he hc h1 h2) fun v E' S' ⟨eE,S0,eS,hR,hdis⟩=>?_
 subst eE;subst eS
 simpa [putV] using q v S0 hR hdis
theorem yga {cx:Operand} {g:FuncId} {cs:List Value} {args:List V} {xs:Array Operand} {fn:Func} {S1:Sto} {R:V→Sto→Prop} (F:List (Nat×List Value×TypeId)) (hF:F.Pairwise (fun a b=>a.1≠b.1)) (hFS: ∀x∈F,zae S x.1=some (.cells (x.2.1.map V.v) x.2.2))
  (hf:FnOk P g fn) (hcx:evV E cx=some (.v (.func (.func g) #[] cs.toArray))) (he:evsV (evV E) xs.toList=some args)
  (hc:DCf (VHs F) P g (args++cs.map V.v) S1 R) (h1: ∀b o,zae S1 b=some o→zae (yew F S) b=some o) :
  OpS v0 P n ⟨dst, .call {callee := .value cx,args:=xs,argTypes:=ts},ty,pos,af,none⟩ E S (fun v E' S'=>E'=E∧R v S'):=by
 intro K D hv0 hold env a w hfl ha s0
 obtain⟨hv,hp0,s,hp1⟩:=s0.freezeVs F hF hFS
 obtain⟨y,e1,e2⟩:=s.rl _ _ hcx
 simp only[V.Rl]at e2;subst e2
 obtain⟨ax,e5,e6⟩:=zfp s.rl he
 obtain⟨K',hcl,s1,back⟩:=s.call (S2:= []) h1 (fun _ _ e=>by cases e)
 refine zfz (fs:= []) (cs:=cs) ha hf e1 e5 ?_
 refine(hc hv hp1 K' hv hcl w.heap _ (PreV.refl hv) (by simpa using e6.app (zha cs)) s1 w rfl).mono fun e w' ⟨v,ev,hs,u,S',hv',hold',p1,p2,p3⟩=>?_
 obtain⟨hold2,q1,q2⟩:=back (d:=dst) p1 p2
 exact⟨v,ev,hs,u,E,_,hv',hold2,hp0.trans p1,q1,rfl,by rw[List.append_nil];exact p3⟩
theorem yku {t:Nat} {cx:Operand} {g:FuncId} {cs:List Value} {args:List V} {xs:Array Operand} {fn:Func} {S1:Sto} {R:V→Sto→Prop} (F:List (Nat×List Value×TypeId)) (hF:F.Pairwise (fun a b=>a.1≠b.1)) (hFS: ∀x∈F,zae S x.1=some (.cells (x.2.1.map V.v) x.2.2))
  (hf:FnOk P g fn) (hcx:evV E cx=some (.v (.func (.func g) #[] cs.toArray))) (he:evsV (evV E) xs.toList=some args)
  (hc:DCf (VHs F) P g (args++cs.map V.v) S1 R) (h1: ∀b o,zae S1 b=some o→zae (yew F S) b=some o) (hd:decide (t<n)=true)
  (q: ∀u S',R u S'→DS P n r Q (.ops ops l::k) ((t,u)::E) S'):DS P n r Q (.ops ops (⟨some t, .call {callee := .value cx,args:=xs,argTypes:=ts},ty,pos,af,none⟩::l)::k) E S:=by
 refine zce rfl rfl hd (yga F hF hFS hf hcx he hc h1) fun v E' S' ⟨eE,hR⟩=>?_
 subst eE
 exact q v S' hR
theorem DX.callR {t:Nat} {cx:Operand} {g:FuncId} {cs:List Value} {args:List V} {xs:Array Operand} {fn:Func} {R:V→Sto→Prop} {u0:V} (hf:FnOk P g fn) (hcx:evV E cx=some (.v (.func (.func g) #[] cs.toArray))) (he:evsV (evV E) xs.toList=some args)
  (hc: ∀S1,T1 S1→DCh r.v0 P g (args++cs.map V.v) S1 R) (hR: ∀v S',R v S'→v=u0) (hd:decide (t<n)=true)
  (q:DX P n r Q ops S0 l k (delV t E0) ((t,u0)::E) (fun S'=>R u0 S')):DX P n r Q ops S0 (⟨some t, .call {callee := .value cx,args:=xs,argTypes:=ts},ty,pos,af,none⟩::l) k E0 E T1:=by
 refine DX.stepX (ι:=Unit) (fun _=>u0) (fun _ _ _ _ _ _ _=>rfl) (T:=fun S1 u E' S'=>E'=E∧R u S') rfl rfl rfl hd (fun S1 h=>?_) (E':=E) (fun S1 v E2 S' _ h=>⟨h.1,(),hR v S' h.2⟩) ⟨t,rfl⟩ fun _=>?_
 ·refine OpS.mono (zux hf hcx he (S1:=S1) (S2:= []) (hc S1 h) (fun _ _ e=>e) (fun _ _ e=>by cases e)) ?_
  rintro u E' S' ⟨rfl,S2,rfl,h1,-⟩
  exact⟨rfl,by rw[List.append_nil];exact h1⟩
 ·intro K0 K D W hv0 hs a SPs h1 h2 h3 h4 h5 h6 h7 h8
  exact q K0 K D W hv0 hs a SPs h1 h2 h3 h4 h5 h6 h7 fun F h hF=>let ⟨S',⟨S1,a1,a2,a3⟩,a6⟩:=h8 F h hF;⟨S',a3,a6⟩
theorem zuy {T m t:Nat} {a0:Addr} {x:Value} {p:Operand} (hd:decide (t<n)=true) (ht:tsz P T=some (false,m)) (hp:evV E p=some (.v (.pointer (some a0)))) (hx:zfq r.v0 a0=some x)
  (q:DS P n r Q (.ops ops l::k) ((t, .v x)::E) S):DS P n r Q (.ops ops (⟨some t, .load T p,ty,pos,af,none⟩::l)::k) E S:=fun K W a w ⟨K',D,hvv,hold,env,hb,ha,s⟩ hw=>by
 have hc:cell w.heap a0=some x:=s.pre.cell ((hb.floor s).cell hx)
 obtain⟨y,e1,e2⟩:=s.rl _ _ hp
 simp only[V.Rl]at e2;subst e2
 have hr:(execOp a.eval ⟨some t, .load T p,ty,pos,af,none⟩).run P w = .ok (.value x) w:=by
  refine zgz ha ?_
  simp only[dop,e1,ldT,ht]
  exact hc
 refine zkn (zhp rfl a) ⟨fun _ _=>trivial,?_⟩
 rw[Oper.semAt_eq _ _ _ (zgf yR),hr]
 exact q K W _ w ⟨K',D,hvv,hold,XL.put env (some t) x,hb,ha.put' (d:=some t) hd _,s.put (some t) V.Rl_v fun _ _=>V.free_Own rfl _⟩ hw
theorem DX.ldF {T m t:Nat} {a0:Addr} {x:Value} {p:Operand} (hd:decide (t<n)=true) (ht:tsz P T=some (false,m)) (hp:evV E0 p=some (.v (.pointer (some a0)))) (hx:zfq r.v0 a0=some x)
  (q:DX P n r Q ops S0 l k ((t, .v x)::E0) ((t, .v x)::E) T1):DX P n r Q ops S0 (⟨some t, .load T p,ty,pos,af,none⟩::l) k E0 E T1:=fun K0 K D W hv0 hs a SPs hbx hfl hE hpre hS0 hz hl hR=>by
 obtain⟨env,ha,hE'⟩:=hE
 have rl:RlO hv0 (evV E0) (ev env):=by
  intro x u e
  cases x with
  | tmp t=>exact hE' t u e
  | const c=>simp only[evV,Option.some.injEq]at e;subst e;exact⟨c,rfl,V.Rl_v⟩
  | global g=>simp only[evV,Option.some.injEq]at e;subst e;exact⟨_,rfl,yib (r.kn.mono hfl) g⟩
  | func g=>simp only[evV,Option.some.injEq]at e;subst e;exact⟨_,rfl,by simp only[V.Rl];exact⟨[],[],rfl,by simp[RlL],by simp[RlL]⟩⟩
 obtain⟨y,e1,e2⟩:=rl _ _ hp
 simp only[V.Rl]at e2;subst e2
 have hc:=hfl.cell hx
 show SW P ops.toArray _ W _ (_::l) SPs a
 unfold SW Front
 rw[if_pos (by simp[Region.wanted]),if_neg (by simp[zcq,zjb,ztn])]
 refine⟨x, .inl fun w' hw'=>zgz ha ?_,?_⟩
 ·simp only[dop,e1,ldT,ht]
  exact hw'.1.cell hc
 refine q K0 K D W hv0 hs _ SPs hbx hfl (zml (dst:=some t) ⟨env,ha,hE'⟩ hd V.Rl_v) hpre hS0 hz hl fun F h1 hF=>?_
 obtain⟨S1,t1,p1,p2,hv',hold,env',ha',s,p,f,g⟩:=hR F h1 hF
 exact⟨S1,t1,p1,p2,hv',hold,_,ha'.put' (d:=some t) hd x,s.put (some t) V.Rl_v fun _ _=>V.free_Own rfl x,p,f,g⟩
end
end Go.XL
namespace Go.XL
open Go.Proofs
open Go.Maps (Keyed)
set_option maxRecDepth 100000
set_option maxHeartbeats 8000000
def yfn (x:Int×Nat):Value := .agg #[.int .i64 x.1, .int .u64 (x.2:Nat)]
abbrev zwm (x:Int×Nat):V := .agg [I x.1,UN x.2]
theorem zzi (hv:VH) (x:Int×Nat):(zwm x).Rl hv (yfn x):=by
 simp only[V.Rl,RlL,yfn]
 exact⟨_,rfl,_,_,rfl,rfl,_,_,rfl,rfl,rfl⟩
theorem yjy (x:Int×Nat):(zwm x).Is (yfn x):=V.Is.two _ _
structure Memo (S:Sto) (bm:Nat) (best:Nat→Int×Nat):Prop where
 out: ∃f es clock,zae S bm=some (.raw (.map es clock))∧MapIs Tryz.prog 82 f es clock∧ ∀k:Nat,k<18446744073709551616→ ∀v,f (.int .u64 (k:Nat))=some v→v=yfn (best k)
abbrev ptrV (b:Nat):Value := .pointer (some ⟨b,0,none⟩)
def zun (b15 b16 b14 b11:Nat):List Value:= [ptrV b15,ptrV b16,ptrV b14,ptrV b11]
structure Fl (v1:VH) (b15 b16 b14 b11 bm bc bv n:Nat) (cl:Nat→Nat) (vs:Nat→Int):Prop where
 k15:zfq v1 ⟨b15,0,none⟩=some (.map (some bm))
 k16:zfq v1 ⟨b16,0,none⟩=some (.func (.func 28) #[] (zun b15 b16 b14 b11).toArray)
 k14:zfq v1 ⟨b14,0,none⟩=some (.slice (some ⟨bc,0,none⟩) n n)
 kc: ∀i,i<n→zfq v1 ⟨bc,i,none⟩=some (.int .u64 (cl i:Nat))
 k11:zfq v1 ⟨b11,0,none⟩=some (.slice (some ⟨bv,0,none⟩) n n)
 kv: ∀i,i<n→zfq v1 ⟨bv,i,none⟩=some (.int .i64 (vs i))
theorem Fl.mono {v1 v2:VH} {b15 b16 b14 b11 bm bc bv n:Nat} {cl:Nat→Nat} {vs:Nat→Int} (h:Fl v1 b15 b16 b14 b11 bm bc bv n cl vs) (p:PreV v1 v2):Fl v2 b15 b16 b14 b11 bm bc bv n cl vs :=
 ⟨p.cell h.k15,p.cell h.k16,p.cell h.k14,fun i hi=>p.cell (h.kc i hi),p.cell h.k11,fun i hi=>p.cell (h.kv i hi)⟩
theorem keyU (m:Nat) (hm:m<18446744073709551616):zpb Tryz.prog 82 (.int .u64 (m:Nat)):=by
 have hw:(Lit.int .u64 (m:Int)).wf=true:=by
  have h1:decide (IntKind.u64.min≤(m:Int))=true:=decide_eq_true (show(0:Int)≤m by omega)
  have h2:decide ((m:Int)≤IntKind.u64.max)=true:=decide_eq_true (show(m:Int)≤18446744073709551615 by omega)
  simp only[Lit.wf,h1,h2,Bool.and_self]
 refine⟨.int .u64 (m:Int),?_⟩
 unfold keyOf
 rw[Tryz.underlying82]
 simp[mapKey,Tryz.underlying82,hw]
theorem Memo.of {S S':Sto} {bm:Nat} {best:Nat→Int×Nat} (h:Memo S bm best) (e:zae S' bm=zae S bm):Memo S' bm best:=by
 obtain⟨f,es,clock,h1,h2⟩:=h.out
 exact⟨f,es,clock,e.trans h1,h2⟩
theorem yms {bt b6:Nat} {A B:Ob} {Sx:Sto} (h4:zae Sx b6=none) (b:Nat) (o:Ob) (e:zae ([(bt,A),(b6,B)]++Sx) b=some o):zae ((bt,A)::Sx++ [(b6,B)]) b=some o:=by
 simp only[List.cons_append,List.nil_append,zae]at e ⊢
 by_cases h:bt=b
 ·rw[if_pos h]at e ⊢;exact e
 ·rw[if_neg h]at e ⊢
  rw[zbp]
  by_cases h2:b6=b
  ·subst h2
   rw[if_pos rfl]at e
   rw[h4];simpa [zae] using e
  ·rw[if_neg h2]at e
   rw[e]
theorem yhn {bt b6:Nat} {A B:Ob} {Sx:Sto} (hd: ∀b o,zae Sx b=some o→zae [(bt,A),(b6,B)] b=none) (b:Nat) (o:Ob) (e:zae ([(bt,A),(b6,B)]++Sx) b=some o):zae (Sx++ [(bt,A),(b6,B)]) b=some o:=by
 rw[zbp]at e ⊢
 cases h:zae Sx b with
 | none=>rw[h]at e;cases h2:zae [(bt,A),(b6,B)] b with
  | none=>rw[h2]at e;cases e
  | some x=>rw[h2]at e;exact e
 | some x =>
  rw[hd b x h,h]at e
  exact e
theorem yX28 {p:Prop} (h:p:=by(simp (disch:=omega) only[go_sem,dopV,yV0,↓reduceIte,Nat.reduceEqDiff,Nat.reduceLT,Nat.reduceLeDiff,Nat.reduceAdd,Nat.reduceMul,Nat.reduceSub,Int.reduceToNat,Int.reduceLT,Int.reduceLE,Int.reduceEq,IntWalk.toNatUp,IntWalk.iteOmega,IntWalk.i64_in,V.flat,V.one,setS];exact rfl)):p:=h
theorem ydo {v1:VH} {b15 b16 b14 b11 bm bc bv n:Nat} {cl:Nat→Nat} {vs:Nat→Int} (fl:Fl v1 b15 b16 b14 b11 bm bc bv n cl vs) (hn:n≤40) (hcl: ∀i,cl i<18446744073709551616) (hvs: ∀i,0≤vs i∧vs i≤1000000) :
  ∀(N m:Nat),m<N→m<2 ^ n→ ∀S,Memo S bm (zhz (fun i k=>(cl i).testBit k) vs) →
   DCf v1 Tryz.prog 28 ([UN m]++(zun b15 b16 b14 b11).map V.v) S (fun u S'=>u=zwm (zhz (fun i k=>(cl i).testBit k) vs m)∧Memo S' bm (zhz (fun i k=>(cl i).testBit k) vs))
 | 0,m,h,_,_,_=>by omega
 | N+1,m,hmN,hmn,S,HM=>by
  refine DCf.of_run Tryz.func28 rfl Tryz.ntmps28 Tryz.results28 (by simp[zun]) (fun v0 hk hp=>?_)
  simp only[zun,List.map_cons,List.map_nil,List.cons_append,List.nil_append,zag,zaj,go_sem,Nat.zero_add,Nat.reduceAdd]
  have f0:=fl.mono hp
  refine DS.seq ?_
  repeat' (first|refine yJ ?_|fail)
  refine zbd yR yU yU (fun b6 hb6=>?_)
  have hz:(List.map V.v (Value.agg #[Value.int IntKind.i64 0,Value.int IntKind.u64 0]).cells.toList)= [I 0,UN 0]:=rfl
  rw[hz]
  clear hz
  obtain⟨f,es,clock,q1,q2,q3⟩:=HM.out
  have hne: ¬b6=bm:=fun e=>by rw[e,q1]at hb6;cases hb6
  by_cases h0:m=0
  ·subst h0
   rw[ybj]
   repeat' (first|refine yJT ?_|(refine DS.store yR yE yE yE yE yU yQ ?_;simp only[yS1];try simp only[yS2,Nat.reduceEqDiff,↓reduceIte])|fail)
   all_goals first|(exfalso;omega)|skip
   refine zbi yX28 ⟨rfl,HM.of ?_⟩
   simp only[setS,↓reduceIte,zaa,if_neg hne]
  have h0': ¬(m:Int)=0:=by omega
  have hm64:m<18446744073709551616:=Nat.lt_of_lt_of_le hmn (show 2 ^ n≤2 ^ 64 from Nat.pow_le_pow_right (by omega) (by omega))
  have hl6:zae ((b6,Ob.cells [I 0,UN 0] 84)::S) bm=some (.raw (.map es clock)):=by simp only[zaa,if_neg hne];exact q1
  repeat' (first|refine yJT ?_|fail)
  refine zuy (m:=1) (by decide) yKR yH f0.k15 ?_
  repeat' (first|refine yJ ?_|fail)
  cases hf:f (.int .u64 (m:Nat))with
  | some v =>
   have hv:=q3 m hm64 v hf
   subst hv
   refine zzl (u:=zwm (zhz (fun i k=>(cl i).testBit k) vs m)) (Go.Maps.int_keyed Tryz.underlying82) yU yU q2 (keyU m hm64) yH yH hl6 (fun hv=>by rw[hf];exact zzi hv _) (by rw[hf];rfl) yR ?_
   simp only[zbj,hf,Option.isSome_some]
   generalize zhz (fun i k=>(cl i).testBit k) vs m=x at *
   repeat' (first|refine yJT ?_|(refine zbs (t:=7) yU yE yU (fun _=>yE) yE yU yV1 (fun _=>yN1) ?_;simp only[go_sem])|(refine DS.store yR yE yE yE yE yU yQ ?_;simp only[yS1];try simp only[yS2,Nat.reduceEqDiff,↓reduceIte])|fail)
   refine zbi yX12 ⟨rfl,HM.of ?_⟩
   simp only[setS,↓reduceIte,zaa,if_neg hne]
  | none =>
   refine zzl (u:=zwm (0,0)) (Go.Maps.int_keyed Tryz.underlying82) yU yU q2 (keyU m hm64) yH yH hl6 (fun hv=>by rw[hf];exact zzi hv (0,0)) (by rw[hf];rfl) yR ?_
   simp only[zbj,hf,Option.isSome_none]
   obtain⟨i,hi⟩: ∃i,i=Lib.ctz 64 m:=⟨_,rfl⟩
   obtain⟨rm,hrm⟩: ∃rm,rm=andN m (2 ^ i):=⟨_,rfl⟩
   have hcz:=yli m hm64
   have hst:=ybk cl vs h0 (by simpa using hm64) i hi rm hrm
   have hi64:i<64:=by rw[hi];exact ylj h0 (by simpa using hm64)
   rw[←hi]at hcz
   have hbit:=(zue h0 (by simpa using hm64)).1
   rw[←hi]at hbit
   have hin:i<n:=by
    refine Decidable.byContradiction fun h=>?_
    rw[Nat.testBit_lt_two_pow (Nat.lt_of_lt_of_le hmn (Nat.pow_le_pow_right (by omega) (by omega)))]at hbit
    cases hbit
   have p1:2 ^ i<18446744073709551616:=show _<2 ^ 64 from Nat.pow_lt_pow_right (by omega) hi64
   have hrlt:rm<m:=by
    have h1:rm≤m:=by rw[hrm];exact Nat.and_le_left
    rcases Nat.lt_or_ge rm m with h|h
    ·exact h
    ·have he:rm=m:=by omega
     have h2:=zlm (2 ^ i) (show m<2 ^ 64 by simpa using hm64) i
     rw[←hrm,he,hbit,Nat.testBit_two_pow]at h2
     simp at h2
   have hr64:rm<18446744073709551616:=by omega
   obtain⟨r2,hr2⟩: ∃r2,r2=andN rm (cl i):=⟨_,rfl⟩
   have hr2lt:r2≤rm:=by rw[hr2];exact Nat.and_le_left
   have s1:bop Tryz.prog .shl 82 (.int .u64 1) (.int .i64 (i:Int))=some (.int .u64 ((2 ^ i:Nat):Int)):=zne hi64
   have s2:bop Tryz.prog .andNot 82 (.int .u64 (m:Int)) (.int .u64 ((2 ^ i:Nat):Int))=some (.int .u64 ((rm:Nat):Int)):=by rw[hrm];exact zoo hm64 p1
   have s3:bop Tryz.prog .andNot 82 (.int .u64 (rm:Int)) (.int .u64 ((cl i:Nat):Int))=some (.int .u64 ((r2:Nat):Int)):=by rw[hr2];exact zoo hr64 (hcl i)
   have s4:bop Tryz.prog .and 82 (.int .u64 (rm:Int)) (.int .u64 ((cl i:Nat):Int))=some (.int .u64 ((rm &&& cl i:Nat):Int)):=zzh hr64 (hcl i)
   rw[←hr2]at hst
   have ih2:=fun S' hS'=>ydo fl hn hcl hvs N r2 (by omega) (by omega) S' hS' v0 hp
   have ih1:=fun S' hS'=>ydo fl hn hcl hvs N rm (by omega) (by omega) S' hS' v0 hp
   have hb2: ∀x,(zhz (fun i k=>(cl i).testBit k) vs x).2<18446744073709551616∧0≤(zhz (fun i k=>(cl i).testBit k) vs x).1∧(zhz (fun i k=>(cl i).testBit k) vs x).1≤64*1000000:=fun x=>by
    have hbl:(zfv x).length≤64:=by
     have:=List.length_filter_le (fun i=>x.testBit i) (List.range 64)
     simpa [zfv] using this
    have h1:=zsa (fun i k=>(cl i).testBit k) vs (B:=1000000) (by omega) hvs 64 (zfv x) hbl
    refine⟨zrl _ fun j hj=>(zwl x j ((zll _ _ _ _ (Nat.le_refl _)).subset hj)).1,h1.1,by rw[zhz];simpa using h1.2⟩
   generalize hbest:zhz (fun i k=>(cl i).testBit k) vs=best at *
   have HS:=Box.mk (And.intro hst (And.intro ih1 (And.intro ih2 (And.intro hb2 (And.intro q2 q3)))))
   clear hst ih1 ih2 hb2 q3 hrm hi hr2 hbit hf
   repeat' (first|refine yJT ?_|(refine zbs (t:=7) yU yE yU (fun _=>yE) yE yU yV1 (fun _=>yN1) ?_;simp only[go_sem])|refine zan inferInstance (hcz) yR yT ?_|fail)
   refine zbx (id:=8) ([(b6,Ob.cells [I 0,UN 0] 84)]) (S) [0,1,2,3,4,5,6,7,8] 9 yKR mixed yP1 yP2 ((fun b o e=>by
    simp only[zaa,zah]at e ⊢
    split at e
    ·rename_i h;subst h;exact⟨by rw[if_pos rfl];exact e,hb6⟩
    ·cases e)) ((fun b o e=>by
    simp only[zaa]
    rw[if_neg (fun h=>by subst h;rw[hb6]at e;cases e)];exact e)) ?_
   refine ylm ?_
   refine DX.ldF (m:=1) (by decide) yKR yH f0.k16 ?_
   refine DX.flt rfl rfl yR yG ?_
   simp only[zbj]
   refine DX.ldF (m:=1) (by decide) yKR yH f0.k14 ?_
   refine DX.flt rfl rfl yR yG ?_
   simp only[zbj]
   refine DX.flt rfl rfl yR yG ?_
   simp only[zbj]
   refine DX.ldF (m:=1) (by decide) yKR yH (f0.kc i hin) ?_
   refine DX.flt rfl rfl yR (by(simp (disch:=omega) only[go_sem,dopV,yV0,↓reduceIte,Nat.reduceEqDiff,Nat.reduceLT,Nat.reduceLeDiff,Nat.reduceAdd,Nat.reduceMul,Nat.reduceSub,Int.reduceToNat,Int.reduceLT,Int.reduceLE,Int.reduceEq,IntWalk.toNatUp,IntWalk.iteOmega,IntWalk.i64_in,V.flat,V.one,s3];exact rfl)) ?_
   simp only[zbj]
   refine DX.callR (R:=fun u S'=>u=zwm (best r2)∧Memo S' bm best) (args:= [UN r2]) (u0:=zwm (best r2)) inferInstance yH yH (fun S1 h=>by rw[h];exact HS.out.2.2.1 S HM) (fun v S' h=>h.1) (by decide) ?_
   simp only[zas,zat,Nat.reduceEqDiff,↓reduceIte]
   refine DX.alloc yR yU yU (fun bt hbt=>?_)
   simp only[zbj]
   refine DX.nil (fun S1 h1 hdis=>?_)
   obtain⟨Sx,⟨-,hx1⟩,hx2,rfl⟩:=h1
   generalize hbr:best r2=x2 at *
   have hx34:zae ((bt,Ob.cells [I 0,UN 0] 84)::Sx) b6=none:=hdis b6 (.cells [I 0,UN 0] 84) (by simp only[zaa,↓reduceIte])
   have hx3: ¬bt=b6:=fun e=>by simp[zae,e]at hx34
   have hx4:zae Sx b6=none:=by simpa only[zaa,if_neg hx3] using hx34
   refine zbt (S':= [(bt, .cells [I 0,UN 0] 84),(b6, .cells [I 0,UN 0] 84)]++Sx) (yms hx4) ?_
   clear hdis
   repeat' (first|refine yJ ?_|(refine DS.store yR yE yE yE yE yU yQ ?_;simp only[yS1];try simp only[yS2,Nat.reduceEqDiff,↓reduceIte])|fail)
   have hbx:=HS.out.2.2.2.1 r2
   rw[hbr]at hbx
   have hvi:=hvs i
   have o1:bop Tryz.prog .or 82 (.int .u64 (x2.2:Nat)) (.int .u64 ((2 ^ i:Nat):Int))=some (.int .u64 ((x2.2 ||| 2 ^ i:Nat):Int)):=zrz hbx.1 p1
   refine zbt (S':=(bt, .cells [I x2.1,UN x2.2] 84)::(b6, .cells [I 0,UN 0] 84)::Sx) (fun b o e=>by simp only[setS,↓reduceIte,List.cons_append,List.nil_append];exact e) ?_
   refine zde (E':= [(11, .v (ptrV bt)),(10,UN rm),(9,I (i:Nat)),(6, .v (ptrV b6)),(0,UN m),(1, .v (ptrV b15)),(2, .v (ptrV b16)),(3, .v (ptrV b14)),(4, .v (ptrV b11))]) (zei ⟨by rfl,by rfl,by rfl,by rfl,by rfl,by rfl,by rfl,by rfl,by rfl,trivial⟩) (fun _ _ e=>e) ?_
   skip
   refine zbx (id:=9) ((bt, .cells [I x2.1,UN x2.2] 84)::(b6, .cells [I 0,UN 0] 84)::Sx) ([]) [0,1,2,3,4,5] 6 yKR mixed yP1 yP2 ((fun _ _ e=>⟨e,rfl⟩)) ((fun _ _ e=>by cases e)) ?_
   refine ylm ?_
   refine DX.flt rfl rfl yR yG ?_
   simp only[zbj]
   refine DX.flt rfl rfl yR yG ?_
   simp only[zbj]
   refine DX.ldF (m:=1) (by decide) yKR yH f0.k11 ?_
   refine DX.flt rfl rfl yR yG ?_
   simp only[zbj]
   refine DX.flt rfl rfl yR yG ?_
   simp only[zbj]
   refine DX.ldF (m:=1) (by decide) yKR yH (f0.kv i hin) ?_
   refine DX.nil (fun S1 h1 hdis=>?_)
   subst h1
   simp only[List.nil_append]
   repeat' (first|refine yJ ?_|(refine DS.store yR yE yE yE yE yU yQ ?_;simp only[yS1];try simp only[yS2,Nat.reduceEqDiff,↓reduceIte])|refine zbe (id:=10) [0,1,2,3] 4 yKR mixed yP1 yP2 ?_|(with_reducible first|refine zau yU yU yU yE ?_|refine zbf ?_)|fail)
   refine zuy (m:=1) (by decide) yKR yH f0.k14 ?_
   repeat' (first|refine yJ ?_|fail)
   refine zuy (m:=1) (by decide) yKR yH (f0.kc i hin) ?_
   repeat' (first|refine yJ ?_|fail)
   obtain⟨vm,hvm⟩: ∃vm,vm=x2.1+vs i:=⟨_,rfl⟩
   obtain⟨sm,hsm⟩: ∃sm,sm=x2.2 ||| 2 ^ i:=⟨_,rfl⟩
   have hst:=HS.out.1
   rw[←hvm,←hsm]at hst
   rw[←hvm,←hsm]
   clear hvm hsm
   refine zbt (S':=(bt, .cells [I vm,UN sm] 84)::(b6, .cells [I 0,UN 0] 84)::Sx) (fun b o e=>by simp only[setS,↓reduceIte];exact e) ?_
   refine zde (E':= [(58, .v (.bool (decide (¬((rm &&& cl i:Nat):Int)=0)))),(11, .v (ptrV bt)),(10,UN rm),(6, .v (ptrV b6)),(0,UN m),(1, .v (ptrV b15)),(2, .v (ptrV b16))]) (zei ⟨by rfl,by rfl,by rfl,by rfl,by rfl,by rfl,by rfl,trivial⟩) (fun _ _ e=>e) ?_
   refine zzm (fun _:Sto=> [(11, .v (ptrV bt)),(6, .v (ptrV b6)),(0,UN m),(1, .v (ptrV b15))]) (fun y=>(bt, .cells [I (best m).1,UN (best m).2] 84)::(b6, .cells [I 0,UN 0] 84)::y) (fun y=>Memo y bm best∧zae y bt=none∧zae y b6=none) ?_ (fun y hy=>?_)
   ·by_cases hand:rm &&& cl i=0
    ·have hand':((rm &&& cl i:Nat):Int)=0:=by omega
     have hbm:best m=(vm,sm):=by rw[hst,if_neg (fun h=>h.1 hand)]
     clear hst
     repeat' (first|refine yJT ?_|fail)
     exact DS.back ⟨Sx,⟨hx1,hx2,hx4⟩,yS,fun b o e=>by rw[hbm]at e;exact e⟩
    ·have hand': ¬((rm &&& cl i:Nat):Int)=0:=by omega
     generalize hx1m:best rm=x1 at hst
     repeat' (first|refine yJT ?_|fail)
     refine zuy (m:=1) (by decide) yKR yH f0.k16 ?_
     repeat' (first|refine yJ ?_|fail)
     have hcall:=HS.out.2.1 Sx hx1
     rw[hx1m]at hcall
     refine yks (args:= [UN rm]) inferInstance yH yH Sx [(bt, .cells [I vm,UN sm] 84),(b6, .cells [I 0,UN 0] 84)] hcall (fun b o e=>?_) (fun b o e=>?_) (by decide) (fun u S' hu hdis=>?_)
     ·simp only[zaa]
      rw[if_neg (fun h=>by subst h;rw[hx2]at e;cases e),if_neg (fun h=>by subst h;rw[hx4]at e;cases e)];exact e
     ·simp only[zaa,zah]at e ⊢
      split at e
      ·rename_i h;subst h;exact⟨by rw[if_pos rfl];exact e,hx2⟩
      ·rename_i h
       split at e
       ·rename_i h2;subst h2;exact⟨by rw[if_neg h,if_pos rfl];exact e,hx4⟩
       ·cases e
     obtain⟨rfl,hu2⟩:=hu
     have hd1:zae S' bt=none:=by
      cases h:zae S' bt with
      | none=>rfl
      | some o=>have:=hdis bt o h;simp[zae]at this
     have hd2:zae S' b6=none:=by
      cases h:zae S' b6 with
      | none=>rfl
      | some o=>have:=hdis b6 o h;simp only[zaa,if_neg hx3,↓reduceIte]at this;cases this
     refine zbt (S':= [(bt, .cells [I vm,UN sm] 84),(b6, .cells [I 0,UN 0] 84)]++S') (yhn hdis) ?_
     simp only[List.cons_append,List.nil_append]
     clear hdis
     by_cases hgt:vm<x1.1
     ·have hbm:best m=x1:=by rw[hst,if_pos ⟨hand,hgt⟩]
      clear hst
      repeat' (first|refine yJT ?_|(refine zbs (t:=12) yU yE yU (fun _=>yE) yE yU yV1 (fun _=>yN1) ?_;simp only[go_sem])|(refine DS.store yR yE yE yE yE yU yQ ?_;simp only[yS1];try simp only[yS2,Nat.reduceEqDiff,↓reduceIte])|fail)
      refine DS.back ⟨S',⟨hu2,hd1,hd2⟩,yS,fun b o e=>?_⟩
      rw[hbm]at e
      simp only[setS,↓reduceIte]
      exact e
     ·have hbm:best m=(vm,sm):=by rw[hst,if_neg (fun h=>hgt h.2)]
      clear hst
      repeat' (first|refine yJT ?_|(refine zbs (t:=12) yU yE yU (fun _=>yE) yE yU yV1 (fun _=>yN1) ?_;simp only[go_sem])|fail)
      exact DS.back ⟨S',⟨hu2,hd1,hd2⟩,yS,fun b o e=>by rw[hbm]at e;exact e⟩
   ·obtain⟨hy1,hy2,hy3⟩:=hy
    obtain⟨f2,es2,clock2,g1,g2,g3⟩:=hy1.out
    have hnb: ¬bt=bm:=fun e=>by rw[e,g1]at hy2;cases hy2
    have hl2:zae ((bt,Ob.cells [I (best m).1,UN (best m).2] 84)::(b6,Ob.cells [I 0,UN 0] 84)::y) bm=some (.raw (.map es2 clock2)):=by
     simp only[zaa,if_neg hne,if_neg hnb];exact g1
    clear hst
    generalize hbm:best m=xm at *
    repeat' (first|refine yJ ?_|fail)
    refine zuy (m:=1) (by decide) yKR yH f0.k15 ?_
    repeat' (first|refine yJ ?_|fail)
    refine DS.mapUpdate (val:=yfn xm) (Go.Maps.int_keyed Tryz.underlying82) yU g2 (keyU m hm64) yH yH yH (yjy xm) hl2 yR (fun es3 clock3 g4=>?_)
    simp only[zgs]
    have hl3:zae (setS bm (Ob.raw (Obj.map es3 clock3)) ((bt,Ob.cells [I xm.1,UN xm.2] 84)::(b6,Ob.cells [I 0,UN 0] 84)::y)) bm=some (.raw (.map es3 clock3)):=by rw[zdq hl2,if_pos rfl]
    refine zbt (S':=(bt, .cells [I xm.1,UN xm.2] 84)::(b6, .cells [I 0,UN 0] 84)::setS bm (Ob.raw (Obj.map es3 clock3)) y) (fun b o e=>?_) ?_
    ·simp only[setS,if_neg hne,if_neg hnb];exact e
    clear hl2 hl3
    repeat' (first|refine yJ ?_|(refine DS.store yR yE yE yE yE yU yQ ?_;simp only[yS1];try simp only[yS2,Nat.reduceEqDiff,↓reduceIte])|fail)
    refine zbi yX12 ⟨rfl,⟨_,es3,clock3,?_,g4,fun k hk v hv=>?_⟩⟩
    ·simp only[setS,if_neg hx3,if_neg hne,if_neg hnb,↓reduceIte,zaa]
     rw[zdq g1,if_pos rfl]
    ·by_cases hkm:k=m
     ·subst hkm
      rw[zqq]at hv
      simp only[Option.some.injEq]at hv
      rw[←hv,hbm]
     ·rw[zsj _ _ (fun h=>hkm (by simp only[Value.int.injEq,true_and]at h;omega))]at hv
      exact g3 k hk v hv
end Go.XL
namespace Go.XL
open Go.Proofs
set_option maxRecDepth 100000
set_option maxHeartbeats 4000000
theorem yX29 {p:Prop} (h:p:=by(simp (disch:=omega) only[go_sem,dopV,yV0,↓reduceIte,Nat.reduceEqDiff,Nat.reduceLT,Nat.reduceLeDiff,Nat.reduceAdd,Nat.reduceMul,Nat.reduceSub,Int.reduceToNat,Int.reduceLT,Int.reduceLE,Int.reduceEq,IntWalk.toNatUp,IntWalk.iteOmega,IntWalk.i64_in,V.flat,V.one, *,Int.sub_zero,Int.lt_irrefl];exact rfl)):p:=h
theorem yX30 {p:Prop} (h:p:=by(simp (disch:=omega) only[go_sem,dopV,yV0,↓reduceIte,Nat.reduceEqDiff,Nat.reduceLT,Nat.reduceLeDiff,Nat.reduceAdd,Nat.reduceMul,Nat.reduceSub,Int.reduceToNat,Int.reduceLT,Int.reduceLE,Int.reduceEq,IntWalk.toNatUp,IntWalk.iteOmega,IntWalk.i64_in,V.flat,V.one, *,Int.sub_zero];exact rfl)):p:=h
theorem yX31 {p:Prop} (h:p:=by(simp (disch:=omega) only[go_sem,dopV,yV0,↓reduceIte,Nat.reduceEqDiff,Nat.reduceLT,Nat.reduceLeDiff,Nat.reduceAdd,Nat.reduceMul,Nat.reduceSub,Int.reduceToNat,Int.reduceLT,Int.reduceLE,Int.reduceEq,IntWalk.toNatUp,IntWalk.iteOmega,IntWalk.i64_in,V.flat,V.one, *,Int.sub_zero,Nat.sub_zero];exact rfl)):p:=h
theorem ynd (N:Nat) (hN:N≤1000000):DC Tryz.prog 88 [.v (.slice none 0 0),I N] [] (fun u S'=> ∃g:GR,u=g.cell∧g.l= []∧g.Ok 3 1 S'):=by
 refine DC.of_run Tryz.func88 rfl Tryz.ntmps88 Tryz.results88 (by simp) (fun _ _=>?_);simp only[zag,zaj,go_sem,Nat.zero_add,Nat.reduceAdd]
 by_cases h:N=0
 ·subst h
  repeat' (first|refine yJT ?_|fail)
  refine zwt yU yH yR ?_
  simp only[zbj]
  repeat' (first|with_reducible refine zak yU yU yX29 ?_|refine yJ ?_|(with_reducible (refine zax yX29 ?_;refine zbk ?_))|fail)
  refine zbi yG ⟨⟨[],none⟩,rfl,rfl,rfl⟩
 ·have h1:(0:Int)<(N:Int):=by omega
  have h2: ¬(N:Int)<0:=by omega
  repeat' (first|refine yJT ?_|fail)
  refine zwt yU yH yR ?_
  simp only[zbj]
  repeat' (first|with_reducible refine zak yU yU yX30 ?_|refine yJ ?_|(with_reducible (refine zax yX30 ?_;refine zaz ?_))|fail)
  refine zwt yU yH yR ?_
  simp only[zbj]
  refine ykk yH yH yH yR ?_
  simp only[zbj]
  repeat' (first|with_reducible refine zak yU yU yX30 ?_|fail)
  refine zce rfl rfl yR (ykf (N:=N) (kn := .i64) rfl yH Tryz.underlying3 yH yR yR (by decide) yH yH ⟨by omega,hN⟩ (by decide)) (fun u2 E' S4 hu2=>?_)
  obtain⟨rfl,b,cap,n1,n2,n3,rfl,j,n4,n5,rfl⟩:=hu2
  simp only[zbj]
  repeat' (first|with_reducible refine zak yU yU yX31 ?_|refine yJ ?_|fail)
  refine zbi yG ⟨⟨[],some (b,cap,j)⟩,rfl,rfl,?_⟩
  exact⟨by simp only[zaa,↓reduceIte,List.flatten_nil,List.nil_append],by simpa using n4,Nat.zero_le _,n3,n5,by simp,by simp⟩
theorem ybh (L:List (List Int)) (hL:L.length≤10) (hl: ∀l∈L,l.length≤1000):PC Tryz.prog 61 [.lst (L.map fun l=> [ints l])] (ints L.flatten):=by
 have hsum: ∀i,i≤L.length→(L.take i).flatten.length≤1000*i:=fun i hi=>by
  induction i with
  | zero=>simp
  | succ i ih =>
   have:=ih (by omega)
   have h2:=hl _ (List.getElem_mem (show i<L.length by omega))
   rw[List.take_succ_eq_append_getElem (by omega),List.flatten_append,List.length_append]
   simp only[List.flatten_cons,List.flatten_nil,List.append_nil]
   omega
 have hH:=Box.mk (And.intro hl hsum)
 clear hl hsum
 refine DC.of_run Tryz.func61 rfl Tryz.ntmps61 Tryz.results61 (by simp) (fun _ _=>?_);simp only[zag,zaj,go_sem,Nat.zero_add,Nat.reduceAdd]
 repeat' (first|refine yJ ?_|fail)
 refine zbq [0,9,10] yN (fun(i:Nat)=> [(3,I ((L.take i).flatten.length:Nat)),(11,I i)]) (fun(i:Nat)=>i≤L.length) (fun(i:Nat)=>L.length-i) 0 yS (Nat.zero_le _) (fun i B hI hB=>?_);try dsimp only at hI hB;simp only[zad,zaf]
 by_cases hi:i<L.length
 ·have hi':(i:Int)<(L.length:Int):=by omega
  have h1:=hH.out.1 _ (List.getElem_mem hi)
  have h2:=hH.out.2 i (by omega)
  have h3:((L.take (i+1)).flatten.length:Int)=((L.take i).flatten.length:Int)+(L[i].length:Int):=by
   rw[List.take_succ_eq_append_getElem hi,List.flatten_append,List.length_append]
   simp only[List.flatten_cons,List.flatten_nil,List.append_nil]
   omega
  have h4: ¬((L.take i).flatten.length:Int)+(L[i].length:Int)<0:=by omega
  repeat' (first|refine yJT ?_|fail)
  exact DS.back (hB (i+1) _ _ (by omega) (by omega) yS yS (fun b o e=>by first|exact e|(simp only[zaa];split <;> simp_all)))
 ·have hi': ¬(i:Int)<(L.length:Int):=by omega
  have he:i=L.length:=by omega
  have h2:=hH.out.2 i hI
  rw[he,List.take_length]at h2
  have hg:=ynd L.flatten.length (by omega)
  have ht:(L.take i).flatten.length=L.flatten.length:=by rw[he,List.take_length]
  clear hB he
  repeat' (first|refine yJT ?_|fail)
  refine ygl inferInstance hg yR yH (fun u S' hu=>?_)
  obtain⟨g,rfl,g1,g2⟩:=hu
  clear hg ht
  have hgc:=g.cell_copy
  repeat' (first|refine yJ ?_|fail)
  clear hgc
  refine zbo [25,26] yN (fun(x:Nat×GR×Sto)=> [(6,x.2.1.cell),(27,I x.1)]) (fun(x:Nat×GR×Sto)=>x.2.2) (fun(x:Nat×GR×Sto)=>x.1≤L.length∧x.2.1.l=(L.take x.1).flatten.map cI∧x.2.1.Ok 3 1 x.2.2) (fun(x:Nat×GR×Sto)=>L.length-x.1) (0,g,S') yS (fun b o e=>by exact e) ⟨Nat.zero_le _,g1,g2⟩ (fun x B hI hB=>?_);try dsimp only at hI hB;simp only[zad,zaf]
  obtain⟨q,g3,S3⟩:=x
  dsimp only at hI hB
  obtain⟨k1,k2,k3⟩:=hI
  by_cases hq:q<L.length
  ·have hq':(q:Int)<(L.length:Int):=by omega
   have h1:=hH.out.1 _ (List.getElem_mem hq)
   have h2:=hH.out.2 q (by omega)
   have hgc:=g3.cell_copy
   repeat' (first|refine yJT ?_|fail)
   refine zce rfl rfl yR (ykj (g:=g3) (ml:=L[q].map cI) rfl yH yH yR yR (by decide) yH k3 yH yH (by intro x hx;obtain⟨y,-,rfl⟩:=List.mem_map.1 hx;rfl) ⟨by rw[k2];simp only[List.length_map];omega,by decide⟩) (fun u2 E' S4 hu2=>?_)
   obtain⟨rfl,g4,rfl,m1,m2,-,-⟩:=hu2
   have hgc4:=g4.cell_copy
   simp only[zbj]
   repeat' (first|refine yJ ?_|fail)
   exact DS.back (hB (q+1,g4,S4) _ _ (by dsimp only;omega) ⟨by dsimp only;omega,by
    rw[m1,k2,List.take_succ_eq_append_getElem hq,List.flatten_append,List.map_append,List.map_map]
    simp only[List.flatten_cons,List.flatten_nil,List.append_nil];rfl,m2⟩ yS yS (fun b o e=>by exact e))
  ·have hq': ¬(q:Int)<(L.length:Int):=by omega
   have hgc:=g3.cell_copy
   rw[show L.take q=L by rw[List.take_of_length_le];omega]at k2
   clear hB
   repeat' (first|refine yJT ?_|fail)
   refine zws (t:=2) yR k3 (fun S4 _=>?_)
   refine zbi yG ?_
   rw[k2,List.map_map];rfl
theorem yfb (a b:List Int) (ha:a.length≤1000) (hb:b.length≤1000):PC Tryz.prog 61 [.lst [[ints a],[ints b]]] (ints (a++b)):=by
 have h:=ybh [a,b] (by simp) (fun l hl=>by
  simp only[List.mem_cons,List.not_mem_nil,or_false]at hl
  rcases hl with rfl|rfl <;> assumption)
 simpa using h
end Go.XL
namespace Go.XL
open Go.Proofs
set_option maxRecDepth 100000
set_option maxHeartbeats 8000000
theorem yos {h:House} (ok:h.Ok):PatsOk h:=⟨ok.many,fun i hi=>ymj (zst ok.pats i (Nat.zero_le _) (by omega))⟩
theorem yld (N:List Nat) (p q:Nat):(N.map UN).set p (UN (N.getD p 0 ||| 2 ^ q))=(orAt N p q).map UN:=by rw[orAt,List.map_set]
theorem zwg (h:House) (hok:PatsOk h):DC Tryz.prog 27 [h.val] [] (fun u S'=> ∃bc,u = .v (.slice (some ⟨bc,0,none⟩) h.patterns.length h.patterns.length)∧S'= [(bc, .cells (((List.range h.patterns.length).map (clM h)).map UN) 82)]):=by
 have hm:=hok.many
 refine DC.of_run Tryz.func27 rfl Tryz.ntmps27 Tryz.results27 (by simp) (fun _ _=>?_);simp only[zag,zaj,go_sem,Nat.zero_add,Nat.reduceAdd]
 repeat' (first|refine yJ ?_|(refine zaq (t:=1) yU yE yU ?_;simp only[yS3])|(refine zmo yU yE yE yE yE yU yU ⟨by omega,by omega,by decide,by omega⟩ (fun _ hfr=>?_))|fail)
 rename_i bo
 have hz:zcm (.int .u64 0) ((h.patterns.length:Nat):Int).toNat=(List.replicate h.patterns.length 0).map UN:=by
  rw[Int.toNat_natCast,zcm]
  have e:(Value.int IntKind.u64 0).cells.toList.map V.v= [UN 0]:=rfl
  rw[e];simp
 rw[hz]
 clear hz
 refine zbo [3,13,14] yN (fun(x:Nat×List Nat)=> [(15,I x.1)]) (fun(x:Nat×List Nat)=> [(bo, .cells (x.2.map UN) 82)]) (fun(x:Nat×List Nat)=>x.1≤h.patterns.length∧Gath h x.1 0 x.2) (fun(x:Nat×List Nat)=>h.patterns.length-x.1) (0,List.replicate h.patterns.length 0) yS (fun b o e=>by exact e) ⟨Nat.zero_le _,Gath.start h⟩ (fun x B hI hB=>?_);try dsimp only at hI hB;simp only[zad,zaf]
 obtain⟨i,L⟩:=x
 dsimp only at hI hB ⊢
 obtain⟨i1,i2⟩:=hI
 have HB:=Box.mk hB
 clear hB
 by_cases hi:i<h.patterns.length
 ·have hi':(i:Int)<(h.patterns.length:Int):=by omega
  have hp:=hok.ok i hi
  have hpe:=ycp hi
  have hoth:h.oth i=h.patterns[i].excl++h.patterns[i].impl:=by rw[House.oth,hpe]
  have hex:=hp.excl
  have him:=hp.impl
  rw[hpe]at hex him
  have hcc:=yfb h.patterns[i].excl h.patterns[i].impl (by omega) (by omega)
  rw[←hoth]at hcc
  have hol:(h.oth i).length≤20:=by rw[hoth,List.length_append];omega
  have HP:=Box.mk hp.oth
  clear hpe hp hoth hex him
  repeat' (first|refine yJT ?_|(refine zbw yU yE yE ?_;simp only[go_sem,Nat.zero_add,Nat.reduceAdd])|(refine zsd (t:=5) yU yU yU yE yU (fun _=>yE) (fun _=>yE) yE yU yV1 (fun _=>yN1) ?_;simp only[go_sem])|refine zan inferInstance (hcc) yR yT ?_|fail)
  refine zbo [3,4,13,14,15,25,26] yN (fun(y:Nat×List Nat)=> [(27,I y.1)]) (fun(y:Nat×List Nat)=> [(bo, .cells (y.2.map UN) 82)]) (fun(y:Nat×List Nat)=>y.1≤(h.oth i).length∧Gath h i y.1 y.2) (fun(y:Nat×List Nat)=>(h.oth i).length-y.1) (0,L) yS (fun b o e=>by exact e) ⟨Nat.zero_le _,i2⟩ (fun y B hI hB=>?_);try dsimp only at hI hB;simp only[zad,zaf]
  obtain⟨j,M⟩:=y
  dsimp only at hI hB ⊢
  obtain⟨j1,j2⟩:=hI
  clear i2
  by_cases hj:j<(h.oth i).length
  ·have hj':(j:Int)<((h.oth i).length:Int):=by omega
   obtain⟨k1,k2,k3⟩:=HP.out _ (List.getElem_mem hj)
   obtain⟨K,hk⟩:=Int.eq_ofNat_of_zero_le k1
   have hK:K<h.patterns.length:=by omega
   have hKi: ¬i=K:=by omega
   have hlen:=j2.len
   have get: ∀(N:List Nat) (a:Nat),N.length=h.patterns.length→a<h.patterns.length→(N.map UN)[a]?=some (UN (N.getD a 0)):=fun N a h1 h2=>by
    rw[List.getElem?_map,List.getElem?_eq_getElem (by omega),List.getD_eq_getElem?_getD,List.getElem?_eq_getElem (by omega)];rfl
   have lt: ∀(N:List Nat) (a:Nat),(∀m∈N,m<2 ^ 64)→N.getD a 0<18446744073709551616:=fun N a h1=>by
    rw[List.getD_eq_getElem?_getD]
    cases e:N[a]? with
    | none=>simp
    | some v=>exact h1 v (List.mem_of_getElem? e)
   have m1:=get M i hlen hi
   have m2:=get (orAt M i K) K (by rw[zkz];exact hlen) hK
   have l1:=lt M i j2.lt
   have l2:=lt (orAt M i K) K (zvm j2.lt (by omega))
   have p1:2 ^ K<18446744073709551616:=show _<2 ^ 64 from Nat.pow_lt_pow_right (by omega) (by omega)
   have p2:2 ^ i<18446744073709551616:=show _<2 ^ 64 from Nat.pow_lt_pow_right (by omega) (by omega)
   have o1:bop Tryz.prog .or 82 (.int .u64 (M.getD i 0:Nat)) (.int .u64 ((2 ^ K:Nat):Int))=some (.int .u64 ((M.getD i 0 ||| 2 ^ K:Nat):Int)):=zrz l1 p1
   have o2:bop Tryz.prog .or 82 (.int .u64 ((orAt M i K).getD K 0:Nat)) (.int .u64 ((2 ^ i:Nat):Int))=some (.int .u64 (((orAt M i K).getD K 0 ||| 2 ^ i:Nat):Int)):=zrz l2 p2
   have s1:bop Tryz.prog .shl 82 (.int .u64 1) (.int .i64 (K:Int))=some (.int .u64 ((2 ^ K:Nat):Int)):=zne (by omega)
   have s2:bop Tryz.prog .shl 82 (.int .u64 1) (.int .i64 (i:Int))=some (.int .u64 ((2 ^ i:Nat):Int)):=zne (by omega)
   have st1:(M.map UN).set i (UN (M.getD i 0 ||| 2 ^ K))=(orAt M i K).map UN:=yld _ _ _
   have st2:((orAt M i K).map UN).set K (UN ((orAt M i K).getD K 0 ||| 2 ^ i))=(orAt (orAt M i K) K i).map UN:=yld _ _ _
   have hg:=j2.step hi hm hj hk hK
   have hKn:K<(h.patterns.length:Nat):=hK
   have hol2:(orAt M i K).length=h.patterns.length:=by rw[zkz];exact hlen
   have HX:=Box.mk (And.intro hg st2)
   clear hg j2 get lt l1 l2 p1 p2 k1 k2 k3
   repeat' (first|refine yJT ?_|(refine DS.store yR yE yE yE yE yU yQ ?_;simp only[yS1];try simp only[yS2,Nat.reduceEqDiff,↓reduceIte])|refine zbe (id:=8) [0,1,2,3,4,5] 6 yKR mixed yP1 yP2 ?_|refine zbe (id:=9) [0,1,2,3,4,5] 6 yKR mixed yP1 yP2 ?_|(with_reducible first|refine zau yU yU yU yE ?_|refine zbf ?_)|fail)
   rw[HX.out.2]
   simp only[setS,↓reduceIte]
   exact DS.back (hB (j+1,orAt (orAt M i K) K i) _ _ (by dsimp only;omega) ⟨by dsimp only;omega,HX.out.1⟩ yS yS (fun b o e=>by exact e))
  ·have hj': ¬(j:Int)<((h.oth i).length:Int):=by omega
   have hje:j=(h.oth i).length:=by omega
   rw[hje]at j2
   have j3:=j2.next
   clear hje hB j2
   repeat' (first|refine yJT ?_|fail)
   exact DS.back (HB.out (i+1,M) _ _ (by dsimp only;omega) ⟨by dsimp only;omega,j3⟩ yS yS (fun b o e=>by exact e))
 ·have hi': ¬(i:Int)<(h.patterns.length:Int):=by omega
  have hie:i=h.patterns.length:=by omega
  have hlen:=i2.len
  rw[hie]at i2
  have he:=i2.end hok
  clear i2 HB hie
  repeat' (first|refine yJT ?_|fail)
  rw[he]
  refine zbi yG ⟨bo,rfl,rfl⟩
end Go.XL
namespace Go.XL
open Go.Proofs
set_option maxRecDepth 100000
set_option maxHeartbeats 8000000
def zox (l:List Bool):ByteArray:=⟨(l.map fun b=>if b then(110:UInt8)else 116).toArray⟩
structure SortR where
 number:Bool
 parts:List Bool
 use:Int
 nLow:Int
 nTop:Int
 mLow:Int
 mTop:Int
 deriving DecidableEq
def SortR.cells (x:SortR):List V:= [Bo x.number,St8 (zox x.parts),I x.use,I x.nLow,I x.nTop,I x.mLow,I x.mTop]
@[go_sem] theorem SortR.cells_eq (x:SortR):x.cells= [Bo x.number,St8 (zox x.parts),I x.use,I x.nLow,I x.nTop,I x.mLow,I x.mTop]:=rfl
abbrev SortR.val (x:SortR):V := .agg x.cells
def bitU (b:Bool) (n:Int):Int:=if b then n else 0
def zra (op:Int):SortR:=⟨numS op,(useS op).parts,bitU (useS op).what 1+bitU (useS op).n 2+bitU (useS op).m 4+bitU (useS op).open_ 8+bitU (useS op).kinds 16,(useS op).nLow,(useS op).nTop,(useS op).mLow,(useS op).mTop⟩
def noSort :SortR:=⟨false,[],0,0,0,0,0⟩
def zvh (op:Int):SortR×Bool:=if 1≤op∧op≤24 then(zra op,true)else(noSort,false)
def sortsL :List V:=((List.range 25).map fun(i:Nat)=>if i=0 then noSort.cells else(zra i).cells).flatten
theorem ybz : ∀k:Nat,k<25→((sortsL.drop (k*7)).take 7).map V.peek=if k=0 then noSort.cells else(zra k).cells
 | 0,_=>by kernel_rfl
 | 1,_=>by kernel_rfl
 | 2,_=>by kernel_rfl
 | 3,_=>by kernel_rfl
 | 4,_=>by kernel_rfl
 | 5,_=>by kernel_rfl
 | 6,_=>by kernel_rfl
 | 7,_=>by kernel_rfl
 | 8,_=>by kernel_rfl
 | 9,_=>by kernel_rfl
 | 10,_=>by kernel_rfl
 | 11,_=>by kernel_rfl
 | 12,_=>by kernel_rfl
 | 13,_=>by kernel_rfl
 | 14,_=>by kernel_rfl
 | 15,_=>by kernel_rfl
 | 16,_=>by kernel_rfl
 | 17,_=>by kernel_rfl
 | 18,_=>by kernel_rfl
 | 19,_=>by kernel_rfl
 | 20,_=>by kernel_rfl
 | 21,_=>by kernel_rfl
 | 22,_=>by kernel_rfl
 | 23,_=>by kernel_rfl
 | 24,_=>by kernel_rfl
 | k+25,h=>by omega
theorem zls :sortsL.length=175:=by kernel_rfl
theorem yX32 {p:Prop} (h:p:=by(simp (disch:=omega) only[go_sem,dopV,yV0,↓reduceIte,Nat.reduceEqDiff,Nat.reduceLT,Nat.reduceLeDiff,Nat.reduceAdd,Nat.reduceMul,Nat.reduceSub,Int.reduceToNat,Int.reduceLT,Int.reduceLE,Int.reduceEq,IntWalk.toNatUp,IntWalk.iteOmega,IntWalk.i64_in,V.flat,V.one, *,zls];exact rfl)):p:=h
theorem yX33 {p:Prop} (h:p:=by(simp (disch:=omega) only[go_sem,dopV,yV0,↓reduceIte,Nat.reduceEqDiff,Nat.reduceLT,Nat.reduceLeDiff,Nat.reduceAdd,Nat.reduceMul,Nat.reduceSub,Int.reduceToNat,Int.reduceLT,Int.reduceLE,Int.reduceEq,IntWalk.toNatUp,IntWalk.iteOmega,IntWalk.i64_in,V.flat,V.one, *,zls];try exact rfl)):p:=h
theorem znm (op:Int):PC Tryz.prog 86 [I op] (.tup [(zvh op).1.val,Bo (zvh op).2]):=by
 refine DC.of_run Tryz.func86 rfl Tryz.ntmps86 Tryz.results86 (by simp) (fun _ _=>?_);simp only[zag,zaj,go_sem,Nat.zero_add,Nat.reduceAdd]
 repeat' (first|refine yJ ?_|fail)
 refine zbd yR yU yU (fun b hb=>?_)
 have e0:(Value.agg #[.bool false, .string ⟨#[]⟩, .int .i64 0, .int .i64 0, .int .i64 0, .int .i64 0, .int .i64 0]).cells.toList.map V.v= [Bo false,St8 ⟨#[]⟩,I 0,I 0,I 0,I 0,I 0]:=rfl
 rw[e0]
 clear e0
 repeat' (first|refine yJ ?_|(refine zbs (t:=4) yU yE yU (fun _=>yE) yE yU yV1 (fun _=>yN1) ?_;simp only[go_sem])|fail)
 refine zde (E':= [(4, .plc sortsL),(0,I op),(30,I op),(2, .v (.pointer (some ⟨b,0,none⟩)))]) (zei ⟨by kernel_rfl,by rfl,by rfl,by rfl,trivial⟩) (fun _ _ e=>e) ?_
 by_cases h:1≤op∧op≤24
 ·rw[zvh,if_pos h]
  obtain⟨k,rfl⟩:=Int.eq_ofNat_of_zero_le (show 0≤op by omega)
  have hr:=ybz k (by omega)
  rw[if_neg (by omega)]at hr
  repeat' (first|with_reducible refine zak yU yU yX32 ?_|refine yJ ?_|(with_reducible (refine zax yX32 ?_;refine zbk ?_))|refine zan inferInstance (zcs _ _ _) yR yX33 ?_|fail)
  refine zak (v := .agg (zra k).cells) rfl (by decide) (by(simp (disch:=omega) only[go_sem,dopV,yV0,↓reduceIte,Nat.reduceEqDiff,Nat.reduceLT,Nat.reduceLeDiff,Nat.reduceAdd,Nat.reduceMul,Nat.reduceSub,Int.reduceToNat,Int.reduceLT,Int.reduceLE,Int.reduceEq,IntWalk.toNatUp,IntWalk.iteOmega,IntWalk.i64_in,V.flat,V.one,List.length_drop,zls,hr];try exact rfl)) ?_
  repeat' (first|refine yJ ?_|(refine DS.store yR yE yE yE yE yU yQ ?_;simp only[yS1];try simp only[yS2,Nat.reduceEqDiff,↓reduceIte])|refine zao [] yE trivial ?_|fail)
  rfl
 ·rw[zvh,if_neg h]
  repeat' (first|refine yJT ?_|refine zan inferInstance (zcs _ _ _) yR yT ?_|(refine DS.store yR yE yE yE yE yU yQ ?_;simp only[yS1];try simp only[yS2,Nat.reduceEqDiff,↓reduceIte])|refine zao [] yE trivial ?_|fail)
  rfl
end Go.XL
namespace Go.XL
open Go.Proofs
set_option maxRecDepth 100000
set_option maxHeartbeats 8000000
theorem zjv (s:GSet):0≤zcb s∧zcb s≤1000:=by
 by_cases h:zbn s=0
 ·have:=(zca h).plain
  rw[zcb,if_neg (by omega)];omega
 ·rw[zcb,if_pos h];omega
theorem zcf (num:Bool) (p:ByteArray) (U bit r lo hi ml mh:Int) (h:bop Tryz.prog .and 3 (.int .i64 U) (.int .i64 bit)=some (.int .i64 r)) :
  PC Tryz.prog 110 [I bit, .plc [Bo num,St8 p,I U,I lo,I hi,I ml,I mh]] (Bo (decide (0<r))):=by
 refine DC.of_run Tryz.func110 rfl Tryz.ntmps110 Tryz.results110 (by simp) (fun _ _=>?_);simp only[zag,zaj,go_sem,Nat.zero_add,Nat.reduceAdd]
 repeat' (first|refine yJ ?_|refine zao [] yE trivial ?_|fail)
 rfl
def zmr (a b c d e:Bool) (lo hi ml mh:Int) (s:GSet) (x:Node):Int :=
 if(a=false∧x.what≠0)∨(b=false∧x.n≠0)∨(c=false∧x.m≠0)∨(d=false∧(x.open_≠0∨x.all=true))∨(e=false∧0<(x.kinds.length:Int))then 3 else
 if(a=true∧ ¬(1≤x.what∧x.what≤31))∨(b=true∧ ¬(lo≤x.n∧x.n≤hi))∨(c=true∧ ¬(ml≤x.m∧x.m≤mh))∨(d=true∧ ¬(0≤x.open_∧x.open_≤2))then 2 else
 ascS (zcb s) x.kinds
theorem zcv (s:GSet) (x:Node) (num:Bool) (p:ByteArray) (lo hi ml mh:Int) (hs:PC Tryz.prog 86 [I x.op] (.tup [.agg [Bo num,St8 p,I 0,I lo,I hi,I ml,I mh],Bo true])) :
  PC Tryz.prog 85 [s.val,x.val] (I (zmr false false false false false lo hi ml mh s x)):=by
 have hk:=zfk s
 have hb:0≤zcb s∧zcb s≤1000:=zjv s
 have hr:=zgh (zcb s) x.kinds hb
 have u1:=zcf num p 0 1 0 lo hi ml mh rfl
 have u2:=zcf num p 0 2 0 lo hi ml mh rfl
 have u4:=zcf num p 0 4 0 lo hi ml mh rfl
 have u8:=zcf num p 0 8 0 lo hi ml mh rfl
 have u16:=zcf num p 0 16 0 lo hi ml mh rfl
 refine DC.of_run Tryz.func85 rfl Tryz.ntmps85 Tryz.results85 (by simp) (fun _ _=>?_);simp only[zag,zaj,go_sem,Nat.zero_add,Nat.reduceAdd]
 repeat' (first|refine yJ ?_|(with_reducible first|(refine zax yE ?_;first|refine zdt (fun _=>?_) (fun _=>?_)|refine zaz ?_|refine zbk ?_)|(refine zbm yU yE ?_;first|refine zfw ?_|refine zir (fun _=>?_) (fun _=>?_)|refine GG.run ?_|refine zco ?_|refine zcy ?_|refine yge (fun _=>?_) (fun _=>?_)))|(refine zbs (t:=5) yU yE yU (fun _=>yE) yE yU yV1 (fun _=>yN1) ?_;simp only[go_sem])|refine zan inferInstance (hs) yR yF ?_|refine zby inferInstance yE (u1) yR yF ?_|refine zby inferInstance yE (u2) yR yF ?_|refine zby inferInstance yE (u4) yR yF ?_|refine zby inferInstance yE (u8) yR yF ?_|refine zby inferInstance yE (u16) yR yF ?_|refine zan inferInstance (hr) yR yF ?_|(refine zaq (t:=2) yU yE yU ?_;simp only[yS3])|(refine zaq (t:=3) yU yE yU ?_;simp only[yS3])|refine zbe (id:=9) [0,1,2,3] 4 yKR mixed yP1 yP2 ?_|(with_reducible first|refine zau yU yU yU yE ?_|refine zbf ?_)|refine zdd inferInstance (hk) yU yF ?_|refine zao [] yE trivial ?_|fail)
 all_goals (simp only[tupV,zmr];(repeat' split) <;> first|rfl|(exfalso;clear u1 u2 u4 u8 u16 hs hk hr;grind))
theorem zfh (s:GSet) (x:Node) (num:Bool) (p:ByteArray) (lo hi ml mh:Int) (hs:PC Tryz.prog 86 [I x.op] (.tup [.agg [Bo num,St8 p,I 2,I lo,I hi,I ml,I mh],Bo true])) :
  PC Tryz.prog 85 [s.val,x.val] (I (zmr false true false false false lo hi ml mh s x)):=by
 have hk:=zfk s
 have hb:0≤zcb s∧zcb s≤1000:=zjv s
 have hr:=zgh (zcb s) x.kinds hb
 have u1:=zcf num p 2 1 0 lo hi ml mh rfl
 have u2:=zcf num p 2 2 2 lo hi ml mh rfl
 have u4:=zcf num p 2 4 0 lo hi ml mh rfl
 have u8:=zcf num p 2 8 0 lo hi ml mh rfl
 have u16:=zcf num p 2 16 0 lo hi ml mh rfl
 refine DC.of_run Tryz.func85 rfl Tryz.ntmps85 Tryz.results85 (by simp) (fun _ _=>?_);simp only[zag,zaj,go_sem,Nat.zero_add,Nat.reduceAdd]
 repeat' (first|refine yJ ?_|(with_reducible first|(refine zax yE ?_;first|refine zdt (fun _=>?_) (fun _=>?_)|refine zaz ?_|refine zbk ?_)|(refine zbm yU yE ?_;first|refine zfw ?_|refine zir (fun _=>?_) (fun _=>?_)|refine GG.run ?_|refine zco ?_|refine zcy ?_|refine yge (fun _=>?_) (fun _=>?_)))|(refine zbs (t:=5) yU yE yU (fun _=>yE) yE yU yV1 (fun _=>yN1) ?_;simp only[go_sem])|refine zan inferInstance (hs) yR yF ?_|refine zby inferInstance yE (u1) yR yF ?_|refine zby inferInstance yE (u2) yR yF ?_|refine zby inferInstance yE (u4) yR yF ?_|refine zby inferInstance yE (u8) yR yF ?_|refine zby inferInstance yE (u16) yR yF ?_|refine zan inferInstance (zcs _ _ _) yR yF ?_|refine zan inferInstance (hr) yR yF ?_|(refine zaq (t:=2) yU yE yU ?_;simp only[yS3])|(refine zaq (t:=3) yU yE yU ?_;simp only[yS3])|refine zbe (id:=9) [0,1,2,3] 4 yKR mixed yP1 yP2 ?_|(with_reducible first|refine zau yU yU yU yE ?_|refine zbf ?_)|refine zdd inferInstance (hk) yU yF ?_|refine zao [] yE trivial ?_|fail)
 all_goals (simp only[tupV,zmr];(repeat' split) <;> first|rfl|(exfalso;clear u1 u2 u4 u8 u16 hs hk hr;grind))
theorem zmg (s:GSet) (x:Node) (num:Bool) (p:ByteArray) (lo hi ml mh:Int) (hs:PC Tryz.prog 86 [I x.op] (.tup [.agg [Bo num,St8 p,I 3,I lo,I hi,I ml,I mh],Bo true])) :
  PC Tryz.prog 85 [s.val,x.val] (I (zmr true true false false false lo hi ml mh s x)):=by
 have hk:=zfk s
 have hb:0≤zcb s∧zcb s≤1000:=zjv s
 have hr:=zgh (zcb s) x.kinds hb
 have u1:=zcf num p 3 1 1 lo hi ml mh rfl
 have u2:=zcf num p 3 2 2 lo hi ml mh rfl
 have u4:=zcf num p 3 4 0 lo hi ml mh rfl
 have u8:=zcf num p 3 8 0 lo hi ml mh rfl
 have u16:=zcf num p 3 16 0 lo hi ml mh rfl
 refine DC.of_run Tryz.func85 rfl Tryz.ntmps85 Tryz.results85 (by simp) (fun _ _=>?_);simp only[zag,zaj,go_sem,Nat.zero_add,Nat.reduceAdd]
 repeat' (first|refine yJ ?_|(with_reducible first|(refine zax yE ?_;first|refine zdt (fun _=>?_) (fun _=>?_)|refine zaz ?_|refine zbk ?_)|(refine zbm yU yE ?_;first|refine zfw ?_|refine zir (fun _=>?_) (fun _=>?_)|refine GG.run ?_|refine zco ?_|refine zcy ?_|refine yge (fun _=>?_) (fun _=>?_)))|(refine zbs (t:=5) yU yE yU (fun _=>yE) yE yU yV1 (fun _=>yN1) ?_;simp only[go_sem])|refine zan inferInstance (hs) yR yF ?_|refine zby inferInstance yE (u1) yR yF ?_|refine zby inferInstance yE (u2) yR yF ?_|refine zby inferInstance yE (u4) yR yF ?_|refine zby inferInstance yE (u8) yR yF ?_|refine zby inferInstance yE (u16) yR yF ?_|refine zan inferInstance (zcs _ _ _) yR yF ?_|refine zan inferInstance (hr) yR yF ?_|(refine zaq (t:=2) yU yE yU ?_;simp only[yS3])|(refine zaq (t:=3) yU yE yU ?_;simp only[yS3])|refine zbe (id:=9) [0,1,2,3] 4 yKR mixed yP1 yP2 ?_|(with_reducible first|refine zau yU yU yU yE ?_|refine zbf ?_)|refine zdd inferInstance (hk) yU yF ?_|refine zao [] yE trivial ?_|fail)
 all_goals (simp only[tupV,zmr];(repeat' split) <;> first|rfl|(exfalso;clear u1 u2 u4 u8 u16 hs hk hr;grind))
theorem zsx (s:GSet) (x:Node) (num:Bool) (p:ByteArray) (lo hi ml mh:Int) (hs:PC Tryz.prog 86 [I x.op] (.tup [.agg [Bo num,St8 p,I 25,I lo,I hi,I ml,I mh],Bo true])) :
  PC Tryz.prog 85 [s.val,x.val] (I (zmr true false false true true lo hi ml mh s x)):=by
 have hk:=zfk s
 have hb:0≤zcb s∧zcb s≤1000:=zjv s
 have hr:=zgh (zcb s) x.kinds hb
 have u1:=zcf num p 25 1 1 lo hi ml mh rfl
 have u2:=zcf num p 25 2 0 lo hi ml mh rfl
 have u4:=zcf num p 25 4 0 lo hi ml mh rfl
 have u8:=zcf num p 25 8 8 lo hi ml mh rfl
 have u16:=zcf num p 25 16 16 lo hi ml mh rfl
 refine DC.of_run Tryz.func85 rfl Tryz.ntmps85 Tryz.results85 (by simp) (fun _ _=>?_);simp only[zag,zaj,go_sem,Nat.zero_add,Nat.reduceAdd]
 repeat' (first|refine yJ ?_|(with_reducible first|(refine zax yE ?_;first|refine zex (fun _=>?_) (fun _=>?_)|refine zaz ?_|refine zbk ?_)|(refine zbm yU yE ?_;first|refine zfw ?_|refine zir (fun _=>?_) (fun _=>?_)|refine GG.run ?_|refine zco ?_|refine zcy ?_))|(refine zbs (t:=5) yU yE yU (fun _=>yE) yE yU yV1 (fun _=>yN1) ?_;simp only[go_sem])|refine zan inferInstance (hs) yR yF ?_|refine zby inferInstance yE (u1) yR yF ?_|refine zby inferInstance yE (u2) yR yF ?_|refine zby inferInstance yE (u4) yR yF ?_|refine zby inferInstance yE (u8) yR yF ?_|refine zby inferInstance yE (u16) yR yF ?_|refine zan inferInstance (zcs _ _ _) yR yF ?_|refine zan inferInstance (hr) yR yF ?_|(refine zaq (t:=2) yU yE yU ?_;simp only[yS3])|(refine zaq (t:=3) yU yE yU ?_;simp only[yS3])|refine zbe (id:=9) [0,1,2,3] 4 yKR mixed yP1 yP2 ?_|(with_reducible first|refine zau yU yU yU yE ?_|refine zbf ?_)|refine zdd inferInstance (hk) yU yF ?_|refine zao [] yE trivial ?_|fail)
 all_goals (simp only[tupV,zmr];(repeat' split) <;> first|rfl|(exfalso;clear u1 u2 u4 u8 u16 hs hk hr;grind))
theorem zsy (s:GSet) (x:Node) (num:Bool) (p:ByteArray) (lo hi ml mh:Int) (hs:PC Tryz.prog 86 [I x.op] (.tup [.agg [Bo num,St8 p,I 16,I lo,I hi,I ml,I mh],Bo true])) :
  PC Tryz.prog 85 [s.val,x.val] (I (zmr false false false false true lo hi ml mh s x)):=by
 have hk:=zfk s
 have hb:0≤zcb s∧zcb s≤1000:=zjv s
 have hr:=zgh (zcb s) x.kinds hb
 have u1:=zcf num p 16 1 0 lo hi ml mh rfl
 have u2:=zcf num p 16 2 0 lo hi ml mh rfl
 have u4:=zcf num p 16 4 0 lo hi ml mh rfl
 have u8:=zcf num p 16 8 0 lo hi ml mh rfl
 have u16:=zcf num p 16 16 16 lo hi ml mh rfl
 refine DC.of_run Tryz.func85 rfl Tryz.ntmps85 Tryz.results85 (by simp) (fun _ _=>?_);simp only[zag,zaj,go_sem,Nat.zero_add,Nat.reduceAdd]
 repeat' (first|refine yJT ?_|(with_reducible (refine zbm yU yE ?_;first|refine zfw ?_|refine zir (fun _=>?_) (fun _=>?_)|refine GG.run ?_|refine zco ?_|refine zcy ?_|refine yge (fun _=>?_) (fun _=>?_)))|(refine zbs (t:=5) yU yE yU (fun _=>yE) yE yU yV1 (fun _=>yN1) ?_;simp only[go_sem])|refine zan inferInstance (hs) yR yF ?_|refine zby inferInstance yE (u1) yR yF ?_|refine zby inferInstance yE (u2) yR yF ?_|refine zby inferInstance yE (u4) yR yF ?_|refine zby inferInstance yE (u8) yR yF ?_|refine zby inferInstance yE (u16) yR yF ?_|refine zan inferInstance (hr) yR yF ?_|(refine zaq (t:=2) yU yE yU ?_;simp only[yS3])|(refine zaq (t:=3) yU yE yU ?_;simp only[yS3])|refine zbe (id:=9) [0,1,2,3] 4 yKR mixed yP1 yP2 ?_|(with_reducible first|refine zau yU yU yU yE ?_|refine zbf ?_)|refine zdd inferInstance (hk) yU yF ?_|refine zao [] yE trivial ?_|fail)
 all_goals (simp only[tupV,zmr];(repeat' split) <;> first|rfl|(exfalso;clear u1 u2 u4 u8 u16 hs hk hr;grind))
theorem zmf (s:GSet) (x:Node) (num:Bool) (p:ByteArray) (lo hi ml mh:Int) (hs:PC Tryz.prog 86 [I x.op] (.tup [.agg [Bo num,St8 p,I 7,I lo,I hi,I ml,I mh],Bo true])) :
  PC Tryz.prog 85 [s.val,x.val] (I (zmr true true true false false lo hi ml mh s x)):=by
 have hk:=zfk s
 have hb:0≤zcb s∧zcb s≤1000:=zjv s
 have hr:=zgh (zcb s) x.kinds hb
 have u1:=zcf num p 7 1 1 lo hi ml mh rfl
 have u2:=zcf num p 7 2 2 lo hi ml mh rfl
 have u4:=zcf num p 7 4 4 lo hi ml mh rfl
 have u8:=zcf num p 7 8 0 lo hi ml mh rfl
 have u16:=zcf num p 7 16 0 lo hi ml mh rfl
 refine DC.of_run Tryz.func85 rfl Tryz.ntmps85 Tryz.results85 (by simp) (fun _ _=>?_);simp only[zag,zaj,go_sem,Nat.zero_add,Nat.reduceAdd]
 repeat' (first|refine yJ ?_|(with_reducible first|(refine zax yE ?_;first|refine zdt (fun _=>?_) (fun _=>?_)|refine zaz ?_|refine zbk ?_)|(refine zbm yU yE ?_;first|refine zfw ?_|refine zir (fun _=>?_) (fun _=>?_)|refine GG.run ?_|refine zco ?_|refine zcy ?_|refine yge (fun _=>?_) (fun _=>?_)))|(refine zbs (t:=5) yU yE yU (fun _=>yE) yE yU yV1 (fun _=>yN1) ?_;simp only[go_sem])|refine zan inferInstance (hs) yR yF ?_|refine zby inferInstance yE (u1) yR yF ?_|refine zby inferInstance yE (u2) yR yF ?_|refine zby inferInstance yE (u4) yR yF ?_|refine zby inferInstance yE (u8) yR yF ?_|refine zby inferInstance yE (u16) yR yF ?_|refine zan inferInstance (zcs _ _ _) yR yF ?_|refine zan inferInstance (hr) yR yF ?_|(refine zaq (t:=2) yU yE yU ?_;simp only[yS3])|(refine zaq (t:=3) yU yE yU ?_;simp only[yS3])|refine zbe (id:=9) [0,1,2,3] 4 yKR mixed yP1 yP2 ?_|(with_reducible first|refine zau yU yU yU yE ?_|refine zbf ?_)|refine zdd inferInstance (hk) yU yF ?_|refine zao [] yE trivial ?_|fail)
 all_goals (simp only[tupV,zmr];(repeat' split) <;> first|rfl|(exfalso;clear u1 u2 u4 u8 u16 hs hk hr;grind))
end Go.XL
namespace Go.XL
open Go.Proofs
set_option maxRecDepth 100000
set_option maxHeartbeats 8000000
theorem ymq (s:GSet) (x:Node):PC Tryz.prog 85 [s.val,x.val] (I (zeg s x)):=by
 obtain⟨op,what,n,m,op2,all,kinds⟩:=x
 have hs:=znm op
 by_cases h:1≤op∧op≤24
 ·have h24:op=1∨op=2∨op=3∨op=4∨op=5∨op=6∨op=7∨op=8∨op=9∨op=10∨op=11∨op=12∨op=13∨op=14∨op=15∨op=16∨op=17∨op=18∨op=19∨op=20∨op=21∨op=22∨op=23∨op=24:=by omega
  rcases h24 with rfl|rfl|rfl|rfl|rfl|rfl|rfl|rfl|rfl|rfl|rfl|rfl|rfl|rfl|rfl|rfl|rfl|rfl|rfl|rfl|rfl|rfl|rfl|rfl
  ·exact zcv s ⟨1,what,n,m,op2,all,kinds⟩ _ _ 0 0 0 0 hs
  ·exact zcv s ⟨2,what,n,m,op2,all,kinds⟩ _ _ 0 0 0 0 hs
  ·exact zcv s ⟨3,what,n,m,op2,all,kinds⟩ _ _ 0 0 0 0 hs
  ·exact zcv s ⟨4,what,n,m,op2,all,kinds⟩ _ _ 0 0 0 0 hs
  ·exact zfh s ⟨5,what,n,m,op2,all,kinds⟩ _ _ 0 1000000 0 0 hs
  ·exact zfh s ⟨6,what,n,m,op2,all,kinds⟩ _ _ 1 6 0 0 hs
  ·exact zfh s ⟨7,what,n,m,op2,all,kinds⟩ _ _ 1 7 0 0 hs
  ·exact zcv s ⟨8,what,n,m,op2,all,kinds⟩ _ _ 0 0 0 0 hs
  ·exact zcv s ⟨9,what,n,m,op2,all,kinds⟩ _ _ 0 0 0 0 hs
  ·exact zmg s ⟨10,what,n,m,op2,all,kinds⟩ _ _ 0 3 0 0 hs
  ·exact zfh s ⟨11,what,n,m,op2,all,kinds⟩ _ _ 0 1000000 0 0 hs
  ·exact zcv s ⟨12,what,n,m,op2,all,kinds⟩ _ _ 0 0 0 0 hs
  ·exact zcv s ⟨13,what,n,m,op2,all,kinds⟩ _ _ 0 0 0 0 hs
  ·exact zcv s ⟨14,what,n,m,op2,all,kinds⟩ _ _ 0 0 0 0 hs
  ·exact zfh s ⟨15,what,n,m,op2,all,kinds⟩ _ _ 1 1000 0 0 hs
  ·exact zsx s ⟨16,what,n,m,op2,all,kinds⟩ _ _ 0 0 0 0 hs
  ·exact zsy s ⟨17,what,n,m,op2,all,kinds⟩ _ _ 0 0 0 0 hs
  ·exact zcv s ⟨18,what,n,m,op2,all,kinds⟩ _ _ 0 0 0 0 hs
  ·exact zmg s ⟨19,what,n,m,op2,all,kinds⟩ _ _ 1 2 0 0 hs
  ·exact zfh s ⟨20,what,n,m,op2,all,kinds⟩ _ _ 1 2 0 0 hs
  ·exact zmf s ⟨21,what,n,m,op2,all,kinds⟩ _ _ 2 4 1 3 hs
  ·exact zmf s ⟨22,what,n,m,op2,all,kinds⟩ _ _ 2 3 0 2 hs
  ·exact zcv s ⟨23,what,n,m,op2,all,kinds⟩ _ _ 0 0 0 0 hs
  ·exact zcv s ⟨24,what,n,m,op2,all,kinds⟩ _ _ 0 0 0 0 hs
 ·rw[zeg,if_pos h]
  rw[zvh,if_neg h]at hs
  refine DC.of_run Tryz.func85 rfl Tryz.ntmps85 Tryz.results85 (by simp) (fun _ _=>?_);simp only[zag,zaj,go_sem,Nat.zero_add,Nat.reduceAdd]
  repeat' (first|refine yJT ?_|(refine zbs (t:=5) yU yE yU (fun _=>yE) yE yU yV1 (fun _=>yN1) ?_;simp only[go_sem])|refine zan inferInstance (hs) yR yT ?_|(refine zaq (t:=2) yU yE yU ?_;simp only[yS3])|(refine zaq (t:=3) yU yE yU ?_;simp only[yS3])|refine zao [] yE trivial ?_|fail)
  all_goals first|rfl|(exfalso;omega)
end Go.XL
namespace Go.XL
open Go.Proofs
set_option maxRecDepth 100000
set_option maxHeartbeats 8000000
theorem yan {s:GSet} {l:List Node} {i:Nat} (hi:i<l.length):zdg s (l.drop i)=if zeg s l[i]≠0 then zeg s l[i]else zdg s (l.drop (i+1)):=by
 rw[List.drop_eq_getElem_cons hi,zdg]
theorem znx {s:GSet}: ∀{l:List Node},zdg s l=0→ ∀x∈l,1≤x.op∧x.op≤24
 | y::l,h,x,hx=>by
  rw[zdg]at h
  by_cases hy:zeg s y≠0
  ·rw[if_pos hy]at h;exact absurd h hy
  ·rw[if_neg hy]at h
   rcases List.mem_cons.1 hx with rfl|hx
   ·refine Decidable.byContradiction fun hn=>hy ?_
    rw[zeg,if_pos hn];decide
   ·exact znx h x hx
theorem ycr (op:Int):(useS op).parts.length≤3:=by
 by_cases h:1≤op∧op≤24
 ·have h24:op=1∨op=2∨op=3∨op=4∨op=5∨op=6∨op=7∨op=8∨op=9∨op=10∨op=11∨op=12∨op=13∨op=14∨op=15∨op=16∨op=17∨op=18∨op=19∨op=20∨op=21∨op=22∨op=23∨op=24:=by omega
  rcases h24 with rfl|rfl|rfl|rfl|rfl|rfl|rfl|rfl|rfl|rfl|rfl|rfl|rfl|rfl|rfl|rfl|rfl|rfl|rfl|rfl|rfl|rfl|rfl|rfl <;> decide
 ·unfold useS
  repeat rw[if_neg (by omega)]
  exact Nat.zero_le _
def pB (b:Bool):Int:=if b then 110 else 116
def cB (b:Bool):List V:= [.v (.int .u8 (pB b))]
theorem zpv (l:List Bool):(zox l).size=l.length:=by simp[zox,ByteArray.size]
theorem yct {l:List Bool} {k:Nat} (h:k<l.length): ∃c:UInt8,(zox l)[k]?=some c∧(c.toNat:Int)=pB l[k]:=by
 refine⟨if l[k]then 110 else 116,?_,?_⟩
 ·have hk:k<(zox l).size:=by rw[zpv];exact h
  rw[getElem?_pos (zox l) k hk]
  simp[zox,ByteArray.getElem_eq_getElem_data]
 ·cases l[k] <;> rfl
theorem ybl {l:List Node} (h:0<l.length):askS l=zif (l.drop (0+1)) ((useS l[0].op).parts++ []) true:=by
 cases l with
 | nil=>simp at h
 | cons x r=>simp[askS]
theorem ybm {l:List Node} {k:Nat} (h:k<l.length) (b:Bool) (asked:List Bool) (typed:Bool):zif (l.drop k) (b::asked) typed=zif (l.drop (k+1)) ((useS l[k].op).parts++asked) (typed&&b == numS l[k].op):=by
 rw[List.drop_eq_getElem_cons h,zif]
theorem ybn {l:List Node} {k:Nat} (h:k<l.length) (typed:Bool):zif (l.drop k) [] typed=none:=by
 rw[List.drop_eq_getElem_cons h,zif]
def stk (asked:List Bool):List V:=asked.reverse.map fun b=>V.v (.int .u8 (pB b))
theorem zqx (asked:List Bool):(asked.reverse.map cB).flatten=stk asked:=by
 rw[stk]
 generalize asked.reverse=l
 induction l with
 | nil=>rfl
 | cons b l ih=>rw[List.map_cons,List.flatten_cons,List.map_cons,ih];rfl
theorem zwz (b:Bool) (asked:List Bool):stk (b::asked)=stk asked++ [V.v (.int .u8 (pB b))]:=by simp[stk]
theorem yby (asked:List Bool):(stk asked).length=asked.length:=by simp[stk]
theorem ygz (asked:List Bool) (x:List V):(stk asked++x).drop asked.length=x:=by
 rw[List.drop_append_of_le_length (by rw[yby];exact Nat.le_refl _),List.drop_eq_nil_of_le (by rw[yby];exact Nat.le_refl _)];rfl
structure Stk (S:Sto) (asked:List Bool) (g:GR):Prop where
 l:g.l=asked.reverse.map cB
 ok:g.Ok 5 1 S
theorem Stk.some {S:Sto} {b:Bool} {asked:List Bool} {g:GR} (h:Stk S (b::asked) g): ∃bk cap j,g.cell = .v (.slice (some ⟨bk,0,none⟩) (asked.length+1) cap)∧zae S bk=some (.cells (stk asked++(V.v (.int .u8 (pB b))::j)) 5)∧asked.length+1≤cap ∧
  ∃g',g'.cell = .v (.slice (some ⟨bk,0,none⟩) asked.length cap)∧Stk S asked g':=by
 obtain⟨h1,h2⟩:=h
 obtain⟨gl,blk⟩:=g
 dsimp only at h1
 subst h1
 cases blk with
 | none =>
  have:((b::asked).reverse.map cB).length=0:=by rw[show(b::asked).reverse.map cB= []from h2];rfl
  simp at this
 | some x =>
  obtain⟨bk,cap,j⟩:=x
  have hlk:=h2.look
  rw[zqx,zwz,List.append_assoc]at hlk
  have hle:=h2.le
  have hln:=h2.len
  simp only[List.length_map,List.length_reverse,List.length_cons]at hle hln
  refine⟨bk,cap,j,by rw[GR.cell_some];simp,hlk,hle,⟨asked.reverse.map cB,Option.some (bk,cap,V.v (.int .u8 (pB b))::j)⟩,by rw[GR.cell_some];simp,rfl,?_⟩
  refine⟨by rw[zqx];exact hlk,by simp only[List.length_map,List.length_reverse,List.length_cons];omega,by simp;omega,h2.cap,fun v hv=>?_,fun v hv=>h2.lf v ?_,fun c hc=>h2.ll c ?_⟩
  ·rcases List.mem_cons.1 hv with rfl|hv
   ·rfl
   ·exact h2.jf v hv
  ·rw[zqx]at hv ⊢
   rw[zwz];exact List.mem_append_left _ hv
  ·rw[List.reverse_cons,List.map_append];exact List.mem_append_left _ hc
theorem Stk.len {S:Sto} {asked:List Bool} {g:GR} (h:Stk S asked g):(g.cell = .v (.slice none 0 0)∧asked= [])∨ ∃bk cap,g.cell = .v (.slice (Option.some ⟨bk,0,none⟩) asked.length cap):=by
 obtain⟨h1,h2⟩:=h
 obtain⟨gl,blk⟩:=g
 dsimp only at h1
 subst h1
 cases blk with
 | none =>
  have:(asked.reverse.map cB).length=0:=by rw[show asked.reverse.map cB= []from h2];rfl
  exact .inl ⟨by rw[GR.cell_none],List.eq_nil_of_length_eq_zero (by simpa using this)⟩
 | some x =>
  obtain⟨bk,cap,j⟩:=x
  exact .inr ⟨bk,cap,by rw[GR.cell_some];simp⟩
theorem yfa (s:GSet) (l:List Node) (hl:l.length≤60) (hc:PC Tryz.prog 50 [s.val] (I 0)) (r:Bool×Int)
  (hr1:zdg s l≠0→r=(false,zdg s l)) (hr2:zdg s l=0→r=match askS l with
   | none=>(false,5)
   | some (asked,typed)=>if(l.length:Int)=0 then(false,0)else if 0<(asked.length:Int)then(false,6)else if typed=false then(false,15)else(numS (l.headD ⟨0,0,0,0,0,false,[]⟩).op,0)) :
  PC Tryz.prog 53 [s.val,zla l] (.tup [Bo r.1,I r.2]):=by
 have e60: ¬(60:Int)<(l.length:Int):=by omega
 refine DC.of_run Tryz.func53 rfl Tryz.ntmps53 Tryz.results53 (by simp) (fun _ _=>?_);simp only[zag,zaj,go_sem,Nat.zero_add,Nat.reduceAdd]
 repeat' (first|refine yJT ?_|refine zan inferInstance (hc) yR yT ?_|(refine zaq (t:=2) yU yE yU ?_;simp only[yS3])|fail)
 refine zbq [1,2,27,28] yN (fun(i:Nat)=> [(29,I i)]) (fun(i:Nat)=>i≤l.length∧zdg s l=zdg s (l.drop i)) (fun(i:Nat)=>l.length-i) 0 yS ⟨Nat.zero_le _,rfl⟩ (fun i B hI hB=>?_);try dsimp only at hI hB;simp only[zad,zaf]
 by_cases hi:i<l.length
 ·have hi':(i:Int)<(l.length:Int):=by omega
  have hg:=hI.2
  rw[yan hi]at hg
  have hp:=ymq s l[i]
  by_cases hz:zeg s l[i]=0
  ·rw[hz]at hp
   rw[if_neg (by omega)]at hg
   have H:=Box.mk hg
   clear hr1 hr2 hg hz hI
   repeat' (first|refine yJT ?_|(refine zbs (t:=8) yU yE yU (fun _=>yE) yE yU yV1 (fun _=>yN1) ?_;simp only[go_sem])|refine zan inferInstance (hp) yR yT ?_|fail)
   exact DS.back (hB (i+1) _ _ (by omega) (⟨by omega,H.out⟩) yS yS (fun b o e=>by first|exact e|(simp only[zaa];split <;> simp_all)))
  ·rw[if_pos hz]at hg
   rw[hr1 (by rw[hg];exact hz),hg]
   clear hr1 hr2 hg hI hB
   repeat' (first|refine yJT ?_|(refine zbs (t:=8) yU yE yU (fun _=>yE) yE yU yV1 (fun _=>yN1) ?_;simp only[go_sem])|refine zan inferInstance (hp) yR yT ?_|refine zao [] yE trivial ?_|fail)
   all_goals first|rfl|(exfalso;omega)
 ·have h0:zdg s l=0:=by rw[hI.2,List.drop_eq_nil_of_le (by omega)];rfl
  have hr:=hr2 h0
  have hall:=znx h0
  have hi': ¬(i:Int)<(l.length:Int):=by omega
  have HR:=Box.mk (And.intro hr hall)
  clear hr1 hr2 hr hall h0 hI hB hi
  repeat' (first|refine yJT ?_|fail)
  have hgc:GR.cell ⟨[],none⟩ = .v (.slice none 0 0):=rfl
  refine zbo [1,40,41] yN (fun(x:Nat×List Bool×Bool×GR×Sto)=> [(10,x.2.2.2.1.cell),(11,Bo x.2.2.1),(42,I x.1)]) (fun(x:Nat×List Bool×Bool×GR×Sto)=>x.2.2.2.2) (fun(x:Nat×List Bool×Bool×GR×Sto)=>x.1≤l.length∧x.2.1.length≤3*x.1∧(x.1=0→x.2.1= []∧x.2.2.1=true)∧(0<x.1→askS l=zif (l.drop x.1) x.2.1 x.2.2.1)∧Stk x.2.2.2.2 x.2.1 x.2.2.2.1) (fun(x:Nat×List Bool×Bool×GR×Sto)=>l.length-x.1) (0,[],true,⟨[],none⟩,[]) yS (fun b o e=>by exact e) ⟨Nat.zero_le _,Nat.zero_le _,fun _=>⟨rfl,rfl⟩,fun h=>absurd h (by decide),rfl,rfl⟩ (fun x B hI hB=>?_);try dsimp only at hI hB;simp only[zad,zaf]
  obtain⟨k,asked,typed,g,S⟩:=x
  dsimp only at hI hB
  obtain⟨i1,i2,i3,i4,i5⟩:=hI
  by_cases hk:k<l.length
  ·have hk':(k:Int)<(l.length:Int):=by omega
   have hall:=HR.out.2 l[k] (List.getElem_mem hk)
   have hs:=znm l[k].op
   rw[zvh,if_pos hall]at hs
   have HB:=Box.mk hB
   have HI:=Box.mk (And.intro i3 i4)
   clear hB i3 i4
   obtain⟨sc,hsc⟩: ∃sc,sc=(zra l[k].op).cells:=⟨_,rfl⟩
   repeat' (first|refine yJ ?_|fail)
   refine yrs yG yR ?_
   repeat' (first|refine yJ ?_|(refine zbs (t:=14) yU yE yU (fun _=>yE) yE yU yV1 (fun _=>yN1) ?_;simp only[go_sem])|(refine zsd (t:=13) yU yU yU yE yU (fun _=>yE) (fun _=>yE) yE yU yV1 (fun _=>yN1) ?_;simp only[go_sem])|refine zan inferInstance (hs) yR yT ?_|fail)
   refine zzm (fun y:List Bool×Bool×GR=> [(10,y.2.2.cell),(11,Bo y.2.1),(42,I k),(1,zla l),(40,zla l),(41,I l.length),(14, .plc (zra l[k].op).cells)]) (fun _=>S) (fun y=>Stk S y.1 y.2.2∧y.1.length≤3*k∧askS l=zif (l.drop (k+1)) ((useS l[k].op).parts++y.1) y.2.1) ?_ (fun y hy=>?_)
   ·by_cases hk0:k=0
    ·subst hk0
     obtain⟨e1,e2⟩:=HI.out.1 rfl
     subst e1;subst e2
     repeat' (first|refine yJT ?_|fail)
     exact DS.back ⟨([],true,g),⟨i5,Nat.zero_le _,ybl hk⟩,yS,fun b o e=>e⟩
    ·have hk1:(0:Int)<(k:Int):=by omega
     have ha:=HI.out.2 (by omega)
     cases asked with
     | nil =>
      have hr:=HR.out.1
      rw[ha,ybn hk]at hr
      rw[hr]
      clear hr ha
      obtain⟨gl,blk⟩:=g
      have hgl:gl= []:=i5.l
      subst hgl
      cases blk with
      | none =>
       simp only[GR.cell_none]
       repeat' (first|refine yJT ?_|refine zao [] yE trivial ?_|fail)
       all_goals first|rfl|(exfalso;omega)
      | some x =>
       obtain⟨bk,cap,j⟩:=x
       simp only[GR.cell_some,List.length_nil]
       repeat' (first|refine yJT ?_|refine zao [] yE trivial ?_|fail)
       all_goals first|rfl|(exfalso;omega)
     | cons b asked =>
      obtain⟨bk,cap,j,q1,q2,q3,g',q4,q5⟩:=i5.some
      have hN:((asked.length+1:Nat):Int)-1=(asked.length:Int):=by omega
      have hw:IntKind.i64.wrap (asked.length:Int)=(asked.length:Int):=IntWalk.i64_in _ (by simp only[List.length_cons]at i2;omega)
      have hd:=ygz asked (V.v (.int .u8 (pB b))::j)
      have hne: ¬((asked.length+1:Nat):Int)=0:=by omega
      have hpb:decide (pB b=110)=b:=by cases b <;> rfl
      rw[ybm hk]at ha
      have i2':asked.length≤3*k:=by simp only[List.length_cons]at i2;omega
      have HA:=Box.mk (And.intro q5 (And.intro i2' ha))
      have hq4:g'.cell = .v (.slice (some ⟨bk,0,none⟩) (asked.length-0) (cap-0)):=q4
      clear q5 ha q4 HI i5
      have hnum:(zra l[k].op).number=numS l[k].op:=rfl
      rw[q1]
      cases typed
      ·repeat' (first|refine yJT ?_|refine zbe (id:=22) [0,1,2,3,4,5,6,7,8,9,10] 11 yKR mixed yP1 yP2 ?_|(with_reducible first|refine zau yU yU yU yE ?_|(refine zhk yU yE ?_;refine zkd ?_)|refine zbf ?_)|fail)
       exact DS.back ⟨(asked,false,g'),HA.out,yS,fun b o e=>e⟩
      ·repeat' (first|refine yJT ?_|refine zbe (id:=22) [0,1,2,3,4,5,6,7,8,9,10] 11 yKR mixed yP1 yP2 ?_|(with_reducible first|refine zau yU yU yU yE ?_|(refine zhk yU yE ?_;refine DGG.run ?_)|refine zbf ?_)|fail)
       exact DS.back ⟨(asked,true&&b == numS l[k].op,g'),HA.out,yS,fun b o e=>e⟩
   ·obtain⟨asked1,typed1,g1⟩:=y
    dsimp only at hy ⊢
    have hpl:=ycr l[k].op
    have hsz:(zox (zra l[k].op).parts).size=(useS l[k].op).parts.length:=zpv _
    repeat' (first|refine yJ ?_|fail)
    refine zbo [1,11,14,40,41,42] yN (fun(z:Nat×GR×Sto)=> [(10,z.2.1.cell),(16, .v (.int .i64 ((z.1:Int)-1)))]) (fun(z:Nat×GR×Sto)=>z.2.2) (fun(z:Nat×GR×Sto)=>z.1≤(useS l[k].op).parts.length∧Stk z.2.2 ((useS l[k].op).parts.drop z.1++asked1) z.2.1) (fun(z:Nat×GR×Sto)=>z.1) ((useS l[k].op).parts.length,g1,S) yS (fun b o e=>by exact e) ⟨Nat.le_refl _,by rw[List.drop_length];exact hy.1⟩ (fun z B hI hB=>?_);try dsimp only at hI hB;simp only[zad,zaf]
    obtain⟨q,g2,S2⟩:=z
    dsimp only at hI hB
    by_cases hq:q=0
    ·have hq1: ¬(0:Int)≤(q:Int)-1:=by omega
     have hI2:Stk S2 ((useS l[k].op).parts++asked1) g2:=by have:=hI.2;rw[hq]at this;exact this
     clear hq hI
     repeat' (first|refine yJT ?_|fail)
     exact DS.back (HB.out (k+1,(useS l[k].op).parts++asked1,typed1,g2,S2) _ _ (by dsimp only;omega) ⟨by dsimp only;omega,by simp only[List.length_append];omega,fun h=>absurd h (by omega),fun _=>hy.2.2,hI2⟩ yS yS (fun b o e=>by exact e))
    ·have hq1:(0:Int)≤(q:Int)-1:=by omega
     obtain⟨c,hc1,hc2⟩:=yct (l:=(useS l[k].op).parts) (k:=q-1) (by omega)
     have hqt:((q:Int)-1).toNat=q-1:=by omega
     obtain⟨n1,n2,n3⟩:=hI
     have hln:g2.l.length≤1000:=by
      rw[n2];simp only[List.length_map,List.length_reverse,List.length_append,List.length_drop];omega
     have hgc:=g2.cell_copy
     repeat' (first|refine yJT ?_|fail)
     refine ygh (s:=zox (zra l[k].op).parts) (b:=c) (by decide) yU yH yH hq1 (by rw[hqt];exact hc1) ?_
     refine zbw yU yG yG ?_
     simp only[go_sem,Nat.zero_add,Nat.reduceAdd]
     refine zce rfl rfl yR (zeb (g:=g2) (ml:= [[.v (.int .u8 (c.toNat:Nat))]]) rfl yH yH yR yR (by decide) yH n3 yH yH (by simp) (by intro x hx;rw[List.mem_singleton]at hx;subst hx;rfl) ⟨by simp only[List.length_cons,List.length_nil];omega,by decide⟩) (fun u2 E' S4 hu2=>?_)
     obtain⟨rfl,b',cap',junk',rfl,m1,m2,m3⟩:=hu2
     have hl3:g2.l++List.map (fun x=>List.map V.copy x) [[V.v (Value.int IntKind.u8 (c.toNat:Nat))]]=((useS l[k].op).parts.drop (q-1)++asked1).reverse.map cB:=by
      have hdr:(useS l[k].op).parts.drop (q-1)=(useS l[k].op).parts[q-1]::(useS l[k].op).parts.drop q:=by
       rw[List.drop_eq_getElem_cons (by omega)]
       congr 2;omega
      rw[n2,hdr,hc2,List.cons_append,List.reverse_cons,List.map_append]
      rfl
     have HS:Stk S4 ((useS l[k].op).parts.drop (q-1)++asked1) ⟨g2.l++List.map (fun x=>List.map V.copy x) [[V.v (Value.int IntKind.u8 (c.toNat:Nat))]],some (b',cap',junk')⟩:=⟨hl3,m1⟩
     clear m1 m2 m3 hl3
     generalize (GR.mk (g2.l++List.map (fun x=>List.map V.copy x) [[V.v (Value.int IntKind.u8 (c.toNat:Nat))]]) (some (b',cap',junk')))=g3 at *
     have hgc3:=g3.cell_copy
     have hqc:((q-1:Nat):Int)=(q:Int)-1:=by omega
     clear hc1 hc2 n2 hgc
     simp only[zbj]
     repeat' (first|refine yJ ?_|fail)
     exact DS.back (hB (q-1,g3,S4) _ _ (by dsimp only;omega) ⟨by dsimp only;omega,HS⟩ yS yS (fun b o e=>by exact e))
  ·have hk': ¬(k:Int)<(l.length:Int):=by omega
   have hke:k=l.length:=by omega
   have hr:=HR.out.1
   have hall:=HR.out.2
   have hA:askS l=some (asked,typed):=by
    by_cases h0:k=0
    ·obtain⟨e1,e2⟩:=i3 h0
     have:l= []:=List.eq_nil_of_length_eq_zero (by omega)
     rw[this,e1,e2];rfl
    ·rw[i4 (by omega),List.drop_eq_nil_of_le (by omega)];rfl
   rw[hA]at hr
   dsimp only at hr
   have hln: ∃v,g.cell=v∧((v = .v (.slice none 0 0)∧asked= [])∨ ∃bk cap,v = .v (.slice (some ⟨bk,0,none⟩) asked.length cap)):=⟨_,rfl,i5.len⟩
   clear i3 i4 i5 hA hB HR
   by_cases h1:(l.length:Int)=0
   ·rw[if_pos h1]at hr
    rw[hr];clear hr
    obtain⟨v,hv,⟨rfl,rfl⟩|⟨bk,cap,rfl⟩⟩:=hln <;> rw[hv]
    all_goals repeat' (first|refine yJT ?_|refine zao [] yE trivial ?_|fail)
    all_goals first|rfl|(exfalso;omega)
   rw[if_neg h1]at hr
   by_cases h2:0<(asked.length:Int)
   ·rw[if_pos h2]at hr
    rw[hr];clear hr
    obtain⟨v,hv,⟨rfl,rfl⟩|⟨bk,cap,rfl⟩⟩:=hln <;> rw[hv]
    all_goals repeat' (first|refine yJ ?_|(with_reducible (refine zax yE ?_;first|refine zdt (fun _=>?_) (fun _=>?_)|refine zaz ?_|refine zbk ?_|refine ybs (fun _=>?_) (fun _=>?_)))|refine zao [] yE trivial ?_|fail)
    all_goals first|rfl|(exfalso;omega)|(exfalso;simp at h2;done)
   rw[if_neg h2]at hr
   cases typed with
   | false =>
    rw[if_pos rfl]at hr
    rw[hr];clear hr
    obtain⟨v,hv,⟨rfl,rfl⟩|⟨bk,cap,rfl⟩⟩:=hln <;> rw[hv]
    all_goals repeat' (first|refine yJ ?_|(with_reducible (refine zax yE ?_;first|refine zdt (fun _=>?_) (fun _=>?_)|refine zaz ?_|refine zbk ?_))|refine zao [] yE trivial ?_|fail)
    all_goals first|rfl|(exfalso;omega)
   | true =>
    rw[if_neg (by decide)]at hr
    have h3:0<l.length:=by omega
    have hs:=znm l[0].op
    rw[zvh,if_pos (hall l[0] (List.getElem_mem h3))]at hs
    have hh:l.headD ⟨0,0,0,0,0,false,[]⟩=l[0]:=by
     cases l with
     | nil=>simp at h3
     | cons x r=>rfl
    rw[hh]at hr
    rw[hr];clear hr
    obtain⟨v,hv,⟨rfl,rfl⟩|⟨bk,cap,rfl⟩⟩:=hln <;> rw[hv]
    all_goals repeat' (first|refine yJ ?_|(with_reducible (refine zax yE ?_;first|refine zdt (fun _=>?_) (fun _=>?_)|refine zbk ?_))|(refine zbs (t:=17) yU yE yU (fun _=>yE) yE yU yV1 (fun _=>yN1) ?_;simp only[go_sem])|refine zan inferInstance (hs) yR yT ?_|refine zao [] yE trivial ?_|fail)
    all_goals first|rfl|(exfalso;omega)
theorem zry (s:GSet) (l:List Node):zou s l:=by
 rw[zou]
 have hc:=zfl s
 by_cases h0:zbn s=0
 ·rw[h0]at hc
  by_cases h1:60<(l.length:Int)
  ·have e:zhg s l=(false,5):=by rw[zhg,if_neg (by omega),if_pos h1]
   rw[e]
   refine DC.of_run Tryz.func53 rfl Tryz.ntmps53 Tryz.results53 (by simp) (fun _ _=>?_);simp only[zag,zaj,go_sem,Nat.zero_add,Nat.reduceAdd]
   repeat' (first|refine yJT ?_|refine zan inferInstance (hc) yR yT ?_|(refine zaq (t:=2) yU yE yU ?_;simp only[yS3])|refine zao [] yE trivial ?_|fail)
   all_goals first|rfl|(exfalso;omega)
  ·refine yfa s l (by omega) hc _ (fun h=>?_) (fun h=>?_)
   ·rw[zhg,if_neg (by omega),if_neg h1,if_pos h]
   ·rw[zhg,if_neg (by omega),if_neg h1,if_neg (by omega)]
    cases askS l with
    | none=>rfl
    | some x=>rfl
 ·have e:zhg s l=(false,zbn s):=by rw[zhg,if_pos h0]
  rw[e]
  refine DC.of_run Tryz.func53 rfl Tryz.ntmps53 Tryz.results53 (by simp) (fun _ _=>?_);simp only[zag,zaj,go_sem,Nat.zero_add,Nat.reduceAdd]
  repeat' (first|refine yJT ?_|refine zan inferInstance (hc) yR yT ?_|(refine zaq (t:=2) yU yE yU ?_;simp only[yS3])|refine zao [] yE trivial ?_|fail)
  all_goals first|rfl|(exfalso;omega)
end Go.XL
namespace Go.XL
open Go.Proofs
set_option maxRecDepth 100000
set_option maxHeartbeats 8000000
theorem ypa (h:House):h.CondsPC:=⟨zry _ _,fun i hi=>zry _ _⟩
theorem ygr (p:Pattern) (o:Bool):PC Tryz.prog 26 [p.val,Bo o] (I (zka p o)):=by
 refine DC.of_run Tryz.func26 rfl Tryz.ntmps26 Tryz.results26 (by simp) (fun _ _=>?_);simp only[zag,zaj,go_sem,Nat.zero_add,Nat.reduceAdd]
 repeat' (first|refine yJ ?_|(with_reducible (refine zax yE ?_;refine ynv (fun _=>?_) (fun _=>?_)))|(refine zaq (t:=2) yU yE yU ?_;simp only[yS3])|refine zao [] yE trivial ?_|fail)
 all_goals (simp only[tupV,zka];simp[*])
theorem ykp {P:Program} {n:Nat} {r:Rr} {Q:VEnv→Sto→Prop} {k:List Fr} {E:VEnv} {S:Sto} {t:Nat} {f:FuncId} {cs:List Value} (hE:zbr E t=some (.fn f [] (cs.map V.v))) (q:DS P n r Q k ((t, .v (.func (.func f) #[] cs.toArray))::E) S):DS P n r Q k E S:=by
 intro K W a w ⟨K',D,hv,hold,env,hb,ha,s⟩ hw
 refine q K W a w ⟨K',D,hv,hold,env,hb,ha,⟨s.pre,fun u v e=>?_,s.obj,s.held,s.base,s.vbase⟩⟩ hw
 simp only[zbr]at e
 by_cases hu:t=u
 ·subst hu
  simp only[if_true,Option.some.injEq]at e;subst e
  obtain⟨y,e1,e2,_⟩:=s.slot t _ hE
  simp only[V.Rl]at e2
  obtain⟨xs,ys,rfl,h1,h2⟩:=e2
  have key: ∀(l:List Value) (ys:List Value),RlL hv (l.map V.v) ys→ys=l:=by
   intro l
   induction l with
   | nil=>intro ys h;simpa [RlL] using h
   | cons a l ih =>
    intro ys h
    simp only[List.map_cons,RlL,V.Rl]at h
    obtain⟨z,zs,rfl,rfl,h3⟩:=h
    rw[ih _ h3]
  have hx:xs= []:=by simpa [RlL] using h1
  rw[key _ _ h2,hx]at e1
  exact⟨_,e1,by simp only[V.Rl],trivial⟩
 ·rw[if_neg hu]at e;exact s.slot u v e
theorem zcn {d b:Nat} {o:Ob} {r:Sto} (h:zae ((d,o)::r) b=none): ¬d=b∧zae r b=none:=by
 simp only[zae]at h
 by_cases e:d=b
 ·rw[if_pos e]at h;cases h
 ·rw[if_neg e]at h;exact⟨e,h⟩
def zqr (id:Nat):Code→Option Code
 | .seq a b=>if(match a with | .region i _ _=>i == id|_=>false)then some b else match zqr id a with|some x=>some x|none=>zqr id b
 | .cond _ a b=>match zqr id a with|some x=>some x|none=>zqr id b
 | .block _ c=>zqr id c
 | .loop c=>zqr id c
 | .scope c=>zqr id c
 | _=>none
theorem zwh (h:House) (L:List Int) (hok:PatsOk h) (hLl:L.length=h.patterns.length) (hLb: ∀v∈L,0≤v∧v≤1000000) (b11 bv bc b14 bm b15 b16:Nat) (d1: ¬b11=bc) (d2: ¬bv=bc) (d3: ¬bc=b14) (d4: ¬b11=b14) (d5: ¬bv=b14) (d6: ¬b14=bm) (d7: ¬bc=bm) (d8: ¬b11=bm) (d9: ¬bv=bm) (d10: ¬bm=b15) (d11: ¬b14=b15) (d12: ¬bc=b15) (d13: ¬b11=b15) (d14: ¬bv=b15) (d15: ¬b15=b16) (d16: ¬bm=b16) (d17: ¬b14=b16) (d18: ¬bc=b16) (d19: ¬b11=b16) (d20: ¬bv=b16) (d21: ¬b11=bv)
  {v0:VH} {hk:Kn v0} {cd:Code} (h3:Tryz.f9.body.bind (zqr 20)=some cd) :
  DS Tryz.prog 118 ⟨none,v0,hk⟩ (FinV Tryz.prog [.tmp 6, .tmp 7, .tmp 8] fun u _=>u = .tup [ints ((zfv (zop h L).2).map natI),I (zop h L).1,I 0]) [.code cd]
   [(6, .own false 3 1 []),(11, .v (ptrV b11)),(14, .v (ptrV b14)),(15, .v (ptrV b15)),(16, .v (ptrV b16))] [(b11, .cells [.v (.slice (some ⟨bv,0,none⟩) h.patterns.length h.patterns.length)] 22),(bv, .cells (L.map I) 3),(b15, .cells [.v (.map (some bm))] 80),(bm, .raw (.map #[] 0)),(b14, .cells [.v (.slice (some ⟨bc,0,none⟩) h.patterns.length h.patterns.length)] 78),(bc, .cells (((List.range h.patterns.length).map (clM h)).map UN) 82),(b16, .cells [.v .nilFunc] 81)]:=by
 have hm:=hok.many
 obtain rfl:=Option.some.inj ((show Tryz.f9.body.bind (zqr 20)=some _ from rfl).symm.trans h3)
 clear h3
 have s1:=fun e=>d1 (Eq.symm e)
 have s2:=fun e=>d2 (Eq.symm e)
 have s3:=fun e=>d3 (Eq.symm e)
 have s4:=fun e=>d4 (Eq.symm e)
 have s5:=fun e=>d5 (Eq.symm e)
 have s6:=fun e=>d6 (Eq.symm e)
 have s7:=fun e=>d7 (Eq.symm e)
 have s8:=fun e=>d8 (Eq.symm e)
 have s9:=fun e=>d9 (Eq.symm e)
 have s10:=fun e=>d10 (Eq.symm e)
 have s11:=fun e=>d11 (Eq.symm e)
 have s12:=fun e=>d12 (Eq.symm e)
 have s13:=fun e=>d13 (Eq.symm e)
 have s14:=fun e=>d14 (Eq.symm e)
 have s15:=fun e=>d15 (Eq.symm e)
 have s16:=fun e=>d16 (Eq.symm e)
 have s17:=fun e=>d17 (Eq.symm e)
 have s18:=fun e=>d18 (Eq.symm e)
 have s19:=fun e=>d19 (Eq.symm e)
 have s20:=fun e=>d20 (Eq.symm e)
 have s21:=fun e=>d21 (Eq.symm e)
 refine DS.seq ?_
 refine zjy ?_
 refine zak yR yR yG ?_
 refine ykp (t:=84) (cs:=zun b15 b16 b14 b11) yR ?_
 repeat' (first|refine yJ ?_|(refine DS.store yR yE yE yE yE yU yQ ?_;simp only[yS1];try simp only[yS2,Nat.reduceEqDiff,↓reduceIte])|fail)
 refine zbt (S':= [(b11, .cells [.v (.slice (some ⟨bv,0,none⟩) h.patterns.length h.patterns.length)] 22),(bv, .cells (L.map I) 3),(b15, .cells [.v (.map (some bm))] 80),(bm, .raw (.map #[] 0)),(b14, .cells [.v (.slice (some ⟨bc,0,none⟩) h.patterns.length h.patterns.length)] 78),(bc, .cells (((List.range h.patterns.length).map (clM h)).map UN) 82),(b16, .cells [.v (Value.func (.func 28) #[] (zun b15 b16 b14 b11).toArray)] 81)]) (fun b o e=>by simp only[setS,↓reduceIte,if_neg d15,if_neg d16,if_neg d17,if_neg d18,if_neg d19,if_neg d20];exact e) ?_
 have hall0:(0:Int)=((allK L 0:Nat):Int):=rfl
 refine zbq [6,16,85,86] yN (fun(k:Nat)=> [(17,UN (allK L k)),(87,I k)]) (fun(k:Nat)=>k≤h.patterns.length) (fun(k:Nat)=>h.patterns.length-k) 0 yS (Nat.zero_le _) (fun k B hI hB=>?_);try dsimp only at hI hB;simp only[zad,zaf]
 have hmk:=Nat.lt_of_lt_of_le (zwn L k) (show 2 ^ k≤2 ^ 64 from Nat.pow_le_pow_right (by omega) (by omega))
 clear hall0
 by_cases hkn:k<h.patterns.length
 ·have hkn':(k:Int)<(h.patterns.length:Int):=by omega
  have hkL:k<L.length:=by omega
  have hgd:L.getD k 0=L[k]:=by rw[List.getD_eq_getElem?_getD,List.getElem?_eq_getElem hkL];rfl
  by_cases hpos:0<L[k]
  ·have hnx:allK L (k+1)=allK L k ||| 2 ^ k:=by rw[allK,hgd,if_pos hpos]
   have s1:bop Tryz.prog .shl 82 (.int .u64 1) (.int .i64 (k:Int))=some (.int .u64 ((2 ^ k:Nat):Int)):=zne (by omega)
   have o1:bop Tryz.prog .or 82 (.int .u64 (allK L k:Nat)) (.int .u64 ((2 ^ k:Nat):Int))=some (.int .u64 ((allK L k ||| 2 ^ k:Nat):Int)):=zrz (by simpa using hmk) (show _<2 ^ 64 from Nat.pow_lt_pow_right (by omega) (by omega))
   have HN:=Box.mk hnx
   clear hgd hnx
   repeat' (first|refine yJT ?_|fail)
   exact DS.back (hB (k+1) _ _ (by omega) (by omega) (by rw[HN.out];simp (disch:=omega) only[go_sem,dopV,yV0,↓reduceIte,Nat.reduceEqDiff,Nat.reduceLT,Nat.reduceLeDiff,Nat.reduceAdd,Nat.reduceMul,Nat.reduceSub,Int.reduceToNat,Int.reduceLT,Int.reduceLE,Int.reduceEq,IntWalk.toNatUp,IntWalk.iteOmega,IntWalk.i64_in,V.flat,V.one,zij,zjq,zje,zks,and_self,Int.natCast_add,Int.natCast_one,Int.natCast_zero,Int.zero_add,Int.reduceAdd,List.map_append,ints,rows, *]) yS (fun b o e=>by exact e))
  ·have hnx:allK L (k+1)=allK L k:=by rw[allK,hgd,if_neg hpos]
   have HN:=Box.mk hnx
   clear hgd hnx
   repeat' (first|refine yJT ?_|fail)
   exact DS.back (hB (k+1) _ _ (by omega) (by omega) (by rw[HN.out];simp (disch:=omega) only[go_sem,dopV,yV0,↓reduceIte,Nat.reduceEqDiff,Nat.reduceLT,Nat.reduceLeDiff,Nat.reduceAdd,Nat.reduceMul,Nat.reduceSub,Int.reduceToNat,Int.reduceLT,Int.reduceLE,Int.reduceEq,IntWalk.toNatUp,IntWalk.iteOmega,IntWalk.i64_in,V.flat,V.one,zij,zjq,zje,zks,and_self,Int.natCast_add,Int.natCast_one,Int.natCast_zero,Int.zero_add,Int.reduceAdd,List.map_append,ints,rows, *]) yS (fun b o e=>by exact e))
 ·have hkn': ¬(k:Int)<(h.patterns.length:Int):=by omega
  have hke:k=h.patterns.length:=by omega
  have hal:allK L k=allK L h.patterns.length:=by rw[hke]
  clear hB hke
  repeat' (first|refine yJT ?_|fail)
  have hlt:allK L h.patterns.length<2 ^ h.patterns.length:=zwn L _
  have hfl:Fl (VHs [(b15,[.map (some bm)],80),(b16,[Value.func (.func 28) #[] (zun b15 b16 b14 b11).toArray],81),(b14,[.slice (some ⟨bc,0,none⟩) h.patterns.length h.patterns.length],78),(bc,((List.range h.patterns.length).map (clM h)).map (fun m=>Value.int .u64 (m:Nat)),82),(b11,[.slice (some ⟨bv,0,none⟩) h.patterns.length h.patterns.length],22),(bv,L.map (fun x=>Value.int .i64 x),3)]) b15 b16 b14 b11 bm bc bv h.patterns.length (clM h) (fun i=>L.getD i 0):=by
   refine⟨?_,?_,?_,fun i hi=>?_,?_,fun i hi=>?_⟩
   ·simp only[zfq,VHs,↓reduceIte];rfl
   ·simp only[zfq,VHs,if_neg s15,↓reduceIte];rfl
   ·simp only[zfq,VHs,if_neg d11,if_neg d17,↓reduceIte];rfl
   ·simp only[zfq,VHs,if_neg d12,if_neg d18,if_neg d3,↓reduceIte]
    simp[hi]
   ·simp only[zfq,VHs,if_neg d13,if_neg d19,if_neg d4,if_neg d1,↓reduceIte];rfl
   ·simp only[zfq,VHs,if_neg d14,if_neg d20,if_neg d5,if_neg d2,if_neg s21,↓reduceIte]
    simp[hLl,hi]
  have hvs: ∀i,0≤L.getD i 0∧L.getD i 0≤1000000:=fun i=>by
   rw[List.getD_eq_getElem?_getD]
   cases e:L[i]? with
   | none=>exact⟨Int.le_refl _,by decide⟩
   | some v=>exact hLb v (List.mem_of_getElem? e)
  have hgo:=ydo hfl hm (fun i=>by simpa using ypc h i) hvs (allK L h.patterns.length+1) (allK L h.patterns.length) (by omega) hlt [(bm, .raw (.map #[] 0))] ⟨_,_,_,by rw[zaa,if_pos rfl],MapIs.empty _ _,fun k hk v hv=>by cases hv⟩
  refine yku (args:= [UN (allK L h.patterns.length)]) [(b15,[.map (some bm)],80),(b16,[Value.func (.func 28) #[] (zun b15 b16 b14 b11).toArray],81),(b14,[.slice (some ⟨bc,0,none⟩) h.patterns.length h.patterns.length],78),(bc,((List.range h.patterns.length).map (clM h)).map (fun m=>Value.int .u64 (m:Nat)),82),(b11,[.slice (some ⟨bv,0,none⟩) h.patterns.length h.patterns.length],22),(bv,L.map (fun x=>Value.int .i64 x),3)] ?_ ?_ inferInstance yH (by(simp (disch:=omega) only[go_sem,dopV,yV0,↓reduceIte,Nat.reduceEqDiff,Nat.reduceLT,Nat.reduceLeDiff,Nat.reduceAdd,Nat.reduceMul,Nat.reduceSub,Int.reduceToNat,Int.reduceLT,Int.reduceLE,Int.reduceEq,IntWalk.toNatUp,IntWalk.iteOmega,IntWalk.i64_in,V.flat,V.one,hal];try exact rfl)) hgo ?_ (by decide) (fun u S' hu=>?_)
  ·simp[*]
   exact⟨⟨s11,s12,s13,s14⟩,⟨s17,s18,s19,s20⟩,⟨s3,s4,s5⟩,s1,s2⟩
  ·intro x hx
   simp only[List.mem_cons,List.not_mem_nil,or_false]at hx
   rcases hx with rfl|rfl|rfl|rfl|rfl|rfl
   ·simp only[zaa,if_neg d13,if_neg d14,↓reduceIte];rfl
   ·simp only[zaa,if_neg d19,if_neg d20,if_neg d15,if_neg d16,if_neg d17,if_neg d18,↓reduceIte];rfl
   ·simp only[zaa,if_neg d4,if_neg d5,if_neg s11,if_neg s6,↓reduceIte];rfl
   ·simp only[zaa,if_neg d1,if_neg d2,if_neg s12,if_neg s7,if_neg s3,↓reduceIte,List.map_map];rfl
   ·simp only[zaa,↓reduceIte];rfl
   ·simp only[zaa,if_neg d21,↓reduceIte,List.map_map];rfl
  ·intro b o e
   simp only[yew,delS,↓reduceIte,if_neg d13,if_neg d14,if_neg d10,if_neg d11,if_neg d12,if_neg s15,if_neg d19,if_neg d20,if_neg d16,if_neg d17,if_neg d18,if_neg d4,if_neg d5,if_neg s6,if_neg d3,if_neg d1,if_neg d2,if_neg s7,if_neg s8,if_neg s21,if_neg s9]
   exact e
  obtain⟨rfl,-⟩:=hu
  rw[show zhz (fun i k=>(clM h i).testBit k) (fun i=>L.getD i 0) (allK L h.patterns.length)=zop h L from rfl]
  have hb64:(zop h L).2<18446744073709551616:=zrl _ fun j hj=>(zwl _ j ((zll _ _ _ _ (Nat.le_refl _)).subset hj)).1
  generalize zop h L=bx at *
  clear hgo hfl hvs hlt hal
  repeat' (first|refine yJ ?_|(refine zbs (t:=20) yU yE yU (fun _=>yE) yE yU yV1 (fun _=>yN1) ?_;simp only[go_sem])|fail)
  refine zbq [20] yN (fun(y:List Nat×Nat)=> [(6, .own false 3 1 ((y.1.map natI).map cI)),(21,UN y.2)]) (fun(y:List Nat×Nat)=>y.2<18446744073709551616∧zfv bx.2=y.1++zfv y.2) (fun(y:List Nat×Nat)=>y.2) ([],bx.2) yS ⟨hb64,rfl⟩ (fun y B hI hB=>?_);try dsimp only at hI hB;simp only[zad,zaf]
  obtain⟨acc,s⟩:=y
  dsimp only at hI hB
  obtain⟨i1,i2⟩:=hI
  have hlen:acc.length≤64:=by
   have h1:(zfv bx.2).length≤64:=by
    have:=List.length_filter_le (fun i=>bx.2.testBit i) (List.range 64)
    simpa [zfv] using this
   rw[i2,List.length_append]at h1;omega
  by_cases hs0:s=0
  ·have hs0':(s:Int)=0:=by omega
   rw[hs0,zur,List.append_nil]at i2
   rw[i2]
   clear i2 hB hs0
   repeat' (first|refine yJT ?_|refine zbe (id:=34) [0,1,2,3] 4 yKR mixed yP1 yP2 ?_|(with_reducible refine zva (t:=6) yU yO yE ?_;simp only[yS2,Nat.reduceEqDiff,↓reduceIte];simp only[zas,zat,Nat.reduceEqDiff,↓reduceIte])|(with_reducible refine zva (t:=115) yU yO yE ?_;simp only[yS2,Nat.reduceEqDiff,↓reduceIte];simp only[zas,zat,Nat.reduceEqDiff,↓reduceIte])|(with_reducible first|refine zau yU yU yU yE ?_|refine zbf ?_)|refine zao [] yE trivial ?_|fail)
   all_goals first|rfl|(exfalso;omega)
  ·have hs0': ¬(s:Int)=0:=by omega
   have hcz:=yli s i1
   have hpr:=ykb hs0 (by simpa using i1)
   have hbc2:=zus hs0 (by simpa using i1)
   have hw:IntKind.u64.wrap ((s:Int)-1)=((s-1:Nat):Int):=by rw[IntWalk.u64_in _ (by omega)];omega
   have ha:bop Tryz.prog .and 82 (.int .u64 (s:Int)) (.int .u64 ((s-1:Nat):Int))=some (.int .u64 ((s &&& (s-1):Nat):Int)):=zzh i1 (by omega)
   rw[←hpr]at hbc2
   have hle:s &&& (s-1)≤s-1:=Nat.and_le_right
   have HB:=Box.mk (And.intro hbc2 (And.intro i2 hB))
   clear hbc2 i2 hB hpr
   have hnat: ∀n:Nat,natI n=(n:Int):=fun _=>rfl
   repeat' (first|(with_reducible refine zcj (t:=6) yU yO yE ?_;simp only[yS2,Nat.reduceEqDiff,↓reduceIte])|(with_reducible refine zcj (t:=110) yU yO yE ?_;simp only[yS2,Nat.reduceEqDiff,↓reduceIte])|refine yJT ?_|(refine zbw yU yE yE ?_;simp only[go_sem,Nat.zero_add,Nat.reduceAdd])|(refine DS.append (mm:=false) yU yE yE yU (by decide) yE yO2 yE yX1 yLM yQ2 ?_;simp only[yS2,Nat.reduceEqDiff,↓reduceIte])|refine zan inferInstance (hcz) yR yT ?_|fail)
   exact DS.back (HB.out.2.2 (acc++ [Lib.ctz 64 s],s &&& (s-1)) _ _ (by dsimp only;omega) ⟨by dsimp only;omega,by dsimp only;rw[HB.out.2.1,HB.out.1,List.append_assoc];rfl⟩ yS yS (fun b o e=>by exact e))
theorem zwi (h : House) (holds : List Hold) (o : Bool) (ok : h.Ok) (hk : PC Tryz.prog 25 [h.val] (I 0)) (hl : holds.length ≤ 40) (r : List Int × Int × Int)
    (hr1 : zgi h.patterns.length holds (-1) ≠ 0 → r = ([], 0, zgi h.patterns.length holds (-1)))
    (hr2 : zgi h.patterns.length holds (-1) = 0 → r = ((zfv (zop h (zve h holds o)).2).map natI, (zop h (zve h holds o)).1, 0)) :
    PC Tryz.prog 9 [h.val, ydm holds, Bo o] (.tup [ints r.1, I r.2.1, I r.2.2]) := by
  have hok := yos ok
  have hm := hok.many
  have e40 : ¬ (40 : Int) < (holds.length : Int) := by omega
  refine DC.of_run Tryz.func9 rfl Tryz.ntmps9 Tryz.results9 (by simp) (fun _ _ => ?_); simp only [zag, zaj, go_sem, Nat.zero_add, Nat.reduceAdd]
  repeat' (first | (with_reducible (refine zbu (t := 6) yU yO yE ?_)) | refine yJT ?_ | refine zan inferInstance (hk) yR yT ?_ | (refine zaq (t := 3) yU yE yU ?_; simp only [yS3]) | (refine zmo yU yE yE yE yE yU yU ⟨by omega, by omega, by decide, by omega⟩ (fun _ hfr => ?_)) | fail)
  rename_i bv
  have hbv := hfr
  refine zbd yR yU yU (fun b11 hb11 => ?_)
  have hz : (List.map V.v (Value.slice none 0 0).cells.toList) = [.v (.slice none 0 0)] := rfl
  have hz2 : zcm (.int .i64 0) h.patterns.length = (List.replicate h.patterns.length 0).map I := by
    rw [zcm]
    have e : (Value.int IntKind.i64 0).cells.toList.map V.v = [I 0] := rfl
    rw [e]; simp
  rw [hz, Int.toNat_natCast, hz2]
  clear hz hz2
  have hbne : ¬ b11 = bv := fun e => by rw [e] at hb11; simp [zae] at hb11
  repeat' (first | refine yJ ?_ | (refine DS.store yR yE yE yE yE yU yQ ?_; simp only [yS1]; try simp only [yS2, Nat.reduceEqDiff, ↓reduceIte]) | fail)
  refine zbt (S' := [(b11, .cells [.v (.slice (some ⟨bv, 0, none⟩) h.patterns.length h.patterns.length)] 22), (bv, .cells ((List.replicate h.patterns.length 0).map I) 3)]) (fun b o e => by simp only [setS, ↓reduceIte]; exact e) ?_
  refine zbo [2, 3, 11, 34, 35] yN (fun (x : Nat × Int × List Int) => [(6, .own false 3 1 []), (10, I x.2.1), (36, I x.1)]) (fun (x : Nat × Int × List Int) => [(b11, .cells [.v (.slice (some ⟨bv, 0, none⟩) h.patterns.length h.patterns.length)] 22), (bv, .cells (x.2.2.map I) 3)]) (fun (x : Nat × Int × List Int) => x.1 ≤ holds.length ∧ zgi h.patterns.length holds (-1) = zgi h.patterns.length (holds.drop x.1) x.2.1 ∧ zve h holds o = zpe h o (holds.drop x.1) x.2.2 ∧ x.2.2.length = h.patterns.length ∧ (∀ v ∈ x.2.2, 0 ≤ v ∧ v ≤ 1000000) ∧ -1 ≤ x.2.1) (fun (x : Nat × Int × List Int) => holds.length - x.1) (0, -1, List.replicate h.patterns.length 0) yS (fun b o e => by exact e) ⟨Nat.zero_le _, rfl, rfl, by simp, fun v hv => by rw [(List.mem_replicate.1 hv).2]; decide, Int.le_refl _⟩ (fun x B hI hB => ?_); try dsimp only at hI hB; simp only [zad, zaf]
  obtain ⟨k, last, L⟩ := x
  dsimp only at hI hB
  obtain ⟨i1, i2, i3, i4, i5, i6⟩ := hI
  have HB := Box.mk hB
  clear hB
  by_cases hk : k < holds.length
  · have hk' : (k : Int) < (holds.length : Int) := by omega
    rw [yay hk] at i2
    rw [ybt hk] at i3
    by_cases c1 : 0 ≤ holds[k].pattern ∧ holds[k].pattern < (h.patterns.length : Int) ∧ 1 ≤ holds[k].times ∧ holds[k].times ≤ 1000
    · rw [if_neg (fun hc => hc c1)] at i2
      by_cases c2 : holds[k].pattern ≤ last
      · rw [if_pos c2] at i2
        rw [hr1 (by rw [i2]; decide), i2]
        clear hr1 hr2 i2 i3 i5 HB
        repeat' (first | (with_reducible (refine zbu (t := 6) yU yO yE ?_)) | refine yJ ?_ | (with_reducible first | (refine zax yE ?_; first | refine zdt (fun _ => ?_) (fun _ => ?_) | refine zaz ?_) | (refine zbm yU yE ?_; first | refine zer (fun _ => ?_) (fun _ => ?_) | refine GG.run ?_ | refine zcy ?_)) | (refine zbs (t := 13) yU yE yU (fun _ => yE) yE yU yV1 (fun _ => yN1) ?_; simp only [go_sem]) | refine zao [] yE trivial ?_ | fail)
        all_goals first | rfl | (exfalso; omega)
      · rw [if_neg c2] at i2
        obtain ⟨P, hP⟩ := Int.eq_ofNat_of_zero_le c1.1
        have hPn : P < h.patterns.length := by omega
        have hpk := hok.ok P hPn
        have hw := ygr h.patterns[P] o
        have hwb : 0 ≤ zka h.patterns[P] o ∧ zka h.patterns[P] o ≤ 1000 := by
          have h1 := hpk.closed
          have h2 := hpk.open_
          rw [ycp hPn] at h1 h2
          unfold zka; split <;> omega
        have hpt : h.pat holds[k].pattern.toNat = h.patterns[P] := by rw [hP, Int.toNat_natCast, ycp hPn]
        rw [hpt, hP, Int.toNat_natCast] at i3
        rw [hP] at i2
        have hmul : 0 ≤ holds[k].times * zka h.patterns[P] o ∧ holds[k].times * zka h.patterns[P] o ≤ 1000000 := ⟨Int.mul_nonneg (by omega) hwb.1, by
          have := Int.mul_le_mul c1.2.2.2 hwb.2 hwb.1 (show (0 : Int) ≤ 1000 by omega)
          omega⟩
        have c2' : ¬ (P : Int) ≤ last := by omega
        have hPn' : (P : Int) < (h.patterns.length : Int) := by omega
        have ht1 : 1 ≤ holds[k].times ∧ holds[k].times ≤ 1000 := c1.2.2
        have H := Box.mk (And.intro i2 (And.intro i3 i5))
        have hLl : P < L.length := by omega
        clear hr1 hr2 i2 i3 i5 c1 c2 hpt
        repeat' (first | (with_reducible (refine zbu (t := 6) yU yO yE ?_)) | refine yJ ?_ | (with_reducible first | (refine zax yE ?_; first | refine zdt (fun _ => ?_) (fun _ => ?_) | refine zaz ?_ | refine zbk ?_) | (refine zbm yU yE ?_; first | refine zer (fun _ => ?_) (fun _ => ?_) | refine GG.run ?_ | refine zcy ?_)) | (refine zbs (t := 13) yU yE yU (fun _ => yE) yE yU yV1 (fun _ => yN1) ?_; simp only [go_sem]) | (refine DS.store yR yE yE yE yE yU yQ ?_; simp only [yS1]; try simp only [yS2, Nat.reduceEqDiff, ↓reduceIte]) | refine zbe (id := 16) [0, 1, 2, 3, 4, 5, 6, 7, 8, 9, 10, 11] 12 yKR mixed yP1 yP2 ?_ | (with_reducible first | refine zau yU yU yU yE ?_ | refine zbf ?_) | refine zdd inferInstance (hw) yU yT ?_ | fail)
        all_goals first
          | (exfalso; omega)
          | (refine DS.back (HB.out (k + 1, (P : Int), L.set P (holds[k].times * zka h.patterns[P] o)) _ _ (by dsimp only; omega) ⟨by dsimp only; omega, H.out.1, H.out.2.1, by simpa using i4, fun v hv => ?_, by dsimp only; omega⟩ yS yS (fun b o e => ?_))
             · rcases List.mem_or_eq_of_mem_set hv with h | h
               · exact H.out.2.2 v h
               · rw [h]; exact hmul
             · dsimp only at e
               rw [List.map_set] at e
               simp only [setS, if_neg hbne, ↓reduceIte]
               exact e)
    · rw [if_pos c1] at i2
      rw [hr1 (by rw [i2]; decide), i2]
      clear hr1 hr2 i2 i3 i5 HB
      repeat' (first | (with_reducible (refine zbu (t := 6) yU yO yE ?_)) | refine yJ ?_ | (with_reducible first | (refine zax yE ?_; first | refine zdt (fun _ => ?_) (fun _ => ?_) | refine zaz ?_) | (refine zbm yU yE ?_; first | refine zer (fun _ => ?_) (fun _ => ?_) | refine GG.run ?_ | refine zcy ?_)) | (refine zbs (t := 13) yU yE yU (fun _ => yE) yE yU yV1 (fun _ => yN1) ?_; simp only [go_sem]) | refine zbe (id := 16) [0, 1, 2, 3, 4, 5, 6, 7, 8, 9, 10, 11] 12 yKR mixed yP1 yP2 ?_ | with_reducible refine zau yU yU yU yE ?_ | refine zao [] yE trivial ?_ | fail)
      all_goals first | rfl | (exfalso; omega)
  · have hk' : ¬ (k : Int) < (holds.length : Int) := by omega
    have h0 : zgi h.patterns.length holds (-1) = 0 := by rw [i2, List.drop_eq_nil_of_le (by omega)]; rfl
    have hv : zve h holds o = L := by rw [i3, List.drop_eq_nil_of_le (by omega)]; rfl
    have hr := hr2 h0
    rw [hv] at hr
    have HR := Box.mk (And.intro hr i5)
    have hcl := zwg h hok
    clear hr1 hr2 h0 hv hr i5 i2 i3 HB
    repeat' (first | refine yJT ?_ | fail)
    refine DS.call (dst := some 82) [] [(b11, .cells [.v (.slice (some ⟨bv, 0, none⟩) h.patterns.length h.patterns.length)] 22), (bv, .cells (L.map I) 3)] inferInstance hcl yR yH (fun _ _ e => by cases e) (fun _ _ e => ⟨e, rfl⟩) (fun u S' hu hdis => ?_)
    obtain ⟨bc, rfl, rfl⟩ := hu
    simp only [zbj, List.cons_append, List.nil_append]
    obtain ⟨d1, hbc⟩ := zcn (hdis bc _ (by rw [zaa, if_pos rfl]))
    obtain ⟨d2, -⟩ := zcn hbc
    clear hdis hcl hbc
    refine zde (E' := [(82, .v (.slice (some ⟨bc, 0, none⟩) h.patterns.length h.patterns.length)), (6, .own false 3 1 []), (11, .v (ptrV b11))]) (zei ⟨by rfl, by rfl, by rfl, trivial⟩) (fun _ _ e => e) ?_
    refine zbd yR yU yU (fun b14 hb14 => ?_)
    obtain ⟨d3, hb14⟩ := zcn hb14
    obtain ⟨d4, hb14⟩ := zcn hb14
    obtain ⟨d5, -⟩ := zcn hb14
    have hz : (List.map V.v (Value.slice none 0 0).cells.toList) = [.v (.slice none 0 0)] := rfl
    rw [hz]
    clear hz hb14
    repeat' (first | refine yJ ?_ | (refine DS.store yR yE yE yE yE yU yQ ?_; simp only [yS1]; try simp only [yS2, Nat.reduceEqDiff, ↓reduceIte]) | fail)
    refine zbt (S' := [(b14, .cells [.v (.slice (some ⟨bc, 0, none⟩) h.patterns.length h.patterns.length)] 78), (bc, .cells (((List.range h.patterns.length).map (clM h)).map UN) 82), (b11, .cells [.v (.slice (some ⟨bv, 0, none⟩) h.patterns.length h.patterns.length)] 22), (bv, .cells (L.map I) 3)]) (fun b o e => by simp only [setS, ↓reduceIte]; exact e) ?_
    refine ykl yR (fun bm hbm => ?_)
    obtain ⟨d6, hbm⟩ := zcn hbm
    obtain ⟨d7, hbm⟩ := zcn hbm
    obtain ⟨d8, hbm⟩ := zcn hbm
    obtain ⟨d9, -⟩ := zcn hbm
    simp only [zbj]
    refine zbd yR yU yU (fun b15 hb15 => ?_)
    obtain ⟨d10, hb15⟩ := zcn hb15
    obtain ⟨d11, hb15⟩ := zcn hb15
    obtain ⟨d12, hb15⟩ := zcn hb15
    obtain ⟨d13, hb15⟩ := zcn hb15
    obtain ⟨d14, -⟩ := zcn hb15
    have hz : (List.map V.v (Value.map none).cells.toList) = [.v (.map none)] := rfl
    rw [hz]
    clear hz hbm hb15
    repeat' (first | refine yJ ?_ | (refine DS.store yR yE yE yE yE yU yQ ?_; simp only [yS1]; try simp only [yS2, Nat.reduceEqDiff, ↓reduceIte]) | fail)
    refine zbt (S' := [(b15, .cells [.v (.map (some bm))] 80), (bm, .raw (.map #[] 0)), (b14, .cells [.v (.slice (some ⟨bc, 0, none⟩) h.patterns.length h.patterns.length)] 78), (bc, .cells (((List.range h.patterns.length).map (clM h)).map UN) 82), (b11, .cells [.v (.slice (some ⟨bv, 0, none⟩) h.patterns.length h.patterns.length)] 22), (bv, .cells (L.map I) 3)]) (fun b o e => by simp only [setS, ↓reduceIte]; exact e) ?_
    refine zbd yR yU yU (fun b16 hb16 => ?_)
    obtain ⟨d15, hb16⟩ := zcn hb16
    obtain ⟨d16, hb16⟩ := zcn hb16
    obtain ⟨d17, hb16⟩ := zcn hb16
    obtain ⟨d18, hb16⟩ := zcn hb16
    obtain ⟨d19, hb16⟩ := zcn hb16
    obtain ⟨d20, -⟩ := zcn hb16
    have hz : (List.map V.v Value.nilFunc.cells.toList) = [.v .nilFunc] := rfl
    rw [hz]
    clear hz hb16
    refine zjp ?_
    refine zde (E' := [(6, .own false 3 1 []), (11, .v (ptrV b11)), (14, .v (ptrV b14)), (15, .v (ptrV b15)), (16, .v (ptrV b16))]) (zei ⟨by rfl, by rfl, by rfl, by rfl, by rfl, trivial⟩) (fun _ _ e => e) ?_
    have s1 := fun e => d1 (Eq.symm e)
    have s2 := fun e => d2 (Eq.symm e)
    have s3 := fun e => d3 (Eq.symm e)
    have s4 := fun e => d4 (Eq.symm e)
    have s5 := fun e => d5 (Eq.symm e)
    have s6 := fun e => d6 (Eq.symm e)
    have s7 := fun e => d7 (Eq.symm e)
    have s8 := fun e => d8 (Eq.symm e)
    have s9 := fun e => d9 (Eq.symm e)
    have s10 := fun e => d10 (Eq.symm e)
    have s11 := fun e => d11 (Eq.symm e)
    have s12 := fun e => d12 (Eq.symm e)
    have s13 := fun e => d13 (Eq.symm e)
    have s14 := fun e => d14 (Eq.symm e)
    have s15 := fun e => d15 (Eq.symm e)
    have s16 := fun e => d16 (Eq.symm e)
    have s17 := fun e => d17 (Eq.symm e)
    have s18 := fun e => d18 (Eq.symm e)
    have s19 := fun e => d19 (Eq.symm e)
    have s20 := fun e => d20 (Eq.symm e)
    refine zbt (S' := [(b11, .cells [.v (.slice (some ⟨bv, 0, none⟩) h.patterns.length h.patterns.length)] 22), (bv, .cells (L.map I) 3), (b15, .cells [.v (.map (some bm))] 80), (bm, .raw (.map #[] 0)), (b14, .cells [.v (.slice (some ⟨bc, 0, none⟩) h.patterns.length h.patterns.length)] 78), (bc, .cells (((List.range h.patterns.length).map (clM h)).map UN) 82), (b16, .cells [.v .nilFunc] 81)]) (fun b o e => ?_) ?_
    · simp only [zaa, zah] at e ⊢
      by_cases h1 : b11 = b
      · rw [if_pos h1] at e
        subst h1
        rw [if_neg s19, if_neg s13, if_neg s8, if_neg s4, if_neg s1, if_pos rfl]; exact e
      rw [if_neg h1] at e
      by_cases h2 : bv = b
      · rw [if_pos h2] at e
        subst h2
        rw [if_neg s20, if_neg s14, if_neg s9, if_neg s5, if_neg s2, if_neg hbne, if_pos rfl]; exact e
      rw [if_neg h2] at e
      by_cases h3 : b15 = b
      · rw [if_pos h3] at e
        subst h3
        rw [if_neg s15, if_pos rfl]; exact e
      rw [if_neg h3] at e
      by_cases h4 : bm = b
      · rw [if_pos h4] at e
        subst h4
        rw [if_neg s16, if_neg s10, if_pos rfl]; exact e
      rw [if_neg h4] at e
      by_cases h5 : b14 = b
      · rw [if_pos h5] at e
        subst h5
        rw [if_neg s17, if_neg s11, if_neg s6, if_pos rfl]; exact e
      rw [if_neg h5] at e
      by_cases h6 : bc = b
      · rw [if_pos h6] at e
        subst h6
        rw [if_neg s18, if_neg s12, if_neg s7, if_neg s3, if_pos rfl]; exact e
      rw [if_neg h6] at e
      by_cases h7 : b16 = b
      · rw [if_pos h7] at e ⊢; exact e
      · rw [if_neg h7] at e; cases e
    rw [HR.out.1]
    exact zwh h L hok (by omega) HR.out.2 b11 bv bc b14 bm b15 b16 d1 d2 d3 d4 d5 d6 d7 d8 d9 d10 d11 d12 d13 d14 d15 d16 d17 d18 d19 d20 hbne yR
theorem yfe (h:House) (holds:List Hold) (o:Bool) (hl:holds.length≤1000000):PC Tryz.prog 9 [h.val,ydm holds,Bo o] (.tup [ints (zhy h holds o).1,I (zhy h holds o).2.1,I (zhy h holds o).2.2]):=by
 have hk:=zxx h (ypa h)
 by_cases h0:zew h=0
 ·rw[h0]at hk
  by_cases h1:40<(holds.length:Int)
  ·have e:zhy h holds o=([],0,8):=by rw[zhy,if_neg (by omega),if_pos h1]
   rw[e]
   refine DC.of_run Tryz.func9 rfl Tryz.ntmps9 Tryz.results9 (by simp) (fun _ _=>?_);simp only[zag,zaj,go_sem,Nat.zero_add,Nat.reduceAdd]
   repeat' (first|(with_reducible (refine zbu (t:=6) yU yO yE ?_))|refine yJT ?_|refine zan inferInstance (hk) yR yT ?_|(refine zaq (t:=3) yU yE yU ?_;simp only[yS3])|refine zao [] yE trivial ?_|fail)
   all_goals first|rfl|(exfalso;omega)
  ·refine zwi h holds o (zxy h0) hk (by omega) _ (fun h2=>?_) (fun h2=>?_)
   ·rw[zhy,if_neg (by omega),if_neg h1,if_pos h2]
   ·rw[zhy,if_neg (by omega),if_neg h1,if_neg (by omega)]
 ·have e:zhy h holds o=([],0,zew h):=by rw[zhy,if_pos h0]
  rw[e]
  refine DC.of_run Tryz.func9 rfl Tryz.ntmps9 Tryz.results9 (by simp) (fun _ _=>?_);simp only[zag,zaj,go_sem,Nat.zero_add,Nat.reduceAdd]
  repeat' (first|(with_reducible (refine zbu (t:=6) yU yO yE ?_))|refine yJT ?_|refine zan inferInstance (hk) yR yT ?_|(refine zaq (t:=3) yU yE yU ?_;simp only[yS3])|refine zao [] yE trivial ?_|fail)
  all_goals first|rfl|(exfalso;omega)
end Go.XL
namespace Go.XL
open Go.Proofs
set_option maxRecDepth 100000
set_option maxHeartbeats 8000000
section
variable {P:Program} {n:Nat} {r:Rr} {Q:VEnv→Sto→Prop} {k:List Fr} {E:VEnv} {S:Sto} {dst:Option Tmp} {ty:TypeId} {pos:String} {af:Array Edge} {ops l:List Oper} {t:Nat}
theorem ybq {v0:VH} {T m f:Nat} {fs:Array Field} {fd:Field} {c:List V} {x:Operand} (hT:P.underlying T=some (.struct fs)) (hf:fs[f]?=some fd) (he:tsz P fd.type=some (true,m)) (hx:evV E x=some (.agg c)) :
  OpS v0 P n ⟨dst, .field T x f,ty,pos,af,none⟩ E S (fun v E' S'=>v = .agg (((c.drop fd.offset).take m).map V.peek)∧E'=E∧S'=S):=by
 intro K D hv hold env a w hfl ha s0
 obtain⟨y,e1,e2⟩:=s0.rl _ _ hx
 simp only[V.Rl]at e2
 obtain⟨ys,rfl,e2⟩:=e2
 obtain⟨ti,q1,q2,q3⟩:=zko he
 have hrun:(execOp a.eval ⟨dst, .field T x f,ty,pos,af,none⟩).run P w = .ok (.value (.agg (ys.toArray.extract fd.offset (fd.offset+m)))) w:=by
  simp[execOp,Instr.field,run_underlying hT,hf,ha.ev e1,part,asAgg,q3,zee q1,q2]
 have hr:RlL hv (((c.drop fd.offset).take m).map V.peek) ((ys.drop fd.offset).take m):=zef ((e2.drop _).take _)
 refine zcu hrun ⟨Same.refl w,_,E,S,hv,hold,PreV.refl hv,s0.put dst (v := .agg (((c.drop fd.offset).take m).map V.peek)) ?_ fun _ _=>trivial,rfl,rfl,rfl⟩
 simp only[V.Rl]
 refine⟨(ys.drop fd.offset).take m,?_,hr⟩
 congr 1
 apply Array.ext'
 simp[Array.toList_extract,List.extract_eq_take_drop]
theorem ygi {T m f off:Nat} {fs:Array Field} {fd:Field} {c:List V} {x:Operand} (hd:decide (t<n)=true) (hT:P.underlying T=some (.struct fs)) (hf:fs[f]?=some fd) (ho:fd.offset=off) (he:tsz P fd.type=some (true,m)) (hx:evV E x=some (.agg c))
  (q:DS P n r Q (.ops ops l::k) ((t, .agg (((c.drop off).take m).map V.peek))::E) S):DS P n r Q (.ops ops (⟨some t, .field T x f,ty,pos,af,none⟩::l)::k) E S:=by
 subst ho
 refine zce rfl rfl hd (ybq hT hf he hx) fun v E' S' ⟨h1,h2,h3⟩=>?_
 subst h1;subst h2;subst h3;exact q
end
theorem yaa :zop smallH [2,3,2]=(5,6):=by
 have hb:zfv (allK [2,3,2] 3)= [0,1,2]:=by decide +kernel
 have c01:(clM smallH 0).testBit 1=true:=by decide +kernel
 have c02:(clM smallH 0).testBit 2=true:=by decide +kernel
 have c12:(clM smallH 1).testBit 2=false:=by decide +kernel
 have hl:smallH.patterns.length=3:=rfl
 rw[zop,hl,zhz,hb]
 have e2:zhh (fun i k=>(clM smallH i).testBit k) (fun i=> [2,3,2].getD i 0) [2]=(2,[2]):=by
  rw[zhn,if_neg (by simp)];simp[zjn]
 have e1:zhh (fun i k=>(clM smallH i).testBit k) (fun i=> [2,3,2].getD i 0) [1,2]=(5,[1,2]):=by
  have f2:([2]:List Nat).filter (fun k=> !(clM smallH 1).testBit k)= [2]:=by simp[c12]
  rw[zhn,if_neg (by simp[c12]),f2,e2];rfl
 have e0:zhh (fun i k=>(clM smallH i).testBit k) (fun i=> [2,3,2].getD i 0) [0,1,2]=(5,[1,2]):=by
  have f0:([1,2]:List Nat).filter (fun k=> !(clM smallH 0).testBit k)= []:=by simp[c01,c02]
  rw[zhn,f0,e1,zjn,if_pos ⟨by simp[c01],by decide⟩]
 rw[e0]
 decide +kernel
theorem zso :zhy smallH [⟨0,1⟩,⟨1,1⟩,⟨2,1⟩] false=([1,2],5,0):=by
 have h0:zew smallH=0:=by decide +kernel
 have h1:zgi smallH.patterns.length [⟨0,1⟩,⟨1,1⟩,⟨2,1⟩] (-1)=0:=by decide +kernel
 have h2:zve smallH [⟨0,1⟩,⟨1,1⟩,⟨2,1⟩] false= [2,3,2]:=by decide +kernel
 have h3:(zfv 6).map natI= [1,2]:=by decide +kernel
 rw[zhy,if_neg (by rw[h0];decide),if_neg (by decide),if_neg (by rw[h1];decide),h2,yaa]
 dsimp only
 rw[h3]
theorem yic :zky fourH 480 0 1 2 1 (-1)=([0,2300,-2300,0],0):=by decide +kernel
theorem yca :ptsS smallH.scale 30 3=1920:=by decide +kernel
theorem zut :PC Tryz.prog 13 [] (Bo true):=by
 have k1:=zxb
 have k2:=ydn [0,1,2] (by decide)
 have k3:=yfe smallH [⟨0,1⟩,⟨1,1⟩,⟨2,1⟩] false (by decide)
 have k4:=yne
 have k5:=zjs fourH (ypa fourH) 480 0 1 2 1 (-1)
 have k6:=zob [1,2] [1,2]
 have k7:=zob [0,2300,-2300,0] [0,2300,-2300,0]
 have k8:=ych smallH.scale 30 3
 rw[zso]at k3
 rw[yic]at k5
 rw[yca]at k8
 generalize smallH=H1 at *
 refine DC.of_run Tryz.func13 rfl Tryz.ntmps13 Tryz.results13 (by simp) (fun _ _=>?_);simp only[zag,zaj,go_sem,Nat.zero_add,Nat.reduceAdd]
 repeat' (first|refine yJT ?_|(refine zbw yU yE yE ?_;simp only[go_sem,Nat.zero_add,Nat.reduceAdd])|refine zan inferInstance (k1) yR yF ?_|refine zan inferInstance (k2) yR yF ?_|refine zan inferInstance (k3) yR yF ?_|refine zan inferInstance (k4) yR yF ?_|refine zan inferInstance (k5) yR yF ?_|refine zan inferInstance (k6) yR yF ?_|refine zan inferInstance (k7) yR yF ?_|fail)
 refine ygi (off:=13) (by decide) Tryz.underlying38 yR yR (show tsz Tryz.prog 31=some (true,4) by kernel_rfl) yH ?_
 repeat' (first|refine yJT ?_|refine zan inferInstance (k8) yR yF ?_|refine zao [] yE trivial ?_|fail)
 all_goals rfl
end Go.XL
namespace Go.XL
open Go.Proofs
set_option maxRecDepth 100000
set_option maxHeartbeats 8000000
theorem zkj {L:List Int} {i:Nat} (h:i<L.length):L.getD i 0=L[i]:=by
 rw[List.getD_eq_getElem?_getD,List.getElem?_eq_getElem h];rfl
theorem zwe (h:House):h.CondsPC:=⟨zry _ _,fun i hi=>zry _ _⟩
theorem zrd (l:List Int) (points dealer winner from_ counters liable:Int) (hpoints : -9223372036854775808≤points∧points≤9223372036854775807) (hdealer : -9223372036854775808≤dealer∧dealer≤9223372036854775807) (hwinner : -9223372036854775808≤winner∧winner≤9223372036854775807) (hfrom_ : -9223372036854775808≤from_∧from_≤9223372036854775807) (hcounters : -9223372036854775808≤counters∧counters≤9223372036854775807) (hliable : -9223372036854775808≤liable∧liable≤9223372036854775807):PC Tryz.prog 5 [ints l,I points,I dealer,I winner,I from_,I counters,I liable] (Bo true):=by
 have hi1:=zly points 1000001 hpoints (by omega)
 have hi5:=zly counters 101 hcounters (by omega)
 have m1:=Int.emod_nonneg points (show(1000001:Int)≠0 by omega)
 have m2:=Int.emod_lt_of_pos points (show(0:Int)<1000001 by omega)
 have m3:=Int.emod_nonneg counters (show(101:Int)≠0 by omega)
 have m4:=Int.emod_lt_of_pos counters (show(0:Int)<101 by omega)
 generalize points % 1000001=p at *
 generalize counters % 101=c at *
 refine DC.of_run Tryz.func5 rfl Tryz.ntmps5 Tryz.results5 (by simp) (fun _ _=>?_);simp only[zag,zaj,go_sem,Nat.zero_add,Nat.reduceAdd]
 repeat' (first|refine yJ ?_|fail)
 refine zzo inferInstance (yal l) yR yH (fun u S' hu=>?_)
 obtain⟨bs,x0,s,fs,h,hd,w,rfl,rfl,hs,hM,hH,hw⟩:=hu
 clear hH hw
 have hMB:=Box.mk (And.intro hs hM)
 clear hs hM
 repeat' (first|refine yJ ?_|fail)
 refine zbd yR yU yU (fun c1 g1=>?_)
 have a1: ¬c1=bs:=fun e=>by subst e;simp[zae]at g1
 have a1': ¬bs=c1:=fun e=>a1 e.symm
 clear g1
 refine zbt (S':= [(c1,Ob.cells zdm 38),(bs,srcO x0)]) (fun d o e=>e) ?_
 skip
 refine zbd yR yU yU (fun c2 g2=>?_)
 have g2:=zfi g2
 simp only[List.map_cons,List.map_nil,List.mem_cons,List.not_mem_nil,or_false,not_or]at g2
 obtain⟨a2,a3⟩:=g2
 have a2': ¬c1=c2:=fun e=>a2 e.symm
 have a3': ¬bs=c2:=fun e=>a3 e.symm
 refine zbt (S':= [(c2,Ob.cells [.v (.slice none 0 0), .v (.slice none 0 0)] 41),(c1,Ob.cells zdm 38),(bs,srcO x0)]) (fun d o e=>e) ?_
 skip
 refine zbd yR yU yU (fun c3 g3=>?_)
 have g3:=zfi g3
 simp only[List.map_cons,List.map_nil,List.mem_cons,List.not_mem_nil,or_false,not_or]at g3
 obtain⟨a4,a5,a6⟩:=g3
 have a4': ¬c2=c3:=fun e=>a4 e.symm
 have a5': ¬c1=c3:=fun e=>a5 e.symm
 have a6': ¬bs=c3:=fun e=>a6 e.symm
 refine zbt (S':= [(c3,Ob.cells [I 0,Bo false,I 0,I 0, .v (.slice none 0 0),I 0] 43),(c2,Ob.cells [.v (.slice none 0 0), .v (.slice none 0 0)] 41),(c1,Ob.cells zdm 38),(bs,srcO x0)]) (fun d o e=>e) ?_
 repeat' (first|refine yJ ?_|fail)
 refine DS.store (b:=c1) (off:=0) (m:=46) (cl:=zdm) (T':=38) yR yH yG yU (by simp only[zaa,a2,a4,a5,↓reduceIte]) yR ⟨by rfl,by decide⟩ ?_
 rw[zff _ _ yR]
 simp only[setS,a2,a5,↓reduceIte,zgs]
 refine zho (t:=16) (b:=c1) (l:=h.cells) yH (by simp only[zaa,a2,a4,a5,↓reduceIte];rfl) ?_
 rw[show h.cells.map V.copy=h.cells from rfl]
 simp only[zab,zac,a1,a1',a2,a2',a3,a3',a4,a4',a5,a5',a6,a6',↓reduceIte]
 repeat' (first|refine yJ ?_|(refine DS.store yR yE yE yE yE yU yQ ?_;simp only[yS1];try simp only[yS2,Nat.reduceEqDiff,↓reduceIte])|fail)
 simp only[setS,a1,a1',a2,a2',a3,a3',a4,a4',a5,a5',a6,a6',↓reduceIte]
 refine zbt (S':= [(bs,srcO x0)]) (fun d o e=>?_) ?_
 ·simp only[zaa,zah]at e ⊢
  split at e
  ·rename_i hq;subst hq;simp only[a3,a6,↓reduceIte];exact e
  ·cases e
 clear a1 a1' a2 a2' a3 a3' a4 a4' a5 a5' a6 a6' g2 g3
 have hn:3≤h.set.players∧h.set.players≤4:=by rw[hMB.out.2.set];exact(zca hMB.out.1).players
 have jd:=zly dealer h.set.players hdealer (by omega)
 have kd:=Int.emod_nonneg dealer (show h.set.players≠0 by omega)
 have ld:=Int.emod_lt_of_pos dealer (show 0<h.set.players by omega)
 generalize dealer % h.set.players=d at *
 have jwi:=zly winner h.set.players hwinner (by omega)
 have kwi:=Int.emod_nonneg winner (show h.set.players≠0 by omega)
 have lwi:=Int.emod_lt_of_pos winner (show 0<h.set.players by omega)
 generalize winner % h.set.players=wi at *
 have jf:=zly from_ h.set.players hfrom_ (by omega)
 have kf:=Int.emod_nonneg from_ (show h.set.players≠0 by omega)
 have lf:=Int.emod_lt_of_pos from_ (show 0<h.set.players by omega)
 generalize from_ % h.set.players=f at *
 have jli:=zly liable h.set.players hliable (by omega)
 have kli:=Int.emod_nonneg liable (show h.set.players≠0 by omega)
 have lli:=Int.emod_lt_of_pos liable (show 0<h.set.players by omega)
 generalize liable % h.set.players=li at *
 repeat' (first|refine yJ ?_|refine zan inferInstance (hi1) yR yF ?_|refine zan inferInstance (hi5) yR yF ?_|refine zan inferInstance (jd) yR yF ?_|refine zan inferInstance (jwi) yR yF ?_|refine zan inferInstance (jf) yR yF ?_|refine zan inferInstance (jli) yR yF ?_|fail)
 obtain⟨LA,LB_,LC,eA,eB,eC,K⟩:=zvu hMB.out.2.ok (p:=p) (d:=d) (w:=wi) (f:=f) (c:=c) (li:=li) ⟨m1,by omega⟩ ⟨m3,by omega⟩ ⟨kd,ld⟩ ⟨kwi,lwi⟩ ⟨kf,lf⟩ ⟨kli,lli⟩
 have q1:=zjs h (zwe h) p d wi f c (-1)
 have q2:=zjs h (zwe h) p ((d+1) % h.set.players) ((wi+1) % h.set.players) ((f+1) % h.set.players) c (-1)
 have q3:=zjs h (zwe h) p d wi f c li
 rw[eA]at q1
 rw[eB]at q2
 rw[eC]at q3
 clear eA eB eC
 dsimp only at q1 q2
 have tA:=zhv LA K.a.bd (by rw[K.a.len];omega)
 rw[K.a.sum]at tA
 have u1:(d+1).tmod h.set.players=(d+1) % h.set.players:=Int.tmod_eq_emod_of_nonneg (by omega)
 have u2:(wi+1).tmod h.set.players=(wi+1) % h.set.players:=Int.tmod_eq_emod_of_nonneg (by omega)
 have u3:(f+1).tmod h.set.players=(f+1) % h.set.players:=Int.tmod_eq_emod_of_nonneg (by omega)
 generalize (d+1) % h.set.players=d' at *
 generalize (wi+1) % h.set.players=w' at *
 generalize (f+1) % h.set.players=f' at *
 have hlA:(LA.length:Int)=h.set.players:=by rw[K.a.len];omega
 have hlB:(LB_.length:Int)=h.set.players:=by rw[K.b.len];omega
 have hlA':LA.length=h.set.players.toNat:=K.a.len
 have hlB':LB_.length=h.set.players.toNat:=K.b.len
 have KB:=Box.mk (And.intro K (And.intro hlA' hlB'))
 clear K hlA' hlB' jd jwi jf jli hi1 hi5
 repeat' (first|refine yJT ?_|refine zan inferInstance (q1) yR yF ?_|refine zan inferInstance (tA) yR yF ?_|refine zbe (id:=6) [0,1,2,3,4,5,6,7,8,9,10,11,12,13,14,15,16,17,18,19] 20 yKR mixed yP1 yP2 ?_|(with_reducible first|refine zau yU yU yU yE ?_|refine zes yU yU yU yU yE ?_|refine zbf ?_)|refine ypq inferInstance (q2) yU yF ?_;simp only[zas,zat,Nat.reduceEqDiff,↓reduceIte]|fail)
 clear u1 u2 u3 q1 q2 tA
 refine zbq [1,2,3,4,5,6,16,19,20,22] yN (fun(i:Nat)=> [(24,I i)]) (fun(i:Nat)=>(i:Int)≤h.set.players) (fun(i:Nat)=>h.set.players.toNat-i) 0 yS (by omega) (fun i B hI hB=>?_);try dsimp only at hI hB;simp only[zad,zaf]
 have Hb:=Box.mk hB
 clear hB
 by_cases hi:(i:Int)<h.set.players
 ·have hiA:i<LA.length:=by omega
  have v1:((i:Int)+1).tmod h.set.players=((i:Int)+1) % h.set.players:=Int.tmod_eq_emod_of_nonneg (by omega)
  have v2:=Int.emod_nonneg ((i:Int)+1) (show h.set.players≠0 by omega)
  have v3:=Int.emod_lt_of_pos ((i:Int)+1) (show 0<h.set.players by omega)
  have v4:=KB.out.1.rot i hi
  have v5:=KB.out.1.neg i hi
  obtain⟨r,hr⟩: ∃r:Nat,(r:Int)=((i:Int)+1) % h.set.players:=⟨(((i:Int)+1) % h.set.players).toNat,by omega⟩
  rw[←hr]at v1 v2 v3 v4
  rw[Int.toNat_natCast]at v4
  have hrB:r<LB_.length:=by omega
  rw[zkj hrB,zkj hiA]at v4
  rw[zkj hiA]at v5
  clear hr
  have Hv:=Box.mk (And.intro v4 v5)
  clear v4 v5
  by_cases hiw:(i:Int)=wi
  ·subst hiw
   have v6:=Hv.out.1
   repeat' (first|refine yJT ?_|refine zbe (id:=12) [0,1,2,3,4,5,6,7,8,9,10,11,12,13,14,15,16,17,18,19,20,21] 22 yKR mixed yP1 yP2 ?_|(with_reducible first|refine zau yU yU yU yE ?_|(refine zhk yU yE ?_;first|refine DGG.run ?_|refine zkd ?_)|refine zbf ?_)|fail)
   all_goals first|(exfalso;omega)|exact DS.back (Hb.out (i+1) _ _ (by omega) (by omega) yS yS (fun b o e=>by exact e))
  ·have v6:=Hv.out.1
   have v7:=Hv.out.2 hiw
   repeat' (first|refine yJT ?_|(with_reducible (refine zbm yU yE ?_;first|refine GG.run ?_|refine zcy ?_))|refine zbe (id:=12) [0,1,2,3,4,5,6,7,8,9,10,11,12,13,14,15,16,17,18,19,20,21] 22 yKR mixed yP1 yP2 ?_|(with_reducible first|refine zau yU yU yU yE ?_|(refine zhk yU yE ?_;first|refine zzq (fun _=>?_) (fun _=>?_)|refine DGG.run ?_|refine zzp ?_)|refine zbf ?_)|fail)
   all_goals first|(exfalso;omega)|exact DS.back (Hb.out (i+1) _ _ (by omega) (by omega) yS yS (fun b o e=>by exact e))
 ·clear Hb
  by_cases hlw:li=wi
  ·rw[if_pos hlw]at q3
   dsimp only at q3
   subst hlw
   repeat' (first|refine yJT ?_|refine zan inferInstance (q3) yR yF ?_|refine zan inferInstance (zut) yR yF ?_|refine zao [] yE trivial ?_|fail)
   all_goals first|rfl|(exfalso;omega)
  ·rw[if_neg hlw]at q3
   dsimp only at q3
   have tC:=zhv LC (KB.out.1.c hlw).bd (by rw[(KB.out.1.c hlw).len];omega)
   rw[(KB.out.1.c hlw).sum]at tC
   have hlC:(LC.length:Int)=h.set.players:=by rw[(KB.out.1.c hlw).len];omega
   obtain⟨wn,hwn⟩: ∃wn:Nat,(wn:Int)=wi:=⟨wi.toNat,by omega⟩
   subst hwn
   have e1:=KB.out.1.win hlw
   rw[Int.toNat_natCast]at e1
   have hwA:wn<LA.length:=by omega
   have hwC:wn<LC.length:=by omega
   rw[zkj hwA,zkj hwC]at e1
   repeat' (first|refine yJT ?_|refine zan inferInstance (q3) yR yF ?_|refine zbe (id:=17) [0,1,2,3,4,5,6,7,8,9,10,11,12,13,14,15,16,17,18,19,20,21] 22 yKR mixed yP1 yP2 ?_|(with_reducible first|refine zau yU yU yU yE ?_|(refine zhk yU yE ?_;refine DGG.run ?_)|refine zbf ?_)|refine zdd inferInstance (tC) yU yF ?_|fail)
   clear q3 tC e1 hi hI
   refine zbq [3,6,19,20,25] yN (fun(i:Nat)=> [(27,I i)]) (fun(i:Nat)=>(i:Int)≤h.set.players) (fun(i:Nat)=>h.set.players.toNat-i) 0 yS (by omega) (fun i B hI hB=>?_);try dsimp only at hI hB;simp only[zad,zaf]
   have Hb:=Box.mk hB
   clear hB
   by_cases hi:(i:Int)<h.set.players
   ·have hiA:i<LA.length:=by omega
    have hiC:i<LC.length:=by omega
    by_cases h1:(i:Int)=li
    ·subst h1
     repeat' (first|refine yJT ?_|refine zbe (id:=22) [0,1,2,3,4,5,6,7,8,9,10,11,12,13,14,15,16] 17 yKR mixed yP1 yP2 ?_|(with_reducible first|refine zau yU yU yU yE ?_|(refine zhk yU yE ?_;refine zkd ?_)|refine zbf ?_)|fail)
     all_goals first|(exfalso;omega)|exact DS.back (Hb.out (i+1) _ _ (by omega) (by omega) yS yS (fun b o e=>by exact e))
    ·by_cases h2:(i:Int)=wn
     ·obtain rfl:i=wn:=by omega
      repeat' (first|refine yJT ?_|refine zbe (id:=22) [0,1,2,3,4,5,6,7,8,9,10,11,12,13,14,15,16] 17 yKR mixed yP1 yP2 ?_|(with_reducible first|refine zau yU yU yU yE ?_|(refine zhk yU yE ?_;first|refine DGG.run ?_|refine zkd ?_)|refine zbf ?_)|fail)
      all_goals first|(exfalso;omega)|exact DS.back (Hb.out (i+1) _ _ (by omega) (by omega) yS yS (fun b o e=>by exact e))
     ·have v5:=KB.out.1.more hlw i hi h1 h2
      rw[zkj hiA,zkj hiC]at v5
      repeat' (first|refine yJT ?_|(with_reducible (refine zax yE ?_;first|refine zdt (fun _=>?_) (fun _=>?_)|refine zaz ?_))|refine zbe (id:=22) [0,1,2,3,4,5,6,7,8,9,10,11,12,13,14,15,16] 17 yKR mixed yP1 yP2 ?_|(with_reducible first|refine zau yU yU yU yE ?_|(refine zhk yU yE ?_;refine DGG.run ?_)|refine zbf ?_)|fail)
      all_goals first|(exfalso;omega)|exact DS.back (Hb.out (i+1) _ _ (by omega) (by omega) yS yS (fun b o e=>by exact e))
   ·repeat' (first|refine yJT ?_|refine zan inferInstance (zut) yR yT ?_|refine zao [] yE trivial ?_|fail)
    all_goals first|rfl|(exfalso;omega)
end Go.XL
namespace Go.XL
open Go.Proofs Go.ChangeShapes Go.WideShapes Go.ChangeAt Go.RowKit
def hvW (W:World):VH:=fun b=>W.heap[b]?
def ypf (W:World) (k:Kn (hvW W)):Bs:=⟨fun b=>b<W.heap.size,W.heap,hvW W,k⟩
theorem stW (W:World) (k:Kn (hvW W)):St (ypf W k) (hvW W) (fun _=>none) [] [] [] W.heap where
 pre:=fun b o e=>⟨o,e,leO.refl o⟩
 slot:=fun t v e=>by cases e
 obj:=fun b o e=>by cases e
 held:=fun g x e=>by cases e
 base:=⟨fun b h=>h,Nat.le_refl _,fun b _=>rfl⟩
 vbase:=⟨PreV.refl _,fun _ _=>rfl⟩
structure KeptW (W W':World):Prop where
 os:W'.os=W.os
 output:W'.output=W.output
 size:W.heap.size≤W'.heap.size
 old: ∀b,b<W.heap.size→W'.heap[b]?=W.heap[b]?
theorem PC.door {P:Program} {f:FuncId} {vs:List V} {xs:List Value} (h:PC P f vs (.v (.bool true))) (W:World) (hx:RlL (hvW W) vs xs) (k:Kn (hvW W):=by exact kn_all _) :
  Calls P f xs.toArray W fun e w'=>e = .returned (.bool true)∧KeptW W w':=by
 refine(h (hvW W) (ypf W k) (hvW W) (fun _=>none) W.heap xs (PreV.refl _) hx (stW W k) W rfl).mono fun e w'=>?_
 rintro⟨y,rfl,⟨s1,s2,s3⟩,v,S',hv',hold',-,st,rfl⟩
 obtain⟨z,h1,h2,-⟩:=st.slot 0 (.v (.bool true)) rfl
 simp only[V.Rl]at h2
 subst h2
 have h3:look [(0,y)] 0=some y:=by simp[look]
 rw[h3]at h1
 cases h1
 exact⟨rfl,s1,s3,st.base.2.1,st.base.2.2⟩
theorem KeptW.keptBut {W W':World} (k:KeptW W W') (may:MemPlace→Prop):W.keptBut W' may:=by
 refine⟨k.os,k.output,fun i hi=>?_⟩
 rw[k.old i hi]
 generalize W.heap[i]?=o
 cases o with
 | none=>trivial
 | some o=>cases o <;> simp
theorem KeptW.cell {W W':World} (k:KeptW W W') {a:Addr} (h:a.block<W.heap.size):W'.cell? a=W.cell? a:=by
 unfold World.cell?
 rw[k.old _ h]
theorem KeptW.sameAt {W W':World} (k:KeptW W W') {p:MemPlace} (h:p.block<W.heap.size):W.sameAt W' p:=by
 cases p with
 | cell b off=>exact k.cell h
 | map b=>exact k.old _ h
section
variable {H:Type} {enc:TypeId×Value→H} {P:Program}
theorem zkp (hl:laidOutB P=true) {W W':World} {sp:Nat→Bool}: ∀{ts:List TypeId} {vs:List Value} {ds:List (DataW H)} {ps:List MemPlace},(∀t∈ts,P.readableRec t=true∧t<P.types.size) →
  DataW.TrodAll enc P W 0 (fun _=>true) true ts vs ds ps→(∀p∈ps,W.sameAt W' p)→(∀p∈ps,sp p.block=true)→DataW.TrodAll enc P W' 0 sp true ts vs ds ps
 | [],vs,ds,ps,_,h,_,_=>by
  obtain⟨rfl,rfl,rfl⟩:=trodAll_nil h
  rfl
 | t::ts,vs,ds,ps,ht,h,h1,h2=>by
  obtain⟨v,vs',d,ds',p,q,rfl,rfl,rfl,h3,h4⟩:=trodAll_cons h
  obtain⟨r1,r2⟩:=ht t (List.mem_cons_self ..)
  exact⟨p,q,WideElems.Trod_stays hl r1 r2 h3 (fun x hx=>h1 x (List.mem_append_left _ hx)) (fun x hx=>h2 x (List.mem_append_left _ hx)),
   zkp hl (fun t h=>ht t (List.mem_cons_of_mem _ h)) h4 (fun x hx=>h1 x (List.mem_append_right _ hx)) (fun x hx=>h2 x (List.mem_append_right _ hx)),rfl⟩
theorem yhg {f:Func} {s:ChangeSpec} {apart fresh handsOn:Bool} {W W':World} {args:Array Value} {ds gs:List (DataW H)} {before:List MemPlace} {tb:TypeId}
  (hW:DataW.Whole enc P f.params.toList s.vars apart W args.toList ds gs before) (hv:s.vars= []) (hs:s.fn H ds={results:= [.lit (.bool true)],args:=ds})
  (hrt:f.resultTypes= #[tb]) (hb:P.underlying tb=some .bool) (hl:laidOutB P=true) (hr: ∀t∈f.params.toList,P.readableRec t=true∧t<P.types.size) (k:KeptW W W') :
  s.post enc P f apart fresh handsOn false W args (.bool true) W':=by
 have hlt:=fun p hp=>hW.lt (p:=p) hp
 have hW':=hW
 obtain⟨p,q,hA,hV,rfl,-,-⟩:=hW
 rw[hv]at hV
 obtain⟨rfl,rfl⟩:=trodVars_none hV
 refine⟨ds,[],p++ [],[],p,[],hW',?_,?_,?_,k.keptBut _,fun h=>by cases h⟩
 ·rw[List.append_nil,hs,hrt]
  exact trodAll_mk1 (shut_bool hb _)
 ·rw[List.append_nil,hs]
  exact zkp hl hr hA (fun x hx=>k.sameAt (hlt x (by simpa using hx))) (fun x hx=>by simpa using hlt x (by simpa using hx))
 ·rw[List.append_nil,hs,hv]
  rfl
def yfv (P:Program) (W:World) (H:Type) (enc:TypeId×Value→H) (t:TypeId) {α:Type} (f:α→List V) (G:α→Prop):Prop :=
 ∀fuel cs x,DataW.trod enc P W 0 (fun _=>true) true fuel t cs=some x→ ∃a,RlL (hvW W) (f a) cs∧(∀u∈cs,u.oneCell'=true)∧G a
variable {W:World} {t e:TypeId}
theorem ycv {k:IntKind} (ht:P.underlying t=some (.int k)):yfv P W H enc t (fun n:Int=> [.v (.int k n)]) (fun n=>(Lit.int k n).wf=true):=by
 intro fuel cs x h
 obtain⟨n,rfl,-,hw⟩:=DataW.trod_int ht h
 exact⟨n,by simp[RlL,V.Rl],by simp[Value.oneCell'],hw⟩
theorem RlL.len {hv:VH}: ∀{vs:List V} {cs:List Value},RlL hv vs cs→vs.length=cs.length
 | [],_,h=>by simp only[RlL]at h;subst h;rfl
 | v::vs,cs,h=>by
  simp only[RlL]at h
  obtain⟨z,zs,rfl,-,h⟩:=h
  simp[RlL.len h]
theorem zki {n:Int} (h:(Lit.int .i64 n).wf=true) : -9223372036854775808≤n∧n≤9223372036854775807:=by
 have h1:IntKind.min .i64 = -9223372036854775808:=by decide
 have h2:IntKind.max .i64=9223372036854775807:=by decide
 simp only[Lit.wf,h1,h2,Bool.and_eq_true,decide_eq_true_eq]at h
 exact h
theorem RlL.one {hv:VH} {v:V} {y:Value} (h:v.Rl hv y):RlL hv [v] [y]:=by
 simp only[RlL];exact⟨y,[],rfl,h,rfl⟩
theorem RlL.cons_one {hv:VH} {v:V} {y:Value} {vs:List V} {ys:List Value} (h:RlL hv [v] [y]) (k:RlL hv vs ys):RlL hv (v::vs) (y::ys):=by
 simp only[RlL]at h ⊢
 obtain⟨z,zs,e,h1,h2⟩:=h
 cases e
 exact⟨_,_,rfl,h1,k⟩
theorem ylf {a:Addr} {m:Nat}: ∀{vs:List V} {cs:List Value} {i:Nat},RlL (hvW W) vs cs→(∀u∈cs,u.oneCell'=true)→(∀j,j<cs.length→W.cell? (a.add (i+j))=cs[j]?)→RlC (hvW W) (some a) i vs
 | [],_,_,_,_,_=>by simp only[RlC]
 | v::vs,cs,i,h,h1,h2=>by
  simp only[RlL]at h
  obtain⟨z,zs,rfl,h3,h4⟩:=h
  simp only[RlC]
  refine⟨⟨z,?_,h3,h1 z (List.mem_cons_self ..)⟩,ylf (m:=m) h4 (fun u hu=>h1 u (List.mem_cons_of_mem _ hu)) fun j hj=>?_⟩
  ·have:=h2 0 (by simp)
   rw[Nat.add_zero]at this
   exact this
  ·have:=h2 (j+1) (by simpa using hj)
   rw[show i+1+j=i+(j+1) by omega,this]
   rfl
theorem yle {a:Addr} {sz:Nat}: ∀{l:List (List V)} {i:Nat},(∀(j:Nat) (h:j<l.length),l[j].length=sz∧RlC (hvW W) (some a) (i+j*sz) l[j])→RlE (hvW W) (some a) i l
 | [],_,_=>by simp only[RlE]
 | c::l,i,h=>by
  simp only[RlE]
  have h0:=h 0 (by simp)
  simp only[Nat.zero_mul,Nat.add_zero,List.getElem_cons_zero]at h0
  refine⟨h0.2,yle (sz:=sz) fun j hj=>?_⟩
  have h1:=h (j+1) (by simpa using hj)
  simp only[List.getElem_cons_succ]at h1
  refine⟨h1.1,?_⟩
  have e:i+c.length+j*sz=i+(j+1)*sz:=by rw[h0.1,Nat.add_mul,Nat.one_mul];omega
  rw[e]
  exact h1.2
theorem zon {α β:Type} {R:Nat→α→Prop}: ∀(n:Nat),(∀i,i<n→ ∃a,R i a)→ ∃l:List α,l.length=n∧ ∀(i:Nat) (h:i<l.length),R i l[i]
 | 0,_=>⟨[],rfl,fun i h=>by cases h⟩
 | n+1,h=>by
  obtain⟨l,h1,h2⟩:=zon (β:=β) n fun i hi=>h i (by omega)
  obtain⟨a,ha⟩:=h n (by omega)
  refine⟨l++ [a],by simp[h1],fun i hi=>?_⟩
  rw[List.length_append,List.length_singleton]at hi
  by_cases h3:i<l.length
  ·rw[List.getElem_append_left h3];exact h2 i h3
  ·obtain rfl:i=l.length:=by omega
   simp only[List.getElem_concat_length]
   rw[h1];exact ha
theorem zvn {α:Type} {f:α→List V} {G:α→Prop} {sz:Nat} (ht:P.underlying t=some (.slice e)) (hc:P.cellsOf e=sz) (h:yfv P W H enc e f G) :
  yfv P W H enc t (fun l:List α=> [.lst (l.map f)]) (fun l=> ∀a∈l,G a):=by
 intro fuel cs x hx
 rcases DataW.trod_slice ht hx with⟨rfl,-⟩|⟨a,len,cap,elems,rest,n,rfl,rfl,-,-,h1,h2,h3,h4,-,-⟩
 ·refine⟨[],?_,by simp[Value.oneCell'],fun a h=>by cases h⟩
  simp only[RlL,V.Rl,List.map_nil]
  exact⟨_,[],rfl,⟨none,0,0,rfl,Nat.le_refl _,Nat.zero_le _,(fun c h=>by cases h),by simp only[RlE]⟩,rfl⟩
 ·obtain⟨l,hl,hk⟩:=zon (β:=Unit) (R:=fun i y=> ∃cs,W.cells? 0 (a.add (i*sz)) sz=some cs∧RlL (hvW W) (f y) cs∧(∀u∈cs,u.oneCell'=true)∧G y) len (fun i hi=>by
   have h5:=h4 i hi
   rw[List.getElem?_eq_getElem (by omega),Option.bind_eq_some_iff,hc]at h5
   obtain⟨cs,h6,h7⟩:=h5
   obtain⟨y,h8,h9,h10⟩:=h _ _ _ h7
   exact⟨y,cs,h6,h8,h9,h10⟩)
  have hlen: ∀y∈l,(f y).length=sz:=fun y hy=>by
   obtain⟨i,hi,rfl⟩:=List.mem_iff_getElem.1 hy
   obtain⟨cs,k1,k2,-,-⟩:=hk i hi
   rw[k2.len,(World.cells?_some k1).2.1]
  refine⟨l,?_,by simp[Value.oneCell'],fun y hy=>?_⟩
  ·simp only[RlL,V.Rl]
   refine⟨_,[],rfl,⟨some a,cap,sz,by rw[List.length_map,hl],by rw[List.length_map,hl];exact h1,h2,fun c hc=>?_,yle (sz:=sz) fun j hj=>?_⟩,rfl⟩
   ·obtain⟨y,hy,rfl⟩:=List.mem_map.1 hc
    exact hlen y hy
   ·rw[List.length_map]at hj
    rw[List.getElem_map]
    obtain⟨cs,k1,k2,k3,k4⟩:=hk j hj
    obtain⟨-,k5,k6⟩:=World.cells?_some k1
    refine⟨hlen _ (List.getElem_mem hj),ylf (m:=sz) k2 k3 fun i hi=>?_⟩
    rw[Nat.zero_add,←yfs]
    exact k6 i (by omega)
  ·obtain⟨i,hi,rfl⟩:=List.mem_iff_getElem.1 hy
   obtain⟨cs,-,-,-,k4⟩:=hk i hi
   exact k4
end
end Go.XL
namespace Go.XL
open Go.Proofs Go.ChangeShapes Go.WideShapes Go.ChangeAt Go.RowKit
set_option maxRecDepth 100000
abbrev N64 (n:Int):Prop := -9223372036854775808≤n∧n≤9223372036854775807
section
variable {H:Type} {enc:TypeId×Value→H} {W:World}
theorem oI :yfv Tryz.prog W H enc 3 cI N64:=fun fuel cs x h=>by
 obtain⟨a,h1,h2,h3⟩:=ycv Tryz.underlying3 fuel cs x h
 exact⟨a,h1,h2,zki h3⟩
theorem oL :yfv Tryz.prog W H enc 22 (fun l=> [ints l]) (fun l=> ∀x∈l,N64 x):=zvn (sz:=1) Tryz.underlying22 yKR oI
end
end Go.XL
namespace Go.XL
open Go.Proofs Go.Proofs.YtbbhoipphnbdiaaGreatDoor Go.ChangeShapes Go.WideShapes Go.ChangeAt Go.RowKit Go.WideElems
open Go.Maps (Keyed)
theorem gModes :Tryz.prog.globalNamed "sparrow/score.modes" =some 1:=by kernel_rfl
theorem gBruijn :Tryz.prog.globalNamed "math/bits.deBruijn64tab" =some 0:=by kernel_rfl
theorem tModes :(Tryz.prog.globals[1]?).map (·.type)=some 132:=by kernel_rfl
theorem zum (W:World) (a:Addr):zfq (hvW W) a=W.cell? a:=by
 unfold zfq hvW World.cell?
 rfl
theorem zwb {H:Type} {enc:TypeId×Value→H} {P:Program} {W:World} {n:Nat} {e:TypeId} {v:Value} {y:DataW H×List MemPlace} {ps rs:Array TypeId} {va:Bool}
  (he:P.underlying e=some (.func ps rs va)) (h:elemAt enc P W 0 (fun _=>true) true n e v=some y):DataW.trod enc P W 0 (fun _=>true) true n e [v]=some y:=by
 unfold elemAt at h
 split at h
 ·rename_i hf
  cases v <;> first|exact h|(simp[Value.formed,he]at hf)
 ·cases h
theorem zvp {H:Type} {p:Lit×DataW H}: ∀(l:List (Lit×DataW H)),p∈l.foldr DataW.insert []↔p∈l
 | []=>by simp
 | x::l=>by rw[List.foldr_cons,ChangeMaps.mem_insert_iff,zvp l,List.mem_cons]
theorem zrk {W:World} {n:Nat} {e:TypeId} {ps rs:Array TypeId} {va:Bool} {es:Array MapEntry} {clock:Nat} {names:List (List UInt8)}
  (hT:Tryz.prog.underlying 132=some (.map 3 e)) (he:Tryz.prog.underlying e=some (.func ps rs va))
  (F:Fit Tryz.prog 3 (elemAt (funcToken Tryz.prog) Tryz.prog W 0 (fun _=>true) true n e) es clock)
  (m:Int) (hm:1≤m∧m≤3) {b:UInt8} {r:List UInt8} {f0:FuncId} {L:List (Lit×DataW (List UInt8))}
  (hone:((List.range Tryz.prog.funcs.size).filter fun f=>(Tryz.prog.funcs[f]?).any (·.name.toUTF8.data.toList == b::r))= [f0])
  (hL:(es.toList.map (rg Tryz.prog 3 (elemAt (funcToken Tryz.prog) Tryz.prog W 0 (fun _=>true) true n e))).foldr DataW.insert []=L)
  (hin:(Lit.int .i64 m,DataW.held (b::r))∈L) (huniq: ∀d,(Lit.int .i64 m,d)∈L→d=DataW.held (b::r)) :
  ∀(w:World) (bk:Nat),w.heap[bk]?=some (.map es clock)→(Instr.lookup 132 (.map (some bk)) (.int .i64 m) false).run Tryz.prog w = .ok (.func (.func f0) #[] #[]) w:=by
 intro w bk hb
 have K:Keyed Tryz.prog 3:=Go.Maps.int_keyed Tryz.underlying3
 have hw:(Lit.int .i64 m).wf=true:=by
  have h1:decide (IntKind.i64.min≤m)=true:=decide_eq_true (show(-9223372036854775808:Int)≤m by omega)
  have h2:decide (m≤IntKind.i64.max)=true:=decide_eq_true (show m≤(9223372036854775807:Int) by omega)
  simp only[Lit.wf,h1,h2,Bool.and_self]
 have hkey:keyOf Tryz.prog 3 (.int .i64 m)=some (.int .i64 m):=by simp[keyOf,mapKey,Tryz.underlying3,hw]
 have hkeys: ∀x∈es.toList,∃l,keyOf Tryz.prog 3 x.key=some l:=fun x hx=>by
  obtain⟨y,hy⟩:=F.reads x hx
  exact⟨_,rd_key hy⟩
 rcases K.find w hkey es.toList hkeys with⟨_,hno⟩|⟨j,e0,hf,hj,hk⟩
 ·rw[←hL]at hin
  obtain⟨x,hx,hxe⟩:=List.mem_map.1 ((zvp _).1 hin)
  obtain⟨y,hy⟩:=F.reads x hx
  have h1:=rd_key hy
  rw[rg_of hy]at hxe
  subst hxe
  exact absurd (K.inj h1 hkey) (hno x hx)
 ·have he0:=List.mem_of_getElem? hj
  obtain⟨y,hy⟩:=F.reads e0 he0
  have h1:=rd_key hy
  rw[hk,hkey]at h1
  have hm1:rg Tryz.prog 3 (elemAt (funcToken Tryz.prog) Tryz.prog W 0 (fun _=>true) true n e) e0∈L:=by
   rw[←hL]
   exact(zvp _).2 (List.mem_map.2 ⟨e0,he0,rfl⟩)
  rw[rg_of hy]at hm1
  obtain⟨k1,d1⟩:=y
  cases h1
  obtain rfl:=huniq _ hm1
  obtain⟨z,hz,hd⟩:=rd_val hy
  have h2:=zwb he hz
  obtain⟨z1,z2⟩:=z
  simp only at hd
  subst hd
  have h3:=func_of_trod he hone h2
  simp[Instr.lookup,run_underlying hT,MapKept.run_getObj_map hb,K.check w _ hkey,hf,h3,Result.andThen]
theorem getA {α:Type} {l:List α} {i:Nat} {a:α} (h:(l.drop i).take 1= [a]):l[i]?=some a:=by
 have h0:((l.drop i).take 1)[0]?=some a:=by rw[h];rfl
 simpa using h0
theorem zup {W:World} (h:laidMetH Tryz.prog [("math/bits.deBruijn64tab",Rows.laid_math_bits_deBruijn64tab)] W): ∀r,r<64→W.cell? ⟨0,r,none⟩=some (.int .u8 (bruijn.getD r 0)):=by
 intro r hr
 rw[MakeChecks.laidMetH_plain _ _ _ yKR]at h
 obtain⟨ps,⟨g,t,cs,fuel,p,q,hg,ht,hv,hd,_,_⟩,_,_⟩:=h
 obtain rfl:=Option.some.inj (gBruijn.symm.trans hg)
 obtain rfl:=Option.some.inj ((show(Tryz.prog.globals[0]?).map (·.type)=some 122 by kernel_rfl).symm.trans ht)
 obtain⟨xs,m,_,ex,_,hl,hel⟩:=DataW.trod_array Tryz.underlying122 hd
 have c5:Tryz.prog.cellsOf 5=1:=by kernel_rfl
 have hE:=hel r hr
 rw[c5,Nat.mul_one,List.getElem?_eq_getElem (by omega)]at hE
 obtain⟨z,e1,e2,_⟩:=DataW.trod_int Tryz.underlying5 hE
 have hlen:bruijn.length=64:=by decide
 have e0:(Rows.laid_math_bits_deBruijn64tab:DataW Unit) = .agg (bruijn.map fun n => .lit (.int .u8 n)):=rfl
 have e3:(xs.map (·.1))=bruijn.map fun n => .lit (.int .u8 n):=(DataW.agg.inj ((e0.symm.trans (Prod.mk.inj ex).1))).symm
 have e4:(xs.map (·.1))[r]?=(bruijn.map fun n=>(DataW.lit (.int .u8 n):DataW Unit))[r]?:=by rw[e3]
 rw[List.getElem?_map,List.getElem?_map,List.getElem?_eq_getElem (by omega:r<xs.length),List.getElem?_eq_getElem (by omega:r<bruijn.length),e2]at e4
 have hz:z=bruijn.getD r 0:=by
  simp only[Option.map_some,Option.some.injEq,DataW.lit.injEq,Lit.int.injEq,true_and]at e4
  rw[e4,List.getD,List.getElem?_eq_getElem (by omega:r<bruijn.length)];rfl
 rw[World.var?_cell hg hv r,←hz]
 have:=getA e1
 simpa using this
theorem zxf {hv:VH} {g:Nat}: ∀(l:List Int) (i:Nat),(∀r (h:r<l.length),zfq hv ⟨g,i+r,none⟩=some (.int .u8 l[r]))→RlC hv (some ⟨g,0,none⟩) i (l.map fun n=>V.v (.int .u8 n))
 | [],i,_=>by simp only[List.map_nil,RlC]
 | x::l,i,h=>by
  simp only[List.map_cons,RlC]
  have h0:=h 0 (by simp)
  refine⟨⟨_,?_,V.Rl_v,rfl⟩,zxf l (i+1) fun r hr=>?_⟩
  ·rw[Nat.add_zero]at h0
   have:(⟨g,0,none⟩:Addr).add i=⟨g,i,none⟩:=by unfold Addr.add;by_cases hi:i=0 <;> simp[hi]
   show zfq hv ((⟨g,0,none⟩:Addr).add i)=_
   rw[this];exact h0
  ·have:=h (r+1) (by simpa using hr)
   rw[show i+1+r=i+(r+1) by omega]
   simpa using this
theorem yrd {W:World} {l:List (String×DataW Unit)} (h:laidMetH Tryz.prog l W) (h1:(l.filter fun x=>x.1 == "math/bits.deBruijn64tab")= [("math/bits.deBruijn64tab",Rows.laid_math_bits_deBruijn64tab)]) (h2:("sparrow/score.modes",Rows.laid_sparrow_score_modes)∈l):Kn (hvW W):=by
 refine⟨fun g c hc=>?_,?_⟩
 ·unfold knC at hc
  split at hc
  ·rename_i hg;subst hg;cases hc
   have hb:=zup (h1▸h.filter fun x=>x.1 == "math/bits.deBruijn64tab")
   refine zxf _ _ fun r hr=>?_
   rw[Nat.zero_add,zum,hb r hr,List.getD,List.getElem?_eq_getElem hr];rfl
  ·cases hc
 ·obtain⟨g,t,cs,fuel,p,hg,ht,hv,hd⟩:=h.funcs h2
  obtain rfl:=Option.some.inj (gModes.symm.trans hg)
  obtain rfl:=Option.some.inj (tModes.symm.trans ht)
  rcases open_map Tryz.underlying132 hd with⟨_,hx⟩|⟨b,es,clock,n,rfl,hcs,hb,_,F,hx⟩
  ·simp[DataW.funcsOut]at hx
  ·simp only[Prod.mk.injEq]at hx
   have hcell:=World.var?_cell hg hv 0
   rw[Array.eq_one_of_toList hcs]at hcell
   have hL:=(DataW.map.inj hx.1).symm
   refine⟨b,es,clock,by rw[zum];simpa using hcell,hb,fun w m hb' m1 m2=>?_⟩
   have hm:m=1∨m=2∨m=3:=by omega
   rcases hm with rfl|rfl|rfl
   ·exact zrk (names:= []) Tryz.underlying132 Tryz.underlying131 F 1 (by omega) (b:=40) (r:= [115,112,97,114,114,111,119,47,115,99,111,114,101,46,112,97,121,109,101,110,116,41,46,97,108,111,110,101]) yKR hL (by simp[DataW.funcsOutEntries,DataW.funcsOut]) (by simp[DataW.funcsOutEntries,DataW.funcsOut]) w b hb'
   ·exact zrk (names:= []) Tryz.underlying132 Tryz.underlying131 F 2 (by omega) (b:=40) (r:= [115,112,97,114,114,111,119,47,115,99,111,114,101,46,112,97,121,109,101,110,116,41,46,97,108,108]) yKR hL (by simp[DataW.funcsOutEntries,DataW.funcsOut]) (by simp[DataW.funcsOutEntries,DataW.funcsOut]) w b hb'
   ·exact zrk (names:= []) Tryz.underlying132 Tryz.underlying131 F 3 (by omega) (b:=40) (r:= [115,112,97,114,114,111,119,47,115,99,111,114,101,46,112,97,121,109,101,110,116,41,46,98,97,115,105,99]) yKR hL (by simp[DataW.funcsOutEntries,DataW.funcsOut]) (by simp[DataW.funcsOutEntries,DataW.funcsOut]) w b hb'
end Go.XL
