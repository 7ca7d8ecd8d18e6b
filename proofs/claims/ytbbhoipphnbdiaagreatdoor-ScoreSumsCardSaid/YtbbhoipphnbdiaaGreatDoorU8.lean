/- A part of a program logic over the kit's walk rules, and contracts of functions in it. Conditions: as each theorem says. -/
import Derived.Test.YtbbhoipphnbdiaaGreatDoorU7
set_option linter.all false
namespace Go.XL
open Go.Proofs
set_option maxRecDepth 100000
set_option maxHeartbeats 8000000
theorem zmi (L:List Int) (n:Nat) (h:L.length=n):zdk 1 n ((L.map I).map V.copy)=L.map cI:=by
 subst h
 rw[List.map_map]
 exact zqw (V.copy∘I) L
theorem zta (p : PayM) (liable : Int) (hk : PC Tryz.prog 25 [p.h.val] (I 0))
    (s1 : PC Tryz.prog 34 [p.h.val, I p.dealer] (Bo true)) (s2 : PC Tryz.prog 34 [p.h.val, I p.winner] (Bo true)) (s3 : PC Tryz.prog 34 [p.h.val, I p.from_] (Bo true)) (s4 : PC Tryz.prog 34 [p.h.val, I liable] (Bo (p.h.seat liable)))
    (ok : p.Ok) (b1 : 0 ≤ p.dealer ∧ p.dealer < p.h.set.players) (b2 : 0 ≤ p.winner ∧ p.winner < p.h.set.players) (b3 : 0 ≤ p.from_ ∧ p.from_ < p.h.set.players) (b4 : liable = -1 ∨ (p.h.seat liable = true ∧ liable ≠ p.winner ∧ 0 ≤ liable ∧ liable < p.h.set.players)) :
    PC Tryz.prog 16 [p.h.val, I p.points, I p.dealer, I p.winner, I p.from_, I p.counters, I liable] (.tup [ints (outS p liable p.h.set.players.toNat), I 0]) := by
  have hpl := ok.players
  have hpt := ok.points
  have hct := ok.counters
  have Hout := zrs p ok liable
  have Hsum := zxs p ok
  have How := fun j => yni p j ok
  clear ok
  refine DC.of_run Tryz.func16 rfl Tryz.ntmps16 Tryz.results16 (by simp) (fun _ _ => ?_); simp only [zag, zai, go_sem, Nat.zero_add, Nat.reduceAdd]
  repeat' (first | refine yJ ?_ | (with_reducible first | (refine zax yE ?_; first | refine zds (fun _ => ?_) (fun _ => ?_) | refine zba ?_ | refine zbj ?_) | (refine zbn yU yE ?_; first | refine zgb ?_ | refine ygo (fun _ => ?_) (fun _ => ?_) | refine zef (fun _ => ?_) (fun _ => ?_) | refine GG.run ?_ | refine zcp ?_ | refine zcs ?_ | refine zww (fun _ => ?_) (fun _ => ?_))) | (refine zbq (t := 17) yU yE yU (fun _ => yE) yE yU yV1 (fun _ => yN1) ?_; simp only [go_sem]) | (refine zbq (t := 18) yU yE yU (fun _ => yE) yE yU yV1 (fun _ => yN1) ?_; simp only [go_sem]) | refine zan inferInstance (hk) yR yF ?_ | refine zan inferInstance (s1) yR yF ?_ | refine zan inferInstance (s2) yR yF ?_ | refine zan inferInstance (s3) yR yF ?_ | refine zan inferInstance (s4) yR yF ?_ | (refine zap (t := 7) yU yE yU ?_; simp only [yS3]) | (refine zap (t := 10) yU yE yU ?_; simp only [yS3]) | (refine zkm yU yE yE yE yE yU yU ⟨by omega, by omega, by decide, by omega⟩ (fun _ hfr => ?_)) | refine zao [] yE trivial ?_ | fail)
  all_goals try (exfalso; omega)
  rotate_left 1
  · rename_i e1 e2
    rcases b4 with b4 | b4
    · exact absurd b4 e1
    · rw [b4.1] at e2; cases e2
  all_goals
    rename_i bo
    clear hk s1 s2 s3 s4
    have hb4 : liable = -1 ∨ (liable ≠ p.winner ∧ 0 ≤ liable ∧ liable < p.h.set.players) := by omega
    clear b4
    have hz : List.replicate p.h.set.players.toNat (V.v (Value.int IntKind.i64 0)) = (outS p liable 0).map I := by simp [outS]
    rw [hz]
    clear hz
    refine zbl [4, 6, 10, 17, 18, 19, 86] yN (fun (k : Nat) => [(87, I k)]) (fun (k : Nat) => [(bo, .cells ((outS p liable k).map I) 3)]) (fun (k : Nat) => k ≤ p.h.set.players.toNat) (fun (k : Nat) => p.h.set.players.toNat - k) 0 yS (fun b o e => by exact e) (Nat.zero_le _) (fun k B hI hB => ?_); try dsimp only at hI hB; simp only [zad, zae]
    obtain ⟨Hl, Hx⟩ := Hout k
    have hsum := Hsum k
    have Hl2 := Hl
    have how := How k
    have Hx1 : ∀ x ∈ outS p liable k, -1000000000000 ≤ x ∧ x ≤ 1000000000000 := fun x hx => by have := Hx x hx; omega
    have Hx2 : ∀ (j w : Nat) (n : Int), 0 ≤ n ∧ n ≤ 1000000000 → ∀ x ∈ payL (outS p liable k) j w n, -1000000000000 ≤ x ∧ x ≤ 1000000000000 := fun j w n hn x hx => by
      have := zob Hx hn (by omega) x hx; omega
    have hw := Int.toNat_of_nonneg b2.1
    have hwl : p.winner.toNat < p.h.set.players.toNat := by omega
    have D1 : ∀ (j : Nat) (n : Int), j < p.h.set.players.toNat → 0 ≤ n ∧ n ≤ 1000000000 → _ := fun j n hj hn => ycs bo (outS p liable k) j p.winner.toNat n (by rw [Hl]; exact hj) (by rw [Hl]; exact hwl) hn Hx1 (by omega)
    have D2 : ∀ (j j2 : Nat) (n n2 : Int), j < p.h.set.players.toNat → j2 < p.h.set.players.toNat → 0 ≤ n ∧ n ≤ 1000000000 → 0 ≤ n2 ∧ n2 ≤ 1000000000 → _ := fun j j2 n n2 hj hj2 hn hn2 => ycs bo (payL (outS p liable k) j2 p.winner.toNat n2) j p.winner.toNat n (by rw [zfp, Hl]; exact hj) (by rw [zfp, Hl]; exact hwl) hn (Hx2 _ _ _ hn2) (by rw [zfp]; omega)
    simp only [zfp, Hl, hw] at D1 D2
    have hout := outS.eq_2 p liable k
    have hT : (zhw p.h p.points p.dealer p.winner p.from_ p.counters k).tdiv 2 = zhw p.h p.points p.dealer p.winner p.from_ p.counters k / 2 := Int.tdiv_eq_ediv_of_nonneg hsum.1
    generalize hN : zhw p.h p.points p.dealer p.winner p.from_ p.counters k = N at *
    clear hN
    have H := Box.mk (And.intro D1 D2)
    have HO := Box.mk hout
    have HB := Box.mk hB
    clear hB Hl Hx Hx1 Hx2 Hsum How Hout D1 D2 hout
    repeat' (first | refine yJ ?_ | (with_reducible first | (refine zax yE ?_; first | refine zez (fun _ => ?_) (fun _ => ?_) | refine zds (fun _ => ?_) (fun _ => ?_) | refine zbj ?_) | (refine zbn yU yE ?_; first | refine zfg (fun _ => ?_) (fun _ => ?_) | refine GG.run ?_ | refine zcp ?_)) | refine zan inferInstance (how) yR yT ?_ | fail)
    all_goals first
      | (exfalso; omega)
      | refine DS.back (HB.out (k + 1) _ _ (by omega) (by omega) yS yS (fun b o e => by rw [HO.out, if_pos (by omega)] at e; exact e))
      | (have D := H.out.1 k N (by omega) hsum
         try rw [show ((k : Nat) : Int) = p.from_ by omega] at D
         refine zlx inferInstance yH D (by decide) yH (fun u S' hu => ?_)
         obtain ⟨rfl, rfl⟩ := hu
         repeat' (first | refine yJ ?_ | fail)
         exact DS.back (HB.out (k + 1) _ _ (by omega) (by omega) yS yS (fun b o e => by rw [HO.out, if_neg (by omega), if_neg (by omega), if_neg (by omega)] at e; exact e)))
      | (have D := H.out.1 liable.toNat N (by omega) hsum
         rw [Int.toNat_of_nonneg (by omega)] at D
         refine zlx inferInstance yH D (by decide) yH (fun u S' hu => ?_)
         obtain ⟨rfl, rfl⟩ := hu
         repeat' (first | refine yJ ?_ | fail)
         exact DS.back (HB.out (k + 1) _ _ (by omega) (by omega) yS yS (fun b o e => by rw [HO.out, if_neg (by omega), if_pos (by omega)] at e; exact e)))
      | (have D := H.out.1 liable.toNat (N - N / 2) (by omega) (by omega)
         rw [Int.toNat_of_nonneg (by omega)] at D
         refine zlx inferInstance yH D (by decide) (by (simp (disch := omega) only [go_sem, dopV, yV0, ↓reduceIte, Nat.reduceEqDiff, Nat.reduceLT, Nat.reduceLeDiff, Nat.reduceAdd, Nat.reduceMul, Nat.reduceSub, Int.reduceToNat, Int.reduceLT, Int.reduceLE, Int.reduceEq, IntWalk.toNatUp, IntWalk.iteOmega, IntWalk.i64_in, V.flat, V.one, hT]; try exact rfl)) (fun u S' hu => ?_)
         obtain ⟨rfl, rfl⟩ := hu
         have D3 := H.out.2 k liable.toNat (N / 2) (N - N / 2) (by omega) (by omega) (by omega) (by omega)
         rw [show ((k : Nat) : Int) = p.from_ by omega] at D3
         repeat' (first | refine yJ ?_ | fail)
         refine zlx inferInstance yH D3 (by decide) yH (fun u S' hu => ?_)
         obtain ⟨rfl, rfl⟩ := hu
         repeat' (first | refine yJ ?_ | fail)
         exact DS.back (HB.out (k + 1) _ _ (by omega) (by omega) yS yS (fun b o e => by rw [HO.out, if_neg (by omega), if_neg (by omega), if_pos (by omega)] at e; exact e)))
      | (have hk : k = p.h.set.players.toNat := by omega
         subst hk
         refine ziv (t := 14) (b := bo) (sz := 1) (l := (outS p liable p.h.set.players.toNat).map I) (T := 3) yR (by simp only [zaa, ↓reduceIte]) (by simp [Hl2]) ⟨Nat.le_refl _, by simp only [maxLen]; omega⟩ ?_
         refine zbh yG ?_
         rw [zmi _ _ Hl2]
         rfl)
theorem zkb (h:House) (hc:h.CondsPC) (points dealer winner from_ counters liable:Int) :
  PC Tryz.prog 16 [h.val,I points,I dealer,I winner,I from_,I counters,I liable] (.tup [ints (zhh h points dealer winner from_ counters liable).1,I (zhh h points dealer winner from_ counters liable).2]):=by
 have hk:=zsh h hc
 by_cases h0:zdx h=0
 ·rw[h0]at hk
  have s1:=znx h dealer
  have s2:=znx h winner
  have s3:=znx h from_
  have s4:=znx h liable
  have ex:zhh h points dealer winner from_ counters liable=if points<0∨points > 1000000∨counters<0∨counters > 100 then([],2)else
   if(h.seat dealer&&h.seat winner&&h.seat from_)=false then([],2)else
   if liable ≠ -1∧(h.seat liable=false∨liable=winner)then([],2)else
   (outS ⟨h,points,dealer,winner,from_,counters⟩ liable h.set.players.toNat,0):=by rw[zhh,if_neg (by omega)]
  rw[ex]
  clear ex
  by_cases g1:points<0∨points > 1000000∨counters<0∨counters > 100
  ·rw[if_pos g1]
   refine DC.of_run Tryz.func16 rfl Tryz.ntmps16 Tryz.results16 (by simp) (fun _ _=>?_);simp only[zag,zai,go_sem,Nat.zero_add,Nat.reduceAdd]
   repeat' (first|refine yJ ?_|(with_reducible first|(refine zax yE ?_;first|refine zds (fun _=>?_) (fun _=>?_)|refine zba ?_|refine zbj ?_)|(refine zbn yU yE ?_;first|refine zef (fun _=>?_) (fun _=>?_)|refine GG.run ?_|refine zcs ?_))|refine zan inferInstance (hk) yR yF ?_|(refine zap (t:=7) yU yE yU ?_;simp only[yS3])|(refine zap (t:=10) yU yE yU ?_;simp only[yS3])|refine zao [] yE trivial ?_|fail)
   all_goals first|rfl|(exfalso;omega)
  rw[if_neg g1]
  by_cases g2:(h.seat dealer&&h.seat winner&&h.seat from_)=false
  ·rw[if_pos g2]
   refine DC.of_run Tryz.func16 rfl Tryz.ntmps16 Tryz.results16 (by simp) (fun _ _=>?_);simp only[zag,zai,go_sem,Nat.zero_add,Nat.reduceAdd]
   repeat' (first|refine yJ ?_|(with_reducible first|(refine zax yE ?_;first|refine zds (fun _=>?_) (fun _=>?_)|refine zba ?_|refine zbj ?_|refine ybv (fun _=>?_) (fun _=>?_))|(refine zbn yU yE ?_;first|refine zgb ?_|refine ygo (fun _=>?_) (fun _=>?_)|refine zef (fun _=>?_) (fun _=>?_)|refine GG.run ?_|refine zcp ?_|refine zcs ?_|refine zww (fun _=>?_) (fun _=>?_)))|(refine zbq (t:=17) yU yE yU (fun _=>yE) yE yU yV1 (fun _=>yN1) ?_;simp only[go_sem])|refine zan inferInstance (hk) yR yF ?_|refine zan inferInstance (s1) yR yF ?_|refine zan inferInstance (s2) yR yF ?_|refine zan inferInstance (s3) yR yF ?_|refine zan inferInstance (s4) yR yF ?_|(refine zap (t:=7) yU yE yU ?_;simp only[yS3])|(refine zap (t:=10) yU yE yU ?_;simp only[yS3])|refine zao [] yE trivial ?_|fail)
   all_goals first|rfl|(exfalso;omega)|(exfalso;simp_all;done)|trace_state
  rw[if_neg g2]
  simp only[Bool.not_eq_false,Bool.and_eq_true]at g2
  rw[g2.1.1]at s1
  rw[g2.1.2]at s2
  rw[g2.2]at s3
  by_cases g3:liable ≠ -1∧(h.seat liable=false∨liable=winner)
  ·rw[if_pos g3]
   refine DC.of_run Tryz.func16 rfl Tryz.ntmps16 Tryz.results16 (by simp) (fun _ _=>?_);simp only[zag,zai,go_sem,Nat.zero_add,Nat.reduceAdd]
   repeat' (first|refine yJ ?_|(with_reducible first|(refine zax yE ?_;first|refine zds (fun _=>?_) (fun _=>?_)|refine zba ?_|refine zbj ?_)|(refine zbn yU yE ?_;first|refine zef (fun _=>?_) (fun _=>?_)|refine GG.run ?_|refine zcs ?_|refine zww (fun _=>?_) (fun _=>?_)))|(refine zbq (t:=17) yU yE yU (fun _=>yE) yE yU yV1 (fun _=>yN1) ?_;simp only[go_sem])|refine zan inferInstance (hk) yR yF ?_|refine zan inferInstance (s1) yR yF ?_|refine zan inferInstance (s2) yR yF ?_|refine zan inferInstance (s3) yR yF ?_|refine zan inferInstance (s4) yR yF ?_|(refine zap (t:=7) yU yE yU ?_;simp only[yS3])|(refine zap (t:=10) yU yE yU ?_;simp only[yS3])|refine zao [] yE trivial ?_|fail)
   all_goals first|rfl|(exfalso;omega)|(exfalso;simp_all;done)|trace_state
  rw[if_neg g3]
  have ok:PayM.Ok ⟨h,points,dealer,winner,from_,counters⟩:=zvr h0 g1
  refine zta ⟨h,points,dealer,winner,from_,counters⟩ liable hk s1 s2 s3 s4 ok ?_ ?_ ?_ ?_
  ·simpa [House.seat] using g2.1.1
  ·simpa [House.seat] using g2.1.2
  ·simpa [House.seat] using g2.2
  ·by_cases hl:liable = -1
   ·exact .inl hl
   ·have h1:h.seat liable=true:=by
     cases hs:h.seat liable with
     | true=>rfl
     | false=>exact absurd ⟨hl, .inl hs⟩ g3
    have h2:liable≠winner:=fun e=>g3 ⟨hl, .inr e⟩
    have h3:0≤liable∧liable<h.set.players:=by simpa [House.seat] using h1
    exact .inr ⟨h1,h2,h3.1,h3.2⟩
 ·rw[zhh,if_pos h0]
  refine DC.of_run Tryz.func16 rfl Tryz.ntmps16 Tryz.results16 (by simp) (fun _ _=>?_);simp only[zag,zai,go_sem,Nat.zero_add,Nat.reduceAdd]
  repeat' (first|refine yJT ?_|refine zan inferInstance (hk) yR yT ?_|(refine zap (t:=7) yU yE yU ?_;simp only[yS3])|(refine zap (t:=10) yU yE yU ?_;simp only[yS3])|refine zao [] yE trivial ?_|fail)
  all_goals first|rfl|(exfalso;omega)
end Go.XL
namespace Go.XL
theorem zel {f g:Nat→Int}: ∀{n:Nat},(∀i,i<n→f i=g i)→zdm f n=zdm g n
 | 0,_=>rfl
 | n+1,h=>by rw[zdm,zdm,zel fun i hi=>h i (by omega),h n (by omega)]
theorem zij {f g:Nat→Int}: ∀{n:Nat},zdm (fun i=>f i+g i) n=zdm f n+zdm g n
 | 0=>rfl
 | n+1=>by rw[zdm,zdm,zdm,zij];omega
theorem zkz {a:Nat} {c:Int}: ∀{n:Nat},zdm (fun i=>if i=a then c else 0) n=if a<n then c else 0
 | 0=>by simp[zdm]
 | n+1=>by
  rw[zdm,zkz]
  by_cases h:n=a
  ·rw[if_pos h,if_neg (by omega),if_pos (by omega)];omega
  ·rw[if_neg h]
   by_cases h2:a<n
   ·rw[if_pos h2,if_pos (by omega)];omega
   ·rw[if_neg h2,if_neg (by omega)];rfl
def dl (x a b:Nat) (n:Int):Int:=(if x=b then n else 0)-(if x=a then n else 0)
theorem zjd {L:List Int} {j x:Nat} {v:Int} (hj:j<L.length):(L.set j v).getD x 0=if x=j then v else L.getD x 0:=by
 rw[List.getD_eq_getElem?_getD,List.getD_eq_getElem?_getD,List.getElem?_set]
 by_cases h:j=x
 ·subst h;simp[hj]
 ·rw[if_neg h,if_neg (fun e=>h e.symm)]
theorem zrr {L:List Int} {j w x:Nat} {n:Int} (hj:j<L.length) (hw:w<L.length):(payL L j w n).getD x 0=L.getD x 0+dl x j w n:=by
 rw[payL,zjd (by simpa using hw),zjd hj]
 by_cases h1:x=w
 ·subst h1
  rw[if_pos rfl]
  unfold dl
  rw[if_pos rfl]
  by_cases h2:x=j
  ·subst h2;rw[if_pos rfl,if_pos rfl];omega
  ·rw[if_neg h2,if_neg h2];omega
 ·rw[if_neg h1,zjd hj]
  unfold dl
  rw[if_neg h1]
  by_cases h2:x=j
  ·subst h2;rw[if_pos rfl,if_pos rfl];omega
  ·rw[if_neg h2,if_neg h2];omega
def trS (p:PayM) (liable:Int) (x i:Nat):Int :=
 if(i:Int)=p.winner then 0 else
   if 0≤liable∧p.from_=p.winner then dl x liable.toNat p.winner.toNat (zhw p.h p.points p.dealer p.winner p.from_ p.counters i)else
   if 0≤liable∧(i:Int)=p.from_∧liable≠p.from_ then
    dl x liable.toNat p.winner.toNat (zhw p.h p.points p.dealer p.winner p.from_ p.counters i-zhw p.h p.points p.dealer p.winner p.from_ p.counters i / 2)+dl x i p.winner.toNat (zhw p.h p.points p.dealer p.winner p.from_ p.counters i / 2)
   else dl x i p.winner.toNat (zhw p.h p.points p.dealer p.winner p.from_ p.counters i)
theorem zrt (p:PayM) (liable:Int): ∀k,(outS p liable k).length=p.h.set.players.toNat
 | 0=>by simp[outS]
 | k+1=>by
  rw[outS]
  (repeat' split) <;> simp only[zfp,zrt p liable k]
theorem ydb (p:PayM) (liable:Int) (hw:p.winner.toNat<p.h.set.players.toNat) (hl:liable.toNat<p.h.set.players.toNat) (x:Nat): ∀k,k≤p.h.set.players.toNat→(outS p liable k).getD x 0=zdm (trS p liable x) k
 | 0,_=>by
  rw[outS,zdm,List.getD_eq_getElem?_getD,List.getElem?_replicate]
  split <;> rfl
 | k+1,hk=>by
  have ih:=ydb p liable hw hl x k (by omega)
  have hn:=zrt p liable k
  rw[outS,zdm,trS]
  by_cases h1:(k:Int)=p.winner
  ·rw[if_pos h1,if_pos h1,ih];omega
  rw[if_neg h1,if_neg h1]
  by_cases h2:0≤liable∧p.from_=p.winner
  ·rw[if_pos h2,if_pos h2,zrr (by omega) (by omega),ih]
  rw[if_neg h2,if_neg h2]
  by_cases h3:0≤liable∧(k:Int)=p.from_∧liable≠p.from_
  ·rw[if_pos h3,if_pos h3,zrr (by rw[zfp];omega) (by rw[zfp];omega),zrr (by omega) (by omega),ih];omega
  ·rw[if_neg h3,if_neg h3,zrr (by omega) (by omega),ih]
end Go.XL
namespace Go.XL
structure WinRow where
 who:Int
 from_:Int
 value:Int
 points:Int
 liable:Int
def WinRow.cells (x:WinRow):List V:= [I x.who,I x.from_,I x.value,I x.points,I x.liable]
@[go_sem] theorem WinRow.cells_eq (x:WinRow):x.cells= [I x.who,I x.from_,I x.value,I x.points,I x.liable]:=rfl
theorem WinRow.len (f:WinRow):f.cells.length=5:=rfl
abbrev WinRow.val (x:WinRow):V := .agg x.cells
abbrev yrw (l:List WinRow):V := .lst (l.map WinRow.cells)
def addN (L M:List Int):Nat→List Int
 | 0=>L
 | k+1=>(addN L M k).set k ((addN L M k).getD k 0+M.getD k 0)
theorem zfb (L M:List Int): ∀k,(addN L M k).length=L.length
 | 0=>rfl
 | k+1=>by rw[addN,List.length_set,zfb L M k]
def LB (B:Int) (L:List Int):Prop:= ∀x∈L,-B≤x∧x≤B
theorem LB.at {B:Int} {L:List Int} (h:LB B L) (hB:0≤B) (i:Nat) : -B≤L.getD i 0∧L.getD i 0≤B:=by
 rw[List.getD_eq_getElem?_getD]
 cases e:L[i]? with
 | none=>simp only[Option.getD_none];omega
 | some v=>exact h v (List.mem_of_getElem? e)
theorem LB.set {B:Int} {L:List Int} (h:LB B L) {i:Nat} {v:Int} (hv : -B≤v∧v≤B):LB B (L.set i v):=fun x hx=>by
 rcases List.mem_or_eq_of_mem_set hx with h'|h'
 ·exact h x h'
 ·rw[h'];exact hv
theorem LB.mono {B C:Int} {L:List Int} (h:LB B L) (hc:B≤C):LB C L:=fun x hx=>by have:=h x hx;omega
theorem zku (L M:List Int) (x:Nat): ∀k,k≤L.length→(addN L M k).getD x 0=if x<k then L.getD x 0+M.getD x 0 else L.getD x 0
 | 0,_=>by rw[addN,if_neg (by omega)]
 | k+1,hk=>by
  rw[addN,zjd (by rw[zfb];omega),zku L M x k (by omega),zku L M k k (by omega),if_neg (Nat.lt_irrefl k)]
  by_cases h:x=k
  ·subst h;rw[if_pos rfl,if_pos (by omega)]
  ·rw[if_neg h]
   by_cases h2:x<k
   ·rw[if_pos h2,if_pos (by omega)]
   ·rw[if_neg h2,if_neg (by omega)]
theorem zpd {L M:List Int} {B C:Int} (hL:LB B L) (hM:LB C M) (hB:0≤B) (hC:0≤C) {k:Nat} (hk:k≤L.length):LB (B+C) (addN L M k):=fun x hx=>by
 obtain⟨i,hi,rfl⟩:=List.mem_iff_getElem.1 hx
 have e:(addN L M k).getD i 0=(addN L M k)[i]:=by rw[List.getD_eq_getElem?_getD,List.getElem?_eq_getElem hi];rfl
 rw[←e,zku L M i k hk]
 have h1:=hL.at hB i
 have h2:=hM.at hC i
 split <;> omega
def zct (h:House) (dealer:Int):List WinRow→Int→List Int→List Int×Int
 | [],_,acc=>(acc,0)
 | r::l,counters,acc=>if(zhh h r.points dealer r.who r.from_ counters r.liable).2≠0 then([],(zhh h r.points dealer r.who r.from_ counters r.liable).2)else
   zct h dealer l 0 (addN acc (zhh h r.points dealer r.who r.from_ counters r.liable).1 acc.length)
def zgx (h:House) (dealer counters sticks:Int) (rows:List WinRow):Int :=
 if h.seat dealer=false∨counters<0∨counters > 100∨sticks<0∨sticks > 4000 then 2 else if(rows.length:Int)=0 then 7 else if h.set.players≤(rows.length:Int)then 8 else 0
def zmb (h:House) (dealer counters sticks:Int) (rows:List WinRow):List Int×Int :=
 if zdx h≠0 then([],zdx h)else if zgx h dealer counters sticks rows≠0 then([],zgx h dealer counters sticks rows)else
 if(zct h dealer rows counters (List.replicate h.set.players.toNat 0)).2≠0 then([],(zct h dealer rows counters (List.replicate h.set.players.toNat 0)).2)else
 ((zct h dealer rows counters (List.replicate h.set.players.toNat 0)).1.set (rows.headD ⟨0,0,0,0,0⟩).who.toNat ((zct h dealer rows counters (List.replicate h.set.players.toNat 0)).1.getD (rows.headD ⟨0,0,0,0,0⟩).who.toNat 0+sticks*h.pay.stick),0)
end Go.XL
namespace Go.XL
theorem zjy : ∀n,zdm (fun _=>0) n=0
 | 0=>rfl
 | n+1=>by rw[zdm,zjy n];rfl
theorem zpp (f:Nat→Nat→Int) (m:Nat): ∀n,zdm (fun x=>zdm (f x) m) n=zdm (fun i=>zdm (fun x=>f x i) n) m
 | 0=>(zjy m).symm
 | n+1=>by
  rw[zdm,zpp f m n,←zij]
  exact zel fun i _=>rfl
theorem zhn : ∀(l:List Int),sumI l=zdm (fun i=>l.getD i 0) l.length:=by
 intro l
 have key: ∀(l m:List Int),zdm (fun i=>(m++l).getD i 0) (m.length+l.length)=zdm (fun i=>m.getD i 0) m.length+sumI l:=by
  intro l
  induction l with
  | nil=>intro m;simp[sumI]
  | cons a l ih =>
   intro m
   have h:=ih (m++ [a])
   rw[List.append_assoc,List.singleton_append,List.length_append,List.length_singleton]at h
   rw[List.length_cons,show m.length+(l.length+1)=m.length+1+l.length by omega,h,sumI,zdm]
   have e1:(m++ [a]).getD m.length 0=a:=by simp
   have e2:zdm (fun i=>(m++ [a]).getD i 0) m.length=zdm (fun i=>m.getD i 0) m.length:=zel fun i hi=>by
    rw[List.getD_eq_getElem?_getD,List.getElem?_append_left hi,←List.getD_eq_getElem?_getD]
   rw[e1,e2];omega
 have:=key l []
 simp only[List.nil_append,List.length_nil,Nat.zero_add,zdm]at this
 omega
theorem zzf {a b n:Nat} (ha:a<n) (hb:b<n) (N:Int):zdm (fun x=>dl x a b N) n=0:=by
 have e:zdm (fun x=>dl x a b N) n=zdm (fun x=>(if x=b then N else 0)+(if x=a then -N else 0)) n:=zel fun x _=>by
  unfold dl;split <;> split <;> omega
 rw[e,zij,zkz,zkz,if_pos ha,if_pos hb];omega
section
variable (p:PayM) (liable:Int) (hw:p.winner.toNat<p.h.set.players.toNat) (hl:liable.toNat<p.h.set.players.toNat)
include hw hl
theorem yda :sumI (outS p liable p.h.set.players.toNat)=0:=by
 rw[zhn,zrt,zel fun x hx=>ydb p liable hw hl x _ (Nat.le_refl _),zpp]
 rw[zel (g:=fun _=>0) fun i hi=>?_,zjy]
 unfold trS
 by_cases h1:(i:Int)=p.winner
 ·simp only[if_pos h1];exact zjy _
 simp only[if_neg h1]
 by_cases h2:0≤liable∧p.from_=p.winner
 ·simp only[if_pos h2];exact zzf hl hw _
 simp only[if_neg h2]
 by_cases h3:0≤liable∧(i:Int)=p.from_∧liable≠p.from_
 ·simp only[if_pos h3]
  rw[zij,zzf hl hw,zzf hi hw];rfl
 ·simp only[if_neg h3];exact zzf hi hw _
end
section
variable {h:House} (hn:h.set.players=3∨h.set.players=4) {d w f:Int} (hd:0≤d∧d<h.set.players) (hw:0≤w∧w<h.set.players) (hf:0≤f∧f<h.set.players)
include hn hd hw
include hf
end
end Go.XL
namespace Go.XL
theorem zjm {h:House} {x:Int} (hx:0≤x∧x<h.set.players):h.seat x=true:=by
 rw[House.seat,decide_eq_true hx.1,decide_eq_true hx.2];rfl
theorem yhy {h:House} (e:zdx h=0) {p d w f c li:Int} (hp:0≤p∧p≤1000000) (hc:0≤c∧c≤100) (hd:0≤d∧d<h.set.players) (hw:0≤w∧w<h.set.players) (hf:0≤f∧f<h.set.players)
  (hl:li = -1∨(0≤li∧li<h.set.players∧li≠w)):zhh h p d w f c li=(outS ⟨h,p,d,w,f,c⟩ li h.set.players.toNat,0):=by
 rw[zhh,if_neg (by omega),if_neg (by omega),if_neg (by rw[zjm hd,zjm hw,zjm hf];decide),if_neg]
 rcases hl with rfl|⟨h1,h2,h3⟩
 ·exact fun h=>h.1 rfl
 ·rw[zjm ⟨h1,h2⟩]
  rintro⟨-,h|h⟩
  ·cases h
  ·exact h3 h
structure Paid (n:Nat) (L:List Int):Prop where
 len:L.length=n
 bd: ∀x∈L,-1000000000000≤x∧x≤1000000000000
 sum:sumI L=0
structure Keeps (n w li:Int) (A B C:List Int):Prop where
 a:Paid n.toNat A
 b:Paid n.toNat B
 neg: ∀i:Nat,(i:Int)<n→(i:Int)≠w→A.getD i 0≤0
 rot: ∀i:Nat,(i:Int)<n→B.getD (((i:Int)+1) % n).toNat 0=A.getD i 0
 c:li≠w→Paid n.toNat C
 win:li≠w→C.getD w.toNat 0=A.getD w.toNat 0
 more:li≠w→ ∀i:Nat,(i:Int)<n→(i:Int)≠li→(i:Int)≠w→A.getD i 0≤C.getD i 0
end Go.XL
namespace Go.XL
theorem zyh {L:List Int} {i:Nat} (h:i<L.length):L.getD i 0=L[i]:=by
 rw[List.getD_eq_getElem?_getD,List.getElem?_eq_getElem h];rfl
theorem ykl {a b:List Int} (hl:a.length=b.length) (h: ∀x,x<a.length→a.getD x 0=b.getD x 0):a=b:=List.ext_getElem hl fun i h1 h2=>by
 have:=h i h1
 rwa [zyh h1,zyh h2]at this
def zox (K:Int) (acc:List Int):List WinRow→List Int
 | []=>acc
 | r::_=>acc.set r.who.toNat (acc.getD r.who.toNat 0+K)
theorem ykn {K:Int} {acc:List Int} (l:List WinRow):(zox K acc l).length=acc.length:=by
 cases l with
 | nil=>rfl
 | cons r l=>rw[zox,List.length_set]
theorem yfq {K:Int} {acc:List Int} {l:List WinRow} (r:WinRow) (hl:l≠ []):zox K acc (l++ [r])=zox K acc l:=by
 cases l with
 | nil=>exact absurd rfl hl
 | cons x l=>rfl
theorem zvc {K:Int} {acc p:List Int} {l:List WinRow} (hw: ∀r∈l,r.who.toNat<acc.length):addN (zox K acc l) p acc.length=zox K (addN acc p acc.length) l:=by
 cases l with
 | nil=>rfl
 | cons r l =>
  have hr:=hw r (List.mem_cons_self ..)
  rw[zox,zox]
  refine ykl (by rw[zfb,List.length_set,List.length_set,zfb]) fun x hx=>?_
  rw[zfb,List.length_set]at hx
  rw[zku _ _ x _ (by rw[List.length_set];exact Nat.le_refl _),if_pos hx,zjd hr,zjd (by rw[zfb];exact hr),zku _ _ r.who.toNat _ (Nat.le_refl _),if_pos hr,zku _ _ x _ (Nat.le_refl _),if_pos hx]
  by_cases e:x=r.who.toNat
  ·subst e;rw[if_pos rfl,if_pos rfl];omega
  ·rw[if_neg e,if_neg e]
theorem yhm {acc p:List Int} (hl:p.length=acc.length):sumI (addN acc p acc.length)=sumI acc+sumI p:=by
 rw[zhn,zhn acc,zhn p,zfb,hl,←zij]
 exact zel fun x hx=>by rw[zku _ _ x _ (Nat.le_refl _),if_pos hx]
theorem ymw {l:List Int} {i:Nat} (hi:i<l.length) (K:Int):sumI (l.set i (l.getD i 0+K))=sumI l+K:=by
 rw[zhn,zhn l,List.length_set]
 have e:zdm (fun x=>(l.set i (l.getD i 0+K)).getD x 0) l.length=zdm (fun x=>l.getD x 0+if x=i then K else 0) l.length:=zel fun x hx=>by
  rw[zjd hi]
  by_cases e:x=i
  ·subst e;rw[if_pos rfl,if_pos rfl]
  ·rw[if_neg e,if_neg e];omega
 rw[e,zij,zkz,if_pos hi]
theorem zld {h:House} {d:Int} (r:WinRow): ∀(l:List WinRow) (c:Int) (acc:List Int),(zct h d l c acc).2=0→zct h d (l++ [r]) c acc=zct h d [r] (if l= []then c else 0) (zct h d l c acc).1
 | [],c,acc,_=>rfl
 | x::l,c,acc,e=>by
  rw[zct]at e
  rw[List.cons_append,zct]
  conv=>rhs;rw[show zct h d (x::l) c acc=_ from by rw[zct]]
  by_cases hz:(zhh h x.points d x.who x.from_ c x.liable).2≠0
  ·rw[if_pos hz]at e
   exact absurd e hz
  ·rw[if_neg hz]at e
   rw[if_neg hz,if_neg hz,zld r l 0 _ e,if_neg (by simp: ¬x::l= [])]
   split <;> rfl
structure Sums (h:House) (d c K:Int) (rws:List WinRow) (acc W:List Int):Prop where
 go:zct h d rws c (List.replicate h.set.players.toNat 0)=(acc,0)
 len:acc.length=h.set.players.toNat
 bd:LB (rws.length*20000000000) acc
 sum:sumI acc=0
 want:W=zox K acc rws
 seat: ∀r∈rws,0≤r.who∧r.who<h.set.players
theorem zpq : ∀n,sumI (List.replicate n 0)=0
 | 0=>rfl
 | n+1=>by rw[List.replicate_succ,sumI,zpq n];rfl
theorem Sums.nil (h:House) (d c K:Int):Sums h d c K [] (List.replicate h.set.players.toNat 0) (List.replicate h.set.players.toNat 0) :=
 ⟨rfl,List.length_replicate,fun x hx=>by rw[List.eq_of_mem_replicate hx];decide,zpq _,rfl,fun r hr=>by cases hr⟩
theorem Sums.wlen {h:House} {d c K:Int} {rws:List WinRow} {acc W:List Int} (H:Sums h d c K rws acc W):W.length=h.set.players.toNat:=by rw[H.want,ykn,H.len]
theorem Sums.wbd {h:House} {d c K:Int} {rws:List WinRow} {acc W:List Int} (H:Sums h d c K rws acc W) (hK:0≤K∧K≤4000000000) (hl:rws.length≤4):LB 100000000000 W:=by
 rw[H.want]
 have hb:LB 80000000000 acc:=H.bd.mono (by omega)
 cases hr:rws with
 | nil=>exact hb.mono (by omega)
 | cons r l =>
  rw[zox]
  have:=hb.at (by omega) r.who.toNat
  exact(hb.mono (by omega)).set (by omega)
theorem Sums.snoc {h:House} {d c K:Int} {rws:List WinRow} {acc W:List Int} (H:Sums h d c K rws acc W) (e:zdx h=0) (hd:0≤d∧d<h.set.players) (hc:0≤c∧c≤100) (r:WinRow) (hw:0≤r.who∧r.who<h.set.players) (hf:0≤r.from_∧r.from_<h.set.players) (hp:0≤r.points∧r.points≤1000000) (hl:r.liable = -1) :
  ∃p,zhh h r.points d r.who r.from_ (if rws= []then c else 0) (-1)=(p,0)∧p.length=h.set.players.toNat∧LB 20000000000 p ∧
   Sums h d c K (rws++ [r]) (addN acc p h.set.players.toNat) (addN (if rws= []then W.set r.who.toNat (W.getD r.who.toNat 0+K)else W) p h.set.players.toNat):=by
 have hcc:0≤(if rws= []then c else 0)∧(if rws= []then c else 0)≤100:=by split <;> omega
 have ok:PayM.Ok ⟨h,r.points,d,r.who,r.from_,if rws= []then c else 0⟩:=zvr e (by dsimp only;omega)
 have hn:=ok.players
 dsimp only at hn
 obtain⟨h1,h2⟩:=zrs _ ok (-1) h.set.players.toNat
 have hp1:=yhy e hp hcc hd hw hf (li := -1) (.inl rfl)
 have hs:=yda ⟨h,r.points,d,r.who,r.from_,if rws= []then c else 0⟩ (-1) (by dsimp only;omega) (by dsimp only;omega)
 generalize hG:outS ⟨h,r.points,d,r.who,r.from_,if rws= []then c else 0⟩ (-1) h.set.players.toNat=p at *
 have hLB:LB 20000000000 p:=fun x hx=>by have:=h2 x hx;omega
 have hwl:r.who.toNat<h.set.players.toNat:=by omega
 dsimp only at h1 hs
 refine⟨p,hp1,h1,hLB,?_,?_,?_,?_,?_,?_⟩
 ·rw[zld r rws c _ (by rw[H.go]),H.go,zct,hl,hp1,if_neg (fun q=>q rfl),zct,H.len]
 ·rw[zfb,H.len]
 ·rw[List.length_append,List.length_singleton]
  exact(zpd H.bd hLB (by omega) (by omega) (by rw[H.len];exact Nat.le_refl _)).mono (by omega)
 ·have:=yhm (acc:=acc) (p:=p) (by rw[h1,H.len])
  rw[H.len]at this
  rw[this,H.sum,hs];rfl
 ·by_cases hr:rws= []
  ·subst hr
   have hW:W=acc:=H.want
   rw[if_pos rfl,hW,List.nil_append]
   have:=zvc (K:=K) (acc:=acc) (p:=p) (l:= [r]) (fun q hq=>by rw[List.mem_singleton.1 hq,H.len];exact hwl)
   rw[H.len]at this
   exact this
  ·rw[if_neg hr,H.want,yfq r hr]
   have:=zvc (K:=K) (acc:=acc) (p:=p) (l:=rws) (fun q hq=>by have:=H.seat q hq;rw[H.len];omega)
   rw[H.len]at this
   exact this
 ·intro q hq
  rcases List.mem_append.1 hq with hq|hq
  ·exact H.seat q hq
  ·rw[List.mem_singleton.1 hq];exact hw
theorem Sums.done {h:House} {d c sticks:Int} {rws:List WinRow} {acc W:List Int} (H:Sums h d c (sticks*h.pay.stick) rws acc W) (e:zdx h=0) (hd:0≤d∧d<h.set.players) (hc:0≤c∧c≤100) (hs:0≤sticks∧sticks≤4000) (hl:1≤rws.length∧(rws.length:Int)<h.set.players) :
  zmb h d c sticks rws=(W,0)∧sumI W=sticks*h.pay.stick:=by
 cases hr:rws with
 | nil=>rw[hr]at hl;simp at hl
 | cons r l =>
  rw[←hr]
  have hw:=H.seat r (by rw[hr];exact List.mem_cons_self ..)
  have hW:=H.want
  rw[hr,zox]at hW
  refine⟨?_,?_⟩
  ·have h1:zgx h d c sticks rws=0:=by
    rw[zgx,if_neg (by rw[zjm hd];rintro(q|q|q|q|q) <;> first|cases q|omega),if_neg (by omega),if_neg (by omega)]
   have h2:rws.headD ⟨0,0,0,0,0⟩=r:=by rw[hr];rfl
   rw[zmb,if_neg (by omega),if_neg (by omega),H.go,if_neg (fun q=>q rfl),h2,hW]
  ·rw[hW,ymw (by rw[H.len];omega),H.sum,Int.zero_add]
end Go.XL
namespace Go.XL
structure Hold where
 pattern:Int
 times:Int
def Hold.cells (x:Hold):List V:= [I x.pattern,I x.times]
@[go_sem] theorem Hold.cells_eq (x:Hold):x.cells= [I x.pattern,I x.times]:=rfl
theorem Hold.len (x:Hold):x.cells.length=2:=rfl
abbrev Hold.val (x:Hold):V := .agg x.cells
abbrev ydt (l:List Hold):V := .lst (l.map Hold.cells)
def zkj (p:Pattern) (o:Bool):Int:=if o=true then p.open_ else p.closed
def zgm (many:Int):List Hold→Int→Int
 | [],_=>0
 | x::l,last=>if ¬(0≤x.pattern∧x.pattern<many∧1≤x.times∧x.times≤1000)then 2 else if x.pattern≤last then 11 else zgm many l x.pattern
def zpo (h:House) (o:Bool):List Hold→List Int→List Int
 | [],L=>L
 | x::l,L=>zpo h o l (L.set x.pattern.toNat (x.times*zkj (h.pat x.pattern.toNat) o))
def zvm (h:House) (holds:List Hold) (o:Bool):List Int:=zpo h o holds (List.replicate h.patterns.length 0)
def allK (L:List Int):Nat→Nat
 | 0=>0
 | k+1=>if 0<L.getD k 0 then allK L k ||| 2 ^ k else allK L k
theorem zwt (L:List Int): ∀k,allK L k<2 ^ k
 | 0=>by simp[allK]
 | k+1=>by
  have h:=zwt L k
  have h2:2 ^ k<2 ^ (k+1):=Nat.pow_lt_pow_right (by omega) (by omega)
  rw[allK]
  split
  ·exact Nat.or_lt_two_pow (by omega) h2
  ·omega
def zoz (h:House) (L:List Int):Int×Nat:=zib (fun i k=>(clM h i).testBit k) (fun i=>L.getD i 0) (allK L h.patterns.length)
def natI (n:Nat):Int:=n
def zia (h:House) (holds:List Hold) (o:Bool):List Int×Int×Int :=
 if zdx h≠0 then([],0,zdx h)else if 40<(holds.length:Int)then([],0,8)else
 if zgm h.patterns.length holds (-1)≠0 then([],0,zgm h.patterns.length holds (-1))else
 ((zga (zoz h (zvm h holds o)).2).map natI,(zoz h (zvm h holds o)).1,0)
theorem ybd {many:Int} {l:List Hold} {i:Nat} (hi:i<l.length) (last:Int):zgm many (l.drop i) last=if ¬(0≤l[i].pattern∧l[i].pattern<many∧1≤l[i].times∧l[i].times≤1000)then 2 else if l[i].pattern≤last then 11 else zgm many (l.drop (i+1)) l[i].pattern:=by
 rw[List.drop_eq_getElem_cons hi,zgm]
theorem ybw {h:House} {o:Bool} {l:List Hold} {i:Nat} (hi:i<l.length) (L:List Int):zpo h o (l.drop i) L=zpo h o (l.drop (i+1)) (L.set l[i].pattern.toNat (l[i].times*zkj (h.pat l[i].pattern.toNat) o)):=by
 rw[List.drop_eq_getElem_cons hi,zpo]
end Go.XL
namespace Go.XL
open Go.Proofs
set_option maxRecDepth 100000
set_option maxHeartbeats 8000000
def tinyG :GSet:=⟨3,[3],0,1,0,4,1,2,[1]⟩
def strA (c:UInt8):ByteArray:=⟨#[c]⟩
def smallH :House where
 set:=tinyG
 forms:= [⟨1,[],false⟩]
 patterns:= [⟨strA 97,2,1,[],[],[]⟩,⟨strA 98,3,3,[],[0],[]⟩,⟨strA 99,2,0,[],[],[0]⟩]
 minor:= []
 least:=1
 scale:=⟨8,true,[⟨5,2000⟩,⟨6,3000⟩],100⟩
 pay:=⟨1,true,0,100,1000,0,0,0,1,0,false,[],[]⟩
 play:=⟨false,1,false,0,false,0,0,0,false,false,false,5,1,0,false,false⟩
def fourH :House:={smallH with set:=⟨4,[4],0,1,0,4,1,2,[1]⟩}
theorem ymn :PC Tryz.prog 62 [] tinyG.val:=by
 refine DC.of_run Tryz.func62 rfl Tryz.ntmps62 Tryz.results62 (by simp) (fun _ _=>?_);simp only[zag,zai,go_sem,Nat.zero_add,Nat.reduceAdd]
 refine DS.seq ?_
 repeat' (first|refine yJ ?_|fail)
 refine zbd yR yU yU (fun b0 h0=>?_)
 clear h0
 repeat' (first|with_reducible refine zak yU yU yX0 ?_|refine yJ ?_|(refine zbw yU yX0 yX0 ?_;simp only[go_sem,Nat.zero_add,Nat.reduceAdd])|(refine DS.store yR yX0 yX0 yX0 yX0 yU yQ ?_;simp only[yS1];try simp only[yS2,Nat.reduceEqDiff,↓reduceIte])|fail)
 refine zbh yX12 ?_
 rfl
theorem zql {d b:Nat} {o:Ob} {r:Sto} (h:zaf ((d,o)::r) b=none): ¬d=b∧zaf r b=none:=by
 simp only[zaf]at h
 by_cases e:d=b
 ·rw[if_pos e]at h;cases h
 ·rw[if_neg e]at h;exact⟨e,h⟩
theorem zxi :PC Tryz.prog 30 [] smallH.val:=by
 have ht:=ymn
 refine DC.of_run Tryz.func30 rfl Tryz.ntmps30 Tryz.results30 (by simp) (fun _ _=>?_);simp only[zag,zai,go_sem,Nat.zero_add,Nat.reduceAdd]
 repeat' (first|refine yJ ?_|fail)
 refine zbd yR yU yU (fun b0 h0=>?_)
 clear h0
 repeat' (first|with_reducible refine zak yU yU yX0 ?_|refine yJ ?_|(refine zbw yU yX0 yX0 ?_;simp only[go_sem,Nat.zero_add,Nat.reduceAdd])|refine zan inferInstance (ht) yR yX6 ?_|fail)
 refine zbd yR yU yU (fun b1 h1=>?_)
 obtain⟨n1,-⟩:=zql h1
 have n1':=fun e=>n1 (Eq.symm e)
 clear h1
 repeat' (first|with_reducible refine zak yU yU yX0 ?_|refine yJ ?_|(refine zbw yU yX0 yX0 ?_;simp only[go_sem,Nat.zero_add,Nat.reduceAdd])|(refine DS.store yR yX0 yX0 yX0 yX0 yU yQ ?_;simp only[yS1];try simp only[yS2,Nat.reduceEqDiff,↓reduceIte])|fail)
 refine zic (b:=b0) deep (fun _ _ _ h=>zhz h) (fun v=>zfa _ v) (by(simp (disch:=omega) only[go_sem,dopV,yV0,↓reduceIte,Nat.reduceEqDiff,Nat.reduceLT,Nat.reduceLeDiff,Nat.reduceAdd,Nat.reduceMul,Nat.reduceSub,Int.reduceToNat,Int.reduceLT,Int.reduceLE,Int.reduceEq,IntWalk.toNatUp,IntWalk.iteOmega,IntWalk.i64_in,V.flat,V.one,setS,setAll,n1,n1'];exact rfl)) ?_
 refine zbh (by(simp (disch:=omega) only[go_sem,dopV,yV0,↓reduceIte,Nat.reduceEqDiff,Nat.reduceLT,Nat.reduceLeDiff,Nat.reduceAdd,Nat.reduceMul,Nat.reduceSub,Int.reduceToNat,Int.reduceLT,Int.reduceLE,Int.reduceEq,IntWalk.toNatUp,IntWalk.iteOmega,IntWalk.i64_in,V.flat,V.one,setS,setAll,n1,n1'];exact rfl)) ?_
 rfl
theorem ynz :PC Tryz.prog 32 [] fourH.val:=by
 have hs:=zxi
 refine DC.of_run Tryz.func32 rfl Tryz.ntmps32 Tryz.results32 (by simp) (fun _ _=>?_);simp only[zag,zai,go_sem,Nat.zero_add,Nat.reduceAdd]
 repeat' (first|refine yJ ?_|fail)
 refine zbd yR yU yU (fun b0 h0=>?_)
 clear h0
 repeat' (first|refine yJ ?_|refine zan inferInstance (hs) yR yX6 ?_|fail)
 refine zbd yR yU yU (fun b1 h1=>?_)
 obtain⟨n1,-⟩:=zql h1
 have n1':=fun e=>n1 (Eq.symm e)
 clear h1
 repeat' (first|with_reducible refine zak yU yU yX0 ?_|refine yJ ?_|(refine zbw yU yX0 yX0 ?_;simp only[go_sem,Nat.zero_add,Nat.reduceAdd])|(refine DS.store yR yX0 yX0 yX0 yX0 yU yQ ?_;simp only[yS1];try simp only[yS2,Nat.reduceEqDiff,↓reduceIte])|fail)
 refine zbh (by(simp (disch:=omega) only[go_sem,dopV,yV0,↓reduceIte,Nat.reduceEqDiff,Nat.reduceLT,Nat.reduceLeDiff,Nat.reduceAdd,Nat.reduceMul,Nat.reduceSub,Int.reduceToNat,Int.reduceLT,Int.reduceLE,Int.reduceEq,IntWalk.toNatUp,IntWalk.iteOmega,IntWalk.i64_in,V.flat,V.one,setS,setAll,n1,n1'];exact rfl)) ?_
 rfl
theorem ydu (l:List Int) (hl:l.length≤1000):PC Tryz.prog 31 [ints l] (ydt (l.map fun n=>⟨n,1⟩)):=by
 have h:PC Tryz.prog 31 [ints l] (.own false 55 2 ((l.map fun n=>(⟨n,1⟩:Hold)).map Hold.cells)):=by
  refine DC.of_run Tryz.func31 rfl Tryz.ntmps31 Tryz.results31 (by simp) (fun _ _=>?_);simp only[zag,zai,go_sem,Nat.zero_add,Nat.reduceAdd]
  repeat' (first|(with_reducible first|(refine zbt (t:=2) yU yO yE ?_)|(refine zbt (t:=3) yU yO yE ?_))|refine yJ ?_|fail)
  refine zbu [0] yN (fun(i:Nat)=> [(3, .own false 55 2 (((l.take i).map fun n=>(⟨n,1⟩:Hold)).map Hold.cells)),(4,I i)]) (fun(i:Nat)=>i≤l.length) (fun(i:Nat)=>l.length-i) 0 yS (Nat.zero_le _) (fun i B hI hB=>?_);try dsimp only at hI hB;simp only[zad,zae]
  by_cases hi:i<l.length
  ·have hi':(i:Int)<(l.length:Int):=by omega
   repeat' (first|(with_reducible refine zch (t:=3) yU yO yE ?_;simp only[yS2,Nat.reduceEqDiff,↓reduceIte])|(with_reducible refine zch (t:=11) yU yO yE ?_;simp only[yS2,Nat.reduceEqDiff,↓reduceIte])|refine yJT ?_|(refine zbw yU yE yE ?_;simp only[go_sem,Nat.zero_add,Nat.reduceAdd])|(refine DS.append (mm:=false) yU yE yE yU (by decide) yE yO2 yE yX1 yLM yQ2 ?_;simp only[yS2,Nat.reduceEqDiff,↓reduceIte])|fail)
   have hts:=List.take_succ_eq_append_getElem hi
   exact DS.back (hB (i+1) _ _ (by omega) (by omega) yS yS (fun b o e=>by exact e))
  ·have hi': ¬(i:Int)<(l.length:Int):=by omega
   have ht:l.take i=l:=List.take_of_length_le (by omega)
   repeat' (first|(with_reducible refine zch (t:=2) yU yO yE ?_;simp only[yS2,Nat.reduceEqDiff,↓reduceIte])|(with_reducible refine zch (t:=19) yU yO yE ?_;simp only[yS2,Nat.reduceEqDiff,↓reduceIte])|refine yJT ?_|refine zao [] yE trivial ?_|fail)
   all_goals first|rfl|(exfalso;omega)
 exact h.peek
end Go.XL
namespace Go.XL
section
variable {P:Program} {n:Nat} {r:Rr} {Q:VEnv→Sto→Prop} {k:List Fr} {E0 E:VEnv} {S0 S1:Sto} {T1:Sto→Prop} {ops l:List Oper} {dst:Option Tmp} {op:Op} {ty:TypeId} {pos:String} {af:Array Edge}
theorem ymi (q:DX P n r Q ops S0 l k E0 E (fun S=>S=S1)):DD P n r Q ops S0 [] l k E0 E S1:=fun K0 K D W hv0 hs a SPs h1 h2 h3 h4 h5 h6 h7 h8 =>
 q K0 K D W hv0 hs a SPs h1 h2 h3 h4 h5 h6 h7 fun F h hF=>⟨S1,rfl,h8 F h hF⟩
theorem DX.nil (q: ∀S1,T1 S1→(∀b o,zaf S0 b=some o→zaf S1 b=none)→DS P n r Q k E (S1++S0)):DX P n r Q ops S0 [] k E0 E T1:=fun K0 K D W hv0 hs a SPs hbx hfl _ _ _ _ _ hR w' hS hw=>by
 obtain⟨S1,h0,_,_,hv,hold,env,ha,s,_,_,hg⟩:=hR noF w'.heap hS
 exact q S1 h0 (fun b o e=>(hg b o e).2.1) K0 W a w' ⟨K,D,hv,hold,env,hbx,ha,s⟩ hw
theorem DX.stepX {ι:Type} {o:Oper} {T:Sto→V→VEnv→Sto→Prop} (vf:ι→V) (inj: ∀hv hv' x x' y,(vf x).Rl hv y→(vf x').Rl hv' y→x=x') (hg:o.guard=none) (hc:zcq o=true) (hb:zea o.op=false) (hd:dok n o.dst=true) (ho: ∀S1,T1 S1→OpS r.v0 P n o E S1 (T S1)) {E':VEnv} (hT: ∀S1 v E2 S',T1 S1→T S1 v E2 S'→E2=E'∧ ∃x,v=vf x) (hdst: ∃td:Nat,o.dst=some td)
  (q: ∀x,DX P n r Q ops S0 l k (delO o.dst E0) (putV E' o.dst (vf x)) (fun S'=> ∃S1,T1 S1∧T S1 (vf x) E' S')):DX P n r Q ops S0 (o::l) k E0 E T1:=fun K0 K D W hv0 hs a SPs hbx hfl hE hp hS0 hz hl hR=>by
 show SW P ops.toArray _ W _ (o::l) SPs a
 unfold SW Front
 rw[if_pos (by simp[Region.wanted,hg]),if_pos hc]
 refine⟨fun _ y=>y,fun _ y=>fun F h1=> ∃S1 v E' S',(T1 S1∧T S1 v E' S')∧RunS P [] D n K hv0 hs S0 (putV E' o.dst v) S' (a.put o.dst y) F h1,?_,fun _ y ⟨w',hw',hT'⟩=>?_⟩
 ·unfold Spec
  rw[if_neg (by simp[hb])]
  have G:=fun v E' S' y=>RunS.good P [] D n K hv0 hs S0 (putV E' o.dst v) S' (a.put o.dst y)
  refine⟨rfl,_,rfl,fun y=>⟨fun F h ⟨S1,v,E',S',_,h2⟩=>(G v E' S' y).ext F h h2,fun F h ob ⟨S1,v,E',S',h1,h2⟩=>⟨S1,v,E',S',h1,(G v E' S' y).push F h ob h2⟩,fun F F' h hF ⟨S1,v,E',S',h1,h2⟩=>⟨S1,v,E',S',h1,(G v E' S' y).less F F' h hF h2⟩⟩,fun w F hF hw=>?_⟩
  obtain⟨S1,t1,t2⟩:=hR F w.heap hF
  refine(RunS.after hd (ho S1 t1) hfl t2).mono ?_
  rintro y w' ⟨g1,⟨u,E2,S2,g4,g2⟩,g3⟩
  exact⟨g1,⟨S1,u,E2,S2,⟨t1,g4⟩,g2⟩,g3⟩
 ·obtain⟨td,htd⟩:=hdst
  have rd: ∀{F h1 v S'},RunS P [] D n K hv0 hs S0 (putV E' o.dst v) S' (a.put o.dst y) F h1→ ∃hv,v.Rl hv y:=fun{F h1 v S'} t2=>by
   obtain⟨_,_,hv',hold,env',ha',s,_⟩:=t2
   obtain⟨y',e1,e2,_⟩:=s.slot td v (by rw[htd];simp[putV,zbr])
   have h1:=ha'.look td y' e1
   have hlt:td<n:=by rw[htd]at hd;simpa [dok] using hd
   rw[htd]at h1 ha'
   have hsz:=ha'.size
   simp only[Act.put]at h1 hsz
   rw[Array.getD_eq_getD_getElem?]at h1
   rw[Array.size_setIfInBounds]at hsz
   rw[Array.getElem?_setIfInBounds_self_of_lt (by omega)]at h1
   simp only[Option.getD_some]at h1
   exact⟨hv',by rw[h1];exact e2⟩
  have hT0:=hT'
  obtain⟨Sa,va,Ea,Sa',⟨u1,u2⟩,u3⟩:=hT0
  obtain⟨rfl,x,rfl⟩:=hT Sa va Ea Sa' u1 u2
  obtain⟨hva,ra⟩:=rd u3
  refine q x K0 K D W hv0 hs _ _ hbx hfl (zot hE hd y) hp hS0 hz ⟨w',hw',hT'⟩ fun F h1 ⟨S1,v,E2,S',⟨t0,t1⟩,t2⟩=>?_
  obtain⟨rfl,x',rfl⟩:=hT S1 v E2 S' t0 t1
  obtain⟨hvb,rb⟩:=rd t2
  obtain rfl:=inj _ _ _ _ _ rb ra
  exact⟨S',⟨S1,t0,t1⟩,t2⟩
theorem DX.bornO {o:Oper} {cl:List V} {T:TypeId} {vb:Nat→Value} (hg:o.guard=none) (hc:zcq o=true) (hb:zea o.op=true) (hd:dok n o.dst=true)
  (hr: ∃cs:List Value,(∀hv,RlL hv cl cs)∧Ones cs∧ ∀(a:Act) (w:World),a.tmps.size=n→(execOp a.eval o).run P w = .ok (.value (vb w.heap.size)) {w with heap:=w.heap.push (.cells cs.toArray T)}) (hfree: ∀v∈cl,v.free=true)
  (q: ∀u,zaf S0 u=none→DX P n r Q ops S0 l k (putV E0 o.dst (.v (vb u))) (putV E o.dst (.v (vb u))) (fun S'=> ∃S1,T1 S1∧zaf S1 u=none∧S'=(u, .cells cl T)::S1)):DX P n r Q ops S0 (o::l) k E0 E T1:=fun K0 K D W hv0 hs a SPs hbx hfl hE hp hS0 hz hl hR=>by
 obtain⟨w1,hw1,hSP⟩:=hl
 obtain⟨_,_,_,_,hv1,hold1,env1,ha1,s1,_⟩:=hR noF w1.heap hSP
 obtain⟨cs,c1,c2,c3⟩:=hr
 show SW P ops.toArray _ W _ (o::l) SPs a
 unfold SW Front
 rw[if_pos (by simp[Region.wanted,hg]),if_pos hc]
 refine⟨fun u _=>vb u,fun u _=>zex SPs u (.cells cs.toArray T),?_,fun u _ ⟨w',hw',hT⟩=>?_⟩
 ·unfold Spec
  rw[if_pos hb]
  exact⟨.cells cs.toArray T,vb,rfl,fun w=>c3 a w ha1.size,rfl,rfl⟩
 ·have key: ∀F h1,zex SPs u (.cells cs.toArray T) F h1→ ∃S1,T1 S1∧RunS P [] D n K hv0 hs S0 (putV E o.dst (.v (vb u))) ((u, .cells cl T)::S1) (a.put o.dst (vb u)) F h1∧zaf S1 u=none∧zaf S0 u=none:=by
   rintro F h1 ⟨t1,t2,t3⟩
   obtain⟨S1,t0,p1,p2,hv',hold,env',ha',s,p,f,g⟩:=hR _ h1 t1
   have hu:=p1 u (.inr rfl)
   have fu:=f u (.inr rfl)
   have hB: ¬K.B u:=fun hb=>by
    have:=s.base.1 u hb
    omega
   have nS:zaf S1 u=none∧zaf S0 u=none:=by
    have:=fu.2
    rw[zbp]at this
    cases e:zaf S1 u with
    | some o=>rw[e]at this;cases this
    | none=>rw[e]at this;exact⟨rfl,this⟩
   refine⟨S1,t0,⟨fun b hb=>p1 b (.inl hb),⟨p2.1,MpOk.nil⟩,hv',hold,_,ha'.put' hd (vb u),(s.adoptO t3 hB fu.1 (c1 hv') c2 hfree).put o.dst V.Rl_v fun _ _=>trivial,p,fun b hb=>⟨(f b (.inl hb)).1,?_⟩,fun b ob e=>?_⟩,nS⟩
   ·show zaf ((u,_)::(S1++S0)) b=none
    simp only[zaf]
    rw[if_neg (fun(e:u=b)=>t2 (by subst e;exact hb))];exact(f b (.inl hb)).2
   ·obtain⟨g1,g2,g3⟩:=g b ob e
    refine⟨g1,?_,g3⟩
    simp only[zaf]
    rw[if_neg (fun e=>by subst e;omega)];exact g2
  obtain⟨_,_,_,_,n2⟩:=key noF w'.heap hT
  exact q u n2 K0 K D W hv0 hs _ _ hbx hfl (zmt hE hd V.Rl_v) hp hS0 hz ⟨w',hw',hT⟩ fun F h1 hF=>let ⟨S1,a1,a2,a3,_⟩:=key F h1 hF;⟨_,⟨S1,a1,a3,rfl⟩,a2⟩
theorem DX.alloc {T:TypeId} {z:Value} (hd:dok n dst=true) (hz:zcr P T=some z) (ho:zhx z.cells.toList=true) (q: ∀u,zaf S0 u=none→DX P n r Q ops S0 l k (putV E0 dst (.v (.pointer (some ⟨u,0,none⟩)))) (putV E dst (.v (.pointer (some ⟨u,0,none⟩)))) (fun S'=> ∃S1,T1 S1∧zaf S1 u=none∧S'=(u, .cells (z.cells.toList.map V.v) T)::S1)) :
  DX P n r Q ops S0 (⟨dst, .alloc T,ty,pos,af,none⟩::l) k E0 E T1:=by
 refine DX.bornO (vb:=fun u => .pointer (some ⟨u,0,none⟩)) rfl rfl rfl hd ⟨z.cells.toList,fun hv=>zhc _,zgj ho,fun a w hsz=>?_⟩ (zey _) q
 have ha:Agree a.defers n [] a:=⟨hsz,rfl,fun t v e=>by cases e⟩
 refine zln (P:=P) (y:=fun u => .pointer (some ⟨u,0,none⟩)) ha (fun i=>by simp[undef]) (fun h1'=>?_) w
 simp only[hop,hz]
end
end Go.XL
namespace Go.XL
open Go.Proofs
set_option maxRecDepth 100000
set_option maxHeartbeats 4000000
def DCf (v1:VH) (P:Program) (f:FuncId) (args:List V) (S:Sto) (R:V→Sto→Prop):Prop:= ∀v0,PreV v1 v0→DCh v0 P f args S R
theorem DCf.of_run {v1:VH} {P:Program} {f:FuncId} {fn:Func} {c:Code} {args:List V} {S:Sto} {R:V→Sto→Prop} (hf:P.funcs[f]?=some fn) (hb:fn.body=some c) {m:Nat} (hm:fn.ntmps=m) {rs:List ResultVar} (hrs:fn.results=rs.toArray) (hn:args.length≤m)
  (q: ∀(v0:VH) (hk0:Kn v0),PreV v1 v0→DS P m ⟨none,v0,hk0⟩ (FinV P rs R) [.code c] (argV 0 args) S):DCf v1 P f args S R:=fun v0 hp K hv hold h xs hfl ha st=>(DCh.of_run (K.kn.mono st.vbase.1) hf hb hm hrs hn (q hv _ (hp.trans hfl))) K hv hold h xs (PreV.refl hv) ha st
theorem St.freezeV {K:Bs} {hv:VH} {hold:Nat→Option Hd} {E:VEnv} {S:Sto} {env:Env} {h:Heap} (s:St K hv hold E S env h) {b:Nat} {cs0:List Value} {T:TypeId} (hS:zaf S b=some (.cells (cs0.map V.v) T)) :
  ∃hv',PreV hv hv'∧St K hv' hold E (delS b S) env h∧hv' b=some (.cells cs0.toArray T (0,0)):=by
 obtain⟨o1,o2,cs,o3,o4,o5,o6⟩:=s.obj b _ hS
 have hcs:cs=cs0:=by
  have key: ∀(l:List Value) (ys:List Value),RlL hv (l.map V.v) ys→ys=l:=by
   intro l
   induction l with
   | nil=>intro ys h;simpa [RlL] using h
   | cons a l ih =>
    intro ys h
    simp only[List.map_cons,RlL,V.Rl]at h
    obtain⟨z,zs,rfl,rfl,h3⟩:=h
    rw[ih _ h3]
  exact key _ _ o4
 subst hcs
 have hpre:PreV hv (addB hv b (.cells cs.toArray T (0,0))):=zgs (.inl o2)
 refine⟨_,hpre,⟨zhl s.pre o3 (leO.refl _),fun t v e=>?_,fun b' o e=>?_,s.held,s.base,s.vbase.1.trans hpre,fun j hj=>?_⟩,zee ..⟩
 ·obtain⟨y,h1,h2,h3⟩:=s.slot t v e
  refine⟨y,h1,V.Rl_mono hpre v y h2,h3.keep fun g ob a1 a2 a3=>⟨rfl,zcm _ fun e=>?_,a1⟩⟩
  subst e;rw[o2]at a2;cases a2
 ·rw[zbz]at e
  split at e
  ·cases e
  ·rename_i hb
   obtain⟨r1,r2,r3⟩:=s.obj b' o e
   exact⟨r1,by rw[zcm _ hb];exact r2,Ob.keep r3 hpre rfl fun g i ob a1 a2 a3=>⟨rfl,zcm _ (fun e=>by subst e;rw[o2]at a2;cases a2),a1⟩⟩
 ·have hne:j≠b:=fun e=>by subst e;exact o1 hj
  rw[zcm _ hne];exact s.vbase.2 j hj
def VHs :List (Nat×List Value×TypeId)→VH
 | [],_=>none
 | (b,cs,T)::r,j=>if j=b then some (.cells cs.toArray T (0,0))else VHs r j
def yfd :List (Nat×List Value×TypeId)→Sto→Sto
 | [],S=>S
 | (b,_,_)::r,S=>yfd r (delS b S)
theorem St.freezeVs {K:Bs} {hold:Nat→Option Hd} {E:VEnv} {env:Env} {h:Heap}: ∀(F:List (Nat×List Value×TypeId)) {hv:VH} {S:Sto},St K hv hold E S env h→F.Pairwise (fun a b=>a.1≠b.1)→(∀x∈F,zaf S x.1=some (.cells (x.2.1.map V.v) x.2.2)) →
  ∃hv',PreV hv hv'∧St K hv' hold E (yfd F S) env h∧PreV (VHs F) hv'
 | [],hv,S,s,_,_=>⟨hv,PreV.refl hv,s,fun _ _ e=>by cases e⟩
 | (b,cs,T)::r,hv,S,s,hp,hF=>by
  rw[List.pairwise_cons]at hp
  obtain⟨hv1,p1,s1,e1⟩:=s.freezeV (hF _ (List.mem_cons_self ..))
  obtain⟨hv2,p2,s2,e2⟩:=St.freezeVs r s1 hp.2 (fun x hx=>by
   rw[zbz,if_neg (fun e=>hp.1 x hx e.symm)];exact hF x (List.mem_cons_of_mem _ hx))
  refine⟨hv2,p1.trans p2,s2,fun j o ej=>?_⟩
  simp only[VHs]at ej
  split at ej
  ·rename_i hj;subst hj;cases ej
   exact p2 _ _ e1
  ·exact e2 j o ej
section
variable {v0:VH} {P:Program} {n:Nat} {r:Rr} {Q:VEnv→Sto→Prop} {k:List Fr} {E E0:VEnv} {S S0:Sto} {T1:Sto→Prop} {dst:Option Tmp} {ty:TypeId} {pos:String} {af:Array Edge} {ts:Array TypeId} {ops l:List Oper}
theorem zvf {cx:Operand} {g:FuncId} {cs:List Value} {args:List V} {xs:Array Operand} {fn:Func} {S1 S2:Sto} {R:V→Sto→Prop} (hf:FnOk P g fn) (hcx:evV E cx=some (.v (.func (.func g) #[] cs.toArray))) (he:evsV (evV E) xs.toList=some args)
  (hc:DCh v0 P g (args++cs.map V.v) S1 R) (h1: ∀b o,zaf S1 b=some o→zaf S b=some o) (h2: ∀b o,zaf S2 b=some o→zaf S b=some o∧zaf S1 b=none) :
  OpS v0 P n ⟨dst, .call {callee := .value cx,args:=xs,argTypes:=ts},ty,pos,af,none⟩ E S (fun v E' S'=>E'=E∧ ∃S0,S'=S0++S2∧R v S0∧ ∀b o,zaf S0 b=some o→zaf S2 b=none):=by
 intro K D hv hold env a w hfl ha s
 obtain⟨y,e1,e2⟩:=s.rl _ _ hcx
 simp only[V.Rl]at e2;subst e2
 obtain⟨ax,e5,e6⟩:=zft s.rl he
 obtain⟨K',hcl,s1,back⟩:=s.call h1 h2
 refine zge (fs:= []) (cs:=cs) ha hf e1 e5 ?_
 refine(hc K' hv hcl w.heap _ hfl (by simpa using e6.app (zhc cs)) s1 w rfl).mono fun e w' ⟨v,ev,hs,u,S',hv',hold',p1,p2,p3⟩=>?_
 obtain⟨hold2,q1,q2⟩:=back (d:=dst) p1 p2
 exact⟨v,ev,hs,u,E,_,hv',hold2,p1,q1,rfl,S',rfl,p3,q2⟩
theorem ylm {t:Nat} {cx:Operand} {g:FuncId} {cs:List Value} {args:List V} {xs:Array Operand} {fn:Func} {R:V→Sto→Prop} (hf:FnOk P g fn) (hcx:evV E cx=some (.v (.func (.func g) #[] cs.toArray))) (he:evsV (evV E) xs.toList=some args) (S1 S2:Sto)
  (hc:DCh r.v0 P g (args++cs.map V.v) S1 R) (h1: ∀b o,zaf S1 b=some o→zaf S b=some o) (h2: ∀b o,zaf S2 b=some o→zaf S b=some o∧zaf S1 b=none) (hd:decide (t<n)=true)
  (q: ∀u S',R u S'→(∀b o,zaf S' b=some o→zaf S2 b=none)→DS P n r Q (.ops ops l::k) ((t,u)::E) (S'++S2)):DS P n r Q (.ops ops (⟨some t, .call {callee := .value cx,args:=xs,argTypes:=ts},ty,pos,af,none⟩::l)::k) E S:=by
 refine zcf rfl rfl hd (zvf hf hcx he hc h1 h2) fun v E' S' ⟨eE,S0,eS,hR,hdis⟩=>?_
 subst eE;subst eS
 simpa [putV] using q v S0 hR hdis
theorem ygl {cx:Operand} {g:FuncId} {cs:List Value} {args:List V} {xs:Array Operand} {fn:Func} {S1:Sto} {R:V→Sto→Prop} (F:List (Nat×List Value×TypeId)) (hF:F.Pairwise (fun a b=>a.1≠b.1)) (hFS: ∀x∈F,zaf S x.1=some (.cells (x.2.1.map V.v) x.2.2))
  (hf:FnOk P g fn) (hcx:evV E cx=some (.v (.func (.func g) #[] cs.toArray))) (he:evsV (evV E) xs.toList=some args)
  (hc:DCf (VHs F) P g (args++cs.map V.v) S1 R) (h1: ∀b o,zaf S1 b=some o→zaf (yfd F S) b=some o) :
  OpS v0 P n ⟨dst, .call {callee := .value cx,args:=xs,argTypes:=ts},ty,pos,af,none⟩ E S (fun v E' S'=>E'=E∧R v S'):=by
 intro K D hv0 hold env a w hfl ha s0
 obtain⟨hv,hp0,s,hp1⟩:=s0.freezeVs F hF hFS
 obtain⟨y,e1,e2⟩:=s.rl _ _ hcx
 simp only[V.Rl]at e2;subst e2
 obtain⟨ax,e5,e6⟩:=zft s.rl he
 obtain⟨K',hcl,s1,back⟩:=s.call (S2:= []) h1 (fun _ _ e=>by cases e)
 refine zge (fs:= []) (cs:=cs) ha hf e1 e5 ?_
 refine(hc hv hp1 K' hv hcl w.heap _ (PreV.refl hv) (by simpa using e6.app (zhc cs)) s1 w rfl).mono fun e w' ⟨v,ev,hs,u,S',hv',hold',p1,p2,p3⟩=>?_
 obtain⟨hold2,q1,q2⟩:=back (d:=dst) p1 p2
 exact⟨v,ev,hs,u,E,_,hv',hold2,hp0.trans p1,q1,rfl,by rw[List.append_nil];exact p3⟩
theorem ylo {t:Nat} {cx:Operand} {g:FuncId} {cs:List Value} {args:List V} {xs:Array Operand} {fn:Func} {S1:Sto} {R:V→Sto→Prop} (F:List (Nat×List Value×TypeId)) (hF:F.Pairwise (fun a b=>a.1≠b.1)) (hFS: ∀x∈F,zaf S x.1=some (.cells (x.2.1.map V.v) x.2.2))
  (hf:FnOk P g fn) (hcx:evV E cx=some (.v (.func (.func g) #[] cs.toArray))) (he:evsV (evV E) xs.toList=some args)
  (hc:DCf (VHs F) P g (args++cs.map V.v) S1 R) (h1: ∀b o,zaf S1 b=some o→zaf (yfd F S) b=some o) (hd:decide (t<n)=true)
  (q: ∀u S',R u S'→DS P n r Q (.ops ops l::k) ((t,u)::E) S'):DS P n r Q (.ops ops (⟨some t, .call {callee := .value cx,args:=xs,argTypes:=ts},ty,pos,af,none⟩::l)::k) E S:=by
 refine zcf rfl rfl hd (ygl F hF hFS hf hcx he hc h1) fun v E' S' ⟨eE,hR⟩=>?_
 subst eE
 exact q v S' hR
theorem DX.callR {t:Nat} {cx:Operand} {g:FuncId} {cs:List Value} {args:List V} {xs:Array Operand} {fn:Func} {R:V→Sto→Prop} {u0:V} (hf:FnOk P g fn) (hcx:evV E cx=some (.v (.func (.func g) #[] cs.toArray))) (he:evsV (evV E) xs.toList=some args)
  (hc: ∀S1,T1 S1→DCh r.v0 P g (args++cs.map V.v) S1 R) (hR: ∀v S',R v S'→v=u0) (hd:decide (t<n)=true)
  (q:DX P n r Q ops S0 l k (delV t E0) ((t,u0)::E) (fun S'=>R u0 S')):DX P n r Q ops S0 (⟨some t, .call {callee := .value cx,args:=xs,argTypes:=ts},ty,pos,af,none⟩::l) k E0 E T1:=by
 refine DX.stepX (ι:=Unit) (fun _=>u0) (fun _ _ _ _ _ _ _=>rfl) (T:=fun S1 u E' S'=>E'=E∧R u S') rfl rfl rfl hd (fun S1 h=>?_) (E':=E) (fun S1 v E2 S' _ h=>⟨h.1,(),hR v S' h.2⟩) ⟨t,rfl⟩ fun _=>?_
 ·refine OpS.mono (zvf hf hcx he (S1:=S1) (S2:= []) (hc S1 h) (fun _ _ e=>e) (fun _ _ e=>by cases e)) ?_
  rintro u E' S' ⟨rfl,S2,rfl,h1,-⟩
  exact⟨rfl,by rw[List.append_nil];exact h1⟩
 ·intro K0 K D W hv0 hs a SPs h1 h2 h3 h4 h5 h6 h7 h8
  exact q K0 K D W hv0 hs a SPs h1 h2 h3 h4 h5 h6 h7 fun F h hF=>let ⟨S',⟨S1,a1,a2,a3⟩,a6⟩:=h8 F h hF;⟨S',a3,a6⟩
theorem zvg {T m t:Nat} {a0:Addr} {x:Value} {p:Operand} (hd:decide (t<n)=true) (ht:tsz P T=some (false,m)) (hp:evV E p=some (.v (.pointer (some a0)))) (hx:zfu r.v0 a0=some x)
  (q:DS P n r Q (.ops ops l::k) ((t, .v x)::E) S):DS P n r Q (.ops ops (⟨some t, .load T p,ty,pos,af,none⟩::l)::k) E S:=fun K W a w ⟨K',D,hvv,hold,env,hb,ha,s⟩ hw=>by
 have hc:cell w.heap a0=some x:=s.pre.cell ((hb.floor s).cell hx)
 obtain⟨y,e1,e2⟩:=s.rl _ _ hp
 simp only[V.Rl]at e2;subst e2
 have hr:(execOp a.eval ⟨some t, .load T p,ty,pos,af,none⟩).run P w = .ok (.value x) w:=by
  refine zhb ha ?_
  simp only[dop,e1,ldT,ht]
  exact hc
 refine zkw (zhs rfl a) ⟨fun _ _=>trivial,?_⟩
 rw[Oper.semAt_eq _ _ _ (zgk yR),hr]
 exact q K W _ w ⟨K',D,hvv,hold,XL.put env (some t) x,hb,ha.put' (d:=some t) hd _,s.put (some t) V.Rl_v fun _ _=>V.free_Own rfl _⟩ hw
theorem DX.ldF {T m t:Nat} {a0:Addr} {x:Value} {p:Operand} (hd:decide (t<n)=true) (ht:tsz P T=some (false,m)) (hp:evV E0 p=some (.v (.pointer (some a0)))) (hx:zfu r.v0 a0=some x)
  (q:DX P n r Q ops S0 l k ((t, .v x)::E0) ((t, .v x)::E) T1):DX P n r Q ops S0 (⟨some t, .load T p,ty,pos,af,none⟩::l) k E0 E T1:=fun K0 K D W hv0 hs a SPs hbx hfl hE hpre hS0 hz hl hR=>by
 obtain⟨env,ha,hE'⟩:=hE
 have rl:RlO hv0 (evV E0) (ev env):=by
  intro x u e
  cases x with
  | tmp t=>exact hE' t u e
  | const c=>simp only[evV,Option.some.injEq]at e;subst e;exact⟨c,rfl,V.Rl_v⟩
  | global g=>simp only[evV,Option.some.injEq]at e;subst e;exact⟨_,rfl,yip (r.kn.mono hfl) g⟩
  | func g=>simp only[evV,Option.some.injEq]at e;subst e;exact⟨_,rfl,by simp only[V.Rl];exact⟨[],[],rfl,by simp[RlL],by simp[RlL]⟩⟩
 obtain⟨y,e1,e2⟩:=rl _ _ hp
 simp only[V.Rl]at e2;subst e2
 have hc:=hfl.cell hx
 show SW P ops.toArray _ W _ (_::l) SPs a
 unfold SW Front
 rw[if_pos (by simp[Region.wanted]),if_neg (by simp[zcq,zjj,ztv])]
 refine⟨x, .inl fun w' hw'=>zhb ha ?_,?_⟩
 ·simp only[dop,e1,ldT,ht]
  exact hw'.1.cell hc
 refine q K0 K D W hv0 hs _ SPs hbx hfl (zmt (dst:=some t) ⟨env,ha,hE'⟩ hd V.Rl_v) hpre hS0 hz hl fun F h1 hF=>?_
 obtain⟨S1,t1,p1,p2,hv',hold,env',ha',s,p,f,g⟩:=hR F h1 hF
 exact⟨S1,t1,p1,p2,hv',hold,_,ha'.put' (d:=some t) hd x,s.put (some t) V.Rl_v fun _ _=>V.free_Own rfl x,p,f,g⟩
end
end Go.XL
namespace Go.XL
open Go.Proofs
open Go.Maps (Keyed)
set_option maxRecDepth 100000
set_option maxHeartbeats 8000000
def yfx (x:Int×Nat):Value := .agg #[.int .i64 x.1, .int .u64 (x.2:Nat)]
abbrev zws (x:Int×Nat):V := .agg [I x.1,UN x.2]
theorem zzq (hv:VH) (x:Int×Nat):(zws x).Rl hv (yfx x):=by
 simp only[V.Rl,RlL,yfx]
 exact⟨_,rfl,_,_,rfl,rfl,_,_,rfl,rfl,rfl⟩
theorem yks (x:Int×Nat):(zws x).Is (yfx x):=V.Is.two _ _
structure Memo (S:Sto) (bm:Nat) (best:Nat→Int×Nat):Prop where
 out: ∃f es clock,zaf S bm=some (.raw (.map es clock))∧MapIs Tryz.prog 82 f es clock∧ ∀k:Nat,k<18446744073709551616→ ∀v,f (.int .u64 (k:Nat))=some v→v=yfx (best k)
abbrev ptrV (b:Nat):Value := .pointer (some ⟨b,0,none⟩)
def zuv (b15 b16 b14 b11:Nat):List Value:= [ptrV b15,ptrV b16,ptrV b14,ptrV b11]
structure Fl (v1:VH) (b15 b16 b14 b11 bm bc bv n:Nat) (cl:Nat→Nat) (vs:Nat→Int):Prop where
 k15:zfu v1 ⟨b15,0,none⟩=some (.map (some bm))
 k16:zfu v1 ⟨b16,0,none⟩=some (.func (.func 28) #[] (zuv b15 b16 b14 b11).toArray)
 k14:zfu v1 ⟨b14,0,none⟩=some (.slice (some ⟨bc,0,none⟩) n n)
 kc: ∀i,i<n→zfu v1 ⟨bc,i,none⟩=some (.int .u64 (cl i:Nat))
 k11:zfu v1 ⟨b11,0,none⟩=some (.slice (some ⟨bv,0,none⟩) n n)
 kv: ∀i,i<n→zfu v1 ⟨bv,i,none⟩=some (.int .i64 (vs i))
theorem Fl.mono {v1 v2:VH} {b15 b16 b14 b11 bm bc bv n:Nat} {cl:Nat→Nat} {vs:Nat→Int} (h:Fl v1 b15 b16 b14 b11 bm bc bv n cl vs) (p:PreV v1 v2):Fl v2 b15 b16 b14 b11 bm bc bv n cl vs :=
 ⟨p.cell h.k15,p.cell h.k16,p.cell h.k14,fun i hi=>p.cell (h.kc i hi),p.cell h.k11,fun i hi=>p.cell (h.kv i hi)⟩
theorem keyU (m:Nat) (hm:m<18446744073709551616):zpl Tryz.prog 82 (.int .u64 (m:Nat)):=by
 have hw:(Lit.int .u64 (m:Int)).wf=true:=by
  have h1:decide (IntKind.u64.min≤(m:Int))=true:=decide_eq_true (show(0:Int)≤m by omega)
  have h2:decide ((m:Int)≤IntKind.u64.max)=true:=decide_eq_true (show(m:Int)≤18446744073709551615 by omega)
  simp only[Lit.wf,h1,h2,Bool.and_self]
 refine⟨.int .u64 (m:Int),?_⟩
 unfold keyOf
 rw[Tryz.underlying82]
 simp[mapKey,Tryz.underlying82,hw]
theorem Memo.of {S S':Sto} {bm:Nat} {best:Nat→Int×Nat} (h:Memo S bm best) (e:zaf S' bm=zaf S bm):Memo S' bm best:=by
 obtain⟨f,es,clock,h1,h2⟩:=h.out
 exact⟨f,es,clock,e.trans h1,h2⟩
theorem ynn {bt b6:Nat} {A B:Ob} {Sx:Sto} (h4:zaf Sx b6=none) (b:Nat) (o:Ob) (e:zaf ([(bt,A),(b6,B)]++Sx) b=some o):zaf ((bt,A)::Sx++ [(b6,B)]) b=some o:=by
 simp only[List.cons_append,List.nil_append,zaf]at e ⊢
 by_cases h:bt=b
 ·rw[if_pos h]at e ⊢;exact e
 ·rw[if_neg h]at e ⊢
  rw[zbp]
  by_cases h2:b6=b
  ·subst h2
   rw[if_pos rfl]at e
   rw[h4];simpa [zaf] using e
  ·rw[if_neg h2]at e
   rw[e]
theorem yib {bt b6:Nat} {A B:Ob} {Sx:Sto} (hd: ∀b o,zaf Sx b=some o→zaf [(bt,A),(b6,B)] b=none) (b:Nat) (o:Ob) (e:zaf ([(bt,A),(b6,B)]++Sx) b=some o):zaf (Sx++ [(bt,A),(b6,B)]) b=some o:=by
 rw[zbp]at e ⊢
 cases h:zaf Sx b with
 | none=>rw[h]at e;cases h2:zaf [(bt,A),(b6,B)] b with
  | none=>rw[h2]at e;cases e
  | some x=>rw[h2]at e;exact e
 | some x =>
  rw[hd b x h,h]at e
  exact e
theorem yX28 {p:Prop} (h:p:=by(simp (disch:=omega) only[go_sem,dopV,yV0,↓reduceIte,Nat.reduceEqDiff,Nat.reduceLT,Nat.reduceLeDiff,Nat.reduceAdd,Nat.reduceMul,Nat.reduceSub,Int.reduceToNat,Int.reduceLT,Int.reduceLE,Int.reduceEq,IntWalk.toNatUp,IntWalk.iteOmega,IntWalk.i64_in,V.flat,V.one,setS];exact rfl)):p:=h
theorem ydv {v1:VH} {b15 b16 b14 b11 bm bc bv n:Nat} {cl:Nat→Nat} {vs:Nat→Int} (fl:Fl v1 b15 b16 b14 b11 bm bc bv n cl vs) (hn:n≤40) (hcl: ∀i,cl i<18446744073709551616) (hvs: ∀i,0≤vs i∧vs i≤1000000) :
  ∀(N m:Nat),m<N→m<2 ^ n→ ∀S,Memo S bm (zib (fun i k=>(cl i).testBit k) vs) →
   DCf v1 Tryz.prog 28 ([UN m]++(zuv b15 b16 b14 b11).map V.v) S (fun u S'=>u=zws (zib (fun i k=>(cl i).testBit k) vs m)∧Memo S' bm (zib (fun i k=>(cl i).testBit k) vs))
 | 0,m,h,_,_,_=>by omega
 | N+1,m,hmN,hmn,S,HM=>by
  refine DCf.of_run Tryz.func28 rfl Tryz.ntmps28 Tryz.results28 (by simp[zuv]) (fun v0 hk hp=>?_)
  simp only[zuv,List.map_cons,List.map_nil,List.cons_append,List.nil_append,zag,zai,go_sem,Nat.zero_add,Nat.reduceAdd]
  have f0:=fl.mono hp
  refine DS.seq ?_
  repeat' (first|refine yJ ?_|fail)
  refine zbd yR yU yU (fun b6 hb6=>?_)
  have hz:(List.map V.v (Value.agg #[Value.int IntKind.i64 0,Value.int IntKind.u64 0]).cells.toList)= [I 0,UN 0]:=rfl
  rw[hz]
  clear hz
  obtain⟨f,es,clock,q1,q2,q3⟩:=HM.out
  have hne: ¬b6=bm:=fun e=>by rw[e,q1]at hb6;cases hb6
  by_cases h0:m=0
  ·subst h0
   rw[ybn]
   repeat' (first|refine yJT ?_|(refine DS.store yR yE yE yE yE yU yQ ?_;simp only[yS1];try simp only[yS2,Nat.reduceEqDiff,↓reduceIte])|fail)
   all_goals first|(exfalso;omega)|skip
   refine zbh yX28 ⟨rfl,HM.of ?_⟩
   simp only[setS,↓reduceIte,zaa,if_neg hne]
  have h0': ¬(m:Int)=0:=by omega
  have hm64:m<18446744073709551616:=Nat.lt_of_lt_of_le hmn (show 2 ^ n≤2 ^ 64 from Nat.pow_le_pow_right (by omega) (by omega))
  have hl6:zaf ((b6,Ob.cells [I 0,UN 0] 84)::S) bm=some (.raw (.map es clock)):=by simp only[zaa,if_neg hne];exact q1
  repeat' (first|refine yJT ?_|fail)
  refine zvg (m:=1) (by decide) yKR yH f0.k15 ?_
  repeat' (first|refine yJ ?_|fail)
  cases hf:f (.int .u64 (m:Nat))with
  | some v =>
   have hv:=q3 m hm64 v hf
   subst hv
   refine zzt (u:=zws (zib (fun i k=>(cl i).testBit k) vs m)) (Go.Maps.int_keyed Tryz.underlying82) yU yU q2 (keyU m hm64) yH yH hl6 (fun hv=>by rw[hf];exact zzq hv _) (by rw[hf];rfl) yR ?_
   simp only[zbk,hf,Option.isSome_some]
   generalize zib (fun i k=>(cl i).testBit k) vs m=x at *
   repeat' (first|refine yJT ?_|(refine zbq (t:=7) yU yE yU (fun _=>yE) yE yU yV1 (fun _=>yN1) ?_;simp only[go_sem])|(refine DS.store yR yE yE yE yE yU yQ ?_;simp only[yS1];try simp only[yS2,Nat.reduceEqDiff,↓reduceIte])|fail)
   refine zbh yX12 ⟨rfl,HM.of ?_⟩
   simp only[setS,↓reduceIte,zaa,if_neg hne]
  | none =>
   refine zzt (u:=zws (0,0)) (Go.Maps.int_keyed Tryz.underlying82) yU yU q2 (keyU m hm64) yH yH hl6 (fun hv=>by rw[hf];exact zzq hv (0,0)) (by rw[hf];rfl) yR ?_
   simp only[zbk,hf,Option.isSome_none]
   obtain⟨i,hi⟩: ∃i,i=Lib.ctz 64 m:=⟨_,rfl⟩
   obtain⟨rm,hrm⟩: ∃rm,rm=andN m (2 ^ i):=⟨_,rfl⟩
   have hcz:=ymd m hm64
   have hst:=ybo cl vs h0 (by simpa using hm64) i hi rm hrm
   have hi64:i<64:=by rw[hi];exact yme h0 (by simpa using hm64)
   rw[←hi]at hcz
   have hbit:=(zum h0 (by simpa using hm64)).1
   rw[←hi]at hbit
   have hin:i<n:=by
    refine Decidable.byContradiction fun h=>?_
    rw[Nat.testBit_lt_two_pow (Nat.lt_of_lt_of_le hmn (Nat.pow_le_pow_right (by omega) (by omega)))]at hbit
    cases hbit
   have p1:2 ^ i<18446744073709551616:=show _<2 ^ 64 from Nat.pow_lt_pow_right (by omega) hi64
   have hrlt:rm<m:=by
    have h1:rm≤m:=by rw[hrm];exact Nat.and_le_left
    rcases Nat.lt_or_ge rm m with h|h
    ·exact h
    ·have he:rm=m:=by omega
     have h2:=zlv (2 ^ i) (show m<2 ^ 64 by simpa using hm64) i
     rw[←hrm,he,hbit,Nat.testBit_two_pow]at h2
     simp at h2
   have hr64:rm<18446744073709551616:=by omega
   obtain⟨r2,hr2⟩: ∃r2,r2=andN rm (cl i):=⟨_,rfl⟩
   have hr2lt:r2≤rm:=by rw[hr2];exact Nat.and_le_left
   have s1:bop Tryz.prog .shl 82 (.int .u64 1) (.int .i64 (i:Int))=some (.int .u64 ((2 ^ i:Nat):Int)):=znn hi64
   have s2:bop Tryz.prog .andNot 82 (.int .u64 (m:Int)) (.int .u64 ((2 ^ i:Nat):Int))=some (.int .u64 ((rm:Nat):Int)):=by rw[hrm];exact zoy hm64 p1
   have s3:bop Tryz.prog .andNot 82 (.int .u64 (rm:Int)) (.int .u64 ((cl i:Nat):Int))=some (.int .u64 ((r2:Nat):Int)):=by rw[hr2];exact zoy hr64 (hcl i)
   have s4:bop Tryz.prog .and 82 (.int .u64 (rm:Int)) (.int .u64 ((cl i:Nat):Int))=some (.int .u64 ((rm &&& cl i:Nat):Int)):=zzp hr64 (hcl i)
   rw[←hr2]at hst
   have ih2:=fun S' hS'=>ydv fl hn hcl hvs N r2 (by omega) (by omega) S' hS' v0 hp
   have ih1:=fun S' hS'=>ydv fl hn hcl hvs N rm (by omega) (by omega) S' hS' v0 hp
   have hb2: ∀x,(zib (fun i k=>(cl i).testBit k) vs x).2<18446744073709551616∧0≤(zib (fun i k=>(cl i).testBit k) vs x).1∧(zib (fun i k=>(cl i).testBit k) vs x).1≤64*1000000:=fun x=>by
    have hbl:(zga x).length≤64:=by
     have:=List.length_filter_le (fun i=>x.testBit i) (List.range 64)
     simpa [zga] using this
    have h1:=zsk (fun i k=>(cl i).testBit k) vs (B:=1000000) (by omega) hvs 64 (zga x) hbl
    refine⟨zrv _ fun j hj=>(zwr x j ((zlu _ _ _ _ (Nat.le_refl _)).subset hj)).1,h1.1,by rw[zib];simpa using h1.2⟩
   generalize hbest:zib (fun i k=>(cl i).testBit k) vs=best at *
   have HS:=Box.mk (And.intro hst (And.intro ih1 (And.intro ih2 (And.intro hb2 (And.intro q2 q3)))))
   clear hst ih1 ih2 hb2 q3 hrm hi hr2 hbit hf
   repeat' (first|refine yJT ?_|(refine zbq (t:=7) yU yE yU (fun _=>yE) yE yU yV1 (fun _=>yN1) ?_;simp only[go_sem])|refine zan inferInstance (hcz) yR yT ?_|fail)
   refine zbx (id:=8) ([(b6,Ob.cells [I 0,UN 0] 84)]) (S) [0,1,2,3,4,5,6,7,8] 9 yKR mixed yP1 yP2 ((fun b o e=>by
    simp only[zaa,zah]at e ⊢
    split at e
    ·rename_i h;subst h;exact⟨by rw[if_pos rfl];exact e,hb6⟩
    ·cases e)) ((fun b o e=>by
    simp only[zaa]
    rw[if_neg (fun h=>by subst h;rw[hb6]at e;cases e)];exact e)) ?_
   refine ymi ?_
   refine DX.ldF (m:=1) (by decide) yKR yH f0.k16 ?_
   refine DX.flt rfl rfl yR yG ?_
   simp only[zbk]
   refine DX.ldF (m:=1) (by decide) yKR yH f0.k14 ?_
   refine DX.flt rfl rfl yR yG ?_
   simp only[zbk]
   refine DX.flt rfl rfl yR yG ?_
   simp only[zbk]
   refine DX.ldF (m:=1) (by decide) yKR yH (f0.kc i hin) ?_
   refine DX.flt rfl rfl yR (by(simp (disch:=omega) only[go_sem,dopV,yV0,↓reduceIte,Nat.reduceEqDiff,Nat.reduceLT,Nat.reduceLeDiff,Nat.reduceAdd,Nat.reduceMul,Nat.reduceSub,Int.reduceToNat,Int.reduceLT,Int.reduceLE,Int.reduceEq,IntWalk.toNatUp,IntWalk.iteOmega,IntWalk.i64_in,V.flat,V.one,s3];exact rfl)) ?_
   simp only[zbk]
   refine DX.callR (R:=fun u S'=>u=zws (best r2)∧Memo S' bm best) (args:= [UN r2]) (u0:=zws (best r2)) inferInstance yH yH (fun S1 h=>by rw[h];exact HS.out.2.2.1 S HM) (fun v S' h=>h.1) (by decide) ?_
   simp only[zas,zat,Nat.reduceEqDiff,↓reduceIte]
   refine DX.alloc yR yU yU (fun bt hbt=>?_)
   simp only[zbk]
   refine DX.nil (fun S1 h1 hdis=>?_)
   obtain⟨Sx,⟨-,hx1⟩,hx2,rfl⟩:=h1
   generalize hbr:best r2=x2 at *
   have hx34:zaf ((bt,Ob.cells [I 0,UN 0] 84)::Sx) b6=none:=hdis b6 (.cells [I 0,UN 0] 84) (by simp only[zaa,↓reduceIte])
   have hx3: ¬bt=b6:=fun e=>by simp[zaf,e]at hx34
   have hx4:zaf Sx b6=none:=by simpa only[zaa,if_neg hx3] using hx34
   refine zbs (S':= [(bt, .cells [I 0,UN 0] 84),(b6, .cells [I 0,UN 0] 84)]++Sx) (ynn hx4) ?_
   clear hdis
   repeat' (first|refine yJ ?_|(refine DS.store yR yE yE yE yE yU yQ ?_;simp only[yS1];try simp only[yS2,Nat.reduceEqDiff,↓reduceIte])|fail)
   have hbx:=HS.out.2.2.2.1 r2
   rw[hbr]at hbx
   have hvi:=hvs i
   have o1:bop Tryz.prog .or 82 (.int .u64 (x2.2:Nat)) (.int .u64 ((2 ^ i:Nat):Int))=some (.int .u64 ((x2.2 ||| 2 ^ i:Nat):Int)):=zsj hbx.1 p1
   refine zbs (S':=(bt, .cells [I x2.1,UN x2.2] 84)::(b6, .cells [I 0,UN 0] 84)::Sx) (fun b o e=>by simp only[setS,↓reduceIte,List.cons_append,List.nil_append];exact e) ?_
   refine zde (E':= [(11, .v (ptrV bt)),(10,UN rm),(9,I (i:Nat)),(6, .v (ptrV b6)),(0,UN m),(1, .v (ptrV b15)),(2, .v (ptrV b16)),(3, .v (ptrV b14)),(4, .v (ptrV b11))]) (zen ⟨by rfl,by rfl,by rfl,by rfl,by rfl,by rfl,by rfl,by rfl,by rfl,trivial⟩) (fun _ _ e=>e) ?_
   skip
   refine zbx (id:=9) ((bt, .cells [I x2.1,UN x2.2] 84)::(b6, .cells [I 0,UN 0] 84)::Sx) ([]) [0,1,2,3,4,5] 6 yKR mixed yP1 yP2 ((fun _ _ e=>⟨e,rfl⟩)) ((fun _ _ e=>by cases e)) ?_
   refine ymi ?_
   refine DX.flt rfl rfl yR yG ?_
   simp only[zbk]
   refine DX.flt rfl rfl yR yG ?_
   simp only[zbk]
   refine DX.ldF (m:=1) (by decide) yKR yH f0.k11 ?_
   refine DX.flt rfl rfl yR yG ?_
   simp only[zbk]
   refine DX.flt rfl rfl yR yG ?_
   simp only[zbk]
   refine DX.ldF (m:=1) (by decide) yKR yH (f0.kv i hin) ?_
   refine DX.nil (fun S1 h1 hdis=>?_)
   subst h1
   simp only[List.nil_append]
   repeat' (first|refine yJ ?_|(refine DS.store yR yE yE yE yE yU yQ ?_;simp only[yS1];try simp only[yS2,Nat.reduceEqDiff,↓reduceIte])|refine zbe (id:=10) [0,1,2,3] 4 yKR mixed yP1 yP2 ?_|(with_reducible first|refine zav yU yU yU yE ?_|refine zbg ?_)|fail)
   refine zvg (m:=1) (by decide) yKR yH f0.k14 ?_
   repeat' (first|refine yJ ?_|fail)
   refine zvg (m:=1) (by decide) yKR yH (f0.kc i hin) ?_
   repeat' (first|refine yJ ?_|fail)
   obtain⟨vm,hvm⟩: ∃vm,vm=x2.1+vs i:=⟨_,rfl⟩
   obtain⟨sm,hsm⟩: ∃sm,sm=x2.2 ||| 2 ^ i:=⟨_,rfl⟩
   have hst:=HS.out.1
   rw[←hvm,←hsm]at hst
   rw[←hvm,←hsm]
   clear hvm hsm
   refine zbs (S':=(bt, .cells [I vm,UN sm] 84)::(b6, .cells [I 0,UN 0] 84)::Sx) (fun b o e=>by simp only[setS,↓reduceIte];exact e) ?_
   refine zde (E':= [(58, .v (.bool (decide (¬((rm &&& cl i:Nat):Int)=0)))),(11, .v (ptrV bt)),(10,UN rm),(6, .v (ptrV b6)),(0,UN m),(1, .v (ptrV b15)),(2, .v (ptrV b16))]) (zen ⟨by rfl,by rfl,by rfl,by rfl,by rfl,by rfl,by rfl,trivial⟩) (fun _ _ e=>e) ?_
   refine zzu (fun _:Sto=> [(11, .v (ptrV bt)),(6, .v (ptrV b6)),(0,UN m),(1, .v (ptrV b15))]) (fun y=>(bt, .cells [I (best m).1,UN (best m).2] 84)::(b6, .cells [I 0,UN 0] 84)::y) (fun y=>Memo y bm best∧zaf y bt=none∧zaf y b6=none) ?_ (fun y hy=>?_)
   ·by_cases hand:rm &&& cl i=0
    ·have hand':((rm &&& cl i:Nat):Int)=0:=by omega
     have hbm:best m=(vm,sm):=by rw[hst,if_neg (fun h=>h.1 hand)]
     clear hst
     repeat' (first|refine yJT ?_|fail)
     exact DS.back ⟨Sx,⟨hx1,hx2,hx4⟩,yS,fun b o e=>by rw[hbm]at e;exact e⟩
    ·have hand': ¬((rm &&& cl i:Nat):Int)=0:=by omega
     generalize hx1m:best rm=x1 at hst
     repeat' (first|refine yJT ?_|fail)
     refine zvg (m:=1) (by decide) yKR yH f0.k16 ?_
     repeat' (first|refine yJ ?_|fail)
     have hcall:=HS.out.2.1 Sx hx1
     rw[hx1m]at hcall
     refine ylm (args:= [UN rm]) inferInstance yH yH Sx [(bt, .cells [I vm,UN sm] 84),(b6, .cells [I 0,UN 0] 84)] hcall (fun b o e=>?_) (fun b o e=>?_) (by decide) (fun u S' hu hdis=>?_)
     ·simp only[zaa]
      rw[if_neg (fun h=>by subst h;rw[hx2]at e;cases e),if_neg (fun h=>by subst h;rw[hx4]at e;cases e)];exact e
     ·simp only[zaa,zah]at e ⊢
      split at e
      ·rename_i h;subst h;exact⟨by rw[if_pos rfl];exact e,hx2⟩
      ·rename_i h
       split at e
       ·rename_i h2;subst h2;exact⟨by rw[if_neg h,if_pos rfl];exact e,hx4⟩
       ·cases e
     obtain⟨rfl,hu2⟩:=hu
     have hd1:zaf S' bt=none:=by
      cases h:zaf S' bt with
      | none=>rfl
      | some o=>have:=hdis bt o h;simp[zaf]at this
     have hd2:zaf S' b6=none:=by
      cases h:zaf S' b6 with
      | none=>rfl
      | some o=>have:=hdis b6 o h;simp only[zaa,if_neg hx3,↓reduceIte]at this;cases this
     refine zbs (S':= [(bt, .cells [I vm,UN sm] 84),(b6, .cells [I 0,UN 0] 84)]++S') (yib hdis) ?_
     simp only[List.cons_append,List.nil_append]
     clear hdis
     by_cases hgt:vm<x1.1
     ·have hbm:best m=x1:=by rw[hst,if_pos ⟨hand,hgt⟩]
      clear hst
      repeat' (first|refine yJT ?_|(refine zbq (t:=12) yU yE yU (fun _=>yE) yE yU yV1 (fun _=>yN1) ?_;simp only[go_sem])|(refine DS.store yR yE yE yE yE yU yQ ?_;simp only[yS1];try simp only[yS2,Nat.reduceEqDiff,↓reduceIte])|fail)
      refine DS.back ⟨S',⟨hu2,hd1,hd2⟩,yS,fun b o e=>?_⟩
      rw[hbm]at e
      simp only[setS,↓reduceIte]
      exact e
     ·have hbm:best m=(vm,sm):=by rw[hst,if_neg (fun h=>hgt h.2)]
      clear hst
      repeat' (first|refine yJT ?_|(refine zbq (t:=12) yU yE yU (fun _=>yE) yE yU yV1 (fun _=>yN1) ?_;simp only[go_sem])|fail)
      exact DS.back ⟨S',⟨hu2,hd1,hd2⟩,yS,fun b o e=>by rw[hbm]at e;exact e⟩
   ·obtain⟨hy1,hy2,hy3⟩:=hy
    obtain⟨f2,es2,clock2,g1,g2,g3⟩:=hy1.out
    have hnb: ¬bt=bm:=fun e=>by rw[e,g1]at hy2;cases hy2
    have hl2:zaf ((bt,Ob.cells [I (best m).1,UN (best m).2] 84)::(b6,Ob.cells [I 0,UN 0] 84)::y) bm=some (.raw (.map es2 clock2)):=by
     simp only[zaa,if_neg hne,if_neg hnb];exact g1
    clear hst
    generalize hbm:best m=xm at *
    repeat' (first|refine yJ ?_|fail)
    refine zvg (m:=1) (by decide) yKR yH f0.k15 ?_
    repeat' (first|refine yJ ?_|fail)
    refine DS.mapUpdate (val:=yfx xm) (Go.Maps.int_keyed Tryz.underlying82) yU g2 (keyU m hm64) yH yH yH (yks xm) hl2 yR (fun es3 clock3 g4=>?_)
    simp only[zfo]
    have hl3:zaf (setS bm (Ob.raw (Obj.map es3 clock3)) ((bt,Ob.cells [I xm.1,UN xm.2] 84)::(b6,Ob.cells [I 0,UN 0] 84)::y)) bm=some (.raw (.map es3 clock3)):=by rw[zdr hl2,if_pos rfl]
    refine zbs (S':=(bt, .cells [I xm.1,UN xm.2] 84)::(b6, .cells [I 0,UN 0] 84)::setS bm (Ob.raw (Obj.map es3 clock3)) y) (fun b o e=>?_) ?_
    ·simp only[setS,if_neg hne,if_neg hnb];exact e
    clear hl2 hl3
    repeat' (first|refine yJ ?_|(refine DS.store yR yE yE yE yE yU yQ ?_;simp only[yS1];try simp only[yS2,Nat.reduceEqDiff,↓reduceIte])|fail)
    refine zbh yX12 ⟨rfl,⟨_,es3,clock3,?_,g4,fun k hk v hv=>?_⟩⟩
    ·simp only[setS,if_neg hx3,if_neg hne,if_neg hnb,↓reduceIte,zaa]
     rw[zdr g1,if_pos rfl]
    ·by_cases hkm:k=m
     ·subst hkm
      rw[zrb]at hv
      simp only[Option.some.injEq]at hv
      rw[←hv,hbm]
     ·rw[zss _ _ (fun h=>hkm (by simp only[Value.int.injEq,true_and]at h;omega))]at hv
      exact g3 k hk v hv
end Go.XL
namespace Go.XL
open Go.Proofs
set_option maxRecDepth 100000
set_option maxHeartbeats 4000000
theorem yX29 {p:Prop} (h:p:=by(simp (disch:=omega) only[go_sem,dopV,yV0,↓reduceIte,Nat.reduceEqDiff,Nat.reduceLT,Nat.reduceLeDiff,Nat.reduceAdd,Nat.reduceMul,Nat.reduceSub,Int.reduceToNat,Int.reduceLT,Int.reduceLE,Int.reduceEq,IntWalk.toNatUp,IntWalk.iteOmega,IntWalk.i64_in,V.flat,V.one, *,Int.sub_zero,Int.lt_irrefl];exact rfl)):p:=h
theorem yX30 {p:Prop} (h:p:=by(simp (disch:=omega) only[go_sem,dopV,yV0,↓reduceIte,Nat.reduceEqDiff,Nat.reduceLT,Nat.reduceLeDiff,Nat.reduceAdd,Nat.reduceMul,Nat.reduceSub,Int.reduceToNat,Int.reduceLT,Int.reduceLE,Int.reduceEq,IntWalk.toNatUp,IntWalk.iteOmega,IntWalk.i64_in,V.flat,V.one, *,Int.sub_zero];exact rfl)):p:=h
theorem yX31 {p:Prop} (h:p:=by(simp (disch:=omega) only[go_sem,dopV,yV0,↓reduceIte,Nat.reduceEqDiff,Nat.reduceLT,Nat.reduceLeDiff,Nat.reduceAdd,Nat.reduceMul,Nat.reduceSub,Int.reduceToNat,Int.reduceLT,Int.reduceLE,Int.reduceEq,IntWalk.toNatUp,IntWalk.iteOmega,IntWalk.i64_in,V.flat,V.one, *,Int.sub_zero,Nat.sub_zero];exact rfl)):p:=h
theorem yny (N:Nat) (hN:N≤1000000):DC Tryz.prog 88 [.v (.slice none 0 0),I N] [] (fun u S'=> ∃g:GR,u=g.cell∧g.l= []∧g.Ok 3 1 S'):=by
 refine DC.of_run Tryz.func88 rfl Tryz.ntmps88 Tryz.results88 (by simp) (fun _ _=>?_);simp only[zag,zai,go_sem,Nat.zero_add,Nat.reduceAdd]
 by_cases h:N=0
 ·subst h
  repeat' (first|refine yJT ?_|fail)
  refine zxa yU yH yR ?_
  simp only[zbk]
  repeat' (first|with_reducible refine zak yU yU yX29 ?_|refine yJ ?_|(with_reducible (refine zax yX29 ?_;refine zbj ?_))|fail)
  refine zbh yG ⟨⟨[],none⟩,rfl,rfl,rfl⟩
 ·have h1:(0:Int)<(N:Int):=by omega
  have h2: ¬(N:Int)<0:=by omega
  repeat' (first|refine yJT ?_|fail)
  refine zxa yU yH yR ?_
  simp only[zbk]
  repeat' (first|with_reducible refine zak yU yU yX30 ?_|refine yJ ?_|(with_reducible (refine zax yX30 ?_;refine zba ?_))|fail)
  refine zxa yU yH yR ?_
  simp only[zbk]
  refine yle yH yH yH yR ?_
  simp only[zbk]
  repeat' (first|with_reducible refine zak yU yU yX30 ?_|fail)
  refine zcf rfl rfl yR (ykz (N:=N) (kn := .i64) rfl yH Tryz.underlying3 yH yR yR (by decide) yH yH ⟨by omega,hN⟩ (by decide)) (fun u2 E' S4 hu2=>?_)
  obtain⟨rfl,b,cap,n1,n2,n3,rfl,j,n4,n5,rfl⟩:=hu2
  simp only[zbk]
  repeat' (first|with_reducible refine zak yU yU yX31 ?_|refine yJ ?_|fail)
  refine zbh yG ⟨⟨[],some (b,cap,j)⟩,rfl,rfl,?_⟩
  exact⟨by simp only[zaa,↓reduceIte,List.flatten_nil,List.nil_append],by simpa using n4,Nat.zero_le _,n3,n5,by simp,by simp⟩
theorem ybm (L:List (List Int)) (hL:L.length≤10) (hl: ∀l∈L,l.length≤1000):PC Tryz.prog 61 [.lst (L.map fun l=> [ints l])] (ints L.flatten):=by
 have hsum: ∀i,i≤L.length→(L.take i).flatten.length≤1000*i:=fun i hi=>by
  induction i with
  | zero=>simp
  | succ i ih =>
   have:=ih (by omega)
   have h2:=hl _ (List.getElem_mem (show i<L.length by omega))
   rw[List.take_succ_eq_append_getElem (by omega),List.flatten_append,List.length_append]
   simp only[List.flatten_cons,List.flatten_nil,List.append_nil]
   omega
 have hH:=Box.mk (And.intro hl hsum)
 clear hl hsum
 refine DC.of_run Tryz.func61 rfl Tryz.ntmps61 Tryz.results61 (by simp) (fun _ _=>?_);simp only[zag,zai,go_sem,Nat.zero_add,Nat.reduceAdd]
 repeat' (first|refine yJ ?_|fail)
 refine zbu [0,9,10] yN (fun(i:Nat)=> [(3,I ((L.take i).flatten.length:Nat)),(11,I i)]) (fun(i:Nat)=>i≤L.length) (fun(i:Nat)=>L.length-i) 0 yS (Nat.zero_le _) (fun i B hI hB=>?_);try dsimp only at hI hB;simp only[zad,zae]
 by_cases hi:i<L.length
 ·have hi':(i:Int)<(L.length:Int):=by omega
  have h1:=hH.out.1 _ (List.getElem_mem hi)
  have h2:=hH.out.2 i (by omega)
  have h3:((L.take (i+1)).flatten.length:Int)=((L.take i).flatten.length:Int)+(L[i].length:Int):=by
   rw[List.take_succ_eq_append_getElem hi,List.flatten_append,List.length_append]
   simp only[List.flatten_cons,List.flatten_nil,List.append_nil]
   omega
  have h4: ¬((L.take i).flatten.length:Int)+(L[i].length:Int)<0:=by omega
  repeat' (first|refine yJT ?_|fail)
  exact DS.back (hB (i+1) _ _ (by omega) (by omega) yS yS (fun b o e=>by first|exact e|(simp only[zaa];split <;> simp_all)))
 ·have hi': ¬(i:Int)<(L.length:Int):=by omega
  have he:i=L.length:=by omega
  have h2:=hH.out.2 i hI
  rw[he,List.take_length]at h2
  have hg:=yny L.flatten.length (by omega)
  have ht:(L.take i).flatten.length=L.flatten.length:=by rw[he,List.take_length]
  clear hB he
  repeat' (first|refine yJT ?_|fail)
  refine ygw inferInstance hg yR yH (fun u S' hu=>?_)
  obtain⟨g,rfl,g1,g2⟩:=hu
  clear hg ht
  have hgc:=g.cell_copy
  repeat' (first|refine yJ ?_|fail)
  clear hgc
  refine zbl [25,26] yN (fun(x:Nat×GR×Sto)=> [(6,x.2.1.cell),(27,I x.1)]) (fun(x:Nat×GR×Sto)=>x.2.2) (fun(x:Nat×GR×Sto)=>x.1≤L.length∧x.2.1.l=(L.take x.1).flatten.map cI∧x.2.1.Ok 3 1 x.2.2) (fun(x:Nat×GR×Sto)=>L.length-x.1) (0,g,S') yS (fun b o e=>by exact e) ⟨Nat.zero_le _,g1,g2⟩ (fun x B hI hB=>?_);try dsimp only at hI hB;simp only[zad,zae]
  obtain⟨q,g3,S3⟩:=x
  dsimp only at hI hB
  obtain⟨k1,k2,k3⟩:=hI
  by_cases hq:q<L.length
  ·have hq':(q:Int)<(L.length:Int):=by omega
   have h1:=hH.out.1 _ (List.getElem_mem hq)
   have h2:=hH.out.2 q (by omega)
   have hgc:=g3.cell_copy
   repeat' (first|refine yJT ?_|fail)
   refine zcf rfl rfl yR (yld (g:=g3) (ml:=L[q].map cI) rfl yH yH yR yR (by decide) yH k3 yH yH (by intro x hx;obtain⟨y,-,rfl⟩:=List.mem_map.1 hx;rfl) ⟨by rw[k2];simp only[List.length_map];omega,by decide⟩) (fun u2 E' S4 hu2=>?_)
   obtain⟨rfl,g4,rfl,m1,m2,-,-⟩:=hu2
   have hgc4:=g4.cell_copy
   simp only[zbk]
   repeat' (first|refine yJ ?_|fail)
   exact DS.back (hB (q+1,g4,S4) _ _ (by dsimp only;omega) ⟨by dsimp only;omega,by
    rw[m1,k2,List.take_succ_eq_append_getElem hq,List.flatten_append,List.map_append,List.map_map]
    simp only[List.flatten_cons,List.flatten_nil,List.append_nil];rfl,m2⟩ yS yS (fun b o e=>by exact e))
  ·have hq': ¬(q:Int)<(L.length:Int):=by omega
   have hgc:=g3.cell_copy
   rw[show L.take q=L by rw[List.take_of_length_le];omega]at k2
   clear hB
   repeat' (first|refine yJT ?_|fail)
   refine zwz (t:=2) yR k3 (fun S4 _=>?_)
   refine zbh yG ?_
   rw[k2,List.map_map];rfl
theorem yfj (a b:List Int) (ha:a.length≤1000) (hb:b.length≤1000):PC Tryz.prog 61 [.lst [[ints a],[ints b]]] (ints (a++b)):=by
 have h:=ybm [a,b] (by simp) (fun l hl=>by
  simp only[List.mem_cons,List.not_mem_nil,or_false]at hl
  rcases hl with rfl|rfl <;> assumption)
 simpa using h
end Go.XL
namespace Go.XL
open Go.Proofs
set_option maxRecDepth 100000
set_option maxHeartbeats 8000000
theorem ypn {h:House} (ok:h.Ok):PatsOk h:=⟨ok.many,fun i hi=>yng (ztb ok.pats i (Nat.zero_le _) (by omega))⟩
theorem yly (N:List Nat) (p q:Nat):(N.map UN).set p (UN (N.getD p 0 ||| 2 ^ q))=(orAt N p q).map UN:=by rw[orAt,List.map_set]
theorem zwm (h:House) (hok:PatsOk h):DC Tryz.prog 27 [h.val] [] (fun u S'=> ∃bc,u = .v (.slice (some ⟨bc,0,none⟩) h.patterns.length h.patterns.length)∧S'= [(bc, .cells (((List.range h.patterns.length).map (clM h)).map UN) 82)]):=by
 have hm:=hok.many
 refine DC.of_run Tryz.func27 rfl Tryz.ntmps27 Tryz.results27 (by simp) (fun _ _=>?_);simp only[zag,zai,go_sem,Nat.zero_add,Nat.reduceAdd]
 repeat' (first|refine yJ ?_|(refine zap (t:=1) yU yE yU ?_;simp only[yS3])|(refine zkm yU yE yE yE yE yU yU ⟨by omega,by omega,by decide,by omega⟩ (fun _ hfr=>?_))|fail)
 rename_i bo
 have hz:zck (.int .u64 0) ((h.patterns.length:Nat):Int).toNat=(List.replicate h.patterns.length 0).map UN:=by
  rw[Int.toNat_natCast,zck]
  have e:(Value.int IntKind.u64 0).cells.toList.map V.v= [UN 0]:=rfl
  rw[e];simp
 rw[hz]
 clear hz
 refine zbl [3,13,14] yN (fun(x:Nat×List Nat)=> [(15,I x.1)]) (fun(x:Nat×List Nat)=> [(bo, .cells (x.2.map UN) 82)]) (fun(x:Nat×List Nat)=>x.1≤h.patterns.length∧Gath h x.1 0 x.2) (fun(x:Nat×List Nat)=>h.patterns.length-x.1) (0,List.replicate h.patterns.length 0) yS (fun b o e=>by exact e) ⟨Nat.zero_le _,Gath.start h⟩ (fun x B hI hB=>?_);try dsimp only at hI hB;simp only[zad,zae]
 obtain⟨i,L⟩:=x
 dsimp only at hI hB ⊢
 obtain⟨i1,i2⟩:=hI
 have HB:=Box.mk hB
 clear hB
 by_cases hi:i<h.patterns.length
 ·have hi':(i:Int)<(h.patterns.length:Int):=by omega
  have hp:=hok.ok i hi
  have hpe:=ycv hi
  have hoth:h.oth i=h.patterns[i].excl++h.patterns[i].impl:=by rw[House.oth,hpe]
  have hex:=hp.excl
  have him:=hp.impl
  rw[hpe]at hex him
  have hcc:=yfj h.patterns[i].excl h.patterns[i].impl (by omega) (by omega)
  rw[←hoth]at hcc
  have hol:(h.oth i).length≤20:=by rw[hoth,List.length_append];omega
  have HP:=Box.mk hp.oth
  clear hpe hp hoth hex him
  repeat' (first|refine yJT ?_|(refine zbw yU yE yE ?_;simp only[go_sem,Nat.zero_add,Nat.reduceAdd])|(refine zjh (t:=5) yU yU yU yE yU (fun _=>yE) (fun _=>yE) yE yU yV1 (fun _=>yN1) ?_;simp only[go_sem])|refine zan inferInstance (hcc) yR yT ?_|fail)
  refine zbl [3,4,13,14,15,25,26] yN (fun(y:Nat×List Nat)=> [(27,I y.1)]) (fun(y:Nat×List Nat)=> [(bo, .cells (y.2.map UN) 82)]) (fun(y:Nat×List Nat)=>y.1≤(h.oth i).length∧Gath h i y.1 y.2) (fun(y:Nat×List Nat)=>(h.oth i).length-y.1) (0,L) yS (fun b o e=>by exact e) ⟨Nat.zero_le _,i2⟩ (fun y B hI hB=>?_);try dsimp only at hI hB;simp only[zad,zae]
  obtain⟨j,M⟩:=y
  dsimp only at hI hB ⊢
  obtain⟨j1,j2⟩:=hI
  clear i2
  by_cases hj:j<(h.oth i).length
  ·have hj':(j:Int)<((h.oth i).length:Int):=by omega
   obtain⟨k1,k2,k3⟩:=HP.out _ (List.getElem_mem hj)
   obtain⟨K,hk⟩:=Int.eq_ofNat_of_zero_le k1
   have hK:K<h.patterns.length:=by omega
   have hKi: ¬i=K:=by omega
   have hlen:=j2.len
   have get: ∀(N:List Nat) (a:Nat),N.length=h.patterns.length→a<h.patterns.length→(N.map UN)[a]?=some (UN (N.getD a 0)):=fun N a h1 h2=>by
    rw[List.getElem?_map,List.getElem?_eq_getElem (by omega),List.getD_eq_getElem?_getD,List.getElem?_eq_getElem (by omega)];rfl
   have lt: ∀(N:List Nat) (a:Nat),(∀m∈N,m<2 ^ 64)→N.getD a 0<18446744073709551616:=fun N a h1=>by
    rw[List.getD_eq_getElem?_getD]
    cases e:N[a]? with
    | none=>simp
    | some v=>exact h1 v (List.mem_of_getElem? e)
   have m1:=get M i hlen hi
   have m2:=get (orAt M i K) K (by rw[zlh];exact hlen) hK
   have l1:=lt M i j2.lt
   have l2:=lt (orAt M i K) K (zvt j2.lt (by omega))
   have p1:2 ^ K<18446744073709551616:=show _<2 ^ 64 from Nat.pow_lt_pow_right (by omega) (by omega)
   have p2:2 ^ i<18446744073709551616:=show _<2 ^ 64 from Nat.pow_lt_pow_right (by omega) (by omega)
   have o1:bop Tryz.prog .or 82 (.int .u64 (M.getD i 0:Nat)) (.int .u64 ((2 ^ K:Nat):Int))=some (.int .u64 ((M.getD i 0 ||| 2 ^ K:Nat):Int)):=zsj l1 p1
   have o2:bop Tryz.prog .or 82 (.int .u64 ((orAt M i K).getD K 0:Nat)) (.int .u64 ((2 ^ i:Nat):Int))=some (.int .u64 (((orAt M i K).getD K 0 ||| 2 ^ i:Nat):Int)):=zsj l2 p2
   have s1:bop Tryz.prog .shl 82 (.int .u64 1) (.int .i64 (K:Int))=some (.int .u64 ((2 ^ K:Nat):Int)):=znn (by omega)
   have s2:bop Tryz.prog .shl 82 (.int .u64 1) (.int .i64 (i:Int))=some (.int .u64 ((2 ^ i:Nat):Int)):=znn (by omega)
   have st1:(M.map UN).set i (UN (M.getD i 0 ||| 2 ^ K))=(orAt M i K).map UN:=yly _ _ _
   have st2:((orAt M i K).map UN).set K (UN ((orAt M i K).getD K 0 ||| 2 ^ i))=(orAt (orAt M i K) K i).map UN:=yly _ _ _
   have hg:=j2.step hi hm hj hk hK
   have hKn:K<(h.patterns.length:Nat):=hK
   have hol2:(orAt M i K).length=h.patterns.length:=by rw[zlh];exact hlen
   have HX:=Box.mk (And.intro hg st2)
   clear hg j2 get lt l1 l2 p1 p2 k1 k2 k3
   repeat' (first|refine yJT ?_|(refine DS.store yR yE yE yE yE yU yQ ?_;simp only[yS1];try simp only[yS2,Nat.reduceEqDiff,↓reduceIte])|refine zbe (id:=8) [0,1,2,3,4,5] 6 yKR mixed yP1 yP2 ?_|refine zbe (id:=9) [0,1,2,3,4,5] 6 yKR mixed yP1 yP2 ?_|(with_reducible first|refine zav yU yU yU yE ?_|refine zbg ?_)|fail)
   rw[HX.out.2]
   simp only[setS,↓reduceIte]
   exact DS.back (hB (j+1,orAt (orAt M i K) K i) _ _ (by dsimp only;omega) ⟨by dsimp only;omega,HX.out.1⟩ yS yS (fun b o e=>by exact e))
  ·have hj': ¬(j:Int)<((h.oth i).length:Int):=by omega
   have hje:j=(h.oth i).length:=by omega
   rw[hje]at j2
   have j3:=j2.next
   clear hje hB j2
   repeat' (first|refine yJT ?_|fail)
   exact DS.back (HB.out (i+1,M) _ _ (by dsimp only;omega) ⟨by dsimp only;omega,j3⟩ yS yS (fun b o e=>by exact e))
 ·have hi': ¬(i:Int)<(h.patterns.length:Int):=by omega
  have hie:i=h.patterns.length:=by omega
  have hlen:=i2.len
  rw[hie]at i2
  have he:=i2.end hok
  clear i2 HB hie
  repeat' (first|refine yJT ?_|fail)
  rw[he]
  refine zbh yG ⟨bo,rfl,rfl⟩
end Go.XL
namespace Go.XL
open Go.Proofs
set_option maxRecDepth 100000
set_option maxHeartbeats 8000000
def zmz (l:List Bool):ByteArray:=⟨(l.map fun b=>if b then(110:UInt8)else 116).toArray⟩
structure SortR where
 number:Bool
 parts:List Bool
 use:Int
 nLow:Int
 nTop:Int
 mLow:Int
 mTop:Int
 deriving DecidableEq
def SortR.cells (x:SortR):List V:= [Bo x.number,St8 (zmz x.parts),I x.use,I x.nLow,I x.nTop,I x.mLow,I x.mTop]
@[go_sem] theorem SortR.cells_eq (x:SortR):x.cells= [Bo x.number,St8 (zmz x.parts),I x.use,I x.nLow,I x.nTop,I x.mLow,I x.mTop]:=rfl
abbrev SortR.val (x:SortR):V := .agg x.cells
def bitU (b:Bool) (n:Int):Int:=if b then n else 0
def zrk (op:Int):SortR:=⟨numS op,(useS op).parts,bitU (useS op).what 1+bitU (useS op).n 2+bitU (useS op).m 4+bitU (useS op).open_ 8+bitU (useS op).kinds 16,(useS op).nLow,(useS op).nTop,(useS op).mLow,(useS op).mTop⟩
def noSort :SortR:=⟨false,[],0,0,0,0,0⟩
def zvp (op:Int):SortR×Bool:=if 1≤op∧op≤24 then(zrk op,true)else(noSort,false)
def sortsL :List V:=((List.range 25).map fun(i:Nat)=>if i=0 then noSort.cells else(zrk i).cells).flatten
theorem ycc : ∀k:Nat,k<25→((sortsL.drop (k*7)).take 7).map V.peek=if k=0 then noSort.cells else(zrk k).cells
 | 0,_=>by kernel_rfl
 | 1,_=>by kernel_rfl
 | 2,_=>by kernel_rfl
 | 3,_=>by kernel_rfl
 | 4,_=>by kernel_rfl
 | 5,_=>by kernel_rfl
 | 6,_=>by kernel_rfl
 | 7,_=>by kernel_rfl
 | 8,_=>by kernel_rfl
 | 9,_=>by kernel_rfl
 | 10,_=>by kernel_rfl
 | 11,_=>by kernel_rfl
 | 12,_=>by kernel_rfl
 | 13,_=>by kernel_rfl
 | 14,_=>by kernel_rfl
 | 15,_=>by kernel_rfl
 | 16,_=>by kernel_rfl
 | 17,_=>by kernel_rfl
 | 18,_=>by kernel_rfl
 | 19,_=>by kernel_rfl
 | 20,_=>by kernel_rfl
 | 21,_=>by kernel_rfl
 | 22,_=>by kernel_rfl
 | 23,_=>by kernel_rfl
 | 24,_=>by kernel_rfl
 | k+25,h=>by omega
theorem zma :sortsL.length=175:=by kernel_rfl
theorem yX32 {p:Prop} (h:p:=by(simp (disch:=omega) only[go_sem,dopV,yV0,↓reduceIte,Nat.reduceEqDiff,Nat.reduceLT,Nat.reduceLeDiff,Nat.reduceAdd,Nat.reduceMul,Nat.reduceSub,Int.reduceToNat,Int.reduceLT,Int.reduceLE,Int.reduceEq,IntWalk.toNatUp,IntWalk.iteOmega,IntWalk.i64_in,V.flat,V.one, *,zma];exact rfl)):p:=h
theorem yX33 {p:Prop} (h:p:=by(simp (disch:=omega) only[go_sem,dopV,yV0,↓reduceIte,Nat.reduceEqDiff,Nat.reduceLT,Nat.reduceLeDiff,Nat.reduceAdd,Nat.reduceMul,Nat.reduceSub,Int.reduceToNat,Int.reduceLT,Int.reduceLE,Int.reduceEq,IntWalk.toNatUp,IntWalk.iteOmega,IntWalk.i64_in,V.flat,V.one, *,zma];try exact rfl)):p:=h
theorem znu (op:Int):PC Tryz.prog 86 [I op] (.tup [(zvp op).1.val,Bo (zvp op).2]):=by
 refine DC.of_run Tryz.func86 rfl Tryz.ntmps86 Tryz.results86 (by simp) (fun _ _=>?_);simp only[zag,zai,go_sem,Nat.zero_add,Nat.reduceAdd]
 repeat' (first|refine yJ ?_|fail)
 refine zbd yR yU yU (fun b hb=>?_)
 have e0:(Value.agg #[.bool false, .string ⟨#[]⟩, .int .i64 0, .int .i64 0, .int .i64 0, .int .i64 0, .int .i64 0]).cells.toList.map V.v= [Bo false,St8 ⟨#[]⟩,I 0,I 0,I 0,I 0,I 0]:=rfl
 rw[e0]
 clear e0
 repeat' (first|refine yJ ?_|(refine zbq (t:=4) yU yE yU (fun _=>yE) yE yU yV1 (fun _=>yN1) ?_;simp only[go_sem])|fail)
 refine zde (E':= [(4, .plc sortsL),(0,I op),(30,I op),(2, .v (.pointer (some ⟨b,0,none⟩)))]) (zen ⟨by kernel_rfl,by rfl,by rfl,by rfl,trivial⟩) (fun _ _ e=>e) ?_
 by_cases h:1≤op∧op≤24
 ·rw[zvp,if_pos h]
  obtain⟨k,rfl⟩:=Int.eq_ofNat_of_zero_le (show 0≤op by omega)
  have hr:=ycc k (by omega)
  rw[if_neg (by omega)]at hr
  repeat' (first|with_reducible refine zak yU yU yX32 ?_|refine yJ ?_|(with_reducible (refine zax yX32 ?_;refine zbj ?_))|refine zan inferInstance (zcu _ _ _) yR yX33 ?_|fail)
  refine zak (v := .agg (zrk k).cells) rfl (by decide) (by(simp (disch:=omega) only[go_sem,dopV,yV0,↓reduceIte,Nat.reduceEqDiff,Nat.reduceLT,Nat.reduceLeDiff,Nat.reduceAdd,Nat.reduceMul,Nat.reduceSub,Int.reduceToNat,Int.reduceLT,Int.reduceLE,Int.reduceEq,IntWalk.toNatUp,IntWalk.iteOmega,IntWalk.i64_in,V.flat,V.one,List.length_drop,zma,hr];try exact rfl)) ?_
  repeat' (first|refine yJ ?_|(refine DS.store yR yE yE yE yE yU yQ ?_;simp only[yS1];try simp only[yS2,Nat.reduceEqDiff,↓reduceIte])|refine zao [] yE trivial ?_|fail)
  rfl
 ·rw[zvp,if_neg h]
  repeat' (first|refine yJT ?_|refine zan inferInstance (zcu _ _ _) yR yT ?_|(refine DS.store yR yE yE yE yE yU yQ ?_;simp only[yS1];try simp only[yS2,Nat.reduceEqDiff,↓reduceIte])|refine zao [] yE trivial ?_|fail)
  rfl
end Go.XL
namespace Go.XL
open Go.Proofs
set_option maxRecDepth 100000
set_option maxHeartbeats 8000000
theorem zke (s:GSet):0≤zcb s∧zcb s≤1000:=by
 by_cases h:zbo s=0
 ·have:=(zca h).plain
  rw[zcb,if_neg (by omega)];omega
 ·rw[zcb,if_pos h];omega
theorem zcg (num:Bool) (p:ByteArray) (U bit r lo hi ml mh:Int) (h:bop Tryz.prog .and 3 (.int .i64 U) (.int .i64 bit)=some (.int .i64 r)) :
  PC Tryz.prog 110 [I bit, .plc [Bo num,St8 p,I U,I lo,I hi,I ml,I mh]] (Bo (decide (0<r))):=by
 refine DC.of_run Tryz.func110 rfl Tryz.ntmps110 Tryz.results110 (by simp) (fun _ _=>?_);simp only[zag,zai,go_sem,Nat.zero_add,Nat.reduceAdd]
 repeat' (first|refine yJ ?_|refine zao [] yE trivial ?_|fail)
 rfl
def zna (a b c d e:Bool) (lo hi ml mh:Int) (s:GSet) (x:Node):Int :=
 if(a=false∧x.what≠0)∨(b=false∧x.n≠0)∨(c=false∧x.m≠0)∨(d=false∧(x.open_≠0∨x.all=true))∨(e=false∧0<(x.kinds.length:Int))then 3 else
 if(a=true∧ ¬(1≤x.what∧x.what≤31))∨(b=true∧ ¬(lo≤x.n∧x.n≤hi))∨(c=true∧ ¬(ml≤x.m∧x.m≤mh))∨(d=true∧ ¬(0≤x.open_∧x.open_≤2))then 2 else
 ascS (zcb s) x.kinds
theorem zcx (s:GSet) (x:Node) (num:Bool) (p:ByteArray) (lo hi ml mh:Int) (hs:PC Tryz.prog 86 [I x.op] (.tup [.agg [Bo num,St8 p,I 0,I lo,I hi,I ml,I mh],Bo true])) :
  PC Tryz.prog 85 [s.val,x.val] (I (zna false false false false false lo hi ml mh s x)):=by
 have hk:=zfm s
 have hb:0≤zcb s∧zcb s≤1000:=zke s
 have hr:=zgl (zcb s) x.kinds hb
 have u1:=zcg num p 0 1 0 lo hi ml mh rfl
 have u2:=zcg num p 0 2 0 lo hi ml mh rfl
 have u4:=zcg num p 0 4 0 lo hi ml mh rfl
 have u8:=zcg num p 0 8 0 lo hi ml mh rfl
 have u16:=zcg num p 0 16 0 lo hi ml mh rfl
 refine DC.of_run Tryz.func85 rfl Tryz.ntmps85 Tryz.results85 (by simp) (fun _ _=>?_);simp only[zag,zai,go_sem,Nat.zero_add,Nat.reduceAdd]
 repeat' (first|refine yJ ?_|(with_reducible first|(refine zax yE ?_;first|refine zds (fun _=>?_) (fun _=>?_)|refine zba ?_|refine zbj ?_)|(refine zbn yU yE ?_;first|refine zgb ?_|refine ziu (fun _=>?_) (fun _=>?_)|refine GG.run ?_|refine zcp ?_|refine zcs ?_|refine ygp (fun _=>?_) (fun _=>?_)))|(refine zbq (t:=5) yU yE yU (fun _=>yE) yE yU yV1 (fun _=>yN1) ?_;simp only[go_sem])|refine zan inferInstance (hs) yR yF ?_|refine zby inferInstance yE (u1) yR yF ?_|refine zby inferInstance yE (u2) yR yF ?_|refine zby inferInstance yE (u4) yR yF ?_|refine zby inferInstance yE (u8) yR yF ?_|refine zby inferInstance yE (u16) yR yF ?_|refine zan inferInstance (hr) yR yF ?_|(refine zap (t:=2) yU yE yU ?_;simp only[yS3])|(refine zap (t:=3) yU yE yU ?_;simp only[yS3])|refine zbe (id:=9) [0,1,2,3] 4 yKR mixed yP1 yP2 ?_|(with_reducible first|refine zav yU yU yU yE ?_|refine zbg ?_)|refine zda inferInstance (hk) yU yF ?_|refine zao [] yE trivial ?_|fail)
 all_goals (simp only[tupV,zna];(repeat' split) <;> first|rfl|(exfalso;clear u1 u2 u4 u8 u16 hs hk hr;grind))
theorem zfk (s:GSet) (x:Node) (num:Bool) (p:ByteArray) (lo hi ml mh:Int) (hs:PC Tryz.prog 86 [I x.op] (.tup [.agg [Bo num,St8 p,I 2,I lo,I hi,I ml,I mh],Bo true])) :
  PC Tryz.prog 85 [s.val,x.val] (I (zna false true false false false lo hi ml mh s x)):=by
 have hk:=zfm s
 have hb:0≤zcb s∧zcb s≤1000:=zke s
 have hr:=zgl (zcb s) x.kinds hb
 have u1:=zcg num p 2 1 0 lo hi ml mh rfl
 have u2:=zcg num p 2 2 2 lo hi ml mh rfl
 have u4:=zcg num p 2 4 0 lo hi ml mh rfl
 have u8:=zcg num p 2 8 0 lo hi ml mh rfl
 have u16:=zcg num p 2 16 0 lo hi ml mh rfl
 refine DC.of_run Tryz.func85 rfl Tryz.ntmps85 Tryz.results85 (by simp) (fun _ _=>?_);simp only[zag,zai,go_sem,Nat.zero_add,Nat.reduceAdd]
 repeat' (first|refine yJ ?_|(with_reducible first|(refine zax yE ?_;first|refine zds (fun _=>?_) (fun _=>?_)|refine zba ?_|refine zbj ?_)|(refine zbn yU yE ?_;first|refine zgb ?_|refine ziu (fun _=>?_) (fun _=>?_)|refine GG.run ?_|refine zcp ?_|refine zcs ?_|refine ygp (fun _=>?_) (fun _=>?_)))|(refine zbq (t:=5) yU yE yU (fun _=>yE) yE yU yV1 (fun _=>yN1) ?_;simp only[go_sem])|refine zan inferInstance (hs) yR yF ?_|refine zby inferInstance yE (u1) yR yF ?_|refine zby inferInstance yE (u2) yR yF ?_|refine zby inferInstance yE (u4) yR yF ?_|refine zby inferInstance yE (u8) yR yF ?_|refine zby inferInstance yE (u16) yR yF ?_|refine zan inferInstance (zcu _ _ _) yR yF ?_|refine zan inferInstance (hr) yR yF ?_|(refine zap (t:=2) yU yE yU ?_;simp only[yS3])|(refine zap (t:=3) yU yE yU ?_;simp only[yS3])|refine zbe (id:=9) [0,1,2,3] 4 yKR mixed yP1 yP2 ?_|(with_reducible first|refine zav yU yU yU yE ?_|refine zbg ?_)|refine zda inferInstance (hk) yU yF ?_|refine zao [] yE trivial ?_|fail)
 all_goals (simp only[tupV,zna];(repeat' split) <;> first|rfl|(exfalso;clear u1 u2 u4 u8 u16 hs hk hr;grind))
theorem zmo (s:GSet) (x:Node) (num:Bool) (p:ByteArray) (lo hi ml mh:Int) (hs:PC Tryz.prog 86 [I x.op] (.tup [.agg [Bo num,St8 p,I 3,I lo,I hi,I ml,I mh],Bo true])) :
  PC Tryz.prog 85 [s.val,x.val] (I (zna true true false false false lo hi ml mh s x)):=by
 have hk:=zfm s
 have hb:0≤zcb s∧zcb s≤1000:=zke s
 have hr:=zgl (zcb s) x.kinds hb
 have u1:=zcg num p 3 1 1 lo hi ml mh rfl
 have u2:=zcg num p 3 2 2 lo hi ml mh rfl
 have u4:=zcg num p 3 4 0 lo hi ml mh rfl
 have u8:=zcg num p 3 8 0 lo hi ml mh rfl
 have u16:=zcg num p 3 16 0 lo hi ml mh rfl
 refine DC.of_run Tryz.func85 rfl Tryz.ntmps85 Tryz.results85 (by simp) (fun _ _=>?_);simp only[zag,zai,go_sem,Nat.zero_add,Nat.reduceAdd]
 repeat' (first|refine yJ ?_|(with_reducible first|(refine zax yE ?_;first|refine zds (fun _=>?_) (fun _=>?_)|refine zba ?_|refine zbj ?_)|(refine zbn yU yE ?_;first|refine zgb ?_|refine ziu (fun _=>?_) (fun _=>?_)|refine GG.run ?_|refine zcp ?_|refine zcs ?_|refine ygp (fun _=>?_) (fun _=>?_)))|(refine zbq (t:=5) yU yE yU (fun _=>yE) yE yU yV1 (fun _=>yN1) ?_;simp only[go_sem])|refine zan inferInstance (hs) yR yF ?_|refine zby inferInstance yE (u1) yR yF ?_|refine zby inferInstance yE (u2) yR yF ?_|refine zby inferInstance yE (u4) yR yF ?_|refine zby inferInstance yE (u8) yR yF ?_|refine zby inferInstance yE (u16) yR yF ?_|refine zan inferInstance (zcu _ _ _) yR yF ?_|refine zan inferInstance (hr) yR yF ?_|(refine zap (t:=2) yU yE yU ?_;simp only[yS3])|(refine zap (t:=3) yU yE yU ?_;simp only[yS3])|refine zbe (id:=9) [0,1,2,3] 4 yKR mixed yP1 yP2 ?_|(with_reducible first|refine zav yU yU yU yE ?_|refine zbg ?_)|refine zda inferInstance (hk) yU yF ?_|refine zao [] yE trivial ?_|fail)
 all_goals (simp only[tupV,zna];(repeat' split) <;> first|rfl|(exfalso;clear u1 u2 u4 u8 u16 hs hk hr;grind))
theorem ztf (s:GSet) (x:Node) (num:Bool) (p:ByteArray) (lo hi ml mh:Int) (hs:PC Tryz.prog 86 [I x.op] (.tup [.agg [Bo num,St8 p,I 25,I lo,I hi,I ml,I mh],Bo true])) :
  PC Tryz.prog 85 [s.val,x.val] (I (zna true false false true true lo hi ml mh s x)):=by
 have hk:=zfm s
 have hb:0≤zcb s∧zcb s≤1000:=zke s
 have hr:=zgl (zcb s) x.kinds hb
 have u1:=zcg num p 25 1 1 lo hi ml mh rfl
 have u2:=zcg num p 25 2 0 lo hi ml mh rfl
 have u4:=zcg num p 25 4 0 lo hi ml mh rfl
 have u8:=zcg num p 25 8 8 lo hi ml mh rfl
 have u16:=zcg num p 25 16 16 lo hi ml mh rfl
 refine DC.of_run Tryz.func85 rfl Tryz.ntmps85 Tryz.results85 (by simp) (fun _ _=>?_);simp only[zag,zai,go_sem,Nat.zero_add,Nat.reduceAdd]
 repeat' (first|refine yJ ?_|(with_reducible first|(refine zax yE ?_;first|refine zez (fun _=>?_) (fun _=>?_)|refine zba ?_|refine zbj ?_)|(refine zbn yU yE ?_;first|refine zgb ?_|refine ziu (fun _=>?_) (fun _=>?_)|refine GG.run ?_|refine zcp ?_|refine zcs ?_))|(refine zbq (t:=5) yU yE yU (fun _=>yE) yE yU yV1 (fun _=>yN1) ?_;simp only[go_sem])|refine zan inferInstance (hs) yR yF ?_|refine zby inferInstance yE (u1) yR yF ?_|refine zby inferInstance yE (u2) yR yF ?_|refine zby inferInstance yE (u4) yR yF ?_|refine zby inferInstance yE (u8) yR yF ?_|refine zby inferInstance yE (u16) yR yF ?_|refine zan inferInstance (zcu _ _ _) yR yF ?_|refine zan inferInstance (hr) yR yF ?_|(refine zap (t:=2) yU yE yU ?_;simp only[yS3])|(refine zap (t:=3) yU yE yU ?_;simp only[yS3])|refine zbe (id:=9) [0,1,2,3] 4 yKR mixed yP1 yP2 ?_|(with_reducible first|refine zav yU yU yU yE ?_|refine zbg ?_)|refine zda inferInstance (hk) yU yF ?_|refine zao [] yE trivial ?_|fail)
 all_goals (simp only[tupV,zna];(repeat' split) <;> first|rfl|(exfalso;clear u1 u2 u4 u8 u16 hs hk hr;grind))
theorem ztg (s:GSet) (x:Node) (num:Bool) (p:ByteArray) (lo hi ml mh:Int) (hs:PC Tryz.prog 86 [I x.op] (.tup [.agg [Bo num,St8 p,I 16,I lo,I hi,I ml,I mh],Bo true])) :
  PC Tryz.prog 85 [s.val,x.val] (I (zna false false false false true lo hi ml mh s x)):=by
 have hk:=zfm s
 have hb:0≤zcb s∧zcb s≤1000:=zke s
 have hr:=zgl (zcb s) x.kinds hb
 have u1:=zcg num p 16 1 0 lo hi ml mh rfl
 have u2:=zcg num p 16 2 0 lo hi ml mh rfl
 have u4:=zcg num p 16 4 0 lo hi ml mh rfl
 have u8:=zcg num p 16 8 0 lo hi ml mh rfl
 have u16:=zcg num p 16 16 16 lo hi ml mh rfl
 refine DC.of_run Tryz.func85 rfl Tryz.ntmps85 Tryz.results85 (by simp) (fun _ _=>?_);simp only[zag,zai,go_sem,Nat.zero_add,Nat.reduceAdd]
 repeat' (first|refine yJT ?_|(with_reducible (refine zbn yU yE ?_;first|refine zgb ?_|refine ziu (fun _=>?_) (fun _=>?_)|refine GG.run ?_|refine zcp ?_|refine zcs ?_|refine ygp (fun _=>?_) (fun _=>?_)))|(refine zbq (t:=5) yU yE yU (fun _=>yE) yE yU yV1 (fun _=>yN1) ?_;simp only[go_sem])|refine zan inferInstance (hs) yR yF ?_|refine zby inferInstance yE (u1) yR yF ?_|refine zby inferInstance yE (u2) yR yF ?_|refine zby inferInstance yE (u4) yR yF ?_|refine zby inferInstance yE (u8) yR yF ?_|refine zby inferInstance yE (u16) yR yF ?_|refine zan inferInstance (hr) yR yF ?_|(refine zap (t:=2) yU yE yU ?_;simp only[yS3])|(refine zap (t:=3) yU yE yU ?_;simp only[yS3])|refine zbe (id:=9) [0,1,2,3] 4 yKR mixed yP1 yP2 ?_|(with_reducible first|refine zav yU yU yU yE ?_|refine zbg ?_)|refine zda inferInstance (hk) yU yF ?_|refine zao [] yE trivial ?_|fail)
 all_goals (simp only[tupV,zna];(repeat' split) <;> first|rfl|(exfalso;clear u1 u2 u4 u8 u16 hs hk hr;grind))
theorem zmn (s:GSet) (x:Node) (num:Bool) (p:ByteArray) (lo hi ml mh:Int) (hs:PC Tryz.prog 86 [I x.op] (.tup [.agg [Bo num,St8 p,I 7,I lo,I hi,I ml,I mh],Bo true])) :
  PC Tryz.prog 85 [s.val,x.val] (I (zna true true true false false lo hi ml mh s x)):=by
 have hk:=zfm s
 have hb:0≤zcb s∧zcb s≤1000:=zke s
 have hr:=zgl (zcb s) x.kinds hb
 have u1:=zcg num p 7 1 1 lo hi ml mh rfl
 have u2:=zcg num p 7 2 2 lo hi ml mh rfl
 have u4:=zcg num p 7 4 4 lo hi ml mh rfl
 have u8:=zcg num p 7 8 0 lo hi ml mh rfl
 have u16:=zcg num p 7 16 0 lo hi ml mh rfl
 refine DC.of_run Tryz.func85 rfl Tryz.ntmps85 Tryz.results85 (by simp) (fun _ _=>?_);simp only[zag,zai,go_sem,Nat.zero_add,Nat.reduceAdd]
 repeat' (first|refine yJ ?_|(with_reducible first|(refine zax yE ?_;first|refine zds (fun _=>?_) (fun _=>?_)|refine zba ?_|refine zbj ?_)|(refine zbn yU yE ?_;first|refine zgb ?_|refine ziu (fun _=>?_) (fun _=>?_)|refine GG.run ?_|refine zcp ?_|refine zcs ?_|refine ygp (fun _=>?_) (fun _=>?_)))|(refine zbq (t:=5) yU yE yU (fun _=>yE) yE yU yV1 (fun _=>yN1) ?_;simp only[go_sem])|refine zan inferInstance (hs) yR yF ?_|refine zby inferInstance yE (u1) yR yF ?_|refine zby inferInstance yE (u2) yR yF ?_|refine zby inferInstance yE (u4) yR yF ?_|refine zby inferInstance yE (u8) yR yF ?_|refine zby inferInstance yE (u16) yR yF ?_|refine zan inferInstance (zcu _ _ _) yR yF ?_|refine zan inferInstance (hr) yR yF ?_|(refine zap (t:=2) yU yE yU ?_;simp only[yS3])|(refine zap (t:=3) yU yE yU ?_;simp only[yS3])|refine zbe (id:=9) [0,1,2,3] 4 yKR mixed yP1 yP2 ?_|(with_reducible first|refine zav yU yU yU yE ?_|refine zbg ?_)|refine zda inferInstance (hk) yU yF ?_|refine zao [] yE trivial ?_|fail)
 all_goals (simp only[tupV,zna];(repeat' split) <;> first|rfl|(exfalso;clear u1 u2 u4 u8 u16 hs hk hr;grind))
end Go.XL
namespace Go.XL
open Go.Proofs
set_option maxRecDepth 100000
set_option maxHeartbeats 8000000
theorem ynl (s:GSet) (x:Node):PC Tryz.prog 85 [s.val,x.val] (I (zek s x)):=by
 obtain⟨op,what,n,m,op2,all,kinds⟩:=x
 have hs:=znu op
 by_cases h:1≤op∧op≤24
 ·have h24:op=1∨op=2∨op=3∨op=4∨op=5∨op=6∨op=7∨op=8∨op=9∨op=10∨op=11∨op=12∨op=13∨op=14∨op=15∨op=16∨op=17∨op=18∨op=19∨op=20∨op=21∨op=22∨op=23∨op=24:=by omega
  rcases h24 with rfl|rfl|rfl|rfl|rfl|rfl|rfl|rfl|rfl|rfl|rfl|rfl|rfl|rfl|rfl|rfl|rfl|rfl|rfl|rfl|rfl|rfl|rfl|rfl
  ·exact zcx s ⟨1,what,n,m,op2,all,kinds⟩ _ _ 0 0 0 0 hs
  ·exact zcx s ⟨2,what,n,m,op2,all,kinds⟩ _ _ 0 0 0 0 hs
  ·exact zcx s ⟨3,what,n,m,op2,all,kinds⟩ _ _ 0 0 0 0 hs
  ·exact zcx s ⟨4,what,n,m,op2,all,kinds⟩ _ _ 0 0 0 0 hs
  ·exact zfk s ⟨5,what,n,m,op2,all,kinds⟩ _ _ 0 1000000 0 0 hs
  ·exact zfk s ⟨6,what,n,m,op2,all,kinds⟩ _ _ 1 6 0 0 hs
  ·exact zfk s ⟨7,what,n,m,op2,all,kinds⟩ _ _ 1 7 0 0 hs
  ·exact zcx s ⟨8,what,n,m,op2,all,kinds⟩ _ _ 0 0 0 0 hs
  ·exact zcx s ⟨9,what,n,m,op2,all,kinds⟩ _ _ 0 0 0 0 hs
  ·exact zmo s ⟨10,what,n,m,op2,all,kinds⟩ _ _ 0 3 0 0 hs
  ·exact zfk s ⟨11,what,n,m,op2,all,kinds⟩ _ _ 0 1000000 0 0 hs
  ·exact zcx s ⟨12,what,n,m,op2,all,kinds⟩ _ _ 0 0 0 0 hs
  ·exact zcx s ⟨13,what,n,m,op2,all,kinds⟩ _ _ 0 0 0 0 hs
  ·exact zcx s ⟨14,what,n,m,op2,all,kinds⟩ _ _ 0 0 0 0 hs
  ·exact zfk s ⟨15,what,n,m,op2,all,kinds⟩ _ _ 1 1000 0 0 hs
  ·exact ztf s ⟨16,what,n,m,op2,all,kinds⟩ _ _ 0 0 0 0 hs
  ·exact ztg s ⟨17,what,n,m,op2,all,kinds⟩ _ _ 0 0 0 0 hs
  ·exact zcx s ⟨18,what,n,m,op2,all,kinds⟩ _ _ 0 0 0 0 hs
  ·exact zmo s ⟨19,what,n,m,op2,all,kinds⟩ _ _ 1 2 0 0 hs
  ·exact zfk s ⟨20,what,n,m,op2,all,kinds⟩ _ _ 1 2 0 0 hs
  ·exact zmn s ⟨21,what,n,m,op2,all,kinds⟩ _ _ 2 4 1 3 hs
  ·exact zmn s ⟨22,what,n,m,op2,all,kinds⟩ _ _ 2 3 0 2 hs
  ·exact zcx s ⟨23,what,n,m,op2,all,kinds⟩ _ _ 0 0 0 0 hs
  ·exact zcx s ⟨24,what,n,m,op2,all,kinds⟩ _ _ 0 0 0 0 hs
 ·rw[zek,if_pos h]
  rw[zvp,if_neg h]at hs
  refine DC.of_run Tryz.func85 rfl Tryz.ntmps85 Tryz.results85 (by simp) (fun _ _=>?_);simp only[zag,zai,go_sem,Nat.zero_add,Nat.reduceAdd]
  repeat' (first|refine yJT ?_|(refine zbq (t:=5) yU yE yU (fun _=>yE) yE yU yV1 (fun _=>yN1) ?_;simp only[go_sem])|refine zan inferInstance (hs) yR yT ?_|(refine zap (t:=2) yU yE yU ?_;simp only[yS3])|(refine zap (t:=3) yU yE yU ?_;simp only[yS3])|refine zao [] yE trivial ?_|fail)
  all_goals first|rfl|(exfalso;omega)
end Go.XL
namespace Go.XL
open Go.Proofs
set_option maxRecDepth 100000
set_option maxHeartbeats 8000000
theorem yas {s:GSet} {l:List Node} {i:Nat} (hi:i<l.length):zdg s (l.drop i)=if zek s l[i]≠0 then zek s l[i]else zdg s (l.drop (i+1)):=by
 rw[List.drop_eq_getElem_cons hi,zdg]
theorem zog {s:GSet}: ∀{l:List Node},zdg s l=0→ ∀x∈l,1≤x.op∧x.op≤24
 | y::l,h,x,hx=>by
  rw[zdg]at h
  by_cases hy:zek s y≠0
  ·rw[if_pos hy]at h;exact absurd h hy
  ·rw[if_neg hy]at h
   rcases List.mem_cons.1 hx with rfl|hx
   ·refine Decidable.byContradiction fun hn=>hy ?_
    rw[zek,if_pos hn];decide
   ·exact zog h x hx
theorem ycx (op:Int):(useS op).parts.length≤3:=by
 by_cases h:1≤op∧op≤24
 ·have h24:op=1∨op=2∨op=3∨op=4∨op=5∨op=6∨op=7∨op=8∨op=9∨op=10∨op=11∨op=12∨op=13∨op=14∨op=15∨op=16∨op=17∨op=18∨op=19∨op=20∨op=21∨op=22∨op=23∨op=24:=by omega
  rcases h24 with rfl|rfl|rfl|rfl|rfl|rfl|rfl|rfl|rfl|rfl|rfl|rfl|rfl|rfl|rfl|rfl|rfl|rfl|rfl|rfl|rfl|rfl|rfl|rfl <;> decide
 ·unfold useS
  repeat rw[if_neg (by omega)]
  exact Nat.zero_le _
def pB (b:Bool):Int:=if b then 110 else 116
def cB (b:Bool):List V:= [.v (.int .u8 (pB b))]
theorem zqg (l:List Bool):(zmz l).size=l.length:=by simp[zmz,ByteArray.size]
theorem ycz {l:List Bool} {k:Nat} (h:k<l.length): ∃c:UInt8,(zmz l)[k]?=some c∧(c.toNat:Int)=pB l[k]:=by
 refine⟨if l[k]then 110 else 116,?_,?_⟩
 ·have hk:k<(zmz l).size:=by rw[zqg];exact h
  rw[getElem?_pos (zmz l) k hk]
  simp[zmz,ByteArray.getElem_eq_getElem_data]
 ·cases l[k] <;> rfl
theorem ybp {l:List Node} (h:0<l.length):askS l=zih (l.drop (0+1)) ((useS l[0].op).parts++ []) true:=by
 cases l with
 | nil=>simp at h
 | cons x r=>simp[askS]
theorem ybq {l:List Node} {k:Nat} (h:k<l.length) (b:Bool) (asked:List Bool) (typed:Bool):zih (l.drop k) (b::asked) typed=zih (l.drop (k+1)) ((useS l[k].op).parts++asked) (typed&&b == numS l[k].op):=by
 rw[List.drop_eq_getElem_cons h,zih]
theorem ybr {l:List Node} {k:Nat} (h:k<l.length) (typed:Bool):zih (l.drop k) [] typed=none:=by
 rw[List.drop_eq_getElem_cons h,zih]
def stk (asked:List Bool):List V:=asked.reverse.map fun b=>V.v (.int .u8 (pB b))
theorem zrh (asked:List Bool):(asked.reverse.map cB).flatten=stk asked:=by
 rw[stk]
 generalize asked.reverse=l
 induction l with
 | nil=>rfl
 | cons b l ih=>rw[List.map_cons,List.flatten_cons,List.map_cons,ih];rfl
theorem zxg (b:Bool) (asked:List Bool):stk (b::asked)=stk asked++ [V.v (.int .u8 (pB b))]:=by simp[stk]
theorem ycb (asked:List Bool):(stk asked).length=asked.length:=by simp[stk]
theorem yhn (asked:List Bool) (x:List V):(stk asked++x).drop asked.length=x:=by
 rw[List.drop_append_of_le_length (by rw[ycb];exact Nat.le_refl _),List.drop_eq_nil_of_le (by rw[ycb];exact Nat.le_refl _)];rfl
structure Stk (S:Sto) (asked:List Bool) (g:GR):Prop where
 l:g.l=asked.reverse.map cB
 ok:g.Ok 5 1 S
theorem Stk.some {S:Sto} {b:Bool} {asked:List Bool} {g:GR} (h:Stk S (b::asked) g): ∃bk cap j,g.cell = .v (.slice (some ⟨bk,0,none⟩) (asked.length+1) cap)∧zaf S bk=some (.cells (stk asked++(V.v (.int .u8 (pB b))::j)) 5)∧asked.length+1≤cap ∧
  ∃g',g'.cell = .v (.slice (some ⟨bk,0,none⟩) asked.length cap)∧Stk S asked g':=by
 obtain⟨h1,h2⟩:=h
 obtain⟨gl,blk⟩:=g
 dsimp only at h1
 subst h1
 cases blk with
 | none =>
  have:((b::asked).reverse.map cB).length=0:=by rw[show(b::asked).reverse.map cB= []from h2];rfl
  simp at this
 | some x =>
  obtain⟨bk,cap,j⟩:=x
  have hlk:=h2.look
  rw[zrh,zxg,List.append_assoc]at hlk
  have hle:=h2.le
  have hln:=h2.len
  simp only[List.length_map,List.length_reverse,List.length_cons]at hle hln
  refine⟨bk,cap,j,by rw[GR.cell_some];simp,hlk,hle,⟨asked.reverse.map cB,Option.some (bk,cap,V.v (.int .u8 (pB b))::j)⟩,by rw[GR.cell_some];simp,rfl,?_⟩
  refine⟨by rw[zrh];exact hlk,by simp only[List.length_map,List.length_reverse,List.length_cons];omega,by simp;omega,h2.cap,fun v hv=>?_,fun v hv=>h2.lf v ?_,fun c hc=>h2.ll c ?_⟩
  ·rcases List.mem_cons.1 hv with rfl|hv
   ·rfl
   ·exact h2.jf v hv
  ·rw[zrh]at hv ⊢
   rw[zxg];exact List.mem_append_left _ hv
  ·rw[List.reverse_cons,List.map_append];exact List.mem_append_left _ hc
theorem Stk.len {S:Sto} {asked:List Bool} {g:GR} (h:Stk S asked g):(g.cell = .v (.slice none 0 0)∧asked= [])∨ ∃bk cap,g.cell = .v (.slice (Option.some ⟨bk,0,none⟩) asked.length cap):=by
 obtain⟨h1,h2⟩:=h
 obtain⟨gl,blk⟩:=g
 dsimp only at h1
 subst h1
 cases blk with
 | none =>
  have:(asked.reverse.map cB).length=0:=by rw[show asked.reverse.map cB= []from h2];rfl
  exact .inl ⟨by rw[GR.cell_none],List.eq_nil_of_length_eq_zero (by simpa using this)⟩
 | some x =>
  obtain⟨bk,cap,j⟩:=x
  exact .inr ⟨bk,cap,by rw[GR.cell_some];simp⟩
theorem yfi (s:GSet) (l:List Node) (hl:l.length≤60) (hc:PC Tryz.prog 50 [s.val] (I 0)) (r:Bool×Int)
  (hr1:zdg s l≠0→r=(false,zdg s l)) (hr2:zdg s l=0→r=match askS l with
   | none=>(false,5)
   | some (asked,typed)=>if(l.length:Int)=0 then(false,0)else if 0<(asked.length:Int)then(false,6)else if typed=false then(false,15)else(numS (l.headD ⟨0,0,0,0,0,false,[]⟩).op,0)) :
  PC Tryz.prog 53 [s.val,zli l] (.tup [Bo r.1,I r.2]):=by
 have e60: ¬(60:Int)<(l.length:Int):=by omega
 refine DC.of_run Tryz.func53 rfl Tryz.ntmps53 Tryz.results53 (by simp) (fun _ _=>?_);simp only[zag,zai,go_sem,Nat.zero_add,Nat.reduceAdd]
 repeat' (first|refine yJT ?_|refine zan inferInstance (hc) yR yT ?_|(refine zap (t:=2) yU yE yU ?_;simp only[yS3])|fail)
 refine zbu [1,2,27,28] yN (fun(i:Nat)=> [(29,I i)]) (fun(i:Nat)=>i≤l.length∧zdg s l=zdg s (l.drop i)) (fun(i:Nat)=>l.length-i) 0 yS ⟨Nat.zero_le _,rfl⟩ (fun i B hI hB=>?_);try dsimp only at hI hB;simp only[zad,zae]
 by_cases hi:i<l.length
 ·have hi':(i:Int)<(l.length:Int):=by omega
  have hg:=hI.2
  rw[yas hi]at hg
  have hp:=ynl s l[i]
  by_cases hz:zek s l[i]=0
  ·rw[hz]at hp
   rw[if_neg (by omega)]at hg
   have H:=Box.mk hg
   clear hr1 hr2 hg hz hI
   repeat' (first|refine yJT ?_|(refine zbq (t:=8) yU yE yU (fun _=>yE) yE yU yV1 (fun _=>yN1) ?_;simp only[go_sem])|refine zan inferInstance (hp) yR yT ?_|fail)
   exact DS.back (hB (i+1) _ _ (by omega) (⟨by omega,H.out⟩) yS yS (fun b o e=>by first|exact e|(simp only[zaa];split <;> simp_all)))
  ·rw[if_pos hz]at hg
   rw[hr1 (by rw[hg];exact hz),hg]
   clear hr1 hr2 hg hI hB
   repeat' (first|refine yJT ?_|(refine zbq (t:=8) yU yE yU (fun _=>yE) yE yU yV1 (fun _=>yN1) ?_;simp only[go_sem])|refine zan inferInstance (hp) yR yT ?_|refine zao [] yE trivial ?_|fail)
   all_goals first|rfl|(exfalso;omega)
 ·have h0:zdg s l=0:=by rw[hI.2,List.drop_eq_nil_of_le (by omega)];rfl
  have hr:=hr2 h0
  have hall:=zog h0
  have hi': ¬(i:Int)<(l.length:Int):=by omega
  have HR:=Box.mk (And.intro hr hall)
  clear hr1 hr2 hr hall h0 hI hB hi
  repeat' (first|refine yJT ?_|fail)
  have hgc:GR.cell ⟨[],none⟩ = .v (.slice none 0 0):=rfl
  refine zbl [1,40,41] yN (fun(x:Nat×List Bool×Bool×GR×Sto)=> [(10,x.2.2.2.1.cell),(11,Bo x.2.2.1),(42,I x.1)]) (fun(x:Nat×List Bool×Bool×GR×Sto)=>x.2.2.2.2) (fun(x:Nat×List Bool×Bool×GR×Sto)=>x.1≤l.length∧x.2.1.length≤3*x.1∧(x.1=0→x.2.1= []∧x.2.2.1=true)∧(0<x.1→askS l=zih (l.drop x.1) x.2.1 x.2.2.1)∧Stk x.2.2.2.2 x.2.1 x.2.2.2.1) (fun(x:Nat×List Bool×Bool×GR×Sto)=>l.length-x.1) (0,[],true,⟨[],none⟩,[]) yS (fun b o e=>by exact e) ⟨Nat.zero_le _,Nat.zero_le _,fun _=>⟨rfl,rfl⟩,fun h=>absurd h (by decide),rfl,rfl⟩ (fun x B hI hB=>?_);try dsimp only at hI hB;simp only[zad,zae]
  obtain⟨k,asked,typed,g,S⟩:=x
  dsimp only at hI hB
  obtain⟨i1,i2,i3,i4,i5⟩:=hI
  by_cases hk:k<l.length
  ·have hk':(k:Int)<(l.length:Int):=by omega
   have hall:=HR.out.2 l[k] (List.getElem_mem hk)
   have hs:=znu l[k].op
   rw[zvp,if_pos hall]at hs
   have HB:=Box.mk hB
   have HI:=Box.mk (And.intro i3 i4)
   clear hB i3 i4
   obtain⟨sc,hsc⟩: ∃sc,sc=(zrk l[k].op).cells:=⟨_,rfl⟩
   repeat' (first|refine yJ ?_|fail)
   refine ysp yG yR ?_
   repeat' (first|refine yJ ?_|(refine zbq (t:=14) yU yE yU (fun _=>yE) yE yU yV1 (fun _=>yN1) ?_;simp only[go_sem])|(refine zjh (t:=13) yU yU yU yE yU (fun _=>yE) (fun _=>yE) yE yU yV1 (fun _=>yN1) ?_;simp only[go_sem])|refine zan inferInstance (hs) yR yT ?_|fail)
   refine zzu (fun y:List Bool×Bool×GR=> [(10,y.2.2.cell),(11,Bo y.2.1),(42,I k),(1,zli l),(40,zli l),(41,I l.length),(14, .plc (zrk l[k].op).cells)]) (fun _=>S) (fun y=>Stk S y.1 y.2.2∧y.1.length≤3*k∧askS l=zih (l.drop (k+1)) ((useS l[k].op).parts++y.1) y.2.1) ?_ (fun y hy=>?_)
   ·by_cases hk0:k=0
    ·subst hk0
     obtain⟨e1,e2⟩:=HI.out.1 rfl
     subst e1;subst e2
     repeat' (first|refine yJT ?_|fail)
     exact DS.back ⟨([],true,g),⟨i5,Nat.zero_le _,ybp hk⟩,yS,fun b o e=>e⟩
    ·have hk1:(0:Int)<(k:Int):=by omega
     have ha:=HI.out.2 (by omega)
     cases asked with
     | nil =>
      have hr:=HR.out.1
      rw[ha,ybr hk]at hr
      rw[hr]
      clear hr ha
      obtain⟨gl,blk⟩:=g
      have hgl:gl= []:=i5.l
      subst hgl
      cases blk with
      | none =>
       simp only[GR.cell_none]
       repeat' (first|refine yJT ?_|refine zao [] yE trivial ?_|fail)
       all_goals first|rfl|(exfalso;omega)
      | some x =>
       obtain⟨bk,cap,j⟩:=x
       simp only[GR.cell_some,List.length_nil]
       repeat' (first|refine yJT ?_|refine zao [] yE trivial ?_|fail)
       all_goals first|rfl|(exfalso;omega)
     | cons b asked =>
      obtain⟨bk,cap,j,q1,q2,q3,g',q4,q5⟩:=i5.some
      have hN:((asked.length+1:Nat):Int)-1=(asked.length:Int):=by omega
      have hw:IntKind.i64.wrap (asked.length:Int)=(asked.length:Int):=IntWalk.i64_in _ (by simp only[List.length_cons]at i2;omega)
      have hd:=yhn asked (V.v (.int .u8 (pB b))::j)
      have hne: ¬((asked.length+1:Nat):Int)=0:=by omega
      have hpb:decide (pB b=110)=b:=by cases b <;> rfl
      rw[ybq hk]at ha
      have i2':asked.length≤3*k:=by simp only[List.length_cons]at i2;omega
      have HA:=Box.mk (And.intro q5 (And.intro i2' ha))
      have hq4:g'.cell = .v (.slice (some ⟨bk,0,none⟩) (asked.length-0) (cap-0)):=q4
      clear q5 ha q4 HI i5
      have hnum:(zrk l[k].op).number=numS l[k].op:=rfl
      rw[q1]
      cases typed
      ·repeat' (first|refine yJT ?_|refine zbe (id:=22) [0,1,2,3,4,5,6,7,8,9,10] 11 yKR mixed yP1 yP2 ?_|(with_reducible first|refine zav yU yU yU yE ?_|(refine zji yU yE ?_;refine zpf ?_)|refine zbg ?_)|fail)
       exact DS.back ⟨(asked,false,g'),HA.out,yS,fun b o e=>e⟩
      ·repeat' (first|refine yJT ?_|refine zbe (id:=22) [0,1,2,3,4,5,6,7,8,9,10] 11 yKR mixed yP1 yP2 ?_|(with_reducible first|refine zav yU yU yU yE ?_|(refine zji yU yE ?_;refine DGG.run ?_)|refine zbg ?_)|fail)
       exact DS.back ⟨(asked,true&&b == numS l[k].op,g'),HA.out,yS,fun b o e=>e⟩
   ·obtain⟨asked1,typed1,g1⟩:=y
    dsimp only at hy ⊢
    have hpl:=ycx l[k].op
    have hsz:(zmz (zrk l[k].op).parts).size=(useS l[k].op).parts.length:=zqg _
    repeat' (first|refine yJ ?_|fail)
    refine zbl [1,11,14,40,41,42] yN (fun(z:Nat×GR×Sto)=> [(10,z.2.1.cell),(16, .v (.int .i64 ((z.1:Int)-1)))]) (fun(z:Nat×GR×Sto)=>z.2.2) (fun(z:Nat×GR×Sto)=>z.1≤(useS l[k].op).parts.length∧Stk z.2.2 ((useS l[k].op).parts.drop z.1++asked1) z.2.1) (fun(z:Nat×GR×Sto)=>z.1) ((useS l[k].op).parts.length,g1,S) yS (fun b o e=>by exact e) ⟨Nat.le_refl _,by rw[List.drop_length];exact hy.1⟩ (fun z B hI hB=>?_);try dsimp only at hI hB;simp only[zad,zae]
    obtain⟨q,g2,S2⟩:=z
    dsimp only at hI hB
    by_cases hq:q=0
    ·have hq1: ¬(0:Int)≤(q:Int)-1:=by omega
     have hI2:Stk S2 ((useS l[k].op).parts++asked1) g2:=by have:=hI.2;rw[hq]at this;exact this
     clear hq hI
     repeat' (first|refine yJT ?_|fail)
     exact DS.back (HB.out (k+1,(useS l[k].op).parts++asked1,typed1,g2,S2) _ _ (by dsimp only;omega) ⟨by dsimp only;omega,by simp only[List.length_append];omega,fun h=>absurd h (by omega),fun _=>hy.2.2,hI2⟩ yS yS (fun b o e=>by exact e))
    ·have hq1:(0:Int)≤(q:Int)-1:=by omega
     obtain⟨c,hc1,hc2⟩:=ycz (l:=(useS l[k].op).parts) (k:=q-1) (by omega)
     have hqt:((q:Int)-1).toNat=q-1:=by omega
     obtain⟨n1,n2,n3⟩:=hI
     have hln:g2.l.length≤1000:=by
      rw[n2];simp only[List.length_map,List.length_reverse,List.length_append,List.length_drop];omega
     have hgc:=g2.cell_copy
     repeat' (first|refine yJT ?_|fail)
     refine ygs (s:=zmz (zrk l[k].op).parts) (b:=c) (by decide) yU yH yH hq1 (by rw[hqt];exact hc1) ?_
     refine zbw yU yG yG ?_
     simp only[go_sem,Nat.zero_add,Nat.reduceAdd]
     refine zcf rfl rfl yR (zeb (g:=g2) (ml:= [[.v (.int .u8 (c.toNat:Nat))]]) rfl yH yH yR yR (by decide) yH n3 yH yH (by simp) (by intro x hx;rw[List.mem_singleton]at hx;subst hx;rfl) ⟨by simp only[List.length_cons,List.length_nil];omega,by decide⟩) (fun u2 E' S4 hu2=>?_)
     obtain⟨rfl,b',cap',junk',rfl,m1,m2,m3⟩:=hu2
     have hl3:g2.l++List.map (fun x=>List.map V.copy x) [[V.v (Value.int IntKind.u8 (c.toNat:Nat))]]=((useS l[k].op).parts.drop (q-1)++asked1).reverse.map cB:=by
      have hdr:(useS l[k].op).parts.drop (q-1)=(useS l[k].op).parts[q-1]::(useS l[k].op).parts.drop q:=by
       rw[List.drop_eq_getElem_cons (by omega)]
       congr 2;omega
      rw[n2,hdr,hc2,List.cons_append,List.reverse_cons,List.map_append]
      rfl
     have HS:Stk S4 ((useS l[k].op).parts.drop (q-1)++asked1) ⟨g2.l++List.map (fun x=>List.map V.copy x) [[V.v (Value.int IntKind.u8 (c.toNat:Nat))]],some (b',cap',junk')⟩:=⟨hl3,m1⟩
     clear m1 m2 m3 hl3
     generalize (GR.mk (g2.l++List.map (fun x=>List.map V.copy x) [[V.v (Value.int IntKind.u8 (c.toNat:Nat))]]) (some (b',cap',junk')))=g3 at *
     have hgc3:=g3.cell_copy
     have hqc:((q-1:Nat):Int)=(q:Int)-1:=by omega
     clear hc1 hc2 n2 hgc
     simp only[zbk]
     repeat' (first|refine yJ ?_|fail)
     exact DS.back (hB (q-1,g3,S4) _ _ (by dsimp only;omega) ⟨by dsimp only;omega,HS⟩ yS yS (fun b o e=>by exact e))
  ·have hk': ¬(k:Int)<(l.length:Int):=by omega
   have hke:k=l.length:=by omega
   have hr:=HR.out.1
   have hall:=HR.out.2
   have hA:askS l=some (asked,typed):=by
    by_cases h0:k=0
    ·obtain⟨e1,e2⟩:=i3 h0
     have:l= []:=List.eq_nil_of_length_eq_zero (by omega)
     rw[this,e1,e2];rfl
    ·rw[i4 (by omega),List.drop_eq_nil_of_le (by omega)];rfl
   rw[hA]at hr
   dsimp only at hr
   have hln: ∃v,g.cell=v∧((v = .v (.slice none 0 0)∧asked= [])∨ ∃bk cap,v = .v (.slice (some ⟨bk,0,none⟩) asked.length cap)):=⟨_,rfl,i5.len⟩
   clear i3 i4 i5 hA hB HR
   by_cases h1:(l.length:Int)=0
   ·rw[if_pos h1]at hr
    rw[hr];clear hr
    obtain⟨v,hv,⟨rfl,rfl⟩|⟨bk,cap,rfl⟩⟩:=hln <;> rw[hv]
    all_goals repeat' (first|refine yJT ?_|refine zao [] yE trivial ?_|fail)
    all_goals first|rfl|(exfalso;omega)
   rw[if_neg h1]at hr
   by_cases h2:0<(asked.length:Int)
   ·rw[if_pos h2]at hr
    rw[hr];clear hr
    obtain⟨v,hv,⟨rfl,rfl⟩|⟨bk,cap,rfl⟩⟩:=hln <;> rw[hv]
    all_goals repeat' (first|refine yJ ?_|(with_reducible (refine zax yE ?_;first|refine zds (fun _=>?_) (fun _=>?_)|refine zba ?_|refine zbj ?_|refine ybv (fun _=>?_) (fun _=>?_)))|refine zao [] yE trivial ?_|fail)
    all_goals first|rfl|(exfalso;omega)|(exfalso;simp at h2;done)
   rw[if_neg h2]at hr
   cases typed with
   | false =>
    rw[if_pos rfl]at hr
    rw[hr];clear hr
    obtain⟨v,hv,⟨rfl,rfl⟩|⟨bk,cap,rfl⟩⟩:=hln <;> rw[hv]
    all_goals repeat' (first|refine yJ ?_|(with_reducible (refine zax yE ?_;first|refine zds (fun _=>?_) (fun _=>?_)|refine zba ?_|refine zbj ?_))|refine zao [] yE trivial ?_|fail)
    all_goals first|rfl|(exfalso;omega)
   | true =>
    rw[if_neg (by decide)]at hr
    have h3:0<l.length:=by omega
    have hs:=znu l[0].op
    rw[zvp,if_pos (hall l[0] (List.getElem_mem h3))]at hs
    have hh:l.headD ⟨0,0,0,0,0,false,[]⟩=l[0]:=by
     cases l with
     | nil=>simp at h3
     | cons x r=>rfl
    rw[hh]at hr
    rw[hr];clear hr
    obtain⟨v,hv,⟨rfl,rfl⟩|⟨bk,cap,rfl⟩⟩:=hln <;> rw[hv]
    all_goals repeat' (first|refine yJ ?_|(with_reducible (refine zax yE ?_;first|refine zds (fun _=>?_) (fun _=>?_)|refine zbj ?_))|(refine zbq (t:=17) yU yE yU (fun _=>yE) yE yU yV1 (fun _=>yN1) ?_;simp only[go_sem])|refine zan inferInstance (hs) yR yT ?_|refine zao [] yE trivial ?_|fail)
    all_goals first|rfl|(exfalso;omega)
theorem zmh (s:GSet) (l:List Node):zpg s l:=by
 rw[zpg]
 have hc:=zfn s
 by_cases h0:zbo s=0
 ·rw[h0]at hc
  by_cases h1:60<(l.length:Int)
  ·have e:zhj s l=(false,5):=by rw[zhj,if_neg (by omega),if_pos h1]
   rw[e]
   refine DC.of_run Tryz.func53 rfl Tryz.ntmps53 Tryz.results53 (by simp) (fun _ _=>?_);simp only[zag,zai,go_sem,Nat.zero_add,Nat.reduceAdd]
   repeat' (first|refine yJT ?_|refine zan inferInstance (hc) yR yT ?_|(refine zap (t:=2) yU yE yU ?_;simp only[yS3])|refine zao [] yE trivial ?_|fail)
   all_goals first|rfl|(exfalso;omega)
  ·refine yfi s l (by omega) hc _ (fun h=>?_) (fun h=>?_)
   ·rw[zhj,if_neg (by omega),if_neg h1,if_pos h]
   ·rw[zhj,if_neg (by omega),if_neg h1,if_neg (by omega)]
    cases askS l with
    | none=>rfl
    | some x=>rfl
 ·have e:zhj s l=(false,zbo s):=by rw[zhj,if_pos h0]
  rw[e]
  refine DC.of_run Tryz.func53 rfl Tryz.ntmps53 Tryz.results53 (by simp) (fun _ _=>?_);simp only[zag,zai,go_sem,Nat.zero_add,Nat.reduceAdd]
  repeat' (first|refine yJT ?_|refine zan inferInstance (hc) yR yT ?_|(refine zap (t:=2) yU yE yU ?_;simp only[yS3])|refine zao [] yE trivial ?_|fail)
  all_goals first|rfl|(exfalso;omega)
end Go.XL
namespace Go.XL
open Go.Proofs
set_option maxRecDepth 100000
set_option maxHeartbeats 8000000
theorem ypv (h:House):h.CondsPC:=⟨zmh _ _,fun i hi=>zmh _ _⟩
theorem yhe (p:Pattern) (o:Bool):PC Tryz.prog 26 [p.val,Bo o] (I (zkj p o)):=by
 refine DC.of_run Tryz.func26 rfl Tryz.ntmps26 Tryz.results26 (by simp) (fun _ _=>?_);simp only[zag,zai,go_sem,Nat.zero_add,Nat.reduceAdd]
 repeat' (first|refine yJ ?_|(with_reducible (refine zax yE ?_;refine yoq (fun _=>?_) (fun _=>?_)))|(refine zap (t:=2) yU yE yU ?_;simp only[yS3])|refine zao [] yE trivial ?_|fail)
 all_goals (simp only[tupV,zkj];simp[*])
theorem ylj {P:Program} {n:Nat} {r:Rr} {Q:VEnv→Sto→Prop} {k:List Fr} {E:VEnv} {S:Sto} {t:Nat} {f:FuncId} {cs:List Value} (hE:zbr E t=some (.fn f [] (cs.map V.v))) (q:DS P n r Q k ((t, .v (.func (.func f) #[] cs.toArray))::E) S):DS P n r Q k E S:=by
 intro K W a w ⟨K',D,hv,hold,env,hb,ha,s⟩ hw
 refine q K W a w ⟨K',D,hv,hold,env,hb,ha,⟨s.pre,fun u v e=>?_,s.obj,s.held,s.base,s.vbase⟩⟩ hw
 simp only[zbr]at e
 by_cases hu:t=u
 ·subst hu
  simp only[if_true,Option.some.injEq]at e;subst e
  obtain⟨y,e1,e2,_⟩:=s.slot t _ hE
  simp only[V.Rl]at e2
  obtain⟨xs,ys,rfl,h1,h2⟩:=e2
  have key: ∀(l:List Value) (ys:List Value),RlL hv (l.map V.v) ys→ys=l:=by
   intro l
   induction l with
   | nil=>intro ys h;simpa [RlL] using h
   | cons a l ih =>
    intro ys h
    simp only[List.map_cons,RlL,V.Rl]at h
    obtain⟨z,zs,rfl,rfl,h3⟩:=h
    rw[ih _ h3]
  have hx:xs= []:=by simpa [RlL] using h1
  rw[key _ _ h2,hx]at e1
  exact⟨_,e1,by simp only[V.Rl],trivial⟩
 ·rw[if_neg hu]at e;exact s.slot u v e
theorem zco {d b:Nat} {o:Ob} {r:Sto} (h:zaf ((d,o)::r) b=none): ¬d=b∧zaf r b=none:=by
 simp only[zaf]at h
 by_cases e:d=b
 ·rw[if_pos e]at h;cases h
 ·rw[if_neg e]at h;exact⟨e,h⟩
def zrc (id:Nat):Code→Option Code
 | .seq a b=>if(match a with | .region i _ _=>i == id|_=>false)then some b else match zrc id a with|some x=>some x|none=>zrc id b
 | .cond _ a b=>match zrc id a with|some x=>some x|none=>zrc id b
 | .block _ c=>zrc id c
 | .loop c=>zrc id c
 | .scope c=>zrc id c
 | _=>none
theorem zwn (h:House) (L:List Int) (hok:PatsOk h) (hLl:L.length=h.patterns.length) (hLb: ∀v∈L,0≤v∧v≤1000000) (b11 bv bc b14 bm b15 b16:Nat) (d1: ¬b11=bc) (d2: ¬bv=bc) (d3: ¬bc=b14) (d4: ¬b11=b14) (d5: ¬bv=b14) (d6: ¬b14=bm) (d7: ¬bc=bm) (d8: ¬b11=bm) (d9: ¬bv=bm) (d10: ¬bm=b15) (d11: ¬b14=b15) (d12: ¬bc=b15) (d13: ¬b11=b15) (d14: ¬bv=b15) (d15: ¬b15=b16) (d16: ¬bm=b16) (d17: ¬b14=b16) (d18: ¬bc=b16) (d19: ¬b11=b16) (d20: ¬bv=b16) (d21: ¬b11=bv)
  {v0:VH} {hk:Kn v0} {cd:Code} (h3:Tryz.f9.body.bind (zrc 20)=some cd) :
  DS Tryz.prog 118 ⟨none,v0,hk⟩ (FinV Tryz.prog [.tmp 6, .tmp 7, .tmp 8] fun u _=>u = .tup [ints ((zga (zoz h L).2).map natI),I (zoz h L).1,I 0]) [.code cd]
   [(6, .own false 3 1 []),(11, .v (ptrV b11)),(14, .v (ptrV b14)),(15, .v (ptrV b15)),(16, .v (ptrV b16))] [(b11, .cells [.v (.slice (some ⟨bv,0,none⟩) h.patterns.length h.patterns.length)] 22),(bv, .cells (L.map I) 3),(b15, .cells [.v (.map (some bm))] 80),(bm, .raw (.map #[] 0)),(b14, .cells [.v (.slice (some ⟨bc,0,none⟩) h.patterns.length h.patterns.length)] 78),(bc, .cells (((List.range h.patterns.length).map (clM h)).map UN) 82),(b16, .cells [.v .nilFunc] 81)]:=by
 have hm:=hok.many
 obtain rfl:=Option.some.inj ((show Tryz.f9.body.bind (zrc 20)=some _ from rfl).symm.trans h3)
 clear h3
 have s1:=fun e=>d1 (Eq.symm e)
 have s2:=fun e=>d2 (Eq.symm e)
 have s3:=fun e=>d3 (Eq.symm e)
 have s4:=fun e=>d4 (Eq.symm e)
 have s5:=fun e=>d5 (Eq.symm e)
 have s6:=fun e=>d6 (Eq.symm e)
 have s7:=fun e=>d7 (Eq.symm e)
 have s8:=fun e=>d8 (Eq.symm e)
 have s9:=fun e=>d9 (Eq.symm e)
 have s10:=fun e=>d10 (Eq.symm e)
 have s11:=fun e=>d11 (Eq.symm e)
 have s12:=fun e=>d12 (Eq.symm e)
 have s13:=fun e=>d13 (Eq.symm e)
 have s14:=fun e=>d14 (Eq.symm e)
 have s15:=fun e=>d15 (Eq.symm e)
 have s16:=fun e=>d16 (Eq.symm e)
 have s17:=fun e=>d17 (Eq.symm e)
 have s18:=fun e=>d18 (Eq.symm e)
 have s19:=fun e=>d19 (Eq.symm e)
 have s20:=fun e=>d20 (Eq.symm e)
 have s21:=fun e=>d21 (Eq.symm e)
 refine DS.seq ?_
 refine zkh ?_
 refine zak yR yR yG ?_
 refine ylj (t:=84) (cs:=zuv b15 b16 b14 b11) yR ?_
 repeat' (first|refine yJ ?_|(refine DS.store yR yE yE yE yE yU yQ ?_;simp only[yS1];try simp only[yS2,Nat.reduceEqDiff,↓reduceIte])|fail)
 refine zbs (S':= [(b11, .cells [.v (.slice (some ⟨bv,0,none⟩) h.patterns.length h.patterns.length)] 22),(bv, .cells (L.map I) 3),(b15, .cells [.v (.map (some bm))] 80),(bm, .raw (.map #[] 0)),(b14, .cells [.v (.slice (some ⟨bc,0,none⟩) h.patterns.length h.patterns.length)] 78),(bc, .cells (((List.range h.patterns.length).map (clM h)).map UN) 82),(b16, .cells [.v (Value.func (.func 28) #[] (zuv b15 b16 b14 b11).toArray)] 81)]) (fun b o e=>by simp only[setS,↓reduceIte,if_neg d15,if_neg d16,if_neg d17,if_neg d18,if_neg d19,if_neg d20];exact e) ?_
 have hall0:(0:Int)=((allK L 0:Nat):Int):=rfl
 refine zbu [6,16,85,86] yN (fun(k:Nat)=> [(17,UN (allK L k)),(87,I k)]) (fun(k:Nat)=>k≤h.patterns.length) (fun(k:Nat)=>h.patterns.length-k) 0 yS (Nat.zero_le _) (fun k B hI hB=>?_);try dsimp only at hI hB;simp only[zad,zae]
 have hmk:=Nat.lt_of_lt_of_le (zwt L k) (show 2 ^ k≤2 ^ 64 from Nat.pow_le_pow_right (by omega) (by omega))
 clear hall0
 by_cases hkn:k<h.patterns.length
 ·have hkn':(k:Int)<(h.patterns.length:Int):=by omega
  have hkL:k<L.length:=by omega
  have hgd:L.getD k 0=L[k]:=by rw[List.getD_eq_getElem?_getD,List.getElem?_eq_getElem hkL];rfl
  by_cases hpos:0<L[k]
  ·have hnx:allK L (k+1)=allK L k ||| 2 ^ k:=by rw[allK,hgd,if_pos hpos]
   have s1:bop Tryz.prog .shl 82 (.int .u64 1) (.int .i64 (k:Int))=some (.int .u64 ((2 ^ k:Nat):Int)):=znn (by omega)
   have o1:bop Tryz.prog .or 82 (.int .u64 (allK L k:Nat)) (.int .u64 ((2 ^ k:Nat):Int))=some (.int .u64 ((allK L k ||| 2 ^ k:Nat):Int)):=zsj (by simpa using hmk) (show _<2 ^ 64 from Nat.pow_lt_pow_right (by omega) (by omega))
   have HN:=Box.mk hnx
   clear hgd hnx
   repeat' (first|refine yJT ?_|fail)
   exact DS.back (hB (k+1) _ _ (by omega) (by omega) (by rw[HN.out];simp (disch:=omega) only[go_sem,dopV,yV0,↓reduceIte,Nat.reduceEqDiff,Nat.reduceLT,Nat.reduceLeDiff,Nat.reduceAdd,Nat.reduceMul,Nat.reduceSub,Int.reduceToNat,Int.reduceLT,Int.reduceLE,Int.reduceEq,IntWalk.toNatUp,IntWalk.iteOmega,IntWalk.i64_in,V.flat,V.one,zil,zjz,zjl,zlb,and_self,Int.natCast_add,Int.natCast_one,Int.natCast_zero,Int.zero_add,Int.reduceAdd,List.map_append,ints,rows, *]) yS (fun b o e=>by exact e))
  ·have hnx:allK L (k+1)=allK L k:=by rw[allK,hgd,if_neg hpos]
   have HN:=Box.mk hnx
   clear hgd hnx
   repeat' (first|refine yJT ?_|fail)
   exact DS.back (hB (k+1) _ _ (by omega) (by omega) (by rw[HN.out];simp (disch:=omega) only[go_sem,dopV,yV0,↓reduceIte,Nat.reduceEqDiff,Nat.reduceLT,Nat.reduceLeDiff,Nat.reduceAdd,Nat.reduceMul,Nat.reduceSub,Int.reduceToNat,Int.reduceLT,Int.reduceLE,Int.reduceEq,IntWalk.toNatUp,IntWalk.iteOmega,IntWalk.i64_in,V.flat,V.one,zil,zjz,zjl,zlb,and_self,Int.natCast_add,Int.natCast_one,Int.natCast_zero,Int.zero_add,Int.reduceAdd,List.map_append,ints,rows, *]) yS (fun b o e=>by exact e))
 ·have hkn': ¬(k:Int)<(h.patterns.length:Int):=by omega
  have hke:k=h.patterns.length:=by omega
  have hal:allK L k=allK L h.patterns.length:=by rw[hke]
  clear hB hke
  repeat' (first|refine yJT ?_|fail)
  have hlt:allK L h.patterns.length<2 ^ h.patterns.length:=zwt L _
  have hfl:Fl (VHs [(b15,[.map (some bm)],80),(b16,[Value.func (.func 28) #[] (zuv b15 b16 b14 b11).toArray],81),(b14,[.slice (some ⟨bc,0,none⟩) h.patterns.length h.patterns.length],78),(bc,((List.range h.patterns.length).map (clM h)).map (fun m=>Value.int .u64 (m:Nat)),82),(b11,[.slice (some ⟨bv,0,none⟩) h.patterns.length h.patterns.length],22),(bv,L.map (fun x=>Value.int .i64 x),3)]) b15 b16 b14 b11 bm bc bv h.patterns.length (clM h) (fun i=>L.getD i 0):=by
   refine⟨?_,?_,?_,fun i hi=>?_,?_,fun i hi=>?_⟩
   ·simp only[zfu,VHs,↓reduceIte];rfl
   ·simp only[zfu,VHs,if_neg s15,↓reduceIte];rfl
   ·simp only[zfu,VHs,if_neg d11,if_neg d17,↓reduceIte];rfl
   ·simp only[zfu,VHs,if_neg d12,if_neg d18,if_neg d3,↓reduceIte]
    simp[hi]
   ·simp only[zfu,VHs,if_neg d13,if_neg d19,if_neg d4,if_neg d1,↓reduceIte];rfl
   ·simp only[zfu,VHs,if_neg d14,if_neg d20,if_neg d5,if_neg d2,if_neg s21,↓reduceIte]
    simp[hLl,hi]
  have hvs: ∀i,0≤L.getD i 0∧L.getD i 0≤1000000:=fun i=>by
   rw[List.getD_eq_getElem?_getD]
   cases e:L[i]? with
   | none=>exact⟨Int.le_refl _,by decide⟩
   | some v=>exact hLb v (List.mem_of_getElem? e)
  have hgo:=ydv hfl hm (fun i=>by simpa using ypx h i) hvs (allK L h.patterns.length+1) (allK L h.patterns.length) (by omega) hlt [(bm, .raw (.map #[] 0))] ⟨_,_,_,by rw[zaa,if_pos rfl],MapIs.empty _ _,fun k hk v hv=>by cases hv⟩
  refine ylo (args:= [UN (allK L h.patterns.length)]) [(b15,[.map (some bm)],80),(b16,[Value.func (.func 28) #[] (zuv b15 b16 b14 b11).toArray],81),(b14,[.slice (some ⟨bc,0,none⟩) h.patterns.length h.patterns.length],78),(bc,((List.range h.patterns.length).map (clM h)).map (fun m=>Value.int .u64 (m:Nat)),82),(b11,[.slice (some ⟨bv,0,none⟩) h.patterns.length h.patterns.length],22),(bv,L.map (fun x=>Value.int .i64 x),3)] ?_ ?_ inferInstance yH (by(simp (disch:=omega) only[go_sem,dopV,yV0,↓reduceIte,Nat.reduceEqDiff,Nat.reduceLT,Nat.reduceLeDiff,Nat.reduceAdd,Nat.reduceMul,Nat.reduceSub,Int.reduceToNat,Int.reduceLT,Int.reduceLE,Int.reduceEq,IntWalk.toNatUp,IntWalk.iteOmega,IntWalk.i64_in,V.flat,V.one,hal];try exact rfl)) hgo ?_ (by decide) (fun u S' hu=>?_)
  ·simp[*]
   exact⟨⟨s11,s12,s13,s14⟩,⟨s17,s18,s19,s20⟩,⟨s3,s4,s5⟩,s1,s2⟩
  ·intro x hx
   simp only[List.mem_cons,List.not_mem_nil,or_false]at hx
   rcases hx with rfl|rfl|rfl|rfl|rfl|rfl
   ·simp only[zaa,if_neg d13,if_neg d14,↓reduceIte];rfl
   ·simp only[zaa,if_neg d19,if_neg d20,if_neg d15,if_neg d16,if_neg d17,if_neg d18,↓reduceIte];rfl
   ·simp only[zaa,if_neg d4,if_neg d5,if_neg s11,if_neg s6,↓reduceIte];rfl
   ·simp only[zaa,if_neg d1,if_neg d2,if_neg s12,if_neg s7,if_neg s3,↓reduceIte,List.map_map];rfl
   ·simp only[zaa,↓reduceIte];rfl
   ·simp only[zaa,if_neg d21,↓reduceIte,List.map_map];rfl
  ·intro b o e
   simp only[yfd,delS,↓reduceIte,if_neg d13,if_neg d14,if_neg d10,if_neg d11,if_neg d12,if_neg s15,if_neg d19,if_neg d20,if_neg d16,if_neg d17,if_neg d18,if_neg d4,if_neg d5,if_neg s6,if_neg d3,if_neg d1,if_neg d2,if_neg s7,if_neg s8,if_neg s21,if_neg s9]
   exact e
  obtain⟨rfl,-⟩:=hu
  rw[show zib (fun i k=>(clM h i).testBit k) (fun i=>L.getD i 0) (allK L h.patterns.length)=zoz h L from rfl]
  have hb64:(zoz h L).2<18446744073709551616:=zrv _ fun j hj=>(zwr _ j ((zlu _ _ _ _ (Nat.le_refl _)).subset hj)).1
  generalize zoz h L=bx at *
  clear hgo hfl hvs hlt hal
  repeat' (first|refine yJ ?_|(refine zbq (t:=20) yU yE yU (fun _=>yE) yE yU yV1 (fun _=>yN1) ?_;simp only[go_sem])|fail)
  refine zbu [20] yN (fun(y:List Nat×Nat)=> [(6, .own false 3 1 ((y.1.map natI).map cI)),(21,UN y.2)]) (fun(y:List Nat×Nat)=>y.2<18446744073709551616∧zga bx.2=y.1++zga y.2) (fun(y:List Nat×Nat)=>y.2) ([],bx.2) yS ⟨hb64,rfl⟩ (fun y B hI hB=>?_);try dsimp only at hI hB;simp only[zad,zae]
  obtain⟨acc,s⟩:=y
  dsimp only at hI hB
  obtain⟨i1,i2⟩:=hI
  have hlen:acc.length≤64:=by
   have h1:(zga bx.2).length≤64:=by
    have:=List.length_filter_le (fun i=>bx.2.testBit i) (List.range 64)
    simpa [zga] using this
   rw[i2,List.length_append]at h1;omega
  by_cases hs0:s=0
  ·have hs0':(s:Int)=0:=by omega
   rw[hs0,zuz,List.append_nil]at i2
   rw[i2]
   clear i2 hB hs0
   repeat' (first|refine yJT ?_|refine zbe (id:=34) [0,1,2,3] 4 yKR mixed yP1 yP2 ?_|(with_reducible refine zvi (t:=6) yU yO yE ?_;simp only[yS2,Nat.reduceEqDiff,↓reduceIte];simp only[zas,zat,Nat.reduceEqDiff,↓reduceIte])|(with_reducible refine zvi (t:=115) yU yO yE ?_;simp only[yS2,Nat.reduceEqDiff,↓reduceIte];simp only[zas,zat,Nat.reduceEqDiff,↓reduceIte])|(with_reducible first|refine zav yU yU yU yE ?_|refine zbg ?_)|refine zao [] yE trivial ?_|fail)
   all_goals first|rfl|(exfalso;omega)
  ·have hs0': ¬(s:Int)=0:=by omega
   have hcz:=ymd s i1
   have hpr:=ykv hs0 (by simpa using i1)
   have hbc2:=zva hs0 (by simpa using i1)
   have hw:IntKind.u64.wrap ((s:Int)-1)=((s-1:Nat):Int):=by rw[IntWalk.u64_in _ (by omega)];omega
   have ha:bop Tryz.prog .and 82 (.int .u64 (s:Int)) (.int .u64 ((s-1:Nat):Int))=some (.int .u64 ((s &&& (s-1):Nat):Int)):=zzp i1 (by omega)
   rw[←hpr]at hbc2
   have hle:s &&& (s-1)≤s-1:=Nat.and_le_right
   have HB:=Box.mk (And.intro hbc2 (And.intro i2 hB))
   clear hbc2 i2 hB hpr
   have hnat: ∀n:Nat,natI n=(n:Int):=fun _=>rfl
   repeat' (first|(with_reducible refine zch (t:=6) yU yO yE ?_;simp only[yS2,Nat.reduceEqDiff,↓reduceIte])|(with_reducible refine zch (t:=110) yU yO yE ?_;simp only[yS2,Nat.reduceEqDiff,↓reduceIte])|refine yJT ?_|(refine zbw yU yE yE ?_;simp only[go_sem,Nat.zero_add,Nat.reduceAdd])|(refine DS.append (mm:=false) yU yE yE yU (by decide) yE yO2 yE yX1 yLM yQ2 ?_;simp only[yS2,Nat.reduceEqDiff,↓reduceIte])|refine zan inferInstance (hcz) yR yT ?_|fail)
   exact DS.back (HB.out.2.2 (acc++ [Lib.ctz 64 s],s &&& (s-1)) _ _ (by dsimp only;omega) ⟨by dsimp only;omega,by dsimp only;rw[HB.out.2.1,HB.out.1,List.append_assoc];rfl⟩ yS yS (fun b o e=>by exact e))
theorem zwo (h : House) (holds : List Hold) (o : Bool) (ok : h.Ok) (hk : PC Tryz.prog 25 [h.val] (I 0)) (hl : holds.length ≤ 40) (r : List Int × Int × Int)
    (hr1 : zgm h.patterns.length holds (-1) ≠ 0 → r = ([], 0, zgm h.patterns.length holds (-1)))
    (hr2 : zgm h.patterns.length holds (-1) = 0 → r = ((zga (zoz h (zvm h holds o)).2).map natI, (zoz h (zvm h holds o)).1, 0)) :
    PC Tryz.prog 9 [h.val, ydt holds, Bo o] (.tup [ints r.1, I r.2.1, I r.2.2]) := by
  have hok := ypn ok
  have hm := hok.many
  have e40 : ¬ (40 : Int) < (holds.length : Int) := by omega
  refine DC.of_run Tryz.func9 rfl Tryz.ntmps9 Tryz.results9 (by simp) (fun _ _ => ?_); simp only [zag, zai, go_sem, Nat.zero_add, Nat.reduceAdd]
  repeat' (first | (with_reducible (refine zbt (t := 6) yU yO yE ?_)) | refine yJT ?_ | refine zan inferInstance (hk) yR yT ?_ | (refine zap (t := 3) yU yE yU ?_; simp only [yS3]) | (refine zkm yU yE yE yE yE yU yU ⟨by omega, by omega, by decide, by omega⟩ (fun _ hfr => ?_)) | fail)
  rename_i bv
  have hbv := hfr
  refine zbd yR yU yU (fun b11 hb11 => ?_)
  have hz : (List.map V.v (Value.slice none 0 0).cells.toList) = [.v (.slice none 0 0)] := rfl
  have hz2 : zck (.int .i64 0) h.patterns.length = (List.replicate h.patterns.length 0).map I := by
    rw [zck]
    have e : (Value.int IntKind.i64 0).cells.toList.map V.v = [I 0] := rfl
    rw [e]; simp
  rw [hz, Int.toNat_natCast, hz2]
  clear hz hz2
  have hbne : ¬ b11 = bv := fun e => by rw [e] at hb11; simp [zaf] at hb11
  repeat' (first | refine yJ ?_ | (refine DS.store yR yE yE yE yE yU yQ ?_; simp only [yS1]; try simp only [yS2, Nat.reduceEqDiff, ↓reduceIte]) | fail)
  refine zbs (S' := [(b11, .cells [.v (.slice (some ⟨bv, 0, none⟩) h.patterns.length h.patterns.length)] 22), (bv, .cells ((List.replicate h.patterns.length 0).map I) 3)]) (fun b o e => by simp only [setS, ↓reduceIte]; exact e) ?_
  refine zbl [2, 3, 11, 34, 35] yN (fun (x : Nat × Int × List Int) => [(6, .own false 3 1 []), (10, I x.2.1), (36, I x.1)]) (fun (x : Nat × Int × List Int) => [(b11, .cells [.v (.slice (some ⟨bv, 0, none⟩) h.patterns.length h.patterns.length)] 22), (bv, .cells (x.2.2.map I) 3)]) (fun (x : Nat × Int × List Int) => x.1 ≤ holds.length ∧ zgm h.patterns.length holds (-1) = zgm h.patterns.length (holds.drop x.1) x.2.1 ∧ zvm h holds o = zpo h o (holds.drop x.1) x.2.2 ∧ x.2.2.length = h.patterns.length ∧ (∀ v ∈ x.2.2, 0 ≤ v ∧ v ≤ 1000000) ∧ -1 ≤ x.2.1) (fun (x : Nat × Int × List Int) => holds.length - x.1) (0, -1, List.replicate h.patterns.length 0) yS (fun b o e => by exact e) ⟨Nat.zero_le _, rfl, rfl, by simp, fun v hv => by rw [(List.mem_replicate.1 hv).2]; decide, Int.le_refl _⟩ (fun x B hI hB => ?_); try dsimp only at hI hB; simp only [zad, zae]
  obtain ⟨k, last, L⟩ := x
  dsimp only at hI hB
  obtain ⟨i1, i2, i3, i4, i5, i6⟩ := hI
  have HB := Box.mk hB
  clear hB
  by_cases hk : k < holds.length
  · have hk' : (k : Int) < (holds.length : Int) := by omega
    rw [ybd hk] at i2
    rw [ybw hk] at i3
    by_cases c1 : 0 ≤ holds[k].pattern ∧ holds[k].pattern < (h.patterns.length : Int) ∧ 1 ≤ holds[k].times ∧ holds[k].times ≤ 1000
    · rw [if_neg (fun hc => hc c1)] at i2
      by_cases c2 : holds[k].pattern ≤ last
      · rw [if_pos c2] at i2
        rw [hr1 (by rw [i2]; decide), i2]
        clear hr1 hr2 i2 i3 i5 HB
        repeat' (first | (with_reducible (refine zbt (t := 6) yU yO yE ?_)) | refine yJ ?_ | (with_reducible first | (refine zax yE ?_; first | refine zds (fun _ => ?_) (fun _ => ?_) | refine zba ?_) | (refine zbn yU yE ?_; first | refine zef (fun _ => ?_) (fun _ => ?_) | refine GG.run ?_ | refine zcs ?_)) | (refine zbq (t := 13) yU yE yU (fun _ => yE) yE yU yV1 (fun _ => yN1) ?_; simp only [go_sem]) | refine zao [] yE trivial ?_ | fail)
        all_goals first | rfl | (exfalso; omega)
      · rw [if_neg c2] at i2
        obtain ⟨P, hP⟩ := Int.eq_ofNat_of_zero_le c1.1
        have hPn : P < h.patterns.length := by omega
        have hpk := hok.ok P hPn
        have hw := yhe h.patterns[P] o
        have hwb : 0 ≤ zkj h.patterns[P] o ∧ zkj h.patterns[P] o ≤ 1000 := by
          have h1 := hpk.closed
          have h2 := hpk.open_
          rw [ycv hPn] at h1 h2
          unfold zkj; split <;> omega
        have hpt : h.pat holds[k].pattern.toNat = h.patterns[P] := by rw [hP, Int.toNat_natCast, ycv hPn]
        rw [hpt, hP, Int.toNat_natCast] at i3
        rw [hP] at i2
        have hmul : 0 ≤ holds[k].times * zkj h.patterns[P] o ∧ holds[k].times * zkj h.patterns[P] o ≤ 1000000 := ⟨Int.mul_nonneg (by omega) hwb.1, by
          have := Int.mul_le_mul c1.2.2.2 hwb.2 hwb.1 (show (0 : Int) ≤ 1000 by omega)
          omega⟩
        have c2' : ¬ (P : Int) ≤ last := by omega
        have hPn' : (P : Int) < (h.patterns.length : Int) := by omega
        have ht1 : 1 ≤ holds[k].times ∧ holds[k].times ≤ 1000 := c1.2.2
        have H := Box.mk (And.intro i2 (And.intro i3 i5))
        have hLl : P < L.length := by omega
        clear hr1 hr2 i2 i3 i5 c1 c2 hpt
        repeat' (first | (with_reducible (refine zbt (t := 6) yU yO yE ?_)) | refine yJ ?_ | (with_reducible first | (refine zax yE ?_; first | refine zds (fun _ => ?_) (fun _ => ?_) | refine zba ?_ | refine zbj ?_) | (refine zbn yU yE ?_; first | refine zef (fun _ => ?_) (fun _ => ?_) | refine GG.run ?_ | refine zcs ?_)) | (refine zbq (t := 13) yU yE yU (fun _ => yE) yE yU yV1 (fun _ => yN1) ?_; simp only [go_sem]) | (refine DS.store yR yE yE yE yE yU yQ ?_; simp only [yS1]; try simp only [yS2, Nat.reduceEqDiff, ↓reduceIte]) | refine zbe (id := 16) [0, 1, 2, 3, 4, 5, 6, 7, 8, 9, 10, 11] 12 yKR mixed yP1 yP2 ?_ | (with_reducible first | refine zav yU yU yU yE ?_ | refine zbg ?_) | refine zda inferInstance (hw) yU yT ?_ | fail)
        all_goals first
          | (exfalso; omega)
          | (refine DS.back (HB.out (k + 1, (P : Int), L.set P (holds[k].times * zkj h.patterns[P] o)) _ _ (by dsimp only; omega) ⟨by dsimp only; omega, H.out.1, H.out.2.1, by simpa using i4, fun v hv => ?_, by dsimp only; omega⟩ yS yS (fun b o e => ?_))
             · rcases List.mem_or_eq_of_mem_set hv with h | h
               · exact H.out.2.2 v h
               · rw [h]; exact hmul
             · dsimp only at e
               rw [List.map_set] at e
               simp only [setS, if_neg hbne, ↓reduceIte]
               exact e)
    · rw [if_pos c1] at i2
      rw [hr1 (by rw [i2]; decide), i2]
      clear hr1 hr2 i2 i3 i5 HB
      repeat' (first | (with_reducible (refine zbt (t := 6) yU yO yE ?_)) | refine yJ ?_ | (with_reducible first | (refine zax yE ?_; first | refine zds (fun _ => ?_) (fun _ => ?_) | refine zba ?_) | (refine zbn yU yE ?_; first | refine zef (fun _ => ?_) (fun _ => ?_) | refine GG.run ?_ | refine zcs ?_)) | (refine zbq (t := 13) yU yE yU (fun _ => yE) yE yU yV1 (fun _ => yN1) ?_; simp only [go_sem]) | refine zbe (id := 16) [0, 1, 2, 3, 4, 5, 6, 7, 8, 9, 10, 11] 12 yKR mixed yP1 yP2 ?_ | with_reducible refine zav yU yU yU yE ?_ | refine zao [] yE trivial ?_ | fail)
      all_goals first | rfl | (exfalso; omega)
  · have hk' : ¬ (k : Int) < (holds.length : Int) := by omega
    have h0 : zgm h.patterns.length holds (-1) = 0 := by rw [i2, List.drop_eq_nil_of_le (by omega)]; rfl
    have hv : zvm h holds o = L := by rw [i3, List.drop_eq_nil_of_le (by omega)]; rfl
    have hr := hr2 h0
    rw [hv] at hr
    have HR := Box.mk (And.intro hr i5)
    have hcl := zwm h hok
    clear hr1 hr2 h0 hv hr i5 i2 i3 HB
    repeat' (first | refine yJT ?_ | fail)
    refine DS.call (dst := some 82) [] [(b11, .cells [.v (.slice (some ⟨bv, 0, none⟩) h.patterns.length h.patterns.length)] 22), (bv, .cells (L.map I) 3)] inferInstance hcl yR yH (fun _ _ e => by cases e) (fun _ _ e => ⟨e, rfl⟩) (fun u S' hu hdis => ?_)
    obtain ⟨bc, rfl, rfl⟩ := hu
    simp only [zbk, List.cons_append, List.nil_append]
    obtain ⟨d1, hbc⟩ := zco (hdis bc _ (by rw [zaa, if_pos rfl]))
    obtain ⟨d2, -⟩ := zco hbc
    clear hdis hcl hbc
    refine zde (E' := [(82, .v (.slice (some ⟨bc, 0, none⟩) h.patterns.length h.patterns.length)), (6, .own false 3 1 []), (11, .v (ptrV b11))]) (zen ⟨by rfl, by rfl, by rfl, trivial⟩) (fun _ _ e => e) ?_
    refine zbd yR yU yU (fun b14 hb14 => ?_)
    obtain ⟨d3, hb14⟩ := zco hb14
    obtain ⟨d4, hb14⟩ := zco hb14
    obtain ⟨d5, -⟩ := zco hb14
    have hz : (List.map V.v (Value.slice none 0 0).cells.toList) = [.v (.slice none 0 0)] := rfl
    rw [hz]
    clear hz hb14
    repeat' (first | refine yJ ?_ | (refine DS.store yR yE yE yE yE yU yQ ?_; simp only [yS1]; try simp only [yS2, Nat.reduceEqDiff, ↓reduceIte]) | fail)
    refine zbs (S' := [(b14, .cells [.v (.slice (some ⟨bc, 0, none⟩) h.patterns.length h.patterns.length)] 78), (bc, .cells (((List.range h.patterns.length).map (clM h)).map UN) 82), (b11, .cells [.v (.slice (some ⟨bv, 0, none⟩) h.patterns.length h.patterns.length)] 22), (bv, .cells (L.map I) 3)]) (fun b o e => by simp only [setS, ↓reduceIte]; exact e) ?_
    refine ylf yR (fun bm hbm => ?_)
    obtain ⟨d6, hbm⟩ := zco hbm
    obtain ⟨d7, hbm⟩ := zco hbm
    obtain ⟨d8, hbm⟩ := zco hbm
    obtain ⟨d9, -⟩ := zco hbm
    simp only [zbk]
    refine zbd yR yU yU (fun b15 hb15 => ?_)
    obtain ⟨d10, hb15⟩ := zco hb15
    obtain ⟨d11, hb15⟩ := zco hb15
    obtain ⟨d12, hb15⟩ := zco hb15
    obtain ⟨d13, hb15⟩ := zco hb15
    obtain ⟨d14, -⟩ := zco hb15
    have hz : (List.map V.v (Value.map none).cells.toList) = [.v (.map none)] := rfl
    rw [hz]
    clear hz hbm hb15
    repeat' (first | refine yJ ?_ | (refine DS.store yR yE yE yE yE yU yQ ?_; simp only [yS1]; try simp only [yS2, Nat.reduceEqDiff, ↓reduceIte]) | fail)
    refine zbs (S' := [(b15, .cells [.v (.map (some bm))] 80), (bm, .raw (.map #[] 0)), (b14, .cells [.v (.slice (some ⟨bc, 0, none⟩) h.patterns.length h.patterns.length)] 78), (bc, .cells (((List.range h.patterns.length).map (clM h)).map UN) 82), (b11, .cells [.v (.slice (some ⟨bv, 0, none⟩) h.patterns.length h.patterns.length)] 22), (bv, .cells (L.map I) 3)]) (fun b o e => by simp only [setS, ↓reduceIte]; exact e) ?_
    refine zbd yR yU yU (fun b16 hb16 => ?_)
    obtain ⟨d15, hb16⟩ := zco hb16
    obtain ⟨d16, hb16⟩ := zco hb16
    obtain ⟨d17, hb16⟩ := zco hb16
    obtain ⟨d18, hb16⟩ := zco hb16
    obtain ⟨d19, hb16⟩ := zco hb16
    obtain ⟨d20, -⟩ := zco hb16
    have hz : (List.map V.v Value.nilFunc.cells.toList) = [.v .nilFunc] := rfl
    rw [hz]
    clear hz hb16
    refine zjx ?_
    refine zde (E' := [(6, .own false 3 1 []), (11, .v (ptrV b11)), (14, .v (ptrV b14)), (15, .v (ptrV b15)), (16, .v (ptrV b16))]) (zen ⟨by rfl, by rfl, by rfl, by rfl, by rfl, trivial⟩) (fun _ _ e => e) ?_
    have s1 := fun e => d1 (Eq.symm e)
    have s2 := fun e => d2 (Eq.symm e)
    have s3 := fun e => d3 (Eq.symm e)
    have s4 := fun e => d4 (Eq.symm e)
    have s5 := fun e => d5 (Eq.symm e)
    have s6 := fun e => d6 (Eq.symm e)
    have s7 := fun e => d7 (Eq.symm e)
    have s8 := fun e => d8 (Eq.symm e)
    have s9 := fun e => d9 (Eq.symm e)
    have s10 := fun e => d10 (Eq.symm e)
    have s11 := fun e => d11 (Eq.symm e)
    have s12 := fun e => d12 (Eq.symm e)
    have s13 := fun e => d13 (Eq.symm e)
    have s14 := fun e => d14 (Eq.symm e)
    have s15 := fun e => d15 (Eq.symm e)
    have s16 := fun e => d16 (Eq.symm e)
    have s17 := fun e => d17 (Eq.symm e)
    have s18 := fun e => d18 (Eq.symm e)
    have s19 := fun e => d19 (Eq.symm e)
    have s20 := fun e => d20 (Eq.symm e)
    refine zbs (S' := [(b11, .cells [.v (.slice (some ⟨bv, 0, none⟩) h.patterns.length h.patterns.length)] 22), (bv, .cells (L.map I) 3), (b15, .cells [.v (.map (some bm))] 80), (bm, .raw (.map #[] 0)), (b14, .cells [.v (.slice (some ⟨bc, 0, none⟩) h.patterns.length h.patterns.length)] 78), (bc, .cells (((List.range h.patterns.length).map (clM h)).map UN) 82), (b16, .cells [.v .nilFunc] 81)]) (fun b o e => ?_) ?_
    · simp only [zaa, zah] at e ⊢
      by_cases h1 : b11 = b
      · rw [if_pos h1] at e
        subst h1
        rw [if_neg s19, if_neg s13, if_neg s8, if_neg s4, if_neg s1, if_pos rfl]; exact e
      rw [if_neg h1] at e
      by_cases h2 : bv = b
      · rw [if_pos h2] at e
        subst h2
        rw [if_neg s20, if_neg s14, if_neg s9, if_neg s5, if_neg s2, if_neg hbne, if_pos rfl]; exact e
      rw [if_neg h2] at e
      by_cases h3 : b15 = b
      · rw [if_pos h3] at e
        subst h3
        rw [if_neg s15, if_pos rfl]; exact e
      rw [if_neg h3] at e
      by_cases h4 : bm = b
      · rw [if_pos h4] at e
        subst h4
        rw [if_neg s16, if_neg s10, if_pos rfl]; exact e
      rw [if_neg h4] at e
      by_cases h5 : b14 = b
      · rw [if_pos h5] at e
        subst h5
        rw [if_neg s17, if_neg s11, if_neg s6, if_pos rfl]; exact e
      rw [if_neg h5] at e
      by_cases h6 : bc = b
      · rw [if_pos h6] at e
        subst h6
        rw [if_neg s18, if_neg s12, if_neg s7, if_neg s3, if_pos rfl]; exact e
      rw [if_neg h6] at e
      by_cases h7 : b16 = b
      · rw [if_pos h7] at e ⊢; exact e
      · rw [if_neg h7] at e; cases e
    rw [HR.out.1]
    exact zwn h L hok (by omega) HR.out.2 b11 bv bc b14 bm b15 b16 d1 d2 d3 d4 d5 d6 d7 d8 d9 d10 d11 d12 d13 d14 d15 d16 d17 d18 d19 d20 hbne yR
theorem yfm (h:House) (holds:List Hold) (o:Bool) (hl:holds.length≤1000000):PC Tryz.prog 9 [h.val,ydt holds,Bo o] (.tup [ints (zia h holds o).1,I (zia h holds o).2.1,I (zia h holds o).2.2]):=by
 have hk:=zsh h (ypv h)
 by_cases h0:zdx h=0
 ·rw[h0]at hk
  by_cases h1:40<(holds.length:Int)
  ·have e:zia h holds o=([],0,8):=by rw[zia,if_neg (by omega),if_pos h1]
   rw[e]
   refine DC.of_run Tryz.func9 rfl Tryz.ntmps9 Tryz.results9 (by simp) (fun _ _=>?_);simp only[zag,zai,go_sem,Nat.zero_add,Nat.reduceAdd]
   repeat' (first|(with_reducible (refine zbt (t:=6) yU yO yE ?_))|refine yJT ?_|refine zan inferInstance (hk) yR yT ?_|(refine zap (t:=3) yU yE yU ?_;simp only[yS3])|refine zao [] yE trivial ?_|fail)
   all_goals first|rfl|(exfalso;omega)
  ·refine zwo h holds o (znl h0) hk (by omega) _ (fun h2=>?_) (fun h2=>?_)
   ·rw[zia,if_neg (by omega),if_neg h1,if_pos h2]
   ·rw[zia,if_neg (by omega),if_neg h1,if_neg (by omega)]
 ·have e:zia h holds o=([],0,zdx h):=by rw[zia,if_pos h0]
  rw[e]
  refine DC.of_run Tryz.func9 rfl Tryz.ntmps9 Tryz.results9 (by simp) (fun _ _=>?_);simp only[zag,zai,go_sem,Nat.zero_add,Nat.reduceAdd]
  repeat' (first|(with_reducible (refine zbt (t:=6) yU yO yE ?_))|refine yJT ?_|refine zan inferInstance (hk) yR yT ?_|(refine zap (t:=3) yU yE yU ?_;simp only[yS3])|refine zao [] yE trivial ?_|fail)
  all_goals first|rfl|(exfalso;omega)
end Go.XL
namespace Go.XL
open Go.Proofs
set_option maxRecDepth 100000
set_option maxHeartbeats 8000000
section
variable {P:Program} {n:Nat} {r:Rr} {Q:VEnv→Sto→Prop} {k:List Fr} {E:VEnv} {S:Sto} {dst:Option Tmp} {ty:TypeId} {pos:String} {af:Array Edge} {ops l:List Oper} {t:Nat}
theorem ybu {v0:VH} {T m f:Nat} {fs:Array Field} {fd:Field} {c:List V} {x:Operand} (hT:P.underlying T=some (.struct fs)) (hf:fs[f]?=some fd) (he:tsz P fd.type=some (true,m)) (hx:evV E x=some (.agg c)) :
  OpS v0 P n ⟨dst, .field T x f,ty,pos,af,none⟩ E S (fun v E' S'=>v = .agg (((c.drop fd.offset).take m).map V.peek)∧E'=E∧S'=S):=by
 intro K D hv hold env a w hfl ha s0
 obtain⟨y,e1,e2⟩:=s0.rl _ _ hx
 simp only[V.Rl]at e2
 obtain⟨ys,rfl,e2⟩:=e2
 obtain⟨ti,q1,q2,q3⟩:=zkx he
 have hrun:(execOp a.eval ⟨dst, .field T x f,ty,pos,af,none⟩).run P w = .ok (.value (.agg (ys.toArray.extract fd.offset (fd.offset+m)))) w:=by
  simp[execOp,Instr.field,run_underlying hT,hf,ha.ev e1,part,asAgg,q3,zeg q1,q2]
 have hr:RlL hv (((c.drop fd.offset).take m).map V.peek) ((ys.drop fd.offset).take m):=zej ((e2.drop _).take _)
 refine zcw hrun ⟨Same.refl w,_,E,S,hv,hold,PreV.refl hv,s0.put dst (v := .agg (((c.drop fd.offset).take m).map V.peek)) ?_ fun _ _=>trivial,rfl,rfl,rfl⟩
 simp only[V.Rl]
 refine⟨(ys.drop fd.offset).take m,?_,hr⟩
 congr 1
 apply Array.ext'
 simp[Array.toList_extract,List.extract_eq_take_drop]
theorem ygt {T m f off:Nat} {fs:Array Field} {fd:Field} {c:List V} {x:Operand} (hd:decide (t<n)=true) (hT:P.underlying T=some (.struct fs)) (hf:fs[f]?=some fd) (ho:fd.offset=off) (he:tsz P fd.type=some (true,m)) (hx:evV E x=some (.agg c))
  (q:DS P n r Q (.ops ops l::k) ((t, .agg (((c.drop off).take m).map V.peek))::E) S):DS P n r Q (.ops ops (⟨some t, .field T x f,ty,pos,af,none⟩::l)::k) E S:=by
 subst ho
 refine zcf rfl rfl hd (ybu hT hf he hx) fun v E' S' ⟨h1,h2,h3⟩=>?_
 subst h1;subst h2;subst h3;exact q
end
theorem yaf :zoz smallH [2,3,2]=(5,6):=by
 have hb:zga (allK [2,3,2] 3)= [0,1,2]:=by decide +kernel
 have c01:(clM smallH 0).testBit 1=true:=by decide +kernel
 have c02:(clM smallH 0).testBit 2=true:=by decide +kernel
 have c12:(clM smallH 1).testBit 2=false:=by decide +kernel
 have hl:smallH.patterns.length=3:=rfl
 rw[zoz,hl,zib,hb]
 have e2:zhk (fun i k=>(clM smallH i).testBit k) (fun i=> [2,3,2].getD i 0) [2]=(2,[2]):=by
  rw[zhq,if_neg (by simp)];simp[zjv]
 have e1:zhk (fun i k=>(clM smallH i).testBit k) (fun i=> [2,3,2].getD i 0) [1,2]=(5,[1,2]):=by
  have f2:([2]:List Nat).filter (fun k=> !(clM smallH 1).testBit k)= [2]:=by simp[c12]
  rw[zhq,if_neg (by simp[c12]),f2,e2];rfl
 have e0:zhk (fun i k=>(clM smallH i).testBit k) (fun i=> [2,3,2].getD i 0) [0,1,2]=(5,[1,2]):=by
  have f0:([1,2]:List Nat).filter (fun k=> !(clM smallH 0).testBit k)= []:=by simp[c01,c02]
  rw[zhq,f0,e1,zjv,if_pos ⟨by simp[c01],by decide⟩]
 rw[e0]
 decide +kernel
theorem zsw :zia smallH [⟨0,1⟩,⟨1,1⟩,⟨2,1⟩] false=([1,2],5,0):=by
 have h0:zdx smallH=0:=by decide +kernel
 have h1:zgm smallH.patterns.length [⟨0,1⟩,⟨1,1⟩,⟨2,1⟩] (-1)=0:=by decide +kernel
 have h2:zvm smallH [⟨0,1⟩,⟨1,1⟩,⟨2,1⟩] false= [2,3,2]:=by decide +kernel
 have h3:(zga 6).map natI= [1,2]:=by decide +kernel
 rw[zia,if_neg (by rw[h0];decide),if_neg (by decide),if_neg (by rw[h1];decide),h2,yaf]
 dsimp only
 rw[h3]
theorem yiq :zhh fourH 480 0 1 2 1 (-1)=([0,2300,-2300,0],0):=by decide +kernel
theorem ycd :ptsS smallH.scale 30 3=1920:=by decide +kernel
theorem yfz :PC Tryz.prog 13 [] (Bo true):=by
 have k1:=zxi
 have k2:=ydu [0,1,2] (by decide)
 have k3:=yfm smallH [⟨0,1⟩,⟨1,1⟩,⟨2,1⟩] false (by decide)
 have k4:=ynz
 have k5:=zkb fourH (ypv fourH) 480 0 1 2 1 (-1)
 have k6:=zkr [1,2] [1,2]
 have k7:=zkr [0,2300,-2300,0] [0,2300,-2300,0]
 have k8:=ycl smallH.scale 30 3
 rw[zsw]at k3
 rw[yiq]at k5
 rw[ycd]at k8
 generalize smallH=H1 at *
 refine DC.of_run Tryz.func13 rfl Tryz.ntmps13 Tryz.results13 (by simp) (fun _ _=>?_);simp only[zag,zai,go_sem,Nat.zero_add,Nat.reduceAdd]
 repeat' (first|refine yJT ?_|(refine zbw yU yE yE ?_;simp only[go_sem,Nat.zero_add,Nat.reduceAdd])|refine zan inferInstance (k1) yR yF ?_|refine zan inferInstance (k2) yR yF ?_|refine zan inferInstance (k3) yR yF ?_|refine zan inferInstance (k4) yR yF ?_|refine zan inferInstance (k5) yR yF ?_|refine zan inferInstance (k6) yR yF ?_|refine zan inferInstance (k7) yR yF ?_|fail)
 refine ygt (off:=13) (by decide) Tryz.underlying38 yR yR (show tsz Tryz.prog 31=some (true,4) by kernel_rfl) yH ?_
 repeat' (first|refine yJT ?_|refine zan inferInstance (k8) yR yF ?_|refine zao [] yE trivial ?_|fail)
 all_goals rfl
end Go.XL
namespace Go.XL
open Go.Proofs
set_option maxRecDepth 100000
set_option maxHeartbeats 8000000
def zqx (h:House) (points dealer winner from_ counters liable:Int):Int :=
 if points<0∨points > 1000000∨counters<0∨counters > 100 then 2 else
 if(h.seat dealer&&h.seat winner&&h.seat from_)=false then 2 else
 if liable ≠ -1∧(h.seat liable=false∨liable=winner)then 2 else 0
end Go.XL
namespace Go.XL
open Go.Proofs
set_option maxRecDepth 100000
set_option maxHeartbeats 8000000
theorem ycr (h:House) (points dealer winner from_ counters liable:Int) (h0:zdx h=0) :
  zhh h points dealer winner from_ counters liable=if zqx h points dealer winner from_ counters liable≠0 then([],zqx h points dealer winner from_ counters liable)else(outS ⟨h,points,dealer,winner,from_,counters⟩ liable h.set.players.toNat,0):=by
 rw[zhh,if_neg (by omega),zqx]
 (repeat' split) <;> first|rfl|(exfalso;omega)
theorem yfn {h:House} {points dealer winner from_ counters liable:Int} (e:zqx h points dealer winner from_ counters liable=0) :
  (0≤points∧points≤1000000)∧(0≤counters∧counters≤100)∧(0≤dealer∧dealer<h.set.players)∧(0≤winner∧winner<h.set.players)∧(0≤from_∧from_<h.set.players)∧(liable = -1∨(liable≠winner∧0≤liable∧liable<h.set.players)):=by
 rw[zqx]at e
 obtain⟨e1,e⟩:=ite0 (by decide) e
 obtain⟨e2,e⟩:=ite0 (by decide) e
 obtain⟨e3,e⟩:=ite0 (by decide) e
 simp only[House.seat,Bool.not_eq_false,Bool.and_eq_true,decide_eq_true_eq]at e2
 refine⟨by omega,by omega,by omega,by omega,by omega,?_⟩
 by_cases h1:liable = -1
 ·exact .inl h1
 ·refine .inr ?_
  by_cases h2:liable=winner
  ·exact absurd ⟨h1, .inr h2⟩ e3
  ·by_cases h3:0≤liable∧liable<h.set.players
   ·exact⟨h2,h3⟩
   ·refine absurd ⟨h1, .inl ?_⟩ e3
    by_cases h4:0≤liable
    ·rw[House.seat,decide_eq_false (show ¬liable<h.set.players by omega),Bool.and_false]
    ·rw[House.seat,decide_eq_false h4,Bool.false_and]
theorem zor {L:List Int} {i:Nat} (h:i<L.length):L.getD i 0=L[i]:=by
 rw[List.getD_eq_getElem?_getD,List.getElem?_eq_getElem h];rfl
abbrev objI (L:List Int):Ob := .cells (L.map I) 3
theorem ylt {n:Nat} (L:List Int) (h:L=List.replicate n 0):zck (.int .i64 0) n=L.map I:=by
 subst h
 rw[zck]
 have e:(Value.int IntKind.i64 0).cells.toList.map V.v= [I 0]:=rfl
 rw[e];simp
theorem zip {L:List Int} {i:Nat} (h:i<L.length):(L.map I)[i]?=some (I L[i]):=by simp[h]
end Go.XL
namespace Go.XL
open Go.Proofs
set_option maxRecDepth 100000
set_option maxHeartbeats 8000000
def Use.cells (u:Use):List V:= [Bo u.what,Bo u.open_,Bo u.kinds,I u.nLow,I u.nTop,I u.mLow,I u.mTop,St8 (zmz u.parts)]
@[go_sem] theorem Use.cells_eq (u:Use):u.cells= [Bo u.what,Bo u.open_,Bo u.kinds,I u.nLow,I u.nTop,I u.mLow,I u.mTop,St8 (zmz u.parts)]:=rfl
end Go.XL
namespace Go.XL
open Go.Proofs
set_option maxRecDepth 100000
set_option maxHeartbeats 8000000
end Go.XL
namespace Go.XL
open Go.Proofs
set_option maxRecDepth 100000
set_option maxHeartbeats 8000000
theorem ymf (h:House):h.CondsPC:=⟨zmh _ _,fun i hi=>zmh _ _⟩
end Go.XL
namespace Go.XL
open Go.Proofs
set_option maxRecDepth 100000
set_option maxHeartbeats 8000000
theorem zxq {h:House} {points dealer winner from_ counters liable:Int} (e:(zhh h points dealer winner from_ counters liable).2=0) :
  (zhh h points dealer winner from_ counters liable).1.length=h.set.players.toNat∧LB 16000000000 (zhh h points dealer winner from_ counters liable).1∧0≤winner∧winner<h.set.players:=by
 by_cases h0:zdx h=0
 ·rw[ycr _ _ _ _ _ _ _ h0]at e ⊢
  by_cases hc:zqx h points dealer winner from_ counters liable=0
  ·obtain⟨a1,a2,-,a3,-⟩:=yfn hc
   rw[if_neg (by omega)]
   have ok:=zvr (p:=⟨h,points,dealer,winner,from_,counters⟩) h0 (by dsimp only;omega)
   obtain⟨b1,b2⟩:=zrs ⟨h,points,dealer,winner,from_,counters⟩ ok liable h.set.players.toNat
   have hp:=ok.players
   dsimp only at hp b1
   exact⟨b1,fun x hx=>by have:=b2 x hx;omega,a3⟩
  ·rw[if_pos hc]at e;exact absurd e hc
 ·rw[zhh,if_pos h0]at e;exact absurd e h0
theorem znv {h:House} {dealer:Int} {l:List WinRow} {i:Nat} (hi:i<l.length) (c:Int) (acc:List Int):zct h dealer (l.drop i) c acc=if(zhh h l[i].points dealer l[i].who l[i].from_ c l[i].liable).2≠0 then([],(zhh h l[i].points dealer l[i].who l[i].from_ c l[i].liable).2)else
   zct h dealer (l.drop (i+1)) 0 (addN acc (zhh h l[i].points dealer l[i].who l[i].from_ c l[i].liable).1 acc.length):=by
 rw[List.drop_eq_getElem_cons hi,zct]
theorem yah {h:House} {dealer:Int} {l:List WinRow} {c:Int} {acc:List Int} (hl:0<l.length) (e:(zct h dealer l c acc).2=0):0≤l[0].who∧l[0].who<h.set.players:=by
 have h1:=znv (h:=h) (dealer:=dealer) hl c acc
 rw[List.drop_zero]at h1
 rw[h1]at e
 by_cases hp:(zhh h l[0].points dealer l[0].who l[0].from_ c l[0].liable).2=0
 ·exact(zxq hp).2.2
 ·rw[if_pos hp]at e;exact absurd e hp
theorem ycf (h : House) (dealer counters sticks : Int) (rws : List WinRow) :
    PC Tryz.prog 19 [h.val, I dealer, I counters, I sticks, yrw rws] (.tup [ints (zmb h dealer counters sticks rws).1, I (zmb h dealer counters sticks rws).2]) := by
  have hk := zsh h (ymf h)
  have s1 := znx h dealer
  by_cases h0 : zdx h = 0
  · rw [h0] at hk
    rw [zmb, if_neg (by omega)]
    by_cases c1 : h.seat dealer = false ∨ counters < 0 ∨ counters > 100 ∨ sticks < 0 ∨ sticks > 4000
    · rw [zgx, if_pos c1, if_pos (by decide)]
      generalize h.seat dealer = t at *
      clear h0
      refine DC.of_run Tryz.func19 rfl Tryz.ntmps19 Tryz.results19 (by simp) (fun _ _ => ?_); simp only [zag, zai, go_sem, Nat.zero_add, Nat.reduceAdd]
      repeat' (first | refine yJ ?_ | (with_reducible first | (refine zax yE ?_; first | refine zds (fun _ => ?_) (fun _ => ?_) | refine zba ?_ | refine zbj ?_) | (refine zbn yU yE ?_; first | refine zef (fun _ => ?_) (fun _ => ?_) | refine GG.run ?_ | refine zcs ?_ | refine zww (fun _ => ?_) (fun _ => ?_))) | refine zan inferInstance (hk) yR yF ?_ | refine zan inferInstance (s1) yR yF ?_ | (refine zap (t := 5) yU yE yU ?_; simp only [yS3]) | refine zao [] yE trivial ?_ | fail)
      all_goals first | rfl | (exfalso; clear hk s1; simp_all; done) | (exfalso; clear hk s1; simp_all; omega)
    by_cases c2 : (rws.length : Int) = 0
    · have hsd : h.seat dealer = true := by
        cases hs : h.seat dealer with
        | true => rfl
        | false => exact absurd (.inl hs) c1
      rw [zgx, if_neg c1, if_pos c2, if_pos (by decide)]
      rw [hsd] at s1
      have c3 : (0 ≤ counters ∧ counters ≤ 100) ∧ 0 ≤ sticks ∧ sticks ≤ 4000 := by omega
      clear c1 h0 hsd
      refine DC.of_run Tryz.func19 rfl Tryz.ntmps19 Tryz.results19 (by simp) (fun _ _ => ?_); simp only [zag, zai, go_sem, Nat.zero_add, Nat.reduceAdd]
      repeat' (first | refine yJ ?_ | (with_reducible first | (refine zax yE ?_; first | refine zds (fun _ => ?_) (fun _ => ?_) | refine zba ?_ | refine zbj ?_) | (refine zbn yU yE ?_; first | refine zef (fun _ => ?_) (fun _ => ?_) | refine GG.run ?_ | refine zcs ?_)) | refine zan inferInstance (hk) yR yF ?_ | refine zan inferInstance (s1) yR yF ?_ | (refine zap (t := 5) yU yE yU ?_; simp only [yS3]) | refine zao [] yE trivial ?_ | fail)
      all_goals first | rfl | (exfalso; omega)
    have hsd : h.seat dealer = true := by
      cases hs : h.seat dealer with
      | true => rfl
      | false => exact absurd (.inl hs) c1
    rw [hsd] at s1
    have c3 : (0 ≤ counters ∧ counters ≤ 100) ∧ 0 ≤ sticks ∧ sticks ≤ 4000 := by omega
    have ok := znl h0
    have hpl := (zca ok.set).players
    by_cases c4 : h.set.players ≤ (rws.length : Int)
    · rw [zgx, if_neg c1, if_neg c2, if_pos c4, if_pos (by decide)]
      clear c1 h0 hsd ok
      refine DC.of_run Tryz.func19 rfl Tryz.ntmps19 Tryz.results19 (by simp) (fun _ _ => ?_); simp only [zag, zai, go_sem, Nat.zero_add, Nat.reduceAdd]
      repeat' (first | refine yJ ?_ | (with_reducible first | (refine zax yE ?_; first | refine zds (fun _ => ?_) (fun _ => ?_) | refine zba ?_ | refine zbj ?_) | (refine zbn yU yE ?_; first | refine zef (fun _ => ?_) (fun _ => ?_) | refine GG.run ?_ | refine zcs ?_)) | refine zan inferInstance (hk) yR yF ?_ | refine zan inferInstance (s1) yR yF ?_ | (refine zap (t := 5) yU yE yU ?_; simp only [yS3]) | refine zao [] yE trivial ?_ | fail)
      all_goals first | rfl | (exfalso; omega)
    rw [zgx, if_neg c1, if_neg c2, if_neg c4, if_neg (show ¬ (0 : Int) ≠ 0 by decide)]
    have hst := (ycq ok.pay).2
    simp only [Bool.and_eq_true, ptB, decide_eq_true_eq] at hst
    have hstk := hst.1.1.1.2
    have hm1 : 0 ≤ sticks * h.pay.stick := Int.mul_nonneg c3.2.1 hstk.1
    have hm2 : sticks * h.pay.stick ≤ 4000 * 1000000 := Int.mul_le_mul c3.2.2 hstk.2 hstk.1 (by omega)
    have hrl : 0 < rws.length := by omega
    have hwho := yah (h := h) (dealer := dealer) (c := counters) (acc := List.replicate h.set.players.toNat 0) hrl
    have hhd : rws.headD ⟨0, 0, 0, 0, 0⟩ = rws[0] := by
      cases rws with
      | nil => simp at hrl
      | cons x r => rfl
    rw [hhd]
    have hpay := fun i (hi : i < rws.length) c => zkb h (ymf h) rws[i].points dealer rws[i].who rws[i].from_ c rws[i].liable
    have HW := Box.mk (And.intro hwho hpay)
    clear hwho hpay hhd ok hst h0 hsd c1
    generalize hG : zct h dealer rws counters (List.replicate h.set.players.toNat 0) = G at *
    have HG := Box.mk hG
    clear hG
    have hrl4 : rws.length ≤ 4 := by omega
    refine DC.of_run Tryz.func19 rfl Tryz.ntmps19 Tryz.results19 (by simp) (fun _ _ => ?_); simp only [zag, zai, go_sem, Nat.zero_add, Nat.reduceAdd]
    repeat' (first | refine yJ ?_ | (with_reducible first | (refine zax yE ?_; first | refine zds (fun _ => ?_) (fun _ => ?_) | refine zba ?_ | refine zbj ?_) | (refine zbn yU yE ?_; first | refine zef (fun _ => ?_) (fun _ => ?_) | refine GG.run ?_ | refine zcs ?_)) | refine zan inferInstance (hk) yR yF ?_ | refine zan inferInstance (s1) yR yF ?_ | (refine zap (t := 5) yU yE yU ?_; simp only [yS3]) | (refine zkm yU yE yE yE yE yU yU ⟨by omega, by omega, by decide, by omega⟩ (fun _ hfr => ?_)) | fail)
    all_goals try (exfalso; omega)
    rename_i bo
    clear hk s1
    rw [ylt (List.replicate h.set.players.toNat 0) rfl]
    refine zbl [1, 3, 4, 5, 13, 61, 62] yN (fun (x : Nat × Int × List Int) => [(2, I x.2.1), (63, I x.1)]) (fun (x : Nat × Int × List Int) => [(bo, objI x.2.2)]) (fun (x : Nat × Int × List Int) => x.1 ≤ rws.length ∧ G = zct h dealer (rws.drop x.1) (if x.1 = 0 then x.2.1 else 0) x.2.2 ∧ x.2.2.length = h.set.players.toNat ∧ LB (x.1 * 16000000000) x.2.2 ∧ (x.1 = 0 → x.2.1 = counters)) (fun (x : Nat × Int × List Int) => rws.length - x.1) (0, counters, List.replicate h.set.players.toNat 0) yS (fun b o e => by exact e) ⟨Nat.zero_le _, by rw [← HG.out]; rfl, by simp, fun v hv => by rw [(List.mem_replicate.1 hv).2]; simp, fun _ => rfl⟩ (fun x B hI hB => ?_); try dsimp only at hI hB; simp only [zad, zae]
    obtain ⟨i, cc, acc⟩ := x
    dsimp only at hI hB ⊢
    obtain ⟨i1, i2, i3, i4, i5⟩ := hI
    have HB := Box.mk hB
    clear hB
    by_cases hi : (i : Int) < (rws.length : Int)
    · have hi' : i < rws.length := by omega
      rw [znv hi'] at i2
      obtain ⟨ce, hce⟩ : ∃ ce, ce = if i = 0 then cc else 0 := ⟨_, rfl⟩
      rw [← hce] at i2
      have hp := HW.out.2 i hi' ce
      have hXok := @zxq h rws[i].points dealer rws[i].who rws[i].from_ ce rws[i].liable
      generalize zhh h rws[i].points dealer rws[i].who rws[i].from_ ce rws[i].liable = X at *
      obtain ⟨X1, X2⟩ := X
      dsimp only at i2 hp hXok
      by_cases hz : X2 = 0
      · subst hz
        obtain ⟨x1, x2, -⟩ := hXok rfl
        rw [if_neg (by decide), i3] at i2
        have HI := Box.mk (And.intro i2 (And.intro i4 x2))
        clear i2 i4 x2 hXok i5
        by_cases hi0 : i = 0
        · rw [if_pos hi0] at hce
          subst hce
          have hi0' : ¬ (0 : Int) < (i : Int) := by omega
          clear hi0
          repeat' (first | refine yJT ?_ | (refine zjh (t := 15) yU yU yU yE yU (fun _ => yE) (fun _ => yE) yE yU yV1 (fun _ => yN1) ?_; simp only [go_sem]) | refine zan inferInstance (hp) yR yF ?_ | fail)
          all_goals try (exfalso; omega)
          refine zbl [1, 2, 3, 4, 5, 13, 61, 62, 63, 88, 89] yN (fun (j : Nat) => [(90, I j)]) (fun (j : Nat) => [(bo, objI (addN acc X1 j))]) (fun (j : Nat) => j ≤ h.set.players.toNat) (fun (j : Nat) => h.set.players.toNat - j) 0 yS (fun b o e => by exact e) (Nat.zero_le _) (fun j B hI hB => ?_); try dsimp only at hI hB; simp only [zad, zae]
          have HC := Box.mk hB
          clear hB
          have hAl := zfb acc X1 j
          have hAb := zpd HI.out.2.1 HI.out.2.2 (by omega) (by omega) (k := j) (by omega)
          have hnx := addN.eq_2 acc X1 j
          generalize hA : addN acc X1 j = A at *
          by_cases hj : j < h.set.players.toNat
          · have hjA : j < A.length := by omega
            have hjX : j < X1.length := by omega
            have q1 := hAb _ (List.getElem_mem hjA)
            have q2 := HI.out.2.2 _ (List.getElem_mem hjX)
            rw [zor hjA, zor hjX] at hnx
            have e1 : (A.map I)[j]? = some (I A[j]) := zip hjA
            have HN := Box.mk hnx
            clear hnx hAb hA
            repeat' (first | refine yJ ?_ | (with_reducible (refine zax yE ?_; refine zds (fun _ => ?_) (fun _ => ?_))) | (refine DS.store yR yE yE yE yE yU yQ ?_; simp only [yS1]; try simp only [yS2, Nat.reduceEqDiff, ↓reduceIte]) | fail)
            all_goals first
              | (exfalso; omega)
              | (refine DS.back (HC.out (j + 1) _ _ (by omega) (by omega) yS yS (fun b o e => ?_))
                 rw [HN.out, objI, List.map_set] at e
                 simp only [setS, ↓reduceIte]
                 exact e)
              | trace_state
          · have hjn : j = h.set.players.toNat := by omega
            subst hjn
            have hnn : ¬ ((h.set.players.toNat : Nat) : Int) < ((h.set.players.toNat : Nat) : Int) := by omega
            have HA := Box.mk (And.intro hA hAb)
            clear hnx hAb hA HC
            repeat' (first | refine yJT ?_ | fail)
            all_goals first
              | (exfalso; omega)
              | exact DS.back (HB.out (i + 1, ce, A) _ _ (by dsimp only; omega) ⟨by dsimp only; omega, by dsimp only; rw [if_neg (by omega), ← HA.out.1]; exact HI.out.1, by dsimp only; omega, by dsimp only; exact HA.out.2.mono (by omega), fun h => by dsimp only at h; omega⟩ yS yS (fun b o e => by exact e))
              | trace_state
        · rw [if_neg hi0] at hce
          subst hce
          have hi0' : (0 : Int) < (i : Int) := by omega
          clear hi0
          repeat' (first | refine yJT ?_ | (refine zjh (t := 15) yU yU yU yE yU (fun _ => yE) (fun _ => yE) yE yU yV1 (fun _ => yN1) ?_; simp only [go_sem]) | refine zan inferInstance (hp) yR yF ?_ | fail)
          all_goals try (exfalso; omega)
          refine zbl [1, 2, 3, 4, 5, 13, 61, 62, 63, 88, 89] yN (fun (j : Nat) => [(90, I j)]) (fun (j : Nat) => [(bo, objI (addN acc X1 j))]) (fun (j : Nat) => j ≤ h.set.players.toNat) (fun (j : Nat) => h.set.players.toNat - j) 0 yS (fun b o e => by exact e) (Nat.zero_le _) (fun j B hI hB => ?_); try dsimp only at hI hB; simp only [zad, zae]
          have HC := Box.mk hB
          clear hB
          have hAl := zfb acc X1 j
          have hAb := zpd HI.out.2.1 HI.out.2.2 (by omega) (by omega) (k := j) (by omega)
          have hnx := addN.eq_2 acc X1 j
          generalize hA : addN acc X1 j = A at *
          by_cases hj : j < h.set.players.toNat
          · have hjA : j < A.length := by omega
            have hjX : j < X1.length := by omega
            have q1 := hAb _ (List.getElem_mem hjA)
            have q2 := HI.out.2.2 _ (List.getElem_mem hjX)
            rw [zor hjA, zor hjX] at hnx
            have e1 : (A.map I)[j]? = some (I A[j]) := zip hjA
            have HN := Box.mk hnx
            clear hnx hAb hA
            repeat' (first | refine yJ ?_ | (with_reducible (refine zax yE ?_; refine zds (fun _ => ?_) (fun _ => ?_))) | (refine DS.store yR yE yE yE yE yU yQ ?_; simp only [yS1]; try simp only [yS2, Nat.reduceEqDiff, ↓reduceIte]) | fail)
            all_goals first
              | (exfalso; omega)
              | (refine DS.back (HC.out (j + 1) _ _ (by omega) (by omega) yS yS (fun b o e => ?_))
                 rw [HN.out, objI, List.map_set] at e
                 simp only [setS, ↓reduceIte]
                 exact e)
              | trace_state
          · have hjn : j = h.set.players.toNat := by omega
            subst hjn
            have hnn : ¬ ((h.set.players.toNat : Nat) : Int) < ((h.set.players.toNat : Nat) : Int) := by omega
            have HA := Box.mk (And.intro hA hAb)
            clear hnx hAb hA HC
            repeat' (first | refine yJT ?_ | fail)
            all_goals first
              | (exfalso; omega)
              | exact DS.back (HB.out (i + 1, (0 : Int), A) _ _ (by dsimp only; omega) ⟨by dsimp only; omega, by dsimp only; rw [if_neg (by omega), ← HA.out.1]; exact HI.out.1, by dsimp only; omega, by dsimp only; exact HA.out.2.mono (by omega), fun h => by dsimp only at h; omega⟩ yS yS (fun b o e => by exact e))
              | trace_state
      · rw [if_pos hz] at i2
        have e : G.2 = X2 ∧ G.1 = [] := by rw [i2]; exact ⟨rfl, rfl⟩
        rw [if_pos (by rw [e.1]; exact hz), e.1]
        clear e i2 hXok i4 HB HG HW
        by_cases hi0 : i = 0
        · rw [if_pos hi0] at hce
          subst hce
          have hi0' : ¬ (0 : Int) < (i : Int) := by omega
          clear hi0 i5
          repeat' (first | refine yJT ?_ | (refine zjh (t := 15) yU yU yU yE yU (fun _ => yE) (fun _ => yE) yE yU yV1 (fun _ => yN1) ?_; simp only [go_sem]) | refine zan inferInstance (hp) yR yF ?_ | refine zao [] yE trivial ?_ | fail)
          all_goals first | rfl | (exfalso; omega)
        · rw [if_neg hi0] at hce
          subst hce
          have hi0' : (0 : Int) < (i : Int) := by omega
          clear hi0 i5
          repeat' (first | refine yJT ?_ | (refine zjh (t := 15) yU yU yU yE yU (fun _ => yE) (fun _ => yE) yE yU yV1 (fun _ => yN1) ?_; simp only [go_sem]) | refine zan inferInstance (hp) yR yF ?_ | refine zao [] yE trivial ?_ | fail)
          all_goals first | rfl | (exfalso; omega)
    · rw [zev hi, zct] at i2
      have hw := HW.out.1 (by rw [i2])
      rw [i2]
      dsimp only
      rw [if_neg (show ¬ (0 : Int) ≠ 0 by decide)]
      clear i2 HW HG HB
      obtain ⟨w1, w2⟩ := hw
      have hwl : rws[0].who.toNat < acc.length := by omega
      have hwI : ((rws[0].who.toNat : Nat) : Int) = rws[0].who := by omega
      have q1 := i4 _ (List.getElem_mem hwl)
      rw [zor hwl]
      generalize hwho : rws[0].who = wh at *
      have e1 : (acc.map I)[wh.toNat]? = some (I acc[wh.toNat]) := zip hwl
      clear i4 i5
      repeat' (first | refine yJT ?_ | (refine DS.store yR yE yE yE yE yU yQ ?_; simp only [yS1]; try simp only [yS2, Nat.reduceEqDiff, ↓reduceIte]) | refine zbe (id := 25) [0, 1, 2, 3, 4, 5, 6, 7, 8, 9, 10, 11] 12 yKR mixed yP1 yP2 ?_ | (with_reducible first | refine zav yU yU yU yE ?_ | refine zbg ?_) | fail)
      all_goals try (exfalso; omega)
      have hl2 : (acc.set wh.toNat (acc[wh.toNat] + sticks * h.pay.stick)).length = h.set.players.toNat := by rw [List.length_set]; exact i3
      refine zbs (S' := [(bo, objI (acc.set wh.toNat (acc[wh.toNat] + sticks * h.pay.stick)))]) (fun b o e => by rw [objI, List.map_set] at e; simp only [setS, ↓reduceIte]; exact e) ?_
      refine ziv (t := 10) (b := bo) (sz := 1) (l := (acc.set wh.toNat (acc[wh.toNat] + sticks * h.pay.stick)).map I) (T := 3) yR (by simp only [zaa, ↓reduceIte]) (by rw [List.length_map, hl2]; omega) ⟨Nat.le_refl _, by simp only [maxLen]; omega⟩ ?_
      refine zbh yG ?_
      rw [zmi _ _ hl2]
      rfl
  · rw [zmb, if_pos h0]
    generalize zdx h = c at *
    refine DC.of_run Tryz.func19 rfl Tryz.ntmps19 Tryz.results19 (by simp) (fun _ _ => ?_); simp only [zag, zai, go_sem, Nat.zero_add, Nat.reduceAdd]
    repeat' (first | refine yJT ?_ | refine zan inferInstance (hk) yR yF ?_ | (refine zap (t := 5) yU yE yU ?_; simp only [yS3]) | refine zao [] yE trivial ?_ | fail)
    all_goals first | rfl | (exfalso; omega)
end Go.XL
