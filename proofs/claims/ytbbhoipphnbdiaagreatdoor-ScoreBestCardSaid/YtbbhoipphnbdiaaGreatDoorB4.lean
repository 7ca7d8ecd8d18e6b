/- A part of a program logic over the kit's walk rules, and contracts of functions in it. Conditions: as each theorem says. -/
import Derived.Test.YtbbhoipphnbdiaaGreatDoorB3
set_option linter.all false
namespace Go.XL
open Go.Proofs
set_option maxRecDepth 100000
set_option maxHeartbeats 4000000
theorem zpr {l:List Int} {i:Nat} (hi:i<l.length):zdl (l.drop i)=if ¬(1≤l[i]∧l[i]≤9)then 2 else zdl (l.drop (i+1)):=by
 rw[List.drop_eq_getElem_cons hi,zdl]
theorem zsm {k:Int} {l:List Int} {i:Nat} (hi:i<l.length) (p:Int):zeq k (l.drop i) p=if ¬(0≤l[i]∧l[i]≤k-1)then 2 else if l[i]≤p then 11 else zeq k (l.drop (i+1)) l[i]:=by
 rw[List.drop_eq_getElem_cons hi,zeq]
theorem zrf : ∀(l m:List Int),sumI (l++m)=sumI l+sumI m
 | [],m=>by simp[sumI]
 | a::l,m=>by rw[List.cons_append,sumI,sumI,zrf l m];omega
theorem zel {l:List Int} {i:Nat} (hi:i<l.length):sumI (l.take (i+1))=sumI (l.take i)+l[i]:=by
 rw[List.take_succ_eq_append_getElem hi,zrf];simp[sumI]
theorem zin : ∀{l:List Int},zdl l=0→(l.length:Int)≤sumI l∧sumI l≤9*l.length
 | [],_=>by simp[sumI]
 | a::l,h=>by
  rw[zdl]at h
  split at h
  ·cases h
  ·rename_i h1
   have:=zin h
   rw[sumI,List.length_cons];omega
theorem ite0 {p:Prop} {_:Decidable p} {a b:Int} (ha:a≠0) (h:(if p then a else b)=0): ¬p∧b=0:=by
 by_cases hp:p
 ·rw[if_pos hp]at h;exact absurd h ha
 ·rw[if_neg hp]at h;exact⟨hp,h⟩
structure GSet.Ok (s:GSet):Prop where
 players:3≤s.players∧s.players≤4
 suits:s.suits.length≤3
 suit:zdl s.suits=0
 winds:0≤s.winds∧s.winds≤4
 dragons:0≤s.dragons∧s.dragons≤3
 flowers:0≤s.flowers∧s.flowers≤8
 copies:1≤s.copies∧s.copies≤4
 melds:1≤s.melds∧s.melds≤4
 dead:0≤s.dead∧s.dead≤20
 plain:1≤s.plain∧s.plain≤34
 reds:ascS s.plain s.reds=0
 tiles:s.players*(3*s.melds+1)+1+s.dead≤s.plain*s.copies+s.flowers
theorem zcb {s:GSet} (h:zbo s=0):s.Ok:=by
 unfold zbo at h
 obtain⟨h1,h⟩:=ite0 (by decide) h
 obtain⟨h2,h⟩:=ite0 (by decide) h
 obtain⟨h3,h⟩:=ite0 (by decide) h
 obtain⟨h4,h⟩:=ite0 (by decide) h
 obtain⟨h5,h⟩:=ite0 (by decide) h
 obtain⟨h6,h⟩:=ite0 (by decide) h
 obtain⟨h7,h⟩:=ite0 (by decide) h
 obtain⟨h8,h⟩:=ite0 (by decide) h
 obtain⟨h9,h⟩:=ite0 (by decide) h
 obtain⟨h10,h⟩:=ite0 (by decide) h
 have e:s.plain=s.winds+s.dragons+sumI s.suits:=rfl
 have h3:=Decidable.not_not.1 h3
 have hs:=zin h3
 by_cases h11:ascS s.plain s.reds≠0
 ·rw[if_pos h11]at h;exact absurd h h11
 rw[if_neg h11]at h
 obtain⟨h12,h⟩:=ite0 (by decide) h
 exact⟨by omega,by omega,h3,by omega,by omega,by omega,by omega,by omega,by omega,by omega,Decidable.not_not.1 h11,by omega⟩
def tabS (s:GSet):List (Int×Int×Int):= [(s.winds,0,4),(s.dragons,0,3),(s.flowers,0,8),(s.copies,1,4),(s.melds,1,4),(s.dead,0,20)]
def rowT (s:GSet) (j:Nat):Int×Int×Int:=(tabS s).getD j (0,0,0)
abbrev tabC (s:GSet):List V:= [I s.winds,I 0,I 4,I s.dragons,I 0,I 3,I s.flowers,I 0,I 8,I s.copies,I 1,I 4,I s.melds,I 1,I 4,I s.dead,I 0,I 20]
theorem ynm (s:GSet): ∀(j:Nat),j<6→(((tabC s).drop ((j:Int).toNat*3)).take 3).map V.peek= [I (rowT s j).1,I (rowT s j).2.1,I (rowT s j).2.2]
 | 0,_=>rfl
 | 1,_=>rfl
 | 2,_=>rfl
 | 3,_=>rfl
 | 4,_=>rfl
 | 5,_=>rfl
 | _+6,h=>by omega
theorem yjm {s:GSet} (h1:3≤s.players∧s.players≤4) (h2: ¬3<(s.suits.length:Int)) (h3:zdl s.suits=0) :
  (∀j,j<6→(rowT s j).2.1≤(rowT s j).1∧(rowT s j).1≤(rowT s j).2.2)∨zbo s=2:=by
 by_cases a1:0≤s.winds∧s.winds≤4
 ·by_cases a2:0≤s.dragons∧s.dragons≤3
  ·by_cases a3:0≤s.flowers∧s.flowers≤8
   ·by_cases a4:1≤s.copies∧s.copies≤4
    ·by_cases a5:1≤s.melds∧s.melds≤4
     ·by_cases a6:0≤s.dead∧s.dead≤20
      ·refine .inl fun j hj=>?_
       match j,hj with
       | 0,_=>exact a1
       | 1,_=>exact a2
       | 2,_=>exact a3
       | 3,_=>exact a4
       | 4,_=>exact a5
       | 5,_=>exact a6
      ·right;rw[zbo,if_neg (by omega),if_neg h2,if_neg (by omega),if_neg (by omega),if_neg (by omega),if_neg (by omega),if_neg (by omega),if_neg (by omega),if_pos a6]
     ·right;rw[zbo,if_neg (by omega),if_neg h2,if_neg (by omega),if_neg (by omega),if_neg (by omega),if_neg (by omega),if_neg (by omega),if_pos a5]
    ·right;rw[zbo,if_neg (by omega),if_neg h2,if_neg (by omega),if_neg (by omega),if_neg (by omega),if_neg (by omega),if_pos a4]
   ·right;rw[zbo,if_neg (by omega),if_neg h2,if_neg (by omega),if_neg (by omega),if_neg (by omega),if_pos a3]
  ·right;rw[zbo,if_neg (by omega),if_neg h2,if_neg (by omega),if_neg (by omega),if_pos a2]
 ·right;rw[zbo,if_neg (by omega),if_neg h2,if_neg (by omega),if_pos a1]
theorem yoo {s:GSet} (h1:3≤s.players∧s.players≤4) (h2: ¬3<(s.suits.length:Int)) (h3:zdl s.suits=0) (h4: ∀j,j<6→(rowT s j).2.1≤(rowT s j).1∧(rowT s j).1≤(rowT s j).2.2) :
  zbo s=if s.plain<1 then 6 else if ascS s.plain s.reds≠0 then ascS s.plain s.reds else if s.plain*s.copies+s.flowers<s.players*(3*s.melds+1)+1+s.dead then 6 else 0:=by
 have a1:0≤s.winds∧s.winds≤4:=h4 0 (by omega)
 have a2:0≤s.dragons∧s.dragons≤3:=h4 1 (by omega)
 have a3:0≤s.flowers∧s.flowers≤8:=h4 2 (by omega)
 have a4:1≤s.copies∧s.copies≤4:=h4 3 (by omega)
 have a5:1≤s.melds∧s.melds≤4:=h4 4 (by omega)
 have a6:0≤s.dead∧s.dead≤20:=h4 5 (by omega)
 rw[zbo,if_neg (by omega),if_neg h2,if_neg (by omega),if_neg (by omega),if_neg (by omega),if_neg (by omega),if_neg (by omega),if_neg (by omega),if_neg (by omega)]
theorem zfp (s:GSet):PC Tryz.prog 50 [s.val] (I (zbo s)):=by
 refine DC.of_run Tryz.func50 rfl Tryz.ntmps50 Tryz.results50 (by simp) (fun _ _=>?_);simp only[zag,zaj,go_sem,Nat.zero_add,Nat.reduceAdd]
 repeat' (first|refine yJ ?_|(with_reducible first|(refine zax yE ?_;first|refine zdz (fun _=>?_) (fun _=>?_)|refine zay ?_)|(refine zbi yU yE ?_;first|refine zex (fun _=>?_) (fun _=>?_)|refine GG.run ?_|refine zcv ?_))|(refine zao (t:=1) yU yE yU ?_;simp only[yS3])|refine zan [] yE trivial ?_|fail)
 all_goals try first|(rw[zbo,if_pos (by omega)];rfl)|(rw[zbo,if_neg (by omega),if_pos (by omega)];rfl)
 rename_i h1 h2 h3
 refine zbp [1,30,31] yN (fun(z:Nat×Int)=> [(3,I z.2),(32,I z.1)]) (fun(z:Nat×Int)=>z.1≤s.suits.length∧zdl s.suits=zdl (s.suits.drop z.1)∧(0≤s.winds∧s.winds≤4→0≤s.dragons∧s.dragons≤3→z.2=s.winds+s.dragons+sumI (s.suits.take z.1)∧0≤sumI (s.suits.take z.1)∧sumI (s.suits.take z.1)≤9*z.1)) (fun(z:Nat×Int)=>s.suits.length-z.1) (0,IntKind.i64.wrap (s.winds+s.dragons)) yS (by
   refine⟨Nat.zero_le _,by simp,fun a b=>?_⟩
   dsimp only
   rw[IntWalk.i64_in _ (by omega)]
   simp[sumI]) (fun z B hI hB=>?_);try dsimp only at hI hB;simp only[zad,zaf]
 have HB:=Box.mk hB
 clear hB
 obtain⟨i,kk⟩:=z
 dsimp only at hI ⊢
 obtain⟨hI,hI2,hI3⟩:=hI
 have H3:=Box.mk hI3
 clear hI3
 by_cases hi:(i:Int)<(s.suits.length:Int)
 ·have hi':i<s.suits.length:=by omega
  rw[zpr hi']at hI2
  have H2:=Box.mk hI2
  clear hI2
  by_cases hn:1≤s.suits[i]∧s.suits[i]≤9
  ·have hn1: ¬s.suits[i]<1:=by omega
   have hn2: ¬9<s.suits[i]:=by omega
   repeat' (first|refine yJT ?_|fail)
   refine DS.back (HB.out (i+1,IntKind.i64.wrap (kk+s.suits[i])) _ _ (by dsimp only;omega) ⟨by dsimp only;omega,by rw[H2.out,if_neg (by omega)],fun a b=>?_⟩ yS yS (fun b o e=>by cases e))
   obtain⟨q1,q2,q3⟩:=H3.out a b
   dsimp only
   rw[zel hi',IntWalk.i64_in _ (by omega)]
   omega
  ·have e:zbo s=2:=by rw[zbo,if_neg (by omega),if_neg h3,if_pos (by rw[H2.out,if_pos hn];decide)]
   rw[e]
   repeat' (first|refine yJ ?_|(with_reducible first|(refine zax yE ?_;first|refine zdz (fun _=>?_) (fun _=>?_)|refine zay ?_)|(refine zbi yU yE ?_;first|refine zex (fun _=>?_) (fun _=>?_)|refine GG.run ?_|refine zcv ?_))|refine zan [] yE trivial ?_|fail)
   all_goals first|rfl|(exfalso;omega)
 ·rw[zew hi]at hI2
  have hI2:zdl s.suits=0:=hI2
  clear HB
  have hh:3≤s.players∧s.players≤4:=by omega
  have ht:=yjm hh h3 hI2
  have hin:=yoo hh h3 hI2
  have HT:=Box.mk (And.intro ht hin)
  clear ht hin
  repeat' (first|refine yJT ?_|(refine zbt (t:=6) yU yE yU (fun _=>yE) yE yU yV1 (fun _=>yN1) ?_;simp only[go_sem])|fail)
  refine zbp [1,3,65] yN (fun(j:Nat)=> [(66,I j)]) (fun(j:Nat)=>j≤6∧ ∀m,m<j→(rowT s m).2.1≤(rowT s m).1∧(rowT s m).1≤(rowT s m).2.2) (fun(j:Nat)=>6-j) 0 yS ⟨Nat.zero_le _,fun m h=>by omega⟩ (fun j B hI hB=>?_);try dsimp only at hI hB;simp only[zad,zaf]
  obtain⟨hJ,hJ2⟩:=hI
  have HJ:=Box.mk (And.intro hJ2 hB)
  clear hJ2 hB
  by_cases hj:(j:Int)<6
  ·repeat' (first|refine yJT ?_|fail)
   refine zvl (e:=152) (m:=3) (c:=tabC s) (by decide) yKR yKR yH yH (Int.natCast_nonneg _) hj (by show(j:Int).toNat*3+3≤18;omega) ?_
   rw[ynm s j (by omega)]
   generalize hq:rowT s j=q at *
   obtain⟨x,lo,hi2⟩:=q
   dsimp only
   by_cases hok:lo≤x∧x≤hi2
   ·have k1: ¬x<lo:=by omega
    have k2: ¬hi2<x:=by omega
    repeat' (first|refine yJT ?_|(refine zbt (t:=8) yU yE yU (fun _=>yE) yE yU yV1 (fun _=>yN1) ?_;simp only[go_sem])|fail)
    exact DS.back (HJ.out.2 (j+1) _ _ (by omega) ⟨by omega,fun m hm=>if h:m=j then(by subst h;rw[hq];exact hok)else HJ.out.1 m (by omega)⟩ yS yS (fun b o e=>by cases e))
   ·have e:zbo s=2:=HT.out.1.resolve_left fun h=>hok (by have:=h j (by omega);rw[hq]at this;exact this)
    rw[e]
    repeat' (first|refine yJ ?_|(with_reducible first|(refine zax yE ?_;first|refine zdz (fun _=>?_) (fun _=>?_)|refine zay ?_)|(refine zbi yU yE ?_;first|refine zex (fun _=>?_) (fun _=>?_)|refine GG.run ?_|refine zcv ?_))|(refine zbt (t:=8) yU yE yU (fun _=>yE) yE yU yV1 (fun _=>yN1) ?_;simp only[go_sem])|refine zan [] yE trivial ?_|fail)
    all_goals first|rfl|(exfalso;omega)
  ·have h4: ∀j,j<6→(rowT s j).2.1≤(rowT s j).1∧(rowT s j).1≤(rowT s j).2.2:=fun m hm=>HJ.out.1 m (by omega)
   have e:=HT.out.2 h4
   obtain⟨q1,q2,q3⟩:=H3.out (h4 0 (by omega)) (h4 1 (by omega))
   have e2:kk=s.plain:=by
    rw[q1,List.take_of_length_le (by omega)];rfl
   subst e2
   clear HT HJ H3 q1 q2 q3
   have hpl:s.plain≤34:=by have:=zin hI2;have e:s.plain=s.winds+s.dragons+sumI s.suits:=rfl;have:=h4 0 (by omega);have:=h4 1 (by omega);simp only[rowT,tabS,List.getD_cons_zero,List.getD_cons_succ]at *;omega
   have hp0:0≤s.plain:=by have e:s.plain=s.winds+s.dragons+sumI s.suits:=rfl;have:=zin hI2;have:=h4 0 (by omega);have:=h4 1 (by omega);simp only[rowT,tabS,List.getD_cons_zero,List.getD_cons_succ]at *;omega
   by_cases hz:s.plain=0
   ·rw[e,if_pos (by omega)]
    repeat' (first|refine yJT ?_|refine zan [] yE trivial ?_|fail)
    all_goals first|rfl|(exfalso;omega)
   ·rw[if_neg (by omega)]at e
    repeat' (first|refine yJT ?_|fail)
    all_goals try (exfalso;omega)
    refine zgz (t:=85) yG (.inl rfl) (fun hb85=>?_);simp only[List.length_map]at hb85
    refine zbp [1,3,85,86] yN (fun(z:Nat×Int)=> [(9,I z.2),(87,I z.1)]) (fun(z:Nat×Int)=>z.1≤s.reds.length∧ascS s.plain s.reds=zeq s.plain (s.reds.drop z.1) z.2) (fun(z:Nat×Int)=>s.reds.length-z.1) (0,-1) yS ⟨Nat.zero_le _,rfl⟩ (fun z B hI hB=>?_);try dsimp only at hI hB;simp only[zad,zaf]
    have HB:=Box.mk hB
    clear hB
    obtain⟨a,b⟩:=z
    dsimp only at hI ⊢
    obtain⟨hI,hI5⟩:=hI
    by_cases ha:(a:Int)<(s.reds.length:Int)
    ·have ha':a<s.reds.length:=by omega
     rw[zsm ha']at hI5
     by_cases hr:0≤s.reds[a]∧s.reds[a]≤s.plain-1
     ·have hr1: ¬s.reds[a]<0:=by omega
      have hr2: ¬s.plain≤s.reds[a]:=by omega
      rw[if_neg (by omega)]at hI5
      by_cases hl:s.reds[a]≤b
      ·rw[if_pos hl]at hI5
       rw[hI5,if_pos (by decide)]at e
       rw[e]
       clear hI5 e
       repeat' (first|refine yJT ?_|refine zan [] yE trivial ?_|fail)
       all_goals first|rfl|(exfalso;omega)
      ·rw[if_neg hl]at hI5
       have H5:=Box.mk hI5
       clear hI5
       repeat' (first|refine yJT ?_|fail)
       exact DS.back (HB.out (a+1,s.reds[a]) _ _ (by dsimp only;omega) ⟨by dsimp only;omega,H5.out⟩ yS yS (fun b o e=>by cases e))
     ·rw[if_pos hr]at hI5
      rw[hI5,if_pos (by decide)]at e
      rw[e]
      clear hI5 e
      repeat' (first|refine yJ ?_|(with_reducible first|(refine zax yE ?_;first|refine zdz (fun _=>?_) (fun _=>?_)|refine zay ?_)|(refine zbi yU yE ?_;first|refine zex (fun _=>?_) (fun _=>?_)|refine GG.run ?_|refine zcv ?_))|refine zan [] yE trivial ?_|fail)
      all_goals first|rfl|(exfalso;omega)
    ·rw[zew ha]at hI5
     rw[hI5]at e
     rw[show zeq s.plain [] b=0 from rfl,if_neg (by decide)]at e
     clear hI5
     have b3:1≤s.copies∧s.copies≤4:=h4 3 (by omega)
     have b4:1≤s.melds∧s.melds≤4:=h4 4 (by omega)
     have b2:0≤s.flowers∧s.flowers≤8:=h4 2 (by omega)
     have b5:0≤s.dead∧s.dead≤20:=h4 5 (by omega)
     have m1:0≤s.plain*s.copies:=Int.mul_nonneg hp0 (by omega)
     have m2:s.plain*s.copies≤34*4:=Int.mul_le_mul hpl b3.2 (by omega) (by omega)
     have m3:0≤s.players*(3*s.melds+1):=Int.mul_nonneg (by omega) (by omega)
     have m4:s.players*(3*s.melds+1)≤4*13:=Int.mul_le_mul hh.2 (by omega) (by omega) (by omega)
     repeat' (first|refine yJ ?_|(with_reducible (refine zax yE ?_;first|refine zdz (fun _=>?_) (fun _=>?_)|refine zbl ?_))|refine zan [] yE trivial ?_|fail)
     ·rw[e,if_pos (by omega)];rfl
     ·rw[e,if_neg (by omega)];rfl
end Go.XL
namespace Go.XL
theorem yio (x lo hi:Int):zbv x lo hi=lo+zar x (hi-lo+1):=rfl
theorem zco {x lo hi:Int} (h:lo≤hi):lo≤zbv x lo hi∧zbv x lo hi≤hi:=by
 have h1:=zcz x (hi-lo+1)
 rw[yio]
 have:=h1.2.1 (by omega)
 omega
theorem zaz {x n:Int} (h:1≤n):0≤zar x n∧zar x n<n:=⟨(zcz x n).1,(zcz x n).2.1 h⟩
theorem zlk {s:GSet} (h:zbo s=0):zcc s=s.plain:=by rw[zcc,if_neg (by omega)]
theorem zrw (n K:Int): ∀(c:Nat) (k x last:Int),last<k→0≤k→k+c=K→zeq K (zna n c k x).1 last=0∧(zna n c k x).1.length≤c
 | 0,k,x,last,_,_,_=>⟨rfl,Nat.le_refl _⟩
 | c+1,k,x,last,h1,h2,h3=>by
  rw[zna]
  split
  ·obtain⟨a,b⟩:=zrw n K c (k+1) (stepX x) k (by omega) (by omega) (by omega)
   dsimp only
   rw[zeq,if_neg (by omega),if_neg (by omega),a]
   exact⟨rfl,by simp;omega⟩
  ·obtain⟨a,b⟩:=zrw n K c (k+1) (stepX x) last (by omega) (by omega) (by omega)
   exact⟨a,by omega⟩
theorem ydk {s:GSet} (h:zbo s=0):1≤s.plain:=by
 have:=(zcb h).plain
 omega
theorem zop {s:GSet} (h:zbo s=0) (x:Int):ascS (zcc s) (zdv s x).1=0∧((zdv s x).1.length:Int)≤s.plain:=by
 have hp:=ydk h
 have:=zrw (zbv x 1 4) s.plain s.plain.toNat 0 (stepX x) (-1) (by omega) (by omega) (by omega)
 rw[zlk h,ascS,zdv]
 exact⟨this.1,by omega⟩
theorem zyg (x:Int):1≤(zkp x).1∧(zkp x).1≤31:=by
 unfold zkp
 split
 ·have h:=zaz (x:=stepX (stepX x)) (n:=5) (by omega)
  obtain⟨j,hj⟩: ∃j:Nat,zar (stepX (stepX x)) 5=j:=⟨(zar (stepX (stepX x)) 5).toNat,by omega⟩
  rw[hj]at h ⊢
  rw[Int.toNat_natCast]
  dsimp only
  have:j=0∨j=1∨j=2∨j=3∨j=4:=by omega
  rcases this with rfl|rfl|rfl|rfl|rfl <;> decide
 ·exact zco (by omega)
structure LeafOk (s:GSet) (b:Bool) (x:Node):Prop where
 node:zek s x=0
 parts:(useS x.op).parts= []
 num:numS x.op=b
theorem yjh {s:GSet} {w z c:Int} (hw:1≤w∧w≤31):LeafOk s false (yec w z c).1:=by
 have h1:=zco (x:=z) (lo:=1) (hi:=6) (by omega)
 have h2:=zco (x:=z) (lo:=1) (hi:=7) (by omega)
 have h3:=zaz (x:=z) (n:=4) (by omega)
 unfold yec
 split
 ·exact⟨by simp[zek,useS,ascS,zeq],rfl,rfl⟩
 split
 ·exact⟨by simp[zek,useS,ascS,zeq];omega,rfl,rfl⟩
 split
 ·exact⟨by simp[zek,useS,ascS,zeq];omega,rfl,rfl⟩
 split
 ·exact⟨by simp[zek,useS,ascS,zeq],rfl,rfl⟩
 split
 ·exact⟨by simp[zek,useS,ascS,zeq],rfl,rfl⟩
 ·exact⟨by simp[zek,useS,ascS,zeq];omega,rfl,rfl⟩
theorem yjg {s:GSet} (h:zbo s=0) {w z c:Int} (hw:1≤w∧w≤31):LeafOk s true (zpm s w z c).1:=by
 have h1:=zco (x:=z) (lo:=1) (hi:=2) (by omega)
 have h2:=zco (x:=z) (lo:=2) (hi:=4) (by omega)
 have h3:=zco (x:=stepX z) (lo:=1) (hi:=3) (by omega)
 have h4:=zco (x:=z) (lo:=2) (hi:=3) (by omega)
 have h5:=zaz (x:=stepX z) (n:=3) (by omega)
 have h6:=zaz (x:=z) (n:=6) (by omega)
 have h7:=zaz (x:=z) (n:=3) (by omega)
 unfold zpm
 split
 ·exact⟨by simp[zek,useS,ascS,zeq];omega,rfl,rfl⟩
 split
 ·exact⟨by simp[zek,useS,ascS,zeq],rfl,rfl⟩
 split
 ·exact⟨by simp[zek,useS,ascS,zeq];omega,rfl,rfl⟩
 split
 ·exact⟨by simp[zek,useS,ascS,zeq];omega,rfl,rfl⟩
 split
 ·exact⟨by simp[zek,useS,ascS,zeq];omega,rfl,rfl⟩
 split
 ·exact⟨by simp[zek,useS,ascS,zeq];omega,rfl,rfl⟩
 split
 ·exact⟨by simp[zek,useS,ascS,zeq],rfl,rfl⟩
 split
 ·exact⟨by simp[zek,useS,ascS,zeq],rfl,rfl⟩
 split
 ·exact⟨by simp[zek,useS];exact(zop h z).1,rfl,rfl⟩
 ·refine⟨?_,rfl,rfl⟩
  have hk:=(zop h (stepX (stepX z))).1
  simp[zek,useS]
  rw[if_neg (by omega)]
  exact hk
theorem zyh {s:GSet} (h:zbo s=0) (x:Int) (b:Bool):LeafOk s b (zkg s x b).1:=by
 unfold zkg
 cases b with
 | true=>rw[if_pos rfl];exact yjg h (zyg x)
 | false=>rw[if_neg (by decide)];exact yjh (zyg x)
theorem zyo {s:GSet} (x:Int) (b:Bool):zek s (zjc x b).1=0∧(useS (zjc x b).1.op).parts=(zjc x b).2.1∧numS (zjc x b).1.op=b∧(zjc x b).2.1.length≤3:=by
 have h1:=zco (x:=stepX (stepX x)) (lo:=1) (hi:=12) (by omega)
 have h2:=zco (x:=stepX (stepX x)) (lo:=12) (hi:=13) (by omega)
 have h3:=zco (x:=stepX (stepX x)) (lo:=3) (hi:=4) (by omega)
 have h4:=zaz (x:=stepX (stepX x)) (n:=5) (by omega)
 unfold zjc
 cases b with
 | true =>
  rw[if_pos rfl]
  split
  ·exact⟨by simp[zek,useS,ascS,zeq],rfl,rfl,by simp⟩
  split
  ·exact⟨by simp[zek,useS,ascS,zeq];omega,rfl,rfl,by simp⟩
  ·dsimp only
   generalize zbv (stepX (stepX x)) 12 13=o at *
   rcases(show o=12∨o=13 by omega)with rfl|rfl
   ·exact⟨by simp[zek,useS,ascS,zeq],rfl,rfl,by simp⟩
   ·exact⟨by simp[zek,useS,ascS,zeq],rfl,rfl,by simp⟩
 | false =>
  rw[if_neg (by decide)]
  split
  ·exact⟨by simp[zek,useS,ascS,zeq],rfl,rfl,by simp⟩
  split
  ·exact⟨by simp[zek,useS,ascS,zeq];omega,rfl,rfl,by simp⟩
  ·dsimp only
   generalize zbv (stepX (stepX x)) 3 4=o at *
   rcases(show o=3∨o=4 by omega)with rfl|rfl
   ·exact⟨by simp[zek,useS,ascS,zeq],rfl,rfl,by simp⟩
   ·exact⟨by simp[zek,useS,ascS,zeq],rfl,rfl,by simp⟩
theorem zoi {s:GSet}: ∀{a b:List Node},zdi s a=0→zdi s b=0→zdi s (a++b)=0
 | [],b,_,h=>h
 | x::a,b,h1,h2=>by
  rw[zdi]at h1
  by_cases hx:zek s x=0
  ·rw[if_neg (by omega)]at h1
   rw[List.cons_append,zdi,if_neg (by omega)]
   exact zoi h1 h2
  ·rw[if_pos hx]at h1;exact absurd h1 hx
def zus :Nat→Nat
 | 0=>1
 | d+1=>1+3*zus d
structure CondOk (s:GSet) (b:Bool) (L:Nat) (l:List Node):Prop where
 nodes:zdi s l=0
 some_:l≠ []
 ask: ∀(r:List Node) (A:List Bool) (t:Bool),zik (l++r) (b::A) t=zik r A t
 len:l.length≤L
theorem LeafOk.cond {s:GSet} {b:Bool} {x:Node} (h:LeafOk s b x):CondOk s b 1 [x]:=by
 refine⟨by rw[zdi,if_neg (by have:=h.node;omega)];rfl,by simp,fun r A t=>?_,Nat.le_refl _⟩
 rw[List.singleton_append,zik,h.parts,h.num]
 simp
theorem CondOk.mono {s:GSet} {b:Bool} {L L':Nat} {l:List Node} (h:CondOk s b L l) (hl:L≤L'):CondOk s b L' l:=⟨h.1,h.2,h.3,Nat.le_trans h.4 hl⟩
theorem ztg {s:GSet} {L:Nat} {f:Int→Bool→List Node×Int} (hf: ∀x b,CondOk s b L (f x b).1): ∀(ps:List Bool) (x:Int),zdi s (zfq f ps x).1=0∧(∀(r:List Node) (A:List Bool) (t:Bool),zik ((zfq f ps x).1++r) (ps++A) t=zik r A t)∧(zfq f ps x).1.length≤ps.length*L
 | [],x=>⟨rfl,fun r A t=>rfl,by simp[zfq]⟩
 | b::ps,x=>by
  have h1:=hf x b
  obtain⟨a1,a2,a3⟩:=ztg hf ps (f x b).2
  rw[zfq]
  refine⟨zoi h1.nodes a1,fun r A t=>?_,?_⟩
  ·dsimp only
   rw[List.append_assoc,List.cons_append,h1.ask,a2]
  ·dsimp only
   have:=h1.len
   rw[List.length_append,List.length_cons,Nat.succ_mul]
   omega
theorem znp {s:GSet} (h:zbo s=0): ∀(d:Nat) (x:Int) (b:Bool),CondOk s b (zus d) (zgx s d x b).1
 | 0,x,b=>by rw[zgx];exact(zyh h x b).cond
 | d+1,x,b=>by
  rw[zgx]
  split
  ·exact(zyh h (stepX x) b).cond.mono (by rw[zus];omega)
  ·obtain⟨b1,b2,b3,b4⟩:=zyo (s:=s) (stepX x) b
   obtain⟨a1,a2,a3⟩:=ztg (znp h d) (zjc (stepX x) b).2.1 (zjc (stepX x) b).2.2
   refine⟨by rw[zdi,if_neg (by omega)];exact a1,by simp,fun r A t=>?_,?_⟩
   ·dsimp only
    rw[List.cons_append,zik,b2,a2,b3]
    simp
   ·dsimp only
    have hm:=Nat.mul_le_mul_right (zus d) b4
    rw[List.length_cons,zus]
    omega
theorem zpd : ∀(l:List Node) (A:List Bool) (t:Bool) (B:List Bool),zik l A t=some (B,true)→t=true
 | [],A,t,B,h=>by simp only[zik,Option.some.injEq,Prod.mk.injEq]at h;exact h.2
 | _::_,[],t,B,h=>by cases h
 | x::l,b::A,t,B,h=>by
  rw[zik]at h
  have:=zpd l _ _ B h
  cases t with
  | true=>rfl
  | false=>simp at this
theorem CondOk.cond {s:GSet} (h:zbo s=0) {b:Bool} {L:Nat} {l:List Node} (hc:CondOk s b L l) (hL:L≤60):zhf s l=(b,0):=by
 have h1:=hc.ask [] [] true
 have h2:=hc.len
 have h3:=hc.nodes
 have h4:=hc.some_
 rw[List.append_nil]at h1
 cases l with
 | nil=>exact absurd rfl h4
 | cons x l =>
  rw[zik,zik]at h1
  have h5:=zpd l _ _ _ h1
  have h6:numS x.op=b:=by
   rw[Bool.true_and]at h5
   exact(eq_of_beq h5).symm
  rw[h5,List.append_nil]at h1
  rw[zhf,if_neg (by omega),if_neg (by omega),if_neg (by omega),askS,h1]
  dsimp only
  rw[if_neg (by simp;omega),if_neg (by simp),if_neg (by simp),List.headD_cons,h6]
theorem zur {s:GSet} (h:zbo s=0):zhf s []=(false,0):=by
 rw[zhf,if_neg (by omega),if_neg (by simp),if_neg (by simp[zdi])]
 rfl
theorem zjy (own:Int) (many:Int): ∀(c:Nat) (i x:Int) (p:Option Int),0≤i→i+c=many→(∀q,p=some q→q<i)→zgq own many (zea own c i x).1 p=0∧(zea own c i x).1.length≤c
 | 0,i,x,p,_,_,_=>⟨rfl,Nat.le_refl _⟩
 | c+1,i,x,p,h1,h2,h3=>by
  rw[zea]
  split
  ·obtain⟨a,b⟩:=zjy own many c (i+1) x p (by omega) (by omega) (fun q hq=>by have:=h3 q hq;omega)
   exact⟨a,by omega⟩
  split
  ·obtain⟨a,b⟩:=zjy own many c (i+1) (stepX x) (some i) (by omega) (by omega) (fun q hq=>by cases hq;omega)
   rename_i hn _
   dsimp only
   rw[zgq,if_neg (by omega),if_neg hn,if_neg,a]
   ·exact⟨rfl,by simp;omega⟩
   ·cases p with
    | none=>simp[anyO]
    | some q=>have:=h3 q rfl;simp[anyO];omega
  ·obtain⟨a,b⟩:=zjy own many c (i+1) (stepX x) p (by omega) (by omega) (fun q hq=>by have:=h3 q hq;omega)
   exact⟨a,by omega⟩
theorem zow {s:GSet} (h:zbo s=0): ∀(n:Nat) (x:Int),zhd s (zdh s n x).1=0∧(zdh s n x).1.length≤n
 | 0,x=>⟨rfl,Nat.le_refl _⟩
 | n+1,x=>by
  rw[zdh]
  split
  ·obtain⟨a,b⟩:=zow h n (stepX (zdv s x).2)
   have hk:=(zop h x).1
   have hm:=(zcb h).melds
   have hr:=zco (x:=(zdv s x).2) (lo:=1) (hi:=s.melds) (by omega)
   dsimp only
   rw[zhd,if_neg (by dsimp only;omega),if_neg (by dsimp only;omega),if_neg (by dsimp only;omega),a]
   exact⟨rfl,by simp;omega⟩
  ·obtain⟨a,b⟩:=zow h n (zdv s x).2
   exact⟨a,by omega⟩
theorem yaz {s:GSet} (h:zbo s=0) {n:Int} (hn:0≤n∧n≤2000):(zjn s n).length=s.players.toNat∧ziz (zjn s n)=true∧sumI (zjn s n)=0:=by
 have hp:=(zcb h).players
 unfold zjn
 rcases(show s.players=3∨s.players=4 by omega)with e|e <;> rw[e] <;> refine⟨rfl,?_,?_⟩ <;> simp[ziz,sumI,List.replicate] <;> omega
theorem ynv {s:GSet} (h:zbo s=0) (x:Int):payS s (payK s x).1=0:=by
 have key: ∀(x0 x2 x3 x4 x5 x6 x7 x8 x9 y:Int) (d b:Bool) (pl:List Int) (n:Nat),(pl= []∨pl.length=s.players.toNat)→ziz pl=true→sumI pl=0→n≤3 →
   payS s ⟨zbv x0 1 3,d,zar x2 9,zar x3 4*100,zar x4 2*1000,zar x5 3*600,zar x6 3*500,zbv x7 0 30*1000,zbv x8 1 3,zar x9 8,b,pl,(zdh s n y).1⟩=0:=by
  intro x0 x2 x3 x4 x5 x6 x7 x8 x9 y d b pl n hl hb hs hn
  have hp:=(zcb h).players
  have q0:=zco (x:=x0) (lo:=1) (hi:=3) (by omega)
  have q2:=zaz (x:=x2) (n:=9) (by omega)
  have q3:=zaz (x:=x3) (n:=4) (by omega)
  have q4:=zaz (x:=x4) (n:=2) (by omega)
  have q5:=zaz (x:=x5) (n:=3) (by omega)
  have q6:=zaz (x:=x6) (n:=3) (by omega)
  have q7:=zco (x:=x7) (lo:=0) (hi:=30) (by omega)
  have q8:=zco (x:=x8) (lo:=1) (hi:=3) (by omega)
  have q9:=zaz (x:=x9) (n:=8) (by omega)
  obtain⟨f1,f2⟩:=zow h n y
  unfold payS
  rw[if_neg (by omega),if_neg (by dsimp only;omega),if_neg ?_,if_neg (by dsimp only;omega),if_neg (by dsimp only;omega),if_neg (by dsimp only;omega),if_neg ?_,if_neg (by dsimp only;rw[hb];decide),if_neg (by dsimp only;omega),if_neg (by dsimp only;omega)]
  ·exact f1
  ·dsimp only
   rcases hl with rfl|hl
   ·simp
   ·omega
  ·have p: ∀n:Int,0≤n→n≤1000000→ptB n=true:=fun n a b=>decide_eq_true ⟨a,b⟩
   dsimp only
   rw[p _ (by omega) (by omega),p _ (by omega) (by omega),p _ (by omega) (by omega),p _ (by omega) (by omega),p _ (by omega) (by omega),p _ (by omega) (by omega)]
   decide
 unfold payK
 split
 ·have q:=zaz (x:=(stepX (stepX (stepX (stepX (stepX (stepX (stepX (stepX (stepX (stepX (stepX (stepX x))))))))))))) (n:=20) (by omega)
  have q2:=zaz (x:=(stepX (stepX (stepX (stepX (stepX (stepX (stepX (stepX (stepX (stepX (stepX (stepX (stepX x)))))))))))))) (n:=3) (by omega)
  obtain⟨a1,a2,a3⟩:=yaz h (n:=zar (stepX (stepX (stepX (stepX (stepX (stepX (stepX (stepX (stepX (stepX (stepX (stepX x)))))))))))) 20*100) (by omega)
  exact key _ _ _ _ _ _ _ _ _ _ _ _ _ _ (.inr a1) a2 a3 (by omega)
 ·have q2:=zaz (x:=(stepX (stepX (stepX (stepX (stepX (stepX (stepX (stepX (stepX (stepX (stepX (stepX x))))))))))))) (n:=3) (by omega)
  exact key _ _ _ _ _ _ _ _ _ _ _ _ _ _ (.inl rfl) rfl rfl (by omega)
theorem yis {s:GSet} (h:zbo s=0) (x:Int):zlc s (zpj s x).1=0:=by
 have hd:=(zcb h).dead
 have key: ∀(x1 x3 x5 x6 x7 x11 x12 x13:Int) (b0 b2 b4 b8 b9 b10 b14 b15:Bool),zlc s ⟨b0,zbv x1 1 3,b2,zar x3 5,b4,zar x5 3,zar x6 3,zar x7 3*3,b8,b9,b10,zbv x11 1 9,zbv x12 1 2,zar x13 (min 2 (s.dead / 2)+1),b14,b15⟩=0:=by
  intro x1 x3 x5 x6 x7 x11 x12 x13 b0 b2 b4 b8 b9 b10 b14 b15
  have q1:=zco (x:=x1) (lo:=1) (hi:=3) (by omega)
  have q3:=zaz (x:=x3) (n:=5) (by omega)
  have q5:=zaz (x:=x5) (n:=3) (by omega)
  have q6:=zaz (x:=x6) (n:=3) (by omega)
  have q7:=zaz (x:=x7) (n:=3) (by omega)
  have q11:=zco (x:=x11) (lo:=1) (hi:=9) (by omega)
  have q12:=zco (x:=x12) (lo:=1) (hi:=2) (by omega)
  have q13:=zaz (x:=x13) (n:=min 2 (s.dead / 2)+1) (by omega)
  unfold zlc
  rw[if_neg (by omega),if_neg (by dsimp only;omega),if_neg (by dsimp only;omega),if_neg (by dsimp only;omega),if_neg (by dsimp only;omega),if_neg (by dsimp only;omega),if_neg (by dsimp only;omega),if_neg (by dsimp only;omega),if_neg (by dsimp only;omega),if_neg (by dsimp only;omega)]
 exact key _ _ _ _ _ _ _ _ _ _ _ _ _ _ _ _
theorem yja : ∀i,i<6→zlg (zji i)=true:=by decide +kernel
theorem yjb : ∀i,i<6→ ∀j,j<i→zji j≠zji i:=by decide +kernel
theorem zog (s:GSet) (i many:Nat) (x:Int):(patK s i many x).1.name=zji i:=by
 unfold patK
 dsimp only
 split <;> rfl
theorem zxw (s:GSet) (many:Nat): ∀(c:Nat) (x:Int),c≤many→(zha s many c x).1.length=c∧ ∀k,k<c→ ∃x',(zha s many c x).1[k]?=some (patK s (many-c+k) many x').1
 | 0,x,_=>⟨rfl,fun k h=>absurd h (Nat.not_lt_zero _)⟩
 | c+1,x,h=>by
  obtain⟨a,b⟩:=zxw s many c (patK s (many-(c+1)) many x).2 (by omega)
  rw[zha]
  refine⟨by rw[List.length_cons,a],fun k hk=>?_⟩
  cases k with
  | zero=>exact⟨x,rfl⟩
  | succ k =>
   obtain⟨x',e⟩:=b k (by omega)
   refine⟨x',?_⟩
   rw[List.getElem?_cons_succ,e,show many-(c+1)+(k+1)=many-c+k by omega]
theorem zoe {h:House}: ∀(n i:Nat),(∀j,i≤j→j<i+n→patS h j=0)→zir h i n=0
 | 0,i,_=>rfl
 | n+1,i,hj=>by
  rw[zir,if_neg (by have:=hj i (Nat.le_refl _) (by omega);omega)]
  exact zoe n (i+1) fun j h1 h2=>hj j (by omega) (by omega)
theorem ydq {s:GSet} (hs:zbo s=0) {many i:Nat} (hm:many≤10) (hi:i<many) (x:Int):let p:=(patK s i many x).1
  (0≤p.closed∧p.closed≤3)∧(0≤p.open_∧p.open_≤2)∧(zhf s p.cond).2=0∧zen p.excl i many=0∧zen p.impl i many=0:=by
 have q1:=zaz (x:=x) (n:=4) (by omega)
 have q2:=zaz (x:=stepX x) (n:=3) (by omega)
 have ho: ∀y,zen (zea i many 0 y).1 i many=0:=fun y=>by
  obtain⟨a,b⟩:=zjy (i:Int) many many 0 y none (by omega) (by omega) (fun q hq=>by cases hq)
  rw[zen,if_neg (by omega),a]
 have hc: ∀x' y b,(zhf s (zgx s (zar x' 3).toNat y b).1).2=0:=fun x' y b=>by
  have q3:=zaz (x:=x') (n:=3) (by omega)
  have hL:zus (zar x' 3).toNat≤60:=by
   have:(zar x' 3).toNat=0∨(zar x' 3).toNat=1∨(zar x' 3).toNat=2:=by omega
   rcases this with e|e|e <;> rw[e] <;> decide
  rw[(znp hs _ y b).cond hs hL]
 unfold patK
 dsimp only
 split
 ·exact⟨by dsimp only;omega,by dsimp only;omega,by rw[zur hs],ho _,ho _⟩
 ·exact⟨by dsimp only;omega,by dsimp only;omega,hc _ _ _,ho _,ho _⟩
structure MadeHouse (h:House) (s:GSet) (l:List Form):Prop where
 ok:zfs h=0
 set:h.set=s
 forms:h.forms=l
 many:h.patterns.length≤6
 least:0≤h.least∧h.least≤2
 name: ∀p∈h.patterns,p.name.size≤9
 worth: ∀p∈h.patterns,p.closed≤3∧p.open_≤2
theorem yek {s:GSet} {l:List Form} (hs:zbo s=0) (hf:zep s l=0) (x:Int):MadeHouse (zua s l x).1 s l:=by
 have key: ∀(mi:List Node) (m:Nat) (x y z w:Int),m≤6→(mi= []∨zhf s mi=(true,0))→MadeHouse ⟨s,l,(zha s m m y).1,mi,zar x 3,(zip z).1,(payK s w).1,(zpj s (payK s w).2).1⟩ s l:=by
  intro mi m x y z w hm hmi
  have q:=zaz (x:=x) (n:=3) (by omega)
  obtain⟨a,b⟩:=zxw s m m y (Nat.le_refl _)
  have hat: ∀i,i<m→ ∃x',(zha s m m y).1.getD i yoc=(patK s i m x').1:=fun i hi=>by
   obtain⟨x',e⟩:=b i hi
   exact⟨x',by rw[List.getD_eq_getElem?_getD,e,Option.getD_some,Nat.sub_self,Nat.zero_add]⟩
  have hmem: ∀p∈(zha s m m y).1,∃i x',i<m∧p=(patK s i m x').1:=fun p hp=>by
   obtain⟨i,hi,rfl⟩:=List.mem_iff_getElem.1 hp
   rw[a]at hi
   obtain⟨x',e⟩:=b i hi
   refine⟨i,x',hi,?_⟩
   rw[List.getElem?_eq_getElem (by omega),Nat.sub_self,Nat.zero_add]at e
   exact Option.some.inj e
  refine⟨?_,rfl,rfl,by dsimp only;omega,by dsimp only;omega,fun p hp=>?_,fun p hp=>?_⟩
  ·have hpat: ∀i,i<m→patS ⟨s,l,(zha s m m y).1,mi,zar x 3,(zip z).1,(payK s w).1,(zpj s (payK s w).2).1⟩ i=0:=fun i hi=>by
    obtain⟨x',e⟩:=hat i hi
    have hp:=ydq hs (many:=m) (by omega) hi x'
    have hn:=zog s i m x'
    dsimp only at hp
    unfold patS
    have hpi:House.pat ⟨s,l,(zha s m m y).1,mi,zar x 3,(zip z).1,(payK s w).1,(zpj s (payK s w).2).1⟩ i=(patK s i m x').1:=e
    rw[hpi,hn]
    obtain⟨p1,p2,p3,p4,p5⟩:=hp
    rw[if_neg (by rw[yja i (by omega)];decide),if_neg ?_,if_neg (by omega),if_neg (by omega)]
    ·dsimp only
     rw[a,if_neg (by omega),if_neg (by omega)]
     exact p5
    ·dsimp only
     rw[Bool.not_eq_true,List.any_eq_false]
     intro q hq
     obtain⟨j,hj,rfl⟩:=List.mem_iff_getElem.1 hq
     rw[List.length_take,a]at hj
     obtain⟨x2,e2⟩:=b j (by omega)
     rw[List.getElem?_eq_getElem (by omega),Nat.sub_self,Nat.zero_add]at e2
     rw[List.getElem_take,Option.some.inj e2,zog,decide_eq_true_eq]
     exact yjb i (by omega) j (by omega)
   unfold zfs
   dsimp only
   rw[if_neg (by omega),a,if_neg (by omega),if_neg (by rw[zoe m 0 fun j _ hj=>hpat j (by omega)];decide)]
   unfold zxq
   dsimp only
   have c1:(zhf s mi).2=0:=by
    rcases hmi with rfl|e
    ·rw[zur hs]
    ·rw[e]
   rw[if_neg (by omega),if_neg ?_,if_neg (by omega),if_neg (by rw[yde];decide),if_neg (by rw[ynv hs];decide),yis hs]
   rcases hmi with rfl|e
   ·simp
   ·rw[e];simp
  ·obtain⟨i,x',hi,rfl⟩:=hmem p hp
   rw[zog]
   have: ∀i,i<6→(zji i).size≤9:=by decide +kernel
   exact this i (by omega)
  ·obtain⟨i,x',hi,rfl⟩:=hmem p hp
   have hp:=ydq hs (many:=m) (by omega) hi x'
   dsimp only at hp
   omega
 have hc: ∀x' y,zhf s (zgx s (zar x' 3).toNat y true).1=(true,0):=fun x' y=>by
  have q3:=zaz (x:=x') (n:=3) (by omega)
  have hL:zus (zar x' 3).toNat≤60:=by
   have:(zar x' 3).toNat=0∨(zar x' 3).toNat=1∨(zar x' 3).toNat=2:=by omega
   rcases this with e|e|e <;> rw[e] <;> decide
  rw[(znp hs _ y true).cond hs hL]
 unfold zua
 dsimp only
 have q7:=zaz (x:=(zpj s (payK s (zip (stepX x)).2).2).2) (n:=7) (by omega)
 split
 ·exact key _ _ _ _ _ _ (by omega) (.inr (hc _ _))
 ·exact key _ _ _ _ _ _ (by omega) (.inl rfl)
end Go.XL
namespace Go.XL
open Go.Proofs
theorem zho {P:Program} {n:Nat} {r:Rr} {Q:VEnv→Sto→Prop} {k:List Fr} {E:VEnv} {S:Sto} {id:Nat} {os l1 l2:List Oper} {bs:Nat} {x:Int} (hS:zae S bs=some (srcO x)) (ord:List Nat) (m:Nat) (hok:zln os.toArray ord m=true) (hm:P.follows .mixedOrders=true) (h1:zmz os ord=l1) (h2:os.drop m=l2)
  (q:DD P n r Q os (delS bs S) [] l1 (.ops os l2::k) E E [(bs,srcO x)]):DS P n r Q (.code (.region id os.toArray true)::k) E S :=
 zbx (delS bs S) [(bs,srcO x)] ord m hok hm h1 h2 (zig hS).2 (zig hS).1 q
theorem ymc {P:Program} {n:Nat} {r:Rr} {Q:VEnv→Sto→Prop} {k:List Fr} {E:VEnv} {S:Sto} {id:Nat} {os l1 l2:List Oper} {b:Nat} {o:Ob} (hS:zae S b=some o) (ord:List Nat) (m:Nat) (hok:zln os.toArray ord m=true) (hm:P.follows .mixedOrders=true) (h1:zmz os ord=l1) (h2:os.drop m=l2)
  (q:DD P n r Q os (delS b S) [] l1 (.ops os l2::k) E E [(b,o)]):DS P n r Q (.code (.region id os.toArray true)::k) E S :=
 zbx (delS b S) [(b,o)] ord m hok hm h1 h2 (zig hS).2 (zig hS).1 q
end Go.XL
namespace Go.XL
open Go.Proofs
set_option maxRecDepth 100000
set_option maxHeartbeats 8000000
theorem zhj {B:Int}: ∀{l:List Int},(∀x∈l,-B≤x∧x≤B) → -(l.length*B)≤sumI l∧sumI l≤l.length*B
 | [],_=>by simp[sumI]
 | a::l,h=>by
  have h1:=h a (List.mem_cons_self ..)
  have h2:=zhj fun x hx=>h x (List.mem_cons_of_mem _ hx)
  have e:((a::l).length:Int)*B=l.length*B+B:=by rw[List.length_cons,Int.natCast_add,Int.natCast_one,Int.add_mul,Int.one_mul]
  rw[e,sumI];omega
theorem zkq (l:List Int) (hb: ∀x∈l,-1000000000000≤x∧x≤1000000000000) (hl:l.length≤1000):PC Tryz.prog 17 [ints l] (I (sumI l)):=by
 have ht: ∀i:Nat,-(i*1000000000000:Int)≤sumI (l.take i)∧sumI (l.take i)≤i*1000000000000:=fun i=>by
  have h1:=zhj (l:=l.take i) (B:=1000000000000) fun x hx=>hb x (List.mem_of_mem_take hx)
  have h2:(l.take i).length≤i:=List.length_take_le ..
  omega
 refine DC.of_run Tryz.func17 rfl Tryz.ntmps17 Tryz.results17 (by simp) (fun _ _=>?_);simp only[zag,zaj,go_sem,Nat.zero_add,Nat.reduceAdd]
 repeat' (first|refine yJ ?_|fail)
 refine zbp [0] yN (fun(z:Nat×Int)=> [(3,I z.2),(4,I z.1)]) (fun(z:Nat×Int)=>z.1≤l.length∧z.2=sumI (l.take z.1)) (fun(z:Nat×Int)=>l.length-z.1) (0,0) yS ⟨Nat.zero_le _,by simp[sumI]⟩ (fun z B hI hB=>?_);try dsimp only at hI hB;simp only[zad,zaf]
 have HB:=Box.mk hB
 clear hB
 obtain⟨i,kk⟩:=z
 dsimp only at hI ⊢
 obtain⟨hI,hI1⟩:=hI
 have hti:=ht i
 have H1:=Box.mk (And.intro hI1 ht)
 rw[←hI1]at hti
 clear hI1 ht
 by_cases hi:(i:Int)<(l.length:Int)
 ·have hi':i<l.length:=by omega
  have hbi:=hb _ (List.getElem_mem hi')
  have Hb:=Box.mk hb
  clear hb
  repeat' (first|refine yJT ?_|fail)
  exact DS.back (HB.out (i+1,kk+l[i]) _ _ (by dsimp only;omega) ⟨by dsimp only;omega,by dsimp only;rw[zel hi',H1.out.1]⟩ yS yS (fun b o e=>by cases e))
 ·have Hb:=Box.mk hb
  clear hb
  repeat' (first|refine yJT ?_|refine zan [] yE trivial ?_|fail)
  rw[H1.out.1,List.take_of_length_le (by omega)];rfl
theorem zri {l:List Int} (h:zdl l=0): ∀x∈l,1≤x∧x≤9:=by
 induction l with
 | nil=>intro x hx;cases hx
 | cons a l ih =>
  intro x hx
  rw[zdl]at h
  obtain⟨h1,h⟩:=ite0 (by decide) h
  rcases List.mem_cons.1 hx with rfl|hx
  ·omega
  ·exact ih h x hx
structure GSet.Few (s:GSet):Prop where
 suits:s.suits.length≤3
 suit: ∀x∈s.suits,1≤x∧x≤9
 winds:0≤s.winds∧s.winds≤4
 dragons:0≤s.dragons∧s.dragons≤3
theorem GSet.Ok.few {s:GSet} (h:s.Ok):s.Few:=⟨h.suits,zri h.suit,h.winds,h.dragons⟩
theorem zda (s:GSet) (h:s.Few):PC Tryz.prog 69 [s.val] (I s.plain):=by
 have ht:=zkq s.suits (fun x hx=>by have:=h.suit x hx;omega) (by have:=h.suits;omega)
 have hs:=zhj (l:=s.suits) (B:=9) fun x hx=>by have:=h.suit x hx;omega
 have h1:=h.suits
 have h2:=h.winds
 have h3:=h.dragons
 have hb : -27≤sumI s.suits∧sumI s.suits≤27:=by omega
 clear hs h
 have e:s.plain=s.winds+s.dragons+sumI s.suits:=rfl
 have e2:s.plain=sumI s.suits+s.winds+s.dragons:=by omega
 rw[e2]
 clear e e2
 refine DC.of_run Tryz.func69 rfl Tryz.ntmps69 Tryz.results69 (by simp) (fun _ _=>?_);simp only[zag,zaj,go_sem,Nat.zero_add,Nat.reduceAdd]
 repeat' (first|refine yJ ?_|(refine zao (t:=1) yU yE yU ?_;simp only[yS3])|refine zbe (id:=1) [0,1,2,3,4,5,6,7] 8 yKR mixed yP1 yP2 ?_|(with_reducible first|refine zau yU yU yU yE ?_|refine zbg ?_)|refine zdf inferInstance (ht) yU yT ?_|refine zan [] yE trivial ?_|fail)
 all_goals rfl
theorem yX1 {p:Prop} (h:p:=by first|exact rfl|(simp (disch:=omega) only[go_sem,dopV,yV0,↓reduceIte,Nat.reduceEqDiff,Nat.reduceLT,Nat.reduceLeDiff,Nat.reduceAdd,Nat.reduceMul,Nat.reduceSub,Int.reduceToNat,Int.reduceLT,Int.reduceLE,Int.reduceEq,IntWalk.toNatUp,IntWalk.iteOmega,IntWalk.i64_in,V.flat,V.one, *];exact rfl)):p:=h
theorem yS5 :type_of% (And.intro @List.length_map.{0,0}<|And.intro @List.length_cons.{0}<|And.intro @List.length_nil.{0}<|And.intro @List.length_append.{0}<|And.intro @List.length_take.{0}<| @List.length_drop.{0}):=And.intro @List.length_map.{0,0}<|And.intro @List.length_cons.{0}<|And.intro @List.length_nil.{0}<|And.intro @List.length_append.{0}<|And.intro @List.length_take.{0}<| @List.length_drop.{0}
theorem yQ2 {p:Prop} (h:p:=by exact⟨by(try simp only[yS5]);omega,by decide⟩):p:=h
theorem yO2 {p:Prop} (h:p:=by first|exact .inl rfl|exact .inr ⟨rfl,rfl⟩):p:=h
theorem yLM {p:Prop} (h:p:=by first|exact zey ygj _|exact zey yqv _|exact zey Member.len _|exact zey Sitting.len _|exact zey Ruling.len _|exact zey Hold.len _|exact zey Node.len _|exact zey Form.len _|exact zey Pattern.len _|exact zey Grp.len _|(simp only[List.mem_cons,List.not_mem_nil,or_false,forall_eq];rfl)|simp|fail):p:=h
theorem zmi (bs:Nat) (x:Int) (s:GSet) (h:zbo s=0):SC Tryz.prog 77 [ptr bs,s.val] bs x (.own false 3 1 ((zdv s x).1.map cI)) (zdv s x).2:=by
 have ok:=zcb h
 have hp:=zda s ok.few
 have h1:=ok.plain
 obtain⟨N,hN⟩: ∃N:Nat,s.plain=N:=⟨s.plain.toNat,by omega⟩
 rw[zdv,hN,Int.toNat_natCast]
 rw[hN]at hp
 have hN34:N≤34:=by omega
 clear hN h1
 have hr:=zco (x:=x) (lo:=1) (hi:=4) (by omega)
 have hrs:=zce bs x 1 4 (by omega)
 generalize zbv x 1 4=n at *
 generalize stepX x=x0 at *
 clear ok h
 unfold SC
 refine DC.of_run Tryz.func77 rfl Tryz.ntmps77 Tryz.results77 (by simp) (fun _ _=>?_);simp only[zag,zaj,go_sem,Nat.zero_add,Nat.reduceAdd]
 repeat' (first|(with_reducible first|(refine zbs (t:=4) yU yO yE ?_)|(refine zbs (t:=5) yU yO yE ?_))|refine yJ ?_|(refine zaw inferInstance (hrs) yR yT yT ?_;(try simp only[zab,zac,↓reduceIte, *]))|(refine zao (t:=3) yU yE yU ?_;simp only[yS3])|fail)
 refine zbn [0,3,6] yN (fun(y:Nat×Int×List Int)=> [(5, .own false 3 1 (y.2.2.map cI)),(7,I y.1)]) (fun(y:Nat×Int×List Int)=> [(bs,srcO y.2.1)]) (fun(y:Nat×Int×List Int)=>y.1≤N∧y.2.2.length≤y.1∧zna n N 0 x0=(y.2.2++(zna n (N-y.1) y.1 y.2.1).1,(zna n (N-y.1) y.1 y.2.1).2)) (fun(y:Nat×Int×List Int)=>N-y.1) (0,x0,[]) yS (fun b o e=>by exact e) ⟨Nat.zero_le _,Nat.le_refl _,rfl⟩ (fun y B hI hB=>?_);try dsimp only at hI hB;simp only[zad,zaf]
 obtain⟨k,x1,out⟩:=y
 dsimp only at hI hB ⊢
 obtain⟨g1,g2,g3⟩:=hI
 have HG:=Box.mk g3
 have HB:=Box.mk hB
 clear g3 hB
 have ho:=zck bs x1 n (by omega)
 by_cases hk:(k:Int)<(N:Int)
 ·have hk':k<N:=by omega
  have e:=HG.out
  obtain⟨c,hc⟩: ∃c,N-k=c+1:=⟨N-k-1,by omega⟩
  rw[hc,zna]at e
  have hc':N-(k+1)=c:=by omega
  cases hod:zcu x1 n with
  | true =>
   rw[hod]at ho
   rw[if_pos hod]at e
   have HE:=Box.mk e
   clear e HG hod hc
   repeat' (first|(with_reducible refine zcj (t:=5) yU yO yE ?_;simp only[yS2,Nat.reduceEqDiff,↓reduceIte])|(with_reducible refine zcj (t:=19) yU yO yE ?_;simp only[yS2,Nat.reduceEqDiff,↓reduceIte])|refine yJT ?_|(refine zbw yU yE yE ?_;simp only[go_sem,Nat.zero_add,Nat.reduceAdd])|(refine DS.append (mm:=false) yU yE yE yU (by decide) yE yO2 yE yX1 yLM yQ2 ?_;simp only[yS2,Nat.reduceEqDiff,↓reduceIte])|refine zap inferInstance (hp) yR yT ?_|(refine zaw inferInstance (ho) yR yT yT ?_;(try simp only[zab,zac,↓reduceIte, *]))|fail)
   refine DS.back (HB.out (k+1,stepX x1,out++ [(k:Int)]) _ _ (by dsimp only;omega) ⟨by dsimp only;omega,by simp;omega,by dsimp only;rw[hc',HE.out,List.append_assoc];rfl⟩ yS yS (fun b o e=>by exact e))
  | false =>
   rw[hod]at ho
   rw[if_neg (by rw[hod];decide)]at e
   have HE:=Box.mk e
   clear e HG hod hc
   repeat' (first|refine yJT ?_|refine zap inferInstance (hp) yR yT ?_|(refine zaw inferInstance (ho) yR yT yT ?_;(try simp only[zab,zac,↓reduceIte, *]))|fail)
   refine DS.back (HB.out (k+1,stepX x1,out) _ _ (by dsimp only;omega) ⟨by dsimp only;omega,by dsimp only;omega,by dsimp only;rw[hc',HE.out];rfl⟩ yS yS (fun b o e=>by exact e))
 ·have hk':k=N:=by omega
  subst hk'
  have e:=HG.out
  rw[Nat.sub_self,zna,List.append_nil]at e
  rw[e]
  clear HB HG e
  repeat' (first|(with_reducible refine zcj (t:=4) yU yO yE ?_;simp only[yS2,Nat.reduceEqDiff,↓reduceIte])|(with_reducible refine zcj (t:=23) yU yO yE ?_;simp only[yS2,Nat.reduceEqDiff,↓reduceIte])|refine yJT ?_|refine zap inferInstance (hp) yR yT ?_|fail)
  refine zbh yG ⟨rfl,rfl⟩
theorem zth (bs:Nat) (x:Int) (own many:Nat) (hm:many≤9) (ho:own≤9):SC Tryz.prog 47 [ptr bs,I own,I many] bs x (.own false 3 1 ((zea own many 0 x).1.map cI)) (zea own many 0 x).2:=by
 unfold SC
 refine DC.of_run Tryz.func47 rfl Tryz.ntmps47 Tryz.results47 (by simp) (fun _ _=>?_);simp only[zag,zaj,go_sem,Nat.zero_add,Nat.reduceAdd]
 repeat' (first|(with_reducible first|(refine zbs (t:=6) yU yO yE ?_)|(refine zbs (t:=7) yU yO yE ?_))|refine yJ ?_|fail)
 refine zbn [0,1,2] yN (fun(y:Nat×Int×List Int)=> [(7, .own false 3 1 (y.2.2.map cI)),(8,I y.1)]) (fun(y:Nat×Int×List Int)=> [(bs,srcO y.2.1)]) (fun(y:Nat×Int×List Int)=>y.1≤many∧y.2.2.length≤y.1∧zea own many 0 x=(y.2.2++(zea own (many-y.1) y.1 y.2.1).1,(zea own (many-y.1) y.1 y.2.1).2)) (fun(y:Nat×Int×List Int)=>many-y.1) (0,x,[]) yS (fun b o e=>by exact e) ⟨Nat.zero_le _,Nat.le_refl _,rfl⟩ (fun y B hI hB=>?_);try dsimp only at hI hB;simp only[zad,zaf]
 obtain⟨k,x1,out⟩:=y
 dsimp only at hI hB ⊢
 obtain⟨g1,g2,g3⟩:=hI
 have HG:=Box.mk g3
 have HB:=Box.mk hB
 clear g3 hB
 have hod:=zck bs x1 4 (by omega)
 by_cases hk:(k:Int)<(many:Int)
 ·have hk':k<many:=by omega
  have e:=HG.out
  obtain⟨c,hc⟩: ∃c,many-k=c+1:=⟨many-k-1,by omega⟩
  rw[hc,zea]at e
  have hc':many-(k+1)=c:=by omega
  by_cases hown:(k:Int)=(own:Int)
  ·rw[if_pos hown]at e
   have HE:=Box.mk e
   clear e HG hc
   have hown':=eq_true hown
   clear hown
   repeat' (first|refine yJT ?_|fail)
   all_goals try (exfalso;omega)
   refine DS.back (HB.out (k+1,x1,out) _ _ (by dsimp only;omega) ⟨by dsimp only;omega,by dsimp only;omega,by dsimp only;rw[hc',HE.out];rfl⟩ yS yS (fun b o e=>by exact e))
  ·rw[if_neg hown]at e
   have hl10:(out.length:Int)<10:=by omega
   cases hb:zcu x1 4 with
   | true =>
    rw[hb]at hod
    rw[if_pos hb]at e
    have HE:=Box.mk e
    clear e HG hb hc
    repeat' (first|(with_reducible refine zcj (t:=7) yU yO yE ?_;simp only[yS2,Nat.reduceEqDiff,↓reduceIte])|(with_reducible refine zcj (t:=26) yU yO yE ?_;simp only[yS2,Nat.reduceEqDiff,↓reduceIte])|refine yJT ?_|(refine zbw yU yE yE ?_;simp only[go_sem,Nat.zero_add,Nat.reduceAdd])|(refine DS.append (mm:=false) yU yE yE yU (by decide) yE yO2 yE yX1 yLM yQ2 ?_;simp only[yS2,Nat.reduceEqDiff,↓reduceIte])|(refine zaw inferInstance (hod) yR yT yT ?_;(try simp only[zab,zac,↓reduceIte, *]))|fail)
    all_goals try (exfalso;omega)
    refine DS.back (HB.out (k+1,stepX x1,out++ [(k:Int)]) _ _ (by dsimp only;omega) ⟨by dsimp only;omega,by simp;omega,by dsimp only;rw[hc',HE.out,List.append_assoc];rfl⟩ yS yS (fun b o e=>by exact e))
   | false =>
    rw[hb]at hod
    rw[if_neg (by rw[hb];decide)]at e
    have HE:=Box.mk e
    clear e HG hb hc
    repeat' (first|refine yJT ?_|(with_reducible (refine zbi yU yE ?_;first|refine GG.run ?_|refine zcl ?_))|(refine zaw inferInstance (hod) yR yT yT ?_;(try simp only[zab,zac,↓reduceIte, *]))|fail)
    all_goals try (exfalso;omega)
    refine DS.back (HB.out (k+1,stepX x1,out) _ _ (by dsimp only;omega) ⟨by dsimp only;omega,by dsimp only;omega,by dsimp only;rw[hc',HE.out];rfl⟩ yS yS (fun b o e=>by exact e))
 ·have hk':k=many:=by omega
  subst hk'
  have e:=HG.out
  rw[Nat.sub_self,zea,List.append_nil]at e
  rw[e]
  clear HB HG e
  repeat' (first|(with_reducible refine zcj (t:=6) yU yO yE ?_;simp only[yS2,Nat.reduceEqDiff,↓reduceIte])|(with_reducible refine zcj (t:=30) yU yO yE ?_;simp only[yS2,Nat.reduceEqDiff,↓reduceIte])|refine yJT ?_|fail)
  refine zbh yG ⟨rfl,rfl⟩
end Go.XL
namespace Go.XL
open Go.Proofs
set_option maxRecDepth 100000
set_option maxHeartbeats 4000000
theorem zvr {lo hi:Int}: ∀{l:List Int},(∀x∈l,lo≤x∧x≤hi)→lo*l.length≤sumI l∧sumI l≤hi*l.length
 | [],_=>by simp[sumI]
 | a::l,h=>by
  have h1:=h a (List.mem_cons_self ..)
  have h2:=zvr (l:=l) fun x hx=>h x (List.mem_cons_of_mem _ hx)
  rw[sumI,List.length_cons,Int.natCast_add,Int.mul_add,Int.mul_add]
  omega
theorem zrg : ∀{l:List Int},zdl l=0→ ∀x∈l,1≤x∧x≤9
 | [],_,x,hx=>by cases hx
 | a::l,h,x,hx=>by
  rw[zdl]at h
  obtain⟨h1,h⟩:=ite0 (by decide) h
  rcases List.mem_cons.1 hx with rfl|hx
  ·omega
  ·exact zrg h x hx
theorem ycw (s:GSet):PC Tryz.prog 130 [s.val] (I (zcc s)):=by
 refine DC.of_run Tryz.func130 rfl Tryz.ntmps130 Tryz.results130 (by simp) (fun _ _=>?_);simp only[zag,zaj,go_sem,Nat.zero_add,Nat.reduceAdd]
 by_cases h0:zbo s=0
 ·have ok:=zcb h0
  obtain⟨a1,a2⟩:=ok.winds
  obtain⟨a3,a4⟩:=ok.dragons
  have a5:=ok.suits
  have a6:=ok.suit
  have e:zcc s=s.plain:=by rw[zcc,if_neg (by omega)]
  rw[e]
  clear e ok
  repeat' (first|refine yJT ?_|refine zap inferInstance (zfp s) yR yT ?_|(refine zao (t:=1) yU yE yU ?_;simp only[yS3])|fail)
  refine zbp [15,16] yN (fun(z:Nat×Int)=> [(3,I z.2),(17,I z.1)]) (fun(z:Nat×Int)=>z.1≤s.suits.length∧z.2=s.winds+s.dragons+sumI (s.suits.take z.1)∧0≤sumI (s.suits.take z.1)∧sumI (s.suits.take z.1)≤9*z.1) (fun(z:Nat×Int)=>s.suits.length-z.1) (0,s.winds+s.dragons) yS ⟨Nat.zero_le _,by simp[sumI],by simp[sumI],by simp[sumI]⟩ (fun z B hI hB=>?_);try dsimp only at hI hB;simp only[zad,zaf]
  have HB:=Box.mk hB
  clear hB
  obtain⟨i,kk⟩:=z
  dsimp only at hI ⊢
  obtain⟨hI,hI1,hI2,hI3⟩:=hI
  have H1:=Box.mk hI1
  have hk1:0≤kk∧kk≤100:=by omega
  clear hI1
  by_cases hi:(i:Int)<(s.suits.length:Int)
  ·have hi':i<s.suits.length:=by omega
   obtain⟨b1,b2⟩:=zrg a6 _ (List.getElem_mem hi')
   repeat' (first|refine yJT ?_|fail)
   have e:=zel hi'
   have h1:=H1.out
   refine DS.back (HB.out (i+1,kk+s.suits[i]) _ _ (by dsimp only;omega) ⟨by dsimp only;omega,by dsimp only;omega,by dsimp only;omega,by dsimp only;omega⟩ yS yS (fun b o e=>by cases e))
  ·repeat' (first|refine yJT ?_|refine zan [] yE trivial ?_|fail)
   rw[H1.out,List.take_of_length_le (by omega)];rfl
 ·rw[zcc,if_pos h0]
  repeat' (first|refine yJT ?_|refine zap inferInstance (zfp s) yR yT ?_|(refine zao (t:=1) yU yE yU ?_;simp only[yS3])|refine zan [] yE trivial ?_|fail)
  all_goals first|rfl|(exfalso;omega)
theorem zfo (s:GSet):PC Tryz.prog 112 [s.val] (I (zcc s)):=by
 refine DC.of_run Tryz.func112 rfl Tryz.ntmps112 Tryz.results112 (by simp) (fun _ _=>?_);simp only[zag,zaj,go_sem,Nat.zero_add,Nat.reduceAdd]
 repeat' (first|refine yJ ?_|refine zap inferInstance (ycw s) yR yT ?_|(refine zao (t:=1) yU yE yU ?_;simp only[yS3])|refine zan [] yE trivial ?_|fail)
 rfl
theorem zgk (many:Int) (l:List Int) (hm:0≤many∧many≤1000):PC Tryz.prog 111 [I many,ints l] (I (ascS many l)):=by
 refine DC.of_run Tryz.func111 rfl Tryz.ntmps111 Tryz.results111 (by simp) (fun _ _=>?_);simp only[zag,zaj,go_sem,Nat.zero_add,Nat.reduceAdd]
 refine zgz (t:=1) yG (.inl rfl) (fun hb1=>?_);simp only[List.length_map]at hb1
 repeat' (first|refine yJ ?_|fail)
 refine zbp [0,1,7,8] yN (fun(i:Nat)=> [(9,I i)]) (fun(i:Nat)=>i≤l.length∧ascS many l=zeq many (l.drop i) ((zlb l i).getD (-1))) (fun(i:Nat)=>l.length-i) 0 yS ⟨Nat.zero_le _,rfl⟩ (fun i B hI hB=>?_);try dsimp only at hI hB;simp only[zad,zaf]
 have HB:=Box.mk hB
 clear hB
 obtain⟨hI,hI2⟩:=hI
 by_cases hi:(i:Int)<(l.length:Int)
 ·have hi':i<l.length:=by omega
  have hp:i-1<l.length:=by omega
  rw[zsm hi']at hI2
  have HI:=Box.mk hI2
  clear hI2
  repeat' (first|refine yJ ?_|(with_reducible first|(refine zax yE ?_;first|refine zfd (fun _=>?_) (fun _=>?_)|refine zdz (fun _=>?_) (fun _=>?_)|refine zay ?_|refine zbl ?_)|(refine zbi yU yE ?_;first|refine zfb (fun _=>?_) (fun _=>?_)|refine GG.run ?_|refine zcl ?_))|refine zap inferInstance (zct _ _ _) yR yT ?_|refine zan [] yE trivial ?_|fail)
  all_goals (try rw[zdq (by assumption)]at HI) <;> (try rw[zeg (by assumption) hp]at HI)
  all_goals first
   | (rw[HI.out];simp[tupV, *];done)
   | (rw[HI.out];simp[tupV, *];omega)
   | exact DS.back (HB.out (i+1) _ _ (by omega) ⟨by omega,by rw[HI.out,zdr hi',if_neg (by omega),if_neg (by simp only[Option.getD_none,Option.getD_some];omega)];rfl⟩ yS yS (fun b o e=>by cases e))
 ·repeat' (first|refine yJT ?_|refine zan [] yE trivial ?_|fail)
  rw[hI2,zew hi];rfl
theorem zse (l:List Int) {g:FuncId} {fs cs:List V} {fn:Func} (p:Int→Bool) (hf:FnOk Tryz.prog g fn) (h: ∀m,PC Tryz.prog g (fs++ [I m]++cs) (Bo (p m))) :
  PC Tryz.prog 129 [ints l, .fn g fs cs] (I (idxF p l 0)):=by
 refine DC.of_run Tryz.func129 rfl Tryz.ntmps129 Tryz.results129 (by simp) (fun _ _=>?_);simp only[zag,zaj,go_sem,Nat.zero_add,Nat.reduceAdd]
 refine zgz (t:=0) yG (.inl rfl) (fun hb0=>?_);simp only[List.length_map]at hb0
 repeat' (first|refine yJ ?_|fail)
 refine zbp [0,1,7] yN (fun(i:Nat)=> [(8,I i)]) (fun(i:Nat)=>i≤l.length∧idxF p l 0=idxF p (l.drop i) i) (fun(i:Nat)=>l.length-i) 0 yS (by simp) (fun i B hI hB=>?_);try dsimp only at hI hB;simp only[zad,zaf]
 have HB:=Box.mk hB
 clear hB
 by_cases hi:(i:Int)<(l.length:Int)
 ·have hi':i<l.length:=by omega
  cases hp:p l[i]with
  | true =>
   have:=zyl (p:=p) (l:=l) (i:=i) hi' hp
   repeat' (first|refine yJT ?_|fail)
   refine zby hf (by simp (disch:=omega) only[go_sem,dopV,yV0,↓reduceIte,Nat.reduceEqDiff,Nat.reduceLT,Nat.reduceLeDiff,Nat.reduceAdd,Nat.reduceMul,Nat.reduceSub,Int.reduceToNat,Int.reduceLT,Int.reduceLE,Int.reduceEq,IntWalk.toNatUp,IntWalk.iteOmega,IntWalk.i64_in,V.flat,V.one]) (h l[i]) yR yH ?_
   repeat' (first|refine yJT ?_|refine zan [] yE trivial ?_|fail)
   rw[hI.2,this];rfl
  | false =>
   repeat' (first|refine yJT ?_|fail)
   refine zby hf (by simp (disch:=omega) only[go_sem,dopV,yV0,↓reduceIte,Nat.reduceEqDiff,Nat.reduceLT,Nat.reduceLeDiff,Nat.reduceAdd,Nat.reduceMul,Nat.reduceSub,Int.reduceToNat,Int.reduceLT,Int.reduceLE,Int.reduceEq,IntWalk.toNatUp,IntWalk.iteOmega,IntWalk.i64_in,V.flat,V.one]) (h l[i]) yR yH ?_
   repeat' (first|refine yJT ?_|fail)
   refine DS.back (HB.out (i+1) _ _ (by omega) ⟨by omega,by rw[hI.2,ztz hi' hp]⟩ yS yS (fun b o e=>by cases e))
 ·repeat' (first|refine yJT ?_|refine zan [] yE trivial ?_|fail)
  have:=zym (p:=p) (l:=l) (i:=i) (by omega)
  simp only[tupV];rw[hI.2,this]
theorem zsh {α:Type} (p:α→Bool): ∀(l:List α) (i:Nat),decide (0≤idxF p l i)=l.any p
 | [],i=>by simp[idxF]
 | a::l,i=>by
  rw[idxF,List.any_cons]
  by_cases h:p a=true
  ·rw[if_pos h,h];simp
  ·rw[if_neg h,zsh p l (i+1)];simp[h]
theorem znf (l:List Int) {g:FuncId} {fs cs:List V} {fn:Func} (p:Int→Bool) (hf:FnOk Tryz.prog g fn) (h: ∀m,PC Tryz.prog g (fs++ [I m]++cs) (Bo (p m))) :
  PC Tryz.prog 108 [ints l, .fn g fs cs] (Bo (l.any p)):=by
 have e:=zsh p l 0
 have hk:=zse l p hf h
 refine DC.of_run Tryz.func108 rfl Tryz.ntmps108 Tryz.results108 (by simp) (fun _ _=>?_);simp only[zag,zaj,go_sem,Nat.zero_add,Nat.reduceAdd]
 repeat' (first|refine yJ ?_|refine zap inferInstance (hk) yR yT ?_|refine zan [] yE trivial ?_|fail)
 rw[←e];rfl
theorem yjl (n lo hi:Int):PC Tryz.prog 109 [I n, .plc [I lo], .plc [I hi]] (Bo (!decide (lo≤n∧n≤hi))):=by
 refine DC.of_run Tryz.func109 rfl Tryz.ntmps109 Tryz.results109 (by simp) (fun _ _=>?_);simp only[zag,zaj,go_sem,Nat.zero_add,Nat.reduceAdd]
 repeat' (first|refine yJ ?_|refine zap inferInstance (zct _ _ _) yR yT ?_|refine zan [] yE trivial ?_|fail)
 rfl
theorem zwi (lo hi:Int) (l:List Int):PC Tryz.prog 83 [I lo,I hi,ints l] (Bo (l.all fun n=>decide (lo≤n∧n≤hi))):=by
 have hk:=znf l (g:=109) (fs:= []) (cs:= [.plc [I lo], .plc [I hi]]) (fun n=> !decide (lo≤n∧n≤hi)) inferInstance (fun m=>yjl m lo hi)
 refine DC.of_run Tryz.func83 rfl Tryz.ntmps83 Tryz.results83 (by simp) (fun _ _=>?_);simp only[zag,zaj,go_sem,Nat.zero_add,Nat.reduceAdd]
 repeat' (first|refine yJ ?_|refine zap inferInstance (hk) yR yT ?_|(refine zao (t:=3) yU yE yU ?_;simp only[yS3])|(refine zao (t:=4) yU yE yU ?_;simp only[yS3])|refine zan [] yE trivial ?_|fail)
 have e:(fun n:Int=>decide ¬(lo≤n∧n≤hi))=fun n=> !decide (lo≤n∧n≤hi):=by
  funext n
  by_cases h:lo≤n∧n≤hi <;> simp[h]
 simp only[tupV,List.all_eq_not_any_not]
 rw[e]
end Go.XL
namespace Go.XL
open Go.Proofs
set_option maxRecDepth 100000
set_option maxHeartbeats 4000000
theorem yav (a b : List Int) : PC Tryz.prog 104 [ints a, ints b] (Bo (decide (a = b))) := by
  refine DC.of_run Tryz.func104 rfl Tryz.ntmps104 Tryz.results104 (by simp) (fun _ _ => ?_); simp only [zag, zaj, go_sem, Nat.zero_add, Nat.reduceAdd]
  refine zgz (t := 0) yG (.inl rfl) (fun hb0 => ?_); simp only [List.length_map] at hb0
  repeat' (first | refine yJ ?_ | (with_reducible (refine zax yE ?_; refine zfd (fun _ => ?_) (fun _ => ?_))) | fail)
  · rename_i h
    repeat' (first | refine zan [] yE trivial ?_ | fail)
    have : a ≠ b := fun e => h (by subst e; rfl)
    simp [tupV, this]
  · rename_i h
    have hl : Box (a.length = b.length) := ⟨by omega⟩
    clear h
    refine zbp [0, 1, 12] yN (fun (i : Nat) => [(13, I i)]) (fun (i : Nat) => i ≤ a.length ∧ a.take i = b.take i) (fun (i : Nat) => a.length - i) 0 yS (by simp) (fun i B hI hB => ?_); try dsimp only at hI hB; simp only [zad, zaf]
    have HB := Box.mk hB
    clear hB
    obtain ⟨hI, hI2⟩ := hI
    have hlo := hl.out
    by_cases hi : (i : Int) < (b.length : Int)
    · have hi' : i < a.length := by omega
      have hb' : i < b.length := by omega
      clear hlo
      have H2 := Box.mk hI2
      clear hI2
      by_cases he : a[i] = b[i]
      · repeat' (first | refine yJT ?_ | refine zbe (id := 6) [0, 1, 2, 3, 4, 5, 6, 7] 8 yKR mixed yP1 yP2 ?_ | (with_reducible first | refine zau yU yU yU yE ?_ | refine zbg ?_) | fail)
        all_goals first
          | exact DS.back (HB.out (i + 1) _ _ (by omega) ⟨by omega, zmm H2.out hi' hb' he⟩ yS yS (fun b o e => by cases e))
          | (exfalso; omega)
      · repeat' (first | refine yJT ?_ | refine zbe (id := 6) [0, 1, 2, 3, 4, 5, 6, 7] 8 yKR mixed yP1 yP2 ?_ | (with_reducible first | refine zau yU yU yU yE ?_ | refine zbg ?_) | refine zan [] yE trivial ?_ | fail)
        all_goals first
          | (have : a ≠ b := fun e => he (by subst e; rfl)
             simp [tupV, this]; done)
          | (exfalso; omega)
    · repeat' (first | refine yJT ?_ | refine zan [] yE trivial ?_ | fail)
      have : a = b := by
        rw [List.take_of_length_le (by omega), List.take_of_length_le (by omega)] at hI2
        exact hI2
      simp [tupV, this]
theorem zwl {k copies:Int} {sv:Bool} {l:List Int} {i:Nat} (hi:i<l.length) (p:Option Int) (many:Int):fkGo k copies sv (l.drop i) p many=if ¬(0≤l[i]∧l[i]≤k-1)then 2 else
   if anyO (fun q=>decide (l[i]<q) || (!sv&&decide (l[i]=q))) p=true then 11 else
   if sv=true∧(if anyO (fun q=>decide (l[i]=q)) p=true then many else 0)+1 > copies then 8 else fkGo k copies sv (l.drop (i+1)) (some l[i]) ((if anyO (fun q=>decide (l[i]=q)) p=true then many else 0)+1):=by
 rw[List.drop_eq_getElem_cons hi,fkGo]
theorem yla (s : GSet) (l : List Int) (h0 : zbo s = 0) : PC Tryz.prog 105 [s.val, ints l, Bo true] (I (fkGo s.plain s.copies true l none 0)) := by
  have ok := zcb h0
  have hc := ok.copies
  have ek : zcc s = s.plain := by rw [zcc, if_neg (by omega)]
  have hk := zfo s
  rw [ek] at hk
  clear ek ok h0
  refine DC.of_run Tryz.func105 rfl Tryz.ntmps105 Tryz.results105 (by simp) (fun _ _ => ?_); simp only [zag, zaj, go_sem, Nat.zero_add, Nat.reduceAdd]
  refine zgz (t := 1) yG (.inl rfl) (fun hb1 => ?_); simp only [List.length_map] at hb1
  repeat' (first | refine yJ ?_ | (refine zao (t := 3) yU yE yU ?_; simp only [yS3]) | fail)
  refine zbp [1, 2, 3, 11, 12] yN (fun (z : Nat × Int) => [(7, I z.2), (13, I z.1)]) (fun (z : Nat × Int) => z.1 ≤ l.length ∧ 0 ≤ z.2 ∧ z.2 ≤ z.1 ∧ fkGo s.plain s.copies true l none 0 = fkGo s.plain s.copies true (l.drop z.1) (zlb l z.1) z.2) (fun (z : Nat × Int) => l.length - z.1) (0, 0) yS ⟨Nat.zero_le _, Int.le_refl _, Int.le_refl _, rfl⟩ (fun z B hI hB => ?_); try dsimp only at hI hB; simp only [zad, zaf]
  have HB := Box.mk hB
  clear hB
  obtain ⟨i, m⟩ := z
  dsimp only at hI ⊢
  obtain ⟨hI, hm1, hm2, hI2⟩ := hI
  by_cases hi : (i : Int) < (l.length : Int)
  · have hi' : i < l.length := by omega
    have hp : i - 1 < l.length := by omega
    rw [zwl hi'] at hI2
    have HI := Box.mk hI2
    clear hI2
    by_cases he : (0 : Int) < i ∧ l[i] = l[i - 1]
    · obtain ⟨he1, he2⟩ := he
      repeat' (first | refine yJ ?_ | (with_reducible first | (refine zax yE ?_; first | refine zdz (fun _ => ?_) (fun _ => ?_) | refine zay ?_ | refine zbl ?_) | (refine zbi yU yE ?_; first | refine zfz ?_ | refine zfb (fun _ => ?_) (fun _ => ?_) | refine zex (fun _ => ?_) (fun _ => ?_) | refine GG.run ?_ | refine zcv ?_)) | refine zap inferInstance (hk) yR yT ?_ | refine zan [] yE trivial ?_ | fail)
      all_goals first
        | (exfalso; omega)
        | ((try rw [zdq (by assumption)] at HI); (try rw [zeg (by assumption) hp] at HI); simp only [zes, zer, Bool.not_true, Bool.not_false, Bool.false_and, Bool.true_and, Bool.or_false, Bool.or_eq_true, decide_eq_true_eq, true_and, false_and, Bool.false_eq_true, if_false] at HI
           first
            | (rw [HI.out]; (repeat' split) <;> first | rfl | (exfalso; omega))
            | exact DS.back (HB.out (i + 1, m + 1) _ _ (by dsimp only; omega) ⟨by dsimp only; omega, by dsimp only; omega, by dsimp only; omega, by rw [HI.out, zdr hi']; (repeat' split) <;> first | rfl | (exfalso; omega)⟩ yS yS (fun b o e => by cases e)))
    · repeat' (first | refine yJ ?_ | (with_reducible first | (refine zax yE ?_; first | refine zdz (fun _ => ?_) (fun _ => ?_) | refine zay ?_ | refine zbl ?_) | (refine zbi yU yE ?_; first | refine zfz ?_ | refine zfb (fun _ => ?_) (fun _ => ?_) | refine zex (fun _ => ?_) (fun _ => ?_) | refine GG.run ?_ | refine zcl ?_ | refine zcv ?_)) | refine zap inferInstance (hk) yR yT ?_ | refine zan [] yE trivial ?_ | fail)
      all_goals first
        | (exfalso; omega)
        | ((try rw [zdq (by assumption)] at HI); (try rw [zeg (by assumption) hp] at HI); simp only [zes, zer, Bool.not_true, Bool.not_false, Bool.false_and, Bool.true_and, Bool.or_false, Bool.or_eq_true, decide_eq_true_eq, true_and, false_and, Bool.false_eq_true, if_false] at HI
           first
            | (rw [HI.out]; (repeat' split) <;> first | rfl | (exfalso; omega))
            | exact DS.back (HB.out (i + 1, 1) _ _ (by dsimp only; omega) ⟨by dsimp only; omega, by dsimp only; omega, by dsimp only; omega, by rw [HI.out, zdr hi']; (repeat' split) <;> first | rfl | (exfalso; omega)⟩ yS yS (fun b o e => by cases e)))
  · repeat' (first | refine yJT ?_ | refine zan [] yE trivial ?_ | fail)
    rw [hI2, zew hi]; rfl
theorem ylb (s : GSet) (l : List Int) (h0 : zbo s = 0) : PC Tryz.prog 105 [s.val, ints l, Bo false] (I (fkGo s.plain s.copies false l none 0)) := by
  have ok := zcb h0
  have hc := ok.copies
  have ek : zcc s = s.plain := by rw [zcc, if_neg (by omega)]
  have hk := zfo s
  rw [ek] at hk
  clear ek ok h0
  refine DC.of_run Tryz.func105 rfl Tryz.ntmps105 Tryz.results105 (by simp) (fun _ _ => ?_); simp only [zag, zaj, go_sem, Nat.zero_add, Nat.reduceAdd]
  refine zgz (t := 1) yG (.inl rfl) (fun hb1 => ?_); simp only [List.length_map] at hb1
  repeat' (first | refine yJ ?_ | (refine zao (t := 3) yU yE yU ?_; simp only [yS3]) | fail)
  refine zbp [1, 2, 3, 11, 12] yN (fun (z : Nat × Int) => [(7, I z.2), (13, I z.1)]) (fun (z : Nat × Int) => z.1 ≤ l.length ∧ 0 ≤ z.2 ∧ z.2 ≤ z.1 ∧ fkGo s.plain s.copies false l none 0 = fkGo s.plain s.copies false (l.drop z.1) (zlb l z.1) z.2) (fun (z : Nat × Int) => l.length - z.1) (0, 0) yS ⟨Nat.zero_le _, Int.le_refl _, Int.le_refl _, rfl⟩ (fun z B hI hB => ?_); try dsimp only at hI hB; simp only [zad, zaf]
  have HB := Box.mk hB
  clear hB
  obtain ⟨i, m⟩ := z
  dsimp only at hI ⊢
  obtain ⟨hI, hm1, hm2, hI2⟩ := hI
  by_cases hi : (i : Int) < (l.length : Int)
  · have hi' : i < l.length := by omega
    have hp : i - 1 < l.length := by omega
    rw [zwl hi'] at hI2
    have HI := Box.mk hI2
    clear hI2
    by_cases he : (0 : Int) < i ∧ l[i] = l[i - 1]
    · obtain ⟨he1, he2⟩ := he
      repeat' (first | refine yJ ?_ | (with_reducible first | (refine zax yE ?_; first | refine zdz (fun _ => ?_) (fun _ => ?_) | refine zay ?_) | (refine zbi yU yE ?_; first | refine zfz ?_ | refine zex (fun _ => ?_) (fun _ => ?_) | refine GG.run ?_ | refine zcv ?_)) | refine zap inferInstance (hk) yR yT ?_ | refine zan [] yE trivial ?_ | fail)
      all_goals first
        | (exfalso; omega)
        | ((try rw [zdq (by assumption)] at HI); (try rw [zeg (by assumption) hp] at HI); simp only [zes, zer, Bool.not_true, Bool.not_false, Bool.false_and, Bool.true_and, Bool.or_false, Bool.or_eq_true, decide_eq_true_eq, true_and, false_and, Bool.false_eq_true, if_false] at HI
           first
            | (rw [HI.out]; (repeat' split) <;> first | rfl | (exfalso; omega))
            | exact DS.back (HB.out (i + 1, m + 1) _ _ (by dsimp only; omega) ⟨by dsimp only; omega, by dsimp only; omega, by dsimp only; omega, by rw [HI.out, zdr hi']; (repeat' split) <;> first | rfl | (exfalso; omega)⟩ yS yS (fun b o e => by cases e)))
    · repeat' (first | refine yJ ?_ | (with_reducible first | (refine zax yE ?_; first | refine zdz (fun _ => ?_) (fun _ => ?_) | refine zay ?_ | refine zbl ?_) | (refine zbi yU yE ?_; first | refine zfz ?_ | refine zfb (fun _ => ?_) (fun _ => ?_) | refine zex (fun _ => ?_) (fun _ => ?_) | refine GG.run ?_ | refine zcl ?_ | refine zcv ?_)) | refine zap inferInstance (hk) yR yT ?_ | refine zan [] yE trivial ?_ | fail)
      all_goals first
        | (exfalso; omega)
        | ((try rw [zdq (by assumption)] at HI); (try rw [zeg (by assumption) hp] at HI); simp only [zes, zer, Bool.not_true, Bool.not_false, Bool.false_and, Bool.true_and, Bool.or_false, Bool.or_eq_true, decide_eq_true_eq, true_and, false_and, Bool.false_eq_true, if_false] at HI
           first
            | (rw [HI.out]; (repeat' split) <;> first | rfl | (exfalso; omega))
            | exact DS.back (HB.out (i + 1, 1) _ _ (by dsimp only; omega) ⟨by dsimp only; omega, by dsimp only; omega, by dsimp only; omega, by rw [HI.out, zdr hi']; (repeat' split) <;> first | rfl | (exfalso; omega)⟩ yS yS (fun b o e => by cases e)))
  · repeat' (first | refine yJT ?_ | refine zan [] yE trivial ?_ | fail)
    rw [hI2, zew hi]; rfl
theorem yfs (s:GSet) (l:List Int) (sv:Bool) (h0:zbo s=0):PC Tryz.prog 105 [s.val,ints l,Bo sv] (I (fkGo s.plain s.copies sv l none 0)):=by
 cases sv
 ·exact ylb s l h0
 ·exact yla s l h0
end Go.XL
namespace Go.XL
open Go.Proofs
set_option maxRecDepth 100000
set_option maxHeartbeats 4000000
theorem yjq {s:GSet} {f:Form} (h0:zbo s=0) (hw:1≤f.what∧f.what≤6):zgw s f=if f.wrong s=true then 3 else fkGo s.plain s.copies (decide (f.what=6)) f.kinds none 0:=by
 rw[zgw,if_neg (by omega),if_neg (by omega)]
theorem yos (s:GSet) (f:Form):PC Tryz.prog 79 [s.val,f.val] (I (zgw s f)):=by
 by_cases h0:zbo s=0
 ·have ok:=zcb h0
  have hm:=ok.melds
  clear ok
  have hk:=fun sv=>yfs s f.kinds sv h0
  have hc:=zfp s
  rw[h0]at hc
  by_cases hw:1≤f.what∧f.what≤6
  ·rw[yjq h0 hw]
   have hcase:f.what=1∨f.what=2∨f.what=3∨f.what=4∨f.what=5∨f.what=6:=by omega
   clear hw h0
   rcases hcase with h|h|h|h|h|h
   ·refine DC.of_run Tryz.func79 rfl Tryz.ntmps79 Tryz.results79 (by simp) (fun _ _=>?_);simp only[zag,zaj,go_sem,Nat.zero_add,Nat.reduceAdd]
    repeat' (first|refine yJT ?_|(with_reducible (refine zbi yU yE ?_;first|refine zfz ?_|refine zfb (fun _=>?_) (fun _=>?_)|refine GG.run ?_|refine zcl ?_|refine zcv ?_|refine zpp (fun _=>?_) (fun _=>?_)))|refine zap inferInstance (hc) yR yT ?_|refine zap inferInstance (hk _) yR yT ?_|(refine zao (t:=2) yU yE yU ?_;simp only[yS3])|(refine zao (t:=3) yU yE yU ?_;simp only[yS3])|refine zan [] yE trivial ?_|fail)
    all_goals (split <;> first|rfl|(simp[tupV,h];done)|(exfalso;clear hc hk;(try clear he);grind [Form.wrong]))
   ·refine DC.of_run Tryz.func79 rfl Tryz.ntmps79 Tryz.results79 (by simp) (fun _ _=>?_);simp only[zag,zaj,go_sem,Nat.zero_add,Nat.reduceAdd]
    repeat' (first|refine yJ ?_|(with_reducible first|(refine zax yE ?_;first|refine zdz (fun _=>?_) (fun _=>?_)|refine zay ?_|refine zbl ?_)|(refine zbi yU yE ?_;first|refine zfz ?_|refine zfb (fun _=>?_) (fun _=>?_)|refine GG.run ?_|refine zcl ?_|refine zcv ?_|refine zpp (fun _=>?_) (fun _=>?_)))|refine zap inferInstance (hc) yR yT ?_|refine zap inferInstance (hk _) yR yT ?_|(refine zao (t:=2) yU yE yU ?_;simp only[yS3])|(refine zao (t:=3) yU yE yU ?_;simp only[yS3])|refine zan [] yE trivial ?_|fail)
    all_goals (split <;> first|rfl|(simp[tupV,h];done)|(exfalso;clear hc hk;(try clear he);grind [Form.wrong]))
   ·refine DC.of_run Tryz.func79 rfl Tryz.ntmps79 Tryz.results79 (by simp) (fun _ _=>?_);simp only[zag,zaj,go_sem,Nat.zero_add,Nat.reduceAdd]
    repeat' (first|refine yJ ?_|(with_reducible first|(refine zax yE ?_;first|refine zfd (fun _=>?_) (fun _=>?_)|refine zay ?_|refine zbl ?_)|(refine zbi yU yE ?_;first|refine zfb (fun _=>?_) (fun _=>?_)|refine GG.run ?_|refine zcl ?_|refine zcv ?_|refine zpp (fun _=>?_) (fun _=>?_)))|refine zap inferInstance (hc) yR yT ?_|refine zap inferInstance (hk _) yR yT ?_|(refine zao (t:=2) yU yE yU ?_;simp only[yS3])|(refine zao (t:=3) yU yE yU ?_;simp only[yS3])|refine zan [] yE trivial ?_|fail)
    all_goals (split <;> first|rfl|(simp[tupV,h];done)|(exfalso;clear hc hk;(try clear he);grind [Form.wrong]))
   ·refine DC.of_run Tryz.func79 rfl Tryz.ntmps79 Tryz.results79 (by simp) (fun _ _=>?_);simp only[zag,zaj,go_sem,Nat.zero_add,Nat.reduceAdd]
    repeat' (first|refine yJT ?_|(with_reducible (refine zbi yU yE ?_;first|refine zfz ?_|refine zfb (fun _=>?_) (fun _=>?_)|refine GG.run ?_|refine zcl ?_|refine zcv ?_|refine zpp (fun _=>?_) (fun _=>?_)))|refine zap inferInstance (hc) yR yT ?_|refine zap inferInstance (hk _) yR yT ?_|(refine zao (t:=2) yU yE yU ?_;simp only[yS3])|(refine zao (t:=3) yU yE yU ?_;simp only[yS3])|refine zan [] yE trivial ?_|fail)
    all_goals (split <;> first|rfl|(simp[tupV,h];done)|(exfalso;clear hc hk;(try clear he);grind [Form.wrong]))
   ·have he:=yav s.suits [9,9,9]
    obtain⟨b,hb⟩: ∃b,b=decide (s.suits= [9,9,9]):=⟨_,rfl⟩
    rw[←hb]at he
    have HB:=Box.mk hb
    clear hb
    refine DC.of_run Tryz.func79 rfl Tryz.ntmps79 Tryz.results79 (by simp) (fun _ _=>?_);simp only[zag,zaj,go_sem,Nat.zero_add,Nat.reduceAdd]
    repeat' (first|refine yJ ?_|(with_reducible first|(refine zax yE ?_;first|refine zdz (fun _=>?_) (fun _=>?_)|refine zay ?_|refine zbl ?_)|(refine zbi yU yE ?_;first|refine zfz ?_|refine zfb (fun _=>?_) (fun _=>?_)|refine GG.run ?_|refine zcl ?_|refine zcv ?_|refine ycq (fun _=>?_) (fun _=>?_)|refine zpp (fun _=>?_) (fun _=>?_)))|(refine zbw yU yE yE ?_;simp only[go_sem,Nat.zero_add,Nat.reduceAdd])|refine zap inferInstance (hc) yR yT ?_|refine zap inferInstance (hk _) yR yT ?_|refine zap inferInstance (he) yR yT ?_|(refine zao (t:=2) yU yE yU ?_;simp only[yS3])|(refine zao (t:=3) yU yE yU ?_;simp only[yS3])|refine zan [] yE trivial ?_|fail)
    all_goals (have hb:=HB.out;clear HB;split <;> first|rfl|(simp[tupV,h];done)|(exfalso;clear hc hk;(try clear he);grind [Form.wrong]))
   ·refine DC.of_run Tryz.func79 rfl Tryz.ntmps79 Tryz.results79 (by simp) (fun _ _=>?_);simp only[zag,zaj,go_sem,Nat.zero_add,Nat.reduceAdd]
    repeat' (first|refine yJ ?_|(with_reducible first|(refine zax yE ?_;first|refine zfd (fun _=>?_) (fun _=>?_)|refine zay ?_|refine zbl ?_)|(refine zbi yU yE ?_;first|refine zfb (fun _=>?_) (fun _=>?_)|refine GG.run ?_|refine zcl ?_|refine zcv ?_|refine zpp (fun _=>?_) (fun _=>?_)))|refine zap inferInstance (hc) yR yT ?_|refine zap inferInstance (hk _) yR yT ?_|(refine zao (t:=2) yU yE yU ?_;simp only[yS3])|(refine zao (t:=3) yU yE yU ?_;simp only[yS3])|refine zan [] yE trivial ?_|fail)
    all_goals (split <;> first|rfl|(simp[tupV,h];done)|(exfalso;clear hc hk;(try clear he);grind [Form.wrong]))
  ·rw[zgw,if_neg (by omega),if_pos hw]
   refine DC.of_run Tryz.func79 rfl Tryz.ntmps79 Tryz.results79 (by simp) (fun _ _=>?_);simp only[zag,zaj,go_sem,Nat.zero_add,Nat.reduceAdd]
   repeat' (first|refine yJ ?_|(with_reducible first|(refine zax yE ?_;first|refine zfd (fun _=>?_) (fun _=>?_)|refine zdz (fun _=>?_) (fun _=>?_)|refine zay ?_|refine zbl ?_)|(refine zbi yU yE ?_;first|refine zfz ?_|refine zix (fun _=>?_) (fun _=>?_)|refine zfb (fun _=>?_) (fun _=>?_)|refine zex (fun _=>?_) (fun _=>?_)|refine GG.run ?_|refine zcl ?_|refine zcv ?_|refine zpp (fun _=>?_) (fun _=>?_)))|(refine zbw yU yE yE ?_;simp only[go_sem,Nat.zero_add,Nat.reduceAdd])|refine zap inferInstance (hc) yR yT ?_|refine zap inferInstance (hk _) yR yT ?_|(refine zao (t:=2) yU yE yU ?_;simp only[yS3])|(refine zao (t:=3) yU yE yU ?_;simp only[yS3])|refine zan [] yE trivial ?_|fail)
   all_goals first|rfl|(exfalso;omega)
 ·have hc:=zfp s
  rw[zgw,if_pos h0]
  refine DC.of_run Tryz.func79 rfl Tryz.ntmps79 Tryz.results79 (by simp) (fun _ _=>?_);simp only[zag,zaj,go_sem,Nat.zero_add,Nat.reduceAdd]
  repeat' (first|refine yJT ?_|refine zap inferInstance (hc) yR yT ?_|(refine zao (t:=2) yU yE yU ?_;simp only[yS3])|(refine zao (t:=3) yU yE yU ?_;simp only[yS3])|refine zan [] yE trivial ?_|fail)
  all_goals first|rfl|(exfalso;omega)
end Go.XL
namespace Go.XL
open Go.Proofs
set_option maxRecDepth 100000
set_option maxHeartbeats 4000000
theorem ybx {s:GSet} {l:List Form} {i:Nat} (hi:i<l.length):zjd s (l.drop i)=if zgw s l[i]≠0 then zgw s l[i]else zjd s (l.drop (i+1)):=by
 rw[List.drop_eq_getElem_cons hi,zjd]
theorem yjp (s:GSet) (l:List Form):PC Tryz.prog 51 [s.val,zki l] (I (zep s l)):=by
 have hc:=zfp s
 refine DC.of_run Tryz.func51 rfl Tryz.ntmps51 Tryz.results51 (by simp) (fun _ _=>?_);simp only[zag,zaj,go_sem,Nat.zero_add,Nat.reduceAdd]
 refine zgz (t:=1) yG (.inl rfl) (fun hb1=>?_);simp only[List.length_map]at hb1
 by_cases h0:zbo s=0
 ·rw[h0]at hc
  repeat' (first|refine yJ ?_|(with_reducible (refine zax yE ?_;first|refine zdz (fun _=>?_) (fun _=>?_)|refine zbl ?_))|refine zap inferInstance (hc) yR yT ?_|(refine zao (t:=2) yU yE yU ?_;simp only[yS3])|refine zan [] yE trivial ?_|fail)
  all_goals try first|(rw[zep,if_neg (by omega),if_pos (by omega)];rfl)|(rw[zep,if_neg (by omega),if_neg (by omega),if_pos (by omega)];rfl)
  refine zbp [2,22,23] yN (fun(i:Nat)=> [(24,I i)]) (fun(i:Nat)=>i≤l.length∧zep s l=zjd s (l.drop i)) (fun(i:Nat)=>l.length-i) 0 yS ⟨Nat.zero_le _,by rw[zep,if_neg (by omega),if_neg (by omega),if_neg (by omega)];rfl⟩ (fun i B hI hB=>?_);try dsimp only at hI hB;simp only[zad,zaf]
  have HB:=Box.mk hB
  clear hB
  obtain⟨hI,hI2⟩:=hI
  by_cases hi:(i:Int)<(l.length:Int)
  ·have hi':i<l.length:=by omega
   rw[ybx hi']at hI2
   have HI:=Box.mk hI2
   clear hI2
   have hf:=yos s l[i]
   by_cases he:zgw s l[i]=0
   ·rw[he]at hf
    repeat' (first|refine yJT ?_|(refine zbt (t:=7) yU yE yU (fun _=>yE) yE yU yV1 (fun _=>yN1) ?_;simp only[go_sem])|refine zap inferInstance (hf) yR yT ?_|fail)
    exact DS.back (HB.out (i+1) _ _ (by omega) ⟨by omega,by rw[HI.out,if_neg (by omega)]⟩ yS yS (fun b o e=>by cases e))
   ·repeat' (first|refine yJT ?_|(refine zbt (t:=7) yU yE yU (fun _=>yE) yE yU yV1 (fun _=>yN1) ?_;simp only[go_sem])|refine zap inferInstance (hf) yR yT ?_|refine zan [] yE trivial ?_|fail)
    all_goals first|(rw[HI.out,if_pos he];rfl)|(exfalso;omega)
  ·repeat' (first|refine yJT ?_|refine zan [] yE trivial ?_|fail)
   rw[hI2,zew hi];rfl
 ·repeat' (first|refine yJT ?_|refine zap inferInstance (hc) yR yT ?_|(refine zao (t:=2) yU yE yU ?_;simp only[yS3])|refine zan [] yE trivial ?_|fail)
  all_goals first|(rw[zep,if_pos h0];rfl)|(exfalso;omega)
theorem zvx {own many:Int} {l:List Int} {i:Nat} (hi:i<l.length) (p:Option Int):zgq own many (l.drop i) p=if ¬(0≤l[i]∧l[i]≤many-1)then 2 else if l[i]=own then 12 else if anyO (fun q=>decide (l[i]≤q)) p=true then 11 else zgq own many (l.drop (i+1)) (some l[i]):=by
 rw[List.drop_eq_getElem_cons hi,zgq]
theorem zti (l : List Int) (own many : Int) (hm : 0 ≤ many ∧ many ≤ 1000000) : PC Tryz.prog 84 [ints l, I own, I many] (I (zen l own many)) := by
  refine DC.of_run Tryz.func84 rfl Tryz.ntmps84 Tryz.results84 (by simp) (fun _ _ => ?_); simp only [zag, zaj, go_sem, Nat.zero_add, Nat.reduceAdd]
  refine zgz (t := 0) yG (.inl rfl) (fun hb0 => ?_); simp only [List.length_map] at hb0
  repeat' (first | refine yJ ?_ | (with_reducible (refine zax yE ?_; refine zdz (fun _ => ?_) (fun _ => ?_))) | refine zan [] yE trivial ?_ | fail)
  · simp [tupV, zen, *]
  refine zbp [0, 1, 2, 12, 13] yN (fun (i : Nat) => [(14, I i)]) (fun (i : Nat) => i ≤ l.length ∧ zen l own many = zgq own many (l.drop i) (zlb l i)) (fun (i : Nat) => l.length - i) 0 yS (by simp [zen, zlb, *]) (fun i B hI hB => ?_); try dsimp only at hI hB; simp only [zad, zaf]
  have HB := Box.mk hB
  clear hB
  obtain ⟨hI, hI2⟩ := hI
  by_cases hi : (i : Int) < (l.length : Int)
  · have hi' : i < l.length := by omega
    have hp : i - 1 < l.length := by omega
    rw [zvx hi'] at hI2
    have HI := Box.mk hI2
    clear hI2
    repeat' (first | refine yJ ?_ | (with_reducible first | (refine zax yE ?_; first | refine zfd (fun _ => ?_) (fun _ => ?_) | refine zdz (fun _ => ?_) (fun _ => ?_) | refine zay ?_ | refine zbl ?_) | (refine zbi yU yE ?_; first | refine zfb (fun _ => ?_) (fun _ => ?_) | refine GG.run ?_ | refine zcl ?_)) | refine zap inferInstance (zct _ _ _) yR yT ?_ | refine zan [] yE trivial ?_ | fail)
    all_goals first
      | (exfalso; omega)
      | ((try rw [zdq (by assumption)] at HI); (try rw [zeg (by assumption) hp] at HI); (try simp only [zes, zer, decide_eq_true_eq, Bool.false_eq_true, if_false] at HI)
         first
          | (rw [HI.out]; (repeat' split) <;> first | rfl | (exfalso; omega))
          | exact DS.back (HB.out (i + 1) _ _ (by omega) ⟨by omega, by rw [HI.out, zdr hi']; (repeat' split) <;> first | rfl | (exfalso; omega)⟩ yS yS (fun b o e => by cases e)))
  · repeat' (first | refine yJT ?_ | refine zan [] yE trivial ?_ | fail)
    rw [hI2, zew hi]; rfl
end Go.XL
namespace Go.XL
open Go.Proofs
set_option maxRecDepth 100000
set_option maxHeartbeats 8000000
theorem zdx (n lo hi:Int):PC Tryz.prog 113 [I n,I lo,I hi] (Bo (decide (lo≤n∧n≤hi))):=by
 refine DC.of_run Tryz.func113 rfl Tryz.ntmps113 Tryz.results113 (by simp) (fun _ _=>?_);simp only[zag,zaj,go_sem,Nat.zero_add,Nat.reduceAdd]
 repeat' (first|refine yJ ?_|(with_reducible (refine zbi yU yE ?_;first|refine zfb (fun _=>?_) (fun _=>?_)|refine GG.run ?_|refine zcl ?_))|refine zan [] yE trivial ?_|fail)
 all_goals first|(simp_all [tupV];done)|(simp_all [tupV];omega)
theorem zqd (s:GSet) (hw:0≤s.winds∧s.winds≤4) (hd:0≤s.dragons∧s.dragons≤3) (hl:s.suits.length≤3) (hs:zdl s.suits=0) :
  PC Tryz.prog 114 [s.val] (I s.plain):=by
 obtain⟨a1,a2⟩:=hw
 obtain⟨a3,a4⟩:=hd
 refine DC.of_run Tryz.func114 rfl Tryz.ntmps114 Tryz.results114 (by simp) (fun _ _=>?_);simp only[zag,zaj,go_sem,Nat.zero_add,Nat.reduceAdd]
 repeat' (first|refine yJ ?_|(refine zao (t:=1) yU yE yU ?_;simp only[yS3])|fail)
 refine zbp [1] yN (fun(z:Nat×Int)=> [(3,I z.2),(4,I z.1)]) (fun(z:Nat×Int)=>z.1≤s.suits.length∧z.2=s.winds+s.dragons+sumI (s.suits.take z.1)∧0≤sumI (s.suits.take z.1)∧sumI (s.suits.take z.1)≤9*z.1) (fun(z:Nat×Int)=>s.suits.length-z.1) (0,s.winds+s.dragons) yS ⟨Nat.zero_le _,by simp[sumI],by simp[sumI],by simp[sumI]⟩ (fun z B hI hB=>?_);try dsimp only at hI hB;simp only[zad,zaf]
 have HB:=Box.mk hB
 clear hB
 obtain⟨i,kk⟩:=z
 dsimp only at hI ⊢
 obtain⟨hI,hI1,hI2,hI3⟩:=hI
 have H1:=Box.mk hI1
 have hk1:0≤kk∧kk≤100:=by omega
 clear hI1
 by_cases hi:(i:Int)<(s.suits.length:Int)
 ·have hi':i<s.suits.length:=by omega
  obtain⟨b1,b2⟩:=zrg hs _ (List.getElem_mem hi')
  repeat' (first|refine yJT ?_|fail)
  have e:=zel hi'
  have h1:=H1.out
  refine DS.back (HB.out (i+1,kk+s.suits[i]) _ _ (by dsimp only;omega) ⟨by dsimp only;omega,by dsimp only;omega,by dsimp only;omega,by dsimp only;omega⟩ yS yS (fun b o e=>by cases e))
 ·repeat' (first|refine yJT ?_|refine zan [] yE trivial ?_|fail)
  rw[H1.out,List.take_of_length_le (by omega)];rfl
theorem ziq (s:GSet):PC Tryz.prog 91 [s.val] (I (zbo s)):=by
 by_cases h1:3≤s.players∧s.players≤4
 ·by_cases h2:(s.suits.length:Int)≤3
  ·refine DC.of_run Tryz.func91 rfl Tryz.ntmps91 Tryz.results91 (by simp) (fun _ _=>?_);simp only[zag,zaj,go_sem,Nat.zero_add,Nat.reduceAdd]
   repeat' (first|refine yJ ?_|(with_reducible (refine zax yE ?_;first|refine zdz (fun _=>?_) (fun _=>?_)|refine zbl ?_))|refine zap inferInstance (zdx _ _ _) yR yT ?_|(refine zao (t:=1) yU yE yU ?_;simp only[yS3])|fail)
   all_goals try (exfalso;omega)
   refine zbp [1] yN (fun(i:Nat)=> [(3,I i)]) (fun(i:Nat)=>i≤s.suits.length∧zdl s.suits=zdl (s.suits.drop i)) (fun(i:Nat)=>s.suits.length-i) 0 yS ⟨Nat.zero_le _,rfl⟩ (fun i B hI hB=>?_);try dsimp only at hI hB;simp only[zad,zaf]
   have HB:=Box.mk hB
   clear hB
   obtain⟨hI,hI2⟩:=hI
   by_cases hi:(i:Int)<(s.suits.length:Int)
   ·have hi':i<s.suits.length:=by omega
    rw[zpr hi']at hI2
    have H2:=Box.mk hI2
    clear hI2
    by_cases hn:1≤s.suits[i]∧s.suits[i]≤9
    ·repeat' (first|refine yJT ?_|refine zap inferInstance (zdx _ _ _) yR yT ?_|fail)
     all_goals first
      | exact DS.back (HB.out (i+1) _ _ (by omega) ⟨by omega,by rw[H2.out,if_neg (by omega)]⟩ yS yS (fun b o e=>by cases e))
      | (exfalso;omega)
    ·have e:zbo s=2:=by rw[zbo,if_neg (by omega),if_neg (by omega),if_pos (by rw[H2.out,if_pos hn];decide)]
     rw[e]
     repeat' (first|refine yJT ?_|refine zap inferInstance (zdx _ _ _) yR yT ?_|refine zan [] yE trivial ?_|fail)
     all_goals first|rfl|(exfalso;omega)
   ·rw[zew hi]at hI2
    have hI2:zdl s.suits=0:=hI2
    clear HB
    by_cases hb:((0≤s.winds∧s.winds≤4)∧(0≤s.dragons∧s.dragons≤3)∧(0≤s.flowers∧s.flowers≤8))∧(1≤s.copies∧s.copies≤4)∧(1≤s.melds∧s.melds≤4)∧(0≤s.dead∧s.dead≤20)
    ·obtain⟨⟨a1,a2,a3⟩,a4,a5,a6⟩:=hb
     have hk:=zqd s a1 a2 (by omega) hI2
     have hpl:s.plain≤34:=by have:=zin hI2;have e:s.plain=s.winds+s.dragons+sumI s.suits:=rfl;omega
     have hp0:0≤s.plain:=by have:=zin hI2;have e:s.plain=s.winds+s.dragons+sumI s.suits:=rfl;omega
     have e:zbo s=if s.plain<1 then 6 else if ascS s.plain s.reds≠0 then ascS s.plain s.reds else if s.plain*s.copies+s.flowers<s.players*(3*s.melds+1)+1+s.dead then 6 else 0:=by
      rw[zbo,if_neg (by omega),if_neg (by omega),if_neg (by omega),if_neg (by omega),if_neg (by omega),if_neg (by omega),if_neg (by omega),if_neg (by omega),if_neg (by omega)]
     rw[e]
     clear e
     obtain⟨c1,c2⟩:=a4
     obtain⟨c3,c4⟩:=a5
     obtain⟨c5,c6⟩:=a3
     obtain⟨c7,c8⟩:=a6
     have m1:0≤s.plain*s.copies:=Int.mul_nonneg hp0 (by omega)
     have m2:s.plain*s.copies≤34*4:=Int.mul_le_mul hpl c2 (by omega) (by omega)
     have m3:0≤s.players*(3*s.melds+1):=Int.mul_nonneg (by omega) (by omega)
     have m4:s.players*(3*s.melds+1)≤4*13:=Int.mul_le_mul h1.2 (by omega) (by omega) (by omega)
     clear hI2
     repeat' (first|refine yJT ?_|(with_reducible (refine zax yE ?_;first|refine zdz (fun _=>?_) (fun _=>?_)|refine zbl ?_))|refine zap inferInstance (zdx _ _ _) yR yT ?_|refine zap inferInstance (hk) yR yT ?_|fail)
     all_goals try (exfalso;omega)
     ·repeat' (first|refine zan [] yE trivial ?_|fail)
      rw[if_pos (by omega)];rfl
     ·rename_i hz
      rw[if_neg (by omega)]
      refine zbp [1,4] yN (fun(j:Nat)=> [(5,I j)]) (fun(j:Nat)=>j≤s.reds.length∧ascS s.plain s.reds=zeq s.plain (s.reds.drop j) ((zlb s.reds j).getD (-1))) (fun(j:Nat)=>s.reds.length-j) 0 yS ⟨Nat.zero_le _,rfl⟩ (fun j B hI hB=>?_);try dsimp only at hI hB;simp only[zad,zaf]
      have HB:=Box.mk hB
      clear hB
      obtain⟨hJ,hI5⟩:=hI
      by_cases ha:(j:Int)<(s.reds.length:Int)
      ·have ha':j<s.reds.length:=by omega
       have hp:j-1<s.reds.length:=by omega
       rw[zsm ha']at hI5
       have HI:=Box.mk hI5
       clear hI5
       repeat' (first|refine yJ ?_|fail)
       refine zgz (t:=66) yG (.inl rfl) (fun hb66=>?_);simp only[List.length_map]at hb66
       repeat' (first|refine yJ ?_|(with_reducible first|(refine zax yE ?_;first|refine zfd (fun _=>?_) (fun _=>?_)|refine zdz (fun _=>?_) (fun _=>?_)|refine zay ?_|refine zbl ?_)|(refine zbi yU yE ?_;first|refine GG.run ?_|refine zcl ?_))|refine zap inferInstance (zdx _ _ _) yR yT ?_|refine zbe (id:=22) [0,1,2,3,4,5,6,7,8,9,10,11,12,13] 14 yKR mixed yP1 yP2 ?_|(with_reducible first|refine zau yU yU yU yE ?_|(refine zim yU yE ?_;first|refine ymy (fun _=>?_) (fun _=>?_)|refine DGG.run ?_|refine zpg ?_)|refine zbg ?_)|refine zan [] yE trivial ?_|fail)
       all_goals (try rw[zdq (by assumption)]at HI) <;> (try rw[zeg (by assumption) hp]at HI)
       all_goals try simp only[Option.getD_none,Option.getD_some]at HI
       all_goals first
        | exact DS.back (HB.out (j+1) _ _ (by omega) ⟨by omega,by rw[HI.out,zdr ha',if_neg (by omega),if_neg (by omega)];rfl⟩ yS yS (fun b o e=>by cases e))
        | (rw[show ascS s.plain s.reds=2 by rw[HI.out,if_pos (by omega)],if_pos (by decide)];rfl)
        | (rw[show ascS s.plain s.reds=11 by rw[HI.out,if_neg (by omega),if_pos (by omega)],if_pos (by decide)];rfl)
        | (exfalso;omega)
      ·rw[zew ha]at hI5
       have hI5:ascS s.plain s.reds=0:=hI5
       rw[if_neg (by omega)]
       clear hI5
       repeat' (first|refine yJ ?_|(with_reducible (refine zax yE ?_;first|refine zdz (fun _=>?_) (fun _=>?_)|refine zbl ?_))|refine zan [] yE trivial ?_|fail)
       ·rw[if_pos (by omega)];rfl
       ·rw[if_neg (by omega)];rfl
    ·have e:zbo s=2:=by
      rw[zbo,if_neg (by omega),if_neg (by omega),if_neg (by omega)]
      (repeat' split) <;> first|rfl|(exfalso;omega)
     rw[e]
     clear e hI2
     repeat' (first|refine yJ ?_|(with_reducible first|(refine zax yE ?_;first|refine zfd (fun _=>?_) (fun _=>?_)|refine zay ?_|refine zbl ?_)|(refine zbi yU yE ?_;first|refine zix (fun _=>?_) (fun _=>?_)|refine GG.run ?_|refine zcv ?_))|refine zap inferInstance (zdx _ _ _) yR yT ?_|refine zan [] yE trivial ?_|fail)
     all_goals first|rfl|(exfalso;omega)
  ·rw[zbo,if_neg (by omega),if_pos (by omega)]
   refine DC.of_run Tryz.func91 rfl Tryz.ntmps91 Tryz.results91 (by simp) (fun _ _=>?_);simp only[zag,zaj,go_sem,Nat.zero_add,Nat.reduceAdd]
   repeat' (first|refine yJ ?_|(with_reducible (refine zax yE ?_;first|refine zdz (fun _=>?_) (fun _=>?_)|refine zbl ?_))|refine zap inferInstance (zdx _ _ _) yR yT ?_|(refine zao (t:=1) yU yE yU ?_;simp only[yS3])|refine zan [] yE trivial ?_|fail)
   all_goals first|rfl|(exfalso;omega)
 ·rw[zbo,if_pos h1]
  refine DC.of_run Tryz.func91 rfl Tryz.ntmps91 Tryz.results91 (by simp) (fun _ _=>?_);simp only[zag,zaj,go_sem,Nat.zero_add,Nat.reduceAdd]
  repeat' (first|refine yJT ?_|refine zap inferInstance (zdx _ _ _) yR yT ?_|(refine zao (t:=1) yU yE yU ?_;simp only[yS3])|refine zan [] yE trivial ?_|fail)
  all_goals first|rfl|(exfalso;omega)
theorem zme (s:GSet):PC Tryz.prog 131 [s.val] (I (zcc s)):=by
 have hc:=ziq s
 by_cases h0:zbo s=0
 ·have ok:=zcb h0
  have hp:=zqd s ok.winds ok.dragons ok.suits ok.suit
  rw[h0]at hc
  rw[zcc,if_neg (by omega)]
  clear ok
  refine DC.of_run Tryz.func131 rfl Tryz.ntmps131 Tryz.results131 (by simp) (fun _ _=>?_);simp only[zag,zaj,go_sem,Nat.zero_add,Nat.reduceAdd]
  repeat' (first|refine yJT ?_|refine zap inferInstance (hc) yR yT ?_|refine zap inferInstance (hp) yR yT ?_|(refine zao (t:=1) yU yE yU ?_;simp only[yS3])|refine zan [] yE trivial ?_|fail)
  all_goals first|rfl|(exfalso;omega)
 ·rw[zcc,if_pos h0]
  refine DC.of_run Tryz.func131 rfl Tryz.ntmps131 Tryz.results131 (by simp) (fun _ _=>?_);simp only[zag,zaj,go_sem,Nat.zero_add,Nat.reduceAdd]
  repeat' (first|refine yJT ?_|refine zap inferInstance (hc) yR yT ?_|(refine zao (t:=1) yU yE yU ?_;simp only[yS3])|refine zan [] yE trivial ?_|fail)
  all_goals first|rfl|(exfalso;omega)
theorem zqc (s:GSet) (k:Int):PC Tryz.prog 115 [s.val,I k] (Bo (decide (0≤k∧k≤zcc s-1))):=by
 have hk:=zme s
 generalize zcc s=n at *
 refine DC.of_run Tryz.func115 rfl Tryz.ntmps115 Tryz.results115 (by simp) (fun _ _=>?_);simp only[zag,zaj,go_sem,Nat.zero_add,Nat.reduceAdd]
 repeat' (first|refine yJ ?_|(with_reducible (refine zbi yU yE ?_;first|refine zfb (fun _=>?_) (fun _=>?_)|refine GG.run ?_|refine zcl ?_))|refine zap inferInstance (hk) yR yT ?_|(refine zao (t:=2) yU yE yU ?_;simp only[yS3])|refine zan [] yE trivial ?_|fail)
 all_goals first|(simp[tupV, *];done)|(simp[tupV, *];omega)
theorem yX2 {p:Prop} (h:p:=by(simp (disch:=omega) only[go_sem,dopV,yV0,↓reduceIte,Nat.reduceEqDiff,Nat.reduceLT,Nat.reduceLeDiff,Nat.reduceAdd,Nat.reduceMul,Nat.reduceSub,Int.reduceToNat,Int.reduceLT,Int.reduceLE,Int.reduceEq,IntWalk.toNatUp,IntWalk.iteOmega,IntWalk.i64_in,V.flat,V.one, *,List.length_cons,List.length_nil,List.getElem_cons_zero,List.getElem_cons_succ];exact rfl)):p:=h
theorem yax (s:GSet):PC Tryz.prog 92 [s.val] (Bo (decide (s.suits= [9,9,9]))):=by
 obtain⟨p,l,w,d,f,c,m,dd,r⟩:=s
 dsimp only
 have hl:l.length≤2∨(∃a b c,l= [a,b,c])∨3<l.length:=by
  rcases l with _|⟨a,_|⟨b,_|⟨c,_|⟨d,l⟩⟩⟩⟩ <;> simp
 rcases hl with h|⟨a,b,c',rfl⟩|h
 ·have e:decide (l= [9,9,9])=false:=decide_eq_false fun h'=>by rw[h']at h;simp at h
  rw[e]
  refine DC.of_run Tryz.func92 rfl Tryz.ntmps92 Tryz.results92 (by simp) (fun _ _=>?_);simp only[zag,zaj,go_sem,Nat.zero_add,Nat.reduceAdd]
  repeat' (first|refine yJ ?_|(with_reducible (refine zbi yU yE ?_;first|refine zfb (fun _=>?_) (fun _=>?_)|refine GG.run ?_|refine zcl ?_))|(refine zao (t:=1) yU yE yU ?_;simp only[yS3])|refine zan [] yE trivial ?_|fail)
  all_goals first|rfl|(exfalso;omega)
 ·refine DC.of_run Tryz.func92 rfl Tryz.ntmps92 Tryz.results92 (by simp) (fun _ _=>?_);simp only[zag,zaj,go_sem,Nat.zero_add,Nat.reduceAdd]
  repeat' (first|with_reducible refine zak yU yU yX2 ?_|refine yJ ?_|(with_reducible (refine zbi yU yX2 ?_;first|refine zfb (fun _=>?_) (fun _=>?_)|refine GG.run ?_|refine zcl ?_))|(refine zao (t:=1) yU yX2 yU ?_;simp only[yS3])|refine zan [] yX2 trivial ?_|fail)
  all_goals first|(simp_all [tupV];done)|(simp_all [tupV];omega)
 ·have e:decide (l= [9,9,9])=false:=decide_eq_false fun h'=>by rw[h']at h;simp at h
  rw[e]
  refine DC.of_run Tryz.func92 rfl Tryz.ntmps92 Tryz.results92 (by simp) (fun _ _=>?_);simp only[zag,zaj,go_sem,Nat.zero_add,Nat.reduceAdd]
  repeat' (first|refine yJ ?_|(with_reducible (refine zbi yU yE ?_;first|refine zfb (fun _=>?_) (fun _=>?_)|refine GG.run ?_|refine zcl ?_))|(refine zao (t:=1) yU yE yU ?_;simp only[yS3])|refine zan [] yE trivial ?_|fail)
  all_goals first|rfl|(exfalso;omega)
end Go.XL
namespace Go.XL
open Go.Proofs
set_option maxRecDepth 100000
set_option maxHeartbeats 8000000
theorem yay (s : GSet) (f : Form) (h0 : zbo s = 0) (hf : f.what = 3 ∨ f.what = 6 ∨ f.kinds.length = 0) : PC Tryz.prog 93 [s.val, f.val] (I (fkGo s.plain s.copies (decide (f.what = 6)) f.kinds none 0)) := by
  have ok := zcb h0
  have hc := ok.copies
  have ek : zcc s = s.plain := by rw [zcc, if_neg (by omega)]
  have hk := fun k => zqc s k
  rw [ek] at hk
  clear ek ok h0
  obtain ⟨what, l, again⟩ := f
  dsimp only at hf ⊢
  obtain ⟨sv, hsv⟩ : ∃ sv, sv = decide (what = 6) := ⟨_, rfl⟩
  have hs2 : sv = true ↔ what = 6 := by rw [hsv, decide_eq_true_eq]
  rw [← hsv]
  clear hsv
  refine DC.of_run Tryz.func93 rfl Tryz.ntmps93 Tryz.results93 (by simp) (fun _ _ => ?_); simp only [zag, zaj, go_sem, Nat.zero_add, Nat.reduceAdd]
  repeat' (first | refine yJ ?_ | (refine zao (t := 2) yU yE yU ?_; simp only [yS3]) | (refine zao (t := 3) yU yE yU ?_; simp only [yS3]) | fail)
  refine zbp [2, 3] yN (fun (z : Nat × Int) => [(5, I z.2), (6, I z.1)]) (fun (z : Nat × Int) => z.1 ≤ l.length ∧ 0 ≤ z.2 ∧ z.2 ≤ z.1 ∧ fkGo s.plain s.copies sv l none 0 = fkGo s.plain s.copies sv (l.drop z.1) (zlb l z.1) z.2) (fun (z : Nat × Int) => l.length - z.1) (0, 0) yS ⟨Nat.zero_le _, Int.le_refl _, Int.le_refl _, rfl⟩ (fun z B hI hB => ?_); try dsimp only at hI hB; simp only [zad, zaf]
  have HB := Box.mk hB
  clear hB
  obtain ⟨i, m⟩ := z
  dsimp only at hI ⊢
  obtain ⟨hI, hm1, hm2, hI2⟩ := hI
  by_cases hi : (i : Int) < (l.length : Int)
  · have hi' : i < l.length := by omega
    have hp : i - 1 < l.length := by omega
    rw [zwl hi'] at hI2
    have hS : Box ((sv = true ↔ what = 6) ∧ (what = 3 ∨ what = 6)) := ⟨hs2, by omega⟩
    clear hs2 hf
    have HI := Box.mk hI2
    clear hI2
    have hkk := hk l[i]
    by_cases h3 : what = 3
    · have hsf : sv = false := by
        cases hq : sv with
        | false => rfl
        | true => have := hS.out.1.1 hq; omega
      subst hsf
      by_cases he : (0 : Int) < i ∧ l[i] = l[i - 1]
      · obtain ⟨he1, he2⟩ := he
        repeat' (first | refine yJ ?_ | fail)
        refine zgz (t := 10) yG (.inl rfl) (fun hb10 => ?_); simp only [List.length_map] at hb10
        repeat' (first | refine yJ ?_ | (with_reducible first | (refine zax yE ?_; first | refine zfd (fun _ => ?_) (fun _ => ?_) | refine zay ?_) | (refine zbi yU yE ?_; first | refine zfz ?_ | refine zex (fun _ => ?_) (fun _ => ?_) | refine GG.run ?_ | refine zcv ?_)) | refine zap inferInstance (hkk) yR yT ?_ | refine zan [] yE trivial ?_ | fail)
        all_goals first
          | (exfalso; omega)
          | ((try rw [zdq (by assumption)] at HI); (try rw [zeg (by assumption) hp] at HI); simp only [zes, zer, Bool.not_true, Bool.not_false, Bool.false_and, Bool.true_and, Bool.or_false, Bool.or_eq_true, decide_eq_true_eq, true_and, false_and, Bool.false_eq_true, if_false] at HI
             first
              | (rw [HI.out]; (repeat' split) <;> first | rfl | (exfalso; omega))
              | exact DS.back (HB.out (i + 1, m + 1) _ _ (by dsimp only; omega) ⟨by dsimp only; omega, by dsimp only; omega, by dsimp only; omega, by rw [HI.out, zdr hi']; (repeat' split) <;> first | rfl | (exfalso; omega)⟩ yS yS (fun b o e => by cases e)))
      · repeat' (first | refine yJ ?_ | fail)
        refine zgz (t := 10) yG (.inl rfl) (fun hb10 => ?_); simp only [List.length_map] at hb10
        repeat' (first | refine yJ ?_ | (with_reducible first | (refine zax yE ?_; first | refine zfd (fun _ => ?_) (fun _ => ?_) | refine zdz (fun _ => ?_) (fun _ => ?_) | refine zay ?_ | refine zbl ?_) | (refine zbi yU yE ?_; first | refine zfz ?_ | refine zfb (fun _ => ?_) (fun _ => ?_) | refine zex (fun _ => ?_) (fun _ => ?_) | refine GG.run ?_ | refine zcl ?_ | refine zcv ?_)) | refine zap inferInstance (hkk) yR yT ?_ | refine zan [] yE trivial ?_ | fail)
        all_goals first
          | (exfalso; omega)
          | ((try rw [zdq (by assumption)] at HI); (try rw [zeg (by assumption) hp] at HI); simp only [zes, zer, Bool.not_true, Bool.not_false, Bool.false_and, Bool.true_and, Bool.or_false, Bool.or_eq_true, decide_eq_true_eq, true_and, false_and, Bool.false_eq_true, if_false] at HI
             first
              | (rw [HI.out]; (repeat' split) <;> first | rfl | (exfalso; omega))
              | exact DS.back (HB.out (i + 1, 1) _ _ (by dsimp only; omega) ⟨by dsimp only; omega, by dsimp only; omega, by dsimp only; omega, by rw [HI.out, zdr hi']; (repeat' split) <;> first | rfl | (exfalso; omega)⟩ yS yS (fun b o e => by cases e)))
    · have h6 : what = 6 := by have := hS.out.2; omega
      have hst : sv = true := hS.out.1.2 h6
      subst hst
      by_cases he : (0 : Int) < i ∧ l[i] = l[i - 1]
      · obtain ⟨he1, he2⟩ := he
        repeat' (first | refine yJ ?_ | fail)
        refine zgz (t := 10) yG (.inl rfl) (fun hb10 => ?_); simp only [List.length_map] at hb10
        repeat' (first | refine yJ ?_ | (with_reducible first | (refine zax yE ?_; first | refine zfd (fun _ => ?_) (fun _ => ?_) | refine zdz (fun _ => ?_) (fun _ => ?_) | refine zay ?_ | refine zbl ?_) | (refine zbi yU yE ?_; first | refine zfz ?_ | refine zex (fun _ => ?_) (fun _ => ?_) | refine GG.run ?_ | refine zcl ?_ | refine zcv ?_)) | refine zap inferInstance (hkk) yR yT ?_ | refine zan [] yE trivial ?_ | fail)
        all_goals first
          | (exfalso; omega)
          | ((try rw [zdq (by assumption)] at HI); (try rw [zeg (by assumption) hp] at HI); simp only [zes, zer, Bool.not_true, Bool.not_false, Bool.false_and, Bool.true_and, Bool.or_false, Bool.or_eq_true, decide_eq_true_eq, true_and, false_and, Bool.false_eq_true, if_false] at HI
             first
              | (rw [HI.out]; (repeat' split) <;> first | rfl | (exfalso; omega))
              | exact DS.back (HB.out (i + 1, m + 1) _ _ (by dsimp only; omega) ⟨by dsimp only; omega, by dsimp only; omega, by dsimp only; omega, by rw [HI.out, zdr hi']; (repeat' split) <;> first | rfl | (exfalso; omega)⟩ yS yS (fun b o e => by cases e)))
      · repeat' (first | refine yJ ?_ | fail)
        refine zgz (t := 10) yG (.inl rfl) (fun hb10 => ?_); simp only [List.length_map] at hb10
        repeat' (first | refine yJ ?_ | (with_reducible first | (refine zax yE ?_; first | refine zfd (fun _ => ?_) (fun _ => ?_) | refine zdz (fun _ => ?_) (fun _ => ?_) | refine zay ?_ | refine zbl ?_) | (refine zbi yU yE ?_; first | refine zfz ?_ | refine zfb (fun _ => ?_) (fun _ => ?_) | refine zex (fun _ => ?_) (fun _ => ?_) | refine GG.run ?_ | refine zcl ?_ | refine zcv ?_)) | refine zap inferInstance (hkk) yR yT ?_ | refine zan [] yE trivial ?_ | fail)
        all_goals first
          | (exfalso; omega)
          | ((try rw [zdq (by assumption)] at HI); (try rw [zeg (by assumption) hp] at HI); simp only [zes, zer, Bool.not_true, Bool.not_false, Bool.false_and, Bool.true_and, Bool.or_false, Bool.or_eq_true, decide_eq_true_eq, true_and, false_and, Bool.false_eq_true, if_false] at HI
             first
              | (rw [HI.out]; (repeat' split) <;> first | rfl | (exfalso; omega))
              | exact DS.back (HB.out (i + 1, 1) _ _ (by dsimp only; omega) ⟨by dsimp only; omega, by dsimp only; omega, by dsimp only; omega, by rw [HI.out, zdr hi']; (repeat' split) <;> first | rfl | (exfalso; omega)⟩ yS yS (fun b o e => by cases e)))
  · repeat' (first | refine yJT ?_ | refine zan [] yE trivial ?_ | fail)
    rw [hI2, zew hi]; rfl
end Go.XL
namespace Go.XL
open Go.Proofs
set_option maxRecDepth 100000
set_option maxHeartbeats 8000000
theorem ydg (s:GSet) (f:Form):PC Tryz.prog 71 [s.val,f.val] (I (zgw s f)):=by
 have hc:=ziq s
 by_cases h0:zbo s=0
 ·have ok:=zcb h0
  have hm:=ok.melds
  clear ok
  have hk:=yay s f h0
  have hn:=yax s
  rw[h0]at hc
  obtain⟨b,hb⟩: ∃b,b=decide (s.suits= [9,9,9]):=⟨_,rfl⟩
  rw[←hb]at hn
  have HB:=Box.mk hb
  clear hb
  by_cases hw:1≤f.what∧f.what≤6
  ·by_cases hwr:f.wrong s=true
   ·rw[zgw,if_neg (by omega),if_neg (by omega),if_pos hwr]
    have HW:Box (f.wrong s=true):=⟨hwr⟩
    clear hwr hk h0
    refine DC.of_run Tryz.func71 rfl Tryz.ntmps71 Tryz.results71 (by simp) (fun _ _=>?_);simp only[zag,zaj,go_sem,Nat.zero_add,Nat.reduceAdd]
    repeat' (first|refine yJ ?_|(with_reducible first|(refine zax yE ?_;first|refine zfd (fun _=>?_) (fun _=>?_)|refine zdz (fun _=>?_) (fun _=>?_)|refine zay ?_|refine zbl ?_)|(refine zbi yU yE ?_;first|refine zfz ?_|refine zix (fun _=>?_) (fun _=>?_)|refine zfb (fun _=>?_) (fun _=>?_)|refine zex (fun _=>?_) (fun _=>?_)|refine GG.run ?_|refine zcl ?_|refine zcv ?_|refine ycq (fun _=>?_) (fun _=>?_)|refine zpp (fun _=>?_) (fun _=>?_)))|refine zap inferInstance (hc) yR yT ?_|refine zap inferInstance (hn) yR yT ?_|(refine zao (t:=2) yU yE yU ?_;simp only[yS3])|(refine zao (t:=3) yU yE yU ?_;simp only[yS3])|refine zan [] yE trivial ?_|fail)
    all_goals first|rfl|(exfalso;have hb:=HB.out;have hwr:=HW.out;clear HB HW hc hn;grind [Form.wrong])
   ·have e:zgw s f=fkGo s.plain s.copies (decide (f.what=6)) f.kinds none 0:=by rw[zgw,if_neg (by omega),if_neg (by omega),if_neg hwr]
    have hk:=hk (by
     simp only[Form.wrong,Bool.or_eq_true,Bool.and_eq_true,decide_eq_true_eq,not_or,not_and,Bool.not_eq_true,Bool.not_eq_eq_eq_not,Bool.not_true,Bool.or_eq_false_iff,decide_eq_false_iff_not]at hwr
     omega)
    rw[e]
    clear e
    have HW:Box (¬f.wrong s=true):=⟨hwr⟩
    clear hwr h0
    obtain⟨what,kinds,again⟩:=f
    dsimp only at hw hk HW ⊢
    have hcase:what=1∨what=2∨what=3∨what=4∨what=5∨what=6:=by omega
    clear hw
    rcases hcase with rfl|rfl|rfl|rfl|rfl|rfl <;> cases again
    all_goals
     generalize fkGo s.plain s.copies _ kinds none 0=F at *
     refine DC.of_run Tryz.func71 rfl Tryz.ntmps71 Tryz.results71 (by simp) (fun _ _=>?_);simp only[zag,zaj,go_sem,Nat.zero_add,Nat.reduceAdd]
     repeat' (first|refine yJ ?_|(with_reducible first|(refine zax yE ?_;first|refine zfd (fun _=>?_) (fun _=>?_)|refine zdz (fun _=>?_) (fun _=>?_)|refine zay ?_|refine zbl ?_)|(refine zbi yU yE ?_;first|refine zfz ?_|refine zfb (fun _=>?_) (fun _=>?_)|refine GG.run ?_|refine zcl ?_|refine zcv ?_|refine ycq (fun _=>?_) (fun _=>?_)))|refine zap inferInstance (hc) yR yT ?_|refine zap inferInstance (hn) yR yT ?_|refine zap inferInstance (hk) yR yT ?_|(refine zao (t:=2) yU yE yU ?_;simp only[yS3])|(refine zao (t:=3) yU yE yU ?_;simp only[yS3])|refine zan [] yE trivial ?_|fail)
     all_goals first|rfl|(exfalso;have hb:=HB.out;have hwr:=HW.out;clear HB HW hc hn hk;grind [Form.wrong])
  ·rw[zgw,if_neg (by omega),if_pos hw]
   refine DC.of_run Tryz.func71 rfl Tryz.ntmps71 Tryz.results71 (by simp) (fun _ _=>?_);simp only[zag,zaj,go_sem,Nat.zero_add,Nat.reduceAdd]
   repeat' (first|refine yJ ?_|(with_reducible first|(refine zax yE ?_;first|refine zfd (fun _=>?_) (fun _=>?_)|refine zdz (fun _=>?_) (fun _=>?_)|refine zay ?_|refine zbl ?_)|(refine zbi yU yE ?_;first|refine zfz ?_|refine zix (fun _=>?_) (fun _=>?_)|refine zfb (fun _=>?_) (fun _=>?_)|refine zex (fun _=>?_) (fun _=>?_)|refine GG.run ?_|refine zcl ?_|refine zcv ?_|refine zpp (fun _=>?_) (fun _=>?_)))|refine zap inferInstance (hc) yR yT ?_|(refine zao (t:=2) yU yE yU ?_;simp only[yS3])|(refine zao (t:=3) yU yE yU ?_;simp only[yS3])|refine zan [] yE trivial ?_|fail)
   all_goals first|rfl|(exfalso;omega)
 ·rw[zgw,if_pos h0]
  refine DC.of_run Tryz.func71 rfl Tryz.ntmps71 Tryz.results71 (by simp) (fun _ _=>?_);simp only[zag,zaj,go_sem,Nat.zero_add,Nat.reduceAdd]
  repeat' (first|refine yJT ?_|refine zap inferInstance (hc) yR yT ?_|(refine zao (t:=2) yU yE yU ?_;simp only[yS3])|(refine zao (t:=3) yU yE yU ?_;simp only[yS3])|refine zan [] yE trivial ?_|fail)
  all_goals first|rfl|(exfalso;omega)
end Go.XL
namespace Go.XL
structure Th (b:Nat) (l:List V) (hv hv3:VH):Prop where
 blk: ∃cs T,hv b=some (.cells (List.toArray cs) T (0,0))∧RlL hv l cs
 ne: ∀j,j≠b→hv3 j=hv j
def Safe (b:Nat) (l:List V) (c:V):Prop:= ∀hv hv3,Th b l hv hv3→ ∀y,c.Rl hv y→c.Rl hv3 y
theorem Safe.v {b:Nat} {l:List V} (x:Value):Safe b l (.v x):=fun _ _ _ _ h=>by simp only[V.Rl]at h ⊢;exact h
theorem Safe.list {b:Nat} {l:List V} {hv hv3:VH} (t:Th b l hv hv3): ∀{c:List V} {ys:List Value},(∀v∈c,Safe b l v)→RlL hv c ys→RlL hv3 c ys
 | [],_,_,h=>h
 | v::r,_,hs,h=>by
  obtain⟨z,zs,rfl,h1,h2⟩:=h.cons
  simp only[RlL]
  exact⟨z,zs,rfl,hs v (List.mem_cons_self ..) _ _ t _ h1,Safe.list t (fun u hu=>hs u (List.mem_cons_of_mem _ hu)) h2⟩
end Go.XL
namespace Go.XL
open Go.Proofs
set_option maxRecDepth 100000
set_option maxHeartbeats 8000000
open Classical in
theorem OpS.lendG {v0:VH} {P:Program} {n:Nat} {E:VEnv} {S:Sto} {dst:Option Tmp} {ty:TypeId} {pos:String} {af:Array Edge} {ts:Array TypeId} {g:FuncId} {xs:Array Operand} {fn:Func} {S1 S2:Sto} {R:V→Sto→Prop} {l A B:List V} {b len cap sz T:Nat} {cl:List (List V)}
  (hf:FnOk P g fn) (he:evsV (evV E) xs.toList=some (A ++ .v (.slice (some ⟨b,0,none⟩) len cap)::B)) (hc:DCh v0 P g (A.map V.peek ++ .lst cl::B.map V.peek) S1 R)
  (hS:zae S b=some (.cells l T)) (hfree: ∀v∈l,v.free=true) (hlen:cl.length=len) (hsz: ∀c∈cl,c.length=sz) (hflat:cl.flatten=(l.take (len*sz)).map V.peek) (hcap:len≤cap∧cap≤maxLen)
  (h1: ∀j o,zae S1 j=some o→zae (delS b S) j=some o) (h2: ∀j o,zae S2 j=some o→zae (delS b S) j=some o∧zae S1 j=none)
  (hsR: ∀v S',R v S'→Safe b (l.take (len*sz)) v∧v.free=true∧ ∀j c T',zae S' j=some (.cells c T')→ ∀v∈c,Safe b (l.take (len*sz)) v)
  (hs2: ∀j c T',zae S2 j=some (.cells c T')→ ∀v∈c,Safe b (l.take (len*sz)) v) :
  OpS v0 P n ⟨dst, .call {callee := .value (.func g),args:=xs,argTypes:=ts},ty,pos,af,none⟩ E S (fun v E' S'=>E'=E∧ ∃S0,S'=(b, .cells l T)::(S0++S2)∧R v S0∧(∀j o,zae S0 j=some o→zae S2 j=none∧j≠b)):=by
 intro K D hv hold env a w hfl ha s
 obtain⟨ax,e5,e6⟩:=zft s.rl he
 obtain⟨o1,o2,cs,o3,o4,o5,o6⟩:=s.obj b _ hS
 have hpre:PreV hv (addB hv b (.cells (cs.take (len*sz)).toArray T (0,0))):=zgs (.inl o2)
 have hlt:=(Array.getElem?_eq_some_iff.1 o3).1
 have s1:St ⟨fun j=>K.B j∨j=b,w.heap,addB hv b (.cells (cs.take (len*sz)).toArray T (0,0)),K.kn.mono (s.vbase.1.trans hpre)⟩ (addB hv b (.cells (cs.take (len*sz)).toArray T (0,0))) (fun g=>if g=b then none else hold g) E (delS b S) env w.heap:=by
  refine⟨zhn s.pre o3 ⟨(cs.drop (len*sz)).toArray,by rw[List.append_toArray,List.take_append_drop]⟩,fun t v e=>?_,fun b' o e=>?_,fun g x e=>?_,⟨fun j hj=>?_,Nat.le_refl _,fun _ _=>rfl⟩,PreV.refl _,fun _ _=>rfl⟩
  ·obtain⟨y,q1,q2,q3⟩:=s.slot t v e
   refine⟨y,q1,V.Rl_mono hpre v y q2,q3.keep fun g ob a1 a2 a3=>?_⟩
   have hne:g≠b:=fun e=>by subst e;rw[o2]at a2;cases a2
   exact⟨rfl,zcn _ hne,by simp[hne,a1]⟩
  ·rw[zbz]at e
   split at e
   ·cases e
   ·rename_i hb
    obtain⟨r1,r2,r3⟩:=s.obj b' o e
    refine⟨fun h=>h.elim r1 hb,by rw[zcn _ hb];exact r2,Ob.keep r3 hpre rfl fun g i ob a1 a2 a3=>?_⟩
    have hne:g≠b:=fun e=>by subst e;rw[o2]at a2;cases a2
    exact⟨rfl,zcn _ hne,by simp[hne,a1]⟩
  ·have e':(if g=b then none else hold g)=some x:=e
   split at e'
   ·cases e'
   ·rename_i hne
    exact fun h=>h.elim (s.held g x e') hne
  ·rcases hj with hj|rfl
   ·exact Nat.lt_of_lt_of_le (s.base.1 j hj) s.base.2.1
   ·exact hlt
 obtain⟨K',hcl,s2,back⟩:=s1.call h1 h2
 have hargs:RlL (addB hv b (.cells (cs.take (len*sz)).toArray T (0,0))) (A.map V.peek ++ .lst cl::B.map V.peek) ax:=by
  have a7:=e6.take A.length
  have a8:=e6.drop A.length
  rw[List.take_left' rfl]at a7
  rw[List.drop_left' rfl]at a8
  obtain⟨z,zs',e1,a9,a10⟩:=a8.cons
  simp only[V.Rl]at a9;subst a9
  have hzs:ax=ax.take A.length ++ .slice (some ⟨b,0,none⟩) len cap::zs':=by rw[←e1,List.take_append_drop]
  have hC:RlC (addB hv b (.cells (cs.take (len*sz)).toArray T (0,0))) (some ⟨b,0,none⟩) 0 ((l.take (len*sz)).map V.peek):=zil (T:=T) (f:=(0,0)) (cs:=cs.take (len*sz)) (i:=0) ⟨#[],by simp[addB]⟩ rfl (zej (zcm hpre _ _ (o4.take _))) (fun u hu=>o5 u (List.mem_of_mem_take hu))
  have hlst:(V.lst cl).Rl (addB hv b (.cells (cs.take (len*sz)).toArray T (0,0))) (.slice (some ⟨b,0,none⟩) len cap):=by
   simp only[V.Rl]
   refine⟨_,cap,sz,by rw[hlen],by rw[hlen];exact hcap.1,hcap.2,hsz,RlE.of_flat ?_⟩
   rw[hflat]
   exact hC
  rw[hzs]
  refine(zej (zcm hpre _ _ a7)).app ?_
  simp only[RlL]
  exact⟨_,_,rfl,hlst,zej (zcm hpre _ _ a10)⟩
 have hfl':PreV v0 (addB hv b (.cells (cs.take (len*sz)).toArray T (0,0))):=hfl.trans hpre
 refine zgc (fs:= []) (cs:= []) (args:=ax) ha hf rfl e5 ?_
 refine(hc K' _ hcl w.heap _ hfl' (by simpa using hargs) s2 w rfl).mono fun e w' ⟨v,ev,hs,u,S',hv',hold',p1,p2,p3⟩=>?_
 obtain⟨hold2,q1,q2⟩:=back (d:=dst) p1 p2
 obtain⟨g1,g2,g3⟩:=hsR u S' p3
 have hb1:hv' b=some (.cells (cs.take (len*sz)).toArray T (0,0)):=by rw[q1.vbase.2 b (.inr rfl)];exact zeh ..
 have hb2:w'.heap[b]?=some (.cells cs.toArray T (0,0)):=by rw[q1.base.2.2 b (.inr rfl)];exact o3
 have m1:PreV hv (fun j=>if j=b then none else hv' j):=fun j o e=>by
  have hne:j≠b:=fun e1=>by subst e1;rw[o2]at e;cases e
  obtain⟨o',r1,r2⟩:=(hpre.trans p1) j o e
  exact⟨o',by simp[hne,r1],r2⟩
 have th:Th b (l.take (len*sz)) hv' (fun j=>if j=b then none else hv' j):=⟨⟨cs.take (len*sz),T,hb1,zcm (hpre.trans p1) _ _ (o4.take _)⟩,fun j hj=>by simp[hj]⟩
 have kO: ∀{x:Hd} {u:V} {z:Value},Own hv' w'.heap hold2 x u z→Own (fun j=>if j=b then none else hv' j) w'.heap hold2 x u z:=fun ho =>
  ho.keep fun g ob a1 a2 a3=>by
   have hne:g≠b:=fun e1=>q1.held g _ a1 (.inr e1)
   exact⟨rfl,by simp[hne],a1⟩
 refine⟨v,ev,hs,u,E,_,_,hold2,m1,⟨fun j o e=>?_,fun t x e=>?_,fun j o e=>?_,fun g x e h=>q1.held g x e (.inl h),⟨s.base.1,Nat.le_trans s.base.2.1 q1.base.2.1,fun j hj=>(q1.base.2.2 j (.inl hj)).trans (s.base.2.2 j hj)⟩,s.vbase.1.trans m1,fun j hj=>?_⟩,rfl,S',rfl,p3,fun j o e=>⟨q2 j o e,fun e1=>?_⟩⟩
 ·have e':(if j=b then none else hv' j)=some o:=e
  split at e'
  ·cases e'
  ·exact q1.pre j o e'
 ·obtain⟨y,r1,r2,r3⟩:=q1.slot t x e
  refine⟨y,r1,?_,kO r3⟩
  have old: ∀{t x y},zbr E t=some x→XL.look env t=some y→x.Rl (fun j=>if j=b then none else hv' j) y:=fun{t x y} e1 e2=>by
   obtain⟨y',f1,f2,_⟩:=s.slot t x e1
   rw[f1]at e2;cases e2
   exact V.Rl_mono m1 _ _ f2
  cases dst with
  | none=>exact old e r1
  | some d =>
   simp only[putV,zbr]at e
   simp only[XL.put,XL.look]at r1
   by_cases hd:d=t
   ·simp only[hd,if_true,Option.some.injEq]at e
    subst e
    exact g1 _ _ th _ r2
   ·rw[if_neg hd]at e r1
    exact old e r1
 ·simp only[zae]at e
  split at e
  ·rename_i hj;subst hj
   simp only[Option.some.injEq]at e;subst e
   exact⟨o1,by simp,cs,hb2,zcm m1 _ _ o4,o5,fun i c u hc hu=>V.free_Own (hfree c (List.mem_of_getElem? hc)) u⟩
  ·rename_i hj
   obtain⟨r1,r2,r3⟩:=q1.obj j o e
   have hj':j≠b:=fun h=>hj h.symm
   refine⟨fun h=>r1 (.inl h),by simp only[hj',if_false];exact r2,?_⟩
   cases o with
   | raw o=>exact r3
   | cells c T' =>
    obtain⟨cs',u1,u2,u3,u4⟩:=r3
    have hsafe: ∀v∈c,Safe b (l.take (len*sz)) v:=by
     rw[zbq]at e
     cases e1:zae S' j with
     | some o'=>rw[e1]at e;simp only[Option.some.injEq]at e;subst e;exact g3 j c T' e1
     | none=>rw[e1]at e;exact hs2 j c T' e
    exact⟨cs',u1,Safe.list th hsafe u2,u3,fun i c u hc hu=>kO (u4 i c u hc hu)⟩
 ·have hne:j≠b:=fun e=>by subst e;exact o1 hj
  simp only[hne,if_false]
  exact(q1.vbase.2 j (.inl hj)).trans ((zcn _ hne).trans (s.vbase.2 j hj))
 ·subst e1
  have:=(p2.obj j o e).2.1
  rw[hb1]at this;cases this
theorem zds : ∀L:List Int,(L.map cI).flatten=L.map I
 | []=>rfl
 | x::L=>by simp only[List.map_cons,List.flatten_cons,zds L];rfl
end Go.XL
namespace Go.XL
open Go.Proofs
def QC (P:Program) (f:FuncId) (args:List V) (bs:Nat) (x:Int) (R:V→Prop):Prop:=DC P f args [(bs,srcO x)] fun u S'=>R u∧ ∃x',S'= [(bs,srcO x')]
def QP (P:Program) (f:FuncId) (args:List V) (R:V→Prop):Prop:=DC P f args [] fun u _=>R u
section
variable {P:Program} {n:Nat} {r:Rr} {Q:VEnv→Sto→Prop} {k:List Fr} {E0 E:VEnv} {S S0 S1:Sto} {ops l:List Oper} {t:Nat} {dst:Option Tmp} {op:Op} {ty:TypeId} {pos:String} {af:Array Edge} {ts:Array TypeId}
theorem zkh {g:FuncId} {args:List V} {xs:Array Operand} {fn:Func} {bs:Nat} {x:Int} {R:V→Prop} (hf:FnOk P g fn) (hc:QC P g args bs x R) (hd:decide (t<n)=true) (he:(evsV (evV E) xs.toList).map (·.map V.peek)=some args) (hS:zae S bs=some (srcO x))
  (q: ∀u x',R u→DS P n r Q (.ops ops l::k) ((t,u)::E) ((bs,srcO x')::delS bs S)) :
  DS P n r Q (.ops ops (⟨some t, .call {callee := .value (.func g),args:=xs,argTypes:=ts},ty,pos,af,none⟩::l)::k) E S:=by
 refine DS.call (dst:=some t) [(bs,srcO x)] (delS bs S) hf hc hd he (zig hS).1 (zig hS).2 ?_
 rintro u S' ⟨h,x',rfl⟩ -
 exact q u x' h
theorem zhh {g:FuncId} {args:List V} {xs:Array Operand} {fn:Func} {R:V→Prop} (hf:FnOk P g fn) (hc:QP P g args R) (hd:decide (t<n)=true) (he:(evsV (evV E) xs.toList).map (·.map V.peek)=some args)
  (q: ∀u,R u→DS P n r Q (.ops ops l::k) ((t,u)::E) S) :
  DS P n r Q (.ops ops (⟨some t, .call {callee := .value (.func g),args:=xs,argTypes:=ts},ty,pos,af,none⟩::l)::k) E S:=by
 refine DS.call (dst:=some t) [] S hf hc hd he (fun _ _ e=>by cases e) (fun _ _ e=>⟨e,rfl⟩) ?_
 intro u S' h hdis
 exact zsr hdis (q u h)
theorem QC.of_sc {f:FuncId} {args:List V} {bs:Nat} {x x':Int} {v:V} {R:V→Prop} (h:SC P f args bs x v x') (hR:R v):QC P f args bs x R:=DC.mono h fun u S' ⟨e,e2⟩=>by subst e;exact⟨hR,x',e2⟩
end
theorem DC.of_peekR {P:Program} {f:FuncId} {args:List V} {S:Sto} {R:V→Sto→Prop} (h:DC P f args S fun u S'=>R u.peek S'):DC P f args S R :=
 fun v0 K hv hold hp xs hf ha hs=>(h v0 K hv hold hp xs hf ha hs).mono fun _ _ ⟨v,S',hv',hold',a,b,c⟩=>by
  refine⟨v.peek,S',hv',hold',a,⟨b.pre,fun t w e=>?_,b.obj,b.held,b.base,b.vbase⟩,c⟩
  simp only[zbr]at e
  split at e
  ·rename_i ht
   subst ht
   cases e
   obtain⟨y,e1,e2,_⟩:=b.slot 0 v (by simp[zbr])
   exact⟨y,e1,V.peek_Rl e2,V.free_Own (by cases v <;> first|rfl|(rename_i x;unfold V.peek;split <;> rfl)) y⟩
  ·cases e
theorem QP.of_peek {P:Program} {f:FuncId} {args:List V} {R:V→Prop} (h:DC P f args [] fun u _=>R u.peek):QP P f args R:=DC.of_peekR h
structure Bag (n:Nat) (c:Int) (l:List Int):Prop where
 len:l.length=n
 bd: ∀x∈l,0≤x∧x≤c
def KindsIn (n:Nat) (l:List Int):Prop:= ∀x∈l,0≤x∧x<n
theorem KindsIn.app {n:Nat} {a b:List Int} (h1:KindsIn n a) (h2:KindsIn n b):KindsIn n (a++b):=fun x hx=>(List.mem_append.1 hx).elim (h1 x) (h2 x)
theorem KindsIn.nil (n:Nat):KindsIn n []:=fun x hx=>by cases hx
theorem KindsIn.take {n:Nat} {a:List Int} (h:KindsIn n a) (i:Nat):KindsIn n (a.take i):=fun x hx=>h x (List.mem_of_mem_take hx)
theorem KindsIn.drop {n:Nat} {a:List Int} (h:KindsIn n a) (i:Nat):KindsIn n (a.drop i):=fun x hx=>h x (List.mem_of_mem_drop hx)
theorem Bag.mono {n:Nat} {c d:Int} {l:List Int} (h:Bag n c l) (hd:c≤d):Bag n d l:=⟨h.len,fun x hx=>by have:=h.bd x hx;omega⟩
theorem Bag.get {n:Nat} {c:Int} {l:List Int} (h:Bag n c l) {i:Nat} (hi:i<l.length):0≤l[i]∧l[i]≤c:=h.bd _ (List.getElem_mem hi)
theorem Bag.inc {n:Nat} {c:Int} {l:List Int} (h:Bag n c l) {i:Nat} (hi:i<l.length):Bag n (c+1) (l.set i (l[i]+1)):=⟨by rw[List.length_set,h.len],fun x hx=>by
 have h1:=h.get hi
 rcases List.mem_or_eq_of_mem_set hx with hx|rfl
 ·have:=h.bd x hx;omega
 ·omega⟩
theorem Bag.zero (n:Nat) {c:Int} (hc:0≤c):Bag n c (List.replicate n 0):=⟨List.length_replicate,fun x hx=>by rw[List.eq_of_mem_replicate hx];omega⟩
end Go.XL
namespace Go.XL
open Go.Proofs
set_option maxHeartbeats 4000000
section
variable {v0:VH} {P:Program} {n:Nat} {E:VEnv} {S:Sto} {dst:Option Tmp} {ty:TypeId} {pos:String} {af:Array Edge}
theorem OpS.mono {o:Oper} {R R':V→VEnv→Sto→Prop} (h:OpS v0 P n o E S R) (k: ∀u E' S',R u E' S'→R' u E' S'):OpS v0 P n o E S R':=fun K D hv hold env a w h1 h2 h3 =>
 (h K D hv hold env a w h1 h2 h3).mono fun _ _ ⟨hs,u,E',S',hv',hold',p,q,r⟩=>⟨hs,u,E',S',hv',hold',p,q,k _ _ _ r⟩
theorem yls {g:GR} {T t by_ e sz:Nat} {sx x:Operand} {vx:V} (hd:dst=some t) (ht:tel P T=some (e,sz,by_))
  (hs:evV E sx=some g.cell) (hok:g.Ok e sz S) (hx:evV E x=some vx) (hxl:zdw vx=some []) :
  OpS v0 P n ⟨dst, .call {callee := .builtin .append,args:= #[sx,x],argTypes:= #[T,T]},ty,pos,af,none⟩ E S (fun u E' S'=>E'=E∧u=g.cell∧S'=S):=by
 subst hd
 intro K D hv hold env a w hfl ha s
 obtain⟨yx,g3,g3'⟩:=s.rl _ _ hx
 have hxR:=zhx hxl g3'
 obtain⟨hu,i,hi,hisz,hiby⟩:=zie ht
 obtain⟨ao,c,sz',rfl,x1,x2,x3,x4⟩:=hxR
 simp only[List.length_nil]at g3
 have key: ∀y,g.cell.Rl hv y→ev env sx=some y→(Builtin.append_ #[T,T] ty #[y, .slice ao 0 c]).run P w = .ok y w→Yields P ⟨some t, .call {callee := .builtin .append,args:= #[sx,x],argTypes:= #[T,T]},ty,pos,af,none⟩ a w fun y' w'=>Same w w'∧ ∃u E' S' hv' hold',PreV hv hv'∧St K hv' hold' (putV E' (some t) u) S' (put env (some t) y') w'.heap∧(E'=E∧u=g.cell∧S'=S):=fun y h1 h2 hr=>by
  have hrun:(execOp a.eval ⟨some t, .call {callee := .builtin .append,args:= #[sx,x],argTypes:= #[T,T]},ty,pos,af,none⟩).run P w = .ok (.value y) w:=by
   simp[execOp,resolve,Go.invoke,builtin,ha.ev h2,ha.ev g3,hr]
  refine zcw hrun ⟨Same.refl w,g.cell,E,S,hv,hold,PreV.refl hv,s.put (some t) h1 fun u hu=>?_,rfl,rfl,rfl⟩
  obtain⟨l,blk⟩:=g
  cases blk <;> exact trivial
 obtain⟨y,g2,g2'⟩:=s.rl _ _ hs
 refine key y g2' g2 ?_
 obtain⟨l,blk⟩:=g
 cases blk with
 | none =>
  simp only[GR.cell,V.Rl]at g2';subst g2'
  cases ao <;> simp[Builtin.append_,run_underlying hu,sizeOf,typeInfo,hi,Builtin.lenOf,Builtin.firstCells,loadCells,loadCellsFrom]
 | some z =>
  obtain⟨b,cap,j⟩:=z
  simp only[GR.cell,V.Rl]at g2';subst g2'
  have hle:=hok.le
  cases ao <;> simp[Builtin.append_,run_underlying hu,sizeOf,typeInfo,hi,Builtin.lenOf,Builtin.firstCells,loadCells,loadCellsFrom,hle,storeCells]
theorem ylu {g:GR} {T t by_ e sz:Nat} {z:Value} {sx x:Operand} {vx:V} {ml:List (List V)} (hd:dst=some t) (ht:tel P T=some (e,sz,by_)) (hz:zcs P e=some z) (hzs:z.cells.size=sz) (hzo:zhy z.cells.toList=true) (hsz:0<sz)
  (hs:evV E sx=some g.cell) (hok:g.Ok e sz S) (hx:evV E x=some vx) (hxl:zdw vx=some ml) (hml: ∀c∈ml,c.length=sz) (hfit:g.l.length+ml.length≤2147483648∧by_≤65536) :
  OpS v0 P n ⟨dst, .call {callee := .builtin .append,args:= #[sx,x],argTypes:= #[T,T]},ty,pos,af,none⟩ E S
   (fun u E' S'=>E'=E∧ ∃g':GR,u=g'.cell∧g'.l=g.l++ml.map (·.map V.copy)∧g'.Ok e sz S'∧(∀b cap j,g'.blk=some (b,cap,j)→(∃cap j,g.blk=some (b,cap,j))∨zae S b=none) ∧
    ∀b,(∀cap j,g'.blk≠some (b,cap,j))→(∀cap j,g.blk≠some (b,cap,j))→zae S' b=zae S b):=by
 cases ml with
 | nil =>
  refine(yls hd ht hs hok hx hxl).mono ?_
  rintro u E' S' ⟨rfl,rfl,rfl⟩
  exact⟨rfl,g,rfl,by simp,hok,fun b cap j h => .inl ⟨cap,j,h⟩,fun _ _ _=>rfl⟩
 | cons c r =>
  refine(zed hd ht hz hzs hzo hsz hs hok hx hxl (by simp) hml hfit).mono ?_
  rintro u E' S' ⟨rfl,b',cap',junk,rfl,m1,m2,m3⟩
  exact⟨rfl,_,rfl,rfl,m1,fun b cap j h=>by cases h;exact m2,fun b h1 h2=>m3 b (fun h=>h1 cap' junk (by rw[h])) h2⟩
end
end Go.XL
namespace Go.XL
section
variable (P:Program) (n:Nat) (r:Rr) (Q:VEnv→Sto→Prop)
def DX (ops:List Oper) (S0:Sto) (l:List Oper) (k:List Fr) (E0 E:VEnv) (T1:Sto→Prop):Prop:= ∀K0 K D W hv0 hs a SPs,Bx r K0 K D→PreV r.v0 hv0 →
 (∃env,Agree D n env a∧ ∀t v,zbr E0 t=some v→ ∃y,look env t=some y∧v.Rl hv0 y)→Pre hv0 hs→(∀b o,zae S0 b=some o→hv0 b=none∧b<hs.size∧o.Rd hv0 hs b)→K.h0.size≤hs.size→(∃w1,Same W w1∧SPs noF w1.heap) →
 (∀F h1,SPs F h1→ ∃S1,T1 S1∧RunS P [] D n K hv0 hs S0 E S1 a F h1)→SW P ops.toArray (RdOf P [] hv0 hs S0) W (fun a' S'=> ∀w',S' noF w'.heap→Same W w'→ksem P n r K0 W Q k .normal a' w') l SPs a
end
section
variable {P:Program} {n:Nat} {r:Rr} {Q:VEnv→Sto→Prop} {k:List Fr} {E0 E:VEnv} {S0 S1:Sto} {T1:Sto→Prop} {ops l:List Oper} {dst:Option Tmp} {op:Op} {ty:TypeId} {pos:String} {af:Array Edge}
theorem RunS.after {o:Oper} {D:List Deferred} {K:Bs} {hv0:VH} {hs:Heap} {a:Act} {F:Nat→Prop} {v0:VH} {T:V→VEnv→Sto→Prop} {w:World} (hd:dok n o.dst=true) (ho:OpS v0 P n o E S1 T) (hfl:PreV v0 hv0) (h:RunS P [] D n K hv0 hs S0 E S1 a F w.heap) :
  Yields P o a w fun y w'=>Same w w'∧(∃v E' S',T v E' S'∧RunS P [] D n K hv0 hs S0 (putV E' o.dst v) S' (a.put o.dst y) F w'.heap)∧Kept F w.heap w'.heap:=by
 obtain⟨p1,p2,hv',hold,env',ha',s,p,f,g⟩:=h
 obtain⟨K',hc',s',hprot,hK1,hK2,back⟩:=s.frame fun b o e=>(g b o e).2.1
 refine(ho K' D hv' hc' env' a w (hfl.trans p) ha' s').mono fun y w' ⟨hsame,u,E2,S2,hv2,hold2,q1,q2,e1⟩=>?_
 obtain⟨hold3,t1,t2⟩:=back q1 q2
 have stay: ∀b,K'.B b→w'.heap[b]?=w.heap[b]?∧hv2 b=hv' b:=fun b hb=>⟨by rw[q2.base.2.2 b hb,hK1],by rw[q2.vbase.2 b hb,hK2]⟩
 have hFp: ∀b,F b→K'.B b:=fun b hb=>hprot b (p1 b hb).2 (f b hb).1 (by
  have:=(f b hb).2;rw[zbq]at this
  cases e:zae S1 b with
  | none=>rfl
  | some o=>rw[e]at this;cases this)
 have hSp: ∀b o,zae S0 b=some o→K'.B b:=fun b o e=>hprot b (Nat.lt_of_lt_of_le (g b o e).2.2 p2.1) (s.obj b o (by rw[zbq,(g b o e).2.1];exact e)).2.1 (g b o e).2.1
 have hsz:w.heap.size≤w'.heap.size:=by have:=q2.base.2.1;rwa [hK1]at this
 refine⟨hsame,⟨u,E2,S2,e1,fun b hb=>⟨(p1 b hb).1,Nat.lt_of_lt_of_le (p1 b hb).2 hsz⟩,⟨Nat.le_trans p2.1 hsz,MpOk.nil⟩,hv2,hold3,_,ha'.put' hd y,t1,p.trans q1,fun b hb=>?_,fun b o e=>?_⟩,fun b o hb eb _=>?_⟩
 ·refine⟨by rw[(stay b (hFp b hb)).2];exact(f b hb).1,?_⟩
  have hb2:=(f b hb).2
  rw[zbq]at hb2 ⊢
  cases e:zae S2 b with
  | some o=>exact absurd (hFp b hb) (q2.obj b o e).1
  | none =>
   cases e1:zae S1 b with
   | some o=>rw[e1]at hb2;cases hb2
   | none=>rw[e1]at hb2;exact hb2
 ·obtain⟨g1,g2,g3⟩:=g b o e
  exact⟨(stay b (hSp b o e)).1.trans g1,t2 b o e,g3⟩
 ·rw[(stay b (hFp b hb)).1];exact eb
theorem ymi {o:Oper} {T:V→VEnv→Sto→Prop} (hg:o.guard=none) (hc:zcr o=true) (hb:zec o.op=false) (hd:dok n o.dst=true) (ho:OpS r.v0 P n o E S1 T) {E':VEnv} (hT: ∀v E2 S',T v E2 S'→E2=E'∧ ∃x,v = .v x) (hdst: ∃td:Nat,o.dst=some td)
  (q: ∀x,DX P n r Q ops S0 l k (delO o.dst E0) (putV E' o.dst (.v x)) (T (.v x) E')):DD P n r Q ops S0 [] (o::l) k E0 E S1:=fun K0 K D W hv0 hs a SPs hbx hfl hE hp hS0 hz hl hR=>by
 show SW P ops.toArray _ W _ (o::l) SPs a
 unfold SW Front
 rw[if_pos (by simp[Region.wanted,hg]),if_pos hc]
 refine⟨fun _ y=>y,fun _ y=>fun F h1=> ∃v E' S',T v E' S'∧RunS P [] D n K hv0 hs S0 (putV E' o.dst v) S' (a.put o.dst y) F h1,?_,fun _ y ⟨w',hw',hT'⟩=>?_⟩
 ·unfold Spec
  rw[if_neg (by simp[hb])]
  have G:=fun v E' S' y=>RunS.good P [] D n K hv0 hs S0 (putV E' o.dst v) S' (a.put o.dst y)
  refine⟨rfl,_,rfl,fun y=>⟨fun F h ⟨v,E',S',_,h2⟩=>(G v E' S' y).ext F h h2,fun F h ob ⟨v,E',S',h1,h2⟩=>⟨v,E',S',h1,(G v E' S' y).push F h ob h2⟩,fun F F' h hF ⟨v,E',S',h1,h2⟩=>⟨v,E',S',h1,(G v E' S' y).less F F' h hF h2⟩⟩,fun w F hF hw=>?_⟩
  exact RunS.after hd ho hfl (hR F w.heap hF)
 ·refine q y K0 K D W hv0 hs _ _ hbx hfl (zox hE hd y) hp hS0 hz ⟨w',hw',hT'⟩ fun F h1 ⟨v,E2,S',t1,t2⟩=>?_
  obtain⟨rfl,x,rfl⟩:=hT v E2 S' t1
  obtain⟨td,htd⟩:=hdst
  have hxy:x=y:=by
   obtain⟨_,_,hv',hold,env',ha',s,_⟩:=t2
   obtain⟨y',e1,e2,_⟩:=s.slot td (.v x) (by rw[htd];simp[putV,zbr])
   simp only[V.Rl]at e2
   have h1:=ha'.look td y' e1
   have hlt:td<n:=by rw[htd]at hd;simpa [dok] using hd
   rw[htd]at h1 ha'
   have hsz:=ha'.size
   simp only[Act.put]at h1 hsz
   rw[Array.getD_eq_getD_getElem?]at h1
   rw[Array.size_setIfInBounds]at hsz
   rw[Array.getElem?_setIfInBounds_self_of_lt (by omega)]at h1
   simp only[Option.getD_some]at h1
   rw[h1,e2]
  subst hxy
  exact⟨S',t1,t2⟩
theorem ymk {t:Nat} {ts:Array TypeId} {g:FuncId} {args:List V} {xs:Array Operand} {fn:Func} {R:V→Sto→Prop} (hf:FnOk P g fn) (hc:DC P g args [] R) (hR: ∀v S',R v S'→ ∃x,v = .v x) (hd:decide (t<n)=true) (he:(evsV (evV E) xs.toList).map (·.map V.peek)=some args)
  (q: ∀x,DX P n r Q ops S0 l k (delV t E0) ((t, .v x)::E) (R (.v x))):DD P n r Q ops S0 [] (⟨some t, .call {callee := .value (.func g),args:=xs,argTypes:=ts},ty,pos,af,none⟩::l) k E0 E []:=by
 rw[Option.map_eq_some_iff]at he
 obtain⟨ws,e1,e2⟩:=he
 refine ymi (T:=fun u E' S'=>E'=E∧R u S') rfl rfl rfl hd ?_ (E':=E) (fun v E2 S' h=>⟨h.1,hR v S' h.2⟩) ⟨t,rfl⟩ fun x=>?_
 ·refine OpS.mono (OpS.call (fs:= []) (cs:= []) hf rfl e1 (S1:= []) (S2:= []) (R:=R) (by simpa [e2] using hc _) (fun _ _ e=>by cases e) (fun _ _ e=>by cases e)) ?_
  rintro u E' S' ⟨rfl,S2,rfl,h1,-⟩
  exact⟨rfl,by rw[List.append_nil];exact h1⟩
 ·intro K0 K D W hv0 hs a SPs h1 h2 h3 h4 h5 h6 h7 h8
  exact q x K0 K D W hv0 hs a SPs h1 h2 h3 h4 h5 h6 h7 fun F h hF=>let ⟨S1,q1,q2⟩:=h8 F h hF;⟨S1,q1.2,q2⟩
theorem DX.flt {v:V} (hs1:zjg op=false) (hh:zty op=false) (hd:dok n dst=true) (hv:dopV P S0 (evV E0) op=some v) (q:DX P n r Q ops S0 l k (putV E0 dst v) (putV E dst v) T1) :
  DX P n r Q ops S0 (⟨dst,op,ty,pos,af,none⟩::l) k E0 E T1:=fun K0 K D W hv0 hs a SPs hbx hfl hE hp hS0 hz hl hR=>by
 obtain⟨env,ha,hE'⟩:=hE
 have rl:RlO hv0 (evV E0) (ev env):=by
  intro x u e
  cases x with
  | tmp t=>exact hE' t u e
  | const c=>simp only[evV,Option.some.injEq]at e;subst e;exact⟨c,rfl,V.Rl_v⟩
  | global g=>simp only[evV,Option.some.injEq]at e;subst e;exact⟨_,rfl,yjn (r.kn.mono hfl) g⟩
  | func g=>simp only[evV,Option.some.injEq]at e;subst e;exact⟨_,rfl,by simp only[V.Rl];exact⟨[],[],rfl,by simp[RlL],by simp[RlL]⟩⟩
 have hpl:=ztr (S0:=S0) hp fun b o e=>(hS0 b o e).1
 obtain⟨y,h2,h3⟩:=ziv (h:=least hv0 hs S0) hpl (fun b o e=>by
  obtain⟨_,hlt,hr⟩:=hS0 b o e
  cases o with
  | cells cl T =>
   obtain⟨cs,q1,q2⟩:=hr
   exact⟨cs,by rw[zsa e hlt];exact q1,q2⟩
  | raw o=>exact(zsa e hlt).trans hr) rl hv
 show SW P ops.toArray _ W _ (_::l) SPs a
 unfold SW Front
 rw[if_pos (by simp[Region.wanted]),if_neg (by simp[zcr,hs1,hh])]
 refine⟨y, .inl fun w' hw'=>zhe ha (zzm (zyf hw') h2),?_⟩
 refine q K0 K D W hv0 hs _ SPs hbx hfl (zmu ⟨env,ha,hE'⟩ hd h3) hp hS0 hz hl fun F h1 hF=>?_
 obtain⟨S1,t1,p1,p2,hv',hold,env',ha',s,p,f,g⟩:=hR F h1 hF
 exact⟨S1,t1,p1,p2,hv',hold,_,ha'.put' hd y,s.put dst (V.Rl_mono p v y h3) fun _ _=>V.free_Own (zlo hv) y,p,f,g⟩
end
end Go.XL
namespace Go.XL
section
variable {P:Program} {ops:Array Oper} {Rd:Heap→Prop} {W:World}
def USP (I:SP→Prop):SP:=fun F h=> ∃S,I S∧S F h
theorem USP.good {I:SP→Prop} (h: ∀S,I S→Good Rd S):Good Rd (USP I):=⟨fun F hp ⟨S,i,s⟩=>(h S i).ext F hp s,fun F hp o ⟨S,i,s⟩=>⟨S,i,(h S i).push F hp o s⟩,fun F F' hp hF ⟨S,i,s⟩=>⟨S,i,(h S i).less F F' hp hF s⟩⟩
theorem SW.union {K:Act→SP→Prop} (hK: ∀a I,(∀S,I S→K a S)→K a (USP I)): ∀(l:List Oper),(∀o∈l,late ops o=false)→ ∀(a:Act) (I:SP→Prop),(∃S,I S)→(∀S,I S→Live Rd W S∧SW P ops Rd W K l S a)→SW P ops Rd W K l (USP I) a
 | [],_,a,I,_,h=>hK a I fun S i=>(h S i).2
 | o::l,hl,a,I,⟨S0,i0⟩,h=>by
  have ih:=SW.union hK l fun o' ho=>hl o' (List.mem_cons_of_mem _ ho)
  have live: ∀S' F hp,Good Rd S'→S' F hp→ ∃w:World,Same W w∧S' noF w.heap:=fun S' F hp g s=>⟨{W with heap:=hp},by simp[Same],g.less F noF hp (fun b hb=>hb.elim) s⟩
  have h0:=(h S0 i0).2
  unfold SW Front at h0 ⊢
  by_cases hw:Region.wanted o (yielded ops a.tmps)=true
  ·rw[if_pos hw]at h0 ⊢
   by_cases hc:zcr o=true
   ·rw[if_pos hc]at h0 ⊢
    have hS: ∀S,I S→ ∃val T,Spec P Rd W o S a val T∧ ∀u v,(∃w,Same W w∧T u v noF w.heap)→SW P ops Rd W K l (T u v) (a.put o.dst (val u v)):=fun S i=>by
     have:=(h S i).2
     unfold SW Front at this
     rw[if_pos hw,if_pos hc]at this
     exact this
    by_cases hb:zec o.op=true
    ·obtain⟨val,T,h1,h2⟩:=h0
     unfold Spec at h1
     rw[if_pos hb]at h1
     obtain⟨ob,vb,q1,q2,rfl,rfl⟩:=h1
     refine⟨fun u _=>vb u,fun u _=>zez (USP I) u ob,?_,fun u v hex=>?_⟩
     ·unfold Spec;rw[if_pos hb];exact⟨ob,vb,q1,q2,rfl,rfl⟩
     ·have e:zez (USP I) u ob=USP (fun S'=> ∃S,I S∧S'=zez S u ob∧ ∃w,Same W w∧S' noF w.heap):=by
       funext F hp
       refine propext ⟨fun⟨⟨S,i,s⟩,s2,s3⟩=>?_,fun⟨S',⟨S,i,e,_⟩,s⟩=>?_⟩
       ·exact⟨zez S u ob,⟨S,i,rfl,live _ F hp ((h S i).1.2.born u ob) ⟨s,s2,s3⟩⟩,s,s2,s3⟩
       ·subst e;exact⟨⟨S,i,s.1⟩,s.2.1,s.2.2⟩
      dsimp only at hex ⊢
      rw[e]at hex ⊢
      obtain⟨w,_,S',i',_⟩:=hex
      refine ih _ _ ⟨S',i'⟩ fun S'' ⟨S,i,e1,hx⟩=>?_
      obtain⟨val',T',h1',h2'⟩:=hS S i
      unfold Spec at h1'
      rw[if_pos hb]at h1'
      obtain⟨ob',vb',p1,p2,rfl,rfl⟩:=h1'
      have key: ∀w:World,vb' w.heap.size=vb w.heap.size∧ob'=ob:=fun w=>by
       have e2:=(q2 w).symm.trans (p2 w)
       simp only[Result.ok.injEq,Next.value.injEq,World.mk.injEq,Array.push_eq_push]at e2
       exact⟨e2.1.symm,by have:=e2.2;simp at this;exact this.symm⟩
      have k1:=(key {W with heap:=Array.replicate u ob}).1
      have k2:=(key W).2
      simp only[Array.size_replicate]at k1
      subst k2
      subst e1
      have:=h2' u v hx
      dsimp only at this
      rw[k1]at this
      exact⟨⟨hx,(h S i).1.2.born u ob'⟩,this⟩
    ·let IV:Value→SP→Prop:=fun v S'=> ∃(S:SP) (T':Value→SP),I S∧(∀v,Good Rd (T' v))∧(∀v,(∃w,Same W w∧T' v noF w.heap)→SW P ops Rd W K l (T' v) (a.put o.dst v))∧S'=T' v∧ ∃w,Same W w∧S' noF w.heap
     refine⟨fun _ v=>v,fun _ v=>USP (IV v),?_,fun u v ⟨w,hsw,S',i',_⟩=>?_⟩
     ·unfold Spec;rw[if_neg hb]
      refine⟨rfl,fun v=>USP (IV v),rfl,fun v=>USP.good fun S' ⟨S,T',_,hg,_,e,_⟩=>e▸hg v,fun w F ⟨S,i,s⟩ hsw=>?_⟩
      obtain⟨val',T',h1',h2'⟩:=hS S i
      unfold Spec at h1'
      rw[if_neg hb]at h1'
      obtain⟨rfl,T2,rfl,g1,g2⟩:=h1'
      refine(g2 w F s hsw).mono fun v w' ⟨e1,e2,e3⟩=>⟨e1,⟨T2 v,⟨S,T2,i,g1,fun v hx=>h2' 0 v hx,rfl,live _ F w'.heap (g1 v) e2⟩,e2⟩,e3⟩
     ·refine ih _ _ ⟨S',i'⟩ fun S'' ⟨S,T',i,hg,hk,e,hx⟩=>?_
      subst e
      exact⟨⟨hx,hg v⟩,hk v hx⟩
   ·rw[if_neg hc]at h0 ⊢
    have hlo:=hl o (List.mem_cons_self ..)
    obtain⟨v,hv,_⟩:=h0
    have hv:=hv.resolve_right fun x=>by rw[hlo]at x;exact absurd x.1 (by decide)
    refine⟨v, .inl hv,ih _ _ ⟨S0,i0⟩ fun S i=>?_⟩
    have:=(h S i).2
    unfold SW Front at this
    rw[if_pos hw,if_neg hc]at this
    obtain⟨v',hv',hk⟩:=this
    have hv':=hv'.resolve_right fun x=>by rw[hlo]at x;exact absurd x.1 (by decide)
    obtain⟨⟨w,hsw,s⟩,g⟩:=(h S i).1
    have hr:=g.ext _ _ s
    have e:=(hv w hr).symm.trans (hv' w hr)
    simp only[Result.ok.injEq,Next.value.injEq,and_true]at e
    rw[e]
    exact⟨(h S i).1,hk⟩
  ·rw[if_neg hw]at h0 ⊢
   refine ih _ _ ⟨S0,i0⟩ fun S i=>?_
   have:=(h S i).2
   unfold SW Front at this
   rw[if_neg hw]at this
   exact⟨(h S i).1,this⟩
end
section
variable {P:Program} {n:Nat} {r:Rr} {Q:VEnv→Sto→Prop} {k:List Fr} {E0 E:VEnv} {S0 S1:Sto} {ops l:List Oper} {dst:Option Tmp} {op:Op} {ty:TypeId} {pos:String} {af:Array Edge}
theorem yam {o:Oper} {T:V→VEnv→Sto→Prop} (hg:o.guard=none) (hc:zcr o=true) (hb:zec o.op=false) (hd:dok n o.dst=true) (hlate: ∀o∈l,XL.late ops.toArray o=false) (ho:OpS r.v0 P n o E S1 T)
  (q: ∀v E' S',T v E' S'→DD P n r Q ops S0 [] l k (delO o.dst E0) (putV E' o.dst v) S'):DD P n r Q ops S0 [] (o::l) k E0 E S1:=fun K0 K D W hv0 hs a SPs hbx hfl hE hp hS0 hz hl hR=>by
 show SW P ops.toArray _ W _ (o::l) SPs a
 unfold SW Front
 rw[if_pos (by simp[Region.wanted,hg]),if_pos hc]
 let IV:Value→SP→Prop:=fun y S=> ∃v E' S',T v E' S'∧S=RunS P [] D n K hv0 hs S0 (putV E' o.dst v) S' (a.put o.dst y)∧ ∃w,Same W w∧S noF w.heap
 have gd: ∀y S,IV y S→Good (RdOf P [] hv0 hs S0) S:=fun y S ⟨v,E',S',_,e,_⟩=>e▸RunS.good P [] D n K hv0 hs S0 (putV E' o.dst v) S' (a.put o.dst y)
 refine⟨fun _ y=>y,fun _ y=>USP (IV y),?_,fun _ y ⟨w',hw',S,hi,hT'⟩=>?_⟩
 ·unfold Spec
  rw[if_neg (by simp[hb])]
  refine⟨rfl,fun y=>USP (IV y),rfl,fun y=>USP.good (gd y),fun w F hF hw=>?_⟩
  refine(RunS.after hd ho hfl (hR F w.heap hF)).mono ?_
  rintro y w' ⟨g1,⟨v,E',S',t1,t2⟩,g3⟩
  refine⟨g1,⟨_,⟨v,E',S',t1,rfl,w',hw.trans g1,?_⟩,t2⟩,g3⟩
  exact(RunS.good P [] D n K hv0 hs S0 (putV E' o.dst v) S' (a.put o.dst y)).less F noF _ (fun b hb=>hb.elim) t2
 ·refine SW.union (fun a' I hI w' ⟨S,i,s⟩ hw=>hI S i w' s hw) l hlate _ _ ⟨S,hi⟩ fun S2 i2=>?_
  have g2:=gd y S2 i2
  obtain⟨v,E',S',t1,rfl,hx⟩:=i2
  exact⟨⟨hx,g2⟩,q v E' S' t1 K0 K D W hv0 hs _ _ hbx hfl (zox hE hd y) hp hS0 hz hx fun F h1 h=>h⟩
theorem zii {t:Nat} {ts:Array TypeId} {g:FuncId} {args:List V} {xs:Array Operand} {fn:Func} {R:V→Sto→Prop} (Sa Sb:Sto) (hf:FnOk P g fn) (hc:DC P g args Sa R) (hd:decide (t<n)=true) (he:(evsV (evV E) xs.toList).map (·.map V.peek)=some args)
  (h1: ∀b o,zae Sa b=some o→zae S1 b=some o) (h2: ∀b o,zae Sb b=some o→zae S1 b=some o∧zae Sa b=none) (hlate: ∀o∈l,XL.late ops.toArray o=false)
  (q: ∀v S',R v S'→(∀b o,zae S' b=some o→zae Sb b=none)→DD P n r Q ops S0 [] l k (delV t E0) ((t,v)::E) (S'++Sb)):DD P n r Q ops S0 [] (⟨some t, .call {callee := .value (.func g),args:=xs,argTypes:=ts},ty,pos,af,none⟩::l) k E0 E S1:=by
 rw[Option.map_eq_some_iff]at he
 obtain⟨ws,e1,e2⟩:=he
 refine yam (T:=fun u E' S'=>E'=E∧ ∃S2,S'=S2++Sb∧R u S2∧ ∀b o,zae S2 b=some o→zae Sb b=none) rfl rfl rfl hd hlate ?_ ?_
 ·refine OpS.mono (OpS.call (fs:= []) (cs:= []) hf rfl e1 (S1:=Sa) (S2:=Sb) (R:=R) (by simpa [e2] using hc _) h1 h2) ?_
  rintro u E' S' ⟨rfl,S2,rfl,h3,h4⟩
  exact⟨rfl,S2,rfl,h3,h4⟩
 ·rintro v E' S' ⟨rfl,S2,rfl,h3,h4⟩
  exact q v S2 h3 h4
end
end Go.XL
namespace Go.XL
section
variable {P:Program} {n:Nat} {r:Rr} {Q:VEnv→Sto→Prop} {k:List Fr} {E:VEnv} {S:Sto}
theorem zxd {x:Code} (F:VEnv) (T:Sto) (h1:DS P n r Q (.code x :: .back (fun E' S'=>subV F E'∧subS T S')::k) E S) (h2:DS P n r Q k F T):DS P n r Q (.code x::k) E S:=fun K W a w hs hw=>by
 refine wpIn_mono (h1 K W a w hs hw) fun e a2 w2 t=>?_
 cases e with
 | normal=>obtain⟨E3,S3,q1,q2,q3,q4⟩:=t;exact yhl q3 q4 h2 K W a2 w2 q1 q2
 | _=>exact t
theorem yai {α:Type} {x:Code} (F:α→VEnv) (T:α→Sto) (I:α→Prop) (h1:DS P n r Q (.code x :: .back (fun E' S'=> ∃y,I y∧subV (F y) E'∧ ∀b o,zae (T y) b=some o→zae S' b=some o)::k) E S) (h2: ∀y,I y→DS P n r Q k (F y) (T y)):DS P n r Q (.code x::k) E S:=fun K W a w hs hw=>by
 refine wpIn_mono (h1 K W a w hs hw) fun e a2 w2 t=>?_
 cases e with
 | normal=>obtain⟨E3,S3,q1,q2,y,hy,q3,q4⟩:=t;exact zde (zem q3) q4 (h2 y hy) K W a2 w2 q1 q2
 | _=>exact t
end
end Go.XL
namespace Go.XL
open Go.Proofs
set_option maxRecDepth 100000
set_option maxHeartbeats 8000000
structure Grp where
 what:Int
 kind:Int
 open_:Bool
def Grp.cells (x:Grp):List V:= [I x.what,I x.kind,Bo x.open_]
@[go_sem] theorem Grp.cells_eq (x:Grp):x.cells= [I x.what,I x.kind,Bo x.open_]:=rfl
theorem Grp.len (x:Grp):x.cells.length=3:=rfl
abbrev Grp.val (x:Grp):V := .agg x.cells
abbrev zhl (l:List Grp):V := .lst (l.map Grp.cells)
structure Hnd where
 bag:List Int
 melds:List Grp
def Hnd.cells (x:Hnd):List V:= [ints x.bag,zhl x.melds]
@[go_sem] theorem Hnd.cells_eq (x:Hnd):x.cells= [ints x.bag,zhl x.melds]:=rfl
abbrev Hnd.val (x:Hnd):V := .agg x.cells
def incB (l:List Int) (k:Int):List Int:=l.set k.toNat (l.getD k.toNat 0+1)
def putB (l:List Int) (ks:List Int):List Int:=ks.foldl incB l
theorem zno (l:List Int) (k:Int):(incB l k).length=l.length:=by rw[incB,List.length_set]
theorem zos {l:List Int} {k:Int} (h:k.toNat<l.length):incB l k=l.set k.toNat (l[k.toNat]+1):=by
 rw[incB,List.getD_eq_getElem?_getD,List.getElem?_eq_getElem h];rfl
theorem Bag.incB {n:Nat} {c:Int} {l:List Int} (h:Bag n c l) {k:Int} (hk:0≤k∧k<n):Bag n (c+1) (incB l k):=by
 have:=h.len
 rw[zos (by omega)]
 exact h.inc _
theorem Bag.putB {n:Nat} {c:Int}: ∀{ks l:List Int},Bag n c l→KindsIn n ks→Bag n (c+ks.length) (putB l ks)
 | [],l,h,_=>by simpa [XL.putB] using h
 | k::ks,l,h,hk=>by
  have h1:=Bag.putB (ks:=ks) (h.incB (hk k (List.mem_cons_self ..))) (fun x hx=>hk x (List.mem_cons_of_mem _ hx))
  have e:XL.putB l (k::ks)=XL.putB (XL.incB l k) ks:=rfl
  rw[e,List.length_cons]
  exact h1.mono (by omega)
theorem zoc {l ks:List Int} {i:Nat} (hi:i<ks.length):putB l (ks.take (i+1))=incB (putB l (ks.take i)) ks[i]:=by
 rw[putB,List.take_succ_eq_append_getElem hi,List.foldl_append];rfl
theorem yqf (b cap T:Nat) (n:Nat) (c:Int) (l ks:List Int) (hl:Bag n c l) (hk:KindsIn n ks) (hc:0≤c∧c≤1000000) (hn:n≤1000) (hks:ks.length≤1000) :
  DC Tryz.prog 99 [.v (.slice (some ⟨b,0,none⟩) n cap),ints ks] [(b, .cells (l.map fun x=>I x) 3)] (fun u S'=>u = .tup []∧S'= [(b, .cells ((putB l ks).map fun x=>I x) 3)]):=by
 refine DC.of_run Tryz.func99 rfl Tryz.ntmps99 Tryz.results99 (by simp) (fun _ _=>?_);simp only[zag,zaj,go_sem,Nat.zero_add,Nat.reduceAdd]
 repeat' (first|refine yJ ?_|fail)
 refine zbn [0,1] yN (fun(y:Nat)=> [(4,I y)]) (fun(y:Nat)=> [(b, .cells ((putB l (ks.take y)).map fun x=>I x) 3)]) (fun(y:Nat)=>y≤ks.length) (fun(y:Nat)=>ks.length-y) 0 yS (fun b o e=>by exact e) (Nat.zero_le _) (fun y B hI hB=>?_);try dsimp only at hI hB;simp only[zad,zaf]
 have hb:=hl.putB (ks:=ks.take y) (fun x hx=>hk x (List.mem_of_mem_take hx))
 have hlt:=List.length_take_le y ks
 by_cases hi:(y:Int)<(ks.length:Int)
 ·have hi':y<ks.length:=by omega
  have e1:=zoc (l:=l) hi'
  have hk1:=hk _ (List.getElem_mem hi')
  generalize putB l (ks.take y)=m at *
  obtain⟨k,hkk⟩: ∃k:Nat,ks[y]=k:=⟨ks[y].toNat,by omega⟩
  rw[hkk]at e1 hk1
  have hml:=hb.len
  have hkm:k<m.length:=by omega
  have hmk:=hb.get hkm
  rw[zos (by omega)]at e1
  simp only[Int.toNat_natCast]at e1
  have HB:=Box.mk (And.intro hB (And.intro hb e1))
  clear hB hb e1
  repeat' (first|refine yJT ?_|(refine DS.store yR yE yE yE yE yU yQ ?_;simp only[yS1];try simp only[yS2,Nat.reduceEqDiff,↓reduceIte])|fail)
  simp only[setS,↓reduceIte]
  rw[show(List.map (fun x=>I x) m).set k (V.v (Value.int IntKind.i64 (m[k]+1)))=(m.set k (m[k]+1)).map (fun x=>I x) by rw[List.map_set]]
  refine DS.back (HB.out.1 (y+1) _ _ (by omega) (by omega) yS yS (fun d o e=>by rw[HB.out.2.2]at e;exact e))
 ·have hi': ¬y<ks.length:=by omega
  have e1:ks.take y=ks:=List.take_of_length_le (by omega)
  repeat' (first|refine yJT ?_|fail)
  rw[e1]
  exact yhm yG ⟨rfl,rfl⟩
theorem zjq (b cap:Nat) (l:List Int) (hb: ∀x∈l,-1000000000000≤x∧x≤1000000000000) (hl:l.length≤1000):DC Tryz.prog 17 [.v (.slice (some ⟨b,0,none⟩) l.length cap)] [(b, .cells (l.map fun x=>I x) 3)] (fun u S'=>u=I (sumI l)∧S'= [(b, .cells (l.map fun x=>I x) 3)]):=by
 have ht: ∀i:Nat,-(i*1000000000000:Int)≤sumI (l.take i)∧sumI (l.take i)≤i*1000000000000:=fun i=>by
  have h1:=zhj (l:=l.take i) (B:=1000000000000) fun x hx=>hb x (List.mem_of_mem_take hx)
  have h2:(l.take i).length≤i:=List.length_take_le ..
  omega
 refine DC.of_run Tryz.func17 rfl Tryz.ntmps17 Tryz.results17 (by simp) (fun _ _=>?_);simp only[zag,zaj,go_sem,Nat.zero_add,Nat.reduceAdd]
 repeat' (first|refine yJ ?_|fail)
 refine zbp [0] yN (fun(z:Nat×Int)=> [(3,I z.2),(4,I z.1)]) (fun(z:Nat×Int)=>z.1≤l.length∧z.2=sumI (l.take z.1)) (fun(z:Nat×Int)=>l.length-z.1) (0,0) yS ⟨Nat.zero_le _,by simp[sumI]⟩ (fun z B hI hB=>?_);try dsimp only at hI hB;simp only[zad,zaf]
 have HB:=Box.mk hB
 clear hB
 obtain⟨i,kk⟩:=z
 dsimp only at hI ⊢
 obtain⟨hI,hI1⟩:=hI
 have hti:=ht i
 have H1:=Box.mk (And.intro hI1 ht)
 rw[←hI1]at hti
 clear hI1 ht
 by_cases hi:(i:Int)<(l.length:Int)
 ·have hi':i<l.length:=by omega
  have hbi:=hb _ (List.getElem_mem hi')
  have Hb:=Box.mk hb
  clear hb
  repeat' (first|refine yJT ?_|fail)
  exact DS.back (HB.out (i+1,kk+l[i]) _ _ (by dsimp only;omega) ⟨by dsimp only;omega,by dsimp only;rw[zel hi',H1.out.1]⟩ yS yS (fun b o e=>by exact e))
 ·have Hb:=Box.mk hb
  clear hb
  repeat' (first|refine yJT ?_|fail)
  refine zbh yG ⟨?_,rfl⟩
  rw[H1.out.1,List.take_of_length_le (by omega)];rfl
section
variable {P:Program} {n:Nat} {r:Rr} {Q:VEnv→Sto→Prop} {k:List Fr} {E:VEnv} {S:Sto} {ops l:List Oper} {ty:TypeId} {pos:String} {af:Array Edge}
theorem yhv {T t e by_ b0:Nat} {sx x:Operand} {vx:V} {L:List Int} (hd:decide (t<n)=true) (ht:tel P T=some (e,1,by_)) (hz:zcs P e=some (.int .i64 0)) (hs:evV E sx=some (.v (.slice (some ⟨b0,0,none⟩) 0 0))) (hS:zae S b0=some (.cells [] e))
  (hx:evV E x=some vx) (hxl:zdw vx=some (L.map cI)) (h0:0<L.length) (hl:L.length≤1000000∧by_≤65536)
  (q: ∀b' cap' j',L.length≤cap'∧cap'≤maxLen→L.length+j'.length=cap'→(∀v∈j',v.free=true)→zae (delS b0 S) b'=none→DS P n r Q (.ops ops l::k) ((t, .v (.slice (some ⟨b',0,none⟩) L.length cap'))::E) ((b', .cells ((L.map fun x=>I x)++j') e)::delS b0 S)) :
  DS P n r Q (.ops ops (⟨some t, .call {callee := .builtin .append,args:= #[sx,x],argTypes:= #[T,T]},ty,pos,af,none⟩::l)::k) E S:=by
 refine zch rfl rfl hd (zed (g:=⟨[],some (b0,0,[])⟩) (ml:=L.map cI) rfl ht hz yR yR (by decide) hs ⟨by simpa using hS,by simp,Nat.le_refl _,by decide,by simp,by simp,by simp⟩ hx hxl (by simpa using h0) (by intro c hc;obtain⟨y,-,rfl⟩:=List.mem_map.1 hc;rfl) ⟨by simp only[List.length_map,List.length_nil];omega,hl.2⟩) (fun u2 E' S4 hu2=>?_)
 obtain⟨rfl,b',cap',junk',rfl,m1,m2,m3⟩:=hu2
 have e0:([]:List (List V))++(L.map cI).map (fun x=>List.map V.copy x)=L.map cI:=by rw[List.nil_append,List.map_map];rfl
 rw[e0]at m1 ⊢
 have k1:=m1.look
 have k4:=m1.len
 have k2:=m1.le
 rw[zds]at k1
 rw[List.length_map]at k4 k2
 have hb':zae (delS b0 S) b'=none:=by
  rw[zbz]
  split
  ·rfl
  ·rename_i hne
   rcases m2 with⟨c,jj,e⟩|e
   ·simp only[Option.some.injEq,Prod.mk.injEq]at e;exact absurd e.1.symm hne
   ·exact e
 simp only[GR.cell_some,List.length_map,zbk]
 refine zbu (S':=(b', .cells ((L.map fun x=>I x)++junk') e)::delS b0 S) (fun d o eo=>?_) (q b' cap' junk' ⟨k2,m1.cap⟩ (by omega) m1.jf hb')
 simp only[zae]at eo
 split at eo
 ·rename_i h;subst h;rw[k1];exact eo
 ·rename_i h
  rw[zbz]at eo
  split at eo
  ·cases eo
  ·rename_i h2
   rw[m3 d (fun h'=>h h'.symm) (fun c j e'=>by simp only[Option.some.injEq,Prod.mk.injEq]at e';exact h2 e'.1.symm)]
   exact eo
end
theorem objJ {m:List Int} {j:List V} {k:Nat} (h:k<m.length):((m.map fun x=>I x)++j)[k]?=some (I m[k]):=by
 rw[List.getElem?_append_left (by simpa using h)];simp[h]
theorem znm {m:List Int} {j:List V} {k:Nat} (h:k<m.length) (v:Int):((m.map fun x=>I x)++j).set k (I v)=((m.set k v).map fun x=>I x)++j:=by
 rw[List.set_append_left _ _ (by simpa using h),List.map_set]
theorem you (s:GSet) (n:Nat) (c:Int) (l ks:List Int) (hl:Bag n c l) (hk:KindsIn n ks) (hc:0≤c∧c≤1000000) (hn:1≤n∧n≤1000) (hks:ks.length≤1000):QP Tryz.prog 98 [s.val,ints l,ints ks] (fun u=> ∃r,u=Bo r):=by
 have hln:=hl.len
 unfold QP
 refine DC.of_run Tryz.func98 rfl Tryz.ntmps98 Tryz.results98 (by simp) (fun _ _=>?_);simp only[zag,zaj,go_sem,Nat.zero_add,Nat.reduceAdd]
 repeat' (first|refine yJ ?_|(refine zao (t:=3) yU yE yU ?_;simp only[yS3])|fail)
 refine yht yR yG yG (fun b0 hb0=>?_)
 repeat' (first|refine yJ ?_|fail)
 refine yhv (b0:=b0) (L:=l) yR yH yH yH (by simp only[zaa,↓reduceIte]) yH yH (by omega) ⟨by omega,by decide⟩ (fun b' cap' j' q1 q2 q3 q4=>?_)
 simp only[zab,zac,↓reduceIte]
 clear q4 hb0
 have Q3:=Box.mk q3
 clear q3
 repeat' (first|refine yJ ?_|fail)
 refine zbn [2,3,7] yN (fun(y:Nat)=> [(8,I y)]) (fun(y:Nat)=> [(b', .cells (((putB l (ks.take y)).map fun x=>I x)++j') 3)]) (fun(y:Nat)=>y≤ks.length) (fun(y:Nat)=>ks.length-y) 0 yS (fun b o e=>by exact e) (Nat.zero_le _) (fun y B hI hB=>?_);try dsimp only at hI hB;simp only[zad,zaf]
 have hb:=hl.putB (ks:=ks.take y) (fun x hx=>hk x (List.mem_of_mem_take hx))
 have hlt:=List.length_take_le y ks
 by_cases hi:(y:Int)<(ks.length:Int)
 ·have hi':y<ks.length:=by omega
  have e1:=zoc (l:=l) hi'
  have hk1:=hk _ (List.getElem_mem hi')
  generalize putB l (ks.take y)=m at *
  obtain⟨k,hkk⟩: ∃k:Nat,ks[y]=k:=⟨ks[y].toNat,by omega⟩
  rw[hkk]at e1 hk1
  have hml:=hb.len
  have hkm:k<m.length:=by omega
  have hmk:=hb.get hkm
  rw[zos (by omega)]at e1
  simp only[Int.toNat_natCast]at e1
  have g1:=objJ (j:=j') hkm
  have HB:=Box.mk (And.intro hB (And.intro hb e1))
  clear hB hb e1
  repeat' (first|refine yJT ?_|(refine DS.store yR yE yE yE yE yU yQ ?_;simp only[yS1];try simp only[yS2,Nat.reduceEqDiff,↓reduceIte])|fail)
  simp only[setS,↓reduceIte]
  rw[znm hkm]
  have g2:=objJ (m:=m.set k (m[k]+1)) (j:=j') (k:=k) (by simpa using hkm)
  rw[List.getElem_set_self]at g2
  obtain⟨m2,hm2⟩: ∃m2,m.set k (m[k]+1)=m2:=⟨_,rfl⟩
  rw[hm2]at g2 ⊢
  have HM:=Box.mk hm2
  clear g1 hm2
  repeat' (first|refine yJ ?_|(with_reducible (refine zax yE ?_;refine zdz (fun _=>?_) (fun _=>?_)))|refine zbe (id:=6) [0,1,2,3,4,5,6,7,8] 9 yKR mixed yP1 yP2 ?_|(with_reducible first|refine zau yU yU yU yE ?_|refine zbg ?_)|refine zan [] yE trivial ?_|fail)
  ·exact⟨_,rfl⟩
  ·refine DS.back (HB.out.1 (y+1) _ _ (by omega) (by omega) yS yS (fun d o e=>by rw[HB.out.2.2,HM.out]at e;exact e))
 ·have hi': ¬y<ks.length:=by omega
  repeat' (first|refine yJT ?_|refine zan [] yE trivial ?_|fail)
  exact⟨_,rfl⟩
end Go.XL
namespace Go.XL
open Go.Proofs
set_option maxRecDepth 100000
set_option maxHeartbeats 8000000
theorem zum (bs:Nat) (x:Int) (s:GSet) (h:zbo s=0) (n:Int) (hn : -100≤n∧n≤100):QC Tryz.prog 90 [ptr bs,s.val,I n] bs x (fun u=> ∃l:List Int,u = .own false 3 1 (l.map cI)∧KindsIn s.plain.toNat l∧l.length≤s.plain.toNat):=by
 have ok:=zcb h
 have hp:=zda s ok.few
 have h1:=ok.plain
 obtain⟨N,hN⟩: ∃N:Nat,s.plain=N:=⟨s.plain.toNat,by omega⟩
 rw[hN]at hp ⊢
 rw[Int.toNat_natCast]
 have hN34:N≤34:=by omega
 clear hN h1 ok h
 unfold QC
 refine DC.of_run Tryz.func90 rfl Tryz.ntmps90 Tryz.results90 (by simp) (fun _ _=>?_);simp only[zag,zaj,go_sem,Nat.zero_add,Nat.reduceAdd]
 repeat' (first|(with_reducible first|(refine zbs (t:=6) yU yO yE ?_)|(refine zbs (t:=7) yU yO yE ?_))|refine yJ ?_|(refine zao (t:=4) yU yE yU ?_;simp only[yS3])|fail)
 refine zbn [0,4] yN (fun(y:Nat×Int×Int×List Int)=> [(2,I y.2.2.1),(7, .own false 3 1 (y.2.2.2.map cI)),(8,I y.1)]) (fun(y:Nat×Int×Int×List Int)=> [(bs,srcO y.2.1)]) (fun(y:Nat×Int×Int×List Int)=>y.1≤N∧y.2.2.2.length≤y.1∧KindsIn N y.2.2.2 ∧ -100≤y.2.2.1∧y.2.2.1≤100) (fun(y:Nat×Int×Int×List Int)=>N-y.1) (0,x,n,[]) yS (fun b o e=>by exact e) ⟨Nat.zero_le _,Nat.le_refl _,KindsIn.nil _,hn.1,hn.2⟩ (fun y B hI hB=>?_);try dsimp only at hI hB;simp only[zad,zaf]
 obtain⟨k,x1,m,out⟩:=y
 dsimp only at hI hB ⊢
 obtain⟨g1,g2,g3,g4⟩:=hI
 have HG:=Box.mk g3
 have HB:=Box.mk hB
 clear g3 hB
 by_cases hk:(k:Int)<(N:Int)
 ·have hk':k<N:=by omega
  have ho:=zba bs x1 ((N:Int)-k) (by omega)
  repeat' (first|(with_reducible refine zcj (t:=7) yU yO yE ?_;simp only[yS2,Nat.reduceEqDiff,↓reduceIte])|(with_reducible refine zcj (t:=29) yU yO yE ?_;simp only[yS2,Nat.reduceEqDiff,↓reduceIte])|refine yJ ?_|(with_reducible first|(refine zax yE ?_;first|refine zdz (fun _=>?_) (fun _=>?_)|refine zay ?_|refine zbl ?_)|(refine zbi yU yE ?_;first|refine zfb (fun _=>?_) (fun _=>?_)|refine GG.run ?_|refine zcl ?_))|(refine zbw yU yE yE ?_;simp only[go_sem,Nat.zero_add,Nat.reduceAdd])|(refine DS.append (mm:=false) yU yE yE yU (by decide) yE yO2 yE yX1 yLM yQ2 ?_;simp only[yS2,Nat.reduceEqDiff,↓reduceIte])|refine zap inferInstance (hp) yR yT ?_|(refine zaw inferInstance (ho) yR yT yT ?_;(try simp only[zab,zac,↓reduceIte, *]))|fail)
  ·refine DS.back (HB.out (k+1,stepX x1,m-1,out++ [(k:Int)]) _ _ (by dsimp only;omega) ⟨by dsimp only;omega,by simp;omega,HG.out.app (fun z hz=>by rw[List.mem_singleton.1 hz];omega),by dsimp only;omega,by dsimp only;omega⟩ yS yS (fun d o e=>by exact e))
  ·refine DS.back (HB.out (k+1,stepX x1,m,out) _ _ (by dsimp only;omega) ⟨by dsimp only;omega,by dsimp only;omega,HG.out,by dsimp only;omega,by dsimp only;omega⟩ yS yS (fun d o e=>by exact e))
  ·refine DS.back (HB.out (k+1,x1,m,out) _ _ (by dsimp only;omega) ⟨by dsimp only;omega,by dsimp only;omega,HG.out,by dsimp only;omega,by dsimp only;omega⟩ yS yS (fun d o e=>by exact e))
 ·repeat' (first|(with_reducible refine zcj (t:=6) yU yO yE ?_;simp only[yS2,Nat.reduceEqDiff,↓reduceIte])|(with_reducible refine zcj (t:=35) yU yO yE ?_;simp only[yS2,Nat.reduceEqDiff,↓reduceIte])|refine yJT ?_|refine zap inferInstance (hp) yR yT ?_|fail)
  refine zbh yG ⟨⟨out,rfl,HG.out,by omega⟩,x1,rfl⟩
theorem yjk (bag:List Int) (hl:bag.length≤1000):QP Tryz.prog 49 [ints bag] (fun u=> ∃l:List Int,u = .own false 3 1 (l.map cI)∧KindsIn bag.length l∧l.length≤bag.length):=by
 unfold QP
 refine DC.of_run Tryz.func49 rfl Tryz.ntmps49 Tryz.results49 (by simp) (fun _ _=>?_);simp only[zag,zaj,go_sem,Nat.zero_add,Nat.reduceAdd]
 repeat' (first|(with_reducible first|(refine zbs (t:=2) yU yO yE ?_)|(refine zbs (t:=3) yU yO yE ?_))|refine yJ ?_|fail)
 refine zbp [0] yN (fun(y:Nat×List Int)=> [(3, .own false 3 1 (y.2.map cI)),(4,I y.1)]) (fun(y:Nat×List Int)=>y.1≤bag.length∧y.2.length≤y.1∧KindsIn bag.length y.2) (fun(y:Nat×List Int)=>bag.length-y.1) (0,[]) yS ⟨Nat.zero_le _,Nat.le_refl _,KindsIn.nil _⟩ (fun y B hI hB=>?_);try dsimp only at hI hB;simp only[zad,zaf]
 obtain⟨k,out⟩:=y
 dsimp only at hI hB ⊢
 obtain⟨g1,g2,g3⟩:=hI
 have HG:=Box.mk g3
 have HB:=Box.mk hB
 clear g3 hB
 by_cases hk:(k:Int)<(bag.length:Int)
 ·have hk':k<bag.length:=by omega
  repeat' (first|(with_reducible refine zcj (t:=3) yU yO yE ?_;simp only[yS2,Nat.reduceEqDiff,↓reduceIte])|(with_reducible refine zcj (t:=16) yU yO yE ?_;simp only[yS2,Nat.reduceEqDiff,↓reduceIte])|refine yJ ?_|(with_reducible (refine zax yE ?_;first|refine zdz (fun _=>?_) (fun _=>?_)|refine zay ?_))|(refine zbw yU yE yE ?_;simp only[go_sem,Nat.zero_add,Nat.reduceAdd])|(refine DS.append (mm:=false) yU yE yE yU (by decide) yE yO2 yE yX1 yLM yQ2 ?_;simp only[yS2,Nat.reduceEqDiff,↓reduceIte])|fail)
  ·refine DS.back (HB.out (k+1,out++ [(k:Int)]) _ _ (by dsimp only;omega) ⟨by dsimp only;omega,by simp;omega,HG.out.app (fun z hz=>by rw[List.mem_singleton.1 hz];omega)⟩ yS yS (fun d o e=>by exact e))
  ·refine DS.back (HB.out (k+1,out) _ _ (by dsimp only;omega) ⟨by dsimp only;omega,by dsimp only;omega,HG.out⟩ yS yS (fun d o e=>by exact e))
 ·repeat' (first|(with_reducible refine zcj (t:=2) yU yO yE ?_;simp only[yS2,Nat.reduceEqDiff,↓reduceIte])|(with_reducible refine zcj (t:=20) yU yO yE ?_;simp only[yS2,Nat.reduceEqDiff,↓reduceIte])|refine yJT ?_|fail)
  refine zbh yG ⟨out,rfl,HG.out,by omega⟩
theorem yqk (bs:Nat) (x:Int) (bag:List Int) (hl:bag.length≤1000):QC Tryz.prog 24 [ptr bs,ints bag] bs x (fun u=> ∃k:Int,u=I k∧0≤k∧k≤1000):=by
 have hk:=yjk bag hl
 unfold QC
 refine DC.of_run Tryz.func24 rfl Tryz.ntmps24 Tryz.results24 (by simp) (fun _ _=>?_);simp only[zag,zaj,go_sem,Nat.zero_add,Nat.reduceAdd]
 repeat' (first|refine yJ ?_|fail)
 refine zhh inferInstance hk yR yH (fun u hu=>?_)
 obtain⟨l,rfl,h1,h2⟩:=hu
 by_cases h0:(l.length:Int)=0
 ·repeat' (first|refine yJT ?_|fail)
  refine zbh yG ⟨⟨0,rfl,by omega,by omega⟩,x,rfl⟩
 ·have hb:=zaz (x:=x) (n:=l.length) (by omega)
  have ho:=zba bs x l.length (by omega)
  obtain⟨i,hi⟩: ∃i:Nat,zar x l.length=i:=⟨(zar x l.length).toNat,by omega⟩
  rw[hi]at hb ho
  have hil:i<l.length:=by omega
  have hm:=h1 _ (List.getElem_mem hil)
  have H:=Box.mk h1
  clear h1 hk hi
  repeat' (first|refine yJT ?_|(refine zaw inferInstance (ho) yR yT yT ?_;(try simp only[zab,zac,↓reduceIte, *]))|fail)
  refine zbh yG ⟨⟨l[i],rfl,by omega,by omega⟩,_,rfl⟩
end Go.XL
namespace Go.XL
open Go.Proofs
set_option maxRecDepth 100000
set_option maxHeartbeats 8000000
theorem zmn {l:List Int} (h: ∀x∈l,0≤x) (i:Nat):sumI (l.take i)≤sumI l:=by
 have e:sumI l=sumI (l.take i)+sumI (l.drop i):=by rw[←zrf,List.take_append_drop]
 have: ∀m:List Int,(∀x∈m,0≤x)→0≤sumI m:=fun m=>by
  induction m with
  | nil=>intro _;exact Int.le_refl _
  | cons a m ih =>
   intro hm
   have h1:=hm a (List.mem_cons_self ..)
   have h2:=ih fun x hx=>hm x (List.mem_cons_of_mem _ hx)
   rw[sumI];omega
 have:=this (l.drop i) fun x hx=>h x (List.mem_of_mem_drop hx)
 omega
theorem yit (s:GSet) (h:zbo s=0) (k:Int) (hk:0≤k∧k<s.plain):QP Tryz.prog 137 [s.val,I k] (fun u=> ∃a r:Int,u = .tup [I a,I r] ∧ -9≤a∧a≤9 ∧ -100≤r∧r≤100∧(0≤a→ ∃i:Nat,∃hi:i<s.suits.length,a=i∧0≤r∧r<s.suits[i]∧k=sumI (s.suits.take i)+r)):=by
 have ok:=zcb h
 have c1:=zme s
 have c2:=ziq s
 rw[zlk h]at c1
 rw[h]at c2
 have hsu:=ok.suits
 have hsi:=zri ok.suit
 have hp:=ok.plain
 have h1:=ok.winds
 have h2:=ok.dragons
 have h3:=ok.flowers
 obtain⟨pl,hpl⟩: ∃pl,s.plain=pl:=⟨_,rfl⟩
 rw[hpl]at c1 hk hp
 have hkI:=hk
 clear ok h hpl
 unfold QP
 refine DC.of_run Tryz.func137 rfl Tryz.ntmps137 Tryz.results137 (by simp) (fun _ _=>?_);simp only[zag,zaj,go_sem,Nat.zero_add,Nat.reduceAdd]
 repeat' (first|refine yJT ?_|(with_reducible (refine zbi yU yE ?_;first|refine zex (fun _=>?_) (fun _=>?_)|refine GG.run ?_|refine zcv ?_))|refine zap inferInstance (c2) yR yF ?_|(refine zao (t:=2) yU yE yU ?_;simp only[yS3])|refine zbe (id:=1) [0,1,2,3,4,5,6,7,8] 9 yKR mixed yP1 yP2 ?_|(with_reducible first|refine zau yU yU yU yE ?_|(refine zim yU yE ?_;first|refine yhw (fun _=>?_) (fun _=>?_)|refine DGG.run ?_|refine yal ?_)|refine zbg ?_)|refine zdf inferInstance (c1) yU yF ?_|fail)
 all_goals try (exfalso;omega)
 refine zbp [2] yN (fun(z:Nat×Int)=> [(6,I z.2),(7,I z.1)]) (fun(z:Nat×Int)=>z.1≤s.suits.length∧0≤z.2∧z.2≤k∧k=sumI (s.suits.take z.1)+z.2) (fun(z:Nat×Int)=>s.suits.length-z.1) (0,k) yS ⟨Nat.zero_le _,hk.1,Int.le_refl _,by simp[sumI]⟩ (fun z B hI hB=>?_);try dsimp only at hI hB;simp only[zad,zaf]
 obtain⟨i,at_⟩:=z
 dsimp only at hI hB ⊢
 obtain⟨g1,g2,g3,g4⟩:=hI
 have HB:=Box.mk (And.intro hB g4)
 clear hB g4
 by_cases hi:(i:Int)<(s.suits.length:Int)
 ·have hi':i<s.suits.length:=by omega
  have hb:=hsi _ (List.getElem_mem hi')
  have H:=Box.mk hsi
  clear hsi
  repeat' (first|refine yJ ?_|(with_reducible (refine zax yE ?_;first|refine zdz (fun _=>?_) (fun _=>?_)|refine zay ?_))|fail)
  ·refine zbh yG ⟨i,at_,rfl,by omega,by omega,by omega,by omega,fun _=>⟨i,hi',rfl,g2,by omega,HB.out.2⟩⟩
  ·refine DS.back (HB.out.1 (i+1,at_-s.suits[i]) _ _ (by dsimp only;omega) ⟨by dsimp only;omega,by dsimp only;omega,by dsimp only;omega,by dsimp only;rw[zel hi',HB.out.2];omega⟩ yS yS (fun d o e=>by cases e))
 ·have H:=Box.mk hsi
  clear hsi
  repeat' (first|refine yJ ?_|(with_reducible (refine zax yE ?_;first|refine zdz (fun _=>?_) (fun _=>?_)|refine zbl ?_))|refine zbe (id:=15) [0,1,2,3,4] 5 yKR mixed yP1 yP2 ?_|(with_reducible first|refine zau yU yU yU yE ?_|refine zbg ?_)|fail)
  ·refine zbh yG ⟨-1,at_,rfl,by omega,by omega,by omega,by omega,fun e=>by omega⟩
  ·refine zbh yG ⟨-2,at_-s.winds,rfl,by omega,by omega,by omega,by omega,fun e=>by omega⟩
  ·refine zbh yG ⟨-3,at_-s.winds-s.dragons,rfl,by omega,by omega,by omega,by omega,fun e=>by omega⟩
theorem ynp (s:GSet) (h:zbo s=0) (k:Int) (hk:0≤k∧k<s.plain):QP Tryz.prog 132 [s.val,I k] (fun u=> ∃r:Bool,u=Bo r∧(r=true→k+2<s.plain)):=by
 have c:=yit s h k hk
 have ok:=zcb h
 have hsi:=zri ok.suit
 have h1:=ok.winds
 have h2:=ok.dragons
 have hpl:s.plain=s.winds+s.dragons+sumI s.suits:=rfl
 clear ok h
 unfold QP
 refine DC.of_run Tryz.func132 rfl Tryz.ntmps132 Tryz.results132 (by simp) (fun _ _=>?_);simp only[zag,zaj,go_sem,Nat.zero_add,Nat.reduceAdd]
 repeat' (first|refine yJ ?_|(refine zao (t:=2) yU yE yU ?_;simp only[yS3])|fail)
 refine zhh inferInstance c yR yH (fun u hu=>?_)
 obtain⟨a,r,rfl,b1,b2,b3,b4,hp⟩:=hu
 by_cases ha:0≤a
 ·obtain⟨i,hi,rfl,r1,r2,r3⟩:=hp ha
  have hb:=hsi _ (List.getElem_mem hi)
  have ht:=zmn (l:=s.suits) (fun x hx=>by have:=hsi x hx;omega) (i+1)
  rw[zel hi]at ht
  have H:=Box.mk (And.intro hsi (And.intro hpl r3))
  clear hsi c hp hpl r3
  repeat' (first|refine yJT ?_|fail)
  ·refine zbh yG ⟨_,rfl,fun hr=>?_⟩
   have:=of_decide_eq_true hr
   rw[H.out.2.1,H.out.2.2];omega
 ·clear c hp hpl hsi
  repeat' (first|refine yJT ?_|fail)
  ·refine zbh yG ⟨_,rfl,fun hr=>by cases hr⟩
theorem zlr (s:GSet) (h:zbo s=0) (g:Grp) (hk:0≤g.kind∧g.kind<s.plain):QP Tryz.prog 116 [s.val,g.val] (fun u=> ∃e:Int,u=I e∧(e=0→(1≤g.what∧g.what≤5)∧(g.what=1→g.kind+2<s.plain))):=by
 have c1:=zqc s g.kind
 have c2:=ynp s h g.kind hk
 rw[zlk h,decide_eq_true (by omega)]at c1
 clear h
 unfold QP
 refine DC.of_run Tryz.func116 rfl Tryz.ntmps116 Tryz.results116 (by simp) (fun _ _=>?_);simp only[zag,zaj,go_sem,Nat.zero_add,Nat.reduceAdd]
 by_cases hw:1≤g.what∧g.what≤5
 ·obtain⟨hw1,hw2⟩:=hw
  by_cases h1:g.what=1
  ·have h1':(g.what=1)=True:=eq_true h1
   clear h1
   repeat' (first|refine yJ ?_|(with_reducible first|(refine zax yE ?_;first|refine zdz (fun _=>?_) (fun _=>?_)|refine zay ?_|refine zbl ?_)|(refine zbi yU yE ?_;first|refine zex (fun _=>?_) (fun _=>?_)|refine GG.run ?_|refine zcv ?_))|refine zap inferInstance (c1) yR yT ?_|(refine zao (t:=2) yU yE yU ?_;simp only[yS3])|(refine zao (t:=3) yU yE yU ?_;simp only[yS3])|fail)
   all_goals try (exfalso;omega)
   refine zhh inferInstance c2 yR yH (fun u hu=>?_)
   obtain⟨r,rfl,hr⟩:=hu
   cases r with
   | true =>
    repeat' (first|refine yJT ?_|fail)
    refine zbh yG ⟨0,rfl,fun _=>⟨⟨hw1,hw2⟩,fun _=>hr rfl⟩⟩
   | false =>
    repeat' (first|refine yJT ?_|fail)
    refine zbh yG ⟨3,rfl,fun e=>by omega⟩
  ·have h1':(g.what=1)=False:=eq_false h1
   repeat' (first|refine yJ ?_|(with_reducible first|(refine zax yE ?_;first|refine zdz (fun _=>?_) (fun _=>?_)|refine zay ?_|refine zbl ?_)|(refine zbi yU yE ?_;first|refine zex (fun _=>?_) (fun _=>?_)|refine GG.run ?_|refine zcl ?_|refine zcv ?_))|refine zap inferInstance (c1) yR yT ?_|(refine zao (t:=2) yU yE yU ?_;simp only[yS3])|(refine zao (t:=3) yU yE yU ?_;simp only[yS3])|fail)
   all_goals try (exfalso;omega)
   refine zbh yG ⟨0,rfl,fun _=>⟨⟨hw1,hw2⟩,fun e=>absurd e h1⟩⟩
 ·clear c1 c2
  repeat' (first|refine yJ ?_|(with_reducible first|(refine zax yE ?_;first|refine zdz (fun _=>?_) (fun _=>?_)|refine zay ?_)|(refine zbi yU yE ?_;first|refine zex (fun _=>?_) (fun _=>?_)|refine GG.run ?_|refine zcv ?_))|(refine zao (t:=2) yU yE yU ?_;simp only[yS3])|(refine zao (t:=3) yU yE yU ?_;simp only[yS3])|fail)
  all_goals first|(refine zbh yG ⟨4,rfl,fun e=>by omega⟩)|(exfalso;omega)
theorem zxj (N:Nat) (hN:N≤1000) (g:Grp) (hk:0≤g.kind∧g.kind<N) (h1:g.what=1→g.kind+2<N):QP Tryz.prog 117 [g.val] (fun u=> ∃l:List Int,u = .own false 3 1 (l.map cI)∧KindsIn N l∧l.length≤4):=by
 obtain⟨what,k,op⟩:=g
 dsimp only at hk h1
 unfold QP
 refine DC.of_run Tryz.func117 rfl Tryz.ntmps117 Tryz.results117 (by simp) (fun _ _=>?_);simp only[zag,zaj,go_sem,Nat.zero_add,Nat.reduceAdd]
 have key: ∀a b:Int,0≤a∧a<N→0≤b∧b<N→KindsIn N [k,a,b]:=fun a b ha hb z hz=>by
  simp only[List.mem_cons,List.not_mem_nil,or_false]at hz
  rcases hz with rfl|rfl|rfl <;> assumption
 have H:=Box.mk key
 clear key
 by_cases w1:what=1
 ·have q:=h1 w1
  have w1':(what=1)=True:=eq_true w1
  clear w1 h1
  repeat' (first|with_reducible (refine zbs (t:=2) yU yO yE ?_)|(with_reducible refine zcj (t:=2) yU yO yE ?_;simp only[yS2,Nat.reduceEqDiff,↓reduceIte])|refine yJT ?_|(refine zbw yU yE yE ?_;simp only[go_sem,Nat.zero_add,Nat.reduceAdd])|(refine zao (t:=1) yU yE yU ?_;simp only[yS3])|fail)
  refine zbh yG ⟨[k,k+1,k+2],rfl,H.out _ _ (by omega) (by omega),by simp⟩
 clear h1
 repeat' (first|with_reducible (refine zbs (t:=2) yU yO yE ?_)|(with_reducible refine zcj (t:=2) yU yO yE ?_;simp only[yS2,Nat.reduceEqDiff,↓reduceIte])|refine yJ ?_|(with_reducible (refine zax yE ?_;first|refine zdz (fun _=>?_) (fun _=>?_)|refine zbl ?_))|(refine zbw yU yE yE ?_;simp only[go_sem,Nat.zero_add,Nat.reduceAdd])|(refine zao (t:=1) yU yE yU ?_;simp only[yS3])|fail)
 all_goals (try (exfalso;omega))
 ·refine zbh yG ⟨[k,k,k],rfl,H.out _ _ hk hk,by simp⟩
 ·refine zbh yG ⟨[k,k,k,k],rfl,fun z hz=>by simp only[List.mem_cons,List.not_mem_nil,or_false,or_self]at hz;subst hz;exact hk,by simp⟩
 ·refine zbh yG ⟨[k,k],rfl,fun z hz=>by simp only[List.mem_cons,List.not_mem_nil,or_false,or_self]at hz;subst hz;exact hk,by simp⟩
 ·refine zbh yG ⟨[k],rfl,fun z hz=>by simp only[List.mem_cons,List.not_mem_nil,or_false,or_self]at hz;subst hz;exact hk,by simp⟩
theorem zsw (s:GSet) (h:zbo s=0) (g:Grp) (hk:0≤g.kind∧g.kind<s.plain):QP Tryz.prog 97 [s.val,g.val] (fun u=> ∃l:List Int,u=ints l∧KindsIn s.plain.toNat l∧l.length≤4):=by
 have c1:=ziq s
 have c2:=zlr s h g hk
 rw[h]at c1
 have c3:=fun h1=>zxj s.plain.toNat (by have:=(zcb h).plain;omega) g ⟨hk.1,by omega⟩ h1
 refine QP.of_peek ?_
 refine DC.of_run Tryz.func97 rfl Tryz.ntmps97 Tryz.results97 (by simp) (fun _ _=>?_);simp only[zag,zaj,go_sem,Nat.zero_add,Nat.reduceAdd]
 repeat' (first|refine yJT ?_|refine zap inferInstance (c1) yR yT ?_|(refine zao (t:=2) yU yE yU ?_;simp only[yS3])|(refine zao (t:=3) yU yE yU ?_;simp only[yS3])|fail)
 all_goals try (exfalso;omega)
 refine zhh inferInstance c2 yR yH (fun u hu=>?_)
 obtain⟨e,rfl,he⟩:=hu
 by_cases h0:e=0
 ·subst h0
  have he:=he rfl
  have c4:=c3 (fun w=>by have:=he.2 w;omega)
  clear c3 he
  repeat' (first|refine yJT ?_|fail)
  refine zhh inferInstance c4 yR yH (fun u hu=>?_)
  obtain⟨l,rfl,hl⟩:=hu
  repeat' (first|refine yJ ?_|fail)
  refine zbh yG ⟨l,rfl,hl⟩
 ·clear c3
  repeat' (first|refine yJT ?_|fail)
  all_goals first|(refine zbh yG ⟨[],rfl,KindsIn.nil _,by simp⟩)|(exfalso;omega)
end Go.XL
namespace Go.XL
open Go.Proofs
set_option maxRecDepth 100000
set_option maxHeartbeats 8000000
theorem ygu (a b:Grp):QP Tryz.prog 118 [a.val,b.val] (fun u=> ∃r:Bool,u=Bo r):=by
 unfold QP
 refine DC.of_run Tryz.func118 rfl Tryz.ntmps118 Tryz.results118 (by simp) (fun _ _=>?_);simp only[zag,zaj,go_sem,Nat.zero_add,Nat.reduceAdd]
 repeat' (first|refine yJ ?_|(with_reducible (refine zbi yU yE ?_;first|refine zfz ?_|refine zfb (fun _=>?_) (fun _=>?_)|refine zex (fun _=>?_) (fun _=>?_)|refine GG.run ?_|refine zcl ?_|refine zcv ?_))|(refine zao (t:=2) yU yE yU ?_;simp only[yS3])|(refine zao (t:=3) yU yE yU ?_;simp only[yS3])|fail)
 all_goals first|(refine zbh yG ⟨_,rfl⟩)|(exfalso;omega)
theorem yX3 {p:Prop} (h:p:=by(simp (disch:=omega) only[go_sem,dopV,yV0,↓reduceIte,Nat.reduceEqDiff,Nat.reduceLT,Nat.reduceLeDiff,Nat.reduceAdd,Nat.reduceMul,Nat.reduceSub,Int.reduceToNat,Int.reduceLT,Int.reduceLE,Int.reduceEq,IntWalk.toNatUp,IntWalk.iteOmega,IntWalk.i64_in,V.flat,V.one, *,Value.oneCell'];first|done|exact rfl)):p:=h
theorem yog (bs:Nat) (x:Int) (s:GSet) (h:zbo s=0) (d:Bool):QC Tryz.prog 96 [ptr bs,s.val,Bo d] bs x (fun u=> ∃g:Grp,u=g.val∧0≤g.kind∧g.kind<s.plain):=by
 have ok:=zcb h
 have hp:=zda s ok.few
 have hpl:=ok.plain
 obtain⟨y1,e1⟩: ∃y,stepX x=y:=⟨_,rfl⟩
 obtain⟨y2,e2⟩: ∃y,stepX y1=y:=⟨_,rfl⟩
 have c1:=zce bs x 1 2 (by omega)
 have b2:=zaz (x:=y1) (n:=s.plain) (by omega)
 have c2:=zba bs y1 s.plain (by omega)
 rw[e1]at c1
 rw[e2]at c2
 generalize zbv x 1 2=w at *
 generalize zar y1 s.plain=kd at *
 obtain⟨y3,e3⟩: ∃y,stepX y2=y:=⟨_,rfl⟩
 obtain⟨y4,e4⟩: ∃y,stepX y3=y:=⟨_,rfl⟩
 have c3:=zck bs y2 4 (by omega)
 have c4:=zck bs y3 2 (by omega)
 rw[e3]at c3
 rw[e4]at c4
 generalize zcu y2 4=o1 at *
 generalize zcu y3 2=o2 at *
 clear e1 e2 e3 e4 h ok
 unfold QC
 refine DC.of_run Tryz.func96 rfl Tryz.ntmps96 Tryz.results96 (by simp) (fun _ _=>?_);simp only[zag,zaj,go_sem,Nat.zero_add,Nat.reduceAdd]
 repeat' (first|refine yJ ?_|(refine zao (t:=4) yU yE yU ?_;simp only[yS3])|fail)
 refine zbd yR yU yU (fun b6 h6=>?_)
 have n6: ¬bs=b6:=fun e=>by rw[zaa,if_pos e]at h6;cases h6
 have n6': ¬b6=bs:=fun e=>n6 e.symm
 clear h6
 repeat' (first|refine yJ ?_|fail)
 (refine zho (id:=1) (bs:=bs) (x:=x) (by simp only[zaa,zah,↓reduceIte, *]) [0,1,2,3,4,5,6,7,8] 9 yKR mixed yP1 yP2 ?_;simp only[zab,zac,↓reduceIte, *])
 repeat' (first|(with_reducible first|refine zau yU yU yU yX0 ?_|refine zff yU yU yU yU yX0 ?_)|refine zdf inferInstance (hp) yU yX3 ?_|(refine zcy inferInstance (c1) yU yX3 yX3 ?_;simp only[zas,zat,Nat.reduceEqDiff,↓reduceIte];(try simp only[zab,zac,↓reduceIte, *]))|(refine zcy inferInstance (c2) yU yX3 yX3 ?_;simp only[zas,zat,Nat.reduceEqDiff,↓reduceIte];(try simp only[zab,zac,↓reduceIte, *]))|fail)
 refine DD.alloc yR yU yU (fun b7 h7 h7'=>?_)
 have n7: ¬bs=b7:=fun e=>by subst e;first|(simp[zae]at h7;done)|(simp[zae]at h7';done)
 have n7': ¬b7=bs:=fun e=>n7 e.symm
 have m7: ¬b6=b7:=fun e=>by subst e;first|(simp[zae]at h7;done)|(simp[zae]at h7';done)
 have m7': ¬b7=b6:=fun e=>m7 e.symm
 clear h7 h7'
 refine DD.nil ?_
 have hz:(Value.agg #[Value.int IntKind.i64 0,Value.int IntKind.i64 0,Value.bool false]).cells.toList.map V.v= [I 0,I 0,Bo false]:=rfl
 rw[hz]
 clear hz
 cases d with
 | false =>
  repeat' (first|with_reducible refine zak yU yU yX0 ?_|refine yJ ?_|(with_reducible first|(refine zax yX0 ?_;refine zbl ?_)|(refine zbi yU yX0 ?_;refine zcl ?_))|(refine DS.store yR yX0 yX0 yX0 yX0 yU yQ ?_;simp only[yS1];try simp only[yS2,Nat.reduceEqDiff,↓reduceIte])|fail)
  simp only[setS,zab,zac,zad,zaf,n6,n6',n7,n7',m7,m7',↓reduceIte,List.map_cons,List.map_nil,zbc,zai,zam,zaq,zal,Nat.reduceAdd,Nat.zero_add]
  refine zbj [(bs,srcO y2)] (by(simp (disch:=omega) only[go_sem,dopV,yV0,↓reduceIte,Nat.reduceEqDiff,Nat.reduceLT,Nat.reduceLeDiff,Nat.reduceAdd,Nat.reduceMul,Nat.reduceSub,Int.reduceToNat,Int.reduceLT,Int.reduceLE,Int.reduceEq,IntWalk.toNatUp,IntWalk.iteOmega,IntWalk.i64_in,V.flat,V.one,setS,setAll,n6,n6'];exact rfl)) (fun b o e=>?_) ?_
  ·simp only[zaa,zah]at e ⊢
   split at e
   ·rename_i hb;subst hb;simp only[n6',n7',↓reduceIte];exact e
   ·cases e
  ·exact⟨⟨⟨w,kd,false⟩,rfl,b2⟩,y2,rfl⟩
 | true =>
  cases o1 with
  | false =>
   repeat' (first|with_reducible refine zak yU yU yX0 ?_|refine yJ ?_|(with_reducible first|(refine zax yX0 ?_;refine zbl ?_)|(refine zbi yU yX0 ?_;refine GG.run ?_))|(refine zaw inferInstance (c3) yR yX3 yX3 ?_;(try simp only[zab,zac,↓reduceIte, *]))|(refine DS.store yR yX0 yX0 yX0 yX0 yU yQ ?_;simp only[yS1];try simp only[yS2,Nat.reduceEqDiff,↓reduceIte])|fail)
   simp only[setS,zab,zac,zad,zaf,n6,n6',n7,n7',m7,m7',↓reduceIte,List.map_cons,List.map_nil,zbc,zai,zam,zaq,zal,Nat.reduceAdd,Nat.zero_add]
   refine zbj [(bs,srcO y3)] (by(simp (disch:=omega) only[go_sem,dopV,yV0,↓reduceIte,Nat.reduceEqDiff,Nat.reduceLT,Nat.reduceLeDiff,Nat.reduceAdd,Nat.reduceMul,Nat.reduceSub,Int.reduceToNat,Int.reduceLT,Int.reduceLE,Int.reduceEq,IntWalk.toNatUp,IntWalk.iteOmega,IntWalk.i64_in,V.flat,V.one,setS,setAll,n6,n6'];exact rfl)) (fun b o e=>?_) ?_
   ·simp only[zaa,zah]at e ⊢
    split at e
    ·rename_i hb;subst hb;simp only[n6',n7',↓reduceIte];exact e
    ·cases e
   ·exact⟨⟨⟨w,kd,true⟩,rfl,b2⟩,y3,rfl⟩
  | true =>
   repeat' (first|with_reducible refine zak yU yU yX0 ?_|refine yJ ?_|(with_reducible first|(refine zax yX0 ?_;refine zay ?_)|(refine zbi yU yX0 ?_;refine GG.run ?_))|(refine zaw inferInstance (c3) yR yX3 yX3 ?_;(try simp only[zab,zac,↓reduceIte, *]))|(refine zaw inferInstance (c4) yR yX3 yX3 ?_;(try simp only[zab,zac,↓reduceIte, *]))|(refine DS.store yR yX0 yX0 yX0 yX0 yU yQ ?_;simp only[yS1];try simp only[yS2,Nat.reduceEqDiff,↓reduceIte])|fail)
   simp only[setS,zab,zac,zad,zaf,n6,n6',n7,n7',m7,m7',↓reduceIte,List.map_cons,List.map_nil,zbc,zai,zam,zaq,zal,Nat.reduceAdd,Nat.zero_add]
   refine zbj [(bs,srcO y4)] (by(simp (disch:=omega) only[go_sem,dopV,yV0,↓reduceIte,Nat.reduceEqDiff,Nat.reduceLT,Nat.reduceLeDiff,Nat.reduceAdd,Nat.reduceMul,Nat.reduceSub,Int.reduceToNat,Int.reduceLT,Int.reduceLE,Int.reduceEq,IntWalk.toNatUp,IntWalk.iteOmega,IntWalk.i64_in,V.flat,V.one,setS,setAll,n6,n6'];exact rfl)) (fun b o e=>?_) ?_
   ·simp only[zaa,zah]at e ⊢
    split at e
    ·rename_i hb;subst hb;simp only[n6',n7',↓reduceIte];exact e
    ·cases e
   ·exact⟨⟨⟨3,kd,o2⟩,rfl,b2⟩,y4,rfl⟩
theorem yX4 {p:Prop} (h:p:=by(simp (disch:=omega) only[go_sem,dopV,yV0,↓reduceIte,Nat.reduceEqDiff,Nat.reduceLT,Nat.reduceLeDiff,Nat.reduceAdd,Nat.reduceMul,Nat.reduceSub,Int.reduceToNat,Int.reduceLT,Int.reduceLE,Int.reduceEq,IntWalk.toNatUp,IntWalk.iteOmega,IntWalk.i64_in,V.flat,V.one, *,List.forall_mem_map,implies_true,zng,List.take_length];exact rfl)):p:=h
theorem yX5 {p:Prop} (h:p:=by first|exact rfl|(simp (disch:=omega) only[go_sem,dopV,yV0,↓reduceIte,Nat.reduceEqDiff,Nat.reduceLT,Nat.reduceLeDiff,Nat.reduceAdd,Nat.reduceMul,Nat.reduceSub,Int.reduceToNat,Int.reduceLT,Int.reduceLE,Int.reduceEq,IntWalk.toNatUp,IntWalk.iteOmega,IntWalk.i64_in,V.flat,V.one, *,List.forall_mem_map,implies_true,zng,List.take_length];exact rfl)):p:=h
theorem zqj (N:Int) (l:List Grp) (hl:l.length≤1000) (hk: ∀g∈l,0≤g.kind∧g.kind<N):QP Tryz.prog 100 [zhl l] (fun u=> ∃m:List Grp,u = .own false 174 3 (m.map Grp.cells)∧m.length=l.length∧ ∀g∈m,0≤g.kind∧g.kind<N):=by
 have hbf:=ygu
 unfold QP
 refine DC.of_run Tryz.func100 rfl Tryz.ntmps100 Tryz.results100 (by simp) (fun _ _=>?_);simp only[zag,zaj,go_sem,Nat.zero_add,Nat.reduceAdd]
 repeat' (first|(with_reducible first|(refine zbs (t:=2) yU yO yE ?_)|(refine zbs (t:=3) yU yO yE ?_))|refine yJ ?_|fail)
 refine zbp [0] yN (fun(y:Nat×List Grp)=> [(3, .own false 174 3 (y.2.map Grp.cells)),(4,I y.1)]) (fun(y:Nat×List Grp)=>y.1≤l.length∧y.2.length=y.1∧ ∀g∈y.2,0≤g.kind∧g.kind<N) (fun(y:Nat×List Grp)=>l.length-y.1) (0,[]) yS ⟨Nat.zero_le _,rfl,fun g hg=>by cases hg⟩ (fun y B hI hB=>?_);try dsimp only at hI hB;simp only[zad,zaf]
 obtain⟨i,out⟩:=y
 dsimp only at hI hB
 obtain⟨g1,g2,g3⟩:=hI
 have H:=Box.mk (And.intro g3 (And.intro hk hB))
 clear g3 hk hB
 by_cases hi:(i:Int)<(l.length:Int)
 ·have hi':i<l.length:=by omega
  repeat' (first|refine yJT ?_|fail)
  have hto:List.take i (List.map Grp.cells out)=List.map Grp.cells out:=List.take_of_length_le (by simp;omega)
  have htk: ∀(a:Nat),∀c∈List.take a (List.map Grp.cells out),c.length=3:=fun a c hc=>zey Grp.len _ c (List.mem_of_mem_take hc)
  have hdk: ∀(a:Nat),∀c∈List.drop a (List.map Grp.cells out),c.length=3:=fun a c hc=>zey Grp.len _ c (List.mem_of_mem_drop hc)
  have hin: ∀(a:Nat),∀g∈out.take a++ [l[i]]++out.drop a,0≤g.kind∧g.kind<N:=fun a g hg=>by
   rcases List.mem_append.1 hg with hg|hg
   ·rcases List.mem_append.1 hg with hg|hg
    ·exact H.out.1 g (List.mem_of_mem_take hg)
    ·rw[List.mem_singleton.1 hg];exact H.out.2.1 _ (List.getElem_mem hi')
   ·exact H.out.1 g (List.mem_of_mem_drop hg)
  have hfin: ∀a:Nat,List.take a (List.map Grp.cells out)++ [[V.v (Value.int IntKind.i64 l[i].what),V.v (Value.int IntKind.i64 l[i].kind),V.v (Value.bool l[i].open_)]]++List.drop a (List.map Grp.cells out)=(out.take a++ [l[i]]++out.drop a).map Grp.cells:=fun a=>by
   rw[List.map_append,List.map_append,List.map_take,List.map_drop];rfl
  have Hf:=Box.mk hfin
  have Hi:=Box.mk hin
  clear hfin hin
  refine zbp [0,3,4] yN (fun(a:Nat)=> [(5,I a)]) (fun(a:Nat)=>a≤out.length) (fun(a:Nat)=>a) out.length yS (Nat.le_refl _) (fun a B hI hB=>?_);try dsimp only at hI hB;simp only[zad,zaf]
  by_cases ha:0<(a:Int)
  ·have hda:a-1<out.length:=by omega
   repeat' (first|refine yJT ?_|refine zbe (id:=6) [0,1,2,3,4,5,6,7,8,9,10,11] 12 yKR mixed yP1 yP2 ?_|(with_reducible first|refine zau yU yU yU yE ?_|(refine zim yU yE ?_;refine DGG.run ?_)|refine zbg ?_)|fail)
   refine zhh inferInstance (hbf _ _) yR yH (fun u hu=>?_)
   obtain⟨r,rfl⟩:=hu
   cases r with
   | true =>
    repeat' (first|refine yJT ?_|fail)
    refine DS.back (hB (a-1) _ _ (by omega) (by omega) ⟨?_,trivial⟩ yS (fun d o e=>by exact e))
    simp only[zbr,↓reduceIte]
    rw[show(a:Int)-1=((a-1:Nat):Int) by omega]
   | false =>
    repeat' (first|(with_reducible refine zcj (t:=3) yU yO yX4 ?_;simp only[yS2,Nat.reduceEqDiff,↓reduceIte])|with_reducible refine zak yU yU yX4 ?_|refine yJ ?_|(with_reducible (refine zax yX4 ?_;refine zbl ?_))|(refine DS.append (mm:=false) yU yX4 yX4 yU (by decide) yX4 yO2 yX4 yX5 (by first|exact(htk _)|exact(hdk _)|exact yLM) yQ2 ?_;simp only[yS2,Nat.reduceEqDiff,↓reduceIte])|refine zbe (id:=8) [1,2,3,0,4,5,6,7,8,9,10,11,12,13] 14 yKR mixed yP1 yP2 ?_|(with_reducible first|refine zau yU yU yU yX4 ?_|refine zbg ?_)|(refine zfx yU yX4 yX4 ?_;simp only[go_sem,Nat.zero_add,Nat.reduceAdd];simp only[zas,zat,Nat.reduceEqDiff,↓reduceIte])|(refine DD.append (mm:=false) yU yX4 yX4 yU (by decide) yX4 yO2 yX4 yX5 (by first|exact(htk _)|exact(hdk _)|exact yLM) yQ2 ?_;simp only[yS2,Nat.reduceEqDiff,↓reduceIte];simp only[zas,zat,Nat.reduceEqDiff,↓reduceIte])|fail)
    simp only[Hf.out a]
    refine DS.back (H.out.2.2 (i+1,out.take a++ [l[i]]++out.drop a) _ _ (by dsimp only;omega) ⟨by dsimp only;omega,by dsimp only;simp only[List.length_append,List.length_take,List.length_drop,List.length_singleton];omega,Hi.out a⟩ yS yS (fun b o e=>by cases e))
  ·repeat' (first|(with_reducible refine zcj (t:=3) yU yO yX4 ?_;simp only[yS2,Nat.reduceEqDiff,↓reduceIte])|with_reducible refine zak yU yU yX4 ?_|refine yJ ?_|(with_reducible first|(refine zax yX4 ?_;refine zbl ?_)|(refine zbi yU yX4 ?_;refine zcl ?_))|(refine DS.append (mm:=false) yU yX4 yX4 yU (by decide) yX4 yO2 yX4 yX5 (by first|exact(htk _)|exact(hdk _)|exact yLM) yQ2 ?_;simp only[yS2,Nat.reduceEqDiff,↓reduceIte])|refine zbe (id:=6) [0,1,2,3,4,5,6,7,8,9,10,11] 12 yKR mixed yP1 yP2 ?_|refine zbe (id:=8) [1,2,3,0,4,5,6,7,8,9,10,11,12,13] 14 yKR mixed yP1 yP2 ?_|(with_reducible first|refine zau yU yU yU yX4 ?_|(refine zim yU yX4 ?_;refine zpg ?_)|refine zbg ?_)|(refine zfx yU yX4 yX4 ?_;simp only[go_sem,Nat.zero_add,Nat.reduceAdd];simp only[zas,zat,Nat.reduceEqDiff,↓reduceIte])|(refine DD.append (mm:=false) yU yX4 yX4 yU (by decide) yX4 yO2 yX4 yX5 (by first|exact(htk _)|exact(hdk _)|exact yLM) yQ2 ?_;simp only[yS2,Nat.reduceEqDiff,↓reduceIte];simp only[zas,zat,Nat.reduceEqDiff,↓reduceIte])|fail)
   simp only[Hf.out a]
   refine DS.back (H.out.2.2 (i+1,out.take a++ [l[i]]++out.drop a) _ _ (by dsimp only;omega) ⟨by dsimp only;omega,by dsimp only;simp only[List.length_append,List.length_take,List.length_drop,List.length_singleton];omega,Hi.out a⟩ yS yS (fun b o e=>by cases e))
 ·repeat' (first|(with_reducible refine zcj (t:=2) yU yO yE ?_;simp only[yS2,Nat.reduceEqDiff,↓reduceIte])|(with_reducible refine zcj (t:=45) yU yO yE ?_;simp only[yS2,Nat.reduceEqDiff,↓reduceIte])|refine yJT ?_|fail)
  refine zbh yG ⟨out,rfl,by omega,H.out.1⟩
end Go.XL
namespace Go.XL
section
variable {P:Program} {n:Nat} {r:Rr} {Q:VEnv→Sto→Prop} {k:List Fr} {E0 E:VEnv} {S0 S1:Sto} {Mp:List MpE} {ops l:List Oper} {dst:Option Tmp} {op:Op} {ty:TypeId} {pos:String} {af:Array Edge}
theorem ypi {T len:Nat} {ps:Array (Nat×Operand)} {qs:List (Nat×V)} {e sz:Nat} {c:List V} (hd:dok n dst=true) (hp:zhi (evV E) ps.toList=some qs) (hb:bslV P T len qs=some (e,sz,c)) (hf: ∀v∈c,v.free=true)
  (q: ∀u,zae S1 u=none→zae S0 u=none→DD P n r Q ops S0 Mp l k (putV E0 dst (.v (.slice (some ⟨u,0,none⟩) len len))) (putV E dst (.v (.slice (some ⟨u,0,none⟩) len len))) ((u, .cells c e)::S1)) :
  DD P n r Q ops S0 Mp (⟨dst, .buildSlice T len ps,ty,pos,af,none⟩::l) k E0 E S1:=by
 refine zss (o:=⟨dst, .buildSlice T len ps,ty,pos,af,none⟩) (vb:=fun u => .slice (some ⟨u,0,none⟩) len len) rfl rfl rfl hd (fun hv D env a ha rl=>?_) hf q
 obtain⟨rs,h1,h2⟩:=zgg rl hp
 obtain⟨x,h3,h4,h5,h6,h7,h8,by_,ht⟩:=zls h2 hb
 refine⟨x,h4,h5,fun w=>?_⟩
 refine zlm (P:=P) (y:=fun u => .slice (some ⟨u,0,none⟩) len len) ha (fun i=>by simp[undef]) (fun h1'=>?_) w
 simp only[hop,h1,h3]
theorem zmh (h:(l.all fun o=> !XL.late ops.toArray o)=true): ∀o∈l,XL.late ops.toArray o=false:=fun o ho=>by
 have:=List.all_eq_true.1 h o ho
 simpa using this
theorem RunS.less {D:List Deferred} {K:Bs} {hv0:VH} {hs:Heap} {a:Act} {F:Nat→Prop} {h1:Heap} {S1':Sto} (h: ∀d o,zae S1' d=some o→zae S1 d=some o) (hR:RunS P [] D n K hv0 hs S0 E S1 a F h1):RunS P [] D n K hv0 hs S0 E S1' a F h1:=by
 obtain⟨p1,p2,hv,hold,env,ha,s,p,f,g⟩:=hR
 refine⟨p1,⟨p2.1,MpOk.nil⟩,hv,hold,env,ha,s.weaken (fun _ _ e=>e) (fun d o e=>?_),p,fun b hb=>⟨(f b hb).1,?_⟩,fun b o e=>?_⟩
 ·rw[zbq]at e ⊢
  cases h2:zae S1' d with
  | none =>
   rw[h2]at e
   rw[(g d o e).2.1];exact e
  | some o2=>rw[h2]at e;rw[h d o2 h2];exact e
 ·have:=(f b hb).2
  rw[zbq]at this ⊢
  cases h2:zae S1' b with
  | none =>
   cases h3:zae S1 b with
   | none=>rw[h3]at this;exact this
   | some o3=>rw[h3]at this;cases this
  | some o2=>rw[h b o2 h2]at this;cases this
 ·obtain⟨g1,g2,g3⟩:=g b o e
  refine⟨g1,?_,g3⟩
  cases h2:zae S1' b with
  | none=>rfl
  | some o2=>rw[h b o2 h2]at g2;cases g2
theorem yan {S1':Sto} (h: ∀d o,zae S1' d=some o→zae S1 d=some o) (q:DD P n r Q ops S0 [] l k E0 E S1'):DD P n r Q ops S0 [] l k E0 E S1:=fun K0 K D W hv0 hs a SPs hbx hfl hE hp hS0 hz hl hR =>
 q K0 K D W hv0 hs a SPs hbx hfl hE hp hS0 hz hl fun F h1 hF=>(hR F h1 hF).less h
theorem zfg {t:Nat} {ts:Array TypeId} {g:FuncId} {args:List V} {xs:Array Operand} {fn:Func} {R:V→Sto→Prop} (hf:FnOk P g fn) (hc:DC P g args [] R) (hR: ∀v S',R v S'→ ∃x,v = .v x) (hd:decide (t<n)=true) (he:(evsV (evV E) xs.toList).map (·.map V.peek)=some args)
  (q: ∀x,(∃S',R (.v x) S')→DD P n r Q ops S0 [] l k (delV t E0) ((t, .v x)::E) []):DD P n r Q ops S0 [] (⟨some t, .call {callee := .value (.func g),args:=xs,argTypes:=ts},ty,pos,af,none⟩::l) k E0 E []:=by
 refine ymk hf hc hR hd he fun x=>?_
 intro K0 K D W hv0 hs a SPs hbx hfl hE hp hS0 hz hl hR
 obtain⟨w1,hw1,h1⟩:=hl
 obtain⟨S1,t1,_⟩:=hR noF _ h1
 exact q x ⟨S1,t1⟩ K0 K D W hv0 hs a SPs hbx hfl hE hp hS0 hz ⟨w1,hw1,h1⟩ fun F h1 hF=>let ⟨S2,_,r2⟩:=hR F h1 hF;r2.less (fun _ _ e=>by cases e)
theorem yna (q:(∀b o,zae S0 b=some o→zae S1 b=none)→DD P n r Q ops S0 Mp l k E0 E S1):DD P n r Q ops S0 Mp l k E0 E S1:=fun K0 K D W hv0 hs a SPs hbx hfl hE hp hS0 hz hl hR =>
 q (by
  obtain⟨w1,_,h1⟩:=hl
  obtain⟨_,_,_,_,_,_,_,_,_,g⟩:=hR noF _ h1
  exact fun b o e=>(g b o e).2.1) K0 K D W hv0 hs a SPs hbx hfl hE hp hS0 hz hl hR
theorem ypj {T t e by_ b0:Nat} {sx x:Operand} {vx:V} {L:List Int} (hd:decide (t<n)=true) (hlate: ∀o∈l,XL.late ops.toArray o=false) (ht:tel P T=some (e,1,by_)) (hz:zcs P e=some (.int .i64 0)) (hs:evV E sx=some (.v (.slice (some ⟨b0,0,none⟩) 0 0))) (hS:zae S1 b0=some (.cells [] e))
  (hx:evV E x=some vx) (hxl:zdw vx=some (L.map cI)) (h0:0<L.length) (hl:L.length≤1000000∧by_≤65536)
  (q: ∀b' cap' j',L.length≤cap'∧cap'≤maxLen→L.length+j'.length=cap'→(∀v∈j',v.free=true)→zae (delS b0 S1) b'=none →
   DD P n r Q ops S0 [] l k (delV t E0) ((t, .v (.slice (some ⟨b',0,none⟩) L.length cap'))::E) ((b', .cells ((L.map fun x=>I x)++j') e)::delS b0 S1)) :
  DD P n r Q ops S0 [] (⟨some t, .call {callee := .builtin .append,args:= #[sx,x],argTypes:= #[T,T]},ty,pos,af,none⟩::l) k E0 E S1:=by
 refine yam rfl rfl rfl hd hlate (zed (g:=⟨[],some (b0,0,[])⟩) (ml:=L.map cI) rfl ht hz yR yR (by decide) hs ⟨by simpa using hS,by simp,Nat.le_refl _,by decide,by simp,by simp,by simp⟩ hx hxl (by simpa using h0) (by intro c hc;obtain⟨y,-,rfl⟩:=List.mem_map.1 hc;rfl) ⟨by simp only[List.length_map,List.length_nil];omega,hl.2⟩) (fun u2 E' S4 hu2=>?_)
 obtain⟨rfl,b',cap',junk',rfl,m1,m2,m3⟩:=hu2
 have e0:([]:List (List V))++(L.map cI).map (fun x=>List.map V.copy x)=L.map cI:=by rw[List.nil_append,List.map_map];rfl
 rw[e0]at m1 ⊢
 have k4:=m1.len
 have k2:=m1.le
 rw[List.length_map]at k4 k2
 simp only[GR.cell_some,List.length_map,zbk]
 have hb':zae (delS b0 S1) b'=none:=by
  rw[zbz]
  split
  ·rfl
  ·rename_i hne
   rcases m2 with⟨c,jj,e⟩|e
   ·simp only[Option.some.injEq,Prod.mk.injEq]at e;exact absurd e.1.symm hne
   ·exact e
 have k1:=m1.look
 rw[zds]at k1
 refine yan (S1':=(b', .cells ((L.map fun x=>I x)++junk') e)::delS b0 S1) (fun d o eo=>?_) (q b' cap' junk' ⟨k2,m1.cap⟩ (by omega) m1.jf hb')
 simp only[zae]at eo
 split at eo
 ·rename_i h;subst h;rw[k1];exact eo
 ·rename_i h
  rw[zbz]at eo
  split at eo
  ·cases eo
  ·rename_i h2
   rw[m3 d (fun h'=>h h'.symm) (fun c j e'=>by simp only[Option.some.injEq,Prod.mk.injEq]at e';exact h2 e'.1.symm)]
   exact eo
end
end Go.XL
