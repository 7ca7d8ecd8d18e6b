/- A part of a program logic over the kit's walk rules, and contracts of functions in it. Conditions: as each theorem says. -/
import Derived.Test.YtfgeogepihjdiaaDoorS3
import Derived.Ground.NamesProg
import Derived.Shelf.Strings.SlTrimAscii
import Derived.Test.YtfgeogepihjdiaaDoorProg
import Derived.Laws.Bits64b
import Derived.Lib.TrailingZeros
import Derived.Shelf.Spec.TrailingZeros
set_option linter.all false
namespace Go.XL
open Go.Proofs
set_option maxRecDepth 100000
set_option maxHeartbeats 4000000
theorem suitsGo_at {l:List Int} {i:Nat} (hi:i<l.length):suitsGo (l.drop i)=if ¬(1≤l[i]∧l[i]≤9)then 2 else suitsGo (l.drop (i+1)):=by
 rw[List.drop_eq_getElem_cons hi,suitsGo]
theorem ascGo_at {k:Int} {l:List Int} {i:Nat} (hi:i<l.length) (p:Int):ascGo k (l.drop i) p=if ¬(0≤l[i]∧l[i]≤k-1)then 2 else if l[i]≤p then 11 else ascGo k (l.drop (i+1)) l[i]:=by
 rw[List.drop_eq_getElem_cons hi,ascGo]
theorem sumI_app : ∀(l m:List Int),sumI (l++m)=sumI l+sumI m
 | [],m=>by simp[sumI]
 | a::l,m=>by rw[List.cons_append,sumI,sumI,sumI_app l m];omega
theorem sumI_take {l:List Int} {i:Nat} (hi:i<l.length):sumI (l.take (i+1))=sumI (l.take i)+l[i]:=by
 rw[List.take_succ_eq_append_getElem hi,sumI_app];simp[sumI]
theorem suits_sum : ∀{l:List Int},suitsGo l=0→(l.length:Int)≤sumI l∧sumI l≤9*l.length
 | [],_=>by simp[sumI]
 | a::l,h=>by
  rw[suitsGo]at h
  split at h
  ·cases h
  ·rename_i h1
   have:=suits_sum h
   rw[sumI,List.length_cons];omega
theorem ite0 {p:Prop} {_:Decidable p} {a b:Int} (ha:a≠0) (h:(if p then a else b)=0): ¬p∧b=0:=by
 by_cases hp:p
 ·rw[if_pos hp]at h;exact absurd h ha
 ·rw[if_neg hp]at h;exact⟨hp,h⟩
structure GSet.Ok (s:GSet):Prop where
 players:3≤s.players∧s.players≤4
 suits:s.suits.length≤3
 suit:suitsGo s.suits=0
 winds:0≤s.winds∧s.winds≤4
 dragons:0≤s.dragons∧s.dragons≤3
 flowers:0≤s.flowers∧s.flowers≤8
 copies:1≤s.copies∧s.copies≤4
 melds:1≤s.melds∧s.melds≤4
 dead:0≤s.dead∧s.dead≤20
 plain:1≤s.plain∧s.plain≤34
 reds:ascS s.plain s.reds=0
 tiles:s.players*(3*s.melds+1)+1+s.dead≤s.plain*s.copies+s.flowers
theorem gset_ok {s:GSet} (h:gsetS s=0):s.Ok:=by
 unfold gsetS at h
 obtain⟨h1,h⟩:=ite0 (by decide) h
 obtain⟨h2,h⟩:=ite0 (by decide) h
 obtain⟨h3,h⟩:=ite0 (by decide) h
 obtain⟨h4,h⟩:=ite0 (by decide) h
 obtain⟨h5,h⟩:=ite0 (by decide) h
 obtain⟨h6,h⟩:=ite0 (by decide) h
 obtain⟨h7,h⟩:=ite0 (by decide) h
 obtain⟨h8,h⟩:=ite0 (by decide) h
 obtain⟨h9,h⟩:=ite0 (by decide) h
 obtain⟨h10,h⟩:=ite0 (by decide) h
 have e:s.plain=s.winds+s.dragons+sumI s.suits:=rfl
 have h3:=Decidable.not_not.1 h3
 have hs:=suits_sum h3
 by_cases h11:ascS s.plain s.reds≠0
 ·rw[if_pos h11]at h;exact absurd h h11
 rw[if_neg h11]at h
 obtain⟨h12,h⟩:=ite0 (by decide) h
 exact⟨by omega,by omega,h3,by omega,by omega,by omega,by omega,by omega,by omega,by omega,Decidable.not_not.1 h11,by omega⟩
def tabS (s:GSet):List (Int×Int×Int):= [(s.winds,0,4),(s.dragons,0,3),(s.flowers,0,8),(s.copies,1,4),(s.melds,1,4),(s.dead,0,20)]
def rowT (s:GSet) (j:Nat):Int×Int×Int:=(tabS s).getD j (0,0,0)
abbrev tabC (s:GSet):List V:= [I s.winds,I 0,I 4,I s.dragons,I 0,I 3,I s.flowers,I 0,I 8,I s.copies,I 1,I 4,I s.melds,I 1,I 4,I s.dead,I 0,I 20]
theorem tab_row (s:GSet): ∀(j:Nat),j<6→(((tabC s).drop ((j:Int).toNat*3)).take 3).map V.peek= [I (rowT s j).1,I (rowT s j).2.1,I (rowT s j).2.2]
 | 0,_=>rfl
 | 1,_=>rfl
 | 2,_=>rfl
 | 3,_=>rfl
 | 4,_=>rfl
 | 5,_=>rfl
 | _+6,h=>by omega
theorem gset_tab {s:GSet} (h1:3≤s.players∧s.players≤4) (h2: ¬3<(s.suits.length:Int)) (h3:suitsGo s.suits=0) :
  (∀j,j<6→(rowT s j).2.1≤(rowT s j).1∧(rowT s j).1≤(rowT s j).2.2)∨gsetS s=2:=by
 by_cases a1:0≤s.winds∧s.winds≤4
 ·by_cases a2:0≤s.dragons∧s.dragons≤3
  ·by_cases a3:0≤s.flowers∧s.flowers≤8
   ·by_cases a4:1≤s.copies∧s.copies≤4
    ·by_cases a5:1≤s.melds∧s.melds≤4
     ·by_cases a6:0≤s.dead∧s.dead≤20
      ·refine .inl fun j hj=>?_
       match j,hj with
       | 0,_=>exact a1
       | 1,_=>exact a2
       | 2,_=>exact a3
       | 3,_=>exact a4
       | 4,_=>exact a5
       | 5,_=>exact a6
      ·right;rw[gsetS,if_neg (by omega),if_neg h2,if_neg (by omega),if_neg (by omega),if_neg (by omega),if_neg (by omega),if_neg (by omega),if_neg (by omega),if_pos a6]
     ·right;rw[gsetS,if_neg (by omega),if_neg h2,if_neg (by omega),if_neg (by omega),if_neg (by omega),if_neg (by omega),if_neg (by omega),if_pos a5]
    ·right;rw[gsetS,if_neg (by omega),if_neg h2,if_neg (by omega),if_neg (by omega),if_neg (by omega),if_neg (by omega),if_pos a4]
   ·right;rw[gsetS,if_neg (by omega),if_neg h2,if_neg (by omega),if_neg (by omega),if_neg (by omega),if_pos a3]
  ·right;rw[gsetS,if_neg (by omega),if_neg h2,if_neg (by omega),if_neg (by omega),if_pos a2]
 ·right;rw[gsetS,if_neg (by omega),if_neg h2,if_neg (by omega),if_pos a1]
theorem gset_in {s:GSet} (h1:3≤s.players∧s.players≤4) (h2: ¬3<(s.suits.length:Int)) (h3:suitsGo s.suits=0) (h4: ∀j,j<6→(rowT s j).2.1≤(rowT s j).1∧(rowT s j).1≤(rowT s j).2.2) :
  gsetS s=if s.plain<1 then 6 else if ascS s.plain s.reds≠0 then ascS s.plain s.reds else if s.plain*s.copies+s.flowers<s.players*(3*s.melds+1)+1+s.dead then 6 else 0:=by
 have a1:0≤s.winds∧s.winds≤4:=h4 0 (by omega)
 have a2:0≤s.dragons∧s.dragons≤3:=h4 1 (by omega)
 have a3:0≤s.flowers∧s.flowers≤8:=h4 2 (by omega)
 have a4:1≤s.copies∧s.copies≤4:=h4 3 (by omega)
 have a5:1≤s.melds∧s.melds≤4:=h4 4 (by omega)
 have a6:0≤s.dead∧s.dead≤20:=h4 5 (by omega)
 rw[gsetS,if_neg (by omega),if_neg h2,if_neg (by omega),if_neg (by omega),if_neg (by omega),if_neg (by omega),if_neg (by omega),if_neg (by omega),if_neg (by omega)]
theorem tcheck_pc (s:GSet):PC Tryd.prog 37 [s.val] (I (gsetS s)):=by
 refine DC.of_run Tryd.func37 rfl Tryd.ntmps37 Tryd.results37 (by simp) (fun _ _=>?_);simp only[argV_cons,argV_nil,go_sem,Nat.zero_add,Nat.reduceAdd]
 repeat' (first|(with_reducible first|refine DS.fltS yU yU yE ?_|refine DS.opsNil ?_|refine DS.seq ?_|refine DS.regionL ?_|(refine DS.cE yE ?_;first|refine CG.p (fun _=>?_) (fun _=>?_)|refine CG.yes ?_)|(refine DS.gE yU yE ?_;first|refine GG.pF (fun _=>?_) (fun _=>?_)|refine GG.run ?_|refine GG.sT ?_)|refine DS.block ?_|refine DS.skip ?_)|(refine DS.boxF (t:=1) yU yE yU ?_;simp only[cells_agg,cells_v,cells_lst,cells_fn,map_nil'',map_cons'',copy_own,copy_lst,copy_v,copy_at,copy_agg,copy_fn,copy_ifc,copy_tup])|refine DS.retT [] yE trivial ?_|fail)
 all_goals try first|(rw[gsetS,if_pos (by omega)];rfl)|(rw[gsetS,if_neg (by omega),if_pos (by omega)];rfl)
 rename_i h1 h2 h3
 refine DS.loopK [1,30,31] yN (fun(z:Nat×Int)=> [(3,I z.2),(32,I z.1)]) (fun(z:Nat×Int)=>z.1≤s.suits.length∧suitsGo s.suits=suitsGo (s.suits.drop z.1)∧(0≤s.winds∧s.winds≤4→0≤s.dragons∧s.dragons≤3→z.2=s.winds+s.dragons+sumI (s.suits.take z.1)∧0≤sumI (s.suits.take z.1)∧sumI (s.suits.take z.1)≤9*z.1)) (fun(z:Nat×Int)=>s.suits.length-z.1) (0,IntKind.i64.wrap (s.winds+s.dragons)) yS (by
   refine⟨Nat.zero_le _,by simp,fun a b=>?_⟩
   dsimp only
   rw[IntWalk.i64_in _ (by omega)]
   simp[sumI]) (fun z B hI hB=>?_);try dsimp only at hI hB;simp only[app_cons',app_nil']
 have HB:=Box.mk hB
 clear hB
 obtain⟨i,kk⟩:=z
 dsimp only at hI ⊢
 obtain⟨hI,hI2,hI3⟩:=hI
 have H3:=Box.mk hI3
 clear hI3
 by_cases hi:(i:Int)<(s.suits.length:Int)
 ·have hi':i<s.suits.length:=by omega
  rw[suitsGo_at hi']at hI2
  have H2:=Box.mk hI2
  clear hI2
  by_cases hn:1≤s.suits[i]∧s.suits[i]≤9
  ·have hn1: ¬s.suits[i]<1:=by omega
   have hn2: ¬9<s.suits[i]:=by omega
   repeat' (first|(with_reducible first|refine DS.fltS yU yU yE ?_|refine DS.opsNil ?_|refine DS.seq ?_|refine DS.regionL ?_|(refine DS.cE yE ?_;first|refine CG.yes ?_|refine CG.no ?_)|(refine DS.gE yU yE ?_;refine GG.run ?_)|refine DS.blk ?_|refine DS.block ?_|refine DS.skip ?_)|fail)
   refine DS.back (HB.out (i+1,IntKind.i64.wrap (kk+s.suits[i])) _ _ (by dsimp only;omega) ⟨by dsimp only;omega,by rw[H2.out,if_neg (by omega)],fun a b=>?_⟩ yS yS (fun b o e=>by cases e))
   obtain⟨q1,q2,q3⟩:=H3.out a b
   dsimp only
   rw[sumI_take hi',IntWalk.i64_in _ (by omega)]
   omega
  ·have e:gsetS s=2:=by rw[gsetS,if_neg (by omega),if_neg h3,if_pos (by rw[H2.out,if_pos hn];decide)]
   rw[e]
   repeat' (first|(with_reducible first|refine DS.fltS yU yU yE ?_|refine DS.opsNil ?_|refine DS.seq ?_|refine DS.regionL ?_|(refine DS.cE yE ?_;first|refine CG.p (fun _=>?_) (fun _=>?_)|refine CG.yes ?_)|(refine DS.gE yU yE ?_;first|refine GG.pF (fun _=>?_) (fun _=>?_)|refine GG.run ?_|refine GG.sT ?_)|refine DS.blk ?_|refine DS.block ?_|refine DS.skip ?_)|refine DS.retT [] yE trivial ?_|fail)
   all_goals first|rfl|(exfalso;omega)
 ·rw[drop_end hi]at hI2
  have hI2:suitsGo s.suits=0:=hI2
  clear HB
  have hh:3≤s.players∧s.players≤4:=by omega
  have ht:=gset_tab hh h3 hI2
  have hin:=gset_in hh h3 hI2
  have HT:=Box.mk (And.intro ht hin)
  clear ht hin
  repeat' (first|(with_reducible first|refine DS.fltS yU yU yE ?_|refine DS.opsNil ?_|refine DS.seq ?_|refine DS.regionL ?_|(refine DS.cE yE ?_;refine CG.no ?_)|refine DS.block ?_|refine DS.exit yU ?_)|(refine DS.letF (t:=6) yU yE yU (fun _=>yE) yE yU (by exact⟨by with_unfolding_all rfl,by with_unfolding_all decide⟩) (fun _=>by simp only[go_sem,Nat.reduceEqDiff,↓reduceIte]) ?_;simp only[go_sem])|fail)
  refine DS.loopK [1,3,65] yN (fun(j:Nat)=> [(66,I j)]) (fun(j:Nat)=>j≤6∧ ∀m,m<j→(rowT s m).2.1≤(rowT s m).1∧(rowT s m).1≤(rowT s m).2.2) (fun(j:Nat)=>6-j) 0 yS ⟨Nat.zero_le _,fun m h=>by omega⟩ (fun j B hI hB=>?_);try dsimp only at hI hB;simp only[app_cons',app_nil']
  obtain⟨hJ,hJ2⟩:=hI
  have HJ:=Box.mk (And.intro hJ2 hB)
  clear hJ2 hB
  by_cases hj:(j:Int)<6
  ·repeat' (first|(with_reducible first|refine DS.fltS yU yU yE ?_|refine DS.opsNil ?_|refine DS.seq ?_|refine DS.regionL ?_|(refine DS.cE yE ?_;refine CG.yes ?_)|refine DS.block ?_|refine DS.skip ?_)|fail)
   refine DS.indexA (e:=103) (m:=3) (c:=tabC s) (by decide) (by kernel_rfl) (by kernel_rfl) yH yH (Int.natCast_nonneg _) hj (by show(j:Int).toNat*3+3≤18;omega) ?_
   rw[tab_row s j (by omega)]
   generalize hq:rowT s j=q at *
   obtain⟨x,lo,hi2⟩:=q
   dsimp only
   by_cases hok:lo≤x∧x≤hi2
   ·have k1: ¬x<lo:=by omega
    have k2: ¬hi2<x:=by omega
    repeat' (first|(with_reducible first|refine DS.fltS yU yU yE ?_|refine DS.opsNil ?_|refine DS.seq ?_|refine DS.regionL ?_|(refine DS.cE yE ?_;refine CG.no ?_)|(refine DS.gE yU yE ?_;refine GG.run ?_)|refine DS.blk ?_|refine DS.skip ?_)|(refine DS.letF (t:=8) yU yE yU (fun _=>yE) yE yU (by exact⟨by with_unfolding_all rfl,by with_unfolding_all decide⟩) (fun _=>by simp only[go_sem,Nat.reduceEqDiff,↓reduceIte]) ?_;simp only[go_sem])|fail)
    exact DS.back (HJ.out.2 (j+1) _ _ (by omega) ⟨by omega,fun m hm=>if h:m=j then(by subst h;rw[hq];exact hok)else HJ.out.1 m (by omega)⟩ yS yS (fun b o e=>by cases e))
   ·have e:gsetS s=2:=HT.out.1.resolve_left fun h=>hok (by have:=h j (by omega);rw[hq]at this;exact this)
    rw[e]
    repeat' (first|(with_reducible first|refine DS.fltS yU yU yE ?_|refine DS.opsNil ?_|refine DS.seq ?_|refine DS.regionL ?_|(refine DS.cE yE ?_;first|refine CG.p (fun _=>?_) (fun _=>?_)|refine CG.yes ?_)|(refine DS.gE yU yE ?_;first|refine GG.pF (fun _=>?_) (fun _=>?_)|refine GG.run ?_|refine GG.sT ?_)|refine DS.blk ?_|refine DS.skip ?_)|(refine DS.letF (t:=8) yU yE yU (fun _=>yE) yE yU (by exact⟨by with_unfolding_all rfl,by with_unfolding_all decide⟩) (fun _=>by simp only[go_sem,Nat.reduceEqDiff,↓reduceIte]) ?_;simp only[go_sem])|refine DS.retT [] yE trivial ?_|fail)
    all_goals first|rfl|(exfalso;omega)
  ·have h4: ∀j,j<6→(rowT s j).2.1≤(rowT s j).1∧(rowT s j).1≤(rowT s j).2.2:=fun m hm=>HJ.out.1 m (by omega)
   have e:=HT.out.2 h4
   obtain⟨q1,q2,q3⟩:=H3.out (h4 0 (by omega)) (h4 1 (by omega))
   have e2:kk=s.plain:=by
    rw[q1,List.take_of_length_le (by omega)];rfl
   subst e2
   clear HT HJ H3 q1 q2 q3
   have hpl:s.plain≤34:=by have:=suits_sum hI2;have e:s.plain=s.winds+s.dragons+sumI s.suits:=rfl;have:=h4 0 (by omega);have:=h4 1 (by omega);simp only[rowT,tabS,List.getD_cons_zero,List.getD_cons_succ]at *;omega
   have hp0:0≤s.plain:=by have e:s.plain=s.winds+s.dragons+sumI s.suits:=rfl;have:=suits_sum hI2;have:=h4 0 (by omega);have:=h4 1 (by omega);simp only[rowT,tabS,List.getD_cons_zero,List.getD_cons_succ]at *;omega
   by_cases hz:s.plain=0
   ·rw[e,if_pos (by omega)]
    repeat' (first|(with_reducible first|refine DS.fltS yU yU yE ?_|refine DS.opsNil ?_|refine DS.seq ?_|refine DS.regionL ?_|(refine DS.cE yE ?_;first|refine CG.yes ?_|refine CG.no ?_)|refine DS.exit yU ?_)|refine DS.retT [] yE trivial ?_|fail)
    all_goals first|rfl|(exfalso;omega)
   ·rw[if_neg (by omega)]at e
    repeat' (first|(with_reducible first|refine DS.fltS yU yU yE ?_|refine DS.opsNil ?_|refine DS.seq ?_|refine DS.regionL ?_|(refine DS.cE yE ?_;refine CG.no ?_)|refine DS.block ?_|refine DS.exit yU ?_|refine DS.skip ?_)|fail)
    all_goals try (exfalso;omega)
    refine DS.bnd (t:=85) yG (.inl rfl) (fun hb85=>?_);simp only[List.length_map]at hb85
    refine DS.loopK [1,3,85,86] yN (fun(z:Nat×Int)=> [(9,I z.2),(87,I z.1)]) (fun(z:Nat×Int)=>z.1≤s.reds.length∧ascS s.plain s.reds=ascGo s.plain (s.reds.drop z.1) z.2) (fun(z:Nat×Int)=>s.reds.length-z.1) (0,-1) yS ⟨Nat.zero_le _,rfl⟩ (fun z B hI hB=>?_);try dsimp only at hI hB;simp only[app_cons',app_nil']
    have HB:=Box.mk hB
    clear hB
    obtain⟨a,b⟩:=z
    dsimp only at hI ⊢
    obtain⟨hI,hI5⟩:=hI
    by_cases ha:(a:Int)<(s.reds.length:Int)
    ·have ha':a<s.reds.length:=by omega
     rw[ascGo_at ha']at hI5
     by_cases hr:0≤s.reds[a]∧s.reds[a]≤s.plain-1
     ·have hr1: ¬s.reds[a]<0:=by omega
      have hr2: ¬s.plain≤s.reds[a]:=by omega
      rw[if_neg (by omega)]at hI5
      by_cases hl:s.reds[a]≤b
      ·rw[if_pos hl]at hI5
       rw[hI5,if_pos (by decide)]at e
       rw[e]
       clear hI5 e
       repeat' (first|(with_reducible first|refine DS.fltS yU yU yE ?_|refine DS.opsNil ?_|refine DS.seq ?_|refine DS.regionL ?_|(refine DS.cE yE ?_;first|refine CG.yes ?_|refine CG.no ?_)|(refine DS.gE yU yE ?_;refine GG.run ?_)|refine DS.block ?_|refine DS.skip ?_)|refine DS.retT [] yE trivial ?_|fail)
       all_goals first|rfl|(exfalso;omega)
      ·rw[if_neg hl]at hI5
       have H5:=Box.mk hI5
       clear hI5
       repeat' (first|(with_reducible first|refine DS.fltS yU yU yE ?_|refine DS.opsNil ?_|refine DS.seq ?_|refine DS.regionL ?_|(refine DS.cE yE ?_;first|refine CG.yes ?_|refine CG.no ?_)|(refine DS.gE yU yE ?_;refine GG.run ?_)|refine DS.blk ?_|refine DS.block ?_|refine DS.skip ?_)|fail)
       exact DS.back (HB.out (a+1,s.reds[a]) _ _ (by dsimp only;omega) ⟨by dsimp only;omega,H5.out⟩ yS yS (fun b o e=>by cases e))
     ·rw[if_pos hr]at hI5
      rw[hI5,if_pos (by decide)]at e
      rw[e]
      clear hI5 e
      repeat' (first|(with_reducible first|refine DS.fltS yU yU yE ?_|refine DS.opsNil ?_|refine DS.seq ?_|refine DS.regionL ?_|(refine DS.cE yE ?_;first|refine CG.p (fun _=>?_) (fun _=>?_)|refine CG.yes ?_)|(refine DS.gE yU yE ?_;first|refine GG.pF (fun _=>?_) (fun _=>?_)|refine GG.run ?_|refine GG.sT ?_)|refine DS.blk ?_|refine DS.block ?_|refine DS.skip ?_)|refine DS.retT [] yE trivial ?_|fail)
      all_goals first|rfl|(exfalso;omega)
    ·rw[drop_end ha]at hI5
     rw[hI5]at e
     rw[show ascGo s.plain [] b=0 from rfl,if_neg (by decide)]at e
     clear hI5
     have b3:1≤s.copies∧s.copies≤4:=h4 3 (by omega)
     have b4:1≤s.melds∧s.melds≤4:=h4 4 (by omega)
     have b2:0≤s.flowers∧s.flowers≤8:=h4 2 (by omega)
     have b5:0≤s.dead∧s.dead≤20:=h4 5 (by omega)
     have m1:0≤s.plain*s.copies:=Int.mul_nonneg hp0 (by omega)
     have m2:s.plain*s.copies≤34*4:=Int.mul_le_mul hpl b3.2 (by omega) (by omega)
     have m3:0≤s.players*(3*s.melds+1):=Int.mul_nonneg (by omega) (by omega)
     have m4:s.players*(3*s.melds+1)≤4*13:=Int.mul_le_mul hh.2 (by omega) (by omega) (by omega)
     repeat' (first|(with_reducible first|refine DS.fltS yU yU yE ?_|refine DS.opsNil ?_|refine DS.seq ?_|refine DS.regionL ?_|(refine DS.cE yE ?_;first|refine CG.p (fun _=>?_) (fun _=>?_)|refine CG.no ?_)|refine DS.exit yU ?_|refine DS.skip ?_)|refine DS.retT [] yE trivial ?_|fail)
     ·rw[e,if_pos (by omega)];rfl
     ·rw[e,if_neg (by omega)];rfl
end Go.XL
namespace Go.XL
open Go.Proofs
set_option maxRecDepth 100000
set_option maxHeartbeats 4000000
theorem sumI_bd {lo hi:Int}: ∀{l:List Int},(∀x∈l,lo≤x∧x≤hi)→lo*l.length≤sumI l∧sumI l≤hi*l.length
 | [],_=>by simp[sumI]
 | a::l,h=>by
  have h1:=h a (List.mem_cons_self ..)
  have h2:=sumI_bd (l:=l) fun x hx=>h x (List.mem_cons_of_mem _ hx)
  rw[sumI,List.length_cons,Int.natCast_add,Int.mul_add,Int.mul_add]
  omega
theorem suits_in : ∀{l:List Int},suitsGo l=0→ ∀x∈l,1≤x∧x≤9
 | [],_,x,hx=>by cases hx
 | a::l,h,x,hx=>by
  rw[suitsGo]at h
  obtain⟨h1,h⟩:=ite0 (by decide) h
  rcases List.mem_cons.1 hx with rfl|hx
  ·omega
  ·exact suits_in h x hx
theorem tcount_pc (s:GSet):PC Tryd.prog 76 [s.val] (I (kindsS s)):=by
 refine DC.of_run Tryd.func76 rfl Tryd.ntmps76 Tryd.results76 (by simp) (fun _ _=>?_);simp only[argV_cons,argV_nil,go_sem,Nat.zero_add,Nat.reduceAdd]
 by_cases h0:gsetS s=0
 ·have ok:=gset_ok h0
  obtain⟨a1,a2⟩:=ok.winds
  obtain⟨a3,a4⟩:=ok.dragons
  have a5:=ok.suits
  have a6:=ok.suit
  have e:kindsS s=s.plain:=by rw[kindsS,if_neg (by omega)]
  rw[e]
  clear e ok
  repeat' (first|(with_reducible first|refine DS.fltS yU yU yE ?_|refine DS.opsNil ?_|refine DS.seq ?_|refine DS.regionL ?_|(refine DS.cE yE ?_;refine CG.no ?_)|refine DS.block ?_|refine DS.skip ?_)|refine DS.pcS inferInstance (tcheck_pc s) yR yT ?_|(refine DS.boxF (t:=1) yU yE yU ?_;simp only[cells_agg,cells_v,cells_lst,cells_fn,map_nil'',map_cons'',copy_own,copy_lst,copy_v,copy_at,copy_agg,copy_fn,copy_ifc,copy_tup])|fail)
  refine DS.loopK [15,16] yN (fun(z:Nat×Int)=> [(3,I z.2),(17,I z.1)]) (fun(z:Nat×Int)=>z.1≤s.suits.length∧z.2=s.winds+s.dragons+sumI (s.suits.take z.1)∧0≤sumI (s.suits.take z.1)∧sumI (s.suits.take z.1)≤9*z.1) (fun(z:Nat×Int)=>s.suits.length-z.1) (0,s.winds+s.dragons) yS ⟨Nat.zero_le _,by simp[sumI],by simp[sumI],by simp[sumI]⟩ (fun z B hI hB=>?_);try dsimp only at hI hB;simp only[app_cons',app_nil']
  have HB:=Box.mk hB
  clear hB
  obtain⟨i,kk⟩:=z
  dsimp only at hI ⊢
  obtain⟨hI,hI1,hI2,hI3⟩:=hI
  have H1:=Box.mk hI1
  have hk1:0≤kk∧kk≤100:=by omega
  clear hI1
  by_cases hi:(i:Int)<(s.suits.length:Int)
  ·have hi':i<s.suits.length:=by omega
   obtain⟨b1,b2⟩:=suits_in a6 _ (List.getElem_mem hi')
   repeat' (first|(with_reducible first|refine DS.fltS yU yU yE ?_|refine DS.opsNil ?_|refine DS.seq ?_|refine DS.regionL ?_|(refine DS.cE yE ?_;refine CG.yes ?_)|refine DS.blk ?_|refine DS.block ?_|refine DS.skip ?_)|fail)
   have e:=sumI_take hi'
   have h1:=H1.out
   refine DS.back (HB.out (i+1,kk+s.suits[i]) _ _ (by dsimp only;omega) ⟨by dsimp only;omega,by dsimp only;omega,by dsimp only;omega,by dsimp only;omega⟩ yS yS (fun b o e=>by cases e))
  ·repeat' (first|(with_reducible first|refine DS.fltS yU yU yE ?_|refine DS.opsNil ?_|refine DS.seq ?_|refine DS.regionL ?_|(refine DS.cE yE ?_;refine CG.no ?_)|refine DS.exit yU ?_)|refine DS.retT [] yE trivial ?_|fail)
   rw[H1.out,List.take_of_length_le (by omega)];rfl
 ·rw[kindsS,if_pos h0]
  repeat' (first|(with_reducible first|refine DS.fltS yU yU yE ?_|refine DS.opsNil ?_|refine DS.seq ?_|refine DS.regionL ?_|(refine DS.cE yE ?_;refine CG.yes ?_))|refine DS.pcS inferInstance (tcheck_pc s) yR yT ?_|(refine DS.boxF (t:=1) yU yE yU ?_;simp only[cells_agg,cells_v,cells_lst,cells_fn,map_nil'',map_cons'',copy_own,copy_lst,copy_v,copy_at,copy_agg,copy_fn,copy_ifc,copy_tup])|refine DS.retT [] yE trivial ?_|fail)
  all_goals first|rfl|(exfalso;omega)
theorem tkinds_pc (s:GSet):PC Tryd.prog 67 [s.val] (I (kindsS s)):=by
 refine DC.of_run Tryd.func67 rfl Tryd.ntmps67 Tryd.results67 (by simp) (fun _ _=>?_);simp only[argV_cons,argV_nil,go_sem,Nat.zero_add,Nat.reduceAdd]
 repeat' (first|(with_reducible first|refine DS.fltS yU yU yE ?_|refine DS.opsNil ?_|refine DS.seq ?_|refine DS.regionL ?_)|refine DS.pcS inferInstance (tcount_pc s) yR yT ?_|(refine DS.boxF (t:=1) yU yE yU ?_;simp only[cells_agg,cells_v,cells_lst,cells_fn,map_nil'',map_cons'',copy_own,copy_lst,copy_v,copy_at,copy_agg,copy_fn,copy_ifc,copy_tup])|refine DS.retT [] yE trivial ?_|fail)
 rfl
theorem hrising_pc (many:Int) (l:List Int) (hm:0≤many∧many≤1000):PC Tryd.prog 66 [I many,ints l] (I (ascS many l)):=by
 refine DC.of_run Tryd.func66 rfl Tryd.ntmps66 Tryd.results66 (by simp) (fun _ _=>?_);simp only[argV_cons,argV_nil,go_sem,Nat.zero_add,Nat.reduceAdd]
 refine DS.bnd (t:=1) yG (.inl rfl) (fun hb1=>?_);simp only[List.length_map]at hb1
 repeat' (first|(with_reducible first|refine DS.fltS yU yU yE ?_|refine DS.opsNil ?_|refine DS.seq ?_|refine DS.regionL ?_|refine DS.block ?_)|fail)
 refine DS.loopK [0,1,7,8] yN (fun(i:Nat)=> [(9,I i)]) (fun(i:Nat)=>i≤l.length∧ascS many l=ascGo many (l.drop i) ((prevL l i).getD (-1))) (fun(i:Nat)=>l.length-i) 0 yS ⟨Nat.zero_le _,rfl⟩ (fun i B hI hB=>?_);try dsimp only at hI hB;simp only[app_cons',app_nil']
 have HB:=Box.mk hB
 clear hB
 obtain⟨hI,hI2⟩:=hI
 by_cases hi:(i:Int)<(l.length:Int)
 ·have hi':i<l.length:=by omega
  have hp:i-1<l.length:=by omega
  rw[ascGo_at hi']at hI2
  have HI:=Box.mk hI2
  clear hI2
  repeat' (first|(with_reducible first|refine DS.fltS yU yU yE ?_|refine DS.opsNil ?_|refine DS.seq ?_|refine DS.regionL ?_|(refine DS.cE yE ?_;first|refine CG.np (fun _=>?_) (fun _=>?_)|refine CG.p (fun _=>?_) (fun _=>?_)|refine CG.yes ?_|refine CG.no ?_)|(refine DS.gE yU yE ?_;first|refine GG.pT (fun _=>?_) (fun _=>?_)|refine GG.run ?_|refine GG.sF ?_)|refine DS.blk ?_|refine DS.block ?_|refine DS.skip ?_)|refine DS.pcS inferInstance (hfrom_pc _ _ _) yR yT ?_|refine DS.retT [] yE trivial ?_|fail)
  all_goals (try rw[prevL_zero (by assumption)]at HI) <;> (try rw[prevL_pos (by assumption) hp]at HI)
  all_goals first
   | (rw[HI.out];simp[tupV, *];done)
   | (rw[HI.out];simp[tupV, *];omega)
   | exact DS.back (HB.out (i+1) _ _ (by omega) ⟨by omega,by rw[HI.out,prevL_succ hi',if_neg (by omega),if_neg (by simp only[Option.getD_none,Option.getD_some];omega)];rfl⟩ yS yS (fun b o e=>by cases e))
 ·repeat' (first|(with_reducible first|refine DS.fltS yU yU yE ?_|refine DS.opsNil ?_|refine DS.seq ?_|refine DS.regionL ?_|(refine DS.cE yE ?_;refine CG.no ?_)|refine DS.exit yU ?_)|refine DS.retT [] yE trivial ?_|fail)
  rw[hI2,drop_end hi];rfl
theorem indexFuncI_pc (l:List Int) {g:FuncId} {fs cs:List V} {fn:Func} (p:Int→Bool) (hf:FnOk Tryd.prog g fn) (h: ∀m,PC Tryd.prog g (fs++ [I m]++cs) (Bo (p m))) :
  PC Tryd.prog 75 [ints l, .fn g fs cs] (I (idxF p l 0)):=by
 refine DC.of_run Tryd.func75 rfl Tryd.ntmps75 Tryd.results75 (by simp) (fun _ _=>?_);simp only[argV_cons,argV_nil,go_sem,Nat.zero_add,Nat.reduceAdd]
 refine DS.bnd (t:=0) yG (.inl rfl) (fun hb0=>?_);simp only[List.length_map]at hb0
 repeat' (first|(with_reducible first|refine DS.fltS yU yU yE ?_|refine DS.opsNil ?_|refine DS.seq ?_|refine DS.regionL ?_|refine DS.block ?_)|fail)
 refine DS.loopK [0,1,7] yN (fun(i:Nat)=> [(8,I i)]) (fun(i:Nat)=>i≤l.length∧idxF p l 0=idxF p (l.drop i) i) (fun(i:Nat)=>l.length-i) 0 yS (by simp) (fun i B hI hB=>?_);try dsimp only at hI hB;simp only[app_cons',app_nil']
 have HB:=Box.mk hB
 clear hB
 by_cases hi:(i:Int)<(l.length:Int)
 ·have hi':i<l.length:=by omega
  cases hp:p l[i]with
  | true =>
   have:=idxF_hit (p:=p) (l:=l) (i:=i) hi' hp
   repeat' (first|(with_reducible first|refine DS.fltS yU yU yE ?_|refine DS.opsNil ?_|refine DS.seq ?_|refine DS.regionL ?_|(refine DS.cE yE ?_;refine CG.yes ?_)|refine DS.block ?_|refine DS.skip ?_)|fail)
   refine DS.pcVS hf (by simp (disch:=omega) only[go_sem,dopV,yV0,↓reduceIte,Nat.reduceEqDiff,Nat.reduceLT,Nat.reduceLeDiff,Nat.reduceAdd,Nat.reduceMul,Nat.reduceSub,Int.reduceToNat,Int.reduceLT,Int.reduceLE,Int.reduceEq,IntWalk.toNatUp,IntWalk.iteOmega,IntWalk.i64_in,V.flat,V.one]) (h l[i]) yR yH ?_
   repeat' (first|(with_reducible first|refine DS.fltS yU yU yE ?_|refine DS.opsNil ?_|refine DS.seq ?_|refine DS.regionL ?_|(refine DS.cE yE ?_;refine CG.yes ?_))|refine DS.retT [] yE trivial ?_|fail)
   rw[hI.2,this];rfl
  | false =>
   repeat' (first|(with_reducible first|refine DS.fltS yU yU yE ?_|refine DS.opsNil ?_|refine DS.seq ?_|refine DS.regionL ?_|(refine DS.cE yE ?_;refine CG.yes ?_)|refine DS.block ?_|refine DS.skip ?_)|fail)
   refine DS.pcVS hf (by simp (disch:=omega) only[go_sem,dopV,yV0,↓reduceIte,Nat.reduceEqDiff,Nat.reduceLT,Nat.reduceLeDiff,Nat.reduceAdd,Nat.reduceMul,Nat.reduceSub,Int.reduceToNat,Int.reduceLT,Int.reduceLE,Int.reduceEq,IntWalk.toNatUp,IntWalk.iteOmega,IntWalk.i64_in,V.flat,V.one]) (h l[i]) yR yH ?_
   repeat' (first|(with_reducible first|refine DS.fltS yU yU yE ?_|refine DS.opsNil ?_|refine DS.regionL ?_|(refine DS.cE yE ?_;refine CG.no ?_)|refine DS.blk ?_|refine DS.skip ?_)|fail)
   refine DS.back (HB.out (i+1) _ _ (by omega) ⟨by omega,by rw[hI.2,idxF_miss hi' hp]⟩ yS yS (fun b o e=>by cases e))
 ·repeat' (first|(with_reducible first|refine DS.fltS yU yU yE ?_|refine DS.opsNil ?_|refine DS.seq ?_|refine DS.regionL ?_|(refine DS.cE yE ?_;refine CG.no ?_)|refine DS.exit yU ?_)|refine DS.retT [] yE trivial ?_|fail)
  have:=idxF_end (p:=p) (l:=l) (i:=i) (by omega)
  simp only[tupV];rw[hI.2,this]
theorem idxF_any {α:Type} (p:α→Bool): ∀(l:List α) (i:Nat),decide (0≤idxF p l i)=l.any p
 | [],i=>by simp[idxF]
 | a::l,i=>by
  rw[idxF,List.any_cons]
  by_cases h:p a=true
  ·rw[if_pos h,h];simp
  ·rw[if_neg h,idxF_any p l (i+1)];simp[h]
theorem containsFuncI_pc (l:List Int) {g:FuncId} {fs cs:List V} {fn:Func} (p:Int→Bool) (hf:FnOk Tryd.prog g fn) (h: ∀m,PC Tryd.prog g (fs++ [I m]++cs) (Bo (p m))) :
  PC Tryd.prog 63 [ints l, .fn g fs cs] (Bo (l.any p)):=by
 have e:=idxF_any p l 0
 have hk:=indexFuncI_pc l p hf h
 refine DC.of_run Tryd.func63 rfl Tryd.ntmps63 Tryd.results63 (by simp) (fun _ _=>?_);simp only[argV_cons,argV_nil,go_sem,Nat.zero_add,Nat.reduceAdd]
 repeat' (first|(with_reducible first|refine DS.fltS yU yU yE ?_|refine DS.opsNil ?_|refine DS.seq ?_|refine DS.regionL ?_)|refine DS.pcS inferInstance (hk) yR yT ?_|refine DS.retT [] yE trivial ?_|fail)
 rw[←e];rfl
theorem hallC_pc (n lo hi:Int):PC Tryd.prog 64 [I n, .plc [I lo], .plc [I hi]] (Bo (!decide (lo≤n∧n≤hi))):=by
 refine DC.of_run Tryd.func64 rfl Tryd.ntmps64 Tryd.results64 (by simp) (fun _ _=>?_);simp only[argV_cons,argV_nil,go_sem,Nat.zero_add,Nat.reduceAdd]
 repeat' (first|(with_reducible first|refine DS.fltS yU yU yE ?_|refine DS.opsNil ?_|refine DS.seq ?_|refine DS.regionL ?_)|refine DS.pcS inferInstance (hfrom_pc _ _ _) yR yT ?_|refine DS.retT [] yE trivial ?_|fail)
 rfl
theorem hall_pc (lo hi:Int) (l:List Int):PC Tryd.prog 53 [I lo,I hi,ints l] (Bo (l.all fun n=>decide (lo≤n∧n≤hi))):=by
 have hk:=containsFuncI_pc l (g:=64) (fs:= []) (cs:= [.plc [I lo], .plc [I hi]]) (fun n=> !decide (lo≤n∧n≤hi)) inferInstance (fun m=>hallC_pc m lo hi)
 refine DC.of_run Tryd.func53 rfl Tryd.ntmps53 Tryd.results53 (by simp) (fun _ _=>?_);simp only[argV_cons,argV_nil,go_sem,Nat.zero_add,Nat.reduceAdd]
 repeat' (first|(with_reducible first|refine DS.fltS yU yU yE ?_|refine DS.opsNil ?_|refine DS.seq ?_|refine DS.regionL ?_)|refine DS.pcS inferInstance (hk) yR yT ?_|(refine DS.boxF (t:=3) yU yE yU ?_;simp only[cells_agg,cells_v,cells_lst,cells_fn,map_nil'',map_cons'',copy_own,copy_lst,copy_v,copy_at,copy_agg,copy_fn,copy_ifc,copy_tup])|(refine DS.boxF (t:=4) yU yE yU ?_;simp only[cells_agg,cells_v,cells_lst,cells_fn,map_nil'',map_cons'',copy_own,copy_lst,copy_v,copy_at,copy_agg,copy_fn,copy_ifc,copy_tup])|refine DS.retT [] yE trivial ?_|fail)
 have e:(fun n:Int=>decide ¬(lo≤n∧n≤hi))=fun n=> !decide (lo≤n∧n≤hi):=by
  funext n
  by_cases h:lo≤n∧n≤hi <;> simp[h]
 simp only[tupV,List.all_eq_not_any_not]
 rw[e]
end Go.XL
namespace Go.XL
open Go.Proofs
set_option maxRecDepth 100000
set_option maxHeartbeats 4000000
theorem slEqual_pc (a b : List Int) : PC Tryd.prog 59 [ints a, ints b] (Bo (decide (a = b))) := by
  refine DC.of_run Tryd.func59 rfl Tryd.ntmps59 Tryd.results59 (by simp) (fun _ _ => ?_); simp only [argV_cons, argV_nil, go_sem, Nat.zero_add, Nat.reduceAdd]
  refine DS.bnd (t := 0) yG (.inl rfl) (fun hb0 => ?_); simp only [List.length_map] at hb0
  repeat' (first | (with_reducible first | refine DS.fltS yU yU yE ?_ | refine DS.opsNil ?_ | refine DS.seq ?_ | refine DS.regionL ?_ | (refine DS.cE yE ?_; refine CG.np (fun _ => ?_) (fun _ => ?_)) | refine DS.block ?_ | refine DS.skip ?_) | fail)
  · rename_i h
    repeat' (first | refine DS.retT [] yE trivial ?_ | fail)
    have : a ≠ b := fun e => h (by subst e; rfl)
    simp [tupV, this]
  · rename_i h
    have hl : Box (a.length = b.length) := ⟨by omega⟩
    clear h
    refine DS.loopK [0, 1, 12] yN (fun (i : Nat) => [(13, I i)]) (fun (i : Nat) => i ≤ a.length ∧ a.take i = b.take i) (fun (i : Nat) => a.length - i) 0 yS (by simp) (fun i B hI hB => ?_); try dsimp only at hI hB; simp only [app_cons', app_nil']
    have HB := Box.mk hB
    clear hB
    obtain ⟨hI, hI2⟩ := hI
    have hlo := hl.out
    by_cases hi : (i : Int) < (b.length : Int)
    · have hi' : i < a.length := by omega
      have hb' : i < b.length := by omega
      clear hlo
      have H2 := Box.mk hI2
      clear hI2
      by_cases he : a[i] = b[i]
      · repeat' (first | (with_reducible first | refine DS.fltS yU yU yE ?_ | refine DS.opsNil ?_ | refine DS.seq ?_ | refine DS.regionL ?_ | (refine DS.cE yE ?_; first | refine CG.yes ?_ | refine CG.no ?_) | refine DS.blk ?_ | refine DS.block ?_ | refine DS.skip ?_) | refine DS.drawL (id := 6) [0, 1, 2, 3, 4, 5, 6, 7] 8 (by kernel_rfl) mixed (by simp only [pickL_cons, pickL_nil, get_zero', get_cons', pickO_some]; exact rfl) (by simp only [drop_zero', drop_cons', List.drop_nil]; exact rfl) ?_ | (with_reducible first | refine DD.fltS yU yU yU yE ?_ | refine DD.nil0 ?_) | fail)
        all_goals first
          | exact DS.back (HB.out (i + 1) _ _ (by omega) ⟨by omega, take_succ_eq H2.out hi' hb' he⟩ yS yS (fun b o e => by cases e))
          | (exfalso; omega)
      · repeat' (first | (with_reducible first | refine DS.fltS yU yU yE ?_ | refine DS.opsNil ?_ | refine DS.seq ?_ | refine DS.regionL ?_ | (refine DS.cE yE ?_; refine CG.yes ?_) | refine DS.block ?_ | refine DS.skip ?_) | refine DS.drawL (id := 6) [0, 1, 2, 3, 4, 5, 6, 7] 8 (by kernel_rfl) mixed (by simp only [pickL_cons, pickL_nil, get_zero', get_cons', pickO_some]; exact rfl) (by simp only [drop_zero', drop_cons', List.drop_nil]; exact rfl) ?_ | (with_reducible first | refine DD.fltS yU yU yU yE ?_ | refine DD.nil0 ?_) | refine DS.retT [] yE trivial ?_ | fail)
        all_goals first
          | (have : a ≠ b := fun e => he (by subst e; rfl)
             simp [tupV, this]; done)
          | (exfalso; omega)
    · repeat' (first | (with_reducible first | refine DS.fltS yU yU yE ?_ | refine DS.opsNil ?_ | refine DS.seq ?_ | refine DS.regionL ?_ | (refine DS.cE yE ?_; refine CG.no ?_) | refine DS.exit yU ?_) | refine DS.retT [] yE trivial ?_ | fail)
      have : a = b := by
        rw [List.take_of_length_le (by omega), List.take_of_length_le (by omega)] at hI2
        exact hI2
      simp [tupV, this]
theorem fkGo_at {k copies:Int} {sv:Bool} {l:List Int} {i:Nat} (hi:i<l.length) (p:Option Int) (many:Int):fkGo k copies sv (l.drop i) p many=if ¬(0≤l[i]∧l[i]≤k-1)then 2 else
   if anyO (fun q=>decide (l[i]<q) || (!sv&&decide (l[i]=q))) p=true then 11 else
   if sv=true∧(if anyO (fun q=>decide (l[i]=q)) p=true then many else 0)+1 > copies then 8 else fkGo k copies sv (l.drop (i+1)) (some l[i]) ((if anyO (fun q=>decide (l[i]=q)) p=true then many else 0)+1):=by
 rw[List.drop_eq_getElem_cons hi,fkGo]
theorem fkinds_t (s : GSet) (l : List Int) (h0 : gsetS s = 0) : PC Tryd.prog 60 [s.val, ints l, Bo true] (I (fkGo s.plain s.copies true l none 0)) := by
  have ok := gset_ok h0
  have hc := ok.copies
  have ek : kindsS s = s.plain := by rw [kindsS, if_neg (by omega)]
  have hk := tkinds_pc s
  rw [ek] at hk
  clear ek ok h0
  refine DC.of_run Tryd.func60 rfl Tryd.ntmps60 Tryd.results60 (by simp) (fun _ _ => ?_); simp only [argV_cons, argV_nil, go_sem, Nat.zero_add, Nat.reduceAdd]
  refine DS.bnd (t := 1) yG (.inl rfl) (fun hb1 => ?_); simp only [List.length_map] at hb1
  repeat' (first | (with_reducible first | refine DS.fltS yU yU yE ?_ | refine DS.opsNil ?_ | refine DS.seq ?_ | refine DS.regionL ?_ | refine DS.block ?_) | (refine DS.boxF (t := 3) yU yE yU ?_; simp only [cells_agg, cells_v, cells_lst, cells_fn, map_nil'', map_cons'', copy_own, copy_lst, copy_v, copy_at, copy_agg, copy_fn, copy_ifc, copy_tup]) | fail)
  refine DS.loopK [1, 2, 3, 11, 12] yN (fun (z : Nat × Int) => [(7, I z.2), (13, I z.1)]) (fun (z : Nat × Int) => z.1 ≤ l.length ∧ 0 ≤ z.2 ∧ z.2 ≤ z.1 ∧ fkGo s.plain s.copies true l none 0 = fkGo s.plain s.copies true (l.drop z.1) (prevL l z.1) z.2) (fun (z : Nat × Int) => l.length - z.1) (0, 0) yS ⟨Nat.zero_le _, Int.le_refl _, Int.le_refl _, rfl⟩ (fun z B hI hB => ?_); try dsimp only at hI hB; simp only [app_cons', app_nil']
  have HB := Box.mk hB
  clear hB
  obtain ⟨i, m⟩ := z
  dsimp only at hI ⊢
  obtain ⟨hI, hm1, hm2, hI2⟩ := hI
  by_cases hi : (i : Int) < (l.length : Int)
  · have hi' : i < l.length := by omega
    have hp : i - 1 < l.length := by omega
    rw [fkGo_at hi'] at hI2
    have HI := Box.mk hI2
    clear hI2
    by_cases he : (0 : Int) < i ∧ l[i] = l[i - 1]
    · obtain ⟨he1, he2⟩ := he
      repeat' (first | (with_reducible first | refine DS.fltS yU yU yE ?_ | refine DS.opsNil ?_ | refine DS.seq ?_ | refine DS.regionL ?_ | (refine DS.cE yE ?_; first | refine CG.p (fun _ => ?_) (fun _ => ?_) | refine CG.yes ?_ | refine CG.no ?_) | (refine DS.gE yU yE ?_; first | refine GG.sU ?_ | refine GG.pT (fun _ => ?_) (fun _ => ?_) | refine GG.pF (fun _ => ?_) (fun _ => ?_) | refine GG.run ?_ | refine GG.sT ?_) | refine DS.blk ?_ | refine DS.block ?_ | refine DS.skip ?_) | refine DS.pcS inferInstance (hk) yR yT ?_ | refine DS.retT [] yE trivial ?_ | fail)
      all_goals first
        | (exfalso; omega)
        | ((try rw [prevL_zero (by assumption)] at HI); (try rw [prevL_pos (by assumption) hp] at HI); simp only [anyO_none, anyO_some, Bool.not_true, Bool.not_false, Bool.false_and, Bool.true_and, Bool.or_false, Bool.or_eq_true, decide_eq_true_eq, true_and, false_and, Bool.false_eq_true, if_false] at HI
           first
            | (rw [HI.out]; (repeat' split) <;> first | rfl | (exfalso; omega))
            | exact DS.back (HB.out (i + 1, m + 1) _ _ (by dsimp only; omega) ⟨by dsimp only; omega, by dsimp only; omega, by dsimp only; omega, by rw [HI.out, prevL_succ hi']; (repeat' split) <;> first | rfl | (exfalso; omega)⟩ yS yS (fun b o e => by cases e)))
    · repeat' (first | (with_reducible first | refine DS.fltS yU yU yE ?_ | refine DS.opsNil ?_ | refine DS.seq ?_ | refine DS.regionL ?_ | (refine DS.cE yE ?_; first | refine CG.p (fun _ => ?_) (fun _ => ?_) | refine CG.yes ?_ | refine CG.no ?_) | (refine DS.gE yU yE ?_; first | refine GG.sU ?_ | refine GG.pT (fun _ => ?_) (fun _ => ?_) | refine GG.pF (fun _ => ?_) (fun _ => ?_) | refine GG.run ?_ | refine GG.sF ?_ | refine GG.sT ?_) | refine DS.blk ?_ | refine DS.block ?_ | refine DS.skip ?_) | refine DS.pcS inferInstance (hk) yR yT ?_ | refine DS.retT [] yE trivial ?_ | fail)
      all_goals first
        | (exfalso; omega)
        | ((try rw [prevL_zero (by assumption)] at HI); (try rw [prevL_pos (by assumption) hp] at HI); simp only [anyO_none, anyO_some, Bool.not_true, Bool.not_false, Bool.false_and, Bool.true_and, Bool.or_false, Bool.or_eq_true, decide_eq_true_eq, true_and, false_and, Bool.false_eq_true, if_false] at HI
           first
            | (rw [HI.out]; (repeat' split) <;> first | rfl | (exfalso; omega))
            | exact DS.back (HB.out (i + 1, 1) _ _ (by dsimp only; omega) ⟨by dsimp only; omega, by dsimp only; omega, by dsimp only; omega, by rw [HI.out, prevL_succ hi']; (repeat' split) <;> first | rfl | (exfalso; omega)⟩ yS yS (fun b o e => by cases e)))
  · repeat' (first | (with_reducible first | refine DS.fltS yU yU yE ?_ | refine DS.opsNil ?_ | refine DS.seq ?_ | refine DS.regionL ?_ | (refine DS.cE yE ?_; refine CG.no ?_) | refine DS.exit yU ?_) | refine DS.retT [] yE trivial ?_ | fail)
    rw [hI2, drop_end hi]; rfl
theorem fkinds_f (s : GSet) (l : List Int) (h0 : gsetS s = 0) : PC Tryd.prog 60 [s.val, ints l, Bo false] (I (fkGo s.plain s.copies false l none 0)) := by
  have ok := gset_ok h0
  have hc := ok.copies
  have ek : kindsS s = s.plain := by rw [kindsS, if_neg (by omega)]
  have hk := tkinds_pc s
  rw [ek] at hk
  clear ek ok h0
  refine DC.of_run Tryd.func60 rfl Tryd.ntmps60 Tryd.results60 (by simp) (fun _ _ => ?_); simp only [argV_cons, argV_nil, go_sem, Nat.zero_add, Nat.reduceAdd]
  refine DS.bnd (t := 1) yG (.inl rfl) (fun hb1 => ?_); simp only [List.length_map] at hb1
  repeat' (first | (with_reducible first | refine DS.fltS yU yU yE ?_ | refine DS.opsNil ?_ | refine DS.seq ?_ | refine DS.regionL ?_ | refine DS.block ?_) | (refine DS.boxF (t := 3) yU yE yU ?_; simp only [cells_agg, cells_v, cells_lst, cells_fn, map_nil'', map_cons'', copy_own, copy_lst, copy_v, copy_at, copy_agg, copy_fn, copy_ifc, copy_tup]) | fail)
  refine DS.loopK [1, 2, 3, 11, 12] yN (fun (z : Nat × Int) => [(7, I z.2), (13, I z.1)]) (fun (z : Nat × Int) => z.1 ≤ l.length ∧ 0 ≤ z.2 ∧ z.2 ≤ z.1 ∧ fkGo s.plain s.copies false l none 0 = fkGo s.plain s.copies false (l.drop z.1) (prevL l z.1) z.2) (fun (z : Nat × Int) => l.length - z.1) (0, 0) yS ⟨Nat.zero_le _, Int.le_refl _, Int.le_refl _, rfl⟩ (fun z B hI hB => ?_); try dsimp only at hI hB; simp only [app_cons', app_nil']
  have HB := Box.mk hB
  clear hB
  obtain ⟨i, m⟩ := z
  dsimp only at hI ⊢
  obtain ⟨hI, hm1, hm2, hI2⟩ := hI
  by_cases hi : (i : Int) < (l.length : Int)
  · have hi' : i < l.length := by omega
    have hp : i - 1 < l.length := by omega
    rw [fkGo_at hi'] at hI2
    have HI := Box.mk hI2
    clear hI2
    by_cases he : (0 : Int) < i ∧ l[i] = l[i - 1]
    · obtain ⟨he1, he2⟩ := he
      repeat' (first | (with_reducible first | refine DS.fltS yU yU yE ?_ | refine DS.opsNil ?_ | refine DS.seq ?_ | refine DS.regionL ?_ | (refine DS.cE yE ?_; first | refine CG.p (fun _ => ?_) (fun _ => ?_) | refine CG.yes ?_) | (refine DS.gE yU yE ?_; first | refine GG.sU ?_ | refine GG.pF (fun _ => ?_) (fun _ => ?_) | refine GG.run ?_ | refine GG.sT ?_) | refine DS.block ?_ | refine DS.skip ?_) | refine DS.pcS inferInstance (hk) yR yT ?_ | refine DS.retT [] yE trivial ?_ | fail)
      all_goals first
        | (exfalso; omega)
        | ((try rw [prevL_zero (by assumption)] at HI); (try rw [prevL_pos (by assumption) hp] at HI); simp only [anyO_none, anyO_some, Bool.not_true, Bool.not_false, Bool.false_and, Bool.true_and, Bool.or_false, Bool.or_eq_true, decide_eq_true_eq, true_and, false_and, Bool.false_eq_true, if_false] at HI
           first
            | (rw [HI.out]; (repeat' split) <;> first | rfl | (exfalso; omega))
            | exact DS.back (HB.out (i + 1, m + 1) _ _ (by dsimp only; omega) ⟨by dsimp only; omega, by dsimp only; omega, by dsimp only; omega, by rw [HI.out, prevL_succ hi']; (repeat' split) <;> first | rfl | (exfalso; omega)⟩ yS yS (fun b o e => by cases e)))
    · repeat' (first | (with_reducible first | refine DS.fltS yU yU yE ?_ | refine DS.opsNil ?_ | refine DS.seq ?_ | refine DS.regionL ?_ | (refine DS.cE yE ?_; first | refine CG.p (fun _ => ?_) (fun _ => ?_) | refine CG.yes ?_ | refine CG.no ?_) | (refine DS.gE yU yE ?_; first | refine GG.sU ?_ | refine GG.pT (fun _ => ?_) (fun _ => ?_) | refine GG.pF (fun _ => ?_) (fun _ => ?_) | refine GG.run ?_ | refine GG.sF ?_ | refine GG.sT ?_) | refine DS.blk ?_ | refine DS.block ?_ | refine DS.skip ?_) | refine DS.pcS inferInstance (hk) yR yT ?_ | refine DS.retT [] yE trivial ?_ | fail)
      all_goals first
        | (exfalso; omega)
        | ((try rw [prevL_zero (by assumption)] at HI); (try rw [prevL_pos (by assumption) hp] at HI); simp only [anyO_none, anyO_some, Bool.not_true, Bool.not_false, Bool.false_and, Bool.true_and, Bool.or_false, Bool.or_eq_true, decide_eq_true_eq, true_and, false_and, Bool.false_eq_true, if_false] at HI
           first
            | (rw [HI.out]; (repeat' split) <;> first | rfl | (exfalso; omega))
            | exact DS.back (HB.out (i + 1, 1) _ _ (by dsimp only; omega) ⟨by dsimp only; omega, by dsimp only; omega, by dsimp only; omega, by rw [HI.out, prevL_succ hi']; (repeat' split) <;> first | rfl | (exfalso; omega)⟩ yS yS (fun b o e => by cases e)))
  · repeat' (first | (with_reducible first | refine DS.fltS yU yU yE ?_ | refine DS.opsNil ?_ | refine DS.seq ?_ | refine DS.regionL ?_ | (refine DS.cE yE ?_; refine CG.no ?_) | refine DS.exit yU ?_) | refine DS.retT [] yE trivial ?_ | fail)
    rw [hI2, drop_end hi]; rfl
theorem fkinds_pc (s:GSet) (l:List Int) (sv:Bool) (h0:gsetS s=0):PC Tryd.prog 60 [s.val,ints l,Bo sv] (I (fkGo s.plain s.copies sv l none 0)):=by
 cases sv
 ·exact fkinds_f s l h0
 ·exact fkinds_t s l h0
end Go.XL
namespace Go.XL
open Go.Proofs
set_option maxRecDepth 100000
set_option maxHeartbeats 4000000
theorem formS_ok {s:GSet} {f:Form} (h0:gsetS s=0) (hw:1≤f.what∧f.what≤6):formS s f=if f.wrong s=true then 3 else fkGo s.plain s.copies (decide (f.what=6)) f.kinds none 0:=by
 rw[formS,if_neg (by omega),if_neg (by omega)]
theorem form_pc (s:GSet) (f:Form):PC Tryd.prog 49 [s.val,f.val] (I (formS s f)):=by
 by_cases h0:gsetS s=0
 ·have ok:=gset_ok h0
  have hm:=ok.melds
  clear ok
  have hk:=fun sv=>fkinds_pc s f.kinds sv h0
  have hc:=tcheck_pc s
  rw[h0]at hc
  by_cases hw:1≤f.what∧f.what≤6
  ·rw[formS_ok h0 hw]
   have hcase:f.what=1∨f.what=2∨f.what=3∨f.what=4∨f.what=5∨f.what=6:=by omega
   clear hw h0
   rcases hcase with h|h|h|h|h|h
   ·refine DC.of_run Tryd.func49 rfl Tryd.ntmps49 Tryd.results49 (by simp) (fun _ _=>?_);simp only[argV_cons,argV_nil,go_sem,Nat.zero_add,Nat.reduceAdd]
    repeat' (first|(with_reducible first|refine DS.fltS yU yU yE ?_|refine DS.opsNil ?_|refine DS.seq ?_|refine DS.regionL ?_|(refine DS.cE yE ?_;first|refine CG.yes ?_|refine CG.no ?_)|(refine DS.gE yU yE ?_;first|refine GG.sU ?_|refine GG.pT (fun _=>?_) (fun _=>?_)|refine GG.run ?_|refine GG.sF ?_|refine GG.sT ?_|refine GG.bT (fun _=>?_) (fun _=>?_))|refine DS.blk ?_|refine DS.block ?_|refine DS.skip ?_)|refine DS.pcS inferInstance (hc) yR yT ?_|refine DS.pcS inferInstance (hk _) yR yT ?_|(refine DS.boxF (t:=2) yU yE yU ?_;simp only[cells_agg,cells_v,cells_lst,cells_fn,map_nil'',map_cons'',copy_own,copy_lst,copy_v,copy_at,copy_agg,copy_fn,copy_ifc,copy_tup])|(refine DS.boxF (t:=3) yU yE yU ?_;simp only[cells_agg,cells_v,cells_lst,cells_fn,map_nil'',map_cons'',copy_own,copy_lst,copy_v,copy_at,copy_agg,copy_fn,copy_ifc,copy_tup])|refine DS.retT [] yE trivial ?_|fail)
    all_goals (split <;> first|rfl|(simp[tupV,h];done)|(exfalso;clear hc hk;(try clear he);grind [Form.wrong]))
   ·refine DC.of_run Tryd.func49 rfl Tryd.ntmps49 Tryd.results49 (by simp) (fun _ _=>?_);simp only[argV_cons,argV_nil,go_sem,Nat.zero_add,Nat.reduceAdd]
    repeat' (first|(with_reducible first|refine DS.fltS yU yU yE ?_|refine DS.opsNil ?_|refine DS.seq ?_|refine DS.regionL ?_|(refine DS.cE yE ?_;first|refine CG.p (fun _=>?_) (fun _=>?_)|refine CG.yes ?_|refine CG.no ?_)|(refine DS.gE yU yE ?_;first|refine GG.sU ?_|refine GG.pT (fun _=>?_) (fun _=>?_)|refine GG.run ?_|refine GG.sF ?_|refine GG.sT ?_|refine GG.bT (fun _=>?_) (fun _=>?_))|refine DS.blk ?_|refine DS.block ?_|refine DS.skip ?_)|refine DS.pcS inferInstance (hc) yR yT ?_|refine DS.pcS inferInstance (hk _) yR yT ?_|(refine DS.boxF (t:=2) yU yE yU ?_;simp only[cells_agg,cells_v,cells_lst,cells_fn,map_nil'',map_cons'',copy_own,copy_lst,copy_v,copy_at,copy_agg,copy_fn,copy_ifc,copy_tup])|(refine DS.boxF (t:=3) yU yE yU ?_;simp only[cells_agg,cells_v,cells_lst,cells_fn,map_nil'',map_cons'',copy_own,copy_lst,copy_v,copy_at,copy_agg,copy_fn,copy_ifc,copy_tup])|refine DS.retT [] yE trivial ?_|fail)
    all_goals (split <;> first|rfl|(simp[tupV,h];done)|(exfalso;clear hc hk;(try clear he);grind [Form.wrong]))
   ·refine DC.of_run Tryd.func49 rfl Tryd.ntmps49 Tryd.results49 (by simp) (fun _ _=>?_);simp only[argV_cons,argV_nil,go_sem,Nat.zero_add,Nat.reduceAdd]
    repeat' (first|(with_reducible first|refine DS.fltS yU yU yE ?_|refine DS.opsNil ?_|refine DS.seq ?_|refine DS.regionL ?_|(refine DS.cE yE ?_;first|refine CG.np (fun _=>?_) (fun _=>?_)|refine CG.yes ?_|refine CG.no ?_)|(refine DS.gE yU yE ?_;first|refine GG.pT (fun _=>?_) (fun _=>?_)|refine GG.run ?_|refine GG.sF ?_|refine GG.sT ?_|refine GG.bT (fun _=>?_) (fun _=>?_))|refine DS.blk ?_|refine DS.block ?_|refine DS.skip ?_)|refine DS.pcS inferInstance (hc) yR yT ?_|refine DS.pcS inferInstance (hk _) yR yT ?_|(refine DS.boxF (t:=2) yU yE yU ?_;simp only[cells_agg,cells_v,cells_lst,cells_fn,map_nil'',map_cons'',copy_own,copy_lst,copy_v,copy_at,copy_agg,copy_fn,copy_ifc,copy_tup])|(refine DS.boxF (t:=3) yU yE yU ?_;simp only[cells_agg,cells_v,cells_lst,cells_fn,map_nil'',map_cons'',copy_own,copy_lst,copy_v,copy_at,copy_agg,copy_fn,copy_ifc,copy_tup])|refine DS.retT [] yE trivial ?_|fail)
    all_goals (split <;> first|rfl|(simp[tupV,h];done)|(exfalso;clear hc hk;(try clear he);grind [Form.wrong]))
   ·refine DC.of_run Tryd.func49 rfl Tryd.ntmps49 Tryd.results49 (by simp) (fun _ _=>?_);simp only[argV_cons,argV_nil,go_sem,Nat.zero_add,Nat.reduceAdd]
    repeat' (first|(with_reducible first|refine DS.fltS yU yU yE ?_|refine DS.opsNil ?_|refine DS.seq ?_|refine DS.regionL ?_|(refine DS.cE yE ?_;first|refine CG.yes ?_|refine CG.no ?_)|(refine DS.gE yU yE ?_;first|refine GG.sU ?_|refine GG.pT (fun _=>?_) (fun _=>?_)|refine GG.run ?_|refine GG.sF ?_|refine GG.sT ?_|refine GG.bT (fun _=>?_) (fun _=>?_))|refine DS.blk ?_|refine DS.block ?_|refine DS.skip ?_)|refine DS.pcS inferInstance (hc) yR yT ?_|refine DS.pcS inferInstance (hk _) yR yT ?_|(refine DS.boxF (t:=2) yU yE yU ?_;simp only[cells_agg,cells_v,cells_lst,cells_fn,map_nil'',map_cons'',copy_own,copy_lst,copy_v,copy_at,copy_agg,copy_fn,copy_ifc,copy_tup])|(refine DS.boxF (t:=3) yU yE yU ?_;simp only[cells_agg,cells_v,cells_lst,cells_fn,map_nil'',map_cons'',copy_own,copy_lst,copy_v,copy_at,copy_agg,copy_fn,copy_ifc,copy_tup])|refine DS.retT [] yE trivial ?_|fail)
    all_goals (split <;> first|rfl|(simp[tupV,h];done)|(exfalso;clear hc hk;(try clear he);grind [Form.wrong]))
   ·have he:=slEqual_pc s.suits [9,9,9]
    obtain⟨b,hb⟩: ∃b,b=decide (s.suits= [9,9,9]):=⟨_,rfl⟩
    rw[←hb]at he
    have HB:=Box.mk hb
    clear hb
    refine DC.of_run Tryd.func49 rfl Tryd.ntmps49 Tryd.results49 (by simp) (fun _ _=>?_);simp only[argV_cons,argV_nil,go_sem,Nat.zero_add,Nat.reduceAdd]
    repeat' (first|(with_reducible first|refine DS.fltS yU yU yE ?_|refine DS.opsNil ?_|refine DS.seq ?_|refine DS.regionL ?_|(refine DS.cE yE ?_;first|refine CG.p (fun _=>?_) (fun _=>?_)|refine CG.yes ?_|refine CG.no ?_)|(refine DS.gE yU yE ?_;first|refine GG.sU ?_|refine GG.pT (fun _=>?_) (fun _=>?_)|refine GG.run ?_|refine GG.sF ?_|refine GG.sT ?_|refine GG.nF (fun _=>?_) (fun _=>?_)|refine GG.bT (fun _=>?_) (fun _=>?_))|refine DS.blk ?_|refine DS.block ?_|refine DS.skip ?_)|(refine DS.bsl yU yE yE ?_;simp only[go_sem,Nat.zero_add,Nat.reduceAdd])|refine DS.pcS inferInstance (hc) yR yT ?_|refine DS.pcS inferInstance (hk _) yR yT ?_|refine DS.pcS inferInstance (he) yR yT ?_|(refine DS.boxF (t:=2) yU yE yU ?_;simp only[cells_agg,cells_v,cells_lst,cells_fn,map_nil'',map_cons'',copy_own,copy_lst,copy_v,copy_at,copy_agg,copy_fn,copy_ifc,copy_tup])|(refine DS.boxF (t:=3) yU yE yU ?_;simp only[cells_agg,cells_v,cells_lst,cells_fn,map_nil'',map_cons'',copy_own,copy_lst,copy_v,copy_at,copy_agg,copy_fn,copy_ifc,copy_tup])|refine DS.retT [] yE trivial ?_|fail)
    all_goals (have hb:=HB.out;clear HB;split <;> first|rfl|(simp[tupV,h];done)|(exfalso;clear hc hk;(try clear he);grind [Form.wrong]))
   ·refine DC.of_run Tryd.func49 rfl Tryd.ntmps49 Tryd.results49 (by simp) (fun _ _=>?_);simp only[argV_cons,argV_nil,go_sem,Nat.zero_add,Nat.reduceAdd]
    repeat' (first|(with_reducible first|refine DS.fltS yU yU yE ?_|refine DS.opsNil ?_|refine DS.seq ?_|refine DS.regionL ?_|(refine DS.cE yE ?_;first|refine CG.np (fun _=>?_) (fun _=>?_)|refine CG.yes ?_|refine CG.no ?_)|(refine DS.gE yU yE ?_;first|refine GG.pT (fun _=>?_) (fun _=>?_)|refine GG.run ?_|refine GG.sF ?_|refine GG.sT ?_|refine GG.bT (fun _=>?_) (fun _=>?_))|refine DS.blk ?_|refine DS.block ?_|refine DS.skip ?_)|refine DS.pcS inferInstance (hc) yR yT ?_|refine DS.pcS inferInstance (hk _) yR yT ?_|(refine DS.boxF (t:=2) yU yE yU ?_;simp only[cells_agg,cells_v,cells_lst,cells_fn,map_nil'',map_cons'',copy_own,copy_lst,copy_v,copy_at,copy_agg,copy_fn,copy_ifc,copy_tup])|(refine DS.boxF (t:=3) yU yE yU ?_;simp only[cells_agg,cells_v,cells_lst,cells_fn,map_nil'',map_cons'',copy_own,copy_lst,copy_v,copy_at,copy_agg,copy_fn,copy_ifc,copy_tup])|refine DS.retT [] yE trivial ?_|fail)
    all_goals (split <;> first|rfl|(simp[tupV,h];done)|(exfalso;clear hc hk;(try clear he);grind [Form.wrong]))
  ·rw[formS,if_neg (by omega),if_pos hw]
   refine DC.of_run Tryd.func49 rfl Tryd.ntmps49 Tryd.results49 (by simp) (fun _ _=>?_);simp only[argV_cons,argV_nil,go_sem,Nat.zero_add,Nat.reduceAdd]
   repeat' (first|(with_reducible first|refine DS.fltS yU yU yE ?_|refine DS.opsNil ?_|refine DS.seq ?_|refine DS.regionL ?_|(refine DS.cE yE ?_;first|refine CG.np (fun _=>?_) (fun _=>?_)|refine CG.p (fun _=>?_) (fun _=>?_)|refine CG.yes ?_|refine CG.no ?_)|(refine DS.gE yU yE ?_;first|refine GG.sU ?_|refine GG.npF (fun _=>?_) (fun _=>?_)|refine GG.pT (fun _=>?_) (fun _=>?_)|refine GG.pF (fun _=>?_) (fun _=>?_)|refine GG.run ?_|refine GG.sF ?_|refine GG.sT ?_|refine GG.bT (fun _=>?_) (fun _=>?_))|refine DS.blk ?_|refine DS.block ?_|refine DS.skip ?_)|(refine DS.bsl yU yE yE ?_;simp only[go_sem,Nat.zero_add,Nat.reduceAdd])|refine DS.pcS inferInstance (hc) yR yT ?_|refine DS.pcS inferInstance (hk _) yR yT ?_|(refine DS.boxF (t:=2) yU yE yU ?_;simp only[cells_agg,cells_v,cells_lst,cells_fn,map_nil'',map_cons'',copy_own,copy_lst,copy_v,copy_at,copy_agg,copy_fn,copy_ifc,copy_tup])|(refine DS.boxF (t:=3) yU yE yU ?_;simp only[cells_agg,cells_v,cells_lst,cells_fn,map_nil'',map_cons'',copy_own,copy_lst,copy_v,copy_at,copy_agg,copy_fn,copy_ifc,copy_tup])|refine DS.retT [] yE trivial ?_|fail)
   all_goals first|rfl|(exfalso;omega)
 ·have hc:=tcheck_pc s
  rw[formS,if_pos h0]
  refine DC.of_run Tryd.func49 rfl Tryd.ntmps49 Tryd.results49 (by simp) (fun _ _=>?_);simp only[argV_cons,argV_nil,go_sem,Nat.zero_add,Nat.reduceAdd]
  repeat' (first|(with_reducible first|refine DS.fltS yU yU yE ?_|refine DS.opsNil ?_|refine DS.seq ?_|refine DS.regionL ?_|(refine DS.cE yE ?_;refine CG.yes ?_))|refine DS.pcS inferInstance (hc) yR yT ?_|(refine DS.boxF (t:=2) yU yE yU ?_;simp only[cells_agg,cells_v,cells_lst,cells_fn,map_nil'',map_cons'',copy_own,copy_lst,copy_v,copy_at,copy_agg,copy_fn,copy_ifc,copy_tup])|(refine DS.boxF (t:=3) yU yE yU ?_;simp only[cells_agg,cells_v,cells_lst,cells_fn,map_nil'',map_cons'',copy_own,copy_lst,copy_v,copy_at,copy_agg,copy_fn,copy_ifc,copy_tup])|refine DS.retT [] yE trivial ?_|fail)
  all_goals first|rfl|(exfalso;omega)
end Go.XL
namespace Go.XL
open Go.Proofs
set_option maxRecDepth 100000
set_option maxHeartbeats 4000000
theorem formsGo_at {s:GSet} {l:List Form} {i:Nat} (hi:i<l.length):formsGo s (l.drop i)=if formS s l[i]≠0 then formS s l[i]else formsGo s (l.drop (i+1)):=by
 rw[List.drop_eq_getElem_cons hi,formsGo]
theorem forms_pc (s:GSet) (l:List Form):PC Tryd.prog 38 [s.val,formsV l] (I (formsS s l)):=by
 have hc:=tcheck_pc s
 refine DC.of_run Tryd.func38 rfl Tryd.ntmps38 Tryd.results38 (by simp) (fun _ _=>?_);simp only[argV_cons,argV_nil,go_sem,Nat.zero_add,Nat.reduceAdd]
 refine DS.bnd (t:=1) yG (.inl rfl) (fun hb1=>?_);simp only[List.length_map]at hb1
 by_cases h0:gsetS s=0
 ·rw[h0]at hc
  repeat' (first|(with_reducible first|refine DS.fltS yU yU yE ?_|refine DS.opsNil ?_|refine DS.seq ?_|refine DS.regionL ?_|(refine DS.cE yE ?_;first|refine CG.p (fun _=>?_) (fun _=>?_)|refine CG.no ?_)|refine DS.blk ?_|refine DS.block ?_|refine DS.skip ?_)|refine DS.pcS inferInstance (hc) yR yT ?_|(refine DS.boxF (t:=2) yU yE yU ?_;simp only[cells_agg,cells_v,cells_lst,cells_fn,map_nil'',map_cons'',copy_own,copy_lst,copy_v,copy_at,copy_agg,copy_fn,copy_ifc,copy_tup])|refine DS.retT [] yE trivial ?_|fail)
  all_goals try first|(rw[formsS,if_neg (by omega),if_pos (by omega)];rfl)|(rw[formsS,if_neg (by omega),if_neg (by omega),if_pos (by omega)];rfl)
  refine DS.loopK [2,22,23] yN (fun(i:Nat)=> [(24,I i)]) (fun(i:Nat)=>i≤l.length∧formsS s l=formsGo s (l.drop i)) (fun(i:Nat)=>l.length-i) 0 yS ⟨Nat.zero_le _,by rw[formsS,if_neg (by omega),if_neg (by omega),if_neg (by omega)];rfl⟩ (fun i B hI hB=>?_);try dsimp only at hI hB;simp only[app_cons',app_nil']
  have HB:=Box.mk hB
  clear hB
  obtain⟨hI,hI2⟩:=hI
  by_cases hi:(i:Int)<(l.length:Int)
  ·have hi':i<l.length:=by omega
   rw[formsGo_at hi']at hI2
   have HI:=Box.mk hI2
   clear hI2
   have hf:=form_pc s l[i]
   by_cases he:formS s l[i]=0
   ·rw[he]at hf
    repeat' (first|(with_reducible first|refine DS.fltS yU yU yE ?_|refine DS.opsNil ?_|refine DS.seq ?_|refine DS.regionL ?_|(refine DS.cE yE ?_;first|refine CG.yes ?_|refine CG.no ?_)|refine DS.blk ?_|refine DS.block ?_|refine DS.skip ?_)|(refine DS.letF (t:=7) yU yE yU (fun _=>yE) yE yU (by exact⟨by with_unfolding_all rfl,by with_unfolding_all decide⟩) (fun _=>by simp only[go_sem,Nat.reduceEqDiff,↓reduceIte]) ?_;simp only[go_sem])|refine DS.pcS inferInstance (hf) yR yT ?_|fail)
    exact DS.back (HB.out (i+1) _ _ (by omega) ⟨by omega,by rw[HI.out,if_neg (by omega)]⟩ yS yS (fun b o e=>by cases e))
   ·repeat' (first|(with_reducible first|refine DS.fltS yU yU yE ?_|refine DS.opsNil ?_|refine DS.seq ?_|refine DS.regionL ?_|(refine DS.cE yE ?_;refine CG.yes ?_)|refine DS.block ?_|refine DS.skip ?_)|(refine DS.letF (t:=7) yU yE yU (fun _=>yE) yE yU (by exact⟨by with_unfolding_all rfl,by with_unfolding_all decide⟩) (fun _=>by simp only[go_sem,Nat.reduceEqDiff,↓reduceIte]) ?_;simp only[go_sem])|refine DS.pcS inferInstance (hf) yR yT ?_|refine DS.retT [] yE trivial ?_|fail)
    all_goals first|(rw[HI.out,if_pos he];rfl)|(exfalso;omega)
  ·repeat' (first|(with_reducible first|refine DS.fltS yU yU yE ?_|refine DS.opsNil ?_|refine DS.seq ?_|refine DS.regionL ?_|(refine DS.cE yE ?_;refine CG.no ?_)|refine DS.exit yU ?_)|refine DS.retT [] yE trivial ?_|fail)
   rw[hI2,drop_end hi];rfl
 ·repeat' (first|(with_reducible first|refine DS.fltS yU yU yE ?_|refine DS.opsNil ?_|refine DS.seq ?_|refine DS.regionL ?_|(refine DS.cE yE ?_;refine CG.yes ?_))|refine DS.pcS inferInstance (hc) yR yT ?_|(refine DS.boxF (t:=2) yU yE yU ?_;simp only[cells_agg,cells_v,cells_lst,cells_fn,map_nil'',map_cons'',copy_own,copy_lst,copy_v,copy_at,copy_agg,copy_fn,copy_ifc,copy_tup])|refine DS.retT [] yE trivial ?_|fail)
  all_goals first|(rw[formsS,if_pos h0];rfl)|(exfalso;omega)
theorem othersGo_at {own many:Int} {l:List Int} {i:Nat} (hi:i<l.length) (p:Option Int):othersGo own many (l.drop i) p=if ¬(0≤l[i]∧l[i]≤many-1)then 2 else if l[i]=own then 12 else if anyO (fun q=>decide (l[i]≤q)) p=true then 11 else othersGo own many (l.drop (i+1)) (some l[i]):=by
 rw[List.drop_eq_getElem_cons hi,othersGo]
theorem others_pc (l : List Int) (own many : Int) (hm : 0 ≤ many ∧ many ≤ 1000000) : PC Tryd.prog 54 [ints l, I own, I many] (I (othersS l own many)) := by
  refine DC.of_run Tryd.func54 rfl Tryd.ntmps54 Tryd.results54 (by simp) (fun _ _ => ?_); simp only [argV_cons, argV_nil, go_sem, Nat.zero_add, Nat.reduceAdd]
  refine DS.bnd (t := 0) yG (.inl rfl) (fun hb0 => ?_); simp only [List.length_map] at hb0
  repeat' (first | (with_reducible first | refine DS.fltS yU yU yE ?_ | refine DS.opsNil ?_ | refine DS.seq ?_ | refine DS.regionL ?_ | (refine DS.cE yE ?_; refine CG.p (fun _ => ?_) (fun _ => ?_)) | refine DS.block ?_ | refine DS.skip ?_) | refine DS.retT [] yE trivial ?_ | fail)
  · simp [tupV, othersS, *]
  refine DS.loopK [0, 1, 2, 12, 13] yN (fun (i : Nat) => [(14, I i)]) (fun (i : Nat) => i ≤ l.length ∧ othersS l own many = othersGo own many (l.drop i) (prevL l i)) (fun (i : Nat) => l.length - i) 0 yS (by simp [othersS, prevL, *]) (fun i B hI hB => ?_); try dsimp only at hI hB; simp only [app_cons', app_nil']
  have HB := Box.mk hB
  clear hB
  obtain ⟨hI, hI2⟩ := hI
  by_cases hi : (i : Int) < (l.length : Int)
  · have hi' : i < l.length := by omega
    have hp : i - 1 < l.length := by omega
    rw [othersGo_at hi'] at hI2
    have HI := Box.mk hI2
    clear hI2
    repeat' (first | (with_reducible first | refine DS.fltS yU yU yE ?_ | refine DS.opsNil ?_ | refine DS.seq ?_ | refine DS.regionL ?_ | (refine DS.cE yE ?_; first | refine CG.np (fun _ => ?_) (fun _ => ?_) | refine CG.p (fun _ => ?_) (fun _ => ?_) | refine CG.yes ?_ | refine CG.no ?_) | (refine DS.gE yU yE ?_; first | refine GG.pT (fun _ => ?_) (fun _ => ?_) | refine GG.run ?_ | refine GG.sF ?_) | refine DS.blk ?_ | refine DS.block ?_ | refine DS.skip ?_) | refine DS.pcS inferInstance (hfrom_pc _ _ _) yR yT ?_ | refine DS.retT [] yE trivial ?_ | fail)
    all_goals first
      | (exfalso; omega)
      | ((try rw [prevL_zero (by assumption)] at HI); (try rw [prevL_pos (by assumption) hp] at HI); (try simp only [anyO_none, anyO_some, decide_eq_true_eq, Bool.false_eq_true, if_false] at HI)
         first
          | (rw [HI.out]; (repeat' split) <;> first | rfl | (exfalso; omega))
          | exact DS.back (HB.out (i + 1) _ _ (by omega) ⟨by omega, by rw [HI.out, prevL_succ hi']; (repeat' split) <;> first | rfl | (exfalso; omega)⟩ yS yS (fun b o e => by cases e)))
  · repeat' (first | (with_reducible first | refine DS.fltS yU yU yE ?_ | refine DS.opsNil ?_ | refine DS.seq ?_ | refine DS.regionL ?_ | (refine DS.cE yE ?_; refine CG.no ?_) | refine DS.exit yU ?_) | refine DS.retT [] yE trivial ?_ | fail)
    rw [hI2, drop_end hi]; rfl
end Go.XL
namespace Go.XL
open Go.Proofs
set_option maxRecDepth 100000
set_option maxHeartbeats 8000000
theorem kinds_bd' (s:GSet):0≤kindsS s∧kindsS s≤1000:=by
 by_cases h:gsetS s=0
 ·have:=(gset_ok h).plain
  rw[kindsS,if_neg (by omega)];omega
 ·rw[kindsS,if_pos h];omega
theorem feedsGo_at {s:GSet} {l:List Feed} {i:Nat} (hi:i<l.length):feedsGo s (l.drop i)=if(l[i].kinds.length:Int)=0 then 6 else if ascS (kindsS s) l[i].kinds≠0 then ascS (kindsS s) l[i].kinds else if ¬(1≤l[i].many∧l[i].many≤s.melds)then 2 else feedsGo s (l.drop (i+1)):=by
 rw[List.drop_eq_getElem_cons hi,feedsGo]
theorem feeds_pc (s:GSet) (l:List Feed):PC Tryd.prog 57 [s.val, .lst (l.map Feed.cells)] (I (if 4<(l.length:Int)then 8 else feedsGo s l)):=by
 have hk:=tkinds_pc s
 have hb:=kinds_bd' s
 refine DC.of_run Tryd.func57 rfl Tryd.ntmps57 Tryd.results57 (by simp) (fun _ _=>?_);simp only[argV_cons,argV_nil,go_sem,Nat.zero_add,Nat.reduceAdd]
 repeat' (first|(with_reducible first|refine DS.fltS yU yU yE ?_|refine DS.opsNil ?_|refine DS.seq ?_|refine DS.regionL ?_|(refine DS.cE yE ?_;refine CG.p (fun _=>?_) (fun _=>?_))|refine DS.block ?_|refine DS.skip ?_)|(refine DS.boxF (t:=2) yU yE yU ?_;simp only[cells_agg,cells_v,cells_lst,cells_fn,map_nil'',map_cons'',copy_own,copy_lst,copy_v,copy_at,copy_agg,copy_fn,copy_ifc,copy_tup])|refine DS.retT [] yE trivial ?_|fail)
 ·rw[if_pos (by omega)];rfl
 rename_i h4
 rw[if_neg (by omega)]
 refine DS.loopK [2,11,12] yN (fun(i:Nat)=> [(13,I i)]) (fun(i:Nat)=>i≤l.length∧feedsGo s l=feedsGo s (l.drop i)) (fun(i:Nat)=>l.length-i) 0 yS ⟨Nat.zero_le _,rfl⟩ (fun i B hI hB=>?_);try dsimp only at hI hB;simp only[app_cons',app_nil']
 have HB:=Box.mk hB
 clear hB
 obtain⟨hI,hI2⟩:=hI
 by_cases hi:(i:Int)<(l.length:Int)
 ·have hi':i<l.length:=by omega
  rw[feedsGo_at hi']at hI2
  have HI:=Box.mk hI2
  clear hI2
  have hr:=hrising_pc (kindsS s) l[i].kinds hb
  by_cases h1:(l[i].kinds.length:Int)=0
  ·repeat' (first|(with_reducible first|refine DS.fltS yU yU yE ?_|refine DS.opsNil ?_|refine DS.seq ?_|refine DS.regionL ?_|(refine DS.cE yE ?_;refine CG.yes ?_)|refine DS.block ?_|refine DS.skip ?_)|(refine DS.letF (t:=6) yU yE yU (fun _=>yE) yE yU (by exact⟨by with_unfolding_all rfl,by with_unfolding_all decide⟩) (fun _=>by simp only[go_sem,Nat.reduceEqDiff,↓reduceIte]) ?_;simp only[go_sem])|refine DS.retT [] yE trivial ?_|fail)
   all_goals first|(rw[HI.out,if_pos h1];rfl)|(exfalso;omega)
  ·by_cases h2:ascS (kindsS s) l[i].kinds=0
   ·rw[h2]at hr
    repeat' (first|(with_reducible first|refine DS.fltS yU yU yE ?_|refine DS.opsNil ?_|refine DS.seq ?_|refine DS.regionL ?_|(refine DS.cE yE ?_;first|refine CG.np (fun _=>?_) (fun _=>?_)|refine CG.yes ?_|refine CG.no ?_)|refine DS.blk ?_|refine DS.block ?_|refine DS.skip ?_)|(refine DS.letF (t:=6) yU yE yU (fun _=>yE) yE yU (by exact⟨by with_unfolding_all rfl,by with_unfolding_all decide⟩) (fun _=>by simp only[go_sem,Nat.reduceEqDiff,↓reduceIte]) ?_;simp only[go_sem])|refine DS.pcS inferInstance (hr) yR yT ?_|refine DS.pcS inferInstance (hfrom_pc _ _ _) yR yT ?_|refine DS.drawL (id:=8) [0,1,2,3] 4 (by kernel_rfl) mixed (by simp only[pickL_cons,pickL_nil,get_zero',get_cons',pickO_some];exact rfl) (by simp only[drop_zero',drop_cons',List.drop_nil];exact rfl) ?_|(with_reducible first|refine DD.fltS yU yU yU yE ?_|refine DD.nil0 ?_)|refine DD.pcV0 inferInstance (hk) yU yT ?_|refine DS.retT [] yE trivial ?_|fail)
    all_goals first
     | (exfalso;omega)
     | (rw[HI.out,if_neg h1,if_neg (by omega),if_pos (by omega)];rfl)
     | exact DS.back (HB.out (i+1) _ _ (by omega) ⟨by omega,by rw[HI.out,if_neg h1,if_neg (by omega),if_neg (by omega)]⟩ yS yS (fun b o e=>by cases e))
   ·repeat' (first|(with_reducible first|refine DS.fltS yU yU yE ?_|refine DS.opsNil ?_|refine DS.seq ?_|refine DS.regionL ?_|(refine DS.cE yE ?_;first|refine CG.yes ?_|refine CG.no ?_)|refine DS.block ?_|refine DS.skip ?_)|(refine DS.letF (t:=6) yU yE yU (fun _=>yE) yE yU (by exact⟨by with_unfolding_all rfl,by with_unfolding_all decide⟩) (fun _=>by simp only[go_sem,Nat.reduceEqDiff,↓reduceIte]) ?_;simp only[go_sem])|refine DS.pcS inferInstance (hr) yR yT ?_|refine DS.drawL (id:=8) [0,1,2,3] 4 (by kernel_rfl) mixed (by simp only[pickL_cons,pickL_nil,get_zero',get_cons',pickO_some];exact rfl) (by simp only[drop_zero',drop_cons',List.drop_nil];exact rfl) ?_|(with_reducible first|refine DD.fltS yU yU yU yE ?_|refine DD.nil0 ?_)|refine DD.pcV0 inferInstance (hk) yU yT ?_|refine DS.retT [] yE trivial ?_|fail)
    all_goals first|(rw[HI.out,if_neg h1,if_pos h2];rfl)|(exfalso;omega)
 ·repeat' (first|(with_reducible first|refine DS.fltS yU yU yE ?_|refine DS.opsNil ?_|refine DS.seq ?_|refine DS.regionL ?_|(refine DS.cE yE ?_;refine CG.no ?_)|refine DS.exit yU ?_)|refine DS.retT [] yE trivial ?_|fail)
  rw[hI2,drop_end hi];rfl
theorem places_in {l:List Int} (h:placesB l=true): ∀x∈l,-1000000≤x∧x≤1000000:=fun x hx=>by
 simp only[placesB,List.all_eq_true]at h
 have:=h x hx
 simpa using this
theorem pay_pc (s:GSet) (p:Pay):PC Tryd.prog 43 [s.val,p.val] (I (payS s p)):=by
 have hc:=tcheck_pc s
 by_cases h0:gsetS s=0
 ·have hpl:=(gset_ok h0).players
  rw[h0]at hc
  have hf:=feeds_pc s p.feeds
  have ha1:=hall_pc 0 1000000 [p.basic,p.counter,p.stick,p.pool,p.foul,p.start]
  have ha2:=hall_pc (-1000000) 1000000 p.places
  have e1:([p.basic,p.counter,p.stick,p.pool,p.foul,p.start].all fun n=>decide (0≤n∧n≤1000000))=(ptB p.basic&&ptB p.counter&&ptB p.stick&&ptB p.pool&&ptB p.foul&&ptB p.start):=by
   simp[ptB,Bool.and_assoc]
  have e2:(p.places.all fun n=>decide (-1000000≤n∧n≤1000000))=placesB p.places:=rfl
  rw[e1]at ha1
  rw[e2]at ha2
  clear e1 e2
  have hpay:payS s p=if ¬(1≤p.mode∧p.mode≤3)then 4 else
   if(ptB p.basic&&ptB p.counter&&ptB p.stick&&ptB p.pool&&ptB p.foul&&ptB p.start)=false then 2 else if p.pool % 6≠0 then 2 else if ¬(1≤p.rounds∧p.rounds≤16)then 2 else if ¬(0≤p.stay∧p.stay≤7)then 2 else
   if 0<(p.places.length:Int)∧(p.places.length:Int)≠s.players then 3 else if placesB p.places=false then 2 else if sumI p.places≠0 then 12 else
   if 4<(p.feeds.length:Int)then 8 else feedsGo s p.feeds:=by rw[payS,if_neg (by omega)]
  have hpool:(ptB p.basic&&ptB p.counter&&ptB p.stick&&ptB p.pool&&ptB p.foul&&ptB p.start)=true→0≤p.pool:=by
   simp only[ptB,Bool.and_eq_true,decide_eq_true_eq];omega
  have hin:=fun h=>places_in (l:=p.places) h
  generalize (ptB p.basic&&ptB p.counter&&ptB p.stick&&ptB p.pool&&ptB p.foul&&ptB p.start)=B1 at *
  generalize placesB p.places=B2 at *
  rw[hpay]
  clear hpay
  by_cases hm:1≤p.mode∧p.mode≤3
  ·rw[if_neg (by omega)]
   cases B1 with
   | false =>
    rw[if_pos rfl]
    refine DC.of_run Tryd.func43 rfl Tryd.ntmps43 Tryd.results43 (by simp) (fun _ _=>?_);simp only[argV_cons,argV_nil,go_sem,Nat.zero_add,Nat.reduceAdd]
    repeat' (first|(with_reducible first|refine DS.fltS yU yU yE ?_|refine DS.opsNil ?_|refine DS.seq ?_|refine DS.regionL ?_|(refine DS.cE yE ?_;first|refine CG.yes ?_|refine CG.no ?_)|(refine DS.gE yU yE ?_;refine GG.sT ?_)|refine DS.skip ?_)|(refine DS.bsl yU yE yE ?_;simp only[go_sem,Nat.zero_add,Nat.reduceAdd])|refine DS.pcS inferInstance (hc) yR yF ?_|refine DS.pcS inferInstance (hfrom_pc _ _ _) yR yF ?_|refine DS.pcS inferInstance (ha1) yR yF ?_|(refine DS.boxF (t:=2) yU yE yU ?_;simp only[cells_agg,cells_v,cells_lst,cells_fn,map_nil'',map_cons'',copy_own,copy_lst,copy_v,copy_at,copy_agg,copy_fn,copy_ifc,copy_tup])|(refine DS.boxF (t:=3) yU yE yU ?_;simp only[cells_agg,cells_v,cells_lst,cells_fn,map_nil'',map_cons'',copy_own,copy_lst,copy_v,copy_at,copy_agg,copy_fn,copy_ifc,copy_tup])|refine DS.retT [] yE trivial ?_|fail)
    all_goals first|rfl|(exfalso;omega)
   | true =>
    rw[if_neg (by decide)]
    have ht:p.pool.tmod 6=p.pool % 6:=Int.tmod_eq_emod_of_nonneg (hpool rfl)
    have ht2:=Int.emod_nonneg p.pool (show(6:Int)≠0 by decide)
    clear hpool
    by_cases hx:p.pool % 6=0∧(1≤p.rounds∧p.rounds≤16)∧(0≤p.stay∧p.stay≤7)
    ·obtain⟨hx1,hx2,hx3⟩:=hx
     rw[if_neg (by omega),if_neg (by omega),if_neg (by omega)]
     have ht3: ¬(0:Int)<p.pool % 6:=by omega
     clear hx1 ht2
     by_cases hx4:0<(p.places.length:Int)∧(p.places.length:Int)≠s.players
     ·rw[if_pos hx4]
      obtain⟨hx5,hx6⟩:=hx4
      refine DC.of_run Tryd.func43 rfl Tryd.ntmps43 Tryd.results43 (by simp) (fun _ _=>?_);simp only[argV_cons,argV_nil,go_sem,Nat.zero_add,Nat.reduceAdd]
      repeat' (first|(with_reducible first|refine DS.fltS yU yU yE ?_|refine DS.opsNil ?_|refine DS.seq ?_|refine DS.regionL ?_|(refine DS.cE yE ?_;first|refine CG.yes ?_|refine CG.no ?_)|(refine DS.gE yU yE ?_;refine GG.run ?_)|refine DS.skip ?_)|(refine DS.bsl yU yE yE ?_;simp only[go_sem,Nat.zero_add,Nat.reduceAdd])|refine DS.pcS inferInstance (hc) yR yF ?_|refine DS.pcS inferInstance (hfrom_pc _ _ _) yR yF ?_|refine DS.pcS inferInstance (ha1) yR yF ?_|(refine DS.boxF (t:=2) yU yE yU ?_;simp only[cells_agg,cells_v,cells_lst,cells_fn,map_nil'',map_cons'',copy_own,copy_lst,copy_v,copy_at,copy_agg,copy_fn,copy_ifc,copy_tup])|(refine DS.boxF (t:=3) yU yE yU ?_;simp only[cells_agg,cells_v,cells_lst,cells_fn,map_nil'',map_cons'',copy_own,copy_lst,copy_v,copy_at,copy_agg,copy_fn,copy_ifc,copy_tup])|refine DS.retT [] yE trivial ?_|fail)
      all_goals first|rfl|(exfalso;omega)
     ·rw[if_neg hx4]
      cases B2 with
      | false =>
       rw[if_pos rfl]
       refine DC.of_run Tryd.func43 rfl Tryd.ntmps43 Tryd.results43 (by simp) (fun _ _=>?_);simp only[argV_cons,argV_nil,go_sem,Nat.zero_add,Nat.reduceAdd]
       repeat' (first|(with_reducible first|refine DS.fltS yU yU yE ?_|refine DS.opsNil ?_|refine DS.seq ?_|refine DS.regionL ?_|(refine DS.cE yE ?_;first|refine CG.np (fun _=>?_) (fun _=>?_)|refine CG.yes ?_|refine CG.no ?_)|(refine DS.gE yU yE ?_;first|refine GG.pT (fun _=>?_) (fun _=>?_)|refine GG.run ?_|refine GG.sF ?_)|refine DS.skip ?_)|(refine DS.bsl yU yE yE ?_;simp only[go_sem,Nat.zero_add,Nat.reduceAdd])|refine DS.pcS inferInstance (hc) yR yF ?_|refine DS.pcS inferInstance (hfrom_pc _ _ _) yR yF ?_|refine DS.pcS inferInstance (ha1) yR yF ?_|refine DS.pcS inferInstance (ha2) yR yF ?_|(refine DS.boxF (t:=2) yU yE yU ?_;simp only[cells_agg,cells_v,cells_lst,cells_fn,map_nil'',map_cons'',copy_own,copy_lst,copy_v,copy_at,copy_agg,copy_fn,copy_ifc,copy_tup])|(refine DS.boxF (t:=3) yU yE yU ?_;simp only[cells_agg,cells_v,cells_lst,cells_fn,map_nil'',map_cons'',copy_own,copy_lst,copy_v,copy_at,copy_agg,copy_fn,copy_ifc,copy_tup])|refine DS.retT [] yE trivial ?_|fail)
       all_goals first|rfl|(exfalso;omega)
      | true =>
       rw[if_neg (by decide)]
       have hin:=hin rfl
       have hl:(p.places.length:Int)≤4:=by omega
       have hx5:=Box.mk hx4
       clear hx4
       refine DC.of_run Tryd.func43 rfl Tryd.ntmps43 Tryd.results43 (by simp) (fun _ _=>?_);simp only[argV_cons,argV_nil,go_sem,Nat.zero_add,Nat.reduceAdd]
       repeat' (first|(with_reducible first|refine DS.fltS yU yU yE ?_|refine DS.opsNil ?_|refine DS.seq ?_|refine DS.regionL ?_|(refine DS.cE yE ?_;first|refine CG.np (fun _=>?_) (fun _=>?_)|refine CG.no ?_)|(refine DS.gE yU yE ?_;first|refine GG.pT (fun _=>?_) (fun _=>?_)|refine GG.run ?_|refine GG.sF ?_)|refine DS.block ?_|refine DS.skip ?_)|(refine DS.bsl yU yE yE ?_;simp only[go_sem,Nat.zero_add,Nat.reduceAdd])|refine DS.pcS inferInstance (hc) yR yF ?_|refine DS.pcS inferInstance (hfrom_pc _ _ _) yR yF ?_|refine DS.pcS inferInstance (ha1) yR yF ?_|refine DS.pcS inferInstance (ha2) yR yF ?_|(refine DS.boxF (t:=2) yU yE yU ?_;simp only[cells_agg,cells_v,cells_lst,cells_fn,map_nil'',map_cons'',copy_own,copy_lst,copy_v,copy_at,copy_agg,copy_fn,copy_ifc,copy_tup])|(refine DS.boxF (t:=3) yU yE yU ?_;simp only[cells_agg,cells_v,cells_lst,cells_fn,map_nil'',map_cons'',copy_own,copy_lst,copy_v,copy_at,copy_agg,copy_fn,copy_ifc,copy_tup])|refine DS.retT [] yE trivial ?_|fail)
       all_goals try (exfalso;have:=hx5.out;omega)
       ·refine DS.loopK [2,3,68,69] yN (fun(z:Nat×Int)=> [(6,I z.2),(70,I z.1)]) (fun(z:Nat×Int)=>z.1≤p.places.length∧z.2=sumI (p.places.take z.1)) (fun(z:Nat×Int)=>p.places.length-z.1) (0,0) yS ⟨Nat.zero_le _,rfl⟩ (fun z B hI hB=>?_);try dsimp only at hI hB;simp only[app_cons',app_nil']
        have HB:=Box.mk hB
        clear hB
        obtain⟨i,kk⟩:=z
        dsimp only at hI ⊢
        obtain⟨hI,hI1⟩:=hI
        have hbd:=sumI_bd (l:=p.places.take i) (lo := -1000000) (hi:=1000000) fun x hx=>hin x (List.mem_of_mem_take hx)
        rw[List.length_take,Nat.min_eq_left hI,←hI1]at hbd
        have H1:=Box.mk hI1
        clear hI1
        by_cases hi:(i:Int)<s.players
        ·have hi':i<p.places.length:=by omega
         have hx:=hin _ (List.getElem_mem hi')
         have e:=sumI_take hi'
         have H2:=Box.mk e
         clear e
         repeat' (first|(with_reducible first|refine DS.fltS yU yU yE ?_|refine DS.opsNil ?_|refine DS.seq ?_|refine DS.regionL ?_|(refine DS.cE yE ?_;refine CG.yes ?_)|refine DS.blk ?_|refine DS.block ?_|refine DS.skip ?_)|fail)
         exact DS.back (HB.out (i+1,kk+p.places[i]) _ _ (by dsimp only;omega) ⟨by dsimp only;omega,by dsimp only;rw[H2.out,H1.out]⟩ yS yS (fun b o e=>by cases e))
        ·have e:kk=sumI p.places:=by rw[H1.out,List.take_of_length_le (by omega)]
         rw[←e]
         clear e
         repeat' (first|(with_reducible first|refine DS.fltS yU yU yE ?_|refine DS.opsNil ?_|refine DS.seq ?_|refine DS.regionL ?_|(refine DS.cE yE ?_;first|refine CG.np (fun _=>?_) (fun _=>?_)|refine CG.no ?_)|refine DS.exit yU ?_|refine DS.skip ?_)|refine DS.pcS inferInstance (hf) yR yT ?_|refine DS.retT [] yE trivial ?_|fail)
         all_goals first
          | (rw[if_pos (show kk≠0 by omega)];rfl)
          | (rw[if_neg (show ¬kk≠0 by omega)];first|rfl|(rw[if_pos (by omega)];rfl)|(rw[if_neg (by omega)];rfl))
       ·refine DS.loopK [2,3,68,69] yN (fun(z:Nat×Int)=> [(6,I z.2),(70,I z.1)]) (fun(z:Nat×Int)=>z.1≤p.places.length∧z.2=sumI (p.places.take z.1)) (fun(z:Nat×Int)=>p.places.length-z.1) (0,0) yS ⟨Nat.zero_le _,rfl⟩ (fun z B hI hB=>?_);try dsimp only at hI hB;simp only[app_cons',app_nil']
        have HB:=Box.mk hB
        clear hB
        obtain⟨i,kk⟩:=z
        dsimp only at hI ⊢
        obtain⟨hI,hI1⟩:=hI
        have hbd:=sumI_bd (l:=p.places.take i) (lo := -1000000) (hi:=1000000) fun x hx=>hin x (List.mem_of_mem_take hx)
        rw[List.length_take,Nat.min_eq_left hI,←hI1]at hbd
        have H1:=Box.mk hI1
        clear hI1
        by_cases hi:(i:Int)<(p.places.length:Int)
        ·exfalso;omega
        ·have e:kk=sumI p.places:=by rw[H1.out,List.take_of_length_le (by omega)]
         rw[←e]
         clear e
         repeat' (first|(with_reducible first|refine DS.fltS yU yU yE ?_|refine DS.opsNil ?_|refine DS.seq ?_|refine DS.regionL ?_|(refine DS.cE yE ?_;first|refine CG.np (fun _=>?_) (fun _=>?_)|refine CG.no ?_)|refine DS.exit yU ?_|refine DS.skip ?_)|refine DS.pcS inferInstance (hf) yR yT ?_|refine DS.retT [] yE trivial ?_|fail)
         all_goals first
          | (rw[if_pos (show kk≠0 by omega)];rfl)
          | (rw[if_neg (show ¬kk≠0 by omega)];first|rfl|(rw[if_pos (by omega)];rfl)|(rw[if_neg (by omega)];rfl))
    ·have e:(if p.pool % 6≠0 then(2:Int)else if ¬(1≤p.rounds∧p.rounds≤16)then 2 else if ¬(0≤p.stay∧p.stay≤7)then 2 else
   if 0<(p.places.length:Int)∧(p.places.length:Int)≠s.players then 3 else if B2=false then 2 else if sumI p.places≠0 then 12 else
   if 4<(p.feeds.length:Int)then 8 else feedsGo s p.feeds)=2:=by
      by_cases a1:p.pool % 6=0
      ·by_cases a2:1≤p.rounds∧p.rounds≤16
       ·rw[if_neg (by omega),if_neg (by omega),if_pos (by omega)]
       ·rw[if_neg (by omega),if_pos (by omega)]
      ·rw[if_pos a1]
     rw[e]
     refine DC.of_run Tryd.func43 rfl Tryd.ntmps43 Tryd.results43 (by simp) (fun _ _=>?_);simp only[argV_cons,argV_nil,go_sem,Nat.zero_add,Nat.reduceAdd]
     repeat' (first|(with_reducible first|refine DS.fltS yU yU yE ?_|refine DS.opsNil ?_|refine DS.seq ?_|refine DS.regionL ?_|(refine DS.cE yE ?_;first|refine CG.np (fun _=>?_) (fun _=>?_)|refine CG.yes ?_|refine CG.no ?_|refine CG.nb (fun _=>?_) (fun _=>?_))|(refine DS.gE yU yE ?_;first|refine GG.npF (fun _=>?_) (fun _=>?_)|refine GG.pT (fun _=>?_) (fun _=>?_)|refine GG.pF (fun _=>?_) (fun _=>?_)|refine GG.run ?_|refine GG.sF ?_|refine GG.sT ?_)|refine DS.block ?_|refine DS.skip ?_)|(refine DS.bsl yU yE yE ?_;simp only[go_sem,Nat.zero_add,Nat.reduceAdd])|refine DS.pcS inferInstance (hc) yR yF ?_|refine DS.pcS inferInstance (hfrom_pc _ _ _) yR yF ?_|refine DS.pcS inferInstance (ha1) yR yF ?_|refine DS.pcS inferInstance (ha2) yR yF ?_|(refine DS.boxF (t:=2) yU yE yU ?_;simp only[cells_agg,cells_v,cells_lst,cells_fn,map_nil'',map_cons'',copy_own,copy_lst,copy_v,copy_at,copy_agg,copy_fn,copy_ifc,copy_tup])|(refine DS.boxF (t:=3) yU yE yU ?_;simp only[cells_agg,cells_v,cells_lst,cells_fn,map_nil'',map_cons'',copy_own,copy_lst,copy_v,copy_at,copy_agg,copy_fn,copy_ifc,copy_tup])|refine DS.retT [] yE trivial ?_|fail)
     all_goals first|rfl|(exfalso;omega)
  ·rw[if_pos hm]
   refine DC.of_run Tryd.func43 rfl Tryd.ntmps43 Tryd.results43 (by simp) (fun _ _=>?_);simp only[argV_cons,argV_nil,go_sem,Nat.zero_add,Nat.reduceAdd]
   repeat' (first|(with_reducible first|refine DS.fltS yU yU yE ?_|refine DS.opsNil ?_|refine DS.seq ?_|refine DS.regionL ?_|(refine DS.cE yE ?_;first|refine CG.yes ?_|refine CG.no ?_)|refine DS.skip ?_)|refine DS.pcS inferInstance (hc) yR yF ?_|refine DS.pcS inferInstance (hfrom_pc _ _ _) yR yF ?_|(refine DS.boxF (t:=2) yU yE yU ?_;simp only[cells_agg,cells_v,cells_lst,cells_fn,map_nil'',map_cons'',copy_own,copy_lst,copy_v,copy_at,copy_agg,copy_fn,copy_ifc,copy_tup])|(refine DS.boxF (t:=3) yU yE yU ?_;simp only[cells_agg,cells_v,cells_lst,cells_fn,map_nil'',map_cons'',copy_own,copy_lst,copy_v,copy_at,copy_agg,copy_fn,copy_ifc,copy_tup])|refine DS.retT [] yE trivial ?_|fail)
   all_goals first|rfl|(exfalso;omega)
 ·rw[payS,if_pos h0]
  refine DC.of_run Tryd.func43 rfl Tryd.ntmps43 Tryd.results43 (by simp) (fun _ _=>?_);simp only[argV_cons,argV_nil,go_sem,Nat.zero_add,Nat.reduceAdd]
  repeat' (first|(with_reducible first|refine DS.fltS yU yU yE ?_|refine DS.opsNil ?_|refine DS.seq ?_|refine DS.regionL ?_|(refine DS.cE yE ?_;refine CG.yes ?_))|refine DS.pcS inferInstance (hc) yR yT ?_|(refine DS.boxF (t:=2) yU yE yU ?_;simp only[cells_agg,cells_v,cells_lst,cells_fn,map_nil'',map_cons'',copy_own,copy_lst,copy_v,copy_at,copy_agg,copy_fn,copy_ifc,copy_tup])|(refine DS.boxF (t:=3) yU yE yU ?_;simp only[cells_agg,cells_v,cells_lst,cells_fn,map_nil'',map_cons'',copy_own,copy_lst,copy_v,copy_at,copy_agg,copy_fn,copy_ifc,copy_tup])|refine DS.retT [] yE trivial ?_|fail)
  all_goals first|rfl|(exfalso;omega)
def rowP (p:Play) (j:Nat):Int×Int×Int:= [(p.heads,1,3),(p.last,0,144),(p.rob,0,2),(p.kongs,0,16),(p.nines,0,34),(p.time,1,1000),(p.foul,1,2),(p.indicators,0,5)].getD j (0,0,0)
abbrev tabP (p:Play):List V:= [I p.heads,I 1,I 3,I p.last,I 0,I 144,I p.rob,I 0,I 2,I p.kongs,I 0,I 16,I p.nines,I 0,I 34,I p.time,I 1,I 1000,I p.foul,I 1,I 2,I p.indicators,I 0,I 5]
theorem tabP_row (p:Play): ∀(j:Nat),j<8→(((tabP p).drop ((j:Int).toNat*3)).take 3).map V.peek= [I (rowP p j).1,I (rowP p j).2.1,I (rowP p j).2.2]
 | 0,_=>rfl
 | 1,_=>rfl
 | 2,_=>rfl
 | 3,_=>rfl
 | 4,_=>rfl
 | 5,_=>rfl
 | 6,_=>rfl
 | 7,_=>rfl
 | _+8,h=>by omega
theorem play_tab {s:GSet} {p:Play} (h0:gsetS s=0) :
  (∀j,j<8→(rowP p j).2.1≤(rowP p j).1∧(rowP p j).1≤(rowP p j).2.2)∨playS s p=2:=by
 rw[playS,if_neg (by omega)]
 by_cases a1:1≤p.heads∧p.heads≤3
 ·rw[if_neg (by omega)]
  by_cases a2:0≤p.last∧p.last≤144
  ·rw[if_neg (by omega)]
   by_cases a3:0≤p.rob∧p.rob≤2
   ·rw[if_neg (by omega)]
    by_cases a4:0≤p.kongs∧p.kongs≤16
    ·rw[if_neg (by omega)]
     by_cases a5:0≤p.nines∧p.nines≤34
     ·rw[if_neg (by omega)]
      by_cases a6:1≤p.time∧p.time≤1000
      ·rw[if_neg (by omega)]
       by_cases a7:1≤p.foul∧p.foul≤2
       ·rw[if_neg (by omega)]
        by_cases a8:0≤p.indicators∧p.indicators≤5
        ·refine .inl fun j hj=>?_
         match j,hj with
         | 0,_=>exact a1
         | 1,_=>exact a2
         | 2,_=>exact a3
         | 3,_=>exact a4
         | 4,_=>exact a5
         | 5,_=>exact a6
         | 6,_=>exact a7
         | 7,_=>exact a8
        ·right;rw[if_pos a8]
       ·right;rw[if_pos a7]
      ·right;rw[if_pos a6]
     ·right;rw[if_pos a5]
    ·right;rw[if_pos a4]
   ·right;rw[if_pos a3]
  ·right;rw[if_pos a2]
 ·right;rw[if_pos a1]
theorem play_in {s:GSet} {p:Play} (h0:gsetS s=0) (h: ∀j,j<8→(rowP p j).2.1≤(rowP p j).1∧(rowP p j).1≤(rowP p j).2.2):playS s p=if 2*p.indicators > s.dead then 6 else 0:=by
 have a1:1≤p.heads∧p.heads≤3:=h 0 (by omega)
 have a2:0≤p.last∧p.last≤144:=h 1 (by omega)
 have a3:0≤p.rob∧p.rob≤2:=h 2 (by omega)
 have a4:0≤p.kongs∧p.kongs≤16:=h 3 (by omega)
 have a5:0≤p.nines∧p.nines≤34:=h 4 (by omega)
 have a6:1≤p.time∧p.time≤1000:=h 5 (by omega)
 have a7:1≤p.foul∧p.foul≤2:=h 6 (by omega)
 have a8:0≤p.indicators∧p.indicators≤5:=h 7 (by omega)
 rw[playS,if_neg (by omega),if_neg (by omega),if_neg (by omega),if_neg (by omega),if_neg (by omega),if_neg (by omega),if_neg (by omega),if_neg (by omega),if_neg (by omega)]
theorem play_pc (s:GSet) (p:Play):PC Tryd.prog 45 [s.val,p.val] (I (playS s p)):=by
 have hc:=tcheck_pc s
 by_cases h0:gsetS s=0
 ·rw[h0]at hc
  have HT:=Box.mk (And.intro (play_tab (p:=p) h0) (play_in (p:=p) h0))
  refine DC.of_run Tryd.func45 rfl Tryd.ntmps45 Tryd.results45 (by simp) (fun _ _=>?_);simp only[argV_cons,argV_nil,go_sem,Nat.zero_add,Nat.reduceAdd]
  repeat' (first|(with_reducible first|refine DS.fltS yU yU yE ?_|refine DS.opsNil ?_|refine DS.seq ?_|refine DS.regionL ?_|(refine DS.cE yE ?_;refine CG.no ?_)|refine DS.block ?_|refine DS.skip ?_)|refine DS.pcS inferInstance (hc) yR yT ?_|(refine DS.boxF (t:=2) yU yE yU ?_;simp only[cells_agg,cells_v,cells_lst,cells_fn,map_nil'',map_cons'',copy_own,copy_lst,copy_v,copy_at,copy_agg,copy_fn,copy_ifc,copy_tup])|(refine DS.boxF (t:=3) yU yE yU ?_;simp only[cells_agg,cells_v,cells_lst,cells_fn,map_nil'',map_cons'',copy_own,copy_lst,copy_v,copy_at,copy_agg,copy_fn,copy_ifc,copy_tup])|fail)
  refine DS.loopK [2,3,37] yN (fun(j:Nat)=> [(38,I j)]) (fun(j:Nat)=>j≤8∧ ∀m,m<j→(rowP p m).2.1≤(rowP p m).1∧(rowP p m).1≤(rowP p m).2.2) (fun(j:Nat)=>8-j) 0 yS ⟨Nat.zero_le _,fun m h=>by omega⟩ (fun j B hI hB=>?_);try dsimp only at hI hB;simp only[app_cons',app_nil']
  obtain⟨hJ,hJ2⟩:=hI
  have HJ:=Box.mk (And.intro hJ2 hB)
  clear hJ2 hB
  by_cases hj:(j:Int)<8
  ·repeat' (first|(with_reducible first|refine DS.fltS yU yU yE ?_|refine DS.opsNil ?_|refine DS.seq ?_|refine DS.regionL ?_|(refine DS.cE yE ?_;refine CG.yes ?_)|refine DS.block ?_|refine DS.skip ?_)|fail)
   refine DS.indexA (e:=120) (m:=3) (c:=tabP p) (by decide) (by kernel_rfl) (by kernel_rfl) yH yH (Int.natCast_nonneg _) hj (by show(j:Int).toNat*3+3≤24;omega) ?_
   rw[tabP_row p j (by omega)]
   generalize hq:rowP p j=q at *
   obtain⟨x,lo,hi2⟩:=q
   dsimp only
   by_cases hok:lo≤x∧x≤hi2
   ·repeat' (first|(with_reducible first|refine DS.fltS yU yU yE ?_|refine DS.opsNil ?_|refine DS.seq ?_|refine DS.regionL ?_|(refine DS.cE yE ?_;refine CG.no ?_)|refine DS.blk ?_|refine DS.skip ?_)|(refine DS.letF (t:=7) yU yE yU (fun _=>yE) yE yU (by exact⟨by with_unfolding_all rfl,by with_unfolding_all decide⟩) (fun _=>by simp only[go_sem,Nat.reduceEqDiff,↓reduceIte]) ?_;simp only[go_sem])|refine DS.pcS inferInstance (hfrom_pc _ _ _) yR yT ?_|fail)
    all_goals first
     | exact DS.back (HJ.out.2 (j+1) _ _ (by omega) ⟨by omega,fun m hm=>if h:m=j then(by subst h;rw[hq];exact hok)else HJ.out.1 m (by omega)⟩ yS yS (fun b o e=>by cases e))
     | (exfalso;omega)
   ·have e:playS s p=2:=HT.out.1.resolve_left fun h=>hok (by have:=h j (by omega);rw[hq]at this;exact this)
    rw[e]
    repeat' (first|(with_reducible first|refine DS.fltS yU yU yE ?_|refine DS.opsNil ?_|refine DS.seq ?_|refine DS.regionL ?_|(refine DS.cE yE ?_;refine CG.yes ?_))|(refine DS.letF (t:=7) yU yE yU (fun _=>yE) yE yU (by exact⟨by with_unfolding_all rfl,by with_unfolding_all decide⟩) (fun _=>by simp only[go_sem,Nat.reduceEqDiff,↓reduceIte]) ?_;simp only[go_sem])|refine DS.pcS inferInstance (hfrom_pc _ _ _) yR yT ?_|refine DS.retT [] yE trivial ?_|fail)
    all_goals first|rfl|(exfalso;omega)
  ·have h4: ∀j,j<8→(rowP p j).2.1≤(rowP p j).1∧(rowP p j).1≤(rowP p j).2.2:=fun m hm=>HJ.out.1 m (by omega)
   have e:=HT.out.2 h4
   have a8:0≤p.indicators∧p.indicators≤5:=h4 7 (by omega)
   rw[e]
   clear HT HJ e h4
   repeat' (first|(with_reducible first|refine DS.fltS yU yU yE ?_|refine DS.opsNil ?_|refine DS.seq ?_|refine DS.regionL ?_|(refine DS.cE yE ?_;first|refine CG.p (fun _=>?_) (fun _=>?_)|refine CG.no ?_)|refine DS.exit yU ?_|refine DS.skip ?_)|refine DS.retT [] yE trivial ?_|fail)
   ·rw[if_pos (by omega)];rfl
   ·rw[if_neg (by omega)];rfl
 ·rw[playS,if_pos h0]
  refine DC.of_run Tryd.func45 rfl Tryd.ntmps45 Tryd.results45 (by simp) (fun _ _=>?_);simp only[argV_cons,argV_nil,go_sem,Nat.zero_add,Nat.reduceAdd]
  repeat' (first|(with_reducible first|refine DS.fltS yU yU yE ?_|refine DS.opsNil ?_|refine DS.seq ?_|refine DS.regionL ?_|(refine DS.cE yE ?_;refine CG.yes ?_))|refine DS.pcS inferInstance (hc) yR yT ?_|(refine DS.boxF (t:=2) yU yE yU ?_;simp only[cells_agg,cells_v,cells_lst,cells_fn,map_nil'',map_cons'',copy_own,copy_lst,copy_v,copy_at,copy_agg,copy_fn,copy_ifc,copy_tup])|(refine DS.boxF (t:=3) yU yE yU ?_;simp only[cells_agg,cells_v,cells_lst,cells_fn,map_nil'',map_cons'',copy_own,copy_lst,copy_v,copy_at,copy_agg,copy_fn,copy_ifc,copy_tup])|refine DS.retT [] yE trivial ?_|fail)
  all_goals first|rfl|(exfalso;omega)
end Go.XL
namespace Go.Proofs
open Go.Shelf
def Tryd.lays160_ren :Go.Shelf.Ren:=⟨fun|160=>61|232=>69|231=>68|227=>70|234=>72|233=>71|236=>74|235=>73|228=>77|271=>80|151=>79|197=>78|120=>83|152=>82|260=>81|137=>84|119=>85|224=>86|225=>87|217=>88|266=>89|n=>n,fun|9=>9|4=>4|3=>3|5=>5|117=>136|116=>135|0=>0|124=>139|21=>21|105=>142|46=>66|119=>146|139=>149|138=>148|n=>n,fun|3=>2|4=>3|n=>n⟩
theorem Tryd.lays160 :Go.Proofs.Lays.n160 Tryd.prog Tryd.lays160_ren:={
 mixed:=by kernel_rfl
 f119:=Tryd.func85.trans (congrArg some (by kernel_rfl))
 f120:=Tryd.func83.trans (congrArg some (by kernel_rfl))
 f137:=Tryd.func84.trans (congrArg some (by kernel_rfl))
 f151:=Tryd.func79.trans (congrArg some (by kernel_rfl))
 f152:=Tryd.func82.trans (congrArg some (by kernel_rfl))
 f160:=Tryd.func61.trans (congrArg some (by kernel_rfl))
 f197:=Tryd.func78.trans (congrArg some (by kernel_rfl))
 f217:=Tryd.func88.trans (congrArg some (by kernel_rfl))
 f224:=Tryd.func86.trans (congrArg some (by kernel_rfl))
 f225:=Tryd.func87.trans (congrArg some (by kernel_rfl))
 f227:=Tryd.func70.trans (congrArg some (by kernel_rfl))
 f228:=Tryd.func77.trans (congrArg some (by kernel_rfl))
 f231:=Tryd.func68.trans (congrArg some (by kernel_rfl))
 f232:=Tryd.func69.trans (congrArg some (by kernel_rfl))
 f233:=Tryd.func71.trans (congrArg some (by kernel_rfl))
 f234:=Tryd.func72.trans (congrArg some (by kernel_rfl))
 f235:=Tryd.func73.trans (congrArg some (by kernel_rfl))
 f236:=Tryd.func74.trans (congrArg some (by kernel_rfl))
 f260:=Tryd.func81.trans (congrArg some (by kernel_rfl))
 f266:=Tryd.func89.trans (congrArg some (by kernel_rfl))
 f271:=Tryd.func80.trans (congrArg some (by kernel_rfl))
 t0:=Tryd.underlying0
 a0:=Tryd.isAgg0
 z0:=Tryd.sizeOf0
 v0:=Tryd.zeroValue0
 t3:=Tryd.underlying3
 a3:=Tryd.isAgg3
 z3:=Tryd.sizeOf3
 v3:=Tryd.zeroValue3
 t4:=Tryd.underlying4
 a4:=Tryd.isAgg4
 z4:=Tryd.sizeOf4
 v4:=Tryd.zeroValue4
 t5:=Tryd.underlying5
 a5:=Tryd.isAgg5
 z5:=Tryd.sizeOf5
 v5:=Tryd.zeroValue5
 t9:=Tryd.underlying9
 a9:=Tryd.isAgg9
 z9:=Tryd.sizeOf9
 v9:=Tryd.zeroValue9
 t21:=Tryd.underlying21
 a21:=Tryd.isAgg21
 z21:=Tryd.sizeOf21
 v21:=Tryd.zeroValue21
 t46:=Tryd.underlying66
 a46:=Tryd.isAgg66
 z46:=Tryd.sizeOf66
 v46:=Tryd.zeroValue66
 t105:=Tryd.underlying142
 a105:=Tryd.isAgg142
 z105:=Tryd.sizeOf142
 v105:=Tryd.zeroValue142
 t116:=Tryd.underlying135
 a116:=Tryd.isAgg135
 z116:=Tryd.sizeOf135
 t117:=Tryd.underlying136
 a117:=Tryd.isAgg136
 z117:=Tryd.sizeOf136
 v117:=Tryd.zeroValue136
 t119:=Tryd.underlying146
 a119:=Tryd.isAgg146
 z119:=Tryd.sizeOf146
 t124:=Tryd.underlying139
 a124:=Tryd.isAgg139
 z124:=Tryd.sizeOf139
 v124:=Tryd.zeroValue139
 t138:=Tryd.underlying148
 a138:=Tryd.isAgg148
 z138:=Tryd.sizeOf148
 v138:=Tryd.zeroValue148
 t139:=Tryd.underlying149
 a139:=Tryd.isAgg149
 z139:=Tryd.sizeOf149
 v139:=Tryd.zeroValue149
 g3:=by kernel_rfl
 g4:=by kernel_rfl}
end Go.Proofs
namespace Go.XL
open Go.Proofs
set_option maxRecDepth 100000
set_option maxHeartbeats 4000000
theorem RlL_raw_eq {hv:VH}: ∀{cs ys:List Value},RlL hv (cs.map V.v) ys→ys=cs
 | [],ys,h=>by simpa only[List.map_nil,RlL] using h
 | c::r,ys,h=>by
  simp only[List.map_cons,RlL]at h
  obtain⟨z,zs,rfl,h1,h2⟩:=h
  simp only[V.Rl]at h1
  rw[h1,RlL_raw_eq h2]
theorem PC.of_below {P:Program} {f:FuncId} {xs:List Value} {y:Value} (h: ∀w:World,Calls P f xs.toArray w fun e w'=>e = .returned y∧Go.RowKit.Below w.heap.size w w'):PC P f (xs.map V.v) (.v y):=by
 intro v0 K hv hold h0 ys hp hr s w hw
 obtain rfl:=RlL_raw_eq hr
 subst hw
 refine(h w).mono fun e w' ⟨he,hb⟩=>⟨y,he,⟨hb.os,hb.tape,hb.output⟩, .v y,[],hv,hold,PreV.refl hv,⟨fun b o e=>?_,fun t v e=>?_,fun b o e=>(by cases e),s.held,⟨s.base.1,Nat.le_trans s.base.2.1 hb.size,fun b hB=>?_⟩,s.vbase⟩,rfl⟩
 ·obtain⟨o',h1,h2⟩:=s.pre b o e
  exact⟨o',by rw[hb.block b (Array.getElem?_eq_some_iff.1 h1).1];exact h1,h2⟩
 ·simp only[lookV]at e
  split at e
  ·rename_i h1
   subst h1
   cases e
   exact⟨y,by simp[look],V.Rl_v,trivial⟩
  ·cases e
 ·rw[hb.block b (Nat.lt_of_lt_of_le (s.base.1 b hB) s.base.2.1)]
  exact s.base.2.2 b hB
def nameL :List UInt8:= [97,98,99,100,101,102,103,104,105,106,107,108,109,110,111,112,113,114,115,116,117,118,119,120,121,122,48,49,50,51,52,53,54,55,56,57,45]
theorem nameL_in (c:UInt8):nameL.contains c=nameC c:=by
 have h: ∀n:_root_.Fin 256,nameL.contains (UInt8.ofNat n.val)=nameC (UInt8.ofNat n.val):=by decide
 have:=h ⟨c.toNat,c.toNat_lt⟩
 simpa using this
theorem dropW_nil {p:UInt8→Bool}: ∀{l:List UInt8},l.dropWhile p= []↔l.all p=true
 | []=>by simp
 | a::l=>by
  rw[List.dropWhile_cons,List.all_cons]
  cases h:p a with
  | true=>simp[dropW_nil]
  | false=>simp
theorem trim_nil (l:List UInt8):Lib.trimS l nameL= []↔l.all nameC=true:=by
 have e:(fun c:UInt8=>nameL.contains c)=nameC:=funext nameL_in
 have h1:Lib.trimS l nameL=(Lib.trimRightS l nameL).dropWhile nameC:=by rw[Lib.trimS,Lib.trimLeftS];rw[e]
 have h2:Lib.trimRightS l nameL=(l.reverse.dropWhile nameC).reverse:=by rw[Lib.trimRightS];rw[e]
 rw[h1,dropW_nil,h2,List.all_reverse]
 constructor
 ·intro h
  have h3:l.reverse.dropWhile nameC= []:=by
   cases hd:l.reverse.dropWhile nameC with
   | nil=>rfl
   | cons a r =>
    have h4:=List.head?_dropWhile_not nameC l.reverse
    rw[hd]at h4 h
    simp only[List.head?_cons,List.all_cons,Bool.and_eq_true]at h4 h
    rw[h.1]at h4
    simp at h4
  have h5:=dropW_nil.1 h3
  rwa [List.all_reverse]at h5
 ·intro h
  have h3:l.reverse.dropWhile nameC= []:=dropW_nil.2 (by rw[List.all_reverse];exact h)
  rw[h3];rfl
theorem trim_pc (s:ByteArray) (hs:s.size≤9223372036854775807):PC Tryd.prog 61 [St8 s,St8 ⟨nameL.toArray⟩] (St8 ⟨(Lib.trimS s.data.toList nameL).toArray⟩) :=
 PC.of_below (xs:= [.string s, .string ⟨nameL.toArray⟩]) fun w=>Any.strings_Trim_laid Tryd.lays160 (by kernel_rfl) s ⟨nameL.toArray⟩ w hs (by decide) (ascii_of_all (by decide))
theorem named_pc (s:ByteArray):PC Tryd.prog 50 [St8 s] (Bo (namedB s)):=by
 refine DC.of_run Tryd.func50 rfl Tryd.ntmps50 Tryd.results50 (by simp) (fun _ _=>?_);simp only[argV_cons,argV_nil,go_sem,Nat.zero_add,Nat.reduceAdd]
 by_cases h:1≤(s.size:Int)∧(s.size:Int)≤24
 ·have ht:=trim_pc s (by omega)
  repeat' (first|(with_reducible first|refine DS.fltS yU yU yE ?_|refine DS.opsNil ?_|refine DS.seq ?_|refine DS.regionL ?_|(refine DS.gE yU yE ?_;refine GG.run ?_))|refine DS.pcS inferInstance (hfrom_pc _ _ _) yR yT ?_|refine DS.pcS inferInstance (ht) yR yT ?_|refine DS.retT [] yE trivial ?_|fail)
  have e:namedB s=s.data.toList.all nameC:=by simp[namedB,h]
  have h2:=trim_nil s.data.toList
  rw[e]
  simp only[tupV,ByteArray.mk.injEq]
  congr 2
  rw[Bool.eq_iff_iff,decide_eq_true_eq,←h2]
  constructor
  ·intro h3
   have:=congrArg Array.toList h3
   simpa using this
  ·intro h3;rw[h3]
 ·have e:namedB s=false:=by simp[namedB,h]
  rw[e]
  repeat' (first|(with_reducible first|refine DS.fltS yU yU yE ?_|refine DS.opsNil ?_|refine DS.seq ?_|refine DS.regionL ?_|(refine DS.gE yU yE ?_;refine GG.sF ?_))|refine DS.pcS inferInstance (hfrom_pc _ _ _) yR yT ?_|refine DS.retT [] yE trivial ?_|fail)
  all_goals first|rfl|(exfalso;omega)
end Go.XL
namespace Go.XL
open Go.Proofs
set_option maxRecDepth 100000
set_option maxHeartbeats 8000000
theorem indexFuncP_pc (l:List Pattern) {g:FuncId} {fs cs:List V} {fn:Func} (p:Pattern→Bool) (hf:FnOk Tryd.prog g fn) (h: ∀m:Pattern,PC Tryd.prog g (fs++ [m.val]++cs) (Bo (p m))) :
  PC Tryd.prog 62 [patsV l, .fn g fs cs] (I (idxF p l 0)):=by
 refine DC.of_run Tryd.func62 rfl Tryd.ntmps62 Tryd.results62 (by simp) (fun _ _=>?_);simp only[argV_cons,argV_nil,go_sem,Nat.zero_add,Nat.reduceAdd]
 refine DS.bnd (t:=0) yG (.inl rfl) (fun hb0=>?_);simp only[List.length_map]at hb0
 repeat' (first|(with_reducible first|refine DS.fltS yU yU yE ?_|refine DS.opsNil ?_|refine DS.seq ?_|refine DS.regionL ?_|refine DS.block ?_)|fail)
 refine DS.loopK [0,1,7] yN (fun(i:Nat)=> [(8,I i)]) (fun(i:Nat)=>i≤l.length∧idxF p l 0=idxF p (l.drop i) i) (fun(i:Nat)=>l.length-i) 0 yS (by simp) (fun i B hI hB=>?_);try dsimp only at hI hB;simp only[app_cons',app_nil']
 have HB:=Box.mk hB
 clear hB
 by_cases hi:(i:Int)<(l.length:Int)
 ·have hi':i<l.length:=by omega
  cases hp:p l[i]with
  | true =>
   have:=idxF_hit (p:=p) (l:=l) (i:=i) hi' hp
   repeat' (first|(with_reducible first|refine DS.fltS yU yU yE ?_|refine DS.opsNil ?_|refine DS.seq ?_|refine DS.regionL ?_|(refine DS.cE yE ?_;refine CG.yes ?_)|refine DS.block ?_|refine DS.skip ?_)|fail)
   refine DS.pcVS hf (by simp (disch:=omega) only[go_sem,dopV,yV0,↓reduceIte,Nat.reduceEqDiff,Nat.reduceLT,Nat.reduceLeDiff,Nat.reduceAdd,Nat.reduceMul,Nat.reduceSub,Int.reduceToNat,Int.reduceLT,Int.reduceLE,Int.reduceEq,IntWalk.toNatUp,IntWalk.iteOmega,IntWalk.i64_in,V.flat,V.one]) (h l[i]) yR yH ?_
   repeat' (first|(with_reducible first|refine DS.fltS yU yU yE ?_|refine DS.opsNil ?_|refine DS.seq ?_|refine DS.regionL ?_|(refine DS.cE yE ?_;refine CG.yes ?_))|refine DS.retT [] yE trivial ?_|fail)
   rw[hI.2,this];rfl
  | false =>
   repeat' (first|(with_reducible first|refine DS.fltS yU yU yE ?_|refine DS.opsNil ?_|refine DS.seq ?_|refine DS.regionL ?_|(refine DS.cE yE ?_;refine CG.yes ?_)|refine DS.block ?_|refine DS.skip ?_)|fail)
   refine DS.pcVS hf (by simp (disch:=omega) only[go_sem,dopV,yV0,↓reduceIte,Nat.reduceEqDiff,Nat.reduceLT,Nat.reduceLeDiff,Nat.reduceAdd,Nat.reduceMul,Nat.reduceSub,Int.reduceToNat,Int.reduceLT,Int.reduceLE,Int.reduceEq,IntWalk.toNatUp,IntWalk.iteOmega,IntWalk.i64_in,V.flat,V.one]) (h l[i]) yR yH ?_
   repeat' (first|(with_reducible first|refine DS.fltS yU yU yE ?_|refine DS.opsNil ?_|refine DS.regionL ?_|(refine DS.cE yE ?_;refine CG.no ?_)|refine DS.blk ?_|refine DS.skip ?_)|fail)
   refine DS.back (HB.out (i+1) _ _ (by omega) ⟨by omega,by rw[hI.2,idxF_miss hi' hp]⟩ yS yS (fun b o e=>by cases e))
 ·repeat' (first|(with_reducible first|refine DS.fltS yU yU yE ?_|refine DS.opsNil ?_|refine DS.seq ?_|refine DS.regionL ?_|(refine DS.cE yE ?_;refine CG.no ?_)|refine DS.exit yU ?_)|refine DS.retT [] yE trivial ?_|fail)
  have:=idxF_end (p:=p) (l:=l) (i:=i) (by omega)
  simp only[tupV];rw[hI.2,this]
theorem containsFuncP_pc (l:List Pattern) {g:FuncId} {fs cs:List V} {fn:Func} (p:Pattern→Bool) (hf:FnOk Tryd.prog g fn) (h: ∀m:Pattern,PC Tryd.prog g (fs++ [m.val]++cs) (Bo (p m))) :
  PC Tryd.prog 51 [patsV l, .fn g fs cs] (Bo (l.any p)):=by
 have e:=idxF_any p l 0
 have hk:=indexFuncP_pc l p hf h
 refine DC.of_run Tryd.func51 rfl Tryd.ntmps51 Tryd.results51 (by simp) (fun _ _=>?_);simp only[argV_cons,argV_nil,go_sem,Nat.zero_add,Nat.reduceAdd]
 repeat' (first|(with_reducible first|refine DS.fltS yU yU yE ?_|refine DS.opsNil ?_|refine DS.seq ?_|refine DS.regionL ?_)|refine DS.pcS inferInstance (hk) yR yT ?_|refine DS.retT [] yE trivial ?_|fail)
 rw[←e];rfl
theorem patC_pc (q p:Pattern):PC Tryd.prog 52 [q.val, .plc p.cells] (Bo (decide (q.name=p.name))):=by
 refine DC.of_run Tryd.func52 rfl Tryd.ntmps52 Tryd.results52 (by simp) (fun _ _=>?_);simp only[argV_cons,argV_nil,go_sem,Nat.zero_add,Nat.reduceAdd]
 repeat' (first|(with_reducible first|refine DS.fltS yU yU yE ?_|refine DS.opsNil ?_|refine DS.seq ?_|refine DS.regionL ?_)|(refine DS.boxF (t:=2) yU yE yU ?_;simp only[cells_agg,cells_v,cells_lst,cells_fn,map_nil'',map_cons'',copy_own,copy_lst,copy_v,copy_at,copy_agg,copy_fn,copy_ifc,copy_tup])|refine DS.retT [] yE trivial ?_|fail)
 rfl
def CondPC (s:GSet) (l:List Node):Prop:=PC Tryd.prog 40 [s.val,nodesV l] (.tup [Bo (condX s l).1,I (condX s l).2])
theorem yX1 {p:Prop} (h:p:=by(simp (disch:=omega) only[go_sem,dopV,yV0,↓reduceIte,Nat.reduceEqDiff,Nat.reduceLT,Nat.reduceLeDiff,Nat.reduceAdd,Nat.reduceMul,Nat.reduceSub,Int.reduceToNat,Int.reduceLT,Int.reduceLE,Int.reduceEq,IntWalk.toNatUp,IntWalk.iteOmega,IntWalk.i64_in,V.flat,V.one, *,List.forall_mem_map,Pattern.len,implies_true,List.drop_zero];exact rfl)):p:=h
theorem yX2 {p:Prop} (h:p:=by(simp (disch:=omega) only[go_sem,dopV,yV0,↓reduceIte,Nat.reduceEqDiff,Nat.reduceLT,Nat.reduceLeDiff,Nat.reduceAdd,Nat.reduceMul,Nat.reduceSub,Int.reduceToNat,Int.reduceLT,Int.reduceLE,Int.reduceEq,IntWalk.toNatUp,IntWalk.iteOmega,IntWalk.i64_in,V.flat,V.one, *,List.forall_mem_map,Pattern.len,implies_true,List.drop_zero];first|done|exact rfl)):p:=h
theorem pattern_pc (h:House) (hl:h.patterns.length≤1000000) {i:Nat} (hi:i<h.patterns.length) (hc:CondPC h.set h.patterns[i].cond):PC Tryd.prog 39 [h.val,I i] (I (patS h i)):=by
 have e:h.pat i=h.patterns[i]:=by rw[House.pat,List.getD_eq_getElem?_getD,List.getElem?_eq_getElem hi];rfl
 have hn:=named_pc h.patterns[i].name
 have ha:=hall_pc 0 1000 [h.patterns[i].closed,h.patterns[i].open_]
 have hk:=containsFuncP_pc (h.patterns.take i) (g:=52) (fs:= []) (cs:= [.plc h.patterns[i].cells]) (fun q=>decide (q.name=h.patterns[i].name)) inferInstance (fun q=>patC_pc q h.patterns[i])
 have ho1:=others_pc h.patterns[i].excl i h.patterns.length ⟨by omega,by omega⟩
 have ho2:=others_pc h.patterns[i].impl i h.patterns.length ⟨by omega,by omega⟩
 have e1:([h.patterns[i].closed,h.patterns[i].open_].all fun n=>decide (0≤n∧n≤1000))=decide ((0≤h.patterns[i].closed∧h.patterns[i].closed≤1000)∧(0≤h.patterns[i].open_∧h.patterns[i].open_≤1000)):=by simp
 rw[e1]at ha
 clear e1
 unfold CondPC at hc
 rw[patS,e]
 clear e
 have hil:(i:Int)<(h.patterns.length:Int):=by omega
 have hsub:(List.map Pattern.cells h.patterns).take i=List.map Pattern.cells (h.patterns.take i):=by rw[List.map_take]
 generalize ((h.patterns.take i).any fun q=>decide (q.name=h.patterns[i].name))=B1 at hk ⊢
 generalize condX h.set h.patterns[i].cond=C at hc ⊢
 obtain⟨c1,c2⟩:=C
 dsimp only at hc ⊢
 generalize othersS h.patterns[i].excl i h.patterns.length=O1 at ho1 ⊢
 generalize othersS h.patterns[i].impl i h.patterns.length=O2 at ho2 ⊢
 generalize namedB h.patterns[i].name=N at hn ⊢
 refine DC.of_run Tryd.func39 rfl Tryd.ntmps39 Tryd.results39 (by simp) (fun _ _=>?_);simp only[argV_cons,argV_nil,go_sem,Nat.zero_add,Nat.reduceAdd]
 repeat' (first|(with_reducible first|refine DS.fltS yU yU yX1 ?_|refine DS.opsNil ?_|refine DS.seq ?_|refine DS.regionL ?_|(refine DS.cE yX1 ?_;first|refine CG.np (fun _=>?_) (fun _=>?_)|refine CG.nb (fun _=>?_) (fun _=>?_)|refine CG.b (fun _=>?_) (fun _=>?_))|refine DS.skip ?_)|(refine DS.bsl yU yX1 yX1 ?_;simp only[go_sem,Nat.zero_add,Nat.reduceAdd])|(refine DS.letF (t:=5) yU yX1 yU (fun _=>yX1) yX1 yU (by exact⟨by with_unfolding_all rfl,by with_unfolding_all decide⟩) (fun _=>by simp only[go_sem,Nat.reduceEqDiff,↓reduceIte]) ?_;simp only[go_sem])|refine DS.pcS inferInstance (hn) yR yX2 ?_|refine DS.pcS inferInstance (hk) yR yX2 ?_|refine DS.pcS inferInstance (ha) yR yX2 ?_|refine DS.pcS inferInstance (hc) yR yX2 ?_|refine DS.pcS inferInstance (ho1) yR yX2 ?_|refine DS.pcS inferInstance (ho2) yR yX2 ?_|(refine DS.boxF (t:=2) yU yX1 yU ?_;simp only[cells_agg,cells_v,cells_lst,cells_fn,map_nil'',map_cons'',copy_own,copy_lst,copy_v,copy_at,copy_agg,copy_fn,copy_ifc,copy_tup])|refine DS.retT [] yX1 trivial ?_|fail)
 all_goals (clear hn hk ha hc ho1 ho2;simp only[tupV];(repeat' split) <;> first|rfl|(exfalso;omega)|(exfalso;grind))
theorem houseC1_pc (h:House):PC Tryd.prog 41 [.plc h.cells] (I (scaleS h.scale)):=by
 have hs:=checkScale_pc h.scale
 refine DC.of_run Tryd.func41 rfl Tryd.ntmps41 Tryd.results41 (by simp) (fun _ _=>?_);simp only[argV_cons,argV_nil,go_sem,Nat.zero_add,Nat.reduceAdd]
 repeat' (first|(with_reducible first|refine DS.fltS yU yU yE ?_|refine DS.opsNil ?_|refine DS.seq ?_|refine DS.regionL ?_)|refine DS.pcS inferInstance (hs) yR yT ?_|refine DS.retT [] yE trivial ?_|fail)
 rfl
theorem houseC2_pc (h:House):PC Tryd.prog 42 [.plc h.cells] (I (payS h.set h.pay)):=by
 have hs:=pay_pc h.set h.pay
 refine DC.of_run Tryd.func42 rfl Tryd.ntmps42 Tryd.results42 (by simp) (fun _ _=>?_);simp only[argV_cons,argV_nil,go_sem,Nat.zero_add,Nat.reduceAdd]
 repeat' (first|(with_reducible first|refine DS.fltS yU yU yE ?_|refine DS.opsNil ?_|refine DS.seq ?_|refine DS.regionL ?_)|refine DS.pcS inferInstance (hs) yR yT ?_|refine DS.retT [] yE trivial ?_|fail)
 rfl
theorem houseC3_pc (h:House):PC Tryd.prog 44 [.plc h.cells] (I (playS h.set h.play)):=by
 have hs:=play_pc h.set h.play
 refine DC.of_run Tryd.func44 rfl Tryd.ntmps44 Tryd.results44 (by simp) (fun _ _=>?_);simp only[argV_cons,argV_nil,go_sem,Nat.zero_add,Nat.reduceAdd]
 repeat' (first|(with_reducible first|refine DS.fltS yU yU yE ?_|refine DS.opsNil ?_|refine DS.seq ?_|refine DS.regionL ?_)|refine DS.pcS inferInstance (hs) yR yT ?_|refine DS.retT [] yE trivial ?_|fail)
 rfl
end Go.XL
namespace Go.XL
open Go.Proofs
set_option maxRecDepth 100000
set_option maxHeartbeats 8000000
structure House.CondsPC (h:House):Prop where
 minor:CondPC h.set h.minor
 pats: ∀(i:Nat) (hi:i<h.patterns.length),CondPC h.set h.patterns[i].cond
theorem patsGo_at (h:House): ∀(n i:Nat),patsGo h i (n+1)=if patS h i≠0 then patS h i else patsGo h (i+1) n:=fun _ _=>rfl
theorem yX3 {p:Prop} (h:p:=by(simp (disch:=omega) only[go_sem,dopV,yV0,↓reduceIte,Nat.reduceEqDiff,Nat.reduceLT,Nat.reduceLeDiff,Nat.reduceAdd,Nat.reduceMul,Nat.reduceSub,Int.reduceToNat,Int.reduceLT,Int.reduceLE,Int.reduceEq,IntWalk.toNatUp,IntWalk.iteOmega,IntWalk.i64_in,V.flat,V.one, *,Int.reduceAdd];exact rfl)):p:=h
theorem yX4 {p:Prop} (h:p:=by(simp (disch:=omega) only[go_sem,dopV,yV0,↓reduceIte,Nat.reduceEqDiff,Nat.reduceLT,Nat.reduceLeDiff,Nat.reduceAdd,Nat.reduceMul,Nat.reduceSub,Int.reduceToNat,Int.reduceLT,Int.reduceLE,Int.reduceEq,IntWalk.toNatUp,IntWalk.iteOmega,IntWalk.i64_in,V.flat,V.one, *,Int.reduceAdd];try exact rfl)):p:=h
theorem house_pc (h:House) (hc:h.CondsPC):PC Tryd.prog 28 [h.val] (I (houseS h)):=by
 have h1:=tcheck_pc h.set
 have h2:=forms_pc h.set h.forms
 have hm:=hc.minor
 unfold CondPC at hm
 by_cases h0:gsetS h.set=0
 ·rw[h0]at h1
  by_cases hf:formsS h.set h.forms=0
  ·rw[hf]at h2
   rw[houseS,if_neg (by omega)]
   refine DC.of_run Tryd.func28 rfl Tryd.ntmps28 Tryd.results28 (by simp) (fun _ _=>?_);simp only[argV_cons,argV_nil,go_sem,Nat.zero_add,Nat.reduceAdd]
   repeat' (first|(with_reducible first|refine DS.fltS yU yU yE ?_|refine DS.opsNil ?_|refine DS.seq ?_|refine DS.regionL ?_|(refine DS.cE yE ?_;first|refine CG.p (fun _=>?_) (fun _=>?_)|refine CG.no ?_)|refine DS.block ?_|refine DS.skip ?_)|refine DS.pcS inferInstance (h1) yR yT ?_|refine DS.pcS inferInstance (h2) yR yT ?_|(refine DS.boxF (t:=1) yU yE yU ?_;simp only[cells_agg,cells_v,cells_lst,cells_fn,map_nil'',map_cons'',copy_own,copy_lst,copy_v,copy_at,copy_agg,copy_fn,copy_ifc,copy_tup])|refine DS.retT [] yE trivial ?_|fail)
   ·rw[if_pos (by omega)];rfl
   rename_i g40
   rw[if_neg (by omega)]
   refine DS.loopK [1,32] yN (fun(i:Nat)=> [(33,I i)]) (fun(i:Nat)=>i≤h.patterns.length∧patsGo h 0 h.patterns.length=patsGo h i (h.patterns.length-i)) (fun(i:Nat)=>h.patterns.length-i) 0 yS ⟨Nat.zero_le _,rfl⟩ (fun i B hI hB=>?_);try dsimp only at hI hB;simp only[app_cons',app_nil']
   have HB:=Box.mk hB
   clear hB
   obtain⟨hI,hI2⟩:=hI
   by_cases hi:(i:Int)<(h.patterns.length:Int)
   ·have hi':i<h.patterns.length:=by omega
    obtain⟨m,hmm⟩: ∃m,h.patterns.length-i=m+1:=⟨h.patterns.length-i-1,by omega⟩
    rw[hmm,patsGo_at]at hI2
    have hmm2:h.patterns.length-(i+1)=m:=by omega
    have HI:=Box.mk hI2
    clear hI2
    have hp:=pattern_pc h (by omega) hi' (hc.pats i hi')
    have HM:=Box.mk hmm
    have HM2:=Box.mk hmm2
    clear hmm hmm2
    by_cases he:patS h i=0
    ·rw[he]at hp
     repeat' (first|(with_reducible first|refine DS.fltS yU yU yE ?_|refine DS.opsNil ?_|refine DS.seq ?_|refine DS.regionL ?_|(refine DS.cE yE ?_;first|refine CG.yes ?_|refine CG.no ?_)|refine DS.blk ?_|refine DS.block ?_|refine DS.skip ?_)|refine DS.pcS inferInstance (hp) yR yT ?_|fail)
     all_goals first
      | exact DS.back (HB.out (i+1) _ _ (by omega) ⟨by omega,by rw[HI.out,HM2.out,if_neg (by omega)]⟩ yS yS (fun b o e=>by cases e))
      | (exfalso;omega)
    ·repeat' (first|(with_reducible first|refine DS.fltS yU yU yE ?_|refine DS.opsNil ?_|refine DS.seq ?_|refine DS.regionL ?_|(refine DS.cE yE ?_;refine CG.yes ?_)|refine DS.block ?_|refine DS.skip ?_)|refine DS.pcS inferInstance (hp) yR yT ?_|refine DS.retT [] yE trivial ?_|fail)
     all_goals first|(rw[HI.out,if_pos he,if_pos he];rfl)|(exfalso;omega)
   ·have e:patsGo h 0 h.patterns.length=0:=by rw[hI2,show h.patterns.length-i=0 by omega];rfl
    rw[e,if_neg (by decide),rulesH]
    clear e hI2 HB
    have c1:=houseC1_pc h
    have c2:=houseC2_pc h
    have c3:=houseC3_pc h
    generalize condX h.set h.minor=C at hm ⊢
    obtain⟨m1,m2⟩:=C
    dsimp only at hm ⊢
    generalize scaleS h.scale=X1 at c1 ⊢
    generalize payS h.set h.pay=X2 at c2 ⊢
    generalize playS h.set h.play=X3 at c3 ⊢
    repeat' (first|(with_reducible first|refine DS.fltS yU yU yE ?_|refine DS.opsNil ?_|refine DS.seq ?_|refine DS.regionL ?_|(refine DS.cE yE ?_;first|refine CG.np (fun _=>?_) (fun _=>?_)|refine CG.no ?_|refine CG.nb (fun _=>?_) (fun _=>?_))|(refine DS.gE yU yE ?_;first|refine GG.pT (fun _=>?_) (fun _=>?_)|refine GG.run ?_|refine GG.sF ?_)|refine DS.blk ?_|refine DS.block ?_|refine DS.exit yU ?_|refine DS.skip ?_)|(refine DS.bsl yU yE yE ?_;simp only[go_sem,Nat.zero_add,Nat.reduceAdd])|refine DS.pcS inferInstance (hm) yR yT ?_|refine DS.pcS inferInstance (hfrom_pc _ _ _) yR yT ?_|refine DS.retT [] yE trivial ?_|fail)
    all_goals try ((simp only[tupV];(repeat' split) <;> first|rfl|(exfalso;omega)|(exfalso;grind));done)
    all_goals
     have eR:(if m2≠0 then m2 else if 0<(h.minor.length:Int)∧m1=false then 15 else if ¬(0≤h.least∧h.least≤1000)then 2 else if X1≠0 then X1 else if X2≠0 then X2 else X3)=if X1≠0 then X1 else if X2≠0 then X2 else X3:=by
      clear hm c1 c2 c3
      rw[if_neg (by omega),if_neg (by grind),if_neg (by omega)]
     rw[eR]
     clear eR
     refine DS.weaken (E':= [(74,I 0),(73,I 3),(72, .own false 94 1 [[.fn 41 [] [.plc h.cells]],[.fn 42 [] [.plc h.cells]],[.fn 44 [] [.plc h.cells]]])]) (subV_look ⟨by rfl,by rfl,by rfl,trivial⟩) (fun _ _ e=>e) ?_
     refine DS.loopK [72,73] yN (fun(j:Int)=> [(74,I j)]) (fun(j:Int)=>0≤j∧j≤3∧(0<j→X1=0)∧(1<j→X2=0)∧(2<j→X3=0)) (fun(j:Int)=>(3-j).toNat) 0 yS ⟨by omega,by omega,by omega,by omega,by omega⟩ (fun j B hI hB=>?_);try dsimp only at hI hB;simp only[app_cons',app_nil']
     have HB:=Box.mk hB
     clear hB
     obtain⟨hj0,hj,k1,k2,k3⟩:=hI
     have HK:=Box.mk (And.intro k1 (And.intro k2 k3))
     clear k1 k2 k3 hm
     obtain q|q|q|q:j=0∨j=1∨j=2∨j=3:=by omega
     ·subst q
      repeat' (first|(with_reducible first|refine DS.fltS yU yU yX3 ?_|refine DS.opsNil ?_|refine DS.seq ?_|refine DS.regionL ?_|(refine DS.cE yX3 ?_;first|refine CG.np (fun _=>?_) (fun _=>?_)|refine CG.yes ?_)|refine DS.blk ?_|refine DS.block ?_|refine DS.skip ?_)|refine DS.pcVS inferInstance yX3 (c1) yR yX4 ?_|refine DS.retT [] yX3 trivial ?_|fail)
      all_goals first
       | (rw[if_pos (by omega)];rfl)
       | exact DS.back (HB.out 1 _ _ (by omega) ⟨by omega,by omega,fun _=>by omega,by omega,by omega⟩ yS yS (fun b o e=>by cases e))
     ·subst q
      repeat' (first|(with_reducible first|refine DS.fltS yU yU yX3 ?_|refine DS.opsNil ?_|refine DS.seq ?_|refine DS.regionL ?_|(refine DS.cE yX3 ?_;first|refine CG.np (fun _=>?_) (fun _=>?_)|refine CG.yes ?_)|refine DS.blk ?_|refine DS.block ?_|refine DS.skip ?_)|refine DS.pcVS inferInstance yX3 (c2) yR yX4 ?_|refine DS.retT [] yX3 trivial ?_|fail)
      all_goals first
       | (obtain⟨k1,k2,k3⟩:=HK.out;rw[if_neg (by omega),if_pos (by omega)];rfl)
       | exact DS.back (HB.out 2 _ _ (by omega) ⟨by omega,by omega,fun _=>HK.out.1 (by omega),fun _=>by omega,by omega⟩ yS yS (fun b o e=>by cases e))
     ·subst q
      repeat' (first|(with_reducible first|refine DS.fltS yU yU yX3 ?_|refine DS.opsNil ?_|refine DS.seq ?_|refine DS.regionL ?_|(refine DS.cE yX3 ?_;first|refine CG.np (fun _=>?_) (fun _=>?_)|refine CG.yes ?_)|refine DS.blk ?_|refine DS.block ?_|refine DS.skip ?_)|refine DS.pcVS inferInstance yX3 (c3) yR yX4 ?_|refine DS.retT [] yX3 trivial ?_|fail)
      all_goals first
       | (obtain⟨k1,k2,k3⟩:=HK.out;rw[if_neg (by omega),if_neg (by omega)];rfl)
       | exact DS.back (HB.out 3 _ _ (by omega) ⟨by omega,by omega,fun _=>HK.out.1 (by omega),fun _=>HK.out.2.1 (by omega),fun _=>by omega⟩ yS yS (fun b o e=>by cases e))
     ·subst q
      repeat' (first|(with_reducible first|refine DS.fltS yU yU yE ?_|refine DS.opsNil ?_|refine DS.seq ?_|refine DS.regionL ?_|(refine DS.cE yE ?_;refine CG.no ?_)|refine DS.exit yU ?_)|refine DS.retT [] yE trivial ?_|fail)
      obtain⟨k1,k2,k3⟩:=HK.out
      rw[if_neg (by omega),if_neg (by omega),k3 (by omega)];rfl
  ·rw[houseS,if_pos hf]
   refine DC.of_run Tryd.func28 rfl Tryd.ntmps28 Tryd.results28 (by simp) (fun _ _=>?_);simp only[argV_cons,argV_nil,go_sem,Nat.zero_add,Nat.reduceAdd]
   repeat' (first|(with_reducible first|refine DS.fltS yU yU yE ?_|refine DS.opsNil ?_|refine DS.seq ?_|refine DS.regionL ?_|(refine DS.cE yE ?_;first|refine CG.yes ?_|refine CG.no ?_)|refine DS.skip ?_)|refine DS.pcS inferInstance (h1) yR yT ?_|refine DS.pcS inferInstance (h2) yR yT ?_|(refine DS.boxF (t:=1) yU yE yU ?_;simp only[cells_agg,cells_v,cells_lst,cells_fn,map_nil'',map_cons'',copy_own,copy_lst,copy_v,copy_at,copy_agg,copy_fn,copy_ifc,copy_tup])|refine DS.retT [] yE trivial ?_|fail)
   all_goals first|rfl|(exfalso;omega)
 ·have e:formsS h.set h.forms=gsetS h.set:=by rw[formsS,if_pos h0]
  rw[houseS,e,if_pos h0]
  refine DC.of_run Tryd.func28 rfl Tryd.ntmps28 Tryd.results28 (by simp) (fun _ _=>?_);simp only[argV_cons,argV_nil,go_sem,Nat.zero_add,Nat.reduceAdd]
  repeat' (first|(with_reducible first|refine DS.fltS yU yU yE ?_|refine DS.opsNil ?_|refine DS.seq ?_|refine DS.regionL ?_|(refine DS.cE yE ?_;refine CG.yes ?_))|refine DS.pcS inferInstance (h1) yR yT ?_|(refine DS.boxF (t:=1) yU yE yU ?_;simp only[cells_agg,cells_v,cells_lst,cells_fn,map_nil'',map_cons'',copy_own,copy_lst,copy_v,copy_at,copy_agg,copy_fn,copy_ifc,copy_tup])|refine DS.retT [] yE trivial ?_|fail)
  all_goals first|rfl|(exfalso;omega)
end Go.XL
namespace Go.XL
open Go.Proofs
set_option maxRecDepth 100000
set_option maxHeartbeats 8000000
def payL (L:List Int) (j w:Nat) (n:Int):List Int:=(L.set j (L.getD j 0-n)).set w ((L.set j (L.getD j 0-n)).getD w 0+n)
theorem payL_len (L:List Int) (j w:Nat) (n:Int):(payL L j w n).length=L.length:=by simp[payL]
abbrev slcO (bo n:Nat):V := .v (.slice (some ⟨bo,0,none⟩) n n)
theorem payC_dc (bo:Nat) (L:List Int) (j w:Nat) (n:Int) (hj:j<L.length) (hw:w<L.length) (hn:0≤n∧n≤1000000000) (hL: ∀x∈L,-1000000000000≤x∧x≤1000000000000) (hl:L.length≤4) :
  DC Tryd.prog 35 [I j,I n, .plc [slcO bo L.length], .plc [I w]] [(bo, .cells (L.map I) 3)] (fun u S'=>u=V.tup []∧S'= [(bo, .cells ((payL L j w n).map I) 3)]):=by
 have e1:(L.map I)[j]?=some (I L[j]):=by simp[hj]
 have e2:L.getD j 0=L[j]:=by rw[List.getD_eq_getElem?_getD,List.getElem?_eq_getElem hj];rfl
 have b1:=hL _ (List.getElem_mem hj)
 have hw':w<(L.set j (L[j]-n)).length:=by simpa using hw
 have e3:payL L j w n=(L.set j (L[j]-n)).set w ((L.set j (L[j]-n))[w]+n):=by
  rw[payL,e2,List.getD_eq_getElem?_getD,List.getElem?_eq_getElem hw'];rfl
 have e4:((L.set j (L[j]-n)).map I)[w]?=some (I (L.set j (L[j]-n))[w]):=by rw[List.getElem?_map,List.getElem?_eq_getElem hw'];rfl
 have b2 : -1000000000000-1000000000≤(L.set j (L[j]-n))[w]∧(L.set j (L[j]-n))[w]≤1000000000000:=by
  rw[List.getElem_set]
  split
  ·omega
  ·have:=hL _ (List.getElem_mem hw);omega
 have e5:(List.map I L).set j (V.v (Value.int IntKind.i64 (L[j]-n)))=(L.set j (L[j]-n)).map I:=by rw[List.map_set]
 have hl2:(L.set j (L[j]-n)).length=L.length:=by simp
 refine DC.of_run Tryd.func35 rfl Tryd.ntmps35 Tryd.results35 (by simp) (fun _ _=>?_);simp only[argV_cons,argV_nil,go_sem,Nat.zero_add,Nat.reduceAdd]
 repeat' (first|(with_reducible first|refine DS.fltS yU yU yE ?_|refine DS.opsNil ?_|refine DS.seq ?_|refine DS.regionL ?_)|(refine DS.store yR yE yE yE yE yU (by exact⟨by with_unfolding_all rfl,by(try simp only[List.length_map,List.length_append,List.length_set,List.length_replicate,List.length_cons,List.length_nil]);omega⟩) ?_;simp only[putV_none,setAll_cons,setAll_nil,scells_v,scells_own,scells_lst,scells_agg];try simp only[strip_tmp,strip_const,lookV_cons,Nat.reduceEqDiff,↓reduceIte,stripO_own,stripO_lst,stripO_v,stripO_plc,stripO_agg,stripO_fn,stripO_ifc])|fail)
 simp only[setS,↓reduceIte]
 rw[e3,show(List.map I (L.set j (L[j]-n))).set w (V.v (Value.int IntKind.i64 ((L.set j (L[j]-n))[w]+n)))=((L.set j (L[j]-n)).set w ((L.set j (L[j]-n))[w]+n)).map I by rw[List.map_set (l:=L.set j (L[j]-n))]]
 repeat' (first|refine DS.nilA yE ⟨?_,rfl⟩|fail)
 all_goals rfl
def outS (p:PayM) (liable:Int):Nat→List Int
 | 0=>List.replicate p.h.set.players.toNat 0
 | i+1=>if(i:Int)=p.winner then outS p liable i else
   if 0≤liable∧p.from_=p.winner then payL (outS p liable i) liable.toNat p.winner.toNat (owesS p.h p.points p.dealer p.winner p.from_ p.counters i)else
   if 0≤liable∧(i:Int)=p.from_∧liable≠p.from_ then
    payL (payL (outS p liable i) liable.toNat p.winner.toNat (owesS p.h p.points p.dealer p.winner p.from_ p.counters i-owesS p.h p.points p.dealer p.winner p.from_ p.counters i / 2)) i p.winner.toNat (owesS p.h p.points p.dealer p.winner p.from_ p.counters i / 2)
   else payL (outS p liable i) i p.winner.toNat (owesS p.h p.points p.dealer p.winner p.from_ p.counters i)
def payX2 (h:House) (points dealer winner from_ counters liable:Int):List Int×Int :=
 if houseS h≠0 then([],houseS h)else
 if points<0∨points > 1000000∨counters<0∨counters > 100 then([],2)else
 if(h.seat dealer&&h.seat winner&&h.seat from_)=false then([],2)else
 if liable ≠ -1∧(h.seat liable=false∨liable=winner)then([],2)else
 (outS ⟨h,points,dealer,winner,from_,counters⟩ liable h.set.players.toNat,0)
theorem payL_in {L:List Int} {j w:Nat} {n B:Int} (hL: ∀x∈L,-B≤x∧x≤B) (hn:0≤n∧n≤1000000000) (hB:0≤B): ∀x∈payL L j w n,-(B+2000000000)≤x∧x≤B+2000000000:=by
 have get: ∀(M:List Int) (C:Int),0≤C→(∀x∈M,-C≤x∧x≤C)→ ∀i:Nat,-C≤M.getD i 0∧M.getD i 0≤C:=fun M C hC hM i=>by
  rw[List.getD_eq_getElem?_getD]
  cases e:M[i]? with
  | none=>simp;omega
  | some v=>exact hM v (List.mem_of_getElem? e)
 have h1: ∀x∈L.set j (L.getD j 0-n),-(B+1000000000)≤x∧x≤B+1000000000:=fun x hx=>by
  rcases List.mem_or_eq_of_mem_set hx with h|h
  ·have:=hL x h;omega
  ·have:=get L B hB hL j;omega
 intro x hx
 rw[payL]at hx
 rcases List.mem_or_eq_of_mem_set hx with h|h
 ·have:=h1 x h;omega
 ·have:=get _ (B+1000000000) (by omega) h1 w;omega
theorem outS_ok (p:PayM) (ok:p.Ok) (liable:Int): ∀i:Nat,(outS p liable i).length=p.h.set.players.toNat∧ ∀x∈outS p liable i,-(i*4000000000:Int)≤x∧x≤(i*4000000000:Int)
 | 0=>by
  refine⟨by simp[outS],fun x hx=>?_⟩
  simp only[outS,List.mem_replicate]at hx
  rw[hx.2];omega
 | i+1=>by
  obtain⟨h1,h2⟩:=outS_ok p ok liable i
  have ho:=owesS_bd p ok i
  rw[outS]
  split
  ·exact⟨h1,fun x hx=>by have:=h2 x hx;omega⟩
  split
  ·refine⟨by rw[payL_len];exact h1,fun x hx=>?_⟩
   have:=payL_in h2 ho (by omega) x hx;omega
  split
  ·refine⟨by rw[payL_len,payL_len];exact h1,fun x hx=>?_⟩
   have q1: ∀x∈payL (outS p liable i) liable.toNat p.winner.toNat (owesS p.h p.points p.dealer p.winner p.from_ p.counters i-owesS p.h p.points p.dealer p.winner p.from_ p.counters i / 2),_:=payL_in h2 (n:=owesS p.h p.points p.dealer p.winner p.from_ p.counters i-owesS p.h p.points p.dealer p.winner p.from_ p.counters i / 2) (by omega) (by omega)
   have:=payL_in q1 (n:=owesS p.h p.points p.dealer p.winner p.from_ p.counters i / 2) (j:=i) (w:=p.winner.toNat) (by omega) (by omega) x hx
   omega
  ·refine⟨by rw[payL_len];exact h1,fun x hx=>?_⟩
   have:=payL_in h2 ho (by omega) x hx;omega
structure House.Ok (h:House):Prop where
 set:gsetS h.set=0
 forms:formsS h.set h.forms=0
 many:h.patterns.length≤40
 pats:patsGo h 0 h.patterns.length=0
 least:0≤h.least∧h.least≤1000
 scale:scaleS h.scale=0
 pay:payS h.set h.pay=0
 play:playS h.set h.play=0
theorem ite1 {b a:Int} (h:(if a≠0 then a else b)=0):a=0∧b=0:=by
 by_cases hp:a≠0
 ·rw[if_pos hp]at h;exact absurd h hp
 ·rw[if_neg hp]at h;exact⟨Decidable.not_not.1 hp,h⟩
theorem house_ok {h:House} (e:houseS h=0):h.Ok:=by
 rw[houseS]at e
 obtain⟨e1,e⟩:=ite1 e
 obtain⟨e2,e⟩:=ite0 (by decide) e
 obtain⟨e3,e⟩:=ite1 e
 rw[rulesH]at e
 obtain⟨e4,e⟩:=ite1 e
 obtain⟨e5,e⟩:=ite0 (by decide) e
 obtain⟨e6,e⟩:=ite0 (by decide) e
 obtain⟨e7,e⟩:=ite1 e
 obtain⟨e8,e⟩:=ite1 e
 have e9:gsetS h.set=0:=by
  rw[formsS]at e1
  exact(ite1 e1).1
 exact⟨e9,e1,by omega,e3,by omega,e7,e8,e⟩
theorem scale_ok {x:Scale} (e:scaleS x=0):(0≤x.base∧x.base≤1000)∧(1≤x.round∧x.round≤10000)∧x.limits.length≤12∧limitsGo x.limits none=0:=by
 rw[scaleS]at e
 obtain⟨e1,e⟩:=ite0 (by decide) e
 obtain⟨e2,e⟩:=ite0 (by decide) e
 obtain⟨e3,e⟩:=ite0 (by decide) e
 exact⟨by omega,by omega,by omega,e⟩
theorem pay_ok {s:GSet} {p:Pay} (e:payS s p=0):(1≤p.mode∧p.mode≤3)∧(ptB p.basic&&ptB p.counter&&ptB p.stick&&ptB p.pool&&ptB p.foul&&ptB p.start)=true:=by
 rw[payS]at e
 obtain⟨e1,e⟩:=ite1 e
 obtain⟨e2,e⟩:=ite0 (by decide) e
 obtain⟨e3,e⟩:=ite0 (by decide) e
 exact⟨by omega,by simpa [and_assoc] using e3⟩
theorem payM_ok {p:PayM} (e:houseS p.h=0) (hp: ¬(p.points<0∨p.points > 1000000∨p.counters<0∨p.counters > 100)):p.Ok:=by
 have ok:=house_ok e
 have h1:=(gset_ok ok.set).players
 obtain⟨s1,s2,-,-⟩:=scale_ok ok.scale
 obtain⟨q1,q2⟩:=pay_ok ok.pay
 simp only[Bool.and_eq_true,ptB,decide_eq_true_eq]at q2
 exact⟨h1,by omega,s2,q1,by omega,by omega,by omega⟩
end Go.XL
namespace Go.XL
def bitsM (m:Nat):List Nat:=(List.range 64).filter fun i=>m.testBit i
def andN (a b:Nat):Nat:=a &&& (b ^^^ (2 ^ 64-1))
def maskL :List Nat→Nat
 | []=>0
 | i::l=>2 ^ i ||| maskL l
theorem andN_bit {a:Nat} (b:Nat) (ha:a<2 ^ 64) (j:Nat):(andN a b).testBit j=(a.testBit j&& !b.testBit j):=by
 rw[andN,Nat.testBit_and,Nat.testBit_xor,Nat.testBit_two_pow_sub_one]
 by_cases h:j<64
 ·simp[h]
 ·have:a.testBit j=false:=Nat.testBit_lt_two_pow (Nat.lt_of_lt_of_le ha (Nat.pow_le_pow_right (by omega) (by omega)))
  simp[this]
theorem andN_lt {a:Nat} (b:Nat) (ha:a<2 ^ 64):andN a b<2 ^ 64:=Nat.lt_of_le_of_lt Nat.and_le_left ha
theorem filter_first {p p':Nat→Bool} {t:Nat} (hp:p t=true) (h0: ∀j,j<t→p j=false) (hp': ∀j,p' j=(p j&&decide (j≠t))): ∀n,t<n→(List.range n).filter p=t::(List.range n).filter p'
 | 0,h=>by omega
 | n+1,h=>by
  rw[List.range_succ,List.filter_append,List.filter_append]
  by_cases ht:t<n
  ·rw[filter_first hp h0 hp' n ht]
   have:p' n=p n:=by rw[hp'];simp;omega
   simp[List.filter_cons,this]
  ·have:t=n:=by omega
   subst this
   have e1:(List.range t).filter p= []:=List.filter_eq_nil_iff.2 fun j hj=>by rw[h0 j (List.mem_range.1 hj)];decide
   have e2:(List.range t).filter p'= []:=List.filter_eq_nil_iff.2 fun j hj=>by rw[hp',h0 j (List.mem_range.1 hj)];simp
   have e3:p' t=false:=by rw[hp'];simp
   rw[e1,e2];simp[hp,e3]
theorem bits_lt (m:Nat): ∀i∈bitsM m,i<64∧m.testBit i=true:=fun i hi=>by
 simp only[bitsM,List.mem_filter,List.mem_range]at hi;exact hi
theorem bits_zero :bitsM 0= []:=by simp[bitsM]
theorem ctz_lt {m:Nat} (h0:m≠0) (hm:m<2 ^ 64):Lib.ctz 64 m<64:=(Lib.lowest_bit 64 m h0 hm).2
theorem ctz_first {m:Nat} (h0:m≠0) (hm:m<2 ^ 64):m.testBit (Lib.ctz 64 m)=true∧ ∀j,j<Lib.ctz 64 m→m.testBit j=false:=by
 obtain⟨k,hk,ht⟩:=Lib.ctzFrom_spec 64 m (by omega) hm
 have e:Lib.ctz 64 m=Lib.ctzFrom 64 m:=by simp[Lib.ctz,h0]
 rw[e]
 generalize Lib.ctzFrom 64 m=t at *
 have e3:m=2 ^ t*(2*k+1)+0:=by omega
 have b2: ∀j,m.testBit j=if j<t then(0:Nat).testBit j else(2*k+1).testBit (j-t):=fun j=>by
  conv=>lhs;rw[e3]
  exact Nat.testBit_two_pow_mul_add _ (Nat.pow_pos (by omega)) j
 refine⟨?_,fun j hj=>?_⟩
 ·rw[b2,if_neg (by omega),Nat.sub_self,Nat.testBit_zero];simp
 ·rw[b2,if_pos hj];simp
theorem bits_cons {m:Nat} (h0:m≠0) (hm:m<2 ^ 64):bitsM m=Lib.ctz 64 m::bitsM (andN m (2 ^ Lib.ctz 64 m)):=by
 obtain⟨h1,h2⟩:=ctz_first h0 hm
 refine filter_first h1 h2 (fun j=>?_) 64 (ctz_lt h0 hm)
 rw[andN_bit _ hm,Nat.testBit_two_pow]
 congr 1
 by_cases h:Lib.ctz 64 m=j <;> simp[h]
 omega
theorem bits_andN {a:Nat} (b:Nat) (ha:a<2 ^ 64):bitsM (andN a b)=(bitsM a).filter fun k=> !b.testBit k:=by
 rw[bitsM,bitsM,List.filter_filter]
 refine List.filter_congr fun j _=>?_
 rw[andN_bit b ha,Bool.and_comm]
theorem bits_any {a:Nat} (b:Nat) (ha:a<2 ^ 64):(bitsM a).any (fun k=>b.testBit k)=decide (a &&& b≠0):=by
 rw[Bool.eq_iff_iff,List.any_eq_true,decide_eq_true_iff]
 constructor
 ·rintro⟨j,hj,hb⟩ h0
  have h1:=congrArg (·.testBit j) h0
  simp only[Nat.testBit_and,Nat.zero_testBit,(bits_lt a j hj).2,hb]at h1
  cases h1
 ·intro h
  refine Decidable.byContradiction fun hn=>h (Nat.eq_of_testBit_eq fun j=>?_)
  rw[Nat.testBit_and,Nat.zero_testBit]
  by_cases hj:j<64
  ·cases h1:a.testBit j with
   | false=>rfl
   | true =>
    cases h2:b.testBit j with
    | false=>rfl
    | true=>exact absurd ⟨j,by simp[bitsM,hj,h1],h2⟩ hn
  ·rw[Nat.testBit_lt_two_pow (Nat.lt_of_lt_of_le ha (Nat.pow_le_pow_right (by omega) (by omega)))];rfl
theorem mask_bit : ∀(l:List Nat) (j:Nat),(maskL l).testBit j=decide (j∈l)
 | [],j=>by simp[maskL]
 | i::l,j=>by
  rw[maskL,Nat.testBit_or,Nat.testBit_two_pow,mask_bit l j]
  by_cases h:i=j <;> by_cases h2:j∈l <;> simp[h,h2] <;> omega
theorem mask_lt : ∀(l:List Nat),(∀i∈l,i<64)→maskL l<2 ^ 64
 | [],_=>by simp[maskL]
 | i::l,h=>Nat.or_lt_two_pow (Nat.pow_lt_pow_right (by omega) (h i (List.mem_cons_self ..))) (mask_lt l fun j hj=>h j (List.mem_cons_of_mem _ hj))
def bestL (cl:Nat→Nat→Bool) (v:Nat→Int):List Nat→Int×List Nat
 | []=>(0,[])
 | i::l =>
  if l.any (cl i)=true∧(bestL cl v l).1 > (bestL cl v (l.filter fun k=> !cl i k)).1+v i then bestL cl v l
  else((bestL cl v (l.filter fun k=> !cl i k)).1+v i,i::(bestL cl v (l.filter fun k=> !cl i k)).2)
termination_by l=>l.length
decreasing_by all_goals (simp only[List.length_cons,List.unattach_filter,List.unattach_attach];first|omega|(have:=List.length_filter_le (fun k=> !cl i k) l;omega))
theorem bestL_nil (cl:Nat→Nat→Bool) (v:Nat→Int):bestL cl v []=(0,[]):=by rw[bestL]
theorem bestL_cons (cl:Nat→Nat→Bool) (v:Nat→Int) (i:Nat) (l:List Nat):bestL cl v (i::l)=if l.any (cl i)=true∧(bestL cl v l).1 > (bestL cl v (l.filter fun k=> !cl i k)).1+v i then bestL cl v l
  else((bestL cl v (l.filter fun k=> !cl i k)).1+v i,i::(bestL cl v (l.filter fun k=> !cl i k)).2):=by rw[bestL]
theorem bestL_sub (cl:Nat→Nat→Bool) (v:Nat→Int): ∀(n:Nat) (l:List Nat),l.length≤n→(bestL cl v l).2.Sublist l
 | _,[],_=>by rw[bestL_nil];exact List.Sublist.refl _
 | n+1,i::l,h=>by
  have h1:l.length≤n:=by simpa using h
  have h2:=List.length_filter_le (fun k=> !cl i k) l
  rw[bestL_cons]
  split
  ·exact(bestL_sub cl v n l h1).trans (List.sublist_cons_self ..)
  ·exact((bestL_sub cl v n _ (by omega)).trans (List.filter_sublist ..)).cons₂ i
theorem bestL_bd (cl:Nat→Nat→Bool) (v:Nat→Int) {B:Int} (hB:0≤B) (hv: ∀i,0≤v i∧v i≤B): ∀(n:Nat) (l:List Nat),l.length≤n→0≤(bestL cl v l).1∧(bestL cl v l).1≤n*B
 | n,[],_=>by rw[bestL_nil];exact⟨Int.le_refl _,Int.mul_nonneg (by omega) hB⟩
 | n+1,i::l,h=>by
  have h1:l.length≤n:=by simpa using h
  have h2:=List.length_filter_le (fun k=> !cl i k) l
  have a:=bestL_bd cl v hB hv n l h1
  have b:=bestL_bd cl v hB hv n (l.filter fun k=> !cl i k) (by omega)
  have c:=hv i
  have e:((n+1:Nat):Int)*B=n*B+B:=by rw[Int.natCast_add,Int.add_mul];simp
  rw[bestL_cons,e]
  split
  ·omega
  ·dsimp only;omega
def bestM (cl:Nat→Nat→Bool) (v:Nat→Int) (m:Nat):Int×Nat:=((bestL cl v (bitsM m)).1,maskL (bestL cl v (bitsM m)).2)
theorem bestM_zero (cl:Nat→Nat→Bool) (v:Nat→Int):bestM cl v 0=(0,0):=by rw[bestM,bits_zero,bestL_nil];rfl
theorem bestM_step (c:Nat→Nat) (v:Nat→Int) {m:Nat} (h0:m≠0) (hm:m<2 ^ 64) (i:Nat) (hi:i=Lib.ctz 64 m) (r:Nat) (hr:r=andN m (2 ^ i)) :
  bestM (fun i k=>(c i).testBit k) v m=if r &&& c i≠0∧(bestM (fun i k=>(c i).testBit k) v r).1 > (bestM (fun i k=>(c i).testBit k) v (andN r (c i))).1+v i then bestM (fun i k=>(c i).testBit k) v r
   else((bestM (fun i k=>(c i).testBit k) v (andN r (c i))).1+v i,(bestM (fun i k=>(c i).testBit k) v (andN r (c i))).2 ||| 2 ^ i):=by
 subst hi
 have hrl:r<2 ^ 64:=by rw[hr];exact andN_lt _ hm
 rw[bestM,bits_cons h0 hm,←hr,bestL_cons,bits_any _ hrl]
 simp only[bestM,bits_andN _ hrl]
 by_cases h:r &&& c (Lib.ctz 64 m)≠0∧(bestL (fun i k=>(c i).testBit k) v (bitsM r)).1 > (bestL (fun i k=>(c i).testBit k) v ((bitsM r).filter fun k=> !(c (Lib.ctz 64 m)).testBit k)).1+v (Lib.ctz 64 m)
 ·rw[if_pos h,if_pos (by simpa using h)]
 ·rw[if_neg h,if_neg (by simpa using h)]
  dsimp only
  rw[maskL,Nat.or_comm]
end Go.XL
namespace Go.XL
open Go.Proofs
open Go.Maps (Keyed)
set_option maxRecDepth 100000
set_option maxHeartbeats 4000000
abbrev UN (m:Nat):V := .v (.int .u64 (m:Int))
section
variable {P:Program} {T:TypeId} {a b:Nat}
theorem bits_andNot_u64_nat (ha:a<18446744073709551616) (hb:b<18446744073709551616):bits .andNot .u64 (a:Int) (b:Int)=((andN a b:Nat):Int):=by
 have h1:(BitVec.ofInt 64 (a:Int)).toNat=a:=by
  rw[BitVec.ofInt_natCast,BitVec.toNat_ofNat];exact Nat.mod_eq_of_lt (by omega)
 have h2:(BitVec.ofInt 64 (b:Int)).toNat=b:=by
  rw[BitVec.ofInt_natCast,BitVec.toNat_ofNat];exact Nat.mod_eq_of_lt (by omega)
 have hx:(BitVec.ofInt 64 (a:Int) &&& ~~~ BitVec.ofInt 64 (b:Int)).toNat=andN a b:=by
  apply Nat.eq_of_testBit_eq
  intro j
  rw[andN_bit b (by simpa using ha)]
  have e1: ∀x:BitVec 64,x.toNat.testBit j=x.getLsbD j:=fun _=>rfl
  rw[e1,BitVec.getLsbD_and,BitVec.getLsbD_not,←e1,←e1,h1,h2]
  by_cases hj:j<64
  ·simp[hj]
  ·have:a.testBit j=false:=Nat.testBit_lt_two_pow (Nat.lt_of_lt_of_le (show a<2 ^ 64 by simpa using ha) (Nat.pow_le_pow_right (by omega) (by omega)))
   simp[this]
 have hl:andN a b<2 ^ 64:=andN_lt b (by simpa using ha)
 show IntKind.u64.wrap ((BitVec.ofInt 64 (a:Int) &&& ~~~ BitVec.ofInt 64 (b:Int)).toNat:Int)=_
 rw[hx,IntKind.wrap_u64]
 omega
theorem bop_andU (ha:a<18446744073709551616) (hb:b<18446744073709551616):bop P .and T (.int .u64 (a:Int)) (.int .u64 (b:Int))=some (.int .u64 ((a &&& b:Nat):Int)):=by
 rw[←bits_and_u64_nat a b ha hb];rfl
theorem bop_orU (ha:a<18446744073709551616) (hb:b<18446744073709551616):bop P .or T (.int .u64 (a:Int)) (.int .u64 (b:Int))=some (.int .u64 ((a ||| b:Nat):Int)):=by
 rw[←bits_or_u64_nat a b ha hb];rfl
theorem bop_andNotU (ha:a<18446744073709551616) (hb:b<18446744073709551616):bop P .andNot T (.int .u64 (a:Int)) (.int .u64 (b:Int))=some (.int .u64 ((andN a b:Nat):Int)):=by
 rw[←bits_andNot_u64_nat ha hb];rfl
theorem bop_shlU {k:IntKind} {i:Nat} (hi:i<64):bop P .shl T (.int .u64 1) (.int k (i:Int))=some (.int .u64 ((2 ^ i:Nat):Int)):=by
 have h: ¬((i:Int)<0):=by omega
 have h2:(2 ^ i:Nat)<2 ^ 64:=Nat.pow_lt_pow_right (by omega) hi
 simp only[bop,Op.shift,if_neg h,Int.toNat_natCast,Nat.min_eq_left (show i≤IntKind.u64.bits from Nat.le_of_lt hi)]
 show some (Value.int .u64 (IntKind.u64.wrap (1*2 ^ i)))=_
 have e:IntKind.u64.wrap (1*2 ^ i)=((2 ^ i:Nat):Int):=by
  rw[IntKind.wrap_u64,Int.one_mul]
  have:((2:Int) ^ i)=((2 ^ i:Nat):Int):=by simp
  rw[this]
  generalize 2 ^ i=x at h2
  omega
 rw[e]
end
theorem bop_shrH {P:Program} {T:TypeId} {k':IntKind} {a b:Int} (h: ¬b<0):bop P .shr T (.int .u64 a) (.int k' b)=some (.int .u64 (a.fdiv (2 ^ (min b.toNat 64)))):=by
 simp only[bop,Op.shift]
 rw[if_neg h]
 rfl
theorem and_pred {m:Nat} (h0:m≠0) (hm:m<2 ^ 64):m &&& (m-1)=andN m (2 ^ Lib.ctz 64 m):=by
 obtain⟨k,hk,ht⟩:=Lib.ctzFrom_spec 64 m (by omega) hm
 have e:Lib.ctz 64 m=Lib.ctzFrom 64 m:=by simp[Lib.ctz,h0]
 rw[e]
 generalize Lib.ctzFrom 64 m=t at *
 apply Nat.eq_of_testBit_eq
 intro j
 rw[andN_bit _ hm,Nat.testBit_and,Nat.testBit_two_pow]
 have h1:0<2 ^ t:=Nat.pow_pos (by omega)
 have e2:m-1=2 ^ t*(2*k)+(2 ^ t-1):=by rw[hk,Nat.mul_add];omega
 have e3:m=2 ^ t*(2*k+1)+0:=by omega
 have b1:(m-1).testBit j=if j<t then(2 ^ t-1).testBit j else(2*k).testBit (j-t):=by
  rw[e2];exact Nat.testBit_two_pow_mul_add _ (by omega) j
 have b2:m.testBit j=if j<t then(0:Nat).testBit j else(2*k+1).testBit (j-t):=by
  conv=>lhs;rw[e3]
  exact Nat.testBit_two_pow_mul_add _ h1 j
 rw[b1,b2]
 by_cases hj:j<t
 ·simp[hj]
 ·rw[if_neg hj,if_neg hj]
  by_cases hj2:t=j
  ·subst hj2
   simp[Nat.testBit_zero]
  ·obtain⟨d,rfl⟩: ∃d,j=t+(d+1):=⟨j-t-1,by omega⟩
   have:t+(d+1)-t=d+1:=by omega
   rw[this,Nat.testBit_succ,Nat.testBit_succ]
   have:(2*k+1) / 2=k:=by omega
   have:2*k / 2=k:=by omega
   simp[*]
section
variable {P:Program} {t k e:TypeId} {b:Nat} {f:Value→Option Value} {es:Array MapEntry} {clock:Nat} {key z:Value}
theorem lookup_map2 (K:Keyed P k) (ht:P.underlying t=some (.map k e)) (hz: ∀w:World,(zeroValue e).run P w = .ok z w) (M:MapIs P k f es clock) (hk:KeyOk P k key) (w:World) (hb:w.heap[b]?=some (.map es clock)) :
  (Instr.lookup t (.map (some b)) key true).run P w = .ok (.tuple #[(f key).getD z, .bool (f key).isSome]) w:=by
 obtain⟨l,hl⟩:=hk
 rcases M.find K ⟨l,hl⟩with⟨h1,_,h2⟩|⟨j,e0,_,_,h1,h2⟩
 ·simp[Instr.lookup,run_underlying ht,MapKept.run_getObj_map hb,K.check w _ hl,h2,hz,h1,Result.andThen]
 ·simp[Instr.lookup,run_underlying ht,MapKept.run_getObj_map hb,K.check w _ hl,h2,hz,h1,Result.andThen]
end
section
variable {v0:VH} {P:Program} {n:Nat} {r:Rr} {Q:VEnv→Sto→Prop} {k:List Fr} {E:VEnv} {S:Sto} {dst:Option Tmp} {ty:TypeId} {pos:String} {af:Array Edge} {ops l:List Oper}
theorem OpS.look2 {T kt e:TypeId} {mx kx:Operand} {b:Nat} {f:Value→Option Value} {es:Array MapEntry} {clock:Nat} {key z:Value} {u:V} (K:Keyed P kt) (ht:P.underlying T=some (.map kt e)) (hz:tzero P e=some z) (M:MapIs P kt f es clock) (hk:KeyOk P kt key)
  (h1:evV E mx=some (.v (.map (some b)))) (h2:evV E kx=some (.v key)) (hS:lookS S b=some (.raw (.map es clock))) (hu: ∀hv,u.Rl hv ((f key).getD z)) (huf:(V.tup [u, .v (.bool (f key).isSome)]).free=true) :
  OpS v0 P n ⟨dst, .lookup T mx kx true,ty,pos,af,none⟩ E S (fun x E' S'=>x = .tup [u, .v (.bool (f key).isSome)]∧E'=E∧S'=S):=by
 intro K1 D hv hold env a w hfl ha s
 obtain⟨y1,a1,b1⟩:=s.rl _ _ h1
 obtain⟨y2,a2,b2⟩:=s.rl _ _ h2
 simp only[V.Rl]at b1 b2
 subst b1;subst b2
 have hb:w.heap[b]?=some (.map es clock):=(s.obj b _ hS).2.2
 have:=lookup_map2 K ht (fun w=>tzero_run hz w) M hk w hb
 refine yields_value (w':=w) (by simp[execOp,ha.ev a1,ha.ev a2,this];rfl) ⟨Same.refl w,_,E,S,hv,hold,PreV.refl hv,s.put dst (by simp only[V.Rl,RlL];exact⟨_,rfl,_,_,rfl,hu hv,_,_,rfl,rfl,rfl⟩) fun _ _=>V.free_Own (v := .tup [u, .v (.bool (f y2).isSome)]) huf _,rfl,rfl,rfl⟩
theorem DS.look2 {T kt e:TypeId} {mx kx:Operand} {b:Nat} {f:Value→Option Value} {es:Array MapEntry} {clock:Nat} {key z:Value} {u:V} (K:Keyed P kt) (ht:P.underlying T=some (.map kt e)) (hz:tzero P e=some z) (M:MapIs P kt f es clock) (hk:KeyOk P kt key)
  (h1:evV E mx=some (.v (.map (some b)))) (h2:evV E kx=some (.v key)) (hS:lookS S b=some (.raw (.map es clock))) (hu: ∀hv,u.Rl hv ((f key).getD z)) (huf:(V.tup [u, .v (.bool (f key).isSome)]).free=true) (hd:dok n dst=true) (q:DS P n r Q (.ops ops l::k) (putV E dst (.tup [u, .v (.bool (f key).isSome)])) S) :
  DS P n r Q (.ops ops (⟨dst, .lookup T mx kx true,ty,pos,af,none⟩::l)::k) E S:=by
 refine DS.step rfl rfl hd (OpS.look2 K ht hz M hk h1 h2 hS hu huf) fun u E' S' ⟨h1,h2,h3⟩=>?_
 subst h1;subst h2;subst h3;exact q
end
theorem bop_andG {P:Program} {T:TypeId} {a b:Int}:bop P .and T (.int .u64 a) (.int .u64 b)=some (.int .u64 (bits .and .u64 a b)):=rfl
theorem bop_shr58 {P:Program} {T:TypeId} {k':IntKind} {a:Int}:bop P .shr T (.int .u64 a) (.int k' 58)=some (.int .u64 (a / 288230376151711744)):=by
 rw[bop_shrH (by decide),Int.fdiv_eq_ediv_of_nonneg _ (by decide)]
 have:(2:Int) ^ (min (58:Int).toNat 64)=288230376151711744:=by decide
 rw[this]
theorem bruijn_at (k:Nat) (hk:k<64) (idx:Nat) (hi:idx<64) (h:Lib.deBruijn64tab.getD idx 0=k):(bruijn.map fun n=>V.v (.int .u8 n))[idx]?=some (.v (.int .u8 (k:Nat))):=by
 have e2:bruijn=Lib.deBruijn64tab.map fun n=>((n:Nat):Int):=by decide +kernel
 have hi':idx<Lib.deBruijn64tab.length:=hi
 have e3:Lib.deBruijn64tab[idx]=k:=by
  rw[←h,List.getD_eq_getElem?_getD,List.getElem?_eq_getElem hi'];rfl
 rw[e2,List.map_map,List.getElem?_map,List.getElem?_eq_getElem hi',e3];rfl
theorem ctz_zero_pc :PC Tryd.prog 32 [UN 0] (I 64):=by
 refine DC.of_run Tryd.func32 rfl Tryd.ntmps32 Tryd.results32 (by simp) (fun _ _=>?_);simp only[argV_cons,argV_nil,go_sem,Nat.zero_add,Nat.reduceAdd]
 repeat' (first|(with_reducible first|refine DS.fltS yU yU yE ?_|refine DS.opsNil ?_|refine DS.seq ?_|refine DS.regionL ?_|(refine DS.cE yE ?_;refine CG.yes ?_))|refine DS.retT [] yE trivial ?_|fail)
 all_goals first|rfl|(exfalso;omega)
theorem yX5 {p:Prop} (h:p:=by(simp (disch:=omega) only[go_sem,dopV,yV0,↓reduceIte,Nat.reduceEqDiff,Nat.reduceLT,Nat.reduceLeDiff,Nat.reduceAdd,Nat.reduceMul,Nat.reduceSub,Int.reduceToNat,Int.reduceLT,Int.reduceLE,Int.reduceEq,IntWalk.toNatUp,IntWalk.iteOmega,IntWalk.i64_in,V.flat,V.one, *,bop_andG,bop_shr58];exact rfl)):p:=h
theorem ctz_walk (m k idx:Nat) (h0:m≠0) (hm:m<18446744073709551616) (hk:k<64) (hi:idx<64) (hget:(bruijn.map fun n=>V.v (.int .u8 n))[idx]?=some (.v (.int .u8 (k:Nat))))
  (key:IntKind.u64.wrap (bits .and .u64 (m:Int) (IntKind.u64.wrap (0-(m:Int)))*285870213051353865) / 288230376151711744=(idx:Int)):PC Tryd.prog 32 [UN m] (I (k:Nat)):=by
 have hbl:bruijn.length=64:=rfl
 refine DC.of_run Tryd.func32 rfl Tryd.ntmps32 Tryd.results32 (by simp) (fun _ _=>?_);simp only[argV_cons,argV_nil,go_sem,Nat.zero_add,Nat.reduceAdd]
 repeat' (first|(with_reducible first|refine DS.fltS yU yU yX5 ?_|refine DS.opsNil ?_|refine DS.seq ?_|refine DS.regionL ?_|(refine DS.cE yX5 ?_;refine CG.p (fun _=>?_) (fun _=>?_))|refine DS.skip ?_)|refine DS.retT [] yX5 trivial ?_|fail)
 all_goals first|(exfalso;omega)|rfl
theorem ctz_pc (m:Nat) (hm:m<18446744073709551616):PC Tryd.prog 32 [UN m] (I (Lib.ctz 64 m:Nat)):=by
 by_cases h0:m=0
 ·subst h0;exact ctz_zero_pc
 ·obtain⟨hlow,hk⟩:=Lib.lowest_bit 64 m h0 (by simpa using hm)
  obtain⟨hi,htab⟩:=Lib.deBruijn64_at _ hk
  have key:=tz64_key m _ hm h0 hlow
  rw[←Int.zero_sub]at key
  exact ctz_walk m _ _ h0 hm hk hi (bruijn_at _ hk _ hi htab) key
end Go.XL
namespace Go.XL
open Go.Proofs
set_option maxRecDepth 100000
set_option maxHeartbeats 8000000
theorem bop_shr1 {P:Program} {T:TypeId} {k':IntKind} {a:Int}:bop P .shr T (.int .u64 a) (.int k' 1)=some (.int .u64 (a / 2)):=by
 rw[bop_shrH (by decide),Int.fdiv_eq_ediv_of_nonneg _ (by decide)]
 have:(2:Int) ^ (min (1:Int).toNat 64)=2:=by decide
 rw[this]
theorem isNaNI_pc (a:Int):PC Tryd.prog 26 [I a] (Bo false):=by
 refine DC.of_run Tryd.func26 rfl Tryd.ntmps26 Tryd.results26 (by simp) (fun _ _=>?_);simp only[argV_cons,argV_nil,go_sem,Nat.zero_add,Nat.reduceAdd]
 repeat' (first|(with_reducible first|refine DS.fltS yU yU yE ?_|refine DS.opsNil ?_|refine DS.seq ?_|refine DS.regionL ?_)|refine DS.retT [] yE trivial ?_|fail)
 all_goals first|rfl|(exfalso;omega)|(simp[tupV];done)
def cmpS (a b:Int):Int:=if a<b then -1 else if b<a then 1 else 0
theorem cmpS_lt (a b:Int):cmpS a b<0↔a<b:=by unfold cmpS;split <;> (try split) <;> omega
theorem cmpS_eq (a b:Int):cmpS a b=0↔a=b:=by unfold cmpS;split <;> (try split) <;> omega
theorem cmpI_pc (a b:Int):PC Tryd.prog 14 [I a,I b] (I (cmpS a b)):=by
 have h1:=isNaNI_pc a
 have h2:=isNaNI_pc b
 refine DC.of_run Tryd.func14 rfl Tryd.ntmps14 Tryd.results14 (by simp) (fun _ _=>?_);simp only[argV_cons,argV_nil,go_sem,Nat.zero_add,Nat.reduceAdd]
 repeat' (first|(with_reducible first|refine DS.fltS yU yU yE ?_|refine DS.opsNil ?_|refine DS.seq ?_|refine DS.regionL ?_|(refine DS.cE yE ?_;first|refine CG.p (fun _=>?_) (fun _=>?_)|refine CG.no ?_)|refine DS.skip ?_)|refine DS.pcS inferInstance (h1) yR yF ?_|refine DS.pcS inferInstance (h2) yR yF ?_|refine DS.retT [] yE trivial ?_|fail)
 all_goals (simp only[tupV,cmpS];(repeat' split) <;> first|rfl|(exfalso;omega))
theorem pointsC_pc (x:Limit) (v:Int):PC Tryd.prog 13 [x.val,I v] (I (cmpS x.from_ v)):=by
 refine DC.of_run Tryd.func13 rfl Tryd.ntmps13 Tryd.results13 (by simp) (fun _ _=>?_);simp only[argV_cons,argV_nil,go_sem,Nat.zero_add,Nat.reduceAdd]
 repeat' (first|(with_reducible first|refine DS.fltS yU yU yE ?_|refine DS.opsNil ?_|refine DS.seq ?_|refine DS.regionL ?_)|refine DS.pcS inferInstance (cmpI_pc _ _) yR yT ?_|(refine DS.boxF (t:=2) yU yE yU ?_;simp only[cells_agg,cells_v,cells_lst,cells_fn,map_nil'',map_cons'',copy_own,copy_lst,copy_v,copy_at,copy_agg,copy_fn,copy_ifc,copy_tup])|refine DS.retT [] yE trivial ?_|fail)
 rfl
structure Found (l:List Limit) (v:Int) (i:Nat):Prop where
 le:i≤l.length
 lo: ∀(t:Nat) (h:t<l.length),t<i→l[t].from_<v
 hi: ∀(t:Nat) (h:t<l.length),i≤t→v≤l[t].from_
def Rise (l:List Limit):Prop:= ∀(a b:Nat) (ha:a<l.length) (hb:b<l.length),a≤b→l[a].from_≤l[b].from_
theorem yX6 {p:Prop} (h:p:=by(simp (disch:=omega) only[go_sem,dopV,yV0,↓reduceIte,Nat.reduceEqDiff,Nat.reduceLT,Nat.reduceLeDiff,Nat.reduceAdd,Nat.reduceMul,Nat.reduceSub,Int.reduceToNat,Int.reduceLT,Int.reduceLE,Int.reduceEq,IntWalk.toNatUp,IntWalk.iteOmega,IntWalk.i64_in,V.flat,V.one, *,bop_shr1,IntWalk.u64_in];exact rfl)):p:=h
theorem yX7 {p:Prop} (h:p:=by(simp (disch:=omega) only[go_sem,dopV,yV0,↓reduceIte,Nat.reduceEqDiff,Nat.reduceLT,Nat.reduceLeDiff,Nat.reduceAdd,Nat.reduceMul,Nat.reduceSub,Int.reduceToNat,Int.reduceLT,Int.reduceLE,Int.reduceEq,IntWalk.toNatUp,IntWalk.iteOmega,IntWalk.i64_in,V.flat,V.one, *,bop_shr1,IntWalk.u64_in];try exact rfl)):p:=h
theorem search_dc (l:List Limit) (v:Int) (hr:Rise l) (hl:l.length≤1000) :
  DC Tryd.prog 12 [.lst (l.map Limit.cells),I v, .fn 13 [] []] [] (fun u S'=> ∃i:Nat,Found l v i∧u = .tup [I i,Bo (decide (∃h:i<l.length,l[i].from_=v))]):=by
 have HR:=Box.mk hr
 clear hr
 refine DC.of_run Tryd.func12 rfl Tryd.ntmps12 Tryd.results12 (by simp) (fun _ _=>?_);simp only[argV_cons,argV_nil,go_sem,Nat.zero_add,Nat.reduceAdd]
 repeat' (first|(with_reducible first|refine DS.fltS yU yU yE ?_|refine DS.opsNil ?_|refine DS.seq ?_|refine DS.regionL ?_|refine DS.block ?_)|fail)
 refine DS.loopK [0,1,2,8] yN (fun(x:Nat×Nat)=> [(9,I x.1),(10,I x.2)]) (fun(x:Nat×Nat)=>x.1≤x.2∧x.2≤l.length∧(∀(t:Nat) (h:t<l.length),t<x.1→l[t].from_<v)∧(∀(t:Nat) (h:t<l.length),x.2≤t→v≤l[t].from_)) (fun(x:Nat×Nat)=>x.2-x.1) (0,l.length) yS ⟨Nat.zero_le _,Nat.le_refl _,fun t h h2=>absurd h2 (Nat.not_lt_zero _),fun t h h2=>absurd h (by omega)⟩ (fun x B hI hB=>?_);try dsimp only at hI hB;simp only[app_cons',app_nil']
 obtain⟨lo,hi⟩:=x
 dsimp only at hI hB
 obtain⟨i1,i2,i3,i4⟩:=hI
 have H:=Box.mk (And.intro i3 i4)
 have HB:=Box.mk hB
 clear i3 i4 hB
 by_cases hlt:lo<hi
 ·have hlt':(lo:Int)<(hi:Int):=by omega
  obtain⟨m,hm⟩: ∃m:Nat,m=(lo+hi) / 2:=⟨_,rfl⟩
  have hm1:((lo:Int)+(hi:Int)) / 2=(m:Int):=by omega
  have hm2:m<l.length:=by omega
  have hm3:lo≤m∧m<hi:=by omega
  have hp:=pointsC_pc l[m] v
  clear hm
  repeat' (first|(with_reducible first|refine DS.fltS yU yU yX6 ?_|refine DS.opsNil ?_|refine DS.seq ?_|refine DS.regionL ?_|(refine DS.cE yX6 ?_;first|refine CG.p (fun _=>?_) (fun _=>?_)|refine CG.yes ?_)|refine DS.blk ?_|refine DS.block ?_|refine DS.skip ?_)|refine DS.pcVS inferInstance yX6 (hp) yR yX7 ?_|fail)
  ·rename_i e
   have e1:=(cmpS_lt _ _).1 e
   exact DS.back (HB.out (m+1,hi) _ _ (by dsimp only;omega) ⟨by dsimp only;omega,i2,fun t h ht=>by
    have:=HR.out t m h hm2 (by dsimp only at ht;omega)
    omega,H.out.2⟩ yS yS (fun b o e=>by exact e))
  ·rename_i e
   have e1: ¬l[m].from_<v:=fun h=>e ((cmpS_lt _ _).2 h)
   exact DS.back (HB.out (lo,m) _ _ (by dsimp only;omega) ⟨by dsimp only;omega,by dsimp only;omega,H.out.1,fun t h ht=>by
    have:=HR.out m t hm2 h ht
    omega⟩ yS yS (fun b o e=>by exact e))
 ·have hlt': ¬(lo:Int)<(hi:Int):=by omega
  have he:hi=lo:=by omega
  have hle:lo≤l.length:=by omega
  rw[he]at H
  clear he i1 HB
  have HF:Found l v lo:=⟨hle,H.out.1,H.out.2⟩
  by_cases hl2:lo<l.length
  ·have hl3:(lo:Int)<(l.length:Int):=by omega
   have hp:=pointsC_pc l[lo] v
   have hd:decide (∃h:lo<l.length,l[lo].from_=v)=decide (cmpS l[lo].from_ v=0):=by
    rw[decide_eq_decide,cmpS_eq];exact⟨fun⟨_,h⟩=>h,fun h=>⟨hl2,h⟩⟩
   have HF:=Box.mk (And.intro HF hd)
   clear hd
   repeat' (first|(with_reducible first|refine DS.fltS yU yU yE ?_|refine DS.opsNil ?_|refine DS.seq ?_|refine DS.regionL ?_|(refine DS.cE yE ?_;refine CG.no ?_)|(refine DS.gE yU yE ?_;refine GG.run ?_)|refine DS.exit yU ?_)|refine DS.pcVS inferInstance yE (hp) yR yT ?_|refine DS.retT [] yE trivial ?_|fail)
   all_goals exact⟨lo,HF.out.1,by rw[HF.out.2];rfl⟩
  ·have hl3: ¬(lo:Int)<(l.length:Int):=by omega
   have hd:decide (∃h:lo<l.length,l[lo].from_=v)=false:=by
    rw[decide_eq_false_iff_not];rintro⟨h,-⟩;exact hl2 h
   have HF:=Box.mk (And.intro HF hd)
   clear hd
   repeat' (first|(with_reducible first|refine DS.fltS yU yU yE ?_|refine DS.opsNil ?_|refine DS.seq ?_|refine DS.regionL ?_|(refine DS.cE yE ?_;refine CG.no ?_)|(refine DS.gE yU yE ?_;refine GG.sF ?_)|refine DS.exit yU ?_)|refine DS.retT [] yE trivial ?_|fail)
   all_goals exact⟨lo,HF.out.1,by rw[HF.out.2];rfl⟩
theorem limits_ok : ∀{l:List Limit} {p:Option Limit},limitsGo l p=0→(∀x∈l,(1≤x.from_∧x.from_≤1000)∧0≤x.points∧x.points≤1000000)∧l.Pairwise (fun a b=>a.from_<b.from_∧a.points≤b.points)∧ ∀q,p=some q→ ∀x∈l,q.from_<x.from_∧q.points≤x.points
 | [],_,_=>⟨by simp, .nil,by simp⟩
 | y::l,p,h=>by
  rw[limitsGo]at h
  obtain⟨h1,h⟩:=ite0 (by decide) h
  obtain⟨h2,h⟩:=ite0 (by decide) h
  obtain⟨h3,h⟩:=ite0 (by decide) h
  obtain⟨k1,k2,k3⟩:=limits_ok h
  have k4:=k3 y rfl
  refine⟨fun x hx=>?_,List.pairwise_cons.2 ⟨k4,k2⟩,fun q hq x hx=>?_⟩
  ·rcases List.mem_cons.1 hx with rfl|hx
   ·omega
   ·exact k1 x hx
  ·subst hq
   simp only[anyO,Bool.or_eq_true,decide_eq_true_eq,not_or]at h3
   rcases List.mem_cons.1 hx with rfl|hx
   ·omega
   ·have:=k4 x hx;omega
theorem rise_of {l:List Limit} (h:l.Pairwise (fun a b=>a.from_<b.from_∧a.points≤b.points)):Rise l:=fun a b ha hb hab=>by
 rcases Nat.lt_or_ge a b with h1|h1
 ·have:=List.pairwise_iff_getElem.1 h a b ha hb h1;omega
 ·have:a=b:=by omega
  subst this;exact Int.le_refl _
theorem limG_out (v:Int): ∀(l:List Limit) (out:Option Int),(∀x∈l,v<x.from_)→limG v l out=out
 | [],_,_=>rfl
 | y::l,out,h=>by
  have h1:=h y (List.mem_cons_self ..)
  rw[limG,if_neg (by omega)]
  exact limG_out v l out fun x hx=>h x (List.mem_cons_of_mem _ hx)
theorem limG_at (v:Int): ∀(l:List Limit) (out:Option Int) (j:Nat) (hj:j<l.length),l[j].from_≤v→(∀(t:Nat) (ht:t<l.length),j<t→v<l[t].from_)→limG v l out=some l[j].points
 | y::l,out,0,hj,h1,h2=>by
  rw[limG,if_pos (by simpa using h1),limG_out]
  ·rfl
  ·intro x hx
   obtain⟨t,ht,rfl⟩:=List.getElem_of_mem hx
   have:=h2 (t+1) (by simpa using ht) (by omega)
   simpa using this
 | y::l,out,j+1,hj,h1,h2=>by
  rw[limG]
  have hj':j<l.length:=by simpa using hj
  refine(limG_at v l _ j hj' (by simpa using h1) fun t ht hjt=>?_).trans (by simp)
  have:=h2 (t+1) (by simpa using ht) (by omega)
  simpa using this
theorem min_ite {a b:Int}:(if b<a then b else a)=min a b:=by rw[Int.min_def];split <;> split <;> omega
theorem shl_pts {T:TypeId} {n v:Int} (hn:0≤n∧n≤1000000) (hv:0≤v):bop Tryd.prog .shl T (.int .i64 n) (.int .i64 (if 21<v then 21 else v))=some (.int .i64 (n*2 ^ (min v 21).toNat)):=by
 rw[min_ite]
 obtain⟨s,hs⟩: ∃s:Nat,s=(min v 21).toNat:=⟨_,rfl⟩
 have hs2:min v 21=(s:Int):=by rw[hs];omega
 have hs3:s≤21:=by omega
 have hp:(2:Int) ^ s≤2 ^ 21:=by
  have:=Nat.pow_le_pow_right (n:=2) (by omega) hs3
  exact_mod_cast this
 have hp0:(0:Int)≤2 ^ s:=by
  have:=Nat.zero_le (2 ^ s)
  exact_mod_cast this
 have h1:0≤n*2 ^ s:=Int.mul_nonneg hn.1 hp0
 have h2:n*2 ^ s≤1000000*2097152:=Int.mul_le_mul hn.2 (by simpa using hp) hp0 (by omega)
 rw[hs2]
 simp only[bop,Op.shift,if_neg (show ¬((s:Int)<0) by omega),Int.toNat_natCast,Nat.min_eq_left (show s≤IntKind.i64.bits from Nat.le_trans hs3 (by decide))]
 show some (Value.int .i64 (IntKind.i64.wrap (n*2 ^ s)))=_
 rw[IntWalk.i64_in _ (by omega)]
theorem pts_some {x:Scale} {minor value:Int} (h0:scaleS x=0) (h1:0≤minor∧minor≤1000) (h2:0≤value∧value≤1073741824) {p:Int} (h:limS x value=some p):ptsS x minor value=p:=by
 rw[ptsS,if_neg (by omega),if_neg (by omega),if_neg (by omega),h]
theorem pts_none {x:Scale} {minor value:Int} (h0:scaleS x=0) (h1:0≤minor∧minor≤1000) (h2:0≤value∧value≤1073741824) (h:limS x value=none) :
  ptsS x minor value=min (if x.double=true then x.base*minor*2 ^ (min value 21).toNat else x.base*minor*value) (mostS x):=by
 rw[ptsS,if_neg (by omega),if_neg (by omega),if_neg (by omega),h]
theorem points_pc (x:Scale) (minor value:Int):PC Tryd.prog 5 [x.val,I minor,I value] (I (ptsS x minor value)):=by
 have hs:=checkScale_pc x
 by_cases h0:scaleS x=0
 ·rw[h0]at hs
  by_cases h1:0≤minor∧minor≤1000
  ·by_cases h2:0≤value∧value≤1073741824
   ·obtain⟨b1,b2,b3,b4⟩:=scale_ok h0
    obtain⟨k1,k2,-⟩:=limits_ok b4
    have hr:=rise_of k2
    have hsd:=search_dc x.limits value hr (by omega)
    have hm1:0≤x.base*minor:=Int.mul_nonneg b1.1 h1.1
    have hm2:x.base*minor≤1000*1000:=Int.mul_le_mul b1.2 h1.2 h1.1 (by omega)
    have hm3:0≤x.base*minor*value:=Int.mul_nonneg hm1 h2.1
    have hm4:x.base*minor*value≤1000*1000*1073741824:=Int.mul_le_mul hm2 h2.2 h2.1 (by omega)
    have hsh:bop Tryd.prog .shl 3 (.int .i64 (x.base*minor)) (.int .i64 (if 21<value then 21 else value))=some (.int .i64 (x.base*minor*2 ^ (min value 21).toNat)):=shl_pts ⟨hm1,hm2⟩ h2.1
    by_cases hl:0<x.limits.length
    ·have hl':(0:Int)<(x.limits.length:Int):=by omega
     by_cases hf:x.limits[0].from_≤value
     ·have hq: ∀i,Found x.limits value i→ ∀b,b=decide (∃h:i<x.limits.length,x.limits[i].from_=value)→ ∃j:Nat,∃hj:j<x.limits.length,(j:Int)=(if b=true then(i:Int)else(i:Int)-1)∧ptsS x minor value=x.limits[j].points:=by
       intro i hi b hb
       have fin: ∀(j:Nat) (hj:j<x.limits.length),x.limits[j].from_≤value→(∀(t:Nat) (ht:t<x.limits.length),j<t→value<x.limits[t].from_)→ptsS x minor value=x.limits[j].points:=fun j hj e1 e2=>pts_some h0 h1 h2 (limG_at value _ none j hj e1 e2)
       have hst: ∀(a b:Nat) (ha:a<x.limits.length) (hb:b<x.limits.length),a<b→x.limits[a].from_<x.limits[b].from_:=fun a b ha hb h=>(List.pairwise_iff_getElem.1 k2 a b ha hb h).1
       by_cases he: ∃h:i<x.limits.length,x.limits[i].from_=value
       ·rw[decide_eq_true he]at hb
        obtain⟨h3,h4⟩:=he
        refine⟨i,h3,by rw[if_pos hb],fin i h3 (by omega) fun t ht hit=>?_⟩
        have:=hst i t h3 ht hit;omega
       ·rw[decide_eq_false he]at hb
        have hi0:0<i:=by
         refine Nat.pos_of_ne_zero fun h=>?_
         subst h
         have:=hi.hi 0 hl (Nat.le_refl _)
         exact he ⟨hl,by omega⟩
        have hle:=hi.le
        refine⟨i-1,by omega,by rw[hb,if_neg (by decide)];omega,fin (i-1) (by omega) ?_ fun t ht hit=>?_⟩
        ·have:=hi.lo (i-1) (by omega) (by omega);omega
        ·have:=hi.hi t ht (by omega)
         have hne:x.limits[t].from_≠value:=fun h=>by
          rcases Nat.lt_or_ge i t with h5|h5
          ·have:=hst i t (by omega) ht h5
           have:=hi.hi i (by omega) (Nat.le_refl _)
           omega
          ·have:i=t:=by omega
           subst this;exact he ⟨ht,h⟩
         omega
      have HQ:=Box.mk hq
      clear hq k1 k2 hr b4
      refine DC.of_run Tryd.func5 rfl Tryd.ntmps5 Tryd.results5 (by simp) (fun _ _=>?_);simp only[argV_cons,argV_nil,go_sem,Nat.zero_add,Nat.reduceAdd]
      repeat' (first|(with_reducible first|refine DS.fltS yU yU yE ?_|refine DS.opsNil ?_|refine DS.seq ?_|refine DS.regionL ?_|(refine DS.cE yE ?_;first|refine CG.p (fun _=>?_) (fun _=>?_)|refine CG.yes ?_)|(refine DS.gE yU yE ?_;first|refine GG.pF (fun _=>?_) (fun _=>?_)|refine GG.run ?_|refine GG.sT ?_)|refine DS.skip ?_)|refine DS.pcS inferInstance (hs) yR yT ?_|(refine DS.boxF (t:=3) yU yE yU ?_;simp only[cells_agg,cells_v,cells_lst,cells_fn,map_nil'',map_cons'',copy_own,copy_lst,copy_v,copy_at,copy_agg,copy_fn,copy_ifc,copy_tup])|fail)
      all_goals try (exfalso;omega)
      refine DS.callA inferInstance hsd yR yH (fun u S' hu=>?_)
      obtain⟨i,hi,rfl⟩:=hu
      generalize hb:decide (∃h:i<x.limits.length,x.limits[i].from_=value)=b
      obtain⟨j,hj,q1,q2⟩:=HQ.out i hi b hb.symm
      rw[q2]
      have hile:=hi.le
      clear hb q2 hi HQ hsd
      cases b with
      | true =>
       have q3:i=j:=by rw[if_pos rfl]at q1;omega
       subst q3
       clear q1
       repeat' (first|(with_reducible first|refine DS.fltS yU yU yE ?_|refine DS.opsNil ?_|refine DS.seq ?_|refine DS.regionL ?_|(refine DS.cE yE ?_;refine CG.no ?_)|refine DS.skip ?_)|refine DS.retT [] yE trivial ?_|fail)
       all_goals first|rfl|(exfalso;omega)
      | false =>
       have q3:(i:Int)-1=(j:Int):=by rw[if_neg (by decide)]at q1;omega
       clear q1
       repeat' (first|(with_reducible first|refine DS.fltS yU yU yE ?_|refine DS.opsNil ?_|refine DS.seq ?_|refine DS.regionL ?_|(refine DS.cE yE ?_;refine CG.yes ?_))|refine DS.retT [] yE trivial ?_|fail)
       all_goals first|rfl|(exfalso;omega)
     ·have hn:limS x value=none:=limG_out value _ none fun y hy=>by
       obtain⟨t,ht,rfl⟩:=List.getElem_of_mem hy
       have:=hr 0 t hl ht (Nat.zero_le _);omega
      have hmo:mostS x=x.limits[0].points:=by
       unfold mostS
       split
       ·rename_i e;rw[e]at hl;simp at hl
       ·rename_i e;simp[e]
      rw[pts_none h0 h1 h2 hn,hmo]
      clear hn hmo hsd hr k2 k1 b4
      refine DC.of_run Tryd.func5 rfl Tryd.ntmps5 Tryd.results5 (by simp) (fun _ _=>?_);simp only[argV_cons,argV_nil,go_sem,Nat.zero_add,Nat.reduceAdd]
      repeat' (first|(with_reducible first|refine DS.fltS yU yU yE ?_|refine DS.opsNil ?_|refine DS.seq ?_|refine DS.regionL ?_|(refine DS.cE yE ?_;first|refine CG.p (fun _=>?_) (fun _=>?_)|refine CG.yes ?_|refine CG.no ?_|refine CG.b (fun _=>?_) (fun _=>?_))|(refine DS.gE yU yE ?_;first|refine GG.pF (fun _=>?_) (fun _=>?_)|refine GG.run ?_|refine GG.sT ?_)|refine DS.skip ?_)|refine DS.pcS inferInstance (hs) yR yT ?_|(refine DS.boxF (t:=3) yU yE yU ?_;simp only[cells_agg,cells_v,cells_lst,cells_fn,map_nil'',map_cons'',copy_own,copy_lst,copy_v,copy_at,copy_agg,copy_fn,copy_ifc,copy_tup])|refine DS.retT [] yE trivial ?_|fail)
      all_goals first|(exfalso;omega)|(rename_i hd;rw[hd];simp only[↓reduceIte,Bool.false_eq_true];exact congrArg I min_ite)
    ·have he:x.limits= []:=List.eq_nil_of_length_eq_zero (by omega)
     have hn:limS x value=none:=by rw[limS,he];rfl
     have hmo:mostS x=1000000:=by rw[mostS,he]
     have hl': ¬(0:Int)<(x.limits.length:Int):=by omega
     rw[pts_none h0 h1 h2 hn,hmo]
     clear hn hmo hsd hr k2 k1 b4 he
     refine DC.of_run Tryd.func5 rfl Tryd.ntmps5 Tryd.results5 (by simp) (fun _ _=>?_);simp only[argV_cons,argV_nil,go_sem,Nat.zero_add,Nat.reduceAdd]
     repeat' (first|(with_reducible first|refine DS.fltS yU yU yE ?_|refine DS.opsNil ?_|refine DS.seq ?_|refine DS.regionL ?_|(refine DS.cE yE ?_;first|refine CG.p (fun _=>?_) (fun _=>?_)|refine CG.yes ?_|refine CG.no ?_|refine CG.b (fun _=>?_) (fun _=>?_))|(refine DS.gE yU yE ?_;first|refine GG.pF (fun _=>?_) (fun _=>?_)|refine GG.run ?_|refine GG.sT ?_)|refine DS.skip ?_)|refine DS.pcS inferInstance (hs) yR yT ?_|(refine DS.boxF (t:=3) yU yE yU ?_;simp only[cells_agg,cells_v,cells_lst,cells_fn,map_nil'',map_cons'',copy_own,copy_lst,copy_v,copy_at,copy_agg,copy_fn,copy_ifc,copy_tup])|refine DS.retT [] yE trivial ?_|fail)
     all_goals first|(exfalso;omega)|(rename_i hd;rw[hd];simp only[↓reduceIte,Bool.false_eq_true];exact congrArg I min_ite)
   ·rw[ptsS,if_neg (by omega),if_neg (by omega),if_pos h2]
    refine DC.of_run Tryd.func5 rfl Tryd.ntmps5 Tryd.results5 (by simp) (fun _ _=>?_);simp only[argV_cons,argV_nil,go_sem,Nat.zero_add,Nat.reduceAdd]
    repeat' (first|(with_reducible first|refine DS.fltS yU yU yE ?_|refine DS.opsNil ?_|refine DS.seq ?_|refine DS.regionL ?_|(refine DS.cE yE ?_;first|refine CG.p (fun _=>?_) (fun _=>?_)|refine CG.yes ?_|refine CG.b (fun _=>?_) (fun _=>?_))|(refine DS.gE yU yE ?_;first|refine GG.pF (fun _=>?_) (fun _=>?_)|refine GG.run ?_|refine GG.sT ?_)|refine DS.skip ?_)|refine DS.pcS inferInstance (hs) yR yT ?_|(refine DS.boxF (t:=3) yU yE yU ?_;simp only[cells_agg,cells_v,cells_lst,cells_fn,map_nil'',map_cons'',copy_own,copy_lst,copy_v,copy_at,copy_agg,copy_fn,copy_ifc,copy_tup])|refine DS.retT [] yE trivial ?_|fail)
    all_goals first|rfl|(exfalso;omega)
  ·rw[ptsS,if_neg (by omega),if_pos h1]
   refine DC.of_run Tryd.func5 rfl Tryd.ntmps5 Tryd.results5 (by simp) (fun _ _=>?_);simp only[argV_cons,argV_nil,go_sem,Nat.zero_add,Nat.reduceAdd]
   repeat' (first|(with_reducible first|refine DS.fltS yU yU yE ?_|refine DS.opsNil ?_|refine DS.seq ?_|refine DS.regionL ?_|(refine DS.cE yE ?_;first|refine CG.p (fun _=>?_) (fun _=>?_)|refine CG.yes ?_|refine CG.b (fun _=>?_) (fun _=>?_))|(refine DS.gE yU yE ?_;first|refine GG.pF (fun _=>?_) (fun _=>?_)|refine GG.run ?_|refine GG.sT ?_)|refine DS.skip ?_)|refine DS.pcS inferInstance (hs) yR yT ?_|(refine DS.boxF (t:=3) yU yE yU ?_;simp only[cells_agg,cells_v,cells_lst,cells_fn,map_nil'',map_cons'',copy_own,copy_lst,copy_v,copy_at,copy_agg,copy_fn,copy_ifc,copy_tup])|refine DS.retT [] yE trivial ?_|fail)
   all_goals first|rfl|(exfalso;omega)
 ·rw[ptsS,if_pos h0]
  refine DC.of_run Tryd.func5 rfl Tryd.ntmps5 Tryd.results5 (by simp) (fun _ _=>?_);simp only[argV_cons,argV_nil,go_sem,Nat.zero_add,Nat.reduceAdd]
  repeat' (first|(with_reducible first|refine DS.fltS yU yU yE ?_|refine DS.opsNil ?_|refine DS.seq ?_|refine DS.regionL ?_|(refine DS.cE yE ?_;refine CG.yes ?_)|(refine DS.gE yU yE ?_;refine GG.sT ?_))|refine DS.pcS inferInstance (hs) yR yT ?_|(refine DS.boxF (t:=3) yU yE yU ?_;simp only[cells_agg,cells_v,cells_lst,cells_fn,map_nil'',map_cons'',copy_own,copy_lst,copy_v,copy_at,copy_agg,copy_fn,copy_ifc,copy_tup])|refine DS.retT [] yE trivial ?_|fail)
  all_goals first|rfl|(exfalso;omega)
end Go.XL
namespace Go.XL
open Go.Proofs
set_option maxRecDepth 100000
set_option maxHeartbeats 8000000
theorem pow2_pos (i:Nat):(0:Int)<2 ^ i:=by
 have:=Nat.pow_pos (n:=i) (show 0<2 by omega)
 exact_mod_cast this
theorem pow2_mono {i j:Nat} (h:i≤j):(2:Int) ^ i≤2 ^ j:=by
 have:=Nat.pow_le_pow_right (n:=2) (by omega) h
 exact_mod_cast this
end Go.XL
namespace Go.XL
theorem limG_mem {v:Int}: ∀(l:List Limit) (o:Option Int) (p:Int),limG v l o=some p→o=some p∨ ∃x∈l,x.points=p
 | [],o,p,h=>Or.inl h
 | y::l,o,p,h=>by
  rw[limG]at h
  rcases limG_mem l _ p h with h|⟨x,hx,h⟩
  ·split at h
   ·exact Or.inr ⟨y,List.mem_cons_self ..,by cases h;rfl⟩
   ·exact Or.inl h
  ·exact Or.inr ⟨x,List.mem_cons_of_mem _ hx,h⟩
abbrev Up (l:List Limit):Prop:=l.Pairwise fun a b=>a.from_<b.from_∧a.points≤b.points
theorem limG_mono {v v':Int} (hv:v≤v'): ∀(l:List Limit) (o o':Option Int),Up l→(∀p,o=some p→(∃p',o'=some p'∧p≤p')∧ ∀x∈l,p≤x.points)→ ∀p,limG v l o=some p→ ∃p',limG v' l o'=some p'∧p≤p'
 | [],o,o',_,h,p,e=>(h p e).1
 | y::l,o,o',hp,h,p,e=>by
  rw[limG]at e ⊢
  have hp':=List.pairwise_cons.1 hp
  by_cases h1:y.from_≤v
  ·rw[if_pos h1]at e
   rw[if_pos (by omega)]
   exact limG_mono hv l _ _ hp'.2 (fun q hq=>by cases hq;exact⟨⟨_,rfl,Int.le_refl _⟩,fun x hx=>(hp'.1 x hx).2⟩) p e
  ·rw[if_neg h1]at e
   by_cases h2:y.from_≤v'
   ·rw[if_pos h2]
    exact limG_mono hv l _ _ hp'.2 (fun q hq=>⟨⟨_,rfl,(h q hq).2 y (List.mem_cons_self ..)⟩,fun x hx=>(h q hq).2 x (List.mem_cons_of_mem _ hx)⟩) p e
   ·rw[if_neg h2]
    exact limG_mono hv l _ _ hp'.2 (fun q hq=>⟨(h q hq).1,fun x hx=>(h q hq).2 x (List.mem_cons_of_mem _ hx)⟩) p e
def lastP (x:Scale):Int:=match x.limits.getLast? with
 | none=>1000000
 | some l=>l.points
def rawS (x:Scale) (minor value:Int):Int:=if x.double=true then x.base*minor*2 ^ (min value 21).toNat else x.base*minor*value
theorem raw_mono {x:Scale} (hb:0≤x.base) {m m' v v':Int} (h1:0≤m) (h2:m≤m') (h3:0≤v) (h4:v≤v'):0≤rawS x m v∧rawS x m v≤rawS x m' v':=by
 have a1:0≤x.base*m:=Int.mul_nonneg hb h1
 have a2:x.base*m≤x.base*m':=Int.mul_le_mul_of_nonneg_left h2 hb
 have a3:0≤x.base*m':=by omega
 unfold rawS
 split
 ·have b1:=pow2_pos (min v 21).toNat
  have b2:(2:Int) ^ (min v 21).toNat≤2 ^ (min v' 21).toNat:=pow2_mono (by omega)
  exact⟨Int.mul_nonneg a1 (by omega),Int.mul_le_mul a2 b2 (by omega) a3⟩
 ·exact⟨Int.mul_nonneg a1 h3,Int.mul_le_mul a2 h4 h3 a3⟩
section
variable {x:Scale} (h0:scaleS x=0)
include h0
theorem scale_up :Up x.limits∧(∀y∈x.limits,0≤y.points∧y.points≤1000000)∧0≤x.base:=by
 obtain⟨b1,-,-,b4⟩:=scale_ok h0
 obtain⟨k1,k2,-⟩:=limits_ok b4
 exact⟨k2,fun y hy=>(k1 y hy).2,b1.1⟩
theorem most_le : ∀y∈x.limits,mostS x≤y.points:=by
 obtain⟨k,-,-⟩:=scale_up h0
 unfold mostS
 split
 ·rename_i e;rw[e];intro y hy;cases hy
 ·rename_i l r e
  rw[e]at k ⊢
  intro y hy
  rcases List.mem_cons.1 hy with rfl|hy
  ·exact Int.le_refl _
  ·exact((List.pairwise_cons.1 k).1 y hy).2
theorem last_ge :mostS x≤lastP x∧0≤mostS x∧ ∀y∈x.limits,y.points≤lastP x:=by
 obtain⟨k,k2,-⟩:=scale_up h0
 have hm:=most_le h0
 unfold lastP
 cases e:x.limits.getLast? with
 | none =>
  have e':x.limits= []:=List.getLast?_eq_none_iff.1 e
  refine⟨by rw[mostS,e'];decide,by rw[mostS,e'];decide,fun y hy=>by rw[e']at hy;cases hy⟩
 | some l =>
  have hl:=List.mem_of_getLast? e
  refine⟨hm l hl,?_,fun y hy=>?_⟩
  ·unfold mostS
   split
   ·decide
   ·rename_i l r e2
    exact(k2 l (by rw[e2];exact List.mem_cons_self ..)).1
  ·obtain⟨ys,e3⟩:=List.getLast?_eq_some_iff.1 e
   rw[e3]at k hy
   rcases List.mem_append.1 hy with hy|hy
   ·exact((List.pairwise_append.1 k).2.2 y hy l (List.mem_singleton.2 rfl)).2
   ·rw[List.mem_singleton.1 hy];exact Int.le_refl _
theorem pts_range {m v:Int} (h1:0≤m∧m≤1000) (h2:0≤v∧v≤1073741824):0≤ptsS x m v∧ptsS x m v≤lastP x:=by
 obtain⟨k,k2,kb⟩:=scale_up h0
 obtain⟨l1,l2,l3⟩:=last_ge h0
 cases e:limS x v with
 | some p =>
  rw[pts_some h0 h1 h2 e]
  rcases limG_mem _ _ _ e with h|⟨y,hy,rfl⟩
  ·cases h
  ·exact⟨(k2 y hy).1,l3 y hy⟩
 | none =>
  rw[pts_none h0 h1 h2 e]
  have:=(raw_mono kb h1.1 (Int.le_refl m) h2.1 (Int.le_refl v)).1
  unfold rawS at this
  omega
theorem pts_mono {m m' v v':Int} (h1:0≤m∧m≤m'∧m'≤1000) (h2:0≤v∧v≤v'∧v'≤1073741824):ptsS x m v≤ptsS x m' v':=by
 obtain⟨k,k2,kb⟩:=scale_up h0
 cases e:limS x v with
 | some p =>
  obtain⟨p',e',hp⟩:=limG_mono h2.2.1 x.limits none none k (fun p h=>by cases h) p e
  rw[pts_some h0 ⟨h1.1,by omega⟩ ⟨h2.1,by omega⟩ e,pts_some h0 ⟨by omega,h1.2.2⟩ ⟨by omega,h2.2.2⟩ e']
  exact hp
 | none =>
  rw[pts_none h0 ⟨h1.1,by omega⟩ ⟨h2.1,by omega⟩ e]
  cases e':limS x v' with
  | some p' =>
   rw[pts_some h0 ⟨by omega,h1.2.2⟩ ⟨by omega,h2.2.2⟩ e']
   rcases limG_mem _ _ _ e' with h|⟨y,hy,rfl⟩
   ·cases h
   ·have:=most_le h0 y hy
    omega
  | none =>
   rw[pts_none h0 ⟨by omega,h1.2.2⟩ ⟨by omega,h2.2.2⟩ e']
   have:=(raw_mono kb h1.1 h1.2.1 h2.1 h2.2.1).2
   unfold rawS at this
   omega
end
end Go.XL
namespace Go.XL
open Go.Proofs
set_option maxRecDepth 100000
set_option maxHeartbeats 8000000
def limX :Nat→Int→Int→Int→List Limit×Int
 | 0,x,_,_=>([],x)
 | n+1,x,f,p=>(⟨f+rangeX x 1 6,p+belowX (stepX x) 2000⟩::(limX n (stepX (stepX x)) (f+rangeX x 1 6) (p+belowX (stepX x) 2000)).1,(limX n (stepX (stepX x)) (f+rangeX x 1 6) (p+belowX (stepX x) 2000)).2)
def scaleX (x : Int) : Scale × Int :=
  (⟨rangeX x 1 20, oddsX (stepX x) 2, (limX (belowX (stepX (stepX (stepX x))) 4).toNat (stepX (stepX (stepX (stepX x)))) 0 0).1, if belowX (stepX (stepX x)) 3 = 0 then 1 else if belowX (stepX (stepX x)) 3 = 1 then 10 else 100⟩,
   (limX (belowX (stepX (stepX (stepX x))) 4).toNat (stepX (stepX (stepX (stepX x)))) 0 0).2)
theorem yX8 {p:Prop} (h:p:=by(simp (disch:=omega) only[go_sem,dopV,yV0,↓reduceIte,Nat.reduceEqDiff,Nat.reduceLT,Nat.reduceLeDiff,Nat.reduceAdd,Nat.reduceMul,Nat.reduceSub,Int.reduceToNat,Int.reduceLT,Int.reduceLE,Int.reduceEq,IntWalk.toNatUp,IntWalk.iteOmega,IntWalk.i64_in,V.flat,V.one, *,Value.oneCell'];first|done|exact rfl)):p:=h
theorem yX9 {p:Prop} (h:p:=by(simp (disch:=omega) only[go_sem,dopV,yV0,↓reduceIte,Nat.reduceEqDiff,Nat.reduceLT,Nat.reduceLeDiff,Nat.reduceAdd,Nat.reduceMul,Nat.reduceSub,Int.reduceToNat,Int.reduceLT,Int.reduceLE,Int.reduceEq,IntWalk.toNatUp,IntWalk.iteOmega,IntWalk.i64_in,V.flat,V.one, *,Value.oneCell'];try exact rfl)):p:=h
theorem yX10 {p:Prop} (h:p:=by first|exact rfl|(simp (disch:=omega) only[go_sem,dopV,yV0,↓reduceIte,Nat.reduceEqDiff,Nat.reduceLT,Nat.reduceLeDiff,Nat.reduceAdd,Nat.reduceMul,Nat.reduceSub,Int.reduceToNat,Int.reduceLT,Int.reduceLE,Int.reduceEq,IntWalk.toNatUp,IntWalk.iteOmega,IntWalk.i64_in,V.flat,V.one, *,Value.oneCell'];exact rfl)):p:=h
theorem scaleOf_sc (bs:Nat) (x:Int):SC Tryd.prog 8 [ptr bs] bs x ((scaleX x).1.val) ((scaleX x).2):=by
 have k1:=belowX_bd x 20
 have k2:=belowX_bd (stepX (stepX x)) 3
 have k3:=belowX_bd (stepX (stepX (stepX x))) 4
 unfold SC
 refine DC.of_run Tryd.func8 rfl Tryd.ntmps8 Tryd.results8 (by simp) (fun _ _=>?_);simp only[argV_cons,argV_nil,go_sem,Nat.zero_add,Nat.reduceAdd]
 repeat' (first|(with_reducible first|refine DS.seq ?_|refine DS.regionL ?_)|fail)
 refine DS.allocS yR yU yU (fun b2 h2=>?_)
 have n2: ¬bs=b2:=fun e=>by rw[lookS_cons,if_pos e]at h2;cases h2
 have n2': ¬b2=bs:=fun e=>n2 e.symm
 clear h2
 repeat' (first|(with_reducible first|refine DS.fltS yU yU yX0 ?_|refine DS.opsNil ?_|refine DS.seq ?_|refine DS.regionL ?_)|(refine DS.bsl yU yX0 yX0 ?_;simp only[go_sem,Nat.zero_add,Nat.reduceAdd])|(refine DS.scS inferInstance (range_sc bs x 1 20 (by omega)) yR yX8 yX8 ?_;(try simp only[delS_cons,delS_nil,↓reduceIte, *]))|(refine DS.scS inferInstance (odds_sc bs (stepX x) 2 (by omega)) yR yX8 yX8 ?_;(try simp only[delS_cons,delS_nil,↓reduceIte, *]))|(refine DS.scS inferInstance (below_sc bs (stepX (stepX x)) 3 (by omega)) yR yX8 yX8 ?_;(try simp only[delS_cons,delS_nil,↓reduceIte, *]))|fail)
 unfold scaleX
 clear k1
 generalize belowX (stepX (stepX x)) 3=j at *
 rcases(show j=0∨j=1∨j=2 by omega)with rfl|rfl|rfl
 all_goals (try simp only[↓reduceIte,show ¬((1:Int)=0) by decide,show ¬((2:Int)=0) by decide,show ¬((2:Int)=1) by decide])
 all_goals clear k2
 ·repeat' (first|with_reducible refine DS.fltS yU yU yX0 ?_|fail)
  refine DS.allocS yR yU yU (fun b3 h3=>?_)
  have n3: ¬bs=b3:=fun e=>by simp only[lookS_cons,e,↓reduceIte]at h3;first|(cases h3;done)|(split at h3 <;> cases h3)
  have n3': ¬b3=bs:=fun e=>n3 e.symm
  have m3: ¬b2=b3:=fun e=>by simp only[lookS_cons,e,↓reduceIte]at h3;first|(cases h3;done)|(split at h3 <;> cases h3)
  have m3': ¬b3=b2:=fun e=>m3 e.symm
  clear h3
  repeat' (first|(with_reducible first|refine DS.fltS yU yU yX0 ?_|refine DS.opsNil ?_|refine DS.seq ?_|refine DS.regionL ?_|refine DS.block ?_)|(refine DS.scS inferInstance (below_sc bs (stepX (stepX (stepX x))) 4 (by omega)) yR yX9 yX9 ?_;(try simp only[delS_cons,delS_nil,↓reduceIte, *]))|(refine DS.store yR yX0 yX0 yX0 yX0 yU (by exact⟨by with_unfolding_all rfl,by(try simp only[List.length_map,List.length_append,List.length_set,List.length_replicate,List.length_cons,List.length_nil]);omega⟩) ?_;simp only[putV_none,setAll_cons,setAll_nil,scells_v,scells_own,scells_lst,scells_agg];try simp only[strip_tmp,strip_const,lookV_cons,Nat.reduceEqDiff,↓reduceIte,stripO_own,stripO_lst,stripO_v,stripO_plc,stripO_agg,stripO_fn,stripO_ifc])|fail)
  simp only[setS,delS_cons,delS_nil,n2,n2',n3,n3',m3,m3',↓reduceIte,List.map_cons,List.map_nil,copy_v,setAll_cons,setAll_nil,set_cons',set_zero',Nat.reduceAdd,Nat.zero_add]
  refine DS.adoptC (b:=b3) (off:=2) (e:=34) (sz:=2) (T':=24) (by simp only[lookS_cons,lookS_nil,n3,↓reduceIte];rfl) yR ?_
  simp only[setS,n3,↓reduceIte,set_cons',set_zero']
  generalize oddsX (stepX x) 2=db
  generalize rangeX x 1 20=ba
  obtain⟨N,hN⟩: ∃N:Nat,(N:Int)=belowX (stepX (stepX (stepX x))) 4:=⟨(belowX (stepX (stepX (stepX x))) 4).toNat,by omega⟩
  rw[←hN,Int.toNat_natCast]
  have hNb:N≤3:=by omega
  clear hN k3
  generalize stepX (stepX (stepX (stepX x)))=x0
  refine DS.loopS [0,2,3] yN (fun(y:Nat×Int×Int×Int×List Limit)=> [(6,I y.1),(4,I y.2.1),(5,I y.2.2.1)]) (fun(y:Nat×Int×Int×Int×List Limit)=> [(bs,srcO y.2.2.2.1),(b3, .cells [I ba,Bo db, .own false 34 2 (y.2.2.2.2.map Limit.cells),I 1] 24),(b2, .cells [I 0,Bo false, .v (.slice none 0 0),I 0] 24)]) (fun(y:Nat×Int×Int×Int×List Limit)=>(0≤y.2.1∧y.2.1+6*y.1≤18)∧(0≤y.2.2.1∧y.2.2.1+2000*y.1≤6000)∧y.2.2.2.2.length+y.1≤3∧limX N x0 0 0=(y.2.2.2.2++(limX y.1 y.2.2.2.1 y.2.1 y.2.2.1).1,(limX y.1 y.2.2.2.1 y.2.1 y.2.2.1).2)) (fun(y:Nat×Int×Int×Int×List Limit)=>y.1) (N,0,0,x0,[]) yS (fun b o e=>by exact e) ⟨by dsimp only;omega,by dsimp only;omega,by simp;omega,rfl⟩ (fun y B hI hB=>?_);try dsimp only at hI hB;simp only[app_cons',app_nil']
  obtain⟨k,f,p,x1,out⟩:=y
  dsimp only at hI hB ⊢
  obtain⟨g0,g1,g2,g3⟩:=hI
  have HG:=Box.mk g3
  rw[g3]
  have HB:=Box.mk hB
  clear g3 hB
  have q1:=belowX_bd x1 6
  have q2:rangeX x1 1 6=1+belowX x1 6:=rfl
  have q3:=belowX_bd (stepX x1) 2000
  repeat' (first|(with_reducible refine DS.loadOwn (t:=32) yU yX0 yX0 yX0 yX0 ?_;simp only[set_zero',set_cons'])|(with_reducible first|refine DS.fltS yU yU yX0 ?_|refine DS.opsNil ?_|refine DS.seq ?_|refine DS.regionL ?_|(refine DS.cE yX0 ?_;refine CG.p (fun _=>?_) (fun _=>?_))|refine DS.blk ?_|refine DS.block ?_|refine DS.exit yU ?_|refine DS.skip ?_)|(refine DS.bsl yU yX0 yX0 ?_;simp only[go_sem,Nat.zero_add,Nat.reduceAdd])|(refine DS.append (mm:=false) yU yX0 yX0 yU (by decide) yX0 (by first|exact .inl rfl|exact .inr ⟨rfl,rfl⟩) yX0 yX10 (by first|exact len_map cI_len _|exact len_map cR_len _|exact len_map Member.len _|exact len_map Sitting.len _|exact len_map Ruling.len _|(simp only[List.mem_cons,List.not_mem_nil,or_false,forall_eq];rfl)|simp) ⟨by(try simp only[List.length_map,List.length_cons,List.length_nil,List.length_append,List.length_take,List.length_drop]);omega,by decide⟩ ?_;simp only[strip_tmp,strip_const,lookV_cons,Nat.reduceEqDiff,↓reduceIte,stripO_own,stripO_lst,stripO_v,stripO_plc,stripO_agg,stripO_fn,stripO_ifc])|(refine DS.scS inferInstance (range_sc bs x1 1 6 (by omega)) yR yX8 yX8 ?_;(try simp only[delS_cons,delS_nil,↓reduceIte, *]))|(refine DS.scS inferInstance (below_sc bs (stepX x1) 2000 (by omega)) yR yX8 yX8 ?_;(try simp only[delS_cons,delS_nil,↓reduceIte, *]))|(refine DS.store yR yX0 yX0 yX0 yX0 yU (by exact⟨by with_unfolding_all rfl,by(try simp only[List.length_map,List.length_append,List.length_set,List.length_replicate,List.length_cons,List.length_nil]);omega⟩) ?_;simp only[putV_none,setAll_cons,setAll_nil,scells_v,scells_own,scells_lst,scells_agg];try simp only[strip_tmp,strip_const,lookV_cons,Nat.reduceEqDiff,↓reduceIte,stripO_own,stripO_lst,stripO_v,stripO_plc,stripO_agg,stripO_fn,stripO_ifc])|fail)
  ·obtain⟨k',rfl⟩: ∃k',k=k'+1:=⟨k-1,by omega⟩
   have hk:limX N x0 0 0=((out++ [⟨f+(1+belowX x1 6),p+belowX (stepX x1) 2000⟩])++(limX k' (stepX (stepX x1)) (f+(1+belowX x1 6)) (p+belowX (stepX x1) 2000)).1,(limX k' (stepX (stepX x1)) (f+(1+belowX x1 6)) (p+belowX (stepX x1) 2000)).2):=by
    rw[List.append_assoc,List.singleton_append];exact HG.out
   have HK:=Box.mk hk
   clear hk
   have e6:((k'+1:Nat):Int)-1=(k':Int):=by omega
   simp only[e6]
   refine DS.back (HB.out (k',f+(1+belowX x1 6),p+belowX (stepX x1) 2000,stepX (stepX x1),out++ [⟨f+(1+belowX x1 6),p+belowX (stepX x1) 2000⟩]) _ _ (by dsimp only;omega) ⟨by dsimp only;omega,by dsimp only;omega,by simp;omega,HK.out⟩ yS yS (fun b o e=>?_))
   dsimp only at e
   rw[List.map_append,List.map_singleton,Limit.cells]at e
   simp only[setS,n2,n2',n3,n3',m3,m3',↓reduceIte,set_cons',set_zero',lookS_cons,lookS_nil]at e ⊢
   exact e
  ·simp only[setS,delS_cons,delS_nil,n2,n2',n3,n3',m3,m3',↓reduceIte,List.map_cons,List.map_nil,copy_v,setAll_cons,setAll_nil,set_cons',set_zero',Nat.reduceAdd,Nat.zero_add]
   have hk:k=0:=by omega
   subst hk
   refine DS.retW [(bs,srcO x1)] yG (fun b o e=>?_) ⟨?_,rfl⟩
   ·simp only[lookS_cons,lookS_nil]at e ⊢
    split at e
    ·rename_i hb;rw[if_pos hb];exact e
    ·cases e
   ·rw[limX,List.append_nil];rfl
 ·repeat' (first|with_reducible refine DS.fltS yU yU yX0 ?_|fail)
  refine DS.allocS yR yU yU (fun b3 h3=>?_)
  have n3: ¬bs=b3:=fun e=>by simp only[lookS_cons,e,↓reduceIte]at h3;first|(cases h3;done)|(split at h3 <;> cases h3)
  have n3': ¬b3=bs:=fun e=>n3 e.symm
  have m3: ¬b2=b3:=fun e=>by simp only[lookS_cons,e,↓reduceIte]at h3;first|(cases h3;done)|(split at h3 <;> cases h3)
  have m3': ¬b3=b2:=fun e=>m3 e.symm
  clear h3
  repeat' (first|(with_reducible first|refine DS.fltS yU yU yX0 ?_|refine DS.opsNil ?_|refine DS.seq ?_|refine DS.regionL ?_|refine DS.block ?_)|(refine DS.scS inferInstance (below_sc bs (stepX (stepX (stepX x))) 4 (by omega)) yR yX9 yX9 ?_;(try simp only[delS_cons,delS_nil,↓reduceIte, *]))|(refine DS.store yR yX0 yX0 yX0 yX0 yU (by exact⟨by with_unfolding_all rfl,by(try simp only[List.length_map,List.length_append,List.length_set,List.length_replicate,List.length_cons,List.length_nil]);omega⟩) ?_;simp only[putV_none,setAll_cons,setAll_nil,scells_v,scells_own,scells_lst,scells_agg];try simp only[strip_tmp,strip_const,lookV_cons,Nat.reduceEqDiff,↓reduceIte,stripO_own,stripO_lst,stripO_v,stripO_plc,stripO_agg,stripO_fn,stripO_ifc])|fail)
  simp only[setS,delS_cons,delS_nil,n2,n2',n3,n3',m3,m3',↓reduceIte,List.map_cons,List.map_nil,copy_v,setAll_cons,setAll_nil,set_cons',set_zero',Nat.reduceAdd,Nat.zero_add]
  refine DS.adoptC (b:=b3) (off:=2) (e:=34) (sz:=2) (T':=24) (by simp only[lookS_cons,lookS_nil,n3,↓reduceIte];rfl) yR ?_
  simp only[setS,n3,↓reduceIte,set_cons',set_zero']
  generalize oddsX (stepX x) 2=db
  generalize rangeX x 1 20=ba
  obtain⟨N,hN⟩: ∃N:Nat,(N:Int)=belowX (stepX (stepX (stepX x))) 4:=⟨(belowX (stepX (stepX (stepX x))) 4).toNat,by omega⟩
  rw[←hN,Int.toNat_natCast]
  have hNb:N≤3:=by omega
  clear hN k3
  generalize stepX (stepX (stepX (stepX x)))=x0
  refine DS.loopS [0,2,3] yN (fun(y:Nat×Int×Int×Int×List Limit)=> [(6,I y.1),(4,I y.2.1),(5,I y.2.2.1)]) (fun(y:Nat×Int×Int×Int×List Limit)=> [(bs,srcO y.2.2.2.1),(b3, .cells [I ba,Bo db, .own false 34 2 (y.2.2.2.2.map Limit.cells),I 10] 24),(b2, .cells [I 0,Bo false, .v (.slice none 0 0),I 0] 24)]) (fun(y:Nat×Int×Int×Int×List Limit)=>(0≤y.2.1∧y.2.1+6*y.1≤18)∧(0≤y.2.2.1∧y.2.2.1+2000*y.1≤6000)∧y.2.2.2.2.length+y.1≤3∧limX N x0 0 0=(y.2.2.2.2++(limX y.1 y.2.2.2.1 y.2.1 y.2.2.1).1,(limX y.1 y.2.2.2.1 y.2.1 y.2.2.1).2)) (fun(y:Nat×Int×Int×Int×List Limit)=>y.1) (N,0,0,x0,[]) yS (fun b o e=>by exact e) ⟨by dsimp only;omega,by dsimp only;omega,by simp;omega,rfl⟩ (fun y B hI hB=>?_);try dsimp only at hI hB;simp only[app_cons',app_nil']
  obtain⟨k,f,p,x1,out⟩:=y
  dsimp only at hI hB ⊢
  obtain⟨g0,g1,g2,g3⟩:=hI
  have HG:=Box.mk g3
  rw[g3]
  have HB:=Box.mk hB
  clear g3 hB
  have q1:=belowX_bd x1 6
  have q2:rangeX x1 1 6=1+belowX x1 6:=rfl
  have q3:=belowX_bd (stepX x1) 2000
  repeat' (first|(with_reducible refine DS.loadOwn (t:=32) yU yX0 yX0 yX0 yX0 ?_;simp only[set_zero',set_cons'])|(with_reducible first|refine DS.fltS yU yU yX0 ?_|refine DS.opsNil ?_|refine DS.seq ?_|refine DS.regionL ?_|(refine DS.cE yX0 ?_;refine CG.p (fun _=>?_) (fun _=>?_))|refine DS.blk ?_|refine DS.block ?_|refine DS.exit yU ?_|refine DS.skip ?_)|(refine DS.bsl yU yX0 yX0 ?_;simp only[go_sem,Nat.zero_add,Nat.reduceAdd])|(refine DS.append (mm:=false) yU yX0 yX0 yU (by decide) yX0 (by first|exact .inl rfl|exact .inr ⟨rfl,rfl⟩) yX0 yX10 (by first|exact len_map cI_len _|exact len_map cR_len _|exact len_map Member.len _|exact len_map Sitting.len _|exact len_map Ruling.len _|(simp only[List.mem_cons,List.not_mem_nil,or_false,forall_eq];rfl)|simp) ⟨by(try simp only[List.length_map,List.length_cons,List.length_nil,List.length_append,List.length_take,List.length_drop]);omega,by decide⟩ ?_;simp only[strip_tmp,strip_const,lookV_cons,Nat.reduceEqDiff,↓reduceIte,stripO_own,stripO_lst,stripO_v,stripO_plc,stripO_agg,stripO_fn,stripO_ifc])|(refine DS.scS inferInstance (range_sc bs x1 1 6 (by omega)) yR yX8 yX8 ?_;(try simp only[delS_cons,delS_nil,↓reduceIte, *]))|(refine DS.scS inferInstance (below_sc bs (stepX x1) 2000 (by omega)) yR yX8 yX8 ?_;(try simp only[delS_cons,delS_nil,↓reduceIte, *]))|(refine DS.store yR yX0 yX0 yX0 yX0 yU (by exact⟨by with_unfolding_all rfl,by(try simp only[List.length_map,List.length_append,List.length_set,List.length_replicate,List.length_cons,List.length_nil]);omega⟩) ?_;simp only[putV_none,setAll_cons,setAll_nil,scells_v,scells_own,scells_lst,scells_agg];try simp only[strip_tmp,strip_const,lookV_cons,Nat.reduceEqDiff,↓reduceIte,stripO_own,stripO_lst,stripO_v,stripO_plc,stripO_agg,stripO_fn,stripO_ifc])|fail)
  ·obtain⟨k',rfl⟩: ∃k',k=k'+1:=⟨k-1,by omega⟩
   have hk:limX N x0 0 0=((out++ [⟨f+(1+belowX x1 6),p+belowX (stepX x1) 2000⟩])++(limX k' (stepX (stepX x1)) (f+(1+belowX x1 6)) (p+belowX (stepX x1) 2000)).1,(limX k' (stepX (stepX x1)) (f+(1+belowX x1 6)) (p+belowX (stepX x1) 2000)).2):=by
    rw[List.append_assoc,List.singleton_append];exact HG.out
   have HK:=Box.mk hk
   clear hk
   have e6:((k'+1:Nat):Int)-1=(k':Int):=by omega
   simp only[e6]
   refine DS.back (HB.out (k',f+(1+belowX x1 6),p+belowX (stepX x1) 2000,stepX (stepX x1),out++ [⟨f+(1+belowX x1 6),p+belowX (stepX x1) 2000⟩]) _ _ (by dsimp only;omega) ⟨by dsimp only;omega,by dsimp only;omega,by simp;omega,HK.out⟩ yS yS (fun b o e=>?_))
   dsimp only at e
   rw[List.map_append,List.map_singleton,Limit.cells]at e
   simp only[setS,n2,n2',n3,n3',m3,m3',↓reduceIte,set_cons',set_zero',lookS_cons,lookS_nil]at e ⊢
   exact e
  ·simp only[setS,delS_cons,delS_nil,n2,n2',n3,n3',m3,m3',↓reduceIte,List.map_cons,List.map_nil,copy_v,setAll_cons,setAll_nil,set_cons',set_zero',Nat.reduceAdd,Nat.zero_add]
   have hk:k=0:=by omega
   subst hk
   refine DS.retW [(bs,srcO x1)] yG (fun b o e=>?_) ⟨?_,rfl⟩
   ·simp only[lookS_cons,lookS_nil]at e ⊢
    split at e
    ·rename_i hb;rw[if_pos hb];exact e
    ·cases e
   ·rw[limX,List.append_nil];rfl
 ·repeat' (first|with_reducible refine DS.fltS yU yU yX0 ?_|fail)
  refine DS.allocS yR yU yU (fun b3 h3=>?_)
  have n3: ¬bs=b3:=fun e=>by simp only[lookS_cons,e,↓reduceIte]at h3;first|(cases h3;done)|(split at h3 <;> cases h3)
  have n3': ¬b3=bs:=fun e=>n3 e.symm
  have m3: ¬b2=b3:=fun e=>by simp only[lookS_cons,e,↓reduceIte]at h3;first|(cases h3;done)|(split at h3 <;> cases h3)
  have m3': ¬b3=b2:=fun e=>m3 e.symm
  clear h3
  repeat' (first|(with_reducible first|refine DS.fltS yU yU yX0 ?_|refine DS.opsNil ?_|refine DS.seq ?_|refine DS.regionL ?_|refine DS.block ?_)|(refine DS.scS inferInstance (below_sc bs (stepX (stepX (stepX x))) 4 (by omega)) yR yX9 yX9 ?_;(try simp only[delS_cons,delS_nil,↓reduceIte, *]))|(refine DS.store yR yX0 yX0 yX0 yX0 yU (by exact⟨by with_unfolding_all rfl,by(try simp only[List.length_map,List.length_append,List.length_set,List.length_replicate,List.length_cons,List.length_nil]);omega⟩) ?_;simp only[putV_none,setAll_cons,setAll_nil,scells_v,scells_own,scells_lst,scells_agg];try simp only[strip_tmp,strip_const,lookV_cons,Nat.reduceEqDiff,↓reduceIte,stripO_own,stripO_lst,stripO_v,stripO_plc,stripO_agg,stripO_fn,stripO_ifc])|fail)
  simp only[setS,delS_cons,delS_nil,n2,n2',n3,n3',m3,m3',↓reduceIte,List.map_cons,List.map_nil,copy_v,setAll_cons,setAll_nil,set_cons',set_zero',Nat.reduceAdd,Nat.zero_add]
  refine DS.adoptC (b:=b3) (off:=2) (e:=34) (sz:=2) (T':=24) (by simp only[lookS_cons,lookS_nil,n3,↓reduceIte];rfl) yR ?_
  simp only[setS,n3,↓reduceIte,set_cons',set_zero']
  generalize oddsX (stepX x) 2=db
  generalize rangeX x 1 20=ba
  obtain⟨N,hN⟩: ∃N:Nat,(N:Int)=belowX (stepX (stepX (stepX x))) 4:=⟨(belowX (stepX (stepX (stepX x))) 4).toNat,by omega⟩
  rw[←hN,Int.toNat_natCast]
  have hNb:N≤3:=by omega
  clear hN k3
  generalize stepX (stepX (stepX (stepX x)))=x0
  refine DS.loopS [0,2,3] yN (fun(y:Nat×Int×Int×Int×List Limit)=> [(6,I y.1),(4,I y.2.1),(5,I y.2.2.1)]) (fun(y:Nat×Int×Int×Int×List Limit)=> [(bs,srcO y.2.2.2.1),(b3, .cells [I ba,Bo db, .own false 34 2 (y.2.2.2.2.map Limit.cells),I 100] 24),(b2, .cells [I 0,Bo false, .v (.slice none 0 0),I 0] 24)]) (fun(y:Nat×Int×Int×Int×List Limit)=>(0≤y.2.1∧y.2.1+6*y.1≤18)∧(0≤y.2.2.1∧y.2.2.1+2000*y.1≤6000)∧y.2.2.2.2.length+y.1≤3∧limX N x0 0 0=(y.2.2.2.2++(limX y.1 y.2.2.2.1 y.2.1 y.2.2.1).1,(limX y.1 y.2.2.2.1 y.2.1 y.2.2.1).2)) (fun(y:Nat×Int×Int×Int×List Limit)=>y.1) (N,0,0,x0,[]) yS (fun b o e=>by exact e) ⟨by dsimp only;omega,by dsimp only;omega,by simp;omega,rfl⟩ (fun y B hI hB=>?_);try dsimp only at hI hB;simp only[app_cons',app_nil']
  obtain⟨k,f,p,x1,out⟩:=y
  dsimp only at hI hB ⊢
  obtain⟨g0,g1,g2,g3⟩:=hI
  have HG:=Box.mk g3
  rw[g3]
  have HB:=Box.mk hB
  clear g3 hB
  have q1:=belowX_bd x1 6
  have q2:rangeX x1 1 6=1+belowX x1 6:=rfl
  have q3:=belowX_bd (stepX x1) 2000
  repeat' (first|(with_reducible refine DS.loadOwn (t:=32) yU yX0 yX0 yX0 yX0 ?_;simp only[set_zero',set_cons'])|(with_reducible first|refine DS.fltS yU yU yX0 ?_|refine DS.opsNil ?_|refine DS.seq ?_|refine DS.regionL ?_|(refine DS.cE yX0 ?_;refine CG.p (fun _=>?_) (fun _=>?_))|refine DS.blk ?_|refine DS.block ?_|refine DS.exit yU ?_|refine DS.skip ?_)|(refine DS.bsl yU yX0 yX0 ?_;simp only[go_sem,Nat.zero_add,Nat.reduceAdd])|(refine DS.append (mm:=false) yU yX0 yX0 yU (by decide) yX0 (by first|exact .inl rfl|exact .inr ⟨rfl,rfl⟩) yX0 yX10 (by first|exact len_map cI_len _|exact len_map cR_len _|exact len_map Member.len _|exact len_map Sitting.len _|exact len_map Ruling.len _|(simp only[List.mem_cons,List.not_mem_nil,or_false,forall_eq];rfl)|simp) ⟨by(try simp only[List.length_map,List.length_cons,List.length_nil,List.length_append,List.length_take,List.length_drop]);omega,by decide⟩ ?_;simp only[strip_tmp,strip_const,lookV_cons,Nat.reduceEqDiff,↓reduceIte,stripO_own,stripO_lst,stripO_v,stripO_plc,stripO_agg,stripO_fn,stripO_ifc])|(refine DS.scS inferInstance (range_sc bs x1 1 6 (by omega)) yR yX8 yX8 ?_;(try simp only[delS_cons,delS_nil,↓reduceIte, *]))|(refine DS.scS inferInstance (below_sc bs (stepX x1) 2000 (by omega)) yR yX8 yX8 ?_;(try simp only[delS_cons,delS_nil,↓reduceIte, *]))|(refine DS.store yR yX0 yX0 yX0 yX0 yU (by exact⟨by with_unfolding_all rfl,by(try simp only[List.length_map,List.length_append,List.length_set,List.length_replicate,List.length_cons,List.length_nil]);omega⟩) ?_;simp only[putV_none,setAll_cons,setAll_nil,scells_v,scells_own,scells_lst,scells_agg];try simp only[strip_tmp,strip_const,lookV_cons,Nat.reduceEqDiff,↓reduceIte,stripO_own,stripO_lst,stripO_v,stripO_plc,stripO_agg,stripO_fn,stripO_ifc])|fail)
  ·obtain⟨k',rfl⟩: ∃k',k=k'+1:=⟨k-1,by omega⟩
   have hk:limX N x0 0 0=((out++ [⟨f+(1+belowX x1 6),p+belowX (stepX x1) 2000⟩])++(limX k' (stepX (stepX x1)) (f+(1+belowX x1 6)) (p+belowX (stepX x1) 2000)).1,(limX k' (stepX (stepX x1)) (f+(1+belowX x1 6)) (p+belowX (stepX x1) 2000)).2):=by
    rw[List.append_assoc,List.singleton_append];exact HG.out
   have HK:=Box.mk hk
   clear hk
   have e6:((k'+1:Nat):Int)-1=(k':Int):=by omega
   simp only[e6]
   refine DS.back (HB.out (k',f+(1+belowX x1 6),p+belowX (stepX x1) 2000,stepX (stepX x1),out++ [⟨f+(1+belowX x1 6),p+belowX (stepX x1) 2000⟩]) _ _ (by dsimp only;omega) ⟨by dsimp only;omega,by dsimp only;omega,by simp;omega,HK.out⟩ yS yS (fun b o e=>?_))
   dsimp only at e
   rw[List.map_append,List.map_singleton,Limit.cells]at e
   simp only[setS,n2,n2',n3,n3',m3,m3',↓reduceIte,set_cons',set_zero',lookS_cons,lookS_nil]at e ⊢
   exact e
  ·simp only[setS,delS_cons,delS_nil,n2,n2',n3,n3',m3,m3',↓reduceIte,List.map_cons,List.map_nil,copy_v,setAll_cons,setAll_nil,set_cons',set_zero',Nat.reduceAdd,Nat.zero_add]
   have hk:k=0:=by omega
   subst hk
   refine DS.retW [(bs,srcO x1)] yG (fun b o e=>?_) ⟨?_,rfl⟩
   ·simp only[lookS_cons,lookS_nil]at e ⊢
    split at e
    ·rename_i hb;rw[if_pos hb];exact e
    ·cases e
   ·rw[limX,List.append_nil];rfl
end Go.XL
namespace Go.XL
def House.oth (h:House) (i:Nat):List Int:=(h.pat i).excl++(h.pat i).impl
def clashB (h:House) (a b:Nat):Bool:=decide ((b:Int)∈h.oth a) || decide ((a:Int)∈h.oth b)
def clM (h:House) (a:Nat):Nat:=maskL ((List.range 64).filter (clashB h a))
theorem clM_lt (h:House) (a:Nat):clM h a<2 ^ 64:=mask_lt _ fun i hi=>by
 have:=(List.mem_filter.1 hi).1;exact List.mem_range.1 this
theorem clM_bit (h:House) (a b:Nat):(clM h a).testBit b=(decide (b<64)&&clashB h a b):=by
 rw[clM,mask_bit]
 simp[List.mem_filter]
structure PatOk (h:House) (i:Nat):Prop where
 closed:0≤(h.pat i).closed∧(h.pat i).closed≤1000
 open_:0≤(h.pat i).open_∧(h.pat i).open_≤1000
 excl:(h.pat i).excl.length≤10
 impl:(h.pat i).impl.length≤10
 oth: ∀k∈h.oth i,0≤k∧k<(h.patterns.length:Int)∧k≠(i:Int)
theorem ite0' {p:Prop} {_:Decidable p} {a b:Int} (ha:a≠0) (h:(if p then a else b)=0): ¬p∧b=0:=by
 by_cases hp:p
 ·rw[if_pos hp]at h;exact absurd h ha
 ·rw[if_neg hp]at h;exact⟨hp,h⟩
theorem ite1' {b a:Int} (h:(if a≠0 then a else b)=0):a=0∧b=0:=by
 by_cases hp:a≠0
 ·rw[if_pos hp]at h;exact absurd h hp
 ·rw[if_neg hp]at h;exact⟨Decidable.not_not.1 hp,h⟩
theorem othersGo_ok {own many:Int}: ∀{l:List Int} {p:Option Int},othersGo own many l p=0→ ∀n∈l,0≤n∧n<many∧n≠own
 | x::l,p,h,n,hn=>by
  rw[othersGo]at h
  obtain⟨h1,h⟩:=ite0' (by decide) h
  obtain⟨h2,h⟩:=ite0' (by decide) h
  obtain⟨h3,h⟩:=ite0' (by decide) h
  rcases List.mem_cons.1 hn with rfl|hn
  ·omega
  ·exact othersGo_ok h n hn
theorem othersS_ok {own many:Int} {l:List Int} (h:othersS l own many=0):l.length≤10∧ ∀n∈l,0≤n∧n<many∧n≠own:=by
 rw[othersS]at h
 obtain⟨h1,h⟩:=ite0' (by decide) h
 exact⟨by omega,othersGo_ok h⟩
theorem patS_ok {h:House} {i:Nat} (e:patS h i=0):PatOk h i:=by
 rw[patS]at e
 obtain⟨e1,e⟩:=ite0' (by decide) e
 obtain⟨e2,e⟩:=ite0' (by decide) e
 obtain⟨e3,e⟩:=ite0' (by decide) e
 obtain⟨e4,e⟩:=ite0' (by decide) e
 obtain⟨e5,e⟩:=ite1' e
 obtain⟨e6,e⟩:=ite1' e
 obtain⟨k1,k2⟩:=othersS_ok e6
 obtain⟨k3,k4⟩:=othersS_ok e
 exact⟨by omega,by omega,k1,k3,fun k hk=>(List.mem_append.1 hk).elim (k2 k) (k4 k)⟩
theorem patsGo_ok {h:House}: ∀{n i:Nat},patsGo h i n=0→ ∀j,i≤j→j<i+n→patS h j=0
 | 0,i,_,j,h1,h2=>by omega
 | n+1,i,e,j,h1,h2=>by
  rw[patsGo]at e
  obtain⟨e1,e⟩:=ite1' e
  by_cases hj:j=i
  ·subst hj;exact e1
  ·exact patsGo_ok e j (by omega) (by omega)
theorem pat_at {h:House} {i:Nat} (hi:i<h.patterns.length):h.pat i=h.patterns[i]:=by
 rw[House.pat,List.getD_eq_getElem?_getD,List.getElem?_eq_getElem hi];rfl
theorem pat_out {h:House} {i:Nat} (hi:h.patterns.length≤i):h.pat i=noPat:=by
 rw[House.pat,List.getD_eq_getElem?_getD,List.getElem?_eq_none hi];rfl
theorem oth_out {h:House} {i:Nat} (hi:h.patterns.length≤i):h.oth i= []:=by rw[House.oth,pat_out hi];rfl
structure PatsOk (h:House):Prop where
 many:h.patterns.length≤40
 ok: ∀i,i<h.patterns.length→PatOk h i
def orAt (L:List Nat) (p q:Nat):List Nat:=L.set p (L.getD p 0 ||| 2 ^ q)
theorem orAt_len (L:List Nat) (p q:Nat):(orAt L p q).length=L.length:=by simp[orAt]
theorem orAt_bit {L:List Nat} {p q:Nat} (hp:p<L.length) (a b:Nat):((orAt L p q).getD a 0).testBit b=((L.getD a 0).testBit b || (decide (a=p)&&decide (b=q))):=by
 rw[orAt,List.getD_eq_getElem?_getD,List.getElem?_set]
 by_cases h:p=a
 ·subst h
  simp only[↓reduceIte,hp,Option.getD_some,Nat.testBit_or,Nat.testBit_two_pow,decide_true,Bool.true_and]
  congr 1
  by_cases h2:q=b <;> simp[h2];omega
 ·rw[if_neg h]
  have h2: ¬a=p:=fun e=>h e.symm
  simp[h2,List.getD_eq_getElem?_getD]
theorem orAt_lt {L:List Nat} {p q:Nat} (hL: ∀m∈L,m<2 ^ 64) (hq:q<64): ∀m∈orAt L p q,m<2 ^ 64:=fun m hm=>by
 rcases List.mem_or_eq_of_mem_set hm with h|h
 ·exact hL m h
 ·subst h
  refine Nat.or_lt_two_pow ?_ (Nat.pow_lt_pow_right (by omega) hq)
  rw[List.getD_eq_getElem?_getD]
  cases e:L[p]? with
  | none=>simp
  | some v=>exact hL v (List.mem_of_getElem? e)
structure Gath (h:House) (i j:Nat) (L:List Nat):Prop where
 len:L.length=h.patterns.length
 lt: ∀m∈L,m<2 ^ 64
 bit: ∀a b,a<h.patterns.length→(L.getD a 0).testBit b=(decide (a<i∧(b:Int)∈h.oth a) || decide (b<i∧(a:Int)∈h.oth b) || decide (a=i∧(b:Int)∈(h.oth i).take j) || decide (b=i∧(a:Int)∈(h.oth i).take j))
theorem Gath.start (h:House):Gath h 0 0 (List.replicate h.patterns.length 0):=by
 refine⟨by simp,fun m hm=>?_,fun a b ha=>?_⟩
 ·rw[(List.mem_replicate.1 hm).2];decide
 ·have:(List.replicate h.patterns.length 0).getD a 0=0:=by
   rw[List.getD_eq_getElem?_getD,List.getElem?_replicate];split <;> rfl
  rw[this];simp
theorem Gath.next {h:House} {i:Nat} {L:List Nat} (g:Gath h i (h.oth i).length L):Gath h (i+1) 0 L:=by
 refine⟨g.len,g.lt,fun a b ha=>?_⟩
 rw[g.bit a b ha,List.take_length,List.take_zero,Bool.eq_iff_iff]
 simp only[Bool.or_eq_true,decide_eq_true_eq,List.not_mem_nil,and_false,or_false]
 constructor
 ·rintro(((h1|h1)|h1)|h1)
  ·exact .inl ⟨by omega,h1.2⟩
  ·exact .inr ⟨by omega,h1.2⟩
  ·obtain⟨rfl,h2⟩:=h1;exact .inl ⟨by omega,h2⟩
  ·obtain⟨rfl,h2⟩:=h1;exact .inr ⟨by omega,h2⟩
 ·rintro(h1|h1)
  ·by_cases ha:a=i
   ·subst ha;exact .inl (.inr ⟨rfl,h1.2⟩)
   ·exact .inl (.inl (.inl ⟨by omega,h1.2⟩))
  ·by_cases hb:b=i
   ·subst hb;exact .inr ⟨rfl,h1.2⟩
   ·exact .inl (.inl (.inr ⟨by omega,h1.2⟩))
theorem Gath.step {h:House} {i j:Nat} {L:List Nat} (g:Gath h i j L) (hi:i<h.patterns.length) (hm:h.patterns.length≤40) (hj:j<(h.oth i).length) {K:Nat} (hk:(h.oth i)[j]=(K:Int)) (hK:K<h.patterns.length) :
  Gath h i (j+1) (orAt (orAt L i K) K i):=by
 refine⟨by rw[orAt_len,orAt_len,g.len],orAt_lt (orAt_lt g.lt (by omega)) (by omega),fun a b ha=>?_⟩
 rw[orAt_bit (by rw[orAt_len,g.len];exact hK),orAt_bit (by rw[g.len];exact hi),g.bit a b ha,List.take_succ_eq_append_getElem hj,hk,Bool.eq_iff_iff]
 simp only[Bool.or_eq_true,Bool.and_eq_true,decide_eq_true_eq,List.mem_append,List.mem_singleton]
 have e1: ∀x:Nat,((x:Int)=(K:Int))↔x=K:=fun x=>by omega
 rw[e1,e1]
 constructor
 ·rintro(((((h1|h1)|h1)|h1)|h1)|h1)
  ·exact .inl (.inl (.inl h1))
  ·exact .inl (.inl (.inr h1))
  ·exact .inl (.inr ⟨h1.1, .inl h1.2⟩)
  ·exact .inr ⟨h1.1, .inl h1.2⟩
  ·exact .inl (.inr ⟨h1.1, .inr h1.2⟩)
  ·exact .inr ⟨h1.2, .inr h1.1⟩
 ·rintro(((h1|h1)|⟨h1,h2|h2⟩)|⟨h1,h2|h2⟩)
  ·exact .inl (.inl (.inl (.inl (.inl h1))))
  ·exact .inl (.inl (.inl (.inl (.inr h1))))
  ·exact .inl (.inl (.inl (.inr ⟨h1,h2⟩)))
  ·exact .inl (.inr ⟨h1,h2⟩)
  ·exact .inl (.inl (.inr ⟨h1,h2⟩))
  ·exact .inr ⟨h2,h1⟩
theorem Gath.end {h:House} {L:List Nat} (g:Gath h h.patterns.length 0 L) (hok:PatsOk h):L=(List.range h.patterns.length).map (clM h):=by
 apply List.ext_getElem
 ·rw[g.len];simp
 ·intro a h1 h2
  rw[g.len]at h1
  rw[List.getElem_map,List.getElem_range]
  apply Nat.eq_of_testBit_eq
  intro b
  have hb:=g.bit a b h1
  rw[List.getD_eq_getElem?_getD,List.getElem?_eq_getElem (by rw[g.len];exact h1)]at hb
  simp only[Option.getD_some]at hb
  rw[hb,clM_bit,Bool.eq_iff_iff]
  simp only[clashB,Bool.or_eq_true,Bool.and_eq_true,decide_eq_true_eq,List.take_zero,List.not_mem_nil,and_false,or_false]
  constructor
  ·rintro(h3|h3)
   ·have:=(hok.ok a h1).oth b h3.2
    have:=hok.many
    exact⟨by omega, .inl h3.2⟩
   ·have:=hok.many
    exact⟨by omega, .inr h3.2⟩
  ·rintro⟨h3,h4|h4⟩
   ·exact .inl ⟨h1,h4⟩
   ·refine .inr ⟨?_,h4⟩
    refine Decidable.byContradiction fun hn=>?_
    rw[oth_out (by omega)]at h4
    simp at h4
end Go.XL
