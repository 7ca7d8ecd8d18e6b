/- A part of a program logic over the kit's walk rules, and contracts of functions in it. Conditions: as each theorem says. -/
import Derived.Test.YtfgeogepihjdiaaGreatDoorF3
import Derived.Ground.NamesProg
import Derived.Shelf.Strings.SlTrimAscii
import Derived.Test.YtfgeogepihjdiaaGreatDoorProg
set_option linter.all false
namespace Go.XL
open Go.Proofs
set_option maxRecDepth 100000
set_option maxHeartbeats 4000000
theorem suitsGo_at {l:List Int} {i:Nat} (hi:i<l.length):suitsGo (l.drop i)=if ¬(1≤l[i]∧l[i]≤9)then 2 else suitsGo (l.drop (i+1)):=by
 rw[List.drop_eq_getElem_cons hi,suitsGo]
theorem ascGo_at {k:Int} {l:List Int} {i:Nat} (hi:i<l.length) (p:Int):ascGo k (l.drop i) p=if ¬(0≤l[i]∧l[i]≤k-1)then 2 else if l[i]≤p then 11 else ascGo k (l.drop (i+1)) l[i]:=by
 rw[List.drop_eq_getElem_cons hi,ascGo]
theorem sumI_app : ∀(l m:List Int),sumI (l++m)=sumI l+sumI m
 | [],m=>by simp[sumI]
 | a::l,m=>by rw[List.cons_append,sumI,sumI,sumI_app l m];omega
theorem sumI_take {l:List Int} {i:Nat} (hi:i<l.length):sumI (l.take (i+1))=sumI (l.take i)+l[i]:=by
 rw[List.take_succ_eq_append_getElem hi,sumI_app];simp[sumI]
theorem suits_sum : ∀{l:List Int},suitsGo l=0→(l.length:Int)≤sumI l∧sumI l≤9*l.length
 | [],_=>by simp[sumI]
 | a::l,h=>by
  rw[suitsGo]at h
  split at h
  ·cases h
  ·rename_i h1
   have:=suits_sum h
   rw[sumI,List.length_cons];omega
theorem ite0 {p:Prop} {_:Decidable p} {a b:Int} (ha:a≠0) (h:(if p then a else b)=0): ¬p∧b=0:=by
 by_cases hp:p
 ·rw[if_pos hp]at h;exact absurd h ha
 ·rw[if_neg hp]at h;exact⟨hp,h⟩
structure GSet.Ok (s:GSet):Prop where
 players:3≤s.players∧s.players≤4
 suits:s.suits.length≤3
 suit:suitsGo s.suits=0
 winds:0≤s.winds∧s.winds≤4
 dragons:0≤s.dragons∧s.dragons≤3
 flowers:0≤s.flowers∧s.flowers≤8
 copies:1≤s.copies∧s.copies≤4
 melds:1≤s.melds∧s.melds≤4
 dead:0≤s.dead∧s.dead≤20
 plain:1≤s.plain∧s.plain≤34
 reds:ascS s.plain s.reds=0
 tiles:s.players*(3*s.melds+1)+1+s.dead≤s.plain*s.copies+s.flowers
theorem gset_ok {s:GSet} (h:gsetS s=0):s.Ok:=by
 unfold gsetS at h
 obtain⟨h1,h⟩:=ite0 (by decide) h
 obtain⟨h2,h⟩:=ite0 (by decide) h
 obtain⟨h3,h⟩:=ite0 (by decide) h
 obtain⟨h4,h⟩:=ite0 (by decide) h
 obtain⟨h5,h⟩:=ite0 (by decide) h
 obtain⟨h6,h⟩:=ite0 (by decide) h
 obtain⟨h7,h⟩:=ite0 (by decide) h
 obtain⟨h8,h⟩:=ite0 (by decide) h
 obtain⟨h9,h⟩:=ite0 (by decide) h
 obtain⟨h10,h⟩:=ite0 (by decide) h
 have e:s.plain=s.winds+s.dragons+sumI s.suits:=rfl
 have h3:=Decidable.not_not.1 h3
 have hs:=suits_sum h3
 by_cases h11:ascS s.plain s.reds≠0
 ·rw[if_pos h11]at h;exact absurd h h11
 rw[if_neg h11]at h
 obtain⟨h12,h⟩:=ite0 (by decide) h
 exact⟨by omega,by omega,h3,by omega,by omega,by omega,by omega,by omega,by omega,by omega,Decidable.not_not.1 h11,by omega⟩
def tabS (s:GSet):List (Int×Int×Int):= [(s.winds,0,4),(s.dragons,0,3),(s.flowers,0,8),(s.copies,1,4),(s.melds,1,4),(s.dead,0,20)]
def rowT (s:GSet) (j:Nat):Int×Int×Int:=(tabS s).getD j (0,0,0)
abbrev tabC (s:GSet):List V:= [I s.winds,I 0,I 4,I s.dragons,I 0,I 3,I s.flowers,I 0,I 8,I s.copies,I 1,I 4,I s.melds,I 1,I 4,I s.dead,I 0,I 20]
theorem tab_row (s:GSet): ∀(j:Nat),j<6→(((tabC s).drop ((j:Int).toNat*3)).take 3).map V.peek= [I (rowT s j).1,I (rowT s j).2.1,I (rowT s j).2.2]
 | 0,_=>rfl
 | 1,_=>rfl
 | 2,_=>rfl
 | 3,_=>rfl
 | 4,_=>rfl
 | 5,_=>rfl
 | _+6,h=>by omega
theorem gset_tab {s:GSet} (h1:3≤s.players∧s.players≤4) (h2: ¬3<(s.suits.length:Int)) (h3:suitsGo s.suits=0) :
  (∀j,j<6→(rowT s j).2.1≤(rowT s j).1∧(rowT s j).1≤(rowT s j).2.2)∨gsetS s=2:=by
 by_cases a1:0≤s.winds∧s.winds≤4
 ·by_cases a2:0≤s.dragons∧s.dragons≤3
  ·by_cases a3:0≤s.flowers∧s.flowers≤8
   ·by_cases a4:1≤s.copies∧s.copies≤4
    ·by_cases a5:1≤s.melds∧s.melds≤4
     ·by_cases a6:0≤s.dead∧s.dead≤20
      ·refine .inl fun j hj=>?_
       match j,hj with
       | 0,_=>exact a1
       | 1,_=>exact a2
       | 2,_=>exact a3
       | 3,_=>exact a4
       | 4,_=>exact a5
       | 5,_=>exact a6
      ·right;rw[gsetS,if_neg (by omega),if_neg h2,if_neg (by omega),if_neg (by omega),if_neg (by omega),if_neg (by omega),if_neg (by omega),if_neg (by omega),if_pos a6]
     ·right;rw[gsetS,if_neg (by omega),if_neg h2,if_neg (by omega),if_neg (by omega),if_neg (by omega),if_neg (by omega),if_neg (by omega),if_pos a5]
    ·right;rw[gsetS,if_neg (by omega),if_neg h2,if_neg (by omega),if_neg (by omega),if_neg (by omega),if_neg (by omega),if_pos a4]
   ·right;rw[gsetS,if_neg (by omega),if_neg h2,if_neg (by omega),if_neg (by omega),if_neg (by omega),if_pos a3]
  ·right;rw[gsetS,if_neg (by omega),if_neg h2,if_neg (by omega),if_neg (by omega),if_pos a2]
 ·right;rw[gsetS,if_neg (by omega),if_neg h2,if_neg (by omega),if_pos a1]
theorem gset_in {s:GSet} (h1:3≤s.players∧s.players≤4) (h2: ¬3<(s.suits.length:Int)) (h3:suitsGo s.suits=0) (h4: ∀j,j<6→(rowT s j).2.1≤(rowT s j).1∧(rowT s j).1≤(rowT s j).2.2) :
  gsetS s=if s.plain<1 then 6 else if ascS s.plain s.reds≠0 then ascS s.plain s.reds else if s.plain*s.copies+s.flowers<s.players*(3*s.melds+1)+1+s.dead then 6 else 0:=by
 have a1:0≤s.winds∧s.winds≤4:=h4 0 (by omega)
 have a2:0≤s.dragons∧s.dragons≤3:=h4 1 (by omega)
 have a3:0≤s.flowers∧s.flowers≤8:=h4 2 (by omega)
 have a4:1≤s.copies∧s.copies≤4:=h4 3 (by omega)
 have a5:1≤s.melds∧s.melds≤4:=h4 4 (by omega)
 have a6:0≤s.dead∧s.dead≤20:=h4 5 (by omega)
 rw[gsetS,if_neg (by omega),if_neg h2,if_neg (by omega),if_neg (by omega),if_neg (by omega),if_neg (by omega),if_neg (by omega),if_neg (by omega),if_neg (by omega)]
theorem tcheck_pc (s:GSet):PC Tryz.prog 63 [s.val] (I (gsetS s)):=by
 refine DC.of_run Tryz.func63 rfl Tryz.ntmps63 Tryz.results63 (by simp) (fun _ _=>?_);simp only[argV_cons,argV_nil,go_sem,Nat.zero_add,Nat.reduceAdd]
 repeat' (first|(with_reducible first|refine DS.fltS yU yU yE ?_|refine DS.opsNil ?_|refine DS.seq ?_|refine DS.regionL ?_|(refine DS.cE yE ?_;first|refine CG.p (fun _=>?_) (fun _=>?_)|refine CG.yes ?_)|(refine DS.gE yU yE ?_;first|refine GG.pF (fun _=>?_) (fun _=>?_)|refine GG.run ?_|refine GG.sT ?_)|refine DS.block ?_|refine DS.skip ?_)|(refine DS.boxF (t:=1) yU yE yU ?_;simp only[cells_agg,cells_v,cells_lst,cells_fn,map_nil'',map_cons'',copy_own,copy_lst,copy_v,copy_at,copy_agg,copy_fn,copy_ifc,copy_tup])|refine DS.retT [] yE trivial ?_|fail)
 all_goals try first|(rw[gsetS,if_pos (by omega)];rfl)|(rw[gsetS,if_neg (by omega),if_pos (by omega)];rfl)
 rename_i h1 h2 h3
 refine DS.loopK [1,30,31] yN (fun(z:Nat×Int)=> [(3,I z.2),(32,I z.1)]) (fun(z:Nat×Int)=>z.1≤s.suits.length∧suitsGo s.suits=suitsGo (s.suits.drop z.1)∧(0≤s.winds∧s.winds≤4→0≤s.dragons∧s.dragons≤3→z.2=s.winds+s.dragons+sumI (s.suits.take z.1)∧0≤sumI (s.suits.take z.1)∧sumI (s.suits.take z.1)≤9*z.1)) (fun(z:Nat×Int)=>s.suits.length-z.1) (0,IntKind.i64.wrap (s.winds+s.dragons)) yS (by
   refine⟨Nat.zero_le _,by simp,fun a b=>?_⟩
   dsimp only
   rw[IntWalk.i64_in _ (by omega)]
   simp[sumI]) (fun z B hI hB=>?_);try dsimp only at hI hB;simp only[app_cons',app_nil']
 have HB:=Box.mk hB
 clear hB
 obtain⟨i,kk⟩:=z
 dsimp only at hI ⊢
 obtain⟨hI,hI2,hI3⟩:=hI
 have H3:=Box.mk hI3
 clear hI3
 by_cases hi:(i:Int)<(s.suits.length:Int)
 ·have hi':i<s.suits.length:=by omega
  rw[suitsGo_at hi']at hI2
  have H2:=Box.mk hI2
  clear hI2
  by_cases hn:1≤s.suits[i]∧s.suits[i]≤9
  ·have hn1: ¬s.suits[i]<1:=by omega
   have hn2: ¬9<s.suits[i]:=by omega
   repeat' (first|(with_reducible first|refine DS.fltS yU yU yE ?_|refine DS.opsNil ?_|refine DS.seq ?_|refine DS.regionL ?_|(refine DS.cE yE ?_;first|refine CG.yes ?_|refine CG.no ?_)|(refine DS.gE yU yE ?_;refine GG.run ?_)|refine DS.blk ?_|refine DS.block ?_|refine DS.skip ?_)|fail)
   refine DS.back (HB.out (i+1,IntKind.i64.wrap (kk+s.suits[i])) _ _ (by dsimp only;omega) ⟨by dsimp only;omega,by rw[H2.out,if_neg (by omega)],fun a b=>?_⟩ yS yS (fun b o e=>by cases e))
   obtain⟨q1,q2,q3⟩:=H3.out a b
   dsimp only
   rw[sumI_take hi',IntWalk.i64_in _ (by omega)]
   omega
  ·have e:gsetS s=2:=by rw[gsetS,if_neg (by omega),if_neg h3,if_pos (by rw[H2.out,if_pos hn];decide)]
   rw[e]
   repeat' (first|(with_reducible first|refine DS.fltS yU yU yE ?_|refine DS.opsNil ?_|refine DS.seq ?_|refine DS.regionL ?_|(refine DS.cE yE ?_;first|refine CG.p (fun _=>?_) (fun _=>?_)|refine CG.yes ?_)|(refine DS.gE yU yE ?_;first|refine GG.pF (fun _=>?_) (fun _=>?_)|refine GG.run ?_|refine GG.sT ?_)|refine DS.blk ?_|refine DS.block ?_|refine DS.skip ?_)|refine DS.retT [] yE trivial ?_|fail)
   all_goals first|rfl|(exfalso;omega)
 ·rw[drop_end hi]at hI2
  have hI2:suitsGo s.suits=0:=hI2
  clear HB
  have hh:3≤s.players∧s.players≤4:=by omega
  have ht:=gset_tab hh h3 hI2
  have hin:=gset_in hh h3 hI2
  have HT:=Box.mk (And.intro ht hin)
  clear ht hin
  repeat' (first|(with_reducible first|refine DS.fltS yU yU yE ?_|refine DS.opsNil ?_|refine DS.seq ?_|refine DS.regionL ?_|(refine DS.cE yE ?_;refine CG.no ?_)|refine DS.block ?_|refine DS.exit yU ?_)|(refine DS.letF (t:=6) yU yE yU (fun _=>yE) yE yU (by exact⟨by with_unfolding_all rfl,by with_unfolding_all decide⟩) (fun _=>by simp only[go_sem,Nat.reduceEqDiff,↓reduceIte]) ?_;simp only[go_sem])|fail)
  refine DS.loopK [1,3,65] yN (fun(j:Nat)=> [(66,I j)]) (fun(j:Nat)=>j≤6∧ ∀m,m<j→(rowT s m).2.1≤(rowT s m).1∧(rowT s m).1≤(rowT s m).2.2) (fun(j:Nat)=>6-j) 0 yS ⟨Nat.zero_le _,fun m h=>by omega⟩ (fun j B hI hB=>?_);try dsimp only at hI hB;simp only[app_cons',app_nil']
  obtain⟨hJ,hJ2⟩:=hI
  have HJ:=Box.mk (And.intro hJ2 hB)
  clear hJ2 hB
  by_cases hj:(j:Int)<6
  ·repeat' (first|(with_reducible first|refine DS.fltS yU yU yE ?_|refine DS.opsNil ?_|refine DS.seq ?_|refine DS.regionL ?_|(refine DS.cE yE ?_;refine CG.yes ?_)|refine DS.block ?_|refine DS.skip ?_)|fail)
   refine DS.indexA (e:=161) (m:=3) (c:=tabC s) (by decide) (by kernel_rfl) (by kernel_rfl) yH yH (Int.natCast_nonneg _) hj (by show(j:Int).toNat*3+3≤18;omega) ?_
   rw[tab_row s j (by omega)]
   generalize hq:rowT s j=q at *
   obtain⟨x,lo,hi2⟩:=q
   dsimp only
   by_cases hok:lo≤x∧x≤hi2
   ·have k1: ¬x<lo:=by omega
    have k2: ¬hi2<x:=by omega
    repeat' (first|(with_reducible first|refine DS.fltS yU yU yE ?_|refine DS.opsNil ?_|refine DS.seq ?_|refine DS.regionL ?_|(refine DS.cE yE ?_;refine CG.no ?_)|(refine DS.gE yU yE ?_;refine GG.run ?_)|refine DS.blk ?_|refine DS.skip ?_)|(refine DS.letF (t:=8) yU yE yU (fun _=>yE) yE yU (by exact⟨by with_unfolding_all rfl,by with_unfolding_all decide⟩) (fun _=>by simp only[go_sem,Nat.reduceEqDiff,↓reduceIte]) ?_;simp only[go_sem])|fail)
    exact DS.back (HJ.out.2 (j+1) _ _ (by omega) ⟨by omega,fun m hm=>if h:m=j then(by subst h;rw[hq];exact hok)else HJ.out.1 m (by omega)⟩ yS yS (fun b o e=>by cases e))
   ·have e:gsetS s=2:=HT.out.1.resolve_left fun h=>hok (by have:=h j (by omega);rw[hq]at this;exact this)
    rw[e]
    repeat' (first|(with_reducible first|refine DS.fltS yU yU yE ?_|refine DS.opsNil ?_|refine DS.seq ?_|refine DS.regionL ?_|(refine DS.cE yE ?_;first|refine CG.p (fun _=>?_) (fun _=>?_)|refine CG.yes ?_)|(refine DS.gE yU yE ?_;first|refine GG.pF (fun _=>?_) (fun _=>?_)|refine GG.run ?_|refine GG.sT ?_)|refine DS.blk ?_|refine DS.skip ?_)|(refine DS.letF (t:=8) yU yE yU (fun _=>yE) yE yU (by exact⟨by with_unfolding_all rfl,by with_unfolding_all decide⟩) (fun _=>by simp only[go_sem,Nat.reduceEqDiff,↓reduceIte]) ?_;simp only[go_sem])|refine DS.retT [] yE trivial ?_|fail)
    all_goals first|rfl|(exfalso;omega)
  ·have h4: ∀j,j<6→(rowT s j).2.1≤(rowT s j).1∧(rowT s j).1≤(rowT s j).2.2:=fun m hm=>HJ.out.1 m (by omega)
   have e:=HT.out.2 h4
   obtain⟨q1,q2,q3⟩:=H3.out (h4 0 (by omega)) (h4 1 (by omega))
   have e2:kk=s.plain:=by
    rw[q1,List.take_of_length_le (by omega)];rfl
   subst e2
   clear HT HJ H3 q1 q2 q3
   have hpl:s.plain≤34:=by have:=suits_sum hI2;have e:s.plain=s.winds+s.dragons+sumI s.suits:=rfl;have:=h4 0 (by omega);have:=h4 1 (by omega);simp only[rowT,tabS,List.getD_cons_zero,List.getD_cons_succ]at *;omega
   have hp0:0≤s.plain:=by have e:s.plain=s.winds+s.dragons+sumI s.suits:=rfl;have:=suits_sum hI2;have:=h4 0 (by omega);have:=h4 1 (by omega);simp only[rowT,tabS,List.getD_cons_zero,List.getD_cons_succ]at *;omega
   by_cases hz:s.plain=0
   ·rw[e,if_pos (by omega)]
    repeat' (first|(with_reducible first|refine DS.fltS yU yU yE ?_|refine DS.opsNil ?_|refine DS.seq ?_|refine DS.regionL ?_|(refine DS.cE yE ?_;first|refine CG.yes ?_|refine CG.no ?_)|refine DS.exit yU ?_)|refine DS.retT [] yE trivial ?_|fail)
    all_goals first|rfl|(exfalso;omega)
   ·rw[if_neg (by omega)]at e
    repeat' (first|(with_reducible first|refine DS.fltS yU yU yE ?_|refine DS.opsNil ?_|refine DS.seq ?_|refine DS.regionL ?_|(refine DS.cE yE ?_;refine CG.no ?_)|refine DS.block ?_|refine DS.exit yU ?_|refine DS.skip ?_)|fail)
    all_goals try (exfalso;omega)
    refine DS.bnd (t:=85) yG (.inl rfl) (fun hb85=>?_);simp only[List.length_map]at hb85
    refine DS.loopK [1,3,85,86] yN (fun(z:Nat×Int)=> [(9,I z.2),(87,I z.1)]) (fun(z:Nat×Int)=>z.1≤s.reds.length∧ascS s.plain s.reds=ascGo s.plain (s.reds.drop z.1) z.2) (fun(z:Nat×Int)=>s.reds.length-z.1) (0,-1) yS ⟨Nat.zero_le _,rfl⟩ (fun z B hI hB=>?_);try dsimp only at hI hB;simp only[app_cons',app_nil']
    have HB:=Box.mk hB
    clear hB
    obtain⟨a,b⟩:=z
    dsimp only at hI ⊢
    obtain⟨hI,hI5⟩:=hI
    by_cases ha:(a:Int)<(s.reds.length:Int)
    ·have ha':a<s.reds.length:=by omega
     rw[ascGo_at ha']at hI5
     by_cases hr:0≤s.reds[a]∧s.reds[a]≤s.plain-1
     ·have hr1: ¬s.reds[a]<0:=by omega
      have hr2: ¬s.plain≤s.reds[a]:=by omega
      rw[if_neg (by omega)]at hI5
      by_cases hl:s.reds[a]≤b
      ·rw[if_pos hl]at hI5
       rw[hI5,if_pos (by decide)]at e
       rw[e]
       clear hI5 e
       repeat' (first|(with_reducible first|refine DS.fltS yU yU yE ?_|refine DS.opsNil ?_|refine DS.seq ?_|refine DS.regionL ?_|(refine DS.cE yE ?_;first|refine CG.yes ?_|refine CG.no ?_)|(refine DS.gE yU yE ?_;refine GG.run ?_)|refine DS.block ?_|refine DS.skip ?_)|refine DS.retT [] yE trivial ?_|fail)
       all_goals first|rfl|(exfalso;omega)
      ·rw[if_neg hl]at hI5
       have H5:=Box.mk hI5
       clear hI5
       repeat' (first|(with_reducible first|refine DS.fltS yU yU yE ?_|refine DS.opsNil ?_|refine DS.seq ?_|refine DS.regionL ?_|(refine DS.cE yE ?_;first|refine CG.yes ?_|refine CG.no ?_)|(refine DS.gE yU yE ?_;refine GG.run ?_)|refine DS.blk ?_|refine DS.block ?_|refine DS.skip ?_)|fail)
       exact DS.back (HB.out (a+1,s.reds[a]) _ _ (by dsimp only;omega) ⟨by dsimp only;omega,H5.out⟩ yS yS (fun b o e=>by cases e))
     ·rw[if_pos hr]at hI5
      rw[hI5,if_pos (by decide)]at e
      rw[e]
      clear hI5 e
      repeat' (first|(with_reducible first|refine DS.fltS yU yU yE ?_|refine DS.opsNil ?_|refine DS.seq ?_|refine DS.regionL ?_|(refine DS.cE yE ?_;first|refine CG.p (fun _=>?_) (fun _=>?_)|refine CG.yes ?_)|(refine DS.gE yU yE ?_;first|refine GG.pF (fun _=>?_) (fun _=>?_)|refine GG.run ?_|refine GG.sT ?_)|refine DS.blk ?_|refine DS.block ?_|refine DS.skip ?_)|refine DS.retT [] yE trivial ?_|fail)
      all_goals first|rfl|(exfalso;omega)
    ·rw[drop_end ha]at hI5
     rw[hI5]at e
     rw[show ascGo s.plain [] b=0 from rfl,if_neg (by decide)]at e
     clear hI5
     have b3:1≤s.copies∧s.copies≤4:=h4 3 (by omega)
     have b4:1≤s.melds∧s.melds≤4:=h4 4 (by omega)
     have b2:0≤s.flowers∧s.flowers≤8:=h4 2 (by omega)
     have b5:0≤s.dead∧s.dead≤20:=h4 5 (by omega)
     have m1:0≤s.plain*s.copies:=Int.mul_nonneg hp0 (by omega)
     have m2:s.plain*s.copies≤34*4:=Int.mul_le_mul hpl b3.2 (by omega) (by omega)
     have m3:0≤s.players*(3*s.melds+1):=Int.mul_nonneg (by omega) (by omega)
     have m4:s.players*(3*s.melds+1)≤4*13:=Int.mul_le_mul hh.2 (by omega) (by omega) (by omega)
     repeat' (first|(with_reducible first|refine DS.fltS yU yU yE ?_|refine DS.opsNil ?_|refine DS.seq ?_|refine DS.regionL ?_|(refine DS.cE yE ?_;first|refine CG.p (fun _=>?_) (fun _=>?_)|refine CG.no ?_)|refine DS.exit yU ?_|refine DS.skip ?_)|refine DS.retT [] yE trivial ?_|fail)
     ·rw[e,if_pos (by omega)];rfl
     ·rw[e,if_neg (by omega)];rfl
end Go.XL
namespace Go.XL
open Go.Proofs
set_option maxRecDepth 100000
set_option maxHeartbeats 4000000
theorem sumI_bd {lo hi:Int}: ∀{l:List Int},(∀x∈l,lo≤x∧x≤hi)→lo*l.length≤sumI l∧sumI l≤hi*l.length
 | [],_=>by simp[sumI]
 | a::l,h=>by
  have h1:=h a (List.mem_cons_self ..)
  have h2:=sumI_bd (l:=l) fun x hx=>h x (List.mem_cons_of_mem _ hx)
  rw[sumI,List.length_cons,Int.natCast_add,Int.mul_add,Int.mul_add]
  omega
theorem suits_in : ∀{l:List Int},suitsGo l=0→ ∀x∈l,1≤x∧x≤9
 | [],_,x,hx=>by cases hx
 | a::l,h,x,hx=>by
  rw[suitsGo]at h
  obtain⟨h1,h⟩:=ite0 (by decide) h
  rcases List.mem_cons.1 hx with rfl|hx
  ·omega
  ·exact suits_in h x hx
theorem tcount_pc (s:GSet):PC Tryz.prog 168 [s.val] (I (kindsS s)):=by
 refine DC.of_run Tryz.func168 rfl Tryz.ntmps168 Tryz.results168 (by simp) (fun _ _=>?_);simp only[argV_cons,argV_nil,go_sem,Nat.zero_add,Nat.reduceAdd]
 by_cases h0:gsetS s=0
 ·have ok:=gset_ok h0
  obtain⟨a1,a2⟩:=ok.winds
  obtain⟨a3,a4⟩:=ok.dragons
  have a5:=ok.suits
  have a6:=ok.suit
  have e:kindsS s=s.plain:=by rw[kindsS,if_neg (by omega)]
  rw[e]
  clear e ok
  repeat' (first|(with_reducible first|refine DS.fltS yU yU yE ?_|refine DS.opsNil ?_|refine DS.seq ?_|refine DS.regionL ?_|(refine DS.cE yE ?_;refine CG.no ?_)|refine DS.block ?_|refine DS.skip ?_)|refine DS.pcS inferInstance (tcheck_pc s) yR yT ?_|(refine DS.boxF (t:=1) yU yE yU ?_;simp only[cells_agg,cells_v,cells_lst,cells_fn,map_nil'',map_cons'',copy_own,copy_lst,copy_v,copy_at,copy_agg,copy_fn,copy_ifc,copy_tup])|fail)
  refine DS.loopK [15,16] yN (fun(z:Nat×Int)=> [(3,I z.2),(17,I z.1)]) (fun(z:Nat×Int)=>z.1≤s.suits.length∧z.2=s.winds+s.dragons+sumI (s.suits.take z.1)∧0≤sumI (s.suits.take z.1)∧sumI (s.suits.take z.1)≤9*z.1) (fun(z:Nat×Int)=>s.suits.length-z.1) (0,s.winds+s.dragons) yS ⟨Nat.zero_le _,by simp[sumI],by simp[sumI],by simp[sumI]⟩ (fun z B hI hB=>?_);try dsimp only at hI hB;simp only[app_cons',app_nil']
  have HB:=Box.mk hB
  clear hB
  obtain⟨i,kk⟩:=z
  dsimp only at hI ⊢
  obtain⟨hI,hI1,hI2,hI3⟩:=hI
  have H1:=Box.mk hI1
  have hk1:0≤kk∧kk≤100:=by omega
  clear hI1
  by_cases hi:(i:Int)<(s.suits.length:Int)
  ·have hi':i<s.suits.length:=by omega
   obtain⟨b1,b2⟩:=suits_in a6 _ (List.getElem_mem hi')
   repeat' (first|(with_reducible first|refine DS.fltS yU yU yE ?_|refine DS.opsNil ?_|refine DS.seq ?_|refine DS.regionL ?_|(refine DS.cE yE ?_;refine CG.yes ?_)|refine DS.blk ?_|refine DS.block ?_|refine DS.skip ?_)|fail)
   have e:=sumI_take hi'
   have h1:=H1.out
   refine DS.back (HB.out (i+1,kk+s.suits[i]) _ _ (by dsimp only;omega) ⟨by dsimp only;omega,by dsimp only;omega,by dsimp only;omega,by dsimp only;omega⟩ yS yS (fun b o e=>by cases e))
  ·repeat' (first|(with_reducible first|refine DS.fltS yU yU yE ?_|refine DS.opsNil ?_|refine DS.seq ?_|refine DS.regionL ?_|(refine DS.cE yE ?_;refine CG.no ?_)|refine DS.exit yU ?_)|refine DS.retT [] yE trivial ?_|fail)
   rw[H1.out,List.take_of_length_le (by omega)];rfl
 ·rw[kindsS,if_pos h0]
  repeat' (first|(with_reducible first|refine DS.fltS yU yU yE ?_|refine DS.opsNil ?_|refine DS.seq ?_|refine DS.regionL ?_|(refine DS.cE yE ?_;refine CG.yes ?_))|refine DS.pcS inferInstance (tcheck_pc s) yR yT ?_|(refine DS.boxF (t:=1) yU yE yU ?_;simp only[cells_agg,cells_v,cells_lst,cells_fn,map_nil'',map_cons'',copy_own,copy_lst,copy_v,copy_at,copy_agg,copy_fn,copy_ifc,copy_tup])|refine DS.retT [] yE trivial ?_|fail)
  all_goals first|rfl|(exfalso;omega)
theorem tkinds_pc (s:GSet):PC Tryz.prog 140 [s.val] (I (kindsS s)):=by
 refine DC.of_run Tryz.func140 rfl Tryz.ntmps140 Tryz.results140 (by simp) (fun _ _=>?_);simp only[argV_cons,argV_nil,go_sem,Nat.zero_add,Nat.reduceAdd]
 repeat' (first|(with_reducible first|refine DS.fltS yU yU yE ?_|refine DS.opsNil ?_|refine DS.seq ?_|refine DS.regionL ?_)|refine DS.pcS inferInstance (tcount_pc s) yR yT ?_|(refine DS.boxF (t:=1) yU yE yU ?_;simp only[cells_agg,cells_v,cells_lst,cells_fn,map_nil'',map_cons'',copy_own,copy_lst,copy_v,copy_at,copy_agg,copy_fn,copy_ifc,copy_tup])|refine DS.retT [] yE trivial ?_|fail)
 rfl
theorem hrising_pc (many:Int) (l:List Int) (hm:0≤many∧many≤1000):PC Tryz.prog 139 [I many,ints l] (I (ascS many l)):=by
 refine DC.of_run Tryz.func139 rfl Tryz.ntmps139 Tryz.results139 (by simp) (fun _ _=>?_);simp only[argV_cons,argV_nil,go_sem,Nat.zero_add,Nat.reduceAdd]
 refine DS.bnd (t:=1) yG (.inl rfl) (fun hb1=>?_);simp only[List.length_map]at hb1
 repeat' (first|(with_reducible first|refine DS.fltS yU yU yE ?_|refine DS.opsNil ?_|refine DS.seq ?_|refine DS.regionL ?_|refine DS.block ?_)|fail)
 refine DS.loopK [0,1,7,8] yN (fun(i:Nat)=> [(9,I i)]) (fun(i:Nat)=>i≤l.length∧ascS many l=ascGo many (l.drop i) ((prevL l i).getD (-1))) (fun(i:Nat)=>l.length-i) 0 yS ⟨Nat.zero_le _,rfl⟩ (fun i B hI hB=>?_);try dsimp only at hI hB;simp only[app_cons',app_nil']
 have HB:=Box.mk hB
 clear hB
 obtain⟨hI,hI2⟩:=hI
 by_cases hi:(i:Int)<(l.length:Int)
 ·have hi':i<l.length:=by omega
  have hp:i-1<l.length:=by omega
  rw[ascGo_at hi']at hI2
  have HI:=Box.mk hI2
  clear hI2
  repeat' (first|(with_reducible first|refine DS.fltS yU yU yE ?_|refine DS.opsNil ?_|refine DS.seq ?_|refine DS.regionL ?_|(refine DS.cE yE ?_;first|refine CG.np (fun _=>?_) (fun _=>?_)|refine CG.p (fun _=>?_) (fun _=>?_)|refine CG.yes ?_|refine CG.no ?_)|(refine DS.gE yU yE ?_;first|refine GG.pT (fun _=>?_) (fun _=>?_)|refine GG.run ?_|refine GG.sF ?_)|refine DS.blk ?_|refine DS.block ?_|refine DS.skip ?_)|refine DS.pcS inferInstance (hfrom_pc _ _ _) yR yT ?_|refine DS.retT [] yE trivial ?_|fail)
  all_goals (try rw[prevL_zero (by assumption)]at HI) <;> (try rw[prevL_pos (by assumption) hp]at HI)
  all_goals first
   | (rw[HI.out];simp[tupV, *];done)
   | (rw[HI.out];simp[tupV, *];omega)
   | exact DS.back (HB.out (i+1) _ _ (by omega) ⟨by omega,by rw[HI.out,prevL_succ hi',if_neg (by omega),if_neg (by simp only[Option.getD_none,Option.getD_some];omega)];rfl⟩ yS yS (fun b o e=>by cases e))
 ·repeat' (first|(with_reducible first|refine DS.fltS yU yU yE ?_|refine DS.opsNil ?_|refine DS.seq ?_|refine DS.regionL ?_|(refine DS.cE yE ?_;refine CG.no ?_)|refine DS.exit yU ?_)|refine DS.retT [] yE trivial ?_|fail)
  rw[hI2,drop_end hi];rfl
theorem indexFuncI_pc (l:List Int) {g:FuncId} {fs cs:List V} {fn:Func} (p:Int→Bool) (hf:FnOk Tryz.prog g fn) (h: ∀m,PC Tryz.prog g (fs++ [I m]++cs) (Bo (p m))) :
  PC Tryz.prog 167 [ints l, .fn g fs cs] (I (idxF p l 0)):=by
 refine DC.of_run Tryz.func167 rfl Tryz.ntmps167 Tryz.results167 (by simp) (fun _ _=>?_);simp only[argV_cons,argV_nil,go_sem,Nat.zero_add,Nat.reduceAdd]
 refine DS.bnd (t:=0) yG (.inl rfl) (fun hb0=>?_);simp only[List.length_map]at hb0
 repeat' (first|(with_reducible first|refine DS.fltS yU yU yE ?_|refine DS.opsNil ?_|refine DS.seq ?_|refine DS.regionL ?_|refine DS.block ?_)|fail)
 refine DS.loopK [0,1,7] yN (fun(i:Nat)=> [(8,I i)]) (fun(i:Nat)=>i≤l.length∧idxF p l 0=idxF p (l.drop i) i) (fun(i:Nat)=>l.length-i) 0 yS (by simp) (fun i B hI hB=>?_);try dsimp only at hI hB;simp only[app_cons',app_nil']
 have HB:=Box.mk hB
 clear hB
 by_cases hi:(i:Int)<(l.length:Int)
 ·have hi':i<l.length:=by omega
  cases hp:p l[i]with
  | true =>
   have:=idxF_hit (p:=p) (l:=l) (i:=i) hi' hp
   repeat' (first|(with_reducible first|refine DS.fltS yU yU yE ?_|refine DS.opsNil ?_|refine DS.seq ?_|refine DS.regionL ?_|(refine DS.cE yE ?_;refine CG.yes ?_)|refine DS.block ?_|refine DS.skip ?_)|fail)
   refine DS.pcVS hf (by simp (disch:=omega) only[go_sem,dopV,yV0,↓reduceIte,Nat.reduceEqDiff,Nat.reduceLT,Nat.reduceLeDiff,Nat.reduceAdd,Nat.reduceMul,Nat.reduceSub,Int.reduceToNat,Int.reduceLT,Int.reduceLE,Int.reduceEq,IntWalk.toNatUp,IntWalk.iteOmega,IntWalk.i64_in,V.flat,V.one]) (h l[i]) yR yH ?_
   repeat' (first|(with_reducible first|refine DS.fltS yU yU yE ?_|refine DS.opsNil ?_|refine DS.seq ?_|refine DS.regionL ?_|(refine DS.cE yE ?_;refine CG.yes ?_))|refine DS.retT [] yE trivial ?_|fail)
   rw[hI.2,this];rfl
  | false =>
   repeat' (first|(with_reducible first|refine DS.fltS yU yU yE ?_|refine DS.opsNil ?_|refine DS.seq ?_|refine DS.regionL ?_|(refine DS.cE yE ?_;refine CG.yes ?_)|refine DS.block ?_|refine DS.skip ?_)|fail)
   refine DS.pcVS hf (by simp (disch:=omega) only[go_sem,dopV,yV0,↓reduceIte,Nat.reduceEqDiff,Nat.reduceLT,Nat.reduceLeDiff,Nat.reduceAdd,Nat.reduceMul,Nat.reduceSub,Int.reduceToNat,Int.reduceLT,Int.reduceLE,Int.reduceEq,IntWalk.toNatUp,IntWalk.iteOmega,IntWalk.i64_in,V.flat,V.one]) (h l[i]) yR yH ?_
   repeat' (first|(with_reducible first|refine DS.fltS yU yU yE ?_|refine DS.opsNil ?_|refine DS.regionL ?_|(refine DS.cE yE ?_;refine CG.no ?_)|refine DS.blk ?_|refine DS.skip ?_)|fail)
   refine DS.back (HB.out (i+1) _ _ (by omega) ⟨by omega,by rw[hI.2,idxF_miss hi' hp]⟩ yS yS (fun b o e=>by cases e))
 ·repeat' (first|(with_reducible first|refine DS.fltS yU yU yE ?_|refine DS.opsNil ?_|refine DS.seq ?_|refine DS.regionL ?_|(refine DS.cE yE ?_;refine CG.no ?_)|refine DS.exit yU ?_)|refine DS.retT [] yE trivial ?_|fail)
  have:=idxF_end (p:=p) (l:=l) (i:=i) (by omega)
  simp only[tupV];rw[hI.2,this]
theorem idxF_any {α:Type} (p:α→Bool): ∀(l:List α) (i:Nat),decide (0≤idxF p l i)=l.any p
 | [],i=>by simp[idxF]
 | a::l,i=>by
  rw[idxF,List.any_cons]
  by_cases h:p a=true
  ·rw[if_pos h,h];simp
  ·rw[if_neg h,idxF_any p l (i+1)];simp[h]
theorem containsFuncI_pc (l:List Int) {g:FuncId} {fs cs:List V} {fn:Func} (p:Int→Bool) (hf:FnOk Tryz.prog g fn) (h: ∀m,PC Tryz.prog g (fs++ [I m]++cs) (Bo (p m))) :
  PC Tryz.prog 136 [ints l, .fn g fs cs] (Bo (l.any p)):=by
 have e:=idxF_any p l 0
 have hk:=indexFuncI_pc l p hf h
 refine DC.of_run Tryz.func136 rfl Tryz.ntmps136 Tryz.results136 (by simp) (fun _ _=>?_);simp only[argV_cons,argV_nil,go_sem,Nat.zero_add,Nat.reduceAdd]
 repeat' (first|(with_reducible first|refine DS.fltS yU yU yE ?_|refine DS.opsNil ?_|refine DS.seq ?_|refine DS.regionL ?_)|refine DS.pcS inferInstance (hk) yR yT ?_|refine DS.retT [] yE trivial ?_|fail)
 rw[←e];rfl
theorem hallC_pc (n lo hi:Int):PC Tryz.prog 137 [I n, .plc [I lo], .plc [I hi]] (Bo (!decide (lo≤n∧n≤hi))):=by
 refine DC.of_run Tryz.func137 rfl Tryz.ntmps137 Tryz.results137 (by simp) (fun _ _=>?_);simp only[argV_cons,argV_nil,go_sem,Nat.zero_add,Nat.reduceAdd]
 repeat' (first|(with_reducible first|refine DS.fltS yU yU yE ?_|refine DS.opsNil ?_|refine DS.seq ?_|refine DS.regionL ?_)|refine DS.pcS inferInstance (hfrom_pc _ _ _) yR yT ?_|refine DS.retT [] yE trivial ?_|fail)
 rfl
theorem hall_pc (lo hi:Int) (l:List Int):PC Tryz.prog 105 [I lo,I hi,ints l] (Bo (l.all fun n=>decide (lo≤n∧n≤hi))):=by
 have hk:=containsFuncI_pc l (g:=137) (fs:= []) (cs:= [.plc [I lo], .plc [I hi]]) (fun n=> !decide (lo≤n∧n≤hi)) inferInstance (fun m=>hallC_pc m lo hi)
 refine DC.of_run Tryz.func105 rfl Tryz.ntmps105 Tryz.results105 (by simp) (fun _ _=>?_);simp only[argV_cons,argV_nil,go_sem,Nat.zero_add,Nat.reduceAdd]
 repeat' (first|(with_reducible first|refine DS.fltS yU yU yE ?_|refine DS.opsNil ?_|refine DS.seq ?_|refine DS.regionL ?_)|refine DS.pcS inferInstance (hk) yR yT ?_|(refine DS.boxF (t:=3) yU yE yU ?_;simp only[cells_agg,cells_v,cells_lst,cells_fn,map_nil'',map_cons'',copy_own,copy_lst,copy_v,copy_at,copy_agg,copy_fn,copy_ifc,copy_tup])|(refine DS.boxF (t:=4) yU yE yU ?_;simp only[cells_agg,cells_v,cells_lst,cells_fn,map_nil'',map_cons'',copy_own,copy_lst,copy_v,copy_at,copy_agg,copy_fn,copy_ifc,copy_tup])|refine DS.retT [] yE trivial ?_|fail)
 have e:(fun n:Int=>decide ¬(lo≤n∧n≤hi))=fun n=> !decide (lo≤n∧n≤hi):=by
  funext n
  by_cases h:lo≤n∧n≤hi <;> simp[h]
 simp only[tupV,List.all_eq_not_any_not]
 rw[e]
end Go.XL
namespace Go.XL
open Go.Proofs
set_option maxRecDepth 100000
set_option maxHeartbeats 8000000
theorem fedIndex_pc (l:List Int) (n:Int):PC Tryz.prog 100 [ints l,I n] (I (idxF (fun x=>decide (x=n)) l 0)):=by
 refine DC.of_run Tryz.func100 rfl Tryz.ntmps100 Tryz.results100 (by simp) (fun _ _=>?_);simp only[argV_cons,argV_nil,go_sem,Nat.zero_add,Nat.reduceAdd]
 refine DS.bnd (t:=0) yG (.inl rfl) (fun hb0=>?_);simp only[List.length_map]at hb0
 repeat' (first|(with_reducible first|refine DS.fltS yU yU yE ?_|refine DS.opsNil ?_|refine DS.seq ?_|refine DS.regionL ?_|refine DS.block ?_)|fail)
 refine DS.loopK [0,1,7] yN (fun(i:Nat)=> [(8,I i)]) (fun(i:Nat)=>i≤l.length∧idxF (fun x=>decide (x=n)) l 0=idxF (fun x=>decide (x=n)) (l.drop i) i) (fun(i:Nat)=>l.length-i) 0 yS (by simp) (fun i B hI hB=>?_);try dsimp only at hI hB;simp only[app_cons',app_nil']
 repeat' (first|(with_reducible first|refine DS.fltS yU yU yE ?_|refine DS.opsNil ?_|refine DS.seq ?_|refine DS.regionL ?_|(refine DS.cE yE ?_;refine CG.p (fun _=>?_) (fun _=>?_))|refine DS.blk ?_|refine DS.block ?_|refine DS.exit yU ?_|refine DS.skip ?_)|refine DS.retT [] yE trivial ?_|fail)
 ·rename_i q1 q2
  rw[hI.2,idxF_hit (p:=fun x=>decide (x=n)) (l:=l) (i:=i) (by omega) (decide_eq_true q2.symm)];rfl
 ·rename_i q1 q2
  exact DS.back (hB (i+1) _ _ (by omega) (⟨by omega,by rw[hI.2,idxF_miss (p:=fun x=>decide (x=n)) (l:=l) (i:=i) (by omega) (by simpa using fun h=>q2 h.symm)]⟩) yS yS (fun b o e=>by first|exact e|(simp only[lookS_cons];split <;> simp_all)))
 ·rename_i q1
  rw[hI.2,idxF_end (p:=fun x=>decide (x=n)) (l:=l) (i:=i) (by omega)];rfl
theorem fedContains_pc (l:List Int) (n:Int):PC Tryz.prog 61 [ints l,I n] (Bo (decide (n∈l))):=by
 refine DC.of_run Tryz.func61 rfl Tryz.ntmps61 Tryz.results61 (by simp) (fun _ _=>?_);simp only[argV_cons,argV_nil,go_sem,Nat.zero_add,Nat.reduceAdd]
 repeat' (first|(with_reducible first|refine DS.fltS yU yU yE ?_|refine DS.opsNil ?_|refine DS.seq ?_|refine DS.regionL ?_)|refine DS.pcS inferInstance (fedIndex_pc l n) yR yT ?_|refine DS.retT [] yE trivial ?_|fail)
 rw[tupV_one,idxF_any]
 simp[List.any_eq]
def delF (f:Feed) (x:Fed):Bool:=(decide (x.what≠2)&&decide (x.what≠3)) || !decide (x.kind∈f.kinds)
theorem delF_pc (f:Feed) (x:Fed):PC Tryz.prog 60 [x.val, .plc f.cells] (Bo (delF f x)):=by
 have hc:=fedContains_pc f.kinds x.kind
 rw[delF]
 generalize decide (x.kind∈f.kinds)=t at *
 by_cases h2:x.what=2
 ·have e2:=eq_true h2
  rw[decide_eq_false (by omega),Bool.false_and,Bool.false_or]
  clear h2
  refine DC.of_run Tryz.func60 rfl Tryz.ntmps60 Tryz.results60 (by simp) (fun _ _=>?_);simp only[argV_cons,argV_nil,go_sem,Nat.zero_add,Nat.reduceAdd]
  repeat' (first|(with_reducible first|refine DS.fltS yU yU yE ?_|refine DS.opsNil ?_|refine DS.seq ?_|refine DS.regionL ?_|(refine DS.gE yU yE ?_;first|refine GG.run ?_|refine GG.sF ?_))|refine DS.pcS inferInstance (hc) yR yT ?_|(refine DS.boxF (t:=2) yU yE yU ?_;simp only[cells_agg,cells_v,cells_lst,cells_fn,map_nil'',map_cons'',copy_own,copy_lst,copy_v,copy_at,copy_agg,copy_fn,copy_ifc,copy_tup])|refine DS.retT [] yE trivial ?_|fail)
  all_goals (cases t <;> first|rfl|(exfalso;simp_all))
 ·by_cases h3:x.what=3
  ·have e3:=eq_true h3
   rw[decide_eq_true h2,Bool.true_and,decide_eq_false (by omega),Bool.false_or]
   clear h3
   refine DC.of_run Tryz.func60 rfl Tryz.ntmps60 Tryz.results60 (by simp) (fun _ _=>?_);simp only[argV_cons,argV_nil,go_sem,Nat.zero_add,Nat.reduceAdd]
   repeat' (first|(with_reducible first|refine DS.fltS yU yU yE ?_|refine DS.opsNil ?_|refine DS.seq ?_|refine DS.regionL ?_|(refine DS.gE yU yE ?_;refine GG.run ?_))|refine DS.pcS inferInstance (hc) yR yT ?_|(refine DS.boxF (t:=2) yU yE yU ?_;simp only[cells_agg,cells_v,cells_lst,cells_fn,map_nil'',map_cons'',copy_own,copy_lst,copy_v,copy_at,copy_agg,copy_fn,copy_ifc,copy_tup])|refine DS.retT [] yE trivial ?_|fail)
   all_goals (cases t <;> first|rfl|(exfalso;simp_all))
  ·rw[decide_eq_true h2,decide_eq_true h3,Bool.true_and,Bool.true_or]
   refine DC.of_run Tryz.func60 rfl Tryz.ntmps60 Tryz.results60 (by simp) (fun _ _=>?_);simp only[argV_cons,argV_nil,go_sem,Nat.zero_add,Nat.reduceAdd]
   repeat' (first|(with_reducible first|refine DS.fltS yU yU yE ?_|refine DS.opsNil ?_|refine DS.seq ?_|refine DS.regionL ?_|(refine DS.gE yU yE ?_;first|refine GG.run ?_|refine GG.sT ?_))|(refine DS.boxF (t:=2) yU yE yU ?_;simp only[cells_agg,cells_v,cells_lst,cells_fn,map_nil'',map_cons'',copy_own,copy_lst,copy_v,copy_at,copy_agg,copy_fn,copy_ifc,copy_tup])|refine DS.retT [] yE trivial ?_|fail)
   all_goals first|rfl|(exfalso;simp_all)
theorem indexFed_dc (b cap:Nat) (d:List Fed) (junk:List V) (f:Feed) (hn:d.length≤1000000∧d.length≤cap) :
  DC Tryz.prog 99 [fdV b d.length cap, .fn 60 [] [.plc f.cells]] (fdS b d junk) (fun u S'=>u=I (idxF (delF f) d 0)∧S'=fdS b d junk):=by
 have hlen:=fd_len d junk
 simp only[fdS,fdV]
 refine DC.of_run Tryz.func99 rfl Tryz.ntmps99 Tryz.results99 (by simp) (fun _ _=>?_);simp only[argV_cons,argV_nil,go_sem,Nat.zero_add,Nat.reduceAdd]
 repeat' (first|(with_reducible first|refine DS.fltS yU yU yE ?_|refine DS.opsNil ?_|refine DS.seq ?_|refine DS.regionL ?_|refine DS.block ?_)|fail)
 refine DS.loopS [0,1,7] yN (fun(i:Nat)=> [(8,I i)]) (fun(i:Nat)=> [(b, .cells (fdC d junk) 118)]) (fun(i:Nat)=>i≤d.length∧idxF (delF f) d 0=idxF (delF f) (d.drop i) i) (fun(i:Nat)=>d.length-i) 0 yS (fun b o e=>by exact e) ⟨Nat.zero_le _,rfl⟩ (fun i B hI hB=>?_);try dsimp only at hI hB;simp only[app_cons',app_nil']
 obtain⟨i1,i2⟩:=hI
 have HB:=Box.mk hB
 clear hB
 by_cases hi:i<d.length
 ·have hi':(i:Int)<(d.length:Int):=by omega
  have h1:=fd_drop junk d i hi
  have hp:=delF_pc f d[i]
  simp only[Fed.cells_eq,List.cons_append,List.nil_append]at h1
  have HI:=Box.mk i2
  clear i2
  cases ht:delF f d[i]with
  | true =>
   rw[ht]at hp
   have e:=idxF_hit (p:=delF f) hi ht
   have HE:=Box.mk (HI.out.trans e)
   clear HI e ht HB
   generalize fdC d junk=L at *
   repeat' (first|(with_reducible first|refine DS.fltS yU yU yE ?_|refine DS.opsNil ?_|refine DS.seq ?_|refine DS.regionL ?_|(refine DS.cE yE ?_;refine CG.yes ?_)|refine DS.block ?_|refine DS.skip ?_)|refine DS.pcVS inferInstance yE (hp) yR yT ?_|fail)
   refine DS.retA yG ⟨?_,rfl⟩
   rw[HE.out];rfl
  | false =>
   rw[ht]at hp
   have e:=idxF_miss (p:=delF f) hi ht
   have HE:=Box.mk (HI.out.trans e)
   clear HI e ht
   generalize fdC d junk=L at *
   repeat' (first|(with_reducible first|refine DS.fltS yU yU yE ?_|refine DS.opsNil ?_|refine DS.seq ?_|refine DS.regionL ?_|(refine DS.cE yE ?_;first|refine CG.yes ?_|refine CG.no ?_)|refine DS.blk ?_|refine DS.block ?_|refine DS.skip ?_)|refine DS.pcVS inferInstance yE (hp) yR yT ?_|fail)
   exact DS.back (HB.out (i+1) _ _ (by omega) ⟨by omega,HE.out⟩ yS yS (fun b o e=>by exact e))
 ·have hi': ¬(i:Int)<(d.length:Int):=by omega
  have e:=idxF_end (p:=delF f) (l:=d) (i:=i) (by omega)
  rw[e]at i2
  rw[i2]
  clear HB i2
  repeat' (first|(with_reducible first|refine DS.fltS yU yU yE ?_|refine DS.opsNil ?_|refine DS.seq ?_|refine DS.regionL ?_|(refine DS.cE yE ?_;refine CG.no ?_)|refine DS.exit yU ?_)|fail)
  refine DS.retA yG ⟨rfl,rfl⟩
end Go.XL
namespace Go.XL
open Go.Proofs
set_option maxRecDepth 100000
set_option maxHeartbeats 8000000
theorem fdC_app (a b:List Fed) (junk:List V):fdC (a++b) junk=fdC a (fdC b junk):=by simp[fdC]
def keepL (f:Feed) (l:List Fed):List Fed:=l.filter fun x=> !delF f x
theorem keepL_take {f:Feed} {l:List Fed} {j:Nat} (hj:j<l.length):keepL f (l.take (j+1))=if delF f l[j]=true then keepL f (l.take j)else keepL f (l.take j)++ [l[j]]:=by
 rw[List.take_succ_eq_append_getElem hj,keepL,List.filter_append,keepL]
 cases h:delF f l[j] <;> simp[h]
theorem idxF_none {α:Type} {p:α→Bool}: ∀{l:List α} {k:Nat},idxF p l k = -1→ ∀x∈l,p x=false
 | [],_,_,_,h=>by cases h
 | a::l,k,e,x,hx=>by
  rw[idxF]at e
  split at e
  ·omega
  ·rename_i h
   rcases List.mem_cons.1 hx with rfl|hx
   ·simpa using h
   ·exact idxF_none e x hx
theorem idxF_some {α:Type} {p:α→Bool}: ∀{l:List α} {k:Nat},idxF p l k ≠ -1→ ∃i:Nat,idxF p l k=((k+i:Nat):Int)∧i<l.length∧ ∃h:i<l.length,p l[i]=true∧ ∀x∈l.take i,p x=false
 | [],k,e=>absurd rfl e
 | a::l,k,e=>by
  rw[idxF]at e ⊢
  by_cases h:p a=true
  ·rw[if_pos h]
   exact⟨0,rfl,by simp,by simp,h,by simp⟩
  ·rw[if_neg h]at e ⊢
   obtain⟨i,e1,e2,e3,e4,e5⟩:=idxF_some e
   refine⟨i+1,by rw[e1];omega,by simpa using e2,by simpa using e2,by simpa using e4,fun x hx=>?_⟩
   rw[List.take_succ_cons]at hx
   rcases List.mem_cons.1 hx with rfl|hx
   ·simpa using h
   ·exact e5 x hx
theorem keepL_all {f:Feed} {l:List Fed} (h: ∀x∈l,delF f x=false):keepL f l=l:=List.filter_eq_self.2 fun x hx=>by rw[h x hx];rfl
theorem deleteFed_dc (b cap:Nat) (l:List Fed) (junk:List V) (f:Feed) (hn:l.length≤1000000∧l.length≤cap) :
  DC Tryz.prog 58 [fdV b l.length cap, .fn 60 [] [.plc f.cells]] (fdS b l junk) (fun u S'=> ∃junk',u=fdV b (keepL f l).length cap∧S'=fdS b (keepL f l) junk'):=by
 have hix:=indexFed_dc b cap l junk f hn
 simp only[fdS,fdV]at hix ⊢
 by_cases h0:idxF (delF f) l 0 = -1
 ·have hk:=keepL_all (idxF_none h0)
  rw[h0]at hix
  rw[hk]
  refine DC.of_run Tryz.func58 rfl Tryz.ntmps58 Tryz.results58 (by simp) (fun _ _=>?_);simp only[argV_cons,argV_nil,go_sem,Nat.zero_add,Nat.reduceAdd]
  repeat' (first|(with_reducible first|refine DS.fltS yU yU yE ?_|refine DS.opsNil ?_|refine DS.seq ?_|refine DS.regionL ?_)|fail)
  refine DS.callA inferInstance hix yR yH (fun u S' hu=>?_)
  obtain⟨rfl,rfl⟩:=hu
  clear hix
  repeat' (first|(with_reducible first|refine DS.fltS yU yU yE ?_|refine DS.opsNil ?_|refine DS.seq ?_|refine DS.regionL ?_|(refine DS.cE yE ?_;refine CG.yes ?_))|fail)
  refine DS.retA yG ⟨junk,rfl,rfl⟩
 ·obtain⟨i0,e0,e1,e2,e3,e4⟩:=idxF_some h0
  rw[Nat.zero_add]at e0
  rw[e0]at hix
  have hk0:=keepL_all (f:=f) (l:=l.take i0) e4
  refine DC.of_run Tryz.func58 rfl Tryz.ntmps58 Tryz.results58 (by simp) (fun _ _=>?_);simp only[argV_cons,argV_nil,go_sem,Nat.zero_add,Nat.reduceAdd]
  repeat' (first|(with_reducible first|refine DS.fltS yU yU yE ?_|refine DS.opsNil ?_|refine DS.seq ?_|refine DS.regionL ?_)|fail)
  refine DS.callA inferInstance hix yR yH (fun u S' hu=>?_)
  obtain⟨rfl,rfl⟩:=hu
  clear hix h0 e0
  repeat' (first|(with_reducible first|refine DS.fltS yU yU yE ?_|refine DS.opsNil ?_|refine DS.seq ?_|refine DS.regionL ?_|(refine DS.cE yE ?_;refine CG.p (fun _=>?_) (fun _=>?_))|refine DS.block ?_|refine DS.skip ?_)|fail)
  all_goals try (exfalso;omega)
  have hk1:keepL f (l.take (i0+1))=l.take i0:=by rw[keepL_take e2,if_pos e3,hk0]
  have hl0:fdC l junk=fdC (keepL f (l.take (i0+1))++([l[i0]]++l.drop (i0+1))) junk:=by
   rw[hk1,List.singleton_append,←List.drop_eq_getElem_cons e2,List.take_append_drop]
  have hk2:((l.take i0).length:Int)=i0:=by rw[List.length_take];omega
  rw[hl0]
  refine DS.loopS [0,1] yN (fun(z:Nat×List Fed)=> [(5,I (keepL f (l.take z.1)).length),(6,I z.1)]) (fun(z:Nat×List Fed)=> [(b, .cells (fdC (keepL f (l.take z.1)++(z.2++l.drop z.1)) junk) 118)]) (fun(z:Nat×List Fed)=>z.1≤l.length∧(keepL f (l.take z.1)).length+z.2.length=z.1∧1≤z.2.length) (fun(z:Nat×List Fed)=>l.length-z.1) (i0+1,[l[i0]]) yS (fun b o e=>by exact e) ⟨e2,by dsimp only;rw[hk1,List.length_take];simp;omega,Nat.le_refl _⟩ (fun z B hI hB=>?_);try dsimp only at hI hB;simp only[app_cons',app_nil']
  obtain⟨j,mid⟩:=z
  dsimp only at hI hB ⊢
  obtain⟨i1,i2,i3⟩:=hI
  have HB:=Box.mk hB
  clear hB hk0 hk1 hk2 hl0 e3 e4
  have hlen:=fd_len (keepL f (l.take j)++(mid++l.drop j)) junk
  have hal:(keepL f (l.take j)++(mid++l.drop j)).length=l.length:=by
   rw[List.length_append,List.length_append,List.length_drop];omega
  rw[hal]at hlen
  by_cases hj:j<l.length
  ·have hj':(j:Int)<(l.length:Int):=by omega
   have h1:=fd_drop junk (keepL f (l.take j)++(mid++l.drop j)) j (by omega)
   have hg:(keepL f (l.take j)++(mid++l.drop j))[j]'(by omega)=l[j]:=by
    rw[List.getElem_append_right (by omega),List.getElem_append_right (by omega),List.getElem_drop]
    congr 1;omega
   rw[hg]at h1
   have hp:=delF_pc f l[j]
   have hkt:=keepL_take (f:=f) hj
   obtain⟨m0,ms,rfl⟩: ∃m0 ms,mid=m0::ms:=by
    cases mid with
    | nil=>simp at i3
    | cons a r=>exact⟨a,r,rfl⟩
   simp only[Fed.cells_eq,List.cons_append,List.nil_append]at h1
   cases hd:delF f l[j]with
   | true =>
    rw[hd]at hp hkt
    rw[if_pos rfl]at hkt
    have hnx:fdC (keepL f (l.take j)++(m0::ms++l.drop j)) junk=fdC (keepL f (l.take (j+1))++((m0::ms++ [l[j]])++l.drop (j+1))) junk:=by
     rw[hkt,List.append_assoc (m0::ms),List.singleton_append,←List.drop_eq_getElem_cons hj]
    have HN:=Box.mk (And.intro hnx hkt)
    clear hnx hd hg
    simp only[List.cons_append]at *
    generalize hL:fdC (keepL f (l.take j)++(m0::(ms++l.drop j))) junk=L at *
    repeat' (first|(with_reducible first|refine DS.fltS yU yU yE ?_|refine DS.opsNil ?_|refine DS.seq ?_|refine DS.regionL ?_|(refine DS.cE yE ?_;first|refine CG.yes ?_|refine CG.no ?_)|refine DS.blk ?_|refine DS.block ?_|refine DS.skip ?_)|(refine DS.letF (t:=7) yU yE yU (fun _=>yE) yE yU (by exact⟨by with_unfolding_all rfl,by with_unfolding_all decide⟩) (fun _=>by simp only[go_sem,Nat.reduceEqDiff,↓reduceIte]) ?_;simp only[go_sem])|refine DS.pcVS inferInstance yE (hp) yR yT ?_|fail)
    all_goals try (exfalso;omega)
    refine DS.back (HB.out (j+1,m0::ms++ [l[j]]) _ _ (by dsimp only;omega) ⟨by dsimp only;omega,by dsimp only;rw[HN.out.2,List.length_append,List.length_singleton];omega,by simp⟩ (by dsimp only;rw[HN.out.2];simp (disch:=omega) only[go_sem,dopV,yV0,↓reduceIte,Nat.reduceEqDiff,Nat.reduceLT,Nat.reduceLeDiff,Nat.reduceAdd,Nat.reduceMul,Nat.reduceSub,Int.reduceToNat,Int.reduceLT,Int.reduceLE,Int.reduceEq,IntWalk.toNatUp,IntWalk.iteOmega,IntWalk.i64_in,V.flat,V.one,subV_cons,subV_nil,subS_cons,subS_nil,and_self,Int.natCast_add,Int.natCast_one,Int.natCast_zero,Int.zero_add,Int.reduceAdd,List.map_append,ints,rows, *]) yS (fun b' o e=>?_))
    dsimp only at e
    have hx:=HN.out.1
    simp only[List.cons_append]at hx e
    rw[←hx]at e
    exact e
   | false =>
    rw[hd]at hp hkt
    rw[if_neg (by decide)]at hkt
    have hst:=fd_set junk l[j] (keepL f (l.take j)++(m0::ms++l.drop j)) (keepL f (l.take j)).length (by rw[hal];simp at i2;omega)
    have hset:(keepL f (l.take j)++(m0::ms++l.drop j)).set (keepL f (l.take j)).length l[j]=keepL f (l.take (j+1))++((ms++ [l[j]])++l.drop (j+1)):=by
     rw[List.set_append_right _ _ (Nat.le_refl _),Nat.sub_self,List.cons_append,List.set_cons_zero,hkt,List.append_assoc,List.singleton_append,List.append_assoc ms,List.singleton_append,←List.drop_eq_getElem_cons hj]
    rw[hset]at hst
    have hkl:(keepL f (l.take (j+1))).length=(keepL f (l.take j)).length+1:=by rw[hkt,List.length_append,List.length_singleton]
    have HN:=Box.mk (And.intro hst hkl)
    have hil:(keepL f (l.take j)).length<l.length:=by simp at i2;omega
    clear hst hset hd hg hkt hkl
    simp only[List.cons_append]at *
    generalize hL:fdC (keepL f (l.take j)++(m0::(ms++l.drop j))) junk=L at *
    generalize (keepL f (l.take j)).length=k at *
    repeat' (first|(with_reducible first|refine DS.fltS yU yU yE ?_|refine DS.opsNil ?_|refine DS.seq ?_|refine DS.regionL ?_|(refine DS.cE yE ?_;refine CG.yes ?_)|refine DS.blk ?_|refine DS.block ?_|refine DS.skip ?_)|(refine DS.letF (t:=7) yU yE yU (fun _=>yE) yE yU (by exact⟨by with_unfolding_all rfl,by with_unfolding_all decide⟩) (fun _=>by simp only[go_sem,Nat.reduceEqDiff,↓reduceIte]) ?_;simp only[go_sem])|refine DS.pcVS inferInstance yE (hp) yR yT ?_|(refine DS.store yR yE yE yE yE yU (by exact⟨by with_unfolding_all rfl,by(try simp only[List.length_map,List.length_append,List.length_set,List.length_replicate,List.length_cons,List.length_nil]);omega⟩) ?_;simp only[putV_none,setAll_cons,setAll_nil,scells_v,scells_own,scells_lst,scells_agg];try simp only[strip_tmp,strip_const,lookV_cons,Nat.reduceEqDiff,↓reduceIte,stripO_own,stripO_lst,stripO_v,stripO_plc,stripO_agg,stripO_fn,stripO_ifc])|fail)
    all_goals try (exfalso;omega)
    refine DS.back (HB.out (j+1,ms++ [l[j]]) _ _ (by dsimp only;omega) ⟨by dsimp only;omega,by dsimp only;rw[HN.out.2,List.length_append,List.length_singleton];simp at i2;omega,by simp⟩ (by dsimp only;rw[HN.out.2];simp (disch:=omega) only[go_sem,dopV,yV0,↓reduceIte,Nat.reduceEqDiff,Nat.reduceLT,Nat.reduceLeDiff,Nat.reduceAdd,Nat.reduceMul,Nat.reduceSub,Int.reduceToNat,Int.reduceLT,Int.reduceLE,Int.reduceEq,IntWalk.toNatUp,IntWalk.iteOmega,IntWalk.i64_in,V.flat,V.one,subV_cons,subV_nil,subS_cons,subS_nil,and_self,Int.natCast_add,Int.natCast_one,Int.natCast_zero,Int.zero_add,Int.reduceAdd,List.map_append,ints,rows, *]) yS (fun b' o e=>?_))
    dsimp only at e
    rw[←HN.out.1]at e
    simp only[setS,↓reduceIte]
    exact e
  ·obtain rfl:j=l.length:=by omega
   have hdr:l.drop l.length= []:=List.drop_eq_nil_of_le (Nat.le_refl _)
   have htk:l.take l.length=l:=List.take_of_length_le (Nat.le_refl _)
   rw[htk]at i2 hlen ⊢
   rw[hdr,List.append_nil,fdC_app]at hlen ⊢
   have hml:=fd_len mid junk
   have hkl:=fd_len (keepL f l) (fdC mid junk)
   have hfa:fdC (keepL f l) (fdC mid junk)=((keepL f l).map Fed.cells).flatten++fdC mid junk:=rfl
   have hfl:((keepL f l).map Fed.cells).flatten.length=(keepL f l).length*4:=by
    have:=fd_len (keepL f l) []
    rwa [fdC,List.append_nil,List.length_nil,Nat.add_zero]at this
   have hend: ∀zs:List V,setAll (fdC (keepL f l) (fdC mid junk)) ((keepL f l).length*4) zs=fdC (keepL f l) (setAll (fdC mid junk) 0 zs):=fun zs=>by
    have:=setAll_app' zs ((keepL f l).map Fed.cells).flatten (fdC mid junk) 0
    rw[Nat.add_zero,hfl]at this
    exact this
   clear hfa hfl HB
   generalize hK:(keepL f l).length=k at *
   have hk:k≤l.length:=by omega
   have HE:=Box.mk hend
   clear hend
   generalize hL:fdC (keepL f l) (fdC mid junk)=L at *
   repeat' (first|(with_reducible first|refine DS.fltS yU yU yE ?_|refine DS.opsNil ?_|refine DS.seq ?_|refine DS.regionL ?_|(refine DS.cE yE ?_;refine CG.p (fun _=>?_) (fun _=>?_))|refine DS.block ?_|refine DS.exit yU ?_|refine DS.skip ?_)|fail)
   all_goals try (exfalso;omega)
   refine DS.clearA (b:=b) (cl:=L) (T':=118) (o:=k*4) (m:=l.length-k) (c:=cap-k) yU yU (by decide) yU yH (by simp only[lookS_cons,↓reduceIte]) (by show k*4+(l.length-k)*4≤L.length;omega) (fun zs hz=>?_)
   simp only[setS,↓reduceIte]
   repeat' (first|(with_reducible first|refine DS.fltS yU yU yE ?_|refine DS.opsNil ?_|refine DS.seq ?_|refine DS.regionL ?_)|fail)
   all_goals try (exfalso;omega)
   refine DS.retA yG ⟨setAll (fdC mid junk) 0 zs,rfl,?_⟩
   rw[←HE.out]
end Go.XL
namespace Go.XL
open Go.Proofs
set_option maxRecDepth 100000
set_option maxHeartbeats 8000000
def partB (l:List Bool):ByteArray:=⟨(l.map fun b=>if b then(110:UInt8)else 116).toArray⟩
structure SortR where
 number:Bool
 parts:List Bool
 use:Int
 nLow:Int
 nTop:Int
 mLow:Int
 mTop:Int
 deriving DecidableEq
def SortR.cells (x:SortR):List V:= [Bo x.number,St8 (partB x.parts),I x.use,I x.nLow,I x.nTop,I x.mLow,I x.mTop]
@[go_sem] theorem SortR.cells_eq (x:SortR):x.cells= [Bo x.number,St8 (partB x.parts),I x.use,I x.nLow,I x.nTop,I x.mLow,I x.mTop]:=rfl
abbrev SortR.val (x:SortR):V := .agg x.cells
def bitU (b:Bool) (n:Int):Int:=if b then n else 0
def sortR (op:Int):SortR:=⟨numS op,(useS op).parts,bitU (useS op).what 1+bitU (useS op).n 2+bitU (useS op).m 4+bitU (useS op).open_ 8+bitU (useS op).kinds 16,(useS op).nLow,(useS op).nTop,(useS op).mLow,(useS op).mTop⟩
def noSort :SortR:=⟨false,[],0,0,0,0,0⟩
def sortX (op:Int):SortR×Bool:=if 1≤op∧op≤24 then(sortR op,true)else(noSort,false)
def sortsL :List V:=((List.range 25).map fun(i:Nat)=>if i=0 then noSort.cells else(sortR i).cells).flatten
theorem sorts_row : ∀k:Nat,k<25→((sortsL.drop (k*7)).take 7).map V.peek=if k=0 then noSort.cells else(sortR k).cells
 | 0,_=>by kernel_rfl
 | 1,_=>by kernel_rfl
 | 2,_=>by kernel_rfl
 | 3,_=>by kernel_rfl
 | 4,_=>by kernel_rfl
 | 5,_=>by kernel_rfl
 | 6,_=>by kernel_rfl
 | 7,_=>by kernel_rfl
 | 8,_=>by kernel_rfl
 | 9,_=>by kernel_rfl
 | 10,_=>by kernel_rfl
 | 11,_=>by kernel_rfl
 | 12,_=>by kernel_rfl
 | 13,_=>by kernel_rfl
 | 14,_=>by kernel_rfl
 | 15,_=>by kernel_rfl
 | 16,_=>by kernel_rfl
 | 17,_=>by kernel_rfl
 | 18,_=>by kernel_rfl
 | 19,_=>by kernel_rfl
 | 20,_=>by kernel_rfl
 | 21,_=>by kernel_rfl
 | 22,_=>by kernel_rfl
 | 23,_=>by kernel_rfl
 | 24,_=>by kernel_rfl
 | k+25,h=>by omega
theorem sortsL_len :sortsL.length=175:=by kernel_rfl
theorem yX1 {p:Prop} (h:p:=by(simp (disch:=omega) only[go_sem,dopV,yV0,↓reduceIte,Nat.reduceEqDiff,Nat.reduceLT,Nat.reduceLeDiff,Nat.reduceAdd,Nat.reduceMul,Nat.reduceSub,Int.reduceToNat,Int.reduceLT,Int.reduceLE,Int.reduceEq,IntWalk.toNatUp,IntWalk.iteOmega,IntWalk.i64_in,V.flat,V.one, *,sortsL_len];exact rfl)):p:=h
theorem yX2 {p:Prop} (h:p:=by(simp (disch:=omega) only[go_sem,dopV,yV0,↓reduceIte,Nat.reduceEqDiff,Nat.reduceLT,Nat.reduceLeDiff,Nat.reduceAdd,Nat.reduceMul,Nat.reduceSub,Int.reduceToNat,Int.reduceLT,Int.reduceLE,Int.reduceEq,IntWalk.toNatUp,IntWalk.iteOmega,IntWalk.i64_in,V.flat,V.one, *,sortsL_len];try exact rfl)):p:=h
theorem sortOf_pc (op:Int):PC Tryz.prog 108 [I op] (.tup [(sortX op).1.val,Bo (sortX op).2]):=by
 refine DC.of_run Tryz.func108 rfl Tryz.ntmps108 Tryz.results108 (by simp) (fun _ _=>?_);simp only[argV_cons,argV_nil,go_sem,Nat.zero_add,Nat.reduceAdd]
 repeat' (first|(with_reducible first|refine DS.seq ?_|refine DS.regionL ?_)|fail)
 refine DS.allocS yR yU yU (fun b hb=>?_)
 have e0:(Value.agg #[.bool false, .string ⟨#[]⟩, .int .i64 0, .int .i64 0, .int .i64 0, .int .i64 0, .int .i64 0]).cells.toList.map V.v= [Bo false,St8 ⟨#[]⟩,I 0,I 0,I 0,I 0,I 0]:=rfl
 rw[e0]
 clear e0
 repeat' (first|(with_reducible first|refine DS.fltS yU yU yE ?_|refine DS.opsNil ?_|refine DS.seq ?_|refine DS.regionL ?_)|(refine DS.letF (t:=4) yU yE yU (fun _=>yE) yE yU (by exact⟨by with_unfolding_all rfl,by with_unfolding_all decide⟩) (fun _=>by simp only[go_sem,Nat.reduceEqDiff,↓reduceIte]) ?_;simp only[go_sem])|fail)
 refine DS.weaken (E':= [(4, .plc sortsL),(0,I op),(30,I op),(2, .v (.pointer (some ⟨b,0,none⟩)))]) (subV_look ⟨by kernel_rfl,by rfl,by rfl,by rfl,trivial⟩) (fun _ _ e=>e) ?_
 by_cases h:1≤op∧op≤24
 ·rw[sortX,if_pos h]
  obtain⟨k,rfl⟩:=Int.eq_ofNat_of_zero_le (show 0≤op by omega)
  have hr:=sorts_row k (by omega)
  rw[if_neg (by omega)]at hr
  repeat' (first|(with_reducible first|refine DS.fltS yU yU yX1 ?_|refine DS.opsNil ?_|refine DS.seq ?_|refine DS.regionL ?_|(refine DS.cE yX1 ?_;refine CG.no ?_)|refine DS.skip ?_)|refine DS.pcS inferInstance (hfrom_pc _ _ _) yR yX2 ?_|fail)
  refine DS.fltS (v := .agg (sortR k).cells) rfl (by decide) (by(simp (disch:=omega) only[go_sem,dopV,yV0,↓reduceIte,Nat.reduceEqDiff,Nat.reduceLT,Nat.reduceLeDiff,Nat.reduceAdd,Nat.reduceMul,Nat.reduceSub,Int.reduceToNat,Int.reduceLT,Int.reduceLE,Int.reduceEq,IntWalk.toNatUp,IntWalk.iteOmega,IntWalk.i64_in,V.flat,V.one,List.length_drop,sortsL_len,hr];try exact rfl)) ?_
  repeat' (first|(with_reducible first|refine DS.fltS yU yU yE ?_|refine DS.opsNil ?_)|(refine DS.store yR yE yE yE yE yU (by exact⟨by with_unfolding_all rfl,by(try simp only[List.length_map,List.length_append,List.length_set,List.length_replicate,List.length_cons,List.length_nil]);omega⟩) ?_;simp only[putV_none,setAll_cons,setAll_nil,scells_v,scells_own,scells_lst,scells_agg];try simp only[strip_tmp,strip_const,lookV_cons,Nat.reduceEqDiff,↓reduceIte,stripO_own,stripO_lst,stripO_v,stripO_plc,stripO_agg,stripO_fn,stripO_ifc])|refine DS.retT [] yE trivial ?_|fail)
  rfl
 ·rw[sortX,if_neg h]
  repeat' (first|(with_reducible first|refine DS.fltS yU yU yE ?_|refine DS.opsNil ?_|refine DS.seq ?_|refine DS.regionL ?_|(refine DS.cE yE ?_;refine CG.yes ?_))|refine DS.pcS inferInstance (hfrom_pc _ _ _) yR yT ?_|(refine DS.store yR yE yE yE yE yU (by exact⟨by with_unfolding_all rfl,by(try simp only[List.length_map,List.length_append,List.length_set,List.length_replicate,List.length_cons,List.length_nil]);omega⟩) ?_;simp only[putV_none,setAll_cons,setAll_nil,scells_v,scells_own,scells_lst,scells_agg];try simp only[strip_tmp,strip_const,lookV_cons,Nat.reduceEqDiff,↓reduceIte,stripO_own,stripO_lst,stripO_v,stripO_plc,stripO_agg,stripO_fn,stripO_ifc])|refine DS.retT [] yE trivial ?_|fail)
  rfl
end Go.XL
namespace Go.XL
open Go.Proofs
set_option maxRecDepth 100000
set_option maxHeartbeats 8000000
theorem kinds_bd (s:GSet):0≤kindsS s∧kindsS s≤1000:=by
 by_cases h:gsetS s=0
 ·have:=(gset_ok h).plain
  rw[kindsS,if_neg (by omega)];omega
 ·rw[kindsS,if_pos h];omega
theorem usesC_pc (num:Bool) (p:ByteArray) (U bit r lo hi ml mh:Int) (h:bop Tryz.prog .and 3 (.int .i64 U) (.int .i64 bit)=some (.int .i64 r)) :
  PC Tryz.prog 138 [I bit, .plc [Bo num,St8 p,I U,I lo,I hi,I ml,I mh]] (Bo (decide (0<r))):=by
 refine DC.of_run Tryz.func138 rfl Tryz.ntmps138 Tryz.results138 (by simp) (fun _ _=>?_);simp only[argV_cons,argV_nil,go_sem,Nat.zero_add,Nat.reduceAdd]
 repeat' (first|(with_reducible first|refine DS.fltS yU yU yE ?_|refine DS.opsNil ?_|refine DS.seq ?_|refine DS.regionL ?_)|refine DS.retT [] yE trivial ?_|fail)
 rfl
def nodeT (a b c d e:Bool) (lo hi ml mh:Int) (s:GSet) (x:Node):Int :=
 if(a=false∧x.what≠0)∨(b=false∧x.n≠0)∨(c=false∧x.m≠0)∨(d=false∧(x.open_≠0∨x.all=true))∨(e=false∧0<(x.kinds.length:Int))then 3 else
 if(a=true∧ ¬(1≤x.what∧x.what≤31))∨(b=true∧ ¬(lo≤x.n∧x.n≤hi))∨(c=true∧ ¬(ml≤x.m∧x.m≤mh))∨(d=true∧ ¬(0≤x.open_∧x.open_≤2))then 2 else
 ascS (kindsS s) x.kinds
theorem node00000_pc (s:GSet) (x:Node) (num:Bool) (p:ByteArray) (lo hi ml mh:Int) (hs:PC Tryz.prog 108 [I x.op] (.tup [.agg [Bo num,St8 p,I 0,I lo,I hi,I ml,I mh],Bo true])) :
  PC Tryz.prog 107 [s.val,x.val] (I (nodeT false false false false false lo hi ml mh s x)):=by
 have hk:=tkinds_pc s
 have hb:0≤kindsS s∧kindsS s≤1000:=kinds_bd s
 have hr:=hrising_pc (kindsS s) x.kinds hb
 have u1:=usesC_pc num p 0 1 0 lo hi ml mh rfl
 have u2:=usesC_pc num p 0 2 0 lo hi ml mh rfl
 have u4:=usesC_pc num p 0 4 0 lo hi ml mh rfl
 have u8:=usesC_pc num p 0 8 0 lo hi ml mh rfl
 have u16:=usesC_pc num p 0 16 0 lo hi ml mh rfl
 refine DC.of_run Tryz.func107 rfl Tryz.ntmps107 Tryz.results107 (by simp) (fun _ _=>?_);simp only[argV_cons,argV_nil,go_sem,Nat.zero_add,Nat.reduceAdd]
 repeat' (first|(with_reducible first|refine DS.fltS yU yU yE ?_|refine DS.opsNil ?_|refine DS.seq ?_|refine DS.regionL ?_|(refine DS.cE yE ?_;first|refine CG.p (fun _=>?_) (fun _=>?_)|refine CG.yes ?_|refine CG.no ?_)|(refine DS.gE yU yE ?_;first|refine GG.sU ?_|refine GG.npF (fun _=>?_) (fun _=>?_)|refine GG.run ?_|refine GG.sF ?_|refine GG.sT ?_|refine GG.bF (fun _=>?_) (fun _=>?_))|refine DS.skip ?_)|(refine DS.letF (t:=5) yU yE yU (fun _=>yE) yE yU (by exact⟨by with_unfolding_all rfl,by with_unfolding_all decide⟩) (fun _=>by simp only[go_sem,Nat.reduceEqDiff,↓reduceIte]) ?_;simp only[go_sem])|refine DS.pcS inferInstance (hs) yR yF ?_|refine DS.pcVS inferInstance yE (u1) yR yF ?_|refine DS.pcVS inferInstance yE (u2) yR yF ?_|refine DS.pcVS inferInstance yE (u4) yR yF ?_|refine DS.pcVS inferInstance yE (u8) yR yF ?_|refine DS.pcVS inferInstance yE (u16) yR yF ?_|refine DS.pcS inferInstance (hr) yR yF ?_|(refine DS.boxF (t:=2) yU yE yU ?_;simp only[cells_agg,cells_v,cells_lst,cells_fn,map_nil'',map_cons'',copy_own,copy_lst,copy_v,copy_at,copy_agg,copy_fn,copy_ifc,copy_tup])|(refine DS.boxF (t:=3) yU yE yU ?_;simp only[cells_agg,cells_v,cells_lst,cells_fn,map_nil'',map_cons'',copy_own,copy_lst,copy_v,copy_at,copy_agg,copy_fn,copy_ifc,copy_tup])|refine DS.drawL (id:=9) [0,1,2,3] 4 (by kernel_rfl) mixed (by simp only[pickL_cons,pickL_nil,get_zero',get_cons',pickO_some];exact rfl) (by simp only[drop_zero',drop_cons',List.drop_nil];exact rfl) ?_|(with_reducible first|refine DD.fltS yU yU yU yE ?_|refine DD.nil0 ?_)|refine DD.pcV0 inferInstance (hk) yU yF ?_|refine DS.retT [] yE trivial ?_|fail)
 all_goals (simp only[tupV,nodeT];(repeat' split) <;> first|rfl|(exfalso;clear u1 u2 u4 u8 u16 hs hk hr;grind))
theorem node01000_pc (s:GSet) (x:Node) (num:Bool) (p:ByteArray) (lo hi ml mh:Int) (hs:PC Tryz.prog 108 [I x.op] (.tup [.agg [Bo num,St8 p,I 2,I lo,I hi,I ml,I mh],Bo true])) :
  PC Tryz.prog 107 [s.val,x.val] (I (nodeT false true false false false lo hi ml mh s x)):=by
 have hk:=tkinds_pc s
 have hb:0≤kindsS s∧kindsS s≤1000:=kinds_bd s
 have hr:=hrising_pc (kindsS s) x.kinds hb
 have u1:=usesC_pc num p 2 1 0 lo hi ml mh rfl
 have u2:=usesC_pc num p 2 2 2 lo hi ml mh rfl
 have u4:=usesC_pc num p 2 4 0 lo hi ml mh rfl
 have u8:=usesC_pc num p 2 8 0 lo hi ml mh rfl
 have u16:=usesC_pc num p 2 16 0 lo hi ml mh rfl
 refine DC.of_run Tryz.func107 rfl Tryz.ntmps107 Tryz.results107 (by simp) (fun _ _=>?_);simp only[argV_cons,argV_nil,go_sem,Nat.zero_add,Nat.reduceAdd]
 repeat' (first|(with_reducible first|refine DS.fltS yU yU yE ?_|refine DS.opsNil ?_|refine DS.seq ?_|refine DS.regionL ?_|(refine DS.cE yE ?_;first|refine CG.p (fun _=>?_) (fun _=>?_)|refine CG.yes ?_|refine CG.no ?_)|(refine DS.gE yU yE ?_;first|refine GG.sU ?_|refine GG.npF (fun _=>?_) (fun _=>?_)|refine GG.run ?_|refine GG.sF ?_|refine GG.sT ?_|refine GG.bF (fun _=>?_) (fun _=>?_))|refine DS.skip ?_)|(refine DS.letF (t:=5) yU yE yU (fun _=>yE) yE yU (by exact⟨by with_unfolding_all rfl,by with_unfolding_all decide⟩) (fun _=>by simp only[go_sem,Nat.reduceEqDiff,↓reduceIte]) ?_;simp only[go_sem])|refine DS.pcS inferInstance (hs) yR yF ?_|refine DS.pcVS inferInstance yE (u1) yR yF ?_|refine DS.pcVS inferInstance yE (u2) yR yF ?_|refine DS.pcVS inferInstance yE (u4) yR yF ?_|refine DS.pcVS inferInstance yE (u8) yR yF ?_|refine DS.pcVS inferInstance yE (u16) yR yF ?_|refine DS.pcS inferInstance (hfrom_pc _ _ _) yR yF ?_|refine DS.pcS inferInstance (hr) yR yF ?_|(refine DS.boxF (t:=2) yU yE yU ?_;simp only[cells_agg,cells_v,cells_lst,cells_fn,map_nil'',map_cons'',copy_own,copy_lst,copy_v,copy_at,copy_agg,copy_fn,copy_ifc,copy_tup])|(refine DS.boxF (t:=3) yU yE yU ?_;simp only[cells_agg,cells_v,cells_lst,cells_fn,map_nil'',map_cons'',copy_own,copy_lst,copy_v,copy_at,copy_agg,copy_fn,copy_ifc,copy_tup])|refine DS.drawL (id:=9) [0,1,2,3] 4 (by kernel_rfl) mixed (by simp only[pickL_cons,pickL_nil,get_zero',get_cons',pickO_some];exact rfl) (by simp only[drop_zero',drop_cons',List.drop_nil];exact rfl) ?_|(with_reducible first|refine DD.fltS yU yU yU yE ?_|refine DD.nil0 ?_)|refine DD.pcV0 inferInstance (hk) yU yF ?_|refine DS.retT [] yE trivial ?_|fail)
 all_goals (simp only[tupV,nodeT];(repeat' split) <;> first|rfl|(exfalso;clear u1 u2 u4 u8 u16 hs hk hr;grind))
theorem node11000_pc (s:GSet) (x:Node) (num:Bool) (p:ByteArray) (lo hi ml mh:Int) (hs:PC Tryz.prog 108 [I x.op] (.tup [.agg [Bo num,St8 p,I 3,I lo,I hi,I ml,I mh],Bo true])) :
  PC Tryz.prog 107 [s.val,x.val] (I (nodeT true true false false false lo hi ml mh s x)):=by
 have hk:=tkinds_pc s
 have hb:0≤kindsS s∧kindsS s≤1000:=kinds_bd s
 have hr:=hrising_pc (kindsS s) x.kinds hb
 have u1:=usesC_pc num p 3 1 1 lo hi ml mh rfl
 have u2:=usesC_pc num p 3 2 2 lo hi ml mh rfl
 have u4:=usesC_pc num p 3 4 0 lo hi ml mh rfl
 have u8:=usesC_pc num p 3 8 0 lo hi ml mh rfl
 have u16:=usesC_pc num p 3 16 0 lo hi ml mh rfl
 refine DC.of_run Tryz.func107 rfl Tryz.ntmps107 Tryz.results107 (by simp) (fun _ _=>?_);simp only[argV_cons,argV_nil,go_sem,Nat.zero_add,Nat.reduceAdd]
 repeat' (first|(with_reducible first|refine DS.fltS yU yU yE ?_|refine DS.opsNil ?_|refine DS.seq ?_|refine DS.regionL ?_|(refine DS.cE yE ?_;first|refine CG.p (fun _=>?_) (fun _=>?_)|refine CG.yes ?_|refine CG.no ?_)|(refine DS.gE yU yE ?_;first|refine GG.sU ?_|refine GG.npF (fun _=>?_) (fun _=>?_)|refine GG.run ?_|refine GG.sF ?_|refine GG.sT ?_|refine GG.bF (fun _=>?_) (fun _=>?_))|refine DS.skip ?_)|(refine DS.letF (t:=5) yU yE yU (fun _=>yE) yE yU (by exact⟨by with_unfolding_all rfl,by with_unfolding_all decide⟩) (fun _=>by simp only[go_sem,Nat.reduceEqDiff,↓reduceIte]) ?_;simp only[go_sem])|refine DS.pcS inferInstance (hs) yR yF ?_|refine DS.pcVS inferInstance yE (u1) yR yF ?_|refine DS.pcVS inferInstance yE (u2) yR yF ?_|refine DS.pcVS inferInstance yE (u4) yR yF ?_|refine DS.pcVS inferInstance yE (u8) yR yF ?_|refine DS.pcVS inferInstance yE (u16) yR yF ?_|refine DS.pcS inferInstance (hfrom_pc _ _ _) yR yF ?_|refine DS.pcS inferInstance (hr) yR yF ?_|(refine DS.boxF (t:=2) yU yE yU ?_;simp only[cells_agg,cells_v,cells_lst,cells_fn,map_nil'',map_cons'',copy_own,copy_lst,copy_v,copy_at,copy_agg,copy_fn,copy_ifc,copy_tup])|(refine DS.boxF (t:=3) yU yE yU ?_;simp only[cells_agg,cells_v,cells_lst,cells_fn,map_nil'',map_cons'',copy_own,copy_lst,copy_v,copy_at,copy_agg,copy_fn,copy_ifc,copy_tup])|refine DS.drawL (id:=9) [0,1,2,3] 4 (by kernel_rfl) mixed (by simp only[pickL_cons,pickL_nil,get_zero',get_cons',pickO_some];exact rfl) (by simp only[drop_zero',drop_cons',List.drop_nil];exact rfl) ?_|(with_reducible first|refine DD.fltS yU yU yU yE ?_|refine DD.nil0 ?_)|refine DD.pcV0 inferInstance (hk) yU yF ?_|refine DS.retT [] yE trivial ?_|fail)
 all_goals (simp only[tupV,nodeT];(repeat' split) <;> first|rfl|(exfalso;clear u1 u2 u4 u8 u16 hs hk hr;grind))
theorem node10011_pc (s:GSet) (x:Node) (num:Bool) (p:ByteArray) (lo hi ml mh:Int) (hs:PC Tryz.prog 108 [I x.op] (.tup [.agg [Bo num,St8 p,I 25,I lo,I hi,I ml,I mh],Bo true])) :
  PC Tryz.prog 107 [s.val,x.val] (I (nodeT true false false true true lo hi ml mh s x)):=by
 have hk:=tkinds_pc s
 have hb:0≤kindsS s∧kindsS s≤1000:=kinds_bd s
 have hr:=hrising_pc (kindsS s) x.kinds hb
 have u1:=usesC_pc num p 25 1 1 lo hi ml mh rfl
 have u2:=usesC_pc num p 25 2 0 lo hi ml mh rfl
 have u4:=usesC_pc num p 25 4 0 lo hi ml mh rfl
 have u8:=usesC_pc num p 25 8 8 lo hi ml mh rfl
 have u16:=usesC_pc num p 25 16 16 lo hi ml mh rfl
 refine DC.of_run Tryz.func107 rfl Tryz.ntmps107 Tryz.results107 (by simp) (fun _ _=>?_);simp only[argV_cons,argV_nil,go_sem,Nat.zero_add,Nat.reduceAdd]
 repeat' (first|(with_reducible first|refine DS.fltS yU yU yE ?_|refine DS.opsNil ?_|refine DS.seq ?_|refine DS.regionL ?_|(refine DS.cE yE ?_;first|refine CG.np (fun _=>?_) (fun _=>?_)|refine CG.yes ?_|refine CG.no ?_)|(refine DS.gE yU yE ?_;first|refine GG.sU ?_|refine GG.npF (fun _=>?_) (fun _=>?_)|refine GG.run ?_|refine GG.sF ?_|refine GG.sT ?_)|refine DS.skip ?_)|(refine DS.letF (t:=5) yU yE yU (fun _=>yE) yE yU (by exact⟨by with_unfolding_all rfl,by with_unfolding_all decide⟩) (fun _=>by simp only[go_sem,Nat.reduceEqDiff,↓reduceIte]) ?_;simp only[go_sem])|refine DS.pcS inferInstance (hs) yR yF ?_|refine DS.pcVS inferInstance yE (u1) yR yF ?_|refine DS.pcVS inferInstance yE (u2) yR yF ?_|refine DS.pcVS inferInstance yE (u4) yR yF ?_|refine DS.pcVS inferInstance yE (u8) yR yF ?_|refine DS.pcVS inferInstance yE (u16) yR yF ?_|refine DS.pcS inferInstance (hfrom_pc _ _ _) yR yF ?_|refine DS.pcS inferInstance (hr) yR yF ?_|(refine DS.boxF (t:=2) yU yE yU ?_;simp only[cells_agg,cells_v,cells_lst,cells_fn,map_nil'',map_cons'',copy_own,copy_lst,copy_v,copy_at,copy_agg,copy_fn,copy_ifc,copy_tup])|(refine DS.boxF (t:=3) yU yE yU ?_;simp only[cells_agg,cells_v,cells_lst,cells_fn,map_nil'',map_cons'',copy_own,copy_lst,copy_v,copy_at,copy_agg,copy_fn,copy_ifc,copy_tup])|refine DS.drawL (id:=9) [0,1,2,3] 4 (by kernel_rfl) mixed (by simp only[pickL_cons,pickL_nil,get_zero',get_cons',pickO_some];exact rfl) (by simp only[drop_zero',drop_cons',List.drop_nil];exact rfl) ?_|(with_reducible first|refine DD.fltS yU yU yU yE ?_|refine DD.nil0 ?_)|refine DD.pcV0 inferInstance (hk) yU yF ?_|refine DS.retT [] yE trivial ?_|fail)
 all_goals (simp only[tupV,nodeT];(repeat' split) <;> first|rfl|(exfalso;clear u1 u2 u4 u8 u16 hs hk hr;grind))
theorem node00001_pc (s:GSet) (x:Node) (num:Bool) (p:ByteArray) (lo hi ml mh:Int) (hs:PC Tryz.prog 108 [I x.op] (.tup [.agg [Bo num,St8 p,I 16,I lo,I hi,I ml,I mh],Bo true])) :
  PC Tryz.prog 107 [s.val,x.val] (I (nodeT false false false false true lo hi ml mh s x)):=by
 have hk:=tkinds_pc s
 have hb:0≤kindsS s∧kindsS s≤1000:=kinds_bd s
 have hr:=hrising_pc (kindsS s) x.kinds hb
 have u1:=usesC_pc num p 16 1 0 lo hi ml mh rfl
 have u2:=usesC_pc num p 16 2 0 lo hi ml mh rfl
 have u4:=usesC_pc num p 16 4 0 lo hi ml mh rfl
 have u8:=usesC_pc num p 16 8 0 lo hi ml mh rfl
 have u16:=usesC_pc num p 16 16 16 lo hi ml mh rfl
 refine DC.of_run Tryz.func107 rfl Tryz.ntmps107 Tryz.results107 (by simp) (fun _ _=>?_);simp only[argV_cons,argV_nil,go_sem,Nat.zero_add,Nat.reduceAdd]
 repeat' (first|(with_reducible first|refine DS.fltS yU yU yE ?_|refine DS.opsNil ?_|refine DS.seq ?_|refine DS.regionL ?_|(refine DS.cE yE ?_;first|refine CG.yes ?_|refine CG.no ?_)|(refine DS.gE yU yE ?_;first|refine GG.sU ?_|refine GG.npF (fun _=>?_) (fun _=>?_)|refine GG.run ?_|refine GG.sF ?_|refine GG.sT ?_|refine GG.bF (fun _=>?_) (fun _=>?_))|refine DS.skip ?_)|(refine DS.letF (t:=5) yU yE yU (fun _=>yE) yE yU (by exact⟨by with_unfolding_all rfl,by with_unfolding_all decide⟩) (fun _=>by simp only[go_sem,Nat.reduceEqDiff,↓reduceIte]) ?_;simp only[go_sem])|refine DS.pcS inferInstance (hs) yR yF ?_|refine DS.pcVS inferInstance yE (u1) yR yF ?_|refine DS.pcVS inferInstance yE (u2) yR yF ?_|refine DS.pcVS inferInstance yE (u4) yR yF ?_|refine DS.pcVS inferInstance yE (u8) yR yF ?_|refine DS.pcVS inferInstance yE (u16) yR yF ?_|refine DS.pcS inferInstance (hr) yR yF ?_|(refine DS.boxF (t:=2) yU yE yU ?_;simp only[cells_agg,cells_v,cells_lst,cells_fn,map_nil'',map_cons'',copy_own,copy_lst,copy_v,copy_at,copy_agg,copy_fn,copy_ifc,copy_tup])|(refine DS.boxF (t:=3) yU yE yU ?_;simp only[cells_agg,cells_v,cells_lst,cells_fn,map_nil'',map_cons'',copy_own,copy_lst,copy_v,copy_at,copy_agg,copy_fn,copy_ifc,copy_tup])|refine DS.drawL (id:=9) [0,1,2,3] 4 (by kernel_rfl) mixed (by simp only[pickL_cons,pickL_nil,get_zero',get_cons',pickO_some];exact rfl) (by simp only[drop_zero',drop_cons',List.drop_nil];exact rfl) ?_|(with_reducible first|refine DD.fltS yU yU yU yE ?_|refine DD.nil0 ?_)|refine DD.pcV0 inferInstance (hk) yU yF ?_|refine DS.retT [] yE trivial ?_|fail)
 all_goals (simp only[tupV,nodeT];(repeat' split) <;> first|rfl|(exfalso;clear u1 u2 u4 u8 u16 hs hk hr;grind))
theorem node11100_pc (s:GSet) (x:Node) (num:Bool) (p:ByteArray) (lo hi ml mh:Int) (hs:PC Tryz.prog 108 [I x.op] (.tup [.agg [Bo num,St8 p,I 7,I lo,I hi,I ml,I mh],Bo true])) :
  PC Tryz.prog 107 [s.val,x.val] (I (nodeT true true true false false lo hi ml mh s x)):=by
 have hk:=tkinds_pc s
 have hb:0≤kindsS s∧kindsS s≤1000:=kinds_bd s
 have hr:=hrising_pc (kindsS s) x.kinds hb
 have u1:=usesC_pc num p 7 1 1 lo hi ml mh rfl
 have u2:=usesC_pc num p 7 2 2 lo hi ml mh rfl
 have u4:=usesC_pc num p 7 4 4 lo hi ml mh rfl
 have u8:=usesC_pc num p 7 8 0 lo hi ml mh rfl
 have u16:=usesC_pc num p 7 16 0 lo hi ml mh rfl
 refine DC.of_run Tryz.func107 rfl Tryz.ntmps107 Tryz.results107 (by simp) (fun _ _=>?_);simp only[argV_cons,argV_nil,go_sem,Nat.zero_add,Nat.reduceAdd]
 repeat' (first|(with_reducible first|refine DS.fltS yU yU yE ?_|refine DS.opsNil ?_|refine DS.seq ?_|refine DS.regionL ?_|(refine DS.cE yE ?_;first|refine CG.p (fun _=>?_) (fun _=>?_)|refine CG.yes ?_|refine CG.no ?_)|(refine DS.gE yU yE ?_;first|refine GG.sU ?_|refine GG.npF (fun _=>?_) (fun _=>?_)|refine GG.run ?_|refine GG.sF ?_|refine GG.sT ?_|refine GG.bF (fun _=>?_) (fun _=>?_))|refine DS.skip ?_)|(refine DS.letF (t:=5) yU yE yU (fun _=>yE) yE yU (by exact⟨by with_unfolding_all rfl,by with_unfolding_all decide⟩) (fun _=>by simp only[go_sem,Nat.reduceEqDiff,↓reduceIte]) ?_;simp only[go_sem])|refine DS.pcS inferInstance (hs) yR yF ?_|refine DS.pcVS inferInstance yE (u1) yR yF ?_|refine DS.pcVS inferInstance yE (u2) yR yF ?_|refine DS.pcVS inferInstance yE (u4) yR yF ?_|refine DS.pcVS inferInstance yE (u8) yR yF ?_|refine DS.pcVS inferInstance yE (u16) yR yF ?_|refine DS.pcS inferInstance (hfrom_pc _ _ _) yR yF ?_|refine DS.pcS inferInstance (hr) yR yF ?_|(refine DS.boxF (t:=2) yU yE yU ?_;simp only[cells_agg,cells_v,cells_lst,cells_fn,map_nil'',map_cons'',copy_own,copy_lst,copy_v,copy_at,copy_agg,copy_fn,copy_ifc,copy_tup])|(refine DS.boxF (t:=3) yU yE yU ?_;simp only[cells_agg,cells_v,cells_lst,cells_fn,map_nil'',map_cons'',copy_own,copy_lst,copy_v,copy_at,copy_agg,copy_fn,copy_ifc,copy_tup])|refine DS.drawL (id:=9) [0,1,2,3] 4 (by kernel_rfl) mixed (by simp only[pickL_cons,pickL_nil,get_zero',get_cons',pickO_some];exact rfl) (by simp only[drop_zero',drop_cons',List.drop_nil];exact rfl) ?_|(with_reducible first|refine DD.fltS yU yU yU yE ?_|refine DD.nil0 ?_)|refine DD.pcV0 inferInstance (hk) yU yF ?_|refine DS.retT [] yE trivial ?_|fail)
 all_goals (simp only[tupV,nodeT];(repeat' split) <;> first|rfl|(exfalso;clear u1 u2 u4 u8 u16 hs hk hr;grind))
end Go.XL
namespace Go.XL
open Go.Proofs
set_option maxRecDepth 100000
set_option maxHeartbeats 8000000
theorem node_pc (s:GSet) (x:Node):PC Tryz.prog 107 [s.val,x.val] (I (nodeS s x)):=by
 obtain⟨op,what,n,m,op2,all,kinds⟩:=x
 have hs:=sortOf_pc op
 by_cases h:1≤op∧op≤24
 ·have h24:op=1∨op=2∨op=3∨op=4∨op=5∨op=6∨op=7∨op=8∨op=9∨op=10∨op=11∨op=12∨op=13∨op=14∨op=15∨op=16∨op=17∨op=18∨op=19∨op=20∨op=21∨op=22∨op=23∨op=24:=by omega
  rcases h24 with rfl|rfl|rfl|rfl|rfl|rfl|rfl|rfl|rfl|rfl|rfl|rfl|rfl|rfl|rfl|rfl|rfl|rfl|rfl|rfl|rfl|rfl|rfl|rfl
  ·exact node00000_pc s ⟨1,what,n,m,op2,all,kinds⟩ _ _ 0 0 0 0 hs
  ·exact node00000_pc s ⟨2,what,n,m,op2,all,kinds⟩ _ _ 0 0 0 0 hs
  ·exact node00000_pc s ⟨3,what,n,m,op2,all,kinds⟩ _ _ 0 0 0 0 hs
  ·exact node00000_pc s ⟨4,what,n,m,op2,all,kinds⟩ _ _ 0 0 0 0 hs
  ·exact node01000_pc s ⟨5,what,n,m,op2,all,kinds⟩ _ _ 0 1000000 0 0 hs
  ·exact node01000_pc s ⟨6,what,n,m,op2,all,kinds⟩ _ _ 1 6 0 0 hs
  ·exact node01000_pc s ⟨7,what,n,m,op2,all,kinds⟩ _ _ 1 7 0 0 hs
  ·exact node00000_pc s ⟨8,what,n,m,op2,all,kinds⟩ _ _ 0 0 0 0 hs
  ·exact node00000_pc s ⟨9,what,n,m,op2,all,kinds⟩ _ _ 0 0 0 0 hs
  ·exact node11000_pc s ⟨10,what,n,m,op2,all,kinds⟩ _ _ 0 3 0 0 hs
  ·exact node01000_pc s ⟨11,what,n,m,op2,all,kinds⟩ _ _ 0 1000000 0 0 hs
  ·exact node00000_pc s ⟨12,what,n,m,op2,all,kinds⟩ _ _ 0 0 0 0 hs
  ·exact node00000_pc s ⟨13,what,n,m,op2,all,kinds⟩ _ _ 0 0 0 0 hs
  ·exact node00000_pc s ⟨14,what,n,m,op2,all,kinds⟩ _ _ 0 0 0 0 hs
  ·exact node01000_pc s ⟨15,what,n,m,op2,all,kinds⟩ _ _ 1 1000 0 0 hs
  ·exact node10011_pc s ⟨16,what,n,m,op2,all,kinds⟩ _ _ 0 0 0 0 hs
  ·exact node00001_pc s ⟨17,what,n,m,op2,all,kinds⟩ _ _ 0 0 0 0 hs
  ·exact node00000_pc s ⟨18,what,n,m,op2,all,kinds⟩ _ _ 0 0 0 0 hs
  ·exact node11000_pc s ⟨19,what,n,m,op2,all,kinds⟩ _ _ 1 2 0 0 hs
  ·exact node01000_pc s ⟨20,what,n,m,op2,all,kinds⟩ _ _ 1 2 0 0 hs
  ·exact node11100_pc s ⟨21,what,n,m,op2,all,kinds⟩ _ _ 2 4 1 3 hs
  ·exact node11100_pc s ⟨22,what,n,m,op2,all,kinds⟩ _ _ 2 3 0 2 hs
  ·exact node00000_pc s ⟨23,what,n,m,op2,all,kinds⟩ _ _ 0 0 0 0 hs
  ·exact node00000_pc s ⟨24,what,n,m,op2,all,kinds⟩ _ _ 0 0 0 0 hs
 ·rw[nodeS,if_pos h]
  rw[sortX,if_neg h]at hs
  refine DC.of_run Tryz.func107 rfl Tryz.ntmps107 Tryz.results107 (by simp) (fun _ _=>?_);simp only[argV_cons,argV_nil,go_sem,Nat.zero_add,Nat.reduceAdd]
  repeat' (first|(with_reducible first|refine DS.fltS yU yU yE ?_|refine DS.opsNil ?_|refine DS.seq ?_|refine DS.regionL ?_|(refine DS.cE yE ?_;refine CG.yes ?_))|(refine DS.letF (t:=5) yU yE yU (fun _=>yE) yE yU (by exact⟨by with_unfolding_all rfl,by with_unfolding_all decide⟩) (fun _=>by simp only[go_sem,Nat.reduceEqDiff,↓reduceIte]) ?_;simp only[go_sem])|refine DS.pcS inferInstance (hs) yR yT ?_|(refine DS.boxF (t:=2) yU yE yU ?_;simp only[cells_agg,cells_v,cells_lst,cells_fn,map_nil'',map_cons'',copy_own,copy_lst,copy_v,copy_at,copy_agg,copy_fn,copy_ifc,copy_tup])|(refine DS.boxF (t:=3) yU yE yU ?_;simp only[cells_agg,cells_v,cells_lst,cells_fn,map_nil'',map_cons'',copy_own,copy_lst,copy_v,copy_at,copy_agg,copy_fn,copy_ifc,copy_tup])|refine DS.retT [] yE trivial ?_|fail)
  all_goals first|rfl|(exfalso;omega)
end Go.XL
namespace Go.XL
open Go.Proofs
set_option maxRecDepth 100000
set_option maxHeartbeats 4000000
theorem take_succ_eq {l m:List Int} {i:Nat} (h:l.take i=m.take i) (hl:i<l.length) (hm:i<m.length) (e:l[i]=m[i]):l.take (i+1)=m.take (i+1):=by
 rw[List.take_succ_eq_append_getElem hl,List.take_succ_eq_append_getElem hm,h,e]
theorem slEqual_pc (a b : List Int) : PC Tryz.prog 132 [ints a, ints b] (Bo (decide (a = b))) := by
  refine DC.of_run Tryz.func132 rfl Tryz.ntmps132 Tryz.results132 (by simp) (fun _ _ => ?_); simp only [argV_cons, argV_nil, go_sem, Nat.zero_add, Nat.reduceAdd]
  refine DS.bnd (t := 0) yG (.inl rfl) (fun hb0 => ?_); simp only [List.length_map] at hb0
  repeat' (first | (with_reducible first | refine DS.fltS yU yU yE ?_ | refine DS.opsNil ?_ | refine DS.seq ?_ | refine DS.regionL ?_ | (refine DS.cE yE ?_; refine CG.np (fun _ => ?_) (fun _ => ?_)) | refine DS.block ?_ | refine DS.skip ?_) | fail)
  · rename_i h
    repeat' (first | refine DS.retT [] yE trivial ?_ | fail)
    have : a ≠ b := fun e => h (by subst e; rfl)
    simp [tupV, this]
  · rename_i h
    have hl : Box (a.length = b.length) := ⟨by omega⟩
    clear h
    refine DS.loopK [0, 1, 12] yN (fun (i : Nat) => [(13, I i)]) (fun (i : Nat) => i ≤ a.length ∧ a.take i = b.take i) (fun (i : Nat) => a.length - i) 0 yS (by simp) (fun i B hI hB => ?_); try dsimp only at hI hB; simp only [app_cons', app_nil']
    have HB := Box.mk hB
    clear hB
    obtain ⟨hI, hI2⟩ := hI
    have hlo := hl.out
    by_cases hi : (i : Int) < (b.length : Int)
    · have hi' : i < a.length := by omega
      have hb' : i < b.length := by omega
      clear hlo
      have H2 := Box.mk hI2
      clear hI2
      by_cases he : a[i] = b[i]
      · repeat' (first | (with_reducible first | refine DS.fltS yU yU yE ?_ | refine DS.opsNil ?_ | refine DS.seq ?_ | refine DS.regionL ?_ | (refine DS.cE yE ?_; first | refine CG.yes ?_ | refine CG.no ?_) | refine DS.blk ?_ | refine DS.block ?_ | refine DS.skip ?_) | refine DS.drawL (id := 6) [0, 1, 2, 3, 4, 5, 6, 7] 8 (by kernel_rfl) mixed (by simp only [pickL_cons, pickL_nil, get_zero', get_cons', pickO_some]; exact rfl) (by simp only [drop_zero', drop_cons', List.drop_nil]; exact rfl) ?_ | (with_reducible first | refine DD.fltS yU yU yU yE ?_ | refine DD.nil0 ?_) | fail)
        all_goals first
          | exact DS.back (HB.out (i + 1) _ _ (by omega) ⟨by omega, take_succ_eq H2.out hi' hb' he⟩ yS yS (fun b o e => by cases e))
          | (exfalso; omega)
      · repeat' (first | (with_reducible first | refine DS.fltS yU yU yE ?_ | refine DS.opsNil ?_ | refine DS.seq ?_ | refine DS.regionL ?_ | (refine DS.cE yE ?_; refine CG.yes ?_) | refine DS.block ?_ | refine DS.skip ?_) | refine DS.drawL (id := 6) [0, 1, 2, 3, 4, 5, 6, 7] 8 (by kernel_rfl) mixed (by simp only [pickL_cons, pickL_nil, get_zero', get_cons', pickO_some]; exact rfl) (by simp only [drop_zero', drop_cons', List.drop_nil]; exact rfl) ?_ | (with_reducible first | refine DD.fltS yU yU yU yE ?_ | refine DD.nil0 ?_) | refine DS.retT [] yE trivial ?_ | fail)
        all_goals first
          | (have : a ≠ b := fun e => he (by subst e; rfl)
             simp [tupV, this]; done)
          | (exfalso; omega)
    · repeat' (first | (with_reducible first | refine DS.fltS yU yU yE ?_ | refine DS.opsNil ?_ | refine DS.seq ?_ | refine DS.regionL ?_ | (refine DS.cE yE ?_; refine CG.no ?_) | refine DS.exit yU ?_) | refine DS.retT [] yE trivial ?_ | fail)
      have : a = b := by
        rw [List.take_of_length_le (by omega), List.take_of_length_le (by omega)] at hI2
        exact hI2
      simp [tupV, this]
theorem fkGo_at {k copies:Int} {sv:Bool} {l:List Int} {i:Nat} (hi:i<l.length) (p:Option Int) (many:Int):fkGo k copies sv (l.drop i) p many=if ¬(0≤l[i]∧l[i]≤k-1)then 2 else
   if anyO (fun q=>decide (l[i]<q) || (!sv&&decide (l[i]=q))) p=true then 11 else
   if sv=true∧(if anyO (fun q=>decide (l[i]=q)) p=true then many else 0)+1 > copies then 8 else fkGo k copies sv (l.drop (i+1)) (some l[i]) ((if anyO (fun q=>decide (l[i]=q)) p=true then many else 0)+1):=by
 rw[List.drop_eq_getElem_cons hi,fkGo]
theorem fkinds_t (s : GSet) (l : List Int) (h0 : gsetS s = 0) : PC Tryz.prog 133 [s.val, ints l, Bo true] (I (fkGo s.plain s.copies true l none 0)) := by
  have ok := gset_ok h0
  have hc := ok.copies
  have ek : kindsS s = s.plain := by rw [kindsS, if_neg (by omega)]
  have hk := tkinds_pc s
  rw [ek] at hk
  clear ek ok h0
  refine DC.of_run Tryz.func133 rfl Tryz.ntmps133 Tryz.results133 (by simp) (fun _ _ => ?_); simp only [argV_cons, argV_nil, go_sem, Nat.zero_add, Nat.reduceAdd]
  refine DS.bnd (t := 1) yG (.inl rfl) (fun hb1 => ?_); simp only [List.length_map] at hb1
  repeat' (first | (with_reducible first | refine DS.fltS yU yU yE ?_ | refine DS.opsNil ?_ | refine DS.seq ?_ | refine DS.regionL ?_ | refine DS.block ?_) | (refine DS.boxF (t := 3) yU yE yU ?_; simp only [cells_agg, cells_v, cells_lst, cells_fn, map_nil'', map_cons'', copy_own, copy_lst, copy_v, copy_at, copy_agg, copy_fn, copy_ifc, copy_tup]) | fail)
  refine DS.loopK [1, 2, 3, 11, 12] yN (fun (z : Nat × Int) => [(7, I z.2), (13, I z.1)]) (fun (z : Nat × Int) => z.1 ≤ l.length ∧ 0 ≤ z.2 ∧ z.2 ≤ z.1 ∧ fkGo s.plain s.copies true l none 0 = fkGo s.plain s.copies true (l.drop z.1) (prevL l z.1) z.2) (fun (z : Nat × Int) => l.length - z.1) (0, 0) yS ⟨Nat.zero_le _, Int.le_refl _, Int.le_refl _, rfl⟩ (fun z B hI hB => ?_); try dsimp only at hI hB; simp only [app_cons', app_nil']
  have HB := Box.mk hB
  clear hB
  obtain ⟨i, m⟩ := z
  dsimp only at hI ⊢
  obtain ⟨hI, hm1, hm2, hI2⟩ := hI
  by_cases hi : (i : Int) < (l.length : Int)
  · have hi' : i < l.length := by omega
    have hp : i - 1 < l.length := by omega
    rw [fkGo_at hi'] at hI2
    have HI := Box.mk hI2
    clear hI2
    by_cases he : (0 : Int) < i ∧ l[i] = l[i - 1]
    · obtain ⟨he1, he2⟩ := he
      repeat' (first | (with_reducible first | refine DS.fltS yU yU yE ?_ | refine DS.opsNil ?_ | refine DS.seq ?_ | refine DS.regionL ?_ | (refine DS.cE yE ?_; first | refine CG.p (fun _ => ?_) (fun _ => ?_) | refine CG.yes ?_ | refine CG.no ?_) | (refine DS.gE yU yE ?_; first | refine GG.sU ?_ | refine GG.pT (fun _ => ?_) (fun _ => ?_) | refine GG.pF (fun _ => ?_) (fun _ => ?_) | refine GG.run ?_ | refine GG.sT ?_) | refine DS.blk ?_ | refine DS.block ?_ | refine DS.skip ?_) | refine DS.pcS inferInstance (hk) yR yT ?_ | refine DS.retT [] yE trivial ?_ | fail)
      all_goals first
        | (exfalso; omega)
        | ((try rw [prevL_zero (by assumption)] at HI); (try rw [prevL_pos (by assumption) hp] at HI); simp only [anyO_none, anyO_some, Bool.not_true, Bool.not_false, Bool.false_and, Bool.true_and, Bool.or_false, Bool.or_eq_true, decide_eq_true_eq, true_and, false_and, Bool.false_eq_true, if_false] at HI
           first
            | (rw [HI.out]; (repeat' split) <;> first | rfl | (exfalso; omega))
            | exact DS.back (HB.out (i + 1, m + 1) _ _ (by dsimp only; omega) ⟨by dsimp only; omega, by dsimp only; omega, by dsimp only; omega, by rw [HI.out, prevL_succ hi']; (repeat' split) <;> first | rfl | (exfalso; omega)⟩ yS yS (fun b o e => by cases e)))
    · repeat' (first | (with_reducible first | refine DS.fltS yU yU yE ?_ | refine DS.opsNil ?_ | refine DS.seq ?_ | refine DS.regionL ?_ | (refine DS.cE yE ?_; first | refine CG.p (fun _ => ?_) (fun _ => ?_) | refine CG.yes ?_ | refine CG.no ?_) | (refine DS.gE yU yE ?_; first | refine GG.sU ?_ | refine GG.pT (fun _ => ?_) (fun _ => ?_) | refine GG.pF (fun _ => ?_) (fun _ => ?_) | refine GG.run ?_ | refine GG.sF ?_ | refine GG.sT ?_) | refine DS.blk ?_ | refine DS.block ?_ | refine DS.skip ?_) | refine DS.pcS inferInstance (hk) yR yT ?_ | refine DS.retT [] yE trivial ?_ | fail)
      all_goals first
        | (exfalso; omega)
        | ((try rw [prevL_zero (by assumption)] at HI); (try rw [prevL_pos (by assumption) hp] at HI); simp only [anyO_none, anyO_some, Bool.not_true, Bool.not_false, Bool.false_and, Bool.true_and, Bool.or_false, Bool.or_eq_true, decide_eq_true_eq, true_and, false_and, Bool.false_eq_true, if_false] at HI
           first
            | (rw [HI.out]; (repeat' split) <;> first | rfl | (exfalso; omega))
            | exact DS.back (HB.out (i + 1, 1) _ _ (by dsimp only; omega) ⟨by dsimp only; omega, by dsimp only; omega, by dsimp only; omega, by rw [HI.out, prevL_succ hi']; (repeat' split) <;> first | rfl | (exfalso; omega)⟩ yS yS (fun b o e => by cases e)))
  · repeat' (first | (with_reducible first | refine DS.fltS yU yU yE ?_ | refine DS.opsNil ?_ | refine DS.seq ?_ | refine DS.regionL ?_ | (refine DS.cE yE ?_; refine CG.no ?_) | refine DS.exit yU ?_) | refine DS.retT [] yE trivial ?_ | fail)
    rw [hI2, drop_end hi]; rfl
theorem fkinds_f (s : GSet) (l : List Int) (h0 : gsetS s = 0) : PC Tryz.prog 133 [s.val, ints l, Bo false] (I (fkGo s.plain s.copies false l none 0)) := by
  have ok := gset_ok h0
  have hc := ok.copies
  have ek : kindsS s = s.plain := by rw [kindsS, if_neg (by omega)]
  have hk := tkinds_pc s
  rw [ek] at hk
  clear ek ok h0
  refine DC.of_run Tryz.func133 rfl Tryz.ntmps133 Tryz.results133 (by simp) (fun _ _ => ?_); simp only [argV_cons, argV_nil, go_sem, Nat.zero_add, Nat.reduceAdd]
  refine DS.bnd (t := 1) yG (.inl rfl) (fun hb1 => ?_); simp only [List.length_map] at hb1
  repeat' (first | (with_reducible first | refine DS.fltS yU yU yE ?_ | refine DS.opsNil ?_ | refine DS.seq ?_ | refine DS.regionL ?_ | refine DS.block ?_) | (refine DS.boxF (t := 3) yU yE yU ?_; simp only [cells_agg, cells_v, cells_lst, cells_fn, map_nil'', map_cons'', copy_own, copy_lst, copy_v, copy_at, copy_agg, copy_fn, copy_ifc, copy_tup]) | fail)
  refine DS.loopK [1, 2, 3, 11, 12] yN (fun (z : Nat × Int) => [(7, I z.2), (13, I z.1)]) (fun (z : Nat × Int) => z.1 ≤ l.length ∧ 0 ≤ z.2 ∧ z.2 ≤ z.1 ∧ fkGo s.plain s.copies false l none 0 = fkGo s.plain s.copies false (l.drop z.1) (prevL l z.1) z.2) (fun (z : Nat × Int) => l.length - z.1) (0, 0) yS ⟨Nat.zero_le _, Int.le_refl _, Int.le_refl _, rfl⟩ (fun z B hI hB => ?_); try dsimp only at hI hB; simp only [app_cons', app_nil']
  have HB := Box.mk hB
  clear hB
  obtain ⟨i, m⟩ := z
  dsimp only at hI ⊢
  obtain ⟨hI, hm1, hm2, hI2⟩ := hI
  by_cases hi : (i : Int) < (l.length : Int)
  · have hi' : i < l.length := by omega
    have hp : i - 1 < l.length := by omega
    rw [fkGo_at hi'] at hI2
    have HI := Box.mk hI2
    clear hI2
    by_cases he : (0 : Int) < i ∧ l[i] = l[i - 1]
    · obtain ⟨he1, he2⟩ := he
      repeat' (first | (with_reducible first | refine DS.fltS yU yU yE ?_ | refine DS.opsNil ?_ | refine DS.seq ?_ | refine DS.regionL ?_ | (refine DS.cE yE ?_; first | refine CG.p (fun _ => ?_) (fun _ => ?_) | refine CG.yes ?_) | (refine DS.gE yU yE ?_; first | refine GG.sU ?_ | refine GG.pF (fun _ => ?_) (fun _ => ?_) | refine GG.run ?_ | refine GG.sT ?_) | refine DS.block ?_ | refine DS.skip ?_) | refine DS.pcS inferInstance (hk) yR yT ?_ | refine DS.retT [] yE trivial ?_ | fail)
      all_goals first
        | (exfalso; omega)
        | ((try rw [prevL_zero (by assumption)] at HI); (try rw [prevL_pos (by assumption) hp] at HI); simp only [anyO_none, anyO_some, Bool.not_true, Bool.not_false, Bool.false_and, Bool.true_and, Bool.or_false, Bool.or_eq_true, decide_eq_true_eq, true_and, false_and, Bool.false_eq_true, if_false] at HI
           first
            | (rw [HI.out]; (repeat' split) <;> first | rfl | (exfalso; omega))
            | exact DS.back (HB.out (i + 1, m + 1) _ _ (by dsimp only; omega) ⟨by dsimp only; omega, by dsimp only; omega, by dsimp only; omega, by rw [HI.out, prevL_succ hi']; (repeat' split) <;> first | rfl | (exfalso; omega)⟩ yS yS (fun b o e => by cases e)))
    · repeat' (first | (with_reducible first | refine DS.fltS yU yU yE ?_ | refine DS.opsNil ?_ | refine DS.seq ?_ | refine DS.regionL ?_ | (refine DS.cE yE ?_; first | refine CG.p (fun _ => ?_) (fun _ => ?_) | refine CG.yes ?_ | refine CG.no ?_) | (refine DS.gE yU yE ?_; first | refine GG.sU ?_ | refine GG.pT (fun _ => ?_) (fun _ => ?_) | refine GG.pF (fun _ => ?_) (fun _ => ?_) | refine GG.run ?_ | refine GG.sF ?_ | refine GG.sT ?_) | refine DS.blk ?_ | refine DS.block ?_ | refine DS.skip ?_) | refine DS.pcS inferInstance (hk) yR yT ?_ | refine DS.retT [] yE trivial ?_ | fail)
      all_goals first
        | (exfalso; omega)
        | ((try rw [prevL_zero (by assumption)] at HI); (try rw [prevL_pos (by assumption) hp] at HI); simp only [anyO_none, anyO_some, Bool.not_true, Bool.not_false, Bool.false_and, Bool.true_and, Bool.or_false, Bool.or_eq_true, decide_eq_true_eq, true_and, false_and, Bool.false_eq_true, if_false] at HI
           first
            | (rw [HI.out]; (repeat' split) <;> first | rfl | (exfalso; omega))
            | exact DS.back (HB.out (i + 1, 1) _ _ (by dsimp only; omega) ⟨by dsimp only; omega, by dsimp only; omega, by dsimp only; omega, by rw [HI.out, prevL_succ hi']; (repeat' split) <;> first | rfl | (exfalso; omega)⟩ yS yS (fun b o e => by cases e)))
  · repeat' (first | (with_reducible first | refine DS.fltS yU yU yE ?_ | refine DS.opsNil ?_ | refine DS.seq ?_ | refine DS.regionL ?_ | (refine DS.cE yE ?_; refine CG.no ?_) | refine DS.exit yU ?_) | refine DS.retT [] yE trivial ?_ | fail)
    rw [hI2, drop_end hi]; rfl
theorem fkinds_pc (s:GSet) (l:List Int) (sv:Bool) (h0:gsetS s=0):PC Tryz.prog 133 [s.val,ints l,Bo sv] (I (fkGo s.plain s.copies sv l none 0)):=by
 cases sv
 ·exact fkinds_f s l h0
 ·exact fkinds_t s l h0
end Go.XL
namespace Go.XL
open Go.Proofs
set_option maxRecDepth 100000
set_option maxHeartbeats 4000000
theorem formS_ok {s:GSet} {f:Form} (h0:gsetS s=0) (hw:1≤f.what∧f.what≤6):formS s f=if f.wrong s=true then 3 else fkGo s.plain s.copies (decide (f.what=6)) f.kinds none 0:=by
 rw[formS,if_neg (by omega),if_neg (by omega)]
theorem form_pc (s:GSet) (f:Form):PC Tryz.prog 101 [s.val,f.val] (I (formS s f)):=by
 by_cases h0:gsetS s=0
 ·have ok:=gset_ok h0
  have hm:=ok.melds
  clear ok
  have hk:=fun sv=>fkinds_pc s f.kinds sv h0
  have hc:=tcheck_pc s
  rw[h0]at hc
  by_cases hw:1≤f.what∧f.what≤6
  ·rw[formS_ok h0 hw]
   have hcase:f.what=1∨f.what=2∨f.what=3∨f.what=4∨f.what=5∨f.what=6:=by omega
   clear hw h0
   rcases hcase with h|h|h|h|h|h
   ·refine DC.of_run Tryz.func101 rfl Tryz.ntmps101 Tryz.results101 (by simp) (fun _ _=>?_);simp only[argV_cons,argV_nil,go_sem,Nat.zero_add,Nat.reduceAdd]
    repeat' (first|(with_reducible first|refine DS.fltS yU yU yE ?_|refine DS.opsNil ?_|refine DS.seq ?_|refine DS.regionL ?_|(refine DS.cE yE ?_;first|refine CG.yes ?_|refine CG.no ?_)|(refine DS.gE yU yE ?_;first|refine GG.sU ?_|refine GG.pT (fun _=>?_) (fun _=>?_)|refine GG.run ?_|refine GG.sF ?_|refine GG.sT ?_|refine GG.bT (fun _=>?_) (fun _=>?_))|refine DS.blk ?_|refine DS.block ?_|refine DS.skip ?_)|refine DS.pcS inferInstance (hc) yR yT ?_|refine DS.pcS inferInstance (hk _) yR yT ?_|(refine DS.boxF (t:=2) yU yE yU ?_;simp only[cells_agg,cells_v,cells_lst,cells_fn,map_nil'',map_cons'',copy_own,copy_lst,copy_v,copy_at,copy_agg,copy_fn,copy_ifc,copy_tup])|(refine DS.boxF (t:=3) yU yE yU ?_;simp only[cells_agg,cells_v,cells_lst,cells_fn,map_nil'',map_cons'',copy_own,copy_lst,copy_v,copy_at,copy_agg,copy_fn,copy_ifc,copy_tup])|refine DS.retT [] yE trivial ?_|fail)
    all_goals (split <;> first|rfl|(simp[tupV,h];done)|(exfalso;clear hc hk;(try clear he);grind [Form.wrong]))
   ·refine DC.of_run Tryz.func101 rfl Tryz.ntmps101 Tryz.results101 (by simp) (fun _ _=>?_);simp only[argV_cons,argV_nil,go_sem,Nat.zero_add,Nat.reduceAdd]
    repeat' (first|(with_reducible first|refine DS.fltS yU yU yE ?_|refine DS.opsNil ?_|refine DS.seq ?_|refine DS.regionL ?_|(refine DS.cE yE ?_;first|refine CG.p (fun _=>?_) (fun _=>?_)|refine CG.yes ?_|refine CG.no ?_)|(refine DS.gE yU yE ?_;first|refine GG.sU ?_|refine GG.pT (fun _=>?_) (fun _=>?_)|refine GG.run ?_|refine GG.sF ?_|refine GG.sT ?_|refine GG.bT (fun _=>?_) (fun _=>?_))|refine DS.blk ?_|refine DS.block ?_|refine DS.skip ?_)|refine DS.pcS inferInstance (hc) yR yT ?_|refine DS.pcS inferInstance (hk _) yR yT ?_|(refine DS.boxF (t:=2) yU yE yU ?_;simp only[cells_agg,cells_v,cells_lst,cells_fn,map_nil'',map_cons'',copy_own,copy_lst,copy_v,copy_at,copy_agg,copy_fn,copy_ifc,copy_tup])|(refine DS.boxF (t:=3) yU yE yU ?_;simp only[cells_agg,cells_v,cells_lst,cells_fn,map_nil'',map_cons'',copy_own,copy_lst,copy_v,copy_at,copy_agg,copy_fn,copy_ifc,copy_tup])|refine DS.retT [] yE trivial ?_|fail)
    all_goals (split <;> first|rfl|(simp[tupV,h];done)|(exfalso;clear hc hk;(try clear he);grind [Form.wrong]))
   ·refine DC.of_run Tryz.func101 rfl Tryz.ntmps101 Tryz.results101 (by simp) (fun _ _=>?_);simp only[argV_cons,argV_nil,go_sem,Nat.zero_add,Nat.reduceAdd]
    repeat' (first|(with_reducible first|refine DS.fltS yU yU yE ?_|refine DS.opsNil ?_|refine DS.seq ?_|refine DS.regionL ?_|(refine DS.cE yE ?_;first|refine CG.np (fun _=>?_) (fun _=>?_)|refine CG.yes ?_|refine CG.no ?_)|(refine DS.gE yU yE ?_;first|refine GG.pT (fun _=>?_) (fun _=>?_)|refine GG.run ?_|refine GG.sF ?_|refine GG.sT ?_|refine GG.bT (fun _=>?_) (fun _=>?_))|refine DS.blk ?_|refine DS.block ?_|refine DS.skip ?_)|refine DS.pcS inferInstance (hc) yR yT ?_|refine DS.pcS inferInstance (hk _) yR yT ?_|(refine DS.boxF (t:=2) yU yE yU ?_;simp only[cells_agg,cells_v,cells_lst,cells_fn,map_nil'',map_cons'',copy_own,copy_lst,copy_v,copy_at,copy_agg,copy_fn,copy_ifc,copy_tup])|(refine DS.boxF (t:=3) yU yE yU ?_;simp only[cells_agg,cells_v,cells_lst,cells_fn,map_nil'',map_cons'',copy_own,copy_lst,copy_v,copy_at,copy_agg,copy_fn,copy_ifc,copy_tup])|refine DS.retT [] yE trivial ?_|fail)
    all_goals (split <;> first|rfl|(simp[tupV,h];done)|(exfalso;clear hc hk;(try clear he);grind [Form.wrong]))
   ·refine DC.of_run Tryz.func101 rfl Tryz.ntmps101 Tryz.results101 (by simp) (fun _ _=>?_);simp only[argV_cons,argV_nil,go_sem,Nat.zero_add,Nat.reduceAdd]
    repeat' (first|(with_reducible first|refine DS.fltS yU yU yE ?_|refine DS.opsNil ?_|refine DS.seq ?_|refine DS.regionL ?_|(refine DS.cE yE ?_;first|refine CG.yes ?_|refine CG.no ?_)|(refine DS.gE yU yE ?_;first|refine GG.sU ?_|refine GG.pT (fun _=>?_) (fun _=>?_)|refine GG.run ?_|refine GG.sF ?_|refine GG.sT ?_|refine GG.bT (fun _=>?_) (fun _=>?_))|refine DS.blk ?_|refine DS.block ?_|refine DS.skip ?_)|refine DS.pcS inferInstance (hc) yR yT ?_|refine DS.pcS inferInstance (hk _) yR yT ?_|(refine DS.boxF (t:=2) yU yE yU ?_;simp only[cells_agg,cells_v,cells_lst,cells_fn,map_nil'',map_cons'',copy_own,copy_lst,copy_v,copy_at,copy_agg,copy_fn,copy_ifc,copy_tup])|(refine DS.boxF (t:=3) yU yE yU ?_;simp only[cells_agg,cells_v,cells_lst,cells_fn,map_nil'',map_cons'',copy_own,copy_lst,copy_v,copy_at,copy_agg,copy_fn,copy_ifc,copy_tup])|refine DS.retT [] yE trivial ?_|fail)
    all_goals (split <;> first|rfl|(simp[tupV,h];done)|(exfalso;clear hc hk;(try clear he);grind [Form.wrong]))
   ·have he:=slEqual_pc s.suits [9,9,9]
    obtain⟨b,hb⟩: ∃b,b=decide (s.suits= [9,9,9]):=⟨_,rfl⟩
    rw[←hb]at he
    have HB:=Box.mk hb
    clear hb
    refine DC.of_run Tryz.func101 rfl Tryz.ntmps101 Tryz.results101 (by simp) (fun _ _=>?_);simp only[argV_cons,argV_nil,go_sem,Nat.zero_add,Nat.reduceAdd]
    repeat' (first|(with_reducible first|refine DS.fltS yU yU yE ?_|refine DS.opsNil ?_|refine DS.seq ?_|refine DS.regionL ?_|(refine DS.cE yE ?_;first|refine CG.p (fun _=>?_) (fun _=>?_)|refine CG.yes ?_|refine CG.no ?_)|(refine DS.gE yU yE ?_;first|refine GG.sU ?_|refine GG.pT (fun _=>?_) (fun _=>?_)|refine GG.run ?_|refine GG.sF ?_|refine GG.sT ?_|refine GG.nF (fun _=>?_) (fun _=>?_)|refine GG.bT (fun _=>?_) (fun _=>?_))|refine DS.blk ?_|refine DS.block ?_|refine DS.skip ?_)|(refine DS.bsl yU yE yE ?_;simp only[go_sem,Nat.zero_add,Nat.reduceAdd])|refine DS.pcS inferInstance (hc) yR yT ?_|refine DS.pcS inferInstance (hk _) yR yT ?_|refine DS.pcS inferInstance (he) yR yT ?_|(refine DS.boxF (t:=2) yU yE yU ?_;simp only[cells_agg,cells_v,cells_lst,cells_fn,map_nil'',map_cons'',copy_own,copy_lst,copy_v,copy_at,copy_agg,copy_fn,copy_ifc,copy_tup])|(refine DS.boxF (t:=3) yU yE yU ?_;simp only[cells_agg,cells_v,cells_lst,cells_fn,map_nil'',map_cons'',copy_own,copy_lst,copy_v,copy_at,copy_agg,copy_fn,copy_ifc,copy_tup])|refine DS.retT [] yE trivial ?_|fail)
    all_goals (have hb:=HB.out;clear HB;split <;> first|rfl|(simp[tupV,h];done)|(exfalso;clear hc hk;(try clear he);grind [Form.wrong]))
   ·refine DC.of_run Tryz.func101 rfl Tryz.ntmps101 Tryz.results101 (by simp) (fun _ _=>?_);simp only[argV_cons,argV_nil,go_sem,Nat.zero_add,Nat.reduceAdd]
    repeat' (first|(with_reducible first|refine DS.fltS yU yU yE ?_|refine DS.opsNil ?_|refine DS.seq ?_|refine DS.regionL ?_|(refine DS.cE yE ?_;first|refine CG.np (fun _=>?_) (fun _=>?_)|refine CG.yes ?_|refine CG.no ?_)|(refine DS.gE yU yE ?_;first|refine GG.pT (fun _=>?_) (fun _=>?_)|refine GG.run ?_|refine GG.sF ?_|refine GG.sT ?_|refine GG.bT (fun _=>?_) (fun _=>?_))|refine DS.blk ?_|refine DS.block ?_|refine DS.skip ?_)|refine DS.pcS inferInstance (hc) yR yT ?_|refine DS.pcS inferInstance (hk _) yR yT ?_|(refine DS.boxF (t:=2) yU yE yU ?_;simp only[cells_agg,cells_v,cells_lst,cells_fn,map_nil'',map_cons'',copy_own,copy_lst,copy_v,copy_at,copy_agg,copy_fn,copy_ifc,copy_tup])|(refine DS.boxF (t:=3) yU yE yU ?_;simp only[cells_agg,cells_v,cells_lst,cells_fn,map_nil'',map_cons'',copy_own,copy_lst,copy_v,copy_at,copy_agg,copy_fn,copy_ifc,copy_tup])|refine DS.retT [] yE trivial ?_|fail)
    all_goals (split <;> first|rfl|(simp[tupV,h];done)|(exfalso;clear hc hk;(try clear he);grind [Form.wrong]))
  ·rw[formS,if_neg (by omega),if_pos hw]
   refine DC.of_run Tryz.func101 rfl Tryz.ntmps101 Tryz.results101 (by simp) (fun _ _=>?_);simp only[argV_cons,argV_nil,go_sem,Nat.zero_add,Nat.reduceAdd]
   repeat' (first|(with_reducible first|refine DS.fltS yU yU yE ?_|refine DS.opsNil ?_|refine DS.seq ?_|refine DS.regionL ?_|(refine DS.cE yE ?_;first|refine CG.np (fun _=>?_) (fun _=>?_)|refine CG.p (fun _=>?_) (fun _=>?_)|refine CG.yes ?_|refine CG.no ?_)|(refine DS.gE yU yE ?_;first|refine GG.sU ?_|refine GG.npF (fun _=>?_) (fun _=>?_)|refine GG.pT (fun _=>?_) (fun _=>?_)|refine GG.pF (fun _=>?_) (fun _=>?_)|refine GG.run ?_|refine GG.sF ?_|refine GG.sT ?_|refine GG.bT (fun _=>?_) (fun _=>?_))|refine DS.blk ?_|refine DS.block ?_|refine DS.skip ?_)|(refine DS.bsl yU yE yE ?_;simp only[go_sem,Nat.zero_add,Nat.reduceAdd])|refine DS.pcS inferInstance (hc) yR yT ?_|refine DS.pcS inferInstance (hk _) yR yT ?_|(refine DS.boxF (t:=2) yU yE yU ?_;simp only[cells_agg,cells_v,cells_lst,cells_fn,map_nil'',map_cons'',copy_own,copy_lst,copy_v,copy_at,copy_agg,copy_fn,copy_ifc,copy_tup])|(refine DS.boxF (t:=3) yU yE yU ?_;simp only[cells_agg,cells_v,cells_lst,cells_fn,map_nil'',map_cons'',copy_own,copy_lst,copy_v,copy_at,copy_agg,copy_fn,copy_ifc,copy_tup])|refine DS.retT [] yE trivial ?_|fail)
   all_goals first|rfl|(exfalso;omega)
 ·have hc:=tcheck_pc s
  rw[formS,if_pos h0]
  refine DC.of_run Tryz.func101 rfl Tryz.ntmps101 Tryz.results101 (by simp) (fun _ _=>?_);simp only[argV_cons,argV_nil,go_sem,Nat.zero_add,Nat.reduceAdd]
  repeat' (first|(with_reducible first|refine DS.fltS yU yU yE ?_|refine DS.opsNil ?_|refine DS.seq ?_|refine DS.regionL ?_|(refine DS.cE yE ?_;refine CG.yes ?_))|refine DS.pcS inferInstance (hc) yR yT ?_|(refine DS.boxF (t:=2) yU yE yU ?_;simp only[cells_agg,cells_v,cells_lst,cells_fn,map_nil'',map_cons'',copy_own,copy_lst,copy_v,copy_at,copy_agg,copy_fn,copy_ifc,copy_tup])|(refine DS.boxF (t:=3) yU yE yU ?_;simp only[cells_agg,cells_v,cells_lst,cells_fn,map_nil'',map_cons'',copy_own,copy_lst,copy_v,copy_at,copy_agg,copy_fn,copy_ifc,copy_tup])|refine DS.retT [] yE trivial ?_|fail)
  all_goals first|rfl|(exfalso;omega)
end Go.XL
namespace Go.XL
open Go.Proofs
set_option maxRecDepth 100000
set_option maxHeartbeats 4000000
theorem formsGo_at {s:GSet} {l:List Form} {i:Nat} (hi:i<l.length):formsGo s (l.drop i)=if formS s l[i]≠0 then formS s l[i]else formsGo s (l.drop (i+1)):=by
 rw[List.drop_eq_getElem_cons hi,formsGo]
theorem forms_pc (s:GSet) (l:List Form):PC Tryz.prog 64 [s.val,formsV l] (I (formsS s l)):=by
 have hc:=tcheck_pc s
 refine DC.of_run Tryz.func64 rfl Tryz.ntmps64 Tryz.results64 (by simp) (fun _ _=>?_);simp only[argV_cons,argV_nil,go_sem,Nat.zero_add,Nat.reduceAdd]
 refine DS.bnd (t:=1) yG (.inl rfl) (fun hb1=>?_);simp only[List.length_map]at hb1
 by_cases h0:gsetS s=0
 ·rw[h0]at hc
  repeat' (first|(with_reducible first|refine DS.fltS yU yU yE ?_|refine DS.opsNil ?_|refine DS.seq ?_|refine DS.regionL ?_|(refine DS.cE yE ?_;first|refine CG.p (fun _=>?_) (fun _=>?_)|refine CG.no ?_)|refine DS.blk ?_|refine DS.block ?_|refine DS.skip ?_)|refine DS.pcS inferInstance (hc) yR yT ?_|(refine DS.boxF (t:=2) yU yE yU ?_;simp only[cells_agg,cells_v,cells_lst,cells_fn,map_nil'',map_cons'',copy_own,copy_lst,copy_v,copy_at,copy_agg,copy_fn,copy_ifc,copy_tup])|refine DS.retT [] yE trivial ?_|fail)
  all_goals try first|(rw[formsS,if_neg (by omega),if_pos (by omega)];rfl)|(rw[formsS,if_neg (by omega),if_neg (by omega),if_pos (by omega)];rfl)
  refine DS.loopK [2,22,23] yN (fun(i:Nat)=> [(24,I i)]) (fun(i:Nat)=>i≤l.length∧formsS s l=formsGo s (l.drop i)) (fun(i:Nat)=>l.length-i) 0 yS ⟨Nat.zero_le _,by rw[formsS,if_neg (by omega),if_neg (by omega),if_neg (by omega)];rfl⟩ (fun i B hI hB=>?_);try dsimp only at hI hB;simp only[app_cons',app_nil']
  have HB:=Box.mk hB
  clear hB
  obtain⟨hI,hI2⟩:=hI
  by_cases hi:(i:Int)<(l.length:Int)
  ·have hi':i<l.length:=by omega
   rw[formsGo_at hi']at hI2
   have HI:=Box.mk hI2
   clear hI2
   have hf:=form_pc s l[i]
   by_cases he:formS s l[i]=0
   ·rw[he]at hf
    repeat' (first|(with_reducible first|refine DS.fltS yU yU yE ?_|refine DS.opsNil ?_|refine DS.seq ?_|refine DS.regionL ?_|(refine DS.cE yE ?_;first|refine CG.yes ?_|refine CG.no ?_)|refine DS.blk ?_|refine DS.block ?_|refine DS.skip ?_)|(refine DS.letF (t:=7) yU yE yU (fun _=>yE) yE yU (by exact⟨by with_unfolding_all rfl,by with_unfolding_all decide⟩) (fun _=>by simp only[go_sem,Nat.reduceEqDiff,↓reduceIte]) ?_;simp only[go_sem])|refine DS.pcS inferInstance (hf) yR yT ?_|fail)
    exact DS.back (HB.out (i+1) _ _ (by omega) ⟨by omega,by rw[HI.out,if_neg (by omega)]⟩ yS yS (fun b o e=>by cases e))
   ·repeat' (first|(with_reducible first|refine DS.fltS yU yU yE ?_|refine DS.opsNil ?_|refine DS.seq ?_|refine DS.regionL ?_|(refine DS.cE yE ?_;refine CG.yes ?_)|refine DS.block ?_|refine DS.skip ?_)|(refine DS.letF (t:=7) yU yE yU (fun _=>yE) yE yU (by exact⟨by with_unfolding_all rfl,by with_unfolding_all decide⟩) (fun _=>by simp only[go_sem,Nat.reduceEqDiff,↓reduceIte]) ?_;simp only[go_sem])|refine DS.pcS inferInstance (hf) yR yT ?_|refine DS.retT [] yE trivial ?_|fail)
    all_goals first|(rw[HI.out,if_pos he];rfl)|(exfalso;omega)
  ·repeat' (first|(with_reducible first|refine DS.fltS yU yU yE ?_|refine DS.opsNil ?_|refine DS.seq ?_|refine DS.regionL ?_|(refine DS.cE yE ?_;refine CG.no ?_)|refine DS.exit yU ?_)|refine DS.retT [] yE trivial ?_|fail)
   rw[hI2,drop_end hi];rfl
 ·repeat' (first|(with_reducible first|refine DS.fltS yU yU yE ?_|refine DS.opsNil ?_|refine DS.seq ?_|refine DS.regionL ?_|(refine DS.cE yE ?_;refine CG.yes ?_))|refine DS.pcS inferInstance (hc) yR yT ?_|(refine DS.boxF (t:=2) yU yE yU ?_;simp only[cells_agg,cells_v,cells_lst,cells_fn,map_nil'',map_cons'',copy_own,copy_lst,copy_v,copy_at,copy_agg,copy_fn,copy_ifc,copy_tup])|refine DS.retT [] yE trivial ?_|fail)
  all_goals first|(rw[formsS,if_pos h0];rfl)|(exfalso;omega)
theorem othersGo_at {own many:Int} {l:List Int} {i:Nat} (hi:i<l.length) (p:Option Int):othersGo own many (l.drop i) p=if ¬(0≤l[i]∧l[i]≤many-1)then 2 else if l[i]=own then 12 else if anyO (fun q=>decide (l[i]≤q)) p=true then 11 else othersGo own many (l.drop (i+1)) (some l[i]):=by
 rw[List.drop_eq_getElem_cons hi,othersGo]
theorem others_pc (l : List Int) (own many : Int) (hm : 0 ≤ many ∧ many ≤ 1000000) : PC Tryz.prog 106 [ints l, I own, I many] (I (othersS l own many)) := by
  refine DC.of_run Tryz.func106 rfl Tryz.ntmps106 Tryz.results106 (by simp) (fun _ _ => ?_); simp only [argV_cons, argV_nil, go_sem, Nat.zero_add, Nat.reduceAdd]
  refine DS.bnd (t := 0) yG (.inl rfl) (fun hb0 => ?_); simp only [List.length_map] at hb0
  repeat' (first | (with_reducible first | refine DS.fltS yU yU yE ?_ | refine DS.opsNil ?_ | refine DS.seq ?_ | refine DS.regionL ?_ | (refine DS.cE yE ?_; refine CG.p (fun _ => ?_) (fun _ => ?_)) | refine DS.block ?_ | refine DS.skip ?_) | refine DS.retT [] yE trivial ?_ | fail)
  · simp [tupV, othersS, *]
  refine DS.loopK [0, 1, 2, 12, 13] yN (fun (i : Nat) => [(14, I i)]) (fun (i : Nat) => i ≤ l.length ∧ othersS l own many = othersGo own many (l.drop i) (prevL l i)) (fun (i : Nat) => l.length - i) 0 yS (by simp [othersS, prevL, *]) (fun i B hI hB => ?_); try dsimp only at hI hB; simp only [app_cons', app_nil']
  have HB := Box.mk hB
  clear hB
  obtain ⟨hI, hI2⟩ := hI
  by_cases hi : (i : Int) < (l.length : Int)
  · have hi' : i < l.length := by omega
    have hp : i - 1 < l.length := by omega
    rw [othersGo_at hi'] at hI2
    have HI := Box.mk hI2
    clear hI2
    repeat' (first | (with_reducible first | refine DS.fltS yU yU yE ?_ | refine DS.opsNil ?_ | refine DS.seq ?_ | refine DS.regionL ?_ | (refine DS.cE yE ?_; first | refine CG.np (fun _ => ?_) (fun _ => ?_) | refine CG.p (fun _ => ?_) (fun _ => ?_) | refine CG.yes ?_ | refine CG.no ?_) | (refine DS.gE yU yE ?_; first | refine GG.pT (fun _ => ?_) (fun _ => ?_) | refine GG.run ?_ | refine GG.sF ?_) | refine DS.blk ?_ | refine DS.block ?_ | refine DS.skip ?_) | refine DS.pcS inferInstance (hfrom_pc _ _ _) yR yT ?_ | refine DS.retT [] yE trivial ?_ | fail)
    all_goals first
      | (exfalso; omega)
      | ((try rw [prevL_zero (by assumption)] at HI); (try rw [prevL_pos (by assumption) hp] at HI); (try simp only [anyO_none, anyO_some, decide_eq_true_eq, Bool.false_eq_true, if_false] at HI)
         first
          | (rw [HI.out]; (repeat' split) <;> first | rfl | (exfalso; omega))
          | exact DS.back (HB.out (i + 1) _ _ (by omega) ⟨by omega, by rw [HI.out, prevL_succ hi']; (repeat' split) <;> first | rfl | (exfalso; omega)⟩ yS yS (fun b o e => by cases e)))
  · repeat' (first | (with_reducible first | refine DS.fltS yU yU yE ?_ | refine DS.opsNil ?_ | refine DS.seq ?_ | refine DS.regionL ?_ | (refine DS.cE yE ?_; refine CG.no ?_) | refine DS.exit yU ?_) | refine DS.retT [] yE trivial ?_ | fail)
    rw [hI2, drop_end hi]; rfl
end Go.XL
namespace Go.XL
open Go.Proofs
set_option maxRecDepth 100000
set_option maxHeartbeats 8000000
theorem kinds_bd' (s:GSet):0≤kindsS s∧kindsS s≤1000:=by
 by_cases h:gsetS s=0
 ·have:=(gset_ok h).plain
  rw[kindsS,if_neg (by omega)];omega
 ·rw[kindsS,if_pos h];omega
theorem feedsGo_at {s:GSet} {l:List Feed} {i:Nat} (hi:i<l.length):feedsGo s (l.drop i)=if(l[i].kinds.length:Int)=0 then 6 else if ascS (kindsS s) l[i].kinds≠0 then ascS (kindsS s) l[i].kinds else if ¬(1≤l[i].many∧l[i].many≤s.melds)then 2 else feedsGo s (l.drop (i+1)):=by
 rw[List.drop_eq_getElem_cons hi,feedsGo]
theorem feeds_pc (s:GSet) (l:List Feed):PC Tryz.prog 109 [s.val, .lst (l.map Feed.cells)] (I (if 4<(l.length:Int)then 8 else feedsGo s l)):=by
 have hk:=tkinds_pc s
 have hb:=kinds_bd' s
 refine DC.of_run Tryz.func109 rfl Tryz.ntmps109 Tryz.results109 (by simp) (fun _ _=>?_);simp only[argV_cons,argV_nil,go_sem,Nat.zero_add,Nat.reduceAdd]
 repeat' (first|(with_reducible first|refine DS.fltS yU yU yE ?_|refine DS.opsNil ?_|refine DS.seq ?_|refine DS.regionL ?_|(refine DS.cE yE ?_;refine CG.p (fun _=>?_) (fun _=>?_))|refine DS.block ?_|refine DS.skip ?_)|(refine DS.boxF (t:=2) yU yE yU ?_;simp only[cells_agg,cells_v,cells_lst,cells_fn,map_nil'',map_cons'',copy_own,copy_lst,copy_v,copy_at,copy_agg,copy_fn,copy_ifc,copy_tup])|refine DS.retT [] yE trivial ?_|fail)
 ·rw[if_pos (by omega)];rfl
 rename_i h4
 rw[if_neg (by omega)]
 refine DS.loopK [2,11,12] yN (fun(i:Nat)=> [(13,I i)]) (fun(i:Nat)=>i≤l.length∧feedsGo s l=feedsGo s (l.drop i)) (fun(i:Nat)=>l.length-i) 0 yS ⟨Nat.zero_le _,rfl⟩ (fun i B hI hB=>?_);try dsimp only at hI hB;simp only[app_cons',app_nil']
 have HB:=Box.mk hB
 clear hB
 obtain⟨hI,hI2⟩:=hI
 by_cases hi:(i:Int)<(l.length:Int)
 ·have hi':i<l.length:=by omega
  rw[feedsGo_at hi']at hI2
  have HI:=Box.mk hI2
  clear hI2
  have hr:=hrising_pc (kindsS s) l[i].kinds hb
  by_cases h1:(l[i].kinds.length:Int)=0
  ·repeat' (first|(with_reducible first|refine DS.fltS yU yU yE ?_|refine DS.opsNil ?_|refine DS.seq ?_|refine DS.regionL ?_|(refine DS.cE yE ?_;refine CG.yes ?_)|refine DS.block ?_|refine DS.skip ?_)|(refine DS.letF (t:=6) yU yE yU (fun _=>yE) yE yU (by exact⟨by with_unfolding_all rfl,by with_unfolding_all decide⟩) (fun _=>by simp only[go_sem,Nat.reduceEqDiff,↓reduceIte]) ?_;simp only[go_sem])|refine DS.retT [] yE trivial ?_|fail)
   all_goals first|(rw[HI.out,if_pos h1];rfl)|(exfalso;omega)
  ·by_cases h2:ascS (kindsS s) l[i].kinds=0
   ·rw[h2]at hr
    repeat' (first|(with_reducible first|refine DS.fltS yU yU yE ?_|refine DS.opsNil ?_|refine DS.seq ?_|refine DS.regionL ?_|(refine DS.cE yE ?_;first|refine CG.np (fun _=>?_) (fun _=>?_)|refine CG.yes ?_|refine CG.no ?_)|refine DS.blk ?_|refine DS.block ?_|refine DS.skip ?_)|(refine DS.letF (t:=6) yU yE yU (fun _=>yE) yE yU (by exact⟨by with_unfolding_all rfl,by with_unfolding_all decide⟩) (fun _=>by simp only[go_sem,Nat.reduceEqDiff,↓reduceIte]) ?_;simp only[go_sem])|refine DS.pcS inferInstance (hr) yR yT ?_|refine DS.pcS inferInstance (hfrom_pc _ _ _) yR yT ?_|refine DS.drawL (id:=8) [0,1,2,3] 4 (by kernel_rfl) mixed (by simp only[pickL_cons,pickL_nil,get_zero',get_cons',pickO_some];exact rfl) (by simp only[drop_zero',drop_cons',List.drop_nil];exact rfl) ?_|(with_reducible first|refine DD.fltS yU yU yU yE ?_|refine DD.nil0 ?_)|refine DD.pcV0 inferInstance (hk) yU yT ?_|refine DS.retT [] yE trivial ?_|fail)
    all_goals first
     | (exfalso;omega)
     | (rw[HI.out,if_neg h1,if_neg (by omega),if_pos (by omega)];rfl)
     | exact DS.back (HB.out (i+1) _ _ (by omega) ⟨by omega,by rw[HI.out,if_neg h1,if_neg (by omega),if_neg (by omega)]⟩ yS yS (fun b o e=>by cases e))
   ·repeat' (first|(with_reducible first|refine DS.fltS yU yU yE ?_|refine DS.opsNil ?_|refine DS.seq ?_|refine DS.regionL ?_|(refine DS.cE yE ?_;first|refine CG.yes ?_|refine CG.no ?_)|refine DS.block ?_|refine DS.skip ?_)|(refine DS.letF (t:=6) yU yE yU (fun _=>yE) yE yU (by exact⟨by with_unfolding_all rfl,by with_unfolding_all decide⟩) (fun _=>by simp only[go_sem,Nat.reduceEqDiff,↓reduceIte]) ?_;simp only[go_sem])|refine DS.pcS inferInstance (hr) yR yT ?_|refine DS.drawL (id:=8) [0,1,2,3] 4 (by kernel_rfl) mixed (by simp only[pickL_cons,pickL_nil,get_zero',get_cons',pickO_some];exact rfl) (by simp only[drop_zero',drop_cons',List.drop_nil];exact rfl) ?_|(with_reducible first|refine DD.fltS yU yU yU yE ?_|refine DD.nil0 ?_)|refine DD.pcV0 inferInstance (hk) yU yT ?_|refine DS.retT [] yE trivial ?_|fail)
    all_goals first|(rw[HI.out,if_neg h1,if_pos h2];rfl)|(exfalso;omega)
 ·repeat' (first|(with_reducible first|refine DS.fltS yU yU yE ?_|refine DS.opsNil ?_|refine DS.seq ?_|refine DS.regionL ?_|(refine DS.cE yE ?_;refine CG.no ?_)|refine DS.exit yU ?_)|refine DS.retT [] yE trivial ?_|fail)
  rw[hI2,drop_end hi];rfl
theorem places_in {l:List Int} (h:placesB l=true): ∀x∈l,-1000000≤x∧x≤1000000:=fun x hx=>by
 simp only[placesB,List.all_eq_true]at h
 have:=h x hx
 simpa using this
theorem pay_pc (s:GSet) (p:Pay):PC Tryz.prog 71 [s.val,p.val] (I (payS s p)):=by
 have hc:=tcheck_pc s
 by_cases h0:gsetS s=0
 ·have hpl:=(gset_ok h0).players
  rw[h0]at hc
  have hf:=feeds_pc s p.feeds
  have ha1:=hall_pc 0 1000000 [p.basic,p.counter,p.stick,p.pool,p.foul,p.start]
  have ha2:=hall_pc (-1000000) 1000000 p.places
  have e1:([p.basic,p.counter,p.stick,p.pool,p.foul,p.start].all fun n=>decide (0≤n∧n≤1000000))=(ptB p.basic&&ptB p.counter&&ptB p.stick&&ptB p.pool&&ptB p.foul&&ptB p.start):=by
   simp[ptB,Bool.and_assoc]
  have e2:(p.places.all fun n=>decide (-1000000≤n∧n≤1000000))=placesB p.places:=rfl
  rw[e1]at ha1
  rw[e2]at ha2
  clear e1 e2
  have hpay:payS s p=if ¬(1≤p.mode∧p.mode≤3)then 4 else
   if(ptB p.basic&&ptB p.counter&&ptB p.stick&&ptB p.pool&&ptB p.foul&&ptB p.start)=false then 2 else if p.pool % 6≠0 then 2 else if ¬(1≤p.rounds∧p.rounds≤16)then 2 else if ¬(0≤p.stay∧p.stay≤7)then 2 else
   if 0<(p.places.length:Int)∧(p.places.length:Int)≠s.players then 3 else if placesB p.places=false then 2 else if sumI p.places≠0 then 12 else
   if 4<(p.feeds.length:Int)then 8 else feedsGo s p.feeds:=by rw[payS,if_neg (by omega)]
  have hpool:(ptB p.basic&&ptB p.counter&&ptB p.stick&&ptB p.pool&&ptB p.foul&&ptB p.start)=true→0≤p.pool:=by
   simp only[ptB,Bool.and_eq_true,decide_eq_true_eq];omega
  have hin:=fun h=>places_in (l:=p.places) h
  generalize (ptB p.basic&&ptB p.counter&&ptB p.stick&&ptB p.pool&&ptB p.foul&&ptB p.start)=B1 at *
  generalize placesB p.places=B2 at *
  rw[hpay]
  clear hpay
  by_cases hm:1≤p.mode∧p.mode≤3
  ·rw[if_neg (by omega)]
   cases B1 with
   | false =>
    rw[if_pos rfl]
    refine DC.of_run Tryz.func71 rfl Tryz.ntmps71 Tryz.results71 (by simp) (fun _ _=>?_);simp only[argV_cons,argV_nil,go_sem,Nat.zero_add,Nat.reduceAdd]
    repeat' (first|(with_reducible first|refine DS.fltS yU yU yE ?_|refine DS.opsNil ?_|refine DS.seq ?_|refine DS.regionL ?_|(refine DS.cE yE ?_;first|refine CG.yes ?_|refine CG.no ?_)|(refine DS.gE yU yE ?_;refine GG.sT ?_)|refine DS.skip ?_)|(refine DS.bsl yU yE yE ?_;simp only[go_sem,Nat.zero_add,Nat.reduceAdd])|refine DS.pcS inferInstance (hc) yR yF ?_|refine DS.pcS inferInstance (hfrom_pc _ _ _) yR yF ?_|refine DS.pcS inferInstance (ha1) yR yF ?_|(refine DS.boxF (t:=2) yU yE yU ?_;simp only[cells_agg,cells_v,cells_lst,cells_fn,map_nil'',map_cons'',copy_own,copy_lst,copy_v,copy_at,copy_agg,copy_fn,copy_ifc,copy_tup])|(refine DS.boxF (t:=3) yU yE yU ?_;simp only[cells_agg,cells_v,cells_lst,cells_fn,map_nil'',map_cons'',copy_own,copy_lst,copy_v,copy_at,copy_agg,copy_fn,copy_ifc,copy_tup])|refine DS.retT [] yE trivial ?_|fail)
    all_goals first|rfl|(exfalso;omega)
   | true =>
    rw[if_neg (by decide)]
    have ht:p.pool.tmod 6=p.pool % 6:=Int.tmod_eq_emod_of_nonneg (hpool rfl)
    have ht2:=Int.emod_nonneg p.pool (show(6:Int)≠0 by decide)
    clear hpool
    by_cases hx:p.pool % 6=0∧(1≤p.rounds∧p.rounds≤16)∧(0≤p.stay∧p.stay≤7)
    ·obtain⟨hx1,hx2,hx3⟩:=hx
     rw[if_neg (by omega),if_neg (by omega),if_neg (by omega)]
     have ht3: ¬(0:Int)<p.pool % 6:=by omega
     clear hx1 ht2
     by_cases hx4:0<(p.places.length:Int)∧(p.places.length:Int)≠s.players
     ·rw[if_pos hx4]
      obtain⟨hx5,hx6⟩:=hx4
      refine DC.of_run Tryz.func71 rfl Tryz.ntmps71 Tryz.results71 (by simp) (fun _ _=>?_);simp only[argV_cons,argV_nil,go_sem,Nat.zero_add,Nat.reduceAdd]
      repeat' (first|(with_reducible first|refine DS.fltS yU yU yE ?_|refine DS.opsNil ?_|refine DS.seq ?_|refine DS.regionL ?_|(refine DS.cE yE ?_;first|refine CG.yes ?_|refine CG.no ?_)|(refine DS.gE yU yE ?_;refine GG.run ?_)|refine DS.skip ?_)|(refine DS.bsl yU yE yE ?_;simp only[go_sem,Nat.zero_add,Nat.reduceAdd])|refine DS.pcS inferInstance (hc) yR yF ?_|refine DS.pcS inferInstance (hfrom_pc _ _ _) yR yF ?_|refine DS.pcS inferInstance (ha1) yR yF ?_|(refine DS.boxF (t:=2) yU yE yU ?_;simp only[cells_agg,cells_v,cells_lst,cells_fn,map_nil'',map_cons'',copy_own,copy_lst,copy_v,copy_at,copy_agg,copy_fn,copy_ifc,copy_tup])|(refine DS.boxF (t:=3) yU yE yU ?_;simp only[cells_agg,cells_v,cells_lst,cells_fn,map_nil'',map_cons'',copy_own,copy_lst,copy_v,copy_at,copy_agg,copy_fn,copy_ifc,copy_tup])|refine DS.retT [] yE trivial ?_|fail)
      all_goals first|rfl|(exfalso;omega)
     ·rw[if_neg hx4]
      cases B2 with
      | false =>
       rw[if_pos rfl]
       refine DC.of_run Tryz.func71 rfl Tryz.ntmps71 Tryz.results71 (by simp) (fun _ _=>?_);simp only[argV_cons,argV_nil,go_sem,Nat.zero_add,Nat.reduceAdd]
       repeat' (first|(with_reducible first|refine DS.fltS yU yU yE ?_|refine DS.opsNil ?_|refine DS.seq ?_|refine DS.regionL ?_|(refine DS.cE yE ?_;first|refine CG.np (fun _=>?_) (fun _=>?_)|refine CG.yes ?_|refine CG.no ?_)|(refine DS.gE yU yE ?_;first|refine GG.pT (fun _=>?_) (fun _=>?_)|refine GG.run ?_|refine GG.sF ?_)|refine DS.skip ?_)|(refine DS.bsl yU yE yE ?_;simp only[go_sem,Nat.zero_add,Nat.reduceAdd])|refine DS.pcS inferInstance (hc) yR yF ?_|refine DS.pcS inferInstance (hfrom_pc _ _ _) yR yF ?_|refine DS.pcS inferInstance (ha1) yR yF ?_|refine DS.pcS inferInstance (ha2) yR yF ?_|(refine DS.boxF (t:=2) yU yE yU ?_;simp only[cells_agg,cells_v,cells_lst,cells_fn,map_nil'',map_cons'',copy_own,copy_lst,copy_v,copy_at,copy_agg,copy_fn,copy_ifc,copy_tup])|(refine DS.boxF (t:=3) yU yE yU ?_;simp only[cells_agg,cells_v,cells_lst,cells_fn,map_nil'',map_cons'',copy_own,copy_lst,copy_v,copy_at,copy_agg,copy_fn,copy_ifc,copy_tup])|refine DS.retT [] yE trivial ?_|fail)
       all_goals first|rfl|(exfalso;omega)
      | true =>
       rw[if_neg (by decide)]
       have hin:=hin rfl
       have hl:(p.places.length:Int)≤4:=by omega
       have hx5:=Box.mk hx4
       clear hx4
       refine DC.of_run Tryz.func71 rfl Tryz.ntmps71 Tryz.results71 (by simp) (fun _ _=>?_);simp only[argV_cons,argV_nil,go_sem,Nat.zero_add,Nat.reduceAdd]
       repeat' (first|(with_reducible first|refine DS.fltS yU yU yE ?_|refine DS.opsNil ?_|refine DS.seq ?_|refine DS.regionL ?_|(refine DS.cE yE ?_;first|refine CG.np (fun _=>?_) (fun _=>?_)|refine CG.no ?_)|(refine DS.gE yU yE ?_;first|refine GG.pT (fun _=>?_) (fun _=>?_)|refine GG.run ?_|refine GG.sF ?_)|refine DS.block ?_|refine DS.skip ?_)|(refine DS.bsl yU yE yE ?_;simp only[go_sem,Nat.zero_add,Nat.reduceAdd])|refine DS.pcS inferInstance (hc) yR yF ?_|refine DS.pcS inferInstance (hfrom_pc _ _ _) yR yF ?_|refine DS.pcS inferInstance (ha1) yR yF ?_|refine DS.pcS inferInstance (ha2) yR yF ?_|(refine DS.boxF (t:=2) yU yE yU ?_;simp only[cells_agg,cells_v,cells_lst,cells_fn,map_nil'',map_cons'',copy_own,copy_lst,copy_v,copy_at,copy_agg,copy_fn,copy_ifc,copy_tup])|(refine DS.boxF (t:=3) yU yE yU ?_;simp only[cells_agg,cells_v,cells_lst,cells_fn,map_nil'',map_cons'',copy_own,copy_lst,copy_v,copy_at,copy_agg,copy_fn,copy_ifc,copy_tup])|refine DS.retT [] yE trivial ?_|fail)
       all_goals try (exfalso;have:=hx5.out;omega)
       ·refine DS.loopK [2,3,68,69] yN (fun(z:Nat×Int)=> [(6,I z.2),(70,I z.1)]) (fun(z:Nat×Int)=>z.1≤p.places.length∧z.2=sumI (p.places.take z.1)) (fun(z:Nat×Int)=>p.places.length-z.1) (0,0) yS ⟨Nat.zero_le _,rfl⟩ (fun z B hI hB=>?_);try dsimp only at hI hB;simp only[app_cons',app_nil']
        have HB:=Box.mk hB
        clear hB
        obtain⟨i,kk⟩:=z
        dsimp only at hI ⊢
        obtain⟨hI,hI1⟩:=hI
        have hbd:=sumI_bd (l:=p.places.take i) (lo := -1000000) (hi:=1000000) fun x hx=>hin x (List.mem_of_mem_take hx)
        rw[List.length_take,Nat.min_eq_left hI,←hI1]at hbd
        have H1:=Box.mk hI1
        clear hI1
        by_cases hi:(i:Int)<s.players
        ·have hi':i<p.places.length:=by omega
         have hx:=hin _ (List.getElem_mem hi')
         have e:=sumI_take hi'
         have H2:=Box.mk e
         clear e
         repeat' (first|(with_reducible first|refine DS.fltS yU yU yE ?_|refine DS.opsNil ?_|refine DS.seq ?_|refine DS.regionL ?_|(refine DS.cE yE ?_;refine CG.yes ?_)|refine DS.blk ?_|refine DS.block ?_|refine DS.skip ?_)|fail)
         exact DS.back (HB.out (i+1,kk+p.places[i]) _ _ (by dsimp only;omega) ⟨by dsimp only;omega,by dsimp only;rw[H2.out,H1.out]⟩ yS yS (fun b o e=>by cases e))
        ·have e:kk=sumI p.places:=by rw[H1.out,List.take_of_length_le (by omega)]
         rw[←e]
         clear e
         repeat' (first|(with_reducible first|refine DS.fltS yU yU yE ?_|refine DS.opsNil ?_|refine DS.seq ?_|refine DS.regionL ?_|(refine DS.cE yE ?_;first|refine CG.np (fun _=>?_) (fun _=>?_)|refine CG.no ?_)|refine DS.exit yU ?_|refine DS.skip ?_)|refine DS.pcS inferInstance (hf) yR yT ?_|refine DS.retT [] yE trivial ?_|fail)
         all_goals first
          | (rw[if_pos (show kk≠0 by omega)];rfl)
          | (rw[if_neg (show ¬kk≠0 by omega)];first|rfl|(rw[if_pos (by omega)];rfl)|(rw[if_neg (by omega)];rfl))
       ·refine DS.loopK [2,3,68,69] yN (fun(z:Nat×Int)=> [(6,I z.2),(70,I z.1)]) (fun(z:Nat×Int)=>z.1≤p.places.length∧z.2=sumI (p.places.take z.1)) (fun(z:Nat×Int)=>p.places.length-z.1) (0,0) yS ⟨Nat.zero_le _,rfl⟩ (fun z B hI hB=>?_);try dsimp only at hI hB;simp only[app_cons',app_nil']
        have HB:=Box.mk hB
        clear hB
        obtain⟨i,kk⟩:=z
        dsimp only at hI ⊢
        obtain⟨hI,hI1⟩:=hI
        have hbd:=sumI_bd (l:=p.places.take i) (lo := -1000000) (hi:=1000000) fun x hx=>hin x (List.mem_of_mem_take hx)
        rw[List.length_take,Nat.min_eq_left hI,←hI1]at hbd
        have H1:=Box.mk hI1
        clear hI1
        by_cases hi:(i:Int)<(p.places.length:Int)
        ·exfalso;omega
        ·have e:kk=sumI p.places:=by rw[H1.out,List.take_of_length_le (by omega)]
         rw[←e]
         clear e
         repeat' (first|(with_reducible first|refine DS.fltS yU yU yE ?_|refine DS.opsNil ?_|refine DS.seq ?_|refine DS.regionL ?_|(refine DS.cE yE ?_;first|refine CG.np (fun _=>?_) (fun _=>?_)|refine CG.no ?_)|refine DS.exit yU ?_|refine DS.skip ?_)|refine DS.pcS inferInstance (hf) yR yT ?_|refine DS.retT [] yE trivial ?_|fail)
         all_goals first
          | (rw[if_pos (show kk≠0 by omega)];rfl)
          | (rw[if_neg (show ¬kk≠0 by omega)];first|rfl|(rw[if_pos (by omega)];rfl)|(rw[if_neg (by omega)];rfl))
    ·have e:(if p.pool % 6≠0 then(2:Int)else if ¬(1≤p.rounds∧p.rounds≤16)then 2 else if ¬(0≤p.stay∧p.stay≤7)then 2 else
   if 0<(p.places.length:Int)∧(p.places.length:Int)≠s.players then 3 else if B2=false then 2 else if sumI p.places≠0 then 12 else
   if 4<(p.feeds.length:Int)then 8 else feedsGo s p.feeds)=2:=by
      by_cases a1:p.pool % 6=0
      ·by_cases a2:1≤p.rounds∧p.rounds≤16
       ·rw[if_neg (by omega),if_neg (by omega),if_pos (by omega)]
       ·rw[if_neg (by omega),if_pos (by omega)]
      ·rw[if_pos a1]
     rw[e]
     refine DC.of_run Tryz.func71 rfl Tryz.ntmps71 Tryz.results71 (by simp) (fun _ _=>?_);simp only[argV_cons,argV_nil,go_sem,Nat.zero_add,Nat.reduceAdd]
     repeat' (first|(with_reducible first|refine DS.fltS yU yU yE ?_|refine DS.opsNil ?_|refine DS.seq ?_|refine DS.regionL ?_|(refine DS.cE yE ?_;first|refine CG.np (fun _=>?_) (fun _=>?_)|refine CG.yes ?_|refine CG.no ?_|refine CG.nb (fun _=>?_) (fun _=>?_))|(refine DS.gE yU yE ?_;first|refine GG.npF (fun _=>?_) (fun _=>?_)|refine GG.pT (fun _=>?_) (fun _=>?_)|refine GG.pF (fun _=>?_) (fun _=>?_)|refine GG.run ?_|refine GG.sF ?_|refine GG.sT ?_)|refine DS.block ?_|refine DS.skip ?_)|(refine DS.bsl yU yE yE ?_;simp only[go_sem,Nat.zero_add,Nat.reduceAdd])|refine DS.pcS inferInstance (hc) yR yF ?_|refine DS.pcS inferInstance (hfrom_pc _ _ _) yR yF ?_|refine DS.pcS inferInstance (ha1) yR yF ?_|refine DS.pcS inferInstance (ha2) yR yF ?_|(refine DS.boxF (t:=2) yU yE yU ?_;simp only[cells_agg,cells_v,cells_lst,cells_fn,map_nil'',map_cons'',copy_own,copy_lst,copy_v,copy_at,copy_agg,copy_fn,copy_ifc,copy_tup])|(refine DS.boxF (t:=3) yU yE yU ?_;simp only[cells_agg,cells_v,cells_lst,cells_fn,map_nil'',map_cons'',copy_own,copy_lst,copy_v,copy_at,copy_agg,copy_fn,copy_ifc,copy_tup])|refine DS.retT [] yE trivial ?_|fail)
     all_goals first|rfl|(exfalso;omega)
  ·rw[if_pos hm]
   refine DC.of_run Tryz.func71 rfl Tryz.ntmps71 Tryz.results71 (by simp) (fun _ _=>?_);simp only[argV_cons,argV_nil,go_sem,Nat.zero_add,Nat.reduceAdd]
   repeat' (first|(with_reducible first|refine DS.fltS yU yU yE ?_|refine DS.opsNil ?_|refine DS.seq ?_|refine DS.regionL ?_|(refine DS.cE yE ?_;first|refine CG.yes ?_|refine CG.no ?_)|refine DS.skip ?_)|refine DS.pcS inferInstance (hc) yR yF ?_|refine DS.pcS inferInstance (hfrom_pc _ _ _) yR yF ?_|(refine DS.boxF (t:=2) yU yE yU ?_;simp only[cells_agg,cells_v,cells_lst,cells_fn,map_nil'',map_cons'',copy_own,copy_lst,copy_v,copy_at,copy_agg,copy_fn,copy_ifc,copy_tup])|(refine DS.boxF (t:=3) yU yE yU ?_;simp only[cells_agg,cells_v,cells_lst,cells_fn,map_nil'',map_cons'',copy_own,copy_lst,copy_v,copy_at,copy_agg,copy_fn,copy_ifc,copy_tup])|refine DS.retT [] yE trivial ?_|fail)
   all_goals first|rfl|(exfalso;omega)
 ·rw[payS,if_pos h0]
  refine DC.of_run Tryz.func71 rfl Tryz.ntmps71 Tryz.results71 (by simp) (fun _ _=>?_);simp only[argV_cons,argV_nil,go_sem,Nat.zero_add,Nat.reduceAdd]
  repeat' (first|(with_reducible first|refine DS.fltS yU yU yE ?_|refine DS.opsNil ?_|refine DS.seq ?_|refine DS.regionL ?_|(refine DS.cE yE ?_;refine CG.yes ?_))|refine DS.pcS inferInstance (hc) yR yT ?_|(refine DS.boxF (t:=2) yU yE yU ?_;simp only[cells_agg,cells_v,cells_lst,cells_fn,map_nil'',map_cons'',copy_own,copy_lst,copy_v,copy_at,copy_agg,copy_fn,copy_ifc,copy_tup])|(refine DS.boxF (t:=3) yU yE yU ?_;simp only[cells_agg,cells_v,cells_lst,cells_fn,map_nil'',map_cons'',copy_own,copy_lst,copy_v,copy_at,copy_agg,copy_fn,copy_ifc,copy_tup])|refine DS.retT [] yE trivial ?_|fail)
  all_goals first|rfl|(exfalso;omega)
def rowP (p:Play) (j:Nat):Int×Int×Int:= [(p.heads,1,3),(p.last,0,144),(p.rob,0,2),(p.kongs,0,16),(p.nines,0,34),(p.time,1,1000),(p.foul,1,2),(p.indicators,0,5)].getD j (0,0,0)
abbrev tabP (p:Play):List V:= [I p.heads,I 1,I 3,I p.last,I 0,I 144,I p.rob,I 0,I 2,I p.kongs,I 0,I 16,I p.nines,I 0,I 34,I p.time,I 1,I 1000,I p.foul,I 1,I 2,I p.indicators,I 0,I 5]
theorem tabP_row (p:Play): ∀(j:Nat),j<8→(((tabP p).drop ((j:Int).toNat*3)).take 3).map V.peek= [I (rowP p j).1,I (rowP p j).2.1,I (rowP p j).2.2]
 | 0,_=>rfl
 | 1,_=>rfl
 | 2,_=>rfl
 | 3,_=>rfl
 | 4,_=>rfl
 | 5,_=>rfl
 | 6,_=>rfl
 | 7,_=>rfl
 | _+8,h=>by omega
theorem play_tab {s:GSet} {p:Play} (h0:gsetS s=0) :
  (∀j,j<8→(rowP p j).2.1≤(rowP p j).1∧(rowP p j).1≤(rowP p j).2.2)∨playS s p=2:=by
 rw[playS,if_neg (by omega)]
 by_cases a1:1≤p.heads∧p.heads≤3
 ·rw[if_neg (by omega)]
  by_cases a2:0≤p.last∧p.last≤144
  ·rw[if_neg (by omega)]
   by_cases a3:0≤p.rob∧p.rob≤2
   ·rw[if_neg (by omega)]
    by_cases a4:0≤p.kongs∧p.kongs≤16
    ·rw[if_neg (by omega)]
     by_cases a5:0≤p.nines∧p.nines≤34
     ·rw[if_neg (by omega)]
      by_cases a6:1≤p.time∧p.time≤1000
      ·rw[if_neg (by omega)]
       by_cases a7:1≤p.foul∧p.foul≤2
       ·rw[if_neg (by omega)]
        by_cases a8:0≤p.indicators∧p.indicators≤5
        ·refine .inl fun j hj=>?_
         match j,hj with
         | 0,_=>exact a1
         | 1,_=>exact a2
         | 2,_=>exact a3
         | 3,_=>exact a4
         | 4,_=>exact a5
         | 5,_=>exact a6
         | 6,_=>exact a7
         | 7,_=>exact a8
        ·right;rw[if_pos a8]
       ·right;rw[if_pos a7]
      ·right;rw[if_pos a6]
     ·right;rw[if_pos a5]
    ·right;rw[if_pos a4]
   ·right;rw[if_pos a3]
  ·right;rw[if_pos a2]
 ·right;rw[if_pos a1]
theorem play_in {s:GSet} {p:Play} (h0:gsetS s=0) (h: ∀j,j<8→(rowP p j).2.1≤(rowP p j).1∧(rowP p j).1≤(rowP p j).2.2):playS s p=if 2*p.indicators > s.dead then 6 else 0:=by
 have a1:1≤p.heads∧p.heads≤3:=h 0 (by omega)
 have a2:0≤p.last∧p.last≤144:=h 1 (by omega)
 have a3:0≤p.rob∧p.rob≤2:=h 2 (by omega)
 have a4:0≤p.kongs∧p.kongs≤16:=h 3 (by omega)
 have a5:0≤p.nines∧p.nines≤34:=h 4 (by omega)
 have a6:1≤p.time∧p.time≤1000:=h 5 (by omega)
 have a7:1≤p.foul∧p.foul≤2:=h 6 (by omega)
 have a8:0≤p.indicators∧p.indicators≤5:=h 7 (by omega)
 rw[playS,if_neg (by omega),if_neg (by omega),if_neg (by omega),if_neg (by omega),if_neg (by omega),if_neg (by omega),if_neg (by omega),if_neg (by omega),if_neg (by omega)]
theorem play_pc (s:GSet) (p:Play):PC Tryz.prog 73 [s.val,p.val] (I (playS s p)):=by
 have hc:=tcheck_pc s
 by_cases h0:gsetS s=0
 ·rw[h0]at hc
  have HT:=Box.mk (And.intro (play_tab (p:=p) h0) (play_in (p:=p) h0))
  refine DC.of_run Tryz.func73 rfl Tryz.ntmps73 Tryz.results73 (by simp) (fun _ _=>?_);simp only[argV_cons,argV_nil,go_sem,Nat.zero_add,Nat.reduceAdd]
  repeat' (first|(with_reducible first|refine DS.fltS yU yU yE ?_|refine DS.opsNil ?_|refine DS.seq ?_|refine DS.regionL ?_|(refine DS.cE yE ?_;refine CG.no ?_)|refine DS.block ?_|refine DS.skip ?_)|refine DS.pcS inferInstance (hc) yR yT ?_|(refine DS.boxF (t:=2) yU yE yU ?_;simp only[cells_agg,cells_v,cells_lst,cells_fn,map_nil'',map_cons'',copy_own,copy_lst,copy_v,copy_at,copy_agg,copy_fn,copy_ifc,copy_tup])|(refine DS.boxF (t:=3) yU yE yU ?_;simp only[cells_agg,cells_v,cells_lst,cells_fn,map_nil'',map_cons'',copy_own,copy_lst,copy_v,copy_at,copy_agg,copy_fn,copy_ifc,copy_tup])|fail)
  refine DS.loopK [2,3,37] yN (fun(j:Nat)=> [(38,I j)]) (fun(j:Nat)=>j≤8∧ ∀m,m<j→(rowP p m).2.1≤(rowP p m).1∧(rowP p m).1≤(rowP p m).2.2) (fun(j:Nat)=>8-j) 0 yS ⟨Nat.zero_le _,fun m h=>by omega⟩ (fun j B hI hB=>?_);try dsimp only at hI hB;simp only[app_cons',app_nil']
  obtain⟨hJ,hJ2⟩:=hI
  have HJ:=Box.mk (And.intro hJ2 hB)
  clear hJ2 hB
  by_cases hj:(j:Int)<8
  ·repeat' (first|(with_reducible first|refine DS.fltS yU yU yE ?_|refine DS.opsNil ?_|refine DS.seq ?_|refine DS.regionL ?_|(refine DS.cE yE ?_;refine CG.yes ?_)|refine DS.block ?_|refine DS.skip ?_)|fail)
   refine DS.indexA (e:=178) (m:=3) (c:=tabP p) (by decide) (by kernel_rfl) (by kernel_rfl) yH yH (Int.natCast_nonneg _) hj (by show(j:Int).toNat*3+3≤24;omega) ?_
   rw[tabP_row p j (by omega)]
   generalize hq:rowP p j=q at *
   obtain⟨x,lo,hi2⟩:=q
   dsimp only
   by_cases hok:lo≤x∧x≤hi2
   ·repeat' (first|(with_reducible first|refine DS.fltS yU yU yE ?_|refine DS.opsNil ?_|refine DS.seq ?_|refine DS.regionL ?_|(refine DS.cE yE ?_;refine CG.no ?_)|refine DS.blk ?_|refine DS.skip ?_)|(refine DS.letF (t:=7) yU yE yU (fun _=>yE) yE yU (by exact⟨by with_unfolding_all rfl,by with_unfolding_all decide⟩) (fun _=>by simp only[go_sem,Nat.reduceEqDiff,↓reduceIte]) ?_;simp only[go_sem])|refine DS.pcS inferInstance (hfrom_pc _ _ _) yR yT ?_|fail)
    all_goals first
     | exact DS.back (HJ.out.2 (j+1) _ _ (by omega) ⟨by omega,fun m hm=>if h:m=j then(by subst h;rw[hq];exact hok)else HJ.out.1 m (by omega)⟩ yS yS (fun b o e=>by cases e))
     | (exfalso;omega)
   ·have e:playS s p=2:=HT.out.1.resolve_left fun h=>hok (by have:=h j (by omega);rw[hq]at this;exact this)
    rw[e]
    repeat' (first|(with_reducible first|refine DS.fltS yU yU yE ?_|refine DS.opsNil ?_|refine DS.seq ?_|refine DS.regionL ?_|(refine DS.cE yE ?_;refine CG.yes ?_))|(refine DS.letF (t:=7) yU yE yU (fun _=>yE) yE yU (by exact⟨by with_unfolding_all rfl,by with_unfolding_all decide⟩) (fun _=>by simp only[go_sem,Nat.reduceEqDiff,↓reduceIte]) ?_;simp only[go_sem])|refine DS.pcS inferInstance (hfrom_pc _ _ _) yR yT ?_|refine DS.retT [] yE trivial ?_|fail)
    all_goals first|rfl|(exfalso;omega)
  ·have h4: ∀j,j<8→(rowP p j).2.1≤(rowP p j).1∧(rowP p j).1≤(rowP p j).2.2:=fun m hm=>HJ.out.1 m (by omega)
   have e:=HT.out.2 h4
   have a8:0≤p.indicators∧p.indicators≤5:=h4 7 (by omega)
   rw[e]
   clear HT HJ e h4
   repeat' (first|(with_reducible first|refine DS.fltS yU yU yE ?_|refine DS.opsNil ?_|refine DS.seq ?_|refine DS.regionL ?_|(refine DS.cE yE ?_;first|refine CG.p (fun _=>?_) (fun _=>?_)|refine CG.no ?_)|refine DS.exit yU ?_|refine DS.skip ?_)|refine DS.retT [] yE trivial ?_|fail)
   ·rw[if_pos (by omega)];rfl
   ·rw[if_neg (by omega)];rfl
 ·rw[playS,if_pos h0]
  refine DC.of_run Tryz.func73 rfl Tryz.ntmps73 Tryz.results73 (by simp) (fun _ _=>?_);simp only[argV_cons,argV_nil,go_sem,Nat.zero_add,Nat.reduceAdd]
  repeat' (first|(with_reducible first|refine DS.fltS yU yU yE ?_|refine DS.opsNil ?_|refine DS.seq ?_|refine DS.regionL ?_|(refine DS.cE yE ?_;refine CG.yes ?_))|refine DS.pcS inferInstance (hc) yR yT ?_|(refine DS.boxF (t:=2) yU yE yU ?_;simp only[cells_agg,cells_v,cells_lst,cells_fn,map_nil'',map_cons'',copy_own,copy_lst,copy_v,copy_at,copy_agg,copy_fn,copy_ifc,copy_tup])|(refine DS.boxF (t:=3) yU yE yU ?_;simp only[cells_agg,cells_v,cells_lst,cells_fn,map_nil'',map_cons'',copy_own,copy_lst,copy_v,copy_at,copy_agg,copy_fn,copy_ifc,copy_tup])|refine DS.retT [] yE trivial ?_|fail)
  all_goals first|rfl|(exfalso;omega)
end Go.XL
namespace Go.Proofs
open Go.Shelf
def Tryz.lays160_ren :Go.Shelf.Ren:=⟨fun|160=>134|232=>161|231=>160|227=>162|234=>164|233=>163|236=>166|235=>165|228=>178|271=>181|151=>180|197=>179|120=>186|152=>185|260=>184|137=>188|119=>189|224=>190|225=>191|217=>192|266=>193|n=>n,fun|9=>9|4=>4|3=>3|5=>5|117=>216|116=>215|0=>0|124=>219|21=>21|105=>231|46=>104|119=>237|139=>240|138=>239|n=>n,fun|3=>2|4=>3|n=>n⟩
theorem Tryz.lays160 :Go.Proofs.Lays.n160 Tryz.prog Tryz.lays160_ren:={
 mixed:=by kernel_rfl
 f119:=Tryz.func189.trans (congrArg some (by kernel_rfl))
 f120:=Tryz.func186.trans (congrArg some (by kernel_rfl))
 f137:=Tryz.func188.trans (congrArg some (by kernel_rfl))
 f151:=Tryz.func180.trans (congrArg some (by kernel_rfl))
 f152:=Tryz.func185.trans (congrArg some (by kernel_rfl))
 f160:=Tryz.func134.trans (congrArg some (by kernel_rfl))
 f197:=Tryz.func179.trans (congrArg some (by kernel_rfl))
 f217:=Tryz.func192.trans (congrArg some (by kernel_rfl))
 f224:=Tryz.func190.trans (congrArg some (by kernel_rfl))
 f225:=Tryz.func191.trans (congrArg some (by kernel_rfl))
 f227:=Tryz.func162.trans (congrArg some (by kernel_rfl))
 f228:=Tryz.func178.trans (congrArg some (by kernel_rfl))
 f231:=Tryz.func160.trans (congrArg some (by kernel_rfl))
 f232:=Tryz.func161.trans (congrArg some (by kernel_rfl))
 f233:=Tryz.func163.trans (congrArg some (by kernel_rfl))
 f234:=Tryz.func164.trans (congrArg some (by kernel_rfl))
 f235:=Tryz.func165.trans (congrArg some (by kernel_rfl))
 f236:=Tryz.func166.trans (congrArg some (by kernel_rfl))
 f260:=Tryz.func184.trans (congrArg some (by kernel_rfl))
 f266:=Tryz.func193.trans (congrArg some (by kernel_rfl))
 f271:=Tryz.func181.trans (congrArg some (by kernel_rfl))
 t0:=Tryz.underlying0
 a0:=Tryz.isAgg0
 z0:=Tryz.sizeOf0
 v0:=Tryz.zeroValue0
 t3:=Tryz.underlying3
 a3:=Tryz.isAgg3
 z3:=Tryz.sizeOf3
 v3:=Tryz.zeroValue3
 t4:=Tryz.underlying4
 a4:=Tryz.isAgg4
 z4:=Tryz.sizeOf4
 v4:=Tryz.zeroValue4
 t5:=Tryz.underlying5
 a5:=Tryz.isAgg5
 z5:=Tryz.sizeOf5
 v5:=Tryz.zeroValue5
 t9:=Tryz.underlying9
 a9:=Tryz.isAgg9
 z9:=Tryz.sizeOf9
 v9:=Tryz.zeroValue9
 t21:=Tryz.underlying21
 a21:=Tryz.isAgg21
 z21:=Tryz.sizeOf21
 v21:=Tryz.zeroValue21
 t46:=Tryz.underlying104
 a46:=Tryz.isAgg104
 z46:=Tryz.sizeOf104
 v46:=Tryz.zeroValue104
 t105:=Tryz.underlying231
 a105:=Tryz.isAgg231
 z105:=Tryz.sizeOf231
 v105:=Tryz.zeroValue231
 t116:=Tryz.underlying215
 a116:=Tryz.isAgg215
 z116:=Tryz.sizeOf215
 t117:=Tryz.underlying216
 a117:=Tryz.isAgg216
 z117:=Tryz.sizeOf216
 v117:=Tryz.zeroValue216
 t119:=Tryz.underlying237
 a119:=Tryz.isAgg237
 z119:=Tryz.sizeOf237
 t124:=Tryz.underlying219
 a124:=Tryz.isAgg219
 z124:=Tryz.sizeOf219
 v124:=Tryz.zeroValue219
 t138:=Tryz.underlying239
 a138:=Tryz.isAgg239
 z138:=Tryz.sizeOf239
 v138:=Tryz.zeroValue239
 t139:=Tryz.underlying240
 a139:=Tryz.isAgg240
 z139:=Tryz.sizeOf240
 v139:=Tryz.zeroValue240
 g3:=by kernel_rfl
 g4:=by kernel_rfl}
end Go.Proofs
namespace Go.XL
open Go.Proofs
set_option maxRecDepth 100000
set_option maxHeartbeats 4000000
theorem RlL_raw_eq {hv:VH}: ∀{cs ys:List Value},RlL hv (cs.map V.v) ys→ys=cs
 | [],ys,h=>by simpa only[List.map_nil,RlL] using h
 | c::r,ys,h=>by
  simp only[List.map_cons,RlL]at h
  obtain⟨z,zs,rfl,h1,h2⟩:=h
  simp only[V.Rl]at h1
  rw[h1,RlL_raw_eq h2]
theorem PC.of_below {P:Program} {f:FuncId} {xs:List Value} {y:Value} (h: ∀w:World,Calls P f xs.toArray w fun e w'=>e = .returned y∧Go.RowKit.Below w.heap.size w w'):PC P f (xs.map V.v) (.v y):=by
 intro v0 K hv hold h0 ys hp hr s w hw
 obtain rfl:=RlL_raw_eq hr
 subst hw
 refine(h w).mono fun e w' ⟨he,hb⟩=>⟨y,he,⟨hb.os,hb.tape,hb.output⟩, .v y,[],hv,hold,PreV.refl hv,⟨fun b o e=>?_,fun t v e=>?_,fun b o e=>(by cases e),s.held,⟨s.base.1,Nat.le_trans s.base.2.1 hb.size,fun b hB=>?_⟩,s.vbase⟩,rfl⟩
 ·obtain⟨o',h1,h2⟩:=s.pre b o e
  exact⟨o',by rw[hb.block b (Array.getElem?_eq_some_iff.1 h1).1];exact h1,h2⟩
 ·simp only[lookV]at e
  split at e
  ·rename_i h1
   subst h1
   cases e
   exact⟨y,by simp[look],V.Rl_v,trivial⟩
  ·cases e
 ·rw[hb.block b (Nat.lt_of_lt_of_le (s.base.1 b hB) s.base.2.1)]
  exact s.base.2.2 b hB
def nameL :List UInt8:= [97,98,99,100,101,102,103,104,105,106,107,108,109,110,111,112,113,114,115,116,117,118,119,120,121,122,48,49,50,51,52,53,54,55,56,57,45]
theorem nameL_in (c:UInt8):nameL.contains c=nameC c:=by
 have h: ∀n:_root_.Fin 256,nameL.contains (UInt8.ofNat n.val)=nameC (UInt8.ofNat n.val):=by decide
 have:=h ⟨c.toNat,c.toNat_lt⟩
 simpa using this
theorem dropW_nil {p:UInt8→Bool}: ∀{l:List UInt8},l.dropWhile p= []↔l.all p=true
 | []=>by simp
 | a::l=>by
  rw[List.dropWhile_cons,List.all_cons]
  cases h:p a with
  | true=>simp[dropW_nil]
  | false=>simp
theorem trim_nil (l:List UInt8):Lib.trimS l nameL= []↔l.all nameC=true:=by
 have e:(fun c:UInt8=>nameL.contains c)=nameC:=funext nameL_in
 have h1:Lib.trimS l nameL=(Lib.trimRightS l nameL).dropWhile nameC:=by rw[Lib.trimS,Lib.trimLeftS];rw[e]
 have h2:Lib.trimRightS l nameL=(l.reverse.dropWhile nameC).reverse:=by rw[Lib.trimRightS];rw[e]
 rw[h1,dropW_nil,h2,List.all_reverse]
 constructor
 ·intro h
  have h3:l.reverse.dropWhile nameC= []:=by
   cases hd:l.reverse.dropWhile nameC with
   | nil=>rfl
   | cons a r =>
    have h4:=List.head?_dropWhile_not nameC l.reverse
    rw[hd]at h4 h
    simp only[List.head?_cons,List.all_cons,Bool.and_eq_true]at h4 h
    rw[h.1]at h4
    simp at h4
  have h5:=dropW_nil.1 h3
  rwa [List.all_reverse]at h5
 ·intro h
  have h3:l.reverse.dropWhile nameC= []:=dropW_nil.2 (by rw[List.all_reverse];exact h)
  rw[h3];rfl
theorem trim_pc (s:ByteArray) (hs:s.size≤9223372036854775807):PC Tryz.prog 134 [St8 s,St8 ⟨nameL.toArray⟩] (St8 ⟨(Lib.trimS s.data.toList nameL).toArray⟩) :=
 PC.of_below (xs:= [.string s, .string ⟨nameL.toArray⟩]) fun w=>Any.strings_Trim_laid Tryz.lays160 (by kernel_rfl) s ⟨nameL.toArray⟩ w hs (by decide) (ascii_of_all (by decide))
theorem named_pc (s:ByteArray):PC Tryz.prog 102 [St8 s] (Bo (namedB s)):=by
 refine DC.of_run Tryz.func102 rfl Tryz.ntmps102 Tryz.results102 (by simp) (fun _ _=>?_);simp only[argV_cons,argV_nil,go_sem,Nat.zero_add,Nat.reduceAdd]
 by_cases h:1≤(s.size:Int)∧(s.size:Int)≤24
 ·have ht:=trim_pc s (by omega)
  repeat' (first|(with_reducible first|refine DS.fltS yU yU yE ?_|refine DS.opsNil ?_|refine DS.seq ?_|refine DS.regionL ?_|(refine DS.gE yU yE ?_;refine GG.run ?_))|refine DS.pcS inferInstance (hfrom_pc _ _ _) yR yT ?_|refine DS.pcS inferInstance (ht) yR yT ?_|refine DS.retT [] yE trivial ?_|fail)
  have e:namedB s=s.data.toList.all nameC:=by simp[namedB,h]
  have h2:=trim_nil s.data.toList
  rw[e]
  simp only[tupV,ByteArray.mk.injEq]
  congr 2
  rw[Bool.eq_iff_iff,decide_eq_true_eq,←h2]
  constructor
  ·intro h3
   have:=congrArg Array.toList h3
   simpa using this
  ·intro h3;rw[h3]
 ·have e:namedB s=false:=by simp[namedB,h]
  rw[e]
  repeat' (first|(with_reducible first|refine DS.fltS yU yU yE ?_|refine DS.opsNil ?_|refine DS.seq ?_|refine DS.regionL ?_|(refine DS.gE yU yE ?_;refine GG.sF ?_))|refine DS.pcS inferInstance (hfrom_pc _ _ _) yR yT ?_|refine DS.retT [] yE trivial ?_|fail)
  all_goals first|rfl|(exfalso;omega)
end Go.XL
namespace Go.XL
open Go.Proofs
set_option maxRecDepth 100000
set_option maxHeartbeats 8000000
theorem indexFuncP_pc (l:List Pattern) {g:FuncId} {fs cs:List V} {fn:Func} (p:Pattern→Bool) (hf:FnOk Tryz.prog g fn) (h: ∀m:Pattern,PC Tryz.prog g (fs++ [m.val]++cs) (Bo (p m))) :
  PC Tryz.prog 135 [patsV l, .fn g fs cs] (I (idxF p l 0)):=by
 refine DC.of_run Tryz.func135 rfl Tryz.ntmps135 Tryz.results135 (by simp) (fun _ _=>?_);simp only[argV_cons,argV_nil,go_sem,Nat.zero_add,Nat.reduceAdd]
 refine DS.bnd (t:=0) yG (.inl rfl) (fun hb0=>?_);simp only[List.length_map]at hb0
 repeat' (first|(with_reducible first|refine DS.fltS yU yU yE ?_|refine DS.opsNil ?_|refine DS.seq ?_|refine DS.regionL ?_|refine DS.block ?_)|fail)
 refine DS.loopK [0,1,7] yN (fun(i:Nat)=> [(8,I i)]) (fun(i:Nat)=>i≤l.length∧idxF p l 0=idxF p (l.drop i) i) (fun(i:Nat)=>l.length-i) 0 yS (by simp) (fun i B hI hB=>?_);try dsimp only at hI hB;simp only[app_cons',app_nil']
 have HB:=Box.mk hB
 clear hB
 by_cases hi:(i:Int)<(l.length:Int)
 ·have hi':i<l.length:=by omega
  cases hp:p l[i]with
  | true =>
   have:=idxF_hit (p:=p) (l:=l) (i:=i) hi' hp
   repeat' (first|(with_reducible first|refine DS.fltS yU yU yE ?_|refine DS.opsNil ?_|refine DS.seq ?_|refine DS.regionL ?_|(refine DS.cE yE ?_;refine CG.yes ?_)|refine DS.block ?_|refine DS.skip ?_)|fail)
   refine DS.pcVS hf (by simp (disch:=omega) only[go_sem,dopV,yV0,↓reduceIte,Nat.reduceEqDiff,Nat.reduceLT,Nat.reduceLeDiff,Nat.reduceAdd,Nat.reduceMul,Nat.reduceSub,Int.reduceToNat,Int.reduceLT,Int.reduceLE,Int.reduceEq,IntWalk.toNatUp,IntWalk.iteOmega,IntWalk.i64_in,V.flat,V.one]) (h l[i]) yR yH ?_
   repeat' (first|(with_reducible first|refine DS.fltS yU yU yE ?_|refine DS.opsNil ?_|refine DS.seq ?_|refine DS.regionL ?_|(refine DS.cE yE ?_;refine CG.yes ?_))|refine DS.retT [] yE trivial ?_|fail)
   rw[hI.2,this];rfl
  | false =>
   repeat' (first|(with_reducible first|refine DS.fltS yU yU yE ?_|refine DS.opsNil ?_|refine DS.seq ?_|refine DS.regionL ?_|(refine DS.cE yE ?_;refine CG.yes ?_)|refine DS.block ?_|refine DS.skip ?_)|fail)
   refine DS.pcVS hf (by simp (disch:=omega) only[go_sem,dopV,yV0,↓reduceIte,Nat.reduceEqDiff,Nat.reduceLT,Nat.reduceLeDiff,Nat.reduceAdd,Nat.reduceMul,Nat.reduceSub,Int.reduceToNat,Int.reduceLT,Int.reduceLE,Int.reduceEq,IntWalk.toNatUp,IntWalk.iteOmega,IntWalk.i64_in,V.flat,V.one]) (h l[i]) yR yH ?_
   repeat' (first|(with_reducible first|refine DS.fltS yU yU yE ?_|refine DS.opsNil ?_|refine DS.regionL ?_|(refine DS.cE yE ?_;refine CG.no ?_)|refine DS.blk ?_|refine DS.skip ?_)|fail)
   refine DS.back (HB.out (i+1) _ _ (by omega) ⟨by omega,by rw[hI.2,idxF_miss hi' hp]⟩ yS yS (fun b o e=>by cases e))
 ·repeat' (first|(with_reducible first|refine DS.fltS yU yU yE ?_|refine DS.opsNil ?_|refine DS.seq ?_|refine DS.regionL ?_|(refine DS.cE yE ?_;refine CG.no ?_)|refine DS.exit yU ?_)|refine DS.retT [] yE trivial ?_|fail)
  have:=idxF_end (p:=p) (l:=l) (i:=i) (by omega)
  simp only[tupV];rw[hI.2,this]
theorem containsFuncP_pc (l:List Pattern) {g:FuncId} {fs cs:List V} {fn:Func} (p:Pattern→Bool) (hf:FnOk Tryz.prog g fn) (h: ∀m:Pattern,PC Tryz.prog g (fs++ [m.val]++cs) (Bo (p m))) :
  PC Tryz.prog 103 [patsV l, .fn g fs cs] (Bo (l.any p)):=by
 have e:=idxF_any p l 0
 have hk:=indexFuncP_pc l p hf h
 refine DC.of_run Tryz.func103 rfl Tryz.ntmps103 Tryz.results103 (by simp) (fun _ _=>?_);simp only[argV_cons,argV_nil,go_sem,Nat.zero_add,Nat.reduceAdd]
 repeat' (first|(with_reducible first|refine DS.fltS yU yU yE ?_|refine DS.opsNil ?_|refine DS.seq ?_|refine DS.regionL ?_)|refine DS.pcS inferInstance (hk) yR yT ?_|refine DS.retT [] yE trivial ?_|fail)
 rw[←e];rfl
theorem patC_pc (q p:Pattern):PC Tryz.prog 104 [q.val, .plc p.cells] (Bo (decide (q.name=p.name))):=by
 refine DC.of_run Tryz.func104 rfl Tryz.ntmps104 Tryz.results104 (by simp) (fun _ _=>?_);simp only[argV_cons,argV_nil,go_sem,Nat.zero_add,Nat.reduceAdd]
 repeat' (first|(with_reducible first|refine DS.fltS yU yU yE ?_|refine DS.opsNil ?_|refine DS.seq ?_|refine DS.regionL ?_)|(refine DS.boxF (t:=2) yU yE yU ?_;simp only[cells_agg,cells_v,cells_lst,cells_fn,map_nil'',map_cons'',copy_own,copy_lst,copy_v,copy_at,copy_agg,copy_fn,copy_ifc,copy_tup])|refine DS.retT [] yE trivial ?_|fail)
 rfl
def CondPC (s:GSet) (l:List Node):Prop:=PC Tryz.prog 66 [s.val,nodesV l] (.tup [Bo (condX s l).1,I (condX s l).2])
theorem yX3 {p:Prop} (h:p:=by(simp (disch:=omega) only[go_sem,dopV,yV0,↓reduceIte,Nat.reduceEqDiff,Nat.reduceLT,Nat.reduceLeDiff,Nat.reduceAdd,Nat.reduceMul,Nat.reduceSub,Int.reduceToNat,Int.reduceLT,Int.reduceLE,Int.reduceEq,IntWalk.toNatUp,IntWalk.iteOmega,IntWalk.i64_in,V.flat,V.one, *,List.forall_mem_map,Pattern.len,implies_true,List.drop_zero];exact rfl)):p:=h
theorem yX4 {p:Prop} (h:p:=by(simp (disch:=omega) only[go_sem,dopV,yV0,↓reduceIte,Nat.reduceEqDiff,Nat.reduceLT,Nat.reduceLeDiff,Nat.reduceAdd,Nat.reduceMul,Nat.reduceSub,Int.reduceToNat,Int.reduceLT,Int.reduceLE,Int.reduceEq,IntWalk.toNatUp,IntWalk.iteOmega,IntWalk.i64_in,V.flat,V.one, *,List.forall_mem_map,Pattern.len,implies_true,List.drop_zero];first|done|exact rfl)):p:=h
theorem pattern_pc (h:House) (hl:h.patterns.length≤1000000) {i:Nat} (hi:i<h.patterns.length) (hc:CondPC h.set h.patterns[i].cond):PC Tryz.prog 65 [h.val,I i] (I (patS h i)):=by
 have e:h.pat i=h.patterns[i]:=by rw[House.pat,List.getD_eq_getElem?_getD,List.getElem?_eq_getElem hi];rfl
 have hn:=named_pc h.patterns[i].name
 have ha:=hall_pc 0 1000 [h.patterns[i].closed,h.patterns[i].open_]
 have hk:=containsFuncP_pc (h.patterns.take i) (g:=104) (fs:= []) (cs:= [.plc h.patterns[i].cells]) (fun q=>decide (q.name=h.patterns[i].name)) inferInstance (fun q=>patC_pc q h.patterns[i])
 have ho1:=others_pc h.patterns[i].excl i h.patterns.length ⟨by omega,by omega⟩
 have ho2:=others_pc h.patterns[i].impl i h.patterns.length ⟨by omega,by omega⟩
 have e1:([h.patterns[i].closed,h.patterns[i].open_].all fun n=>decide (0≤n∧n≤1000))=decide ((0≤h.patterns[i].closed∧h.patterns[i].closed≤1000)∧(0≤h.patterns[i].open_∧h.patterns[i].open_≤1000)):=by simp
 rw[e1]at ha
 clear e1
 unfold CondPC at hc
 rw[patS,e]
 clear e
 have hil:(i:Int)<(h.patterns.length:Int):=by omega
 have hsub:(List.map Pattern.cells h.patterns).take i=List.map Pattern.cells (h.patterns.take i):=by rw[List.map_take]
 generalize ((h.patterns.take i).any fun q=>decide (q.name=h.patterns[i].name))=B1 at hk ⊢
 generalize condX h.set h.patterns[i].cond=C at hc ⊢
 obtain⟨c1,c2⟩:=C
 dsimp only at hc ⊢
 generalize othersS h.patterns[i].excl i h.patterns.length=O1 at ho1 ⊢
 generalize othersS h.patterns[i].impl i h.patterns.length=O2 at ho2 ⊢
 generalize namedB h.patterns[i].name=N at hn ⊢
 refine DC.of_run Tryz.func65 rfl Tryz.ntmps65 Tryz.results65 (by simp) (fun _ _=>?_);simp only[argV_cons,argV_nil,go_sem,Nat.zero_add,Nat.reduceAdd]
 repeat' (first|(with_reducible first|refine DS.fltS yU yU yX3 ?_|refine DS.opsNil ?_|refine DS.seq ?_|refine DS.regionL ?_|(refine DS.cE yX3 ?_;first|refine CG.np (fun _=>?_) (fun _=>?_)|refine CG.nb (fun _=>?_) (fun _=>?_)|refine CG.b (fun _=>?_) (fun _=>?_))|refine DS.skip ?_)|(refine DS.bsl yU yX3 yX3 ?_;simp only[go_sem,Nat.zero_add,Nat.reduceAdd])|(refine DS.letF (t:=5) yU yX3 yU (fun _=>yX3) yX3 yU (by exact⟨by with_unfolding_all rfl,by with_unfolding_all decide⟩) (fun _=>by simp only[go_sem,Nat.reduceEqDiff,↓reduceIte]) ?_;simp only[go_sem])|refine DS.pcS inferInstance (hn) yR yX4 ?_|refine DS.pcS inferInstance (hk) yR yX4 ?_|refine DS.pcS inferInstance (ha) yR yX4 ?_|refine DS.pcS inferInstance (hc) yR yX4 ?_|refine DS.pcS inferInstance (ho1) yR yX4 ?_|refine DS.pcS inferInstance (ho2) yR yX4 ?_|(refine DS.boxF (t:=2) yU yX3 yU ?_;simp only[cells_agg,cells_v,cells_lst,cells_fn,map_nil'',map_cons'',copy_own,copy_lst,copy_v,copy_at,copy_agg,copy_fn,copy_ifc,copy_tup])|refine DS.retT [] yX3 trivial ?_|fail)
 all_goals (clear hn hk ha hc ho1 ho2;simp only[tupV];(repeat' split) <;> first|rfl|(exfalso;omega)|(exfalso;grind))
theorem houseC1_pc (h:House):PC Tryz.prog 68 [.plc h.cells] (I (scaleS h.scale)):=by
 have hs:=checkScale_pc h.scale
 refine DC.of_run Tryz.func68 rfl Tryz.ntmps68 Tryz.results68 (by simp) (fun _ _=>?_);simp only[argV_cons,argV_nil,go_sem,Nat.zero_add,Nat.reduceAdd]
 repeat' (first|(with_reducible first|refine DS.fltS yU yU yE ?_|refine DS.opsNil ?_|refine DS.seq ?_|refine DS.regionL ?_)|refine DS.pcS inferInstance (hs) yR yT ?_|refine DS.retT [] yE trivial ?_|fail)
 rfl
theorem houseC2_pc (h:House):PC Tryz.prog 70 [.plc h.cells] (I (payS h.set h.pay)):=by
 have hs:=pay_pc h.set h.pay
 refine DC.of_run Tryz.func70 rfl Tryz.ntmps70 Tryz.results70 (by simp) (fun _ _=>?_);simp only[argV_cons,argV_nil,go_sem,Nat.zero_add,Nat.reduceAdd]
 repeat' (first|(with_reducible first|refine DS.fltS yU yU yE ?_|refine DS.opsNil ?_|refine DS.seq ?_|refine DS.regionL ?_)|refine DS.pcS inferInstance (hs) yR yT ?_|refine DS.retT [] yE trivial ?_|fail)
 rfl
theorem houseC3_pc (h:House):PC Tryz.prog 72 [.plc h.cells] (I (playS h.set h.play)):=by
 have hs:=play_pc h.set h.play
 refine DC.of_run Tryz.func72 rfl Tryz.ntmps72 Tryz.results72 (by simp) (fun _ _=>?_);simp only[argV_cons,argV_nil,go_sem,Nat.zero_add,Nat.reduceAdd]
 repeat' (first|(with_reducible first|refine DS.fltS yU yU yE ?_|refine DS.opsNil ?_|refine DS.seq ?_|refine DS.regionL ?_)|refine DS.pcS inferInstance (hs) yR yT ?_|refine DS.retT [] yE trivial ?_|fail)
 rfl
end Go.XL
namespace Go.XL
section
variable {P:Program} {n:Nat} {r:Rr} {Q:VEnv→Sto→Prop} {k:List Fr} {E:VEnv} {S:Sto}
theorem DS.joinL {α:Type} {x:Code} (F:α→VEnv) (T:α→Sto) (I:α→Prop) (h1:DS P n r Q (.code x :: .back (fun E' S'=> ∃y,I y∧subV (F y) E'∧ ∀b o,lookS (T y) b=some o→lookS S' b=some o)::k) E S) (h2: ∀y,I y→DS P n r Q k (F y) (T y)):DS P n r Q (.code x::k) E S:=fun K W a w hs hw=>by
 refine wpIn_mono (h1 K W a w hs hw) fun e a2 w2 t=>?_
 cases e with
 | normal=>obtain⟨E3,S3,q1,q2,y,hy,q3,q4⟩:=t;exact DS.weaken (subV_look q3) q4 (h2 y hy) K W a2 w2 q1 q2
 | _=>exact t
end
end Go.XL
namespace Go.XL
open Go.Proofs
set_option maxRecDepth 100000
set_option maxHeartbeats 8000000
theorem nodesGo_at {s:GSet} {l:List Node} {i:Nat} (hi:i<l.length):nodesGo s (l.drop i)=if nodeS s l[i]≠0 then nodeS s l[i]else nodesGo s (l.drop (i+1)):=by
 rw[List.drop_eq_getElem_cons hi,nodesGo]
theorem nodesGo_all {s:GSet}: ∀{l:List Node},nodesGo s l=0→ ∀x∈l,1≤x.op∧x.op≤24
 | y::l,h,x,hx=>by
  rw[nodesGo]at h
  by_cases hy:nodeS s y≠0
  ·rw[if_pos hy]at h;exact absurd h hy
  ·rw[if_neg hy]at h
   rcases List.mem_cons.1 hx with rfl|hx
   ·refine Decidable.byContradiction fun hn=>hy ?_
    rw[nodeS,if_pos hn];decide
   ·exact nodesGo_all h x hx
theorem parts_len (op:Int):(useS op).parts.length≤3:=by
 by_cases h:1≤op∧op≤24
 ·have h24:op=1∨op=2∨op=3∨op=4∨op=5∨op=6∨op=7∨op=8∨op=9∨op=10∨op=11∨op=12∨op=13∨op=14∨op=15∨op=16∨op=17∨op=18∨op=19∨op=20∨op=21∨op=22∨op=23∨op=24:=by omega
  rcases h24 with rfl|rfl|rfl|rfl|rfl|rfl|rfl|rfl|rfl|rfl|rfl|rfl|rfl|rfl|rfl|rfl|rfl|rfl|rfl|rfl|rfl|rfl|rfl|rfl <;> decide
 ·unfold useS
  repeat rw[if_neg (by omega)]
  exact Nat.zero_le _
def pB (b:Bool):Int:=if b then 110 else 116
def cB (b:Bool):List V:= [.v (.int .u8 (pB b))]
theorem partB_size (l:List Bool):(partB l).size=l.length:=by simp[partB,ByteArray.size]
theorem partB_get {l:List Bool} {k:Nat} (h:k<l.length): ∃c:UInt8,(partB l)[k]?=some c∧(c.toNat:Int)=pB l[k]:=by
 refine⟨if l[k]then 110 else 116,?_,?_⟩
 ·have hk:k<(partB l).size:=by rw[partB_size];exact h
  rw[getElem?_pos (partB l) k hk]
  simp[partB,ByteArray.getElem_eq_getElem_data]
 ·cases l[k] <;> rfl
theorem askS_first {l:List Node} (h:0<l.length):askS l=askGo (l.drop (0+1)) ((useS l[0].op).parts++ []) true:=by
 cases l with
 | nil=>simp at h
 | cons x r=>simp[askS]
theorem askGo_step {l:List Node} {k:Nat} (h:k<l.length) (b:Bool) (asked:List Bool) (typed:Bool):askGo (l.drop k) (b::asked) typed=askGo (l.drop (k+1)) ((useS l[k].op).parts++asked) (typed&&b == numS l[k].op):=by
 rw[List.drop_eq_getElem_cons h,askGo]
theorem askGo_none {l:List Node} {k:Nat} (h:k<l.length) (typed:Bool):askGo (l.drop k) [] typed=none:=by
 rw[List.drop_eq_getElem_cons h,askGo]
def stk (asked:List Bool):List V:=asked.reverse.map fun b=>V.v (.int .u8 (pB b))
theorem stk_flat (asked:List Bool):(asked.reverse.map cB).flatten=stk asked:=by
 rw[stk]
 generalize asked.reverse=l
 induction l with
 | nil=>rfl
 | cons b l ih=>rw[List.map_cons,List.flatten_cons,List.map_cons,ih];rfl
theorem stk_cons (b:Bool) (asked:List Bool):stk (b::asked)=stk asked++ [V.v (.int .u8 (pB b))]:=by simp[stk]
theorem stk_len (asked:List Bool):(stk asked).length=asked.length:=by simp[stk]
theorem stk_drop (asked:List Bool) (x:List V):(stk asked++x).drop asked.length=x:=by
 rw[List.drop_append_of_le_length (by rw[stk_len];exact Nat.le_refl _),List.drop_eq_nil_of_le (by rw[stk_len];exact Nat.le_refl _)];rfl
structure Stk (S:Sto) (asked:List Bool) (g:GR):Prop where
 l:g.l=asked.reverse.map cB
 ok:g.Ok 5 1 S
theorem Stk.some {S:Sto} {b:Bool} {asked:List Bool} {g:GR} (h:Stk S (b::asked) g): ∃bk cap j,g.cell = .v (.slice (some ⟨bk,0,none⟩) (asked.length+1) cap)∧lookS S bk=some (.cells (stk asked++(V.v (.int .u8 (pB b))::j)) 5)∧asked.length+1≤cap ∧
  ∃g',g'.cell = .v (.slice (some ⟨bk,0,none⟩) asked.length cap)∧Stk S asked g':=by
 obtain⟨h1,h2⟩:=h
 obtain⟨gl,blk⟩:=g
 dsimp only at h1
 subst h1
 cases blk with
 | none =>
  have:((b::asked).reverse.map cB).length=0:=by rw[show(b::asked).reverse.map cB= []from h2];rfl
  simp at this
 | some x =>
  obtain⟨bk,cap,j⟩:=x
  have hlk:=h2.look
  rw[stk_flat,stk_cons,List.append_assoc]at hlk
  have hle:=h2.le
  have hln:=h2.len
  simp only[List.length_map,List.length_reverse,List.length_cons]at hle hln
  refine⟨bk,cap,j,by rw[GR.cell_some];simp,hlk,hle,⟨asked.reverse.map cB,Option.some (bk,cap,V.v (.int .u8 (pB b))::j)⟩,by rw[GR.cell_some];simp,rfl,?_⟩
  refine⟨by rw[stk_flat];exact hlk,by simp only[List.length_map,List.length_reverse,List.length_cons];omega,by simp;omega,h2.cap,fun v hv=>?_,fun v hv=>h2.lf v ?_,fun c hc=>h2.ll c ?_⟩
  ·rcases List.mem_cons.1 hv with rfl|hv
   ·rfl
   ·exact h2.jf v hv
  ·rw[stk_flat]at hv ⊢
   rw[stk_cons];exact List.mem_append_left _ hv
  ·rw[List.reverse_cons,List.map_append];exact List.mem_append_left _ hc
theorem Stk.len {S:Sto} {asked:List Bool} {g:GR} (h:Stk S asked g):(g.cell = .v (.slice none 0 0)∧asked= [])∨ ∃bk cap,g.cell = .v (.slice (Option.some ⟨bk,0,none⟩) asked.length cap):=by
 obtain⟨h1,h2⟩:=h
 obtain⟨gl,blk⟩:=g
 dsimp only at h1
 subst h1
 cases blk with
 | none =>
  have:(asked.reverse.map cB).length=0:=by rw[show asked.reverse.map cB= []from h2];rfl
  exact .inl ⟨by rw[GR.cell_none],List.eq_nil_of_length_eq_zero (by simpa using this)⟩
 | some x =>
  obtain⟨bk,cap,j⟩:=x
  exact .inr ⟨bk,cap,by rw[GR.cell_some];simp⟩
theorem cond_main (s:GSet) (l:List Node) (hl:l.length≤60) (hc:PC Tryz.prog 63 [s.val] (I 0)) (r:Bool×Int)
  (hr1:nodesGo s l≠0→r=(false,nodesGo s l)) (hr2:nodesGo s l=0→r=match askS l with
   | none=>(false,5)
   | some (asked,typed)=>if(l.length:Int)=0 then(false,0)else if 0<(asked.length:Int)then(false,6)else if typed=false then(false,15)else(numS (l.headD ⟨0,0,0,0,0,false,[]⟩).op,0)) :
  PC Tryz.prog 66 [s.val,nodesV l] (.tup [Bo r.1,I r.2]):=by
 have e60: ¬(60:Int)<(l.length:Int):=by omega
 refine DC.of_run Tryz.func66 rfl Tryz.ntmps66 Tryz.results66 (by simp) (fun _ _=>?_);simp only[argV_cons,argV_nil,go_sem,Nat.zero_add,Nat.reduceAdd]
 repeat' (first|(with_reducible first|refine DS.fltS yU yU yE ?_|refine DS.opsNil ?_|refine DS.seq ?_|refine DS.regionL ?_|(refine DS.cE yE ?_;refine CG.no ?_)|refine DS.block ?_|refine DS.skip ?_)|refine DS.pcS inferInstance (hc) yR yT ?_|(refine DS.boxF (t:=2) yU yE yU ?_;simp only[cells_agg,cells_v,cells_lst,cells_fn,map_nil'',map_cons'',copy_own,copy_lst,copy_v,copy_at,copy_agg,copy_fn,copy_ifc,copy_tup])|fail)
 refine DS.loopK [1,2,27,28] yN (fun(i:Nat)=> [(29,I i)]) (fun(i:Nat)=>i≤l.length∧nodesGo s l=nodesGo s (l.drop i)) (fun(i:Nat)=>l.length-i) 0 yS ⟨Nat.zero_le _,rfl⟩ (fun i B hI hB=>?_);try dsimp only at hI hB;simp only[app_cons',app_nil']
 by_cases hi:i<l.length
 ·have hi':(i:Int)<(l.length:Int):=by omega
  have hg:=hI.2
  rw[nodesGo_at hi]at hg
  have hp:=node_pc s l[i]
  by_cases hz:nodeS s l[i]=0
  ·rw[hz]at hp
   rw[if_neg (by omega)]at hg
   have H:=Box.mk hg
   clear hr1 hr2 hg hz hI
   repeat' (first|(with_reducible first|refine DS.fltS yU yU yE ?_|refine DS.opsNil ?_|refine DS.seq ?_|refine DS.regionL ?_|(refine DS.cE yE ?_;first|refine CG.yes ?_|refine CG.no ?_)|refine DS.blk ?_|refine DS.block ?_|refine DS.skip ?_)|(refine DS.letF (t:=8) yU yE yU (fun _=>yE) yE yU (by exact⟨by with_unfolding_all rfl,by with_unfolding_all decide⟩) (fun _=>by simp only[go_sem,Nat.reduceEqDiff,↓reduceIte]) ?_;simp only[go_sem])|refine DS.pcS inferInstance (hp) yR yT ?_|fail)
   exact DS.back (hB (i+1) _ _ (by omega) (⟨by omega,H.out⟩) yS yS (fun b o e=>by first|exact e|(simp only[lookS_cons];split <;> simp_all)))
  ·rw[if_pos hz]at hg
   rw[hr1 (by rw[hg];exact hz),hg]
   clear hr1 hr2 hg hI hB
   repeat' (first|(with_reducible first|refine DS.fltS yU yU yE ?_|refine DS.opsNil ?_|refine DS.seq ?_|refine DS.regionL ?_|(refine DS.cE yE ?_;refine CG.yes ?_)|refine DS.block ?_|refine DS.skip ?_)|(refine DS.letF (t:=8) yU yE yU (fun _=>yE) yE yU (by exact⟨by with_unfolding_all rfl,by with_unfolding_all decide⟩) (fun _=>by simp only[go_sem,Nat.reduceEqDiff,↓reduceIte]) ?_;simp only[go_sem])|refine DS.pcS inferInstance (hp) yR yT ?_|refine DS.retT [] yE trivial ?_|fail)
   all_goals first|rfl|(exfalso;omega)
 ·have h0:nodesGo s l=0:=by rw[hI.2,List.drop_eq_nil_of_le (by omega)];rfl
  have hr:=hr2 h0
  have hall:=nodesGo_all h0
  have hi': ¬(i:Int)<(l.length:Int):=by omega
  have HR:=Box.mk (And.intro hr hall)
  clear hr1 hr2 hr hall h0 hI hB hi
  repeat' (first|(with_reducible first|refine DS.fltS yU yU yE ?_|refine DS.opsNil ?_|refine DS.seq ?_|refine DS.regionL ?_|(refine DS.cE yE ?_;refine CG.no ?_)|refine DS.block ?_|refine DS.exit yU ?_)|fail)
  have hgc:GR.cell ⟨[],none⟩ = .v (.slice none 0 0):=rfl
  refine DS.loopS [1,40,41] yN (fun(x:Nat×List Bool×Bool×GR×Sto)=> [(10,x.2.2.2.1.cell),(11,Bo x.2.2.1),(42,I x.1)]) (fun(x:Nat×List Bool×Bool×GR×Sto)=>x.2.2.2.2) (fun(x:Nat×List Bool×Bool×GR×Sto)=>x.1≤l.length∧x.2.1.length≤3*x.1∧(x.1=0→x.2.1= []∧x.2.2.1=true)∧(0<x.1→askS l=askGo (l.drop x.1) x.2.1 x.2.2.1)∧Stk x.2.2.2.2 x.2.1 x.2.2.2.1) (fun(x:Nat×List Bool×Bool×GR×Sto)=>l.length-x.1) (0,[],true,⟨[],none⟩,[]) yS (fun b o e=>by exact e) ⟨Nat.zero_le _,Nat.zero_le _,fun _=>⟨rfl,rfl⟩,fun h=>absurd h (by decide),rfl,rfl⟩ (fun x B hI hB=>?_);try dsimp only at hI hB;simp only[app_cons',app_nil']
  obtain⟨k,asked,typed,g,S⟩:=x
  dsimp only at hI hB
  obtain⟨i1,i2,i3,i4,i5⟩:=hI
  by_cases hk:k<l.length
  ·have hk':(k:Int)<(l.length:Int):=by omega
   have hall:=HR.out.2 l[k] (List.getElem_mem hk)
   have hs:=sortOf_pc l[k].op
   rw[sortX,if_pos hall]at hs
   have HB:=Box.mk hB
   have HI:=Box.mk (And.intro i3 i4)
   clear hB i3 i4
   obtain⟨sc,hsc⟩: ∃sc,sc=(sortR l[k].op).cells:=⟨_,rfl⟩
   repeat' (first|(with_reducible first|refine DS.fltS yU yU yE ?_|refine DS.opsNil ?_|refine DS.seq ?_|refine DS.regionL ?_)|fail)
   refine DS.cT yG yR ?_
   repeat' (first|(with_reducible first|refine DS.fltS yU yU yE ?_|refine DS.opsNil ?_|refine DS.seq ?_|refine DS.regionL ?_|refine DS.block ?_|refine DS.skip ?_)|(refine DS.letF (t:=14) yU yE yU (fun _=>yE) yE yU (by exact⟨by with_unfolding_all rfl,by with_unfolding_all decide⟩) (fun _=>by simp only[go_sem,Nat.reduceEqDiff,↓reduceIte]) ?_;simp only[go_sem])|(refine DS.letF1 (t:=13) yU yU yU yE yU (fun _=>yE) (fun _=>yE) yE yU (by exact⟨by with_unfolding_all rfl,by with_unfolding_all decide⟩) (fun _=>by simp only[go_sem,Nat.reduceEqDiff,↓reduceIte]) ?_;simp only[go_sem])|refine DS.pcS inferInstance (hs) yR yT ?_|fail)
   refine DS.joinL (fun y:List Bool×Bool×GR=> [(10,y.2.2.cell),(11,Bo y.2.1),(42,I k),(1,nodesV l),(40,nodesV l),(41,I l.length),(14, .plc (sortR l[k].op).cells)]) (fun _=>S) (fun y=>Stk S y.1 y.2.2∧y.1.length≤3*k∧askS l=askGo (l.drop (k+1)) ((useS l[k].op).parts++y.1) y.2.1) ?_ (fun y hy=>?_)
   ·by_cases hk0:k=0
    ·subst hk0
     obtain⟨e1,e2⟩:=HI.out.1 rfl
     subst e1;subst e2
     repeat' (first|(with_reducible first|(refine DS.cE yE ?_;refine CG.no ?_)|refine DS.skip ?_)|fail)
     exact DS.back ⟨([],true,g),⟨i5,Nat.zero_le _,askS_first hk⟩,yS,fun b o e=>e⟩
    ·have hk1:(0:Int)<(k:Int):=by omega
     have ha:=HI.out.2 (by omega)
     cases asked with
     | nil =>
      have hr:=HR.out.1
      rw[ha,askGo_none hk]at hr
      rw[hr]
      clear hr ha
      obtain⟨gl,blk⟩:=g
      have hgl:gl= []:=i5.l
      subst hgl
      cases blk with
      | none =>
       simp only[GR.cell_none]
       repeat' (first|(with_reducible first|refine DS.fltS yU yU yE ?_|refine DS.opsNil ?_|refine DS.seq ?_|refine DS.regionL ?_|(refine DS.cE yE ?_;refine CG.yes ?_))|refine DS.retT [] yE trivial ?_|fail)
       all_goals first|rfl|(exfalso;omega)
      | some x =>
       obtain⟨bk,cap,j⟩:=x
       simp only[GR.cell_some,List.length_nil]
       repeat' (first|(with_reducible first|refine DS.fltS yU yU yE ?_|refine DS.opsNil ?_|refine DS.seq ?_|refine DS.regionL ?_|(refine DS.cE yE ?_;refine CG.yes ?_))|refine DS.retT [] yE trivial ?_|fail)
       all_goals first|rfl|(exfalso;omega)
     | cons b asked =>
      obtain⟨bk,cap,j,q1,q2,q3,g',q4,q5⟩:=i5.some
      have hN:((asked.length+1:Nat):Int)-1=(asked.length:Int):=by omega
      have hw:IntKind.i64.wrap (asked.length:Int)=(asked.length:Int):=IntWalk.i64_in _ (by simp only[List.length_cons]at i2;omega)
      have hd:=stk_drop asked (V.v (.int .u8 (pB b))::j)
      have hne: ¬((asked.length+1:Nat):Int)=0:=by omega
      have hpb:decide (pB b=110)=b:=by cases b <;> rfl
      rw[askGo_step hk]at ha
      have i2':asked.length≤3*k:=by simp only[List.length_cons]at i2;omega
      have HA:=Box.mk (And.intro q5 (And.intro i2' ha))
      have hq4:g'.cell = .v (.slice (some ⟨bk,0,none⟩) (asked.length-0) (cap-0)):=q4
      clear q5 ha q4 HI i5
      have hnum:(sortR l[k].op).number=numS l[k].op:=rfl
      rw[q1]
      cases typed
      ·repeat' (first|(with_reducible first|refine DS.fltS yU yU yE ?_|refine DS.opsNil ?_|refine DS.seq ?_|refine DS.regionL ?_|(refine DS.cE yE ?_;first|refine CG.yes ?_|refine CG.no ?_)|(refine DS.gE yU yE ?_;refine GG.sF ?_)|refine DS.skip ?_)|refine DS.drawL (id:=22) [0,1,2,3,4,5,6,7,8,9,10] 11 (by kernel_rfl) mixed (by simp only[pickL_cons,pickL_nil,get_zero',get_cons',pickO_some];exact rfl) (by simp only[drop_zero',drop_cons',List.drop_nil];exact rfl) ?_|(with_reducible first|refine DD.fltS yU yU yU yE ?_|(refine DD.gE yU yE ?_;refine DGG.sF ?_)|refine DD.nil0 ?_)|fail)
       exact DS.back ⟨(asked,false,g'),HA.out,yS,fun b o e=>e⟩
      ·repeat' (first|(with_reducible first|refine DS.fltS yU yU yE ?_|refine DS.opsNil ?_|refine DS.seq ?_|refine DS.regionL ?_|(refine DS.cE yE ?_;first|refine CG.yes ?_|refine CG.no ?_)|(refine DS.gE yU yE ?_;refine GG.run ?_)|refine DS.skip ?_)|refine DS.drawL (id:=22) [0,1,2,3,4,5,6,7,8,9,10] 11 (by kernel_rfl) mixed (by simp only[pickL_cons,pickL_nil,get_zero',get_cons',pickO_some];exact rfl) (by simp only[drop_zero',drop_cons',List.drop_nil];exact rfl) ?_|(with_reducible first|refine DD.fltS yU yU yU yE ?_|(refine DD.gE yU yE ?_;refine DGG.run ?_)|refine DD.nil0 ?_)|fail)
       exact DS.back ⟨(asked,true&&b == numS l[k].op,g'),HA.out,yS,fun b o e=>e⟩
   ·obtain⟨asked1,typed1,g1⟩:=y
    dsimp only at hy ⊢
    have hpl:=parts_len l[k].op
    have hsz:(partB (sortR l[k].op).parts).size=(useS l[k].op).parts.length:=partB_size _
    repeat' (first|(with_reducible first|refine DS.fltS yU yU yE ?_|refine DS.opsNil ?_|refine DS.seq ?_|refine DS.regionL ?_|refine DS.block ?_)|fail)
    refine DS.loopS [1,11,14,40,41,42] yN (fun(z:Nat×GR×Sto)=> [(10,z.2.1.cell),(16, .v (.int .i64 ((z.1:Int)-1)))]) (fun(z:Nat×GR×Sto)=>z.2.2) (fun(z:Nat×GR×Sto)=>z.1≤(useS l[k].op).parts.length∧Stk z.2.2 ((useS l[k].op).parts.drop z.1++asked1) z.2.1) (fun(z:Nat×GR×Sto)=>z.1) ((useS l[k].op).parts.length,g1,S) yS (fun b o e=>by exact e) ⟨Nat.le_refl _,by rw[List.drop_length];exact hy.1⟩ (fun z B hI hB=>?_);try dsimp only at hI hB;simp only[app_cons',app_nil']
    obtain⟨q,g2,S2⟩:=z
    dsimp only at hI hB
    by_cases hq:q=0
    ·have hq1: ¬(0:Int)≤(q:Int)-1:=by omega
     have hI2:Stk S2 ((useS l[k].op).parts++asked1) g2:=by have:=hI.2;rw[hq]at this;exact this
     clear hq hI
     repeat' (first|(with_reducible first|refine DS.fltS yU yU yE ?_|refine DS.opsNil ?_|refine DS.seq ?_|refine DS.regionL ?_|(refine DS.cE yE ?_;refine CG.no ?_)|refine DS.blk ?_|refine DS.exit yU ?_)|fail)
     exact DS.back (HB.out (k+1,(useS l[k].op).parts++asked1,typed1,g2,S2) _ _ (by dsimp only;omega) ⟨by dsimp only;omega,by simp only[List.length_append];omega,fun h=>absurd h (by omega),fun _=>hy.2.2,hI2⟩ yS yS (fun b o e=>by exact e))
    ·have hq1:(0:Int)≤(q:Int)-1:=by omega
     obtain⟨c,hc1,hc2⟩:=partB_get (l:=(useS l[k].op).parts) (k:=q-1) (by omega)
     have hqt:((q:Int)-1).toNat=q-1:=by omega
     obtain⟨n1,n2,n3⟩:=hI
     have hln:g2.l.length≤1000:=by
      rw[n2];simp only[List.length_map,List.length_reverse,List.length_append,List.length_drop];omega
     have hgc:=g2.cell_copy
     repeat' (first|(with_reducible first|refine DS.fltS yU yU yE ?_|refine DS.opsNil ?_|refine DS.seq ?_|refine DS.regionL ?_|(refine DS.cE yE ?_;refine CG.yes ?_)|refine DS.block ?_|refine DS.skip ?_)|fail)
     refine DS.indexS (s:=partB (sortR l[k].op).parts) (b:=c) (by decide) yU yH yH hq1 (by rw[hqt];exact hc1) ?_
     refine DS.bsl yU yG yG ?_
     simp only[go_sem,Nat.zero_add,Nat.reduceAdd]
     refine DS.step rfl rfl yR (OpS.appG (g:=g2) (ml:= [[.v (.int .u8 (c.toNat:Nat))]]) rfl yH yH yR yR (by decide) yH n3 yH yH (by simp) (by intro x hx;rw[List.mem_singleton]at hx;subst hx;rfl) ⟨by simp only[List.length_cons,List.length_nil];omega,by decide⟩) (fun u2 E' S4 hu2=>?_)
     obtain⟨rfl,b',cap',junk',rfl,m1,m2,m3⟩:=hu2
     have hl3:g2.l++List.map (fun x=>List.map V.copy x) [[V.v (Value.int IntKind.u8 (c.toNat:Nat))]]=((useS l[k].op).parts.drop (q-1)++asked1).reverse.map cB:=by
      have hdr:(useS l[k].op).parts.drop (q-1)=(useS l[k].op).parts[q-1]::(useS l[k].op).parts.drop q:=by
       rw[List.drop_eq_getElem_cons (by omega)]
       congr 2;omega
      rw[n2,hdr,hc2,List.cons_append,List.reverse_cons,List.map_append]
      rfl
     have HS:Stk S4 ((useS l[k].op).parts.drop (q-1)++asked1) ⟨g2.l++List.map (fun x=>List.map V.copy x) [[V.v (Value.int IntKind.u8 (c.toNat:Nat))]],some (b',cap',junk')⟩:=⟨hl3,m1⟩
     clear m1 m2 m3 hl3
     generalize (GR.mk (g2.l++List.map (fun x=>List.map V.copy x) [[V.v (Value.int IntKind.u8 (c.toNat:Nat))]]) (some (b',cap',junk')))=g3 at *
     have hgc3:=g3.cell_copy
     have hqc:((q-1:Nat):Int)=(q:Int)-1:=by omega
     clear hc1 hc2 n2 hgc
     simp only[putV_some]
     repeat' (first|(with_reducible first|refine DS.fltS yU yU yE ?_|refine DS.opsNil ?_|refine DS.regionL ?_|refine DS.blk ?_)|fail)
     exact DS.back (hB (q-1,g3,S4) _ _ (by dsimp only;omega) ⟨by dsimp only;omega,HS⟩ yS yS (fun b o e=>by exact e))
  ·have hk': ¬(k:Int)<(l.length:Int):=by omega
   have hke:k=l.length:=by omega
   have hr:=HR.out.1
   have hall:=HR.out.2
   have hA:askS l=some (asked,typed):=by
    by_cases h0:k=0
    ·obtain⟨e1,e2⟩:=i3 h0
     have:l= []:=List.eq_nil_of_length_eq_zero (by omega)
     rw[this,e1,e2];rfl
    ·rw[i4 (by omega),List.drop_eq_nil_of_le (by omega)];rfl
   rw[hA]at hr
   dsimp only at hr
   have hln: ∃v,g.cell=v∧((v = .v (.slice none 0 0)∧asked= [])∨ ∃bk cap,v = .v (.slice (some ⟨bk,0,none⟩) asked.length cap)):=⟨_,rfl,i5.len⟩
   clear i3 i4 i5 hA hB HR
   by_cases h1:(l.length:Int)=0
   ·rw[if_pos h1]at hr
    rw[hr];clear hr
    obtain⟨v,hv,⟨rfl,rfl⟩|⟨bk,cap,rfl⟩⟩:=hln <;> rw[hv]
    all_goals repeat' (first|(with_reducible first|refine DS.fltS yU yU yE ?_|refine DS.opsNil ?_|refine DS.seq ?_|refine DS.regionL ?_|(refine DS.cE yE ?_;first|refine CG.yes ?_|refine CG.no ?_)|refine DS.block ?_|refine DS.exit yU ?_)|refine DS.retT [] yE trivial ?_|fail)
    all_goals first|rfl|(exfalso;omega)
   rw[if_neg h1]at hr
   by_cases h2:0<(asked.length:Int)
   ·rw[if_pos h2]at hr
    rw[hr];clear hr
    obtain⟨v,hv,⟨rfl,rfl⟩|⟨bk,cap,rfl⟩⟩:=hln <;> rw[hv]
    all_goals repeat' (first|(with_reducible first|refine DS.fltS yU yU yE ?_|refine DS.opsNil ?_|refine DS.seq ?_|refine DS.regionL ?_|(refine DS.cE yE ?_;first|refine CG.p (fun _=>?_) (fun _=>?_)|refine CG.yes ?_|refine CG.no ?_|refine CG.nb (fun _=>?_) (fun _=>?_))|refine DS.blk ?_|refine DS.block ?_|refine DS.exit yU ?_|refine DS.skip ?_)|refine DS.retT [] yE trivial ?_|fail)
    all_goals first|rfl|(exfalso;omega)|(exfalso;simp at h2;done)
   rw[if_neg h2]at hr
   cases typed with
   | false =>
    rw[if_pos rfl]at hr
    rw[hr];clear hr
    obtain⟨v,hv,⟨rfl,rfl⟩|⟨bk,cap,rfl⟩⟩:=hln <;> rw[hv]
    all_goals repeat' (first|(with_reducible first|refine DS.fltS yU yU yE ?_|refine DS.opsNil ?_|refine DS.seq ?_|refine DS.regionL ?_|(refine DS.cE yE ?_;first|refine CG.p (fun _=>?_) (fun _=>?_)|refine CG.yes ?_|refine CG.no ?_)|refine DS.block ?_|refine DS.exit yU ?_|refine DS.skip ?_)|refine DS.retT [] yE trivial ?_|fail)
    all_goals first|rfl|(exfalso;omega)
   | true =>
    rw[if_neg (by decide)]at hr
    have h3:0<l.length:=by omega
    have hs:=sortOf_pc l[0].op
    rw[sortX,if_pos (hall l[0] (List.getElem_mem h3))]at hs
    have hh:l.headD ⟨0,0,0,0,0,false,[]⟩=l[0]:=by
     cases l with
     | nil=>simp at h3
     | cons x r=>rfl
    rw[hh]at hr
    rw[hr];clear hr
    obtain⟨v,hv,⟨rfl,rfl⟩|⟨bk,cap,rfl⟩⟩:=hln <;> rw[hv]
    all_goals repeat' (first|(with_reducible first|refine DS.fltS yU yU yE ?_|refine DS.opsNil ?_|refine DS.seq ?_|refine DS.regionL ?_|(refine DS.cE yE ?_;first|refine CG.p (fun _=>?_) (fun _=>?_)|refine CG.no ?_)|refine DS.blk ?_|refine DS.block ?_|refine DS.exit yU ?_|refine DS.skip ?_)|(refine DS.letF (t:=17) yU yE yU (fun _=>yE) yE yU (by exact⟨by with_unfolding_all rfl,by with_unfolding_all decide⟩) (fun _=>by simp only[go_sem,Nat.reduceEqDiff,↓reduceIte]) ?_;simp only[go_sem])|refine DS.pcS inferInstance (hs) yR yT ?_|refine DS.retT [] yE trivial ?_|fail)
    all_goals first|rfl|(exfalso;omega)
theorem cond_pc (s:GSet) (l:List Node):CondPC s l:=by
 rw[CondPC]
 have hc:=tcheck_pc s
 by_cases h0:gsetS s=0
 ·rw[h0]at hc
  by_cases h1:60<(l.length:Int)
  ·have e:condX s l=(false,5):=by rw[condX,if_neg (by omega),if_pos h1]
   rw[e]
   refine DC.of_run Tryz.func66 rfl Tryz.ntmps66 Tryz.results66 (by simp) (fun _ _=>?_);simp only[argV_cons,argV_nil,go_sem,Nat.zero_add,Nat.reduceAdd]
   repeat' (first|(with_reducible first|refine DS.fltS yU yU yE ?_|refine DS.opsNil ?_|refine DS.seq ?_|refine DS.regionL ?_|(refine DS.cE yE ?_;first|refine CG.yes ?_|refine CG.no ?_)|refine DS.skip ?_)|refine DS.pcS inferInstance (hc) yR yT ?_|(refine DS.boxF (t:=2) yU yE yU ?_;simp only[cells_agg,cells_v,cells_lst,cells_fn,map_nil'',map_cons'',copy_own,copy_lst,copy_v,copy_at,copy_agg,copy_fn,copy_ifc,copy_tup])|refine DS.retT [] yE trivial ?_|fail)
   all_goals first|rfl|(exfalso;omega)
  ·refine cond_main s l (by omega) hc _ (fun h=>?_) (fun h=>?_)
   ·rw[condX,if_neg (by omega),if_neg h1,if_pos h]
   ·rw[condX,if_neg (by omega),if_neg h1,if_neg (by omega)]
    cases askS l with
    | none=>rfl
    | some x=>rfl
 ·have e:condX s l=(false,gsetS s):=by rw[condX,if_pos h0]
  rw[e]
  refine DC.of_run Tryz.func66 rfl Tryz.ntmps66 Tryz.results66 (by simp) (fun _ _=>?_);simp only[argV_cons,argV_nil,go_sem,Nat.zero_add,Nat.reduceAdd]
  repeat' (first|(with_reducible first|refine DS.fltS yU yU yE ?_|refine DS.opsNil ?_|refine DS.seq ?_|refine DS.regionL ?_|(refine DS.cE yE ?_;refine CG.yes ?_))|refine DS.pcS inferInstance (hc) yR yT ?_|(refine DS.boxF (t:=2) yU yE yU ?_;simp only[cells_agg,cells_v,cells_lst,cells_fn,map_nil'',map_cons'',copy_own,copy_lst,copy_v,copy_at,copy_agg,copy_fn,copy_ifc,copy_tup])|refine DS.retT [] yE trivial ?_|fail)
  all_goals first|rfl|(exfalso;omega)
end Go.XL
namespace Go.XL
open Go.Proofs
set_option maxRecDepth 100000
set_option maxHeartbeats 8000000
structure PayM where
 h:House
 points:Int
 dealer:Int
 winner:Int
 from_:Int
 counters:Int
def PayM.cells (p:PayM):List V:=p.h.cells++ [I p.points,I p.dealer,I p.winner,I p.from_,I p.counters]
@[go_sem] theorem PayM.cells_eq (p:PayM):p.cells= [I p.h.set.players,ints p.h.set.suits,I p.h.set.winds,I p.h.set.dragons,I p.h.set.flowers,I p.h.set.copies,I p.h.set.melds,I p.h.set.dead,ints p.h.set.reds,
 formsV p.h.forms,patsV p.h.patterns,nodesV p.h.minor,I p.h.least,
 I p.h.scale.base,Bo p.h.scale.double, .lst (p.h.scale.limits.map Limit.cells),I p.h.scale.round,
 I p.h.pay.mode,Bo p.h.pay.dealer,I p.h.pay.basic,I p.h.pay.counter,I p.h.pay.stick,I p.h.pay.pool,I p.h.pay.foul,I p.h.pay.start,I p.h.pay.rounds,I p.h.pay.stay,Bo p.h.pay.bust,ints p.h.pay.places, .lst (p.h.pay.feeds.map Feed.cells),
 Bo p.h.play.chows,I p.h.play.heads,Bo p.h.play.riichi,I p.h.play.last,Bo p.h.play.furiten,I p.h.play.rob,I p.h.play.kongs,I p.h.play.nines,Bo p.h.play.winds,Bo p.h.play.riichis,Bo p.h.play.swap,I p.h.play.time,I p.h.play.foul,I p.h.play.indicators,Bo p.h.play.show_,Bo p.h.play.under,
 I p.points,I p.dealer,I p.winner,I p.from_,I p.counters]:=rfl
abbrev PayM.val (p:PayM):V := .agg p.cells
structure PayM.Ok (p:PayM):Prop where
 players:3≤p.h.set.players∧p.h.set.players≤4
 points:0≤p.points∧p.points≤1000000
 round:1≤p.h.scale.round∧p.h.scale.round≤10000
 mode:1≤p.h.pay.mode∧p.h.pay.mode≤3
 basic:0≤p.h.pay.basic∧p.h.pay.basic≤1000000
 counter:0≤p.h.pay.counter∧p.h.pay.counter≤1000000
 counters:0≤p.counters∧p.counters≤100
theorem seat_pc (h:House) (n:Int):PC Tryz.prog 50 [h.val,I n] (Bo (h.seat n)):=by
 refine DC.of_run Tryz.func50 rfl Tryz.ntmps50 Tryz.results50 (by simp) (fun _ _=>?_);simp only[argV_cons,argV_nil,go_sem,Nat.zero_add,Nat.reduceAdd]
 repeat' (first|(with_reducible first|refine DS.fltS yU yU yE ?_|refine DS.opsNil ?_|refine DS.seq ?_|refine DS.regionL ?_|(refine DS.gE yU yE ?_;first|refine GG.pT (fun _=>?_) (fun _=>?_)|refine GG.run ?_|refine GG.sF ?_))|(refine DS.boxF (t:=2) yU yE yU ?_;simp only[cells_agg,cells_v,cells_lst,cells_fn,map_nil'',map_cons'',copy_own,copy_lst,copy_v,copy_at,copy_agg,copy_fn,copy_ifc,copy_tup])|refine DS.retT [] yE trivial ?_|fail)
 all_goals (simp[tupV,House.seat, *];try omega)
theorem share_pc (p:PayM) (j:Int):PC Tryz.prog 55 [p.val,I j] (I (shareS p.h p.dealer p.winner j)):=by
 refine DC.of_run Tryz.func55 rfl Tryz.ntmps55 Tryz.results55 (by simp) (fun _ _=>?_);simp only[argV_cons,argV_nil,go_sem,Nat.zero_add,Nat.reduceAdd]
 repeat' (first|(with_reducible first|refine DS.fltS yU yU yE ?_|refine DS.opsNil ?_|refine DS.seq ?_|refine DS.regionL ?_|(refine DS.cE yE ?_;first|refine CG.p (fun _=>?_) (fun _=>?_)|refine CG.yes ?_|refine CG.no ?_)|(refine DS.gE yU yE ?_;first|refine GG.sU ?_|refine GG.pF (fun _=>?_) (fun _=>?_)|refine GG.run ?_|refine GG.sF ?_|refine GG.sT ?_|refine GG.bT (fun _=>?_) (fun _=>?_))|refine DS.blk ?_|refine DS.block ?_|refine DS.skip ?_)|(refine DS.boxF (t:=2) yU yE yU ?_;simp only[cells_agg,cells_v,cells_lst,cells_fn,map_nil'',map_cons'',copy_own,copy_lst,copy_v,copy_at,copy_agg,copy_fn,copy_ifc,copy_tup])|refine DS.retT [] yE trivial ?_|fail)
 all_goals (simp only[tupV,shareS];(repeat' split) <;> first|rfl|(exfalso;omega)|(exfalso;grind))
theorem shareS_bd (h:House) (d w j:Int):0≤shareS h d w j∧shareS h d w j≤2:=by
 unfold shareS;split
 ·omega
 ·split <;> omega
theorem up_bd {n to:Int} (h0:0≤n) (h1:1≤to):0≤upS n to∧upS n to≤n+to:=by
 unfold upS
 have h2:=Int.emod_add_mul_ediv (n+to-1) to
 have h3:=Int.emod_nonneg (n+to-1) (show to≠0 by omega)
 have h4:0≤(n+to-1) / to:=Int.ediv_nonneg (by omega) (by omega)
 have h5:0≤(n+to-1) / to*to:=Int.mul_nonneg h4 (by omega)
 rw[Int.mul_comm]at h2
 omega
theorem up_pc (p:PayM) (n:Int) (ok:p.Ok) (hn:0≤n∧n≤8):PC Tryz.prog 97 [p.val,I n] (I (upS (p.points*n) p.h.scale.round)):=by
 have h1:=ok.points
 have h2:=ok.round
 have h3:0≤p.points*n:=Int.mul_nonneg h1.1 hn.1
 have h4:p.points*n≤1000000*8:=Int.mul_le_mul h1.2 hn.2 hn.1 (by omega)
 have hb:=up_bd h3 h2.1
 have e:(p.points*n+p.h.scale.round-1).tdiv p.h.scale.round=(p.points*n+p.h.scale.round-1) / p.h.scale.round:=Int.tdiv_eq_ediv_of_nonneg (by omega)
 have h5:0≤(p.points*n+p.h.scale.round-1) / p.h.scale.round:=Int.ediv_nonneg (by omega) (by omega)
 have h6:(p.points*n+p.h.scale.round-1) / p.h.scale.round≤p.points*n+p.h.scale.round-1:=Int.ediv_le_self _ (by omega)
 have h7:p.h.scale.round≠0:=by omega
 unfold upS at hb ⊢
 refine DC.of_run Tryz.func97 rfl Tryz.ntmps97 Tryz.results97 (by simp) (fun _ _=>?_);simp only[argV_cons,argV_nil,go_sem,Nat.zero_add,Nat.reduceAdd]
 repeat' (first|(with_reducible first|refine DS.fltS yU yU yE ?_|refine DS.opsNil ?_|refine DS.seq ?_|refine DS.regionL ?_)|(refine DS.boxF (t:=2) yU yE yU ?_;simp only[cells_agg,cells_v,cells_lst,cells_fn,map_nil'',map_cons'',copy_own,copy_lst,copy_v,copy_at,copy_agg,copy_fn,copy_ifc,copy_tup])|refine DS.retT [] yE trivial ?_|fail)
 rfl
theorem all_pc5 (p:PayM) (j:Int) (ok:p.Ok):PC Tryz.prog 211 [p.val,I j] (I (if j=p.from_ then 2*upS (p.points*shareS p.h p.dealer p.winner j) p.h.scale.round else upS (p.points*shareS p.h p.dealer p.winner j) p.h.scale.round)):=by
 have hs:=share_pc p j
 have hb:=shareS_bd p.h p.dealer p.winner j
 generalize shareS p.h p.dealer p.winner j=s at *
 have hu:=up_pc p s ok (by omega)
 have h1:=ok.points
 have h3:0≤p.points*s:=Int.mul_nonneg h1.1 hb.1
 have h4:p.points*s≤1000000*2:=Int.mul_le_mul h1.2 hb.2 hb.1 (by omega)
 have hub:=up_bd h3 ok.round.1
 have hr:=ok.round
 generalize upS (p.points*s) p.h.scale.round=u at *
 refine DC.of_run Tryz.func211 rfl Tryz.ntmps211 Tryz.results211 (by simp) (fun _ _=>?_);simp only[argV_cons,argV_nil,go_sem,Nat.zero_add,Nat.reduceAdd]
 repeat' (first|(with_reducible first|refine DS.fltS yU yU yE ?_|refine DS.opsNil ?_|refine DS.seq ?_|refine DS.regionL ?_|(refine DS.cE yE ?_;refine CG.p (fun _=>?_) (fun _=>?_))|refine DS.skip ?_)|refine DS.pcS inferInstance (hu) yR yT ?_|(refine DS.boxF (t:=2) yU yE yU ?_;simp only[cells_agg,cells_v,cells_lst,cells_fn,map_nil'',map_cons'',copy_own,copy_lst,copy_v,copy_at,copy_agg,copy_fn,copy_ifc,copy_tup])|refine DS.drawL (id:=2) [0,1,2,3] 4 (by kernel_rfl) mixed (by simp only[pickL_cons,pickL_nil,get_zero',get_cons',pickO_some];exact rfl) (by simp only[drop_zero',drop_cons',List.drop_nil];exact rfl) ?_|refine DS.drawL (id:=3) [0,1,2,3] 4 (by kernel_rfl) mixed (by simp only[pickL_cons,pickL_nil,get_zero',get_cons',pickO_some];exact rfl) (by simp only[drop_zero',drop_cons',List.drop_nil];exact rfl) ?_|(with_reducible first|refine DD.fltS yU yU yU yE ?_|refine DD.nil0 ?_)|refine DD.pcV0 inferInstance (hs) yU yT ?_|refine DS.retT [] yE trivial ?_|fail)
 all_goals first|(rw[if_pos (by omega)];rfl)|(rw[if_neg (by omega)];rfl)
theorem basic_pc (p:PayM) (j:Int) (ok:p.Ok):PC Tryz.prog 214 [p.val,I j] (I (if j=p.from_ then upS (p.points*shareS p.h p.dealer p.winner j) p.h.scale.round+p.h.pay.basic else p.h.pay.basic)):=by
 have hs:=share_pc p j
 have hb:=shareS_bd p.h p.dealer p.winner j
 generalize shareS p.h p.dealer p.winner j=s at *
 have hu:=up_pc p s ok (by omega)
 have h1:=ok.points
 have h3:0≤p.points*s:=Int.mul_nonneg h1.1 hb.1
 have h4:p.points*s≤1000000*2:=Int.mul_le_mul h1.2 hb.2 hb.1 (by omega)
 have hub:=up_bd h3 ok.round.1
 have hr:=ok.round
 have hba:=ok.basic
 generalize upS (p.points*s) p.h.scale.round=u at *
 refine DC.of_run Tryz.func214 rfl Tryz.ntmps214 Tryz.results214 (by simp) (fun _ _=>?_);simp only[argV_cons,argV_nil,go_sem,Nat.zero_add,Nat.reduceAdd]
 repeat' (first|(with_reducible first|refine DS.fltS yU yU yE ?_|refine DS.opsNil ?_|refine DS.seq ?_|refine DS.regionL ?_|(refine DS.cE yE ?_;refine CG.p (fun _=>?_) (fun _=>?_))|refine DS.skip ?_)|(refine DS.boxF (t:=2) yU yE yU ?_;simp only[cells_agg,cells_v,cells_lst,cells_fn,map_nil'',map_cons'',copy_own,copy_lst,copy_v,copy_at,copy_agg,copy_fn,copy_ifc,copy_tup])|refine DS.drawL (id:=2) [0,1,2,3,4,5,6,7,8] 9 (by kernel_rfl) mixed (by simp only[pickL_cons,pickL_nil,get_zero',get_cons',pickO_some];exact rfl) (by simp only[drop_zero',drop_cons',List.drop_nil];exact rfl) ?_|(with_reducible first|refine DD.fltS yU yU yU yE ?_|refine DD.nil0 ?_)|refine DD.pcV0 inferInstance (hs) yU yT ?_|refine DD.pcV0 inferInstance (hu) yU yT ?_|refine DS.retT [] yE trivial ?_|fail)
 all_goals first|(rw[if_pos (by omega)];rfl)|(rw[if_neg (by omega)];rfl)
theorem sumTo_bd {f:Nat→Int} {lo hi:Int} (h: ∀i,lo≤f i∧f i≤hi): ∀n:Nat,lo*n≤sumTo f n∧sumTo f n≤hi*n
 | 0=>by simp[sumTo]
 | n+1=>by
  have h1:=sumTo_bd h n
  have h2:=h n
  rw[sumTo,Int.natCast_add,Int.mul_add,Int.mul_add];omega
theorem alone_pc (p:PayM) (j:Int) (ok:p.Ok):PC Tryz.prog 213 [p.val,I j] (I (if j=p.from_ then upS (p.points*sumTo (fun i=>shareS p.h p.dealer p.winner i) p.h.set.players.toNat) p.h.scale.round else 0)):=by
 have hpl:=ok.players
 have hbd:=sumTo_bd (f:=fun i:Nat=>shareS p.h p.dealer p.winner i) (lo:=0) (hi:=2) fun i=>shareS_bd _ _ _ _
 refine DC.of_run Tryz.func213 rfl Tryz.ntmps213 Tryz.results213 (by simp) (fun _ _=>?_);simp only[argV_cons,argV_nil,go_sem,Nat.zero_add,Nat.reduceAdd]
 by_cases hj:j=p.from_
 ·rw[if_pos hj]
  repeat' (first|(with_reducible first|refine DS.fltS yU yU yE ?_|refine DS.opsNil ?_|refine DS.seq ?_|refine DS.regionL ?_|(refine DS.cE yE ?_;refine CG.no ?_)|refine DS.block ?_|refine DS.skip ?_)|(refine DS.boxF (t:=2) yU yE yU ?_;simp only[cells_agg,cells_v,cells_lst,cells_fn,map_nil'',map_cons'',copy_own,copy_lst,copy_v,copy_at,copy_agg,copy_fn,copy_ifc,copy_tup])|fail)
  all_goals try (exfalso;omega)
  refine DS.loopK [2,14] yN (fun(z:Nat×Int)=> [(5,I z.2),(15,I z.1)]) (fun(z:Nat×Int)=>z.1≤p.h.set.players.toNat∧z.2=sumTo (fun i=>shareS p.h p.dealer p.winner i) z.1) (fun(z:Nat×Int)=>p.h.set.players.toNat-z.1) (0,0) yS ⟨Nat.zero_le _,rfl⟩ (fun z B hI hB=>?_);try dsimp only at hI hB;simp only[app_cons',app_nil']
  have HB:=Box.mk hB
  clear hB
  obtain⟨i,kk⟩:=z
  dsimp only at hI ⊢
  obtain⟨hI,hI1⟩:=hI
  have b1:=hbd i
  rw[←hI1]at b1
  have H1:=Box.mk hI1
  clear hI1
  by_cases hi:(i:Int)<p.h.set.players
  ·have hs:=share_pc p i
   have hb:=shareS_bd p.h p.dealer p.winner i
   repeat' (first|(with_reducible first|refine DS.fltS yU yU yE ?_|refine DS.opsNil ?_|refine DS.seq ?_|refine DS.regionL ?_|(refine DS.cE yE ?_;refine CG.yes ?_)|refine DS.blk ?_|refine DS.block ?_|refine DS.skip ?_)|refine DS.pcS inferInstance (hs) yR yT ?_|fail)
   exact DS.back (HB.out (i+1,kk+shareS p.h p.dealer p.winner i) _ _ (by dsimp only;omega) ⟨by dsimp only;omega,by dsimp only;rw[H1.out];rfl⟩ yS yS (fun b o e=>by cases e))
  ·have hi2:i=p.h.set.players.toNat:=by omega
   subst hi2
   rw[←H1.out]
   have hu:=up_pc p kk ok (by omega)
   repeat' (first|(with_reducible first|refine DS.fltS yU yU yE ?_|refine DS.opsNil ?_|refine DS.seq ?_|refine DS.regionL ?_|(refine DS.cE yE ?_;refine CG.no ?_)|refine DS.exit yU ?_)|refine DS.pcS inferInstance (hu) yR yT ?_|refine DS.retT [] yE trivial ?_|fail)
   rfl
 ·rw[if_neg hj]
  repeat' (first|(with_reducible first|refine DS.fltS yU yU yE ?_|refine DS.opsNil ?_|refine DS.seq ?_|refine DS.regionL ?_|(refine DS.cE yE ?_;refine CG.yes ?_))|(refine DS.boxF (t:=2) yU yE yU ?_;simp only[cells_agg,cells_v,cells_lst,cells_fn,map_nil'',map_cons'',copy_own,copy_lst,copy_v,copy_at,copy_agg,copy_fn,copy_ifc,copy_tup])|refine DS.retT [] yE trivial ?_|fail)
  all_goals first|rfl|(exfalso;omega)
theorem owesS_bd (p:PayM) (ok:p.Ok) (j:Int):0≤owesS p.h p.points p.dealer p.winner p.from_ p.counters j∧owesS p.h p.points p.dealer p.winner p.from_ p.counters j≤1000000000:=by
 have hb:=shareS_bd p.h p.dealer p.winner j
 have hbd:=sumTo_bd (f:=fun i:Nat=>shareS p.h p.dealer p.winner i) (lo:=0) (hi:=2) (fun i=>shareS_bd _ _ _ _) p.h.set.players.toNat
 have h1:=ok.points
 have h2:=ok.round
 have h3:=ok.players
 have h4:=ok.basic
 have h5:=ok.counter
 have h6:=ok.counters
 have c1:0≤p.h.pay.counter*p.counters:=Int.mul_nonneg h5.1 h6.1
 have c2:p.h.pay.counter*p.counters≤1000000*100:=Int.mul_le_mul h5.2 h6.2 h6.1 (by omega)
 have c3:0≤p.h.pay.counter*p.counters*(p.h.set.players-1):=Int.mul_nonneg c1 (by omega)
 have c4:p.h.pay.counter*p.counters*(p.h.set.players-1)≤1000000*100*3:=Int.mul_le_mul c2 (by omega) (by omega) (by omega)
 unfold owesS
 generalize shareS p.h p.dealer p.winner j=s at *
 generalize sumTo (fun i:Nat=>shareS p.h p.dealer p.winner i) p.h.set.players.toNat=t at *
 have a1:0≤p.points*s:=Int.mul_nonneg h1.1 hb.1
 have a2:p.points*s≤1000000*2:=Int.mul_le_mul h1.2 hb.2 hb.1 (by omega)
 have a3:0≤p.points*t:=Int.mul_nonneg h1.1 (by omega)
 have a4:p.points*t≤1000000*8:=Int.mul_le_mul h1.2 (by omega) (by omega) (by omega)
 have u1:=up_bd a1 h2.1
 have u2:=up_bd a3 h2.1
 generalize p.h.pay.counter*p.counters*(p.h.set.players-1)=C2 at *
 generalize p.h.pay.counter*p.counters=C1 at *
 generalize upS (p.points*s) p.h.scale.round=U1 at *
 generalize upS (p.points*t) p.h.scale.round=U2 at *
 (repeat' split) <;> omega
theorem owes_pc (p:PayM) (j:Int) (ok:p.Ok):PC Tryz.prog 52 [p.val,I j] (I (owesS p.h p.points p.dealer p.winner p.from_ p.counters j)):=by
 have hs:=share_pc p j
 have hb:=shareS_bd p.h p.dealer p.winner j
 have hA:=alone_pc p j ok
 have hL:=all_pc5 p j ok
 have hC:=basic_pc p j ok
 have h1:=ok.points
 have h2:=ok.round
 have h3:=ok.players
 have h4:=ok.basic
 have h5:=ok.counter
 have h6:=ok.counters
 have h7:=ok.mode
 have c1:0≤p.h.pay.counter*p.counters:=Int.mul_nonneg h5.1 h6.1
 have c2:p.h.pay.counter*p.counters≤1000000*100:=Int.mul_le_mul h5.2 h6.2 h6.1 (by omega)
 have c3:0≤p.h.pay.counter*p.counters*(p.h.set.players-1):=Int.mul_nonneg c1 (by omega)
 have c4:p.h.pay.counter*p.counters*(p.h.set.players-1)≤1000000*100*3:=Int.mul_le_mul c2 (by omega) (by omega) (by omega)
 have hbd:=sumTo_bd (f:=fun i:Nat=>shareS p.h p.dealer p.winner i) (lo:=0) (hi:=2) (fun i=>shareS_bd _ _ _ _) p.h.set.players.toNat
 unfold owesS
 generalize sumTo (fun i:Nat=>shareS p.h p.dealer p.winner i) p.h.set.players.toNat=t at *
 generalize shareS p.h p.dealer p.winner j=s at *
 have hu:=up_pc p s ok (by omega)
 have a1:0≤p.points*s:=Int.mul_nonneg h1.1 hb.1
 have a2:p.points*s≤1000000*2:=Int.mul_le_mul h1.2 hb.2 hb.1 (by omega)
 have a3:0≤p.points*t:=Int.mul_nonneg h1.1 (by omega)
 have a4:p.points*t≤1000000*8:=Int.mul_le_mul h1.2 (by omega) (by omega) (by omega)
 have u1:=up_bd a1 h2.1
 have u2:=up_bd a3 h2.1
 generalize upS (p.points*s) p.h.scale.round=U1 at *
 generalize upS (p.points*t) p.h.scale.round=U2 at *
 refine DC.of_run Tryz.func52 rfl Tryz.ntmps52 Tryz.results52 (by simp) (fun v0 hk=>?_);simp only[argV_cons,argV_nil,go_sem,Nat.zero_add,Nat.reduceAdd]
 obtain⟨bm,es,clock,k1,k2,k3⟩:=hk.more
 have h1b:=Box.mk h7
 by_cases hf:p.from_=p.winner
 ·rw[if_pos hf]
  have hf1:=eq_true hf
  clear hf
  by_cases hm:p.h.pay.mode=3
  ·rw[if_pos hm]
   have hm1:=eq_true hm
   clear hm
   repeat' (first|(with_reducible first|refine DS.fltS yU yU yE ?_|refine DS.opsNil ?_|refine DS.seq ?_|refine DS.regionL ?_|(refine DS.cE yE ?_;refine CG.yes ?_))|(refine DS.boxF (t:=2) yU yE yU ?_;simp only[cells_agg,cells_v,cells_lst,cells_fn,map_nil'',map_cons'',copy_own,copy_lst,copy_v,copy_at,copy_agg,copy_fn,copy_ifc,copy_tup])|refine DS.drawL (id:=3) [0,1,2,3,4,5] 6 (by kernel_rfl) mixed (by simp only[pickL_cons,pickL_nil,get_zero',get_cons',pickO_some];exact rfl) (by simp only[drop_zero',drop_cons',List.drop_nil];exact rfl) ?_|(with_reducible first|refine DD.fltS yU yU yU yE ?_|refine DD.nil0 ?_)|refine DD.pcV0 inferInstance (hs) yU yT ?_|refine DD.pcV0 inferInstance (hu) yU yT ?_|refine DS.retT [] yE trivial ?_|fail)
   all_goals first|rfl|(exfalso;omega)|trace_state
  ·rw[if_neg hm,Int.add_zero]
   repeat' (first|(with_reducible first|refine DS.fltS yU yU yE ?_|refine DS.opsNil ?_|refine DS.seq ?_|refine DS.regionL ?_|(refine DS.cE yE ?_;first|refine CG.yes ?_|refine CG.no ?_)|refine DS.skip ?_)|(refine DS.boxF (t:=2) yU yE yU ?_;simp only[cells_agg,cells_v,cells_lst,cells_fn,map_nil'',map_cons'',copy_own,copy_lst,copy_v,copy_at,copy_agg,copy_fn,copy_ifc,copy_tup])|refine DS.drawL (id:=3) [0,1,2,3,4,5] 6 (by kernel_rfl) mixed (by simp only[pickL_cons,pickL_nil,get_zero',get_cons',pickO_some];exact rfl) (by simp only[drop_zero',drop_cons',List.drop_nil];exact rfl) ?_|(with_reducible first|refine DD.fltS yU yU yU yE ?_|refine DD.nil0 ?_)|refine DD.pcV0 inferInstance (hs) yU yT ?_|refine DD.pcV0 inferInstance (hu) yU yT ?_|refine DS.retT [] yE trivial ?_|fail)
   all_goals first|rfl|(exfalso;omega)|trace_state
 ·rw[if_neg hf]
  repeat' (first|(with_reducible first|refine DS.fltS yU yU yE ?_|refine DS.opsNil ?_|refine DS.seq ?_|refine DS.regionL ?_|(refine DS.cE yE ?_;refine CG.no ?_)|refine DS.skip ?_)|(refine DS.boxF (t:=2) yU yE yU ?_;simp only[cells_agg,cells_v,cells_lst,cells_fn,map_nil'',map_cons'',copy_own,copy_lst,copy_v,copy_at,copy_agg,copy_fn,copy_ifc,copy_tup])|fail)
  refine DS.loadG (m:=1) (by decide) (by kernel_rfl) k1 yR ?_
  repeat' (first|with_reducible refine DS.fltS yU yU yE ?_|fail)
  refine DS.lookM (m:=p.h.pay.mode) (by decide) k2 k3 yH yH h1b.out ?_
  have hmode:p.h.pay.mode=1∨p.h.pay.mode=2∨p.h.pay.mode=3:=by omega
  rcases hmode with hm|hm|hm
  ·rw[if_pos hm,show modeF p.h.pay.mode=213 by rw[hm];rfl]
   clear hm
   by_cases hj:j=p.from_
   ·rw[if_pos hj]at hA
    rw[if_pos hj,if_pos hj]
    have hj1:=eq_true hj
    clear hj
    repeat' (first|(with_reducible first|refine DS.fltS yU yU yE ?_|refine DS.opsNil ?_|refine DS.seq ?_|refine DS.regionL ?_|(refine DS.cE yE ?_;refine CG.yes ?_))|refine DS.pcVS inferInstance yE (hA) yR yT ?_|refine DS.retT [] yE trivial ?_|fail)
    all_goals first|rfl|(exfalso;omega)
   ·rw[if_neg hj]at hA
    rw[if_neg hj,if_neg hj]
    repeat' (first|(with_reducible first|refine DS.fltS yU yU yE ?_|refine DS.opsNil ?_|refine DS.seq ?_|refine DS.regionL ?_|(refine DS.cE yE ?_;refine CG.no ?_)|refine DS.skip ?_)|refine DS.pcVS inferInstance yE (hA) yR yT ?_|refine DS.retT [] yE trivial ?_|fail)
    all_goals first|rfl|(exfalso;omega)
  ·rw[if_neg (by omega),if_pos hm,show modeF p.h.pay.mode=211 by rw[hm];rfl]
   clear hm
   by_cases hj:j=p.from_
   ·rw[if_pos hj]at hL
    rw[if_pos hj,if_pos hj]
    have hj1:=eq_true hj
    clear hj
    repeat' (first|(with_reducible first|refine DS.fltS yU yU yE ?_|refine DS.opsNil ?_|refine DS.seq ?_|refine DS.regionL ?_|(refine DS.cE yE ?_;refine CG.yes ?_))|refine DS.pcVS inferInstance yE (hL) yR yT ?_|refine DS.retT [] yE trivial ?_|fail)
    all_goals first|rfl|(exfalso;omega)
   ·rw[if_neg hj]at hL
    rw[if_neg hj,if_neg hj,Int.add_zero]
    repeat' (first|(with_reducible first|refine DS.fltS yU yU yE ?_|refine DS.opsNil ?_|refine DS.seq ?_|refine DS.regionL ?_|(refine DS.cE yE ?_;refine CG.no ?_)|refine DS.skip ?_)|refine DS.pcVS inferInstance yE (hL) yR yT ?_|refine DS.retT [] yE trivial ?_|fail)
    all_goals first|rfl|(exfalso;omega)
  ·rw[if_neg (by omega),if_neg (by omega),show modeF p.h.pay.mode=214 by rw[hm];rfl]
   clear hm
   by_cases hj:j=p.from_
   ·rw[if_pos hj]at hC
    rw[if_pos hj,if_pos hj]
    have hj1:=eq_true hj
    clear hj
    repeat' (first|(with_reducible first|refine DS.fltS yU yU yE ?_|refine DS.opsNil ?_|refine DS.seq ?_|refine DS.regionL ?_|(refine DS.cE yE ?_;refine CG.yes ?_))|refine DS.pcVS inferInstance yE (hC) yR yT ?_|refine DS.retT [] yE trivial ?_|fail)
    all_goals first|rfl|(exfalso;omega)
   ·rw[if_neg hj]at hC
    rw[if_neg hj,if_neg hj,Int.add_zero]
    repeat' (first|(with_reducible first|refine DS.fltS yU yU yE ?_|refine DS.opsNil ?_|refine DS.seq ?_|refine DS.regionL ?_|(refine DS.cE yE ?_;refine CG.no ?_)|refine DS.skip ?_)|refine DS.pcVS inferInstance yE (hC) yR yT ?_|refine DS.retT [] yE trivial ?_|fail)
    all_goals first|rfl|(exfalso;omega)
end Go.XL
