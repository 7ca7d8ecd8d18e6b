/- A part of a program logic over the kit's walk rules, and contracts of functions in it. Conditions: as each theorem says. -/
import Derived.Test.YtfgeogepihjdiaaGreatDoorC3
import Derived.Laws.Bits64b
import Derived.Lib.TrailingZeros
import Derived.Shelf.Spec.TrailingZeros
import Derived.Lib.AppendZeros
set_option linter.all false
namespace Go.XL
open Go.Proofs
set_option maxRecDepth 100000
set_option maxHeartbeats 8000000
theorem r1between_pc (n lo hi:Int):PC Tryz.prog 141 [I n,I lo,I hi] (Bo (decide (lo≤n∧n≤hi))):=by
 refine DC.of_run Tryz.func141 rfl Tryz.ntmps141 Tryz.results141 (by simp) (fun _ _=>?_);simp only[argV_cons,argV_nil,go_sem,Nat.zero_add,Nat.reduceAdd]
 repeat' (first|(with_reducible first|refine DS.fltS yU yU yE ?_|refine DS.opsNil ?_|refine DS.seq ?_|refine DS.regionL ?_|(refine DS.gE yU yE ?_;first|refine GG.pT (fun _=>?_) (fun _=>?_)|refine GG.run ?_|refine GG.sF ?_))|refine DS.retT [] yE trivial ?_|fail)
 all_goals first|(simp_all [tupV];done)|(simp_all [tupV];omega)
theorem r1plain_pc (s:GSet) (hw:0≤s.winds∧s.winds≤4) (hd:0≤s.dragons∧s.dragons≤3) (hl:s.suits.length≤3) (hs:suitsGo s.suits=0) :
  PC Tryz.prog 142 [s.val] (I s.plain):=by
 obtain⟨a1,a2⟩:=hw
 obtain⟨a3,a4⟩:=hd
 refine DC.of_run Tryz.func142 rfl Tryz.ntmps142 Tryz.results142 (by simp) (fun _ _=>?_);simp only[argV_cons,argV_nil,go_sem,Nat.zero_add,Nat.reduceAdd]
 repeat' (first|(with_reducible first|refine DS.fltS yU yU yE ?_|refine DS.opsNil ?_|refine DS.seq ?_|refine DS.regionL ?_|refine DS.block ?_)|(refine DS.boxF (t:=1) yU yE yU ?_;simp only[cells_agg,cells_v,cells_lst,cells_fn,map_nil'',map_cons'',copy_own,copy_lst,copy_v,copy_at,copy_agg,copy_fn,copy_ifc,copy_tup])|fail)
 refine DS.loopK [1] yN (fun(z:Nat×Int)=> [(3,I z.2),(4,I z.1)]) (fun(z:Nat×Int)=>z.1≤s.suits.length∧z.2=s.winds+s.dragons+sumI (s.suits.take z.1)∧0≤sumI (s.suits.take z.1)∧sumI (s.suits.take z.1)≤9*z.1) (fun(z:Nat×Int)=>s.suits.length-z.1) (0,s.winds+s.dragons) yS ⟨Nat.zero_le _,by simp[sumI],by simp[sumI],by simp[sumI]⟩ (fun z B hI hB=>?_);try dsimp only at hI hB;simp only[app_cons',app_nil']
 have HB:=Box.mk hB
 clear hB
 obtain⟨i,kk⟩:=z
 dsimp only at hI ⊢
 obtain⟨hI,hI1,hI2,hI3⟩:=hI
 have H1:=Box.mk hI1
 have hk1:0≤kk∧kk≤100:=by omega
 clear hI1
 by_cases hi:(i:Int)<(s.suits.length:Int)
 ·have hi':i<s.suits.length:=by omega
  obtain⟨b1,b2⟩:=suits_in hs _ (List.getElem_mem hi')
  repeat' (first|(with_reducible first|refine DS.fltS yU yU yE ?_|refine DS.opsNil ?_|refine DS.seq ?_|refine DS.regionL ?_|(refine DS.cE yE ?_;refine CG.yes ?_)|refine DS.blk ?_|refine DS.block ?_|refine DS.skip ?_)|fail)
  have e:=sumI_take hi'
  have h1:=H1.out
  refine DS.back (HB.out (i+1,kk+s.suits[i]) _ _ (by dsimp only;omega) ⟨by dsimp only;omega,by dsimp only;omega,by dsimp only;omega,by dsimp only;omega⟩ yS yS (fun b o e=>by cases e))
 ·repeat' (first|(with_reducible first|refine DS.fltS yU yU yE ?_|refine DS.opsNil ?_|refine DS.seq ?_|refine DS.regionL ?_|(refine DS.cE yE ?_;refine CG.no ?_)|refine DS.exit yU ?_)|refine DS.retT [] yE trivial ?_|fail)
  rw[H1.out,List.take_of_length_le (by omega)];rfl
theorem r1check_pc (s:GSet):PC Tryz.prog 111 [s.val] (I (gsetS s)):=by
 by_cases h1:3≤s.players∧s.players≤4
 ·by_cases h2:(s.suits.length:Int)≤3
  ·refine DC.of_run Tryz.func111 rfl Tryz.ntmps111 Tryz.results111 (by simp) (fun _ _=>?_);simp only[argV_cons,argV_nil,go_sem,Nat.zero_add,Nat.reduceAdd]
   repeat' (first|(with_reducible first|refine DS.fltS yU yU yE ?_|refine DS.opsNil ?_|refine DS.seq ?_|refine DS.regionL ?_|(refine DS.cE yE ?_;first|refine CG.p (fun _=>?_) (fun _=>?_)|refine CG.no ?_)|refine DS.block ?_|refine DS.skip ?_)|refine DS.pcS inferInstance (r1between_pc _ _ _) yR yT ?_|(refine DS.boxF (t:=1) yU yE yU ?_;simp only[cells_agg,cells_v,cells_lst,cells_fn,map_nil'',map_cons'',copy_own,copy_lst,copy_v,copy_at,copy_agg,copy_fn,copy_ifc,copy_tup])|fail)
   all_goals try (exfalso;omega)
   refine DS.loopK [1] yN (fun(i:Nat)=> [(3,I i)]) (fun(i:Nat)=>i≤s.suits.length∧suitsGo s.suits=suitsGo (s.suits.drop i)) (fun(i:Nat)=>s.suits.length-i) 0 yS ⟨Nat.zero_le _,rfl⟩ (fun i B hI hB=>?_);try dsimp only at hI hB;simp only[app_cons',app_nil']
   have HB:=Box.mk hB
   clear hB
   obtain⟨hI,hI2⟩:=hI
   by_cases hi:(i:Int)<(s.suits.length:Int)
   ·have hi':i<s.suits.length:=by omega
    rw[suitsGo_at hi']at hI2
    have H2:=Box.mk hI2
    clear hI2
    by_cases hn:1≤s.suits[i]∧s.suits[i]≤9
    ·repeat' (first|(with_reducible first|refine DS.fltS yU yU yE ?_|refine DS.opsNil ?_|refine DS.seq ?_|refine DS.regionL ?_|(refine DS.cE yE ?_;first|refine CG.yes ?_|refine CG.no ?_)|refine DS.blk ?_|refine DS.block ?_|refine DS.skip ?_)|refine DS.pcS inferInstance (r1between_pc _ _ _) yR yT ?_|fail)
     all_goals first
      | exact DS.back (HB.out (i+1) _ _ (by omega) ⟨by omega,by rw[H2.out,if_neg (by omega)]⟩ yS yS (fun b o e=>by cases e))
      | (exfalso;omega)
    ·have e:gsetS s=2:=by rw[gsetS,if_neg (by omega),if_neg (by omega),if_pos (by rw[H2.out,if_pos hn];decide)]
     rw[e]
     repeat' (first|(with_reducible first|refine DS.fltS yU yU yE ?_|refine DS.opsNil ?_|refine DS.seq ?_|refine DS.regionL ?_|(refine DS.cE yE ?_;refine CG.yes ?_)|refine DS.block ?_|refine DS.skip ?_)|refine DS.pcS inferInstance (r1between_pc _ _ _) yR yT ?_|refine DS.retT [] yE trivial ?_|fail)
     all_goals first|rfl|(exfalso;omega)
   ·rw[drop_end hi]at hI2
    have hI2:suitsGo s.suits=0:=hI2
    clear HB
    by_cases hb:((0≤s.winds∧s.winds≤4)∧(0≤s.dragons∧s.dragons≤3)∧(0≤s.flowers∧s.flowers≤8))∧(1≤s.copies∧s.copies≤4)∧(1≤s.melds∧s.melds≤4)∧(0≤s.dead∧s.dead≤20)
    ·obtain⟨⟨a1,a2,a3⟩,a4,a5,a6⟩:=hb
     have hk:=r1plain_pc s a1 a2 (by omega) hI2
     have hpl:s.plain≤34:=by have:=suits_sum hI2;have e:s.plain=s.winds+s.dragons+sumI s.suits:=rfl;omega
     have hp0:0≤s.plain:=by have:=suits_sum hI2;have e:s.plain=s.winds+s.dragons+sumI s.suits:=rfl;omega
     have e:gsetS s=if s.plain<1 then 6 else if ascS s.plain s.reds≠0 then ascS s.plain s.reds else if s.plain*s.copies+s.flowers<s.players*(3*s.melds+1)+1+s.dead then 6 else 0:=by
      rw[gsetS,if_neg (by omega),if_neg (by omega),if_neg (by omega),if_neg (by omega),if_neg (by omega),if_neg (by omega),if_neg (by omega),if_neg (by omega),if_neg (by omega)]
     rw[e]
     clear e
     obtain⟨c1,c2⟩:=a4
     obtain⟨c3,c4⟩:=a5
     obtain⟨c5,c6⟩:=a3
     obtain⟨c7,c8⟩:=a6
     have m1:0≤s.plain*s.copies:=Int.mul_nonneg hp0 (by omega)
     have m2:s.plain*s.copies≤34*4:=Int.mul_le_mul hpl c2 (by omega) (by omega)
     have m3:0≤s.players*(3*s.melds+1):=Int.mul_nonneg (by omega) (by omega)
     have m4:s.players*(3*s.melds+1)≤4*13:=Int.mul_le_mul h1.2 (by omega) (by omega) (by omega)
     clear hI2
     repeat' (first|(with_reducible first|refine DS.fltS yU yU yE ?_|refine DS.opsNil ?_|refine DS.seq ?_|refine DS.regionL ?_|(refine DS.cE yE ?_;first|refine CG.p (fun _=>?_) (fun _=>?_)|refine CG.no ?_)|(refine DS.gE yU yE ?_;refine GG.run ?_)|refine DS.block ?_|refine DS.exit yU ?_|refine DS.skip ?_)|refine DS.pcS inferInstance (r1between_pc _ _ _) yR yT ?_|refine DS.pcS inferInstance (hk) yR yT ?_|fail)
     all_goals try (exfalso;omega)
     ·repeat' (first|refine DS.retT [] yE trivial ?_|fail)
      rw[if_pos (by omega)];rfl
     ·rename_i hz
      rw[if_neg (by omega)]
      refine DS.loopK [1,4] yN (fun(j:Nat)=> [(5,I j)]) (fun(j:Nat)=>j≤s.reds.length∧ascS s.plain s.reds=ascGo s.plain (s.reds.drop j) ((prevL s.reds j).getD (-1))) (fun(j:Nat)=>s.reds.length-j) 0 yS ⟨Nat.zero_le _,rfl⟩ (fun j B hI hB=>?_);try dsimp only at hI hB;simp only[app_cons',app_nil']
      have HB:=Box.mk hB
      clear hB
      obtain⟨hJ,hI5⟩:=hI
      by_cases ha:(j:Int)<(s.reds.length:Int)
      ·have ha':j<s.reds.length:=by omega
       have hp:j-1<s.reds.length:=by omega
       rw[ascGo_at ha']at hI5
       have HI:=Box.mk hI5
       clear hI5
       repeat' (first|(with_reducible first|refine DS.fltS yU yU yE ?_|refine DS.opsNil ?_|refine DS.seq ?_|refine DS.regionL ?_)|fail)
       refine DS.bnd (t:=66) yG (.inl rfl) (fun hb66=>?_);simp only[List.length_map]at hb66
       repeat' (first|(with_reducible first|refine DS.fltS yU yU yE ?_|refine DS.opsNil ?_|refine DS.seq ?_|refine DS.regionL ?_|(refine DS.cE yE ?_;first|refine CG.np (fun _=>?_) (fun _=>?_)|refine CG.p (fun _=>?_) (fun _=>?_)|refine CG.yes ?_|refine CG.no ?_)|(refine DS.gE yU yE ?_;first|refine GG.run ?_|refine GG.sF ?_)|refine DS.blk ?_|refine DS.block ?_|refine DS.skip ?_)|refine DS.pcS inferInstance (r1between_pc _ _ _) yR yT ?_|refine DS.drawL (id:=22) [0,1,2,3,4,5,6,7,8,9,10,11,12,13] 14 (by kernel_rfl) mixed (by simp only[pickL_cons,pickL_nil,get_zero',get_cons',pickO_some];exact rfl) (by simp only[drop_zero',drop_cons',List.drop_nil];exact rfl) ?_|(with_reducible first|refine DD.fltS yU yU yU yE ?_|(refine DD.gE yU yE ?_;first|refine DGG.pT (fun _=>?_) (fun _=>?_)|refine DGG.run ?_|refine DGG.sF ?_)|refine DD.nil0 ?_)|refine DS.retT [] yE trivial ?_|fail)
       all_goals (try rw[prevL_zero (by assumption)]at HI) <;> (try rw[prevL_pos (by assumption) hp]at HI)
       all_goals try simp only[Option.getD_none,Option.getD_some]at HI
       all_goals first
        | exact DS.back (HB.out (j+1) _ _ (by omega) ⟨by omega,by rw[HI.out,prevL_succ ha',if_neg (by omega),if_neg (by omega)];rfl⟩ yS yS (fun b o e=>by cases e))
        | (rw[show ascS s.plain s.reds=2 by rw[HI.out,if_pos (by omega)],if_pos (by decide)];rfl)
        | (rw[show ascS s.plain s.reds=11 by rw[HI.out,if_neg (by omega),if_pos (by omega)],if_pos (by decide)];rfl)
        | (exfalso;omega)
      ·rw[drop_end ha]at hI5
       have hI5:ascS s.plain s.reds=0:=hI5
       rw[if_neg (by omega)]
       clear hI5
       repeat' (first|(with_reducible first|refine DS.fltS yU yU yE ?_|refine DS.opsNil ?_|refine DS.seq ?_|refine DS.regionL ?_|(refine DS.cE yE ?_;first|refine CG.p (fun _=>?_) (fun _=>?_)|refine CG.no ?_)|refine DS.exit yU ?_|refine DS.skip ?_)|refine DS.retT [] yE trivial ?_|fail)
       ·rw[if_pos (by omega)];rfl
       ·rw[if_neg (by omega)];rfl
    ·have e:gsetS s=2:=by
      rw[gsetS,if_neg (by omega),if_neg (by omega),if_neg (by omega)]
      (repeat' split) <;> first|rfl|(exfalso;omega)
     rw[e]
     clear e hI2
     repeat' (first|(with_reducible first|refine DS.fltS yU yU yE ?_|refine DS.opsNil ?_|refine DS.seq ?_|refine DS.regionL ?_|(refine DS.cE yE ?_;first|refine CG.np (fun _=>?_) (fun _=>?_)|refine CG.yes ?_|refine CG.no ?_)|(refine DS.gE yU yE ?_;first|refine GG.npF (fun _=>?_) (fun _=>?_)|refine GG.run ?_|refine GG.sT ?_)|refine DS.exit yU ?_|refine DS.skip ?_)|refine DS.pcS inferInstance (r1between_pc _ _ _) yR yT ?_|refine DS.retT [] yE trivial ?_|fail)
     all_goals first|rfl|(exfalso;omega)
  ·rw[gsetS,if_neg (by omega),if_pos (by omega)]
   refine DC.of_run Tryz.func111 rfl Tryz.ntmps111 Tryz.results111 (by simp) (fun _ _=>?_);simp only[argV_cons,argV_nil,go_sem,Nat.zero_add,Nat.reduceAdd]
   repeat' (first|(with_reducible first|refine DS.fltS yU yU yE ?_|refine DS.opsNil ?_|refine DS.seq ?_|refine DS.regionL ?_|(refine DS.cE yE ?_;first|refine CG.p (fun _=>?_) (fun _=>?_)|refine CG.no ?_)|refine DS.block ?_|refine DS.skip ?_)|refine DS.pcS inferInstance (r1between_pc _ _ _) yR yT ?_|(refine DS.boxF (t:=1) yU yE yU ?_;simp only[cells_agg,cells_v,cells_lst,cells_fn,map_nil'',map_cons'',copy_own,copy_lst,copy_v,copy_at,copy_agg,copy_fn,copy_ifc,copy_tup])|refine DS.retT [] yE trivial ?_|fail)
   all_goals first|rfl|(exfalso;omega)
 ·rw[gsetS,if_pos h1]
  refine DC.of_run Tryz.func111 rfl Tryz.ntmps111 Tryz.results111 (by simp) (fun _ _=>?_);simp only[argV_cons,argV_nil,go_sem,Nat.zero_add,Nat.reduceAdd]
  repeat' (first|(with_reducible first|refine DS.fltS yU yU yE ?_|refine DS.opsNil ?_|refine DS.seq ?_|refine DS.regionL ?_|(refine DS.cE yE ?_;refine CG.yes ?_))|refine DS.pcS inferInstance (r1between_pc _ _ _) yR yT ?_|(refine DS.boxF (t:=1) yU yE yU ?_;simp only[cells_agg,cells_v,cells_lst,cells_fn,map_nil'',map_cons'',copy_own,copy_lst,copy_v,copy_at,copy_agg,copy_fn,copy_ifc,copy_tup])|refine DS.retT [] yE trivial ?_|fail)
  all_goals first|rfl|(exfalso;omega)
theorem r1kinds_pc (s:GSet):PC Tryz.prog 182 [s.val] (I (kindsS s)):=by
 have hc:=r1check_pc s
 by_cases h0:gsetS s=0
 ·have ok:=gset_ok h0
  have hp:=r1plain_pc s ok.winds ok.dragons ok.suits ok.suit
  rw[h0]at hc
  rw[kindsS,if_neg (by omega)]
  clear ok
  refine DC.of_run Tryz.func182 rfl Tryz.ntmps182 Tryz.results182 (by simp) (fun _ _=>?_);simp only[argV_cons,argV_nil,go_sem,Nat.zero_add,Nat.reduceAdd]
  repeat' (first|(with_reducible first|refine DS.fltS yU yU yE ?_|refine DS.opsNil ?_|refine DS.seq ?_|refine DS.regionL ?_|(refine DS.cE yE ?_;refine CG.no ?_)|refine DS.skip ?_)|refine DS.pcS inferInstance (hc) yR yT ?_|refine DS.pcS inferInstance (hp) yR yT ?_|(refine DS.boxF (t:=1) yU yE yU ?_;simp only[cells_agg,cells_v,cells_lst,cells_fn,map_nil'',map_cons'',copy_own,copy_lst,copy_v,copy_at,copy_agg,copy_fn,copy_ifc,copy_tup])|refine DS.retT [] yE trivial ?_|fail)
  all_goals first|rfl|(exfalso;omega)
 ·rw[kindsS,if_pos h0]
  refine DC.of_run Tryz.func182 rfl Tryz.ntmps182 Tryz.results182 (by simp) (fun _ _=>?_);simp only[argV_cons,argV_nil,go_sem,Nat.zero_add,Nat.reduceAdd]
  repeat' (first|(with_reducible first|refine DS.fltS yU yU yE ?_|refine DS.opsNil ?_|refine DS.seq ?_|refine DS.regionL ?_|(refine DS.cE yE ?_;refine CG.yes ?_))|refine DS.pcS inferInstance (hc) yR yT ?_|(refine DS.boxF (t:=1) yU yE yU ?_;simp only[cells_agg,cells_v,cells_lst,cells_fn,map_nil'',map_cons'',copy_own,copy_lst,copy_v,copy_at,copy_agg,copy_fn,copy_ifc,copy_tup])|refine DS.retT [] yE trivial ?_|fail)
  all_goals first|rfl|(exfalso;omega)
theorem r1has_pc (l:List Int) (n:Int):PC Tryz.prog 62 [ints l,I n] (Bo (l.contains n)):=by
 refine DC.of_run Tryz.func62 rfl Tryz.ntmps62 Tryz.results62 (by simp) (fun _ _=>?_);simp only[argV_cons,argV_nil,go_sem,Nat.zero_add,Nat.reduceAdd]
 refine DS.bnd (t:=0) yG (.inl rfl) (fun hb0=>?_);simp only[List.length_map]at hb0
 repeat' (first|(with_reducible first|refine DS.fltS yU yU yE ?_|refine DS.opsNil ?_|refine DS.seq ?_|refine DS.regionL ?_|refine DS.block ?_)|fail)
 refine DS.loopK [0,1] yN (fun(i:Nat)=> [(5,I i)]) (fun(i:Nat)=>i≤l.length∧l.contains n=(l.drop i).contains n) (fun(i:Nat)=>l.length-i) 0 yS ⟨Nat.zero_le _,rfl⟩ (fun i B hI hB=>?_);try dsimp only at hI hB;simp only[app_cons',app_nil']
 have HB:=Box.mk hB
 clear hB
 obtain⟨hI,hI2⟩:=hI
 by_cases hi:(i:Int)<(l.length:Int)
 ·have hi':i<l.length:=by omega
  rw[List.drop_eq_getElem_cons hi',List.contains_cons]at hI2
  have H2:=Box.mk hI2
  clear hI2
  by_cases he:l[i]=n
  ·have e:l.contains n=true:=by rw[H2.out,he];simp
   rw[e]
   clear H2 e
   repeat' (first|(with_reducible first|refine DS.fltS yU yU yE ?_|refine DS.opsNil ?_|refine DS.seq ?_|refine DS.regionL ?_|(refine DS.cE yE ?_;refine CG.yes ?_)|refine DS.block ?_|refine DS.skip ?_)|refine DS.retT [] yE trivial ?_|fail)
   all_goals first|rfl|(exfalso;omega)
  ·have e:(n == l[i])=false:=by simp;omega
   repeat' (first|(with_reducible first|refine DS.fltS yU yU yE ?_|refine DS.opsNil ?_|refine DS.seq ?_|refine DS.regionL ?_|(refine DS.cE yE ?_;first|refine CG.yes ?_|refine CG.no ?_)|refine DS.blk ?_|refine DS.block ?_|refine DS.skip ?_)|fail)
   all_goals first
    | exact DS.back (HB.out (i+1) _ _ (by omega) ⟨by omega,by rw[H2.out,e,Bool.false_or]⟩ yS yS (fun b o e=>by cases e))
    | (exfalso;omega)
 ·repeat' (first|(with_reducible first|refine DS.fltS yU yU yE ?_|refine DS.opsNil ?_|refine DS.seq ?_|refine DS.regionL ?_|(refine DS.cE yE ?_;refine CG.no ?_)|refine DS.exit yU ?_)|refine DS.retT [] yE trivial ?_|fail)
  rw[hI2,drop_end hi];rfl
theorem r2plain_pc (s:GSet) (k:Int):PC Tryz.prog 169 [s.val,I k] (Bo (decide (0≤k∧k≤kindsS s-1))):=by
 have hk:=r1kinds_pc s
 generalize kindsS s=n at *
 refine DC.of_run Tryz.func169 rfl Tryz.ntmps169 Tryz.results169 (by simp) (fun _ _=>?_);simp only[argV_cons,argV_nil,go_sem,Nat.zero_add,Nat.reduceAdd]
 repeat' (first|(with_reducible first|refine DS.fltS yU yU yE ?_|refine DS.opsNil ?_|refine DS.seq ?_|refine DS.regionL ?_|(refine DS.gE yU yE ?_;first|refine GG.pT (fun _=>?_) (fun _=>?_)|refine GG.run ?_|refine GG.sF ?_))|refine DS.pcS inferInstance (hk) yR yT ?_|(refine DS.boxF (t:=2) yU yE yU ?_;simp only[cells_agg,cells_v,cells_lst,cells_fn,map_nil'',map_cons'',copy_own,copy_lst,copy_v,copy_at,copy_agg,copy_fn,copy_ifc,copy_tup])|refine DS.retT [] yE trivial ?_|fail)
 all_goals first|(simp[tupV, *];done)|(simp[tupV, *];omega)
theorem yX0 {p:Prop} (h:p:=by(simp (disch:=omega) only[go_sem,dopV,yV0,↓reduceIte,Nat.reduceEqDiff,Nat.reduceLT,Nat.reduceLeDiff,Nat.reduceAdd,Nat.reduceMul,Nat.reduceSub,Int.reduceToNat,Int.reduceLT,Int.reduceLE,Int.reduceEq,IntWalk.toNatUp,IntWalk.iteOmega,IntWalk.i64_in,V.flat,V.one, *,List.length_cons,List.length_nil,List.getElem_cons_zero,List.getElem_cons_succ];exact rfl)):p:=h
theorem r2nines_pc (s:GSet):PC Tryz.prog 143 [s.val] (Bo (decide (s.suits= [9,9,9]))):=by
 obtain⟨p,l,w,d,f,c,m,dd,r⟩:=s
 dsimp only
 have hl:l.length≤2∨(∃a b c,l= [a,b,c])∨3<l.length:=by
  rcases l with _|⟨a,_|⟨b,_|⟨c,_|⟨d,l⟩⟩⟩⟩ <;> simp
 rcases hl with h|⟨a,b,c',rfl⟩|h
 ·have e:decide (l= [9,9,9])=false:=decide_eq_false fun h'=>by rw[h']at h;simp at h
  rw[e]
  refine DC.of_run Tryz.func143 rfl Tryz.ntmps143 Tryz.results143 (by simp) (fun _ _=>?_);simp only[argV_cons,argV_nil,go_sem,Nat.zero_add,Nat.reduceAdd]
  repeat' (first|(with_reducible first|refine DS.fltS yU yU yE ?_|refine DS.opsNil ?_|refine DS.seq ?_|refine DS.regionL ?_|(refine DS.gE yU yE ?_;first|refine GG.pT (fun _=>?_) (fun _=>?_)|refine GG.run ?_|refine GG.sF ?_))|(refine DS.boxF (t:=1) yU yE yU ?_;simp only[cells_agg,cells_v,cells_lst,cells_fn,map_nil'',map_cons'',copy_own,copy_lst,copy_v,copy_at,copy_agg,copy_fn,copy_ifc,copy_tup])|refine DS.retT [] yE trivial ?_|fail)
  all_goals first|rfl|(exfalso;omega)
 ·refine DC.of_run Tryz.func143 rfl Tryz.ntmps143 Tryz.results143 (by simp) (fun _ _=>?_);simp only[argV_cons,argV_nil,go_sem,Nat.zero_add,Nat.reduceAdd]
  repeat' (first|(with_reducible first|refine DS.fltS yU yU yX0 ?_|refine DS.opsNil ?_|refine DS.seq ?_|refine DS.regionL ?_|(refine DS.gE yU yX0 ?_;first|refine GG.pT (fun _=>?_) (fun _=>?_)|refine GG.run ?_|refine GG.sF ?_))|(refine DS.boxF (t:=1) yU yX0 yU ?_;simp only[cells_agg,cells_v,cells_lst,cells_fn,map_nil'',map_cons'',copy_own,copy_lst,copy_v,copy_at,copy_agg,copy_fn,copy_ifc,copy_tup])|refine DS.retT [] yX0 trivial ?_|fail)
  all_goals first|(simp_all [tupV];done)|(simp_all [tupV];omega)
 ·have e:decide (l= [9,9,9])=false:=decide_eq_false fun h'=>by rw[h']at h;simp at h
  rw[e]
  refine DC.of_run Tryz.func143 rfl Tryz.ntmps143 Tryz.results143 (by simp) (fun _ _=>?_);simp only[argV_cons,argV_nil,go_sem,Nat.zero_add,Nat.reduceAdd]
  repeat' (first|(with_reducible first|refine DS.fltS yU yU yE ?_|refine DS.opsNil ?_|refine DS.seq ?_|refine DS.regionL ?_|(refine DS.gE yU yE ?_;first|refine GG.pT (fun _=>?_) (fun _=>?_)|refine GG.run ?_|refine GG.sF ?_))|(refine DS.boxF (t:=1) yU yE yU ?_;simp only[cells_agg,cells_v,cells_lst,cells_fn,map_nil'',map_cons'',copy_own,copy_lst,copy_v,copy_at,copy_agg,copy_fn,copy_ifc,copy_tup])|refine DS.retT [] yE trivial ?_|fail)
  all_goals first|rfl|(exfalso;omega)
end Go.XL
namespace Go.XL
def limG (value:Int):List Limit→Option Int→Option Int
 | [],out=>out
 | l::r,out=>limG value r (if l.from_≤value then some l.points else out)
def limS (x:Scale) (value:Int):Option Int:=limG value x.limits none
def mostS (x:Scale):Int:=match x.limits with
 | []=>1000000
 | l::_=>l.points
def ptsS (x:Scale) (minor value:Int):Int :=
 if scaleS x≠0 then 0 else if ¬(0≤minor∧minor≤1000)then 0 else if ¬(0≤value∧value≤1073741824)then 0 else
 match limS x value with
 | some p=>p
 | none=>min (if x.double=true then x.base*minor*2 ^ (min value 21).toNat else x.base*minor*value) (mostS x)
def House.seat (h:House) (n:Int):Bool:=decide (0≤n)&&decide (n<h.set.players)
def shareS (h:House) (dealer winner j:Int):Int:=if j=winner then 0 else if h.pay.dealer=true∧(j=dealer∨winner=dealer)then 2 else 1
def upS (n to:Int):Int:=(n+to-1) / to*to
def sumTo (f:Nat→Int):Nat→Int
 | 0=>0
 | n+1=>sumTo f n+f n
def owesS (h : House) (points dealer winner from_ counters j : Int) : Int :=
  if from_ = winner then upS (points * shareS h dealer winner j) h.scale.round + h.pay.counter * counters + (if h.pay.mode = 3 then h.pay.basic else 0) else
  (if h.pay.mode = 1 then (if j = from_ then upS (points * sumTo (fun i => shareS h dealer winner i) h.set.players.toNat) h.scale.round else 0)
   else if h.pay.mode = 2 then (if j = from_ then 2 * upS (points * shareS h dealer winner j) h.scale.round else upS (points * shareS h dealer winner j) h.scale.round)
   else (if j = from_ then upS (points * shareS h dealer winner j) h.scale.round + h.pay.basic else h.pay.basic)) +
  (if j = from_ then h.pay.counter * counters * (h.set.players - 1) else 0)
end Go.XL
namespace Go.XL
def bitsM (m:Nat):List Nat:=(List.range 64).filter fun i=>m.testBit i
def andN (a b:Nat):Nat:=a &&& (b ^^^ (2 ^ 64-1))
def maskL :List Nat→Nat
 | []=>0
 | i::l=>2 ^ i ||| maskL l
theorem andN_bit {a:Nat} (b:Nat) (ha:a<2 ^ 64) (j:Nat):(andN a b).testBit j=(a.testBit j&& !b.testBit j):=by
 rw[andN,Nat.testBit_and,Nat.testBit_xor,Nat.testBit_two_pow_sub_one]
 by_cases h:j<64
 ·simp[h]
 ·have:a.testBit j=false:=Nat.testBit_lt_two_pow (Nat.lt_of_lt_of_le ha (Nat.pow_le_pow_right (by omega) (by omega)))
  simp[this]
theorem andN_lt {a:Nat} (b:Nat) (ha:a<2 ^ 64):andN a b<2 ^ 64:=Nat.lt_of_le_of_lt Nat.and_le_left ha
theorem filter_first {p p':Nat→Bool} {t:Nat} (hp:p t=true) (h0: ∀j,j<t→p j=false) (hp': ∀j,p' j=(p j&&decide (j≠t))): ∀n,t<n→(List.range n).filter p=t::(List.range n).filter p'
 | 0,h=>by omega
 | n+1,h=>by
  rw[List.range_succ,List.filter_append,List.filter_append]
  by_cases ht:t<n
  ·rw[filter_first hp h0 hp' n ht]
   have:p' n=p n:=by rw[hp'];simp;omega
   simp[List.filter_cons,this]
  ·have:t=n:=by omega
   subst this
   have e1:(List.range t).filter p= []:=List.filter_eq_nil_iff.2 fun j hj=>by rw[h0 j (List.mem_range.1 hj)];decide
   have e2:(List.range t).filter p'= []:=List.filter_eq_nil_iff.2 fun j hj=>by rw[hp',h0 j (List.mem_range.1 hj)];simp
   have e3:p' t=false:=by rw[hp'];simp
   rw[e1,e2];simp[hp,e3]
theorem bits_lt (m:Nat): ∀i∈bitsM m,i<64∧m.testBit i=true:=fun i hi=>by
 simp only[bitsM,List.mem_filter,List.mem_range]at hi;exact hi
theorem bits_zero :bitsM 0= []:=by simp[bitsM]
theorem ctz_lt {m:Nat} (h0:m≠0) (hm:m<2 ^ 64):Lib.ctz 64 m<64:=(Lib.lowest_bit 64 m h0 hm).2
theorem ctz_first {m:Nat} (h0:m≠0) (hm:m<2 ^ 64):m.testBit (Lib.ctz 64 m)=true∧ ∀j,j<Lib.ctz 64 m→m.testBit j=false:=by
 obtain⟨k,hk,ht⟩:=Lib.ctzFrom_spec 64 m (by omega) hm
 have e:Lib.ctz 64 m=Lib.ctzFrom 64 m:=by simp[Lib.ctz,h0]
 rw[e]
 generalize Lib.ctzFrom 64 m=t at *
 have e3:m=2 ^ t*(2*k+1)+0:=by omega
 have b2: ∀j,m.testBit j=if j<t then(0:Nat).testBit j else(2*k+1).testBit (j-t):=fun j=>by
  conv=>lhs;rw[e3]
  exact Nat.testBit_two_pow_mul_add _ (Nat.pow_pos (by omega)) j
 refine⟨?_,fun j hj=>?_⟩
 ·rw[b2,if_neg (by omega),Nat.sub_self,Nat.testBit_zero];simp
 ·rw[b2,if_pos hj];simp
theorem bits_cons {m:Nat} (h0:m≠0) (hm:m<2 ^ 64):bitsM m=Lib.ctz 64 m::bitsM (andN m (2 ^ Lib.ctz 64 m)):=by
 obtain⟨h1,h2⟩:=ctz_first h0 hm
 refine filter_first h1 h2 (fun j=>?_) 64 (ctz_lt h0 hm)
 rw[andN_bit _ hm,Nat.testBit_two_pow]
 congr 1
 by_cases h:Lib.ctz 64 m=j <;> simp[h]
 omega
theorem bits_andN {a:Nat} (b:Nat) (ha:a<2 ^ 64):bitsM (andN a b)=(bitsM a).filter fun k=> !b.testBit k:=by
 rw[bitsM,bitsM,List.filter_filter]
 refine List.filter_congr fun j _=>?_
 rw[andN_bit b ha,Bool.and_comm]
theorem bits_any {a:Nat} (b:Nat) (ha:a<2 ^ 64):(bitsM a).any (fun k=>b.testBit k)=decide (a &&& b≠0):=by
 rw[Bool.eq_iff_iff,List.any_eq_true,decide_eq_true_iff]
 constructor
 ·rintro⟨j,hj,hb⟩ h0
  have h1:=congrArg (·.testBit j) h0
  simp only[Nat.testBit_and,Nat.zero_testBit,(bits_lt a j hj).2,hb]at h1
  cases h1
 ·intro h
  refine Decidable.byContradiction fun hn=>h (Nat.eq_of_testBit_eq fun j=>?_)
  rw[Nat.testBit_and,Nat.zero_testBit]
  by_cases hj:j<64
  ·cases h1:a.testBit j with
   | false=>rfl
   | true =>
    cases h2:b.testBit j with
    | false=>rfl
    | true=>exact absurd ⟨j,by simp[bitsM,hj,h1],h2⟩ hn
  ·rw[Nat.testBit_lt_two_pow (Nat.lt_of_lt_of_le ha (Nat.pow_le_pow_right (by omega) (by omega)))];rfl
theorem mask_bit : ∀(l:List Nat) (j:Nat),(maskL l).testBit j=decide (j∈l)
 | [],j=>by simp[maskL]
 | i::l,j=>by
  rw[maskL,Nat.testBit_or,Nat.testBit_two_pow,mask_bit l j]
  by_cases h:i=j <;> by_cases h2:j∈l <;> simp[h,h2] <;> omega
theorem mask_lt : ∀(l:List Nat),(∀i∈l,i<64)→maskL l<2 ^ 64
 | [],_=>by simp[maskL]
 | i::l,h=>Nat.or_lt_two_pow (Nat.pow_lt_pow_right (by omega) (h i (List.mem_cons_self ..))) (mask_lt l fun j hj=>h j (List.mem_cons_of_mem _ hj))
theorem filter_mem : ∀(n s:Nat) (l:List Nat),l.Pairwise (· < ·)→(∀i∈l,s≤i∧i<s+n)→(List.range' s n).filter (fun i=>decide (i∈l))=l
 | 0,s,l,_,h=>by
  cases l with
  | nil=>rfl
  | cons i l=>have:=h i (List.mem_cons_self ..);omega
 | n+1,s,l,hp,h=>by
  rw[List.range'_succ,List.filter_cons]
  cases l with
  | nil=>simp
  | cons i l =>
   rw[List.pairwise_cons]at hp
   by_cases hi:i=s
   ·subst hi
    rw[if_pos (by simp)]
    congr 1
    have ih:=filter_mem n (i+1) l hp.2 (fun j hj=>by have:=hp.1 j hj;have:=h j (List.mem_cons_of_mem _ hj);omega)
    rw[←ih]
    refine List.filter_congr fun j hj=>?_
    rw[List.mem_range'_1]at hj
    have:j≠i:=by omega
    rw[ih];simp[this]
   ·have hs:s ∉ i::l:=fun hs=>by
     rcases List.mem_cons.1 hs with rfl|hs
     ·exact hi rfl
     ·have:=hp.1 s hs;have:=(h i (List.mem_cons_self ..)).1;omega
    rw[if_neg (by simpa using hs)]
    refine filter_mem n (s+1) (i::l) (List.pairwise_cons.2 hp) fun j hj=>?_
    have:=h j hj
    have:j≠s:=fun e=>hs (e▸hj)
    omega
theorem bits_mask {l:List Nat} (hp:l.Pairwise (· < ·)) (h: ∀i∈l,i<64):bitsM (maskL l)=l:=by
 rw[bitsM,List.range_eq_range']
 simp only[mask_bit]
 exact filter_mem 64 0 l hp fun i hi=>by have:=h i hi;omega
def bestL (cl:Nat→Nat→Bool) (v:Nat→Int):List Nat→Int×List Nat
 | []=>(0,[])
 | i::l =>
  if l.any (cl i)=true∧(bestL cl v l).1 > (bestL cl v (l.filter fun k=> !cl i k)).1+v i then bestL cl v l
  else((bestL cl v (l.filter fun k=> !cl i k)).1+v i,i::(bestL cl v (l.filter fun k=> !cl i k)).2)
termination_by l=>l.length
decreasing_by all_goals (simp only[List.length_cons,List.unattach_filter,List.unattach_attach];first|omega|(have:=List.length_filter_le (fun k=> !cl i k) l;omega))
theorem bestL_nil (cl:Nat→Nat→Bool) (v:Nat→Int):bestL cl v []=(0,[]):=by rw[bestL]
theorem bestL_cons (cl:Nat→Nat→Bool) (v:Nat→Int) (i:Nat) (l:List Nat):bestL cl v (i::l)=if l.any (cl i)=true∧(bestL cl v l).1 > (bestL cl v (l.filter fun k=> !cl i k)).1+v i then bestL cl v l
  else((bestL cl v (l.filter fun k=> !cl i k)).1+v i,i::(bestL cl v (l.filter fun k=> !cl i k)).2):=by rw[bestL]
theorem bestL_sub (cl:Nat→Nat→Bool) (v:Nat→Int): ∀(n:Nat) (l:List Nat),l.length≤n→(bestL cl v l).2.Sublist l
 | _,[],_=>by rw[bestL_nil];exact List.Sublist.refl _
 | n+1,i::l,h=>by
  have h1:l.length≤n:=by simpa using h
  have h2:=List.length_filter_le (fun k=> !cl i k) l
  rw[bestL_cons]
  split
  ·exact(bestL_sub cl v n l h1).trans (List.sublist_cons_self ..)
  ·exact((bestL_sub cl v n _ (by omega)).trans (List.filter_sublist ..)).cons₂ i
theorem bestL_bd (cl:Nat→Nat→Bool) (v:Nat→Int) {B:Int} (hB:0≤B) (hv: ∀i,0≤v i∧v i≤B): ∀(n:Nat) (l:List Nat),l.length≤n→0≤(bestL cl v l).1∧(bestL cl v l).1≤n*B
 | n,[],_=>by rw[bestL_nil];exact⟨Int.le_refl _,Int.mul_nonneg (by omega) hB⟩
 | n+1,i::l,h=>by
  have h1:l.length≤n:=by simpa using h
  have h2:=List.length_filter_le (fun k=> !cl i k) l
  have a:=bestL_bd cl v hB hv n l h1
  have b:=bestL_bd cl v hB hv n (l.filter fun k=> !cl i k) (by omega)
  have c:=hv i
  have e:((n+1:Nat):Int)*B=n*B+B:=by rw[Int.natCast_add,Int.add_mul];simp
  rw[bestL_cons,e]
  split
  ·omega
  ·dsimp only;omega
def bestM (cl:Nat→Nat→Bool) (v:Nat→Int) (m:Nat):Int×Nat:=((bestL cl v (bitsM m)).1,maskL (bestL cl v (bitsM m)).2)
theorem bestM_zero (cl:Nat→Nat→Bool) (v:Nat→Int):bestM cl v 0=(0,0):=by rw[bestM,bits_zero,bestL_nil];rfl
theorem bestM_step (c:Nat→Nat) (v:Nat→Int) {m:Nat} (h0:m≠0) (hm:m<2 ^ 64) (i:Nat) (hi:i=Lib.ctz 64 m) (r:Nat) (hr:r=andN m (2 ^ i)) :
  bestM (fun i k=>(c i).testBit k) v m=if r &&& c i≠0∧(bestM (fun i k=>(c i).testBit k) v r).1 > (bestM (fun i k=>(c i).testBit k) v (andN r (c i))).1+v i then bestM (fun i k=>(c i).testBit k) v r
   else((bestM (fun i k=>(c i).testBit k) v (andN r (c i))).1+v i,(bestM (fun i k=>(c i).testBit k) v (andN r (c i))).2 ||| 2 ^ i):=by
 subst hi
 have hrl:r<2 ^ 64:=by rw[hr];exact andN_lt _ hm
 rw[bestM,bits_cons h0 hm,←hr,bestL_cons,bits_any _ hrl]
 simp only[bestM,bits_andN _ hrl]
 by_cases h:r &&& c (Lib.ctz 64 m)≠0∧(bestL (fun i k=>(c i).testBit k) v (bitsM r)).1 > (bestL (fun i k=>(c i).testBit k) v ((bitsM r).filter fun k=> !(c (Lib.ctz 64 m)).testBit k)).1+v (Lib.ctz 64 m)
 ·rw[if_pos h,if_pos (by simpa using h)]
 ·rw[if_neg h,if_neg (by simpa using h)]
  dsimp only
  rw[maskL,Nat.or_comm]
end Go.XL
namespace Go.XL
def House.oth (h:House) (i:Nat):List Int:=(h.pat i).excl++(h.pat i).impl
def clashB (h:House) (a b:Nat):Bool:=decide ((b:Int)∈h.oth a) || decide ((a:Int)∈h.oth b)
def clM (h:House) (a:Nat):Nat:=maskL ((List.range 64).filter (clashB h a))
theorem clM_lt (h:House) (a:Nat):clM h a<2 ^ 64:=mask_lt _ fun i hi=>by
 have:=(List.mem_filter.1 hi).1;exact List.mem_range.1 this
theorem clM_bit (h:House) (a b:Nat):(clM h a).testBit b=(decide (b<64)&&clashB h a b):=by
 rw[clM,mask_bit]
 simp[List.mem_filter]
structure PatOk (h:House) (i:Nat):Prop where
 closed:0≤(h.pat i).closed∧(h.pat i).closed≤1000
 open_:0≤(h.pat i).open_∧(h.pat i).open_≤1000
 excl:(h.pat i).excl.length≤10
 impl:(h.pat i).impl.length≤10
 oth: ∀k∈h.oth i,0≤k∧k<(h.patterns.length:Int)∧k≠(i:Int)
theorem ite0' {p:Prop} {_:Decidable p} {a b:Int} (ha:a≠0) (h:(if p then a else b)=0): ¬p∧b=0:=by
 by_cases hp:p
 ·rw[if_pos hp]at h;exact absurd h ha
 ·rw[if_neg hp]at h;exact⟨hp,h⟩
theorem ite1' {b a:Int} (h:(if a≠0 then a else b)=0):a=0∧b=0:=by
 by_cases hp:a≠0
 ·rw[if_pos hp]at h;exact absurd h hp
 ·rw[if_neg hp]at h;exact⟨Decidable.not_not.1 hp,h⟩
theorem othersGo_ok {own many:Int}: ∀{l:List Int} {p:Option Int},othersGo own many l p=0→ ∀n∈l,0≤n∧n<many∧n≠own
 | x::l,p,h,n,hn=>by
  rw[othersGo]at h
  obtain⟨h1,h⟩:=ite0' (by decide) h
  obtain⟨h2,h⟩:=ite0' (by decide) h
  obtain⟨h3,h⟩:=ite0' (by decide) h
  rcases List.mem_cons.1 hn with rfl|hn
  ·omega
  ·exact othersGo_ok h n hn
theorem othersS_ok {own many:Int} {l:List Int} (h:othersS l own many=0):l.length≤10∧ ∀n∈l,0≤n∧n<many∧n≠own:=by
 rw[othersS]at h
 obtain⟨h1,h⟩:=ite0' (by decide) h
 exact⟨by omega,othersGo_ok h⟩
theorem patS_ok {h:House} {i:Nat} (e:patS h i=0):PatOk h i:=by
 rw[patS]at e
 obtain⟨e1,e⟩:=ite0' (by decide) e
 obtain⟨e2,e⟩:=ite0' (by decide) e
 obtain⟨e3,e⟩:=ite0' (by decide) e
 obtain⟨e4,e⟩:=ite0' (by decide) e
 obtain⟨e5,e⟩:=ite1' e
 obtain⟨e6,e⟩:=ite1' e
 obtain⟨k1,k2⟩:=othersS_ok e6
 obtain⟨k3,k4⟩:=othersS_ok e
 exact⟨by omega,by omega,k1,k3,fun k hk=>(List.mem_append.1 hk).elim (k2 k) (k4 k)⟩
theorem patsGo_ok {h:House}: ∀{n i:Nat},patsGo h i n=0→ ∀j,i≤j→j<i+n→patS h j=0
 | 0,i,_,j,h1,h2=>by omega
 | n+1,i,e,j,h1,h2=>by
  rw[patsGo]at e
  obtain⟨e1,e⟩:=ite1' e
  by_cases hj:j=i
  ·subst hj;exact e1
  ·exact patsGo_ok e j (by omega) (by omega)
theorem pat_at {h:House} {i:Nat} (hi:i<h.patterns.length):h.pat i=h.patterns[i]:=by
 rw[House.pat,List.getD_eq_getElem?_getD,List.getElem?_eq_getElem hi];rfl
theorem pat_out {h:House} {i:Nat} (hi:h.patterns.length≤i):h.pat i=noPat:=by
 rw[House.pat,List.getD_eq_getElem?_getD,List.getElem?_eq_none hi];rfl
theorem oth_out {h:House} {i:Nat} (hi:h.patterns.length≤i):h.oth i= []:=by rw[House.oth,pat_out hi];rfl
structure PatsOk (h:House):Prop where
 many:h.patterns.length≤40
 ok: ∀i,i<h.patterns.length→PatOk h i
def orAt (L:List Nat) (p q:Nat):List Nat:=L.set p (L.getD p 0 ||| 2 ^ q)
theorem orAt_len (L:List Nat) (p q:Nat):(orAt L p q).length=L.length:=by simp[orAt]
theorem orAt_bit {L:List Nat} {p q:Nat} (hp:p<L.length) (a b:Nat):((orAt L p q).getD a 0).testBit b=((L.getD a 0).testBit b || (decide (a=p)&&decide (b=q))):=by
 rw[orAt,List.getD_eq_getElem?_getD,List.getElem?_set]
 by_cases h:p=a
 ·subst h
  simp only[↓reduceIte,hp,Option.getD_some,Nat.testBit_or,Nat.testBit_two_pow,decide_true,Bool.true_and]
  congr 1
  by_cases h2:q=b <;> simp[h2];omega
 ·rw[if_neg h]
  have h2: ¬a=p:=fun e=>h e.symm
  simp[h2,List.getD_eq_getElem?_getD]
theorem orAt_lt {L:List Nat} {p q:Nat} (hL: ∀m∈L,m<2 ^ 64) (hq:q<64): ∀m∈orAt L p q,m<2 ^ 64:=fun m hm=>by
 rcases List.mem_or_eq_of_mem_set hm with h|h
 ·exact hL m h
 ·subst h
  refine Nat.or_lt_two_pow ?_ (Nat.pow_lt_pow_right (by omega) hq)
  rw[List.getD_eq_getElem?_getD]
  cases e:L[p]? with
  | none=>simp
  | some v=>exact hL v (List.mem_of_getElem? e)
structure Gath (h:House) (i j:Nat) (L:List Nat):Prop where
 len:L.length=h.patterns.length
 lt: ∀m∈L,m<2 ^ 64
 bit: ∀a b,a<h.patterns.length→(L.getD a 0).testBit b=(decide (a<i∧(b:Int)∈h.oth a) || decide (b<i∧(a:Int)∈h.oth b) || decide (a=i∧(b:Int)∈(h.oth i).take j) || decide (b=i∧(a:Int)∈(h.oth i).take j))
theorem Gath.start (h:House):Gath h 0 0 (List.replicate h.patterns.length 0):=by
 refine⟨by simp,fun m hm=>?_,fun a b ha=>?_⟩
 ·rw[(List.mem_replicate.1 hm).2];decide
 ·have:(List.replicate h.patterns.length 0).getD a 0=0:=by
   rw[List.getD_eq_getElem?_getD,List.getElem?_replicate];split <;> rfl
  rw[this];simp
theorem Gath.next {h:House} {i:Nat} {L:List Nat} (g:Gath h i (h.oth i).length L):Gath h (i+1) 0 L:=by
 refine⟨g.len,g.lt,fun a b ha=>?_⟩
 rw[g.bit a b ha,List.take_length,List.take_zero,Bool.eq_iff_iff]
 simp only[Bool.or_eq_true,decide_eq_true_eq,List.not_mem_nil,and_false,or_false]
 constructor
 ·rintro(((h1|h1)|h1)|h1)
  ·exact .inl ⟨by omega,h1.2⟩
  ·exact .inr ⟨by omega,h1.2⟩
  ·obtain⟨rfl,h2⟩:=h1;exact .inl ⟨by omega,h2⟩
  ·obtain⟨rfl,h2⟩:=h1;exact .inr ⟨by omega,h2⟩
 ·rintro(h1|h1)
  ·by_cases ha:a=i
   ·subst ha;exact .inl (.inr ⟨rfl,h1.2⟩)
   ·exact .inl (.inl (.inl ⟨by omega,h1.2⟩))
  ·by_cases hb:b=i
   ·subst hb;exact .inr ⟨rfl,h1.2⟩
   ·exact .inl (.inl (.inr ⟨by omega,h1.2⟩))
theorem Gath.step {h:House} {i j:Nat} {L:List Nat} (g:Gath h i j L) (hi:i<h.patterns.length) (hm:h.patterns.length≤40) (hj:j<(h.oth i).length) {K:Nat} (hk:(h.oth i)[j]=(K:Int)) (hK:K<h.patterns.length) :
  Gath h i (j+1) (orAt (orAt L i K) K i):=by
 refine⟨by rw[orAt_len,orAt_len,g.len],orAt_lt (orAt_lt g.lt (by omega)) (by omega),fun a b ha=>?_⟩
 rw[orAt_bit (by rw[orAt_len,g.len];exact hK),orAt_bit (by rw[g.len];exact hi),g.bit a b ha,List.take_succ_eq_append_getElem hj,hk,Bool.eq_iff_iff]
 simp only[Bool.or_eq_true,Bool.and_eq_true,decide_eq_true_eq,List.mem_append,List.mem_singleton]
 have e1: ∀x:Nat,((x:Int)=(K:Int))↔x=K:=fun x=>by omega
 rw[e1,e1]
 constructor
 ·rintro(((((h1|h1)|h1)|h1)|h1)|h1)
  ·exact .inl (.inl (.inl h1))
  ·exact .inl (.inl (.inr h1))
  ·exact .inl (.inr ⟨h1.1, .inl h1.2⟩)
  ·exact .inr ⟨h1.1, .inl h1.2⟩
  ·exact .inl (.inr ⟨h1.1, .inr h1.2⟩)
  ·exact .inr ⟨h1.2, .inr h1.1⟩
 ·rintro(((h1|h1)|⟨h1,h2|h2⟩)|⟨h1,h2|h2⟩)
  ·exact .inl (.inl (.inl (.inl (.inl h1))))
  ·exact .inl (.inl (.inl (.inl (.inr h1))))
  ·exact .inl (.inl (.inl (.inr ⟨h1,h2⟩)))
  ·exact .inl (.inr ⟨h1,h2⟩)
  ·exact .inl (.inl (.inr ⟨h1,h2⟩))
  ·exact .inr ⟨h2,h1⟩
theorem Gath.end {h:House} {L:List Nat} (g:Gath h h.patterns.length 0 L) (hok:PatsOk h):L=(List.range h.patterns.length).map (clM h):=by
 apply List.ext_getElem
 ·rw[g.len];simp
 ·intro a h1 h2
  rw[g.len]at h1
  rw[List.getElem_map,List.getElem_range]
  apply Nat.eq_of_testBit_eq
  intro b
  have hb:=g.bit a b h1
  rw[List.getD_eq_getElem?_getD,List.getElem?_eq_getElem (by rw[g.len];exact h1)]at hb
  simp only[Option.getD_some]at hb
  rw[hb,clM_bit,Bool.eq_iff_iff]
  simp only[clashB,Bool.or_eq_true,Bool.and_eq_true,decide_eq_true_eq,List.take_zero,List.not_mem_nil,and_false,or_false]
  constructor
  ·rintro(h3|h3)
   ·have:=(hok.ok a h1).oth b h3.2
    have:=hok.many
    exact⟨by omega, .inl h3.2⟩
   ·have:=hok.many
    exact⟨by omega, .inr h3.2⟩
  ·rintro⟨h3,h4|h4⟩
   ·exact .inl ⟨h1,h4⟩
   ·refine .inr ⟨?_,h4⟩
    refine Decidable.byContradiction fun hn=>?_
    rw[oth_out (by omega)]at h4
    simp at h4
end Go.XL
namespace Go.XL
structure Hold where
 pattern:Int
 times:Int
def Hold.cells (x:Hold):List V:= [I x.pattern,I x.times]
@[go_sem] theorem Hold.cells_eq (x:Hold):x.cells= [I x.pattern,I x.times]:=rfl
theorem Hold.len (x:Hold):x.cells.length=2:=rfl
abbrev Hold.val (x:Hold):V := .agg x.cells
abbrev holdsV (l:List Hold):V := .lst (l.map Hold.cells)
def worthS (p:Pattern) (o:Bool):Int:=if o=true then p.open_ else p.closed
def holdsGo (many:Int):List Hold→Int→Int
 | [],_=>0
 | x::l,last=>if ¬(0≤x.pattern∧x.pattern<many∧1≤x.times∧x.times≤1000)then 2 else if x.pattern≤last then 11 else holdsGo many l x.pattern
def valsGo (h:House) (o:Bool):List Hold→List Int→List Int
 | [],L=>L
 | x::l,L=>valsGo h o l (L.set x.pattern.toNat (x.times*worthS (h.pat x.pattern.toNat) o))
def valsS (h:House) (holds:List Hold) (o:Bool):List Int:=valsGo h o holds (List.replicate h.patterns.length 0)
def allK (L:List Int):Nat→Nat
 | 0=>0
 | k+1=>if 0<L.getD k 0 then allK L k ||| 2 ^ k else allK L k
theorem allK_bit (L:List Int): ∀(k j:Nat),(allK L k).testBit j=decide (j<k∧0<L.getD j 0)
 | 0,j=>by simp[allK]
 | k+1,j=>by
  rw[allK]
  split
  ·rename_i h
   rw[Nat.testBit_or,allK_bit L k j,Nat.testBit_two_pow,Bool.eq_iff_iff]
   simp only[Bool.or_eq_true,decide_eq_true_eq]
   constructor
   ·rintro(h1|h1)
    ·exact⟨by omega,h1.2⟩
    ·subst h1;exact⟨by omega,h⟩
   ·rintro⟨h1,h2⟩
    by_cases hj:k=j
    ·exact .inr hj
    ·exact .inl ⟨by omega,h2⟩
  ·rename_i h
   rw[allK_bit L k j,decide_eq_decide]
   constructor
   ·rintro⟨h1,h2⟩;exact⟨by omega,h2⟩
   ·rintro⟨h1,h2⟩
    refine⟨?_,h2⟩
    have:j≠k:=fun e=>by subst e;exact h h2
    omega
theorem allK_lt (L:List Int): ∀k,allK L k<2 ^ k
 | 0=>by simp[allK]
 | k+1=>by
  have h:=allK_lt L k
  have h2:2 ^ k<2 ^ (k+1):=Nat.pow_lt_pow_right (by omega) (by omega)
  rw[allK]
  split
  ·exact Nat.or_lt_two_pow (by omega) h2
  ·omega
def bestH (h:House) (L:List Int):Int×Nat:=bestM (fun i k=>(clM h i).testBit k) (fun i=>L.getD i 0) (allK L h.patterns.length)
def natI (n:Nat):Int:=n
def chooseS (h:House) (holds:List Hold) (o:Bool):List Int×Int×Int :=
 if houseS h≠0 then([],0,houseS h)else if 40<(holds.length:Int)then([],0,8)else
 if holdsGo h.patterns.length holds (-1)≠0 then([],0,holdsGo h.patterns.length holds (-1))else
 ((bitsM (bestH h (valsS h holds o)).2).map natI,(bestH h (valsS h holds o)).1,0)
theorem holdsGo_at {many:Int} {l:List Hold} {i:Nat} (hi:i<l.length) (last:Int):holdsGo many (l.drop i) last=if ¬(0≤l[i].pattern∧l[i].pattern<many∧1≤l[i].times∧l[i].times≤1000)then 2 else if l[i].pattern≤last then 11 else holdsGo many (l.drop (i+1)) l[i].pattern:=by
 rw[List.drop_eq_getElem_cons hi,holdsGo]
theorem valsGo_at {h:House} {o:Bool} {l:List Hold} {i:Nat} (hi:i<l.length) (L:List Int):valsGo h o (l.drop i) L=valsGo h o (l.drop (i+1)) (L.set l[i].pattern.toNat (l[i].times*worthS (h.pat l[i].pattern.toNat) o)):=by
 rw[List.drop_eq_getElem_cons hi,valsGo]
end Go.XL
namespace Go.XL
open Go.Proofs
set_option maxHeartbeats 4000000
section
variable {v0:VH} {P:Program} {n:Nat} {E:VEnv} {S:Sto} {dst:Option Tmp} {ty:TypeId} {pos:String} {af:Array Edge}
theorem OpS.mono {o:Oper} {R R':V→VEnv→Sto→Prop} (h:OpS v0 P n o E S R) (k: ∀u E' S',R u E' S'→R' u E' S'):OpS v0 P n o E S R':=fun K D hv hold env a w h1 h2 h3 =>
 (h K D hv hold env a w h1 h2 h3).mono fun _ _ ⟨hs,u,E',S',hv',hold',p,q,r⟩=>⟨hs,u,E',S',hv',hold',p,q,k _ _ _ r⟩
theorem OpS.appE {g:GR} {T t by_ e sz:Nat} {sx x:Operand} {vx:V} (hd:dst=some t) (ht:tel P T=some (e,sz,by_))
  (hs:evV E sx=some g.cell) (hok:g.Ok e sz S) (hx:evV E x=some vx) (hxl:sliceL vx=some []) :
  OpS v0 P n ⟨dst, .call {callee := .builtin .append,args:= #[sx,x],argTypes:= #[T,T]},ty,pos,af,none⟩ E S (fun u E' S'=>E'=E∧u=g.cell∧S'=S):=by
 subst hd
 intro K D hv hold env a w hfl ha s
 obtain⟨yx,g3,g3'⟩:=s.rl _ _ hx
 have hxR:=sliceL_Rl hxl g3'
 obtain⟨hu,i,hi,hisz,hiby⟩:=tel_some ht
 obtain⟨ao,c,sz',rfl,x1,x2,x3,x4⟩:=hxR
 simp only[List.length_nil]at g3
 have key: ∀y,g.cell.Rl hv y→ev env sx=some y→(Builtin.append_ #[T,T] ty #[y, .slice ao 0 c]).run P w = .ok y w→Yields P ⟨some t, .call {callee := .builtin .append,args:= #[sx,x],argTypes:= #[T,T]},ty,pos,af,none⟩ a w fun y' w'=>Same w w'∧ ∃u E' S' hv' hold',PreV hv hv'∧St K hv' hold' (putV E' (some t) u) S' (put env (some t) y') w'.heap∧(E'=E∧u=g.cell∧S'=S):=fun y h1 h2 hr=>by
  have hrun:(execOp a.eval ⟨some t, .call {callee := .builtin .append,args:= #[sx,x],argTypes:= #[T,T]},ty,pos,af,none⟩).run P w = .ok (.value y) w:=by
   simp[execOp,resolve,Go.invoke,builtin,ha.ev h2,ha.ev g3,hr]
  refine yields_value hrun ⟨Same.refl w,g.cell,E,S,hv,hold,PreV.refl hv,s.put (some t) h1 fun u hu=>?_,rfl,rfl,rfl⟩
  obtain⟨l,blk⟩:=g
  cases blk <;> exact trivial
 obtain⟨y,g2,g2'⟩:=s.rl _ _ hs
 refine key y g2' g2 ?_
 obtain⟨l,blk⟩:=g
 cases blk with
 | none =>
  simp only[GR.cell,V.Rl]at g2';subst g2'
  cases ao <;> simp[Builtin.append_,run_underlying hu,sizeOf,typeInfo,hi,Builtin.lenOf,Builtin.firstCells,loadCells,loadCellsFrom]
 | some z =>
  obtain⟨b,cap,j⟩:=z
  simp only[GR.cell,V.Rl]at g2';subst g2'
  have hle:=hok.le
  cases ao <;> simp[Builtin.append_,run_underlying hu,sizeOf,typeInfo,hi,Builtin.lenOf,Builtin.firstCells,loadCells,loadCellsFrom,hle,storeCells]
theorem OpS.appA {g:GR} {T t by_ e sz:Nat} {z:Value} {sx x:Operand} {vx:V} {ml:List (List V)} (hd:dst=some t) (ht:tel P T=some (e,sz,by_)) (hz:tzero P e=some z) (hzs:z.cells.size=sz) (hzo:onesB z.cells.toList=true) (hsz:0<sz)
  (hs:evV E sx=some g.cell) (hok:g.Ok e sz S) (hx:evV E x=some vx) (hxl:sliceL vx=some ml) (hml: ∀c∈ml,c.length=sz) (hfit:g.l.length+ml.length≤2147483648∧by_≤65536) :
  OpS v0 P n ⟨dst, .call {callee := .builtin .append,args:= #[sx,x],argTypes:= #[T,T]},ty,pos,af,none⟩ E S
   (fun u E' S'=>E'=E∧ ∃g':GR,u=g'.cell∧g'.l=g.l++ml.map (·.map V.copy)∧g'.Ok e sz S'∧(∀b cap j,g'.blk=some (b,cap,j)→(∃cap j,g.blk=some (b,cap,j))∨lookS S b=none) ∧
    ∀b,(∀cap j,g'.blk≠some (b,cap,j))→(∀cap j,g.blk≠some (b,cap,j))→lookS S' b=lookS S b):=by
 cases ml with
 | nil =>
  refine(OpS.appE hd ht hs hok hx hxl).mono ?_
  rintro u E' S' ⟨rfl,rfl,rfl⟩
  exact⟨rfl,g,rfl,by simp,hok,fun b cap j h => .inl ⟨cap,j,h⟩,fun _ _ _=>rfl⟩
 | cons c r =>
  refine(OpS.appG hd ht hz hzs hzo hsz hs hok hx hxl (by simp) hml hfit).mono ?_
  rintro u E' S' ⟨rfl,b',cap',junk,rfl,m1,m2,m3⟩
  exact⟨rfl,_,rfl,rfl,m1,fun b cap j h=>by cases h;exact m2,fun b h1 h2=>m3 b (fun h=>h1 cap' junk (by rw[h])) h2⟩
end
end Go.XL
namespace Go.XL
section
variable (P:Program) (n:Nat) (r:Rr) (Q:VEnv→Sto→Prop)
def DX (ops:List Oper) (S0:Sto) (l:List Oper) (k:List Fr) (E0 E:VEnv) (T1:Sto→Prop):Prop:= ∀K0 K D W hv0 hs a SPs,Bx r K0 K D→PreV r.v0 hv0 →
 (∃env,Agree D n env a∧ ∀t v,lookV E0 t=some v→ ∃y,look env t=some y∧v.Rl hv0 y)→Pre hv0 hs→(∀b o,lookS S0 b=some o→hv0 b=none∧b<hs.size∧o.Rd hv0 hs b)→K.h0.size≤hs.size→(∃w1,Same W w1∧SPs noF w1.heap) →
 (∀F h1,SPs F h1→ ∃S1,T1 S1∧RunS P [] D n K hv0 hs S0 E S1 a F h1)→SW P ops.toArray (RdOf P [] hv0 hs S0) W (fun a' S'=> ∀w',S' noF w'.heap→Same W w'→ksem P n r K0 W Q k .normal a' w') l SPs a
end
section
variable {P:Program} {n:Nat} {r:Rr} {Q:VEnv→Sto→Prop} {k:List Fr} {E0 E:VEnv} {S0 S1:Sto} {T1:Sto→Prop} {ops l:List Oper} {dst:Option Tmp} {op:Op} {ty:TypeId} {pos:String} {af:Array Edge}
theorem RunS.after {o:Oper} {D:List Deferred} {K:Bs} {hv0:VH} {hs:Heap} {a:Act} {F:Nat→Prop} {v0:VH} {T:V→VEnv→Sto→Prop} {w:World} (hd:dok n o.dst=true) (ho:OpS v0 P n o E S1 T) (hfl:PreV v0 hv0) (h:RunS P [] D n K hv0 hs S0 E S1 a F w.heap) :
  Yields P o a w fun y w'=>Same w w'∧(∃v E' S',T v E' S'∧RunS P [] D n K hv0 hs S0 (putV E' o.dst v) S' (a.put o.dst y) F w'.heap)∧Kept F w.heap w'.heap:=by
 obtain⟨p1,p2,hv',hold,env',ha',s,p,f,g⟩:=h
 obtain⟨K',hc',s',hprot,hK1,hK2,back⟩:=s.frame fun b o e=>(g b o e).2.1
 refine(ho K' D hv' hc' env' a w (hfl.trans p) ha' s').mono fun y w' ⟨hsame,u,E2,S2,hv2,hold2,q1,q2,e1⟩=>?_
 obtain⟨hold3,t1,t2⟩:=back q1 q2
 have stay: ∀b,K'.B b→w'.heap[b]?=w.heap[b]?∧hv2 b=hv' b:=fun b hb=>⟨by rw[q2.base.2.2 b hb,hK1],by rw[q2.vbase.2 b hb,hK2]⟩
 have hFp: ∀b,F b→K'.B b:=fun b hb=>hprot b (p1 b hb).2 (f b hb).1 (by
  have:=(f b hb).2;rw[lookS_app]at this
  cases e:lookS S1 b with
  | none=>rfl
  | some o=>rw[e]at this;cases this)
 have hSp: ∀b o,lookS S0 b=some o→K'.B b:=fun b o e=>hprot b (Nat.lt_of_lt_of_le (g b o e).2.2 p2.1) (s.obj b o (by rw[lookS_app,(g b o e).2.1];exact e)).2.1 (g b o e).2.1
 have hsz:w.heap.size≤w'.heap.size:=by have:=q2.base.2.1;rwa [hK1]at this
 refine⟨hsame,⟨u,E2,S2,e1,fun b hb=>⟨(p1 b hb).1,Nat.lt_of_lt_of_le (p1 b hb).2 hsz⟩,⟨Nat.le_trans p2.1 hsz,MpOk.nil⟩,hv2,hold3,_,ha'.put' hd y,t1,p.trans q1,fun b hb=>?_,fun b o e=>?_⟩,fun b o hb eb _=>?_⟩
 ·refine⟨by rw[(stay b (hFp b hb)).2];exact(f b hb).1,?_⟩
  have hb2:=(f b hb).2
  rw[lookS_app]at hb2 ⊢
  cases e:lookS S2 b with
  | some o=>exact absurd (hFp b hb) (q2.obj b o e).1
  | none =>
   cases e1:lookS S1 b with
   | some o=>rw[e1]at hb2;cases hb2
   | none=>rw[e1]at hb2;exact hb2
 ·obtain⟨g1,g2,g3⟩:=g b o e
  exact⟨(stay b (hSp b o e)).1.trans g1,t2 b o e,g3⟩
 ·rw[(stay b (hFp b hb)).1];exact eb
theorem DD.stepX {o:Oper} {T:V→VEnv→Sto→Prop} (hg:o.guard=none) (hc:isChain o=true) (hb:isBirth o.op=false) (hd:dok n o.dst=true) (ho:OpS r.v0 P n o E S1 T) {E':VEnv} (hT: ∀v E2 S',T v E2 S'→E2=E'∧ ∃x,v = .v x) (hdst: ∃td:Nat,o.dst=some td)
  (q: ∀x,DX P n r Q ops S0 l k (delO o.dst E0) (putV E' o.dst (.v x)) (T (.v x) E')):DD P n r Q ops S0 [] (o::l) k E0 E S1:=fun K0 K D W hv0 hs a SPs hbx hfl hE hp hS0 hz hl hR=>by
 show SW P ops.toArray _ W _ (o::l) SPs a
 unfold SW Front
 rw[if_pos (by simp[Region.wanted,hg]),if_pos hc]
 refine⟨fun _ y=>y,fun _ y=>fun F h1=> ∃v E' S',T v E' S'∧RunS P [] D n K hv0 hs S0 (putV E' o.dst v) S' (a.put o.dst y) F h1,?_,fun _ y ⟨w',hw',hT'⟩=>?_⟩
 ·unfold Spec
  rw[if_neg (by simp[hb])]
  have G:=fun v E' S' y=>RunS.good P [] D n K hv0 hs S0 (putV E' o.dst v) S' (a.put o.dst y)
  refine⟨rfl,_,rfl,fun y=>⟨fun F h ⟨v,E',S',_,h2⟩=>(G v E' S' y).ext F h h2,fun F h ob ⟨v,E',S',h1,h2⟩=>⟨v,E',S',h1,(G v E' S' y).push F h ob h2⟩,fun F F' h hF ⟨v,E',S',h1,h2⟩=>⟨v,E',S',h1,(G v E' S' y).less F F' h hF h2⟩⟩,fun w F hF hw=>?_⟩
  exact RunS.after hd ho hfl (hR F w.heap hF)
 ·refine q y K0 K D W hv0 hs _ _ hbx hfl (e0_del hE hd y) hp hS0 hz ⟨w',hw',hT'⟩ fun F h1 ⟨v,E2,S',t1,t2⟩=>?_
  obtain⟨rfl,x,rfl⟩:=hT v E2 S' t1
  obtain⟨td,htd⟩:=hdst
  have hxy:x=y:=by
   obtain⟨_,_,hv',hold,env',ha',s,_⟩:=t2
   obtain⟨y',e1,e2,_⟩:=s.slot td (.v x) (by rw[htd];simp[putV,lookV])
   simp only[V.Rl]at e2
   have h1:=ha'.look td y' e1
   have hlt:td<n:=by rw[htd]at hd;simpa [dok] using hd
   rw[htd]at h1 ha'
   have hsz:=ha'.size
   simp only[Act.put]at h1 hsz
   rw[Array.getD_eq_getD_getElem?]at h1
   rw[Array.size_setIfInBounds]at hsz
   rw[Array.getElem?_setIfInBounds_self_of_lt (by omega)]at h1
   simp only[Option.getD_some]at h1
   rw[h1,e2]
  subst hxy
  exact⟨S',t1,t2⟩
theorem DX.flt {v:V} (hs1:isStep op=false) (hh:isHop op=false) (hd:dok n dst=true) (hv:dopV P S0 (evV E0) op=some v) (q:DX P n r Q ops S0 l k (putV E0 dst v) (putV E dst v) T1) :
  DX P n r Q ops S0 (⟨dst,op,ty,pos,af,none⟩::l) k E0 E T1:=fun K0 K D W hv0 hs a SPs hbx hfl hE hp hS0 hz hl hR=>by
 obtain⟨env,ha,hE'⟩:=hE
 have rl:RlO hv0 (evV E0) (ev env):=by
  intro x u e
  cases x with
  | tmp t=>exact hE' t u e
  | const c=>simp only[evV,Option.some.injEq]at e;subst e;exact⟨c,rfl,V.Rl_v⟩
  | global g=>simp only[evV,Option.some.injEq]at e;subst e;exact⟨_,rfl,gV_Rl (r.kn.mono hfl) g⟩
  | func g=>simp only[evV,Option.some.injEq]at e;subst e;exact⟨_,rfl,by simp only[V.Rl];exact⟨[],[],rfl,by simp[RlL],by simp[RlL]⟩⟩
 have hpl:=least_pre (S0:=S0) hp fun b o e=>(hS0 b o e).1
 obtain⟨y,h2,h3⟩:=dopV_real (h:=least hv0 hs S0) hpl (fun b o e=>by
  obtain⟨_,hlt,hr⟩:=hS0 b o e
  cases o with
  | cells cl T =>
   obtain⟨cs,q1,q2⟩:=hr
   exact⟨cs,by rw[least_S e hlt];exact q1,q2⟩
  | raw o=>exact(least_S e hlt).trans hr) rl hv
 show SW P ops.toArray _ W _ (_::l) SPs a
 unfold SW Front
 rw[if_pos (by simp[Region.wanted]),if_neg (by simp[isChain,hs1,hh])]
 refine⟨y, .inl fun w' hw'=>dop_run ha (dop_mono (least_ld hw') h2),?_⟩
 refine q K0 K D W hv0 hs _ SPs hbx hfl (e0_put ⟨env,ha,hE'⟩ hd h3) hp hS0 hz hl fun F h1 hF=>?_
 obtain⟨S1,t1,p1,p2,hv',hold,env',ha',s,p,f,g⟩:=hR F h1 hF
 exact⟨S1,t1,p1,p2,hv',hold,_,ha'.put' hd y,s.put dst (V.Rl_mono p v y h3) fun _ _=>V.free_Own (dopV_free hv) y,p,f,g⟩
theorem DX.step {o:Oper} {v:V} {E':VEnv} (hg:o.guard=none) (hc:isChain o=true) (hb:isBirth o.op=false) (hd:dok n o.dst=true) (ho: ∀S1,T1 S1→OpS r.v0 P n o E S1 (fun u E2 S2=>u=v∧E2=E'∧S2=S1)) (q:DX P n r Q ops S0 l k (delO o.dst E0) (putV E' o.dst v) T1) :
  DX P n r Q ops S0 (o::l) k E0 E T1:=fun K0 K D W hv0 hs a SPs hbx hfl hE hp hS0 hz hl hR=>by
 show SW P ops.toArray _ W _ (o::l) SPs a
 unfold SW Front
 rw[if_pos (by simp[Region.wanted,hg]),if_pos hc]
 refine⟨fun _ y=>y,fun _ y=>fun F h1=> ∃S1,T1 S1∧RunS P [] D n K hv0 hs S0 (putV E' o.dst v) S1 (a.put o.dst y) F h1,?_,fun _ y ⟨w',hw',hT'⟩=>?_⟩
 ·unfold Spec
  rw[if_neg (by simp[hb])]
  have G:=fun S' y=>RunS.good P [] D n K hv0 hs S0 (putV E' o.dst v) S' (a.put o.dst y)
  refine⟨rfl,_,rfl,fun y=>⟨fun F h ⟨S',_,h2⟩=>(G S' y).ext F h h2,fun F h ob ⟨S',h1,h2⟩=>⟨S',h1,(G S' y).push F h ob h2⟩,fun F F' h hF ⟨S',h1,h2⟩=>⟨S',h1,(G S' y).less F F' h hF h2⟩⟩,fun w F hF hw=>?_⟩
  obtain⟨S1,t1,t2⟩:=hR F w.heap hF
  refine(RunS.after hd (ho S1 t1) hfl t2).mono ?_
  rintro y w' ⟨g1,⟨u,E2,S2,⟨rfl,rfl,rfl⟩,g2⟩,g3⟩
  exact⟨g1,⟨S2,t1,g2⟩,g3⟩
 ·exact q K0 K D W hv0 hs _ _ hbx hfl (e0_del hE hd y) hp hS0 hz ⟨w',hw',hT'⟩ fun F h1 hF=>hF
theorem DX.pc {t:Nat} {ts:Array TypeId} {g:FuncId} {args:List V} {xs:Array Operand} {fn:Func} {v:V} (hf:FnOk P g fn) (hc:PC P g args v) (hd:decide (t<n)=true) (he:(evsV (evV E) xs.toList).map (·.map V.peek)=some args) (q:DX P n r Q ops S0 l k (delV t E0) ((t,v)::E) T1) :
  DX P n r Q ops S0 (⟨some t, .call {callee := .value (.func g),args:=xs,argTypes:=ts},ty,pos,af,none⟩::l) k E0 E T1:=by
 rw[Option.map_eq_some_iff]at he
 obtain⟨ws,e1,e2⟩:=he
 refine DX.step (E':=E) rfl rfl rfl hd (fun S1 _=>?_) q
 refine OpS.mono (OpS.call (fs:= []) (cs:= []) hf rfl e1 (S1:= []) (S2:=S1) (R:=fun u S'=>u=v∧S'= []) (by simpa [e2] using DC.pure hc _) (fun _ _ e=>by cases e) (fun _ _ e=>⟨e,rfl⟩)) ?_
 rintro u E' S' ⟨rfl,S2,rfl,⟨rfl,rfl⟩,-⟩
 exact⟨rfl,rfl,rfl⟩
theorem DX.last {o:Oper} {T:Sto→V→VEnv→Sto→Prop} (hg:o.guard=none) (hc:isChain o=true) (hb:isBirth o.op=false) (hd:dok n o.dst=true) (ho: ∀S1,T1 S1→OpS r.v0 P n o E S1 (T S1)) (q: ∀S1 v E' S',T1 S1→T S1 v E' S'→(∀b o,lookS S0 b=some o→lookS S' b=none)→DS P n r Q k (putV E' o.dst v) (S'++S0)) :
  DX P n r Q ops S0 [o] k E0 E T1:=fun K0 K D W hv0 hs a SPs hbx hfl hE hp hS0 hz hl hR=>by
 show SW P ops.toArray _ W _ [o] SPs a
 unfold SW Front
 rw[if_pos (by simp[Region.wanted,hg]),if_pos hc]
 refine⟨fun _ y=>y,fun _ y=>fun F h1=> ∃S1 v E' S',(T1 S1∧T S1 v E' S')∧RunS P [] D n K hv0 hs S0 (putV E' o.dst v) S' (a.put o.dst y) F h1,?_,fun _ y ⟨w',hw',hT⟩=>?_⟩
 ·unfold Spec
  rw[if_neg (by simp[hb])]
  have G:=fun v E' S' y=>RunS.good P [] D n K hv0 hs S0 (putV E' o.dst v) S' (a.put o.dst y)
  refine⟨rfl,_,rfl,fun y=>⟨fun F h ⟨S1,v,E',S',_,h2⟩=>(G v E' S' y).ext F h h2,fun F h ob ⟨S1,v,E',S',h1,h2⟩=>⟨S1,v,E',S',h1,(G v E' S' y).push F h ob h2⟩,fun F F' h hF ⟨S1,v,E',S',h1,h2⟩=>⟨S1,v,E',S',h1,(G v E' S' y).less F F' h hF h2⟩⟩,fun w F hF hw=>?_⟩
  obtain⟨S1,t1,t2⟩:=hR F w.heap hF
  refine(RunS.after hd (ho S1 t1) hfl t2).mono ?_
  rintro y w' ⟨g1,⟨u,E2,S2,g4,g2⟩,g3⟩
  exact⟨g1,⟨S1,u,E2,S2,⟨t1,g4⟩,g2⟩,g3⟩
 ·intro w2 ⟨S1,v,E',S',⟨h0,h1⟩,h2⟩ hw2
  obtain⟨_,_,hv,hold,env,ha,s,_,_,hg⟩:=h2
  exact q S1 v E' S' h0 h1 (fun b o e=>(hg b o e).2.1) K0 W _ w2 ⟨K,D,hv,hold,env,hbx,ha,s⟩ hw2
end
end Go.XL
namespace Go.XL
section
variable {P:Program} {n:Nat} {r:Rr} {Q:VEnv→Sto→Prop} {k:List Fr} {E0 E:VEnv} {S0 S1:Sto} {T1:Sto→Prop} {ops l:List Oper} {dst:Option Tmp} {op:Op} {ty:TypeId} {pos:String} {af:Array Edge}
theorem DD.toX (q:DX P n r Q ops S0 l k E0 E (fun S=>S=S1)):DD P n r Q ops S0 [] l k E0 E S1:=fun K0 K D W hv0 hs a SPs h1 h2 h3 h4 h5 h6 h7 h8 =>
 q K0 K D W hv0 hs a SPs h1 h2 h3 h4 h5 h6 h7 fun F h hF=>⟨S1,rfl,h8 F h hF⟩
theorem DX.nil (q: ∀S1,T1 S1→(∀b o,lookS S0 b=some o→lookS S1 b=none)→DS P n r Q k E (S1++S0)):DX P n r Q ops S0 [] k E0 E T1:=fun K0 K D W hv0 hs a SPs hbx hfl _ _ _ _ _ hR w' hS hw=>by
 obtain⟨S1,h0,_,_,hv,hold,env,ha,s,_,_,hg⟩:=hR noF w'.heap hS
 exact q S1 h0 (fun b o e=>(hg b o e).2.1) K0 W a w' ⟨K,D,hv,hold,env,hbx,ha,s⟩ hw
theorem DX.stepX {ι:Type} {o:Oper} {T:Sto→V→VEnv→Sto→Prop} (vf:ι→V) (inj: ∀hv hv' x x' y,(vf x).Rl hv y→(vf x').Rl hv' y→x=x') (hg:o.guard=none) (hc:isChain o=true) (hb:isBirth o.op=false) (hd:dok n o.dst=true) (ho: ∀S1,T1 S1→OpS r.v0 P n o E S1 (T S1)) {E':VEnv} (hT: ∀S1 v E2 S',T1 S1→T S1 v E2 S'→E2=E'∧ ∃x,v=vf x) (hdst: ∃td:Nat,o.dst=some td)
  (q: ∀x,DX P n r Q ops S0 l k (delO o.dst E0) (putV E' o.dst (vf x)) (fun S'=> ∃S1,T1 S1∧T S1 (vf x) E' S')):DX P n r Q ops S0 (o::l) k E0 E T1:=fun K0 K D W hv0 hs a SPs hbx hfl hE hp hS0 hz hl hR=>by
 show SW P ops.toArray _ W _ (o::l) SPs a
 unfold SW Front
 rw[if_pos (by simp[Region.wanted,hg]),if_pos hc]
 refine⟨fun _ y=>y,fun _ y=>fun F h1=> ∃S1 v E' S',(T1 S1∧T S1 v E' S')∧RunS P [] D n K hv0 hs S0 (putV E' o.dst v) S' (a.put o.dst y) F h1,?_,fun _ y ⟨w',hw',hT'⟩=>?_⟩
 ·unfold Spec
  rw[if_neg (by simp[hb])]
  have G:=fun v E' S' y=>RunS.good P [] D n K hv0 hs S0 (putV E' o.dst v) S' (a.put o.dst y)
  refine⟨rfl,_,rfl,fun y=>⟨fun F h ⟨S1,v,E',S',_,h2⟩=>(G v E' S' y).ext F h h2,fun F h ob ⟨S1,v,E',S',h1,h2⟩=>⟨S1,v,E',S',h1,(G v E' S' y).push F h ob h2⟩,fun F F' h hF ⟨S1,v,E',S',h1,h2⟩=>⟨S1,v,E',S',h1,(G v E' S' y).less F F' h hF h2⟩⟩,fun w F hF hw=>?_⟩
  obtain⟨S1,t1,t2⟩:=hR F w.heap hF
  refine(RunS.after hd (ho S1 t1) hfl t2).mono ?_
  rintro y w' ⟨g1,⟨u,E2,S2,g4,g2⟩,g3⟩
  exact⟨g1,⟨S1,u,E2,S2,⟨t1,g4⟩,g2⟩,g3⟩
 ·obtain⟨td,htd⟩:=hdst
  have rd: ∀{F h1 v S'},RunS P [] D n K hv0 hs S0 (putV E' o.dst v) S' (a.put o.dst y) F h1→ ∃hv,v.Rl hv y:=fun{F h1 v S'} t2=>by
   obtain⟨_,_,hv',hold,env',ha',s,_⟩:=t2
   obtain⟨y',e1,e2,_⟩:=s.slot td v (by rw[htd];simp[putV,lookV])
   have h1:=ha'.look td y' e1
   have hlt:td<n:=by rw[htd]at hd;simpa [dok] using hd
   rw[htd]at h1 ha'
   have hsz:=ha'.size
   simp only[Act.put]at h1 hsz
   rw[Array.getD_eq_getD_getElem?]at h1
   rw[Array.size_setIfInBounds]at hsz
   rw[Array.getElem?_setIfInBounds_self_of_lt (by omega)]at h1
   simp only[Option.getD_some]at h1
   exact⟨hv',by rw[h1];exact e2⟩
  have hT0:=hT'
  obtain⟨Sa,va,Ea,Sa',⟨u1,u2⟩,u3⟩:=hT0
  obtain⟨rfl,x,rfl⟩:=hT Sa va Ea Sa' u1 u2
  obtain⟨hva,ra⟩:=rd u3
  refine q x K0 K D W hv0 hs _ _ hbx hfl (e0_del hE hd y) hp hS0 hz ⟨w',hw',hT'⟩ fun F h1 ⟨S1,v,E2,S',⟨t0,t1⟩,t2⟩=>?_
  obtain⟨rfl,x',rfl⟩:=hT S1 v E2 S' t0 t1
  obtain⟨hvb,rb⟩:=rd t2
  obtain rfl:=inj _ _ _ _ _ rb ra
  exact⟨S',⟨S1,t0,t1⟩,t2⟩
theorem DX.bornO {o:Oper} {cl:List V} {T:TypeId} {vb:Nat→Value} (hg:o.guard=none) (hc:isChain o=true) (hb:isBirth o.op=true) (hd:dok n o.dst=true)
  (hr: ∃cs:List Value,(∀hv,RlL hv cl cs)∧Ones cs∧ ∀(a:Act) (w:World),a.tmps.size=n→(execOp a.eval o).run P w = .ok (.value (vb w.heap.size)) {w with heap:=w.heap.push (.cells cs.toArray T)}) (hfree: ∀v∈cl,v.free=true)
  (q: ∀u,lookS S0 u=none→DX P n r Q ops S0 l k (putV E0 o.dst (.v (vb u))) (putV E o.dst (.v (vb u))) (fun S'=> ∃S1,T1 S1∧lookS S1 u=none∧S'=(u, .cells cl T)::S1)):DX P n r Q ops S0 (o::l) k E0 E T1:=fun K0 K D W hv0 hs a SPs hbx hfl hE hp hS0 hz hl hR=>by
 obtain⟨w1,hw1,hSP⟩:=hl
 obtain⟨_,_,_,_,hv1,hold1,env1,ha1,s1,_⟩:=hR noF w1.heap hSP
 obtain⟨cs,c1,c2,c3⟩:=hr
 show SW P ops.toArray _ W _ (o::l) SPs a
 unfold SW Front
 rw[if_pos (by simp[Region.wanted,hg]),if_pos hc]
 refine⟨fun u _=>vb u,fun u _=>bornS SPs u (.cells cs.toArray T),?_,fun u _ ⟨w',hw',hT⟩=>?_⟩
 ·unfold Spec
  rw[if_pos hb]
  exact⟨.cells cs.toArray T,vb,rfl,fun w=>c3 a w ha1.size,rfl,rfl⟩
 ·have key: ∀F h1,bornS SPs u (.cells cs.toArray T) F h1→ ∃S1,T1 S1∧RunS P [] D n K hv0 hs S0 (putV E o.dst (.v (vb u))) ((u, .cells cl T)::S1) (a.put o.dst (vb u)) F h1∧lookS S1 u=none∧lookS S0 u=none:=by
   rintro F h1 ⟨t1,t2,t3⟩
   obtain⟨S1,t0,p1,p2,hv',hold,env',ha',s,p,f,g⟩:=hR _ h1 t1
   have hu:=p1 u (.inr rfl)
   have fu:=f u (.inr rfl)
   have hB: ¬K.B u:=fun hb=>by
    have:=s.base.1 u hb
    omega
   have nS:lookS S1 u=none∧lookS S0 u=none:=by
    have:=fu.2
    rw[lookS_app]at this
    cases e:lookS S1 u with
    | some o=>rw[e]at this;cases this
    | none=>rw[e]at this;exact⟨rfl,this⟩
   refine⟨S1,t0,⟨fun b hb=>p1 b (.inl hb),⟨p2.1,MpOk.nil⟩,hv',hold,_,ha'.put' hd (vb u),(s.adoptO t3 hB fu.1 (c1 hv') c2 hfree).put o.dst V.Rl_v fun _ _=>trivial,p,fun b hb=>⟨(f b (.inl hb)).1,?_⟩,fun b ob e=>?_⟩,nS⟩
   ·show lookS ((u,_)::(S1++S0)) b=none
    simp only[lookS]
    rw[if_neg (fun(e:u=b)=>t2 (by subst e;exact hb))];exact(f b (.inl hb)).2
   ·obtain⟨g1,g2,g3⟩:=g b ob e
    refine⟨g1,?_,g3⟩
    simp only[lookS]
    rw[if_neg (fun e=>by subst e;omega)];exact g2
  obtain⟨_,_,_,_,n2⟩:=key noF w'.heap hT
  exact q u n2 K0 K D W hv0 hs _ _ hbx hfl (e0_put hE hd V.Rl_v) hp hS0 hz ⟨w',hw',hT⟩ fun F h1 hF=>let ⟨S1,a1,a2,a3,_⟩:=key F h1 hF;⟨_,⟨S1,a1,a3,rfl⟩,a2⟩
theorem DX.alloc {T:TypeId} {z:Value} (hd:dok n dst=true) (hz:tzero P T=some z) (ho:onesB z.cells.toList=true) (q: ∀u,lookS S0 u=none→DX P n r Q ops S0 l k (putV E0 dst (.v (.pointer (some ⟨u,0,none⟩)))) (putV E dst (.v (.pointer (some ⟨u,0,none⟩)))) (fun S'=> ∃S1,T1 S1∧lookS S1 u=none∧S'=(u, .cells (z.cells.toList.map V.v) T)::S1)) :
  DX P n r Q ops S0 (⟨dst, .alloc T,ty,pos,af,none⟩::l) k E0 E T1:=by
 refine DX.bornO (vb:=fun u => .pointer (some ⟨u,0,none⟩)) rfl rfl rfl hd ⟨z.cells.toList,fun hv=>RlL_raw _,onesB_spec ho,fun a w hsz=>?_⟩ (raws_free _) q
 have ha:Agree a.defers n [] a:=⟨hsz,rfl,fun t v e=>by cases e⟩
 refine exec_hop (P:=P) (y:=fun u => .pointer (some ⟨u,0,none⟩)) ha (fun i=>by simp[undef]) (fun h1'=>?_) w
 simp only[hop,hz]
end
end Go.XL
namespace Go.XL
open Go.Proofs
section
variable {n:Nat} {r:Rr} {Q:VEnv→Sto→Prop} {k:List Fr} {E:VEnv} {S:Sto} {ops l:List Oper} {t:Nat} {ty:TypeId} {pos:String} {af:Array Edge}
theorem DS.loadG {P:Program} {T m g:Nat} {v:Value} (hd:decide (t<n)=true) (ht:tsz P T=some (false,m)) (hv:cellV r.v0 ⟨g,0,none⟩=some v) (hg:knC g=none)
  (q:DS P n r Q (.ops ops l::k) ((t, .v v)::E) S):DS P n r Q (.ops ops (⟨some t, .load T (.global g),ty,pos,af,none⟩::l)::k) E S:=fun K W a w ⟨K',D,hvv,hold,env,hb,ha,s⟩ hw=>by
 have hc:cell w.heap ⟨g,0,none⟩=some v:=s.pre.cell ((hb.floor s).cell hv)
 have hr:(execOp a.eval ⟨some t, .load T (.global g),ty,pos,af,none⟩).run P w = .ok (.value v) w:=by
  refine dop_run ha ?_
  simp only[dop,ev_global,Option.bind_some,ldT,ht]
  exact hc
 refine wpL_mono (wanted_none rfl a) ⟨fun _ _=>trivial,?_⟩
 rw[Oper.semAt_eq _ _ _ (noDef_spec yR),hr]
 exact q K W _ w ⟨K',D,hvv,hold,XL.put env (some t) v,hb,ha.put' (d:=some t) hd _,s.put (some t) V.Rl_v fun _ _=>V.free_Own rfl _⟩ hw
theorem DS.lookM {b:Nat} {es:Array MapEntry} {clock:Nat} {m:Int} {mx kx:Operand} (hd:decide (t<n)=true) (hb:r.v0 b=some (.map es clock)) (hM:ModesIs b es clock) (h1:evV E mx=some (.v (.map (some b)))) (h2:evV E kx=some (.v (.int .i64 m))) (hm:1≤m∧m≤3)
  (q:DS Tryz.prog n r Q (.ops ops l::k) ((t, .fn (modeF m) [] [])::E) S):DS Tryz.prog n r Q (.ops ops (⟨some t, .lookup 157 mx kx false,ty,pos,af,none⟩::l)::k) E S:=fun K W a w ⟨K',D,hvv,hold,env,hbx,ha,s⟩ hw=>by
 obtain⟨o1,e1,e2⟩:=(hbx.floor s) _ _ hb
 simp only[leO]at e2;subst e2
 obtain⟨o2,e3,e4⟩:=s.pre _ _ e1
 simp only[leO]at e4;subst e4
 obtain⟨y1,a1,a2⟩:=s.rl _ _ h1
 obtain⟨y2,a3,a4⟩:=s.rl _ _ h2
 simp only[V.Rl]at a2 a4;subst a2;subst a4
 have hr:(execOp a.eval ⟨some t, .lookup 157 mx kx false,ty,pos,af,none⟩).run Tryz.prog w = .ok (.value (.func (.func (modeF m)) #[] #[])) w:=by
  have:=hM w m e3 hm.1 hm.2
  simp only[execOp,ha.ev a1,ha.ev a3,Sem.run_bind,this,Result.andThen_ok,Sem.run_pure]
 refine wpL_mono (wanted_none rfl a) ⟨fun _ _=>trivial,?_⟩
 rw[Oper.semAt_eq _ _ _ (noDef_spec yR),hr]
 exact q K W _ w ⟨K',D,hvv,hold,XL.put env (some t) _,hbx,ha.put' (d:=some t) hd _,s.put (some t) (by simp only[V.Rl];exact⟨[],[],rfl,by simp[RlL],by simp[RlL]⟩) fun _ _=>V.free_Own rfl _⟩ hw
end
end Go.XL
namespace Go.XL
open Go.Proofs
open Go.Maps (Keyed)
set_option maxRecDepth 100000
set_option maxHeartbeats 4000000
abbrev UN (m:Nat):V := .v (.int .u64 (m:Int))
section
variable {P:Program} {T:TypeId} {a b:Nat}
theorem bits_andNot_u64_nat (ha:a<18446744073709551616) (hb:b<18446744073709551616):bits .andNot .u64 (a:Int) (b:Int)=((andN a b:Nat):Int):=by
 have h1:(BitVec.ofInt 64 (a:Int)).toNat=a:=by
  rw[BitVec.ofInt_natCast,BitVec.toNat_ofNat];exact Nat.mod_eq_of_lt (by omega)
 have h2:(BitVec.ofInt 64 (b:Int)).toNat=b:=by
  rw[BitVec.ofInt_natCast,BitVec.toNat_ofNat];exact Nat.mod_eq_of_lt (by omega)
 have hx:(BitVec.ofInt 64 (a:Int) &&& ~~~ BitVec.ofInt 64 (b:Int)).toNat=andN a b:=by
  apply Nat.eq_of_testBit_eq
  intro j
  rw[andN_bit b (by simpa using ha)]
  have e1: ∀x:BitVec 64,x.toNat.testBit j=x.getLsbD j:=fun _=>rfl
  rw[e1,BitVec.getLsbD_and,BitVec.getLsbD_not,←e1,←e1,h1,h2]
  by_cases hj:j<64
  ·simp[hj]
  ·have:a.testBit j=false:=Nat.testBit_lt_two_pow (Nat.lt_of_lt_of_le (show a<2 ^ 64 by simpa using ha) (Nat.pow_le_pow_right (by omega) (by omega)))
   simp[this]
 have hl:andN a b<2 ^ 64:=andN_lt b (by simpa using ha)
 show IntKind.u64.wrap ((BitVec.ofInt 64 (a:Int) &&& ~~~ BitVec.ofInt 64 (b:Int)).toNat:Int)=_
 rw[hx,IntKind.wrap_u64]
 omega
theorem bop_andU (ha:a<18446744073709551616) (hb:b<18446744073709551616):bop P .and T (.int .u64 (a:Int)) (.int .u64 (b:Int))=some (.int .u64 ((a &&& b:Nat):Int)):=by
 rw[←bits_and_u64_nat a b ha hb];rfl
theorem bop_orU (ha:a<18446744073709551616) (hb:b<18446744073709551616):bop P .or T (.int .u64 (a:Int)) (.int .u64 (b:Int))=some (.int .u64 ((a ||| b:Nat):Int)):=by
 rw[←bits_or_u64_nat a b ha hb];rfl
theorem bop_andNotU (ha:a<18446744073709551616) (hb:b<18446744073709551616):bop P .andNot T (.int .u64 (a:Int)) (.int .u64 (b:Int))=some (.int .u64 ((andN a b:Nat):Int)):=by
 rw[←bits_andNot_u64_nat ha hb];rfl
theorem bop_shlU {k:IntKind} {i:Nat} (hi:i<64):bop P .shl T (.int .u64 1) (.int k (i:Int))=some (.int .u64 ((2 ^ i:Nat):Int)):=by
 have h: ¬((i:Int)<0):=by omega
 have h2:(2 ^ i:Nat)<2 ^ 64:=Nat.pow_lt_pow_right (by omega) hi
 simp only[bop,Op.shift,if_neg h,Int.toNat_natCast,Nat.min_eq_left (show i≤IntKind.u64.bits from Nat.le_of_lt hi)]
 show some (Value.int .u64 (IntKind.u64.wrap (1*2 ^ i)))=_
 have e:IntKind.u64.wrap (1*2 ^ i)=((2 ^ i:Nat):Int):=by
  rw[IntKind.wrap_u64,Int.one_mul]
  have:((2:Int) ^ i)=((2 ^ i:Nat):Int):=by simp
  rw[this]
  generalize 2 ^ i=x at h2
  omega
 rw[e]
end
theorem bop_shrH {P:Program} {T:TypeId} {k':IntKind} {a b:Int} (h: ¬b<0):bop P .shr T (.int .u64 a) (.int k' b)=some (.int .u64 (a.fdiv (2 ^ (min b.toNat 64)))):=by
 simp only[bop,Op.shift]
 rw[if_neg h]
 rfl
theorem and_pred {m:Nat} (h0:m≠0) (hm:m<2 ^ 64):m &&& (m-1)=andN m (2 ^ Lib.ctz 64 m):=by
 obtain⟨k,hk,ht⟩:=Lib.ctzFrom_spec 64 m (by omega) hm
 have e:Lib.ctz 64 m=Lib.ctzFrom 64 m:=by simp[Lib.ctz,h0]
 rw[e]
 generalize Lib.ctzFrom 64 m=t at *
 apply Nat.eq_of_testBit_eq
 intro j
 rw[andN_bit _ hm,Nat.testBit_and,Nat.testBit_two_pow]
 have h1:0<2 ^ t:=Nat.pow_pos (by omega)
 have e2:m-1=2 ^ t*(2*k)+(2 ^ t-1):=by rw[hk,Nat.mul_add];omega
 have e3:m=2 ^ t*(2*k+1)+0:=by omega
 have b1:(m-1).testBit j=if j<t then(2 ^ t-1).testBit j else(2*k).testBit (j-t):=by
  rw[e2];exact Nat.testBit_two_pow_mul_add _ (by omega) j
 have b2:m.testBit j=if j<t then(0:Nat).testBit j else(2*k+1).testBit (j-t):=by
  conv=>lhs;rw[e3]
  exact Nat.testBit_two_pow_mul_add _ h1 j
 rw[b1,b2]
 by_cases hj:j<t
 ·simp[hj]
 ·rw[if_neg hj,if_neg hj]
  by_cases hj2:t=j
  ·subst hj2
   simp[Nat.testBit_zero]
  ·obtain⟨d,rfl⟩: ∃d,j=t+(d+1):=⟨j-t-1,by omega⟩
   have:t+(d+1)-t=d+1:=by omega
   rw[this,Nat.testBit_succ,Nat.testBit_succ]
   have:(2*k+1) / 2=k:=by omega
   have:2*k / 2=k:=by omega
   simp[*]
section
variable {P:Program} {t k e:TypeId} {b:Nat} {f:Value→Option Value} {es:Array MapEntry} {clock:Nat} {key z:Value}
theorem lookup_map2 (K:Keyed P k) (ht:P.underlying t=some (.map k e)) (hz: ∀w:World,(zeroValue e).run P w = .ok z w) (M:MapIs P k f es clock) (hk:KeyOk P k key) (w:World) (hb:w.heap[b]?=some (.map es clock)) :
  (Instr.lookup t (.map (some b)) key true).run P w = .ok (.tuple #[(f key).getD z, .bool (f key).isSome]) w:=by
 obtain⟨l,hl⟩:=hk
 rcases M.find K ⟨l,hl⟩with⟨h1,_,h2⟩|⟨j,e0,_,_,h1,h2⟩
 ·simp[Instr.lookup,run_underlying ht,MapKept.run_getObj_map hb,K.check w _ hl,h2,hz,h1,Result.andThen]
 ·simp[Instr.lookup,run_underlying ht,MapKept.run_getObj_map hb,K.check w _ hl,h2,hz,h1,Result.andThen]
end
section
variable {v0:VH} {P:Program} {n:Nat} {r:Rr} {Q:VEnv→Sto→Prop} {k:List Fr} {E:VEnv} {S:Sto} {dst:Option Tmp} {ty:TypeId} {pos:String} {af:Array Edge} {ops l:List Oper}
theorem OpS.look2 {T kt e:TypeId} {mx kx:Operand} {b:Nat} {f:Value→Option Value} {es:Array MapEntry} {clock:Nat} {key z:Value} {u:V} (K:Keyed P kt) (ht:P.underlying T=some (.map kt e)) (hz:tzero P e=some z) (M:MapIs P kt f es clock) (hk:KeyOk P kt key)
  (h1:evV E mx=some (.v (.map (some b)))) (h2:evV E kx=some (.v key)) (hS:lookS S b=some (.raw (.map es clock))) (hu: ∀hv,u.Rl hv ((f key).getD z)) (huf:(V.tup [u, .v (.bool (f key).isSome)]).free=true) :
  OpS v0 P n ⟨dst, .lookup T mx kx true,ty,pos,af,none⟩ E S (fun x E' S'=>x = .tup [u, .v (.bool (f key).isSome)]∧E'=E∧S'=S):=by
 intro K1 D hv hold env a w hfl ha s
 obtain⟨y1,a1,b1⟩:=s.rl _ _ h1
 obtain⟨y2,a2,b2⟩:=s.rl _ _ h2
 simp only[V.Rl]at b1 b2
 subst b1;subst b2
 have hb:w.heap[b]?=some (.map es clock):=(s.obj b _ hS).2.2
 have:=lookup_map2 K ht (fun w=>tzero_run hz w) M hk w hb
 refine yields_value (w':=w) (by simp[execOp,ha.ev a1,ha.ev a2,this];rfl) ⟨Same.refl w,_,E,S,hv,hold,PreV.refl hv,s.put dst (by simp only[V.Rl,RlL];exact⟨_,rfl,_,_,rfl,hu hv,_,_,rfl,rfl,rfl⟩) fun _ _=>V.free_Own (v := .tup [u, .v (.bool (f y2).isSome)]) huf _,rfl,rfl,rfl⟩
theorem DS.look2 {T kt e:TypeId} {mx kx:Operand} {b:Nat} {f:Value→Option Value} {es:Array MapEntry} {clock:Nat} {key z:Value} {u:V} (K:Keyed P kt) (ht:P.underlying T=some (.map kt e)) (hz:tzero P e=some z) (M:MapIs P kt f es clock) (hk:KeyOk P kt key)
  (h1:evV E mx=some (.v (.map (some b)))) (h2:evV E kx=some (.v key)) (hS:lookS S b=some (.raw (.map es clock))) (hu: ∀hv,u.Rl hv ((f key).getD z)) (huf:(V.tup [u, .v (.bool (f key).isSome)]).free=true) (hd:dok n dst=true) (q:DS P n r Q (.ops ops l::k) (putV E dst (.tup [u, .v (.bool (f key).isSome)])) S) :
  DS P n r Q (.ops ops (⟨dst, .lookup T mx kx true,ty,pos,af,none⟩::l)::k) E S:=by
 refine DS.step rfl rfl hd (OpS.look2 K ht hz M hk h1 h2 hS hu huf) fun u E' S' ⟨h1,h2,h3⟩=>?_
 subst h1;subst h2;subst h3;exact q
end
theorem bop_andG {P:Program} {T:TypeId} {a b:Int}:bop P .and T (.int .u64 a) (.int .u64 b)=some (.int .u64 (bits .and .u64 a b)):=rfl
theorem bop_shr58 {P:Program} {T:TypeId} {k':IntKind} {a:Int}:bop P .shr T (.int .u64 a) (.int k' 58)=some (.int .u64 (a / 288230376151711744)):=by
 rw[bop_shrH (by decide),Int.fdiv_eq_ediv_of_nonneg _ (by decide)]
 have:(2:Int) ^ (min (58:Int).toNat 64)=288230376151711744:=by decide
 rw[this]
theorem bruijn_at (k:Nat) (hk:k<64) (idx:Nat) (hi:idx<64) (h:Lib.deBruijn64tab.getD idx 0=k):(bruijn.map fun n=>V.v (.int .u8 n))[idx]?=some (.v (.int .u8 (k:Nat))):=by
 have e2:bruijn=Lib.deBruijn64tab.map fun n=>((n:Nat):Int):=by decide +kernel
 have hi':idx<Lib.deBruijn64tab.length:=hi
 have e3:Lib.deBruijn64tab[idx]=k:=by
  rw[←h,List.getD_eq_getElem?_getD,List.getElem?_eq_getElem hi'];rfl
 rw[e2,List.map_map,List.getElem?_map,List.getElem?_eq_getElem hi',e3];rfl
theorem ctz_zero_pc :PC Tryz.prog 37 [UN 0] (I 64):=by
 refine DC.of_run Tryz.func37 rfl Tryz.ntmps37 Tryz.results37 (by simp) (fun _ _=>?_);simp only[argV_cons,argV_nil,go_sem,Nat.zero_add,Nat.reduceAdd]
 repeat' (first|(with_reducible first|refine DS.fltS yU yU yE ?_|refine DS.opsNil ?_|refine DS.seq ?_|refine DS.regionL ?_|(refine DS.cE yE ?_;refine CG.yes ?_))|refine DS.retT [] yE trivial ?_|fail)
 all_goals first|rfl|(exfalso;omega)
theorem yX1 {p:Prop} (h:p:=by(simp (disch:=omega) only[go_sem,dopV,yV0,↓reduceIte,Nat.reduceEqDiff,Nat.reduceLT,Nat.reduceLeDiff,Nat.reduceAdd,Nat.reduceMul,Nat.reduceSub,Int.reduceToNat,Int.reduceLT,Int.reduceLE,Int.reduceEq,IntWalk.toNatUp,IntWalk.iteOmega,IntWalk.i64_in,V.flat,V.one, *,bop_andG,bop_shr58];exact rfl)):p:=h
theorem ctz_walk (m k idx:Nat) (h0:m≠0) (hm:m<18446744073709551616) (hk:k<64) (hi:idx<64) (hget:(bruijn.map fun n=>V.v (.int .u8 n))[idx]?=some (.v (.int .u8 (k:Nat))))
  (key:IntKind.u64.wrap (bits .and .u64 (m:Int) (IntKind.u64.wrap (0-(m:Int)))*285870213051353865) / 288230376151711744=(idx:Int)):PC Tryz.prog 37 [UN m] (I (k:Nat)):=by
 have hbl:bruijn.length=64:=rfl
 refine DC.of_run Tryz.func37 rfl Tryz.ntmps37 Tryz.results37 (by simp) (fun _ _=>?_);simp only[argV_cons,argV_nil,go_sem,Nat.zero_add,Nat.reduceAdd]
 repeat' (first|(with_reducible first|refine DS.fltS yU yU yX1 ?_|refine DS.opsNil ?_|refine DS.seq ?_|refine DS.regionL ?_|(refine DS.cE yX1 ?_;refine CG.p (fun _=>?_) (fun _=>?_))|refine DS.skip ?_)|refine DS.retT [] yX1 trivial ?_|fail)
 all_goals first|(exfalso;omega)|rfl
theorem ctz_pc (m:Nat) (hm:m<18446744073709551616):PC Tryz.prog 37 [UN m] (I (Lib.ctz 64 m:Nat)):=by
 by_cases h0:m=0
 ·subst h0;exact ctz_zero_pc
 ·obtain⟨hlow,hk⟩:=Lib.lowest_bit 64 m h0 (by simpa using hm)
  obtain⟨hi,htab⟩:=Lib.deBruijn64_at _ hk
  have key:=tz64_key m _ hm h0 hlow
  rw[←Int.zero_sub]at key
  exact ctz_walk m _ _ h0 hm hk hi (bruijn_at _ hk _ hi htab) key
end Go.XL
namespace Go.XL
open Go.Proofs
open Go.Maps (Keyed)
open Go.ChangeMaps (setBlock)
set_option maxRecDepth 100000
set_option maxHeartbeats 4000000
section
variable {v0:VH} {P:Program} {n:Nat} {r:Rr} {Q:VEnv→Sto→Prop} {k:List Fr} {E:VEnv} {S:Sto} {dst:Option Tmp} {ty:TypeId} {pos:String} {af:Array Edge} {ops l:List Oper}
theorem OpS.appZ {T tn e sz by_ t : Nat} {z : Value} {kn : IntKind} {sx x : Operand} {N : Nat} (hd : dst = some t) (ht : tel P T = some (e, sz, by_)) (htn : P.underlying tn = some (.int kn)) (hz : tzero P e = some z) (hzs : z.cells.size = sz) (hzo : onesB z.cells.toList = true) (hsz : 0 < sz)
    (hs : evV E sx = some (.v (.slice none 0 0))) (hx : evV E x = some (.v (.int .i64 (N : Int)))) (hN : 0 < N ∧ N ≤ 1000000) (hby : by_ ≤ 65536) :
    OpS v0 P n ⟨dst, .call { callee := .builtin .append, args := #[sx, x], argTypes := #[T, tn] }, ty, pos, af, none⟩ E S
      (fun u E' S' => E' = E ∧ ∃ b cap, lookS S b = none ∧ N ≤ cap ∧ cap ≤ maxLen ∧ u = .v (.slice (some ⟨b, 0, none⟩) N cap) ∧ ∃ j : List V, j.length = cap * sz ∧ (∀ v ∈ j, v.free = true) ∧ S' = (b, .cells j e) :: S) := by
  subst hd
  intro K D hv hold env a w hfl ha s
  obtain ⟨y, g2, g2'⟩ := s.rl _ _ hs
  simp only [V.Rl] at g2'; subst g2'
  obtain ⟨yx, g3, g3'⟩ := s.rl _ _ hx
  simp only [V.Rl] at g3'; subst g3'
  obtain ⟨hu, i, hi, hisz, hiby⟩ := tel_some ht
  have hz' : i.zero = some z := by unfold tzero at hz; rw [hi] at hz; exact hz
  subst hisz; subst hiby
  have hbytes : N * i.bytes ≤ 1000000 * 65536 := Nat.mul_le_mul hN.2 hby
  have hr := Lib.run_append_nil_zeros (P := P) w T tn ty e i z .i64 kn hu htn hi hz' N hN.1 hsz (by omega) (by omega)
  have hge := grownCap_ge w N 0 e
  have hcm := grownCap_le_maxLen w N 0 e (by have : (1000000 : Nat) ≤ maxLen := by decide
                                             omega)
  have run : ∀ {y' : Value} {w' : World}, (Builtin.append_ #[T, tn] ty #[.slice none 0 0, .int .i64 (N : Int)]).run P w = .ok y' w' →
      (execOp a.eval ⟨some t, .call { callee := .builtin .append, args := #[sx, x], argTypes := #[T, tn] }, ty, pos, af, none⟩).run P w = .ok (.value y') w' := fun hr => by
    simp [execOp, resolve, Go.invoke, builtin, ha.ev g2, ha.ev g3, hr]
  refine yields_value (run hr) ⟨⟨rfl, rfl, rfl⟩, ?_⟩
  obtain ⟨cap2, hcap2⟩ : ∃ c2, c2 = grownCap w N 0 e := ⟨_, rfl⟩
  rw [← hcap2] at hge hcm ⊢
  let zs := Builtin.zeroCells z.cells N ++ Builtin.zeroCells z.cells (cap2 - N)
  have hzs2 : zs.toList.length = cap2 * i.size := by
    rw [Array.length_toList, Array.size_append, size_zeroCells, size_zeroCells, hzs, ← Nat.add_mul]; congr 1; omega
  have hzo2 : Ones zs.toList := fun u hu => by
    rw [Array.toList_append] at hu
    rcases List.mem_append.1 hu with hu | hu
    · exact zeroCells_ones hzo _ (by omega) u hu
    · exact zeroCells_ones hzo _ (by omega) u hu
  have h := real_cells (hv := hv) (h := w.heap) (hold := hold) (T := e) (cs := zs.toList) (l := zs.toList.map V.v) (RlL_raw _) hzo2 (raws_free _)
  rw [show zs.toList.toArray = zs by simp] at h
  obtain ⟨s2, hn⟩ := s.born (x := .cells zs e) h
  exact ⟨_, E, _, hv, hold, PreV.refl hv, s2.put (some t) V.Rl_v fun _ _ => trivial, rfl, w.heap.size, cap2, hn, by omega, hcm, rfl, zs.toList.map V.v, by rw [List.length_map]; exact hzs2, raws_free _, rfl⟩
theorem OpS.nilTo {T e sz by_:Nat} {x u:Operand} {kd:IntKind} (ht:tel P T=some (e,sz,by_)) (hx:evV E x=some (.v (.slice none 0 0))) (hu:evV E u=some (.v (.int kd 0))) :
  OpS v0 P n ⟨dst, .slice T x none (some u) none,ty,pos,af,none⟩ E S (fun v E' S'=>v = .v (.slice none 0 0)∧E'=E∧S'=S):=by
 intro K D hv hold env a w hfl ha s
 obtain⟨y,g2,g2'⟩:=s.rl _ _ hx
 simp only[V.Rl]at g2';subst g2'
 obtain⟨yu,g3,g3'⟩:=s.rl _ _ hu
 simp only[V.Rl]at g3';subst g3'
 have run:(execOp a.eval ⟨dst, .slice T x none (some u) none,ty,pos,af,none⟩).run P w = .ok (.value (.slice none 0 0)) w:=by
  refine dop_run ha ?_
  simp[dop,g2,g3,ht,slc,bnd]
 exact yields_value run ⟨Same.refl w,_,E,S,hv,hold,PreV.refl hv,s.put dst V.Rl_v fun _ _=>trivial,rfl,rfl,rfl⟩
theorem DS.nilTo {T e sz by_:Nat} {x u:Operand} {kd:IntKind} (ht:tel P T=some (e,sz,by_)) (hx:evV E x=some (.v (.slice none 0 0))) (hu:evV E u=some (.v (.int kd 0))) (hd:dok n dst=true) (q:DS P n r Q (.ops ops l::k) (putV E dst (.v (.slice none 0 0))) S) :
  DS P n r Q (.ops ops (⟨dst, .slice T x none (some u) none,ty,pos,af,none⟩::l)::k) E S:=by
 refine DS.step rfl rfl hd (OpS.nilTo ht hx hu) fun u E' S' ⟨g1,g2,g3⟩=>?_
 subst g1;subst g2;subst g3;exact q
theorem OpS.capB {x:Operand} {p:Option Addr} {m c T e:Nat} (hT:P.underlying T=some (.slice e)) (hx:evV E x=some (.v (.slice p m c))) :
  OpS v0 P n ⟨dst, .call {callee := .builtin .cap,args:= #[x],argTypes:= #[T]},ty,pos,af,none⟩ E S (fun u E' S'=>u=I (c:Nat)∧E'=E∧S'=S):=by
 intro K D hv hold env a w hfl ha s
 obtain⟨y,g2,g2'⟩:=s.rl _ _ hx
 simp only[V.Rl]at g2';subst g2'
 have run:(execOp a.eval ⟨dst, .call {callee := .builtin .cap,args:= #[x],argTypes:= #[T]},ty,pos,af,none⟩).run P w = .ok (.value (.int .i64 (c:Nat))) w:=by
  simp[execOp,resolve,Go.invoke,builtin,Builtin.cap_,run_underlying hT,goInt,ha.ev g2]
 exact yields_value run ⟨Same.refl w,_,E,S,hv,hold,PreV.refl hv,s.put dst V.Rl_v fun _ _=>trivial,rfl,rfl,rfl⟩
theorem DS.capB {x:Operand} {p:Option Addr} {m c T e:Nat} (hT:P.underlying T=some (.slice e)) (hx:evV E x=some (.v (.slice p m c))) (hd:dok n dst=true) (q:DS P n r Q (.ops ops l::k) (putV E dst (I (c:Nat))) S) :
  DS P n r Q (.ops ops (⟨dst, .call {callee := .builtin .cap,args:= #[x],argTypes:= #[T]},ty,pos,af,none⟩::l)::k) E S:=by
 refine DS.step rfl rfl hd (OpS.capB hT hx) fun u E' S' ⟨g1,g2,g3⟩=>?_
 subst g1;subst g2;subst g3;exact q
end
section
variable {P:Program} {t k e:TypeId} {b:Nat} {f:Value→Option Value} {es:Array MapEntry} {clock:Nat} {key:Value}
theorem update_map (K:Keyed P k) (ht:P.underlying t=some (.map k e)) (M:MapIs P k f es clock) (hk:KeyOk P k key) (val:Value) :
  ∃es2 clock2,MapIs P k (upd f key val) es2 clock2∧ ∀w:World,w.heap[b]?=some (.map es clock)→(Instr.mapUpdate t (.map (some b)) key val).run P w = .ok () (setBlock w b (.map es2 clock2)):=by
 obtain⟨l,hl⟩:=hk
 rcases M.find K ⟨l,hl⟩with⟨h1,hn,h2⟩|⟨j,e0,hj,h0,h1,h2⟩
 ·refine⟨es.push ⟨key,val,clock⟩,clock+1,M.push ⟨l,hl⟩ hn val,fun w hb=>?_⟩
  simp[Instr.mapUpdate,run_underlying ht,MapKept.run_getObj_map hb,K.check w false hl,h2,MapKept.run_setObj_map _ hb,Result.andThen,setBlock]
 ·refine⟨_,clock,by rw[←h0];exact M.set hj val,fun w hb=>?_⟩
  have hj':es[j]?=some e0:=by simpa using hj
  have hs:es.modify j (fun e=>{e with key:=key,val:=val})=es.modify j fun e=>{e with val:=val}:=by
   apply Array.ext'
   rw[Array.toList_modify,Array.toList_modify,ChangeMaps.modify_eq_set _ _ _ _ hj,ChangeMaps.modify_eq_set _ _ _ _ hj]
   have:({e0 with key:=key,val:=val}:MapEntry)={e0 with val:=val}:=by rw[←h0]
   rw[this]
  simp[Instr.mapUpdate,run_underlying ht,MapKept.run_getObj_map hb,K.check w false hl,h2,hj',h0,K.stays w hl,hs,MapKept.run_setObj_map _ hb,Result.andThen,setBlock]
end
section
variable {v0:VH} {P:Program} {n:Nat} {r:Rr} {Q:VEnv→Sto→Prop} {k:List Fr} {E:VEnv} {S:Sto} {dst:Option Tmp} {ty:TypeId} {pos:String} {af:Array Edge} {ops l:List Oper}
theorem OpS.mapUpdate {T kt e:TypeId} {mx kx x:Operand} {b:Nat} {f:Value→Option Value} {es:Array MapEntry} {clock:Nat} {key val:Value} {xv:V} (K:Keyed P kt) (ht:P.underlying T=some (.map kt e)) (M:MapIs P kt f es clock) (hk:KeyOk P kt key)
  (h1:evV E mx=some (.v (.map (some b)))) (h2:evV E kx=some (.v key)) (h3:evV E x=some xv) (hxv:xv.Is val) (hS:lookS S b=some (.raw (.map es clock))) :
  ∃es2 clock2,MapIs P kt (upd f key val) es2 clock2∧OpS v0 P n ⟨dst, .mapUpdate T mx kx x,ty,pos,af,none⟩ E S (fun u E' S'=>u = .v undef∧E'=E∧S'=setS b (.raw (.map es2 clock2)) S):=by
 obtain⟨es2,clock2,q1,q2⟩:=update_map (b:=b) K ht M hk val
 refine⟨es2,clock2,q1,?_⟩
 intro K1 D hv hold env a w hfl ha s
 obtain⟨y1,a1,b1⟩:=s.rl _ _ h1
 obtain⟨y2,a2,b2⟩:=s.rl _ _ h2
 obtain⟨y3,a3,b3⟩:=s.rl _ _ h3
 simp only[V.Rl]at b1 b2
 have b3:=hxv _ _ b3
 subst b1;subst b2;subst b3
 obtain⟨hb,s'⟩:=s.putObj (o' := .map es2 clock2) hS
 have:=q2 w hb
 refine yields_skip (w':=setBlock w b (.map es2 clock2)) (by simp[execOp,ha.ev a1,ha.ev a2,ha.ev a3,this]) ⟨⟨rfl,rfl,rfl⟩,_,E,_,hv,hold,PreV.refl hv,s'.put dst V.Rl_v fun _ _=>trivial,rfl,rfl,rfl⟩
theorem DS.mapUpdate {T kt e:TypeId} {mx kx x:Operand} {b:Nat} {f:Value→Option Value} {es:Array MapEntry} {clock:Nat} {key val:Value} {xv:V} (K:Keyed P kt) (ht:P.underlying T=some (.map kt e)) (M:MapIs P kt f es clock) (hk:KeyOk P kt key)
  (h1:evV E mx=some (.v (.map (some b)))) (h2:evV E kx=some (.v key)) (h3:evV E x=some xv) (hxv:xv.Is val) (hS:lookS S b=some (.raw (.map es clock))) (hd:dok n dst=true)
  (q: ∀es2 clock2,MapIs P kt (upd f key val) es2 clock2→DS P n r Q (.ops ops l::k) (putV E dst (.v undef)) (setS b (.raw (.map es2 clock2)) S)) :
  DS P n r Q (.ops ops (⟨dst, .mapUpdate T mx kx x,ty,pos,af,none⟩::l)::k) E S:=by
 obtain⟨es2,clock2,q1,q2⟩:=OpS.mapUpdate (v0:=r.v0) (n:=n) (dst:=dst) (ty:=ty) (pos:=pos) (af:=af) K ht M hk h1 h2 h3 hxv hS
 refine DS.step rfl rfl hd q2 fun u E' S' ⟨g1,g2,g3⟩=>?_
 subst g1;subst g2;subst g3;exact q es2 clock2 q1
end
theorem chunk_flatten {sz:Nat} (j:List V): ∀{l:List (List V)},(∀c∈l,c.length=sz)→chunk sz l.length (l.flatten++j)=l
 | [],_=>rfl
 | c::r,h=>by
  have hc:=h c (List.mem_cons_self ..)
  rw[List.length_cons,chunk,List.flatten_cons,List.append_assoc,List.take_append_of_le_length (by omega),List.take_of_length_le (by omega),List.drop_append_of_le_length (by omega),List.drop_eq_nil_of_le (by omega),List.nil_append,chunk_flatten j fun c hc=>h c (List.mem_cons_of_mem _ hc)]
section
variable {v0:VH} {P:Program} {n:Nat} {r:Rr} {Q:VEnv→Sto→Prop} {k:List Fr} {E:VEnv} {S:Sto}
theorem DS.freezeGR {t e sz:Nat} {g:GR} (hE:lookV E t=some g.cell) (hg:g.Ok e sz S) (q: ∀S',(∀b o,lookS S' b=some o→lookS S b=some o)→DS P n r Q k ((t, .lst (g.l.map (·.map V.copy)))::E) S'):DS P n r Q k E S:=by
 obtain⟨gl,blk⟩:=g
 cases blk with
 | none =>
  have h0:gl= []:=hg
  subst h0
  intro K W a w ⟨K',D,hv,hold,env,hb,ha,s⟩ hw
  refine q S (fun _ _ e=>e) K W a w ⟨K',D,hv,hold,env,hb,ha,⟨s.pre,fun u v e=>?_,s.obj,s.held,s.base,s.vbase⟩⟩ hw
  simp only[lookV]at e
  by_cases hu:t=u
  ·subst hu
   simp only[if_true,Option.some.injEq,List.map_nil]at e;subst e
   obtain⟨y,e1,e2,_⟩:=s.slot t _ hE
   simp only[GR.cell,V.Rl]at e2;subst e2
   exact⟨_,e1,by simp only[V.Rl];exact⟨none,0,0,rfl,Nat.le_refl _,Nat.zero_le _,by simp,by simp[RlE]⟩,trivial⟩
  ·rw[if_neg hu]at e;exact s.slot u v e
 | some x =>
  obtain⟨b,cap,j⟩:=x
  have hfl:=flatten_len hg.ll
  refine DS.freeze (t:=t) (b:=b) (sz:=sz) (by rw[hE,GR.cell_some]) hg.look (by rw[List.length_append,hfl];omega) ⟨hg.le,hg.cap⟩ ?_
  have hch:chunk sz gl.length ((gl.flatten++j).map V.copy)=gl.map (·.map V.copy):=by
   have h:=chunk_flatten (sz:=sz) (j.map V.copy) (l:=gl.map (·.map V.copy)) (fun c hc=>by obtain⟨d,hd,rfl⟩:=List.mem_map.1 hc;rw[List.length_map];exact hg.ll d hd)
   rw[List.length_map]at h
   rw[List.map_append,List.map_flatten];exact h
  rw[hch]
  exact q _ fun b' o e=>by
   rw[lookS_del]at e
   split at e
   ·cases e
   ·exact e
end
section
variable {v0:VH} {P:Program} {n:Nat} {r:Rr} {Q:VEnv→Sto→Prop} {k:List Fr} {E:VEnv} {S:Sto} {dst:Option Tmp} {ty:TypeId} {pos:String} {af:Array Edge} {ts:Array TypeId} {ops l:List Oper}
theorem OpS.callN {g:FuncId} {args:List V} {xs:Array Operand} {fn:Func} {S1 S2:Sto} {R:V→Sto→Prop} (hf:FnOk P g fn) (he:evsV (evV E) xs.toList=some args)
  (hc:DCh v0 P g args S1 R) (h1: ∀b o,lookS S1 b=some o→lookS S b=some o) (h2: ∀b o,lookS S2 b=some o→lookS S b=some o∧lookS S1 b=none) :
  OpS v0 P n ⟨dst, .call {callee := .value (.func g),args:=xs,argTypes:=ts},ty,pos,af,none⟩ E S (fun v E' S'=>E'=E∧ ∃S0,S'=S0++S2∧R v S0∧ ∀b o,lookS S0 b=some o→lookS S2 b=none):=by
 intro K D hv hold env a w hfl ha s
 obtain⟨ax,e5,e6⟩:=evsV_real s.rl he
 obtain⟨K',hcl,s1,back⟩:=s.call h1 h2
 refine yields_call (fs:= []) (cs:= []) ha hf rfl e5 ?_
 refine(hc K' hv hcl w.heap _ hfl (by simpa using e6) s1 w rfl).mono fun e w' ⟨v,ev,hs,u,S',hv',hold',p1,p2,p3⟩=>?_
 obtain⟨hold2,q1,q2⟩:=back (d:=dst) p1 p2
 exact⟨v,ev,hs,u,E,_,hv',hold2,p1,q1,rfl,S',rfl,p3,q2⟩
theorem DS.callNA {t:Nat} {g:FuncId} {args:List V} {xs:Array Operand} {fn:Func} {R:V→Sto→Prop} (hf:FnOk P g fn) (hc:DC P g args S R) (hd:decide (t<n)=true) (he:evsV (evV E) xs.toList=some args)
  (q: ∀u S',R u S'→DS P n r Q (.ops ops l::k) ((t,u)::E) S'):DS P n r Q (.ops ops (⟨some t, .call {callee := .value (.func g),args:=xs,argTypes:=ts},ty,pos,af,none⟩::l)::k) E S:=by
 refine DS.step rfl rfl hd (OpS.callN (S1:=S) (S2:= []) hf he (hc _) (fun _ _ e=>e) (fun _ _ e=>by cases e)) fun v E' S' ⟨eE,S0,eS,hR,hdis⟩=>?_
 subst eE;subst eS
 simpa [putV] using q v S0 hR
end
end Go.XL
namespace Go.XL
theorem DS.drawLS {P:Program} {n:Nat} {r:Rr} {Q:VEnv→Sto→Prop} {k:List Fr} {E:VEnv} {S:Sto} {id:Nat} {os l1 l2:List Oper} (S0 S1:Sto) (ord:List Nat) (m:Nat) (hok:drawOk os.toArray ord m=true) (hm:P.follows .mixedOrders=true) (h1:pickL os ord=l1) (h2:os.drop m=l2)
  (h0: ∀b o,lookS S0 b=some o→lookS S b=some o∧lookS S1 b=none) (h3: ∀b o,lookS S1 b=some o→lookS S b=some o)
  (q:DD P n r Q os S0 [] l1 (.ops os l2::k) E E S1):DS P n r Q (.code (.region id os.toArray true)::k) E S :=
 DS.draw S0 S1 [] MpOk.nil ord m hok hm h0 h3 (by rw[pickL_eq,h1];simpa [h2] using q)
end Go.XL
namespace Go.XL
open Go.Proofs
set_option maxRecDepth 100000
set_option maxHeartbeats 4000000
def DCf (v1:VH) (P:Program) (f:FuncId) (args:List V) (S:Sto) (R:V→Sto→Prop):Prop:= ∀v0,PreV v1 v0→DCh v0 P f args S R
theorem DCf.of_run {v1:VH} {P:Program} {f:FuncId} {fn:Func} {c:Code} {args:List V} {S:Sto} {R:V→Sto→Prop} (hf:P.funcs[f]?=some fn) (hb:fn.body=some c) {m:Nat} (hm:fn.ntmps=m) {rs:List ResultVar} (hrs:fn.results=rs.toArray) (hn:args.length≤m)
  (q: ∀(v0:VH) (hk0:Kn v0),PreV v1 v0→DS P m ⟨none,v0,hk0⟩ (FinV P rs R) [.code c] (argV 0 args) S):DCf v1 P f args S R:=fun v0 hp K hv hold h xs hfl ha st=>(DCh.of_run (K.kn.mono st.vbase.1) hf hb hm hrs hn (q hv _ (hp.trans hfl))) K hv hold h xs (PreV.refl hv) ha st
theorem St.freezeV {K:Bs} {hv:VH} {hold:Nat→Option Hd} {E:VEnv} {S:Sto} {env:Env} {h:Heap} (s:St K hv hold E S env h) {b:Nat} {cs0:List Value} {T:TypeId} (hS:lookS S b=some (.cells (cs0.map V.v) T)) :
  ∃hv',PreV hv hv'∧St K hv' hold E (delS b S) env h∧hv' b=some (.cells cs0.toArray T (0,0)):=by
 obtain⟨o1,o2,cs,o3,o4,o5,o6⟩:=s.obj b _ hS
 have hcs:cs=cs0:=by
  have key: ∀(l:List Value) (ys:List Value),RlL hv (l.map V.v) ys→ys=l:=by
   intro l
   induction l with
   | nil=>intro ys h;simpa [RlL] using h
   | cons a l ih =>
    intro ys h
    simp only[List.map_cons,RlL,V.Rl]at h
    obtain⟨z,zs,rfl,rfl,h3⟩:=h
    rw[ih _ h3]
  exact key _ _ o4
 subst hcs
 have hpre:PreV hv (addB hv b (.cells cs.toArray T (0,0))):=addB_pre (.inl o2)
 refine⟨_,hpre,⟨addB_Pre s.pre o3 (leO.refl _),fun t v e=>?_,fun b' o e=>?_,s.held,s.base,s.vbase.1.trans hpre,fun j hj=>?_⟩,addB_self ..⟩
 ·obtain⟨y,h1,h2,h3⟩:=s.slot t v e
  refine⟨y,h1,V.Rl_mono hpre v y h2,h3.keep fun g ob a1 a2 a3=>⟨rfl,addB_ne _ fun e=>?_,a1⟩⟩
  subst e;rw[o2]at a2;cases a2
 ·rw[lookS_del]at e
  split at e
  ·cases e
  ·rename_i hb
   obtain⟨r1,r2,r3⟩:=s.obj b' o e
   exact⟨r1,by rw[addB_ne _ hb];exact r2,Ob.keep r3 hpre rfl fun g i ob a1 a2 a3=>⟨rfl,addB_ne _ (fun e=>by subst e;rw[o2]at a2;cases a2),a1⟩⟩
 ·have hne:j≠b:=fun e=>by subst e;exact o1 hj
  rw[addB_ne _ hne];exact s.vbase.2 j hj
def VHs :List (Nat×List Value×TypeId)→VH
 | [],_=>none
 | (b,cs,T)::r,j=>if j=b then some (.cells cs.toArray T (0,0))else VHs r j
def delSs :List (Nat×List Value×TypeId)→Sto→Sto
 | [],S=>S
 | (b,_,_)::r,S=>delSs r (delS b S)
theorem St.freezeVs {K:Bs} {hold:Nat→Option Hd} {E:VEnv} {env:Env} {h:Heap}: ∀(F:List (Nat×List Value×TypeId)) {hv:VH} {S:Sto},St K hv hold E S env h→F.Pairwise (fun a b=>a.1≠b.1)→(∀x∈F,lookS S x.1=some (.cells (x.2.1.map V.v) x.2.2)) →
  ∃hv',PreV hv hv'∧St K hv' hold E (delSs F S) env h∧PreV (VHs F) hv'
 | [],hv,S,s,_,_=>⟨hv,PreV.refl hv,s,fun _ _ e=>by cases e⟩
 | (b,cs,T)::r,hv,S,s,hp,hF=>by
  rw[List.pairwise_cons]at hp
  obtain⟨hv1,p1,s1,e1⟩:=s.freezeV (hF _ (List.mem_cons_self ..))
  obtain⟨hv2,p2,s2,e2⟩:=St.freezeVs r s1 hp.2 (fun x hx=>by
   rw[lookS_del,if_neg (fun e=>hp.1 x hx e.symm)];exact hF x (List.mem_cons_of_mem _ hx))
  refine⟨hv2,p1.trans p2,s2,fun j o ej=>?_⟩
  simp only[VHs]at ej
  split at ej
  ·rename_i hj;subst hj;cases ej
   exact p2 _ _ e1
  ·exact e2 j o ej
section
variable {v0:VH} {P:Program} {n:Nat} {r:Rr} {Q:VEnv→Sto→Prop} {k:List Fr} {E E0:VEnv} {S S0:Sto} {T1:Sto→Prop} {dst:Option Tmp} {ty:TypeId} {pos:String} {af:Array Edge} {ts:Array TypeId} {ops l:List Oper}
theorem OpS.callR {cx:Operand} {g:FuncId} {cs:List Value} {args:List V} {xs:Array Operand} {fn:Func} {S1 S2:Sto} {R:V→Sto→Prop} (hf:FnOk P g fn) (hcx:evV E cx=some (.v (.func (.func g) #[] cs.toArray))) (he:evsV (evV E) xs.toList=some args)
  (hc:DCh v0 P g (args++cs.map V.v) S1 R) (h1: ∀b o,lookS S1 b=some o→lookS S b=some o) (h2: ∀b o,lookS S2 b=some o→lookS S b=some o∧lookS S1 b=none) :
  OpS v0 P n ⟨dst, .call {callee := .value cx,args:=xs,argTypes:=ts},ty,pos,af,none⟩ E S (fun v E' S'=>E'=E∧ ∃S0,S'=S0++S2∧R v S0∧ ∀b o,lookS S0 b=some o→lookS S2 b=none):=by
 intro K D hv hold env a w hfl ha s
 obtain⟨y,e1,e2⟩:=s.rl _ _ hcx
 simp only[V.Rl]at e2;subst e2
 obtain⟨ax,e5,e6⟩:=evsV_real s.rl he
 obtain⟨K',hcl,s1,back⟩:=s.call h1 h2
 refine yields_call (fs:= []) (cs:=cs) ha hf e1 e5 ?_
 refine(hc K' hv hcl w.heap _ hfl (by simpa using e6.app (RlL_raw cs)) s1 w rfl).mono fun e w' ⟨v,ev,hs,u,S',hv',hold',p1,p2,p3⟩=>?_
 obtain⟨hold2,q1,q2⟩:=back (d:=dst) p1 p2
 exact⟨v,ev,hs,u,E,_,hv',hold2,p1,q1,rfl,S',rfl,p3,q2⟩
theorem DS.callR {t:Nat} {cx:Operand} {g:FuncId} {cs:List Value} {args:List V} {xs:Array Operand} {fn:Func} {R:V→Sto→Prop} (hf:FnOk P g fn) (hcx:evV E cx=some (.v (.func (.func g) #[] cs.toArray))) (he:evsV (evV E) xs.toList=some args) (S1 S2:Sto)
  (hc:DCh r.v0 P g (args++cs.map V.v) S1 R) (h1: ∀b o,lookS S1 b=some o→lookS S b=some o) (h2: ∀b o,lookS S2 b=some o→lookS S b=some o∧lookS S1 b=none) (hd:decide (t<n)=true)
  (q: ∀u S',R u S'→(∀b o,lookS S' b=some o→lookS S2 b=none)→DS P n r Q (.ops ops l::k) ((t,u)::E) (S'++S2)):DS P n r Q (.ops ops (⟨some t, .call {callee := .value cx,args:=xs,argTypes:=ts},ty,pos,af,none⟩::l)::k) E S:=by
 refine DS.step rfl rfl hd (OpS.callR hf hcx he hc h1 h2) fun v E' S' ⟨eE,S0,eS,hR,hdis⟩=>?_
 subst eE;subst eS
 simpa [putV] using q v S0 hR hdis
theorem OpS.callF {cx:Operand} {g:FuncId} {cs:List Value} {args:List V} {xs:Array Operand} {fn:Func} {S1:Sto} {R:V→Sto→Prop} (F:List (Nat×List Value×TypeId)) (hF:F.Pairwise (fun a b=>a.1≠b.1)) (hFS: ∀x∈F,lookS S x.1=some (.cells (x.2.1.map V.v) x.2.2))
  (hf:FnOk P g fn) (hcx:evV E cx=some (.v (.func (.func g) #[] cs.toArray))) (he:evsV (evV E) xs.toList=some args)
  (hc:DCf (VHs F) P g (args++cs.map V.v) S1 R) (h1: ∀b o,lookS S1 b=some o→lookS (delSs F S) b=some o) :
  OpS v0 P n ⟨dst, .call {callee := .value cx,args:=xs,argTypes:=ts},ty,pos,af,none⟩ E S (fun v E' S'=>E'=E∧R v S'):=by
 intro K D hv0 hold env a w hfl ha s0
 obtain⟨hv,hp0,s,hp1⟩:=s0.freezeVs F hF hFS
 obtain⟨y,e1,e2⟩:=s.rl _ _ hcx
 simp only[V.Rl]at e2;subst e2
 obtain⟨ax,e5,e6⟩:=evsV_real s.rl he
 obtain⟨K',hcl,s1,back⟩:=s.call (S2:= []) h1 (fun _ _ e=>by cases e)
 refine yields_call (fs:= []) (cs:=cs) ha hf e1 e5 ?_
 refine(hc hv hp1 K' hv hcl w.heap _ (PreV.refl hv) (by simpa using e6.app (RlL_raw cs)) s1 w rfl).mono fun e w' ⟨v,ev,hs,u,S',hv',hold',p1,p2,p3⟩=>?_
 obtain⟨hold2,q1,q2⟩:=back (d:=dst) p1 p2
 exact⟨v,ev,hs,u,E,_,hv',hold2,hp0.trans p1,q1,rfl,by rw[List.append_nil];exact p3⟩
theorem DS.callF {t:Nat} {cx:Operand} {g:FuncId} {cs:List Value} {args:List V} {xs:Array Operand} {fn:Func} {S1:Sto} {R:V→Sto→Prop} (F:List (Nat×List Value×TypeId)) (hF:F.Pairwise (fun a b=>a.1≠b.1)) (hFS: ∀x∈F,lookS S x.1=some (.cells (x.2.1.map V.v) x.2.2))
  (hf:FnOk P g fn) (hcx:evV E cx=some (.v (.func (.func g) #[] cs.toArray))) (he:evsV (evV E) xs.toList=some args)
  (hc:DCf (VHs F) P g (args++cs.map V.v) S1 R) (h1: ∀b o,lookS S1 b=some o→lookS (delSs F S) b=some o) (hd:decide (t<n)=true)
  (q: ∀u S',R u S'→DS P n r Q (.ops ops l::k) ((t,u)::E) S'):DS P n r Q (.ops ops (⟨some t, .call {callee := .value cx,args:=xs,argTypes:=ts},ty,pos,af,none⟩::l)::k) E S:=by
 refine DS.step rfl rfl hd (OpS.callF F hF hFS hf hcx he hc h1) fun v E' S' ⟨eE,hR⟩=>?_
 subst eE
 exact q v S' hR
theorem DX.callR {t:Nat} {cx:Operand} {g:FuncId} {cs:List Value} {args:List V} {xs:Array Operand} {fn:Func} {R:V→Sto→Prop} {u0:V} (hf:FnOk P g fn) (hcx:evV E cx=some (.v (.func (.func g) #[] cs.toArray))) (he:evsV (evV E) xs.toList=some args)
  (hc: ∀S1,T1 S1→DCh r.v0 P g (args++cs.map V.v) S1 R) (hR: ∀v S',R v S'→v=u0) (hd:decide (t<n)=true)
  (q:DX P n r Q ops S0 l k (delV t E0) ((t,u0)::E) (fun S'=>R u0 S')):DX P n r Q ops S0 (⟨some t, .call {callee := .value cx,args:=xs,argTypes:=ts},ty,pos,af,none⟩::l) k E0 E T1:=by
 refine DX.stepX (ι:=Unit) (fun _=>u0) (fun _ _ _ _ _ _ _=>rfl) (T:=fun S1 u E' S'=>E'=E∧R u S') rfl rfl rfl hd (fun S1 h=>?_) (E':=E) (fun S1 v E2 S' _ h=>⟨h.1,(),hR v S' h.2⟩) ⟨t,rfl⟩ fun _=>?_
 ·refine OpS.mono (OpS.callR hf hcx he (S1:=S1) (S2:= []) (hc S1 h) (fun _ _ e=>e) (fun _ _ e=>by cases e)) ?_
  rintro u E' S' ⟨rfl,S2,rfl,h1,-⟩
  exact⟨rfl,by rw[List.append_nil];exact h1⟩
 ·intro K0 K D W hv0 hs a SPs h1 h2 h3 h4 h5 h6 h7 h8
  exact q K0 K D W hv0 hs a SPs h1 h2 h3 h4 h5 h6 h7 fun F h hF=>let ⟨S',⟨S1,a1,a2,a3⟩,a6⟩:=h8 F h hF;⟨S',a3,a6⟩
theorem DS.ldF {T m t:Nat} {a0:Addr} {x:Value} {p:Operand} (hd:decide (t<n)=true) (ht:tsz P T=some (false,m)) (hp:evV E p=some (.v (.pointer (some a0)))) (hx:cellV r.v0 a0=some x)
  (q:DS P n r Q (.ops ops l::k) ((t, .v x)::E) S):DS P n r Q (.ops ops (⟨some t, .load T p,ty,pos,af,none⟩::l)::k) E S:=fun K W a w ⟨K',D,hvv,hold,env,hb,ha,s⟩ hw=>by
 have hc:cell w.heap a0=some x:=s.pre.cell ((hb.floor s).cell hx)
 obtain⟨y,e1,e2⟩:=s.rl _ _ hp
 simp only[V.Rl]at e2;subst e2
 have hr:(execOp a.eval ⟨some t, .load T p,ty,pos,af,none⟩).run P w = .ok (.value x) w:=by
  refine dop_run ha ?_
  simp only[dop,e1,ldT,ht]
  exact hc
 refine wpL_mono (wanted_none rfl a) ⟨fun _ _=>trivial,?_⟩
 rw[Oper.semAt_eq _ _ _ (noDef_spec yR),hr]
 exact q K W _ w ⟨K',D,hvv,hold,XL.put env (some t) x,hb,ha.put' (d:=some t) hd _,s.put (some t) V.Rl_v fun _ _=>V.free_Own rfl _⟩ hw
theorem DX.ldF {T m t:Nat} {a0:Addr} {x:Value} {p:Operand} (hd:decide (t<n)=true) (ht:tsz P T=some (false,m)) (hp:evV E0 p=some (.v (.pointer (some a0)))) (hx:cellV r.v0 a0=some x)
  (q:DX P n r Q ops S0 l k ((t, .v x)::E0) ((t, .v x)::E) T1):DX P n r Q ops S0 (⟨some t, .load T p,ty,pos,af,none⟩::l) k E0 E T1:=fun K0 K D W hv0 hs a SPs hbx hfl hE hpre hS0 hz hl hR=>by
 obtain⟨env,ha,hE'⟩:=hE
 have rl:RlO hv0 (evV E0) (ev env):=by
  intro x u e
  cases x with
  | tmp t=>exact hE' t u e
  | const c=>simp only[evV,Option.some.injEq]at e;subst e;exact⟨c,rfl,V.Rl_v⟩
  | global g=>simp only[evV,Option.some.injEq]at e;subst e;exact⟨_,rfl,gV_Rl (r.kn.mono hfl) g⟩
  | func g=>simp only[evV,Option.some.injEq]at e;subst e;exact⟨_,rfl,by simp only[V.Rl];exact⟨[],[],rfl,by simp[RlL],by simp[RlL]⟩⟩
 obtain⟨y,e1,e2⟩:=rl _ _ hp
 simp only[V.Rl]at e2;subst e2
 have hc:=hfl.cell hx
 show SW P ops.toArray _ W _ (_::l) SPs a
 unfold SW Front
 rw[if_pos (by simp[Region.wanted]),if_neg (by simp[isChain,isStep,isHop])]
 refine⟨x, .inl fun w' hw'=>dop_run ha ?_,?_⟩
 ·simp only[dop,e1,ldT,ht]
  exact hw'.1.cell hc
 refine q K0 K D W hv0 hs _ SPs hbx hfl (e0_put (dst:=some t) ⟨env,ha,hE'⟩ hd V.Rl_v) hpre hS0 hz hl fun F h1 hF=>?_
 obtain⟨S1,t1,p1,p2,hv',hold,env',ha',s,p,f,g⟩:=hR F h1 hF
 exact⟨S1,t1,p1,p2,hv',hold,_,ha'.put' (d:=some t) hd x,s.put (some t) V.Rl_v fun _ _=>V.free_Own rfl x,p,f,g⟩
end
end Go.XL
namespace Go.XL
section
variable {P:Program} {n:Nat} {r:Rr} {Q:VEnv→Sto→Prop} {k:List Fr} {E:VEnv} {S:Sto}
theorem DS.joinL {α:Type} {x:Code} (F:α→VEnv) (T:α→Sto) (I:α→Prop) (h1:DS P n r Q (.code x :: .back (fun E' S'=> ∃y,I y∧subV (F y) E'∧ ∀b o,lookS (T y) b=some o→lookS S' b=some o)::k) E S) (h2: ∀y,I y→DS P n r Q k (F y) (T y)):DS P n r Q (.code x::k) E S:=fun K W a w hs hw=>by
 refine wpIn_mono (h1 K W a w hs hw) fun e a2 w2 t=>?_
 cases e with
 | normal=>obtain⟨E3,S3,q1,q2,y,hy,q3,q4⟩:=t;exact DS.weaken (subV_look q3) q4 (h2 y hy) K W a2 w2 q1 q2
 | _=>exact t
end
end Go.XL
namespace Go.XL
open Go.Proofs
open Go.Maps (Keyed)
set_option maxRecDepth 100000
set_option maxHeartbeats 8000000
def bestV (x:Int×Nat):Value := .agg #[.int .i64 x.1, .int .u64 (x.2:Nat)]
abbrev bestU (x:Int×Nat):V := .agg [I x.1,UN x.2]
theorem bestU_Rl (hv:VH) (x:Int×Nat):(bestU x).Rl hv (bestV x):=by
 simp only[V.Rl,RlL,bestV]
 exact⟨_,rfl,_,_,rfl,rfl,_,_,rfl,rfl,rfl⟩
theorem bestU_Is (x:Int×Nat):(bestU x).Is (bestV x):=V.Is.two _ _
structure Memo (S:Sto) (bm:Nat) (best:Nat→Int×Nat):Prop where
 out: ∃f es clock,lookS S bm=some (.raw (.map es clock))∧MapIs Tryz.prog 86 f es clock∧ ∀k:Nat,k<18446744073709551616→ ∀v,f (.int .u64 (k:Nat))=some v→v=bestV (best k)
abbrev ptrV (b:Nat):Value := .pointer (some ⟨b,0,none⟩)
def capsC (b15 b16 b14 b11:Nat):List Value:= [ptrV b15,ptrV b16,ptrV b14,ptrV b11]
structure Fl (v1:VH) (b15 b16 b14 b11 bm bc bv n:Nat) (cl:Nat→Nat) (vs:Nat→Int):Prop where
 k15:cellV v1 ⟨b15,0,none⟩=some (.map (some bm))
 k16:cellV v1 ⟨b16,0,none⟩=some (.func (.func 36) #[] (capsC b15 b16 b14 b11).toArray)
 k14:cellV v1 ⟨b14,0,none⟩=some (.slice (some ⟨bc,0,none⟩) n n)
 kc: ∀i,i<n→cellV v1 ⟨bc,i,none⟩=some (.int .u64 (cl i:Nat))
 k11:cellV v1 ⟨b11,0,none⟩=some (.slice (some ⟨bv,0,none⟩) n n)
 kv: ∀i,i<n→cellV v1 ⟨bv,i,none⟩=some (.int .i64 (vs i))
theorem Fl.mono {v1 v2:VH} {b15 b16 b14 b11 bm bc bv n:Nat} {cl:Nat→Nat} {vs:Nat→Int} (h:Fl v1 b15 b16 b14 b11 bm bc bv n cl vs) (p:PreV v1 v2):Fl v2 b15 b16 b14 b11 bm bc bv n cl vs :=
 ⟨p.cell h.k15,p.cell h.k16,p.cell h.k14,fun i hi=>p.cell (h.kc i hi),p.cell h.k11,fun i hi=>p.cell (h.kv i hi)⟩
theorem keyU (m:Nat) (hm:m<18446744073709551616):KeyOk Tryz.prog 86 (.int .u64 (m:Nat)):=by
 have hw:(Lit.int .u64 (m:Int)).wf=true:=by
  have h1:decide (IntKind.u64.min≤(m:Int))=true:=decide_eq_true (show(0:Int)≤m by omega)
  have h2:decide ((m:Int)≤IntKind.u64.max)=true:=decide_eq_true (show(m:Int)≤18446744073709551615 by omega)
  simp only[Lit.wf,h1,h2,Bool.and_self]
 refine⟨.int .u64 (m:Int),?_⟩
 unfold keyOf
 rw[Tryz.underlying86]
 simp[mapKey,Tryz.underlying86,hw]
theorem Memo.of {S S':Sto} {bm:Nat} {best:Nat→Int×Nat} (h:Memo S bm best) (e:lookS S' bm=lookS S bm):Memo S' bm best:=by
 obtain⟨f,es,clock,h1,h2⟩:=h.out
 exact⟨f,es,clock,e.trans h1,h2⟩
theorem nf_look {bt b6:Nat} {A B:Ob} {Sx:Sto} (h4:lookS Sx b6=none) (b:Nat) (o:Ob) (e:lookS ([(bt,A),(b6,B)]++Sx) b=some o):lookS ((bt,A)::Sx++ [(b6,B)]) b=some o:=by
 simp only[List.cons_append,List.nil_append,lookS]at e ⊢
 by_cases h:bt=b
 ·rw[if_pos h]at e ⊢;exact e
 ·rw[if_neg h]at e ⊢
  rw[lookS_app]
  by_cases h2:b6=b
  ·subst h2
   rw[if_pos rfl]at e
   rw[h4];simpa [lookS] using e
  ·rw[if_neg h2]at e
   rw[e]
theorem nf_look2 {bt b6:Nat} {A B:Ob} {Sx:Sto} (hd: ∀b o,lookS Sx b=some o→lookS [(bt,A),(b6,B)] b=none) (b:Nat) (o:Ob) (e:lookS ([(bt,A),(b6,B)]++Sx) b=some o):lookS (Sx++ [(bt,A),(b6,B)]) b=some o:=by
 rw[lookS_app]at e ⊢
 cases h:lookS Sx b with
 | none=>rw[h]at e;cases h2:lookS [(bt,A),(b6,B)] b with
  | none=>rw[h2]at e;cases e
  | some x=>rw[h2]at e;exact e
 | some x =>
  rw[hd b x h,h]at e
  exact e
theorem yX2 {p:Prop} (h:p:=by(simp (disch:=omega) only[go_sem,dopV,yV0,↓reduceIte,Nat.reduceEqDiff,Nat.reduceLT,Nat.reduceLeDiff,Nat.reduceAdd,Nat.reduceMul,Nat.reduceSub,Int.reduceToNat,Int.reduceLT,Int.reduceLE,Int.reduceEq,IntWalk.toNatUp,IntWalk.iteOmega,IntWalk.i64_in,V.flat,V.one,setS];exact rfl)):p:=h
theorem yX3 {p:Prop} (h:p:=by(simp (disch:=omega) only[go_sem,dopV,yV0,↓reduceIte,Nat.reduceEqDiff,Nat.reduceLT,Nat.reduceLeDiff,Nat.reduceAdd,Nat.reduceMul,Nat.reduceSub,Int.reduceToNat,Int.reduceLT,Int.reduceLE,Int.reduceEq,IntWalk.toNatUp,IntWalk.iteOmega,IntWalk.i64_in,V.flat,V.one,setS,setAll];exact rfl)):p:=h
theorem go1_dc {v1:VH} {b15 b16 b14 b11 bm bc bv n:Nat} {cl:Nat→Nat} {vs:Nat→Int} (fl:Fl v1 b15 b16 b14 b11 bm bc bv n cl vs) (hn:n≤40) (hcl: ∀i,cl i<18446744073709551616) (hvs: ∀i,0≤vs i∧vs i≤1000000) :
  ∀(N m:Nat),m<N→m<2 ^ n→ ∀S,Memo S bm (bestM (fun i k=>(cl i).testBit k) vs) →
   DCf v1 Tryz.prog 36 ([UN m]++(capsC b15 b16 b14 b11).map V.v) S (fun u S'=>u=bestU (bestM (fun i k=>(cl i).testBit k) vs m)∧Memo S' bm (bestM (fun i k=>(cl i).testBit k) vs))
 | 0,m,h,_,_,_=>by omega
 | N+1,m,hmN,hmn,S,HM=>by
  refine DCf.of_run Tryz.func36 rfl Tryz.ntmps36 Tryz.results36 (by simp[capsC]) (fun v0 hk hp=>?_)
  simp only[capsC,List.map_cons,List.map_nil,List.cons_append,List.nil_append,argV_cons,argV_nil,go_sem,Nat.zero_add,Nat.reduceAdd]
  have f0:=fl.mono hp
  refine DS.seq ?_
  repeat' (first|with_reducible refine DS.regionL ?_|fail)
  refine DS.allocS yR yU yU (fun b6 hb6=>?_)
  have hz:(List.map V.v (Value.agg #[Value.int IntKind.i64 0,Value.int IntKind.u64 0]).cells.toList)= [I 0,UN 0]:=rfl
  rw[hz]
  clear hz
  obtain⟨f,es,clock,q1,q2,q3⟩:=HM.out
  have hne: ¬b6=bm:=fun e=>by rw[e,q1]at hb6;cases hb6
  by_cases h0:m=0
  ·subst h0
   rw[bestM_zero]
   repeat' (first|(with_reducible first|refine DS.fltS yU yU yE ?_|refine DS.opsNil ?_|refine DS.seq ?_|refine DS.regionL ?_|(refine DS.cE yE ?_;refine CG.yes ?_))|(refine DS.store yR yE yE yE yE yU (by exact⟨by with_unfolding_all rfl,by(try simp only[List.length_map,List.length_append,List.length_set,List.length_replicate,List.length_cons,List.length_nil]);omega⟩) ?_;simp only[putV_none,setAll_cons,setAll_nil,scells_v,scells_own,scells_lst,scells_agg];try simp only[strip_tmp,strip_const,lookV_cons,Nat.reduceEqDiff,↓reduceIte,stripO_own,stripO_lst,stripO_v,stripO_plc,stripO_agg,stripO_fn,stripO_ifc])|fail)
   all_goals first|(exfalso;omega)|skip
   refine DS.retA yX2 ⟨rfl,HM.of ?_⟩
   simp only[setS,↓reduceIte,lookS_cons,if_neg hne]
  have h0': ¬(m:Int)=0:=by omega
  have hm64:m<18446744073709551616:=Nat.lt_of_lt_of_le hmn (show 2 ^ n≤2 ^ 64 from Nat.pow_le_pow_right (by omega) (by omega))
  have hl6:lookS ((b6,Ob.cells [I 0,UN 0] 88)::S) bm=some (.raw (.map es clock)):=by simp only[lookS_cons,if_neg hne];exact q1
  repeat' (first|(with_reducible first|refine DS.fltS yU yU yE ?_|refine DS.opsNil ?_|refine DS.seq ?_|refine DS.regionL ?_|(refine DS.cE yE ?_;refine CG.no ?_)|refine DS.skip ?_)|fail)
  refine DS.ldF (m:=1) (by decide) (by kernel_rfl) yH f0.k15 ?_
  repeat' (first|with_reducible refine DS.fltS yU yU yE ?_|fail)
  cases hf:f (.int .u64 (m:Nat))with
  | some v =>
   have hv:=q3 m hm64 v hf
   subst hv
   refine DS.look2 (u:=bestU (bestM (fun i k=>(cl i).testBit k) vs m)) (Go.Maps.int_keyed Tryz.underlying86) yU yU q2 (keyU m hm64) yH yH hl6 (fun hv=>by rw[hf];exact bestU_Rl hv _) (by rw[hf];rfl) yR ?_
   simp only[putV_some,hf,Option.isSome_some]
   generalize bestM (fun i k=>(cl i).testBit k) vs m=x at *
   repeat' (first|(with_reducible first|refine DS.fltS yU yU yE ?_|refine DS.opsNil ?_|refine DS.seq ?_|refine DS.regionL ?_|(refine DS.cE yE ?_;refine CG.yes ?_))|(refine DS.letF (t:=7) yU yE yU (fun _=>yE) yE yU (by exact⟨by with_unfolding_all rfl,by with_unfolding_all decide⟩) (fun _=>by simp only[go_sem,Nat.reduceEqDiff,↓reduceIte]) ?_;simp only[go_sem])|(refine DS.store yR yE yE yE yE yU (by exact⟨by with_unfolding_all rfl,by(try simp only[List.length_map,List.length_append,List.length_set,List.length_replicate,List.length_cons,List.length_nil]);omega⟩) ?_;simp only[putV_none,setAll_cons,setAll_nil,scells_v,scells_own,scells_lst,scells_agg];try simp only[strip_tmp,strip_const,lookV_cons,Nat.reduceEqDiff,↓reduceIte,stripO_own,stripO_lst,stripO_v,stripO_plc,stripO_agg,stripO_fn,stripO_ifc])|fail)
   refine DS.retA yX3 ⟨rfl,HM.of ?_⟩
   simp only[setS,↓reduceIte,lookS_cons,if_neg hne]
  | none =>
   refine DS.look2 (u:=bestU (0,0)) (Go.Maps.int_keyed Tryz.underlying86) yU yU q2 (keyU m hm64) yH yH hl6 (fun hv=>by rw[hf];exact bestU_Rl hv (0,0)) (by rw[hf];rfl) yR ?_
   simp only[putV_some,hf,Option.isSome_none]
   obtain⟨i,hi⟩: ∃i,i=Lib.ctz 64 m:=⟨_,rfl⟩
   obtain⟨rm,hrm⟩: ∃rm,rm=andN m (2 ^ i):=⟨_,rfl⟩
   have hcz:=ctz_pc m hm64
   have hst:=bestM_step cl vs h0 (by simpa using hm64) i hi rm hrm
   have hi64:i<64:=by rw[hi];exact ctz_lt h0 (by simpa using hm64)
   rw[←hi]at hcz
   have hbit:=(ctz_first h0 (by simpa using hm64)).1
   rw[←hi]at hbit
   have hin:i<n:=by
    refine Decidable.byContradiction fun h=>?_
    rw[Nat.testBit_lt_two_pow (Nat.lt_of_lt_of_le hmn (Nat.pow_le_pow_right (by omega) (by omega)))]at hbit
    cases hbit
   have p1:2 ^ i<18446744073709551616:=show _<2 ^ 64 from Nat.pow_lt_pow_right (by omega) hi64
   have hrlt:rm<m:=by
    have h1:rm≤m:=by rw[hrm];exact Nat.and_le_left
    rcases Nat.lt_or_ge rm m with h|h
    ·exact h
    ·have he:rm=m:=by omega
     have h2:=andN_bit (2 ^ i) (show m<2 ^ 64 by simpa using hm64) i
     rw[←hrm,he,hbit,Nat.testBit_two_pow]at h2
     simp at h2
   have hr64:rm<18446744073709551616:=by omega
   obtain⟨r2,hr2⟩: ∃r2,r2=andN rm (cl i):=⟨_,rfl⟩
   have hr2lt:r2≤rm:=by rw[hr2];exact Nat.and_le_left
   have s1:bop Tryz.prog .shl 86 (.int .u64 1) (.int .i64 (i:Int))=some (.int .u64 ((2 ^ i:Nat):Int)):=bop_shlU hi64
   have s2:bop Tryz.prog .andNot 86 (.int .u64 (m:Int)) (.int .u64 ((2 ^ i:Nat):Int))=some (.int .u64 ((rm:Nat):Int)):=by rw[hrm];exact bop_andNotU hm64 p1
   have s3:bop Tryz.prog .andNot 86 (.int .u64 (rm:Int)) (.int .u64 ((cl i:Nat):Int))=some (.int .u64 ((r2:Nat):Int)):=by rw[hr2];exact bop_andNotU hr64 (hcl i)
   have s4:bop Tryz.prog .and 86 (.int .u64 (rm:Int)) (.int .u64 ((cl i:Nat):Int))=some (.int .u64 ((rm &&& cl i:Nat):Int)):=bop_andU hr64 (hcl i)
   rw[←hr2]at hst
   have ih2:=fun S' hS'=>go1_dc fl hn hcl hvs N r2 (by omega) (by omega) S' hS' v0 hp
   have ih1:=fun S' hS'=>go1_dc fl hn hcl hvs N rm (by omega) (by omega) S' hS' v0 hp
   have hb2: ∀x,(bestM (fun i k=>(cl i).testBit k) vs x).2<18446744073709551616∧0≤(bestM (fun i k=>(cl i).testBit k) vs x).1∧(bestM (fun i k=>(cl i).testBit k) vs x).1≤64*1000000:=fun x=>by
    have hbl:(bitsM x).length≤64:=by
     have:=List.length_filter_le (fun i=>x.testBit i) (List.range 64)
     simpa [bitsM] using this
    have h1:=bestL_bd (fun i k=>(cl i).testBit k) vs (B:=1000000) (by omega) hvs 64 (bitsM x) hbl
    refine⟨mask_lt _ fun j hj=>(bits_lt x j ((bestL_sub _ _ _ _ (Nat.le_refl _)).subset hj)).1,h1.1,by rw[bestM];simpa using h1.2⟩
   generalize hbest:bestM (fun i k=>(cl i).testBit k) vs=best at *
   have HS:=Box.mk (And.intro hst (And.intro ih1 (And.intro ih2 (And.intro hb2 (And.intro q2 q3)))))
   clear hst ih1 ih2 hb2 q3 hrm hi hr2 hbit hf
   repeat' (first|(with_reducible first|refine DS.fltS yU yU yE ?_|refine DS.opsNil ?_|refine DS.seq ?_|refine DS.regionL ?_|(refine DS.cE yE ?_;refine CG.no ?_)|refine DS.skip ?_)|(refine DS.letF (t:=7) yU yE yU (fun _=>yE) yE yU (by exact⟨by with_unfolding_all rfl,by with_unfolding_all decide⟩) (fun _=>by simp only[go_sem,Nat.reduceEqDiff,↓reduceIte]) ?_;simp only[go_sem])|refine DS.pcS inferInstance (hcz) yR yT ?_|fail)
   refine DS.drawLS (id:=8) ([(b6,Ob.cells [I 0,UN 0] 88)]) (S) [0,1,2,3,4,5,6,7,8] 9 (by kernel_rfl) mixed (by simp only[pickL_cons,pickL_nil,get_zero',get_cons',pickO_some];exact rfl) (by simp only[drop_zero',drop_cons',List.drop_nil];exact rfl) ((fun b o e=>by
    simp only[lookS_cons,lookS_nil]at e ⊢
    split at e
    ·rename_i h;subst h;exact⟨by rw[if_pos rfl];exact e,hb6⟩
    ·cases e)) ((fun b o e=>by
    simp only[lookS_cons]
    rw[if_neg (fun h=>by subst h;rw[hb6]at e;cases e)];exact e)) ?_
   refine DD.toX ?_
   refine DX.ldF (m:=1) (by decide) (by kernel_rfl) yH f0.k16 ?_
   refine DX.flt rfl rfl yR yG ?_
   simp only[putV_some]
   refine DX.ldF (m:=1) (by decide) (by kernel_rfl) yH f0.k14 ?_
   refine DX.flt rfl rfl yR yG ?_
   simp only[putV_some]
   refine DX.flt rfl rfl yR yG ?_
   simp only[putV_some]
   refine DX.ldF (m:=1) (by decide) (by kernel_rfl) yH (f0.kc i hin) ?_
   refine DX.flt rfl rfl yR (by(simp (disch:=omega) only[go_sem,dopV,yV0,↓reduceIte,Nat.reduceEqDiff,Nat.reduceLT,Nat.reduceLeDiff,Nat.reduceAdd,Nat.reduceMul,Nat.reduceSub,Int.reduceToNat,Int.reduceLT,Int.reduceLE,Int.reduceEq,IntWalk.toNatUp,IntWalk.iteOmega,IntWalk.i64_in,V.flat,V.one,s3];exact rfl)) ?_
   simp only[putV_some]
   refine DX.callR (R:=fun u S'=>u=bestU (best r2)∧Memo S' bm best) (args:= [UN r2]) (u0:=bestU (best r2)) inferInstance yH yH (fun S1 h=>by rw[h];exact HS.out.2.2.1 S HM) (fun v S' h=>h.1) (by decide) ?_
   simp only[delV_cons',delV_nil',Nat.reduceEqDiff,↓reduceIte]
   refine DX.alloc yR yU yU (fun bt hbt=>?_)
   simp only[putV_some]
   refine DX.nil (fun S1 h1 hdis=>?_)
   obtain⟨Sx,⟨-,hx1⟩,hx2,rfl⟩:=h1
   generalize hbr:best r2=x2 at *
   have hx34:lookS ((bt,Ob.cells [I 0,UN 0] 88)::Sx) b6=none:=hdis b6 (.cells [I 0,UN 0] 88) (by simp only[lookS_cons,↓reduceIte])
   have hx3: ¬bt=b6:=fun e=>by simp[lookS,e]at hx34
   have hx4:lookS Sx b6=none:=by simpa only[lookS_cons,if_neg hx3] using hx34
   refine DS.reS (S':= [(bt, .cells [I 0,UN 0] 88),(b6, .cells [I 0,UN 0] 88)]++Sx) (nf_look hx4) ?_
   clear hdis
   repeat' (first|(with_reducible first|refine DS.opsNil ?_|refine DS.seq ?_)|(refine DS.store yR yE yE yE yE yU (by exact⟨by with_unfolding_all rfl,by(try simp only[List.length_map,List.length_append,List.length_set,List.length_replicate,List.length_cons,List.length_nil]);omega⟩) ?_;simp only[putV_none,setAll_cons,setAll_nil,scells_v,scells_own,scells_lst,scells_agg];try simp only[strip_tmp,strip_const,lookV_cons,Nat.reduceEqDiff,↓reduceIte,stripO_own,stripO_lst,stripO_v,stripO_plc,stripO_agg,stripO_fn,stripO_ifc])|fail)
   have hbx:=HS.out.2.2.2.1 r2
   rw[hbr]at hbx
   have hvi:=hvs i
   have o1:bop Tryz.prog .or 86 (.int .u64 (x2.2:Nat)) (.int .u64 ((2 ^ i:Nat):Int))=some (.int .u64 ((x2.2 ||| 2 ^ i:Nat):Int)):=bop_orU hbx.1 p1
   refine DS.reS (S':=(bt, .cells [I x2.1,UN x2.2] 88)::(b6, .cells [I 0,UN 0] 88)::Sx) (fun b o e=>by simp only[setS,↓reduceIte,List.cons_append,List.nil_append];exact e) ?_
   refine DS.weaken (E':= [(11, .v (ptrV bt)),(10,UN rm),(9,I (i:Nat)),(6, .v (ptrV b6)),(0,UN m),(1, .v (ptrV b15)),(2, .v (ptrV b16)),(3, .v (ptrV b14)),(4, .v (ptrV b11))]) (subV_look ⟨by rfl,by rfl,by rfl,by rfl,by rfl,by rfl,by rfl,by rfl,by rfl,trivial⟩) (fun _ _ e=>e) ?_
   skip
   refine DS.drawLS (id:=9) ((bt, .cells [I x2.1,UN x2.2] 88)::(b6, .cells [I 0,UN 0] 88)::Sx) ([]) [0,1,2,3,4,5] 6 (by kernel_rfl) mixed (by simp only[pickL_cons,pickL_nil,get_zero',get_cons',pickO_some];exact rfl) (by simp only[drop_zero',drop_cons',List.drop_nil];exact rfl) ((fun _ _ e=>⟨e,rfl⟩)) ((fun _ _ e=>by cases e)) ?_
   refine DD.toX ?_
   refine DX.flt rfl rfl yR yG ?_
   simp only[putV_some]
   refine DX.flt rfl rfl yR yG ?_
   simp only[putV_some]
   refine DX.ldF (m:=1) (by decide) (by kernel_rfl) yH f0.k11 ?_
   refine DX.flt rfl rfl yR yG ?_
   simp only[putV_some]
   refine DX.flt rfl rfl yR yG ?_
   simp only[putV_some]
   refine DX.ldF (m:=1) (by decide) (by kernel_rfl) yH (f0.kv i hin) ?_
   refine DX.nil (fun S1 h1 hdis=>?_)
   subst h1
   simp only[List.nil_append]
   repeat' (first|(with_reducible first|refine DS.fltS yU yU yE ?_|refine DS.opsNil ?_|refine DS.seq ?_|refine DS.regionL ?_)|(refine DS.store yR yE yE yE yE yU (by exact⟨by with_unfolding_all rfl,by(try simp only[List.length_map,List.length_append,List.length_set,List.length_replicate,List.length_cons,List.length_nil]);omega⟩) ?_;simp only[putV_none,setAll_cons,setAll_nil,scells_v,scells_own,scells_lst,scells_agg];try simp only[strip_tmp,strip_const,lookV_cons,Nat.reduceEqDiff,↓reduceIte,stripO_own,stripO_lst,stripO_v,stripO_plc,stripO_agg,stripO_fn,stripO_ifc])|refine DS.drawL (id:=10) [0,1,2,3] 4 (by kernel_rfl) mixed (by simp only[pickL_cons,pickL_nil,get_zero',get_cons',pickO_some];exact rfl) (by simp only[drop_zero',drop_cons',List.drop_nil];exact rfl) ?_|(with_reducible first|refine DD.fltS yU yU yU yE ?_|refine DD.nil0 ?_)|fail)
   refine DS.ldF (m:=1) (by decide) (by kernel_rfl) yH f0.k14 ?_
   repeat' (first|with_reducible refine DS.fltS yU yU yE ?_|fail)
   refine DS.ldF (m:=1) (by decide) (by kernel_rfl) yH (f0.kc i hin) ?_
   repeat' (first|(with_reducible first|refine DS.fltS yU yU yE ?_|refine DS.opsNil ?_)|fail)
   obtain⟨vm,hvm⟩: ∃vm,vm=x2.1+vs i:=⟨_,rfl⟩
   obtain⟨sm,hsm⟩: ∃sm,sm=x2.2 ||| 2 ^ i:=⟨_,rfl⟩
   have hst:=HS.out.1
   rw[←hvm,←hsm]at hst
   rw[←hvm,←hsm]
   clear hvm hsm
   refine DS.reS (S':=(bt, .cells [I vm,UN sm] 88)::(b6, .cells [I 0,UN 0] 88)::Sx) (fun b o e=>by simp only[setS,↓reduceIte];exact e) ?_
   refine DS.weaken (E':= [(58, .v (.bool (decide (¬((rm &&& cl i:Nat):Int)=0)))),(11, .v (ptrV bt)),(10,UN rm),(6, .v (ptrV b6)),(0,UN m),(1, .v (ptrV b15)),(2, .v (ptrV b16))]) (subV_look ⟨by rfl,by rfl,by rfl,by rfl,by rfl,by rfl,by rfl,trivial⟩) (fun _ _ e=>e) ?_
   refine DS.joinL (fun _:Sto=> [(11, .v (ptrV bt)),(6, .v (ptrV b6)),(0,UN m),(1, .v (ptrV b15))]) (fun y=>(bt, .cells [I (best m).1,UN (best m).2] 88)::(b6, .cells [I 0,UN 0] 88)::y) (fun y=>Memo y bm best∧lookS y bt=none∧lookS y b6=none) ?_ (fun y hy=>?_)
   ·by_cases hand:rm &&& cl i=0
    ·have hand':((rm &&& cl i:Nat):Int)=0:=by omega
     have hbm:best m=(vm,sm):=by rw[hst,if_neg (fun h=>h.1 hand)]
     clear hst
     repeat' (first|(with_reducible first|(refine DS.cE yE ?_;refine CG.no ?_)|refine DS.skip ?_)|fail)
     exact DS.back ⟨Sx,⟨hx1,hx2,hx4⟩,yS,fun b o e=>by rw[hbm]at e;exact e⟩
    ·have hand': ¬((rm &&& cl i:Nat):Int)=0:=by omega
     generalize hx1m:best rm=x1 at hst
     repeat' (first|(with_reducible first|refine DS.seq ?_|refine DS.regionL ?_|(refine DS.cE yE ?_;refine CG.yes ?_))|fail)
     refine DS.ldF (m:=1) (by decide) (by kernel_rfl) yH f0.k16 ?_
     repeat' (first|with_reducible refine DS.fltS yU yU yE ?_|fail)
     have hcall:=HS.out.2.1 Sx hx1
     rw[hx1m]at hcall
     refine DS.callR (args:= [UN rm]) inferInstance yH yH Sx [(bt, .cells [I vm,UN sm] 88),(b6, .cells [I 0,UN 0] 88)] hcall (fun b o e=>?_) (fun b o e=>?_) (by decide) (fun u S' hu hdis=>?_)
     ·simp only[lookS_cons]
      rw[if_neg (fun h=>by subst h;rw[hx2]at e;cases e),if_neg (fun h=>by subst h;rw[hx4]at e;cases e)];exact e
     ·simp only[lookS_cons,lookS_nil]at e ⊢
      split at e
      ·rename_i h;subst h;exact⟨by rw[if_pos rfl];exact e,hx2⟩
      ·rename_i h
       split at e
       ·rename_i h2;subst h2;exact⟨by rw[if_neg h,if_pos rfl];exact e,hx4⟩
       ·cases e
     obtain⟨rfl,hu2⟩:=hu
     have hd1:lookS S' bt=none:=by
      cases h:lookS S' bt with
      | none=>rfl
      | some o=>have:=hdis bt o h;simp[lookS]at this
     have hd2:lookS S' b6=none:=by
      cases h:lookS S' b6 with
      | none=>rfl
      | some o=>have:=hdis b6 o h;simp only[lookS_cons,if_neg hx3,↓reduceIte]at this;cases this
     refine DS.reS (S':= [(bt, .cells [I vm,UN sm] 88),(b6, .cells [I 0,UN 0] 88)]++S') (nf_look2 hdis) ?_
     simp only[List.cons_append,List.nil_append]
     clear hdis
     by_cases hgt:vm<x1.1
     ·have hbm:best m=x1:=by rw[hst,if_pos ⟨hand,hgt⟩]
      clear hst
      repeat' (first|(with_reducible first|refine DS.fltS yU yU yE ?_|refine DS.opsNil ?_|refine DS.seq ?_|refine DS.regionL ?_|(refine DS.cE yE ?_;refine CG.yes ?_))|(refine DS.letF (t:=12) yU yE yU (fun _=>yE) yE yU (by exact⟨by with_unfolding_all rfl,by with_unfolding_all decide⟩) (fun _=>by simp only[go_sem,Nat.reduceEqDiff,↓reduceIte]) ?_;simp only[go_sem])|(refine DS.store yR yE yE yE yE yU (by exact⟨by with_unfolding_all rfl,by(try simp only[List.length_map,List.length_append,List.length_set,List.length_replicate,List.length_cons,List.length_nil]);omega⟩) ?_;simp only[putV_none,setAll_cons,setAll_nil,scells_v,scells_own,scells_lst,scells_agg];try simp only[strip_tmp,strip_const,lookV_cons,Nat.reduceEqDiff,↓reduceIte,stripO_own,stripO_lst,stripO_v,stripO_plc,stripO_agg,stripO_fn,stripO_ifc])|fail)
      refine DS.back ⟨S',⟨hu2,hd1,hd2⟩,yS,fun b o e=>?_⟩
      rw[hbm]at e
      simp only[setS,↓reduceIte]
      exact e
     ·have hbm:best m=(vm,sm):=by rw[hst,if_neg (fun h=>hgt h.2)]
      clear hst
      repeat' (first|(with_reducible first|refine DS.fltS yU yU yE ?_|refine DS.opsNil ?_|refine DS.seq ?_|refine DS.regionL ?_|(refine DS.cE yE ?_;refine CG.no ?_)|refine DS.skip ?_)|(refine DS.letF (t:=12) yU yE yU (fun _=>yE) yE yU (by exact⟨by with_unfolding_all rfl,by with_unfolding_all decide⟩) (fun _=>by simp only[go_sem,Nat.reduceEqDiff,↓reduceIte]) ?_;simp only[go_sem])|fail)
      exact DS.back ⟨S',⟨hu2,hd1,hd2⟩,yS,fun b o e=>by rw[hbm]at e;exact e⟩
   ·obtain⟨hy1,hy2,hy3⟩:=hy
    obtain⟨f2,es2,clock2,g1,g2,g3⟩:=hy1.out
    have hnb: ¬bt=bm:=fun e=>by rw[e,g1]at hy2;cases hy2
    have hl2:lookS ((bt,Ob.cells [I (best m).1,UN (best m).2] 88)::(b6,Ob.cells [I 0,UN 0] 88)::y) bm=some (.raw (.map es2 clock2)):=by
     simp only[lookS_cons,if_neg hne,if_neg hnb];exact g1
    clear hst
    generalize hbm:best m=xm at *
    repeat' (first|(with_reducible first|refine DS.seq ?_|refine DS.regionL ?_)|fail)
    refine DS.ldF (m:=1) (by decide) (by kernel_rfl) yH f0.k15 ?_
    repeat' (first|with_reducible refine DS.fltS yU yU yE ?_|fail)
    refine DS.mapUpdate (val:=bestV xm) (Go.Maps.int_keyed Tryz.underlying86) yU g2 (keyU m hm64) yH yH yH (bestU_Is xm) hl2 yR (fun es3 clock3 g4=>?_)
    simp only[putV_none]
    have hl3:lookS (setS bm (Ob.raw (Obj.map es3 clock3)) ((bt,Ob.cells [I xm.1,UN xm.2] 88)::(b6,Ob.cells [I 0,UN 0] 88)::y)) bm=some (.raw (.map es3 clock3)):=by rw[lookS_set hl2,if_pos rfl]
    refine DS.reS (S':=(bt, .cells [I xm.1,UN xm.2] 88)::(b6, .cells [I 0,UN 0] 88)::setS bm (Ob.raw (Obj.map es3 clock3)) y) (fun b o e=>?_) ?_
    ·simp only[setS,if_neg hne,if_neg hnb];exact e
    clear hl2 hl3
    repeat' (first|(with_reducible first|refine DS.fltS yU yU yE ?_|refine DS.opsNil ?_|refine DS.seq ?_|refine DS.regionL ?_)|(refine DS.store yR yE yE yE yE yU (by exact⟨by with_unfolding_all rfl,by(try simp only[List.length_map,List.length_append,List.length_set,List.length_replicate,List.length_cons,List.length_nil]);omega⟩) ?_;simp only[putV_none,setAll_cons,setAll_nil,scells_v,scells_own,scells_lst,scells_agg];try simp only[strip_tmp,strip_const,lookV_cons,Nat.reduceEqDiff,↓reduceIte,stripO_own,stripO_lst,stripO_v,stripO_plc,stripO_agg,stripO_fn,stripO_ifc])|fail)
    refine DS.retA yX3 ⟨rfl,⟨_,es3,clock3,?_,g4,fun k hk v hv=>?_⟩⟩
    ·simp only[setS,if_neg hx3,if_neg hne,if_neg hnb,↓reduceIte,lookS_cons]
     rw[lookS_set g1,if_pos rfl]
    ·by_cases hkm:k=m
     ·subst hkm
      rw[upd_same]at hv
      simp only[Option.some.injEq]at hv
      rw[←hv,hbm]
     ·rw[upd_ne _ _ (fun h=>hkm (by simp only[Value.int.injEq,true_and]at h;omega))]at hv
      exact g3 k hk v hv
end Go.XL
namespace Go.XL
open Go.Proofs
set_option maxRecDepth 100000
set_option maxHeartbeats 8000000
theorem r5worth_pc (p:Pattern) (o:Bool):PC Tryz.prog 40 [p.val,Bo o] (I (worthS p o)):=by
 refine DC.of_run Tryz.func40 rfl Tryz.ntmps40 Tryz.results40 (by simp) (fun _ _=>?_);simp only[argV_cons,argV_nil,go_sem,Nat.zero_add,Nat.reduceAdd]
 repeat' (first|(with_reducible first|refine DS.fltS yU yU yE ?_|refine DS.opsNil ?_|refine DS.seq ?_|refine DS.regionL ?_|(refine DS.cE yE ?_;refine CG.b (fun _=>?_) (fun _=>?_))|refine DS.skip ?_)|(refine DS.boxF (t:=2) yU yE yU ?_;simp only[cells_agg,cells_v,cells_lst,cells_fn,map_nil'',map_cons'',copy_own,copy_lst,copy_v,copy_at,copy_agg,copy_fn,copy_ifc,copy_tup])|refine DS.retT [] yE trivial ?_|fail)
 all_goals (simp only[tupV,worthS];simp[*])
def befI :List Int→List Int→Bool
 | a::l,b::m=>if a≠b then decide (a<b)else befI l m
 | [],[]=>false
 | [],_::_=>true
 | _::_,[]=>false
theorem befI_at {a b:List Int} {i:Nat} (ha:i<a.length) (hb:i<b.length):befI (a.drop i) (b.drop i)=if a[i]≠b[i]then decide (a[i]<b[i])else befI (a.drop (i+1)) (b.drop (i+1)):=by
 rw[List.drop_eq_getElem_cons ha,List.drop_eq_getElem_cons hb,befI]
theorem befI_end {a b:List Int} {i:Nat} (h1:i≤a.length) (h2:i≤b.length) (h:i=a.length∨i=b.length):befI (a.drop i) (b.drop i)=decide ((a.length:Int)<(b.length:Int)):=by
 rcases h with h|h
 ·rw[List.drop_eq_nil_of_le (by omega)]
  by_cases h3:i<b.length
  ·rw[List.drop_eq_getElem_cons h3,befI,decide_eq_true (by omega)]
  ·rw[List.drop_eq_nil_of_le (by omega),befI,decide_eq_false (by omega)]
 ·rw[show b.drop i= []from List.drop_eq_nil_of_le (by omega),decide_eq_false (by omega)]
  by_cases h3:i<a.length
  ·rw[List.drop_eq_getElem_cons h3,befI]
  ·rw[List.drop_eq_nil_of_le (by omega),befI]
theorem r5before_pc (a b:List Int):PC Tryz.prog 79 [ints a,ints b] (Bo (befI a b)):=by
 refine DC.of_run Tryz.func79 rfl Tryz.ntmps79 Tryz.results79 (by simp) (fun _ _=>?_);simp only[argV_cons,argV_nil,go_sem,Nat.zero_add,Nat.reduceAdd]
 refine DS.bnd (t:=0) yG (.inl rfl) (fun hb0=>?_);simp only[List.length_map]at hb0
 repeat' (first|(with_reducible first|refine DS.fltS yU yU yE ?_|refine DS.opsNil ?_|refine DS.seq ?_|refine DS.regionL ?_|refine DS.block ?_)|fail)
 refine DS.loopK [0,1] yN (fun(i:Nat)=> [(5,I i)]) (fun(i:Nat)=>i≤a.length∧i≤b.length∧befI a b=befI (a.drop i) (b.drop i)) (fun(i:Nat)=>a.length-i) 0 yS ⟨Nat.zero_le _,Nat.zero_le _,rfl⟩ (fun i B hI hB=>?_);try dsimp only at hI hB;simp only[app_cons',app_nil']
 have HB:=Box.mk hB
 clear hB
 obtain⟨i1,i2,i3⟩:=hI
 by_cases ha:(i:Int)<(a.length:Int)
 ·have ha':i<a.length:=by omega
  by_cases hb:(i:Int)<(b.length:Int)
  ·have hb':i<b.length:=by omega
   rw[befI_at ha' hb']at i3
   by_cases he:a[i]=b[i]
   ·rw[if_neg (by simpa using he)]at i3
    have HI:=Box.mk i3
    clear i3
    have he1:=eq_true he
    clear he
    repeat' (first|(with_reducible first|refine DS.fltS yU yU yE ?_|refine DS.opsNil ?_|refine DS.seq ?_|refine DS.regionL ?_|(refine DS.cE yE ?_;first|refine CG.yes ?_|refine CG.no ?_)|(refine DS.gE yU yE ?_;refine GG.run ?_)|refine DS.blk ?_|refine DS.block ?_|refine DS.skip ?_)|refine DS.drawL (id:=4) [0,1,2,3,4,5,6,7] 8 (by kernel_rfl) mixed (by simp only[pickL_cons,pickL_nil,get_zero',get_cons',pickO_some];exact rfl) (by simp only[drop_zero',drop_cons',List.drop_nil];exact rfl) ?_|(with_reducible first|refine DD.fltS yU yU yU yE ?_|refine DD.nil0 ?_)|fail)
    all_goals first
     | exact DS.back (HB.out (i+1) _ _ (by omega) ⟨by omega,by omega,HI.out⟩ yS yS (fun b o e=>by cases e))
     | (exfalso;omega)
   ·rw[if_pos he]at i3
    rw[i3]
    have he1:=eq_false he
    clear he i3
    repeat' (first|(with_reducible first|refine DS.fltS yU yU yE ?_|refine DS.opsNil ?_|refine DS.seq ?_|refine DS.regionL ?_|(refine DS.cE yE ?_;refine CG.yes ?_)|(refine DS.gE yU yE ?_;refine GG.run ?_)|refine DS.block ?_|refine DS.skip ?_)|refine DS.drawL (id:=4) [0,1,2,3,4,5,6,7] 8 (by kernel_rfl) mixed (by simp only[pickL_cons,pickL_nil,get_zero',get_cons',pickO_some];exact rfl) (by simp only[drop_zero',drop_cons',List.drop_nil];exact rfl) ?_|refine DS.drawL (id:=5) [0,1,2,3,4,5,6,7] 8 (by kernel_rfl) mixed (by simp only[pickL_cons,pickL_nil,get_zero',get_cons',pickO_some];exact rfl) (by simp only[drop_zero',drop_cons',List.drop_nil];exact rfl) ?_|(with_reducible first|refine DD.fltS yU yU yU yE ?_|refine DD.nil0 ?_)|refine DS.retT [] yE trivial ?_|fail)
    all_goals first|rfl|(exfalso;omega)
  ·rw[i3,befI_end i1 i2 (by omega)]
   clear i3 HB
   repeat' (first|(with_reducible first|refine DS.fltS yU yU yE ?_|refine DS.opsNil ?_|refine DS.seq ?_|refine DS.regionL ?_|(refine DS.cE yE ?_;refine CG.no ?_)|(refine DS.gE yU yE ?_;refine GG.run ?_)|refine DS.exit yU ?_)|refine DS.retT [] yE trivial ?_|fail)
   all_goals first|rfl|(exfalso;omega)
 ·rw[i3,befI_end i1 i2 (by omega)]
  clear i3 HB
  repeat' (first|(with_reducible first|refine DS.fltS yU yU yE ?_|refine DS.opsNil ?_|refine DS.seq ?_|refine DS.regionL ?_|(refine DS.cE yE ?_;refine CG.no ?_)|(refine DS.gE yU yE ?_;refine GG.sF ?_)|refine DS.exit yU ?_)|refine DS.retT [] yE trivial ?_|fail)
  all_goals first|rfl|(exfalso;omega)
theorem r5checkHolds_pc (h:House) (l:List Hold):PC Tryz.prog 39 [h.val,holdsV l] (I (if 40<(l.length:Int)then 8 else holdsGo h.patterns.length l (-1))):=by
 by_cases h40:40<(l.length:Int)
 ·rw[if_pos h40]
  refine DC.of_run Tryz.func39 rfl Tryz.ntmps39 Tryz.results39 (by simp) (fun _ _=>?_);simp only[argV_cons,argV_nil,go_sem,Nat.zero_add,Nat.reduceAdd]
  repeat' (first|(with_reducible first|refine DS.fltS yU yU yE ?_|refine DS.opsNil ?_|refine DS.seq ?_|refine DS.regionL ?_|(refine DS.cE yE ?_;refine CG.yes ?_))|(refine DS.boxF (t:=2) yU yE yU ?_;simp only[cells_agg,cells_v,cells_lst,cells_fn,map_nil'',map_cons'',copy_own,copy_lst,copy_v,copy_at,copy_agg,copy_fn,copy_ifc,copy_tup])|refine DS.retT [] yE trivial ?_|fail)
  all_goals first|rfl|(exfalso;omega)
 ·rw[if_neg h40]
  refine DC.of_run Tryz.func39 rfl Tryz.ntmps39 Tryz.results39 (by simp) (fun _ _=>?_);simp only[argV_cons,argV_nil,go_sem,Nat.zero_add,Nat.reduceAdd]
  repeat' (first|(with_reducible first|refine DS.fltS yU yU yE ?_|refine DS.opsNil ?_|refine DS.seq ?_|refine DS.regionL ?_|(refine DS.cE yE ?_;refine CG.no ?_)|refine DS.block ?_|refine DS.skip ?_)|(refine DS.boxF (t:=2) yU yE yU ?_;simp only[cells_agg,cells_v,cells_lst,cells_fn,map_nil'',map_cons'',copy_own,copy_lst,copy_v,copy_at,copy_agg,copy_fn,copy_ifc,copy_tup])|fail)
  all_goals try (exfalso;omega)
  refine DS.loopK [1,2] yN (fun(i:Nat)=> [(5,I i)]) (fun(i:Nat)=>i≤l.length∧holdsGo h.patterns.length l (-1)=holdsGo h.patterns.length (l.drop i) (if i=0 then -1 else(l.getD (i-1) ⟨0,0⟩).pattern)) (fun(i:Nat)=>l.length-i) 0 yS ⟨Nat.zero_le _,rfl⟩ (fun i B hI hB=>?_);try dsimp only at hI hB;simp only[app_cons',app_nil']
  have HB:=Box.mk hB
  clear hB
  obtain⟨i1,i2⟩:=hI
  by_cases hi:(i:Int)<(l.length:Int)
  ·have hi':i<l.length:=by omega
   have hp:i-1<l.length:=by omega
   have hgd:l.getD (i-1) ⟨0,0⟩=l[i-1]:=by rw[List.getD_eq_getElem?_getD,List.getElem?_eq_getElem hp];rfl
   have hg2:l.getD (i+1-1) ⟨0,0⟩=l[i]:=by rw[Nat.add_sub_cancel,List.getD_eq_getElem?_getD,List.getElem?_eq_getElem hi'];rfl
   rw[holdsGo_at hi',hgd]at i2
   have HI:=Box.mk (And.intro i2 hg2)
   clear i2 hgd hg2
   by_cases c1:0≤l[i].pattern∧l[i].pattern<(h.patterns.length:Int)∧1≤l[i].times∧l[i].times≤1000
   ·by_cases h0:i=0
    ·have h0': ¬(0:Int)<(i:Int):=by omega
     have HN:Box (holdsGo h.patterns.length l (-1)=holdsGo h.patterns.length (l.drop (i+1)) l[i].pattern):=⟨by rw[HI.out.1,if_neg (fun hc=>hc c1),if_neg (by rw[if_pos h0];omega)]⟩
     have H2:=Box.mk HI.out.2
     clear HI h0
     repeat' (first|(with_reducible first|refine DS.fltS yU yU yE ?_|refine DS.opsNil ?_|refine DS.seq ?_|refine DS.regionL ?_|(refine DS.cE yE ?_;first|refine CG.p (fun _=>?_) (fun _=>?_)|refine CG.yes ?_|refine CG.no ?_)|(refine DS.gE yU yE ?_;first|refine GG.run ?_|refine GG.sF ?_|refine GG.sT ?_)|refine DS.blk ?_|refine DS.block ?_|refine DS.skip ?_)|refine DS.drawL (id:=6) [0,1,2,3,4,5,6,7,8,9,10,11,12,13,14,15,16,17,18,19,20,21,22,23,24,25,26,27] 28 (by kernel_rfl) mixed (by simp only[pickL_cons,pickL_nil,get_zero',get_cons',pickO_some];exact rfl) (by simp only[drop_zero',drop_cons',List.drop_nil];exact rfl) ?_|refine DS.drawL (id:=8) [0,1,2,3,4,5,6,7,8,9,10,11,12,13] 14 (by kernel_rfl) mixed (by simp only[pickL_cons,pickL_nil,get_zero',get_cons',pickO_some];exact rfl) (by simp only[drop_zero',drop_cons',List.drop_nil];exact rfl) ?_|(with_reducible first|refine DD.fltS yU yU yU yE ?_|(refine DD.gE yU yE ?_;first|refine DGG.pF (fun _=>?_) (fun _=>?_)|refine DGG.run ?_|refine DGG.sF ?_|refine DGG.sT ?_)|refine DD.nil0 ?_)|refine DS.retT [] yE trivial ?_|fail)
     all_goals first
      | exact DS.back (HB.out (i+1) _ _ (by omega) ⟨by omega,by rw[if_neg (by omega),H2.out];exact HN.out⟩ yS yS (fun b o e=>by cases e))
      | (exfalso;omega)
    ·have h0':(0:Int)<(i:Int):=by omega
     by_cases c2:l[i].pattern≤l[i-1].pattern
     ·have e:holdsGo h.patterns.length l (-1)=11:=by rw[HI.out.1,if_neg (fun hc=>hc c1),if_neg h0,if_pos c2]
      rw[e]
      clear e HI HB
      repeat' (first|(with_reducible first|refine DS.fltS yU yU yE ?_|refine DS.opsNil ?_|refine DS.seq ?_|refine DS.regionL ?_|(refine DS.cE yE ?_;first|refine CG.p (fun _=>?_) (fun _=>?_)|refine CG.yes ?_)|(refine DS.gE yU yE ?_;first|refine GG.run ?_|refine GG.sT ?_)|refine DS.block ?_|refine DS.skip ?_)|refine DS.drawL (id:=6) [0,1,2,3,4,5,6,7,8,9,10,11,12,13,14,15,16,17,18,19,20,21,22,23,24,25,26,27] 28 (by kernel_rfl) mixed (by simp only[pickL_cons,pickL_nil,get_zero',get_cons',pickO_some];exact rfl) (by simp only[drop_zero',drop_cons',List.drop_nil];exact rfl) ?_|refine DS.drawL (id:=8) [0,1,2,3,4,5,6,7,8,9,10,11,12,13] 14 (by kernel_rfl) mixed (by simp only[pickL_cons,pickL_nil,get_zero',get_cons',pickO_some];exact rfl) (by simp only[drop_zero',drop_cons',List.drop_nil];exact rfl) ?_|(with_reducible first|refine DD.fltS yU yU yU yE ?_|(refine DD.gE yU yE ?_;first|refine DGG.pF (fun _=>?_) (fun _=>?_)|refine DGG.run ?_|refine DGG.sT ?_)|refine DD.nil0 ?_)|refine DS.retT [] yE trivial ?_|fail)
      all_goals first|rfl|(exfalso;omega)
     ·have HN:Box (holdsGo h.patterns.length l (-1)=holdsGo h.patterns.length (l.drop (i+1)) l[i].pattern):=⟨by rw[HI.out.1,if_neg (fun hc=>hc c1),if_neg h0,if_neg c2]⟩
      have H2:=Box.mk HI.out.2
      clear HI h0
      repeat' (first|(with_reducible first|refine DS.fltS yU yU yE ?_|refine DS.opsNil ?_|refine DS.seq ?_|refine DS.regionL ?_|(refine DS.cE yE ?_;first|refine CG.p (fun _=>?_) (fun _=>?_)|refine CG.yes ?_|refine CG.no ?_)|(refine DS.gE yU yE ?_;first|refine GG.run ?_|refine GG.sT ?_)|refine DS.blk ?_|refine DS.block ?_|refine DS.skip ?_)|refine DS.drawL (id:=6) [0,1,2,3,4,5,6,7,8,9,10,11,12,13,14,15,16,17,18,19,20,21,22,23,24,25,26,27] 28 (by kernel_rfl) mixed (by simp only[pickL_cons,pickL_nil,get_zero',get_cons',pickO_some];exact rfl) (by simp only[drop_zero',drop_cons',List.drop_nil];exact rfl) ?_|refine DS.drawL (id:=8) [0,1,2,3,4,5,6,7,8,9,10,11,12,13] 14 (by kernel_rfl) mixed (by simp only[pickL_cons,pickL_nil,get_zero',get_cons',pickO_some];exact rfl) (by simp only[drop_zero',drop_cons',List.drop_nil];exact rfl) ?_|(with_reducible first|refine DD.fltS yU yU yU yE ?_|(refine DD.gE yU yE ?_;first|refine DGG.pF (fun _=>?_) (fun _=>?_)|refine DGG.run ?_|refine DGG.sT ?_)|refine DD.nil0 ?_)|refine DS.retT [] yE trivial ?_|fail)
      all_goals first
       | exact DS.back (HB.out (i+1) _ _ (by omega) ⟨by omega,by rw[if_neg (by omega),H2.out];exact HN.out⟩ yS yS (fun b o e=>by cases e))
       | (exfalso;omega)
   ·have e:holdsGo h.patterns.length l (-1)=2:=by rw[HI.out.1,if_pos c1]
    rw[e]
    clear e HI HB
    repeat' (first|(with_reducible first|refine DS.fltS yU yU yE ?_|refine DS.opsNil ?_|refine DS.seq ?_|refine DS.regionL ?_|(refine DS.cE yE ?_;first|refine CG.p (fun _=>?_) (fun _=>?_)|refine CG.yes ?_|refine CG.no ?_)|(refine DS.gE yU yE ?_;first|refine GG.run ?_|refine GG.sF ?_|refine GG.sT ?_)|refine DS.blk ?_|refine DS.block ?_|refine DS.skip ?_)|refine DS.drawL (id:=6) [0,1,2,3,4,5,6,7,8,9,10,11,12,13,14,15,16,17,18,19,20,21,22,23,24,25,26,27] 28 (by kernel_rfl) mixed (by simp only[pickL_cons,pickL_nil,get_zero',get_cons',pickO_some];exact rfl) (by simp only[drop_zero',drop_cons',List.drop_nil];exact rfl) ?_|refine DS.drawL (id:=8) [0,1,2,3,4,5,6,7,8,9,10,11,12,13] 14 (by kernel_rfl) mixed (by simp only[pickL_cons,pickL_nil,get_zero',get_cons',pickO_some];exact rfl) (by simp only[drop_zero',drop_cons',List.drop_nil];exact rfl) ?_|(with_reducible first|refine DD.fltS yU yU yU yE ?_|(refine DD.gE yU yE ?_;first|refine DGG.pT (fun _=>?_) (fun _=>?_)|refine DGG.pF (fun _=>?_) (fun _=>?_)|refine DGG.run ?_|refine DGG.sF ?_|refine DGG.sT ?_)|refine DD.nil0 ?_)|refine DS.retT [] yE trivial ?_|fail)
    all_goals first|rfl|(exfalso;omega)
  ·rw[i2,drop_end hi]
   clear i2 HB
   repeat' (first|(with_reducible first|refine DS.fltS yU yU yE ?_|refine DS.opsNil ?_|refine DS.seq ?_|refine DS.regionL ?_|(refine DS.cE yE ?_;refine CG.no ?_)|refine DS.exit yU ?_)|refine DS.retT [] yE trivial ?_|fail)
   all_goals first|rfl|(exfalso;omega)
end Go.XL
namespace Go.XL
def befN :List Nat→List Nat→Bool
 | a::l,b::m=>if a≠b then decide (a<b)else befN l m
 | [],[]=>false
 | [],_::_=>true
 | _::_,[]=>false
theorem befN_app : ∀(h l m:List Nat),befN (h++l) (h++m)=befN l m
 | [],l,m=>rfl
 | a::h,l,m=>by rw[List.cons_append,List.cons_append,befN,if_neg (by simp),befN_app h l m]
def sumV (v:Nat→Int):List Nat→Int
 | []=>0
 | i::l=>v i+sumV v l
theorem sumV_app (v:Nat→Int): ∀l m,sumV v (l++m)=sumV v l+sumV v m
 | [],m=>by rw[List.nil_append,sumV];omega
 | i::l,m=>by rw[List.cons_append,sumV,sumV,sumV_app v l m];omega
def refB (cl:Nat→Nat→Bool) (v:Nat→Int):List Nat→List Nat→List Nat×Int
 | hv,[]=>(hv,sumV v hv)
 | hv,x::more =>
  if !hv.any (cl x)&& !more.any (cl x)then refB cl v (hv++ [x]) more else
  if !hv.any (cl x)=true∧((refB cl v hv more).2<(refB cl v (hv++ [x]) more).2∨(refB cl v hv more).2=(refB cl v (hv++ [x]) more).2∧befN (refB cl v (hv++ [x]) more).1 (refB cl v hv more).1=true)then refB cl v (hv++ [x]) more
  else refB cl v hv more
theorem bestL_some (cl:Nat→Nat→Bool) (v:Nat→Int) (l:List Nat) (h:(bestL cl v l).2= []):(bestL cl v l).1=0:=by
 have key: ∀(n:Nat) (l:List Nat),l.length≤n→(bestL cl v l).2= []→(bestL cl v l).1=0:=by
  intro n
  induction n with
  | zero =>
   intro l hl _
   have:l= []:=List.eq_nil_of_length_eq_zero (by omega)
   subst this;rw[bestL_nil]
  | succ n ih =>
   intro l hl he
   cases l with
   | nil=>rw[bestL_nil]
   | cons i l =>
    rw[bestL_cons]at he ⊢
    split at he
    ·rename_i hc
     rw[if_pos hc]
     exact ih l (by simpa using hl) he
    ·cases he
 exact key l.length l (Nat.le_refl _) h
theorem bestL_nn (cl:Nat→Nat→Bool) (v:Nat→Int) (l:List Nat) (h: ∀k∈l,0≤v k):0≤(bestL cl v l).1:=by
 have key: ∀(n:Nat) (l:List Nat),l.length≤n→(∀k∈l,0≤v k)→0≤(bestL cl v l).1:=by
  intro n
  induction n with
  | zero =>
   intro l hl _
   have:l= []:=List.eq_nil_of_length_eq_zero (by omega)
   subst this;rw[bestL_nil];exact Int.le_refl _
  | succ n ih =>
   intro l hl he
   cases l with
   | nil=>rw[bestL_nil];exact Int.le_refl _
   | cons i l =>
    have hl':l.length≤n:=by simpa using hl
    have hq:=List.length_filter_le (fun k=> !cl i k) l
    rw[bestL_cons]
    split
    ·exact ih l hl' fun k hk=>he k (List.mem_cons_of_mem _ hk)
    ·have h1:=ih (l.filter fun k=> !cl i k) (by omega) fun k hk=>he k (List.mem_cons_of_mem _ (List.mem_filter.1 hk).1)
     have h2:=he i (List.mem_cons_self ..)
     dsimp only;omega
 exact key l.length l (Nat.le_refl _) h
def ncf (cl:Nat→Nat→Bool) (hv:List Nat) (k:Nat):Bool:= !hv.any fun j=>cl k j
theorem refB_eq (cl:Nat→Nat→Bool) (v:Nat→Int) (hs: ∀i k,cl i k=cl k i): ∀(rest hv:List Nat),rest.Pairwise (· < ·)→(∀k∈rest,0<v k) →
  refB cl v hv rest=(hv++(bestL cl v (rest.filter (ncf cl hv))).2,sumV v hv+(bestL cl v (rest.filter (ncf cl hv))).1)
 | [],hv,_,_=>by rw[refB,List.filter_nil,bestL_nil];simp
 | x::more,hv,hp,hpos=>by
  rw[List.pairwise_cons]at hp
  have hpm: ∀k∈more,0<v k:=fun k hk=>hpos k (List.mem_cons_of_mem _ hk)
  have hx:0<v x:=hpos x (List.mem_cons_self ..)
  have h0:=refB_eq cl v hs more hv hp.2 hpm
  have h1:=refB_eq cl v hs more (hv++ [x]) hp.2 hpm
  have hf1:more.filter (ncf cl (hv++ [x]))=(more.filter (ncf cl hv)).filter fun k=> !cl x k:=by
   rw[List.filter_filter]
   refine List.filter_congr fun k _=>?_
   rw[ncf,ncf,List.any_append,List.any_cons,List.any_nil,hs k x]
   cases hv.any (fun j=>cl k j) <;> cases cl x k <;> rfl
  rw[hf1,sumV_app,List.append_assoc]at h1
  rw[refB,h0,h1]
  have hfm: ∀{k:Nat},k∈more.filter (ncf cl hv)→k∈more:=fun{k} hk=>(List.mem_filter.1 hk).1
  generalize hF:more.filter (ncf cl hv)=F at *
  by_cases hfree:hv.any (cl x)=true
  ·rw[if_neg (by simp[hfree]),if_neg (by simp[hfree]),List.filter_cons,if_neg (by simp[ncf,hfree]),hF]
  ·have hfree':hv.any (cl x)=false:=by simpa using hfree
   rw[show List.filter (ncf cl hv) (x::more)=x::F by rw[List.filter_cons,if_pos (by simp[ncf,hfree']),hF],bestL_cons]
   have hsx:sumV v hv+sumV v [x]+(bestL cl v (F.filter fun k=> !cl x k)).1=sumV v hv+((bestL cl v (F.filter fun k=> !cl x k)).1+v x):=by simp only[sumV];omega
   have hw:hv++([x]++(bestL cl v (F.filter fun k=> !cl x k)).2)=hv++(x::(bestL cl v (F.filter fun k=> !cl x k)).2):=rfl
   rw[hsx,hw]
   by_cases hm:more.any (cl x)=true
   ·rw[if_neg (by simp[hm])]
    dsimp only
    by_cases hFx:F.any (cl x)=true
    ·by_cases hgt:(bestL cl v F).1 > (bestL cl v (F.filter fun k=> !cl x k)).1+v x
     ·rw[if_neg,if_pos ⟨hFx,hgt⟩]
      rintro⟨-,h|⟨h,-⟩⟩ <;> omega
     ·rw[if_pos,if_neg (fun h=>hgt h.2)]
      refine⟨by simp[hfree'],?_⟩
      by_cases heq:(bestL cl v F).1=(bestL cl v (F.filter fun k=> !cl x k)).1+v x
      ·refine .inr ⟨by omega,?_⟩
       rw[befN_app]
       cases hq:(bestL cl v F).2 with
       | nil =>
        have h1:=bestL_some cl v F hq
        exfalso
        have h2:0≤(bestL cl v (F.filter fun k=> !cl x k)).1:=bestL_nn cl v _ fun k hk=>Int.le_of_lt (hpm k (hfm (List.mem_filter.1 hk).1))
        omega
       | cons b r =>
        have hb:b∈F:=(bestL_sub cl v _ F (Nat.le_refl _)).subset (by rw[hq];exact List.mem_cons_self ..)
        have:=hp.1 b (hfm hb)
        rw[befN,if_pos (by omega),decide_eq_true_iff];exact this
      ·exact .inl (by omega)
    ·have hFx':F.any (cl x)=false:=by simpa using hFx
     have hfl:(F.filter fun k=> !cl x k)=F:=List.filter_eq_self.2 fun k hk=>by
      rw[List.any_eq_false]at hFx'
      simpa using hFx' k hk
     rw[hfl,if_pos ⟨by simp[hfree'], .inl (by omega)⟩,if_neg (fun h=>hFx h.1)]
   ·have hm':more.any (cl x)=false:=by simpa using hm
    have hFx':F.any (cl x)=false:=by
     rw[List.any_eq_false]at hm' ⊢
     exact fun k hk=>hm' k (hfm hk)
    rw[if_pos (by simp[hfree',hm']),if_neg (fun h=>by rw[hFx']at h;cases h.1)]
end Go.XL
namespace Go.XL
def Hold.pn (x:Hold):Nat:=x.pattern.toNat
theorem holdsGo_ok {many:Int}: ∀{l:List Hold} {last:Int},holdsGo many l last=0→(∀x∈l,0≤x.pattern∧x.pattern<many∧1≤x.times∧x.times≤1000)∧(∀x∈l,last<x.pattern)∧l.Pairwise fun x y=>x.pattern<y.pattern
 | [],_,_=>⟨fun _ h=>(by cases h),fun _ h=>(by cases h),List.Pairwise.nil⟩
 | x::l,last,h=>by
  rw[holdsGo]at h
  obtain⟨h1,h⟩:=ite0' (by decide) h
  obtain⟨h2,h⟩:=ite0' (by decide) h
  obtain⟨a,b,c⟩:=holdsGo_ok h
  refine⟨fun y hy=>?_,fun y hy=>?_,List.pairwise_cons.2 ⟨b,c⟩⟩
  ·rcases List.mem_cons.1 hy with rfl|hy
   ·exact Decidable.not_not.1 h1
   ·exact a y hy
  ·rcases List.mem_cons.1 hy with rfl|hy
   ·omega
   ·have:=b y hy;omega
theorem getDset {L:List Int} {j x:Nat} {v:Int} (hj:j<L.length):(L.set j v).getD x 0=if x=j then v else L.getD x 0:=by
 rw[List.getD_eq_getElem?_getD,List.getD_eq_getElem?_getD,List.getElem?_set]
 by_cases h:j=x
 ·subst h;simp[hj]
 ·rw[if_neg h,if_neg (fun e=>h e.symm)]
theorem valsGo_out {h:House} {o:Bool}: ∀(l:List Hold) (L:List Int) (j:Nat),(∀x∈l,x.pn≠j)→(valsGo h o l L).getD j 0=L.getD j 0
 | [],L,j,_=>rfl
 | x::l,L,j,hj=>by
  have hx:x.pattern.toNat≠j:=hj x (List.mem_cons_self ..)
  rw[valsGo,valsGo_out l _ j fun y hy=>hj y (List.mem_cons_of_mem _ hy),List.getD_eq_getElem?_getD,List.getElem?_set_ne hx,←List.getD_eq_getElem?_getD]
theorem valsGo_in {h:House} {o:Bool}: ∀(l:List Hold) (L:List Int),l.Pairwise (fun x y=>x.pattern<y.pattern)→(∀x∈l,0≤x.pattern∧x.pn<L.length)→ ∀x∈l,(valsGo h o l L).getD x.pn 0=x.times*worthS (h.pat x.pn) o
 | y::l,L,hp,hr,x,hx=>by
  have hp':=List.pairwise_cons.1 hp
  rw[valsGo]
  rcases List.mem_cons.1 hx with rfl|hx
  ·have h1:=hr x (List.mem_cons_self ..)
   rw[valsGo_out l _ _ fun z hz=>by
    have:=hp'.1 z hz
    have:=(hr z (List.mem_cons_of_mem _ hz)).1
    unfold Hold.pn;omega]
   exact(getDset h1.2).trans (if_pos rfl)
  ·exact valsGo_in l _ hp'.2 (fun z hz=>by have:=hr z (List.mem_cons_of_mem _ hz);simpa using this) x hx
def posH (h:House) (o:Bool) (l:List Hold):List Hold:=l.filter fun x=>decide (0<worthS (h.pat x.pn) o)
theorem bestL_congr {cl cl':Nat→Nat→Bool} (v:Nat→Int): ∀(n:Nat) (l:List Nat),l.length≤n→(∀i∈l,∀k∈l,cl i k=cl' i k)→bestL cl v l=bestL cl' v l
 | 0,l,hl,_=>by
  have:l= []:=List.eq_nil_of_length_eq_zero (by omega)
  subst this;rw[bestL_nil,bestL_nil]
 | n+1,[],_,_=>by rw[bestL_nil,bestL_nil]
 | n+1,i::l,hl,hc=>by
  have hl':l.length≤n:=by simpa using hl
  have hq:=List.length_filter_le (fun k=> !cl' i k) l
  have hm: ∀{k:Nat},k∈l→k∈i::l:=fun hk=>List.mem_cons_of_mem _ hk
  have e1:(l.filter fun k=> !cl i k)=l.filter fun k=> !cl' i k:=List.filter_congr fun k hk=>by rw[hc i (List.mem_cons_self ..) k (hm hk)]
  have e2:l.any (cl i)=l.any (cl' i):=by
   rw[Bool.eq_iff_iff,List.any_eq_true,List.any_eq_true]
   exact⟨fun⟨k,hk,h⟩=>⟨k,hk,by rw[←hc i (List.mem_cons_self ..) k (hm hk)];exact h⟩,fun⟨k,hk,h⟩=>⟨k,hk,by rw[hc i (List.mem_cons_self ..) k (hm hk)];exact h⟩⟩
  rw[bestL_cons,bestL_cons,e1,e2,bestL_congr v n l hl' fun a ha b hb=>hc a (hm ha) b (hm hb),bestL_congr v n (l.filter fun k=> !cl' i k) (by omega) fun a ha b hb=>hc a (hm (List.mem_filter.1 ha).1) b (hm (List.mem_filter.1 hb).1)]
theorem clash_symm (h:House) (i k:Nat):clashB h i k=clashB h k i:=by rw[clashB,clashB,Bool.or_comm]
theorem choose_ref {h:House} {holds:List Hold} {o:Bool} (hn:h.patterns.length≤64) (h0:holdsGo h.patterns.length holds (-1)=0) (hw: ∀i,i<h.patterns.length→0≤worthS (h.pat i) o) :
  refB (clashB h) (fun i=>(valsS h holds o).getD i 0) [] ((posH h o holds).map Hold.pn)=(bitsM (bestH h (valsS h holds o)).2,(bestH h (valsS h holds o)).1):=by
 obtain⟨a,b,c⟩:=holdsGo_ok h0
 have hLl:(List.replicate h.patterns.length (0:Int)).length=h.patterns.length:=by simp
 have hin:=valsGo_in (h:=h) (o:=o) holds (List.replicate h.patterns.length 0) c fun x hx=>⟨(a x hx).1,by have:=a x hx;rw[hLl];unfold Hold.pn;omega⟩
 have hout:=valsGo_out (h:=h) (o:=o) holds (List.replicate h.patterns.length 0)
 have hz: ∀j,(List.replicate h.patterns.length (0:Int)).getD j 0=0:=fun j=>by
  rw[List.getD_eq_getElem?_getD,List.getElem?_replicate]
  split <;> rfl
 have hLe:valsS h holds o=valsGo h o holds (List.replicate h.patterns.length 0):=rfl
 rw[←hLe]at hin hout
 generalize valsS h holds o=L at *
 have hmem: ∀j,j∈(posH h o holds).map Hold.pn↔j<h.patterns.length∧0<L.getD j 0:=by
  intro j
  rw[List.mem_map]
  constructor
  ·rintro⟨x,hx,rfl⟩
   obtain⟨hx1,hx2⟩:=List.mem_filter.1 hx
   have hx2:=of_decide_eq_true hx2
   have h1:=a x hx1
   refine⟨by unfold Hold.pn;omega,?_⟩
   rw[hin x hx1]
   exact Int.mul_pos (by omega) hx2
  ·rintro⟨h1,h2⟩
   by_cases he: ∃x∈holds,x.pn=j
   ·obtain⟨x,hx,rfl⟩:=he
    refine⟨x,List.mem_filter.2 ⟨hx,decide_eq_true ?_⟩,rfl⟩
    rw[hin x hx]at h2
    have h3:=hw x.pn h1
    rcases Int.lt_or_eq_of_le h3 with h4|h4
    ·exact h4
    ·rw[←h4]at h2;simp at h2
   ·rw[hout j fun x hx e=>he ⟨x,hx,e⟩,hz]at h2
    omega
 have hasc:((posH h o holds).map Hold.pn).Pairwise (· < ·):=by
  rw[List.pairwise_map]
  refine((c.filter _).imp_of_mem fun hx hy hxy=>?_)
  have h1:=a _ (List.mem_filter.1 hx).1
  have h2:=a _ (List.mem_filter.1 hy).1
  unfold Hold.pn;omega
 have hbits:bitsM (allK L h.patterns.length)=(posH h o holds).map Hold.pn:=by
  have e:=filter_mem 64 0 ((posH h o holds).map Hold.pn) hasc fun i hi=>by
   have:=((hmem i).1 hi).1
   omega
  rw[←List.range_eq_range']at e
  rw[bitsM,←e]
  refine List.filter_congr fun j _=>?_
  rw[allK_bit,decide_eq_decide,hmem]
 have hpos: ∀k∈(posH h o holds).map Hold.pn,0<L.getD k 0:=fun k hk=>((hmem k).1 hk).2
 rw[refB_eq (clashB h) _ (clash_symm h) _ [] hasc hpos,show ∀l:List Nat,l.filter (ncf (clashB h) [])=l from fun l=>List.filter_eq_self.2 fun k _=>rfl,List.nil_append,sumV,Int.zero_add]
 have h64: ∀k∈(posH h o holds).map Hold.pn,k<64:=fun k hk=>by have:=((hmem k).1 hk).1;omega
 have hcg:=bestL_congr (cl:=clashB h) (cl':=fun i k=>(clM h i).testBit k) (fun i=>L.getD i 0) _ ((posH h o holds).map Hold.pn) (Nat.le_refl _) fun i _ k hk=>by
  rw[clM_bit,decide_eq_true (h64 k hk),Bool.true_and]
 rw[bestH,bestM,hbits,←hcg]
 have hsub:=bestL_sub (clashB h) (fun i=>L.getD i 0) _ ((posH h o holds).map Hold.pn) (Nat.le_refl _)
 rw[bits_mask (hasc.sublist hsub) fun i hi=>h64 i (hsub.subset hi)]
end Go.XL
namespace Go.XL
open Go.Proofs
set_option maxRecDepth 100000
set_option maxHeartbeats 8000000
theorem r5clash_pc (h:House) (a b:Nat) (ha:a<h.patterns.length) (hb:b<h.patterns.length):PC Tryz.prog 120 [h.val,I a,I b] (Bo (clashB h a b)):=by
 have e1:=r1has_pc h.patterns[a].excl b
 have e2:=r1has_pc h.patterns[a].impl b
 have e3:=r1has_pc h.patterns[b].excl a
 have e4:=r1has_pc h.patterns[b].impl a
 have he:clashB h a b=(h.patterns[a].excl.contains (b:Int) || h.patterns[a].impl.contains (b:Int) || h.patterns[b].excl.contains (a:Int) || h.patterns[b].impl.contains (a:Int)):=by
  rw[clashB,House.oth,House.oth,pat_at ha,pat_at hb,Bool.eq_iff_iff]
  simp[or_assoc]
 rw[he]
 clear he
 generalize h.patterns[a].excl.contains (b:Int)=t1 at *
 generalize h.patterns[a].impl.contains (b:Int)=t2 at *
 generalize h.patterns[b].excl.contains (a:Int)=t3 at *
 generalize h.patterns[b].impl.contains (a:Int)=t4 at *
 refine DC.of_run Tryz.func120 rfl Tryz.ntmps120 Tryz.results120 (by simp) (fun _ _=>?_);simp only[argV_cons,argV_nil,go_sem,Nat.zero_add,Nat.reduceAdd]
 repeat' (first|(with_reducible first|refine DS.fltS yU yU yE ?_|refine DS.opsNil ?_|refine DS.seq ?_|refine DS.regionL ?_)|(refine DS.boxF (t:=3) yU yE yU ?_;simp only[cells_agg,cells_v,cells_lst,cells_fn,map_nil'',map_cons'',copy_own,copy_lst,copy_v,copy_at,copy_agg,copy_fn,copy_ifc,copy_tup])|refine DS.drawL (id:=1) [0,1,2,3,4,5,6,7,8,9,10,11,12] 13 (by kernel_rfl) mixed (by simp only[pickL_cons,pickL_nil,get_zero',get_cons',pickO_some];exact rfl) (by simp only[drop_zero',drop_cons',List.drop_nil];exact rfl) ?_|with_reducible refine DD.fltS yU yU yU yE ?_|fail)
 refine DD.alloc yR yU yU (fun u1 a1 a1'=>?_)
 refine DD.alloc yR yU yU (fun u2 a2 a2'=>?_)
 have n1: ¬u1=u2:=fun e=>by rw[lookS_cons,if_pos e]at a2;cases a2
 have n2: ¬u2=u1:=fun e=>n1 e.symm
 clear a1 a1' a2 a2'
 refine DD.store (b:=u1) (off:=0) (m:=6) (T':=57) yR yH yG yU (by simp only[lookS_cons,n1,n2,↓reduceIte];rfl) yR ⟨by rfl,by decide⟩ (fun _=>MpOk.nil) ?_
 simp only[setS,n1,n2,↓reduceIte,List.map_cons,List.map_nil,setAll_cons,setAll_nil,set_cons',set_zero',Nat.reduceAdd,Nat.zero_add]
 refine DD.nil ?_
 simp only[List.append_nil]
 repeat' (first|(with_reducible first|refine DS.fltS yU yU yE ?_|refine DS.opsNil ?_|refine DS.seq ?_|refine DS.regionL ?_|(refine DS.gE yU yE ?_;first|refine GG.run ?_|refine GG.sT ?_|refine GG.bF (fun _=>?_) (fun _=>?_)))|refine DS.pcS inferInstance (e1) yR yF ?_|refine DS.pcS inferInstance (e2) yR yF ?_|refine DS.pcS inferInstance (e3) yR yF ?_|refine DS.pcS inferInstance (e4) yR yF ?_|(refine DS.store yR yE yE yE yE yU (by exact⟨by with_unfolding_all rfl,by(try simp only[List.length_map,List.length_append,List.length_set,List.length_replicate,List.length_cons,List.length_nil]);omega⟩) ?_;simp only[putV_none,setAll_cons,setAll_nil,scells_v,scells_own,scells_lst,scells_agg];try simp only[strip_tmp,strip_const,lookV_cons,Nat.reduceEqDiff,↓reduceIte,stripO_own,stripO_lst,stripO_v,stripO_plc,stripO_agg,stripO_fn,stripO_ifc])|refine DS.retT [] yE trivial ?_|fail)
 all_goals (clear e1 e2 e3 e4;simp[tupV, *])
def clsS (h:House) (a:Nat) (l:List Hold):Bool:=l.any fun x=>decide (x.pattern≠(a:Int))&&clashB h a x.pn
theorem clsS_at {h:House} {a:Nat} {l:List Hold} {i:Nat} (hi:i<l.length):clsS h a (l.drop i)=((decide (l[i].pattern≠(a:Int))&&clashB h a l[i].pn) || clsS h a (l.drop (i+1))):=by
 rw[List.drop_eq_getElem_cons hi,clsS,List.any_cons];rfl
theorem r5clashes_pc (h:House) (a:Nat) (l:List Hold) (ha:a<h.patterns.length) (hl: ∀x∈l,0≤x.pattern∧x.pattern<(h.patterns.length:Int)):PC Tryz.prog 78 [h.val,I a,holdsV l] (Bo (clsS h a l)):=by
 refine DC.of_run Tryz.func78 rfl Tryz.ntmps78 Tryz.results78 (by simp) (fun _ _=>?_);simp only[argV_cons,argV_nil,go_sem,Nat.zero_add,Nat.reduceAdd]
 refine DS.bnd (t:=2) yG (.inl rfl) (fun hb2=>?_);simp only[List.length_map]at hb2
 repeat' (first|(with_reducible first|refine DS.fltS yU yU yE ?_|refine DS.opsNil ?_|refine DS.seq ?_|refine DS.regionL ?_|refine DS.block ?_)|(refine DS.boxF (t:=3) yU yE yU ?_;simp only[cells_agg,cells_v,cells_lst,cells_fn,map_nil'',map_cons'',copy_own,copy_lst,copy_v,copy_at,copy_agg,copy_fn,copy_ifc,copy_tup])|fail)
 refine DS.loopK [1,2,3] yN (fun(i:Nat)=> [(7,I i)]) (fun(i:Nat)=>i≤l.length∧clsS h a l=clsS h a (l.drop i)) (fun(i:Nat)=>l.length-i) 0 yS ⟨Nat.zero_le _,rfl⟩ (fun i B hI hB=>?_);try dsimp only at hI hB;simp only[app_cons',app_nil']
 have HB:=Box.mk hB
 clear hB
 obtain⟨i1,i2⟩:=hI
 by_cases hi:(i:Int)<(l.length:Int)
 ·have hi':i<l.length:=by omega
  rw[clsS_at hi']at i2
  have hr:=hl _ (List.getElem_mem hi')
  have hc:=r5clash_pc h a l[i].pn ha (by unfold Hold.pn;omega)
  have hpn:((l[i].pn:Nat):Int)=l[i].pattern:=by unfold Hold.pn;omega
  rw[hpn]at hc
  by_cases he:l[i].pattern=(a:Int)
  ·have he':=eq_true he
   rw[decide_eq_false (by simpa using he),Bool.false_and,Bool.false_or]at i2
   have HI:=Box.mk (And.intro i2 hl)
   clear i2 hl he
   repeat' (first|(with_reducible first|refine DS.fltS yU yU yE ?_|refine DS.opsNil ?_|refine DS.seq ?_|refine DS.regionL ?_|(refine DS.cE yE ?_;first|refine CG.yes ?_|refine CG.no ?_)|(refine DS.gE yU yE ?_;refine GG.sF ?_)|refine DS.blk ?_|refine DS.block ?_|refine DS.skip ?_)|refine DS.drawL (id:=4) [0,1,2,3,4,5,6,7,8,9,10,11,12,13,14] 15 (by kernel_rfl) mixed (by simp only[pickL_cons,pickL_nil,get_zero',get_cons',pickO_some];exact rfl) (by simp only[drop_zero',drop_cons',List.drop_nil];exact rfl) ?_|(with_reducible first|refine DD.fltS yU yU yU yE ?_|(refine DD.gE yU yE ?_;refine DGG.sF ?_)|refine DD.nil0 ?_)|fail)
   all_goals first
    | exact DS.back (HB.out (i+1) _ _ (by omega) ⟨by omega,HI.out.1⟩ yS yS (fun b o e=>by cases e))
    | (exfalso;omega)
  ·have he':=eq_false he
   rw[decide_eq_true (by simpa using he),Bool.true_and]at i2
   generalize clashB h a l[i].pn=t at *
   cases t with
   | true =>
    rw[Bool.true_or]at i2
    rw[i2]
    clear i2 hl he HB
    repeat' (first|(with_reducible first|refine DS.fltS yU yU yE ?_|refine DS.opsNil ?_|refine DS.seq ?_|refine DS.regionL ?_|(refine DS.cE yE ?_;refine CG.yes ?_)|(refine DS.gE yU yE ?_;refine GG.run ?_)|refine DS.block ?_|refine DS.skip ?_)|refine DS.pcS inferInstance (hc) yR yT ?_|refine DS.drawL (id:=4) [0,1,2,3,4,5,6,7,8,9,10,11,12,13,14] 15 (by kernel_rfl) mixed (by simp only[pickL_cons,pickL_nil,get_zero',get_cons',pickO_some];exact rfl) (by simp only[drop_zero',drop_cons',List.drop_nil];exact rfl) ?_|(with_reducible first|refine DD.fltS yU yU yU yE ?_|(refine DD.gE yU yE ?_;refine DGG.run ?_)|refine DD.nil0 ?_)|refine DS.retT [] yE trivial ?_|fail)
    all_goals first|rfl|(exfalso;omega)
   | false =>
    rw[Bool.false_or]at i2
    have HI:=Box.mk (And.intro i2 hl)
    clear i2 hl he
    repeat' (first|(with_reducible first|refine DS.fltS yU yU yE ?_|refine DS.opsNil ?_|refine DS.seq ?_|refine DS.regionL ?_|(refine DS.cE yE ?_;first|refine CG.yes ?_|refine CG.no ?_)|(refine DS.gE yU yE ?_;refine GG.run ?_)|refine DS.blk ?_|refine DS.block ?_|refine DS.skip ?_)|refine DS.pcS inferInstance (hc) yR yT ?_|refine DS.drawL (id:=4) [0,1,2,3,4,5,6,7,8,9,10,11,12,13,14] 15 (by kernel_rfl) mixed (by simp only[pickL_cons,pickL_nil,get_zero',get_cons',pickO_some];exact rfl) (by simp only[drop_zero',drop_cons',List.drop_nil];exact rfl) ?_|(with_reducible first|refine DD.fltS yU yU yU yE ?_|(refine DD.gE yU yE ?_;refine DGG.run ?_)|refine DD.nil0 ?_)|fail)
    all_goals first
     | exact DS.back (HB.out (i+1) _ _ (by omega) ⟨by omega,HI.out.1⟩ yS yS (fun b o e=>by cases e))
     | (exfalso;omega)
 ·rw[i2,drop_end hi]
  clear i2 HB hl
  repeat' (first|(with_reducible first|refine DS.fltS yU yU yE ?_|refine DS.opsNil ?_|refine DS.seq ?_|refine DS.regionL ?_|(refine DS.cE yE ?_;refine CG.no ?_)|refine DS.exit yU ?_)|refine DS.retT [] yE trivial ?_|fail)
  all_goals first|rfl|(exfalso;omega)
end Go.XL
namespace Go.XL
open Go.Proofs
set_option maxRecDepth 100000
set_option maxHeartbeats 8000000
structure HoldsOk (h:House) (v:Nat→Int) (o:Bool) (l:List Hold):Prop where
 inn: ∀x∈l,0≤x.pattern∧x.pattern<(h.patterns.length:Int)
 times: ∀x∈l,1≤x.times∧x.times≤1000
 val: ∀x∈l,x.times*worthS (h.pat x.pn) o=v x.pn
 bd: ∀x∈l,0≤v x.pn∧v x.pn≤1000000
 len:l.length≤40
theorem befN_I : ∀(a b:List Nat),befI (a.map natI) (b.map natI)=befN a b
 | [],[]=>rfl
 | [],_::_=>rfl
 | _::_,[]=>rfl
 | a::l,b::m=>by
  rw[List.map_cons,List.map_cons,befI,befN,befN_I l m]
  have h1:(natI a≠natI b)↔a≠b:=by unfold natI;omega
  have h2:(natI a<natI b)↔a<b:=by unfold natI;omega
  by_cases h:a=b
  ·rw[if_neg (fun e=>(h1.1 e) h),if_neg (fun e=>e h)]
  ·rw[if_pos (h1.2 h),if_pos h,decide_eq_decide];exact h2
theorem sumV_take {v:Nat→Int} {l:List Hold} {i:Nat} (hi:i<l.length):sumV v ((l.take (i+1)).map Hold.pn)=sumV v ((l.take i).map Hold.pn)+v l[i].pn:=by
 rw[List.take_succ_eq_append_getElem hi,List.map_append,sumV_app];simp[sumV]
theorem sumV_bd {v:Nat→Int}: ∀{l:List Nat},(∀k∈l,0≤v k∧v k≤1000000)→0≤sumV v l∧sumV v l≤l.length*1000000
 | [],_=>by simp[sumV]
 | a::l,h=>by
  have h1:=h a (List.mem_cons_self ..)
  have h2:=sumV_bd fun x hx=>h x (List.mem_cons_of_mem _ hx)
  rw[sumV,List.length_cons];omega
theorem yX4 {p:Prop} (h:p:=by first|exact rfl|(simp (disch:=omega) only[go_sem,dopV,yV0,↓reduceIte,Nat.reduceEqDiff,Nat.reduceLT,Nat.reduceLeDiff,Nat.reduceAdd,Nat.reduceMul,Nat.reduceSub,Int.reduceToNat,Int.reduceLT,Int.reduceLE,Int.reduceEq,IntWalk.toNatUp,IntWalk.iteOmega,IntWalk.i64_in,V.flat,V.one, *];exact rfl)):p:=h
theorem r5sum_pc (h:House) (hv:List Hold) (v:Nat→Int) (o:Bool) (hok:HoldsOk h v o hv):PC Tryz.prog 41 [h.val,holdsV hv,holdsV [],Bo o] (.tup [ints ((hv.map Hold.pn).map natI),I (sumV v (hv.map Hold.pn))]):=by
 have hlen:=hok.len
 refine DC.of_run Tryz.func41 rfl Tryz.ntmps41 Tryz.results41 (by simp) (fun _ _=>?_);simp only[argV_cons,argV_nil,go_sem,Nat.zero_add,Nat.reduceAdd]
 repeat' (first|(with_reducible first|(refine DS.nilOwn (t:=8) yU yO yE ?_)|(refine DS.nilOwn (t:=10) yU yO yE ?_)|refine DS.fltS yU yU yE ?_|refine DS.opsNil ?_|refine DS.seq ?_|refine DS.regionL ?_|(refine DS.cE yE ?_;refine CG.yes ?_)|refine DS.block ?_)|(refine DS.boxF (t:=4) yU yE yU ?_;simp only[cells_agg,cells_v,cells_lst,cells_fn,map_nil'',map_cons'',copy_own,copy_lst,copy_v,copy_at,copy_agg,copy_fn,copy_ifc,copy_tup])|fail)
 refine DS.loopK [1,3,4] yN (fun(y:Nat×Int)=> [(10, .own false 3 1 ((((hv.take y.1).map Hold.pn).map natI).map cI)),(11,I y.2),(12,I y.1)]) (fun(y:Nat×Int)=>y.1≤hv.length∧y.2=sumV v ((hv.take y.1).map Hold.pn)) (fun(y:Nat×Int)=>hv.length-y.1) (0,0) yS ⟨Nat.zero_le _,rfl⟩ (fun y B hI hB=>?_);try dsimp only at hI hB;simp only[app_cons',app_nil']
 have HB:=Box.mk hB
 clear hB
 obtain⟨i,sm⟩:=y
 dsimp only at hI ⊢
 obtain⟨i1,i2⟩:=hI
 by_cases hi:(i:Int)<(hv.length:Int)
 ·have hi':i<hv.length:=by omega
  have hm:=List.getElem_mem hi'
  have hin:=hok.inn _ hm
  have htm:=hok.times _ hm
  have hvl:=hok.val _ hm
  have hbd:=hok.bd _ hm
  have hs:=sumV_bd (v:=v) (l:=(hv.take i).map Hold.pn) fun k hk=>by
   obtain⟨x,hx,rfl⟩:=List.mem_map.1 hk
   exact hok.bd x (List.mem_of_mem_take hx)
  rw[←i2]at hs
  have hl2:((hv.take i).map Hold.pn).length≤40:=by rw[List.length_map];exact Nat.le_trans (List.length_take_le ..) (by omega)
  have hs2:0≤sm∧sm≤40000000:=by omega
  clear hs hl2
  have hpl:hv[i].pn<h.patterns.length:=by unfold Hold.pn;omega
  rw[pat_at hpl]at hvl
  have hw:=r5worth_pc h.patterns[hv[i].pn] o
  have htn:hv[i].pattern.toNat=hv[i].pn:=rfl
  have hnx:=sumV_take (v:=v) hi'
  rw[←i2]at hnx
  have hls:((((hv.take (i+1)).map Hold.pn).map natI).map cI)=((((hv.take i).map Hold.pn).map natI).map cI)++ [[I hv[i].pattern]]:=by
   have hpi:natI hv[i].pn=hv[i].pattern:=by unfold natI Hold.pn;omega
   rw[List.take_succ_eq_append_getElem hi',List.map_append,List.map_append,List.map_append,List.map_singleton,List.map_singleton,List.map_singleton,hpi]
   rfl
  have HN:=Box.mk (And.intro hnx (And.intro hok hls))
  clear hnx hok i2 hm hls
  repeat' (first|(with_reducible refine DS.mv (t:=10) yU yO yE ?_;simp only[strip_tmp,strip_const,lookV_cons,Nat.reduceEqDiff,↓reduceIte,stripO_own,stripO_lst,stripO_v,stripO_plc,stripO_agg,stripO_fn,stripO_ifc])|(with_reducible refine DS.mv (t:=30) yU yO yE ?_;simp only[strip_tmp,strip_const,lookV_cons,Nat.reduceEqDiff,↓reduceIte,stripO_own,stripO_lst,stripO_v,stripO_plc,stripO_agg,stripO_fn,stripO_ifc])|(with_reducible first|refine DS.fltS yU yU yE ?_|refine DS.opsNil ?_|refine DS.seq ?_|refine DS.regionL ?_|(refine DS.cE yE ?_;refine CG.yes ?_)|refine DS.blk ?_|refine DS.block ?_|refine DS.skip ?_)|(refine DS.bsl yU yE yE ?_;simp only[go_sem,Nat.zero_add,Nat.reduceAdd])|(refine DS.append (mm:=false) yU yE yE yU (by decide) yE (by first|exact .inl rfl|exact .inr ⟨rfl,rfl⟩) yE yX4 (by first|exact len_map cI_len _|exact len_map cR_len _|exact len_map Member.len _|exact len_map Sitting.len _|exact len_map Ruling.len _|exact len_map Hold.len _|exact len_map Node.len _|exact len_map Form.len _|exact len_map Pattern.len _|(simp only[List.mem_cons,List.not_mem_nil,or_false,forall_eq];rfl)|simp) ⟨by(try simp only[List.length_map,List.length_cons,List.length_nil,List.length_append,List.length_take,List.length_drop]);omega,by decide⟩ ?_;simp only[strip_tmp,strip_const,lookV_cons,Nat.reduceEqDiff,↓reduceIte,stripO_own,stripO_lst,stripO_v,stripO_plc,stripO_agg,stripO_fn,stripO_ifc])|refine DS.drawL (id:=8) [0,1,2,3,4,5,6,7,8,9,10,11,12,13,14,15,16,17] 18 (by kernel_rfl) mixed (by simp only[pickL_cons,pickL_nil,get_zero',get_cons',pickO_some];exact rfl) (by simp only[drop_zero',drop_cons',List.drop_nil];exact rfl) ?_|(with_reducible first|refine DD.fltS yU yU yU yE ?_|refine DD.nil0 ?_)|refine DD.pcV0 inferInstance (hw) yU yT ?_|fail)
  all_goals first
   | (exfalso;omega)
   | exact DS.back (HB.out (i+1,sm+v hv[i].pn) _ _ (by dsimp only;omega) ⟨by dsimp only;omega,HN.out.1.symm⟩ (by dsimp only;rw[HN.out.2.2];simp (disch:=omega) only[go_sem,dopV,yV0,↓reduceIte,Nat.reduceEqDiff,Nat.reduceLT,Nat.reduceLeDiff,Nat.reduceAdd,Nat.reduceMul,Nat.reduceSub,Int.reduceToNat,Int.reduceLT,Int.reduceLE,Int.reduceEq,IntWalk.toNatUp,IntWalk.iteOmega,IntWalk.i64_in,V.flat,V.one,subV_cons,subV_nil,subS_cons,subS_nil,and_self,Int.natCast_add,Int.natCast_one,Int.natCast_zero,Int.zero_add,Int.reduceAdd,List.map_append,ints,rows, *]) yS (fun b o e=>by cases e))
 ·have e:hv.take i=hv:=List.take_of_length_le (by omega)
  rw[e]at i2 ⊢
  rw[←i2]
  clear HB hok i2
  repeat' (first|(with_reducible refine DS.mv (t:=8) yU yO yE ?_;simp only[strip_tmp,strip_const,lookV_cons,Nat.reduceEqDiff,↓reduceIte,stripO_own,stripO_lst,stripO_v,stripO_plc,stripO_agg,stripO_fn,stripO_ifc])|(with_reducible refine DS.mv (t:=57) yU yO yE ?_;simp only[strip_tmp,strip_const,lookV_cons,Nat.reduceEqDiff,↓reduceIte,stripO_own,stripO_lst,stripO_v,stripO_plc,stripO_agg,stripO_fn,stripO_ifc])|(with_reducible first|refine DS.fltS yU yU yE ?_|refine DS.opsNil ?_|refine DS.seq ?_|refine DS.regionL ?_|(refine DS.cE yE ?_;refine CG.no ?_)|refine DS.exit yU ?_)|refine DS.retT [] yE trivial ?_|fail)
  all_goals first|rfl|(exfalso;omega)
end Go.XL
namespace Go.XL
open Go.Proofs
set_option maxRecDepth 100000
set_option maxHeartbeats 8000000
theorem clsS_eq {h:House} {a:Nat} {l:List Hold} (hl: ∀x∈l,0≤x.pattern∧x.pattern≠(a:Int)):clsS h a l=(l.map Hold.pn).any (clashB h a):=by
 induction l with
 | nil=>rfl
 | cons x l ih =>
  have h1:=ih fun y hy=>hl y (List.mem_cons_of_mem _ hy)
  have h2:=hl x (List.mem_cons_self ..)
  rw[clsS]at h1 ⊢
  rw[List.any_cons,List.map_cons,List.any_cons,h1,decide_eq_true h2.2,Bool.true_and]
theorem HoldsOk.mono {h:House} {v:Nat→Int} {o:Bool} {l l':List Hold} (hok:HoldsOk h v o l) (hs: ∀x∈l',x∈l) (hl:l'.length≤40):HoldsOk h v o l' :=
 ⟨fun x hx=>hok.1 x (hs x hx),fun x hx=>hok.2 x (hs x hx),fun x hx=>hok.3 x (hs x hx),fun x hx=>hok.4 x (hs x hx),hl⟩
theorem refB_facts (cl:Nat→Nat→Bool) (v:Nat→Int) (hv:List Nat) (x:Nat) (more:List Nat) :
  (hv.any (cl x)=false→more.any (cl x)=false→refB cl v hv (x::more)=refB cl v (hv++ [x]) more) ∧
  (hv.any (cl x)=true→refB cl v hv (x::more)=refB cl v hv more) ∧
  (hv.any (cl x)=false→more.any (cl x)=true→(refB cl v hv more).2<(refB cl v (hv++ [x]) more).2→refB cl v hv (x::more)=refB cl v (hv++ [x]) more) ∧
  (hv.any (cl x)=false→more.any (cl x)=true→(refB cl v (hv++ [x]) more).2=(refB cl v hv more).2→befN (refB cl v (hv++ [x]) more).1 (refB cl v hv more).1=true→refB cl v hv (x::more)=refB cl v (hv++ [x]) more) ∧
  (hv.any (cl x)=false→more.any (cl x)=true→(refB cl v (hv++ [x]) more).2=(refB cl v hv more).2→befN (refB cl v (hv++ [x]) more).1 (refB cl v hv more).1=false→refB cl v hv (x::more)=refB cl v hv more) ∧
  (hv.any (cl x)=false→more.any (cl x)=true→ ¬(refB cl v hv more).2<(refB cl v (hv++ [x]) more).2→ ¬(refB cl v (hv++ [x]) more).2=(refB cl v hv more).2→refB cl v hv (x::more)=refB cl v hv more):=by
 rw[refB]
 generalize refB cl v (hv++ [x]) more=A
 generalize refB cl v hv more=B
 generalize hv.any (cl x)=t1
 generalize more.any (cl x)=t2
 refine⟨fun h1 h2=>?_,fun h1=>?_,fun h1 h2 h3=>?_,fun h1 h2 h3 h4=>?_,fun h1 h2 h3 h4=>?_,fun h1 h2 h3 h4=>?_⟩
 ·rw[if_pos (by simp[h1,h2])]
 ·rw[if_neg (by simp[h1]),if_neg (by simp[h1])]
 ·rw[if_neg (by simp[h1,h2]),if_pos ⟨by simp[h1], .inl h3⟩]
 ·rw[if_neg (by simp[h1,h2]),if_pos ⟨by simp[h1], .inr ⟨h3.symm,h4⟩⟩]
 ·rw[if_neg (by simp[h1,h2]),if_neg]
  rintro⟨-,h|⟨-,h⟩⟩
  ·omega
  ·rw[h4]at h;cases h
 ·rw[if_neg (by simp[h1,h2]),if_neg]
  rintro⟨-,h|⟨h,-⟩⟩ <;> omega
theorem yX5 {p:Prop} (h:p:=by(simp (disch:=omega) only[go_sem,dopV,yV0,↓reduceIte,Nat.reduceEqDiff,Nat.reduceLT,Nat.reduceLeDiff,Nat.reduceAdd,Nat.reduceMul,Nat.reduceSub,Int.reduceToNat,Int.reduceLT,Int.reduceLE,Int.reduceEq,IntWalk.toNatUp,IntWalk.iteOmega,IntWalk.i64_in,V.flat,V.one, *,List.forall_mem_cons,List.forall_mem_map,implies_true,Hold.len,List.length_cons,List.length_nil,List.drop_succ_cons,List.drop_zero];exact rfl)):p:=h
theorem r5best_pc (h : House) (v : Nat → Int) (o : Bool) : ∀ (rest hv : List Hold), HoldsOk h v o (hv ++ rest) → (hv ++ rest).Pairwise (fun x y => x.pattern < y.pattern) →
    PC Tryz.prog 41 [h.val, holdsV hv, holdsV rest, Bo o] (.tup [ints ((refB (clashB h) v (hv.map Hold.pn) (rest.map Hold.pn)).1.map natI), I (refB (clashB h) v (hv.map Hold.pn) (rest.map Hold.pn)).2])
  | [], hv, hok, _ => by
    rw [List.append_nil] at hok
    exact r5sum_pc h hv v o hok
  | x :: more, hv, hok, hp => by
    have happ : (hv ++ [x]) ++ more = hv ++ x :: more := by rw [List.append_assoc]; rfl
    have hlen := hok.len
    rw [List.length_append, List.length_cons] at hlen
    have ihA := r5best_pc h v o more (hv ++ [x]) (by rw [happ]; exact hok) (by rw [happ]; exact hp)
    have hsub : (hv ++ more).Sublist (hv ++ x :: more) := List.Sublist.append (List.Sublist.refl _) (List.sublist_cons_self _ _)
    have ihB := r5best_pc h v o more hv (hok.mono (fun y hy => hsub.subset hy) (by rw [List.length_append]; omega)) (hp.sublist hsub)
    have hx := hok.inn x (by simp)
    have hpx : x.pn < h.patterns.length := by unfold Hold.pn; omega
    have hI : ((x.pn : Nat) : Int) = x.pattern := by unfold Hold.pn; omega
    have c1 := r5clashes_pc h x.pn hv hpx fun y hy => hok.inn y (by simp [hy])
    have c2 := r5clashes_pc h x.pn more hpx fun y hy => hok.inn y (by simp [hy])
    have hpp := List.pairwise_append.1 hp
    rw [clsS_eq fun y hy => ⟨(hok.inn y (by simp [hy])).1, by rw [hI]; have := hpp.2.2 y hy x (List.mem_cons_self ..); omega⟩] at c1
    rw [clsS_eq fun y hy => ⟨(hok.inn y (by simp [hy])).1, by rw [hI]; have := (List.pairwise_cons.1 hpp.2.1).1 y hy; omega⟩] at c2
    rw [hI] at c1 c2
    rw [List.map_cons]
    have hR := refB_facts (clashB h) v (hv.map Hold.pn) x.pn (more.map Hold.pn)
    generalize refB (clashB h) v (hv.map Hold.pn) (x.pn :: more.map Hold.pn) = R at *
    have hA : (hv ++ [x]).map Hold.cells = hv.map Hold.cells ++ [[I x.pattern, I x.times]] := by rw [List.map_append]; rfl
    have hA2 : (hv ++ [x]).map Hold.pn = hv.map Hold.pn ++ [x.pn] := by rw [List.map_append]; rfl
    rw [hA2] at ihA
    rw [show holdsV (hv ++ [x]) = .lst (hv.map Hold.cells ++ [[I x.pattern, I x.times]]) from congrArg V.lst hA] at ihA
    clear hA hA2
    generalize (hv.map Hold.pn).any (clashB h x.pn) = t1 at *
    generalize (more.map Hold.pn).any (clashB h x.pn) = t2 at *
    have hbf := r5before_pc ((refB (clashB h) v (hv.map Hold.pn ++ [x.pn]) (more.map Hold.pn)).1.map natI) ((refB (clashB h) v (hv.map Hold.pn) (more.map Hold.pn)).1.map natI)
    rw [befN_I] at hbf
    generalize refB (clashB h) v (hv.map Hold.pn ++ [x.pn]) (more.map Hold.pn) = RA at *
    generalize refB (clashB h) v (hv.map Hold.pn) (more.map Hold.pn) = RB at *
    generalize befN RA.1 RB.1 = bf at *
    obtain ⟨a1, a2⟩ := RA
    obtain ⟨b1, b2⟩ := RB
    dsimp only at ihA ihB hbf hR ⊢
    clear hok hp hpp hsub happ hx hpx hI
    have HR := Box.mk hR
    clear hR
    have htk : (List.map Hold.cells more).take more.length = List.map Hold.cells more := List.take_of_length_le (by simp)
    refine DC.of_run Tryz.func41 rfl Tryz.ntmps41 Tryz.results41 (by simp) (fun _ _ => ?_); simp only [argV_cons, argV_nil, go_sem, Nat.zero_add, Nat.reduceAdd]
    repeat' (first | (with_reducible first | (refine DS.nilOwn (t := 8) yU yO yX5 ?_) | (refine DS.nilOwn (t := 10) yU yO yX5 ?_) | refine DS.fltS yU yU yX5 ?_ | refine DS.opsNil ?_ | refine DS.seq ?_ | refine DS.regionL ?_ | (refine DS.cE yX5 ?_; refine CG.p (fun _ => ?_) (fun _ => ?_)) | refine DS.block ?_ | refine DS.skip ?_) | (refine DS.boxF (t := 4) yU yX5 yU ?_; simp only [cells_agg, cells_v, cells_lst, cells_fn, map_nil'', map_cons'', copy_own, copy_lst, copy_v, copy_at, copy_agg, copy_fn, copy_ifc, copy_tup]) | refine DS.drawL (id := 10) [0, 1, 2, 3, 4, 5, 6] 7 (by kernel_rfl) mixed (by simp only [pickL_cons, pickL_nil, get_zero', get_cons', pickO_some]; exact rfl) (by simp only [drop_zero', drop_cons', List.drop_nil]; exact rfl) ?_ | with_reducible refine DD.fltS yU yU yU yX5 ?_ | fail)
    all_goals try (exfalso; omega)
    refine DD.alloc yR yU yU (fun u1 a1' a2' => ?_)
    clear a1' a2'
    refine DD.store (b := u1) (off := 0) (m := 2) (T' := 59) yR yH yG yU (by simp only [lookS_cons, ↓reduceIte]; rfl) yR ⟨by rfl, by decide⟩ (fun _ => MpOk.nil) ?_
    simp only [setS, ↓reduceIte, List.map_cons, List.map_nil, setAll_cons, setAll_nil, set_cons', set_zero', Nat.reduceAdd, Nat.zero_add]
    refine DD.nil ?_
    simp only [List.append_nil]
    refine DS.freezeP (t := 13) yE yE ?_; simp only [delS_cons, delS_nil, ↓reduceIte, *, map_nil'', map_cons'', copy_own, copy_lst, copy_v, copy_at, copy_agg, copy_fn]
    repeat' (first | (with_reducible refine DS.mv (t := 8) yU yO yE ?_; simp only [strip_tmp, strip_const, lookV_cons, Nat.reduceEqDiff, ↓reduceIte, stripO_own, stripO_lst, stripO_v, stripO_plc, stripO_agg, stripO_fn, stripO_ifc]) | (with_reducible refine DS.mv (t := 17) yU yO yE ?_; simp only [strip_tmp, strip_const, lookV_cons, Nat.reduceEqDiff, ↓reduceIte, stripO_own, stripO_lst, stripO_v, stripO_plc, stripO_agg, stripO_fn, stripO_ifc]) | (with_reducible refine DS.mv (t := 19) yU yO yE ?_; simp only [strip_tmp, strip_const, lookV_cons, Nat.reduceEqDiff, ↓reduceIte, stripO_own, stripO_lst, stripO_v, stripO_plc, stripO_agg, stripO_fn, stripO_ifc]) | (with_reducible refine DS.mv (t := 122) yU yO yE ?_; simp only [strip_tmp, strip_const, lookV_cons, Nat.reduceEqDiff, ↓reduceIte, stripO_own, stripO_lst, stripO_v, stripO_plc, stripO_agg, stripO_fn, stripO_ifc]) | (with_reducible refine DS.mv (t := 124) yU yO yE ?_; simp only [strip_tmp, strip_const, lookV_cons, Nat.reduceEqDiff, ↓reduceIte, stripO_own, stripO_lst, stripO_v, stripO_plc, stripO_agg, stripO_fn, stripO_ifc]) | (with_reducible first | refine DS.fltS yU yU yE ?_ | refine DS.opsNil ?_ | refine DS.seq ?_ | refine DS.regionL ?_ | (refine DS.cE yE ?_; first | refine CG.yes ?_ | refine CG.no ?_ | refine CG.nb (fun _ => ?_) (fun _ => ?_) | refine CG.b (fun _ => ?_) (fun _ => ?_)) | (refine DS.gE yU yE ?_; first | refine GG.sU ?_ | refine GG.pT (fun _ => ?_) (fun _ => ?_) | refine GG.pF (fun _ => ?_) (fun _ => ?_) | refine GG.run ?_ | refine GG.sF ?_ | refine GG.sT ?_ | refine GG.nT (fun _ => ?_) (fun _ => ?_)) | refine DS.skip ?_) | (refine DS.append (mm := false) yU yE yE yU (by decide) yE (by first | exact .inl rfl | exact .inr ⟨rfl, rfl⟩) yE yX4 (by first | exact len_map cI_len _ | exact len_map cR_len _ | exact len_map Member.len _ | exact len_map Sitting.len _ | exact len_map Ruling.len _ | exact len_map Hold.len _ | exact len_map Node.len _ | exact len_map Form.len _ | exact len_map Pattern.len _ | (simp only [List.mem_cons, List.not_mem_nil, or_false, forall_eq]; rfl) | simp) ⟨by (try simp only [List.length_map, List.length_cons, List.length_nil, List.length_append, List.length_take, List.length_drop]); omega, by decide⟩ ?_; simp only [strip_tmp, strip_const, lookV_cons, Nat.reduceEqDiff, ↓reduceIte, stripO_own, stripO_lst, stripO_v, stripO_plc, stripO_agg, stripO_fn, stripO_ifc]) | refine DS.pcS inferInstance (c1) yR yF ?_ | refine DS.pcS inferInstance (c2) yR yF ?_ | refine DS.pcS inferInstance (ihA) yR yF ?_ | refine DS.pcS inferInstance (ihB) yR yF ?_ | refine DS.pcS inferInstance (hbf) yR yF ?_ | refine DS.drawL (id := 12) [1, 0, 2, 3, 4] 5 (by kernel_rfl) mixed (by simp only [pickL_cons, pickL_nil, get_zero', get_cons', pickO_some]; exact rfl) (by simp only [drop_zero', drop_cons', List.drop_nil]; exact rfl) ?_ | (with_reducible first | refine DD.fltS yU yU yU yE ?_ | refine DD.nil0 ?_) | (refine DD.bslS yU yE yE ?_; simp only [go_sem, Nat.zero_add, Nat.reduceAdd]; simp only [delV_cons', delV_nil', Nat.reduceEqDiff, ↓reduceIte]) | (refine DD.append (mm := false) yU yE yE yU (by decide) yE (by first | exact .inl rfl | exact .inr ⟨rfl, rfl⟩) yE yX4 (by first | exact len_map cI_len _ | exact len_map cR_len _ | exact len_map Member.len _ | exact len_map Sitting.len _ | exact len_map Ruling.len _ | exact len_map Hold.len _ | exact len_map Node.len _ | exact len_map Form.len _ | exact len_map Pattern.len _ | (simp only [List.mem_cons, List.not_mem_nil, or_false, forall_eq]; rfl) | simp) ⟨by (try simp only [List.length_map, List.length_cons, List.length_nil, List.length_append, List.length_take, List.length_drop]); omega, by decide⟩ ?_; simp only [strip_tmp, strip_const, lookV_cons, Nat.reduceEqDiff, ↓reduceIte, stripO_own, stripO_lst, stripO_v, stripO_plc, stripO_agg, stripO_fn, stripO_ifc]; simp only [delV_cons', delV_nil', Nat.reduceEqDiff, ↓reduceIte]) | refine DS.retT [] yE trivial ?_ | fail)
    all_goals (simp only [tupV]; clear ihA ihB hbf c1 c2 htk)
    all_goals first
      | (exfalso; omega)
      | (have g := HR.out.1 (by assumption) (by assumption); rw [g]; rfl)
      | (have g := HR.out.2.1 (by assumption); rw [g]; rfl)
      | (have g := HR.out.2.2.1 (by assumption) (by assumption) (by assumption); rw [g]; rfl)
      | (have g := HR.out.2.2.2.1 (by assumption) (by assumption) (by assumption) (by assumption); rw [g]; have e : a2 = b2 := by assumption
         subst e; rfl)
      | (have g := HR.out.2.2.2.2.1 (by assumption) (by assumption) (by assumption) (by assumption); rw [g]; rfl)
      | (have g := HR.out.2.2.2.2.2 (by assumption) (by assumption) (by assumption) (by assumption); rw [g]; rfl)
      | trace_state
end Go.XL
namespace Go.XL
open Go.Proofs
set_option maxRecDepth 100000
set_option maxHeartbeats 8000000
def partB (l:List Bool):ByteArray:=⟨(l.map fun b=>if b then(110:UInt8)else 116).toArray⟩
structure SortR where
 number:Bool
 parts:List Bool
 use:Int
 nLow:Int
 nTop:Int
 mLow:Int
 mTop:Int
 deriving DecidableEq
def SortR.cells (x:SortR):List V:= [Bo x.number,St8 (partB x.parts),I x.use,I x.nLow,I x.nTop,I x.mLow,I x.mTop]
@[go_sem] theorem SortR.cells_eq (x:SortR):x.cells= [Bo x.number,St8 (partB x.parts),I x.use,I x.nLow,I x.nTop,I x.mLow,I x.mTop]:=rfl
abbrev SortR.val (x:SortR):V := .agg x.cells
def bitU (b:Bool) (n:Int):Int:=if b then n else 0
def sortR (op:Int):SortR:=⟨numS op,(useS op).parts,bitU (useS op).what 1+bitU (useS op).n 2+bitU (useS op).m 4+bitU (useS op).open_ 8+bitU (useS op).kinds 16,(useS op).nLow,(useS op).nTop,(useS op).mLow,(useS op).mTop⟩
def noSort :SortR:=⟨false,[],0,0,0,0,0⟩
def sortX (op:Int):SortR×Bool:=if 1≤op∧op≤24 then(sortR op,true)else(noSort,false)
def sortsL :List V:=((List.range 25).map fun(i:Nat)=>if i=0 then noSort.cells else(sortR i).cells).flatten
theorem sorts_row : ∀k:Nat,k<25→((sortsL.drop (k*7)).take 7).map V.peek=if k=0 then noSort.cells else(sortR k).cells
 | 0,_=>by kernel_rfl
 | 1,_=>by kernel_rfl
 | 2,_=>by kernel_rfl
 | 3,_=>by kernel_rfl
 | 4,_=>by kernel_rfl
 | 5,_=>by kernel_rfl
 | 6,_=>by kernel_rfl
 | 7,_=>by kernel_rfl
 | 8,_=>by kernel_rfl
 | 9,_=>by kernel_rfl
 | 10,_=>by kernel_rfl
 | 11,_=>by kernel_rfl
 | 12,_=>by kernel_rfl
 | 13,_=>by kernel_rfl
 | 14,_=>by kernel_rfl
 | 15,_=>by kernel_rfl
 | 16,_=>by kernel_rfl
 | 17,_=>by kernel_rfl
 | 18,_=>by kernel_rfl
 | 19,_=>by kernel_rfl
 | 20,_=>by kernel_rfl
 | 21,_=>by kernel_rfl
 | 22,_=>by kernel_rfl
 | 23,_=>by kernel_rfl
 | 24,_=>by kernel_rfl
 | k+25,h=>by omega
theorem sortsL_len :sortsL.length=175:=by kernel_rfl
theorem yX6 {p:Prop} (h:p:=by(simp (disch:=omega) only[go_sem,dopV,yV0,↓reduceIte,Nat.reduceEqDiff,Nat.reduceLT,Nat.reduceLeDiff,Nat.reduceAdd,Nat.reduceMul,Nat.reduceSub,Int.reduceToNat,Int.reduceLT,Int.reduceLE,Int.reduceEq,IntWalk.toNatUp,IntWalk.iteOmega,IntWalk.i64_in,V.flat,V.one, *,sortsL_len];exact rfl)):p:=h
theorem yX7 {p:Prop} (h:p:=by(simp (disch:=omega) only[go_sem,dopV,yV0,↓reduceIte,Nat.reduceEqDiff,Nat.reduceLT,Nat.reduceLeDiff,Nat.reduceAdd,Nat.reduceMul,Nat.reduceSub,Int.reduceToNat,Int.reduceLT,Int.reduceLE,Int.reduceEq,IntWalk.toNatUp,IntWalk.iteOmega,IntWalk.i64_in,V.flat,V.one, *,sortsL_len];try exact rfl)):p:=h
theorem sortOf_pc (op:Int):PC Tryz.prog 108 [I op] (.tup [(sortX op).1.val,Bo (sortX op).2]):=by
 refine DC.of_run Tryz.func108 rfl Tryz.ntmps108 Tryz.results108 (by simp) (fun _ _=>?_);simp only[argV_cons,argV_nil,go_sem,Nat.zero_add,Nat.reduceAdd]
 repeat' (first|(with_reducible first|refine DS.seq ?_|refine DS.regionL ?_)|fail)
 refine DS.allocS yR yU yU (fun b hb=>?_)
 have e0:(Value.agg #[.bool false, .string ⟨#[]⟩, .int .i64 0, .int .i64 0, .int .i64 0, .int .i64 0, .int .i64 0]).cells.toList.map V.v= [Bo false,St8 ⟨#[]⟩,I 0,I 0,I 0,I 0,I 0]:=rfl
 rw[e0]
 clear e0
 repeat' (first|(with_reducible first|refine DS.fltS yU yU yE ?_|refine DS.opsNil ?_|refine DS.seq ?_|refine DS.regionL ?_)|(refine DS.letF (t:=4) yU yE yU (fun _=>yE) yE yU (by exact⟨by with_unfolding_all rfl,by with_unfolding_all decide⟩) (fun _=>by simp only[go_sem,Nat.reduceEqDiff,↓reduceIte]) ?_;simp only[go_sem])|fail)
 refine DS.weaken (E':= [(4, .plc sortsL),(0,I op),(30,I op),(2, .v (.pointer (some ⟨b,0,none⟩)))]) (subV_look ⟨by kernel_rfl,by rfl,by rfl,by rfl,trivial⟩) (fun _ _ e=>e) ?_
 by_cases h:1≤op∧op≤24
 ·rw[sortX,if_pos h]
  obtain⟨k,rfl⟩:=Int.eq_ofNat_of_zero_le (show 0≤op by omega)
  have hr:=sorts_row k (by omega)
  rw[if_neg (by omega)]at hr
  repeat' (first|(with_reducible first|refine DS.fltS yU yU yX6 ?_|refine DS.opsNil ?_|refine DS.seq ?_|refine DS.regionL ?_|(refine DS.cE yX6 ?_;refine CG.no ?_)|refine DS.skip ?_)|refine DS.pcS inferInstance (hfrom_pc _ _ _) yR yX7 ?_|fail)
  refine DS.fltS (v := .agg (sortR k).cells) rfl (by decide) (by(simp (disch:=omega) only[go_sem,dopV,yV0,↓reduceIte,Nat.reduceEqDiff,Nat.reduceLT,Nat.reduceLeDiff,Nat.reduceAdd,Nat.reduceMul,Nat.reduceSub,Int.reduceToNat,Int.reduceLT,Int.reduceLE,Int.reduceEq,IntWalk.toNatUp,IntWalk.iteOmega,IntWalk.i64_in,V.flat,V.one,List.length_drop,sortsL_len,hr];try exact rfl)) ?_
  repeat' (first|(with_reducible first|refine DS.fltS yU yU yE ?_|refine DS.opsNil ?_)|(refine DS.store yR yE yE yE yE yU (by exact⟨by with_unfolding_all rfl,by(try simp only[List.length_map,List.length_append,List.length_set,List.length_replicate,List.length_cons,List.length_nil]);omega⟩) ?_;simp only[putV_none,setAll_cons,setAll_nil,scells_v,scells_own,scells_lst,scells_agg];try simp only[strip_tmp,strip_const,lookV_cons,Nat.reduceEqDiff,↓reduceIte,stripO_own,stripO_lst,stripO_v,stripO_plc,stripO_agg,stripO_fn,stripO_ifc])|refine DS.retT [] yE trivial ?_|fail)
  rfl
 ·rw[sortX,if_neg h]
  repeat' (first|(with_reducible first|refine DS.fltS yU yU yE ?_|refine DS.opsNil ?_|refine DS.seq ?_|refine DS.regionL ?_|(refine DS.cE yE ?_;refine CG.yes ?_))|refine DS.pcS inferInstance (hfrom_pc _ _ _) yR yT ?_|(refine DS.store yR yE yE yE yE yU (by exact⟨by with_unfolding_all rfl,by(try simp only[List.length_map,List.length_append,List.length_set,List.length_replicate,List.length_cons,List.length_nil]);omega⟩) ?_;simp only[putV_none,setAll_cons,setAll_nil,scells_v,scells_own,scells_lst,scells_agg];try simp only[strip_tmp,strip_const,lookV_cons,Nat.reduceEqDiff,↓reduceIte,stripO_own,stripO_lst,stripO_v,stripO_plc,stripO_agg,stripO_fn,stripO_ifc])|refine DS.retT [] yE trivial ?_|fail)
  rfl
end Go.XL
