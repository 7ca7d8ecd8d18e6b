/- A part of a program logic over the kit's walk rules, and contracts of functions in it. Conditions: as each theorem says. -/
import Derived.Test.YtfgeogepihjdiaaGreatDoorF5
import Derived.Test.YtfgeogepihjdiaaGreatDoorRows
import Derived.WideKeyArgs
import Derived.OpenShut
import Derived.WalkKit
import Derived.ProofKit
set_option linter.all false
namespace Go.XL
open Go.Proofs
set_option maxRecDepth 100000
set_option maxHeartbeats 8000000
def tinyG :GSet:=⟨3,[3],0,1,0,4,1,2,[1]⟩
def strA (c:UInt8):ByteArray:=⟨#[c]⟩
def smallH :House where
 set:=tinyG
 forms:= [⟨1,[],false⟩]
 patterns:= [⟨strA 97,2,1,[],[],[]⟩,⟨strA 98,3,3,[],[0],[]⟩,⟨strA 99,2,0,[],[],[0]⟩]
 minor:= []
 least:=1
 scale:=⟨8,true,[⟨5,2000⟩,⟨6,3000⟩],100⟩
 pay:=⟨1,true,0,100,1000,0,0,0,1,0,false,[],[]⟩
 play:=⟨false,1,false,0,false,0,0,0,false,false,false,5,1,0,false,false⟩
def fourH :House:={smallH with set:=⟨4,[4],0,1,0,4,1,2,[1]⟩}
theorem yX15 {p:Prop} (h:p:=by(simp (disch:=omega) only[go_sem,dopV,yV0,↓reduceIte,Nat.reduceEqDiff,Nat.reduceLT,Nat.reduceLeDiff,Nat.reduceAdd,Nat.reduceMul,Nat.reduceSub,Int.reduceToNat,Int.reduceLT,Int.reduceLE,Int.reduceEq,IntWalk.toNatUp,IntWalk.iteOmega,IntWalk.i64_in,V.flat,V.one, *,Value.oneCell'];exact rfl)):p:=h
theorem tiny_pc :PC Tryz.prog 80 [] tinyG.val:=by
 refine DC.of_run Tryz.func80 rfl Tryz.ntmps80 Tryz.results80 (by simp) (fun _ _=>?_);simp only[argV_cons,argV_nil,go_sem,Nat.zero_add,Nat.reduceAdd]
 refine DS.seq ?_
 repeat' (first|with_reducible refine DS.regionL ?_|fail)
 refine DS.allocS yR yU yU (fun b0 h0=>?_)
 clear h0
 repeat' (first|(with_reducible first|refine DS.fltS yU yU yX15 ?_|refine DS.opsNil ?_|refine DS.seq ?_|refine DS.regionL ?_)|(refine DS.bsl yU yX15 yX15 ?_;simp only[go_sem,Nat.zero_add,Nat.reduceAdd])|(refine DS.store yR yX15 yX15 yX15 yX15 yU (by exact⟨by with_unfolding_all rfl,by(try simp only[List.length_map,List.length_append,List.length_set,List.length_replicate,List.length_cons,List.length_nil]);omega⟩) ?_;simp only[putV_none,setAll_cons,setAll_nil,scells_v,scells_own,scells_lst,scells_agg];try simp only[strip_tmp,strip_const,lookV_cons,Nat.reduceEqDiff,↓reduceIte,stripO_own,stripO_lst,stripO_v,stripO_plc,stripO_agg,stripO_fn,stripO_ifc])|fail)
 refine DS.retA yX8 ?_
 rfl
theorem look_none' {d b:Nat} {o:Ob} {r:Sto} (h:lookS ((d,o)::r) b=none): ¬d=b∧lookS r b=none:=by
 simp only[lookS]at h
 by_cases e:d=b
 ·rw[if_pos e]at h;cases h
 ·rw[if_neg e]at h;exact⟨e,h⟩
theorem yX16 {p:Prop} (h:p:=by(simp (disch:=omega) only[go_sem,dopV,yV0,↓reduceIte,Nat.reduceEqDiff,Nat.reduceLT,Nat.reduceLeDiff,Nat.reduceAdd,Nat.reduceMul,Nat.reduceSub,Int.reduceToNat,Int.reduceLT,Int.reduceLE,Int.reduceEq,IntWalk.toNatUp,IntWalk.iteOmega,IntWalk.i64_in,V.flat,V.one, *,Value.oneCell'];try exact rfl)):p:=h
theorem small_pc :PC Tryz.prog 42 [] smallH.val:=by
 have ht:=tiny_pc
 refine DC.of_run Tryz.func42 rfl Tryz.ntmps42 Tryz.results42 (by simp) (fun _ _=>?_);simp only[argV_cons,argV_nil,go_sem,Nat.zero_add,Nat.reduceAdd]
 repeat' (first|(with_reducible first|refine DS.seq ?_|refine DS.regionL ?_)|fail)
 refine DS.allocS yR yU yU (fun b0 h0=>?_)
 clear h0
 repeat' (first|(with_reducible first|refine DS.fltS yU yU yX15 ?_|refine DS.opsNil ?_|refine DS.seq ?_|refine DS.regionL ?_)|(refine DS.bsl yU yX15 yX15 ?_;simp only[go_sem,Nat.zero_add,Nat.reduceAdd])|refine DS.pcS inferInstance (ht) yR yX16 ?_|fail)
 refine DS.allocS yR yU yU (fun b1 h1=>?_)
 obtain⟨n1,-⟩:=look_none' h1
 have n1':=fun e=>n1 (Eq.symm e)
 clear h1
 repeat' (first|(with_reducible first|refine DS.fltS yU yU yX15 ?_|refine DS.opsNil ?_|refine DS.seq ?_|refine DS.regionL ?_)|(refine DS.bsl yU yX15 yX15 ?_;simp only[go_sem,Nat.zero_add,Nat.reduceAdd])|(refine DS.store yR yX15 yX15 yX15 yX15 yU (by exact⟨by with_unfolding_all rfl,by(try simp only[List.length_map,List.length_append,List.length_set,List.length_replicate,List.length_cons,List.length_nil]);omega⟩) ?_;simp only[putV_none,setAll_cons,setAll_nil,scells_v,scells_own,scells_lst,scells_agg];try simp only[strip_tmp,strip_const,lookV_cons,Nat.reduceEqDiff,↓reduceIte,stripO_own,stripO_lst,stripO_v,stripO_plc,stripO_agg,stripO_fn,stripO_ifc])|fail)
 refine DS.mapO (b:=b0) deep (fun _ _ _ h=>deep_Rl h) (fun v=>inL_free _ v) (by(simp (disch:=omega) only[go_sem,dopV,yV0,↓reduceIte,Nat.reduceEqDiff,Nat.reduceLT,Nat.reduceLeDiff,Nat.reduceAdd,Nat.reduceMul,Nat.reduceSub,Int.reduceToNat,Int.reduceLT,Int.reduceLE,Int.reduceEq,IntWalk.toNatUp,IntWalk.iteOmega,IntWalk.i64_in,V.flat,V.one,setS,setAll,n1,n1'];exact rfl)) ?_
 refine DS.retA (by(simp (disch:=omega) only[go_sem,dopV,yV0,↓reduceIte,Nat.reduceEqDiff,Nat.reduceLT,Nat.reduceLeDiff,Nat.reduceAdd,Nat.reduceMul,Nat.reduceSub,Int.reduceToNat,Int.reduceLT,Int.reduceLE,Int.reduceEq,IntWalk.toNatUp,IntWalk.iteOmega,IntWalk.i64_in,V.flat,V.one,setS,setAll,n1,n1'];exact rfl)) ?_
 rfl
theorem four_pc :PC Tryz.prog 44 [] fourH.val:=by
 have hs:=small_pc
 refine DC.of_run Tryz.func44 rfl Tryz.ntmps44 Tryz.results44 (by simp) (fun _ _=>?_);simp only[argV_cons,argV_nil,go_sem,Nat.zero_add,Nat.reduceAdd]
 repeat' (first|(with_reducible first|refine DS.seq ?_|refine DS.regionL ?_)|fail)
 refine DS.allocS yR yU yU (fun b0 h0=>?_)
 clear h0
 repeat' (first|(with_reducible first|refine DS.opsNil ?_|refine DS.seq ?_|refine DS.regionL ?_)|refine DS.pcS inferInstance (hs) yR yX16 ?_|fail)
 refine DS.allocS yR yU yU (fun b1 h1=>?_)
 obtain⟨n1,-⟩:=look_none' h1
 have n1':=fun e=>n1 (Eq.symm e)
 clear h1
 repeat' (first|(with_reducible first|refine DS.fltS yU yU yX15 ?_|refine DS.opsNil ?_|refine DS.seq ?_|refine DS.regionL ?_)|(refine DS.bsl yU yX15 yX15 ?_;simp only[go_sem,Nat.zero_add,Nat.reduceAdd])|(refine DS.store yR yX15 yX15 yX15 yX15 yU (by exact⟨by with_unfolding_all rfl,by(try simp only[List.length_map,List.length_append,List.length_set,List.length_replicate,List.length_cons,List.length_nil]);omega⟩) ?_;simp only[putV_none,setAll_cons,setAll_nil,scells_v,scells_own,scells_lst,scells_agg];try simp only[strip_tmp,strip_const,lookV_cons,Nat.reduceEqDiff,↓reduceIte,stripO_own,stripO_lst,stripO_v,stripO_plc,stripO_agg,stripO_fn,stripO_ifc])|fail)
 refine DS.retA (by(simp (disch:=omega) only[go_sem,dopV,yV0,↓reduceIte,Nat.reduceEqDiff,Nat.reduceLT,Nat.reduceLeDiff,Nat.reduceAdd,Nat.reduceMul,Nat.reduceSub,Int.reduceToNat,Int.reduceLT,Int.reduceLE,Int.reduceEq,IntWalk.toNatUp,IntWalk.iteOmega,IntWalk.i64_in,V.flat,V.one,setS,setAll,n1,n1'];exact rfl)) ?_
 rfl
theorem holdsL_pc (l:List Int) (hl:l.length≤1000):PC Tryz.prog 43 [ints l] (holdsV (l.map fun n=>⟨n,1⟩)):=by
 have h:PC Tryz.prog 43 [ints l] (.own false 59 2 ((l.map fun n=>(⟨n,1⟩:Hold)).map Hold.cells)):=by
  refine DC.of_run Tryz.func43 rfl Tryz.ntmps43 Tryz.results43 (by simp) (fun _ _=>?_);simp only[argV_cons,argV_nil,go_sem,Nat.zero_add,Nat.reduceAdd]
  repeat' (first|(with_reducible first|(refine DS.nilOwn (t:=2) yU yO yE ?_)|(refine DS.nilOwn (t:=3) yU yO yE ?_)|refine DS.fltS yU yU yE ?_|refine DS.opsNil ?_|refine DS.seq ?_|refine DS.regionL ?_|refine DS.block ?_)|fail)
  refine DS.loopK [0] yN (fun(i:Nat)=> [(3, .own false 59 2 (((l.take i).map fun n=>(⟨n,1⟩:Hold)).map Hold.cells)),(4,I i)]) (fun(i:Nat)=>i≤l.length) (fun(i:Nat)=>l.length-i) 0 yS (Nat.zero_le _) (fun i B hI hB=>?_);try dsimp only at hI hB;simp only[app_cons',app_nil']
  by_cases hi:i<l.length
  ·have hi':(i:Int)<(l.length:Int):=by omega
   repeat' (first|(with_reducible refine DS.mv (t:=3) yU yO yE ?_;simp only[strip_tmp,strip_const,lookV_cons,Nat.reduceEqDiff,↓reduceIte,stripO_own,stripO_lst,stripO_v,stripO_plc,stripO_agg,stripO_fn,stripO_ifc])|(with_reducible refine DS.mv (t:=11) yU yO yE ?_;simp only[strip_tmp,strip_const,lookV_cons,Nat.reduceEqDiff,↓reduceIte,stripO_own,stripO_lst,stripO_v,stripO_plc,stripO_agg,stripO_fn,stripO_ifc])|(with_reducible first|refine DS.fltS yU yU yE ?_|refine DS.opsNil ?_|refine DS.seq ?_|refine DS.regionL ?_|(refine DS.cE yE ?_;refine CG.yes ?_)|refine DS.blk ?_|refine DS.block ?_|refine DS.skip ?_)|(refine DS.bsl yU yE yE ?_;simp only[go_sem,Nat.zero_add,Nat.reduceAdd])|(refine DS.append (mm:=false) yU yE yE yU (by decide) yE (by first|exact .inl rfl|exact .inr ⟨rfl,rfl⟩) yE yX12 (by first|exact len_map cI_len _|exact len_map cR_len _|exact len_map Member.len _|exact len_map Sitting.len _|exact len_map Ruling.len _|exact len_map Hold.len _|exact len_map Node.len _|exact len_map Form.len _|exact len_map Pattern.len _|(simp only[List.mem_cons,List.not_mem_nil,or_false,forall_eq];rfl)|simp) ⟨by(try simp only[List.length_map,List.length_cons,List.length_nil,List.length_append,List.length_take,List.length_drop]);omega,by decide⟩ ?_;simp only[strip_tmp,strip_const,lookV_cons,Nat.reduceEqDiff,↓reduceIte,stripO_own,stripO_lst,stripO_v,stripO_plc,stripO_agg,stripO_fn,stripO_ifc])|fail)
   have hts:=List.take_succ_eq_append_getElem hi
   exact DS.back (hB (i+1) _ _ (by omega) (by omega) yS yS (fun b o e=>by exact e))
  ·have hi': ¬(i:Int)<(l.length:Int):=by omega
   have ht:l.take i=l:=List.take_of_length_le (by omega)
   repeat' (first|(with_reducible refine DS.mv (t:=2) yU yO yE ?_;simp only[strip_tmp,strip_const,lookV_cons,Nat.reduceEqDiff,↓reduceIte,stripO_own,stripO_lst,stripO_v,stripO_plc,stripO_agg,stripO_fn,stripO_ifc])|(with_reducible refine DS.mv (t:=19) yU yO yE ?_;simp only[strip_tmp,strip_const,lookV_cons,Nat.reduceEqDiff,↓reduceIte,stripO_own,stripO_lst,stripO_v,stripO_plc,stripO_agg,stripO_fn,stripO_ifc])|(with_reducible first|refine DS.fltS yU yU yE ?_|refine DS.opsNil ?_|refine DS.seq ?_|refine DS.regionL ?_|(refine DS.cE yE ?_;refine CG.no ?_)|refine DS.exit yU ?_)|refine DS.retT [] yE trivial ?_|fail)
   all_goals first|rfl|(exfalso;omega)
 exact h.peek
end Go.XL
namespace Go.XL
open Go.Proofs
set_option maxRecDepth 100000
set_option maxHeartbeats 8000000
theorem r1between_pc (n lo hi:Int):PC Tryz.prog 141 [I n,I lo,I hi] (Bo (decide (lo≤n∧n≤hi))):=by
 refine DC.of_run Tryz.func141 rfl Tryz.ntmps141 Tryz.results141 (by simp) (fun _ _=>?_);simp only[argV_cons,argV_nil,go_sem,Nat.zero_add,Nat.reduceAdd]
 repeat' (first|(with_reducible first|refine DS.fltS yU yU yE ?_|refine DS.opsNil ?_|refine DS.seq ?_|refine DS.regionL ?_|(refine DS.gE yU yE ?_;first|refine GG.pT (fun _=>?_) (fun _=>?_)|refine GG.run ?_|refine GG.sF ?_))|refine DS.retT [] yE trivial ?_|fail)
 all_goals first|(simp_all [tupV];done)|(simp_all [tupV];omega)
theorem r1plain_pc (s:GSet) (hw:0≤s.winds∧s.winds≤4) (hd:0≤s.dragons∧s.dragons≤3) (hl:s.suits.length≤3) (hs:suitsGo s.suits=0) :
  PC Tryz.prog 142 [s.val] (I s.plain):=by
 obtain⟨a1,a2⟩:=hw
 obtain⟨a3,a4⟩:=hd
 refine DC.of_run Tryz.func142 rfl Tryz.ntmps142 Tryz.results142 (by simp) (fun _ _=>?_);simp only[argV_cons,argV_nil,go_sem,Nat.zero_add,Nat.reduceAdd]
 repeat' (first|(with_reducible first|refine DS.fltS yU yU yE ?_|refine DS.opsNil ?_|refine DS.seq ?_|refine DS.regionL ?_|refine DS.block ?_)|(refine DS.boxF (t:=1) yU yE yU ?_;simp only[cells_agg,cells_v,cells_lst,cells_fn,map_nil'',map_cons'',copy_own,copy_lst,copy_v,copy_at,copy_agg,copy_fn,copy_ifc,copy_tup])|fail)
 refine DS.loopK [1] yN (fun(z:Nat×Int)=> [(3,I z.2),(4,I z.1)]) (fun(z:Nat×Int)=>z.1≤s.suits.length∧z.2=s.winds+s.dragons+sumI (s.suits.take z.1)∧0≤sumI (s.suits.take z.1)∧sumI (s.suits.take z.1)≤9*z.1) (fun(z:Nat×Int)=>s.suits.length-z.1) (0,s.winds+s.dragons) yS ⟨Nat.zero_le _,by simp[sumI],by simp[sumI],by simp[sumI]⟩ (fun z B hI hB=>?_);try dsimp only at hI hB;simp only[app_cons',app_nil']
 have HB:=Box.mk hB
 clear hB
 obtain⟨i,kk⟩:=z
 dsimp only at hI ⊢
 obtain⟨hI,hI1,hI2,hI3⟩:=hI
 have H1:=Box.mk hI1
 have hk1:0≤kk∧kk≤100:=by omega
 clear hI1
 by_cases hi:(i:Int)<(s.suits.length:Int)
 ·have hi':i<s.suits.length:=by omega
  obtain⟨b1,b2⟩:=suits_in hs _ (List.getElem_mem hi')
  repeat' (first|(with_reducible first|refine DS.fltS yU yU yE ?_|refine DS.opsNil ?_|refine DS.seq ?_|refine DS.regionL ?_|(refine DS.cE yE ?_;refine CG.yes ?_)|refine DS.blk ?_|refine DS.block ?_|refine DS.skip ?_)|fail)
  have e:=sumI_take hi'
  have h1:=H1.out
  refine DS.back (HB.out (i+1,kk+s.suits[i]) _ _ (by dsimp only;omega) ⟨by dsimp only;omega,by dsimp only;omega,by dsimp only;omega,by dsimp only;omega⟩ yS yS (fun b o e=>by cases e))
 ·repeat' (first|(with_reducible first|refine DS.fltS yU yU yE ?_|refine DS.opsNil ?_|refine DS.seq ?_|refine DS.regionL ?_|(refine DS.cE yE ?_;refine CG.no ?_)|refine DS.exit yU ?_)|refine DS.retT [] yE trivial ?_|fail)
  rw[H1.out,List.take_of_length_le (by omega)];rfl
theorem r1check_pc (s:GSet):PC Tryz.prog 111 [s.val] (I (gsetS s)):=by
 by_cases h1:3≤s.players∧s.players≤4
 ·by_cases h2:(s.suits.length:Int)≤3
  ·refine DC.of_run Tryz.func111 rfl Tryz.ntmps111 Tryz.results111 (by simp) (fun _ _=>?_);simp only[argV_cons,argV_nil,go_sem,Nat.zero_add,Nat.reduceAdd]
   repeat' (first|(with_reducible first|refine DS.fltS yU yU yE ?_|refine DS.opsNil ?_|refine DS.seq ?_|refine DS.regionL ?_|(refine DS.cE yE ?_;first|refine CG.p (fun _=>?_) (fun _=>?_)|refine CG.no ?_)|refine DS.block ?_|refine DS.skip ?_)|refine DS.pcS inferInstance (r1between_pc _ _ _) yR yT ?_|(refine DS.boxF (t:=1) yU yE yU ?_;simp only[cells_agg,cells_v,cells_lst,cells_fn,map_nil'',map_cons'',copy_own,copy_lst,copy_v,copy_at,copy_agg,copy_fn,copy_ifc,copy_tup])|fail)
   all_goals try (exfalso;omega)
   refine DS.loopK [1] yN (fun(i:Nat)=> [(3,I i)]) (fun(i:Nat)=>i≤s.suits.length∧suitsGo s.suits=suitsGo (s.suits.drop i)) (fun(i:Nat)=>s.suits.length-i) 0 yS ⟨Nat.zero_le _,rfl⟩ (fun i B hI hB=>?_);try dsimp only at hI hB;simp only[app_cons',app_nil']
   have HB:=Box.mk hB
   clear hB
   obtain⟨hI,hI2⟩:=hI
   by_cases hi:(i:Int)<(s.suits.length:Int)
   ·have hi':i<s.suits.length:=by omega
    rw[suitsGo_at hi']at hI2
    have H2:=Box.mk hI2
    clear hI2
    by_cases hn:1≤s.suits[i]∧s.suits[i]≤9
    ·repeat' (first|(with_reducible first|refine DS.fltS yU yU yE ?_|refine DS.opsNil ?_|refine DS.seq ?_|refine DS.regionL ?_|(refine DS.cE yE ?_;first|refine CG.yes ?_|refine CG.no ?_)|refine DS.blk ?_|refine DS.block ?_|refine DS.skip ?_)|refine DS.pcS inferInstance (r1between_pc _ _ _) yR yT ?_|fail)
     all_goals first
      | exact DS.back (HB.out (i+1) _ _ (by omega) ⟨by omega,by rw[H2.out,if_neg (by omega)]⟩ yS yS (fun b o e=>by cases e))
      | (exfalso;omega)
    ·have e:gsetS s=2:=by rw[gsetS,if_neg (by omega),if_neg (by omega),if_pos (by rw[H2.out,if_pos hn];decide)]
     rw[e]
     repeat' (first|(with_reducible first|refine DS.fltS yU yU yE ?_|refine DS.opsNil ?_|refine DS.seq ?_|refine DS.regionL ?_|(refine DS.cE yE ?_;refine CG.yes ?_)|refine DS.block ?_|refine DS.skip ?_)|refine DS.pcS inferInstance (r1between_pc _ _ _) yR yT ?_|refine DS.retT [] yE trivial ?_|fail)
     all_goals first|rfl|(exfalso;omega)
   ·rw[drop_end hi]at hI2
    have hI2:suitsGo s.suits=0:=hI2
    clear HB
    by_cases hb:((0≤s.winds∧s.winds≤4)∧(0≤s.dragons∧s.dragons≤3)∧(0≤s.flowers∧s.flowers≤8))∧(1≤s.copies∧s.copies≤4)∧(1≤s.melds∧s.melds≤4)∧(0≤s.dead∧s.dead≤20)
    ·obtain⟨⟨a1,a2,a3⟩,a4,a5,a6⟩:=hb
     have hk:=r1plain_pc s a1 a2 (by omega) hI2
     have hpl:s.plain≤34:=by have:=suits_sum hI2;have e:s.plain=s.winds+s.dragons+sumI s.suits:=rfl;omega
     have hp0:0≤s.plain:=by have:=suits_sum hI2;have e:s.plain=s.winds+s.dragons+sumI s.suits:=rfl;omega
     have e:gsetS s=if s.plain<1 then 6 else if ascS s.plain s.reds≠0 then ascS s.plain s.reds else if s.plain*s.copies+s.flowers<s.players*(3*s.melds+1)+1+s.dead then 6 else 0:=by
      rw[gsetS,if_neg (by omega),if_neg (by omega),if_neg (by omega),if_neg (by omega),if_neg (by omega),if_neg (by omega),if_neg (by omega),if_neg (by omega),if_neg (by omega)]
     rw[e]
     clear e
     obtain⟨c1,c2⟩:=a4
     obtain⟨c3,c4⟩:=a5
     obtain⟨c5,c6⟩:=a3
     obtain⟨c7,c8⟩:=a6
     have m1:0≤s.plain*s.copies:=Int.mul_nonneg hp0 (by omega)
     have m2:s.plain*s.copies≤34*4:=Int.mul_le_mul hpl c2 (by omega) (by omega)
     have m3:0≤s.players*(3*s.melds+1):=Int.mul_nonneg (by omega) (by omega)
     have m4:s.players*(3*s.melds+1)≤4*13:=Int.mul_le_mul h1.2 (by omega) (by omega) (by omega)
     clear hI2
     repeat' (first|(with_reducible first|refine DS.fltS yU yU yE ?_|refine DS.opsNil ?_|refine DS.seq ?_|refine DS.regionL ?_|(refine DS.cE yE ?_;first|refine CG.p (fun _=>?_) (fun _=>?_)|refine CG.no ?_)|(refine DS.gE yU yE ?_;refine GG.run ?_)|refine DS.block ?_|refine DS.exit yU ?_|refine DS.skip ?_)|refine DS.pcS inferInstance (r1between_pc _ _ _) yR yT ?_|refine DS.pcS inferInstance (hk) yR yT ?_|fail)
     all_goals try (exfalso;omega)
     ·repeat' (first|refine DS.retT [] yE trivial ?_|fail)
      rw[if_pos (by omega)];rfl
     ·rename_i hz
      rw[if_neg (by omega)]
      refine DS.loopK [1,4] yN (fun(j:Nat)=> [(5,I j)]) (fun(j:Nat)=>j≤s.reds.length∧ascS s.plain s.reds=ascGo s.plain (s.reds.drop j) ((prevL s.reds j).getD (-1))) (fun(j:Nat)=>s.reds.length-j) 0 yS ⟨Nat.zero_le _,rfl⟩ (fun j B hI hB=>?_);try dsimp only at hI hB;simp only[app_cons',app_nil']
      have HB:=Box.mk hB
      clear hB
      obtain⟨hJ,hI5⟩:=hI
      by_cases ha:(j:Int)<(s.reds.length:Int)
      ·have ha':j<s.reds.length:=by omega
       have hp:j-1<s.reds.length:=by omega
       rw[ascGo_at ha']at hI5
       have HI:=Box.mk hI5
       clear hI5
       repeat' (first|(with_reducible first|refine DS.fltS yU yU yE ?_|refine DS.opsNil ?_|refine DS.seq ?_|refine DS.regionL ?_)|fail)
       refine DS.bnd (t:=66) yG (.inl rfl) (fun hb66=>?_);simp only[List.length_map]at hb66
       repeat' (first|(with_reducible first|refine DS.fltS yU yU yE ?_|refine DS.opsNil ?_|refine DS.seq ?_|refine DS.regionL ?_|(refine DS.cE yE ?_;first|refine CG.np (fun _=>?_) (fun _=>?_)|refine CG.p (fun _=>?_) (fun _=>?_)|refine CG.yes ?_|refine CG.no ?_)|(refine DS.gE yU yE ?_;first|refine GG.run ?_|refine GG.sF ?_)|refine DS.blk ?_|refine DS.block ?_|refine DS.skip ?_)|refine DS.pcS inferInstance (r1between_pc _ _ _) yR yT ?_|refine DS.drawL (id:=22) [0,1,2,3,4,5,6,7,8,9,10,11,12,13] 14 (by kernel_rfl) mixed (by simp only[pickL_cons,pickL_nil,get_zero',get_cons',pickO_some];exact rfl) (by simp only[drop_zero',drop_cons',List.drop_nil];exact rfl) ?_|(with_reducible first|refine DD.fltS yU yU yU yE ?_|(refine DD.gE yU yE ?_;first|refine DGG.pT (fun _=>?_) (fun _=>?_)|refine DGG.run ?_|refine DGG.sF ?_)|refine DD.nil0 ?_)|refine DS.retT [] yE trivial ?_|fail)
       all_goals (try rw[prevL_zero (by assumption)]at HI) <;> (try rw[prevL_pos (by assumption) hp]at HI)
       all_goals try simp only[Option.getD_none,Option.getD_some]at HI
       all_goals first
        | exact DS.back (HB.out (j+1) _ _ (by omega) ⟨by omega,by rw[HI.out,prevL_succ ha',if_neg (by omega),if_neg (by omega)];rfl⟩ yS yS (fun b o e=>by cases e))
        | (rw[show ascS s.plain s.reds=2 by rw[HI.out,if_pos (by omega)],if_pos (by decide)];rfl)
        | (rw[show ascS s.plain s.reds=11 by rw[HI.out,if_neg (by omega),if_pos (by omega)],if_pos (by decide)];rfl)
        | (exfalso;omega)
      ·rw[drop_end ha]at hI5
       have hI5:ascS s.plain s.reds=0:=hI5
       rw[if_neg (by omega)]
       clear hI5
       repeat' (first|(with_reducible first|refine DS.fltS yU yU yE ?_|refine DS.opsNil ?_|refine DS.seq ?_|refine DS.regionL ?_|(refine DS.cE yE ?_;first|refine CG.p (fun _=>?_) (fun _=>?_)|refine CG.no ?_)|refine DS.exit yU ?_|refine DS.skip ?_)|refine DS.retT [] yE trivial ?_|fail)
       ·rw[if_pos (by omega)];rfl
       ·rw[if_neg (by omega)];rfl
    ·have e:gsetS s=2:=by
      rw[gsetS,if_neg (by omega),if_neg (by omega),if_neg (by omega)]
      (repeat' split) <;> first|rfl|(exfalso;omega)
     rw[e]
     clear e hI2
     repeat' (first|(with_reducible first|refine DS.fltS yU yU yE ?_|refine DS.opsNil ?_|refine DS.seq ?_|refine DS.regionL ?_|(refine DS.cE yE ?_;first|refine CG.np (fun _=>?_) (fun _=>?_)|refine CG.yes ?_|refine CG.no ?_)|(refine DS.gE yU yE ?_;first|refine GG.npF (fun _=>?_) (fun _=>?_)|refine GG.run ?_|refine GG.sT ?_)|refine DS.exit yU ?_|refine DS.skip ?_)|refine DS.pcS inferInstance (r1between_pc _ _ _) yR yT ?_|refine DS.retT [] yE trivial ?_|fail)
     all_goals first|rfl|(exfalso;omega)
  ·rw[gsetS,if_neg (by omega),if_pos (by omega)]
   refine DC.of_run Tryz.func111 rfl Tryz.ntmps111 Tryz.results111 (by simp) (fun _ _=>?_);simp only[argV_cons,argV_nil,go_sem,Nat.zero_add,Nat.reduceAdd]
   repeat' (first|(with_reducible first|refine DS.fltS yU yU yE ?_|refine DS.opsNil ?_|refine DS.seq ?_|refine DS.regionL ?_|(refine DS.cE yE ?_;first|refine CG.p (fun _=>?_) (fun _=>?_)|refine CG.no ?_)|refine DS.block ?_|refine DS.skip ?_)|refine DS.pcS inferInstance (r1between_pc _ _ _) yR yT ?_|(refine DS.boxF (t:=1) yU yE yU ?_;simp only[cells_agg,cells_v,cells_lst,cells_fn,map_nil'',map_cons'',copy_own,copy_lst,copy_v,copy_at,copy_agg,copy_fn,copy_ifc,copy_tup])|refine DS.retT [] yE trivial ?_|fail)
   all_goals first|rfl|(exfalso;omega)
 ·rw[gsetS,if_pos h1]
  refine DC.of_run Tryz.func111 rfl Tryz.ntmps111 Tryz.results111 (by simp) (fun _ _=>?_);simp only[argV_cons,argV_nil,go_sem,Nat.zero_add,Nat.reduceAdd]
  repeat' (first|(with_reducible first|refine DS.fltS yU yU yE ?_|refine DS.opsNil ?_|refine DS.seq ?_|refine DS.regionL ?_|(refine DS.cE yE ?_;refine CG.yes ?_))|refine DS.pcS inferInstance (r1between_pc _ _ _) yR yT ?_|(refine DS.boxF (t:=1) yU yE yU ?_;simp only[cells_agg,cells_v,cells_lst,cells_fn,map_nil'',map_cons'',copy_own,copy_lst,copy_v,copy_at,copy_agg,copy_fn,copy_ifc,copy_tup])|refine DS.retT [] yE trivial ?_|fail)
  all_goals first|rfl|(exfalso;omega)
theorem r1kinds_pc (s:GSet):PC Tryz.prog 182 [s.val] (I (kindsS s)):=by
 have hc:=r1check_pc s
 by_cases h0:gsetS s=0
 ·have ok:=gset_ok h0
  have hp:=r1plain_pc s ok.winds ok.dragons ok.suits ok.suit
  rw[h0]at hc
  rw[kindsS,if_neg (by omega)]
  clear ok
  refine DC.of_run Tryz.func182 rfl Tryz.ntmps182 Tryz.results182 (by simp) (fun _ _=>?_);simp only[argV_cons,argV_nil,go_sem,Nat.zero_add,Nat.reduceAdd]
  repeat' (first|(with_reducible first|refine DS.fltS yU yU yE ?_|refine DS.opsNil ?_|refine DS.seq ?_|refine DS.regionL ?_|(refine DS.cE yE ?_;refine CG.no ?_)|refine DS.skip ?_)|refine DS.pcS inferInstance (hc) yR yT ?_|refine DS.pcS inferInstance (hp) yR yT ?_|(refine DS.boxF (t:=1) yU yE yU ?_;simp only[cells_agg,cells_v,cells_lst,cells_fn,map_nil'',map_cons'',copy_own,copy_lst,copy_v,copy_at,copy_agg,copy_fn,copy_ifc,copy_tup])|refine DS.retT [] yE trivial ?_|fail)
  all_goals first|rfl|(exfalso;omega)
 ·rw[kindsS,if_pos h0]
  refine DC.of_run Tryz.func182 rfl Tryz.ntmps182 Tryz.results182 (by simp) (fun _ _=>?_);simp only[argV_cons,argV_nil,go_sem,Nat.zero_add,Nat.reduceAdd]
  repeat' (first|(with_reducible first|refine DS.fltS yU yU yE ?_|refine DS.opsNil ?_|refine DS.seq ?_|refine DS.regionL ?_|(refine DS.cE yE ?_;refine CG.yes ?_))|refine DS.pcS inferInstance (hc) yR yT ?_|(refine DS.boxF (t:=1) yU yE yU ?_;simp only[cells_agg,cells_v,cells_lst,cells_fn,map_nil'',map_cons'',copy_own,copy_lst,copy_v,copy_at,copy_agg,copy_fn,copy_ifc,copy_tup])|refine DS.retT [] yE trivial ?_|fail)
  all_goals first|rfl|(exfalso;omega)
theorem r1has_pc (l:List Int) (n:Int):PC Tryz.prog 62 [ints l,I n] (Bo (l.contains n)):=by
 refine DC.of_run Tryz.func62 rfl Tryz.ntmps62 Tryz.results62 (by simp) (fun _ _=>?_);simp only[argV_cons,argV_nil,go_sem,Nat.zero_add,Nat.reduceAdd]
 refine DS.bnd (t:=0) yG (.inl rfl) (fun hb0=>?_);simp only[List.length_map]at hb0
 repeat' (first|(with_reducible first|refine DS.fltS yU yU yE ?_|refine DS.opsNil ?_|refine DS.seq ?_|refine DS.regionL ?_|refine DS.block ?_)|fail)
 refine DS.loopK [0,1] yN (fun(i:Nat)=> [(5,I i)]) (fun(i:Nat)=>i≤l.length∧l.contains n=(l.drop i).contains n) (fun(i:Nat)=>l.length-i) 0 yS ⟨Nat.zero_le _,rfl⟩ (fun i B hI hB=>?_);try dsimp only at hI hB;simp only[app_cons',app_nil']
 have HB:=Box.mk hB
 clear hB
 obtain⟨hI,hI2⟩:=hI
 by_cases hi:(i:Int)<(l.length:Int)
 ·have hi':i<l.length:=by omega
  rw[List.drop_eq_getElem_cons hi',List.contains_cons]at hI2
  have H2:=Box.mk hI2
  clear hI2
  by_cases he:l[i]=n
  ·have e:l.contains n=true:=by rw[H2.out,he];simp
   rw[e]
   clear H2 e
   repeat' (first|(with_reducible first|refine DS.fltS yU yU yE ?_|refine DS.opsNil ?_|refine DS.seq ?_|refine DS.regionL ?_|(refine DS.cE yE ?_;refine CG.yes ?_)|refine DS.block ?_|refine DS.skip ?_)|refine DS.retT [] yE trivial ?_|fail)
   all_goals first|rfl|(exfalso;omega)
  ·have e:(n == l[i])=false:=by simp;omega
   repeat' (first|(with_reducible first|refine DS.fltS yU yU yE ?_|refine DS.opsNil ?_|refine DS.seq ?_|refine DS.regionL ?_|(refine DS.cE yE ?_;first|refine CG.yes ?_|refine CG.no ?_)|refine DS.blk ?_|refine DS.block ?_|refine DS.skip ?_)|fail)
   all_goals first
    | exact DS.back (HB.out (i+1) _ _ (by omega) ⟨by omega,by rw[H2.out,e,Bool.false_or]⟩ yS yS (fun b o e=>by cases e))
    | (exfalso;omega)
 ·repeat' (first|(with_reducible first|refine DS.fltS yU yU yE ?_|refine DS.opsNil ?_|refine DS.seq ?_|refine DS.regionL ?_|(refine DS.cE yE ?_;refine CG.no ?_)|refine DS.exit yU ?_)|refine DS.retT [] yE trivial ?_|fail)
  rw[hI2,drop_end hi];rfl
theorem r2plain_pc (s:GSet) (k:Int):PC Tryz.prog 169 [s.val,I k] (Bo (decide (0≤k∧k≤kindsS s-1))):=by
 have hk:=r1kinds_pc s
 generalize kindsS s=n at *
 refine DC.of_run Tryz.func169 rfl Tryz.ntmps169 Tryz.results169 (by simp) (fun _ _=>?_);simp only[argV_cons,argV_nil,go_sem,Nat.zero_add,Nat.reduceAdd]
 repeat' (first|(with_reducible first|refine DS.fltS yU yU yE ?_|refine DS.opsNil ?_|refine DS.seq ?_|refine DS.regionL ?_|(refine DS.gE yU yE ?_;first|refine GG.pT (fun _=>?_) (fun _=>?_)|refine GG.run ?_|refine GG.sF ?_))|refine DS.pcS inferInstance (hk) yR yT ?_|(refine DS.boxF (t:=2) yU yE yU ?_;simp only[cells_agg,cells_v,cells_lst,cells_fn,map_nil'',map_cons'',copy_own,copy_lst,copy_v,copy_at,copy_agg,copy_fn,copy_ifc,copy_tup])|refine DS.retT [] yE trivial ?_|fail)
 all_goals first|(simp[tupV, *];done)|(simp[tupV, *];omega)
theorem yX17 {p:Prop} (h:p:=by(simp (disch:=omega) only[go_sem,dopV,yV0,↓reduceIte,Nat.reduceEqDiff,Nat.reduceLT,Nat.reduceLeDiff,Nat.reduceAdd,Nat.reduceMul,Nat.reduceSub,Int.reduceToNat,Int.reduceLT,Int.reduceLE,Int.reduceEq,IntWalk.toNatUp,IntWalk.iteOmega,IntWalk.i64_in,V.flat,V.one, *,List.length_cons,List.length_nil,List.getElem_cons_zero,List.getElem_cons_succ];exact rfl)):p:=h
theorem r2nines_pc (s:GSet):PC Tryz.prog 143 [s.val] (Bo (decide (s.suits= [9,9,9]))):=by
 obtain⟨p,l,w,d,f,c,m,dd,r⟩:=s
 dsimp only
 have hl:l.length≤2∨(∃a b c,l= [a,b,c])∨3<l.length:=by
  rcases l with _|⟨a,_|⟨b,_|⟨c,_|⟨d,l⟩⟩⟩⟩ <;> simp
 rcases hl with h|⟨a,b,c',rfl⟩|h
 ·have e:decide (l= [9,9,9])=false:=decide_eq_false fun h'=>by rw[h']at h;simp at h
  rw[e]
  refine DC.of_run Tryz.func143 rfl Tryz.ntmps143 Tryz.results143 (by simp) (fun _ _=>?_);simp only[argV_cons,argV_nil,go_sem,Nat.zero_add,Nat.reduceAdd]
  repeat' (first|(with_reducible first|refine DS.fltS yU yU yE ?_|refine DS.opsNil ?_|refine DS.seq ?_|refine DS.regionL ?_|(refine DS.gE yU yE ?_;first|refine GG.pT (fun _=>?_) (fun _=>?_)|refine GG.run ?_|refine GG.sF ?_))|(refine DS.boxF (t:=1) yU yE yU ?_;simp only[cells_agg,cells_v,cells_lst,cells_fn,map_nil'',map_cons'',copy_own,copy_lst,copy_v,copy_at,copy_agg,copy_fn,copy_ifc,copy_tup])|refine DS.retT [] yE trivial ?_|fail)
  all_goals first|rfl|(exfalso;omega)
 ·refine DC.of_run Tryz.func143 rfl Tryz.ntmps143 Tryz.results143 (by simp) (fun _ _=>?_);simp only[argV_cons,argV_nil,go_sem,Nat.zero_add,Nat.reduceAdd]
  repeat' (first|(with_reducible first|refine DS.fltS yU yU yX17 ?_|refine DS.opsNil ?_|refine DS.seq ?_|refine DS.regionL ?_|(refine DS.gE yU yX17 ?_;first|refine GG.pT (fun _=>?_) (fun _=>?_)|refine GG.run ?_|refine GG.sF ?_))|(refine DS.boxF (t:=1) yU yX17 yU ?_;simp only[cells_agg,cells_v,cells_lst,cells_fn,map_nil'',map_cons'',copy_own,copy_lst,copy_v,copy_at,copy_agg,copy_fn,copy_ifc,copy_tup])|refine DS.retT [] yX17 trivial ?_|fail)
  all_goals first|(simp_all [tupV];done)|(simp_all [tupV];omega)
 ·have e:decide (l= [9,9,9])=false:=decide_eq_false fun h'=>by rw[h']at h;simp at h
  rw[e]
  refine DC.of_run Tryz.func143 rfl Tryz.ntmps143 Tryz.results143 (by simp) (fun _ _=>?_);simp only[argV_cons,argV_nil,go_sem,Nat.zero_add,Nat.reduceAdd]
  repeat' (first|(with_reducible first|refine DS.fltS yU yU yE ?_|refine DS.opsNil ?_|refine DS.seq ?_|refine DS.regionL ?_|(refine DS.gE yU yE ?_;first|refine GG.pT (fun _=>?_) (fun _=>?_)|refine GG.run ?_|refine GG.sF ?_))|(refine DS.boxF (t:=1) yU yE yU ?_;simp only[cells_agg,cells_v,cells_lst,cells_fn,map_nil'',map_cons'',copy_own,copy_lst,copy_v,copy_at,copy_agg,copy_fn,copy_ifc,copy_tup])|refine DS.retT [] yE trivial ?_|fail)
  all_goals first|rfl|(exfalso;omega)
end Go.XL
namespace Go.XL
open Go.Proofs
set_option maxRecDepth 100000
set_option maxHeartbeats 8000000
def Use.cells (u:Use):List V:= [Bo u.what,Bo u.open_,Bo u.kinds,I u.nLow,I u.nTop,I u.mLow,I u.mTop,St8 (partB u.parts)]
@[go_sem] theorem Use.cells_eq (u:Use):u.cells= [Bo u.what,Bo u.open_,Bo u.kinds,I u.nLow,I u.nTop,I u.mLow,I u.mTop,St8 (partB u.parts)]:=rfl
theorem used_pc (op : Int) : PC Tryz.prog 170 [I op] (.agg (useS op).cells) := by
  refine DC.of_run Tryz.func170 rfl Tryz.ntmps170 Tryz.results170 (by simp) (fun _ _ => ?_); simp only [argV_cons, argV_nil, go_sem, Nat.zero_add, Nat.reduceAdd]
  repeat' (first | (with_reducible first | refine DS.seq ?_ | refine DS.regionL ?_) | fail)
  refine DS.allocS yR yU yU (fun b0 h0 => ?_)
  clear h0
  repeat' (first | (with_reducible first | refine DS.fltS yU yU yX15 ?_ | refine DS.opsNil ?_ | refine DS.seq ?_ | refine DS.regionL ?_ | (refine DS.cE yX15 ?_; first | refine CG.p (fun _ => ?_) (fun _ => ?_) | refine CG.yes ?_) | refine DS.blk ?_ | refine DS.block ?_ | refine DS.skip ?_) | (refine DS.store yR yX15 yX15 yX15 yX15 yU (by exact ⟨by with_unfolding_all rfl, by (try simp only [List.length_map, List.length_append, List.length_set, List.length_replicate, List.length_cons, List.length_nil]); omega⟩) ?_; simp only [putV_none, setAll_cons, setAll_nil, scells_v, scells_own, scells_lst, scells_agg]; try simp only [strip_tmp, strip_const, lookV_cons, Nat.reduceEqDiff, ↓reduceIte, stripO_own, stripO_lst, stripO_v, stripO_plc, stripO_agg, stripO_fn, stripO_ifc]) | fail)
  all_goals refine DS.retA yX8 ?_
  all_goals first
    | (rename_i h; subst h; rfl)
    | (have e : useS op = {} := by
         simp only [useS]
         repeat rw [if_neg (by omega)]
       rw [e]; rfl)
end Go.XL
namespace Go.XL
open Go.Proofs
set_option maxRecDepth 100000
set_option maxHeartbeats 8000000
theorem r4kinds_pc (s:GSet) (l:List Int):PC Tryz.prog 171 [s.val,ints l] (I (ascS (kindsS s) l)):=by
 have hk:=r1kinds_pc s
 have hm:=kinds_bd s
 generalize kindsS s=many at *
 refine DC.of_run Tryz.func171 rfl Tryz.ntmps171 Tryz.results171 (by simp) (fun _ _=>?_);simp only[argV_cons,argV_nil,go_sem,Nat.zero_add,Nat.reduceAdd]
 refine DS.bnd (t:=1) yG (.inl rfl) (fun hb1=>?_);simp only[List.length_map]at hb1
 repeat' (first|(with_reducible first|refine DS.fltS yU yU yE ?_|refine DS.opsNil ?_|refine DS.seq ?_|refine DS.regionL ?_|refine DS.block ?_)|(refine DS.boxF (t:=2) yU yE yU ?_;simp only[cells_agg,cells_v,cells_lst,cells_fn,map_nil'',map_cons'',copy_own,copy_lst,copy_v,copy_at,copy_agg,copy_fn,copy_ifc,copy_tup])|fail)
 refine DS.loopK [1,2] yN (fun(i:Nat)=> [(5,I i)]) (fun(i:Nat)=>i≤l.length∧ascS many l=ascGo many (l.drop i) ((prevL l i).getD (-1))) (fun(i:Nat)=>l.length-i) 0 yS ⟨Nat.zero_le _,rfl⟩ (fun i B hI hB=>?_);try dsimp only at hI hB;simp only[app_cons',app_nil']
 have HB:=Box.mk hB
 clear hB
 obtain⟨hI,hI2⟩:=hI
 by_cases hi:(i:Int)<(l.length:Int)
 ·have hi':i<l.length:=by omega
  have hp:i-1<l.length:=by omega
  rw[ascGo_at hi']at hI2
  have HI:=Box.mk hI2
  clear hI2
  repeat' (first|(with_reducible first|refine DS.fltS yU yU yE ?_|refine DS.opsNil ?_|refine DS.seq ?_|refine DS.regionL ?_|(refine DS.cE yE ?_;first|refine CG.np (fun _=>?_) (fun _=>?_)|refine CG.p (fun _=>?_) (fun _=>?_)|refine CG.yes ?_|refine CG.no ?_)|(refine DS.gE yU yE ?_;first|refine GG.run ?_|refine GG.sF ?_)|refine DS.blk ?_|refine DS.block ?_|refine DS.skip ?_)|refine DS.pcS inferInstance (betweenR_pc _ _ _) yR yT ?_|refine DS.drawL (id:=4) [0,1,2,3,4,5,6] 7 (by kernel_rfl) mixed (by simp only[pickL_cons,pickL_nil,get_zero',get_cons',pickO_some];exact rfl) (by simp only[drop_zero',drop_cons',List.drop_nil];exact rfl) ?_|refine DS.drawL (id:=6) [0,1,2,3,4,5,6,7,8,9,10,11] 12 (by kernel_rfl) mixed (by simp only[pickL_cons,pickL_nil,get_zero',get_cons',pickO_some];exact rfl) (by simp only[drop_zero',drop_cons',List.drop_nil];exact rfl) ?_|(with_reducible first|refine DD.fltS yU yU yU yE ?_|(refine DD.gE yU yE ?_;first|refine DGG.pT (fun _=>?_) (fun _=>?_)|refine DGG.run ?_|refine DGG.sF ?_)|refine DD.nil0 ?_)|refine DD.pcV0 inferInstance (hk) yU yT ?_|refine DS.retT [] yE trivial ?_|fail)
  all_goals (try rw[prevL_zero (by assumption)]at HI) <;> (try rw[prevL_pos (by assumption) hp]at HI)
  all_goals try simp only[Option.getD_none,Option.getD_some]at HI
  all_goals first
   | exact DS.back (HB.out (i+1) _ _ (by omega) ⟨by omega,by rw[HI.out,prevL_succ hi',if_neg (by omega),if_neg (by omega)];rfl⟩ yS yS (fun b o e=>by cases e))
   | (rw[HI.out,if_pos (by omega)];rfl)
   | (rw[HI.out,if_neg (by omega),if_pos (by omega)];rfl)
   | (exfalso;omega)
 ·repeat' (first|(with_reducible first|refine DS.fltS yU yU yE ?_|refine DS.opsNil ?_|refine DS.seq ?_|refine DS.regionL ?_|(refine DS.cE yE ?_;refine CG.no ?_)|refine DS.exit yU ?_)|refine DS.retT [] yE trivial ?_|fail)
  rw[hI2,drop_end hi];rfl
theorem rnode00000_pc (s:GSet) (x:Node) (p:ByteArray) (hs:PC Tryz.prog 170 [I x.op] (.agg [Bo false,Bo false,Bo false,I 0,I 0,I 0,I 0,St8 p])) (ho:1≤x.op∧x.op≤24) :
  PC Tryz.prog 145 [s.val,x.val] (I (nodeT false false false false false 0 0 0 0 s x)):=by
 have hk:=r4kinds_pc s x.kinds
 refine DC.of_run Tryz.func145 rfl Tryz.ntmps145 Tryz.results145 (by simp) (fun _ _=>?_);simp only[argV_cons,argV_nil,go_sem,Nat.zero_add,Nat.reduceAdd]
 repeat' (first|(with_reducible first|refine DS.fltS yU yU yE ?_|refine DS.opsNil ?_|refine DS.seq ?_|refine DS.regionL ?_|(refine DS.cE yE ?_;first|refine CG.p (fun _=>?_) (fun _=>?_)|refine CG.yes ?_|refine CG.no ?_)|(refine DS.gE yU yE ?_;first|refine GG.sU ?_|refine GG.npF (fun _=>?_) (fun _=>?_)|refine GG.run ?_|refine GG.sF ?_|refine GG.sT ?_|refine GG.bF (fun _=>?_) (fun _=>?_))|refine DS.skip ?_)|(refine DS.letF (t:=5) yU yE yU (fun _=>yE) yE yU (by exact⟨by with_unfolding_all rfl,by with_unfolding_all decide⟩) (fun _=>by simp only[go_sem,Nat.reduceEqDiff,↓reduceIte]) ?_;simp only[go_sem])|refine DS.pcS inferInstance (hs) yR yF ?_|refine DS.pcS inferInstance (betweenR_pc _ _ _) yR yF ?_|refine DS.pcS inferInstance (hk) yR yF ?_|(refine DS.boxF (t:=2) yU yE yU ?_;simp only[cells_agg,cells_v,cells_lst,cells_fn,map_nil'',map_cons'',copy_own,copy_lst,copy_v,copy_at,copy_agg,copy_fn,copy_ifc,copy_tup])|(refine DS.boxF (t:=3) yU yE yU ?_;simp only[cells_agg,cells_v,cells_lst,cells_fn,map_nil'',map_cons'',copy_own,copy_lst,copy_v,copy_at,copy_agg,copy_fn,copy_ifc,copy_tup])|refine DS.retT [] yE trivial ?_|fail)
 all_goals (simp only[tupV,nodeT];(repeat' split) <;> first|rfl|(exfalso;clear hs hk;grind))
theorem rnode01000_pc (s:GSet) (x:Node) (p:ByteArray) (lo hi:Int) (hn: ¬hi=0) (hs:PC Tryz.prog 170 [I x.op] (.agg [Bo false,Bo false,Bo false,I lo,I hi,I 0,I 0,St8 p])) (ho:1≤x.op∧x.op≤24) :
  PC Tryz.prog 145 [s.val,x.val] (I (nodeT false true false false false lo hi 0 0 s x)):=by
 have hk:=r4kinds_pc s x.kinds
 refine DC.of_run Tryz.func145 rfl Tryz.ntmps145 Tryz.results145 (by simp) (fun _ _=>?_);simp only[argV_cons,argV_nil,go_sem,Nat.zero_add,Nat.reduceAdd]
 repeat' (first|(with_reducible first|refine DS.fltS yU yU yE ?_|refine DS.opsNil ?_|refine DS.seq ?_|refine DS.regionL ?_|(refine DS.cE yE ?_;first|refine CG.p (fun _=>?_) (fun _=>?_)|refine CG.yes ?_|refine CG.no ?_)|(refine DS.gE yU yE ?_;first|refine GG.sU ?_|refine GG.npF (fun _=>?_) (fun _=>?_)|refine GG.run ?_|refine GG.sF ?_|refine GG.sT ?_|refine GG.bF (fun _=>?_) (fun _=>?_))|refine DS.skip ?_)|(refine DS.letF (t:=5) yU yE yU (fun _=>yE) yE yU (by exact⟨by with_unfolding_all rfl,by with_unfolding_all decide⟩) (fun _=>by simp only[go_sem,Nat.reduceEqDiff,↓reduceIte]) ?_;simp only[go_sem])|refine DS.pcS inferInstance (hs) yR yF ?_|refine DS.pcS inferInstance (betweenR_pc _ _ _) yR yF ?_|refine DS.pcS inferInstance (hk) yR yF ?_|(refine DS.boxF (t:=2) yU yE yU ?_;simp only[cells_agg,cells_v,cells_lst,cells_fn,map_nil'',map_cons'',copy_own,copy_lst,copy_v,copy_at,copy_agg,copy_fn,copy_ifc,copy_tup])|(refine DS.boxF (t:=3) yU yE yU ?_;simp only[cells_agg,cells_v,cells_lst,cells_fn,map_nil'',map_cons'',copy_own,copy_lst,copy_v,copy_at,copy_agg,copy_fn,copy_ifc,copy_tup])|refine DS.retT [] yE trivial ?_|fail)
 all_goals (simp only[tupV,nodeT];(repeat' split) <;> first|rfl|(exfalso;clear hs hk;grind))
theorem rnode11000_pc (s:GSet) (x:Node) (p:ByteArray) (lo hi:Int) (hn: ¬hi=0) (hs:PC Tryz.prog 170 [I x.op] (.agg [Bo true,Bo false,Bo false,I lo,I hi,I 0,I 0,St8 p])) (ho:1≤x.op∧x.op≤24) :
  PC Tryz.prog 145 [s.val,x.val] (I (nodeT true true false false false lo hi 0 0 s x)):=by
 have hk:=r4kinds_pc s x.kinds
 refine DC.of_run Tryz.func145 rfl Tryz.ntmps145 Tryz.results145 (by simp) (fun _ _=>?_);simp only[argV_cons,argV_nil,go_sem,Nat.zero_add,Nat.reduceAdd]
 repeat' (first|(with_reducible first|refine DS.fltS yU yU yE ?_|refine DS.opsNil ?_|refine DS.seq ?_|refine DS.regionL ?_|(refine DS.cE yE ?_;first|refine CG.p (fun _=>?_) (fun _=>?_)|refine CG.yes ?_|refine CG.no ?_)|(refine DS.gE yU yE ?_;first|refine GG.sU ?_|refine GG.npF (fun _=>?_) (fun _=>?_)|refine GG.run ?_|refine GG.sF ?_|refine GG.sT ?_|refine GG.bF (fun _=>?_) (fun _=>?_))|refine DS.skip ?_)|(refine DS.letF (t:=5) yU yE yU (fun _=>yE) yE yU (by exact⟨by with_unfolding_all rfl,by with_unfolding_all decide⟩) (fun _=>by simp only[go_sem,Nat.reduceEqDiff,↓reduceIte]) ?_;simp only[go_sem])|refine DS.pcS inferInstance (hs) yR yF ?_|refine DS.pcS inferInstance (betweenR_pc _ _ _) yR yF ?_|refine DS.pcS inferInstance (hk) yR yF ?_|(refine DS.boxF (t:=2) yU yE yU ?_;simp only[cells_agg,cells_v,cells_lst,cells_fn,map_nil'',map_cons'',copy_own,copy_lst,copy_v,copy_at,copy_agg,copy_fn,copy_ifc,copy_tup])|(refine DS.boxF (t:=3) yU yE yU ?_;simp only[cells_agg,cells_v,cells_lst,cells_fn,map_nil'',map_cons'',copy_own,copy_lst,copy_v,copy_at,copy_agg,copy_fn,copy_ifc,copy_tup])|refine DS.retT [] yE trivial ?_|fail)
 all_goals (simp only[tupV,nodeT];(repeat' split) <;> first|rfl|(exfalso;clear hs hk;grind))
theorem rnode10011_pc (s:GSet) (x:Node) (p:ByteArray) (hs:PC Tryz.prog 170 [I x.op] (.agg [Bo true,Bo true,Bo true,I 0,I 0,I 0,I 0,St8 p])) (ho:1≤x.op∧x.op≤24) :
  PC Tryz.prog 145 [s.val,x.val] (I (nodeT true false false true true 0 0 0 0 s x)):=by
 have hk:=r4kinds_pc s x.kinds
 refine DC.of_run Tryz.func145 rfl Tryz.ntmps145 Tryz.results145 (by simp) (fun _ _=>?_);simp only[argV_cons,argV_nil,go_sem,Nat.zero_add,Nat.reduceAdd]
 repeat' (first|(with_reducible first|refine DS.fltS yU yU yE ?_|refine DS.opsNil ?_|refine DS.seq ?_|refine DS.regionL ?_|(refine DS.cE yE ?_;first|refine CG.np (fun _=>?_) (fun _=>?_)|refine CG.yes ?_|refine CG.no ?_)|(refine DS.gE yU yE ?_;first|refine GG.sU ?_|refine GG.npF (fun _=>?_) (fun _=>?_)|refine GG.run ?_|refine GG.sF ?_|refine GG.sT ?_)|refine DS.skip ?_)|(refine DS.letF (t:=5) yU yE yU (fun _=>yE) yE yU (by exact⟨by with_unfolding_all rfl,by with_unfolding_all decide⟩) (fun _=>by simp only[go_sem,Nat.reduceEqDiff,↓reduceIte]) ?_;simp only[go_sem])|refine DS.pcS inferInstance (hs) yR yF ?_|refine DS.pcS inferInstance (betweenR_pc _ _ _) yR yF ?_|refine DS.pcS inferInstance (hk) yR yF ?_|(refine DS.boxF (t:=2) yU yE yU ?_;simp only[cells_agg,cells_v,cells_lst,cells_fn,map_nil'',map_cons'',copy_own,copy_lst,copy_v,copy_at,copy_agg,copy_fn,copy_ifc,copy_tup])|(refine DS.boxF (t:=3) yU yE yU ?_;simp only[cells_agg,cells_v,cells_lst,cells_fn,map_nil'',map_cons'',copy_own,copy_lst,copy_v,copy_at,copy_agg,copy_fn,copy_ifc,copy_tup])|refine DS.retT [] yE trivial ?_|fail)
 all_goals (simp only[tupV,nodeT];(repeat' split) <;> first|rfl|(exfalso;clear hs hk;grind))
theorem rnode00001_pc (s:GSet) (x:Node) (p:ByteArray) (hs:PC Tryz.prog 170 [I x.op] (.agg [Bo false,Bo false,Bo true,I 0,I 0,I 0,I 0,St8 p])) (ho:1≤x.op∧x.op≤24) :
  PC Tryz.prog 145 [s.val,x.val] (I (nodeT false false false false true 0 0 0 0 s x)):=by
 have hk:=r4kinds_pc s x.kinds
 refine DC.of_run Tryz.func145 rfl Tryz.ntmps145 Tryz.results145 (by simp) (fun _ _=>?_);simp only[argV_cons,argV_nil,go_sem,Nat.zero_add,Nat.reduceAdd]
 repeat' (first|(with_reducible first|refine DS.fltS yU yU yE ?_|refine DS.opsNil ?_|refine DS.seq ?_|refine DS.regionL ?_|(refine DS.cE yE ?_;first|refine CG.yes ?_|refine CG.no ?_)|(refine DS.gE yU yE ?_;first|refine GG.sU ?_|refine GG.npF (fun _=>?_) (fun _=>?_)|refine GG.run ?_|refine GG.sF ?_|refine GG.sT ?_|refine GG.bF (fun _=>?_) (fun _=>?_))|refine DS.skip ?_)|(refine DS.letF (t:=5) yU yE yU (fun _=>yE) yE yU (by exact⟨by with_unfolding_all rfl,by with_unfolding_all decide⟩) (fun _=>by simp only[go_sem,Nat.reduceEqDiff,↓reduceIte]) ?_;simp only[go_sem])|refine DS.pcS inferInstance (hs) yR yF ?_|refine DS.pcS inferInstance (betweenR_pc _ _ _) yR yF ?_|refine DS.pcS inferInstance (hk) yR yF ?_|(refine DS.boxF (t:=2) yU yE yU ?_;simp only[cells_agg,cells_v,cells_lst,cells_fn,map_nil'',map_cons'',copy_own,copy_lst,copy_v,copy_at,copy_agg,copy_fn,copy_ifc,copy_tup])|(refine DS.boxF (t:=3) yU yE yU ?_;simp only[cells_agg,cells_v,cells_lst,cells_fn,map_nil'',map_cons'',copy_own,copy_lst,copy_v,copy_at,copy_agg,copy_fn,copy_ifc,copy_tup])|refine DS.retT [] yE trivial ?_|fail)
 all_goals (simp only[tupV,nodeT];(repeat' split) <;> first|rfl|(exfalso;clear hs hk;grind))
theorem rnode11100_pc (s:GSet) (x:Node) (p:ByteArray) (lo hi ml mh:Int) (hn: ¬hi=0) (hm: ¬mh=0) (hs:PC Tryz.prog 170 [I x.op] (.agg [Bo true,Bo false,Bo false,I lo,I hi,I ml,I mh,St8 p])) (ho:1≤x.op∧x.op≤24) :
  PC Tryz.prog 145 [s.val,x.val] (I (nodeT true true true false false lo hi ml mh s x)):=by
 have hk:=r4kinds_pc s x.kinds
 refine DC.of_run Tryz.func145 rfl Tryz.ntmps145 Tryz.results145 (by simp) (fun _ _=>?_);simp only[argV_cons,argV_nil,go_sem,Nat.zero_add,Nat.reduceAdd]
 repeat' (first|(with_reducible first|refine DS.fltS yU yU yE ?_|refine DS.opsNil ?_|refine DS.seq ?_|refine DS.regionL ?_|(refine DS.cE yE ?_;first|refine CG.p (fun _=>?_) (fun _=>?_)|refine CG.yes ?_|refine CG.no ?_)|(refine DS.gE yU yE ?_;first|refine GG.sU ?_|refine GG.npF (fun _=>?_) (fun _=>?_)|refine GG.run ?_|refine GG.sF ?_|refine GG.sT ?_|refine GG.bF (fun _=>?_) (fun _=>?_))|refine DS.skip ?_)|(refine DS.letF (t:=5) yU yE yU (fun _=>yE) yE yU (by exact⟨by with_unfolding_all rfl,by with_unfolding_all decide⟩) (fun _=>by simp only[go_sem,Nat.reduceEqDiff,↓reduceIte]) ?_;simp only[go_sem])|refine DS.pcS inferInstance (hs) yR yF ?_|refine DS.pcS inferInstance (betweenR_pc _ _ _) yR yF ?_|refine DS.pcS inferInstance (hk) yR yF ?_|(refine DS.boxF (t:=2) yU yE yU ?_;simp only[cells_agg,cells_v,cells_lst,cells_fn,map_nil'',map_cons'',copy_own,copy_lst,copy_v,copy_at,copy_agg,copy_fn,copy_ifc,copy_tup])|(refine DS.boxF (t:=3) yU yE yU ?_;simp only[cells_agg,cells_v,cells_lst,cells_fn,map_nil'',map_cons'',copy_own,copy_lst,copy_v,copy_at,copy_agg,copy_fn,copy_ifc,copy_tup])|refine DS.retT [] yE trivial ?_|fail)
 all_goals (simp only[tupV,nodeT];(repeat' split) <;> first|rfl|(exfalso;clear hs hk;grind))
theorem r4node_pc (s:GSet) (x:Node):PC Tryz.prog 145 [s.val,x.val] (I (nodeS s x)):=by
 obtain⟨op,what,n,m,op2,all,kinds⟩:=x
 have hs:=used_pc op
 by_cases h:1≤op∧op≤24
 ·have h24:op=1∨op=2∨op=3∨op=4∨op=5∨op=6∨op=7∨op=8∨op=9∨op=10∨op=11∨op=12∨op=13∨op=14∨op=15∨op=16∨op=17∨op=18∨op=19∨op=20∨op=21∨op=22∨op=23∨op=24:=by omega
  rcases h24 with rfl|rfl|rfl|rfl|rfl|rfl|rfl|rfl|rfl|rfl|rfl|rfl|rfl|rfl|rfl|rfl|rfl|rfl|rfl|rfl|rfl|rfl|rfl|rfl
  ·exact rnode00000_pc s ⟨1,what,n,m,op2,all,kinds⟩ _ hs h
  ·exact rnode00000_pc s ⟨2,what,n,m,op2,all,kinds⟩ _ hs h
  ·exact rnode00000_pc s ⟨3,what,n,m,op2,all,kinds⟩ _ hs h
  ·exact rnode00000_pc s ⟨4,what,n,m,op2,all,kinds⟩ _ hs h
  ·exact rnode01000_pc s ⟨5,what,n,m,op2,all,kinds⟩ _ 0 1000000 (by decide) hs h
  ·exact rnode01000_pc s ⟨6,what,n,m,op2,all,kinds⟩ _ 1 6 (by decide) hs h
  ·exact rnode01000_pc s ⟨7,what,n,m,op2,all,kinds⟩ _ 1 7 (by decide) hs h
  ·exact rnode00000_pc s ⟨8,what,n,m,op2,all,kinds⟩ _ hs h
  ·exact rnode00000_pc s ⟨9,what,n,m,op2,all,kinds⟩ _ hs h
  ·exact rnode11000_pc s ⟨10,what,n,m,op2,all,kinds⟩ _ 0 3 (by decide) hs h
  ·exact rnode01000_pc s ⟨11,what,n,m,op2,all,kinds⟩ _ 0 1000000 (by decide) hs h
  ·exact rnode00000_pc s ⟨12,what,n,m,op2,all,kinds⟩ _ hs h
  ·exact rnode00000_pc s ⟨13,what,n,m,op2,all,kinds⟩ _ hs h
  ·exact rnode00000_pc s ⟨14,what,n,m,op2,all,kinds⟩ _ hs h
  ·exact rnode01000_pc s ⟨15,what,n,m,op2,all,kinds⟩ _ 1 1000 (by decide) hs h
  ·exact rnode10011_pc s ⟨16,what,n,m,op2,all,kinds⟩ _ hs h
  ·exact rnode00001_pc s ⟨17,what,n,m,op2,all,kinds⟩ _ hs h
  ·exact rnode00000_pc s ⟨18,what,n,m,op2,all,kinds⟩ _ hs h
  ·exact rnode11000_pc s ⟨19,what,n,m,op2,all,kinds⟩ _ 1 2 (by decide) hs h
  ·exact rnode01000_pc s ⟨20,what,n,m,op2,all,kinds⟩ _ 1 2 (by decide) hs h
  ·exact rnode11100_pc s ⟨21,what,n,m,op2,all,kinds⟩ _ 2 4 1 3 (by decide) (by decide) hs h
  ·exact rnode11100_pc s ⟨22,what,n,m,op2,all,kinds⟩ _ 2 3 0 2 (by decide) (by decide) hs h
  ·exact rnode00000_pc s ⟨23,what,n,m,op2,all,kinds⟩ _ hs h
  ·exact rnode00000_pc s ⟨24,what,n,m,op2,all,kinds⟩ _ hs h
 ·rw[nodeS,if_pos h]
  refine DC.of_run Tryz.func145 rfl Tryz.ntmps145 Tryz.results145 (by simp) (fun _ _=>?_);simp only[argV_cons,argV_nil,go_sem,Nat.zero_add,Nat.reduceAdd]
  repeat' (first|(with_reducible first|refine DS.fltS yU yU yE ?_|refine DS.opsNil ?_|refine DS.seq ?_|refine DS.regionL ?_|(refine DS.cE yE ?_;refine CG.yes ?_))|refine DS.pcS inferInstance (betweenR_pc _ _ _) yR yT ?_|(refine DS.boxF (t:=2) yU yE yU ?_;simp only[cells_agg,cells_v,cells_lst,cells_fn,map_nil'',map_cons'',copy_own,copy_lst,copy_v,copy_at,copy_agg,copy_fn,copy_ifc,copy_tup])|(refine DS.boxF (t:=3) yU yE yU ?_;simp only[cells_agg,cells_v,cells_lst,cells_fn,map_nil'',map_cons'',copy_own,copy_lst,copy_v,copy_at,copy_agg,copy_fn,copy_ifc,copy_tup])|refine DS.retT [] yE trivial ?_|fail)
  all_goals first|rfl|(exfalso;omega)
end Go.XL
namespace Go.XL
open Go.Proofs
set_option maxRecDepth 100000
set_option maxHeartbeats 8000000
def headOk (l:List Node) (k:Nat) (p:Bool):Bool:=if h:k<l.length then numS l[k].op == p else true
def bhsI (l:List Node) (rec:Nat→Option (Nat×Bool)):List Bool→Nat→Bool→Option (Nat×Bool)
 | [],k,fine=>some (k,fine)
 | p::ps,k,fine=>match rec k with
  | none=>none
  | some (k',t)=>bhsI l rec ps k' (fine&&headOk l k p&&t)
def bhI (l:List Node):Nat→Nat→Option (Nat×Bool)
 | 0,_=>none
 | n+1,k=>if h:k<l.length then bhsI l (bhI l n) (useS l[k].op).parts (k+1) true else none
theorem bhsI_mono {l:List Node} {rec:Nat→Option (Nat×Bool)} (hr: ∀k k' t,rec k=some (k',t)→k<k'∧k'≤l.length): ∀{ps:List Bool} {k:Nat} {fine:Bool} {k':Nat} {t:Bool},k≤l.length→bhsI l rec ps k fine=some (k',t)→k≤k'∧k'≤l.length
 | [],k,fine,k',t,hk,h=>by rw[bhsI]at h;cases h;exact⟨Nat.le_refl _,hk⟩
 | p::ps,k,fine,k',t,hk,h=>by
  rw[bhsI]at h
  cases hq:rec k with
  | none=>rw[hq]at h;cases h
  | some x =>
   obtain⟨k2,t2⟩:=x
   rw[hq]at h
   obtain⟨a1,a2⟩:=hr k k2 t2 hq
   obtain⟨b1,b2⟩:=bhsI_mono hr a2 h
   exact⟨by omega,b2⟩
theorem bhI_mono {l:List Node}: ∀(n:Nat) (k k':Nat) (t:Bool),bhI l n k=some (k',t)→k<k'∧k'≤l.length
 | 0,k,k',t,h=>by rw[bhI]at h;cases h
 | n+1,k,k',t,h=>by
  rw[bhI]at h
  by_cases hk:k<l.length
  ·rw[dif_pos hk]at h
   obtain⟨a1,a2⟩:=bhsI_mono (bhI_mono n) (by omega) h
   exact⟨by omega,a2⟩
  ·rw[dif_neg hk]at h;cases h
theorem bhsI_ask {l:List Node} {n:Nat} (hb: ∀k,l.length-k<n→ ∀(p:Bool) (asked:List Bool) (typed:Bool),
   match bhI l n k with
   | some (k',t)=>askGo (l.drop k) (p::asked) typed=askGo (l.drop k') asked (typed&&headOk l k p&&t)
   | none=> ∃a ty,askGo (l.drop k) (p::asked) typed=some (a,ty)∧a≠ []) :
  ∀(ps:List Bool) (k:Nat) (fine:Bool) (asked:List Bool) (typed:Bool),l.length-k<n →
   match bhsI l (bhI l n) ps k fine with
   | some (k',t)=> ∃t',t=(fine&&t')∧askGo (l.drop k) (ps++asked) typed=askGo (l.drop k') asked (typed&&t')
   | none=> ∃a ty,askGo (l.drop k) (ps++asked) typed=some (a,ty)∧a≠ []
 | [],k,fine,asked,typed,hk=>by
  rw[bhsI]
  exact⟨true,by simp,by simp⟩
 | p::ps,k,fine,asked,typed,hk=>by
  have h1:=hb k hk p (ps++asked) typed
  rw[bhsI]
  cases hq:bhI l n k with
  | none=>rw[hq]at h1;exact h1
  | some x =>
   obtain⟨k2,t2⟩:=x
   rw[hq]at h1
   dsimp only at h1 ⊢
   obtain⟨a1,a2⟩:=bhI_mono n k k2 t2 hq
   have h2:=bhsI_ask hb ps k2 (fine&&headOk l k p&&t2) asked (typed&&headOk l k p&&t2) (by omega)
   rw[List.cons_append,h1]
   cases hs:bhsI l (bhI l n) ps k2 (fine&&headOk l k p&&t2)with
   | none=>rw[hs]at h2;exact h2
   | some y =>
    obtain⟨k3,t3⟩:=y
    rw[hs]at h2
    dsimp only at h2 ⊢
    obtain⟨t',e1,e2⟩:=h2
    exact⟨headOk l k p&&t2&&t',by rw[e1];simp[Bool.and_assoc],by rw[e2];simp[Bool.and_assoc]⟩
theorem bhI_ask {l:List Node}: ∀(n:Nat) (k:Nat),l.length-k<n→ ∀(p:Bool) (asked:List Bool) (typed:Bool),
   match bhI l n k with
   | some (k',t)=>askGo (l.drop k) (p::asked) typed=askGo (l.drop k') asked (typed&&headOk l k p&&t)
   | none=> ∃a ty,askGo (l.drop k) (p::asked) typed=some (a,ty)∧a≠ []
 | 0,k,h,_,_,_=>by omega
 | n+1,k,h,p,asked,typed=>by
  rw[bhI]
  by_cases hk:k<l.length
  ·rw[dif_pos hk]
   have hs:=bhsI_ask (l:=l) (n:=n) (fun k' h'=>bhI_ask n k' h') (useS l[k].op).parts (k+1) true asked (typed&&p == numS l[k].op) (by omega)
   have hh:headOk l k p=(p == numS l[k].op):=by rw[headOk,dif_pos hk,Bool.beq_comm]
   rw[askGo_step hk,hh]
   cases hq:bhsI l (bhI l n) (useS l[k].op).parts (k+1) true with
   | none=>rw[hq]at hs;exact hs
   | some x =>
    obtain⟨k2,t2⟩:=x
    rw[hq]at hs
    dsimp only at hs ⊢
    obtain⟨t',e1,e2⟩:=hs
    rw[e2,e1,Bool.true_and]
  ·rw[dif_neg hk,List.drop_eq_nil_of_le (by omega)]
   exact⟨p::asked,typed,rfl,by simp⟩
theorem cond_bh {s:GSet} {l:List Node} (h0:gsetS s=0) (h1:l.length≤60) (h2:nodesGo s l=0) (h3:0<l.length) :
  condX s l=match bhI l (l.length+1) 0 with
   | none=>(false,6)
   | some (k,t)=>if k<l.length then(false,5)else if t=false then(false,15)else(numS l[0].op,0):=by
 have hh:l.headD ⟨0,0,0,0,0,false,[]⟩=l[0]:=by
  cases l with
  | nil=>simp at h3
  | cons x r=>rfl
 have hs:=bhsI_ask (l:=l) (n:=l.length) (fun k' h'=>bhI_ask l.length k' h') (useS l[0].op).parts (0+1) true [] true (by omega)
 rw[condX,if_neg (by omega),if_neg (by omega),if_neg (by omega),askS_first h3,bhI,dif_pos h3]
 cases hq:bhsI l (bhI l l.length) (useS l[0].op).parts (0+1) true with
 | none =>
  rw[hq]at hs
  dsimp only at hs
  obtain⟨a,ty,e1,e2⟩:=hs
  rw[e1]
  dsimp only
  have:0<a.length:=List.length_pos_iff.2 e2
  rw[if_neg (by omega),if_pos (by omega)]
 | some x =>
  obtain⟨k2,t2⟩:=x
  rw[hq]at hs
  dsimp only at hs ⊢
  obtain⟨t',e1,e2⟩:=hs
  rw[e2,e1,Bool.true_and]
  by_cases hk:k2<l.length
  ·rw[askGo_none hk,if_pos hk]
  ·rw[List.drop_eq_nil_of_le (by omega),if_neg hk]
   dsimp only[askGo]
   rw[if_neg (by omega),if_neg (by simp),hh]
section
variable {P:Program} {n:Nat} {r:Rr} {Q:VEnv→Sto→Prop} {k:List Fr} {E:VEnv} {S:Sto} {dst:Option Tmp} {ty:TypeId} {pos:String} {af:Array Edge} {ops l:List Oper} {t:Nat}
theorem OpS.field1 {v0:VH} {T f m:Nat} {fs:Array Field} {fd:Field} {c:List V} {u:V} {x:Operand} (hT:P.underlying T=some (.struct fs)) (hf:fs[f]?=some fd) (he:tsz P fd.type=some (false,m)) (hx:evV E x=some (.agg c)) (hu:c[fd.offset]?=some u) :
  OpS v0 P n ⟨dst, .field T x f,ty,pos,af,none⟩ E S (fun v E' S'=>v=u.copy∧E'=E∧S'=S):=by
 intro K D hv hold env a w hfl ha s0
 obtain⟨y,e1,e2⟩:=s0.rl _ _ hx
 simp only[V.Rl]at e2
 obtain⟨ys,rfl,e2⟩:=e2
 obtain⟨ti,q1,q2,q3⟩:=tsz_some he
 obtain⟨z,hz,hr⟩:=e2.get hu
 have hz':ys.toArray[fd.offset]?=some z:=by simpa using hz
 have hrun:(execOp a.eval ⟨dst, .field T x f,ty,pos,af,none⟩).run P w = .ok (.value z) w:=by
  simp[execOp,Instr.field,run_underlying hT,hf,ha.ev e1,part,asAgg,q3,sizeOf_run q1,q2,hz]
 exact yields_value hrun ⟨Same.refl w,_,E,S,hv,hold,PreV.refl hv,s0.put dst (v:=u.copy) (V.copy_Rl hr) fun _ _=>V.free_Own (copy_free _) z,rfl,rfl,rfl⟩
theorem DS.field1 {T f m off:Nat} {fs:Array Field} {fd:Field} {c:List V} {u:V} {x:Operand} (hd:decide (t<n)=true) (hT:P.underlying T=some (.struct fs)) (hf:fs[f]?=some fd) (ho:fd.offset=off) (he:tsz P fd.type=some (false,m)) (hx:evV E x=some (.agg c)) (hu:c[off]?=some u)
  (q:DS P n r Q (.ops ops l::k) ((t,u.copy)::E) S):DS P n r Q (.ops ops (⟨some t, .field T x f,ty,pos,af,none⟩::l)::k) E S:=by
 subst ho
 refine DS.step rfl rfl hd (OpS.field1 hT hf he hx hu) fun v E' S' ⟨h1,h2,h3⟩=>?_
 subst h1;subst h2;subst h3;exact q
end
def bhV (x:Option (Nat×Bool)):V:=match x with
 | none => .tup [I (-1),Bo true]
 | some (k,t) => .tup [I k,Bo t]
theorem r4number_pc (x:Node):PC Tryz.prog 147 [x.val] (Bo (numS x.op)):=by
 refine DC.of_run Tryz.func147 rfl Tryz.ntmps147 Tryz.results147 (by simp) (fun _ _=>?_);simp only[argV_cons,argV_nil,go_sem,Nat.zero_add,Nat.reduceAdd]
 repeat' (first|(with_reducible first|refine DS.fltS yU yU yE ?_|refine DS.opsNil ?_|refine DS.seq ?_|refine DS.regionL ?_)|(refine DS.boxF (t:=1) yU yE yU ?_;simp only[cells_agg,cells_v,cells_lst,cells_fn,map_nil'',map_cons'',copy_own,copy_lst,copy_v,copy_at,copy_agg,copy_fn,copy_ifc,copy_tup])|refine DS.retT [] yE trivial ?_|fail)
 rfl
theorem behind_pc (l:List Node) (hl:l.length≤60): ∀(n k:Nat),l.length-k<n→k≤l.length→PC Tryz.prog 146 [nodesV l,I k] (bhV (bhI l n k))
 | 0,k,h,_=>by omega
 | n+1,k,h,hkl=>by
  by_cases hk:k<l.length
  ·have hk':(k:Int)<(l.length:Int):=by omega
   have hk2: ¬(l.length:Int)≤(k:Int):=by omega
   have hu:=used_pc l[k].op
   have hpl:=parts_len l[k].op
   have hsz:(partB (useS l[k].op).parts).size=(useS l[k].op).parts.length:=partB_size _
   have hrec:=fun k' h1 h2=>behind_pc l hl n k' h1 h2
   have hmono:=bhI_mono (l:=l) n
   rw[bhI,dif_pos hk]
   have HR:=Box.mk (And.intro hrec hmono)
   clear hrec hmono
   refine DC.of_run Tryz.func146 rfl Tryz.ntmps146 Tryz.results146 (by simp) (fun _ _=>?_);simp only[argV_cons,argV_nil,go_sem,Nat.zero_add,Nat.reduceAdd]
   refine DS.bnd (t:=0) yG (.inl rfl) (fun hb0=>?_);simp only[List.length_map]at hb0
   repeat' (first|(with_reducible first|refine DS.fltS yU yU yE ?_|refine DS.opsNil ?_|refine DS.seq ?_|refine DS.regionL ?_|(refine DS.cE yE ?_;refine CG.no ?_)|refine DS.skip ?_)|refine DS.pcS inferInstance (hu) yR yT ?_|fail)
   refine DS.field1 (off:=7) (m:=1) (by decide) Tryz.underlying223 yR yR (show tsz Tryz.prog 9=some (false,1) by kernel_rfl) yH (u:=St8 (partB (useS l[k].op).parts)) yR ?_
   simp only[copy_v]
   repeat' (first|(with_reducible first|refine DS.fltS yU yU yE ?_|refine DS.opsNil ?_|refine DS.seq ?_|refine DS.regionL ?_|refine DS.block ?_)|fail)
   refine DS.loopK [0,6] yN (fun(z:Nat×Nat×Bool)=> [(7,Bo z.2.2),(8,I z.2.1),(9,I z.1)]) (fun(z:Nat×Nat×Bool)=>z.1≤(useS l[k].op).parts.length∧k<z.2.1∧z.2.1≤l.length∧bhsI l (bhI l n) (useS l[k].op).parts (k+1) true=bhsI l (bhI l n) ((useS l[k].op).parts.drop z.1) z.2.1 z.2.2) (fun(z:Nat×Nat×Bool)=>(useS l[k].op).parts.length-z.1) (0,k+1,true) yS ⟨Nat.zero_le _,Nat.lt_succ_self _,hk,rfl⟩ (fun z B hI hB=>?_);try dsimp only at hI hB;simp only[app_cons',app_nil']
   obtain⟨i,nx,fine⟩:=z
   dsimp only at hI hB
   obtain⟨i1,i2,i3,i4⟩:=hI
   have HB:=Box.mk hB
   clear hB
   by_cases hi:(i:Int)<((useS l[k].op).parts.length:Int)
   ·have hi':i<(useS l[k].op).parts.length:=by omega
    rw[List.drop_eq_getElem_cons hi',bhsI]at i4
    have HI:=Box.mk i4
    clear i4
    obtain⟨c,hc1,hc2⟩:=partB_get (l:=(useS l[k].op).parts) (k:=i) hi'
    have hdec:decide ((c.toNat:Int)=110)=(useS l[k].op).parts[i]:=by
     rw[hc2]
     cases(useS l[k].op).parts[i] <;> rfl
    have hrec:=HR.out.1 nx (by omega) i3
    have hcb:=c.toNat_lt
    generalize (useS l[k].op).parts[i]=pb at *
    clear hc2
    cases hq:bhI l n nx with
    | none =>
     rw[hq]at hrec
     have hrec':PC Tryz.prog 146 [nodesV l,I nx] (.tup [I (-1),Bo true]):=hrec
     have e:bhsI l (bhI l n) (useS l[k].op).parts (k+1) true=none:=by rw[HI.out,hq]
     rw[e]
     clear e hrec HR HI HB hq
     by_cases hnl:(nx:Int)<(l.length:Int)
     ·have hnl':nx<l.length:=by omega
      have hnb:=r4number_pc l[nx]
      generalize numS l[nx].op=nb at *
      repeat' (first|(with_reducible first|refine DS.fltS yU yU yE ?_|refine DS.opsNil ?_|refine DS.seq ?_|refine DS.regionL ?_|(refine DS.cE yE ?_;first|refine CG.yes ?_|refine CG.b (fun _=>?_) (fun _=>?_))|(refine DS.gE yU yE ?_;refine GG.run ?_)|refine DS.block ?_|refine DS.skip ?_)|refine DS.pcS inferInstance (hrec') yR yT ?_|refine DS.drawL (id:=8) [0,1,2,3,4,5,6,7,8,9,10,11,12,13] 14 (by kernel_rfl) mixed (by simp only[pickL_cons,pickL_nil,get_zero',get_cons',pickO_some];exact rfl) (by simp only[drop_zero',drop_cons',List.drop_nil];exact rfl) ?_|(with_reducible first|refine DD.fltS yU yU yU yE ?_|(refine DD.gE yU yE ?_;refine DGG.run ?_)|refine DD.nil0 ?_)|refine DD.pcV0 inferInstance (hnb) yU yT ?_|refine DS.retT [] yE trivial ?_|fail)
      all_goals first|rfl|(exfalso;omega)
     ·repeat' (first|(with_reducible first|refine DS.fltS yU yU yE ?_|refine DS.opsNil ?_|refine DS.seq ?_|refine DS.regionL ?_|(refine DS.cE yE ?_;first|refine CG.yes ?_|refine CG.no ?_)|(refine DS.gE yU yE ?_;refine GG.sF ?_)|refine DS.block ?_|refine DS.skip ?_)|refine DS.pcS inferInstance (hrec') yR yT ?_|refine DS.drawL (id:=8) [0,1,2,3,4,5,6,7,8,9,10,11,12,13] 14 (by kernel_rfl) mixed (by simp only[pickL_cons,pickL_nil,get_zero',get_cons',pickO_some];exact rfl) (by simp only[drop_zero',drop_cons',List.drop_nil];exact rfl) ?_|(with_reducible first|refine DD.fltS yU yU yU yE ?_|(refine DD.gE yU yE ?_;refine DGG.sF ?_)|refine DD.nil0 ?_)|refine DS.retT [] yE trivial ?_|fail)
      all_goals first|rfl|(exfalso;omega)
    | some x =>
     obtain⟨k2,t⟩:=x
     rw[hq]at hrec
     have hrec':PC Tryz.prog 146 [nodesV l,I nx] (.tup [I k2,Bo t]):=hrec
     obtain⟨m1,m2⟩:=HR.out.2 nx k2 t hq
     have hi5:bhsI l (bhI l n) (useS l[k].op).parts (k+1) true=bhsI l (bhI l n) ((useS l[k].op).parts.drop (i+1)) k2 (fine&&headOk l nx pb&&t):=by rw[HI.out,hq]
     clear hrec HR HI hq
     by_cases hnl:(nx:Int)<(l.length:Int)
     ·have hnl':nx<l.length:=by omega
      have hnb:=r4number_pc l[nx]
      rw[headOk,dif_pos hnl']at hi5
      generalize numS l[nx].op=nb at *
      by_cases hm:nb=pb
      ·subst hm
       have hne:(nb !=nb)=false:=by simp
       rw[show(nb == nb)=true by simp,Bool.and_true]at hi5
       cases fine
       ·rw[Bool.false_and]at hi5
        have H5:=Box.mk hi5
        clear hi5
        repeat' (first|(with_reducible first|refine DS.fltS yU yU yE ?_|refine DS.opsNil ?_|refine DS.seq ?_|refine DS.regionL ?_|(refine DS.cE yE ?_;first|refine CG.p (fun _=>?_) (fun _=>?_)|refine CG.yes ?_|refine CG.no ?_)|(refine DS.gE yU yE ?_;first|refine GG.run ?_|refine GG.sF ?_)|refine DS.blk ?_|refine DS.block ?_|refine DS.skip ?_)|refine DS.pcS inferInstance (hrec') yR yT ?_|refine DS.drawL (id:=8) [0,1,2,3,4,5,6,7,8,9,10,11,12,13] 14 (by kernel_rfl) mixed (by simp only[pickL_cons,pickL_nil,get_zero',get_cons',pickO_some];exact rfl) (by simp only[drop_zero',drop_cons',List.drop_nil];exact rfl) ?_|(with_reducible first|refine DD.fltS yU yU yU yE ?_|(refine DD.gE yU yE ?_;refine DGG.run ?_)|refine DD.nil0 ?_)|refine DD.pcV0 inferInstance (hnb) yU yT ?_|fail)
        all_goals first
         | (exfalso;omega)
         | exact DS.back (HB.out (i+1,k2,false) _ _ (by dsimp only;omega) ⟨by dsimp only;omega,by dsimp only;omega,by dsimp only;omega,H5.out⟩ yS yS (fun b o e=>by cases e))
         | trace_state
       ·rw[Bool.true_and]at hi5
        have H5:=Box.mk hi5
        clear hi5
        repeat' (first|(with_reducible first|refine DS.fltS yU yU yE ?_|refine DS.opsNil ?_|refine DS.seq ?_|refine DS.regionL ?_|(refine DS.cE yE ?_;first|refine CG.p (fun _=>?_) (fun _=>?_)|refine CG.yes ?_|refine CG.no ?_)|(refine DS.gE yU yE ?_;refine GG.run ?_)|refine DS.blk ?_|refine DS.block ?_|refine DS.skip ?_)|refine DS.pcS inferInstance (hrec') yR yT ?_|refine DS.drawL (id:=8) [0,1,2,3,4,5,6,7,8,9,10,11,12,13] 14 (by kernel_rfl) mixed (by simp only[pickL_cons,pickL_nil,get_zero',get_cons',pickO_some];exact rfl) (by simp only[drop_zero',drop_cons',List.drop_nil];exact rfl) ?_|(with_reducible first|refine DD.fltS yU yU yU yE ?_|(refine DD.gE yU yE ?_;refine DGG.run ?_)|refine DD.nil0 ?_)|refine DD.pcV0 inferInstance (hnb) yU yT ?_|fail)
        all_goals first
         | (exfalso;omega)
         | exact DS.back (HB.out (i+1,k2,t) _ _ (by dsimp only;omega) ⟨by dsimp only;omega,by dsimp only;omega,by dsimp only;omega,H5.out⟩ yS yS (fun b o e=>by cases e))
         | trace_state
      ·have hne:(nb !=pb)=true:=by simpa using hm
       have hbe:(nb == pb)=false:=by simpa using hm
       rw[hbe,Bool.and_false,Bool.false_and]at hi5
       have H5:=Box.mk hi5
       clear hi5 hbe
       repeat' (first|(with_reducible first|refine DS.fltS yU yU yE ?_|refine DS.opsNil ?_|refine DS.seq ?_|refine DS.regionL ?_|(refine DS.cE yE ?_;first|refine CG.p (fun _=>?_) (fun _=>?_)|refine CG.yes ?_)|(refine DS.gE yU yE ?_;first|refine GG.run ?_|refine GG.sF ?_)|refine DS.blk ?_|refine DS.block ?_|refine DS.skip ?_)|refine DS.pcS inferInstance (hrec') yR yT ?_|refine DS.drawL (id:=8) [0,1,2,3,4,5,6,7,8,9,10,11,12,13] 14 (by kernel_rfl) mixed (by simp only[pickL_cons,pickL_nil,get_zero',get_cons',pickO_some];exact rfl) (by simp only[drop_zero',drop_cons',List.drop_nil];exact rfl) ?_|(with_reducible first|refine DD.fltS yU yU yU yE ?_|(refine DD.gE yU yE ?_;refine DGG.run ?_)|refine DD.nil0 ?_)|refine DD.pcV0 inferInstance (hnb) yU yT ?_|fail)
       all_goals first
        | (exfalso;omega)
        | exact DS.back (HB.out (i+1,k2,false) _ _ (by dsimp only;omega) ⟨by dsimp only;omega,by dsimp only;omega,by dsimp only;omega,H5.out⟩ yS yS (fun b o e=>by cases e))
        | trace_state
     ·rw[headOk,dif_neg (by omega),Bool.and_true]at hi5
      cases fine
      ·rw[Bool.false_and]at hi5
       have H5:=Box.mk hi5
       clear hi5
       repeat' (first|(with_reducible first|refine DS.fltS yU yU yE ?_|refine DS.opsNil ?_|refine DS.seq ?_|refine DS.regionL ?_|(refine DS.cE yE ?_;first|refine CG.yes ?_|refine CG.no ?_)|(refine DS.gE yU yE ?_;refine GG.sF ?_)|refine DS.block ?_|refine DS.skip ?_)|refine DS.pcS inferInstance (hrec') yR yT ?_|refine DS.drawL (id:=8) [0,1,2,3,4,5,6,7,8,9,10,11,12,13] 14 (by kernel_rfl) mixed (by simp only[pickL_cons,pickL_nil,get_zero',get_cons',pickO_some];exact rfl) (by simp only[drop_zero',drop_cons',List.drop_nil];exact rfl) ?_|(with_reducible first|refine DD.fltS yU yU yU yE ?_|(refine DD.gE yU yE ?_;refine DGG.sF ?_)|refine DD.nil0 ?_)|fail)
       all_goals first
        | (exfalso;omega)
        | exact DS.back (HB.out (i+1,k2,false) _ _ (by dsimp only;omega) ⟨by dsimp only;omega,by dsimp only;omega,by dsimp only;omega,H5.out⟩ yS yS (fun b o e=>by cases e))
        | trace_state
      ·rw[Bool.true_and]at hi5
       have H5:=Box.mk hi5
       clear hi5
       repeat' (first|(with_reducible first|refine DS.fltS yU yU yE ?_|refine DS.opsNil ?_|refine DS.seq ?_|refine DS.regionL ?_|(refine DS.cE yE ?_;first|refine CG.yes ?_|refine CG.no ?_)|(refine DS.gE yU yE ?_;refine GG.sF ?_)|refine DS.block ?_|refine DS.skip ?_)|refine DS.pcS inferInstance (hrec') yR yT ?_|refine DS.drawL (id:=8) [0,1,2,3,4,5,6,7,8,9,10,11,12,13] 14 (by kernel_rfl) mixed (by simp only[pickL_cons,pickL_nil,get_zero',get_cons',pickO_some];exact rfl) (by simp only[drop_zero',drop_cons',List.drop_nil];exact rfl) ?_|(with_reducible first|refine DD.fltS yU yU yU yE ?_|(refine DD.gE yU yE ?_;refine DGG.sF ?_)|refine DD.nil0 ?_)|fail)
       all_goals first
        | (exfalso;omega)
        | exact DS.back (HB.out (i+1,k2,t) _ _ (by dsimp only;omega) ⟨by dsimp only;omega,by dsimp only;omega,by dsimp only;omega,H5.out⟩ yS yS (fun b o e=>by cases e))
        | trace_state
   ·rw[i4,drop_end hi,bhsI]
    clear i4 HB HR
    repeat' (first|(with_reducible first|refine DS.fltS yU yU yE ?_|refine DS.opsNil ?_|refine DS.seq ?_|refine DS.regionL ?_|(refine DS.cE yE ?_;refine CG.no ?_)|refine DS.exit yU ?_)|refine DS.retT [] yE trivial ?_|fail)
    all_goals first|rfl|(exfalso;omega)
  ·rw[bhI,dif_neg hk]
   refine DC.of_run Tryz.func146 rfl Tryz.ntmps146 Tryz.results146 (by simp) (fun _ _=>?_);simp only[argV_cons,argV_nil,go_sem,Nat.zero_add,Nat.reduceAdd]
   repeat' (first|(with_reducible first|refine DS.fltS yU yU yE ?_|refine DS.opsNil ?_|refine DS.seq ?_|refine DS.regionL ?_|(refine DS.cE yE ?_;refine CG.p (fun _=>?_) (fun _=>?_))|refine DS.skip ?_)|refine DS.retT [] yE trivial ?_|fail)
   all_goals first|rfl|(exfalso;omega)
theorem r4cond_pc (s:GSet) (l:List Node):PC Tryz.prog 115 [s.val,nodesV l] (.tup [Bo (condX s l).1,I (condX s l).2]):=by
 have hc:=r1check_pc s
 by_cases h0:gsetS s=0
 ·rw[h0]at hc
  by_cases h1:60<(l.length:Int)
  ·have e:condX s l=(false,5):=by rw[condX,if_neg (by omega),if_pos h1]
   rw[e]
   refine DC.of_run Tryz.func115 rfl Tryz.ntmps115 Tryz.results115 (by simp) (fun _ _=>?_);simp only[argV_cons,argV_nil,go_sem,Nat.zero_add,Nat.reduceAdd]
   repeat' (first|(with_reducible first|refine DS.fltS yU yU yE ?_|refine DS.opsNil ?_|refine DS.seq ?_|refine DS.regionL ?_|(refine DS.cE yE ?_;first|refine CG.yes ?_|refine CG.no ?_)|refine DS.skip ?_)|refine DS.pcS inferInstance (hc) yR yT ?_|(refine DS.boxF (t:=2) yU yE yU ?_;simp only[cells_agg,cells_v,cells_lst,cells_fn,map_nil'',map_cons'',copy_own,copy_lst,copy_v,copy_at,copy_agg,copy_fn,copy_ifc,copy_tup])|refine DS.retT [] yE trivial ?_|fail)
   all_goals first|rfl|(exfalso;omega)
  ·have hbh:=behind_pc l (by omega) (l.length+1) 0 (by omega) (by omega)
   have hcb:=cond_bh (s:=s) (l:=l) h0 (by omega)
   have hbad:nodesGo s l≠0→condX s l=(false,nodesGo s l):=fun h=>by rw[condX,if_neg (by omega),if_neg h1,if_pos h]
   have hnil:nodesGo s l=0→l.length=0→condX s l=(false,0):=fun h h2=>by
    have:l= []:=List.eq_nil_of_length_eq_zero h2
    subst this
    rw[condX,if_neg (by omega),if_neg h1,if_neg (by omega)]
    rfl
   have HC:=Box.mk (And.intro hcb (And.intro hbad hnil))
   clear hcb hbad hnil
   generalize condX s l=R at *
   refine DC.of_run Tryz.func115 rfl Tryz.ntmps115 Tryz.results115 (by simp) (fun _ _=>?_);simp only[argV_cons,argV_nil,go_sem,Nat.zero_add,Nat.reduceAdd]
   repeat' (first|(with_reducible first|refine DS.fltS yU yU yE ?_|refine DS.opsNil ?_|refine DS.seq ?_|refine DS.regionL ?_|(refine DS.cE yE ?_;refine CG.no ?_)|refine DS.block ?_|refine DS.skip ?_)|refine DS.pcS inferInstance (hc) yR yT ?_|(refine DS.boxF (t:=2) yU yE yU ?_;simp only[cells_agg,cells_v,cells_lst,cells_fn,map_nil'',map_cons'',copy_own,copy_lst,copy_v,copy_at,copy_agg,copy_fn,copy_ifc,copy_tup])|fail)
   all_goals try (exfalso;omega)
   refine DS.loopK [1,2] yN (fun(i:Nat)=> [(7,I i)]) (fun(i:Nat)=>i≤l.length∧nodesGo s l=nodesGo s (l.drop i)) (fun(i:Nat)=>l.length-i) 0 yS ⟨Nat.zero_le _,rfl⟩ (fun i B hI hB=>?_);try dsimp only at hI hB;simp only[app_cons',app_nil']
   have HB:=Box.mk hB
   clear hB
   obtain⟨hI,hI2⟩:=hI
   by_cases hi:(i:Int)<(l.length:Int)
   ·have hi':i<l.length:=by omega
    rw[nodesGo_at hi']at hI2
    have hp:=r4node_pc s l[i]
    by_cases hz:nodeS s l[i]=0
    ·rw[hz]at hp
     rw[if_neg (by omega)]at hI2
     have H:=Box.mk hI2
     clear hI2 hbh hz
     repeat' (first|(with_reducible first|refine DS.fltS yU yU yE ?_|refine DS.opsNil ?_|refine DS.seq ?_|refine DS.regionL ?_|(refine DS.cE yE ?_;first|refine CG.yes ?_|refine CG.no ?_)|refine DS.blk ?_|refine DS.block ?_|refine DS.skip ?_)|refine DS.pcS inferInstance (hp) yR yT ?_|refine DS.drawL (id:=9) [0,1,2,3,4] 5 (by kernel_rfl) mixed (by simp only[pickL_cons,pickL_nil,get_zero',get_cons',pickO_some];exact rfl) (by simp only[drop_zero',drop_cons',List.drop_nil];exact rfl) ?_|(with_reducible first|refine DD.fltS yU yU yU yE ?_|refine DD.nil0 ?_)|fail)
     all_goals first
      | exact DS.back (HB.out (i+1) _ _ (by omega) ⟨by omega,H.out⟩ yS yS (fun b o e=>by cases e))
      | (exfalso;omega)
    ·rw[if_pos hz]at hI2
     rw[HC.out.2.1 (by rw[hI2];exact hz),hI2]
     clear hI2 hbh HB HC
     repeat' (first|(with_reducible first|refine DS.fltS yU yU yE ?_|refine DS.opsNil ?_|refine DS.seq ?_|refine DS.regionL ?_|(refine DS.cE yE ?_;refine CG.yes ?_)|refine DS.block ?_|refine DS.skip ?_)|refine DS.pcS inferInstance (hp) yR yT ?_|refine DS.drawL (id:=9) [0,1,2,3,4] 5 (by kernel_rfl) mixed (by simp only[pickL_cons,pickL_nil,get_zero',get_cons',pickO_some];exact rfl) (by simp only[drop_zero',drop_cons',List.drop_nil];exact rfl) ?_|(with_reducible first|refine DD.fltS yU yU yU yE ?_|refine DD.nil0 ?_)|refine DS.retT [] yE trivial ?_|fail)
     all_goals first|rfl|(exfalso;omega)
   ·have hz:nodesGo s l=0:=by rw[hI2,drop_end hi];rfl
    clear hI2 HB
    by_cases hl0:l.length=0
    ·rw[HC.out.2.2 hz hl0]
     have hl0':(l.length:Int)=0:=by omega
     clear HC hbh hz hl0
     repeat' (first|(with_reducible first|refine DS.fltS yU yU yE ?_|refine DS.opsNil ?_|refine DS.seq ?_|refine DS.regionL ?_|(refine DS.cE yE ?_;first|refine CG.p (fun _=>?_) (fun _=>?_)|refine CG.yes ?_)|refine DS.block ?_|refine DS.exit yU ?_|refine DS.skip ?_)|refine DS.drawL (id:=9) [0,1,2,3,4] 5 (by kernel_rfl) mixed (by simp only[pickL_cons,pickL_nil,get_zero',get_cons',pickO_some];exact rfl) (by simp only[drop_zero',drop_cons',List.drop_nil];exact rfl) ?_|(with_reducible first|refine DD.fltS yU yU yU yE ?_|refine DD.nil0 ?_)|refine DS.retT [] yE trivial ?_|fail)
     all_goals first|rfl|(exfalso;omega)
    ·have hl1:0<l.length:=by omega
     have hR:=HC.out.1 hz hl1
     have hnb:=r4number_pc l[0]
     clear HC hz
     cases hq:bhI l (l.length+1) 0 with
     | none =>
      rw[hq]at hbh hR
      have hbh':PC Tryz.prog 146 [nodesV l,I 0] (.tup [I (-1),Bo true]):=hbh
      rw[hR]
      clear hR hbh hnb hq
      repeat' (first|(with_reducible first|refine DS.fltS yU yU yE ?_|refine DS.opsNil ?_|refine DS.seq ?_|refine DS.regionL ?_|(refine DS.cE yE ?_;first|refine CG.p (fun _=>?_) (fun _=>?_)|refine CG.yes ?_|refine CG.no ?_)|refine DS.block ?_|refine DS.exit yU ?_|refine DS.skip ?_)|refine DS.pcS inferInstance (hbh') yR yT ?_|refine DS.retT [] yE trivial ?_|fail)
      all_goals first|rfl|(exfalso;omega)
     | some x =>
      obtain⟨k2,t⟩:=x
      rw[hq]at hbh hR
      have hbh':PC Tryz.prog 146 [nodesV l,I 0] (.tup [I k2,Bo t]):=hbh
      dsimp only at hR
      obtain⟨-,m2⟩:=bhI_mono _ _ _ _ hq
      clear hbh hq
      by_cases hk:k2<l.length
      ·rw[if_pos hk]at hR
       rw[hR]
       clear hR hnb
       repeat' (first|(with_reducible first|refine DS.fltS yU yU yE ?_|refine DS.opsNil ?_|refine DS.seq ?_|refine DS.regionL ?_|(refine DS.cE yE ?_;first|refine CG.p (fun _=>?_) (fun _=>?_)|refine CG.no ?_|refine CG.nb (fun _=>?_) (fun _=>?_))|refine DS.blk ?_|refine DS.block ?_|refine DS.exit yU ?_|refine DS.skip ?_)|refine DS.pcS inferInstance (hbh') yR yT ?_|refine DS.retT [] yE trivial ?_|fail)
       all_goals first|rfl|(exfalso;omega)
      ·rw[if_neg hk]at hR
       cases t with
       | false =>
        rw[if_pos rfl]at hR
        rw[hR]
        clear hR hnb
        repeat' (first|(with_reducible first|refine DS.fltS yU yU yE ?_|refine DS.opsNil ?_|refine DS.seq ?_|refine DS.regionL ?_|(refine DS.cE yE ?_;first|refine CG.p (fun _=>?_) (fun _=>?_)|refine CG.yes ?_|refine CG.no ?_)|refine DS.block ?_|refine DS.exit yU ?_|refine DS.skip ?_)|refine DS.pcS inferInstance (hbh') yR yT ?_|refine DS.retT [] yE trivial ?_|fail)
        all_goals first|rfl|(exfalso;omega)
       | true =>
        rw[if_neg (by decide)]at hR
        rw[hR]
        clear hR
        repeat' (first|(with_reducible first|refine DS.fltS yU yU yE ?_|refine DS.opsNil ?_|refine DS.seq ?_|refine DS.regionL ?_|(refine DS.cE yE ?_;first|refine CG.p (fun _=>?_) (fun _=>?_)|refine CG.no ?_)|refine DS.blk ?_|refine DS.block ?_|refine DS.exit yU ?_|refine DS.skip ?_)|refine DS.pcS inferInstance (hbh') yR yT ?_|refine DS.pcS inferInstance (hnb) yR yT ?_|refine DS.retT [] yE trivial ?_|fail)
        all_goals first|rfl|(exfalso;omega)
 ·have e:condX s l=(false,gsetS s):=by rw[condX,if_pos h0]
  rw[e]
  refine DC.of_run Tryz.func115 rfl Tryz.ntmps115 Tryz.results115 (by simp) (fun _ _=>?_);simp only[argV_cons,argV_nil,go_sem,Nat.zero_add,Nat.reduceAdd]
  repeat' (first|(with_reducible first|refine DS.fltS yU yU yE ?_|refine DS.opsNil ?_|refine DS.seq ?_|refine DS.regionL ?_|(refine DS.cE yE ?_;refine CG.yes ?_))|refine DS.pcS inferInstance (hc) yR yT ?_|(refine DS.boxF (t:=2) yU yE yU ?_;simp only[cells_agg,cells_v,cells_lst,cells_fn,map_nil'',map_cons'',copy_own,copy_lst,copy_v,copy_at,copy_agg,copy_fn,copy_ifc,copy_tup])|refine DS.retT [] yE trivial ?_|fail)
  all_goals first|rfl|(exfalso;omega)
end Go.XL
namespace Go.XL
open Go.Proofs
set_option maxRecDepth 100000
set_option maxHeartbeats 8000000
def nameGo :List UInt8→Bool
 | []=>true
 | c::l=>nameC c&&nameGo l
theorem nameGo_all : ∀l:List UInt8,nameGo l=l.all nameC
 | []=>rfl
 | c::l=>by rw[nameGo,List.all_cons,nameGo_all l]
theorem nameC_eq (c:UInt8):nameC c=decide ((97≤(c.toNat:Int)∧(c.toNat:Int)≤122)∨(48≤(c.toNat:Int)∧(c.toNat:Int)≤57)∨(c.toNat:Int)=45):=by
 rw[Bool.eq_iff_iff]
 simp only[nameC,Bool.or_eq_true,Bool.and_eq_true,decide_eq_true_eq]
 omega
theorem r4named_pc (s:ByteArray) (hs:s.size≤9223372036854775807):PC Tryz.prog 113 [St8 s] (Bo (namedB s)):=by
 have hn:namedB s=(nameGo s.data.toList&&decide (1≤(s.size:Int)∧(s.size:Int)≤24)):=by rw[namedB,nameGo_all,Bool.and_comm]
 rw[hn]
 clear hn
 have hlen:s.data.toList.length=s.size:=by rw[Array.length_toList];rfl
 refine DC.of_run Tryz.func113 rfl Tryz.ntmps113 Tryz.results113 (by simp) (fun _ _=>?_);simp only[argV_cons,argV_nil,go_sem,Nat.zero_add,Nat.reduceAdd]
 repeat' (first|(with_reducible first|refine DS.fltS yU yU yE ?_|refine DS.opsNil ?_|refine DS.seq ?_|refine DS.regionL ?_|refine DS.block ?_)|fail)
 refine DS.loopK [0] yN (fun(i:Nat)=> [(3,I i)]) (fun(i:Nat)=>i≤s.size∧nameGo s.data.toList=nameGo (s.data.toList.drop i)) (fun(i:Nat)=>s.size-i) 0 yS ⟨Nat.zero_le _,rfl⟩ (fun i B hI hB=>?_);try dsimp only at hI hB;simp only[app_cons',app_nil']
 have HB:=Box.mk hB
 clear hB
 obtain⟨hI,hI2⟩:=hI
 by_cases hi:(i:Int)<(s.size:Int)
 ·have hi':i<s.data.toList.length:=by omega
  rw[List.drop_eq_getElem_cons hi',nameGo,nameC_eq]at hI2
  have hc:s[i]?=some s.data.toList[i]:=by
   rw[getElem?_pos s i (by omega)]
   simp[ByteArray.getElem_eq_getElem_data]
  generalize s.data.toList[i]=c at *
  have hcb:=c.toNat_lt
  have HI:=Box.mk hI2
  clear hI2 hi' hlen
  repeat' (first|(with_reducible first|refine DS.fltS yU yU yE ?_|refine DS.opsNil ?_|refine DS.seq ?_|refine DS.regionL ?_|(refine DS.cE yE ?_;first|refine CG.np (fun _=>?_) (fun _=>?_)|refine CG.yes ?_|refine CG.no ?_)|(refine DS.gE yU yE ?_;first|refine GG.sU ?_|refine GG.npT (fun _=>?_) (fun _=>?_)|refine GG.pT (fun _=>?_) (fun _=>?_)|refine GG.run ?_|refine GG.sF ?_)|refine DS.blk ?_|refine DS.block ?_|refine DS.skip ?_)|refine DS.retT [] yE trivial ?_|fail)
  all_goals first
   | (exfalso;omega)
   | (rw[HI.out,decide_eq_false (by omega),Bool.false_and,Bool.false_and];rfl)
   | exact DS.back (HB.out (i+1) _ _ (by omega) ⟨by omega,by rw[HI.out,decide_eq_true (by omega),Bool.true_and]⟩ yS yS (fun b o e=>by cases e))
   | trace_state
 ·rw[List.drop_eq_nil_of_le (by omega)]at hI2
  rw[hI2]
  clear hI2 HB
  repeat' (first|(with_reducible first|refine DS.fltS yU yU yE ?_|refine DS.opsNil ?_|refine DS.seq ?_|refine DS.regionL ?_|(refine DS.cE yE ?_;refine CG.no ?_)|refine DS.exit yU ?_)|refine DS.pcS inferInstance (betweenR_pc _ _ _) yR yT ?_|refine DS.retT [] yE trivial ?_|fail)
  rfl
end Go.XL
namespace Go.XL
open Go.Proofs
set_option maxRecDepth 100000
set_option maxHeartbeats 8000000
def feed1 (s:GSet) (f:Feed):Int:=if(f.kinds.length:Int)=0 then 6 else if ascS (kindsS s) f.kinds≠0 then ascS (kindsS s) f.kinds else if ¬(1≤f.many∧f.many≤s.melds)then 2 else 0
theorem feedsGo_at1 {s:GSet} {l:List Feed} {i:Nat} (hi:i<l.length):feedsGo s (l.drop i)=if feed1 s l[i]≠0 then feed1 s l[i]else feedsGo s (l.drop (i+1)):=by
 rw[feedsGo_at hi,feed1]
 (repeat' split) <;> first|rfl|(exfalso;omega)
theorem r4feed_pc (s:GSet) (f:Feed):PC Tryz.prog 148 [s.val,f.val] (I (feed1 s f)):=by
 have hk:=r4kinds_pc s f.kinds
 rw[feed1]
 refine DC.of_run Tryz.func148 rfl Tryz.ntmps148 Tryz.results148 (by simp) (fun _ _=>?_);simp only[argV_cons,argV_nil,go_sem,Nat.zero_add,Nat.reduceAdd]
 repeat' (first|(with_reducible first|refine DS.fltS yU yU yE ?_|refine DS.opsNil ?_|refine DS.seq ?_|refine DS.regionL ?_|(refine DS.cE yE ?_;first|refine CG.np (fun _=>?_) (fun _=>?_)|refine CG.p (fun _=>?_) (fun _=>?_))|refine DS.skip ?_)|refine DS.pcS inferInstance (hk) yR yT ?_|refine DS.pcS inferInstance (betweenR_pc _ _ _) yR yT ?_|(refine DS.boxF (t:=2) yU yE yU ?_;simp only[cells_agg,cells_v,cells_lst,cells_fn,map_nil'',map_cons'',copy_own,copy_lst,copy_v,copy_at,copy_agg,copy_fn,copy_ifc,copy_tup])|(refine DS.boxF (t:=3) yU yE yU ?_;simp only[cells_agg,cells_v,cells_lst,cells_fn,map_nil'',map_cons'',copy_own,copy_lst,copy_v,copy_at,copy_agg,copy_fn,copy_ifc,copy_tup])|refine DS.retT [] yE trivial ?_|fail)
 all_goals (clear hk;simp only[tupV];(repeat' split) <;> first|rfl|(exfalso;omega))
theorem r4play_pc (s:GSet) (p:Play):PC Tryz.prog 119 [s.val,p.val] (I (playS s p)):=by
 have hc:=r1check_pc s
 by_cases h0:gsetS s=0
 ·rw[h0]at hc
  rw[playS,if_neg (by omega)]
  refine DC.of_run Tryz.func119 rfl Tryz.ntmps119 Tryz.results119 (by simp) (fun _ _=>?_);simp only[argV_cons,argV_nil,go_sem,Nat.zero_add,Nat.reduceAdd]
  repeat' (first|(with_reducible first|refine DS.fltS yU yU yE ?_|refine DS.opsNil ?_|refine DS.seq ?_|refine DS.regionL ?_|(refine DS.cE yE ?_;first|refine CG.np (fun _=>?_) (fun _=>?_)|refine CG.p (fun _=>?_) (fun _=>?_)|refine CG.yes ?_|refine CG.no ?_)|(refine DS.gE yU yE ?_;first|refine GG.npF (fun _=>?_) (fun _=>?_)|refine GG.run ?_|refine GG.sT ?_)|refine DS.skip ?_)|refine DS.pcS inferInstance (hc) yR yF ?_|refine DS.pcS inferInstance (betweenR_pc _ _ _) yR yF ?_|(refine DS.boxF (t:=2) yU yE yU ?_;simp only[cells_agg,cells_v,cells_lst,cells_fn,map_nil'',map_cons'',copy_own,copy_lst,copy_v,copy_at,copy_agg,copy_fn,copy_ifc,copy_tup])|(refine DS.boxF (t:=3) yU yE yU ?_;simp only[cells_agg,cells_v,cells_lst,cells_fn,map_nil'',map_cons'',copy_own,copy_lst,copy_v,copy_at,copy_agg,copy_fn,copy_ifc,copy_tup])|refine DS.retT [] yE trivial ?_|fail)
  all_goals (clear hc;simp only[tupV];(repeat' split) <;> first|rfl|(exfalso;omega))
 ·rw[playS,if_pos h0]
  refine DC.of_run Tryz.func119 rfl Tryz.ntmps119 Tryz.results119 (by simp) (fun _ _=>?_);simp only[argV_cons,argV_nil,go_sem,Nat.zero_add,Nat.reduceAdd]
  repeat' (first|(with_reducible first|refine DS.fltS yU yU yE ?_|refine DS.opsNil ?_|refine DS.seq ?_|refine DS.regionL ?_|(refine DS.cE yE ?_;refine CG.yes ?_))|refine DS.pcS inferInstance (hc) yR yT ?_|(refine DS.boxF (t:=2) yU yE yU ?_;simp only[cells_agg,cells_v,cells_lst,cells_fn,map_nil'',map_cons'',copy_own,copy_lst,copy_v,copy_at,copy_agg,copy_fn,copy_ifc,copy_tup])|(refine DS.boxF (t:=3) yU yE yU ?_;simp only[cells_agg,cells_v,cells_lst,cells_fn,map_nil'',map_cons'',copy_own,copy_lst,copy_v,copy_at,copy_agg,copy_fn,copy_ifc,copy_tup])|refine DS.retT [] yE trivial ?_|fail)
  all_goals first|rfl|(exfalso;omega)
theorem r4other_pc (l : List Int) (own many : Int) (hm : 0 ≤ many ∧ many ≤ 1000000) : PC Tryz.prog 116 [ints l, I own, I many] (I (othersS l own many)) := by
  refine DC.of_run Tryz.func116 rfl Tryz.ntmps116 Tryz.results116 (by simp) (fun _ _ => ?_); simp only [argV_cons, argV_nil, go_sem, Nat.zero_add, Nat.reduceAdd]
  refine DS.bnd (t := 0) yG (.inl rfl) (fun hb0 => ?_); simp only [List.length_map] at hb0
  repeat' (first | (with_reducible first | refine DS.fltS yU yU yE ?_ | refine DS.opsNil ?_ | refine DS.seq ?_ | refine DS.regionL ?_ | (refine DS.cE yE ?_; refine CG.p (fun _ => ?_) (fun _ => ?_)) | refine DS.block ?_ | refine DS.skip ?_) | refine DS.retT [] yE trivial ?_ | fail)
  · simp [tupV, othersS, *]
  refine DS.loopK [0, 1, 2] yN (fun (i : Nat) => [(7, I i)]) (fun (i : Nat) => i ≤ l.length ∧ othersS l own many = othersGo own many (l.drop i) (prevL l i)) (fun (i : Nat) => l.length - i) 0 yS (by simp [othersS, prevL, *]) (fun i B hI hB => ?_); try dsimp only at hI hB; simp only [app_cons', app_nil']
  have HB := Box.mk hB
  clear hB
  obtain ⟨hI, hI2⟩ := hI
  by_cases hi : (i : Int) < (l.length : Int)
  · have hi' : i < l.length := by omega
    have hp : i - 1 < l.length := by omega
    rw [othersGo_at hi'] at hI2
    have HI := Box.mk hI2
    clear hI2
    repeat' (first | (with_reducible first | refine DS.fltS yU yU yE ?_ | refine DS.opsNil ?_ | refine DS.seq ?_ | refine DS.regionL ?_ | (refine DS.cE yE ?_; first | refine CG.np (fun _ => ?_) (fun _ => ?_) | refine CG.p (fun _ => ?_) (fun _ => ?_) | refine CG.yes ?_ | refine CG.no ?_) | (refine DS.gE yU yE ?_; first | refine GG.run ?_ | refine GG.sF ?_) | refine DS.blk ?_ | refine DS.block ?_ | refine DS.skip ?_) | refine DS.pcS inferInstance (betweenR_pc _ _ _) yR yT ?_ | refine DS.drawL (id := 10) [0, 1, 2, 3, 4, 5, 6, 7, 8, 9, 10, 11] 12 (by kernel_rfl) mixed (by simp only [pickL_cons, pickL_nil, get_zero', get_cons', pickO_some]; exact rfl) (by simp only [drop_zero', drop_cons', List.drop_nil]; exact rfl) ?_ | (with_reducible first | refine DD.fltS yU yU yU yE ?_ | (refine DD.gE yU yE ?_; first | refine DGG.pT (fun _ => ?_) (fun _ => ?_) | refine DGG.run ?_ | refine DGG.sF ?_) | refine DD.nil0 ?_) | refine DS.retT [] yE trivial ?_ | fail)
    all_goals first
      | (exfalso; omega)
      | ((try rw [prevL_zero (by assumption)] at HI); (try rw [prevL_pos (by assumption) hp] at HI); (try simp only [anyO_none, anyO_some, decide_eq_true_eq, Bool.false_eq_true, if_false] at HI)
         first
          | (rw [HI.out]; (repeat' split) <;> first | rfl | (exfalso; omega))
          | exact DS.back (HB.out (i + 1) _ _ (by omega) ⟨by omega, by rw [HI.out, prevL_succ hi']; (repeat' split) <;> first | rfl | (exfalso; omega)⟩ yS yS (fun b o e => by cases e)))
  · repeat' (first | (with_reducible first | refine DS.fltS yU yU yE ?_ | refine DS.opsNil ?_ | refine DS.seq ?_ | refine DS.regionL ?_ | (refine DS.cE yE ?_; refine CG.no ?_) | refine DS.exit yU ?_) | refine DS.retT [] yE trivial ?_ | fail)
    rw [hI2, drop_end hi]; rfl
end Go.XL
namespace Go.XL
open Go.Proofs
set_option maxRecDepth 100000
set_option maxHeartbeats 8000000
theorem places_at {l:List Int} {i:Nat} (hi:i<l.length):placesB (l.drop i)=(decide (-1000000≤l[i]∧l[i]≤1000000)&&placesB (l.drop (i+1))):=by
 rw[List.drop_eq_getElem_cons hi,placesB,List.all_cons];rfl
def ptsL (p:Pay):List Int:= [p.basic,p.counter,p.stick,p.pool,p.foul,p.start]
theorem r4pay_pc (s:GSet) (p:Pay):PC Tryz.prog 118 [s.val,p.val] (I (payS s p)):=by
 have hc:=r1check_pc s
 by_cases h0:gsetS s=0
 ·have hpl:=(gset_ok h0).players
  rw[h0]at hc
  have e1:(ptB p.basic&&ptB p.counter&&ptB p.stick&&ptB p.pool&&ptB p.foul&&ptB p.start)=((ptsL p).all fun n=>decide (0≤n∧n≤1000000)):=by
   simp[ptB,ptsL,Bool.and_assoc]
  have hpay:payS s p=if ¬(1≤p.mode∧p.mode≤3)then 4 else
   if((ptsL p).all fun n=>decide (0≤n∧n≤1000000))=false then 2 else if p.pool % 6≠0 then 2 else if ¬(1≤p.rounds∧p.rounds≤16)then 2 else if ¬(0≤p.stay∧p.stay≤7)then 2 else
   if 0<(p.places.length:Int)∧(p.places.length:Int)≠s.players then 3 else if placesB p.places=false then 2 else if sumI p.places≠0 then 12 else
   if 4<(p.feeds.length:Int)then 8 else feedsGo s p.feeds:=by rw[payS,if_neg (by omega),e1]
  clear e1
  by_cases hm:1≤p.mode∧p.mode≤3
  ·rw[if_neg (by omega)]at hpay
   rw[hpay]
   clear hpay
   refine DC.of_run Tryz.func118 rfl Tryz.ntmps118 Tryz.results118 (by simp) (fun _ _=>?_);simp only[argV_cons,argV_nil,go_sem,Nat.zero_add,Nat.reduceAdd]
   repeat' (first|(with_reducible first|refine DS.fltS yU yU yE ?_|refine DS.opsNil ?_|refine DS.seq ?_|refine DS.regionL ?_|(refine DS.cE yE ?_;refine CG.no ?_)|refine DS.block ?_|refine DS.skip ?_)|(refine DS.bsl yU yE yE ?_;simp only[go_sem,Nat.zero_add,Nat.reduceAdd])|refine DS.pcS inferInstance (hc) yR yT ?_|refine DS.pcS inferInstance (betweenR_pc _ _ _) yR yT ?_|(refine DS.boxF (t:=2) yU yE yU ?_;simp only[cells_agg,cells_v,cells_lst,cells_fn,map_nil'',map_cons'',copy_own,copy_lst,copy_v,copy_at,copy_agg,copy_fn,copy_ifc,copy_tup])|(refine DS.boxF (t:=3) yU yE yU ?_;simp only[cells_agg,cells_v,cells_lst,cells_fn,map_nil'',map_cons'',copy_own,copy_lst,copy_v,copy_at,copy_agg,copy_fn,copy_ifc,copy_tup])|fail)
   all_goals try (exfalso;omega)
   refine DS.loopK [2,3,6] yN (fun(i:Nat)=> [(7,I i)]) (fun(i:Nat)=>i≤6∧(((ptsL p).take i).all fun n=>decide (0≤n∧n≤1000000))=true) (fun(i:Nat)=>6-i) 0 yS ⟨by omega,rfl⟩ (fun i B hI hB=>?_);try dsimp only at hI hB;simp only[app_cons',app_nil']
   have HB:=Box.mk hB
   clear hB
   obtain⟨hI,hI2⟩:=hI
   have hcase:i=0∨i=1∨i=2∨i=3∨i=4∨i=5∨i=6:=by omega
   rcases hcase with q|q|q|q|q|q|q
   ·subst q
    have ca:((0:Nat):Int)=0:=rfl
    have cb:((1:Nat):Int)=1:=rfl
    by_cases hn:0≤p.basic∧p.basic≤1000000
    ·have hnx:(((ptsL p).take 1).all fun n=>decide (0≤n∧n≤1000000))=true:=by
      simp only[ptsL,List.take_succ_cons,List.take_zero,List.all_cons,List.all_nil,Bool.and_true,Bool.and_eq_true,decide_eq_true_eq]at hI2 ⊢
      omega
     have HN:=Box.mk hnx
     clear hI2 hnx
     repeat' (first|(with_reducible first|refine DS.fltS yU yU yX5 ?_|refine DS.opsNil ?_|refine DS.seq ?_|refine DS.regionL ?_|(refine DS.cE yX5 ?_;first|refine CG.np (fun _=>?_) (fun _=>?_)|refine CG.p (fun _=>?_) (fun _=>?_)|refine CG.yes ?_|refine CG.no ?_)|(refine DS.gE yU yX5 ?_;first|refine GG.npT (fun _=>?_) (fun _=>?_)|refine GG.npF (fun _=>?_) (fun _=>?_)|refine GG.run ?_|refine GG.sF ?_|refine GG.sT ?_)|refine DS.blk ?_|refine DS.block ?_|refine DS.exit yU ?_|refine DS.skip ?_)|refine DS.pcS inferInstance (betweenR_pc _ _ _) yR yX6 ?_|refine DS.retT [] yX5 trivial ?_|fail)
     all_goals first
      | exact DS.back (HB.out 1 _ _ (by omega) ⟨by omega,HN.out⟩ yS yS (fun b o e=>by cases e))
      | (exfalso;omega)
    ·have e:((ptsL p).all fun n=>decide (0≤n∧n≤1000000))=false:=by
      rw[Bool.eq_false_iff]
      intro h
      simp only[ptsL,List.all_cons,List.all_nil,Bool.and_true,Bool.and_eq_true,decide_eq_true_eq]at h
      omega
     rw[if_pos e]
     clear e hI2
     repeat' (first|(with_reducible first|refine DS.fltS yU yU yX5 ?_|refine DS.opsNil ?_|refine DS.seq ?_|refine DS.regionL ?_|(refine DS.cE yX5 ?_;first|refine CG.np (fun _=>?_) (fun _=>?_)|refine CG.p (fun _=>?_) (fun _=>?_)|refine CG.yes ?_|refine CG.no ?_)|(refine DS.gE yU yX5 ?_;first|refine GG.npT (fun _=>?_) (fun _=>?_)|refine GG.npF (fun _=>?_) (fun _=>?_)|refine GG.run ?_|refine GG.sF ?_|refine GG.sT ?_)|refine DS.block ?_|refine DS.exit yU ?_|refine DS.skip ?_)|refine DS.pcS inferInstance (betweenR_pc _ _ _) yR yX6 ?_|refine DS.retT [] yX5 trivial ?_|fail)
     all_goals first|rfl|(exfalso;omega)
   ·subst q
    have ca:((1:Nat):Int)=1:=rfl
    have cb:((2:Nat):Int)=2:=rfl
    by_cases hn:0≤p.counter∧p.counter≤1000000
    ·have hnx:(((ptsL p).take 2).all fun n=>decide (0≤n∧n≤1000000))=true:=by
      simp only[ptsL,List.take_succ_cons,List.take_zero,List.all_cons,List.all_nil,Bool.and_true,Bool.and_eq_true,decide_eq_true_eq]at hI2 ⊢
      omega
     have HN:=Box.mk hnx
     clear hI2 hnx
     repeat' (first|(with_reducible first|refine DS.fltS yU yU yX5 ?_|refine DS.opsNil ?_|refine DS.seq ?_|refine DS.regionL ?_|(refine DS.cE yX5 ?_;first|refine CG.np (fun _=>?_) (fun _=>?_)|refine CG.p (fun _=>?_) (fun _=>?_)|refine CG.yes ?_|refine CG.no ?_)|(refine DS.gE yU yX5 ?_;first|refine GG.npT (fun _=>?_) (fun _=>?_)|refine GG.npF (fun _=>?_) (fun _=>?_)|refine GG.run ?_|refine GG.sF ?_|refine GG.sT ?_)|refine DS.blk ?_|refine DS.block ?_|refine DS.exit yU ?_|refine DS.skip ?_)|refine DS.pcS inferInstance (betweenR_pc _ _ _) yR yX6 ?_|refine DS.retT [] yX5 trivial ?_|fail)
     all_goals first
      | exact DS.back (HB.out 2 _ _ (by omega) ⟨by omega,HN.out⟩ yS yS (fun b o e=>by cases e))
      | (exfalso;omega)
    ·have e:((ptsL p).all fun n=>decide (0≤n∧n≤1000000))=false:=by
      rw[Bool.eq_false_iff]
      intro h
      simp only[ptsL,List.all_cons,List.all_nil,Bool.and_true,Bool.and_eq_true,decide_eq_true_eq]at h
      omega
     rw[if_pos e]
     clear e hI2
     repeat' (first|(with_reducible first|refine DS.fltS yU yU yX5 ?_|refine DS.opsNil ?_|refine DS.seq ?_|refine DS.regionL ?_|(refine DS.cE yX5 ?_;first|refine CG.np (fun _=>?_) (fun _=>?_)|refine CG.p (fun _=>?_) (fun _=>?_)|refine CG.yes ?_|refine CG.no ?_)|(refine DS.gE yU yX5 ?_;first|refine GG.npT (fun _=>?_) (fun _=>?_)|refine GG.npF (fun _=>?_) (fun _=>?_)|refine GG.run ?_|refine GG.sF ?_|refine GG.sT ?_)|refine DS.block ?_|refine DS.exit yU ?_|refine DS.skip ?_)|refine DS.pcS inferInstance (betweenR_pc _ _ _) yR yX6 ?_|refine DS.retT [] yX5 trivial ?_|fail)
     all_goals first|rfl|(exfalso;omega)
   ·subst q
    have ca:((2:Nat):Int)=2:=rfl
    have cb:((3:Nat):Int)=3:=rfl
    by_cases hn:0≤p.stick∧p.stick≤1000000
    ·have hnx:(((ptsL p).take 3).all fun n=>decide (0≤n∧n≤1000000))=true:=by
      simp only[ptsL,List.take_succ_cons,List.take_zero,List.all_cons,List.all_nil,Bool.and_true,Bool.and_eq_true,decide_eq_true_eq]at hI2 ⊢
      omega
     have HN:=Box.mk hnx
     clear hI2 hnx
     repeat' (first|(with_reducible first|refine DS.fltS yU yU yX5 ?_|refine DS.opsNil ?_|refine DS.seq ?_|refine DS.regionL ?_|(refine DS.cE yX5 ?_;first|refine CG.np (fun _=>?_) (fun _=>?_)|refine CG.p (fun _=>?_) (fun _=>?_)|refine CG.yes ?_|refine CG.no ?_)|(refine DS.gE yU yX5 ?_;first|refine GG.npT (fun _=>?_) (fun _=>?_)|refine GG.npF (fun _=>?_) (fun _=>?_)|refine GG.run ?_|refine GG.sF ?_|refine GG.sT ?_)|refine DS.blk ?_|refine DS.block ?_|refine DS.exit yU ?_|refine DS.skip ?_)|refine DS.pcS inferInstance (betweenR_pc _ _ _) yR yX6 ?_|refine DS.retT [] yX5 trivial ?_|fail)
     all_goals first
      | exact DS.back (HB.out 3 _ _ (by omega) ⟨by omega,HN.out⟩ yS yS (fun b o e=>by cases e))
      | (exfalso;omega)
    ·have e:((ptsL p).all fun n=>decide (0≤n∧n≤1000000))=false:=by
      rw[Bool.eq_false_iff]
      intro h
      simp only[ptsL,List.all_cons,List.all_nil,Bool.and_true,Bool.and_eq_true,decide_eq_true_eq]at h
      omega
     rw[if_pos e]
     clear e hI2
     repeat' (first|(with_reducible first|refine DS.fltS yU yU yX5 ?_|refine DS.opsNil ?_|refine DS.seq ?_|refine DS.regionL ?_|(refine DS.cE yX5 ?_;first|refine CG.np (fun _=>?_) (fun _=>?_)|refine CG.p (fun _=>?_) (fun _=>?_)|refine CG.yes ?_|refine CG.no ?_)|(refine DS.gE yU yX5 ?_;first|refine GG.npT (fun _=>?_) (fun _=>?_)|refine GG.npF (fun _=>?_) (fun _=>?_)|refine GG.run ?_|refine GG.sF ?_|refine GG.sT ?_)|refine DS.block ?_|refine DS.exit yU ?_|refine DS.skip ?_)|refine DS.pcS inferInstance (betweenR_pc _ _ _) yR yX6 ?_|refine DS.retT [] yX5 trivial ?_|fail)
     all_goals first|rfl|(exfalso;omega)
   ·subst q
    have ca:((3:Nat):Int)=3:=rfl
    have cb:((4:Nat):Int)=4:=rfl
    by_cases hn:0≤p.pool∧p.pool≤1000000
    ·have hnx:(((ptsL p).take 4).all fun n=>decide (0≤n∧n≤1000000))=true:=by
      simp only[ptsL,List.take_succ_cons,List.take_zero,List.all_cons,List.all_nil,Bool.and_true,Bool.and_eq_true,decide_eq_true_eq]at hI2 ⊢
      omega
     have HN:=Box.mk hnx
     clear hI2 hnx
     repeat' (first|(with_reducible first|refine DS.fltS yU yU yX5 ?_|refine DS.opsNil ?_|refine DS.seq ?_|refine DS.regionL ?_|(refine DS.cE yX5 ?_;first|refine CG.np (fun _=>?_) (fun _=>?_)|refine CG.p (fun _=>?_) (fun _=>?_)|refine CG.yes ?_|refine CG.no ?_)|(refine DS.gE yU yX5 ?_;first|refine GG.npT (fun _=>?_) (fun _=>?_)|refine GG.npF (fun _=>?_) (fun _=>?_)|refine GG.run ?_|refine GG.sF ?_|refine GG.sT ?_)|refine DS.blk ?_|refine DS.block ?_|refine DS.exit yU ?_|refine DS.skip ?_)|refine DS.pcS inferInstance (betweenR_pc _ _ _) yR yX6 ?_|refine DS.retT [] yX5 trivial ?_|fail)
     all_goals first
      | exact DS.back (HB.out 4 _ _ (by omega) ⟨by omega,HN.out⟩ yS yS (fun b o e=>by cases e))
      | (exfalso;omega)
    ·have e:((ptsL p).all fun n=>decide (0≤n∧n≤1000000))=false:=by
      rw[Bool.eq_false_iff]
      intro h
      simp only[ptsL,List.all_cons,List.all_nil,Bool.and_true,Bool.and_eq_true,decide_eq_true_eq]at h
      omega
     rw[if_pos e]
     clear e hI2
     repeat' (first|(with_reducible first|refine DS.fltS yU yU yX5 ?_|refine DS.opsNil ?_|refine DS.seq ?_|refine DS.regionL ?_|(refine DS.cE yX5 ?_;first|refine CG.np (fun _=>?_) (fun _=>?_)|refine CG.p (fun _=>?_) (fun _=>?_)|refine CG.yes ?_|refine CG.no ?_)|(refine DS.gE yU yX5 ?_;first|refine GG.npT (fun _=>?_) (fun _=>?_)|refine GG.npF (fun _=>?_) (fun _=>?_)|refine GG.run ?_|refine GG.sF ?_|refine GG.sT ?_)|refine DS.block ?_|refine DS.exit yU ?_|refine DS.skip ?_)|refine DS.pcS inferInstance (betweenR_pc _ _ _) yR yX6 ?_|refine DS.retT [] yX5 trivial ?_|fail)
     all_goals first|rfl|(exfalso;omega)
   ·subst q
    have ca:((4:Nat):Int)=4:=rfl
    have cb:((5:Nat):Int)=5:=rfl
    by_cases hn:0≤p.foul∧p.foul≤1000000
    ·have hnx:(((ptsL p).take 5).all fun n=>decide (0≤n∧n≤1000000))=true:=by
      simp only[ptsL,List.take_succ_cons,List.take_zero,List.all_cons,List.all_nil,Bool.and_true,Bool.and_eq_true,decide_eq_true_eq]at hI2 ⊢
      omega
     have HN:=Box.mk hnx
     clear hI2 hnx
     repeat' (first|(with_reducible first|refine DS.fltS yU yU yX5 ?_|refine DS.opsNil ?_|refine DS.seq ?_|refine DS.regionL ?_|(refine DS.cE yX5 ?_;first|refine CG.np (fun _=>?_) (fun _=>?_)|refine CG.p (fun _=>?_) (fun _=>?_)|refine CG.yes ?_|refine CG.no ?_)|(refine DS.gE yU yX5 ?_;first|refine GG.npT (fun _=>?_) (fun _=>?_)|refine GG.npF (fun _=>?_) (fun _=>?_)|refine GG.run ?_|refine GG.sF ?_|refine GG.sT ?_)|refine DS.blk ?_|refine DS.block ?_|refine DS.exit yU ?_|refine DS.skip ?_)|refine DS.pcS inferInstance (betweenR_pc _ _ _) yR yX6 ?_|refine DS.retT [] yX5 trivial ?_|fail)
     all_goals first
      | exact DS.back (HB.out 5 _ _ (by omega) ⟨by omega,HN.out⟩ yS yS (fun b o e=>by cases e))
      | (exfalso;omega)
    ·have e:((ptsL p).all fun n=>decide (0≤n∧n≤1000000))=false:=by
      rw[Bool.eq_false_iff]
      intro h
      simp only[ptsL,List.all_cons,List.all_nil,Bool.and_true,Bool.and_eq_true,decide_eq_true_eq]at h
      omega
     rw[if_pos e]
     clear e hI2
     repeat' (first|(with_reducible first|refine DS.fltS yU yU yX5 ?_|refine DS.opsNil ?_|refine DS.seq ?_|refine DS.regionL ?_|(refine DS.cE yX5 ?_;first|refine CG.np (fun _=>?_) (fun _=>?_)|refine CG.p (fun _=>?_) (fun _=>?_)|refine CG.yes ?_|refine CG.no ?_)|(refine DS.gE yU yX5 ?_;first|refine GG.npT (fun _=>?_) (fun _=>?_)|refine GG.npF (fun _=>?_) (fun _=>?_)|refine GG.run ?_|refine GG.sF ?_|refine GG.sT ?_)|refine DS.block ?_|refine DS.exit yU ?_|refine DS.skip ?_)|refine DS.pcS inferInstance (betweenR_pc _ _ _) yR yX6 ?_|refine DS.retT [] yX5 trivial ?_|fail)
     all_goals first|rfl|(exfalso;omega)
   ·subst q
    have ca:((5:Nat):Int)=5:=rfl
    have cb:((6:Nat):Int)=6:=rfl
    by_cases hn:0≤p.start∧p.start≤1000000
    ·have hnx:(((ptsL p).take 6).all fun n=>decide (0≤n∧n≤1000000))=true:=by
      simp only[ptsL,List.take_succ_cons,List.take_zero,List.all_cons,List.all_nil,Bool.and_true,Bool.and_eq_true,decide_eq_true_eq]at hI2 ⊢
      omega
     have HN:=Box.mk hnx
     clear hI2 hnx
     repeat' (first|(with_reducible first|refine DS.fltS yU yU yX5 ?_|refine DS.opsNil ?_|refine DS.seq ?_|refine DS.regionL ?_|(refine DS.cE yX5 ?_;first|refine CG.yes ?_|refine CG.no ?_)|refine DS.blk ?_|refine DS.block ?_|refine DS.skip ?_)|refine DS.pcS inferInstance (betweenR_pc _ _ _) yR yX6 ?_|fail)
     all_goals first
      | exact DS.back (HB.out 6 _ _ (by omega) ⟨by omega,HN.out⟩ yS yS (fun b o e=>by cases e))
      | (exfalso;omega)
    ·have e:((ptsL p).all fun n=>decide (0≤n∧n≤1000000))=false:=by
      rw[Bool.eq_false_iff]
      intro h
      simp only[ptsL,List.all_cons,List.all_nil,Bool.and_true,Bool.and_eq_true,decide_eq_true_eq]at h
      omega
     rw[if_pos e]
     clear e hI2
     repeat' (first|(with_reducible first|refine DS.fltS yU yU yX5 ?_|refine DS.opsNil ?_|refine DS.seq ?_|refine DS.regionL ?_|(refine DS.cE yX5 ?_;refine CG.yes ?_)|refine DS.block ?_|refine DS.skip ?_)|refine DS.pcS inferInstance (betweenR_pc _ _ _) yR yX6 ?_|refine DS.retT [] yX5 trivial ?_|fail)
     all_goals first|rfl|(exfalso;omega)
   ·subst q
    have ca:((6:Nat):Int)=6:=rfl
    have hall:((ptsL p).all fun n=>decide (0≤n∧n≤1000000))=true:=hI2
    rw[if_neg (by rw[hall];decide)]
    have hpb:0≤p.pool∧p.pool≤1000000:=by
     simp only[ptsL,List.all_cons,List.all_nil,Bool.and_true,Bool.and_eq_true,decide_eq_true_eq]at hall
     omega
    clear hI2 hall HB
    have ht:p.pool.tmod 6=p.pool % 6:=Int.tmod_eq_emod_of_nonneg hpb.1
    have ht2:=Int.emod_nonneg p.pool (show(6:Int)≠0 by decide)
    generalize p.pool % 6=pm at *
    by_cases hx:pm=0∧(1≤p.rounds∧p.rounds≤16)∧(0≤p.stay∧p.stay≤7)
    ·obtain⟨hx1,hx2,hx3⟩:=hx
     rw[if_neg (by omega),if_neg (by omega),if_neg (by omega)]
     subst hx1
     by_cases hx4:0<(p.places.length:Int)∧(p.places.length:Int)≠s.players
     ·rw[if_pos hx4]
      repeat' (first|(with_reducible first|refine DS.fltS yU yU yX5 ?_|refine DS.opsNil ?_|refine DS.seq ?_|refine DS.regionL ?_|(refine DS.cE yX5 ?_;first|refine CG.yes ?_|refine CG.no ?_)|(refine DS.gE yU yX5 ?_;first|refine GG.npT (fun _=>?_) (fun _=>?_)|refine GG.run ?_|refine GG.sF ?_)|refine DS.block ?_|refine DS.exit yU ?_|refine DS.skip ?_)|refine DS.pcS inferInstance (betweenR_pc _ _ _) yR yX6 ?_|refine DS.retT [] yX5 trivial ?_|fail)
      all_goals first|rfl|(exfalso;omega)
     ·rw[if_neg hx4]
      have hx5:(p.places.length:Int)≤4:=by omega
      repeat' (first|(with_reducible first|refine DS.fltS yU yU yX5 ?_|refine DS.opsNil ?_|refine DS.seq ?_|refine DS.regionL ?_|(refine DS.cE yX5 ?_;first|refine CG.np (fun _=>?_) (fun _=>?_)|refine CG.no ?_)|(refine DS.gE yU yX5 ?_;first|refine GG.npT (fun _=>?_) (fun _=>?_)|refine GG.run ?_|refine GG.sF ?_)|refine DS.block ?_|refine DS.exit yU ?_|refine DS.skip ?_)|refine DS.pcS inferInstance (betweenR_pc _ _ _) yR yX6 ?_|fail)
      all_goals try (exfalso;omega)
      all_goals
       refine DS.loopK [2,3] yN (fun(z:Nat×Int)=> [(8,I z.2),(9,I z.1)]) (fun(z:Nat×Int)=>z.1≤p.places.length∧placesB p.places=placesB (p.places.drop z.1)∧z.2=sumI (p.places.take z.1) ∧ -1000000*z.1≤z.2∧z.2≤1000000*z.1) (fun(z:Nat×Int)=>p.places.length-z.1) (0,0) yS ⟨Nat.zero_le _,rfl,rfl,by simp,by simp⟩ (fun z B hI hB=>?_);try dsimp only at hI hB;simp only[app_cons',app_nil']
       have HB:=Box.mk hB
       clear hB
       obtain⟨i,sm⟩:=z
       dsimp only at hI ⊢
       obtain⟨i1,i2,i3,i4,i5⟩:=hI
       by_cases hi:(i:Int)<(p.places.length:Int)
       ·have hi':i<p.places.length:=by omega
        rw[places_at hi']at i2
        have hsm:=sumI_take hi'
        by_cases hn : -1000000≤p.places[i]∧p.places[i]≤1000000
        ·rw[decide_eq_true hn,Bool.true_and]at i2
         have HI:=Box.mk (And.intro i2 (And.intro i3 hsm))
         clear i2 i3 hsm
         repeat' (first|(with_reducible first|refine DS.fltS yU yU yE ?_|refine DS.opsNil ?_|refine DS.seq ?_|refine DS.regionL ?_|(refine DS.cE yE ?_;first|refine CG.np (fun _=>?_) (fun _=>?_)|refine CG.p (fun _=>?_) (fun _=>?_)|refine CG.no ?_)|refine DS.blk ?_|refine DS.block ?_|refine DS.exit yU ?_|refine DS.skip ?_)|refine DS.pcS inferInstance (betweenR_pc _ _ _) yR yT ?_|refine DS.retT [] yE trivial ?_|fail)
         all_goals first
          | exact DS.back (HB.out (i+1,sm+p.places[i]) _ _ (by dsimp only;omega) ⟨by dsimp only;omega,HI.out.1,by dsimp only;rw[HI.out.2.2,HI.out.2.1],by dsimp only;omega,by dsimp only;omega⟩ yS yS (fun b o e=>by cases e))
          | (exfalso;omega)
        ·rw[decide_eq_false hn,Bool.false_and]at i2
         rw[if_pos i2]
         clear i2 i3 hsm HB
         repeat' (first|(with_reducible first|refine DS.fltS yU yU yE ?_|refine DS.opsNil ?_|refine DS.seq ?_|refine DS.regionL ?_|(refine DS.cE yE ?_;first|refine CG.np (fun _=>?_) (fun _=>?_)|refine CG.p (fun _=>?_) (fun _=>?_)|refine CG.yes ?_)|refine DS.block ?_|refine DS.exit yU ?_|refine DS.skip ?_)|refine DS.pcS inferInstance (betweenR_pc _ _ _) yR yT ?_|refine DS.retT [] yE trivial ?_|fail)
         all_goals first|rfl|(exfalso;omega)
       ·rw[drop_end hi]at i2
        rw[List.take_of_length_le (by omega)]at i3
        rw[if_neg (show ¬placesB p.places=false by rw[i2];decide),←i3]
        clear i2 i3 HB
        by_cases hs0:sm=0
        ·rw[if_neg (by omega)]
         by_cases hf4:4<(p.feeds.length:Int)
         ·rw[if_pos hf4]
          repeat' (first|(with_reducible first|refine DS.fltS yU yU yE ?_|refine DS.opsNil ?_|refine DS.seq ?_|refine DS.regionL ?_|(refine DS.cE yE ?_;first|refine CG.p (fun _=>?_) (fun _=>?_)|refine CG.yes ?_|refine CG.no ?_)|refine DS.block ?_|refine DS.exit yU ?_|refine DS.skip ?_)|refine DS.retT [] yE trivial ?_|fail)
          all_goals first|rfl|(exfalso;omega)
         ·rw[if_neg hf4]
          repeat' (first|(with_reducible first|refine DS.fltS yU yU yE ?_|refine DS.opsNil ?_|refine DS.seq ?_|refine DS.regionL ?_|(refine DS.cE yE ?_;first|refine CG.p (fun _=>?_) (fun _=>?_)|refine CG.no ?_)|refine DS.block ?_|refine DS.exit yU ?_|refine DS.skip ?_)|fail)
          all_goals try (exfalso;omega)
          refine DS.loopK [2,3] yN (fun(j:Nat)=> [(10,I j)]) (fun(j:Nat)=>j≤p.feeds.length∧feedsGo s p.feeds=feedsGo s (p.feeds.drop j)) (fun(j:Nat)=>p.feeds.length-j) 0 yS ⟨Nat.zero_le _,rfl⟩ (fun j B hI hB=>?_);try dsimp only at hI hB;simp only[app_cons',app_nil']
          have HB:=Box.mk hB
          clear hB
          obtain⟨j1,j2⟩:=hI
          by_cases hj:(j:Int)<(p.feeds.length:Int)
          ·have hj':j<p.feeds.length:=by omega
           rw[feedsGo_at1 hj']at j2
           have HJ:=Box.mk j2
           clear j2
           have hf:=r4feed_pc s p.feeds[j]
           by_cases hz:feed1 s p.feeds[j]=0
           ·rw[hz]at hf
            repeat' (first|(with_reducible first|refine DS.fltS yU yU yE ?_|refine DS.opsNil ?_|refine DS.seq ?_|refine DS.regionL ?_|(refine DS.cE yE ?_;first|refine CG.yes ?_|refine CG.no ?_)|refine DS.blk ?_|refine DS.block ?_|refine DS.skip ?_)|refine DS.pcS inferInstance (hf) yR yT ?_|refine DS.drawL (id:=30) [0,1,2,3,4,5] 6 (by kernel_rfl) mixed (by simp only[pickL_cons,pickL_nil,get_zero',get_cons',pickO_some];exact rfl) (by simp only[drop_zero',drop_cons',List.drop_nil];exact rfl) ?_|(with_reducible first|refine DD.fltS yU yU yU yE ?_|refine DD.nil0 ?_)|fail)
            all_goals first
             | exact DS.back (HB.out (j+1) _ _ (by omega) ⟨by omega,by rw[HJ.out,if_neg (by omega)]⟩ yS yS (fun b o e=>by cases e))
             | (exfalso;omega)
           ·repeat' (first|(with_reducible first|refine DS.fltS yU yU yE ?_|refine DS.opsNil ?_|refine DS.seq ?_|refine DS.regionL ?_|(refine DS.cE yE ?_;refine CG.yes ?_)|refine DS.block ?_|refine DS.skip ?_)|refine DS.pcS inferInstance (hf) yR yT ?_|refine DS.drawL (id:=30) [0,1,2,3,4,5] 6 (by kernel_rfl) mixed (by simp only[pickL_cons,pickL_nil,get_zero',get_cons',pickO_some];exact rfl) (by simp only[drop_zero',drop_cons',List.drop_nil];exact rfl) ?_|(with_reducible first|refine DD.fltS yU yU yU yE ?_|refine DD.nil0 ?_)|refine DS.retT [] yE trivial ?_|fail)
            all_goals first|(rw[HJ.out,if_pos hz];rfl)|(exfalso;omega)
          ·rw[j2,drop_end hj]
           clear j2 HB
           repeat' (first|(with_reducible first|refine DS.fltS yU yU yE ?_|refine DS.opsNil ?_|refine DS.seq ?_|refine DS.regionL ?_|(refine DS.cE yE ?_;refine CG.no ?_)|refine DS.exit yU ?_)|refine DS.retT [] yE trivial ?_|fail)
           all_goals first|rfl|(exfalso;omega)
        ·rw[if_pos hs0]
         repeat' (first|(with_reducible first|refine DS.fltS yU yU yE ?_|refine DS.opsNil ?_|refine DS.seq ?_|refine DS.regionL ?_|(refine DS.cE yE ?_;first|refine CG.p (fun _=>?_) (fun _=>?_)|refine CG.yes ?_)|refine DS.block ?_|refine DS.exit yU ?_|refine DS.skip ?_)|refine DS.retT [] yE trivial ?_|fail)
         all_goals first|rfl|(exfalso;omega)
    ·repeat' (first|(with_reducible first|refine DS.fltS yU yU yX5 ?_|refine DS.opsNil ?_|refine DS.seq ?_|refine DS.regionL ?_|(refine DS.cE yX5 ?_;first|refine CG.np (fun _=>?_) (fun _=>?_)|refine CG.yes ?_|refine CG.no ?_)|(refine DS.gE yU yX5 ?_;first|refine GG.npT (fun _=>?_) (fun _=>?_)|refine GG.npF (fun _=>?_) (fun _=>?_)|refine GG.run ?_|refine GG.sF ?_|refine GG.sT ?_)|refine DS.block ?_|refine DS.exit yU ?_|refine DS.skip ?_)|refine DS.pcS inferInstance (betweenR_pc _ _ _) yR yX6 ?_|refine DS.retT [] yX5 trivial ?_|fail)
     all_goals first
      | (exfalso;omega)
      | (simp only[tupV];(repeat' split) <;> first|rfl|(exfalso;omega))
  ·rw[if_pos hm]at hpay
   rw[hpay]
   refine DC.of_run Tryz.func118 rfl Tryz.ntmps118 Tryz.results118 (by simp) (fun _ _=>?_);simp only[argV_cons,argV_nil,go_sem,Nat.zero_add,Nat.reduceAdd]
   repeat' (first|(with_reducible first|refine DS.fltS yU yU yE ?_|refine DS.opsNil ?_|refine DS.seq ?_|refine DS.regionL ?_|(refine DS.cE yE ?_;first|refine CG.yes ?_|refine CG.no ?_)|refine DS.skip ?_)|refine DS.pcS inferInstance (hc) yR yT ?_|refine DS.pcS inferInstance (betweenR_pc _ _ _) yR yT ?_|(refine DS.boxF (t:=2) yU yE yU ?_;simp only[cells_agg,cells_v,cells_lst,cells_fn,map_nil'',map_cons'',copy_own,copy_lst,copy_v,copy_at,copy_agg,copy_fn,copy_ifc,copy_tup])|(refine DS.boxF (t:=3) yU yE yU ?_;simp only[cells_agg,cells_v,cells_lst,cells_fn,map_nil'',map_cons'',copy_own,copy_lst,copy_v,copy_at,copy_agg,copy_fn,copy_ifc,copy_tup])|refine DS.retT [] yE trivial ?_|fail)
   all_goals first|rfl|(exfalso;omega)
 ·rw[payS,if_pos h0]
  refine DC.of_run Tryz.func118 rfl Tryz.ntmps118 Tryz.results118 (by simp) (fun _ _=>?_);simp only[argV_cons,argV_nil,go_sem,Nat.zero_add,Nat.reduceAdd]
  repeat' (first|(with_reducible first|refine DS.fltS yU yU yE ?_|refine DS.opsNil ?_|refine DS.seq ?_|refine DS.regionL ?_|(refine DS.cE yE ?_;refine CG.yes ?_))|refine DS.pcS inferInstance (hc) yR yT ?_|(refine DS.boxF (t:=2) yU yE yU ?_;simp only[cells_agg,cells_v,cells_lst,cells_fn,map_nil'',map_cons'',copy_own,copy_lst,copy_v,copy_at,copy_agg,copy_fn,copy_ifc,copy_tup])|(refine DS.boxF (t:=3) yU yE yU ?_;simp only[cells_agg,cells_v,cells_lst,cells_fn,map_nil'',map_cons'',copy_own,copy_lst,copy_v,copy_at,copy_agg,copy_fn,copy_ifc,copy_tup])|refine DS.retT [] yE trivial ?_|fail)
  all_goals first|rfl|(exfalso;omega)
end Go.XL
namespace Go.XL
open Go.Proofs
set_option maxRecDepth 100000
set_option maxHeartbeats 8000000
theorem r2kinds_pc (s : GSet) (f : Form) (h0 : gsetS s = 0) (hf : f.what = 3 ∨ f.what = 6 ∨ f.kinds.length = 0) : PC Tryz.prog 144 [s.val, f.val] (I (fkGo s.plain s.copies (decide (f.what = 6)) f.kinds none 0)) := by
  have ok := gset_ok h0
  have hc := ok.copies
  have ek : kindsS s = s.plain := by rw [kindsS, if_neg (by omega)]
  have hk := fun k => r2plain_pc s k
  rw [ek] at hk
  clear ek ok h0
  obtain ⟨what, l, again⟩ := f
  dsimp only at hf ⊢
  obtain ⟨sv, hsv⟩ : ∃ sv, sv = decide (what = 6) := ⟨_, rfl⟩
  have hs2 : sv = true ↔ what = 6 := by rw [hsv, decide_eq_true_eq]
  rw [← hsv]
  clear hsv
  refine DC.of_run Tryz.func144 rfl Tryz.ntmps144 Tryz.results144 (by simp) (fun _ _ => ?_); simp only [argV_cons, argV_nil, go_sem, Nat.zero_add, Nat.reduceAdd]
  repeat' (first | (with_reducible first | refine DS.fltS yU yU yE ?_ | refine DS.opsNil ?_ | refine DS.seq ?_ | refine DS.regionL ?_ | refine DS.block ?_) | (refine DS.boxF (t := 2) yU yE yU ?_; simp only [cells_agg, cells_v, cells_lst, cells_fn, map_nil'', map_cons'', copy_own, copy_lst, copy_v, copy_at, copy_agg, copy_fn, copy_ifc, copy_tup]) | (refine DS.boxF (t := 3) yU yE yU ?_; simp only [cells_agg, cells_v, cells_lst, cells_fn, map_nil'', map_cons'', copy_own, copy_lst, copy_v, copy_at, copy_agg, copy_fn, copy_ifc, copy_tup]) | fail)
  refine DS.loopK [2, 3] yN (fun (z : Nat × Int) => [(5, I z.2), (6, I z.1)]) (fun (z : Nat × Int) => z.1 ≤ l.length ∧ 0 ≤ z.2 ∧ z.2 ≤ z.1 ∧ fkGo s.plain s.copies sv l none 0 = fkGo s.plain s.copies sv (l.drop z.1) (prevL l z.1) z.2) (fun (z : Nat × Int) => l.length - z.1) (0, 0) yS ⟨Nat.zero_le _, Int.le_refl _, Int.le_refl _, rfl⟩ (fun z B hI hB => ?_); try dsimp only at hI hB; simp only [app_cons', app_nil']
  have HB := Box.mk hB
  clear hB
  obtain ⟨i, m⟩ := z
  dsimp only at hI ⊢
  obtain ⟨hI, hm1, hm2, hI2⟩ := hI
  by_cases hi : (i : Int) < (l.length : Int)
  · have hi' : i < l.length := by omega
    have hp : i - 1 < l.length := by omega
    rw [fkGo_at hi'] at hI2
    have hS : Box ((sv = true ↔ what = 6) ∧ (what = 3 ∨ what = 6)) := ⟨hs2, by omega⟩
    clear hs2 hf
    have HI := Box.mk hI2
    clear hI2
    have hkk := hk l[i]
    by_cases h3 : what = 3
    · have hsf : sv = false := by
        cases hq : sv with
        | false => rfl
        | true => have := hS.out.1.1 hq; omega
      subst hsf
      by_cases he : (0 : Int) < i ∧ l[i] = l[i - 1]
      · obtain ⟨he1, he2⟩ := he
        repeat' (first | (with_reducible first | refine DS.fltS yU yU yE ?_ | refine DS.opsNil ?_ | refine DS.seq ?_ | refine DS.regionL ?_) | fail)
        refine DS.bnd (t := 10) yG (.inl rfl) (fun hb10 => ?_); simp only [List.length_map] at hb10
        repeat' (first | (with_reducible first | refine DS.fltS yU yU yE ?_ | refine DS.opsNil ?_ | refine DS.seq ?_ | refine DS.regionL ?_ | (refine DS.cE yE ?_; first | refine CG.np (fun _ => ?_) (fun _ => ?_) | refine CG.yes ?_) | (refine DS.gE yU yE ?_; first | refine GG.sU ?_ | refine GG.pF (fun _ => ?_) (fun _ => ?_) | refine GG.run ?_ | refine GG.sT ?_) | refine DS.block ?_ | refine DS.skip ?_) | refine DS.pcS inferInstance (hkk) yR yT ?_ | refine DS.retT [] yE trivial ?_ | fail)
        all_goals first
          | (exfalso; omega)
          | ((try rw [prevL_zero (by assumption)] at HI); (try rw [prevL_pos (by assumption) hp] at HI); simp only [anyO_none, anyO_some, Bool.not_true, Bool.not_false, Bool.false_and, Bool.true_and, Bool.or_false, Bool.or_eq_true, decide_eq_true_eq, true_and, false_and, Bool.false_eq_true, if_false] at HI
             first
              | (rw [HI.out]; (repeat' split) <;> first | rfl | (exfalso; omega))
              | exact DS.back (HB.out (i + 1, m + 1) _ _ (by dsimp only; omega) ⟨by dsimp only; omega, by dsimp only; omega, by dsimp only; omega, by rw [HI.out, prevL_succ hi']; (repeat' split) <;> first | rfl | (exfalso; omega)⟩ yS yS (fun b o e => by cases e)))
      · repeat' (first | (with_reducible first | refine DS.fltS yU yU yE ?_ | refine DS.opsNil ?_ | refine DS.seq ?_ | refine DS.regionL ?_) | fail)
        refine DS.bnd (t := 10) yG (.inl rfl) (fun hb10 => ?_); simp only [List.length_map] at hb10
        repeat' (first | (with_reducible first | refine DS.fltS yU yU yE ?_ | refine DS.opsNil ?_ | refine DS.seq ?_ | refine DS.regionL ?_ | (refine DS.cE yE ?_; first | refine CG.np (fun _ => ?_) (fun _ => ?_) | refine CG.p (fun _ => ?_) (fun _ => ?_) | refine CG.yes ?_ | refine CG.no ?_) | (refine DS.gE yU yE ?_; first | refine GG.sU ?_ | refine GG.pT (fun _ => ?_) (fun _ => ?_) | refine GG.pF (fun _ => ?_) (fun _ => ?_) | refine GG.run ?_ | refine GG.sF ?_ | refine GG.sT ?_) | refine DS.blk ?_ | refine DS.block ?_ | refine DS.skip ?_) | refine DS.pcS inferInstance (hkk) yR yT ?_ | refine DS.retT [] yE trivial ?_ | fail)
        all_goals first
          | (exfalso; omega)
          | ((try rw [prevL_zero (by assumption)] at HI); (try rw [prevL_pos (by assumption) hp] at HI); simp only [anyO_none, anyO_some, Bool.not_true, Bool.not_false, Bool.false_and, Bool.true_and, Bool.or_false, Bool.or_eq_true, decide_eq_true_eq, true_and, false_and, Bool.false_eq_true, if_false] at HI
             first
              | (rw [HI.out]; (repeat' split) <;> first | rfl | (exfalso; omega))
              | exact DS.back (HB.out (i + 1, 1) _ _ (by dsimp only; omega) ⟨by dsimp only; omega, by dsimp only; omega, by dsimp only; omega, by rw [HI.out, prevL_succ hi']; (repeat' split) <;> first | rfl | (exfalso; omega)⟩ yS yS (fun b o e => by cases e)))
    · have h6 : what = 6 := by have := hS.out.2; omega
      have hst : sv = true := hS.out.1.2 h6
      subst hst
      by_cases he : (0 : Int) < i ∧ l[i] = l[i - 1]
      · obtain ⟨he1, he2⟩ := he
        repeat' (first | (with_reducible first | refine DS.fltS yU yU yE ?_ | refine DS.opsNil ?_ | refine DS.seq ?_ | refine DS.regionL ?_) | fail)
        refine DS.bnd (t := 10) yG (.inl rfl) (fun hb10 => ?_); simp only [List.length_map] at hb10
        repeat' (first | (with_reducible first | refine DS.fltS yU yU yE ?_ | refine DS.opsNil ?_ | refine DS.seq ?_ | refine DS.regionL ?_ | (refine DS.cE yE ?_; first | refine CG.np (fun _ => ?_) (fun _ => ?_) | refine CG.p (fun _ => ?_) (fun _ => ?_) | refine CG.yes ?_ | refine CG.no ?_) | (refine DS.gE yU yE ?_; first | refine GG.sU ?_ | refine GG.pF (fun _ => ?_) (fun _ => ?_) | refine GG.run ?_ | refine GG.sF ?_ | refine GG.sT ?_) | refine DS.blk ?_ | refine DS.block ?_ | refine DS.skip ?_) | refine DS.pcS inferInstance (hkk) yR yT ?_ | refine DS.retT [] yE trivial ?_ | fail)
        all_goals first
          | (exfalso; omega)
          | ((try rw [prevL_zero (by assumption)] at HI); (try rw [prevL_pos (by assumption) hp] at HI); simp only [anyO_none, anyO_some, Bool.not_true, Bool.not_false, Bool.false_and, Bool.true_and, Bool.or_false, Bool.or_eq_true, decide_eq_true_eq, true_and, false_and, Bool.false_eq_true, if_false] at HI
             first
              | (rw [HI.out]; (repeat' split) <;> first | rfl | (exfalso; omega))
              | exact DS.back (HB.out (i + 1, m + 1) _ _ (by dsimp only; omega) ⟨by dsimp only; omega, by dsimp only; omega, by dsimp only; omega, by rw [HI.out, prevL_succ hi']; (repeat' split) <;> first | rfl | (exfalso; omega)⟩ yS yS (fun b o e => by cases e)))
      · repeat' (first | (with_reducible first | refine DS.fltS yU yU yE ?_ | refine DS.opsNil ?_ | refine DS.seq ?_ | refine DS.regionL ?_) | fail)
        refine DS.bnd (t := 10) yG (.inl rfl) (fun hb10 => ?_); simp only [List.length_map] at hb10
        repeat' (first | (with_reducible first | refine DS.fltS yU yU yE ?_ | refine DS.opsNil ?_ | refine DS.seq ?_ | refine DS.regionL ?_ | (refine DS.cE yE ?_; first | refine CG.np (fun _ => ?_) (fun _ => ?_) | refine CG.p (fun _ => ?_) (fun _ => ?_) | refine CG.yes ?_ | refine CG.no ?_) | (refine DS.gE yU yE ?_; first | refine GG.sU ?_ | refine GG.pT (fun _ => ?_) (fun _ => ?_) | refine GG.pF (fun _ => ?_) (fun _ => ?_) | refine GG.run ?_ | refine GG.sF ?_ | refine GG.sT ?_) | refine DS.blk ?_ | refine DS.block ?_ | refine DS.skip ?_) | refine DS.pcS inferInstance (hkk) yR yT ?_ | refine DS.retT [] yE trivial ?_ | fail)
        all_goals first
          | (exfalso; omega)
          | ((try rw [prevL_zero (by assumption)] at HI); (try rw [prevL_pos (by assumption) hp] at HI); simp only [anyO_none, anyO_some, Bool.not_true, Bool.not_false, Bool.false_and, Bool.true_and, Bool.or_false, Bool.or_eq_true, decide_eq_true_eq, true_and, false_and, Bool.false_eq_true, if_false] at HI
             first
              | (rw [HI.out]; (repeat' split) <;> first | rfl | (exfalso; omega))
              | exact DS.back (HB.out (i + 1, 1) _ _ (by dsimp only; omega) ⟨by dsimp only; omega, by dsimp only; omega, by dsimp only; omega, by rw [HI.out, prevL_succ hi']; (repeat' split) <;> first | rfl | (exfalso; omega)⟩ yS yS (fun b o e => by cases e)))
  · repeat' (first | (with_reducible first | refine DS.fltS yU yU yE ?_ | refine DS.opsNil ?_ | refine DS.seq ?_ | refine DS.regionL ?_ | (refine DS.cE yE ?_; refine CG.no ?_) | refine DS.exit yU ?_) | refine DS.retT [] yE trivial ?_ | fail)
    rw [hI2, drop_end hi]; rfl
end Go.XL
namespace Go.XL
open Go.Proofs
set_option maxRecDepth 100000
set_option maxHeartbeats 8000000
theorem r2form_pc (s:GSet) (f:Form):PC Tryz.prog 112 [s.val,f.val] (I (formS s f)):=by
 have hc:=r1check_pc s
 by_cases h0:gsetS s=0
 ·have ok:=gset_ok h0
  have hm:=ok.melds
  clear ok
  have hk:=r2kinds_pc s f h0
  have hn:=r2nines_pc s
  rw[h0]at hc
  obtain⟨b,hb⟩: ∃b,b=decide (s.suits= [9,9,9]):=⟨_,rfl⟩
  rw[←hb]at hn
  have HB:=Box.mk hb
  clear hb
  by_cases hw:1≤f.what∧f.what≤6
  ·by_cases hwr:f.wrong s=true
   ·rw[formS,if_neg (by omega),if_neg (by omega),if_pos hwr]
    have HW:Box (f.wrong s=true):=⟨hwr⟩
    clear hwr hk h0
    refine DC.of_run Tryz.func112 rfl Tryz.ntmps112 Tryz.results112 (by simp) (fun _ _=>?_);simp only[argV_cons,argV_nil,go_sem,Nat.zero_add,Nat.reduceAdd]
    repeat' (first|(with_reducible first|refine DS.fltS yU yU yE ?_|refine DS.opsNil ?_|refine DS.seq ?_|refine DS.regionL ?_|(refine DS.cE yE ?_;first|refine CG.np (fun _=>?_) (fun _=>?_)|refine CG.p (fun _=>?_) (fun _=>?_)|refine CG.yes ?_|refine CG.no ?_)|(refine DS.gE yU yE ?_;first|refine GG.sU ?_|refine GG.npF (fun _=>?_) (fun _=>?_)|refine GG.pT (fun _=>?_) (fun _=>?_)|refine GG.pF (fun _=>?_) (fun _=>?_)|refine GG.run ?_|refine GG.sF ?_|refine GG.sT ?_|refine GG.nF (fun _=>?_) (fun _=>?_)|refine GG.bT (fun _=>?_) (fun _=>?_))|refine DS.blk ?_|refine DS.block ?_|refine DS.skip ?_)|refine DS.pcS inferInstance (hc) yR yT ?_|refine DS.pcS inferInstance (hn) yR yT ?_|(refine DS.boxF (t:=2) yU yE yU ?_;simp only[cells_agg,cells_v,cells_lst,cells_fn,map_nil'',map_cons'',copy_own,copy_lst,copy_v,copy_at,copy_agg,copy_fn,copy_ifc,copy_tup])|(refine DS.boxF (t:=3) yU yE yU ?_;simp only[cells_agg,cells_v,cells_lst,cells_fn,map_nil'',map_cons'',copy_own,copy_lst,copy_v,copy_at,copy_agg,copy_fn,copy_ifc,copy_tup])|refine DS.retT [] yE trivial ?_|fail)
    all_goals first|rfl|(exfalso;have hb:=HB.out;have hwr:=HW.out;clear HB HW hc hn;grind [Form.wrong])
   ·have e:formS s f=fkGo s.plain s.copies (decide (f.what=6)) f.kinds none 0:=by rw[formS,if_neg (by omega),if_neg (by omega),if_neg hwr]
    have hk:=hk (by
     simp only[Form.wrong,Bool.or_eq_true,Bool.and_eq_true,decide_eq_true_eq,not_or,not_and,Bool.not_eq_true,Bool.not_eq_eq_eq_not,Bool.not_true,Bool.or_eq_false_iff,decide_eq_false_iff_not]at hwr
     omega)
    rw[e]
    clear e
    have HW:Box (¬f.wrong s=true):=⟨hwr⟩
    clear hwr h0
    obtain⟨what,kinds,again⟩:=f
    dsimp only at hw hk HW ⊢
    have hcase:what=1∨what=2∨what=3∨what=4∨what=5∨what=6:=by omega
    clear hw
    rcases hcase with rfl|rfl|rfl|rfl|rfl|rfl <;> cases again
    all_goals
     generalize fkGo s.plain s.copies _ kinds none 0=F at *
     refine DC.of_run Tryz.func112 rfl Tryz.ntmps112 Tryz.results112 (by simp) (fun _ _=>?_);simp only[argV_cons,argV_nil,go_sem,Nat.zero_add,Nat.reduceAdd]
     repeat' (first|(with_reducible first|refine DS.fltS yU yU yE ?_|refine DS.opsNil ?_|refine DS.seq ?_|refine DS.regionL ?_|(refine DS.cE yE ?_;first|refine CG.np (fun _=>?_) (fun _=>?_)|refine CG.p (fun _=>?_) (fun _=>?_)|refine CG.yes ?_|refine CG.no ?_)|(refine DS.gE yU yE ?_;first|refine GG.sU ?_|refine GG.pT (fun _=>?_) (fun _=>?_)|refine GG.run ?_|refine GG.sF ?_|refine GG.sT ?_|refine GG.nF (fun _=>?_) (fun _=>?_))|refine DS.blk ?_|refine DS.block ?_|refine DS.skip ?_)|refine DS.pcS inferInstance (hc) yR yT ?_|refine DS.pcS inferInstance (hn) yR yT ?_|refine DS.pcS inferInstance (hk) yR yT ?_|(refine DS.boxF (t:=2) yU yE yU ?_;simp only[cells_agg,cells_v,cells_lst,cells_fn,map_nil'',map_cons'',copy_own,copy_lst,copy_v,copy_at,copy_agg,copy_fn,copy_ifc,copy_tup])|(refine DS.boxF (t:=3) yU yE yU ?_;simp only[cells_agg,cells_v,cells_lst,cells_fn,map_nil'',map_cons'',copy_own,copy_lst,copy_v,copy_at,copy_agg,copy_fn,copy_ifc,copy_tup])|refine DS.retT [] yE trivial ?_|fail)
     all_goals first|rfl|(exfalso;have hb:=HB.out;have hwr:=HW.out;clear HB HW hc hn hk;grind [Form.wrong])
  ·rw[formS,if_neg (by omega),if_pos hw]
   refine DC.of_run Tryz.func112 rfl Tryz.ntmps112 Tryz.results112 (by simp) (fun _ _=>?_);simp only[argV_cons,argV_nil,go_sem,Nat.zero_add,Nat.reduceAdd]
   repeat' (first|(with_reducible first|refine DS.fltS yU yU yE ?_|refine DS.opsNil ?_|refine DS.seq ?_|refine DS.regionL ?_|(refine DS.cE yE ?_;first|refine CG.np (fun _=>?_) (fun _=>?_)|refine CG.p (fun _=>?_) (fun _=>?_)|refine CG.yes ?_|refine CG.no ?_)|(refine DS.gE yU yE ?_;first|refine GG.sU ?_|refine GG.npF (fun _=>?_) (fun _=>?_)|refine GG.pT (fun _=>?_) (fun _=>?_)|refine GG.pF (fun _=>?_) (fun _=>?_)|refine GG.run ?_|refine GG.sF ?_|refine GG.sT ?_|refine GG.bT (fun _=>?_) (fun _=>?_))|refine DS.blk ?_|refine DS.block ?_|refine DS.skip ?_)|refine DS.pcS inferInstance (hc) yR yT ?_|(refine DS.boxF (t:=2) yU yE yU ?_;simp only[cells_agg,cells_v,cells_lst,cells_fn,map_nil'',map_cons'',copy_own,copy_lst,copy_v,copy_at,copy_agg,copy_fn,copy_ifc,copy_tup])|(refine DS.boxF (t:=3) yU yE yU ?_;simp only[cells_agg,cells_v,cells_lst,cells_fn,map_nil'',map_cons'',copy_own,copy_lst,copy_v,copy_at,copy_agg,copy_fn,copy_ifc,copy_tup])|refine DS.retT [] yE trivial ?_|fail)
   all_goals first|rfl|(exfalso;omega)
 ·rw[formS,if_pos h0]
  refine DC.of_run Tryz.func112 rfl Tryz.ntmps112 Tryz.results112 (by simp) (fun _ _=>?_);simp only[argV_cons,argV_nil,go_sem,Nat.zero_add,Nat.reduceAdd]
  repeat' (first|(with_reducible first|refine DS.fltS yU yU yE ?_|refine DS.opsNil ?_|refine DS.seq ?_|refine DS.regionL ?_|(refine DS.cE yE ?_;refine CG.yes ?_))|refine DS.pcS inferInstance (hc) yR yT ?_|(refine DS.boxF (t:=2) yU yE yU ?_;simp only[cells_agg,cells_v,cells_lst,cells_fn,map_nil'',map_cons'',copy_own,copy_lst,copy_v,copy_at,copy_agg,copy_fn,copy_ifc,copy_tup])|(refine DS.boxF (t:=3) yU yE yU ?_;simp only[cells_agg,cells_v,cells_lst,cells_fn,map_nil'',map_cons'',copy_own,copy_lst,copy_v,copy_at,copy_agg,copy_fn,copy_ifc,copy_tup])|refine DS.retT [] yE trivial ?_|fail)
  all_goals first|rfl|(exfalso;omega)
theorem r2forms_pc (s:GSet) (l:List Form):PC Tryz.prog 75 [s.val,formsV l] (I (formsS s l)):=by
 have hc:=r1check_pc s
 refine DC.of_run Tryz.func75 rfl Tryz.ntmps75 Tryz.results75 (by simp) (fun _ _=>?_);simp only[argV_cons,argV_nil,go_sem,Nat.zero_add,Nat.reduceAdd]
 refine DS.bnd (t:=1) yG (.inl rfl) (fun hb1=>?_);simp only[List.length_map]at hb1
 by_cases h0:gsetS s=0
 ·rw[h0]at hc
  repeat' (first|(with_reducible first|refine DS.fltS yU yU yE ?_|refine DS.opsNil ?_|refine DS.seq ?_|refine DS.regionL ?_|(refine DS.cE yE ?_;first|refine CG.p (fun _=>?_) (fun _=>?_)|refine CG.no ?_)|refine DS.block ?_|refine DS.skip ?_)|refine DS.pcS inferInstance (hc) yR yT ?_|(refine DS.boxF (t:=2) yU yE yU ?_;simp only[cells_agg,cells_v,cells_lst,cells_fn,map_nil'',map_cons'',copy_own,copy_lst,copy_v,copy_at,copy_agg,copy_fn,copy_ifc,copy_tup])|refine DS.retT [] yE trivial ?_|fail)
  all_goals try first|(rw[formsS,if_neg (by omega),if_pos (by omega)];rfl)|(rw[formsS,if_neg (by omega),if_neg (by omega),if_pos (by omega)];rfl)
  refine DS.loopK [1,2] yN (fun(i:Nat)=> [(6,I i)]) (fun(i:Nat)=>i≤l.length∧formsS s l=formsGo s (l.drop i)) (fun(i:Nat)=>l.length-i) 0 yS ⟨Nat.zero_le _,by rw[formsS,if_neg (by omega),if_neg (by omega),if_neg (by omega)];rfl⟩ (fun i B hI hB=>?_);try dsimp only at hI hB;simp only[app_cons',app_nil']
  have HB:=Box.mk hB
  clear hB
  obtain⟨hI,hI2⟩:=hI
  by_cases hi:(i:Int)<(l.length:Int)
  ·have hi':i<l.length:=by omega
   rw[formsGo_at hi']at hI2
   have HI:=Box.mk hI2
   clear hI2
   have hf:=r2form_pc s l[i]
   by_cases he:formS s l[i]=0
   ·rw[he]at hf
    repeat' (first|(with_reducible first|refine DS.fltS yU yU yE ?_|refine DS.opsNil ?_|refine DS.seq ?_|refine DS.regionL ?_|(refine DS.cE yE ?_;first|refine CG.yes ?_|refine CG.no ?_)|refine DS.blk ?_|refine DS.block ?_|refine DS.skip ?_)|refine DS.pcS inferInstance (hf) yR yT ?_|refine DS.drawL (id:=11) [0,1,2,3,4] 5 (by kernel_rfl) mixed (by simp only[pickL_cons,pickL_nil,get_zero',get_cons',pickO_some];exact rfl) (by simp only[drop_zero',drop_cons',List.drop_nil];exact rfl) ?_|(with_reducible first|refine DD.fltS yU yU yU yE ?_|refine DD.nil0 ?_)|fail)
    exact DS.back (HB.out (i+1) _ _ (by omega) ⟨by omega,by rw[HI.out,if_neg (by omega)]⟩ yS yS (fun b o e=>by cases e))
   ·repeat' (first|(with_reducible first|refine DS.fltS yU yU yE ?_|refine DS.opsNil ?_|refine DS.seq ?_|refine DS.regionL ?_|(refine DS.cE yE ?_;refine CG.yes ?_)|refine DS.block ?_|refine DS.skip ?_)|refine DS.pcS inferInstance (hf) yR yT ?_|refine DS.drawL (id:=11) [0,1,2,3,4] 5 (by kernel_rfl) mixed (by simp only[pickL_cons,pickL_nil,get_zero',get_cons',pickO_some];exact rfl) (by simp only[drop_zero',drop_cons',List.drop_nil];exact rfl) ?_|(with_reducible first|refine DD.fltS yU yU yU yE ?_|refine DD.nil0 ?_)|refine DS.retT [] yE trivial ?_|fail)
    all_goals first|(rw[HI.out,if_pos he];rfl)|(exfalso;omega)
  ·repeat' (first|(with_reducible first|refine DS.fltS yU yU yE ?_|refine DS.opsNil ?_|refine DS.seq ?_|refine DS.regionL ?_|(refine DS.cE yE ?_;refine CG.no ?_)|refine DS.exit yU ?_)|refine DS.retT [] yE trivial ?_|fail)
   rw[hI2,drop_end hi];rfl
 ·repeat' (first|(with_reducible first|refine DS.fltS yU yU yE ?_|refine DS.opsNil ?_|refine DS.seq ?_|refine DS.regionL ?_|(refine DS.cE yE ?_;refine CG.yes ?_))|refine DS.pcS inferInstance (hc) yR yT ?_|(refine DS.boxF (t:=2) yU yE yU ?_;simp only[cells_agg,cells_v,cells_lst,cells_fn,map_nil'',map_cons'',copy_own,copy_lst,copy_v,copy_at,copy_agg,copy_fn,copy_ifc,copy_tup])|refine DS.retT [] yE trivial ?_|fail)
  all_goals first|(rw[formsS,if_pos h0];rfl)|(exfalso;omega)
end Go.XL
namespace Go.XL
open Go.Proofs
set_option maxRecDepth 100000
set_option maxHeartbeats 8000000
theorem any_take_at {α:Type} {p:α→Bool} {l:List α} {k:Nat} (h:k<l.length):(l.take (k+1)).any p=((l.take k).any p || p l[k]):=by
 rw[List.take_succ_eq_append_getElem h,List.any_append];simp
theorem r4pattern_pc (h:House) (hl:h.patterns.length≤1000000) {i:Nat} (hi:i<h.patterns.length) (hsz: ∀p∈h.patterns,p.name.size≤9223372036854775807):PC Tryz.prog 76 [h.val,I i] (I (patS h i)):=by
 have e:h.pat i=h.patterns[i]:=by rw[House.pat,List.getD_eq_getElem?_getD,List.getElem?_eq_getElem hi];rfl
 have hn:=r4named_pc h.patterns[i].name (hsz _ (List.getElem_mem hi))
 have hc:=r4cond_pc h.set h.patterns[i].cond
 have ho1:=r4other_pc h.patterns[i].excl i h.patterns.length ⟨by omega,by omega⟩
 have ho2:=r4other_pc h.patterns[i].impl i h.patterns.length ⟨by omega,by omega⟩
 rw[patS,e]
 clear e
 have hil:(i:Int)<(h.patterns.length:Int):=by omega
 generalize condX h.set h.patterns[i].cond=C at hc ⊢
 obtain⟨c1,c2⟩:=C
 dsimp only at hc ⊢
 generalize othersS h.patterns[i].excl i h.patterns.length=O1 at ho1 ⊢
 generalize othersS h.patterns[i].impl i h.patterns.length=O2 at ho2 ⊢
 generalize hN:namedB h.patterns[i].name=N at hn ⊢
 clear hN
 cases N with
 | false =>
  rw[if_pos rfl]
  refine DC.of_run Tryz.func76 rfl Tryz.ntmps76 Tryz.results76 (by simp) (fun _ _=>?_);simp only[argV_cons,argV_nil,go_sem,Nat.zero_add,Nat.reduceAdd]
  repeat' (first|(with_reducible first|refine DS.fltS yU yU yE ?_|refine DS.opsNil ?_|refine DS.seq ?_|refine DS.regionL ?_|(refine DS.cE yE ?_;refine CG.yes ?_))|(refine DS.letF (t:=5) yU yE yU (fun _=>yE) yE yU (by exact⟨by with_unfolding_all rfl,by with_unfolding_all decide⟩) (fun _=>by simp only[go_sem,Nat.reduceEqDiff,↓reduceIte]) ?_;simp only[go_sem])|refine DS.pcS inferInstance (hn) yR yF ?_|(refine DS.boxF (t:=2) yU yE yU ?_;simp only[cells_agg,cells_v,cells_lst,cells_fn,map_nil'',map_cons'',copy_own,copy_lst,copy_v,copy_at,copy_agg,copy_fn,copy_ifc,copy_tup])|refine DS.retT [] yE trivial ?_|fail)
  all_goals first|rfl|(exfalso;omega)
 | true =>
  rw[if_neg (by decide)]
  refine DC.of_run Tryz.func76 rfl Tryz.ntmps76 Tryz.results76 (by simp) (fun _ _=>?_);simp only[argV_cons,argV_nil,go_sem,Nat.zero_add,Nat.reduceAdd]
  repeat' (first|(with_reducible first|refine DS.fltS yU yU yE ?_|refine DS.opsNil ?_|refine DS.seq ?_|refine DS.regionL ?_|(refine DS.cE yE ?_;refine CG.no ?_)|refine DS.block ?_|refine DS.skip ?_)|(refine DS.letF (t:=5) yU yE yU (fun _=>yE) yE yU (by exact⟨by with_unfolding_all rfl,by with_unfolding_all decide⟩) (fun _=>by simp only[go_sem,Nat.reduceEqDiff,↓reduceIte]) ?_;simp only[go_sem])|refine DS.pcS inferInstance (hn) yR yF ?_|(refine DS.boxF (t:=2) yU yE yU ?_;simp only[cells_agg,cells_v,cells_lst,cells_fn,map_nil'',map_cons'',copy_own,copy_lst,copy_v,copy_at,copy_agg,copy_fn,copy_ifc,copy_tup])|fail)
  refine DS.loopK [1,2,5] yN (fun(k:Nat)=> [(6,I k)]) (fun(k:Nat)=>k≤i∧((h.patterns.take k).any fun q=>decide (q.name=h.patterns[i].name))=false) (fun(k:Nat)=>i-k) 0 yS ⟨Nat.zero_le _,rfl⟩ (fun k B hI hB=>?_);try dsimp only at hI hB;simp only[app_cons',app_nil']
  have HB:=Box.mk hB
  clear hB
  obtain⟨k1,k2⟩:=hI
  by_cases hk:(k:Int)<(i:Int)
  ·have hkl:k<h.patterns.length:=by omega
   have hat:=any_take_at (p:=fun q:Pattern=>decide (q.name=h.patterns[i].name)) hkl
   rw[k2,Bool.false_or]at hat
   by_cases he:h.patterns[k].name=h.patterns[i].name
   ·have e:((h.patterns.take i).any fun q=>decide (q.name=h.patterns[i].name))=true :=
     List.any_eq_true.2 ⟨h.patterns[k],List.mem_take_iff_getElem.2 ⟨k,by omega,rfl⟩,by simp[he]⟩
    rw[if_pos e]
    have he1:=eq_true he
    clear e he hat k2 hc ho1 ho2 hn
    repeat' (first|(with_reducible first|refine DS.fltS yU yU yE ?_|refine DS.opsNil ?_|refine DS.seq ?_|refine DS.regionL ?_|(refine DS.cE yE ?_;refine CG.yes ?_)|refine DS.block ?_|refine DS.skip ?_)|refine DS.drawL (id:=7) [0,1,2,3,4,5,6,7] 8 (by kernel_rfl) mixed (by simp only[pickL_cons,pickL_nil,get_zero',get_cons',pickO_some];exact rfl) (by simp only[drop_zero',drop_cons',List.drop_nil];exact rfl) ?_|(with_reducible first|refine DD.fltS yU yU yU yE ?_|refine DD.nil0 ?_)|refine DS.retT [] yE trivial ?_|fail)
    all_goals first|rfl|(exfalso;omega)
   ·rw[decide_eq_false he]at hat
    have he1:=eq_false he
    have HA:=Box.mk hat
    clear he hat k2 hc ho1 ho2 hn
    repeat' (first|(with_reducible first|refine DS.fltS yU yU yE ?_|refine DS.opsNil ?_|refine DS.seq ?_|refine DS.regionL ?_|(refine DS.cE yE ?_;first|refine CG.yes ?_|refine CG.no ?_)|refine DS.blk ?_|refine DS.block ?_|refine DS.skip ?_)|refine DS.drawL (id:=7) [0,1,2,3,4,5,6,7] 8 (by kernel_rfl) mixed (by simp only[pickL_cons,pickL_nil,get_zero',get_cons',pickO_some];exact rfl) (by simp only[drop_zero',drop_cons',List.drop_nil];exact rfl) ?_|(with_reducible first|refine DD.fltS yU yU yU yE ?_|refine DD.nil0 ?_)|fail)
    all_goals first
     | exact DS.back (HB.out (k+1) _ _ (by omega) ⟨by omega,HA.out⟩ yS yS (fun b o e=>by cases e))
     | (exfalso;omega)
  ·have hki:k=i:=by omega
   subst hki
   rw[if_neg (by rw[k2];decide)]
   clear k2 HB hn
   repeat' (first|(with_reducible first|refine DS.fltS yU yU yE ?_|refine DS.opsNil ?_|refine DS.seq ?_|refine DS.regionL ?_|(refine DS.cE yE ?_;first|refine CG.np (fun _=>?_) (fun _=>?_)|refine CG.yes ?_|refine CG.no ?_)|(refine DS.gE yU yE ?_;first|refine GG.npF (fun _=>?_) (fun _=>?_)|refine GG.run ?_|refine GG.sT ?_)|refine DS.exit yU ?_|refine DS.skip ?_)|refine DS.pcS inferInstance (betweenR_pc _ _ _) yR yF ?_|refine DS.pcS inferInstance (hc) yR yF ?_|refine DS.pcS inferInstance (ho1) yR yF ?_|refine DS.pcS inferInstance (ho2) yR yF ?_|refine DS.retT [] yE trivial ?_|fail)
   all_goals (clear hc ho1 ho2;simp only[tupV];(repeat' split) <;> first|rfl|(exfalso;omega)|(exfalso;grind))
theorem r4rules_pc (h:House):PC Tryz.prog 77 [h.val] (I (rulesH h)):=by
 have hm:=r4cond_pc h.set h.minor
 have h1:=checkScaleR_pc h.scale
 have h2:=r4pay_pc h.set h.pay
 have h3:=r4play_pc h.set h.play
 rw[rulesH]
 generalize condX h.set h.minor=C at hm ⊢
 obtain⟨m1,m2⟩:=C
 dsimp only at hm ⊢
 generalize scaleS h.scale=X1 at h1 ⊢
 generalize payS h.set h.pay=X2 at h2 ⊢
 generalize playS h.set h.play=X3 at h3 ⊢
 refine DC.of_run Tryz.func77 rfl Tryz.ntmps77 Tryz.results77 (by simp) (fun _ _=>?_);simp only[argV_cons,argV_nil,go_sem,Nat.zero_add,Nat.reduceAdd]
 repeat' (first|(with_reducible first|refine DS.fltS yU yU yE ?_|refine DS.opsNil ?_|refine DS.seq ?_|refine DS.regionL ?_|(refine DS.cE yE ?_;first|refine CG.np (fun _=>?_) (fun _=>?_)|refine CG.p (fun _=>?_) (fun _=>?_)|refine CG.no ?_)|(refine DS.gE yU yE ?_;first|refine GG.run ?_|refine GG.sF ?_|refine GG.nT (fun _=>?_) (fun _=>?_))|refine DS.skip ?_)|refine DS.pcS inferInstance (hm) yR yF ?_|refine DS.pcS inferInstance (h1) yR yF ?_|refine DS.pcS inferInstance (h2) yR yF ?_|refine DS.pcS inferInstance (h3) yR yF ?_|refine DS.pcS inferInstance (betweenR_pc _ _ _) yR yF ?_|(refine DS.boxF (t:=1) yU yE yU ?_;simp only[cells_agg,cells_v,cells_lst,cells_fn,map_nil'',map_cons'',copy_own,copy_lst,copy_v,copy_at,copy_agg,copy_fn,copy_ifc,copy_tup])|refine DS.retT [] yE trivial ?_|fail)
 all_goals (clear hm h1 h2 h3;simp only[tupV];(repeat' split) <;> first|rfl|(exfalso;omega)|(exfalso;grind))
theorem r4house_pc (h:House) (hl:h.patterns.length≤1000000) (hsz: ∀p∈h.patterns,p.name.size≤9223372036854775807):PC Tryz.prog 38 [h.val] (I (houseS h)):=by
 have h2:=r2forms_pc h.set h.forms
 have hr:=r4rules_pc h
 rw[houseS]
 generalize formsS h.set h.forms=F at h2 ⊢
 generalize rulesH h=R at hr ⊢
 by_cases hf:F=0
 ·rw[if_neg (by omega)]
  subst hf
  refine DC.of_run Tryz.func38 rfl Tryz.ntmps38 Tryz.results38 (by simp) (fun _ _=>?_);simp only[argV_cons,argV_nil,go_sem,Nat.zero_add,Nat.reduceAdd]
  repeat' (first|(with_reducible first|refine DS.fltS yU yU yE ?_|refine DS.opsNil ?_|refine DS.seq ?_|refine DS.regionL ?_|(refine DS.cE yE ?_;first|refine CG.p (fun _=>?_) (fun _=>?_)|refine CG.no ?_)|refine DS.block ?_|refine DS.skip ?_)|refine DS.pcS inferInstance (h2) yR yT ?_|(refine DS.boxF (t:=1) yU yE yU ?_;simp only[cells_agg,cells_v,cells_lst,cells_fn,map_nil'',map_cons'',copy_own,copy_lst,copy_v,copy_at,copy_agg,copy_fn,copy_ifc,copy_tup])|refine DS.retT [] yE trivial ?_|fail)
  all_goals try (exfalso;omega)
  ·rw[if_pos (by omega)];rfl
  rw[if_neg (by omega)]
  refine DS.loopK [1] yN (fun(i:Nat)=> [(4,I i)]) (fun(i:Nat)=>i≤h.patterns.length∧patsGo h 0 h.patterns.length=patsGo h i (h.patterns.length-i)) (fun(i:Nat)=>h.patterns.length-i) 0 yS ⟨Nat.zero_le _,rfl⟩ (fun i B hI hB=>?_);try dsimp only at hI hB;simp only[app_cons',app_nil']
  have HB:=Box.mk hB
  clear hB
  obtain⟨hI,hI2⟩:=hI
  by_cases hi:(i:Int)<(h.patterns.length:Int)
  ·have hi':i<h.patterns.length:=by omega
   obtain⟨m,hmm⟩: ∃m,h.patterns.length-i=m+1:=⟨h.patterns.length-i-1,by omega⟩
   rw[hmm,patsGo_at]at hI2
   have hmm2:h.patterns.length-(i+1)=m:=by omega
   have HI:=Box.mk hI2
   clear hI2
   have hp:=r4pattern_pc h (by omega) hi' hsz
   have HM:=Box.mk hmm
   have HM2:=Box.mk hmm2
   clear hmm hmm2 hr
   by_cases he:patS h i=0
   ·rw[he]at hp
    repeat' (first|(with_reducible first|refine DS.fltS yU yU yE ?_|refine DS.opsNil ?_|refine DS.seq ?_|refine DS.regionL ?_|(refine DS.cE yE ?_;first|refine CG.yes ?_|refine CG.no ?_)|refine DS.blk ?_|refine DS.block ?_|refine DS.skip ?_)|refine DS.pcS inferInstance (hp) yR yT ?_|fail)
    all_goals first
     | exact DS.back (HB.out (i+1) _ _ (by omega) ⟨by omega,by rw[HI.out,HM2.out,if_neg (by omega)]⟩ yS yS (fun b o e=>by cases e))
     | (exfalso;omega)
   ·repeat' (first|(with_reducible first|refine DS.fltS yU yU yE ?_|refine DS.opsNil ?_|refine DS.seq ?_|refine DS.regionL ?_|(refine DS.cE yE ?_;refine CG.yes ?_)|refine DS.block ?_|refine DS.skip ?_)|refine DS.pcS inferInstance (hp) yR yT ?_|refine DS.retT [] yE trivial ?_|fail)
    all_goals first|(rw[HI.out,if_pos he,if_pos he];rfl)|(exfalso;omega)
  ·have e:patsGo h 0 h.patterns.length=0:=by rw[hI2,show h.patterns.length-i=0 by omega];rfl
   rw[e,if_neg (by decide)]
   clear e hI2 HB
   repeat' (first|(with_reducible first|refine DS.fltS yU yU yE ?_|refine DS.opsNil ?_|refine DS.seq ?_|refine DS.regionL ?_|(refine DS.cE yE ?_;refine CG.no ?_)|refine DS.exit yU ?_)|refine DS.pcS inferInstance (hr) yR yT ?_|refine DS.retT [] yE trivial ?_|fail)
   rfl
 ·rw[if_pos hf]
  refine DC.of_run Tryz.func38 rfl Tryz.ntmps38 Tryz.results38 (by simp) (fun _ _=>?_);simp only[argV_cons,argV_nil,go_sem,Nat.zero_add,Nat.reduceAdd]
  repeat' (first|(with_reducible first|refine DS.fltS yU yU yE ?_|refine DS.opsNil ?_|refine DS.seq ?_|refine DS.regionL ?_|(refine DS.cE yE ?_;refine CG.yes ?_))|refine DS.pcS inferInstance (h2) yR yT ?_|(refine DS.boxF (t:=1) yU yE yU ?_;simp only[cells_agg,cells_v,cells_lst,cells_fn,map_nil'',map_cons'',copy_own,copy_lst,copy_v,copy_at,copy_agg,copy_fn,copy_ifc,copy_tup])|refine DS.retT [] yE trivial ?_|fail)
  all_goals first|rfl|(exfalso;omega)
end Go.XL
namespace Go.XL
structure WinRow where
 who:Int
 from_:Int
 value:Int
 points:Int
 liable:Int
def WinRow.cells (x:WinRow):List V:= [I x.who,I x.from_,I x.value,I x.points,I x.liable]
@[go_sem] theorem WinRow.cells_eq (x:WinRow):x.cells= [I x.who,I x.from_,I x.value,I x.points,I x.liable]:=rfl
theorem WinRow.len (f:WinRow):f.cells.length=5:=rfl
abbrev WinRow.val (x:WinRow):V := .agg x.cells
def LB (B:Int) (L:List Int):Prop:= ∀x∈L,-B≤x∧x≤B
theorem LB.at {B:Int} {L:List Int} (h:LB B L) (hB:0≤B) (i:Nat) : -B≤L.getD i 0∧L.getD i 0≤B:=by
 rw[List.getD_eq_getElem?_getD]
 cases e:L[i]? with
 | none=>simp only[Option.getD_none];omega
 | some v=>exact h v (List.mem_of_getElem? e)
theorem LB.set {B:Int} {L:List Int} (h:LB B L) {i:Nat} {v:Int} (hv : -B≤v∧v≤B):LB B (L.set i v):=fun x hx=>by
 rcases List.mem_or_eq_of_mem_set hx with h'|h'
 ·exact h x h'
 ·rw[h'];exact hv
theorem LB.mono {B C:Int} {L:List Int} (h:LB B L) (hc:B≤C):LB C L:=fun x hx=>by have:=h x hx;omega
end Go.XL
namespace Go.XL
open Go.Proofs
set_option maxRecDepth 100000
set_option maxHeartbeats 8000000
def goodF (h:House) (w:Int) (x:Fed):Prop:=x.open_=true∧h.seat x.from_=true∧x.from_≠w
instance (h:House) (w:Int) (x:Fed):Decidable (goodF h w x):=by unfold goodF;infer_instance
def refF (h:House) (w:Int) (f:Feed):List Fed→Int→Option Int
 | [],_=>none
 | x::r,n=>if delF f x=true then refF h w f r n else if n+1=f.many∧goodF h w x then some x.from_ else refF h w f r (n+1)
theorem refF_at {h:House} {w:Int} {f:Feed} {l:List Fed} {k:Nat} (hk:k<l.length) (n:Int):refF h w f (l.drop k) n=if delF f l[k]=true then refF h w f (l.drop (k+1)) n else if n+1=f.many∧goodF h w l[k]then some l[k].from_ else refF h w f (l.drop (k+1)) (n+1):=by
 rw[List.drop_eq_getElem_cons hk,refF]
theorem refF_over {h:House} {w:Int} {f:Feed}: ∀(l:List Fed) (n:Int),f.many≤n→refF h w f l n=none
 | [],_,_=>rfl
 | x::r,n,hn=>by
  rw[refF]
  split
  ·exact refF_over r n hn
  ·rw[if_neg (by omega)]
   exact refF_over r (n+1) (by omega)
theorem refF_eq {h:House} {w:Int} {f:Feed}: ∀(l:List Fed) (n:Int),n<f.many→refF h w f l n=if((keepL f l).length:Int)<f.many-n then none else
  match (keepL f l)[(f.many-n-1).toNat]? with
  | none=>none
  | some x=>if x.open_=true∧h.seat x.from_=true∧x.from_≠w then some x.from_ else none
 | [],n,hn=>by
  rw[refF,if_pos (by show((0:Nat):Int)<_;omega)]
 | x::r,n,hn=>by
  rw[refF]
  by_cases hd:delF f x=true
  ·have hk:keepL f (x::r)=keepL f r:=by rw[keepL,List.filter_cons,if_neg (by simp[hd])];rfl
   rw[if_pos hd,hk,refF_eq r n hn]
  ·have hk:keepL f (x::r)=x::keepL f r:=by rw[keepL,List.filter_cons,if_pos (by simpa using hd)];rfl
   rw[if_neg hd,hk]
   by_cases he:n+1=f.many
   ·have h0:(f.many-n-1).toNat=0:=by omega
    rw[if_neg (c:=((x::keepL f r).length:Int)<f.many-n) (by rw[List.length_cons];omega),h0,List.getElem?_cons_zero]
    dsimp only
    by_cases hg:goodF h w x
    ·rw[if_pos (c:=n+1=f.many∧goodF h w x) ⟨he,hg⟩]
     exact(if_pos hg).symm
    ·rw[if_neg (c:=n+1=f.many∧goodF h w x) (fun q=>hg q.2),refF_over _ _ (by omega)]
     exact(if_neg hg).symm
   ·rw[if_neg (c:=n+1=f.many∧goodF h w x) (fun q=>he q.1),refF_eq r (n+1) (by omega)]
    have h1:(f.many-n-1).toNat=(f.many-(n+1)-1).toNat+1:=by omega
    rw[h1,List.getElem?_cons_succ]
    by_cases hl:((keepL f r).length:Int)<f.many-(n+1)
    ·rw[if_pos hl,if_pos (c:=((x::keepL f r).length:Int)<f.many-n) (by rw[List.length_cons];omega)]
    ·rw[if_neg hl,if_neg (c:=((x::keepL f r).length:Int)<f.many-n) (by rw[List.length_cons];omega)]
theorem refF_one {h:House} {w:Int} {f:Feed} (hm:1≤f.many) (l:List Fed):refF h w f l 0=oneF h w l f:=by
 rw[refF_eq l 0 (by omega),oneF,Int.sub_zero]
 rfl
theorem delF_has (f:Feed) (x:Fed):delF f x=((decide (x.what≠2)&&decide (x.what≠3)) || !f.kinds.contains x.kind):=by
 rw[delF];simp
theorem r5liable_pc (h:House) (hm:h.patterns.length≤1000000) (hn: ∀p∈h.patterns,p.name.size≤9223372036854775807) (w:Int) (l:List Fed) (hl:l.length≤1000000):PC Tryz.prog 32 [h.val,I w,fedsV l] (I (liabS h w l)):=by
 have hk:=r4house_pc h hm hn
 have s1:=r5seat_pc h w
 by_cases h0:houseS h=0
 ·rw[h0]at hk
  rw[liabS,if_neg (by omega)]
  cases hs:h.seat w with
  | false =>
   rw[hs]at s1
   rw[if_pos rfl]
   refine DC.of_run Tryz.func32 rfl Tryz.ntmps32 Tryz.results32 (by simp) (fun _ _=>?_);simp only[argV_cons,argV_nil,go_sem,Nat.zero_add,Nat.reduceAdd]
   repeat' (first|(with_reducible first|refine DS.fltS yU yU yE ?_|refine DS.opsNil ?_|refine DS.seq ?_|refine DS.regionL ?_|(refine DS.cE yE ?_;refine CG.yes ?_)|(refine DS.gE yU yE ?_;refine GG.run ?_))|refine DS.pcS inferInstance (hk) yR yT ?_|refine DS.pcS inferInstance (s1) yR yT ?_|(refine DS.boxF (t:=3) yU yE yU ?_;simp only[cells_agg,cells_v,cells_lst,cells_fn,map_nil'',map_cons'',copy_own,copy_lst,copy_v,copy_at,copy_agg,copy_fn,copy_ifc,copy_tup])|refine DS.retT [] yE trivial ?_|fail)
   all_goals first|rfl|(exfalso;omega)
  | true =>
   rw[hs]at s1
   rw[if_neg (by decide)]
   obtain⟨f1,f2⟩:=pay_feeds (house_ok h0).pay
   have hml:=(gset_ok (house_ok h0).set).melds
   have hf:=feedsGo_ok f2
   clear h0 hs f2
   refine DC.of_run Tryz.func32 rfl Tryz.ntmps32 Tryz.results32 (by simp) (fun _ _=>?_);simp only[argV_cons,argV_nil,go_sem,Nat.zero_add,Nat.reduceAdd]
   repeat' (first|(with_reducible first|refine DS.fltS yU yU yE ?_|refine DS.opsNil ?_|refine DS.seq ?_|refine DS.regionL ?_|(refine DS.cE yE ?_;refine CG.no ?_)|(refine DS.gE yU yE ?_;refine GG.run ?_)|refine DS.block ?_|refine DS.skip ?_)|refine DS.pcS inferInstance (hk) yR yF ?_|refine DS.pcS inferInstance (s1) yR yF ?_|(refine DS.boxF (t:=3) yU yE yU ?_;simp only[cells_agg,cells_v,cells_lst,cells_fn,map_nil'',map_cons'',copy_own,copy_lst,copy_v,copy_at,copy_agg,copy_fn,copy_ifc,copy_tup])|fail)
   all_goals try (exfalso;omega)
   clear s1 hk
   refine DS.loopK [1,2,3] yN (fun(i:Nat)=> [(7,I i)]) (fun(i:Nat)=>i≤h.pay.feeds.length∧liabG h w l h.pay.feeds=liabG h w l (h.pay.feeds.drop i)) (fun(i:Nat)=>h.pay.feeds.length-i) 0 yS ⟨Nat.zero_le _,rfl⟩ (fun i B hI hB=>?_);try dsimp only at hI hB;simp only[app_cons',app_nil']
   have HB:=Box.mk hB
   clear hB
   obtain⟨i1,i2⟩:=hI
   by_cases hi:i<h.pay.feeds.length
   ·have hi':(i:Int)<(h.pay.feeds.length:Int):=by omega
    have hfi:=hf _ (List.getElem_mem hi)
    rw[liabG_at hi,←refF_one hfi.1]at i2
    generalize hG:liabG h w l h.pay.feeds=G at *
    have HG:=Box.mk hG
    have HF:=Box.mk (And.intro i2 hf)
    clear i2 hf hG
    have hfc:h.pay.feeds[i].cells= [ints h.pay.feeds[i].kinds,I h.pay.feeds[i].many]:=rfl
    repeat' (first|(with_reducible first|refine DS.fltS yU yU yE ?_|refine DS.opsNil ?_|refine DS.seq ?_|refine DS.regionL ?_|(refine DS.cE yE ?_;refine CG.yes ?_)|refine DS.block ?_|refine DS.skip ?_)|fail)
    generalize hf0:h.pay.feeds[i]=f at *
    refine DS.loopK [1,2,3,7] yN (fun(y:Nat×Int)=> [(8,I y.2),(9,I y.1)]) (fun(y:Nat×Int)=>y.1≤l.length∧(0≤y.2∧y.2≤y.1)∧refF h w f l 0=refF h w f (l.drop y.1) y.2) (fun(y:Nat×Int)=>l.length-y.1) (0,0) yS ⟨Nat.zero_le _,⟨Int.le_refl _,Int.le_refl _⟩,rfl⟩ (fun y B hI hB=>?_);try dsimp only at hI hB;simp only[app_cons',app_nil']
    have HC:=Box.mk hB
    clear hB
    obtain⟨k,n⟩:=y
    dsimp only at hI HC ⊢
    obtain⟨k1,k2,k3⟩:=hI
    have hml2:f.many≤4:=by omega
    by_cases hk:k<l.length
    ·have hk':(k:Int)<(l.length:Int):=by omega
     have hhas:=r1has_pc f.kinds l[k].kind
     have hdel:=delF_has f l[k]
     have hseat:=r5seat_pc h l[k].from_
     rw[refF_at hk]at k3
     have H3:=Box.mk k3
     clear k3
     obtain⟨hh,hhh⟩: ∃hh,f.kinds.contains l[k].kind=hh:=⟨_,rfl⟩
     rw[hhh]at hhas hdel
     clear hhh
     generalize hx0:l[k]=x at *
     by_cases hd:delF f x=true
     ·have h3:=H3.out
      rw[if_pos hd]at h3
      have H4:=Box.mk h3
      rw[hd]at hdel
      clear h3 H3 hd hseat
      by_cases e2:x.what=2
      ·have e2':=eq_true e2
       rw[decide_eq_false (by omega),Bool.false_and,Bool.false_or]at hdel
       have hh0:hh=false:=by simpa using hdel.symm
       subst hh0
       clear hdel e2
       repeat' (first|(with_reducible first|refine DS.fltS yU yU yE ?_|refine DS.opsNil ?_|refine DS.seq ?_|refine DS.regionL ?_|(refine DS.cE yE ?_;refine CG.yes ?_)|(refine DS.gE yU yE ?_;refine GG.run ?_)|refine DS.block ?_|refine DS.exit yU ?_|refine DS.skip ?_)|(refine DS.letF (t:=10) yU yE yU (fun _=>yE) yE yU (by exact⟨by with_unfolding_all rfl,by with_unfolding_all decide⟩) (fun _=>by simp only[go_sem,Nat.reduceEqDiff,↓reduceIte]) ?_;simp only[go_sem])|refine DS.pcS inferInstance (hhas) yR yT ?_|refine DS.drawL (id:=11) [0,1,2,3,4,5,6,7,8,9,10,11,12,13,14,15,16,17] 18 (by kernel_rfl) mixed (by simp only[pickL_cons,pickL_nil,get_zero',get_cons',pickO_some];exact rfl) (by simp only[drop_zero',drop_cons',List.drop_nil];exact rfl) ?_|(with_reducible first|refine DD.fltS yU yU yU yE ?_|(refine DD.gE yU yE ?_;first|refine DGG.run ?_|refine DGG.sF ?_)|refine DD.nil0 ?_)|fail)
       all_goals try (exfalso;omega)
       exact DS.back (HC.out (k+1,n) _ _ (by dsimp only;omega) ⟨by dsimp only;omega,by dsimp only;omega,H4.out⟩ yS yS (fun b o e=>by cases e))
      ·by_cases e3:x.what=3
       ·have e3':=eq_true e3
        rw[decide_eq_false (p:=x.what≠3) (by omega),Bool.and_false,Bool.false_or]at hdel
        have hh0:hh=false:=by simpa using hdel.symm
        subst hh0
        clear hdel e3
        repeat' (first|(with_reducible first|refine DS.fltS yU yU yE ?_|refine DS.opsNil ?_|refine DS.seq ?_|refine DS.regionL ?_|(refine DS.cE yE ?_;refine CG.yes ?_)|(refine DS.gE yU yE ?_;refine GG.run ?_)|refine DS.block ?_|refine DS.exit yU ?_|refine DS.skip ?_)|(refine DS.letF (t:=10) yU yE yU (fun _=>yE) yE yU (by exact⟨by with_unfolding_all rfl,by with_unfolding_all decide⟩) (fun _=>by simp only[go_sem,Nat.reduceEqDiff,↓reduceIte]) ?_;simp only[go_sem])|refine DS.pcS inferInstance (hhas) yR yT ?_|refine DS.drawL (id:=11) [0,1,2,3,4,5,6,7,8,9,10,11,12,13,14,15,16,17] 18 (by kernel_rfl) mixed (by simp only[pickL_cons,pickL_nil,get_zero',get_cons',pickO_some];exact rfl) (by simp only[drop_zero',drop_cons',List.drop_nil];exact rfl) ?_|(with_reducible first|refine DD.fltS yU yU yU yE ?_|(refine DD.gE yU yE ?_;refine DGG.run ?_)|refine DD.nil0 ?_)|fail)
        all_goals try (exfalso;omega)
        exact DS.back (HC.out (k+1,n) _ _ (by dsimp only;omega) ⟨by dsimp only;omega,by dsimp only;omega,H4.out⟩ yS yS (fun b o e=>by cases e))
       ·clear hdel
        repeat' (first|(with_reducible first|refine DS.fltS yU yU yE ?_|refine DS.opsNil ?_|refine DS.seq ?_|refine DS.regionL ?_|(refine DS.cE yE ?_;refine CG.yes ?_)|(refine DS.gE yU yE ?_;refine GG.sT ?_)|refine DS.block ?_|refine DS.exit yU ?_|refine DS.skip ?_)|(refine DS.letF (t:=10) yU yE yU (fun _=>yE) yE yU (by exact⟨by with_unfolding_all rfl,by with_unfolding_all decide⟩) (fun _=>by simp only[go_sem,Nat.reduceEqDiff,↓reduceIte]) ?_;simp only[go_sem])|refine DS.drawL (id:=11) [0,1,2,3,4,5,6,7,8,9,10,11,12,13,14,15,16,17] 18 (by kernel_rfl) mixed (by simp only[pickL_cons,pickL_nil,get_zero',get_cons',pickO_some];exact rfl) (by simp only[drop_zero',drop_cons',List.drop_nil];exact rfl) ?_|(with_reducible first|refine DD.fltS yU yU yU yE ?_|(refine DD.gE yU yE ?_;first|refine DGG.run ?_|refine DGG.sT ?_)|refine DD.nil0 ?_)|fail)
        all_goals try (exfalso;omega)
        exact DS.back (HC.out (k+1,n) _ _ (by dsimp only;omega) ⟨by dsimp only;omega,by dsimp only;omega,H4.out⟩ yS yS (fun b o e=>by cases e))
     ·have hd':delF f x=false:=by simpa using hd
      have hh1:hh=true:=by
       rw[hd']at hdel
       cases hh with
       | true=>rfl
       | false=>simp at hdel
      have hwh:x.what=2∨x.what=3:=by
       rw[hd',hh1]at hdel
       by_cases e2:x.what=2
       ·exact .inl e2
       ·exact .inr (by simp[e2]at hdel;exact hdel)
      subst hh1
      have h3:=H3.out
      rw[if_neg hd]at h3
      clear H3 hd hd' hdel
      obtain⟨ss,hss⟩: ∃ss,h.seat x.from_=ss:=⟨_,rfl⟩
      obtain⟨so,hso⟩: ∃so,x.open_=so:=⟨_,rfl⟩
      rw[hss]at hseat
      have key:(n+1=f.many∧goodF h w x)↔(n+1=f.many∧so=true∧ss=true∧x.from_≠w):=by unfold goodF;rw[hso,hss]
      by_cases hgood:n+1=f.many∧so=true∧ss=true∧x.from_≠w
      ·rw[if_pos (key.2 hgood)]at h3
       obtain⟨hnm,rfl,rfl,hne⟩:=hgood
       have hG2:=HF.out.1
       rw[h3]at hG2
       dsimp only at hG2
       have HX:=Box.mk hG2
       have hnm':f.many=n+1:=hnm.symm
       clear HF HB HC h3 hG2 key hss hnm
       rcases hwh with e2|e2
       all_goals
        have e2':=eq_true e2
        clear e2
        repeat' (first|(with_reducible first|refine DS.fltS yU yU yE ?_|refine DS.opsNil ?_|refine DS.seq ?_|refine DS.regionL ?_|(refine DS.cE yE ?_;first|refine CG.yes ?_|refine CG.no ?_)|(refine DS.gE yU yE ?_;refine GG.run ?_)|refine DS.block ?_|refine DS.skip ?_)|(refine DS.letF (t:=10) yU yE yU (fun _=>yE) yE yU (by exact⟨by with_unfolding_all rfl,by with_unfolding_all decide⟩) (fun _=>by simp only[go_sem,Nat.reduceEqDiff,↓reduceIte]) ?_;simp only[go_sem])|refine DS.pcS inferInstance (hhas) yR yF ?_|refine DS.drawL (id:=11) [0,1,2,3,4,5,6,7,8,9,10,11,12,13,14,15,16,17] 18 (by kernel_rfl) mixed (by simp only[pickL_cons,pickL_nil,get_zero',get_cons',pickO_some];exact rfl) (by simp only[drop_zero',drop_cons',List.drop_nil];exact rfl) ?_|refine DS.drawL (id:=13) [0,1,2,3,4,5,6,7,8,9,10,11,12,13,14,15,16,17,18,19,20,21,22,23,24,25,26,27,28] 29 (by kernel_rfl) mixed (by simp only[pickL_cons,pickL_nil,get_zero',get_cons',pickO_some];exact rfl) (by simp only[drop_zero',drop_cons',List.drop_nil];exact rfl) ?_|(with_reducible first|refine DD.fltS yU yU yU yE ?_|(refine DD.gE yU yE ?_;first|refine DGG.npT (fun _=>?_) (fun _=>?_)|refine DGG.run ?_|refine DGG.sF ?_)|refine DD.nil0 ?_)|refine DD.pcV0 inferInstance (hseat) yU yF ?_|refine DS.retT [] yE trivial ?_|fail)
        all_goals first
         | (rw[HX.out];rfl)
         | (exfalso;omega)
      ·rw[if_neg (fun q=>hgood (key.1 q))]at h3
       have H4:=Box.mk h3
       clear h3 key hss
       by_cases hnm:n+1=f.many
       ·have hnm':f.many=n+1:=hnm.symm
        cases so with
        | false =>
         clear hnm hgood
         rcases hwh with e2|e2
         all_goals
          have e2':=eq_true e2
          clear e2
          repeat' (first|(with_reducible first|refine DS.fltS yU yU yE ?_|refine DS.opsNil ?_|refine DS.seq ?_|refine DS.regionL ?_|(refine DS.cE yE ?_;first|refine CG.yes ?_|refine CG.no ?_)|(refine DS.gE yU yE ?_;first|refine GG.run ?_|refine GG.sF ?_)|refine DS.blk ?_|refine DS.block ?_|refine DS.skip ?_)|(refine DS.letF (t:=10) yU yE yU (fun _=>yE) yE yU (by exact⟨by with_unfolding_all rfl,by with_unfolding_all decide⟩) (fun _=>by simp only[go_sem,Nat.reduceEqDiff,↓reduceIte]) ?_;simp only[go_sem])|refine DS.pcS inferInstance (hhas) yR yF ?_|refine DS.drawL (id:=11) [0,1,2,3,4,5,6,7,8,9,10,11,12,13,14,15,16,17] 18 (by kernel_rfl) mixed (by simp only[pickL_cons,pickL_nil,get_zero',get_cons',pickO_some];exact rfl) (by simp only[drop_zero',drop_cons',List.drop_nil];exact rfl) ?_|refine DS.drawL (id:=13) [0,1,2,3,4,5,6,7,8,9,10,11,12,13,14,15,16,17,18,19,20,21,22,23,24,25,26,27,28] 29 (by kernel_rfl) mixed (by simp only[pickL_cons,pickL_nil,get_zero',get_cons',pickO_some];exact rfl) (by simp only[drop_zero',drop_cons',List.drop_nil];exact rfl) ?_|(with_reducible first|refine DD.fltS yU yU yU yE ?_|(refine DD.gE yU yE ?_;first|refine DGG.npT (fun _=>?_) (fun _=>?_)|refine DGG.run ?_|refine DGG.sF ?_)|refine DD.nil0 ?_)|fail)
          all_goals try (exfalso;omega)
          all_goals exact DS.back (HC.out (k+1,n+1) _ _ (by dsimp only;omega) ⟨by dsimp only;omega,by dsimp only;omega,H4.out⟩ yS yS (fun b o e=>by cases e))
        | true =>
         cases ss with
         | false =>
          clear hnm hgood
          rcases hwh with e2|e2
          all_goals
           have e2':=eq_true e2
           clear e2
           repeat' (first|(with_reducible first|refine DS.fltS yU yU yE ?_|refine DS.opsNil ?_|refine DS.seq ?_|refine DS.regionL ?_|(refine DS.cE yE ?_;first|refine CG.yes ?_|refine CG.no ?_)|(refine DS.gE yU yE ?_;first|refine GG.run ?_|refine GG.sF ?_)|refine DS.blk ?_|refine DS.block ?_|refine DS.skip ?_)|(refine DS.letF (t:=10) yU yE yU (fun _=>yE) yE yU (by exact⟨by with_unfolding_all rfl,by with_unfolding_all decide⟩) (fun _=>by simp only[go_sem,Nat.reduceEqDiff,↓reduceIte]) ?_;simp only[go_sem])|refine DS.pcS inferInstance (hhas) yR yF ?_|refine DS.drawL (id:=11) [0,1,2,3,4,5,6,7,8,9,10,11,12,13,14,15,16,17] 18 (by kernel_rfl) mixed (by simp only[pickL_cons,pickL_nil,get_zero',get_cons',pickO_some];exact rfl) (by simp only[drop_zero',drop_cons',List.drop_nil];exact rfl) ?_|refine DS.drawL (id:=13) [0,1,2,3,4,5,6,7,8,9,10,11,12,13,14,15,16,17,18,19,20,21,22,23,24,25,26,27,28] 29 (by kernel_rfl) mixed (by simp only[pickL_cons,pickL_nil,get_zero',get_cons',pickO_some];exact rfl) (by simp only[drop_zero',drop_cons',List.drop_nil];exact rfl) ?_|(with_reducible first|refine DD.fltS yU yU yU yE ?_|(refine DD.gE yU yE ?_;first|refine DGG.npT (fun _=>?_) (fun _=>?_)|refine DGG.run ?_|refine DGG.sF ?_)|refine DD.nil0 ?_)|refine DD.pcV0 inferInstance (hseat) yU yF ?_|fail)
           all_goals try (exfalso;omega)
           all_goals exact DS.back (HC.out (k+1,n+1) _ _ (by dsimp only;omega) ⟨by dsimp only;omega,by dsimp only;omega,H4.out⟩ yS yS (fun b o e=>by cases e))
         | true =>
          have hw:x.from_=w:=Decidable.not_not.1 fun h=>hgood ⟨hnm,rfl,rfl,h⟩
          have hw':=eq_true hw
          clear hnm hgood hw
          rcases hwh with e2|e2
          all_goals
           have e2':=eq_true e2
           clear e2
           repeat' (first|(with_reducible first|refine DS.fltS yU yU yE ?_|refine DS.opsNil ?_|refine DS.seq ?_|refine DS.regionL ?_|(refine DS.cE yE ?_;first|refine CG.yes ?_|refine CG.no ?_)|(refine DS.gE yU yE ?_;refine GG.run ?_)|refine DS.blk ?_|refine DS.block ?_|refine DS.skip ?_)|(refine DS.letF (t:=10) yU yE yU (fun _=>yE) yE yU (by exact⟨by with_unfolding_all rfl,by with_unfolding_all decide⟩) (fun _=>by simp only[go_sem,Nat.reduceEqDiff,↓reduceIte]) ?_;simp only[go_sem])|refine DS.pcS inferInstance (hhas) yR yF ?_|refine DS.drawL (id:=11) [0,1,2,3,4,5,6,7,8,9,10,11,12,13,14,15,16,17] 18 (by kernel_rfl) mixed (by simp only[pickL_cons,pickL_nil,get_zero',get_cons',pickO_some];exact rfl) (by simp only[drop_zero',drop_cons',List.drop_nil];exact rfl) ?_|refine DS.drawL (id:=13) [0,1,2,3,4,5,6,7,8,9,10,11,12,13,14,15,16,17,18,19,20,21,22,23,24,25,26,27,28] 29 (by kernel_rfl) mixed (by simp only[pickL_cons,pickL_nil,get_zero',get_cons',pickO_some];exact rfl) (by simp only[drop_zero',drop_cons',List.drop_nil];exact rfl) ?_|(with_reducible first|refine DD.fltS yU yU yU yE ?_|(refine DD.gE yU yE ?_;first|refine DGG.npT (fun _=>?_) (fun _=>?_)|refine DGG.run ?_|refine DGG.sF ?_)|refine DD.nil0 ?_)|refine DD.pcV0 inferInstance (hseat) yU yF ?_|fail)
           all_goals try (exfalso;simp_all;done)
           all_goals try (exfalso;omega)
           all_goals exact DS.back (HC.out (k+1,n+1) _ _ (by dsimp only;omega) ⟨by dsimp only;omega,by dsimp only;omega,H4.out⟩ yS yS (fun b o e=>by cases e))
       ·have hnm':=eq_false hnm
        clear hgood hnm
        rcases hwh with e2|e2
        all_goals
         have e2':=eq_true e2
         clear e2
         repeat' (first|(with_reducible first|refine DS.fltS yU yU yE ?_|refine DS.opsNil ?_|refine DS.seq ?_|refine DS.regionL ?_|(refine DS.cE yE ?_;first|refine CG.yes ?_|refine CG.no ?_)|(refine DS.gE yU yE ?_;first|refine GG.run ?_|refine GG.sF ?_)|refine DS.blk ?_|refine DS.block ?_|refine DS.skip ?_)|(refine DS.letF (t:=10) yU yE yU (fun _=>yE) yE yU (by exact⟨by with_unfolding_all rfl,by with_unfolding_all decide⟩) (fun _=>by simp only[go_sem,Nat.reduceEqDiff,↓reduceIte]) ?_;simp only[go_sem])|refine DS.pcS inferInstance (hhas) yR yF ?_|refine DS.drawL (id:=11) [0,1,2,3,4,5,6,7,8,9,10,11,12,13,14,15,16,17] 18 (by kernel_rfl) mixed (by simp only[pickL_cons,pickL_nil,get_zero',get_cons',pickO_some];exact rfl) (by simp only[drop_zero',drop_cons',List.drop_nil];exact rfl) ?_|refine DS.drawL (id:=13) [0,1,2,3,4,5,6,7,8,9,10,11,12,13,14,15,16,17,18,19,20,21,22,23,24,25,26,27,28] 29 (by kernel_rfl) mixed (by simp only[pickL_cons,pickL_nil,get_zero',get_cons',pickO_some];exact rfl) (by simp only[drop_zero',drop_cons',List.drop_nil];exact rfl) ?_|(with_reducible first|refine DD.fltS yU yU yU yE ?_|(refine DD.gE yU yE ?_;first|refine DGG.npT (fun _=>?_) (fun _=>?_)|refine DGG.run ?_|refine DGG.sF ?_)|refine DD.nil0 ?_)|fail)
         all_goals try (exfalso;omega)
         all_goals exact DS.back (HC.out (k+1,n+1) _ _ (by dsimp only;omega) ⟨by dsimp only;omega,by dsimp only;omega,H4.out⟩ yS yS (fun b o e=>by cases e))
    ·have h3:=k3
     rw[drop_end (by omega),refF]at h3
     have hG2:=HF.out.1
     rw[h3]at hG2
     dsimp only at hG2
     have HX:=Box.mk hG2
     clear HF HC h3 k3 hG2
     repeat' (first|(with_reducible first|refine DS.fltS yU yU yE ?_|refine DS.opsNil ?_|refine DS.seq ?_|refine DS.regionL ?_|(refine DS.cE yE ?_;refine CG.p (fun _=>?_) (fun _=>?_))|refine DS.blk ?_|refine DS.block ?_|refine DS.exit yU ?_|refine DS.skip ?_)|fail)
     all_goals try (exfalso;omega)
     exact DS.back (HB.out (i+1) _ _ (by omega) ⟨by omega,HX.out⟩ yS yS (fun b o e=>by cases e))
   ·rw[drop_end (by omega),liabG]at i2
    rw[i2]
    clear i2 HB hf
    repeat' (first|(with_reducible first|refine DS.fltS yU yU yE ?_|refine DS.opsNil ?_|refine DS.seq ?_|refine DS.regionL ?_|(refine DS.cE yE ?_;refine CG.p (fun _=>?_) (fun _=>?_))|refine DS.block ?_|refine DS.exit yU ?_|refine DS.skip ?_)|refine DS.retT [] yE trivial ?_|fail)
    all_goals first|rfl|(exfalso;omega)
 ·rw[liabS,if_pos h0]
  generalize houseS h=c at *
  refine DC.of_run Tryz.func32 rfl Tryz.ntmps32 Tryz.results32 (by simp) (fun _ _=>?_);simp only[argV_cons,argV_nil,go_sem,Nat.zero_add,Nat.reduceAdd]
  repeat' (first|(with_reducible first|refine DS.fltS yU yU yE ?_|refine DS.opsNil ?_|refine DS.seq ?_|refine DS.regionL ?_|(refine DS.cE yE ?_;refine CG.yes ?_)|(refine DS.gE yU yE ?_;refine GG.sT ?_))|refine DS.pcS inferInstance (hk) yR yT ?_|(refine DS.boxF (t:=3) yU yE yU ?_;simp only[cells_agg,cells_v,cells_lst,cells_fn,map_nil'',map_cons'',copy_own,copy_lst,copy_v,copy_at,copy_agg,copy_fn,copy_ifc,copy_tup])|refine DS.retT [] yE trivial ?_|fail)
  all_goals first|rfl|(exfalso;omega)
end Go.XL
namespace Go.XL
open Go.Proofs
set_option maxRecDepth 100000
set_option maxHeartbeats 8000000
def Pattern.far (p:Pattern):Bool:=decide (70<(p.cond.length:Int)∨20<(p.excl.length:Int)∨20<(p.impl.length:Int))
def House.far (h:House):Bool:=decide (10<(h.set.suits.length:Int)∨40<(h.set.reds.length:Int)∨8<(h.forms.length:Int)∨14<(h.patterns.length:Int)∨70<(h.minor.length:Int)∨20<(h.scale.limits.length:Int)∨10<(h.pay.feeds.length:Int))
def longS (h:House) (l:List (List Int)):Bool:=h.far || h.patterns.any Pattern.far || l.any fun m=>decide (60<(m.length:Int))
theorem any_at {α:Type} {p:α→Bool} {l:List α} {i:Nat} (hi:i<l.length):(l.drop i).any p=(p l[i] || (l.drop (i+1)).any p):=by
 rw[List.drop_eq_getElem_cons hi,List.any_cons]
theorem longS_false {h:House} {l:List (List Int)} (e:longS h l=false):h.patterns.length≤14:=by
 rw[longS,Bool.or_eq_false_iff,Bool.or_eq_false_iff]at e
 have:=of_decide_eq_false e.1.1
 omega
theorem yX18 {p:Prop} (h:p:=by(simp (disch:=omega) only[go_sem,dopV,yV0,↓reduceIte,Nat.reduceEqDiff,Nat.reduceLT,Nat.reduceLeDiff,Nat.reduceAdd,Nat.reduceMul,Nat.reduceSub,Int.reduceToNat,Int.reduceLT,Int.reduceLE,Int.reduceEq,IntWalk.toNatUp,IntWalk.iteOmega,IntWalk.i64_in,V.flat,V.one, *,List.length_nil,Int.natCast_zero];exact rfl)):p:=h
theorem long0_pc (h:House):PC Tryz.prog 11 [h.val, .agg [.v (.slice none 0 0), .v (.slice none 0 0)], .lst []] (Bo (longS h [])):=by
 by_cases hf:h.far=true
 ·have e:longS h []=true:=by rw[longS,hf];rfl
  rw[e]
  have HF:=Box.mk (of_decide_eq_true hf)
  clear hf e
  refine DC.of_run Tryz.func11 rfl Tryz.ntmps11 Tryz.results11 (by simp) (fun _ _=>?_);simp only[argV_cons,argV_nil,go_sem,Nat.zero_add,Nat.reduceAdd]
  repeat' (first|(with_reducible first|refine DS.fltS yU yU yX18 ?_|refine DS.opsNil ?_|refine DS.seq ?_|refine DS.regionL ?_|(refine DS.cE yX18 ?_;first|refine CG.yes ?_|refine CG.no ?_)|(refine DS.gE yU yX18 ?_;first|refine GG.pF (fun _=>?_) (fun _=>?_)|refine GG.run ?_|refine GG.sT ?_)|refine DS.block ?_|refine DS.skip ?_)|(refine DS.boxF (t:=3) yU yX18 yU ?_;simp only[cells_agg,cells_v,cells_lst,cells_fn,map_nil'',map_cons'',copy_own,copy_lst,copy_v,copy_at,copy_agg,copy_fn,copy_ifc,copy_tup])|(refine DS.boxF (t:=4) yU yX18 yU ?_;simp only[cells_agg,cells_v,cells_lst,cells_fn,map_nil'',map_cons'',copy_own,copy_lst,copy_v,copy_at,copy_agg,copy_fn,copy_ifc,copy_tup])|fail)
  all_goals first
   | (exfalso;have:=HF.out;clear HF;omega)
   | (repeat' (first|refine DS.retT [] yE trivial ?_|fail);rfl)
 ·have hf2:=of_decide_eq_false (Bool.eq_false_iff.2 hf)
  have e:longS h []=h.patterns.any Pattern.far:=by rw[longS,Bool.eq_false_iff.2 hf];simp
  rw[e]
  clear e hf
  refine DC.of_run Tryz.func11 rfl Tryz.ntmps11 Tryz.results11 (by simp) (fun _ _=>?_);simp only[argV_cons,argV_nil,go_sem,Nat.zero_add,Nat.reduceAdd]
  repeat' (first|(with_reducible first|refine DS.fltS yU yU yX18 ?_|refine DS.opsNil ?_|refine DS.seq ?_|refine DS.regionL ?_|(refine DS.cE yX18 ?_;first|refine CG.yes ?_|refine CG.no ?_)|(refine DS.gE yU yX18 ?_;first|refine GG.pF (fun _=>?_) (fun _=>?_)|refine GG.run ?_|refine GG.sT ?_)|refine DS.block ?_|refine DS.skip ?_)|(refine DS.boxF (t:=3) yU yX18 yU ?_;simp only[cells_agg,cells_v,cells_lst,cells_fn,map_nil'',map_cons'',copy_own,copy_lst,copy_v,copy_at,copy_agg,copy_fn,copy_ifc,copy_tup])|(refine DS.boxF (t:=4) yU yX18 yU ?_;simp only[cells_agg,cells_v,cells_lst,cells_fn,map_nil'',map_cons'',copy_own,copy_lst,copy_v,copy_at,copy_agg,copy_fn,copy_ifc,copy_tup])|fail)
  all_goals try (exfalso;omega)
  refine DS.loopK [2,3] yN (fun(i:Nat)=> [(7,I i)]) (fun(i:Nat)=>i≤h.patterns.length∧h.patterns.any Pattern.far=(h.patterns.drop i).any Pattern.far) (fun(i:Nat)=>h.patterns.length-i) 0 yS ⟨Nat.zero_le _,rfl⟩ (fun i B hI hB=>?_);try dsimp only at hI hB;simp only[app_cons',app_nil']
  have HB:=Box.mk hB
  clear hB
  obtain⟨hI,hI2⟩:=hI
  by_cases hi:(i:Int)<(h.patterns.length:Int)
  ·have hi':i<h.patterns.length:=by omega
   rw[any_at hi']at hI2
   have HI:=Box.mk hI2
   clear hI2
   by_cases hp:h.patterns[i].far=true
   ·rw[HI.out,hp,Bool.true_or]
    have hp2:=of_decide_eq_true hp
    clear HI hp
    repeat' (first|(with_reducible first|refine DS.fltS yU yU yE ?_|refine DS.opsNil ?_|refine DS.seq ?_|refine DS.regionL ?_|(refine DS.cE yE ?_;first|refine CG.p (fun _=>?_) (fun _=>?_)|refine CG.yes ?_)|(refine DS.gE yU yE ?_;first|refine GG.pF (fun _=>?_) (fun _=>?_)|refine GG.run ?_|refine GG.sT ?_)|refine DS.blk ?_|refine DS.block ?_|refine DS.skip ?_)|refine DS.retT [] yE trivial ?_|fail)
    all_goals first|rfl|(exfalso;omega)
   ·have hp1:h.patterns[i].far=false:=Bool.eq_false_iff.2 hp
    have hp2:=of_decide_eq_false hp1
    have HP:=Box.mk hp1
    clear hp hp1
    repeat' (first|(with_reducible first|refine DS.fltS yU yU yE ?_|refine DS.opsNil ?_|refine DS.seq ?_|refine DS.regionL ?_|(refine DS.cE yE ?_;first|refine CG.p (fun _=>?_) (fun _=>?_)|refine CG.yes ?_)|(refine DS.gE yU yE ?_;first|refine GG.pF (fun _=>?_) (fun _=>?_)|refine GG.run ?_|refine GG.sT ?_)|refine DS.blk ?_|refine DS.block ?_|refine DS.skip ?_)|refine DS.retT [] yE trivial ?_|fail)
    all_goals first
     | exact DS.back (HB.out (i+1) _ _ (by omega) ⟨by omega,by rw[HI.out,HP.out,Bool.false_or]⟩ yS yS (fun b o e=>by cases e))
     | (exfalso;omega)
  ·rw[hI2,drop_end hi]
   clear hI2 HB
   repeat' (first|(with_reducible first|refine DS.fltS yU yU yE ?_|refine DS.opsNil ?_|refine DS.seq ?_|refine DS.regionL ?_|(refine DS.cE yE ?_;refine CG.no ?_)|refine DS.block ?_|refine DS.exit yU ?_)|fail)
   refine DS.loopK [2] yN (fun(j:Nat)=> [(8,I j)]) (fun(j:Nat)=>j=0) (fun(j:Nat)=>0) 0 yS rfl (fun j B hI hB=>?_);try dsimp only at hI hB;simp only[app_cons',app_nil']
   subst hI
   repeat' (first|(with_reducible first|refine DS.fltS yU yU yX18 ?_|refine DS.opsNil ?_|refine DS.seq ?_|refine DS.regionL ?_|(refine DS.cE yX18 ?_;refine CG.no ?_)|refine DS.exit yU ?_)|refine DS.retT [] yX18 trivial ?_|fail)
   all_goals first|rfl|(exfalso;simp at *;done)
end Go.XL
namespace Go.XL
open Go.Proofs
theorem kitEqual_pc (a b:List Int):PC Tryz.prog 14 [ints a,ints b] (Bo (decide (a=b))):=by
 refine DC.of_run Tryz.func14 rfl Tryz.ntmps14 Tryz.results14 (by simp) (fun _ _=>?_);simp only[argV_cons,argV_nil,go_sem,Nat.zero_add,Nat.reduceAdd]
 refine DS.bnd (t:=0) yG (.inl rfl) (fun hb0=>?_);simp only[List.length_map]at hb0
 repeat' (first|(with_reducible first|refine DS.fltS yU yU yE ?_|refine DS.opsNil ?_|refine DS.seq ?_|refine DS.regionL ?_|(refine DS.cE yE ?_;refine CG.np (fun _=>?_) (fun _=>?_))|refine DS.block ?_|refine DS.skip ?_)|refine DS.retT [] yE trivial ?_|fail)
 ·simp_all [tupV];intro h;subst h;simp_all
 refine DS.loopG (fun(i:Nat)=> [(0,ints a),(1,ints b),(5,I i)]) (fun(i:Nat)=> []) (fun(i:Nat)=>i≤a.length∧a.take i=b.take i) (fun(i:Nat)=>a.length-i) 0 yS yS (by simp) (fun i B hI hB=>?_);try dsimp only at hI hB ⊢
 repeat' (first|(with_reducible first|refine DS.fltS yU yU yE ?_|refine DS.opsNil ?_|refine DS.seq ?_|refine DS.regionL ?_|(refine DS.cE yE ?_;first|refine CG.np (fun _=>?_) (fun _=>?_)|refine CG.p (fun _=>?_) (fun _=>?_))|refine DS.blk ?_|refine DS.block ?_|refine DS.exit yU ?_|refine DS.skip ?_)|refine DS.drawL (id:=6) [0,1,2,3,4,5,6,7] 8 (by kernel_rfl) mixed (by simp only[pickL_cons,pickL_nil,get_zero',get_cons',pickO_some];exact rfl) (by simp only[drop_zero',drop_cons',List.drop_nil];exact rfl) ?_|(with_reducible first|refine DD.fltS yU yU yU yE ?_|refine DD.nil0 ?_)|refine DS.retT [] yE trivial ?_|fail)
 ·rename_i h1 h2
  have:a≠b:=fun e=>h2 (by subst e;rfl)
  simp[tupV,this]
 ·exact DS.back (hB (i+1) _ _ (by omega) ⟨by omega,take_succ_eq hI.2 (by omega) (by omega) (by simp_all)⟩ yS yS)
 ·have:i=a.length:=by omega
  have:a=b:=by
   have h:=hI.2
   rw[List.take_of_length_le (by omega),List.take_of_length_le (by omega)]at h
   exact h
  simp[tupV,this]
end Go.XL
namespace Go.XL
open Go.Proofs
set_option maxRecDepth 100000
set_option maxHeartbeats 8000000
section
variable {P:Program} {n:Nat} {r:Rr} {Q:VEnv→Sto→Prop} {k:List Fr} {E:VEnv} {S:Sto} {dst:Option Tmp} {ty:TypeId} {pos:String} {af:Array Edge} {ops l:List Oper} {t:Nat}
theorem OpS.fieldV {v0:VH} {T m f:Nat} {fs:Array Field} {fd:Field} {c:List V} {x:Operand} (hT:P.underlying T=some (.struct fs)) (hf:fs[f]?=some fd) (he:tsz P fd.type=some (true,m)) (hx:evV E x=some (.agg c)) :
  OpS v0 P n ⟨dst, .field T x f,ty,pos,af,none⟩ E S (fun v E' S'=>v = .agg (((c.drop fd.offset).take m).map V.peek)∧E'=E∧S'=S):=by
 intro K D hv hold env a w hfl ha s0
 obtain⟨y,e1,e2⟩:=s0.rl _ _ hx
 simp only[V.Rl]at e2
 obtain⟨ys,rfl,e2⟩:=e2
 obtain⟨ti,q1,q2,q3⟩:=tsz_some he
 have hrun:(execOp a.eval ⟨dst, .field T x f,ty,pos,af,none⟩).run P w = .ok (.value (.agg (ys.toArray.extract fd.offset (fd.offset+m)))) w:=by
  simp[execOp,Instr.field,run_underlying hT,hf,ha.ev e1,part,asAgg,q3,sizeOf_run q1,q2]
 have hr:RlL hv (((c.drop fd.offset).take m).map V.peek) ((ys.drop fd.offset).take m):=RlL_peek ((e2.drop _).take _)
 refine yields_value hrun ⟨Same.refl w,_,E,S,hv,hold,PreV.refl hv,s0.put dst (v := .agg (((c.drop fd.offset).take m).map V.peek)) ?_ fun _ _=>trivial,rfl,rfl,rfl⟩
 simp only[V.Rl]
 refine⟨(ys.drop fd.offset).take m,?_,hr⟩
 congr 1
 apply Array.ext'
 simp[Array.toList_extract,List.extract_eq_take_drop]
theorem DS.fieldV {T m f off:Nat} {fs:Array Field} {fd:Field} {c:List V} {x:Operand} (hd:decide (t<n)=true) (hT:P.underlying T=some (.struct fs)) (hf:fs[f]?=some fd) (ho:fd.offset=off) (he:tsz P fd.type=some (true,m)) (hx:evV E x=some (.agg c))
  (q:DS P n r Q (.ops ops l::k) ((t, .agg (((c.drop off).take m).map V.peek))::E) S):DS P n r Q (.ops ops (⟨some t, .field T x f,ty,pos,af,none⟩::l)::k) E S:=by
 subst ho
 refine DS.step rfl rfl hd (OpS.fieldV hT hf he hx) fun v E' S' ⟨h1,h2,h3⟩=>?_
 subst h1;subst h2;subst h3;exact q
end
theorem small_best :bestH smallH [2,3,2]=(5,6):=by
 have hb:bitsM (allK [2,3,2] 3)= [0,1,2]:=by decide +kernel
 have c01:(clM smallH 0).testBit 1=true:=by decide +kernel
 have c02:(clM smallH 0).testBit 2=true:=by decide +kernel
 have c12:(clM smallH 1).testBit 2=false:=by decide +kernel
 have hl:smallH.patterns.length=3:=rfl
 rw[bestH,hl,bestM,hb]
 have e2:bestL (fun i k=>(clM smallH i).testBit k) (fun i=> [2,3,2].getD i 0) [2]=(2,[2]):=by
  rw[bestL_cons,if_neg (by simp)];simp[bestL_nil]
 have e1:bestL (fun i k=>(clM smallH i).testBit k) (fun i=> [2,3,2].getD i 0) [1,2]=(5,[1,2]):=by
  have f2:([2]:List Nat).filter (fun k=> !(clM smallH 1).testBit k)= [2]:=by simp[c12]
  rw[bestL_cons,if_neg (by simp[c12]),f2,e2];rfl
 have e0:bestL (fun i k=>(clM smallH i).testBit k) (fun i=> [2,3,2].getD i 0) [0,1,2]=(5,[1,2]):=by
  have f0:([1,2]:List Nat).filter (fun k=> !(clM smallH 0).testBit k)= []:=by simp[c01,c02]
  rw[bestL_cons,f0,e1,bestL_nil,if_pos ⟨by simp[c01],by decide⟩]
 rw[e0]
 decide +kernel
theorem small_choose :chooseS smallH [⟨0,1⟩,⟨1,1⟩,⟨2,1⟩] false=([1,2],5,0):=by
 have h0:houseS smallH=0:=by decide +kernel
 have h1:holdsGo smallH.patterns.length [⟨0,1⟩,⟨1,1⟩,⟨2,1⟩] (-1)=0:=by decide +kernel
 have h2:valsS smallH [⟨0,1⟩,⟨1,1⟩,⟨2,1⟩] false= [2,3,2]:=by decide +kernel
 have h3:(bitsM 6).map natI= [1,2]:=by decide +kernel
 rw[chooseS,if_neg (by rw[h0];decide),if_neg (by decide),if_neg (by rw[h1];decide),h2,small_best]
 dsimp only
 rw[h3]
theorem four_pay :payX2 fourH 480 0 1 2 1 (-1)=([0,2300,-2300,0],0):=by decide +kernel
theorem small_pts :ptsS smallH.scale 30 3=1920:=by decide +kernel
theorem awake5_pc :PC Tryz.prog 15 [] (Bo true):=by
 have k1:=small_pc
 have k2:=holdsL_pc [0,1,2] (by decide)
 have k3:=choose_pc smallH [⟨0,1⟩,⟨1,1⟩,⟨2,1⟩] false (by decide)
 have k4:=four_pc
 have k5:=payment_pc fourH (conds fourH) 480 0 1 2 1 (-1)
 have k6:=kitEqual_pc [1,2] [1,2]
 have k7:=kitEqual_pc [0,2300,-2300,0] [0,2300,-2300,0]
 have k8:=points_pc smallH.scale 30 3
 rw[small_choose]at k3
 rw[four_pay]at k5
 rw[small_pts]at k8
 generalize smallH=H1 at *
 refine DC.of_run Tryz.func15 rfl Tryz.ntmps15 Tryz.results15 (by simp) (fun _ _=>?_);simp only[argV_cons,argV_nil,go_sem,Nat.zero_add,Nat.reduceAdd]
 repeat' (first|(with_reducible first|refine DS.fltS yU yU yE ?_|refine DS.opsNil ?_|refine DS.seq ?_|refine DS.regionL ?_|(refine DS.gE yU yE ?_;refine GG.run ?_))|(refine DS.bsl yU yE yE ?_;simp only[go_sem,Nat.zero_add,Nat.reduceAdd])|refine DS.pcS inferInstance (k1) yR yF ?_|refine DS.pcS inferInstance (k2) yR yF ?_|refine DS.pcS inferInstance (k3) yR yF ?_|refine DS.pcS inferInstance (k4) yR yF ?_|refine DS.pcS inferInstance (k5) yR yF ?_|refine DS.pcS inferInstance (k6) yR yF ?_|refine DS.pcS inferInstance (k7) yR yF ?_|fail)
 refine DS.fieldV (off:=13) (by decide) Tryz.underlying37 yR yR (show tsz Tryz.prog 30=some (true,4) by kernel_rfl) yH ?_
 repeat' (first|(with_reducible first|refine DS.fltS yU yU yE ?_|refine DS.opsNil ?_|(refine DS.gE yU yE ?_;refine GG.run ?_))|refine DS.pcS inferInstance (k8) yR yF ?_|refine DS.retT [] yE trivial ?_|fail)
 all_goals rfl
end Go.XL
namespace Go.XL
open Go.Proofs
set_option maxRecDepth 100000
set_option maxHeartbeats 8000000
theorem scoreFeeds_pc (h:House) (hn: ∀p∈h.patterns,p.name.size≤9223372036854775807) (w:Int) (l:List Fed):PC Tryz.prog 10 [h.val,I w,fedsV l] (Bo true):=by
 have hl:=long0_pc h
 cases hq:longS h []with
 | true =>
  rw[hq]at hl
  refine DC.of_run Tryz.func10 rfl Tryz.ntmps10 Tryz.results10 (by simp) (fun _ _=>?_);simp only[argV_cons,argV_nil,go_sem,Nat.zero_add,Nat.reduceAdd]
  repeat' (first|(with_reducible first|refine DS.fltS yU yU yE ?_|refine DS.opsNil ?_|refine DS.seq ?_|refine DS.regionL ?_|(refine DS.cE yE ?_;refine CG.yes ?_)|(refine DS.gE yU yE ?_;refine GG.sT ?_))|refine DS.pcS inferInstance (hl) yR yT ?_|(refine DS.boxF (t:=3) yU yE yU ?_;simp only[cells_agg,cells_v,cells_lst,cells_fn,map_nil'',map_cons'',copy_own,copy_lst,copy_v,copy_at,copy_agg,copy_fn,copy_ifc,copy_tup])|refine DS.retT [] yE trivial ?_|fail)
  all_goals first|rfl|(exfalso;omega)
 | false =>
  rw[hq]at hl
  have hm:h.patterns.length≤1000000:=by have:=longS_false hq;omega
  by_cases h10:10<(l.length:Int)
  ·clear hq hm hn
   refine DC.of_run Tryz.func10 rfl Tryz.ntmps10 Tryz.results10 (by simp) (fun _ _=>?_);simp only[argV_cons,argV_nil,go_sem,Nat.zero_add,Nat.reduceAdd]
   repeat' (first|(with_reducible first|refine DS.fltS yU yU yE ?_|refine DS.opsNil ?_|refine DS.seq ?_|refine DS.regionL ?_|(refine DS.cE yE ?_;refine CG.yes ?_)|(refine DS.gE yU yE ?_;refine GG.run ?_))|refine DS.pcS inferInstance (hl) yR yT ?_|(refine DS.boxF (t:=3) yU yE yU ?_;simp only[cells_agg,cells_v,cells_lst,cells_fn,map_nil'',map_cons'',copy_own,copy_lst,copy_v,copy_at,copy_agg,copy_fn,copy_ifc,copy_tup])|refine DS.retT [] yE trivial ?_|fail)
   all_goals first|rfl|(exfalso;omega)
  have p1:=liable_pc h w l (by omega)
  have p2:=r5liable_pc h hm hn w l (by omega)
  generalize liabS h w l=X at *
  clear hq hm hn
  refine DC.of_run Tryz.func10 rfl Tryz.ntmps10 Tryz.results10 (by simp) (fun _ _=>?_);simp only[argV_cons,argV_nil,go_sem,Nat.zero_add,Nat.reduceAdd]
  repeat' (first|(with_reducible first|refine DS.fltS yU yU yE ?_|refine DS.opsNil ?_|refine DS.seq ?_|refine DS.regionL ?_|(refine DS.cE yE ?_;refine CG.no ?_)|(refine DS.gE yU yE ?_;refine GG.run ?_)|refine DS.skip ?_)|refine DS.pcS inferInstance (hl) yR yF ?_|refine DS.pcS inferInstance (p2) yR yF ?_|refine DS.pcS inferInstance (awake5_pc) yR yF ?_|(refine DS.boxF (t:=3) yU yE yU ?_;simp only[cells_agg,cells_v,cells_lst,cells_fn,map_nil'',map_cons'',copy_own,copy_lst,copy_v,copy_at,copy_agg,copy_fn,copy_ifc,copy_tup])|refine DS.drawL (id:=3) [0,1,2,3,4,5,6] 7 (by kernel_rfl) mixed (by simp only[pickL_cons,pickL_nil,get_zero',get_cons',pickO_some];exact rfl) (by simp only[drop_zero',drop_cons',List.drop_nil];exact rfl) ?_|(with_reducible first|refine DD.fltS yU yU yU yE ?_|refine DD.nil0 ?_)|refine DD.pcV0 inferInstance (p1) yU yF ?_|refine DS.retT [] yE trivial ?_|fail)
  all_goals first|rfl|(exfalso;omega)
end Go.XL
namespace Go.XL
open Go.Proofs Go.ChangeShapes Go.WideShapes Go.ChangeAt Go.RowKit
def hvW (W:World):VH:=fun b=>W.heap[b]?
def baseW (W:World) (k:Kn (hvW W)):Bs:=⟨fun b=>b<W.heap.size,W.heap,hvW W,k⟩
theorem stW (W:World) (k:Kn (hvW W)):St (baseW W k) (hvW W) (fun _=>none) [] [] [] W.heap where
 pre:=fun b o e=>⟨o,e,leO.refl o⟩
 slot:=fun t v e=>by cases e
 obj:=fun b o e=>by cases e
 held:=fun g x e=>by cases e
 base:=⟨fun b h=>h,Nat.le_refl _,fun b _=>rfl⟩
 vbase:=⟨PreV.refl _,fun _ _=>rfl⟩
structure KeptW (W W':World):Prop where
 os:W'.os=W.os
 output:W'.output=W.output
 size:W.heap.size≤W'.heap.size
 old: ∀b,b<W.heap.size→W'.heap[b]?=W.heap[b]?
theorem PC.door {P:Program} {f:FuncId} {vs:List V} {xs:List Value} (h:PC P f vs (.v (.bool true))) (W:World) (hx:RlL (hvW W) vs xs) (k:Kn (hvW W):=by exact kn_all _) :
  Calls P f xs.toArray W fun e w'=>e = .returned (.bool true)∧KeptW W w':=by
 refine(h (hvW W) (baseW W k) (hvW W) (fun _=>none) W.heap xs (PreV.refl _) hx (stW W k) W rfl).mono fun e w'=>?_
 rintro⟨y,rfl,⟨s1,s2,s3⟩,v,S',hv',hold',-,st,rfl⟩
 obtain⟨z,h1,h2,-⟩:=st.slot 0 (.v (.bool true)) rfl
 simp only[V.Rl]at h2
 subst h2
 have h3:look [(0,y)] 0=some y:=by simp[look]
 rw[h3]at h1
 cases h1
 exact⟨rfl,s1,s3,st.base.2.1,st.base.2.2⟩
theorem KeptW.keptBut {W W':World} (k:KeptW W W') (may:MemPlace→Prop):W.keptBut W' may:=by
 refine⟨k.os,k.output,fun i hi=>?_⟩
 rw[k.old i hi]
 generalize W.heap[i]?=o
 cases o with
 | none=>trivial
 | some o=>cases o <;> simp
theorem KeptW.cell {W W':World} (k:KeptW W W') {a:Addr} (h:a.block<W.heap.size):W'.cell? a=W.cell? a:=by
 unfold World.cell?
 rw[k.old _ h]
theorem KeptW.sameAt {W W':World} (k:KeptW W W') {p:MemPlace} (h:p.block<W.heap.size):W.sameAt W' p:=by
 cases p with
 | cell b off=>exact k.cell h
 | map b=>exact k.old _ h
section
variable {H:Type} {enc:TypeId×Value→H} {P:Program}
theorem trodAll_stays (hl:laidOutB P=true) {W W':World} {sp:Nat→Bool}: ∀{ts:List TypeId} {vs:List Value} {ds:List (DataW H)} {ps:List MemPlace},(∀t∈ts,P.readableRec t=true∧t<P.types.size) →
  DataW.TrodAll enc P W 0 (fun _=>true) true ts vs ds ps→(∀p∈ps,W.sameAt W' p)→(∀p∈ps,sp p.block=true)→DataW.TrodAll enc P W' 0 sp true ts vs ds ps
 | [],vs,ds,ps,_,h,_,_=>by
  obtain⟨rfl,rfl,rfl⟩:=trodAll_nil h
  rfl
 | t::ts,vs,ds,ps,ht,h,h1,h2=>by
  obtain⟨v,vs',d,ds',p,q,rfl,rfl,rfl,h3,h4⟩:=trodAll_cons h
  obtain⟨r1,r2⟩:=ht t (List.mem_cons_self ..)
  exact⟨p,q,WideElems.Trod_stays hl r1 r2 h3 (fun x hx=>h1 x (List.mem_append_left _ hx)) (fun x hx=>h2 x (List.mem_append_left _ hx)),
   trodAll_stays hl (fun t h=>ht t (List.mem_cons_of_mem _ h)) h4 (fun x hx=>h1 x (List.mem_append_right _ hx)) (fun x hx=>h2 x (List.mem_append_right _ hx)),rfl⟩
theorem post_law {f:Func} {s:ChangeSpec} {apart fresh handsOn:Bool} {W W':World} {args:Array Value} {ds gs:List (DataW H)} {before:List MemPlace} {tb:TypeId}
  (hW:DataW.Whole enc P f.params.toList s.vars apart W args.toList ds gs before) (hv:s.vars= []) (hs:s.fn H ds={results:= [.lit (.bool true)],args:=ds})
  (hrt:f.resultTypes= #[tb]) (hb:P.underlying tb=some .bool) (hl:laidOutB P=true) (hr: ∀t∈f.params.toList,P.readableRec t=true∧t<P.types.size) (k:KeptW W W') :
  s.post enc P f apart fresh handsOn false W args (.bool true) W':=by
 have hlt:=fun p hp=>hW.lt (p:=p) hp
 have hW':=hW
 obtain⟨p,q,hA,hV,rfl,-,-⟩:=hW
 rw[hv]at hV
 obtain⟨rfl,rfl⟩:=trodVars_none hV
 refine⟨ds,[],p++ [],[],p,[],hW',?_,?_,?_,k.keptBut _,fun h=>by cases h⟩
 ·rw[List.append_nil,hs,hrt]
  exact trodAll_mk1 (shut_bool hb _)
 ·rw[List.append_nil,hs]
  exact trodAll_stays hl hr hA (fun x hx=>k.sameAt (hlt x (by simpa using hx))) (fun x hx=>by simpa using hlt x (by simpa using hx))
 ·rw[List.append_nil,hs,hv]
  rfl
def Opens (P:Program) (W:World) (H:Type) (enc:TypeId×Value→H) (t:TypeId) {α:Type} (f:α→List V) (G:α→Prop):Prop :=
 ∀fuel cs x,DataW.trod enc P W 0 (fun _=>true) true fuel t cs=some x→ ∃a,RlL (hvW W) (f a) cs∧(∀u∈cs,u.oneCell'=true)∧G a
variable {W:World} {t e:TypeId}
theorem opens_int {k:IntKind} (ht:P.underlying t=some (.int k)):Opens P W H enc t (fun n:Int=> [.v (.int k n)]) (fun n=>(Lit.int k n).wf=true):=by
 intro fuel cs x h
 obtain⟨n,rfl,-,hw⟩:=DataW.trod_int ht h
 exact⟨n,by simp[RlL,V.Rl],by simp[Value.oneCell'],hw⟩
theorem opens_bool (ht:P.underlying t=some .bool):Opens P W H enc t (fun b:Bool=> [.v (.bool b)]) (fun _=>True):=by
 intro fuel cs x h
 obtain⟨b,rfl,-⟩:=DataW.trod_bool ht h
 exact⟨b,by simp[RlL,V.Rl],by simp[Value.oneCell'],trivial⟩
theorem RlL.len {hv:VH}: ∀{vs:List V} {cs:List Value},RlL hv vs cs→vs.length=cs.length
 | [],_,h=>by simp only[RlL]at h;subst h;rfl
 | v::vs,cs,h=>by
  simp only[RlL]at h
  obtain⟨z,zs,rfl,-,h⟩:=h
  simp[RlL.len h]
theorem in64_wf {n:Int} (h:(Lit.int .i64 n).wf=true) : -9223372036854775808≤n∧n≤9223372036854775807:=by
 have h1:IntKind.min .i64 = -9223372036854775808:=by decide
 have h2:IntKind.max .i64=9223372036854775807:=by decide
 simp only[Lit.wf,h1,h2,Bool.and_eq_true,decide_eq_true_eq]at h
 exact h
theorem RlL.one {hv:VH} {v:V} {y:Value} (h:v.Rl hv y):RlL hv [v] [y]:=by
 simp only[RlL];exact⟨y,[],rfl,h,rfl⟩
theorem RlL.cons_one {hv:VH} {v:V} {y:Value} {vs:List V} {ys:List Value} (h:RlL hv [v] [y]) (k:RlL hv vs ys):RlL hv (v::vs) (y::ys):=by
 simp only[RlL]at h ⊢
 obtain⟨z,zs,e,h1,h2⟩:=h
 cases e
 exact⟨_,_,rfl,h1,k⟩
theorem rlC_of {a:Addr} {m:Nat}: ∀{vs:List V} {cs:List Value} {i:Nat},RlL (hvW W) vs cs→(∀u∈cs,u.oneCell'=true)→(∀j,j<cs.length→W.cell? (a.add (i+j))=cs[j]?)→RlC (hvW W) (some a) i vs
 | [],_,_,_,_,_=>by simp only[RlC]
 | v::vs,cs,i,h,h1,h2=>by
  simp only[RlL]at h
  obtain⟨z,zs,rfl,h3,h4⟩:=h
  simp only[RlC]
  refine⟨⟨z,?_,h3,h1 z (List.mem_cons_self ..)⟩,rlC_of (m:=m) h4 (fun u hu=>h1 u (List.mem_cons_of_mem _ hu)) fun j hj=>?_⟩
  ·have:=h2 0 (by simp)
   rw[Nat.add_zero]at this
   exact this
  ·have:=h2 (j+1) (by simpa using hj)
   rw[show i+1+j=i+(j+1) by omega,this]
   rfl
theorem rlE_of {a:Addr} {sz:Nat}: ∀{l:List (List V)} {i:Nat},(∀(j:Nat) (h:j<l.length),l[j].length=sz∧RlC (hvW W) (some a) (i+j*sz) l[j])→RlE (hvW W) (some a) i l
 | [],_,_=>by simp only[RlE]
 | c::l,i,h=>by
  simp only[RlE]
  have h0:=h 0 (by simp)
  simp only[Nat.zero_mul,Nat.add_zero,List.getElem_cons_zero]at h0
  refine⟨h0.2,rlE_of (sz:=sz) fun j hj=>?_⟩
  have h1:=h (j+1) (by simpa using hj)
  simp only[List.getElem_cons_succ]at h1
  refine⟨h1.1,?_⟩
  have e:i+c.length+j*sz=i+(j+1)*sz:=by rw[h0.1,Nat.add_mul,Nat.one_mul];omega
  rw[e]
  exact h1.2
theorem choose_list {α β:Type} {R:Nat→α→Prop}: ∀(n:Nat),(∀i,i<n→ ∃a,R i a)→ ∃l:List α,l.length=n∧ ∀(i:Nat) (h:i<l.length),R i l[i]
 | 0,_=>⟨[],rfl,fun i h=>by cases h⟩
 | n+1,h=>by
  obtain⟨l,h1,h2⟩:=choose_list (β:=β) n fun i hi=>h i (by omega)
  obtain⟨a,ha⟩:=h n (by omega)
  refine⟨l++ [a],by simp[h1],fun i hi=>?_⟩
  rw[List.length_append,List.length_singleton]at hi
  by_cases h3:i<l.length
  ·rw[List.getElem_append_left h3];exact h2 i h3
  ·obtain rfl:i=l.length:=by omega
   simp only[List.getElem_concat_length]
   rw[h1];exact ha
theorem opens_slice {α:Type} {f:α→List V} {G:α→Prop} {sz:Nat} (ht:P.underlying t=some (.slice e)) (hc:P.cellsOf e=sz) (h:Opens P W H enc e f G) :
  Opens P W H enc t (fun l:List α=> [.lst (l.map f)]) (fun l=> ∀a∈l,G a):=by
 intro fuel cs x hx
 rcases DataW.trod_slice ht hx with⟨rfl,-⟩|⟨a,len,cap,elems,rest,n,rfl,rfl,-,-,h1,h2,h3,h4,-,-⟩
 ·refine⟨[],?_,by simp[Value.oneCell'],fun a h=>by cases h⟩
  simp only[RlL,V.Rl,List.map_nil]
  exact⟨_,[],rfl,⟨none,0,0,rfl,Nat.le_refl _,Nat.zero_le _,(fun c h=>by cases h),by simp only[RlE]⟩,rfl⟩
 ·obtain⟨l,hl,hk⟩:=choose_list (β:=Unit) (R:=fun i y=> ∃cs,W.cells? 0 (a.add (i*sz)) sz=some cs∧RlL (hvW W) (f y) cs∧(∀u∈cs,u.oneCell'=true)∧G y) len (fun i hi=>by
   have h5:=h4 i hi
   rw[List.getElem?_eq_getElem (by omega),Option.bind_eq_some_iff,hc]at h5
   obtain⟨cs,h6,h7⟩:=h5
   obtain⟨y,h8,h9,h10⟩:=h _ _ _ h7
   exact⟨y,cs,h6,h8,h9,h10⟩)
  have hlen: ∀y∈l,(f y).length=sz:=fun y hy=>by
   obtain⟨i,hi,rfl⟩:=List.mem_iff_getElem.1 hy
   obtain⟨cs,k1,k2,-,-⟩:=hk i hi
   rw[k2.len,(World.cells?_some k1).2.1]
  refine⟨l,?_,by simp[Value.oneCell'],fun y hy=>?_⟩
  ·simp only[RlL,V.Rl]
   refine⟨_,[],rfl,⟨some a,cap,sz,by rw[List.length_map,hl],by rw[List.length_map,hl];exact h1,h2,fun c hc=>?_,rlE_of (sz:=sz) fun j hj=>?_⟩,rfl⟩
   ·obtain⟨y,hy,rfl⟩:=List.mem_map.1 hc
    exact hlen y hy
   ·rw[List.length_map]at hj
    rw[List.getElem_map]
    obtain⟨cs,k1,k2,k3,k4⟩:=hk j hj
    obtain⟨-,k5,k6⟩:=World.cells?_some k1
    refine⟨hlen _ (List.getElem_mem hj),rlC_of (m:=sz) k2 k3 fun i hi=>?_⟩
    rw[Nat.zero_add,←add_add]
    exact k6 i (by omega)
  ·obtain⟨i,hi,rfl⟩:=List.mem_iff_getElem.1 hy
   obtain⟨cs,-,-,-,k4⟩:=hk i hi
   exact k4
end
end Go.XL
