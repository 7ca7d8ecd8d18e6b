/- A part of a program logic over the kit's walk rules, and contracts of functions in it. Conditions: as each theorem says. -/
import Derived.Test.YtfgeogepihjdiaaGreatDoorC4
import Derived.Ground.NamesProg
import Derived.Shelf.Strings.SlTrimAscii
import Derived.Test.YtfgeogepihjdiaaGreatDoorProg
set_option linter.all false
namespace Go.XL
open Go.Proofs
set_option maxRecDepth 100000
set_option maxHeartbeats 8000000
theorem kinds_bd (s:GSet):0≤kindsS s∧kindsS s≤1000:=by
 by_cases h:gsetS s=0
 ·have:=(gset_ok h).plain
  rw[kindsS,if_neg (by omega)];omega
 ·rw[kindsS,if_pos h];omega
theorem usesC_pc (num:Bool) (p:ByteArray) (U bit r lo hi ml mh:Int) (h:bop Tryz.prog .and 3 (.int .i64 U) (.int .i64 bit)=some (.int .i64 r)) :
  PC Tryz.prog 138 [I bit, .plc [Bo num,St8 p,I U,I lo,I hi,I ml,I mh]] (Bo (decide (0<r))):=by
 refine DC.of_run Tryz.func138 rfl Tryz.ntmps138 Tryz.results138 (by simp) (fun _ _=>?_);simp only[argV_cons,argV_nil,go_sem,Nat.zero_add,Nat.reduceAdd]
 repeat' (first|(with_reducible first|refine DS.fltS yU yU yE ?_|refine DS.opsNil ?_|refine DS.seq ?_|refine DS.regionL ?_)|refine DS.retT [] yE trivial ?_|fail)
 rfl
def nodeT (a b c d e:Bool) (lo hi ml mh:Int) (s:GSet) (x:Node):Int :=
 if(a=false∧x.what≠0)∨(b=false∧x.n≠0)∨(c=false∧x.m≠0)∨(d=false∧(x.open_≠0∨x.all=true))∨(e=false∧0<(x.kinds.length:Int))then 3 else
 if(a=true∧ ¬(1≤x.what∧x.what≤31))∨(b=true∧ ¬(lo≤x.n∧x.n≤hi))∨(c=true∧ ¬(ml≤x.m∧x.m≤mh))∨(d=true∧ ¬(0≤x.open_∧x.open_≤2))then 2 else
 ascS (kindsS s) x.kinds
theorem node00000_pc (s:GSet) (x:Node) (num:Bool) (p:ByteArray) (lo hi ml mh:Int) (hs:PC Tryz.prog 108 [I x.op] (.tup [.agg [Bo num,St8 p,I 0,I lo,I hi,I ml,I mh],Bo true])) :
  PC Tryz.prog 107 [s.val,x.val] (I (nodeT false false false false false lo hi ml mh s x)):=by
 have hk:=tkinds_pc s
 have hb:0≤kindsS s∧kindsS s≤1000:=kinds_bd s
 have hr:=hrising_pc (kindsS s) x.kinds hb
 have u1:=usesC_pc num p 0 1 0 lo hi ml mh rfl
 have u2:=usesC_pc num p 0 2 0 lo hi ml mh rfl
 have u4:=usesC_pc num p 0 4 0 lo hi ml mh rfl
 have u8:=usesC_pc num p 0 8 0 lo hi ml mh rfl
 have u16:=usesC_pc num p 0 16 0 lo hi ml mh rfl
 refine DC.of_run Tryz.func107 rfl Tryz.ntmps107 Tryz.results107 (by simp) (fun _ _=>?_);simp only[argV_cons,argV_nil,go_sem,Nat.zero_add,Nat.reduceAdd]
 repeat' (first|(with_reducible first|refine DS.fltS yU yU yE ?_|refine DS.opsNil ?_|refine DS.seq ?_|refine DS.regionL ?_|(refine DS.cE yE ?_;first|refine CG.p (fun _=>?_) (fun _=>?_)|refine CG.yes ?_|refine CG.no ?_)|(refine DS.gE yU yE ?_;first|refine GG.sU ?_|refine GG.npF (fun _=>?_) (fun _=>?_)|refine GG.run ?_|refine GG.sF ?_|refine GG.sT ?_|refine GG.bF (fun _=>?_) (fun _=>?_))|refine DS.skip ?_)|(refine DS.letF (t:=5) yU yE yU (fun _=>yE) yE yU (by exact⟨by with_unfolding_all rfl,by with_unfolding_all decide⟩) (fun _=>by simp only[go_sem,Nat.reduceEqDiff,↓reduceIte]) ?_;simp only[go_sem])|refine DS.pcS inferInstance (hs) yR yF ?_|refine DS.pcVS inferInstance yE (u1) yR yF ?_|refine DS.pcVS inferInstance yE (u2) yR yF ?_|refine DS.pcVS inferInstance yE (u4) yR yF ?_|refine DS.pcVS inferInstance yE (u8) yR yF ?_|refine DS.pcVS inferInstance yE (u16) yR yF ?_|refine DS.pcS inferInstance (hr) yR yF ?_|(refine DS.boxF (t:=2) yU yE yU ?_;simp only[cells_agg,cells_v,cells_lst,cells_fn,map_nil'',map_cons'',copy_own,copy_lst,copy_v,copy_at,copy_agg,copy_fn,copy_ifc,copy_tup])|(refine DS.boxF (t:=3) yU yE yU ?_;simp only[cells_agg,cells_v,cells_lst,cells_fn,map_nil'',map_cons'',copy_own,copy_lst,copy_v,copy_at,copy_agg,copy_fn,copy_ifc,copy_tup])|refine DS.drawL (id:=9) [0,1,2,3] 4 (by kernel_rfl) mixed (by simp only[pickL_cons,pickL_nil,get_zero',get_cons',pickO_some];exact rfl) (by simp only[drop_zero',drop_cons',List.drop_nil];exact rfl) ?_|(with_reducible first|refine DD.fltS yU yU yU yE ?_|refine DD.nil0 ?_)|refine DD.pcV0 inferInstance (hk) yU yF ?_|refine DS.retT [] yE trivial ?_|fail)
 all_goals (simp only[tupV,nodeT];(repeat' split) <;> first|rfl|(exfalso;clear u1 u2 u4 u8 u16 hs hk hr;grind))
theorem node01000_pc (s:GSet) (x:Node) (num:Bool) (p:ByteArray) (lo hi ml mh:Int) (hs:PC Tryz.prog 108 [I x.op] (.tup [.agg [Bo num,St8 p,I 2,I lo,I hi,I ml,I mh],Bo true])) :
  PC Tryz.prog 107 [s.val,x.val] (I (nodeT false true false false false lo hi ml mh s x)):=by
 have hk:=tkinds_pc s
 have hb:0≤kindsS s∧kindsS s≤1000:=kinds_bd s
 have hr:=hrising_pc (kindsS s) x.kinds hb
 have u1:=usesC_pc num p 2 1 0 lo hi ml mh rfl
 have u2:=usesC_pc num p 2 2 2 lo hi ml mh rfl
 have u4:=usesC_pc num p 2 4 0 lo hi ml mh rfl
 have u8:=usesC_pc num p 2 8 0 lo hi ml mh rfl
 have u16:=usesC_pc num p 2 16 0 lo hi ml mh rfl
 refine DC.of_run Tryz.func107 rfl Tryz.ntmps107 Tryz.results107 (by simp) (fun _ _=>?_);simp only[argV_cons,argV_nil,go_sem,Nat.zero_add,Nat.reduceAdd]
 repeat' (first|(with_reducible first|refine DS.fltS yU yU yE ?_|refine DS.opsNil ?_|refine DS.seq ?_|refine DS.regionL ?_|(refine DS.cE yE ?_;first|refine CG.p (fun _=>?_) (fun _=>?_)|refine CG.yes ?_|refine CG.no ?_)|(refine DS.gE yU yE ?_;first|refine GG.sU ?_|refine GG.npF (fun _=>?_) (fun _=>?_)|refine GG.run ?_|refine GG.sF ?_|refine GG.sT ?_|refine GG.bF (fun _=>?_) (fun _=>?_))|refine DS.skip ?_)|(refine DS.letF (t:=5) yU yE yU (fun _=>yE) yE yU (by exact⟨by with_unfolding_all rfl,by with_unfolding_all decide⟩) (fun _=>by simp only[go_sem,Nat.reduceEqDiff,↓reduceIte]) ?_;simp only[go_sem])|refine DS.pcS inferInstance (hs) yR yF ?_|refine DS.pcVS inferInstance yE (u1) yR yF ?_|refine DS.pcVS inferInstance yE (u2) yR yF ?_|refine DS.pcVS inferInstance yE (u4) yR yF ?_|refine DS.pcVS inferInstance yE (u8) yR yF ?_|refine DS.pcVS inferInstance yE (u16) yR yF ?_|refine DS.pcS inferInstance (hfrom_pc _ _ _) yR yF ?_|refine DS.pcS inferInstance (hr) yR yF ?_|(refine DS.boxF (t:=2) yU yE yU ?_;simp only[cells_agg,cells_v,cells_lst,cells_fn,map_nil'',map_cons'',copy_own,copy_lst,copy_v,copy_at,copy_agg,copy_fn,copy_ifc,copy_tup])|(refine DS.boxF (t:=3) yU yE yU ?_;simp only[cells_agg,cells_v,cells_lst,cells_fn,map_nil'',map_cons'',copy_own,copy_lst,copy_v,copy_at,copy_agg,copy_fn,copy_ifc,copy_tup])|refine DS.drawL (id:=9) [0,1,2,3] 4 (by kernel_rfl) mixed (by simp only[pickL_cons,pickL_nil,get_zero',get_cons',pickO_some];exact rfl) (by simp only[drop_zero',drop_cons',List.drop_nil];exact rfl) ?_|(with_reducible first|refine DD.fltS yU yU yU yE ?_|refine DD.nil0 ?_)|refine DD.pcV0 inferInstance (hk) yU yF ?_|refine DS.retT [] yE trivial ?_|fail)
 all_goals (simp only[tupV,nodeT];(repeat' split) <;> first|rfl|(exfalso;clear u1 u2 u4 u8 u16 hs hk hr;grind))
theorem node11000_pc (s:GSet) (x:Node) (num:Bool) (p:ByteArray) (lo hi ml mh:Int) (hs:PC Tryz.prog 108 [I x.op] (.tup [.agg [Bo num,St8 p,I 3,I lo,I hi,I ml,I mh],Bo true])) :
  PC Tryz.prog 107 [s.val,x.val] (I (nodeT true true false false false lo hi ml mh s x)):=by
 have hk:=tkinds_pc s
 have hb:0≤kindsS s∧kindsS s≤1000:=kinds_bd s
 have hr:=hrising_pc (kindsS s) x.kinds hb
 have u1:=usesC_pc num p 3 1 1 lo hi ml mh rfl
 have u2:=usesC_pc num p 3 2 2 lo hi ml mh rfl
 have u4:=usesC_pc num p 3 4 0 lo hi ml mh rfl
 have u8:=usesC_pc num p 3 8 0 lo hi ml mh rfl
 have u16:=usesC_pc num p 3 16 0 lo hi ml mh rfl
 refine DC.of_run Tryz.func107 rfl Tryz.ntmps107 Tryz.results107 (by simp) (fun _ _=>?_);simp only[argV_cons,argV_nil,go_sem,Nat.zero_add,Nat.reduceAdd]
 repeat' (first|(with_reducible first|refine DS.fltS yU yU yE ?_|refine DS.opsNil ?_|refine DS.seq ?_|refine DS.regionL ?_|(refine DS.cE yE ?_;first|refine CG.p (fun _=>?_) (fun _=>?_)|refine CG.yes ?_|refine CG.no ?_)|(refine DS.gE yU yE ?_;first|refine GG.sU ?_|refine GG.npF (fun _=>?_) (fun _=>?_)|refine GG.run ?_|refine GG.sF ?_|refine GG.sT ?_|refine GG.bF (fun _=>?_) (fun _=>?_))|refine DS.skip ?_)|(refine DS.letF (t:=5) yU yE yU (fun _=>yE) yE yU (by exact⟨by with_unfolding_all rfl,by with_unfolding_all decide⟩) (fun _=>by simp only[go_sem,Nat.reduceEqDiff,↓reduceIte]) ?_;simp only[go_sem])|refine DS.pcS inferInstance (hs) yR yF ?_|refine DS.pcVS inferInstance yE (u1) yR yF ?_|refine DS.pcVS inferInstance yE (u2) yR yF ?_|refine DS.pcVS inferInstance yE (u4) yR yF ?_|refine DS.pcVS inferInstance yE (u8) yR yF ?_|refine DS.pcVS inferInstance yE (u16) yR yF ?_|refine DS.pcS inferInstance (hfrom_pc _ _ _) yR yF ?_|refine DS.pcS inferInstance (hr) yR yF ?_|(refine DS.boxF (t:=2) yU yE yU ?_;simp only[cells_agg,cells_v,cells_lst,cells_fn,map_nil'',map_cons'',copy_own,copy_lst,copy_v,copy_at,copy_agg,copy_fn,copy_ifc,copy_tup])|(refine DS.boxF (t:=3) yU yE yU ?_;simp only[cells_agg,cells_v,cells_lst,cells_fn,map_nil'',map_cons'',copy_own,copy_lst,copy_v,copy_at,copy_agg,copy_fn,copy_ifc,copy_tup])|refine DS.drawL (id:=9) [0,1,2,3] 4 (by kernel_rfl) mixed (by simp only[pickL_cons,pickL_nil,get_zero',get_cons',pickO_some];exact rfl) (by simp only[drop_zero',drop_cons',List.drop_nil];exact rfl) ?_|(with_reducible first|refine DD.fltS yU yU yU yE ?_|refine DD.nil0 ?_)|refine DD.pcV0 inferInstance (hk) yU yF ?_|refine DS.retT [] yE trivial ?_|fail)
 all_goals (simp only[tupV,nodeT];(repeat' split) <;> first|rfl|(exfalso;clear u1 u2 u4 u8 u16 hs hk hr;grind))
theorem node10011_pc (s:GSet) (x:Node) (num:Bool) (p:ByteArray) (lo hi ml mh:Int) (hs:PC Tryz.prog 108 [I x.op] (.tup [.agg [Bo num,St8 p,I 25,I lo,I hi,I ml,I mh],Bo true])) :
  PC Tryz.prog 107 [s.val,x.val] (I (nodeT true false false true true lo hi ml mh s x)):=by
 have hk:=tkinds_pc s
 have hb:0≤kindsS s∧kindsS s≤1000:=kinds_bd s
 have hr:=hrising_pc (kindsS s) x.kinds hb
 have u1:=usesC_pc num p 25 1 1 lo hi ml mh rfl
 have u2:=usesC_pc num p 25 2 0 lo hi ml mh rfl
 have u4:=usesC_pc num p 25 4 0 lo hi ml mh rfl
 have u8:=usesC_pc num p 25 8 8 lo hi ml mh rfl
 have u16:=usesC_pc num p 25 16 16 lo hi ml mh rfl
 refine DC.of_run Tryz.func107 rfl Tryz.ntmps107 Tryz.results107 (by simp) (fun _ _=>?_);simp only[argV_cons,argV_nil,go_sem,Nat.zero_add,Nat.reduceAdd]
 repeat' (first|(with_reducible first|refine DS.fltS yU yU yE ?_|refine DS.opsNil ?_|refine DS.seq ?_|refine DS.regionL ?_|(refine DS.cE yE ?_;first|refine CG.np (fun _=>?_) (fun _=>?_)|refine CG.yes ?_|refine CG.no ?_)|(refine DS.gE yU yE ?_;first|refine GG.sU ?_|refine GG.npF (fun _=>?_) (fun _=>?_)|refine GG.run ?_|refine GG.sF ?_|refine GG.sT ?_)|refine DS.skip ?_)|(refine DS.letF (t:=5) yU yE yU (fun _=>yE) yE yU (by exact⟨by with_unfolding_all rfl,by with_unfolding_all decide⟩) (fun _=>by simp only[go_sem,Nat.reduceEqDiff,↓reduceIte]) ?_;simp only[go_sem])|refine DS.pcS inferInstance (hs) yR yF ?_|refine DS.pcVS inferInstance yE (u1) yR yF ?_|refine DS.pcVS inferInstance yE (u2) yR yF ?_|refine DS.pcVS inferInstance yE (u4) yR yF ?_|refine DS.pcVS inferInstance yE (u8) yR yF ?_|refine DS.pcVS inferInstance yE (u16) yR yF ?_|refine DS.pcS inferInstance (hfrom_pc _ _ _) yR yF ?_|refine DS.pcS inferInstance (hr) yR yF ?_|(refine DS.boxF (t:=2) yU yE yU ?_;simp only[cells_agg,cells_v,cells_lst,cells_fn,map_nil'',map_cons'',copy_own,copy_lst,copy_v,copy_at,copy_agg,copy_fn,copy_ifc,copy_tup])|(refine DS.boxF (t:=3) yU yE yU ?_;simp only[cells_agg,cells_v,cells_lst,cells_fn,map_nil'',map_cons'',copy_own,copy_lst,copy_v,copy_at,copy_agg,copy_fn,copy_ifc,copy_tup])|refine DS.drawL (id:=9) [0,1,2,3] 4 (by kernel_rfl) mixed (by simp only[pickL_cons,pickL_nil,get_zero',get_cons',pickO_some];exact rfl) (by simp only[drop_zero',drop_cons',List.drop_nil];exact rfl) ?_|(with_reducible first|refine DD.fltS yU yU yU yE ?_|refine DD.nil0 ?_)|refine DD.pcV0 inferInstance (hk) yU yF ?_|refine DS.retT [] yE trivial ?_|fail)
 all_goals (simp only[tupV,nodeT];(repeat' split) <;> first|rfl|(exfalso;clear u1 u2 u4 u8 u16 hs hk hr;grind))
theorem node00001_pc (s:GSet) (x:Node) (num:Bool) (p:ByteArray) (lo hi ml mh:Int) (hs:PC Tryz.prog 108 [I x.op] (.tup [.agg [Bo num,St8 p,I 16,I lo,I hi,I ml,I mh],Bo true])) :
  PC Tryz.prog 107 [s.val,x.val] (I (nodeT false false false false true lo hi ml mh s x)):=by
 have hk:=tkinds_pc s
 have hb:0≤kindsS s∧kindsS s≤1000:=kinds_bd s
 have hr:=hrising_pc (kindsS s) x.kinds hb
 have u1:=usesC_pc num p 16 1 0 lo hi ml mh rfl
 have u2:=usesC_pc num p 16 2 0 lo hi ml mh rfl
 have u4:=usesC_pc num p 16 4 0 lo hi ml mh rfl
 have u8:=usesC_pc num p 16 8 0 lo hi ml mh rfl
 have u16:=usesC_pc num p 16 16 16 lo hi ml mh rfl
 refine DC.of_run Tryz.func107 rfl Tryz.ntmps107 Tryz.results107 (by simp) (fun _ _=>?_);simp only[argV_cons,argV_nil,go_sem,Nat.zero_add,Nat.reduceAdd]
 repeat' (first|(with_reducible first|refine DS.fltS yU yU yE ?_|refine DS.opsNil ?_|refine DS.seq ?_|refine DS.regionL ?_|(refine DS.cE yE ?_;first|refine CG.yes ?_|refine CG.no ?_)|(refine DS.gE yU yE ?_;first|refine GG.sU ?_|refine GG.npF (fun _=>?_) (fun _=>?_)|refine GG.run ?_|refine GG.sF ?_|refine GG.sT ?_|refine GG.bF (fun _=>?_) (fun _=>?_))|refine DS.skip ?_)|(refine DS.letF (t:=5) yU yE yU (fun _=>yE) yE yU (by exact⟨by with_unfolding_all rfl,by with_unfolding_all decide⟩) (fun _=>by simp only[go_sem,Nat.reduceEqDiff,↓reduceIte]) ?_;simp only[go_sem])|refine DS.pcS inferInstance (hs) yR yF ?_|refine DS.pcVS inferInstance yE (u1) yR yF ?_|refine DS.pcVS inferInstance yE (u2) yR yF ?_|refine DS.pcVS inferInstance yE (u4) yR yF ?_|refine DS.pcVS inferInstance yE (u8) yR yF ?_|refine DS.pcVS inferInstance yE (u16) yR yF ?_|refine DS.pcS inferInstance (hr) yR yF ?_|(refine DS.boxF (t:=2) yU yE yU ?_;simp only[cells_agg,cells_v,cells_lst,cells_fn,map_nil'',map_cons'',copy_own,copy_lst,copy_v,copy_at,copy_agg,copy_fn,copy_ifc,copy_tup])|(refine DS.boxF (t:=3) yU yE yU ?_;simp only[cells_agg,cells_v,cells_lst,cells_fn,map_nil'',map_cons'',copy_own,copy_lst,copy_v,copy_at,copy_agg,copy_fn,copy_ifc,copy_tup])|refine DS.drawL (id:=9) [0,1,2,3] 4 (by kernel_rfl) mixed (by simp only[pickL_cons,pickL_nil,get_zero',get_cons',pickO_some];exact rfl) (by simp only[drop_zero',drop_cons',List.drop_nil];exact rfl) ?_|(with_reducible first|refine DD.fltS yU yU yU yE ?_|refine DD.nil0 ?_)|refine DD.pcV0 inferInstance (hk) yU yF ?_|refine DS.retT [] yE trivial ?_|fail)
 all_goals (simp only[tupV,nodeT];(repeat' split) <;> first|rfl|(exfalso;clear u1 u2 u4 u8 u16 hs hk hr;grind))
theorem node11100_pc (s:GSet) (x:Node) (num:Bool) (p:ByteArray) (lo hi ml mh:Int) (hs:PC Tryz.prog 108 [I x.op] (.tup [.agg [Bo num,St8 p,I 7,I lo,I hi,I ml,I mh],Bo true])) :
  PC Tryz.prog 107 [s.val,x.val] (I (nodeT true true true false false lo hi ml mh s x)):=by
 have hk:=tkinds_pc s
 have hb:0≤kindsS s∧kindsS s≤1000:=kinds_bd s
 have hr:=hrising_pc (kindsS s) x.kinds hb
 have u1:=usesC_pc num p 7 1 1 lo hi ml mh rfl
 have u2:=usesC_pc num p 7 2 2 lo hi ml mh rfl
 have u4:=usesC_pc num p 7 4 4 lo hi ml mh rfl
 have u8:=usesC_pc num p 7 8 0 lo hi ml mh rfl
 have u16:=usesC_pc num p 7 16 0 lo hi ml mh rfl
 refine DC.of_run Tryz.func107 rfl Tryz.ntmps107 Tryz.results107 (by simp) (fun _ _=>?_);simp only[argV_cons,argV_nil,go_sem,Nat.zero_add,Nat.reduceAdd]
 repeat' (first|(with_reducible first|refine DS.fltS yU yU yE ?_|refine DS.opsNil ?_|refine DS.seq ?_|refine DS.regionL ?_|(refine DS.cE yE ?_;first|refine CG.p (fun _=>?_) (fun _=>?_)|refine CG.yes ?_|refine CG.no ?_)|(refine DS.gE yU yE ?_;first|refine GG.sU ?_|refine GG.npF (fun _=>?_) (fun _=>?_)|refine GG.run ?_|refine GG.sF ?_|refine GG.sT ?_|refine GG.bF (fun _=>?_) (fun _=>?_))|refine DS.skip ?_)|(refine DS.letF (t:=5) yU yE yU (fun _=>yE) yE yU (by exact⟨by with_unfolding_all rfl,by with_unfolding_all decide⟩) (fun _=>by simp only[go_sem,Nat.reduceEqDiff,↓reduceIte]) ?_;simp only[go_sem])|refine DS.pcS inferInstance (hs) yR yF ?_|refine DS.pcVS inferInstance yE (u1) yR yF ?_|refine DS.pcVS inferInstance yE (u2) yR yF ?_|refine DS.pcVS inferInstance yE (u4) yR yF ?_|refine DS.pcVS inferInstance yE (u8) yR yF ?_|refine DS.pcVS inferInstance yE (u16) yR yF ?_|refine DS.pcS inferInstance (hfrom_pc _ _ _) yR yF ?_|refine DS.pcS inferInstance (hr) yR yF ?_|(refine DS.boxF (t:=2) yU yE yU ?_;simp only[cells_agg,cells_v,cells_lst,cells_fn,map_nil'',map_cons'',copy_own,copy_lst,copy_v,copy_at,copy_agg,copy_fn,copy_ifc,copy_tup])|(refine DS.boxF (t:=3) yU yE yU ?_;simp only[cells_agg,cells_v,cells_lst,cells_fn,map_nil'',map_cons'',copy_own,copy_lst,copy_v,copy_at,copy_agg,copy_fn,copy_ifc,copy_tup])|refine DS.drawL (id:=9) [0,1,2,3] 4 (by kernel_rfl) mixed (by simp only[pickL_cons,pickL_nil,get_zero',get_cons',pickO_some];exact rfl) (by simp only[drop_zero',drop_cons',List.drop_nil];exact rfl) ?_|(with_reducible first|refine DD.fltS yU yU yU yE ?_|refine DD.nil0 ?_)|refine DD.pcV0 inferInstance (hk) yU yF ?_|refine DS.retT [] yE trivial ?_|fail)
 all_goals (simp only[tupV,nodeT];(repeat' split) <;> first|rfl|(exfalso;clear u1 u2 u4 u8 u16 hs hk hr;grind))
end Go.XL
namespace Go.XL
open Go.Proofs
set_option maxRecDepth 100000
set_option maxHeartbeats 8000000
def Use.cells (u:Use):List V:= [Bo u.what,Bo u.open_,Bo u.kinds,I u.nLow,I u.nTop,I u.mLow,I u.mTop,St8 (partB u.parts)]
theorem yX8 {p:Prop} (h:p:=by(simp (disch:=omega) only[go_sem,dopV,yV0,↓reduceIte,Nat.reduceEqDiff,Nat.reduceLT,Nat.reduceLeDiff,Nat.reduceAdd,Nat.reduceMul,Nat.reduceSub,Int.reduceToNat,Int.reduceLT,Int.reduceLE,Int.reduceEq,IntWalk.toNatUp,IntWalk.iteOmega,IntWalk.i64_in,V.flat,V.one, *,Value.oneCell'];exact rfl)):p:=h
@[go_sem] theorem Use.cells_eq (u:Use):u.cells= [Bo u.what,Bo u.open_,Bo u.kinds,I u.nLow,I u.nTop,I u.mLow,I u.mTop,St8 (partB u.parts)]:=rfl
theorem used_pc (op : Int) : PC Tryz.prog 170 [I op] (.agg (useS op).cells) := by
  refine DC.of_run Tryz.func170 rfl Tryz.ntmps170 Tryz.results170 (by simp) (fun _ _ => ?_); simp only [argV_cons, argV_nil, go_sem, Nat.zero_add, Nat.reduceAdd]
  repeat' (first | (with_reducible first | refine DS.seq ?_ | refine DS.regionL ?_) | fail)
  refine DS.allocS yR yU yU (fun b0 h0 => ?_)
  clear h0
  repeat' (first | (with_reducible first | refine DS.fltS yU yU yX8 ?_ | refine DS.opsNil ?_ | refine DS.seq ?_ | refine DS.regionL ?_ | (refine DS.cE yX8 ?_; first | refine CG.p (fun _ => ?_) (fun _ => ?_) | refine CG.yes ?_) | refine DS.blk ?_ | refine DS.block ?_ | refine DS.skip ?_) | (refine DS.store yR yX8 yX8 yX8 yX8 yU (by exact ⟨by with_unfolding_all rfl, by (try simp only [List.length_map, List.length_append, List.length_set, List.length_replicate, List.length_cons, List.length_nil]); omega⟩) ?_; simp only [putV_none, setAll_cons, setAll_nil, scells_v, scells_own, scells_lst, scells_agg]; try simp only [strip_tmp, strip_const, lookV_cons, Nat.reduceEqDiff, ↓reduceIte, stripO_own, stripO_lst, stripO_v, stripO_plc, stripO_agg, stripO_fn, stripO_ifc]) | fail)
  all_goals refine DS.retA yX3 ?_
  all_goals first
    | (rename_i h; subst h; rfl)
    | (have e : useS op = {} := by
         simp only [useS]
         repeat rw [if_neg (by omega)]
       rw [e]; rfl)
end Go.XL
namespace Go.XL
open Go.Proofs
set_option maxRecDepth 100000
set_option maxHeartbeats 8000000
theorem r4kinds_pc (s:GSet) (l:List Int):PC Tryz.prog 171 [s.val,ints l] (I (ascS (kindsS s) l)):=by
 have hk:=r1kinds_pc s
 have hm:=kinds_bd s
 generalize kindsS s=many at *
 refine DC.of_run Tryz.func171 rfl Tryz.ntmps171 Tryz.results171 (by simp) (fun _ _=>?_);simp only[argV_cons,argV_nil,go_sem,Nat.zero_add,Nat.reduceAdd]
 refine DS.bnd (t:=1) yG (.inl rfl) (fun hb1=>?_);simp only[List.length_map]at hb1
 repeat' (first|(with_reducible first|refine DS.fltS yU yU yE ?_|refine DS.opsNil ?_|refine DS.seq ?_|refine DS.regionL ?_|refine DS.block ?_)|(refine DS.boxF (t:=2) yU yE yU ?_;simp only[cells_agg,cells_v,cells_lst,cells_fn,map_nil'',map_cons'',copy_own,copy_lst,copy_v,copy_at,copy_agg,copy_fn,copy_ifc,copy_tup])|fail)
 refine DS.loopK [1,2] yN (fun(i:Nat)=> [(5,I i)]) (fun(i:Nat)=>i≤l.length∧ascS many l=ascGo many (l.drop i) ((prevL l i).getD (-1))) (fun(i:Nat)=>l.length-i) 0 yS ⟨Nat.zero_le _,rfl⟩ (fun i B hI hB=>?_);try dsimp only at hI hB;simp only[app_cons',app_nil']
 have HB:=Box.mk hB
 clear hB
 obtain⟨hI,hI2⟩:=hI
 by_cases hi:(i:Int)<(l.length:Int)
 ·have hi':i<l.length:=by omega
  have hp:i-1<l.length:=by omega
  rw[ascGo_at hi']at hI2
  have HI:=Box.mk hI2
  clear hI2
  repeat' (first|(with_reducible first|refine DS.fltS yU yU yE ?_|refine DS.opsNil ?_|refine DS.seq ?_|refine DS.regionL ?_|(refine DS.cE yE ?_;first|refine CG.np (fun _=>?_) (fun _=>?_)|refine CG.p (fun _=>?_) (fun _=>?_)|refine CG.yes ?_|refine CG.no ?_)|(refine DS.gE yU yE ?_;first|refine GG.run ?_|refine GG.sF ?_)|refine DS.blk ?_|refine DS.block ?_|refine DS.skip ?_)|refine DS.pcS inferInstance (betweenR_pc _ _ _) yR yT ?_|refine DS.drawL (id:=4) [0,1,2,3,4,5,6] 7 (by kernel_rfl) mixed (by simp only[pickL_cons,pickL_nil,get_zero',get_cons',pickO_some];exact rfl) (by simp only[drop_zero',drop_cons',List.drop_nil];exact rfl) ?_|refine DS.drawL (id:=6) [0,1,2,3,4,5,6,7,8,9,10,11] 12 (by kernel_rfl) mixed (by simp only[pickL_cons,pickL_nil,get_zero',get_cons',pickO_some];exact rfl) (by simp only[drop_zero',drop_cons',List.drop_nil];exact rfl) ?_|(with_reducible first|refine DD.fltS yU yU yU yE ?_|(refine DD.gE yU yE ?_;first|refine DGG.pT (fun _=>?_) (fun _=>?_)|refine DGG.run ?_|refine DGG.sF ?_)|refine DD.nil0 ?_)|refine DD.pcV0 inferInstance (hk) yU yT ?_|refine DS.retT [] yE trivial ?_|fail)
  all_goals (try rw[prevL_zero (by assumption)]at HI) <;> (try rw[prevL_pos (by assumption) hp]at HI)
  all_goals try simp only[Option.getD_none,Option.getD_some]at HI
  all_goals first
   | exact DS.back (HB.out (i+1) _ _ (by omega) ⟨by omega,by rw[HI.out,prevL_succ hi',if_neg (by omega),if_neg (by omega)];rfl⟩ yS yS (fun b o e=>by cases e))
   | (rw[HI.out,if_pos (by omega)];rfl)
   | (rw[HI.out,if_neg (by omega),if_pos (by omega)];rfl)
   | (exfalso;omega)
 ·repeat' (first|(with_reducible first|refine DS.fltS yU yU yE ?_|refine DS.opsNil ?_|refine DS.seq ?_|refine DS.regionL ?_|(refine DS.cE yE ?_;refine CG.no ?_)|refine DS.exit yU ?_)|refine DS.retT [] yE trivial ?_|fail)
  rw[hI2,drop_end hi];rfl
theorem rnode00000_pc (s:GSet) (x:Node) (p:ByteArray) (hs:PC Tryz.prog 170 [I x.op] (.agg [Bo false,Bo false,Bo false,I 0,I 0,I 0,I 0,St8 p])) (ho:1≤x.op∧x.op≤24) :
  PC Tryz.prog 145 [s.val,x.val] (I (nodeT false false false false false 0 0 0 0 s x)):=by
 have hk:=r4kinds_pc s x.kinds
 refine DC.of_run Tryz.func145 rfl Tryz.ntmps145 Tryz.results145 (by simp) (fun _ _=>?_);simp only[argV_cons,argV_nil,go_sem,Nat.zero_add,Nat.reduceAdd]
 repeat' (first|(with_reducible first|refine DS.fltS yU yU yE ?_|refine DS.opsNil ?_|refine DS.seq ?_|refine DS.regionL ?_|(refine DS.cE yE ?_;first|refine CG.p (fun _=>?_) (fun _=>?_)|refine CG.yes ?_|refine CG.no ?_)|(refine DS.gE yU yE ?_;first|refine GG.sU ?_|refine GG.npF (fun _=>?_) (fun _=>?_)|refine GG.run ?_|refine GG.sF ?_|refine GG.sT ?_|refine GG.bF (fun _=>?_) (fun _=>?_))|refine DS.skip ?_)|(refine DS.letF (t:=5) yU yE yU (fun _=>yE) yE yU (by exact⟨by with_unfolding_all rfl,by with_unfolding_all decide⟩) (fun _=>by simp only[go_sem,Nat.reduceEqDiff,↓reduceIte]) ?_;simp only[go_sem])|refine DS.pcS inferInstance (hs) yR yF ?_|refine DS.pcS inferInstance (betweenR_pc _ _ _) yR yF ?_|refine DS.pcS inferInstance (hk) yR yF ?_|(refine DS.boxF (t:=2) yU yE yU ?_;simp only[cells_agg,cells_v,cells_lst,cells_fn,map_nil'',map_cons'',copy_own,copy_lst,copy_v,copy_at,copy_agg,copy_fn,copy_ifc,copy_tup])|(refine DS.boxF (t:=3) yU yE yU ?_;simp only[cells_agg,cells_v,cells_lst,cells_fn,map_nil'',map_cons'',copy_own,copy_lst,copy_v,copy_at,copy_agg,copy_fn,copy_ifc,copy_tup])|refine DS.retT [] yE trivial ?_|fail)
 all_goals (simp only[tupV,nodeT];(repeat' split) <;> first|rfl|(exfalso;clear hs hk;grind))
theorem rnode01000_pc (s:GSet) (x:Node) (p:ByteArray) (lo hi:Int) (hn: ¬hi=0) (hs:PC Tryz.prog 170 [I x.op] (.agg [Bo false,Bo false,Bo false,I lo,I hi,I 0,I 0,St8 p])) (ho:1≤x.op∧x.op≤24) :
  PC Tryz.prog 145 [s.val,x.val] (I (nodeT false true false false false lo hi 0 0 s x)):=by
 have hk:=r4kinds_pc s x.kinds
 refine DC.of_run Tryz.func145 rfl Tryz.ntmps145 Tryz.results145 (by simp) (fun _ _=>?_);simp only[argV_cons,argV_nil,go_sem,Nat.zero_add,Nat.reduceAdd]
 repeat' (first|(with_reducible first|refine DS.fltS yU yU yE ?_|refine DS.opsNil ?_|refine DS.seq ?_|refine DS.regionL ?_|(refine DS.cE yE ?_;first|refine CG.p (fun _=>?_) (fun _=>?_)|refine CG.yes ?_|refine CG.no ?_)|(refine DS.gE yU yE ?_;first|refine GG.sU ?_|refine GG.npF (fun _=>?_) (fun _=>?_)|refine GG.run ?_|refine GG.sF ?_|refine GG.sT ?_|refine GG.bF (fun _=>?_) (fun _=>?_))|refine DS.skip ?_)|(refine DS.letF (t:=5) yU yE yU (fun _=>yE) yE yU (by exact⟨by with_unfolding_all rfl,by with_unfolding_all decide⟩) (fun _=>by simp only[go_sem,Nat.reduceEqDiff,↓reduceIte]) ?_;simp only[go_sem])|refine DS.pcS inferInstance (hs) yR yF ?_|refine DS.pcS inferInstance (betweenR_pc _ _ _) yR yF ?_|refine DS.pcS inferInstance (hk) yR yF ?_|(refine DS.boxF (t:=2) yU yE yU ?_;simp only[cells_agg,cells_v,cells_lst,cells_fn,map_nil'',map_cons'',copy_own,copy_lst,copy_v,copy_at,copy_agg,copy_fn,copy_ifc,copy_tup])|(refine DS.boxF (t:=3) yU yE yU ?_;simp only[cells_agg,cells_v,cells_lst,cells_fn,map_nil'',map_cons'',copy_own,copy_lst,copy_v,copy_at,copy_agg,copy_fn,copy_ifc,copy_tup])|refine DS.retT [] yE trivial ?_|fail)
 all_goals (simp only[tupV,nodeT];(repeat' split) <;> first|rfl|(exfalso;clear hs hk;grind))
theorem rnode11000_pc (s:GSet) (x:Node) (p:ByteArray) (lo hi:Int) (hn: ¬hi=0) (hs:PC Tryz.prog 170 [I x.op] (.agg [Bo true,Bo false,Bo false,I lo,I hi,I 0,I 0,St8 p])) (ho:1≤x.op∧x.op≤24) :
  PC Tryz.prog 145 [s.val,x.val] (I (nodeT true true false false false lo hi 0 0 s x)):=by
 have hk:=r4kinds_pc s x.kinds
 refine DC.of_run Tryz.func145 rfl Tryz.ntmps145 Tryz.results145 (by simp) (fun _ _=>?_);simp only[argV_cons,argV_nil,go_sem,Nat.zero_add,Nat.reduceAdd]
 repeat' (first|(with_reducible first|refine DS.fltS yU yU yE ?_|refine DS.opsNil ?_|refine DS.seq ?_|refine DS.regionL ?_|(refine DS.cE yE ?_;first|refine CG.p (fun _=>?_) (fun _=>?_)|refine CG.yes ?_|refine CG.no ?_)|(refine DS.gE yU yE ?_;first|refine GG.sU ?_|refine GG.npF (fun _=>?_) (fun _=>?_)|refine GG.run ?_|refine GG.sF ?_|refine GG.sT ?_|refine GG.bF (fun _=>?_) (fun _=>?_))|refine DS.skip ?_)|(refine DS.letF (t:=5) yU yE yU (fun _=>yE) yE yU (by exact⟨by with_unfolding_all rfl,by with_unfolding_all decide⟩) (fun _=>by simp only[go_sem,Nat.reduceEqDiff,↓reduceIte]) ?_;simp only[go_sem])|refine DS.pcS inferInstance (hs) yR yF ?_|refine DS.pcS inferInstance (betweenR_pc _ _ _) yR yF ?_|refine DS.pcS inferInstance (hk) yR yF ?_|(refine DS.boxF (t:=2) yU yE yU ?_;simp only[cells_agg,cells_v,cells_lst,cells_fn,map_nil'',map_cons'',copy_own,copy_lst,copy_v,copy_at,copy_agg,copy_fn,copy_ifc,copy_tup])|(refine DS.boxF (t:=3) yU yE yU ?_;simp only[cells_agg,cells_v,cells_lst,cells_fn,map_nil'',map_cons'',copy_own,copy_lst,copy_v,copy_at,copy_agg,copy_fn,copy_ifc,copy_tup])|refine DS.retT [] yE trivial ?_|fail)
 all_goals (simp only[tupV,nodeT];(repeat' split) <;> first|rfl|(exfalso;clear hs hk;grind))
theorem rnode10011_pc (s:GSet) (x:Node) (p:ByteArray) (hs:PC Tryz.prog 170 [I x.op] (.agg [Bo true,Bo true,Bo true,I 0,I 0,I 0,I 0,St8 p])) (ho:1≤x.op∧x.op≤24) :
  PC Tryz.prog 145 [s.val,x.val] (I (nodeT true false false true true 0 0 0 0 s x)):=by
 have hk:=r4kinds_pc s x.kinds
 refine DC.of_run Tryz.func145 rfl Tryz.ntmps145 Tryz.results145 (by simp) (fun _ _=>?_);simp only[argV_cons,argV_nil,go_sem,Nat.zero_add,Nat.reduceAdd]
 repeat' (first|(with_reducible first|refine DS.fltS yU yU yE ?_|refine DS.opsNil ?_|refine DS.seq ?_|refine DS.regionL ?_|(refine DS.cE yE ?_;first|refine CG.np (fun _=>?_) (fun _=>?_)|refine CG.yes ?_|refine CG.no ?_)|(refine DS.gE yU yE ?_;first|refine GG.sU ?_|refine GG.npF (fun _=>?_) (fun _=>?_)|refine GG.run ?_|refine GG.sF ?_|refine GG.sT ?_)|refine DS.skip ?_)|(refine DS.letF (t:=5) yU yE yU (fun _=>yE) yE yU (by exact⟨by with_unfolding_all rfl,by with_unfolding_all decide⟩) (fun _=>by simp only[go_sem,Nat.reduceEqDiff,↓reduceIte]) ?_;simp only[go_sem])|refine DS.pcS inferInstance (hs) yR yF ?_|refine DS.pcS inferInstance (betweenR_pc _ _ _) yR yF ?_|refine DS.pcS inferInstance (hk) yR yF ?_|(refine DS.boxF (t:=2) yU yE yU ?_;simp only[cells_agg,cells_v,cells_lst,cells_fn,map_nil'',map_cons'',copy_own,copy_lst,copy_v,copy_at,copy_agg,copy_fn,copy_ifc,copy_tup])|(refine DS.boxF (t:=3) yU yE yU ?_;simp only[cells_agg,cells_v,cells_lst,cells_fn,map_nil'',map_cons'',copy_own,copy_lst,copy_v,copy_at,copy_agg,copy_fn,copy_ifc,copy_tup])|refine DS.retT [] yE trivial ?_|fail)
 all_goals (simp only[tupV,nodeT];(repeat' split) <;> first|rfl|(exfalso;clear hs hk;grind))
theorem rnode00001_pc (s:GSet) (x:Node) (p:ByteArray) (hs:PC Tryz.prog 170 [I x.op] (.agg [Bo false,Bo false,Bo true,I 0,I 0,I 0,I 0,St8 p])) (ho:1≤x.op∧x.op≤24) :
  PC Tryz.prog 145 [s.val,x.val] (I (nodeT false false false false true 0 0 0 0 s x)):=by
 have hk:=r4kinds_pc s x.kinds
 refine DC.of_run Tryz.func145 rfl Tryz.ntmps145 Tryz.results145 (by simp) (fun _ _=>?_);simp only[argV_cons,argV_nil,go_sem,Nat.zero_add,Nat.reduceAdd]
 repeat' (first|(with_reducible first|refine DS.fltS yU yU yE ?_|refine DS.opsNil ?_|refine DS.seq ?_|refine DS.regionL ?_|(refine DS.cE yE ?_;first|refine CG.yes ?_|refine CG.no ?_)|(refine DS.gE yU yE ?_;first|refine GG.sU ?_|refine GG.npF (fun _=>?_) (fun _=>?_)|refine GG.run ?_|refine GG.sF ?_|refine GG.sT ?_|refine GG.bF (fun _=>?_) (fun _=>?_))|refine DS.skip ?_)|(refine DS.letF (t:=5) yU yE yU (fun _=>yE) yE yU (by exact⟨by with_unfolding_all rfl,by with_unfolding_all decide⟩) (fun _=>by simp only[go_sem,Nat.reduceEqDiff,↓reduceIte]) ?_;simp only[go_sem])|refine DS.pcS inferInstance (hs) yR yF ?_|refine DS.pcS inferInstance (betweenR_pc _ _ _) yR yF ?_|refine DS.pcS inferInstance (hk) yR yF ?_|(refine DS.boxF (t:=2) yU yE yU ?_;simp only[cells_agg,cells_v,cells_lst,cells_fn,map_nil'',map_cons'',copy_own,copy_lst,copy_v,copy_at,copy_agg,copy_fn,copy_ifc,copy_tup])|(refine DS.boxF (t:=3) yU yE yU ?_;simp only[cells_agg,cells_v,cells_lst,cells_fn,map_nil'',map_cons'',copy_own,copy_lst,copy_v,copy_at,copy_agg,copy_fn,copy_ifc,copy_tup])|refine DS.retT [] yE trivial ?_|fail)
 all_goals (simp only[tupV,nodeT];(repeat' split) <;> first|rfl|(exfalso;clear hs hk;grind))
theorem rnode11100_pc (s:GSet) (x:Node) (p:ByteArray) (lo hi ml mh:Int) (hn: ¬hi=0) (hm: ¬mh=0) (hs:PC Tryz.prog 170 [I x.op] (.agg [Bo true,Bo false,Bo false,I lo,I hi,I ml,I mh,St8 p])) (ho:1≤x.op∧x.op≤24) :
  PC Tryz.prog 145 [s.val,x.val] (I (nodeT true true true false false lo hi ml mh s x)):=by
 have hk:=r4kinds_pc s x.kinds
 refine DC.of_run Tryz.func145 rfl Tryz.ntmps145 Tryz.results145 (by simp) (fun _ _=>?_);simp only[argV_cons,argV_nil,go_sem,Nat.zero_add,Nat.reduceAdd]
 repeat' (first|(with_reducible first|refine DS.fltS yU yU yE ?_|refine DS.opsNil ?_|refine DS.seq ?_|refine DS.regionL ?_|(refine DS.cE yE ?_;first|refine CG.p (fun _=>?_) (fun _=>?_)|refine CG.yes ?_|refine CG.no ?_)|(refine DS.gE yU yE ?_;first|refine GG.sU ?_|refine GG.npF (fun _=>?_) (fun _=>?_)|refine GG.run ?_|refine GG.sF ?_|refine GG.sT ?_|refine GG.bF (fun _=>?_) (fun _=>?_))|refine DS.skip ?_)|(refine DS.letF (t:=5) yU yE yU (fun _=>yE) yE yU (by exact⟨by with_unfolding_all rfl,by with_unfolding_all decide⟩) (fun _=>by simp only[go_sem,Nat.reduceEqDiff,↓reduceIte]) ?_;simp only[go_sem])|refine DS.pcS inferInstance (hs) yR yF ?_|refine DS.pcS inferInstance (betweenR_pc _ _ _) yR yF ?_|refine DS.pcS inferInstance (hk) yR yF ?_|(refine DS.boxF (t:=2) yU yE yU ?_;simp only[cells_agg,cells_v,cells_lst,cells_fn,map_nil'',map_cons'',copy_own,copy_lst,copy_v,copy_at,copy_agg,copy_fn,copy_ifc,copy_tup])|(refine DS.boxF (t:=3) yU yE yU ?_;simp only[cells_agg,cells_v,cells_lst,cells_fn,map_nil'',map_cons'',copy_own,copy_lst,copy_v,copy_at,copy_agg,copy_fn,copy_ifc,copy_tup])|refine DS.retT [] yE trivial ?_|fail)
 all_goals (simp only[tupV,nodeT];(repeat' split) <;> first|rfl|(exfalso;clear hs hk;grind))
theorem r4node_pc (s:GSet) (x:Node):PC Tryz.prog 145 [s.val,x.val] (I (nodeS s x)):=by
 obtain⟨op,what,n,m,op2,all,kinds⟩:=x
 have hs:=used_pc op
 by_cases h:1≤op∧op≤24
 ·have h24:op=1∨op=2∨op=3∨op=4∨op=5∨op=6∨op=7∨op=8∨op=9∨op=10∨op=11∨op=12∨op=13∨op=14∨op=15∨op=16∨op=17∨op=18∨op=19∨op=20∨op=21∨op=22∨op=23∨op=24:=by omega
  rcases h24 with rfl|rfl|rfl|rfl|rfl|rfl|rfl|rfl|rfl|rfl|rfl|rfl|rfl|rfl|rfl|rfl|rfl|rfl|rfl|rfl|rfl|rfl|rfl|rfl
  ·exact rnode00000_pc s ⟨1,what,n,m,op2,all,kinds⟩ _ hs h
  ·exact rnode00000_pc s ⟨2,what,n,m,op2,all,kinds⟩ _ hs h
  ·exact rnode00000_pc s ⟨3,what,n,m,op2,all,kinds⟩ _ hs h
  ·exact rnode00000_pc s ⟨4,what,n,m,op2,all,kinds⟩ _ hs h
  ·exact rnode01000_pc s ⟨5,what,n,m,op2,all,kinds⟩ _ 0 1000000 (by decide) hs h
  ·exact rnode01000_pc s ⟨6,what,n,m,op2,all,kinds⟩ _ 1 6 (by decide) hs h
  ·exact rnode01000_pc s ⟨7,what,n,m,op2,all,kinds⟩ _ 1 7 (by decide) hs h
  ·exact rnode00000_pc s ⟨8,what,n,m,op2,all,kinds⟩ _ hs h
  ·exact rnode00000_pc s ⟨9,what,n,m,op2,all,kinds⟩ _ hs h
  ·exact rnode11000_pc s ⟨10,what,n,m,op2,all,kinds⟩ _ 0 3 (by decide) hs h
  ·exact rnode01000_pc s ⟨11,what,n,m,op2,all,kinds⟩ _ 0 1000000 (by decide) hs h
  ·exact rnode00000_pc s ⟨12,what,n,m,op2,all,kinds⟩ _ hs h
  ·exact rnode00000_pc s ⟨13,what,n,m,op2,all,kinds⟩ _ hs h
  ·exact rnode00000_pc s ⟨14,what,n,m,op2,all,kinds⟩ _ hs h
  ·exact rnode01000_pc s ⟨15,what,n,m,op2,all,kinds⟩ _ 1 1000 (by decide) hs h
  ·exact rnode10011_pc s ⟨16,what,n,m,op2,all,kinds⟩ _ hs h
  ·exact rnode00001_pc s ⟨17,what,n,m,op2,all,kinds⟩ _ hs h
  ·exact rnode00000_pc s ⟨18,what,n,m,op2,all,kinds⟩ _ hs h
  ·exact rnode11000_pc s ⟨19,what,n,m,op2,all,kinds⟩ _ 1 2 (by decide) hs h
  ·exact rnode01000_pc s ⟨20,what,n,m,op2,all,kinds⟩ _ 1 2 (by decide) hs h
  ·exact rnode11100_pc s ⟨21,what,n,m,op2,all,kinds⟩ _ 2 4 1 3 (by decide) (by decide) hs h
  ·exact rnode11100_pc s ⟨22,what,n,m,op2,all,kinds⟩ _ 2 3 0 2 (by decide) (by decide) hs h
  ·exact rnode00000_pc s ⟨23,what,n,m,op2,all,kinds⟩ _ hs h
  ·exact rnode00000_pc s ⟨24,what,n,m,op2,all,kinds⟩ _ hs h
 ·rw[nodeS,if_pos h]
  refine DC.of_run Tryz.func145 rfl Tryz.ntmps145 Tryz.results145 (by simp) (fun _ _=>?_);simp only[argV_cons,argV_nil,go_sem,Nat.zero_add,Nat.reduceAdd]
  repeat' (first|(with_reducible first|refine DS.fltS yU yU yE ?_|refine DS.opsNil ?_|refine DS.seq ?_|refine DS.regionL ?_|(refine DS.cE yE ?_;refine CG.yes ?_))|refine DS.pcS inferInstance (betweenR_pc _ _ _) yR yT ?_|(refine DS.boxF (t:=2) yU yE yU ?_;simp only[cells_agg,cells_v,cells_lst,cells_fn,map_nil'',map_cons'',copy_own,copy_lst,copy_v,copy_at,copy_agg,copy_fn,copy_ifc,copy_tup])|(refine DS.boxF (t:=3) yU yE yU ?_;simp only[cells_agg,cells_v,cells_lst,cells_fn,map_nil'',map_cons'',copy_own,copy_lst,copy_v,copy_at,copy_agg,copy_fn,copy_ifc,copy_tup])|refine DS.retT [] yE trivial ?_|fail)
  all_goals first|rfl|(exfalso;omega)
end Go.XL
namespace Go.XL
open Go.Proofs
set_option maxRecDepth 100000
set_option maxHeartbeats 8000000
theorem node_pc (s:GSet) (x:Node):PC Tryz.prog 107 [s.val,x.val] (I (nodeS s x)):=by
 obtain⟨op,what,n,m,op2,all,kinds⟩:=x
 have hs:=sortOf_pc op
 by_cases h:1≤op∧op≤24
 ·have h24:op=1∨op=2∨op=3∨op=4∨op=5∨op=6∨op=7∨op=8∨op=9∨op=10∨op=11∨op=12∨op=13∨op=14∨op=15∨op=16∨op=17∨op=18∨op=19∨op=20∨op=21∨op=22∨op=23∨op=24:=by omega
  rcases h24 with rfl|rfl|rfl|rfl|rfl|rfl|rfl|rfl|rfl|rfl|rfl|rfl|rfl|rfl|rfl|rfl|rfl|rfl|rfl|rfl|rfl|rfl|rfl|rfl
  ·exact node00000_pc s ⟨1,what,n,m,op2,all,kinds⟩ _ _ 0 0 0 0 hs
  ·exact node00000_pc s ⟨2,what,n,m,op2,all,kinds⟩ _ _ 0 0 0 0 hs
  ·exact node00000_pc s ⟨3,what,n,m,op2,all,kinds⟩ _ _ 0 0 0 0 hs
  ·exact node00000_pc s ⟨4,what,n,m,op2,all,kinds⟩ _ _ 0 0 0 0 hs
  ·exact node01000_pc s ⟨5,what,n,m,op2,all,kinds⟩ _ _ 0 1000000 0 0 hs
  ·exact node01000_pc s ⟨6,what,n,m,op2,all,kinds⟩ _ _ 1 6 0 0 hs
  ·exact node01000_pc s ⟨7,what,n,m,op2,all,kinds⟩ _ _ 1 7 0 0 hs
  ·exact node00000_pc s ⟨8,what,n,m,op2,all,kinds⟩ _ _ 0 0 0 0 hs
  ·exact node00000_pc s ⟨9,what,n,m,op2,all,kinds⟩ _ _ 0 0 0 0 hs
  ·exact node11000_pc s ⟨10,what,n,m,op2,all,kinds⟩ _ _ 0 3 0 0 hs
  ·exact node01000_pc s ⟨11,what,n,m,op2,all,kinds⟩ _ _ 0 1000000 0 0 hs
  ·exact node00000_pc s ⟨12,what,n,m,op2,all,kinds⟩ _ _ 0 0 0 0 hs
  ·exact node00000_pc s ⟨13,what,n,m,op2,all,kinds⟩ _ _ 0 0 0 0 hs
  ·exact node00000_pc s ⟨14,what,n,m,op2,all,kinds⟩ _ _ 0 0 0 0 hs
  ·exact node01000_pc s ⟨15,what,n,m,op2,all,kinds⟩ _ _ 1 1000 0 0 hs
  ·exact node10011_pc s ⟨16,what,n,m,op2,all,kinds⟩ _ _ 0 0 0 0 hs
  ·exact node00001_pc s ⟨17,what,n,m,op2,all,kinds⟩ _ _ 0 0 0 0 hs
  ·exact node00000_pc s ⟨18,what,n,m,op2,all,kinds⟩ _ _ 0 0 0 0 hs
  ·exact node11000_pc s ⟨19,what,n,m,op2,all,kinds⟩ _ _ 1 2 0 0 hs
  ·exact node01000_pc s ⟨20,what,n,m,op2,all,kinds⟩ _ _ 1 2 0 0 hs
  ·exact node11100_pc s ⟨21,what,n,m,op2,all,kinds⟩ _ _ 2 4 1 3 hs
  ·exact node11100_pc s ⟨22,what,n,m,op2,all,kinds⟩ _ _ 2 3 0 2 hs
  ·exact node00000_pc s ⟨23,what,n,m,op2,all,kinds⟩ _ _ 0 0 0 0 hs
  ·exact node00000_pc s ⟨24,what,n,m,op2,all,kinds⟩ _ _ 0 0 0 0 hs
 ·rw[nodeS,if_pos h]
  rw[sortX,if_neg h]at hs
  refine DC.of_run Tryz.func107 rfl Tryz.ntmps107 Tryz.results107 (by simp) (fun _ _=>?_);simp only[argV_cons,argV_nil,go_sem,Nat.zero_add,Nat.reduceAdd]
  repeat' (first|(with_reducible first|refine DS.fltS yU yU yE ?_|refine DS.opsNil ?_|refine DS.seq ?_|refine DS.regionL ?_|(refine DS.cE yE ?_;refine CG.yes ?_))|(refine DS.letF (t:=5) yU yE yU (fun _=>yE) yE yU (by exact⟨by with_unfolding_all rfl,by with_unfolding_all decide⟩) (fun _=>by simp only[go_sem,Nat.reduceEqDiff,↓reduceIte]) ?_;simp only[go_sem])|refine DS.pcS inferInstance (hs) yR yT ?_|(refine DS.boxF (t:=2) yU yE yU ?_;simp only[cells_agg,cells_v,cells_lst,cells_fn,map_nil'',map_cons'',copy_own,copy_lst,copy_v,copy_at,copy_agg,copy_fn,copy_ifc,copy_tup])|(refine DS.boxF (t:=3) yU yE yU ?_;simp only[cells_agg,cells_v,cells_lst,cells_fn,map_nil'',map_cons'',copy_own,copy_lst,copy_v,copy_at,copy_agg,copy_fn,copy_ifc,copy_tup])|refine DS.retT [] yE trivial ?_|fail)
  all_goals first|rfl|(exfalso;omega)
end Go.XL
namespace Go.XL
open Go.Proofs
set_option maxRecDepth 100000
set_option maxHeartbeats 8000000
theorem kinds_bd' (s:GSet):0≤kindsS s∧kindsS s≤1000:=by
 by_cases h:gsetS s=0
 ·have:=(gset_ok h).plain
  rw[kindsS,if_neg (by omega)];omega
 ·rw[kindsS,if_pos h];omega
theorem feedsGo_at {s:GSet} {l:List Feed} {i:Nat} (hi:i<l.length):feedsGo s (l.drop i)=if(l[i].kinds.length:Int)=0 then 6 else if ascS (kindsS s) l[i].kinds≠0 then ascS (kindsS s) l[i].kinds else if ¬(1≤l[i].many∧l[i].many≤s.melds)then 2 else feedsGo s (l.drop (i+1)):=by
 rw[List.drop_eq_getElem_cons hi,feedsGo]
theorem feeds_pc (s:GSet) (l:List Feed):PC Tryz.prog 109 [s.val, .lst (l.map Feed.cells)] (I (if 4<(l.length:Int)then 8 else feedsGo s l)):=by
 have hk:=tkinds_pc s
 have hb:=kinds_bd' s
 refine DC.of_run Tryz.func109 rfl Tryz.ntmps109 Tryz.results109 (by simp) (fun _ _=>?_);simp only[argV_cons,argV_nil,go_sem,Nat.zero_add,Nat.reduceAdd]
 repeat' (first|(with_reducible first|refine DS.fltS yU yU yE ?_|refine DS.opsNil ?_|refine DS.seq ?_|refine DS.regionL ?_|(refine DS.cE yE ?_;refine CG.p (fun _=>?_) (fun _=>?_))|refine DS.block ?_|refine DS.skip ?_)|(refine DS.boxF (t:=2) yU yE yU ?_;simp only[cells_agg,cells_v,cells_lst,cells_fn,map_nil'',map_cons'',copy_own,copy_lst,copy_v,copy_at,copy_agg,copy_fn,copy_ifc,copy_tup])|refine DS.retT [] yE trivial ?_|fail)
 ·rw[if_pos (by omega)];rfl
 rename_i h4
 rw[if_neg (by omega)]
 refine DS.loopK [2,11,12] yN (fun(i:Nat)=> [(13,I i)]) (fun(i:Nat)=>i≤l.length∧feedsGo s l=feedsGo s (l.drop i)) (fun(i:Nat)=>l.length-i) 0 yS ⟨Nat.zero_le _,rfl⟩ (fun i B hI hB=>?_);try dsimp only at hI hB;simp only[app_cons',app_nil']
 have HB:=Box.mk hB
 clear hB
 obtain⟨hI,hI2⟩:=hI
 by_cases hi:(i:Int)<(l.length:Int)
 ·have hi':i<l.length:=by omega
  rw[feedsGo_at hi']at hI2
  have HI:=Box.mk hI2
  clear hI2
  have hr:=hrising_pc (kindsS s) l[i].kinds hb
  by_cases h1:(l[i].kinds.length:Int)=0
  ·repeat' (first|(with_reducible first|refine DS.fltS yU yU yE ?_|refine DS.opsNil ?_|refine DS.seq ?_|refine DS.regionL ?_|(refine DS.cE yE ?_;refine CG.yes ?_)|refine DS.block ?_|refine DS.skip ?_)|(refine DS.letF (t:=6) yU yE yU (fun _=>yE) yE yU (by exact⟨by with_unfolding_all rfl,by with_unfolding_all decide⟩) (fun _=>by simp only[go_sem,Nat.reduceEqDiff,↓reduceIte]) ?_;simp only[go_sem])|refine DS.retT [] yE trivial ?_|fail)
   all_goals first|(rw[HI.out,if_pos h1];rfl)|(exfalso;omega)
  ·by_cases h2:ascS (kindsS s) l[i].kinds=0
   ·rw[h2]at hr
    repeat' (first|(with_reducible first|refine DS.fltS yU yU yE ?_|refine DS.opsNil ?_|refine DS.seq ?_|refine DS.regionL ?_|(refine DS.cE yE ?_;first|refine CG.np (fun _=>?_) (fun _=>?_)|refine CG.yes ?_|refine CG.no ?_)|refine DS.blk ?_|refine DS.block ?_|refine DS.skip ?_)|(refine DS.letF (t:=6) yU yE yU (fun _=>yE) yE yU (by exact⟨by with_unfolding_all rfl,by with_unfolding_all decide⟩) (fun _=>by simp only[go_sem,Nat.reduceEqDiff,↓reduceIte]) ?_;simp only[go_sem])|refine DS.pcS inferInstance (hr) yR yT ?_|refine DS.pcS inferInstance (hfrom_pc _ _ _) yR yT ?_|refine DS.drawL (id:=8) [0,1,2,3] 4 (by kernel_rfl) mixed (by simp only[pickL_cons,pickL_nil,get_zero',get_cons',pickO_some];exact rfl) (by simp only[drop_zero',drop_cons',List.drop_nil];exact rfl) ?_|(with_reducible first|refine DD.fltS yU yU yU yE ?_|refine DD.nil0 ?_)|refine DD.pcV0 inferInstance (hk) yU yT ?_|refine DS.retT [] yE trivial ?_|fail)
    all_goals first
     | (exfalso;omega)
     | (rw[HI.out,if_neg h1,if_neg (by omega),if_pos (by omega)];rfl)
     | exact DS.back (HB.out (i+1) _ _ (by omega) ⟨by omega,by rw[HI.out,if_neg h1,if_neg (by omega),if_neg (by omega)]⟩ yS yS (fun b o e=>by cases e))
   ·repeat' (first|(with_reducible first|refine DS.fltS yU yU yE ?_|refine DS.opsNil ?_|refine DS.seq ?_|refine DS.regionL ?_|(refine DS.cE yE ?_;first|refine CG.yes ?_|refine CG.no ?_)|refine DS.block ?_|refine DS.skip ?_)|(refine DS.letF (t:=6) yU yE yU (fun _=>yE) yE yU (by exact⟨by with_unfolding_all rfl,by with_unfolding_all decide⟩) (fun _=>by simp only[go_sem,Nat.reduceEqDiff,↓reduceIte]) ?_;simp only[go_sem])|refine DS.pcS inferInstance (hr) yR yT ?_|refine DS.drawL (id:=8) [0,1,2,3] 4 (by kernel_rfl) mixed (by simp only[pickL_cons,pickL_nil,get_zero',get_cons',pickO_some];exact rfl) (by simp only[drop_zero',drop_cons',List.drop_nil];exact rfl) ?_|(with_reducible first|refine DD.fltS yU yU yU yE ?_|refine DD.nil0 ?_)|refine DD.pcV0 inferInstance (hk) yU yT ?_|refine DS.retT [] yE trivial ?_|fail)
    all_goals first|(rw[HI.out,if_neg h1,if_pos h2];rfl)|(exfalso;omega)
 ·repeat' (first|(with_reducible first|refine DS.fltS yU yU yE ?_|refine DS.opsNil ?_|refine DS.seq ?_|refine DS.regionL ?_|(refine DS.cE yE ?_;refine CG.no ?_)|refine DS.exit yU ?_)|refine DS.retT [] yE trivial ?_|fail)
  rw[hI2,drop_end hi];rfl
theorem places_in {l:List Int} (h:placesB l=true): ∀x∈l,-1000000≤x∧x≤1000000:=fun x hx=>by
 simp only[placesB,List.all_eq_true]at h
 have:=h x hx
 simpa using this
theorem pay_pc (s:GSet) (p:Pay):PC Tryz.prog 71 [s.val,p.val] (I (payS s p)):=by
 have hc:=tcheck_pc s
 by_cases h0:gsetS s=0
 ·have hpl:=(gset_ok h0).players
  rw[h0]at hc
  have hf:=feeds_pc s p.feeds
  have ha1:=hall_pc 0 1000000 [p.basic,p.counter,p.stick,p.pool,p.foul,p.start]
  have ha2:=hall_pc (-1000000) 1000000 p.places
  have e1:([p.basic,p.counter,p.stick,p.pool,p.foul,p.start].all fun n=>decide (0≤n∧n≤1000000))=(ptB p.basic&&ptB p.counter&&ptB p.stick&&ptB p.pool&&ptB p.foul&&ptB p.start):=by
   simp[ptB,Bool.and_assoc]
  have e2:(p.places.all fun n=>decide (-1000000≤n∧n≤1000000))=placesB p.places:=rfl
  rw[e1]at ha1
  rw[e2]at ha2
  clear e1 e2
  have hpay:payS s p=if ¬(1≤p.mode∧p.mode≤3)then 4 else
   if(ptB p.basic&&ptB p.counter&&ptB p.stick&&ptB p.pool&&ptB p.foul&&ptB p.start)=false then 2 else if p.pool % 6≠0 then 2 else if ¬(1≤p.rounds∧p.rounds≤16)then 2 else if ¬(0≤p.stay∧p.stay≤7)then 2 else
   if 0<(p.places.length:Int)∧(p.places.length:Int)≠s.players then 3 else if placesB p.places=false then 2 else if sumI p.places≠0 then 12 else
   if 4<(p.feeds.length:Int)then 8 else feedsGo s p.feeds:=by rw[payS,if_neg (by omega)]
  have hpool:(ptB p.basic&&ptB p.counter&&ptB p.stick&&ptB p.pool&&ptB p.foul&&ptB p.start)=true→0≤p.pool:=by
   simp only[ptB,Bool.and_eq_true,decide_eq_true_eq];omega
  have hin:=fun h=>places_in (l:=p.places) h
  generalize (ptB p.basic&&ptB p.counter&&ptB p.stick&&ptB p.pool&&ptB p.foul&&ptB p.start)=B1 at *
  generalize placesB p.places=B2 at *
  rw[hpay]
  clear hpay
  by_cases hm:1≤p.mode∧p.mode≤3
  ·rw[if_neg (by omega)]
   cases B1 with
   | false =>
    rw[if_pos rfl]
    refine DC.of_run Tryz.func71 rfl Tryz.ntmps71 Tryz.results71 (by simp) (fun _ _=>?_);simp only[argV_cons,argV_nil,go_sem,Nat.zero_add,Nat.reduceAdd]
    repeat' (first|(with_reducible first|refine DS.fltS yU yU yE ?_|refine DS.opsNil ?_|refine DS.seq ?_|refine DS.regionL ?_|(refine DS.cE yE ?_;first|refine CG.yes ?_|refine CG.no ?_)|(refine DS.gE yU yE ?_;refine GG.sT ?_)|refine DS.skip ?_)|(refine DS.bsl yU yE yE ?_;simp only[go_sem,Nat.zero_add,Nat.reduceAdd])|refine DS.pcS inferInstance (hc) yR yF ?_|refine DS.pcS inferInstance (hfrom_pc _ _ _) yR yF ?_|refine DS.pcS inferInstance (ha1) yR yF ?_|(refine DS.boxF (t:=2) yU yE yU ?_;simp only[cells_agg,cells_v,cells_lst,cells_fn,map_nil'',map_cons'',copy_own,copy_lst,copy_v,copy_at,copy_agg,copy_fn,copy_ifc,copy_tup])|(refine DS.boxF (t:=3) yU yE yU ?_;simp only[cells_agg,cells_v,cells_lst,cells_fn,map_nil'',map_cons'',copy_own,copy_lst,copy_v,copy_at,copy_agg,copy_fn,copy_ifc,copy_tup])|refine DS.retT [] yE trivial ?_|fail)
    all_goals first|rfl|(exfalso;omega)
   | true =>
    rw[if_neg (by decide)]
    have ht:p.pool.tmod 6=p.pool % 6:=Int.tmod_eq_emod_of_nonneg (hpool rfl)
    have ht2:=Int.emod_nonneg p.pool (show(6:Int)≠0 by decide)
    clear hpool
    by_cases hx:p.pool % 6=0∧(1≤p.rounds∧p.rounds≤16)∧(0≤p.stay∧p.stay≤7)
    ·obtain⟨hx1,hx2,hx3⟩:=hx
     rw[if_neg (by omega),if_neg (by omega),if_neg (by omega)]
     have ht3: ¬(0:Int)<p.pool % 6:=by omega
     clear hx1 ht2
     by_cases hx4:0<(p.places.length:Int)∧(p.places.length:Int)≠s.players
     ·rw[if_pos hx4]
      obtain⟨hx5,hx6⟩:=hx4
      refine DC.of_run Tryz.func71 rfl Tryz.ntmps71 Tryz.results71 (by simp) (fun _ _=>?_);simp only[argV_cons,argV_nil,go_sem,Nat.zero_add,Nat.reduceAdd]
      repeat' (first|(with_reducible first|refine DS.fltS yU yU yE ?_|refine DS.opsNil ?_|refine DS.seq ?_|refine DS.regionL ?_|(refine DS.cE yE ?_;first|refine CG.yes ?_|refine CG.no ?_)|(refine DS.gE yU yE ?_;refine GG.run ?_)|refine DS.skip ?_)|(refine DS.bsl yU yE yE ?_;simp only[go_sem,Nat.zero_add,Nat.reduceAdd])|refine DS.pcS inferInstance (hc) yR yF ?_|refine DS.pcS inferInstance (hfrom_pc _ _ _) yR yF ?_|refine DS.pcS inferInstance (ha1) yR yF ?_|(refine DS.boxF (t:=2) yU yE yU ?_;simp only[cells_agg,cells_v,cells_lst,cells_fn,map_nil'',map_cons'',copy_own,copy_lst,copy_v,copy_at,copy_agg,copy_fn,copy_ifc,copy_tup])|(refine DS.boxF (t:=3) yU yE yU ?_;simp only[cells_agg,cells_v,cells_lst,cells_fn,map_nil'',map_cons'',copy_own,copy_lst,copy_v,copy_at,copy_agg,copy_fn,copy_ifc,copy_tup])|refine DS.retT [] yE trivial ?_|fail)
      all_goals first|rfl|(exfalso;omega)
     ·rw[if_neg hx4]
      cases B2 with
      | false =>
       rw[if_pos rfl]
       refine DC.of_run Tryz.func71 rfl Tryz.ntmps71 Tryz.results71 (by simp) (fun _ _=>?_);simp only[argV_cons,argV_nil,go_sem,Nat.zero_add,Nat.reduceAdd]
       repeat' (first|(with_reducible first|refine DS.fltS yU yU yE ?_|refine DS.opsNil ?_|refine DS.seq ?_|refine DS.regionL ?_|(refine DS.cE yE ?_;first|refine CG.np (fun _=>?_) (fun _=>?_)|refine CG.yes ?_|refine CG.no ?_)|(refine DS.gE yU yE ?_;first|refine GG.pT (fun _=>?_) (fun _=>?_)|refine GG.run ?_|refine GG.sF ?_)|refine DS.skip ?_)|(refine DS.bsl yU yE yE ?_;simp only[go_sem,Nat.zero_add,Nat.reduceAdd])|refine DS.pcS inferInstance (hc) yR yF ?_|refine DS.pcS inferInstance (hfrom_pc _ _ _) yR yF ?_|refine DS.pcS inferInstance (ha1) yR yF ?_|refine DS.pcS inferInstance (ha2) yR yF ?_|(refine DS.boxF (t:=2) yU yE yU ?_;simp only[cells_agg,cells_v,cells_lst,cells_fn,map_nil'',map_cons'',copy_own,copy_lst,copy_v,copy_at,copy_agg,copy_fn,copy_ifc,copy_tup])|(refine DS.boxF (t:=3) yU yE yU ?_;simp only[cells_agg,cells_v,cells_lst,cells_fn,map_nil'',map_cons'',copy_own,copy_lst,copy_v,copy_at,copy_agg,copy_fn,copy_ifc,copy_tup])|refine DS.retT [] yE trivial ?_|fail)
       all_goals first|rfl|(exfalso;omega)
      | true =>
       rw[if_neg (by decide)]
       have hin:=hin rfl
       have hl:(p.places.length:Int)≤4:=by omega
       have hx5:=Box.mk hx4
       clear hx4
       refine DC.of_run Tryz.func71 rfl Tryz.ntmps71 Tryz.results71 (by simp) (fun _ _=>?_);simp only[argV_cons,argV_nil,go_sem,Nat.zero_add,Nat.reduceAdd]
       repeat' (first|(with_reducible first|refine DS.fltS yU yU yE ?_|refine DS.opsNil ?_|refine DS.seq ?_|refine DS.regionL ?_|(refine DS.cE yE ?_;first|refine CG.np (fun _=>?_) (fun _=>?_)|refine CG.no ?_)|(refine DS.gE yU yE ?_;first|refine GG.pT (fun _=>?_) (fun _=>?_)|refine GG.run ?_|refine GG.sF ?_)|refine DS.block ?_|refine DS.skip ?_)|(refine DS.bsl yU yE yE ?_;simp only[go_sem,Nat.zero_add,Nat.reduceAdd])|refine DS.pcS inferInstance (hc) yR yF ?_|refine DS.pcS inferInstance (hfrom_pc _ _ _) yR yF ?_|refine DS.pcS inferInstance (ha1) yR yF ?_|refine DS.pcS inferInstance (ha2) yR yF ?_|(refine DS.boxF (t:=2) yU yE yU ?_;simp only[cells_agg,cells_v,cells_lst,cells_fn,map_nil'',map_cons'',copy_own,copy_lst,copy_v,copy_at,copy_agg,copy_fn,copy_ifc,copy_tup])|(refine DS.boxF (t:=3) yU yE yU ?_;simp only[cells_agg,cells_v,cells_lst,cells_fn,map_nil'',map_cons'',copy_own,copy_lst,copy_v,copy_at,copy_agg,copy_fn,copy_ifc,copy_tup])|refine DS.retT [] yE trivial ?_|fail)
       all_goals try (exfalso;have:=hx5.out;omega)
       ·refine DS.loopK [2,3,68,69] yN (fun(z:Nat×Int)=> [(6,I z.2),(70,I z.1)]) (fun(z:Nat×Int)=>z.1≤p.places.length∧z.2=sumI (p.places.take z.1)) (fun(z:Nat×Int)=>p.places.length-z.1) (0,0) yS ⟨Nat.zero_le _,rfl⟩ (fun z B hI hB=>?_);try dsimp only at hI hB;simp only[app_cons',app_nil']
        have HB:=Box.mk hB
        clear hB
        obtain⟨i,kk⟩:=z
        dsimp only at hI ⊢
        obtain⟨hI,hI1⟩:=hI
        have hbd:=sumI_bd (l:=p.places.take i) (lo := -1000000) (hi:=1000000) fun x hx=>hin x (List.mem_of_mem_take hx)
        rw[List.length_take,Nat.min_eq_left hI,←hI1]at hbd
        have H1:=Box.mk hI1
        clear hI1
        by_cases hi:(i:Int)<s.players
        ·have hi':i<p.places.length:=by omega
         have hx:=hin _ (List.getElem_mem hi')
         have e:=sumI_take hi'
         have H2:=Box.mk e
         clear e
         repeat' (first|(with_reducible first|refine DS.fltS yU yU yE ?_|refine DS.opsNil ?_|refine DS.seq ?_|refine DS.regionL ?_|(refine DS.cE yE ?_;refine CG.yes ?_)|refine DS.blk ?_|refine DS.block ?_|refine DS.skip ?_)|fail)
         exact DS.back (HB.out (i+1,kk+p.places[i]) _ _ (by dsimp only;omega) ⟨by dsimp only;omega,by dsimp only;rw[H2.out,H1.out]⟩ yS yS (fun b o e=>by cases e))
        ·have e:kk=sumI p.places:=by rw[H1.out,List.take_of_length_le (by omega)]
         rw[←e]
         clear e
         repeat' (first|(with_reducible first|refine DS.fltS yU yU yE ?_|refine DS.opsNil ?_|refine DS.seq ?_|refine DS.regionL ?_|(refine DS.cE yE ?_;first|refine CG.np (fun _=>?_) (fun _=>?_)|refine CG.no ?_)|refine DS.exit yU ?_|refine DS.skip ?_)|refine DS.pcS inferInstance (hf) yR yT ?_|refine DS.retT [] yE trivial ?_|fail)
         all_goals first
          | (rw[if_pos (show kk≠0 by omega)];rfl)
          | (rw[if_neg (show ¬kk≠0 by omega)];first|rfl|(rw[if_pos (by omega)];rfl)|(rw[if_neg (by omega)];rfl))
       ·refine DS.loopK [2,3,68,69] yN (fun(z:Nat×Int)=> [(6,I z.2),(70,I z.1)]) (fun(z:Nat×Int)=>z.1≤p.places.length∧z.2=sumI (p.places.take z.1)) (fun(z:Nat×Int)=>p.places.length-z.1) (0,0) yS ⟨Nat.zero_le _,rfl⟩ (fun z B hI hB=>?_);try dsimp only at hI hB;simp only[app_cons',app_nil']
        have HB:=Box.mk hB
        clear hB
        obtain⟨i,kk⟩:=z
        dsimp only at hI ⊢
        obtain⟨hI,hI1⟩:=hI
        have hbd:=sumI_bd (l:=p.places.take i) (lo := -1000000) (hi:=1000000) fun x hx=>hin x (List.mem_of_mem_take hx)
        rw[List.length_take,Nat.min_eq_left hI,←hI1]at hbd
        have H1:=Box.mk hI1
        clear hI1
        by_cases hi:(i:Int)<(p.places.length:Int)
        ·exfalso;omega
        ·have e:kk=sumI p.places:=by rw[H1.out,List.take_of_length_le (by omega)]
         rw[←e]
         clear e
         repeat' (first|(with_reducible first|refine DS.fltS yU yU yE ?_|refine DS.opsNil ?_|refine DS.seq ?_|refine DS.regionL ?_|(refine DS.cE yE ?_;first|refine CG.np (fun _=>?_) (fun _=>?_)|refine CG.no ?_)|refine DS.exit yU ?_|refine DS.skip ?_)|refine DS.pcS inferInstance (hf) yR yT ?_|refine DS.retT [] yE trivial ?_|fail)
         all_goals first
          | (rw[if_pos (show kk≠0 by omega)];rfl)
          | (rw[if_neg (show ¬kk≠0 by omega)];first|rfl|(rw[if_pos (by omega)];rfl)|(rw[if_neg (by omega)];rfl))
    ·have e:(if p.pool % 6≠0 then(2:Int)else if ¬(1≤p.rounds∧p.rounds≤16)then 2 else if ¬(0≤p.stay∧p.stay≤7)then 2 else
   if 0<(p.places.length:Int)∧(p.places.length:Int)≠s.players then 3 else if B2=false then 2 else if sumI p.places≠0 then 12 else
   if 4<(p.feeds.length:Int)then 8 else feedsGo s p.feeds)=2:=by
      by_cases a1:p.pool % 6=0
      ·by_cases a2:1≤p.rounds∧p.rounds≤16
       ·rw[if_neg (by omega),if_neg (by omega),if_pos (by omega)]
       ·rw[if_neg (by omega),if_pos (by omega)]
      ·rw[if_pos a1]
     rw[e]
     refine DC.of_run Tryz.func71 rfl Tryz.ntmps71 Tryz.results71 (by simp) (fun _ _=>?_);simp only[argV_cons,argV_nil,go_sem,Nat.zero_add,Nat.reduceAdd]
     repeat' (first|(with_reducible first|refine DS.fltS yU yU yE ?_|refine DS.opsNil ?_|refine DS.seq ?_|refine DS.regionL ?_|(refine DS.cE yE ?_;first|refine CG.np (fun _=>?_) (fun _=>?_)|refine CG.yes ?_|refine CG.no ?_|refine CG.nb (fun _=>?_) (fun _=>?_))|(refine DS.gE yU yE ?_;first|refine GG.npF (fun _=>?_) (fun _=>?_)|refine GG.pT (fun _=>?_) (fun _=>?_)|refine GG.pF (fun _=>?_) (fun _=>?_)|refine GG.run ?_|refine GG.sF ?_|refine GG.sT ?_)|refine DS.block ?_|refine DS.skip ?_)|(refine DS.bsl yU yE yE ?_;simp only[go_sem,Nat.zero_add,Nat.reduceAdd])|refine DS.pcS inferInstance (hc) yR yF ?_|refine DS.pcS inferInstance (hfrom_pc _ _ _) yR yF ?_|refine DS.pcS inferInstance (ha1) yR yF ?_|refine DS.pcS inferInstance (ha2) yR yF ?_|(refine DS.boxF (t:=2) yU yE yU ?_;simp only[cells_agg,cells_v,cells_lst,cells_fn,map_nil'',map_cons'',copy_own,copy_lst,copy_v,copy_at,copy_agg,copy_fn,copy_ifc,copy_tup])|(refine DS.boxF (t:=3) yU yE yU ?_;simp only[cells_agg,cells_v,cells_lst,cells_fn,map_nil'',map_cons'',copy_own,copy_lst,copy_v,copy_at,copy_agg,copy_fn,copy_ifc,copy_tup])|refine DS.retT [] yE trivial ?_|fail)
     all_goals first|rfl|(exfalso;omega)
  ·rw[if_pos hm]
   refine DC.of_run Tryz.func71 rfl Tryz.ntmps71 Tryz.results71 (by simp) (fun _ _=>?_);simp only[argV_cons,argV_nil,go_sem,Nat.zero_add,Nat.reduceAdd]
   repeat' (first|(with_reducible first|refine DS.fltS yU yU yE ?_|refine DS.opsNil ?_|refine DS.seq ?_|refine DS.regionL ?_|(refine DS.cE yE ?_;first|refine CG.yes ?_|refine CG.no ?_)|refine DS.skip ?_)|refine DS.pcS inferInstance (hc) yR yF ?_|refine DS.pcS inferInstance (hfrom_pc _ _ _) yR yF ?_|(refine DS.boxF (t:=2) yU yE yU ?_;simp only[cells_agg,cells_v,cells_lst,cells_fn,map_nil'',map_cons'',copy_own,copy_lst,copy_v,copy_at,copy_agg,copy_fn,copy_ifc,copy_tup])|(refine DS.boxF (t:=3) yU yE yU ?_;simp only[cells_agg,cells_v,cells_lst,cells_fn,map_nil'',map_cons'',copy_own,copy_lst,copy_v,copy_at,copy_agg,copy_fn,copy_ifc,copy_tup])|refine DS.retT [] yE trivial ?_|fail)
   all_goals first|rfl|(exfalso;omega)
 ·rw[payS,if_pos h0]
  refine DC.of_run Tryz.func71 rfl Tryz.ntmps71 Tryz.results71 (by simp) (fun _ _=>?_);simp only[argV_cons,argV_nil,go_sem,Nat.zero_add,Nat.reduceAdd]
  repeat' (first|(with_reducible first|refine DS.fltS yU yU yE ?_|refine DS.opsNil ?_|refine DS.seq ?_|refine DS.regionL ?_|(refine DS.cE yE ?_;refine CG.yes ?_))|refine DS.pcS inferInstance (hc) yR yT ?_|(refine DS.boxF (t:=2) yU yE yU ?_;simp only[cells_agg,cells_v,cells_lst,cells_fn,map_nil'',map_cons'',copy_own,copy_lst,copy_v,copy_at,copy_agg,copy_fn,copy_ifc,copy_tup])|(refine DS.boxF (t:=3) yU yE yU ?_;simp only[cells_agg,cells_v,cells_lst,cells_fn,map_nil'',map_cons'',copy_own,copy_lst,copy_v,copy_at,copy_agg,copy_fn,copy_ifc,copy_tup])|refine DS.retT [] yE trivial ?_|fail)
  all_goals first|rfl|(exfalso;omega)
def rowP (p:Play) (j:Nat):Int×Int×Int:= [(p.heads,1,3),(p.last,0,144),(p.rob,0,2),(p.kongs,0,16),(p.nines,0,34),(p.time,1,1000),(p.foul,1,2),(p.indicators,0,5)].getD j (0,0,0)
abbrev tabP (p:Play):List V:= [I p.heads,I 1,I 3,I p.last,I 0,I 144,I p.rob,I 0,I 2,I p.kongs,I 0,I 16,I p.nines,I 0,I 34,I p.time,I 1,I 1000,I p.foul,I 1,I 2,I p.indicators,I 0,I 5]
theorem tabP_row (p:Play): ∀(j:Nat),j<8→(((tabP p).drop ((j:Int).toNat*3)).take 3).map V.peek= [I (rowP p j).1,I (rowP p j).2.1,I (rowP p j).2.2]
 | 0,_=>rfl
 | 1,_=>rfl
 | 2,_=>rfl
 | 3,_=>rfl
 | 4,_=>rfl
 | 5,_=>rfl
 | 6,_=>rfl
 | 7,_=>rfl
 | _+8,h=>by omega
theorem play_tab {s:GSet} {p:Play} (h0:gsetS s=0) :
  (∀j,j<8→(rowP p j).2.1≤(rowP p j).1∧(rowP p j).1≤(rowP p j).2.2)∨playS s p=2:=by
 rw[playS,if_neg (by omega)]
 by_cases a1:1≤p.heads∧p.heads≤3
 ·rw[if_neg (by omega)]
  by_cases a2:0≤p.last∧p.last≤144
  ·rw[if_neg (by omega)]
   by_cases a3:0≤p.rob∧p.rob≤2
   ·rw[if_neg (by omega)]
    by_cases a4:0≤p.kongs∧p.kongs≤16
    ·rw[if_neg (by omega)]
     by_cases a5:0≤p.nines∧p.nines≤34
     ·rw[if_neg (by omega)]
      by_cases a6:1≤p.time∧p.time≤1000
      ·rw[if_neg (by omega)]
       by_cases a7:1≤p.foul∧p.foul≤2
       ·rw[if_neg (by omega)]
        by_cases a8:0≤p.indicators∧p.indicators≤5
        ·refine .inl fun j hj=>?_
         match j,hj with
         | 0,_=>exact a1
         | 1,_=>exact a2
         | 2,_=>exact a3
         | 3,_=>exact a4
         | 4,_=>exact a5
         | 5,_=>exact a6
         | 6,_=>exact a7
         | 7,_=>exact a8
        ·right;rw[if_pos a8]
       ·right;rw[if_pos a7]
      ·right;rw[if_pos a6]
     ·right;rw[if_pos a5]
    ·right;rw[if_pos a4]
   ·right;rw[if_pos a3]
  ·right;rw[if_pos a2]
 ·right;rw[if_pos a1]
theorem play_in {s:GSet} {p:Play} (h0:gsetS s=0) (h: ∀j,j<8→(rowP p j).2.1≤(rowP p j).1∧(rowP p j).1≤(rowP p j).2.2):playS s p=if 2*p.indicators > s.dead then 6 else 0:=by
 have a1:1≤p.heads∧p.heads≤3:=h 0 (by omega)
 have a2:0≤p.last∧p.last≤144:=h 1 (by omega)
 have a3:0≤p.rob∧p.rob≤2:=h 2 (by omega)
 have a4:0≤p.kongs∧p.kongs≤16:=h 3 (by omega)
 have a5:0≤p.nines∧p.nines≤34:=h 4 (by omega)
 have a6:1≤p.time∧p.time≤1000:=h 5 (by omega)
 have a7:1≤p.foul∧p.foul≤2:=h 6 (by omega)
 have a8:0≤p.indicators∧p.indicators≤5:=h 7 (by omega)
 rw[playS,if_neg (by omega),if_neg (by omega),if_neg (by omega),if_neg (by omega),if_neg (by omega),if_neg (by omega),if_neg (by omega),if_neg (by omega),if_neg (by omega)]
theorem play_pc (s:GSet) (p:Play):PC Tryz.prog 73 [s.val,p.val] (I (playS s p)):=by
 have hc:=tcheck_pc s
 by_cases h0:gsetS s=0
 ·rw[h0]at hc
  have HT:=Box.mk (And.intro (play_tab (p:=p) h0) (play_in (p:=p) h0))
  refine DC.of_run Tryz.func73 rfl Tryz.ntmps73 Tryz.results73 (by simp) (fun _ _=>?_);simp only[argV_cons,argV_nil,go_sem,Nat.zero_add,Nat.reduceAdd]
  repeat' (first|(with_reducible first|refine DS.fltS yU yU yE ?_|refine DS.opsNil ?_|refine DS.seq ?_|refine DS.regionL ?_|(refine DS.cE yE ?_;refine CG.no ?_)|refine DS.block ?_|refine DS.skip ?_)|refine DS.pcS inferInstance (hc) yR yT ?_|(refine DS.boxF (t:=2) yU yE yU ?_;simp only[cells_agg,cells_v,cells_lst,cells_fn,map_nil'',map_cons'',copy_own,copy_lst,copy_v,copy_at,copy_agg,copy_fn,copy_ifc,copy_tup])|(refine DS.boxF (t:=3) yU yE yU ?_;simp only[cells_agg,cells_v,cells_lst,cells_fn,map_nil'',map_cons'',copy_own,copy_lst,copy_v,copy_at,copy_agg,copy_fn,copy_ifc,copy_tup])|fail)
  refine DS.loopK [2,3,37] yN (fun(j:Nat)=> [(38,I j)]) (fun(j:Nat)=>j≤8∧ ∀m,m<j→(rowP p m).2.1≤(rowP p m).1∧(rowP p m).1≤(rowP p m).2.2) (fun(j:Nat)=>8-j) 0 yS ⟨Nat.zero_le _,fun m h=>by omega⟩ (fun j B hI hB=>?_);try dsimp only at hI hB;simp only[app_cons',app_nil']
  obtain⟨hJ,hJ2⟩:=hI
  have HJ:=Box.mk (And.intro hJ2 hB)
  clear hJ2 hB
  by_cases hj:(j:Int)<8
  ·repeat' (first|(with_reducible first|refine DS.fltS yU yU yE ?_|refine DS.opsNil ?_|refine DS.seq ?_|refine DS.regionL ?_|(refine DS.cE yE ?_;refine CG.yes ?_)|refine DS.block ?_|refine DS.skip ?_)|fail)
   refine DS.indexA (e:=178) (m:=3) (c:=tabP p) (by decide) (by kernel_rfl) (by kernel_rfl) yH yH (Int.natCast_nonneg _) hj (by show(j:Int).toNat*3+3≤24;omega) ?_
   rw[tabP_row p j (by omega)]
   generalize hq:rowP p j=q at *
   obtain⟨x,lo,hi2⟩:=q
   dsimp only
   by_cases hok:lo≤x∧x≤hi2
   ·repeat' (first|(with_reducible first|refine DS.fltS yU yU yE ?_|refine DS.opsNil ?_|refine DS.seq ?_|refine DS.regionL ?_|(refine DS.cE yE ?_;refine CG.no ?_)|refine DS.blk ?_|refine DS.skip ?_)|(refine DS.letF (t:=7) yU yE yU (fun _=>yE) yE yU (by exact⟨by with_unfolding_all rfl,by with_unfolding_all decide⟩) (fun _=>by simp only[go_sem,Nat.reduceEqDiff,↓reduceIte]) ?_;simp only[go_sem])|refine DS.pcS inferInstance (hfrom_pc _ _ _) yR yT ?_|fail)
    all_goals first
     | exact DS.back (HJ.out.2 (j+1) _ _ (by omega) ⟨by omega,fun m hm=>if h:m=j then(by subst h;rw[hq];exact hok)else HJ.out.1 m (by omega)⟩ yS yS (fun b o e=>by cases e))
     | (exfalso;omega)
   ·have e:playS s p=2:=HT.out.1.resolve_left fun h=>hok (by have:=h j (by omega);rw[hq]at this;exact this)
    rw[e]
    repeat' (first|(with_reducible first|refine DS.fltS yU yU yE ?_|refine DS.opsNil ?_|refine DS.seq ?_|refine DS.regionL ?_|(refine DS.cE yE ?_;refine CG.yes ?_))|(refine DS.letF (t:=7) yU yE yU (fun _=>yE) yE yU (by exact⟨by with_unfolding_all rfl,by with_unfolding_all decide⟩) (fun _=>by simp only[go_sem,Nat.reduceEqDiff,↓reduceIte]) ?_;simp only[go_sem])|refine DS.pcS inferInstance (hfrom_pc _ _ _) yR yT ?_|refine DS.retT [] yE trivial ?_|fail)
    all_goals first|rfl|(exfalso;omega)
  ·have h4: ∀j,j<8→(rowP p j).2.1≤(rowP p j).1∧(rowP p j).1≤(rowP p j).2.2:=fun m hm=>HJ.out.1 m (by omega)
   have e:=HT.out.2 h4
   have a8:0≤p.indicators∧p.indicators≤5:=h4 7 (by omega)
   rw[e]
   clear HT HJ e h4
   repeat' (first|(with_reducible first|refine DS.fltS yU yU yE ?_|refine DS.opsNil ?_|refine DS.seq ?_|refine DS.regionL ?_|(refine DS.cE yE ?_;first|refine CG.p (fun _=>?_) (fun _=>?_)|refine CG.no ?_)|refine DS.exit yU ?_|refine DS.skip ?_)|refine DS.retT [] yE trivial ?_|fail)
   ·rw[if_pos (by omega)];rfl
   ·rw[if_neg (by omega)];rfl
 ·rw[playS,if_pos h0]
  refine DC.of_run Tryz.func73 rfl Tryz.ntmps73 Tryz.results73 (by simp) (fun _ _=>?_);simp only[argV_cons,argV_nil,go_sem,Nat.zero_add,Nat.reduceAdd]
  repeat' (first|(with_reducible first|refine DS.fltS yU yU yE ?_|refine DS.opsNil ?_|refine DS.seq ?_|refine DS.regionL ?_|(refine DS.cE yE ?_;refine CG.yes ?_))|refine DS.pcS inferInstance (hc) yR yT ?_|(refine DS.boxF (t:=2) yU yE yU ?_;simp only[cells_agg,cells_v,cells_lst,cells_fn,map_nil'',map_cons'',copy_own,copy_lst,copy_v,copy_at,copy_agg,copy_fn,copy_ifc,copy_tup])|(refine DS.boxF (t:=3) yU yE yU ?_;simp only[cells_agg,cells_v,cells_lst,cells_fn,map_nil'',map_cons'',copy_own,copy_lst,copy_v,copy_at,copy_agg,copy_fn,copy_ifc,copy_tup])|refine DS.retT [] yE trivial ?_|fail)
  all_goals first|rfl|(exfalso;omega)
end Go.XL
namespace Go.Proofs
open Go.Shelf
def Tryz.lays160_ren :Go.Shelf.Ren:=⟨fun|160=>134|232=>161|231=>160|227=>162|234=>164|233=>163|236=>166|235=>165|228=>178|271=>181|151=>180|197=>179|120=>186|152=>185|260=>184|137=>188|119=>189|224=>190|225=>191|217=>192|266=>193|n=>n,fun|9=>9|4=>4|3=>3|5=>5|117=>216|116=>215|0=>0|124=>219|21=>21|105=>231|46=>104|119=>237|139=>240|138=>239|n=>n,fun|3=>2|4=>3|n=>n⟩
theorem Tryz.lays160 :Go.Proofs.Lays.n160 Tryz.prog Tryz.lays160_ren:={
 mixed:=by kernel_rfl
 f119:=Tryz.func189.trans (congrArg some (by kernel_rfl))
 f120:=Tryz.func186.trans (congrArg some (by kernel_rfl))
 f137:=Tryz.func188.trans (congrArg some (by kernel_rfl))
 f151:=Tryz.func180.trans (congrArg some (by kernel_rfl))
 f152:=Tryz.func185.trans (congrArg some (by kernel_rfl))
 f160:=Tryz.func134.trans (congrArg some (by kernel_rfl))
 f197:=Tryz.func179.trans (congrArg some (by kernel_rfl))
 f217:=Tryz.func192.trans (congrArg some (by kernel_rfl))
 f224:=Tryz.func190.trans (congrArg some (by kernel_rfl))
 f225:=Tryz.func191.trans (congrArg some (by kernel_rfl))
 f227:=Tryz.func162.trans (congrArg some (by kernel_rfl))
 f228:=Tryz.func178.trans (congrArg some (by kernel_rfl))
 f231:=Tryz.func160.trans (congrArg some (by kernel_rfl))
 f232:=Tryz.func161.trans (congrArg some (by kernel_rfl))
 f233:=Tryz.func163.trans (congrArg some (by kernel_rfl))
 f234:=Tryz.func164.trans (congrArg some (by kernel_rfl))
 f235:=Tryz.func165.trans (congrArg some (by kernel_rfl))
 f236:=Tryz.func166.trans (congrArg some (by kernel_rfl))
 f260:=Tryz.func184.trans (congrArg some (by kernel_rfl))
 f266:=Tryz.func193.trans (congrArg some (by kernel_rfl))
 f271:=Tryz.func181.trans (congrArg some (by kernel_rfl))
 t0:=Tryz.underlying0
 a0:=Tryz.isAgg0
 z0:=Tryz.sizeOf0
 v0:=Tryz.zeroValue0
 t3:=Tryz.underlying3
 a3:=Tryz.isAgg3
 z3:=Tryz.sizeOf3
 v3:=Tryz.zeroValue3
 t4:=Tryz.underlying4
 a4:=Tryz.isAgg4
 z4:=Tryz.sizeOf4
 v4:=Tryz.zeroValue4
 t5:=Tryz.underlying5
 a5:=Tryz.isAgg5
 z5:=Tryz.sizeOf5
 v5:=Tryz.zeroValue5
 t9:=Tryz.underlying9
 a9:=Tryz.isAgg9
 z9:=Tryz.sizeOf9
 v9:=Tryz.zeroValue9
 t21:=Tryz.underlying21
 a21:=Tryz.isAgg21
 z21:=Tryz.sizeOf21
 v21:=Tryz.zeroValue21
 t46:=Tryz.underlying104
 a46:=Tryz.isAgg104
 z46:=Tryz.sizeOf104
 v46:=Tryz.zeroValue104
 t105:=Tryz.underlying231
 a105:=Tryz.isAgg231
 z105:=Tryz.sizeOf231
 v105:=Tryz.zeroValue231
 t116:=Tryz.underlying215
 a116:=Tryz.isAgg215
 z116:=Tryz.sizeOf215
 t117:=Tryz.underlying216
 a117:=Tryz.isAgg216
 z117:=Tryz.sizeOf216
 v117:=Tryz.zeroValue216
 t119:=Tryz.underlying237
 a119:=Tryz.isAgg237
 z119:=Tryz.sizeOf237
 t124:=Tryz.underlying219
 a124:=Tryz.isAgg219
 z124:=Tryz.sizeOf219
 v124:=Tryz.zeroValue219
 t138:=Tryz.underlying239
 a138:=Tryz.isAgg239
 z138:=Tryz.sizeOf239
 v138:=Tryz.zeroValue239
 t139:=Tryz.underlying240
 a139:=Tryz.isAgg240
 z139:=Tryz.sizeOf240
 v139:=Tryz.zeroValue240
 g3:=by kernel_rfl
 g4:=by kernel_rfl}
end Go.Proofs
namespace Go.XL
open Go.Proofs
set_option maxRecDepth 100000
set_option maxHeartbeats 4000000
theorem RlL_raw_eq {hv:VH}: ∀{cs ys:List Value},RlL hv (cs.map V.v) ys→ys=cs
 | [],ys,h=>by simpa only[List.map_nil,RlL] using h
 | c::r,ys,h=>by
  simp only[List.map_cons,RlL]at h
  obtain⟨z,zs,rfl,h1,h2⟩:=h
  simp only[V.Rl]at h1
  rw[h1,RlL_raw_eq h2]
theorem PC.of_below {P:Program} {f:FuncId} {xs:List Value} {y:Value} (h: ∀w:World,Calls P f xs.toArray w fun e w'=>e = .returned y∧Go.RowKit.Below w.heap.size w w'):PC P f (xs.map V.v) (.v y):=by
 intro v0 K hv hold h0 ys hp hr s w hw
 obtain rfl:=RlL_raw_eq hr
 subst hw
 refine(h w).mono fun e w' ⟨he,hb⟩=>⟨y,he,⟨hb.os,hb.tape,hb.output⟩, .v y,[],hv,hold,PreV.refl hv,⟨fun b o e=>?_,fun t v e=>?_,fun b o e=>(by cases e),s.held,⟨s.base.1,Nat.le_trans s.base.2.1 hb.size,fun b hB=>?_⟩,s.vbase⟩,rfl⟩
 ·obtain⟨o',h1,h2⟩:=s.pre b o e
  exact⟨o',by rw[hb.block b (Array.getElem?_eq_some_iff.1 h1).1];exact h1,h2⟩
 ·simp only[lookV]at e
  split at e
  ·rename_i h1
   subst h1
   cases e
   exact⟨y,by simp[look],V.Rl_v,trivial⟩
  ·cases e
 ·rw[hb.block b (Nat.lt_of_lt_of_le (s.base.1 b hB) s.base.2.1)]
  exact s.base.2.2 b hB
def nameL :List UInt8:= [97,98,99,100,101,102,103,104,105,106,107,108,109,110,111,112,113,114,115,116,117,118,119,120,121,122,48,49,50,51,52,53,54,55,56,57,45]
theorem nameL_in (c:UInt8):nameL.contains c=nameC c:=by
 have h: ∀n:_root_.Fin 256,nameL.contains (UInt8.ofNat n.val)=nameC (UInt8.ofNat n.val):=by decide
 have:=h ⟨c.toNat,c.toNat_lt⟩
 simpa using this
theorem dropW_nil {p:UInt8→Bool}: ∀{l:List UInt8},l.dropWhile p= []↔l.all p=true
 | []=>by simp
 | a::l=>by
  rw[List.dropWhile_cons,List.all_cons]
  cases h:p a with
  | true=>simp[dropW_nil]
  | false=>simp
theorem trim_nil (l:List UInt8):Lib.trimS l nameL= []↔l.all nameC=true:=by
 have e:(fun c:UInt8=>nameL.contains c)=nameC:=funext nameL_in
 have h1:Lib.trimS l nameL=(Lib.trimRightS l nameL).dropWhile nameC:=by rw[Lib.trimS,Lib.trimLeftS];rw[e]
 have h2:Lib.trimRightS l nameL=(l.reverse.dropWhile nameC).reverse:=by rw[Lib.trimRightS];rw[e]
 rw[h1,dropW_nil,h2,List.all_reverse]
 constructor
 ·intro h
  have h3:l.reverse.dropWhile nameC= []:=by
   cases hd:l.reverse.dropWhile nameC with
   | nil=>rfl
   | cons a r =>
    have h4:=List.head?_dropWhile_not nameC l.reverse
    rw[hd]at h4 h
    simp only[List.head?_cons,List.all_cons,Bool.and_eq_true]at h4 h
    rw[h.1]at h4
    simp at h4
  have h5:=dropW_nil.1 h3
  rwa [List.all_reverse]at h5
 ·intro h
  have h3:l.reverse.dropWhile nameC= []:=dropW_nil.2 (by rw[List.all_reverse];exact h)
  rw[h3];rfl
theorem trim_pc (s:ByteArray) (hs:s.size≤9223372036854775807):PC Tryz.prog 134 [St8 s,St8 ⟨nameL.toArray⟩] (St8 ⟨(Lib.trimS s.data.toList nameL).toArray⟩) :=
 PC.of_below (xs:= [.string s, .string ⟨nameL.toArray⟩]) fun w=>Any.strings_Trim_laid Tryz.lays160 (by kernel_rfl) s ⟨nameL.toArray⟩ w hs (by decide) (ascii_of_all (by decide))
theorem named_pc (s:ByteArray):PC Tryz.prog 102 [St8 s] (Bo (namedB s)):=by
 refine DC.of_run Tryz.func102 rfl Tryz.ntmps102 Tryz.results102 (by simp) (fun _ _=>?_);simp only[argV_cons,argV_nil,go_sem,Nat.zero_add,Nat.reduceAdd]
 by_cases h:1≤(s.size:Int)∧(s.size:Int)≤24
 ·have ht:=trim_pc s (by omega)
  repeat' (first|(with_reducible first|refine DS.fltS yU yU yE ?_|refine DS.opsNil ?_|refine DS.seq ?_|refine DS.regionL ?_|(refine DS.gE yU yE ?_;refine GG.run ?_))|refine DS.pcS inferInstance (hfrom_pc _ _ _) yR yT ?_|refine DS.pcS inferInstance (ht) yR yT ?_|refine DS.retT [] yE trivial ?_|fail)
  have e:namedB s=s.data.toList.all nameC:=by simp[namedB,h]
  have h2:=trim_nil s.data.toList
  rw[e]
  simp only[tupV,ByteArray.mk.injEq]
  congr 2
  rw[Bool.eq_iff_iff,decide_eq_true_eq,←h2]
  constructor
  ·intro h3
   have:=congrArg Array.toList h3
   simpa using this
  ·intro h3;rw[h3]
 ·have e:namedB s=false:=by simp[namedB,h]
  rw[e]
  repeat' (first|(with_reducible first|refine DS.fltS yU yU yE ?_|refine DS.opsNil ?_|refine DS.seq ?_|refine DS.regionL ?_|(refine DS.gE yU yE ?_;refine GG.sF ?_))|refine DS.pcS inferInstance (hfrom_pc _ _ _) yR yT ?_|refine DS.retT [] yE trivial ?_|fail)
  all_goals first|rfl|(exfalso;omega)
end Go.XL
namespace Go.XL
open Go.Proofs
set_option maxRecDepth 100000
set_option maxHeartbeats 8000000
theorem indexFuncP_pc (l:List Pattern) {g:FuncId} {fs cs:List V} {fn:Func} (p:Pattern→Bool) (hf:FnOk Tryz.prog g fn) (h: ∀m:Pattern,PC Tryz.prog g (fs++ [m.val]++cs) (Bo (p m))) :
  PC Tryz.prog 135 [patsV l, .fn g fs cs] (I (idxF p l 0)):=by
 refine DC.of_run Tryz.func135 rfl Tryz.ntmps135 Tryz.results135 (by simp) (fun _ _=>?_);simp only[argV_cons,argV_nil,go_sem,Nat.zero_add,Nat.reduceAdd]
 refine DS.bnd (t:=0) yG (.inl rfl) (fun hb0=>?_);simp only[List.length_map]at hb0
 repeat' (first|(with_reducible first|refine DS.fltS yU yU yE ?_|refine DS.opsNil ?_|refine DS.seq ?_|refine DS.regionL ?_|refine DS.block ?_)|fail)
 refine DS.loopK [0,1,7] yN (fun(i:Nat)=> [(8,I i)]) (fun(i:Nat)=>i≤l.length∧idxF p l 0=idxF p (l.drop i) i) (fun(i:Nat)=>l.length-i) 0 yS (by simp) (fun i B hI hB=>?_);try dsimp only at hI hB;simp only[app_cons',app_nil']
 have HB:=Box.mk hB
 clear hB
 by_cases hi:(i:Int)<(l.length:Int)
 ·have hi':i<l.length:=by omega
  cases hp:p l[i]with
  | true =>
   have:=idxF_hit (p:=p) (l:=l) (i:=i) hi' hp
   repeat' (first|(with_reducible first|refine DS.fltS yU yU yE ?_|refine DS.opsNil ?_|refine DS.seq ?_|refine DS.regionL ?_|(refine DS.cE yE ?_;refine CG.yes ?_)|refine DS.block ?_|refine DS.skip ?_)|fail)
   refine DS.pcVS hf (by simp (disch:=omega) only[go_sem,dopV,yV0,↓reduceIte,Nat.reduceEqDiff,Nat.reduceLT,Nat.reduceLeDiff,Nat.reduceAdd,Nat.reduceMul,Nat.reduceSub,Int.reduceToNat,Int.reduceLT,Int.reduceLE,Int.reduceEq,IntWalk.toNatUp,IntWalk.iteOmega,IntWalk.i64_in,V.flat,V.one]) (h l[i]) yR yH ?_
   repeat' (first|(with_reducible first|refine DS.fltS yU yU yE ?_|refine DS.opsNil ?_|refine DS.seq ?_|refine DS.regionL ?_|(refine DS.cE yE ?_;refine CG.yes ?_))|refine DS.retT [] yE trivial ?_|fail)
   rw[hI.2,this];rfl
  | false =>
   repeat' (first|(with_reducible first|refine DS.fltS yU yU yE ?_|refine DS.opsNil ?_|refine DS.seq ?_|refine DS.regionL ?_|(refine DS.cE yE ?_;refine CG.yes ?_)|refine DS.block ?_|refine DS.skip ?_)|fail)
   refine DS.pcVS hf (by simp (disch:=omega) only[go_sem,dopV,yV0,↓reduceIte,Nat.reduceEqDiff,Nat.reduceLT,Nat.reduceLeDiff,Nat.reduceAdd,Nat.reduceMul,Nat.reduceSub,Int.reduceToNat,Int.reduceLT,Int.reduceLE,Int.reduceEq,IntWalk.toNatUp,IntWalk.iteOmega,IntWalk.i64_in,V.flat,V.one]) (h l[i]) yR yH ?_
   repeat' (first|(with_reducible first|refine DS.fltS yU yU yE ?_|refine DS.opsNil ?_|refine DS.regionL ?_|(refine DS.cE yE ?_;refine CG.no ?_)|refine DS.blk ?_|refine DS.skip ?_)|fail)
   refine DS.back (HB.out (i+1) _ _ (by omega) ⟨by omega,by rw[hI.2,idxF_miss hi' hp]⟩ yS yS (fun b o e=>by cases e))
 ·repeat' (first|(with_reducible first|refine DS.fltS yU yU yE ?_|refine DS.opsNil ?_|refine DS.seq ?_|refine DS.regionL ?_|(refine DS.cE yE ?_;refine CG.no ?_)|refine DS.exit yU ?_)|refine DS.retT [] yE trivial ?_|fail)
  have:=idxF_end (p:=p) (l:=l) (i:=i) (by omega)
  simp only[tupV];rw[hI.2,this]
theorem containsFuncP_pc (l:List Pattern) {g:FuncId} {fs cs:List V} {fn:Func} (p:Pattern→Bool) (hf:FnOk Tryz.prog g fn) (h: ∀m:Pattern,PC Tryz.prog g (fs++ [m.val]++cs) (Bo (p m))) :
  PC Tryz.prog 103 [patsV l, .fn g fs cs] (Bo (l.any p)):=by
 have e:=idxF_any p l 0
 have hk:=indexFuncP_pc l p hf h
 refine DC.of_run Tryz.func103 rfl Tryz.ntmps103 Tryz.results103 (by simp) (fun _ _=>?_);simp only[argV_cons,argV_nil,go_sem,Nat.zero_add,Nat.reduceAdd]
 repeat' (first|(with_reducible first|refine DS.fltS yU yU yE ?_|refine DS.opsNil ?_|refine DS.seq ?_|refine DS.regionL ?_)|refine DS.pcS inferInstance (hk) yR yT ?_|refine DS.retT [] yE trivial ?_|fail)
 rw[←e];rfl
theorem patC_pc (q p:Pattern):PC Tryz.prog 104 [q.val, .plc p.cells] (Bo (decide (q.name=p.name))):=by
 refine DC.of_run Tryz.func104 rfl Tryz.ntmps104 Tryz.results104 (by simp) (fun _ _=>?_);simp only[argV_cons,argV_nil,go_sem,Nat.zero_add,Nat.reduceAdd]
 repeat' (first|(with_reducible first|refine DS.fltS yU yU yE ?_|refine DS.opsNil ?_|refine DS.seq ?_|refine DS.regionL ?_)|(refine DS.boxF (t:=2) yU yE yU ?_;simp only[cells_agg,cells_v,cells_lst,cells_fn,map_nil'',map_cons'',copy_own,copy_lst,copy_v,copy_at,copy_agg,copy_fn,copy_ifc,copy_tup])|refine DS.retT [] yE trivial ?_|fail)
 rfl
def CondPC (s:GSet) (l:List Node):Prop:=PC Tryz.prog 66 [s.val,nodesV l] (.tup [Bo (condX s l).1,I (condX s l).2])
theorem yX9 {p:Prop} (h:p:=by(simp (disch:=omega) only[go_sem,dopV,yV0,↓reduceIte,Nat.reduceEqDiff,Nat.reduceLT,Nat.reduceLeDiff,Nat.reduceAdd,Nat.reduceMul,Nat.reduceSub,Int.reduceToNat,Int.reduceLT,Int.reduceLE,Int.reduceEq,IntWalk.toNatUp,IntWalk.iteOmega,IntWalk.i64_in,V.flat,V.one, *,List.forall_mem_map,Pattern.len,implies_true,List.drop_zero];exact rfl)):p:=h
theorem yX10 {p:Prop} (h:p:=by(simp (disch:=omega) only[go_sem,dopV,yV0,↓reduceIte,Nat.reduceEqDiff,Nat.reduceLT,Nat.reduceLeDiff,Nat.reduceAdd,Nat.reduceMul,Nat.reduceSub,Int.reduceToNat,Int.reduceLT,Int.reduceLE,Int.reduceEq,IntWalk.toNatUp,IntWalk.iteOmega,IntWalk.i64_in,V.flat,V.one, *,List.forall_mem_map,Pattern.len,implies_true,List.drop_zero];first|done|exact rfl)):p:=h
theorem pattern_pc (h:House) (hl:h.patterns.length≤1000000) {i:Nat} (hi:i<h.patterns.length) (hc:CondPC h.set h.patterns[i].cond):PC Tryz.prog 65 [h.val,I i] (I (patS h i)):=by
 have e:h.pat i=h.patterns[i]:=by rw[House.pat,List.getD_eq_getElem?_getD,List.getElem?_eq_getElem hi];rfl
 have hn:=named_pc h.patterns[i].name
 have ha:=hall_pc 0 1000 [h.patterns[i].closed,h.patterns[i].open_]
 have hk:=containsFuncP_pc (h.patterns.take i) (g:=104) (fs:= []) (cs:= [.plc h.patterns[i].cells]) (fun q=>decide (q.name=h.patterns[i].name)) inferInstance (fun q=>patC_pc q h.patterns[i])
 have ho1:=others_pc h.patterns[i].excl i h.patterns.length ⟨by omega,by omega⟩
 have ho2:=others_pc h.patterns[i].impl i h.patterns.length ⟨by omega,by omega⟩
 have e1:([h.patterns[i].closed,h.patterns[i].open_].all fun n=>decide (0≤n∧n≤1000))=decide ((0≤h.patterns[i].closed∧h.patterns[i].closed≤1000)∧(0≤h.patterns[i].open_∧h.patterns[i].open_≤1000)):=by simp
 rw[e1]at ha
 clear e1
 unfold CondPC at hc
 rw[patS,e]
 clear e
 have hil:(i:Int)<(h.patterns.length:Int):=by omega
 have hsub:(List.map Pattern.cells h.patterns).take i=List.map Pattern.cells (h.patterns.take i):=by rw[List.map_take]
 generalize ((h.patterns.take i).any fun q=>decide (q.name=h.patterns[i].name))=B1 at hk ⊢
 generalize condX h.set h.patterns[i].cond=C at hc ⊢
 obtain⟨c1,c2⟩:=C
 dsimp only at hc ⊢
 generalize othersS h.patterns[i].excl i h.patterns.length=O1 at ho1 ⊢
 generalize othersS h.patterns[i].impl i h.patterns.length=O2 at ho2 ⊢
 generalize namedB h.patterns[i].name=N at hn ⊢
 refine DC.of_run Tryz.func65 rfl Tryz.ntmps65 Tryz.results65 (by simp) (fun _ _=>?_);simp only[argV_cons,argV_nil,go_sem,Nat.zero_add,Nat.reduceAdd]
 repeat' (first|(with_reducible first|refine DS.fltS yU yU yX9 ?_|refine DS.opsNil ?_|refine DS.seq ?_|refine DS.regionL ?_|(refine DS.cE yX9 ?_;first|refine CG.np (fun _=>?_) (fun _=>?_)|refine CG.nb (fun _=>?_) (fun _=>?_)|refine CG.b (fun _=>?_) (fun _=>?_))|refine DS.skip ?_)|(refine DS.bsl yU yX9 yX9 ?_;simp only[go_sem,Nat.zero_add,Nat.reduceAdd])|(refine DS.letF (t:=5) yU yX9 yU (fun _=>yX9) yX9 yU (by exact⟨by with_unfolding_all rfl,by with_unfolding_all decide⟩) (fun _=>by simp only[go_sem,Nat.reduceEqDiff,↓reduceIte]) ?_;simp only[go_sem])|refine DS.pcS inferInstance (hn) yR yX10 ?_|refine DS.pcS inferInstance (hk) yR yX10 ?_|refine DS.pcS inferInstance (ha) yR yX10 ?_|refine DS.pcS inferInstance (hc) yR yX10 ?_|refine DS.pcS inferInstance (ho1) yR yX10 ?_|refine DS.pcS inferInstance (ho2) yR yX10 ?_|(refine DS.boxF (t:=2) yU yX9 yU ?_;simp only[cells_agg,cells_v,cells_lst,cells_fn,map_nil'',map_cons'',copy_own,copy_lst,copy_v,copy_at,copy_agg,copy_fn,copy_ifc,copy_tup])|refine DS.retT [] yX9 trivial ?_|fail)
 all_goals (clear hn hk ha hc ho1 ho2;simp only[tupV];(repeat' split) <;> first|rfl|(exfalso;omega)|(exfalso;grind))
theorem houseC1_pc (h:House):PC Tryz.prog 68 [.plc h.cells] (I (scaleS h.scale)):=by
 have hs:=checkScale_pc h.scale
 refine DC.of_run Tryz.func68 rfl Tryz.ntmps68 Tryz.results68 (by simp) (fun _ _=>?_);simp only[argV_cons,argV_nil,go_sem,Nat.zero_add,Nat.reduceAdd]
 repeat' (first|(with_reducible first|refine DS.fltS yU yU yE ?_|refine DS.opsNil ?_|refine DS.seq ?_|refine DS.regionL ?_)|refine DS.pcS inferInstance (hs) yR yT ?_|refine DS.retT [] yE trivial ?_|fail)
 rfl
theorem houseC2_pc (h:House):PC Tryz.prog 70 [.plc h.cells] (I (payS h.set h.pay)):=by
 have hs:=pay_pc h.set h.pay
 refine DC.of_run Tryz.func70 rfl Tryz.ntmps70 Tryz.results70 (by simp) (fun _ _=>?_);simp only[argV_cons,argV_nil,go_sem,Nat.zero_add,Nat.reduceAdd]
 repeat' (first|(with_reducible first|refine DS.fltS yU yU yE ?_|refine DS.opsNil ?_|refine DS.seq ?_|refine DS.regionL ?_)|refine DS.pcS inferInstance (hs) yR yT ?_|refine DS.retT [] yE trivial ?_|fail)
 rfl
theorem houseC3_pc (h:House):PC Tryz.prog 72 [.plc h.cells] (I (playS h.set h.play)):=by
 have hs:=play_pc h.set h.play
 refine DC.of_run Tryz.func72 rfl Tryz.ntmps72 Tryz.results72 (by simp) (fun _ _=>?_);simp only[argV_cons,argV_nil,go_sem,Nat.zero_add,Nat.reduceAdd]
 repeat' (first|(with_reducible first|refine DS.fltS yU yU yE ?_|refine DS.opsNil ?_|refine DS.seq ?_|refine DS.regionL ?_)|refine DS.pcS inferInstance (hs) yR yT ?_|refine DS.retT [] yE trivial ?_|fail)
 rfl
end Go.XL
namespace Go.XL
open Go.Proofs
set_option maxRecDepth 100000
set_option maxHeartbeats 8000000
theorem nodesGo_at {s:GSet} {l:List Node} {i:Nat} (hi:i<l.length):nodesGo s (l.drop i)=if nodeS s l[i]≠0 then nodeS s l[i]else nodesGo s (l.drop (i+1)):=by
 rw[List.drop_eq_getElem_cons hi,nodesGo]
theorem nodesGo_all {s:GSet}: ∀{l:List Node},nodesGo s l=0→ ∀x∈l,1≤x.op∧x.op≤24
 | y::l,h,x,hx=>by
  rw[nodesGo]at h
  by_cases hy:nodeS s y≠0
  ·rw[if_pos hy]at h;exact absurd h hy
  ·rw[if_neg hy]at h
   rcases List.mem_cons.1 hx with rfl|hx
   ·refine Decidable.byContradiction fun hn=>hy ?_
    rw[nodeS,if_pos hn];decide
   ·exact nodesGo_all h x hx
theorem parts_len (op:Int):(useS op).parts.length≤3:=by
 by_cases h:1≤op∧op≤24
 ·have h24:op=1∨op=2∨op=3∨op=4∨op=5∨op=6∨op=7∨op=8∨op=9∨op=10∨op=11∨op=12∨op=13∨op=14∨op=15∨op=16∨op=17∨op=18∨op=19∨op=20∨op=21∨op=22∨op=23∨op=24:=by omega
  rcases h24 with rfl|rfl|rfl|rfl|rfl|rfl|rfl|rfl|rfl|rfl|rfl|rfl|rfl|rfl|rfl|rfl|rfl|rfl|rfl|rfl|rfl|rfl|rfl|rfl <;> decide
 ·unfold useS
  repeat rw[if_neg (by omega)]
  exact Nat.zero_le _
def pB (b:Bool):Int:=if b then 110 else 116
def cB (b:Bool):List V:= [.v (.int .u8 (pB b))]
theorem partB_size (l:List Bool):(partB l).size=l.length:=by simp[partB,ByteArray.size]
theorem partB_get {l:List Bool} {k:Nat} (h:k<l.length): ∃c:UInt8,(partB l)[k]?=some c∧(c.toNat:Int)=pB l[k]:=by
 refine⟨if l[k]then 110 else 116,?_,?_⟩
 ·have hk:k<(partB l).size:=by rw[partB_size];exact h
  rw[getElem?_pos (partB l) k hk]
  simp[partB,ByteArray.getElem_eq_getElem_data]
 ·cases l[k] <;> rfl
theorem askS_first {l:List Node} (h:0<l.length):askS l=askGo (l.drop (0+1)) ((useS l[0].op).parts++ []) true:=by
 cases l with
 | nil=>simp at h
 | cons x r=>simp[askS]
theorem askGo_step {l:List Node} {k:Nat} (h:k<l.length) (b:Bool) (asked:List Bool) (typed:Bool):askGo (l.drop k) (b::asked) typed=askGo (l.drop (k+1)) ((useS l[k].op).parts++asked) (typed&&b == numS l[k].op):=by
 rw[List.drop_eq_getElem_cons h,askGo]
theorem askGo_none {l:List Node} {k:Nat} (h:k<l.length) (typed:Bool):askGo (l.drop k) [] typed=none:=by
 rw[List.drop_eq_getElem_cons h,askGo]
def stk (asked:List Bool):List V:=asked.reverse.map fun b=>V.v (.int .u8 (pB b))
theorem stk_flat (asked:List Bool):(asked.reverse.map cB).flatten=stk asked:=by
 rw[stk]
 generalize asked.reverse=l
 induction l with
 | nil=>rfl
 | cons b l ih=>rw[List.map_cons,List.flatten_cons,List.map_cons,ih];rfl
theorem stk_cons (b:Bool) (asked:List Bool):stk (b::asked)=stk asked++ [V.v (.int .u8 (pB b))]:=by simp[stk]
theorem stk_len (asked:List Bool):(stk asked).length=asked.length:=by simp[stk]
theorem stk_drop (asked:List Bool) (x:List V):(stk asked++x).drop asked.length=x:=by
 rw[List.drop_append_of_le_length (by rw[stk_len];exact Nat.le_refl _),List.drop_eq_nil_of_le (by rw[stk_len];exact Nat.le_refl _)];rfl
structure Stk (S:Sto) (asked:List Bool) (g:GR):Prop where
 l:g.l=asked.reverse.map cB
 ok:g.Ok 5 1 S
theorem Stk.some {S:Sto} {b:Bool} {asked:List Bool} {g:GR} (h:Stk S (b::asked) g): ∃bk cap j,g.cell = .v (.slice (some ⟨bk,0,none⟩) (asked.length+1) cap)∧lookS S bk=some (.cells (stk asked++(V.v (.int .u8 (pB b))::j)) 5)∧asked.length+1≤cap ∧
  ∃g',g'.cell = .v (.slice (some ⟨bk,0,none⟩) asked.length cap)∧Stk S asked g':=by
 obtain⟨h1,h2⟩:=h
 obtain⟨gl,blk⟩:=g
 dsimp only at h1
 subst h1
 cases blk with
 | none =>
  have:((b::asked).reverse.map cB).length=0:=by rw[show(b::asked).reverse.map cB= []from h2];rfl
  simp at this
 | some x =>
  obtain⟨bk,cap,j⟩:=x
  have hlk:=h2.look
  rw[stk_flat,stk_cons,List.append_assoc]at hlk
  have hle:=h2.le
  have hln:=h2.len
  simp only[List.length_map,List.length_reverse,List.length_cons]at hle hln
  refine⟨bk,cap,j,by rw[GR.cell_some];simp,hlk,hle,⟨asked.reverse.map cB,Option.some (bk,cap,V.v (.int .u8 (pB b))::j)⟩,by rw[GR.cell_some];simp,rfl,?_⟩
  refine⟨by rw[stk_flat];exact hlk,by simp only[List.length_map,List.length_reverse,List.length_cons];omega,by simp;omega,h2.cap,fun v hv=>?_,fun v hv=>h2.lf v ?_,fun c hc=>h2.ll c ?_⟩
  ·rcases List.mem_cons.1 hv with rfl|hv
   ·rfl
   ·exact h2.jf v hv
  ·rw[stk_flat]at hv ⊢
   rw[stk_cons];exact List.mem_append_left _ hv
  ·rw[List.reverse_cons,List.map_append];exact List.mem_append_left _ hc
theorem Stk.len {S:Sto} {asked:List Bool} {g:GR} (h:Stk S asked g):(g.cell = .v (.slice none 0 0)∧asked= [])∨ ∃bk cap,g.cell = .v (.slice (Option.some ⟨bk,0,none⟩) asked.length cap):=by
 obtain⟨h1,h2⟩:=h
 obtain⟨gl,blk⟩:=g
 dsimp only at h1
 subst h1
 cases blk with
 | none =>
  have:(asked.reverse.map cB).length=0:=by rw[show asked.reverse.map cB= []from h2];rfl
  exact .inl ⟨by rw[GR.cell_none],List.eq_nil_of_length_eq_zero (by simpa using this)⟩
 | some x =>
  obtain⟨bk,cap,j⟩:=x
  exact .inr ⟨bk,cap,by rw[GR.cell_some];simp⟩
theorem cond_main (s:GSet) (l:List Node) (hl:l.length≤60) (hc:PC Tryz.prog 63 [s.val] (I 0)) (r:Bool×Int)
  (hr1:nodesGo s l≠0→r=(false,nodesGo s l)) (hr2:nodesGo s l=0→r=match askS l with
   | none=>(false,5)
   | some (asked,typed)=>if(l.length:Int)=0 then(false,0)else if 0<(asked.length:Int)then(false,6)else if typed=false then(false,15)else(numS (l.headD ⟨0,0,0,0,0,false,[]⟩).op,0)) :
  PC Tryz.prog 66 [s.val,nodesV l] (.tup [Bo r.1,I r.2]):=by
 have e60: ¬(60:Int)<(l.length:Int):=by omega
 refine DC.of_run Tryz.func66 rfl Tryz.ntmps66 Tryz.results66 (by simp) (fun _ _=>?_);simp only[argV_cons,argV_nil,go_sem,Nat.zero_add,Nat.reduceAdd]
 repeat' (first|(with_reducible first|refine DS.fltS yU yU yE ?_|refine DS.opsNil ?_|refine DS.seq ?_|refine DS.regionL ?_|(refine DS.cE yE ?_;refine CG.no ?_)|refine DS.block ?_|refine DS.skip ?_)|refine DS.pcS inferInstance (hc) yR yT ?_|(refine DS.boxF (t:=2) yU yE yU ?_;simp only[cells_agg,cells_v,cells_lst,cells_fn,map_nil'',map_cons'',copy_own,copy_lst,copy_v,copy_at,copy_agg,copy_fn,copy_ifc,copy_tup])|fail)
 refine DS.loopK [1,2,27,28] yN (fun(i:Nat)=> [(29,I i)]) (fun(i:Nat)=>i≤l.length∧nodesGo s l=nodesGo s (l.drop i)) (fun(i:Nat)=>l.length-i) 0 yS ⟨Nat.zero_le _,rfl⟩ (fun i B hI hB=>?_);try dsimp only at hI hB;simp only[app_cons',app_nil']
 by_cases hi:i<l.length
 ·have hi':(i:Int)<(l.length:Int):=by omega
  have hg:=hI.2
  rw[nodesGo_at hi]at hg
  have hp:=node_pc s l[i]
  by_cases hz:nodeS s l[i]=0
  ·rw[hz]at hp
   rw[if_neg (by omega)]at hg
   have H:=Box.mk hg
   clear hr1 hr2 hg hz hI
   repeat' (first|(with_reducible first|refine DS.fltS yU yU yE ?_|refine DS.opsNil ?_|refine DS.seq ?_|refine DS.regionL ?_|(refine DS.cE yE ?_;first|refine CG.yes ?_|refine CG.no ?_)|refine DS.blk ?_|refine DS.block ?_|refine DS.skip ?_)|(refine DS.letF (t:=8) yU yE yU (fun _=>yE) yE yU (by exact⟨by with_unfolding_all rfl,by with_unfolding_all decide⟩) (fun _=>by simp only[go_sem,Nat.reduceEqDiff,↓reduceIte]) ?_;simp only[go_sem])|refine DS.pcS inferInstance (hp) yR yT ?_|fail)
   exact DS.back (hB (i+1) _ _ (by omega) (⟨by omega,H.out⟩) yS yS (fun b o e=>by first|exact e|(simp only[lookS_cons];split <;> simp_all)))
  ·rw[if_pos hz]at hg
   rw[hr1 (by rw[hg];exact hz),hg]
   clear hr1 hr2 hg hI hB
   repeat' (first|(with_reducible first|refine DS.fltS yU yU yE ?_|refine DS.opsNil ?_|refine DS.seq ?_|refine DS.regionL ?_|(refine DS.cE yE ?_;refine CG.yes ?_)|refine DS.block ?_|refine DS.skip ?_)|(refine DS.letF (t:=8) yU yE yU (fun _=>yE) yE yU (by exact⟨by with_unfolding_all rfl,by with_unfolding_all decide⟩) (fun _=>by simp only[go_sem,Nat.reduceEqDiff,↓reduceIte]) ?_;simp only[go_sem])|refine DS.pcS inferInstance (hp) yR yT ?_|refine DS.retT [] yE trivial ?_|fail)
   all_goals first|rfl|(exfalso;omega)
 ·have h0:nodesGo s l=0:=by rw[hI.2,List.drop_eq_nil_of_le (by omega)];rfl
  have hr:=hr2 h0
  have hall:=nodesGo_all h0
  have hi': ¬(i:Int)<(l.length:Int):=by omega
  have HR:=Box.mk (And.intro hr hall)
  clear hr1 hr2 hr hall h0 hI hB hi
  repeat' (first|(with_reducible first|refine DS.fltS yU yU yE ?_|refine DS.opsNil ?_|refine DS.seq ?_|refine DS.regionL ?_|(refine DS.cE yE ?_;refine CG.no ?_)|refine DS.block ?_|refine DS.exit yU ?_)|fail)
  have hgc:GR.cell ⟨[],none⟩ = .v (.slice none 0 0):=rfl
  refine DS.loopS [1,40,41] yN (fun(x:Nat×List Bool×Bool×GR×Sto)=> [(10,x.2.2.2.1.cell),(11,Bo x.2.2.1),(42,I x.1)]) (fun(x:Nat×List Bool×Bool×GR×Sto)=>x.2.2.2.2) (fun(x:Nat×List Bool×Bool×GR×Sto)=>x.1≤l.length∧x.2.1.length≤3*x.1∧(x.1=0→x.2.1= []∧x.2.2.1=true)∧(0<x.1→askS l=askGo (l.drop x.1) x.2.1 x.2.2.1)∧Stk x.2.2.2.2 x.2.1 x.2.2.2.1) (fun(x:Nat×List Bool×Bool×GR×Sto)=>l.length-x.1) (0,[],true,⟨[],none⟩,[]) yS (fun b o e=>by exact e) ⟨Nat.zero_le _,Nat.zero_le _,fun _=>⟨rfl,rfl⟩,fun h=>absurd h (by decide),rfl,rfl⟩ (fun x B hI hB=>?_);try dsimp only at hI hB;simp only[app_cons',app_nil']
  obtain⟨k,asked,typed,g,S⟩:=x
  dsimp only at hI hB
  obtain⟨i1,i2,i3,i4,i5⟩:=hI
  by_cases hk:k<l.length
  ·have hk':(k:Int)<(l.length:Int):=by omega
   have hall:=HR.out.2 l[k] (List.getElem_mem hk)
   have hs:=sortOf_pc l[k].op
   rw[sortX,if_pos hall]at hs
   have HB:=Box.mk hB
   have HI:=Box.mk (And.intro i3 i4)
   clear hB i3 i4
   obtain⟨sc,hsc⟩: ∃sc,sc=(sortR l[k].op).cells:=⟨_,rfl⟩
   repeat' (first|(with_reducible first|refine DS.fltS yU yU yE ?_|refine DS.opsNil ?_|refine DS.seq ?_|refine DS.regionL ?_)|fail)
   refine DS.cT yG yR ?_
   repeat' (first|(with_reducible first|refine DS.fltS yU yU yE ?_|refine DS.opsNil ?_|refine DS.seq ?_|refine DS.regionL ?_|refine DS.block ?_|refine DS.skip ?_)|(refine DS.letF (t:=14) yU yE yU (fun _=>yE) yE yU (by exact⟨by with_unfolding_all rfl,by with_unfolding_all decide⟩) (fun _=>by simp only[go_sem,Nat.reduceEqDiff,↓reduceIte]) ?_;simp only[go_sem])|(refine DS.letF1 (t:=13) yU yU yU yE yU (fun _=>yE) (fun _=>yE) yE yU (by exact⟨by with_unfolding_all rfl,by with_unfolding_all decide⟩) (fun _=>by simp only[go_sem,Nat.reduceEqDiff,↓reduceIte]) ?_;simp only[go_sem])|refine DS.pcS inferInstance (hs) yR yT ?_|fail)
   refine DS.joinL (fun y:List Bool×Bool×GR=> [(10,y.2.2.cell),(11,Bo y.2.1),(42,I k),(1,nodesV l),(40,nodesV l),(41,I l.length),(14, .plc (sortR l[k].op).cells)]) (fun _=>S) (fun y=>Stk S y.1 y.2.2∧y.1.length≤3*k∧askS l=askGo (l.drop (k+1)) ((useS l[k].op).parts++y.1) y.2.1) ?_ (fun y hy=>?_)
   ·by_cases hk0:k=0
    ·subst hk0
     obtain⟨e1,e2⟩:=HI.out.1 rfl
     subst e1;subst e2
     repeat' (first|(with_reducible first|(refine DS.cE yE ?_;refine CG.no ?_)|refine DS.skip ?_)|fail)
     exact DS.back ⟨([],true,g),⟨i5,Nat.zero_le _,askS_first hk⟩,yS,fun b o e=>e⟩
    ·have hk1:(0:Int)<(k:Int):=by omega
     have ha:=HI.out.2 (by omega)
     cases asked with
     | nil =>
      have hr:=HR.out.1
      rw[ha,askGo_none hk]at hr
      rw[hr]
      clear hr ha
      obtain⟨gl,blk⟩:=g
      have hgl:gl= []:=i5.l
      subst hgl
      cases blk with
      | none =>
       simp only[GR.cell_none]
       repeat' (first|(with_reducible first|refine DS.fltS yU yU yE ?_|refine DS.opsNil ?_|refine DS.seq ?_|refine DS.regionL ?_|(refine DS.cE yE ?_;refine CG.yes ?_))|refine DS.retT [] yE trivial ?_|fail)
       all_goals first|rfl|(exfalso;omega)
      | some x =>
       obtain⟨bk,cap,j⟩:=x
       simp only[GR.cell_some,List.length_nil]
       repeat' (first|(with_reducible first|refine DS.fltS yU yU yE ?_|refine DS.opsNil ?_|refine DS.seq ?_|refine DS.regionL ?_|(refine DS.cE yE ?_;refine CG.yes ?_))|refine DS.retT [] yE trivial ?_|fail)
       all_goals first|rfl|(exfalso;omega)
     | cons b asked =>
      obtain⟨bk,cap,j,q1,q2,q3,g',q4,q5⟩:=i5.some
      have hN:((asked.length+1:Nat):Int)-1=(asked.length:Int):=by omega
      have hw:IntKind.i64.wrap (asked.length:Int)=(asked.length:Int):=IntWalk.i64_in _ (by simp only[List.length_cons]at i2;omega)
      have hd:=stk_drop asked (V.v (.int .u8 (pB b))::j)
      have hne: ¬((asked.length+1:Nat):Int)=0:=by omega
      have hpb:decide (pB b=110)=b:=by cases b <;> rfl
      rw[askGo_step hk]at ha
      have i2':asked.length≤3*k:=by simp only[List.length_cons]at i2;omega
      have HA:=Box.mk (And.intro q5 (And.intro i2' ha))
      have hq4:g'.cell = .v (.slice (some ⟨bk,0,none⟩) (asked.length-0) (cap-0)):=q4
      clear q5 ha q4 HI i5
      have hnum:(sortR l[k].op).number=numS l[k].op:=rfl
      rw[q1]
      cases typed
      ·repeat' (first|(with_reducible first|refine DS.fltS yU yU yE ?_|refine DS.opsNil ?_|refine DS.seq ?_|refine DS.regionL ?_|(refine DS.cE yE ?_;first|refine CG.yes ?_|refine CG.no ?_)|(refine DS.gE yU yE ?_;refine GG.sF ?_)|refine DS.skip ?_)|refine DS.drawL (id:=22) [0,1,2,3,4,5,6,7,8,9,10] 11 (by kernel_rfl) mixed (by simp only[pickL_cons,pickL_nil,get_zero',get_cons',pickO_some];exact rfl) (by simp only[drop_zero',drop_cons',List.drop_nil];exact rfl) ?_|(with_reducible first|refine DD.fltS yU yU yU yE ?_|(refine DD.gE yU yE ?_;refine DGG.sF ?_)|refine DD.nil0 ?_)|fail)
       exact DS.back ⟨(asked,false,g'),HA.out,yS,fun b o e=>e⟩
      ·repeat' (first|(with_reducible first|refine DS.fltS yU yU yE ?_|refine DS.opsNil ?_|refine DS.seq ?_|refine DS.regionL ?_|(refine DS.cE yE ?_;first|refine CG.yes ?_|refine CG.no ?_)|(refine DS.gE yU yE ?_;refine GG.run ?_)|refine DS.skip ?_)|refine DS.drawL (id:=22) [0,1,2,3,4,5,6,7,8,9,10] 11 (by kernel_rfl) mixed (by simp only[pickL_cons,pickL_nil,get_zero',get_cons',pickO_some];exact rfl) (by simp only[drop_zero',drop_cons',List.drop_nil];exact rfl) ?_|(with_reducible first|refine DD.fltS yU yU yU yE ?_|(refine DD.gE yU yE ?_;refine DGG.run ?_)|refine DD.nil0 ?_)|fail)
       exact DS.back ⟨(asked,true&&b == numS l[k].op,g'),HA.out,yS,fun b o e=>e⟩
   ·obtain⟨asked1,typed1,g1⟩:=y
    dsimp only at hy ⊢
    have hpl:=parts_len l[k].op
    have hsz:(partB (sortR l[k].op).parts).size=(useS l[k].op).parts.length:=partB_size _
    repeat' (first|(with_reducible first|refine DS.fltS yU yU yE ?_|refine DS.opsNil ?_|refine DS.seq ?_|refine DS.regionL ?_|refine DS.block ?_)|fail)
    refine DS.loopS [1,11,14,40,41,42] yN (fun(z:Nat×GR×Sto)=> [(10,z.2.1.cell),(16, .v (.int .i64 ((z.1:Int)-1)))]) (fun(z:Nat×GR×Sto)=>z.2.2) (fun(z:Nat×GR×Sto)=>z.1≤(useS l[k].op).parts.length∧Stk z.2.2 ((useS l[k].op).parts.drop z.1++asked1) z.2.1) (fun(z:Nat×GR×Sto)=>z.1) ((useS l[k].op).parts.length,g1,S) yS (fun b o e=>by exact e) ⟨Nat.le_refl _,by rw[List.drop_length];exact hy.1⟩ (fun z B hI hB=>?_);try dsimp only at hI hB;simp only[app_cons',app_nil']
    obtain⟨q,g2,S2⟩:=z
    dsimp only at hI hB
    by_cases hq:q=0
    ·have hq1: ¬(0:Int)≤(q:Int)-1:=by omega
     have hI2:Stk S2 ((useS l[k].op).parts++asked1) g2:=by have:=hI.2;rw[hq]at this;exact this
     clear hq hI
     repeat' (first|(with_reducible first|refine DS.fltS yU yU yE ?_|refine DS.opsNil ?_|refine DS.seq ?_|refine DS.regionL ?_|(refine DS.cE yE ?_;refine CG.no ?_)|refine DS.blk ?_|refine DS.exit yU ?_)|fail)
     exact DS.back (HB.out (k+1,(useS l[k].op).parts++asked1,typed1,g2,S2) _ _ (by dsimp only;omega) ⟨by dsimp only;omega,by simp only[List.length_append];omega,fun h=>absurd h (by omega),fun _=>hy.2.2,hI2⟩ yS yS (fun b o e=>by exact e))
    ·have hq1:(0:Int)≤(q:Int)-1:=by omega
     obtain⟨c,hc1,hc2⟩:=partB_get (l:=(useS l[k].op).parts) (k:=q-1) (by omega)
     have hqt:((q:Int)-1).toNat=q-1:=by omega
     obtain⟨n1,n2,n3⟩:=hI
     have hln:g2.l.length≤1000:=by
      rw[n2];simp only[List.length_map,List.length_reverse,List.length_append,List.length_drop];omega
     have hgc:=g2.cell_copy
     repeat' (first|(with_reducible first|refine DS.fltS yU yU yE ?_|refine DS.opsNil ?_|refine DS.seq ?_|refine DS.regionL ?_|(refine DS.cE yE ?_;refine CG.yes ?_)|refine DS.block ?_|refine DS.skip ?_)|fail)
     refine DS.indexS (s:=partB (sortR l[k].op).parts) (b:=c) (by decide) yU yH yH hq1 (by rw[hqt];exact hc1) ?_
     refine DS.bsl yU yG yG ?_
     simp only[go_sem,Nat.zero_add,Nat.reduceAdd]
     refine DS.step rfl rfl yR (OpS.appG (g:=g2) (ml:= [[.v (.int .u8 (c.toNat:Nat))]]) rfl yH yH yR yR (by decide) yH n3 yH yH (by simp) (by intro x hx;rw[List.mem_singleton]at hx;subst hx;rfl) ⟨by simp only[List.length_cons,List.length_nil];omega,by decide⟩) (fun u2 E' S4 hu2=>?_)
     obtain⟨rfl,b',cap',junk',rfl,m1,m2,m3⟩:=hu2
     have hl3:g2.l++List.map (fun x=>List.map V.copy x) [[V.v (Value.int IntKind.u8 (c.toNat:Nat))]]=((useS l[k].op).parts.drop (q-1)++asked1).reverse.map cB:=by
      have hdr:(useS l[k].op).parts.drop (q-1)=(useS l[k].op).parts[q-1]::(useS l[k].op).parts.drop q:=by
       rw[List.drop_eq_getElem_cons (by omega)]
       congr 2;omega
      rw[n2,hdr,hc2,List.cons_append,List.reverse_cons,List.map_append]
      rfl
     have HS:Stk S4 ((useS l[k].op).parts.drop (q-1)++asked1) ⟨g2.l++List.map (fun x=>List.map V.copy x) [[V.v (Value.int IntKind.u8 (c.toNat:Nat))]],some (b',cap',junk')⟩:=⟨hl3,m1⟩
     clear m1 m2 m3 hl3
     generalize (GR.mk (g2.l++List.map (fun x=>List.map V.copy x) [[V.v (Value.int IntKind.u8 (c.toNat:Nat))]]) (some (b',cap',junk')))=g3 at *
     have hgc3:=g3.cell_copy
     have hqc:((q-1:Nat):Int)=(q:Int)-1:=by omega
     clear hc1 hc2 n2 hgc
     simp only[putV_some]
     repeat' (first|(with_reducible first|refine DS.fltS yU yU yE ?_|refine DS.opsNil ?_|refine DS.regionL ?_|refine DS.blk ?_)|fail)
     exact DS.back (hB (q-1,g3,S4) _ _ (by dsimp only;omega) ⟨by dsimp only;omega,HS⟩ yS yS (fun b o e=>by exact e))
  ·have hk': ¬(k:Int)<(l.length:Int):=by omega
   have hke:k=l.length:=by omega
   have hr:=HR.out.1
   have hall:=HR.out.2
   have hA:askS l=some (asked,typed):=by
    by_cases h0:k=0
    ·obtain⟨e1,e2⟩:=i3 h0
     have:l= []:=List.eq_nil_of_length_eq_zero (by omega)
     rw[this,e1,e2];rfl
    ·rw[i4 (by omega),List.drop_eq_nil_of_le (by omega)];rfl
   rw[hA]at hr
   dsimp only at hr
   have hln: ∃v,g.cell=v∧((v = .v (.slice none 0 0)∧asked= [])∨ ∃bk cap,v = .v (.slice (some ⟨bk,0,none⟩) asked.length cap)):=⟨_,rfl,i5.len⟩
   clear i3 i4 i5 hA hB HR
   by_cases h1:(l.length:Int)=0
   ·rw[if_pos h1]at hr
    rw[hr];clear hr
    obtain⟨v,hv,⟨rfl,rfl⟩|⟨bk,cap,rfl⟩⟩:=hln <;> rw[hv]
    all_goals repeat' (first|(with_reducible first|refine DS.fltS yU yU yE ?_|refine DS.opsNil ?_|refine DS.seq ?_|refine DS.regionL ?_|(refine DS.cE yE ?_;first|refine CG.yes ?_|refine CG.no ?_)|refine DS.block ?_|refine DS.exit yU ?_)|refine DS.retT [] yE trivial ?_|fail)
    all_goals first|rfl|(exfalso;omega)
   rw[if_neg h1]at hr
   by_cases h2:0<(asked.length:Int)
   ·rw[if_pos h2]at hr
    rw[hr];clear hr
    obtain⟨v,hv,⟨rfl,rfl⟩|⟨bk,cap,rfl⟩⟩:=hln <;> rw[hv]
    all_goals repeat' (first|(with_reducible first|refine DS.fltS yU yU yE ?_|refine DS.opsNil ?_|refine DS.seq ?_|refine DS.regionL ?_|(refine DS.cE yE ?_;first|refine CG.p (fun _=>?_) (fun _=>?_)|refine CG.yes ?_|refine CG.no ?_|refine CG.nb (fun _=>?_) (fun _=>?_))|refine DS.blk ?_|refine DS.block ?_|refine DS.exit yU ?_|refine DS.skip ?_)|refine DS.retT [] yE trivial ?_|fail)
    all_goals first|rfl|(exfalso;omega)|(exfalso;simp at h2;done)
   rw[if_neg h2]at hr
   cases typed with
   | false =>
    rw[if_pos rfl]at hr
    rw[hr];clear hr
    obtain⟨v,hv,⟨rfl,rfl⟩|⟨bk,cap,rfl⟩⟩:=hln <;> rw[hv]
    all_goals repeat' (first|(with_reducible first|refine DS.fltS yU yU yE ?_|refine DS.opsNil ?_|refine DS.seq ?_|refine DS.regionL ?_|(refine DS.cE yE ?_;first|refine CG.p (fun _=>?_) (fun _=>?_)|refine CG.yes ?_|refine CG.no ?_)|refine DS.block ?_|refine DS.exit yU ?_|refine DS.skip ?_)|refine DS.retT [] yE trivial ?_|fail)
    all_goals first|rfl|(exfalso;omega)
   | true =>
    rw[if_neg (by decide)]at hr
    have h3:0<l.length:=by omega
    have hs:=sortOf_pc l[0].op
    rw[sortX,if_pos (hall l[0] (List.getElem_mem h3))]at hs
    have hh:l.headD ⟨0,0,0,0,0,false,[]⟩=l[0]:=by
     cases l with
     | nil=>simp at h3
     | cons x r=>rfl
    rw[hh]at hr
    rw[hr];clear hr
    obtain⟨v,hv,⟨rfl,rfl⟩|⟨bk,cap,rfl⟩⟩:=hln <;> rw[hv]
    all_goals repeat' (first|(with_reducible first|refine DS.fltS yU yU yE ?_|refine DS.opsNil ?_|refine DS.seq ?_|refine DS.regionL ?_|(refine DS.cE yE ?_;first|refine CG.p (fun _=>?_) (fun _=>?_)|refine CG.no ?_)|refine DS.blk ?_|refine DS.block ?_|refine DS.exit yU ?_|refine DS.skip ?_)|(refine DS.letF (t:=17) yU yE yU (fun _=>yE) yE yU (by exact⟨by with_unfolding_all rfl,by with_unfolding_all decide⟩) (fun _=>by simp only[go_sem,Nat.reduceEqDiff,↓reduceIte]) ?_;simp only[go_sem])|refine DS.pcS inferInstance (hs) yR yT ?_|refine DS.retT [] yE trivial ?_|fail)
    all_goals first|rfl|(exfalso;omega)
theorem cond_pc (s:GSet) (l:List Node):CondPC s l:=by
 rw[CondPC]
 have hc:=tcheck_pc s
 by_cases h0:gsetS s=0
 ·rw[h0]at hc
  by_cases h1:60<(l.length:Int)
  ·have e:condX s l=(false,5):=by rw[condX,if_neg (by omega),if_pos h1]
   rw[e]
   refine DC.of_run Tryz.func66 rfl Tryz.ntmps66 Tryz.results66 (by simp) (fun _ _=>?_);simp only[argV_cons,argV_nil,go_sem,Nat.zero_add,Nat.reduceAdd]
   repeat' (first|(with_reducible first|refine DS.fltS yU yU yE ?_|refine DS.opsNil ?_|refine DS.seq ?_|refine DS.regionL ?_|(refine DS.cE yE ?_;first|refine CG.yes ?_|refine CG.no ?_)|refine DS.skip ?_)|refine DS.pcS inferInstance (hc) yR yT ?_|(refine DS.boxF (t:=2) yU yE yU ?_;simp only[cells_agg,cells_v,cells_lst,cells_fn,map_nil'',map_cons'',copy_own,copy_lst,copy_v,copy_at,copy_agg,copy_fn,copy_ifc,copy_tup])|refine DS.retT [] yE trivial ?_|fail)
   all_goals first|rfl|(exfalso;omega)
  ·refine cond_main s l (by omega) hc _ (fun h=>?_) (fun h=>?_)
   ·rw[condX,if_neg (by omega),if_neg h1,if_pos h]
   ·rw[condX,if_neg (by omega),if_neg h1,if_neg (by omega)]
    cases askS l with
    | none=>rfl
    | some x=>rfl
 ·have e:condX s l=(false,gsetS s):=by rw[condX,if_pos h0]
  rw[e]
  refine DC.of_run Tryz.func66 rfl Tryz.ntmps66 Tryz.results66 (by simp) (fun _ _=>?_);simp only[argV_cons,argV_nil,go_sem,Nat.zero_add,Nat.reduceAdd]
  repeat' (first|(with_reducible first|refine DS.fltS yU yU yE ?_|refine DS.opsNil ?_|refine DS.seq ?_|refine DS.regionL ?_|(refine DS.cE yE ?_;refine CG.yes ?_))|refine DS.pcS inferInstance (hc) yR yT ?_|(refine DS.boxF (t:=2) yU yE yU ?_;simp only[cells_agg,cells_v,cells_lst,cells_fn,map_nil'',map_cons'',copy_own,copy_lst,copy_v,copy_at,copy_agg,copy_fn,copy_ifc,copy_tup])|refine DS.retT [] yE trivial ?_|fail)
  all_goals first|rfl|(exfalso;omega)
end Go.XL
namespace Go.XL
open Go.Proofs
set_option maxRecDepth 100000
set_option maxHeartbeats 8000000
def headOk (l:List Node) (k:Nat) (p:Bool):Bool:=if h:k<l.length then numS l[k].op == p else true
def bhsI (l:List Node) (rec:Nat→Option (Nat×Bool)):List Bool→Nat→Bool→Option (Nat×Bool)
 | [],k,fine=>some (k,fine)
 | p::ps,k,fine=>match rec k with
  | none=>none
  | some (k',t)=>bhsI l rec ps k' (fine&&headOk l k p&&t)
def bhI (l:List Node):Nat→Nat→Option (Nat×Bool)
 | 0,_=>none
 | n+1,k=>if h:k<l.length then bhsI l (bhI l n) (useS l[k].op).parts (k+1) true else none
theorem bhsI_mono {l:List Node} {rec:Nat→Option (Nat×Bool)} (hr: ∀k k' t,rec k=some (k',t)→k<k'∧k'≤l.length): ∀{ps:List Bool} {k:Nat} {fine:Bool} {k':Nat} {t:Bool},k≤l.length→bhsI l rec ps k fine=some (k',t)→k≤k'∧k'≤l.length
 | [],k,fine,k',t,hk,h=>by rw[bhsI]at h;cases h;exact⟨Nat.le_refl _,hk⟩
 | p::ps,k,fine,k',t,hk,h=>by
  rw[bhsI]at h
  cases hq:rec k with
  | none=>rw[hq]at h;cases h
  | some x =>
   obtain⟨k2,t2⟩:=x
   rw[hq]at h
   obtain⟨a1,a2⟩:=hr k k2 t2 hq
   obtain⟨b1,b2⟩:=bhsI_mono hr a2 h
   exact⟨by omega,b2⟩
theorem bhI_mono {l:List Node}: ∀(n:Nat) (k k':Nat) (t:Bool),bhI l n k=some (k',t)→k<k'∧k'≤l.length
 | 0,k,k',t,h=>by rw[bhI]at h;cases h
 | n+1,k,k',t,h=>by
  rw[bhI]at h
  by_cases hk:k<l.length
  ·rw[dif_pos hk]at h
   obtain⟨a1,a2⟩:=bhsI_mono (bhI_mono n) (by omega) h
   exact⟨by omega,a2⟩
  ·rw[dif_neg hk]at h;cases h
theorem bhsI_ask {l:List Node} {n:Nat} (hb: ∀k,l.length-k<n→ ∀(p:Bool) (asked:List Bool) (typed:Bool),
   match bhI l n k with
   | some (k',t)=>askGo (l.drop k) (p::asked) typed=askGo (l.drop k') asked (typed&&headOk l k p&&t)
   | none=> ∃a ty,askGo (l.drop k) (p::asked) typed=some (a,ty)∧a≠ []) :
  ∀(ps:List Bool) (k:Nat) (fine:Bool) (asked:List Bool) (typed:Bool),l.length-k<n →
   match bhsI l (bhI l n) ps k fine with
   | some (k',t)=> ∃t',t=(fine&&t')∧askGo (l.drop k) (ps++asked) typed=askGo (l.drop k') asked (typed&&t')
   | none=> ∃a ty,askGo (l.drop k) (ps++asked) typed=some (a,ty)∧a≠ []
 | [],k,fine,asked,typed,hk=>by
  rw[bhsI]
  exact⟨true,by simp,by simp⟩
 | p::ps,k,fine,asked,typed,hk=>by
  have h1:=hb k hk p (ps++asked) typed
  rw[bhsI]
  cases hq:bhI l n k with
  | none=>rw[hq]at h1;exact h1
  | some x =>
   obtain⟨k2,t2⟩:=x
   rw[hq]at h1
   dsimp only at h1 ⊢
   obtain⟨a1,a2⟩:=bhI_mono n k k2 t2 hq
   have h2:=bhsI_ask hb ps k2 (fine&&headOk l k p&&t2) asked (typed&&headOk l k p&&t2) (by omega)
   rw[List.cons_append,h1]
   cases hs:bhsI l (bhI l n) ps k2 (fine&&headOk l k p&&t2)with
   | none=>rw[hs]at h2;exact h2
   | some y =>
    obtain⟨k3,t3⟩:=y
    rw[hs]at h2
    dsimp only at h2 ⊢
    obtain⟨t',e1,e2⟩:=h2
    exact⟨headOk l k p&&t2&&t',by rw[e1];simp[Bool.and_assoc],by rw[e2];simp[Bool.and_assoc]⟩
theorem bhI_ask {l:List Node}: ∀(n:Nat) (k:Nat),l.length-k<n→ ∀(p:Bool) (asked:List Bool) (typed:Bool),
   match bhI l n k with
   | some (k',t)=>askGo (l.drop k) (p::asked) typed=askGo (l.drop k') asked (typed&&headOk l k p&&t)
   | none=> ∃a ty,askGo (l.drop k) (p::asked) typed=some (a,ty)∧a≠ []
 | 0,k,h,_,_,_=>by omega
 | n+1,k,h,p,asked,typed=>by
  rw[bhI]
  by_cases hk:k<l.length
  ·rw[dif_pos hk]
   have hs:=bhsI_ask (l:=l) (n:=n) (fun k' h'=>bhI_ask n k' h') (useS l[k].op).parts (k+1) true asked (typed&&p == numS l[k].op) (by omega)
   have hh:headOk l k p=(p == numS l[k].op):=by rw[headOk,dif_pos hk,Bool.beq_comm]
   rw[askGo_step hk,hh]
   cases hq:bhsI l (bhI l n) (useS l[k].op).parts (k+1) true with
   | none=>rw[hq]at hs;exact hs
   | some x =>
    obtain⟨k2,t2⟩:=x
    rw[hq]at hs
    dsimp only at hs ⊢
    obtain⟨t',e1,e2⟩:=hs
    rw[e2,e1,Bool.true_and]
  ·rw[dif_neg hk,List.drop_eq_nil_of_le (by omega)]
   exact⟨p::asked,typed,rfl,by simp⟩
theorem cond_bh {s:GSet} {l:List Node} (h0:gsetS s=0) (h1:l.length≤60) (h2:nodesGo s l=0) (h3:0<l.length) :
  condX s l=match bhI l (l.length+1) 0 with
   | none=>(false,6)
   | some (k,t)=>if k<l.length then(false,5)else if t=false then(false,15)else(numS l[0].op,0):=by
 have hh:l.headD ⟨0,0,0,0,0,false,[]⟩=l[0]:=by
  cases l with
  | nil=>simp at h3
  | cons x r=>rfl
 have hs:=bhsI_ask (l:=l) (n:=l.length) (fun k' h'=>bhI_ask l.length k' h') (useS l[0].op).parts (0+1) true [] true (by omega)
 rw[condX,if_neg (by omega),if_neg (by omega),if_neg (by omega),askS_first h3,bhI,dif_pos h3]
 cases hq:bhsI l (bhI l l.length) (useS l[0].op).parts (0+1) true with
 | none =>
  rw[hq]at hs
  dsimp only at hs
  obtain⟨a,ty,e1,e2⟩:=hs
  rw[e1]
  dsimp only
  have:0<a.length:=List.length_pos_iff.2 e2
  rw[if_neg (by omega),if_pos (by omega)]
 | some x =>
  obtain⟨k2,t2⟩:=x
  rw[hq]at hs
  dsimp only at hs ⊢
  obtain⟨t',e1,e2⟩:=hs
  rw[e2,e1,Bool.true_and]
  by_cases hk:k2<l.length
  ·rw[askGo_none hk,if_pos hk]
  ·rw[List.drop_eq_nil_of_le (by omega),if_neg hk]
   dsimp only[askGo]
   rw[if_neg (by omega),if_neg (by simp),hh]
section
variable {P:Program} {n:Nat} {r:Rr} {Q:VEnv→Sto→Prop} {k:List Fr} {E:VEnv} {S:Sto} {dst:Option Tmp} {ty:TypeId} {pos:String} {af:Array Edge} {ops l:List Oper} {t:Nat}
theorem OpS.field1 {v0:VH} {T f m:Nat} {fs:Array Field} {fd:Field} {c:List V} {u:V} {x:Operand} (hT:P.underlying T=some (.struct fs)) (hf:fs[f]?=some fd) (he:tsz P fd.type=some (false,m)) (hx:evV E x=some (.agg c)) (hu:c[fd.offset]?=some u) :
  OpS v0 P n ⟨dst, .field T x f,ty,pos,af,none⟩ E S (fun v E' S'=>v=u.copy∧E'=E∧S'=S):=by
 intro K D hv hold env a w hfl ha s0
 obtain⟨y,e1,e2⟩:=s0.rl _ _ hx
 simp only[V.Rl]at e2
 obtain⟨ys,rfl,e2⟩:=e2
 obtain⟨ti,q1,q2,q3⟩:=tsz_some he
 obtain⟨z,hz,hr⟩:=e2.get hu
 have hz':ys.toArray[fd.offset]?=some z:=by simpa using hz
 have hrun:(execOp a.eval ⟨dst, .field T x f,ty,pos,af,none⟩).run P w = .ok (.value z) w:=by
  simp[execOp,Instr.field,run_underlying hT,hf,ha.ev e1,part,asAgg,q3,sizeOf_run q1,q2,hz]
 exact yields_value hrun ⟨Same.refl w,_,E,S,hv,hold,PreV.refl hv,s0.put dst (v:=u.copy) (V.copy_Rl hr) fun _ _=>V.free_Own (copy_free _) z,rfl,rfl,rfl⟩
theorem DS.field1 {T f m off:Nat} {fs:Array Field} {fd:Field} {c:List V} {u:V} {x:Operand} (hd:decide (t<n)=true) (hT:P.underlying T=some (.struct fs)) (hf:fs[f]?=some fd) (ho:fd.offset=off) (he:tsz P fd.type=some (false,m)) (hx:evV E x=some (.agg c)) (hu:c[off]?=some u)
  (q:DS P n r Q (.ops ops l::k) ((t,u.copy)::E) S):DS P n r Q (.ops ops (⟨some t, .field T x f,ty,pos,af,none⟩::l)::k) E S:=by
 subst ho
 refine DS.step rfl rfl hd (OpS.field1 hT hf he hx hu) fun v E' S' ⟨h1,h2,h3⟩=>?_
 subst h1;subst h2;subst h3;exact q
end
def bhV (x:Option (Nat×Bool)):V:=match x with
 | none => .tup [I (-1),Bo true]
 | some (k,t) => .tup [I k,Bo t]
theorem r4number_pc (x:Node):PC Tryz.prog 147 [x.val] (Bo (numS x.op)):=by
 refine DC.of_run Tryz.func147 rfl Tryz.ntmps147 Tryz.results147 (by simp) (fun _ _=>?_);simp only[argV_cons,argV_nil,go_sem,Nat.zero_add,Nat.reduceAdd]
 repeat' (first|(with_reducible first|refine DS.fltS yU yU yE ?_|refine DS.opsNil ?_|refine DS.seq ?_|refine DS.regionL ?_)|(refine DS.boxF (t:=1) yU yE yU ?_;simp only[cells_agg,cells_v,cells_lst,cells_fn,map_nil'',map_cons'',copy_own,copy_lst,copy_v,copy_at,copy_agg,copy_fn,copy_ifc,copy_tup])|refine DS.retT [] yE trivial ?_|fail)
 rfl
theorem behind_pc (l:List Node) (hl:l.length≤60): ∀(n k:Nat),l.length-k<n→k≤l.length→PC Tryz.prog 146 [nodesV l,I k] (bhV (bhI l n k))
 | 0,k,h,_=>by omega
 | n+1,k,h,hkl=>by
  by_cases hk:k<l.length
  ·have hk':(k:Int)<(l.length:Int):=by omega
   have hk2: ¬(l.length:Int)≤(k:Int):=by omega
   have hu:=used_pc l[k].op
   have hpl:=parts_len l[k].op
   have hsz:(partB (useS l[k].op).parts).size=(useS l[k].op).parts.length:=partB_size _
   have hrec:=fun k' h1 h2=>behind_pc l hl n k' h1 h2
   have hmono:=bhI_mono (l:=l) n
   rw[bhI,dif_pos hk]
   have HR:=Box.mk (And.intro hrec hmono)
   clear hrec hmono
   refine DC.of_run Tryz.func146 rfl Tryz.ntmps146 Tryz.results146 (by simp) (fun _ _=>?_);simp only[argV_cons,argV_nil,go_sem,Nat.zero_add,Nat.reduceAdd]
   refine DS.bnd (t:=0) yG (.inl rfl) (fun hb0=>?_);simp only[List.length_map]at hb0
   repeat' (first|(with_reducible first|refine DS.fltS yU yU yE ?_|refine DS.opsNil ?_|refine DS.seq ?_|refine DS.regionL ?_|(refine DS.cE yE ?_;refine CG.no ?_)|refine DS.skip ?_)|refine DS.pcS inferInstance (hu) yR yT ?_|fail)
   refine DS.field1 (off:=7) (m:=1) (by decide) Tryz.underlying223 yR yR (show tsz Tryz.prog 9=some (false,1) by kernel_rfl) yH (u:=St8 (partB (useS l[k].op).parts)) yR ?_
   simp only[copy_v]
   repeat' (first|(with_reducible first|refine DS.fltS yU yU yE ?_|refine DS.opsNil ?_|refine DS.seq ?_|refine DS.regionL ?_|refine DS.block ?_)|fail)
   refine DS.loopK [0,6] yN (fun(z:Nat×Nat×Bool)=> [(7,Bo z.2.2),(8,I z.2.1),(9,I z.1)]) (fun(z:Nat×Nat×Bool)=>z.1≤(useS l[k].op).parts.length∧k<z.2.1∧z.2.1≤l.length∧bhsI l (bhI l n) (useS l[k].op).parts (k+1) true=bhsI l (bhI l n) ((useS l[k].op).parts.drop z.1) z.2.1 z.2.2) (fun(z:Nat×Nat×Bool)=>(useS l[k].op).parts.length-z.1) (0,k+1,true) yS ⟨Nat.zero_le _,Nat.lt_succ_self _,hk,rfl⟩ (fun z B hI hB=>?_);try dsimp only at hI hB;simp only[app_cons',app_nil']
   obtain⟨i,nx,fine⟩:=z
   dsimp only at hI hB
   obtain⟨i1,i2,i3,i4⟩:=hI
   have HB:=Box.mk hB
   clear hB
   by_cases hi:(i:Int)<((useS l[k].op).parts.length:Int)
   ·have hi':i<(useS l[k].op).parts.length:=by omega
    rw[List.drop_eq_getElem_cons hi',bhsI]at i4
    have HI:=Box.mk i4
    clear i4
    obtain⟨c,hc1,hc2⟩:=partB_get (l:=(useS l[k].op).parts) (k:=i) hi'
    have hdec:decide ((c.toNat:Int)=110)=(useS l[k].op).parts[i]:=by
     rw[hc2]
     cases(useS l[k].op).parts[i] <;> rfl
    have hrec:=HR.out.1 nx (by omega) i3
    have hcb:=c.toNat_lt
    generalize (useS l[k].op).parts[i]=pb at *
    clear hc2
    cases hq:bhI l n nx with
    | none =>
     rw[hq]at hrec
     have hrec':PC Tryz.prog 146 [nodesV l,I nx] (.tup [I (-1),Bo true]):=hrec
     have e:bhsI l (bhI l n) (useS l[k].op).parts (k+1) true=none:=by rw[HI.out,hq]
     rw[e]
     clear e hrec HR HI HB hq
     by_cases hnl:(nx:Int)<(l.length:Int)
     ·have hnl':nx<l.length:=by omega
      have hnb:=r4number_pc l[nx]
      generalize numS l[nx].op=nb at *
      repeat' (first|(with_reducible first|refine DS.fltS yU yU yE ?_|refine DS.opsNil ?_|refine DS.seq ?_|refine DS.regionL ?_|(refine DS.cE yE ?_;first|refine CG.yes ?_|refine CG.b (fun _=>?_) (fun _=>?_))|(refine DS.gE yU yE ?_;refine GG.run ?_)|refine DS.block ?_|refine DS.skip ?_)|refine DS.pcS inferInstance (hrec') yR yT ?_|refine DS.drawL (id:=8) [0,1,2,3,4,5,6,7,8,9,10,11,12,13] 14 (by kernel_rfl) mixed (by simp only[pickL_cons,pickL_nil,get_zero',get_cons',pickO_some];exact rfl) (by simp only[drop_zero',drop_cons',List.drop_nil];exact rfl) ?_|(with_reducible first|refine DD.fltS yU yU yU yE ?_|(refine DD.gE yU yE ?_;refine DGG.run ?_)|refine DD.nil0 ?_)|refine DD.pcV0 inferInstance (hnb) yU yT ?_|refine DS.retT [] yE trivial ?_|fail)
      all_goals first|rfl|(exfalso;omega)
     ·repeat' (first|(with_reducible first|refine DS.fltS yU yU yE ?_|refine DS.opsNil ?_|refine DS.seq ?_|refine DS.regionL ?_|(refine DS.cE yE ?_;first|refine CG.yes ?_|refine CG.no ?_)|(refine DS.gE yU yE ?_;refine GG.sF ?_)|refine DS.block ?_|refine DS.skip ?_)|refine DS.pcS inferInstance (hrec') yR yT ?_|refine DS.drawL (id:=8) [0,1,2,3,4,5,6,7,8,9,10,11,12,13] 14 (by kernel_rfl) mixed (by simp only[pickL_cons,pickL_nil,get_zero',get_cons',pickO_some];exact rfl) (by simp only[drop_zero',drop_cons',List.drop_nil];exact rfl) ?_|(with_reducible first|refine DD.fltS yU yU yU yE ?_|(refine DD.gE yU yE ?_;refine DGG.sF ?_)|refine DD.nil0 ?_)|refine DS.retT [] yE trivial ?_|fail)
      all_goals first|rfl|(exfalso;omega)
    | some x =>
     obtain⟨k2,t⟩:=x
     rw[hq]at hrec
     have hrec':PC Tryz.prog 146 [nodesV l,I nx] (.tup [I k2,Bo t]):=hrec
     obtain⟨m1,m2⟩:=HR.out.2 nx k2 t hq
     have hi5:bhsI l (bhI l n) (useS l[k].op).parts (k+1) true=bhsI l (bhI l n) ((useS l[k].op).parts.drop (i+1)) k2 (fine&&headOk l nx pb&&t):=by rw[HI.out,hq]
     clear hrec HR HI hq
     by_cases hnl:(nx:Int)<(l.length:Int)
     ·have hnl':nx<l.length:=by omega
      have hnb:=r4number_pc l[nx]
      rw[headOk,dif_pos hnl']at hi5
      generalize numS l[nx].op=nb at *
      by_cases hm:nb=pb
      ·subst hm
       have hne:(nb !=nb)=false:=by simp
       rw[show(nb == nb)=true by simp,Bool.and_true]at hi5
       cases fine
       ·rw[Bool.false_and]at hi5
        have H5:=Box.mk hi5
        clear hi5
        repeat' (first|(with_reducible first|refine DS.fltS yU yU yE ?_|refine DS.opsNil ?_|refine DS.seq ?_|refine DS.regionL ?_|(refine DS.cE yE ?_;first|refine CG.p (fun _=>?_) (fun _=>?_)|refine CG.yes ?_|refine CG.no ?_)|(refine DS.gE yU yE ?_;first|refine GG.run ?_|refine GG.sF ?_)|refine DS.blk ?_|refine DS.block ?_|refine DS.skip ?_)|refine DS.pcS inferInstance (hrec') yR yT ?_|refine DS.drawL (id:=8) [0,1,2,3,4,5,6,7,8,9,10,11,12,13] 14 (by kernel_rfl) mixed (by simp only[pickL_cons,pickL_nil,get_zero',get_cons',pickO_some];exact rfl) (by simp only[drop_zero',drop_cons',List.drop_nil];exact rfl) ?_|(with_reducible first|refine DD.fltS yU yU yU yE ?_|(refine DD.gE yU yE ?_;refine DGG.run ?_)|refine DD.nil0 ?_)|refine DD.pcV0 inferInstance (hnb) yU yT ?_|fail)
        all_goals first
         | (exfalso;omega)
         | exact DS.back (HB.out (i+1,k2,false) _ _ (by dsimp only;omega) ⟨by dsimp only;omega,by dsimp only;omega,by dsimp only;omega,H5.out⟩ yS yS (fun b o e=>by cases e))
         | trace_state
       ·rw[Bool.true_and]at hi5
        have H5:=Box.mk hi5
        clear hi5
        repeat' (first|(with_reducible first|refine DS.fltS yU yU yE ?_|refine DS.opsNil ?_|refine DS.seq ?_|refine DS.regionL ?_|(refine DS.cE yE ?_;first|refine CG.p (fun _=>?_) (fun _=>?_)|refine CG.yes ?_|refine CG.no ?_)|(refine DS.gE yU yE ?_;refine GG.run ?_)|refine DS.blk ?_|refine DS.block ?_|refine DS.skip ?_)|refine DS.pcS inferInstance (hrec') yR yT ?_|refine DS.drawL (id:=8) [0,1,2,3,4,5,6,7,8,9,10,11,12,13] 14 (by kernel_rfl) mixed (by simp only[pickL_cons,pickL_nil,get_zero',get_cons',pickO_some];exact rfl) (by simp only[drop_zero',drop_cons',List.drop_nil];exact rfl) ?_|(with_reducible first|refine DD.fltS yU yU yU yE ?_|(refine DD.gE yU yE ?_;refine DGG.run ?_)|refine DD.nil0 ?_)|refine DD.pcV0 inferInstance (hnb) yU yT ?_|fail)
        all_goals first
         | (exfalso;omega)
         | exact DS.back (HB.out (i+1,k2,t) _ _ (by dsimp only;omega) ⟨by dsimp only;omega,by dsimp only;omega,by dsimp only;omega,H5.out⟩ yS yS (fun b o e=>by cases e))
         | trace_state
      ·have hne:(nb !=pb)=true:=by simpa using hm
       have hbe:(nb == pb)=false:=by simpa using hm
       rw[hbe,Bool.and_false,Bool.false_and]at hi5
       have H5:=Box.mk hi5
       clear hi5 hbe
       repeat' (first|(with_reducible first|refine DS.fltS yU yU yE ?_|refine DS.opsNil ?_|refine DS.seq ?_|refine DS.regionL ?_|(refine DS.cE yE ?_;first|refine CG.p (fun _=>?_) (fun _=>?_)|refine CG.yes ?_)|(refine DS.gE yU yE ?_;first|refine GG.run ?_|refine GG.sF ?_)|refine DS.blk ?_|refine DS.block ?_|refine DS.skip ?_)|refine DS.pcS inferInstance (hrec') yR yT ?_|refine DS.drawL (id:=8) [0,1,2,3,4,5,6,7,8,9,10,11,12,13] 14 (by kernel_rfl) mixed (by simp only[pickL_cons,pickL_nil,get_zero',get_cons',pickO_some];exact rfl) (by simp only[drop_zero',drop_cons',List.drop_nil];exact rfl) ?_|(with_reducible first|refine DD.fltS yU yU yU yE ?_|(refine DD.gE yU yE ?_;refine DGG.run ?_)|refine DD.nil0 ?_)|refine DD.pcV0 inferInstance (hnb) yU yT ?_|fail)
       all_goals first
        | (exfalso;omega)
        | exact DS.back (HB.out (i+1,k2,false) _ _ (by dsimp only;omega) ⟨by dsimp only;omega,by dsimp only;omega,by dsimp only;omega,H5.out⟩ yS yS (fun b o e=>by cases e))
        | trace_state
     ·rw[headOk,dif_neg (by omega),Bool.and_true]at hi5
      cases fine
      ·rw[Bool.false_and]at hi5
       have H5:=Box.mk hi5
       clear hi5
       repeat' (first|(with_reducible first|refine DS.fltS yU yU yE ?_|refine DS.opsNil ?_|refine DS.seq ?_|refine DS.regionL ?_|(refine DS.cE yE ?_;first|refine CG.yes ?_|refine CG.no ?_)|(refine DS.gE yU yE ?_;refine GG.sF ?_)|refine DS.block ?_|refine DS.skip ?_)|refine DS.pcS inferInstance (hrec') yR yT ?_|refine DS.drawL (id:=8) [0,1,2,3,4,5,6,7,8,9,10,11,12,13] 14 (by kernel_rfl) mixed (by simp only[pickL_cons,pickL_nil,get_zero',get_cons',pickO_some];exact rfl) (by simp only[drop_zero',drop_cons',List.drop_nil];exact rfl) ?_|(with_reducible first|refine DD.fltS yU yU yU yE ?_|(refine DD.gE yU yE ?_;refine DGG.sF ?_)|refine DD.nil0 ?_)|fail)
       all_goals first
        | (exfalso;omega)
        | exact DS.back (HB.out (i+1,k2,false) _ _ (by dsimp only;omega) ⟨by dsimp only;omega,by dsimp only;omega,by dsimp only;omega,H5.out⟩ yS yS (fun b o e=>by cases e))
        | trace_state
      ·rw[Bool.true_and]at hi5
       have H5:=Box.mk hi5
       clear hi5
       repeat' (first|(with_reducible first|refine DS.fltS yU yU yE ?_|refine DS.opsNil ?_|refine DS.seq ?_|refine DS.regionL ?_|(refine DS.cE yE ?_;first|refine CG.yes ?_|refine CG.no ?_)|(refine DS.gE yU yE ?_;refine GG.sF ?_)|refine DS.block ?_|refine DS.skip ?_)|refine DS.pcS inferInstance (hrec') yR yT ?_|refine DS.drawL (id:=8) [0,1,2,3,4,5,6,7,8,9,10,11,12,13] 14 (by kernel_rfl) mixed (by simp only[pickL_cons,pickL_nil,get_zero',get_cons',pickO_some];exact rfl) (by simp only[drop_zero',drop_cons',List.drop_nil];exact rfl) ?_|(with_reducible first|refine DD.fltS yU yU yU yE ?_|(refine DD.gE yU yE ?_;refine DGG.sF ?_)|refine DD.nil0 ?_)|fail)
       all_goals first
        | (exfalso;omega)
        | exact DS.back (HB.out (i+1,k2,t) _ _ (by dsimp only;omega) ⟨by dsimp only;omega,by dsimp only;omega,by dsimp only;omega,H5.out⟩ yS yS (fun b o e=>by cases e))
        | trace_state
   ·rw[i4,drop_end hi,bhsI]
    clear i4 HB HR
    repeat' (first|(with_reducible first|refine DS.fltS yU yU yE ?_|refine DS.opsNil ?_|refine DS.seq ?_|refine DS.regionL ?_|(refine DS.cE yE ?_;refine CG.no ?_)|refine DS.exit yU ?_)|refine DS.retT [] yE trivial ?_|fail)
    all_goals first|rfl|(exfalso;omega)
  ·rw[bhI,dif_neg hk]
   refine DC.of_run Tryz.func146 rfl Tryz.ntmps146 Tryz.results146 (by simp) (fun _ _=>?_);simp only[argV_cons,argV_nil,go_sem,Nat.zero_add,Nat.reduceAdd]
   repeat' (first|(with_reducible first|refine DS.fltS yU yU yE ?_|refine DS.opsNil ?_|refine DS.seq ?_|refine DS.regionL ?_|(refine DS.cE yE ?_;refine CG.p (fun _=>?_) (fun _=>?_))|refine DS.skip ?_)|refine DS.retT [] yE trivial ?_|fail)
   all_goals first|rfl|(exfalso;omega)
theorem r4cond_pc (s:GSet) (l:List Node):PC Tryz.prog 115 [s.val,nodesV l] (.tup [Bo (condX s l).1,I (condX s l).2]):=by
 have hc:=r1check_pc s
 by_cases h0:gsetS s=0
 ·rw[h0]at hc
  by_cases h1:60<(l.length:Int)
  ·have e:condX s l=(false,5):=by rw[condX,if_neg (by omega),if_pos h1]
   rw[e]
   refine DC.of_run Tryz.func115 rfl Tryz.ntmps115 Tryz.results115 (by simp) (fun _ _=>?_);simp only[argV_cons,argV_nil,go_sem,Nat.zero_add,Nat.reduceAdd]
   repeat' (first|(with_reducible first|refine DS.fltS yU yU yE ?_|refine DS.opsNil ?_|refine DS.seq ?_|refine DS.regionL ?_|(refine DS.cE yE ?_;first|refine CG.yes ?_|refine CG.no ?_)|refine DS.skip ?_)|refine DS.pcS inferInstance (hc) yR yT ?_|(refine DS.boxF (t:=2) yU yE yU ?_;simp only[cells_agg,cells_v,cells_lst,cells_fn,map_nil'',map_cons'',copy_own,copy_lst,copy_v,copy_at,copy_agg,copy_fn,copy_ifc,copy_tup])|refine DS.retT [] yE trivial ?_|fail)
   all_goals first|rfl|(exfalso;omega)
  ·have hbh:=behind_pc l (by omega) (l.length+1) 0 (by omega) (by omega)
   have hcb:=cond_bh (s:=s) (l:=l) h0 (by omega)
   have hbad:nodesGo s l≠0→condX s l=(false,nodesGo s l):=fun h=>by rw[condX,if_neg (by omega),if_neg h1,if_pos h]
   have hnil:nodesGo s l=0→l.length=0→condX s l=(false,0):=fun h h2=>by
    have:l= []:=List.eq_nil_of_length_eq_zero h2
    subst this
    rw[condX,if_neg (by omega),if_neg h1,if_neg (by omega)]
    rfl
   have HC:=Box.mk (And.intro hcb (And.intro hbad hnil))
   clear hcb hbad hnil
   generalize condX s l=R at *
   refine DC.of_run Tryz.func115 rfl Tryz.ntmps115 Tryz.results115 (by simp) (fun _ _=>?_);simp only[argV_cons,argV_nil,go_sem,Nat.zero_add,Nat.reduceAdd]
   repeat' (first|(with_reducible first|refine DS.fltS yU yU yE ?_|refine DS.opsNil ?_|refine DS.seq ?_|refine DS.regionL ?_|(refine DS.cE yE ?_;refine CG.no ?_)|refine DS.block ?_|refine DS.skip ?_)|refine DS.pcS inferInstance (hc) yR yT ?_|(refine DS.boxF (t:=2) yU yE yU ?_;simp only[cells_agg,cells_v,cells_lst,cells_fn,map_nil'',map_cons'',copy_own,copy_lst,copy_v,copy_at,copy_agg,copy_fn,copy_ifc,copy_tup])|fail)
   all_goals try (exfalso;omega)
   refine DS.loopK [1,2] yN (fun(i:Nat)=> [(7,I i)]) (fun(i:Nat)=>i≤l.length∧nodesGo s l=nodesGo s (l.drop i)) (fun(i:Nat)=>l.length-i) 0 yS ⟨Nat.zero_le _,rfl⟩ (fun i B hI hB=>?_);try dsimp only at hI hB;simp only[app_cons',app_nil']
   have HB:=Box.mk hB
   clear hB
   obtain⟨hI,hI2⟩:=hI
   by_cases hi:(i:Int)<(l.length:Int)
   ·have hi':i<l.length:=by omega
    rw[nodesGo_at hi']at hI2
    have hp:=r4node_pc s l[i]
    by_cases hz:nodeS s l[i]=0
    ·rw[hz]at hp
     rw[if_neg (by omega)]at hI2
     have H:=Box.mk hI2
     clear hI2 hbh hz
     repeat' (first|(with_reducible first|refine DS.fltS yU yU yE ?_|refine DS.opsNil ?_|refine DS.seq ?_|refine DS.regionL ?_|(refine DS.cE yE ?_;first|refine CG.yes ?_|refine CG.no ?_)|refine DS.blk ?_|refine DS.block ?_|refine DS.skip ?_)|refine DS.pcS inferInstance (hp) yR yT ?_|refine DS.drawL (id:=9) [0,1,2,3,4] 5 (by kernel_rfl) mixed (by simp only[pickL_cons,pickL_nil,get_zero',get_cons',pickO_some];exact rfl) (by simp only[drop_zero',drop_cons',List.drop_nil];exact rfl) ?_|(with_reducible first|refine DD.fltS yU yU yU yE ?_|refine DD.nil0 ?_)|fail)
     all_goals first
      | exact DS.back (HB.out (i+1) _ _ (by omega) ⟨by omega,H.out⟩ yS yS (fun b o e=>by cases e))
      | (exfalso;omega)
    ·rw[if_pos hz]at hI2
     rw[HC.out.2.1 (by rw[hI2];exact hz),hI2]
     clear hI2 hbh HB HC
     repeat' (first|(with_reducible first|refine DS.fltS yU yU yE ?_|refine DS.opsNil ?_|refine DS.seq ?_|refine DS.regionL ?_|(refine DS.cE yE ?_;refine CG.yes ?_)|refine DS.block ?_|refine DS.skip ?_)|refine DS.pcS inferInstance (hp) yR yT ?_|refine DS.drawL (id:=9) [0,1,2,3,4] 5 (by kernel_rfl) mixed (by simp only[pickL_cons,pickL_nil,get_zero',get_cons',pickO_some];exact rfl) (by simp only[drop_zero',drop_cons',List.drop_nil];exact rfl) ?_|(with_reducible first|refine DD.fltS yU yU yU yE ?_|refine DD.nil0 ?_)|refine DS.retT [] yE trivial ?_|fail)
     all_goals first|rfl|(exfalso;omega)
   ·have hz:nodesGo s l=0:=by rw[hI2,drop_end hi];rfl
    clear hI2 HB
    by_cases hl0:l.length=0
    ·rw[HC.out.2.2 hz hl0]
     have hl0':(l.length:Int)=0:=by omega
     clear HC hbh hz hl0
     repeat' (first|(with_reducible first|refine DS.fltS yU yU yE ?_|refine DS.opsNil ?_|refine DS.seq ?_|refine DS.regionL ?_|(refine DS.cE yE ?_;first|refine CG.p (fun _=>?_) (fun _=>?_)|refine CG.yes ?_)|refine DS.block ?_|refine DS.exit yU ?_|refine DS.skip ?_)|refine DS.drawL (id:=9) [0,1,2,3,4] 5 (by kernel_rfl) mixed (by simp only[pickL_cons,pickL_nil,get_zero',get_cons',pickO_some];exact rfl) (by simp only[drop_zero',drop_cons',List.drop_nil];exact rfl) ?_|(with_reducible first|refine DD.fltS yU yU yU yE ?_|refine DD.nil0 ?_)|refine DS.retT [] yE trivial ?_|fail)
     all_goals first|rfl|(exfalso;omega)
    ·have hl1:0<l.length:=by omega
     have hR:=HC.out.1 hz hl1
     have hnb:=r4number_pc l[0]
     clear HC hz
     cases hq:bhI l (l.length+1) 0 with
     | none =>
      rw[hq]at hbh hR
      have hbh':PC Tryz.prog 146 [nodesV l,I 0] (.tup [I (-1),Bo true]):=hbh
      rw[hR]
      clear hR hbh hnb hq
      repeat' (first|(with_reducible first|refine DS.fltS yU yU yE ?_|refine DS.opsNil ?_|refine DS.seq ?_|refine DS.regionL ?_|(refine DS.cE yE ?_;first|refine CG.p (fun _=>?_) (fun _=>?_)|refine CG.yes ?_|refine CG.no ?_)|refine DS.block ?_|refine DS.exit yU ?_|refine DS.skip ?_)|refine DS.pcS inferInstance (hbh') yR yT ?_|refine DS.retT [] yE trivial ?_|fail)
      all_goals first|rfl|(exfalso;omega)
     | some x =>
      obtain⟨k2,t⟩:=x
      rw[hq]at hbh hR
      have hbh':PC Tryz.prog 146 [nodesV l,I 0] (.tup [I k2,Bo t]):=hbh
      dsimp only at hR
      obtain⟨-,m2⟩:=bhI_mono _ _ _ _ hq
      clear hbh hq
      by_cases hk:k2<l.length
      ·rw[if_pos hk]at hR
       rw[hR]
       clear hR hnb
       repeat' (first|(with_reducible first|refine DS.fltS yU yU yE ?_|refine DS.opsNil ?_|refine DS.seq ?_|refine DS.regionL ?_|(refine DS.cE yE ?_;first|refine CG.p (fun _=>?_) (fun _=>?_)|refine CG.no ?_|refine CG.nb (fun _=>?_) (fun _=>?_))|refine DS.blk ?_|refine DS.block ?_|refine DS.exit yU ?_|refine DS.skip ?_)|refine DS.pcS inferInstance (hbh') yR yT ?_|refine DS.retT [] yE trivial ?_|fail)
       all_goals first|rfl|(exfalso;omega)
      ·rw[if_neg hk]at hR
       cases t with
       | false =>
        rw[if_pos rfl]at hR
        rw[hR]
        clear hR hnb
        repeat' (first|(with_reducible first|refine DS.fltS yU yU yE ?_|refine DS.opsNil ?_|refine DS.seq ?_|refine DS.regionL ?_|(refine DS.cE yE ?_;first|refine CG.p (fun _=>?_) (fun _=>?_)|refine CG.yes ?_|refine CG.no ?_)|refine DS.block ?_|refine DS.exit yU ?_|refine DS.skip ?_)|refine DS.pcS inferInstance (hbh') yR yT ?_|refine DS.retT [] yE trivial ?_|fail)
        all_goals first|rfl|(exfalso;omega)
       | true =>
        rw[if_neg (by decide)]at hR
        rw[hR]
        clear hR
        repeat' (first|(with_reducible first|refine DS.fltS yU yU yE ?_|refine DS.opsNil ?_|refine DS.seq ?_|refine DS.regionL ?_|(refine DS.cE yE ?_;first|refine CG.p (fun _=>?_) (fun _=>?_)|refine CG.no ?_)|refine DS.blk ?_|refine DS.block ?_|refine DS.exit yU ?_|refine DS.skip ?_)|refine DS.pcS inferInstance (hbh') yR yT ?_|refine DS.pcS inferInstance (hnb) yR yT ?_|refine DS.retT [] yE trivial ?_|fail)
        all_goals first|rfl|(exfalso;omega)
 ·have e:condX s l=(false,gsetS s):=by rw[condX,if_pos h0]
  rw[e]
  refine DC.of_run Tryz.func115 rfl Tryz.ntmps115 Tryz.results115 (by simp) (fun _ _=>?_);simp only[argV_cons,argV_nil,go_sem,Nat.zero_add,Nat.reduceAdd]
  repeat' (first|(with_reducible first|refine DS.fltS yU yU yE ?_|refine DS.opsNil ?_|refine DS.seq ?_|refine DS.regionL ?_|(refine DS.cE yE ?_;refine CG.yes ?_))|refine DS.pcS inferInstance (hc) yR yT ?_|(refine DS.boxF (t:=2) yU yE yU ?_;simp only[cells_agg,cells_v,cells_lst,cells_fn,map_nil'',map_cons'',copy_own,copy_lst,copy_v,copy_at,copy_agg,copy_fn,copy_ifc,copy_tup])|refine DS.retT [] yE trivial ?_|fail)
  all_goals first|rfl|(exfalso;omega)
end Go.XL
namespace Go.XL
open Go.Proofs
set_option maxRecDepth 100000
set_option maxHeartbeats 8000000
def nameGo :List UInt8→Bool
 | []=>true
 | c::l=>nameC c&&nameGo l
theorem nameGo_all : ∀l:List UInt8,nameGo l=l.all nameC
 | []=>rfl
 | c::l=>by rw[nameGo,List.all_cons,nameGo_all l]
theorem nameC_eq (c:UInt8):nameC c=decide ((97≤(c.toNat:Int)∧(c.toNat:Int)≤122)∨(48≤(c.toNat:Int)∧(c.toNat:Int)≤57)∨(c.toNat:Int)=45):=by
 rw[Bool.eq_iff_iff]
 simp only[nameC,Bool.or_eq_true,Bool.and_eq_true,decide_eq_true_eq]
 omega
theorem r4named_pc (s:ByteArray) (hs:s.size≤9223372036854775807):PC Tryz.prog 113 [St8 s] (Bo (namedB s)):=by
 have hn:namedB s=(nameGo s.data.toList&&decide (1≤(s.size:Int)∧(s.size:Int)≤24)):=by rw[namedB,nameGo_all,Bool.and_comm]
 rw[hn]
 clear hn
 have hlen:s.data.toList.length=s.size:=by rw[Array.length_toList];rfl
 refine DC.of_run Tryz.func113 rfl Tryz.ntmps113 Tryz.results113 (by simp) (fun _ _=>?_);simp only[argV_cons,argV_nil,go_sem,Nat.zero_add,Nat.reduceAdd]
 repeat' (first|(with_reducible first|refine DS.fltS yU yU yE ?_|refine DS.opsNil ?_|refine DS.seq ?_|refine DS.regionL ?_|refine DS.block ?_)|fail)
 refine DS.loopK [0] yN (fun(i:Nat)=> [(3,I i)]) (fun(i:Nat)=>i≤s.size∧nameGo s.data.toList=nameGo (s.data.toList.drop i)) (fun(i:Nat)=>s.size-i) 0 yS ⟨Nat.zero_le _,rfl⟩ (fun i B hI hB=>?_);try dsimp only at hI hB;simp only[app_cons',app_nil']
 have HB:=Box.mk hB
 clear hB
 obtain⟨hI,hI2⟩:=hI
 by_cases hi:(i:Int)<(s.size:Int)
 ·have hi':i<s.data.toList.length:=by omega
  rw[List.drop_eq_getElem_cons hi',nameGo,nameC_eq]at hI2
  have hc:s[i]?=some s.data.toList[i]:=by
   rw[getElem?_pos s i (by omega)]
   simp[ByteArray.getElem_eq_getElem_data]
  generalize s.data.toList[i]=c at *
  have hcb:=c.toNat_lt
  have HI:=Box.mk hI2
  clear hI2 hi' hlen
  repeat' (first|(with_reducible first|refine DS.fltS yU yU yE ?_|refine DS.opsNil ?_|refine DS.seq ?_|refine DS.regionL ?_|(refine DS.cE yE ?_;first|refine CG.np (fun _=>?_) (fun _=>?_)|refine CG.yes ?_|refine CG.no ?_)|(refine DS.gE yU yE ?_;first|refine GG.sU ?_|refine GG.npT (fun _=>?_) (fun _=>?_)|refine GG.pT (fun _=>?_) (fun _=>?_)|refine GG.run ?_|refine GG.sF ?_)|refine DS.blk ?_|refine DS.block ?_|refine DS.skip ?_)|refine DS.retT [] yE trivial ?_|fail)
  all_goals first
   | (exfalso;omega)
   | (rw[HI.out,decide_eq_false (by omega),Bool.false_and,Bool.false_and];rfl)
   | exact DS.back (HB.out (i+1) _ _ (by omega) ⟨by omega,by rw[HI.out,decide_eq_true (by omega),Bool.true_and]⟩ yS yS (fun b o e=>by cases e))
   | trace_state
 ·rw[List.drop_eq_nil_of_le (by omega)]at hI2
  rw[hI2]
  clear hI2 HB
  repeat' (first|(with_reducible first|refine DS.fltS yU yU yE ?_|refine DS.opsNil ?_|refine DS.seq ?_|refine DS.regionL ?_|(refine DS.cE yE ?_;refine CG.no ?_)|refine DS.exit yU ?_)|refine DS.pcS inferInstance (betweenR_pc _ _ _) yR yT ?_|refine DS.retT [] yE trivial ?_|fail)
  rfl
end Go.XL
namespace Go.XL
open Go.Proofs
set_option maxRecDepth 100000
set_option maxHeartbeats 8000000
def feed1 (s:GSet) (f:Feed):Int:=if(f.kinds.length:Int)=0 then 6 else if ascS (kindsS s) f.kinds≠0 then ascS (kindsS s) f.kinds else if ¬(1≤f.many∧f.many≤s.melds)then 2 else 0
theorem feedsGo_at1 {s:GSet} {l:List Feed} {i:Nat} (hi:i<l.length):feedsGo s (l.drop i)=if feed1 s l[i]≠0 then feed1 s l[i]else feedsGo s (l.drop (i+1)):=by
 rw[feedsGo_at hi,feed1]
 (repeat' split) <;> first|rfl|(exfalso;omega)
theorem r4feed_pc (s:GSet) (f:Feed):PC Tryz.prog 148 [s.val,f.val] (I (feed1 s f)):=by
 have hk:=r4kinds_pc s f.kinds
 rw[feed1]
 refine DC.of_run Tryz.func148 rfl Tryz.ntmps148 Tryz.results148 (by simp) (fun _ _=>?_);simp only[argV_cons,argV_nil,go_sem,Nat.zero_add,Nat.reduceAdd]
 repeat' (first|(with_reducible first|refine DS.fltS yU yU yE ?_|refine DS.opsNil ?_|refine DS.seq ?_|refine DS.regionL ?_|(refine DS.cE yE ?_;first|refine CG.np (fun _=>?_) (fun _=>?_)|refine CG.p (fun _=>?_) (fun _=>?_))|refine DS.skip ?_)|refine DS.pcS inferInstance (hk) yR yT ?_|refine DS.pcS inferInstance (betweenR_pc _ _ _) yR yT ?_|(refine DS.boxF (t:=2) yU yE yU ?_;simp only[cells_agg,cells_v,cells_lst,cells_fn,map_nil'',map_cons'',copy_own,copy_lst,copy_v,copy_at,copy_agg,copy_fn,copy_ifc,copy_tup])|(refine DS.boxF (t:=3) yU yE yU ?_;simp only[cells_agg,cells_v,cells_lst,cells_fn,map_nil'',map_cons'',copy_own,copy_lst,copy_v,copy_at,copy_agg,copy_fn,copy_ifc,copy_tup])|refine DS.retT [] yE trivial ?_|fail)
 all_goals (clear hk;simp only[tupV];(repeat' split) <;> first|rfl|(exfalso;omega))
theorem r4play_pc (s:GSet) (p:Play):PC Tryz.prog 119 [s.val,p.val] (I (playS s p)):=by
 have hc:=r1check_pc s
 by_cases h0:gsetS s=0
 ·rw[h0]at hc
  rw[playS,if_neg (by omega)]
  refine DC.of_run Tryz.func119 rfl Tryz.ntmps119 Tryz.results119 (by simp) (fun _ _=>?_);simp only[argV_cons,argV_nil,go_sem,Nat.zero_add,Nat.reduceAdd]
  repeat' (first|(with_reducible first|refine DS.fltS yU yU yE ?_|refine DS.opsNil ?_|refine DS.seq ?_|refine DS.regionL ?_|(refine DS.cE yE ?_;first|refine CG.np (fun _=>?_) (fun _=>?_)|refine CG.p (fun _=>?_) (fun _=>?_)|refine CG.yes ?_|refine CG.no ?_)|(refine DS.gE yU yE ?_;first|refine GG.npF (fun _=>?_) (fun _=>?_)|refine GG.run ?_|refine GG.sT ?_)|refine DS.skip ?_)|refine DS.pcS inferInstance (hc) yR yF ?_|refine DS.pcS inferInstance (betweenR_pc _ _ _) yR yF ?_|(refine DS.boxF (t:=2) yU yE yU ?_;simp only[cells_agg,cells_v,cells_lst,cells_fn,map_nil'',map_cons'',copy_own,copy_lst,copy_v,copy_at,copy_agg,copy_fn,copy_ifc,copy_tup])|(refine DS.boxF (t:=3) yU yE yU ?_;simp only[cells_agg,cells_v,cells_lst,cells_fn,map_nil'',map_cons'',copy_own,copy_lst,copy_v,copy_at,copy_agg,copy_fn,copy_ifc,copy_tup])|refine DS.retT [] yE trivial ?_|fail)
  all_goals (clear hc;simp only[tupV];(repeat' split) <;> first|rfl|(exfalso;omega))
 ·rw[playS,if_pos h0]
  refine DC.of_run Tryz.func119 rfl Tryz.ntmps119 Tryz.results119 (by simp) (fun _ _=>?_);simp only[argV_cons,argV_nil,go_sem,Nat.zero_add,Nat.reduceAdd]
  repeat' (first|(with_reducible first|refine DS.fltS yU yU yE ?_|refine DS.opsNil ?_|refine DS.seq ?_|refine DS.regionL ?_|(refine DS.cE yE ?_;refine CG.yes ?_))|refine DS.pcS inferInstance (hc) yR yT ?_|(refine DS.boxF (t:=2) yU yE yU ?_;simp only[cells_agg,cells_v,cells_lst,cells_fn,map_nil'',map_cons'',copy_own,copy_lst,copy_v,copy_at,copy_agg,copy_fn,copy_ifc,copy_tup])|(refine DS.boxF (t:=3) yU yE yU ?_;simp only[cells_agg,cells_v,cells_lst,cells_fn,map_nil'',map_cons'',copy_own,copy_lst,copy_v,copy_at,copy_agg,copy_fn,copy_ifc,copy_tup])|refine DS.retT [] yE trivial ?_|fail)
  all_goals first|rfl|(exfalso;omega)
theorem r4other_pc (l : List Int) (own many : Int) (hm : 0 ≤ many ∧ many ≤ 1000000) : PC Tryz.prog 116 [ints l, I own, I many] (I (othersS l own many)) := by
  refine DC.of_run Tryz.func116 rfl Tryz.ntmps116 Tryz.results116 (by simp) (fun _ _ => ?_); simp only [argV_cons, argV_nil, go_sem, Nat.zero_add, Nat.reduceAdd]
  refine DS.bnd (t := 0) yG (.inl rfl) (fun hb0 => ?_); simp only [List.length_map] at hb0
  repeat' (first | (with_reducible first | refine DS.fltS yU yU yE ?_ | refine DS.opsNil ?_ | refine DS.seq ?_ | refine DS.regionL ?_ | (refine DS.cE yE ?_; refine CG.p (fun _ => ?_) (fun _ => ?_)) | refine DS.block ?_ | refine DS.skip ?_) | refine DS.retT [] yE trivial ?_ | fail)
  · simp [tupV, othersS, *]
  refine DS.loopK [0, 1, 2] yN (fun (i : Nat) => [(7, I i)]) (fun (i : Nat) => i ≤ l.length ∧ othersS l own many = othersGo own many (l.drop i) (prevL l i)) (fun (i : Nat) => l.length - i) 0 yS (by simp [othersS, prevL, *]) (fun i B hI hB => ?_); try dsimp only at hI hB; simp only [app_cons', app_nil']
  have HB := Box.mk hB
  clear hB
  obtain ⟨hI, hI2⟩ := hI
  by_cases hi : (i : Int) < (l.length : Int)
  · have hi' : i < l.length := by omega
    have hp : i - 1 < l.length := by omega
    rw [othersGo_at hi'] at hI2
    have HI := Box.mk hI2
    clear hI2
    repeat' (first | (with_reducible first | refine DS.fltS yU yU yE ?_ | refine DS.opsNil ?_ | refine DS.seq ?_ | refine DS.regionL ?_ | (refine DS.cE yE ?_; first | refine CG.np (fun _ => ?_) (fun _ => ?_) | refine CG.p (fun _ => ?_) (fun _ => ?_) | refine CG.yes ?_ | refine CG.no ?_) | (refine DS.gE yU yE ?_; first | refine GG.run ?_ | refine GG.sF ?_) | refine DS.blk ?_ | refine DS.block ?_ | refine DS.skip ?_) | refine DS.pcS inferInstance (betweenR_pc _ _ _) yR yT ?_ | refine DS.drawL (id := 10) [0, 1, 2, 3, 4, 5, 6, 7, 8, 9, 10, 11] 12 (by kernel_rfl) mixed (by simp only [pickL_cons, pickL_nil, get_zero', get_cons', pickO_some]; exact rfl) (by simp only [drop_zero', drop_cons', List.drop_nil]; exact rfl) ?_ | (with_reducible first | refine DD.fltS yU yU yU yE ?_ | (refine DD.gE yU yE ?_; first | refine DGG.pT (fun _ => ?_) (fun _ => ?_) | refine DGG.run ?_ | refine DGG.sF ?_) | refine DD.nil0 ?_) | refine DS.retT [] yE trivial ?_ | fail)
    all_goals first
      | (exfalso; omega)
      | ((try rw [prevL_zero (by assumption)] at HI); (try rw [prevL_pos (by assumption) hp] at HI); (try simp only [anyO_none, anyO_some, decide_eq_true_eq, Bool.false_eq_true, if_false] at HI)
         first
          | (rw [HI.out]; (repeat' split) <;> first | rfl | (exfalso; omega))
          | exact DS.back (HB.out (i + 1) _ _ (by omega) ⟨by omega, by rw [HI.out, prevL_succ hi']; (repeat' split) <;> first | rfl | (exfalso; omega)⟩ yS yS (fun b o e => by cases e)))
  · repeat' (first | (with_reducible first | refine DS.fltS yU yU yE ?_ | refine DS.opsNil ?_ | refine DS.seq ?_ | refine DS.regionL ?_ | (refine DS.cE yE ?_; refine CG.no ?_) | refine DS.exit yU ?_) | refine DS.retT [] yE trivial ?_ | fail)
    rw [hI2, drop_end hi]; rfl
end Go.XL
namespace Go.XL
open Go.Proofs
set_option maxRecDepth 100000
set_option maxHeartbeats 8000000
theorem places_at {l:List Int} {i:Nat} (hi:i<l.length):placesB (l.drop i)=(decide (-1000000≤l[i]∧l[i]≤1000000)&&placesB (l.drop (i+1))):=by
 rw[List.drop_eq_getElem_cons hi,placesB,List.all_cons];rfl
def ptsL (p:Pay):List Int:= [p.basic,p.counter,p.stick,p.pool,p.foul,p.start]
theorem yX11 {p:Prop} (h:p:=by(simp (disch:=omega) only[go_sem,dopV,yV0,↓reduceIte,Nat.reduceEqDiff,Nat.reduceLT,Nat.reduceLeDiff,Nat.reduceAdd,Nat.reduceMul,Nat.reduceSub,Int.reduceToNat,Int.reduceLT,Int.reduceLE,Int.reduceEq,IntWalk.toNatUp,IntWalk.iteOmega,IntWalk.i64_in,V.flat,V.one, *,Int.reduceAdd];exact rfl)):p:=h
theorem yX12 {p:Prop} (h:p:=by(simp (disch:=omega) only[go_sem,dopV,yV0,↓reduceIte,Nat.reduceEqDiff,Nat.reduceLT,Nat.reduceLeDiff,Nat.reduceAdd,Nat.reduceMul,Nat.reduceSub,Int.reduceToNat,Int.reduceLT,Int.reduceLE,Int.reduceEq,IntWalk.toNatUp,IntWalk.iteOmega,IntWalk.i64_in,V.flat,V.one, *,Int.reduceAdd];try exact rfl)):p:=h
theorem r4pay_pc (s:GSet) (p:Pay):PC Tryz.prog 118 [s.val,p.val] (I (payS s p)):=by
 have hc:=r1check_pc s
 by_cases h0:gsetS s=0
 ·have hpl:=(gset_ok h0).players
  rw[h0]at hc
  have e1:(ptB p.basic&&ptB p.counter&&ptB p.stick&&ptB p.pool&&ptB p.foul&&ptB p.start)=((ptsL p).all fun n=>decide (0≤n∧n≤1000000)):=by
   simp[ptB,ptsL,Bool.and_assoc]
  have hpay:payS s p=if ¬(1≤p.mode∧p.mode≤3)then 4 else
   if((ptsL p).all fun n=>decide (0≤n∧n≤1000000))=false then 2 else if p.pool % 6≠0 then 2 else if ¬(1≤p.rounds∧p.rounds≤16)then 2 else if ¬(0≤p.stay∧p.stay≤7)then 2 else
   if 0<(p.places.length:Int)∧(p.places.length:Int)≠s.players then 3 else if placesB p.places=false then 2 else if sumI p.places≠0 then 12 else
   if 4<(p.feeds.length:Int)then 8 else feedsGo s p.feeds:=by rw[payS,if_neg (by omega),e1]
  clear e1
  by_cases hm:1≤p.mode∧p.mode≤3
  ·rw[if_neg (by omega)]at hpay
   rw[hpay]
   clear hpay
   refine DC.of_run Tryz.func118 rfl Tryz.ntmps118 Tryz.results118 (by simp) (fun _ _=>?_);simp only[argV_cons,argV_nil,go_sem,Nat.zero_add,Nat.reduceAdd]
   repeat' (first|(with_reducible first|refine DS.fltS yU yU yE ?_|refine DS.opsNil ?_|refine DS.seq ?_|refine DS.regionL ?_|(refine DS.cE yE ?_;refine CG.no ?_)|refine DS.block ?_|refine DS.skip ?_)|(refine DS.bsl yU yE yE ?_;simp only[go_sem,Nat.zero_add,Nat.reduceAdd])|refine DS.pcS inferInstance (hc) yR yT ?_|refine DS.pcS inferInstance (betweenR_pc _ _ _) yR yT ?_|(refine DS.boxF (t:=2) yU yE yU ?_;simp only[cells_agg,cells_v,cells_lst,cells_fn,map_nil'',map_cons'',copy_own,copy_lst,copy_v,copy_at,copy_agg,copy_fn,copy_ifc,copy_tup])|(refine DS.boxF (t:=3) yU yE yU ?_;simp only[cells_agg,cells_v,cells_lst,cells_fn,map_nil'',map_cons'',copy_own,copy_lst,copy_v,copy_at,copy_agg,copy_fn,copy_ifc,copy_tup])|fail)
   all_goals try (exfalso;omega)
   refine DS.loopK [2,3,6] yN (fun(i:Nat)=> [(7,I i)]) (fun(i:Nat)=>i≤6∧(((ptsL p).take i).all fun n=>decide (0≤n∧n≤1000000))=true) (fun(i:Nat)=>6-i) 0 yS ⟨by omega,rfl⟩ (fun i B hI hB=>?_);try dsimp only at hI hB;simp only[app_cons',app_nil']
   have HB:=Box.mk hB
   clear hB
   obtain⟨hI,hI2⟩:=hI
   have hcase:i=0∨i=1∨i=2∨i=3∨i=4∨i=5∨i=6:=by omega
   rcases hcase with q|q|q|q|q|q|q
   ·subst q
    have ca:((0:Nat):Int)=0:=rfl
    have cb:((1:Nat):Int)=1:=rfl
    by_cases hn:0≤p.basic∧p.basic≤1000000
    ·have hnx:(((ptsL p).take 1).all fun n=>decide (0≤n∧n≤1000000))=true:=by
      simp only[ptsL,List.take_succ_cons,List.take_zero,List.all_cons,List.all_nil,Bool.and_true,Bool.and_eq_true,decide_eq_true_eq]at hI2 ⊢
      omega
     have HN:=Box.mk hnx
     clear hI2 hnx
     repeat' (first|(with_reducible first|refine DS.fltS yU yU yX11 ?_|refine DS.opsNil ?_|refine DS.seq ?_|refine DS.regionL ?_|(refine DS.cE yX11 ?_;first|refine CG.np (fun _=>?_) (fun _=>?_)|refine CG.p (fun _=>?_) (fun _=>?_)|refine CG.yes ?_|refine CG.no ?_)|(refine DS.gE yU yX11 ?_;first|refine GG.npT (fun _=>?_) (fun _=>?_)|refine GG.npF (fun _=>?_) (fun _=>?_)|refine GG.run ?_|refine GG.sF ?_|refine GG.sT ?_)|refine DS.blk ?_|refine DS.block ?_|refine DS.exit yU ?_|refine DS.skip ?_)|refine DS.pcS inferInstance (betweenR_pc _ _ _) yR yX12 ?_|refine DS.retT [] yX11 trivial ?_|fail)
     all_goals first
      | exact DS.back (HB.out 1 _ _ (by omega) ⟨by omega,HN.out⟩ yS yS (fun b o e=>by cases e))
      | (exfalso;omega)
    ·have e:((ptsL p).all fun n=>decide (0≤n∧n≤1000000))=false:=by
      rw[Bool.eq_false_iff]
      intro h
      simp only[ptsL,List.all_cons,List.all_nil,Bool.and_true,Bool.and_eq_true,decide_eq_true_eq]at h
      omega
     rw[if_pos e]
     clear e hI2
     repeat' (first|(with_reducible first|refine DS.fltS yU yU yX11 ?_|refine DS.opsNil ?_|refine DS.seq ?_|refine DS.regionL ?_|(refine DS.cE yX11 ?_;first|refine CG.np (fun _=>?_) (fun _=>?_)|refine CG.p (fun _=>?_) (fun _=>?_)|refine CG.yes ?_|refine CG.no ?_)|(refine DS.gE yU yX11 ?_;first|refine GG.npT (fun _=>?_) (fun _=>?_)|refine GG.npF (fun _=>?_) (fun _=>?_)|refine GG.run ?_|refine GG.sF ?_|refine GG.sT ?_)|refine DS.block ?_|refine DS.exit yU ?_|refine DS.skip ?_)|refine DS.pcS inferInstance (betweenR_pc _ _ _) yR yX12 ?_|refine DS.retT [] yX11 trivial ?_|fail)
     all_goals first|rfl|(exfalso;omega)
   ·subst q
    have ca:((1:Nat):Int)=1:=rfl
    have cb:((2:Nat):Int)=2:=rfl
    by_cases hn:0≤p.counter∧p.counter≤1000000
    ·have hnx:(((ptsL p).take 2).all fun n=>decide (0≤n∧n≤1000000))=true:=by
      simp only[ptsL,List.take_succ_cons,List.take_zero,List.all_cons,List.all_nil,Bool.and_true,Bool.and_eq_true,decide_eq_true_eq]at hI2 ⊢
      omega
     have HN:=Box.mk hnx
     clear hI2 hnx
     repeat' (first|(with_reducible first|refine DS.fltS yU yU yX11 ?_|refine DS.opsNil ?_|refine DS.seq ?_|refine DS.regionL ?_|(refine DS.cE yX11 ?_;first|refine CG.np (fun _=>?_) (fun _=>?_)|refine CG.p (fun _=>?_) (fun _=>?_)|refine CG.yes ?_|refine CG.no ?_)|(refine DS.gE yU yX11 ?_;first|refine GG.npT (fun _=>?_) (fun _=>?_)|refine GG.npF (fun _=>?_) (fun _=>?_)|refine GG.run ?_|refine GG.sF ?_|refine GG.sT ?_)|refine DS.blk ?_|refine DS.block ?_|refine DS.exit yU ?_|refine DS.skip ?_)|refine DS.pcS inferInstance (betweenR_pc _ _ _) yR yX12 ?_|refine DS.retT [] yX11 trivial ?_|fail)
     all_goals first
      | exact DS.back (HB.out 2 _ _ (by omega) ⟨by omega,HN.out⟩ yS yS (fun b o e=>by cases e))
      | (exfalso;omega)
    ·have e:((ptsL p).all fun n=>decide (0≤n∧n≤1000000))=false:=by
      rw[Bool.eq_false_iff]
      intro h
      simp only[ptsL,List.all_cons,List.all_nil,Bool.and_true,Bool.and_eq_true,decide_eq_true_eq]at h
      omega
     rw[if_pos e]
     clear e hI2
     repeat' (first|(with_reducible first|refine DS.fltS yU yU yX11 ?_|refine DS.opsNil ?_|refine DS.seq ?_|refine DS.regionL ?_|(refine DS.cE yX11 ?_;first|refine CG.np (fun _=>?_) (fun _=>?_)|refine CG.p (fun _=>?_) (fun _=>?_)|refine CG.yes ?_|refine CG.no ?_)|(refine DS.gE yU yX11 ?_;first|refine GG.npT (fun _=>?_) (fun _=>?_)|refine GG.npF (fun _=>?_) (fun _=>?_)|refine GG.run ?_|refine GG.sF ?_|refine GG.sT ?_)|refine DS.block ?_|refine DS.exit yU ?_|refine DS.skip ?_)|refine DS.pcS inferInstance (betweenR_pc _ _ _) yR yX12 ?_|refine DS.retT [] yX11 trivial ?_|fail)
     all_goals first|rfl|(exfalso;omega)
   ·subst q
    have ca:((2:Nat):Int)=2:=rfl
    have cb:((3:Nat):Int)=3:=rfl
    by_cases hn:0≤p.stick∧p.stick≤1000000
    ·have hnx:(((ptsL p).take 3).all fun n=>decide (0≤n∧n≤1000000))=true:=by
      simp only[ptsL,List.take_succ_cons,List.take_zero,List.all_cons,List.all_nil,Bool.and_true,Bool.and_eq_true,decide_eq_true_eq]at hI2 ⊢
      omega
     have HN:=Box.mk hnx
     clear hI2 hnx
     repeat' (first|(with_reducible first|refine DS.fltS yU yU yX11 ?_|refine DS.opsNil ?_|refine DS.seq ?_|refine DS.regionL ?_|(refine DS.cE yX11 ?_;first|refine CG.np (fun _=>?_) (fun _=>?_)|refine CG.p (fun _=>?_) (fun _=>?_)|refine CG.yes ?_|refine CG.no ?_)|(refine DS.gE yU yX11 ?_;first|refine GG.npT (fun _=>?_) (fun _=>?_)|refine GG.npF (fun _=>?_) (fun _=>?_)|refine GG.run ?_|refine GG.sF ?_|refine GG.sT ?_)|refine DS.blk ?_|refine DS.block ?_|refine DS.exit yU ?_|refine DS.skip ?_)|refine DS.pcS inferInstance (betweenR_pc _ _ _) yR yX12 ?_|refine DS.retT [] yX11 trivial ?_|fail)
     all_goals first
      | exact DS.back (HB.out 3 _ _ (by omega) ⟨by omega,HN.out⟩ yS yS (fun b o e=>by cases e))
      | (exfalso;omega)
    ·have e:((ptsL p).all fun n=>decide (0≤n∧n≤1000000))=false:=by
      rw[Bool.eq_false_iff]
      intro h
      simp only[ptsL,List.all_cons,List.all_nil,Bool.and_true,Bool.and_eq_true,decide_eq_true_eq]at h
      omega
     rw[if_pos e]
     clear e hI2
     repeat' (first|(with_reducible first|refine DS.fltS yU yU yX11 ?_|refine DS.opsNil ?_|refine DS.seq ?_|refine DS.regionL ?_|(refine DS.cE yX11 ?_;first|refine CG.np (fun _=>?_) (fun _=>?_)|refine CG.p (fun _=>?_) (fun _=>?_)|refine CG.yes ?_|refine CG.no ?_)|(refine DS.gE yU yX11 ?_;first|refine GG.npT (fun _=>?_) (fun _=>?_)|refine GG.npF (fun _=>?_) (fun _=>?_)|refine GG.run ?_|refine GG.sF ?_|refine GG.sT ?_)|refine DS.block ?_|refine DS.exit yU ?_|refine DS.skip ?_)|refine DS.pcS inferInstance (betweenR_pc _ _ _) yR yX12 ?_|refine DS.retT [] yX11 trivial ?_|fail)
     all_goals first|rfl|(exfalso;omega)
   ·subst q
    have ca:((3:Nat):Int)=3:=rfl
    have cb:((4:Nat):Int)=4:=rfl
    by_cases hn:0≤p.pool∧p.pool≤1000000
    ·have hnx:(((ptsL p).take 4).all fun n=>decide (0≤n∧n≤1000000))=true:=by
      simp only[ptsL,List.take_succ_cons,List.take_zero,List.all_cons,List.all_nil,Bool.and_true,Bool.and_eq_true,decide_eq_true_eq]at hI2 ⊢
      omega
     have HN:=Box.mk hnx
     clear hI2 hnx
     repeat' (first|(with_reducible first|refine DS.fltS yU yU yX11 ?_|refine DS.opsNil ?_|refine DS.seq ?_|refine DS.regionL ?_|(refine DS.cE yX11 ?_;first|refine CG.np (fun _=>?_) (fun _=>?_)|refine CG.p (fun _=>?_) (fun _=>?_)|refine CG.yes ?_|refine CG.no ?_)|(refine DS.gE yU yX11 ?_;first|refine GG.npT (fun _=>?_) (fun _=>?_)|refine GG.npF (fun _=>?_) (fun _=>?_)|refine GG.run ?_|refine GG.sF ?_|refine GG.sT ?_)|refine DS.blk ?_|refine DS.block ?_|refine DS.exit yU ?_|refine DS.skip ?_)|refine DS.pcS inferInstance (betweenR_pc _ _ _) yR yX12 ?_|refine DS.retT [] yX11 trivial ?_|fail)
     all_goals first
      | exact DS.back (HB.out 4 _ _ (by omega) ⟨by omega,HN.out⟩ yS yS (fun b o e=>by cases e))
      | (exfalso;omega)
    ·have e:((ptsL p).all fun n=>decide (0≤n∧n≤1000000))=false:=by
      rw[Bool.eq_false_iff]
      intro h
      simp only[ptsL,List.all_cons,List.all_nil,Bool.and_true,Bool.and_eq_true,decide_eq_true_eq]at h
      omega
     rw[if_pos e]
     clear e hI2
     repeat' (first|(with_reducible first|refine DS.fltS yU yU yX11 ?_|refine DS.opsNil ?_|refine DS.seq ?_|refine DS.regionL ?_|(refine DS.cE yX11 ?_;first|refine CG.np (fun _=>?_) (fun _=>?_)|refine CG.p (fun _=>?_) (fun _=>?_)|refine CG.yes ?_|refine CG.no ?_)|(refine DS.gE yU yX11 ?_;first|refine GG.npT (fun _=>?_) (fun _=>?_)|refine GG.npF (fun _=>?_) (fun _=>?_)|refine GG.run ?_|refine GG.sF ?_|refine GG.sT ?_)|refine DS.block ?_|refine DS.exit yU ?_|refine DS.skip ?_)|refine DS.pcS inferInstance (betweenR_pc _ _ _) yR yX12 ?_|refine DS.retT [] yX11 trivial ?_|fail)
     all_goals first|rfl|(exfalso;omega)
   ·subst q
    have ca:((4:Nat):Int)=4:=rfl
    have cb:((5:Nat):Int)=5:=rfl
    by_cases hn:0≤p.foul∧p.foul≤1000000
    ·have hnx:(((ptsL p).take 5).all fun n=>decide (0≤n∧n≤1000000))=true:=by
      simp only[ptsL,List.take_succ_cons,List.take_zero,List.all_cons,List.all_nil,Bool.and_true,Bool.and_eq_true,decide_eq_true_eq]at hI2 ⊢
      omega
     have HN:=Box.mk hnx
     clear hI2 hnx
     repeat' (first|(with_reducible first|refine DS.fltS yU yU yX11 ?_|refine DS.opsNil ?_|refine DS.seq ?_|refine DS.regionL ?_|(refine DS.cE yX11 ?_;first|refine CG.np (fun _=>?_) (fun _=>?_)|refine CG.p (fun _=>?_) (fun _=>?_)|refine CG.yes ?_|refine CG.no ?_)|(refine DS.gE yU yX11 ?_;first|refine GG.npT (fun _=>?_) (fun _=>?_)|refine GG.npF (fun _=>?_) (fun _=>?_)|refine GG.run ?_|refine GG.sF ?_|refine GG.sT ?_)|refine DS.blk ?_|refine DS.block ?_|refine DS.exit yU ?_|refine DS.skip ?_)|refine DS.pcS inferInstance (betweenR_pc _ _ _) yR yX12 ?_|refine DS.retT [] yX11 trivial ?_|fail)
     all_goals first
      | exact DS.back (HB.out 5 _ _ (by omega) ⟨by omega,HN.out⟩ yS yS (fun b o e=>by cases e))
      | (exfalso;omega)
    ·have e:((ptsL p).all fun n=>decide (0≤n∧n≤1000000))=false:=by
      rw[Bool.eq_false_iff]
      intro h
      simp only[ptsL,List.all_cons,List.all_nil,Bool.and_true,Bool.and_eq_true,decide_eq_true_eq]at h
      omega
     rw[if_pos e]
     clear e hI2
     repeat' (first|(with_reducible first|refine DS.fltS yU yU yX11 ?_|refine DS.opsNil ?_|refine DS.seq ?_|refine DS.regionL ?_|(refine DS.cE yX11 ?_;first|refine CG.np (fun _=>?_) (fun _=>?_)|refine CG.p (fun _=>?_) (fun _=>?_)|refine CG.yes ?_|refine CG.no ?_)|(refine DS.gE yU yX11 ?_;first|refine GG.npT (fun _=>?_) (fun _=>?_)|refine GG.npF (fun _=>?_) (fun _=>?_)|refine GG.run ?_|refine GG.sF ?_|refine GG.sT ?_)|refine DS.block ?_|refine DS.exit yU ?_|refine DS.skip ?_)|refine DS.pcS inferInstance (betweenR_pc _ _ _) yR yX12 ?_|refine DS.retT [] yX11 trivial ?_|fail)
     all_goals first|rfl|(exfalso;omega)
   ·subst q
    have ca:((5:Nat):Int)=5:=rfl
    have cb:((6:Nat):Int)=6:=rfl
    by_cases hn:0≤p.start∧p.start≤1000000
    ·have hnx:(((ptsL p).take 6).all fun n=>decide (0≤n∧n≤1000000))=true:=by
      simp only[ptsL,List.take_succ_cons,List.take_zero,List.all_cons,List.all_nil,Bool.and_true,Bool.and_eq_true,decide_eq_true_eq]at hI2 ⊢
      omega
     have HN:=Box.mk hnx
     clear hI2 hnx
     repeat' (first|(with_reducible first|refine DS.fltS yU yU yX11 ?_|refine DS.opsNil ?_|refine DS.seq ?_|refine DS.regionL ?_|(refine DS.cE yX11 ?_;first|refine CG.yes ?_|refine CG.no ?_)|refine DS.blk ?_|refine DS.block ?_|refine DS.skip ?_)|refine DS.pcS inferInstance (betweenR_pc _ _ _) yR yX12 ?_|fail)
     all_goals first
      | exact DS.back (HB.out 6 _ _ (by omega) ⟨by omega,HN.out⟩ yS yS (fun b o e=>by cases e))
      | (exfalso;omega)
    ·have e:((ptsL p).all fun n=>decide (0≤n∧n≤1000000))=false:=by
      rw[Bool.eq_false_iff]
      intro h
      simp only[ptsL,List.all_cons,List.all_nil,Bool.and_true,Bool.and_eq_true,decide_eq_true_eq]at h
      omega
     rw[if_pos e]
     clear e hI2
     repeat' (first|(with_reducible first|refine DS.fltS yU yU yX11 ?_|refine DS.opsNil ?_|refine DS.seq ?_|refine DS.regionL ?_|(refine DS.cE yX11 ?_;refine CG.yes ?_)|refine DS.block ?_|refine DS.skip ?_)|refine DS.pcS inferInstance (betweenR_pc _ _ _) yR yX12 ?_|refine DS.retT [] yX11 trivial ?_|fail)
     all_goals first|rfl|(exfalso;omega)
   ·subst q
    have ca:((6:Nat):Int)=6:=rfl
    have hall:((ptsL p).all fun n=>decide (0≤n∧n≤1000000))=true:=hI2
    rw[if_neg (by rw[hall];decide)]
    have hpb:0≤p.pool∧p.pool≤1000000:=by
     simp only[ptsL,List.all_cons,List.all_nil,Bool.and_true,Bool.and_eq_true,decide_eq_true_eq]at hall
     omega
    clear hI2 hall HB
    have ht:p.pool.tmod 6=p.pool % 6:=Int.tmod_eq_emod_of_nonneg hpb.1
    have ht2:=Int.emod_nonneg p.pool (show(6:Int)≠0 by decide)
    generalize p.pool % 6=pm at *
    by_cases hx:pm=0∧(1≤p.rounds∧p.rounds≤16)∧(0≤p.stay∧p.stay≤7)
    ·obtain⟨hx1,hx2,hx3⟩:=hx
     rw[if_neg (by omega),if_neg (by omega),if_neg (by omega)]
     subst hx1
     by_cases hx4:0<(p.places.length:Int)∧(p.places.length:Int)≠s.players
     ·rw[if_pos hx4]
      repeat' (first|(with_reducible first|refine DS.fltS yU yU yX11 ?_|refine DS.opsNil ?_|refine DS.seq ?_|refine DS.regionL ?_|(refine DS.cE yX11 ?_;first|refine CG.yes ?_|refine CG.no ?_)|(refine DS.gE yU yX11 ?_;first|refine GG.npT (fun _=>?_) (fun _=>?_)|refine GG.run ?_|refine GG.sF ?_)|refine DS.block ?_|refine DS.exit yU ?_|refine DS.skip ?_)|refine DS.pcS inferInstance (betweenR_pc _ _ _) yR yX12 ?_|refine DS.retT [] yX11 trivial ?_|fail)
      all_goals first|rfl|(exfalso;omega)
     ·rw[if_neg hx4]
      have hx5:(p.places.length:Int)≤4:=by omega
      repeat' (first|(with_reducible first|refine DS.fltS yU yU yX11 ?_|refine DS.opsNil ?_|refine DS.seq ?_|refine DS.regionL ?_|(refine DS.cE yX11 ?_;first|refine CG.np (fun _=>?_) (fun _=>?_)|refine CG.no ?_)|(refine DS.gE yU yX11 ?_;first|refine GG.npT (fun _=>?_) (fun _=>?_)|refine GG.run ?_|refine GG.sF ?_)|refine DS.block ?_|refine DS.exit yU ?_|refine DS.skip ?_)|refine DS.pcS inferInstance (betweenR_pc _ _ _) yR yX12 ?_|fail)
      all_goals try (exfalso;omega)
      all_goals
       refine DS.loopK [2,3] yN (fun(z:Nat×Int)=> [(8,I z.2),(9,I z.1)]) (fun(z:Nat×Int)=>z.1≤p.places.length∧placesB p.places=placesB (p.places.drop z.1)∧z.2=sumI (p.places.take z.1) ∧ -1000000*z.1≤z.2∧z.2≤1000000*z.1) (fun(z:Nat×Int)=>p.places.length-z.1) (0,0) yS ⟨Nat.zero_le _,rfl,rfl,by simp,by simp⟩ (fun z B hI hB=>?_);try dsimp only at hI hB;simp only[app_cons',app_nil']
       have HB:=Box.mk hB
       clear hB
       obtain⟨i,sm⟩:=z
       dsimp only at hI ⊢
       obtain⟨i1,i2,i3,i4,i5⟩:=hI
       by_cases hi:(i:Int)<(p.places.length:Int)
       ·have hi':i<p.places.length:=by omega
        rw[places_at hi']at i2
        have hsm:=sumI_take hi'
        by_cases hn : -1000000≤p.places[i]∧p.places[i]≤1000000
        ·rw[decide_eq_true hn,Bool.true_and]at i2
         have HI:=Box.mk (And.intro i2 (And.intro i3 hsm))
         clear i2 i3 hsm
         repeat' (first|(with_reducible first|refine DS.fltS yU yU yE ?_|refine DS.opsNil ?_|refine DS.seq ?_|refine DS.regionL ?_|(refine DS.cE yE ?_;first|refine CG.np (fun _=>?_) (fun _=>?_)|refine CG.p (fun _=>?_) (fun _=>?_)|refine CG.no ?_)|refine DS.blk ?_|refine DS.block ?_|refine DS.exit yU ?_|refine DS.skip ?_)|refine DS.pcS inferInstance (betweenR_pc _ _ _) yR yT ?_|refine DS.retT [] yE trivial ?_|fail)
         all_goals first
          | exact DS.back (HB.out (i+1,sm+p.places[i]) _ _ (by dsimp only;omega) ⟨by dsimp only;omega,HI.out.1,by dsimp only;rw[HI.out.2.2,HI.out.2.1],by dsimp only;omega,by dsimp only;omega⟩ yS yS (fun b o e=>by cases e))
          | (exfalso;omega)
        ·rw[decide_eq_false hn,Bool.false_and]at i2
         rw[if_pos i2]
         clear i2 i3 hsm HB
         repeat' (first|(with_reducible first|refine DS.fltS yU yU yE ?_|refine DS.opsNil ?_|refine DS.seq ?_|refine DS.regionL ?_|(refine DS.cE yE ?_;first|refine CG.np (fun _=>?_) (fun _=>?_)|refine CG.p (fun _=>?_) (fun _=>?_)|refine CG.yes ?_)|refine DS.block ?_|refine DS.exit yU ?_|refine DS.skip ?_)|refine DS.pcS inferInstance (betweenR_pc _ _ _) yR yT ?_|refine DS.retT [] yE trivial ?_|fail)
         all_goals first|rfl|(exfalso;omega)
       ·rw[drop_end hi]at i2
        rw[List.take_of_length_le (by omega)]at i3
        rw[if_neg (show ¬placesB p.places=false by rw[i2];decide),←i3]
        clear i2 i3 HB
        by_cases hs0:sm=0
        ·rw[if_neg (by omega)]
         by_cases hf4:4<(p.feeds.length:Int)
         ·rw[if_pos hf4]
          repeat' (first|(with_reducible first|refine DS.fltS yU yU yE ?_|refine DS.opsNil ?_|refine DS.seq ?_|refine DS.regionL ?_|(refine DS.cE yE ?_;first|refine CG.p (fun _=>?_) (fun _=>?_)|refine CG.yes ?_|refine CG.no ?_)|refine DS.block ?_|refine DS.exit yU ?_|refine DS.skip ?_)|refine DS.retT [] yE trivial ?_|fail)
          all_goals first|rfl|(exfalso;omega)
         ·rw[if_neg hf4]
          repeat' (first|(with_reducible first|refine DS.fltS yU yU yE ?_|refine DS.opsNil ?_|refine DS.seq ?_|refine DS.regionL ?_|(refine DS.cE yE ?_;first|refine CG.p (fun _=>?_) (fun _=>?_)|refine CG.no ?_)|refine DS.block ?_|refine DS.exit yU ?_|refine DS.skip ?_)|fail)
          all_goals try (exfalso;omega)
          refine DS.loopK [2,3] yN (fun(j:Nat)=> [(10,I j)]) (fun(j:Nat)=>j≤p.feeds.length∧feedsGo s p.feeds=feedsGo s (p.feeds.drop j)) (fun(j:Nat)=>p.feeds.length-j) 0 yS ⟨Nat.zero_le _,rfl⟩ (fun j B hI hB=>?_);try dsimp only at hI hB;simp only[app_cons',app_nil']
          have HB:=Box.mk hB
          clear hB
          obtain⟨j1,j2⟩:=hI
          by_cases hj:(j:Int)<(p.feeds.length:Int)
          ·have hj':j<p.feeds.length:=by omega
           rw[feedsGo_at1 hj']at j2
           have HJ:=Box.mk j2
           clear j2
           have hf:=r4feed_pc s p.feeds[j]
           by_cases hz:feed1 s p.feeds[j]=0
           ·rw[hz]at hf
            repeat' (first|(with_reducible first|refine DS.fltS yU yU yE ?_|refine DS.opsNil ?_|refine DS.seq ?_|refine DS.regionL ?_|(refine DS.cE yE ?_;first|refine CG.yes ?_|refine CG.no ?_)|refine DS.blk ?_|refine DS.block ?_|refine DS.skip ?_)|refine DS.pcS inferInstance (hf) yR yT ?_|refine DS.drawL (id:=30) [0,1,2,3,4,5] 6 (by kernel_rfl) mixed (by simp only[pickL_cons,pickL_nil,get_zero',get_cons',pickO_some];exact rfl) (by simp only[drop_zero',drop_cons',List.drop_nil];exact rfl) ?_|(with_reducible first|refine DD.fltS yU yU yU yE ?_|refine DD.nil0 ?_)|fail)
            all_goals first
             | exact DS.back (HB.out (j+1) _ _ (by omega) ⟨by omega,by rw[HJ.out,if_neg (by omega)]⟩ yS yS (fun b o e=>by cases e))
             | (exfalso;omega)
           ·repeat' (first|(with_reducible first|refine DS.fltS yU yU yE ?_|refine DS.opsNil ?_|refine DS.seq ?_|refine DS.regionL ?_|(refine DS.cE yE ?_;refine CG.yes ?_)|refine DS.block ?_|refine DS.skip ?_)|refine DS.pcS inferInstance (hf) yR yT ?_|refine DS.drawL (id:=30) [0,1,2,3,4,5] 6 (by kernel_rfl) mixed (by simp only[pickL_cons,pickL_nil,get_zero',get_cons',pickO_some];exact rfl) (by simp only[drop_zero',drop_cons',List.drop_nil];exact rfl) ?_|(with_reducible first|refine DD.fltS yU yU yU yE ?_|refine DD.nil0 ?_)|refine DS.retT [] yE trivial ?_|fail)
            all_goals first|(rw[HJ.out,if_pos hz];rfl)|(exfalso;omega)
          ·rw[j2,drop_end hj]
           clear j2 HB
           repeat' (first|(with_reducible first|refine DS.fltS yU yU yE ?_|refine DS.opsNil ?_|refine DS.seq ?_|refine DS.regionL ?_|(refine DS.cE yE ?_;refine CG.no ?_)|refine DS.exit yU ?_)|refine DS.retT [] yE trivial ?_|fail)
           all_goals first|rfl|(exfalso;omega)
        ·rw[if_pos hs0]
         repeat' (first|(with_reducible first|refine DS.fltS yU yU yE ?_|refine DS.opsNil ?_|refine DS.seq ?_|refine DS.regionL ?_|(refine DS.cE yE ?_;first|refine CG.p (fun _=>?_) (fun _=>?_)|refine CG.yes ?_)|refine DS.block ?_|refine DS.exit yU ?_|refine DS.skip ?_)|refine DS.retT [] yE trivial ?_|fail)
         all_goals first|rfl|(exfalso;omega)
    ·repeat' (first|(with_reducible first|refine DS.fltS yU yU yX11 ?_|refine DS.opsNil ?_|refine DS.seq ?_|refine DS.regionL ?_|(refine DS.cE yX11 ?_;first|refine CG.np (fun _=>?_) (fun _=>?_)|refine CG.yes ?_|refine CG.no ?_)|(refine DS.gE yU yX11 ?_;first|refine GG.npT (fun _=>?_) (fun _=>?_)|refine GG.npF (fun _=>?_) (fun _=>?_)|refine GG.run ?_|refine GG.sF ?_|refine GG.sT ?_)|refine DS.block ?_|refine DS.exit yU ?_|refine DS.skip ?_)|refine DS.pcS inferInstance (betweenR_pc _ _ _) yR yX12 ?_|refine DS.retT [] yX11 trivial ?_|fail)
     all_goals first
      | (exfalso;omega)
      | (simp only[tupV];(repeat' split) <;> first|rfl|(exfalso;omega))
  ·rw[if_pos hm]at hpay
   rw[hpay]
   refine DC.of_run Tryz.func118 rfl Tryz.ntmps118 Tryz.results118 (by simp) (fun _ _=>?_);simp only[argV_cons,argV_nil,go_sem,Nat.zero_add,Nat.reduceAdd]
   repeat' (first|(with_reducible first|refine DS.fltS yU yU yE ?_|refine DS.opsNil ?_|refine DS.seq ?_|refine DS.regionL ?_|(refine DS.cE yE ?_;first|refine CG.yes ?_|refine CG.no ?_)|refine DS.skip ?_)|refine DS.pcS inferInstance (hc) yR yT ?_|refine DS.pcS inferInstance (betweenR_pc _ _ _) yR yT ?_|(refine DS.boxF (t:=2) yU yE yU ?_;simp only[cells_agg,cells_v,cells_lst,cells_fn,map_nil'',map_cons'',copy_own,copy_lst,copy_v,copy_at,copy_agg,copy_fn,copy_ifc,copy_tup])|(refine DS.boxF (t:=3) yU yE yU ?_;simp only[cells_agg,cells_v,cells_lst,cells_fn,map_nil'',map_cons'',copy_own,copy_lst,copy_v,copy_at,copy_agg,copy_fn,copy_ifc,copy_tup])|refine DS.retT [] yE trivial ?_|fail)
   all_goals first|rfl|(exfalso;omega)
 ·rw[payS,if_pos h0]
  refine DC.of_run Tryz.func118 rfl Tryz.ntmps118 Tryz.results118 (by simp) (fun _ _=>?_);simp only[argV_cons,argV_nil,go_sem,Nat.zero_add,Nat.reduceAdd]
  repeat' (first|(with_reducible first|refine DS.fltS yU yU yE ?_|refine DS.opsNil ?_|refine DS.seq ?_|refine DS.regionL ?_|(refine DS.cE yE ?_;refine CG.yes ?_))|refine DS.pcS inferInstance (hc) yR yT ?_|(refine DS.boxF (t:=2) yU yE yU ?_;simp only[cells_agg,cells_v,cells_lst,cells_fn,map_nil'',map_cons'',copy_own,copy_lst,copy_v,copy_at,copy_agg,copy_fn,copy_ifc,copy_tup])|(refine DS.boxF (t:=3) yU yE yU ?_;simp only[cells_agg,cells_v,cells_lst,cells_fn,map_nil'',map_cons'',copy_own,copy_lst,copy_v,copy_at,copy_agg,copy_fn,copy_ifc,copy_tup])|refine DS.retT [] yE trivial ?_|fail)
  all_goals first|rfl|(exfalso;omega)
end Go.XL
namespace Go.XL
open Go.Proofs
set_option maxRecDepth 100000
set_option maxHeartbeats 8000000
theorem r2kinds_pc (s : GSet) (f : Form) (h0 : gsetS s = 0) (hf : f.what = 3 ∨ f.what = 6 ∨ f.kinds.length = 0) : PC Tryz.prog 144 [s.val, f.val] (I (fkGo s.plain s.copies (decide (f.what = 6)) f.kinds none 0)) := by
  have ok := gset_ok h0
  have hc := ok.copies
  have ek : kindsS s = s.plain := by rw [kindsS, if_neg (by omega)]
  have hk := fun k => r2plain_pc s k
  rw [ek] at hk
  clear ek ok h0
  obtain ⟨what, l, again⟩ := f
  dsimp only at hf ⊢
  obtain ⟨sv, hsv⟩ : ∃ sv, sv = decide (what = 6) := ⟨_, rfl⟩
  have hs2 : sv = true ↔ what = 6 := by rw [hsv, decide_eq_true_eq]
  rw [← hsv]
  clear hsv
  refine DC.of_run Tryz.func144 rfl Tryz.ntmps144 Tryz.results144 (by simp) (fun _ _ => ?_); simp only [argV_cons, argV_nil, go_sem, Nat.zero_add, Nat.reduceAdd]
  repeat' (first | (with_reducible first | refine DS.fltS yU yU yE ?_ | refine DS.opsNil ?_ | refine DS.seq ?_ | refine DS.regionL ?_ | refine DS.block ?_) | (refine DS.boxF (t := 2) yU yE yU ?_; simp only [cells_agg, cells_v, cells_lst, cells_fn, map_nil'', map_cons'', copy_own, copy_lst, copy_v, copy_at, copy_agg, copy_fn, copy_ifc, copy_tup]) | (refine DS.boxF (t := 3) yU yE yU ?_; simp only [cells_agg, cells_v, cells_lst, cells_fn, map_nil'', map_cons'', copy_own, copy_lst, copy_v, copy_at, copy_agg, copy_fn, copy_ifc, copy_tup]) | fail)
  refine DS.loopK [2, 3] yN (fun (z : Nat × Int) => [(5, I z.2), (6, I z.1)]) (fun (z : Nat × Int) => z.1 ≤ l.length ∧ 0 ≤ z.2 ∧ z.2 ≤ z.1 ∧ fkGo s.plain s.copies sv l none 0 = fkGo s.plain s.copies sv (l.drop z.1) (prevL l z.1) z.2) (fun (z : Nat × Int) => l.length - z.1) (0, 0) yS ⟨Nat.zero_le _, Int.le_refl _, Int.le_refl _, rfl⟩ (fun z B hI hB => ?_); try dsimp only at hI hB; simp only [app_cons', app_nil']
  have HB := Box.mk hB
  clear hB
  obtain ⟨i, m⟩ := z
  dsimp only at hI ⊢
  obtain ⟨hI, hm1, hm2, hI2⟩ := hI
  by_cases hi : (i : Int) < (l.length : Int)
  · have hi' : i < l.length := by omega
    have hp : i - 1 < l.length := by omega
    rw [fkGo_at hi'] at hI2
    have hS : Box ((sv = true ↔ what = 6) ∧ (what = 3 ∨ what = 6)) := ⟨hs2, by omega⟩
    clear hs2 hf
    have HI := Box.mk hI2
    clear hI2
    have hkk := hk l[i]
    by_cases h3 : what = 3
    · have hsf : sv = false := by
        cases hq : sv with
        | false => rfl
        | true => have := hS.out.1.1 hq; omega
      subst hsf
      by_cases he : (0 : Int) < i ∧ l[i] = l[i - 1]
      · obtain ⟨he1, he2⟩ := he
        repeat' (first | (with_reducible first | refine DS.fltS yU yU yE ?_ | refine DS.opsNil ?_ | refine DS.seq ?_ | refine DS.regionL ?_) | fail)
        refine DS.bnd (t := 10) yG (.inl rfl) (fun hb10 => ?_); simp only [List.length_map] at hb10
        repeat' (first | (with_reducible first | refine DS.fltS yU yU yE ?_ | refine DS.opsNil ?_ | refine DS.seq ?_ | refine DS.regionL ?_ | (refine DS.cE yE ?_; first | refine CG.np (fun _ => ?_) (fun _ => ?_) | refine CG.yes ?_) | (refine DS.gE yU yE ?_; first | refine GG.sU ?_ | refine GG.pF (fun _ => ?_) (fun _ => ?_) | refine GG.run ?_ | refine GG.sT ?_) | refine DS.block ?_ | refine DS.skip ?_) | refine DS.pcS inferInstance (hkk) yR yT ?_ | refine DS.retT [] yE trivial ?_ | fail)
        all_goals first
          | (exfalso; omega)
          | ((try rw [prevL_zero (by assumption)] at HI); (try rw [prevL_pos (by assumption) hp] at HI); simp only [anyO_none, anyO_some, Bool.not_true, Bool.not_false, Bool.false_and, Bool.true_and, Bool.or_false, Bool.or_eq_true, decide_eq_true_eq, true_and, false_and, Bool.false_eq_true, if_false] at HI
             first
              | (rw [HI.out]; (repeat' split) <;> first | rfl | (exfalso; omega))
              | exact DS.back (HB.out (i + 1, m + 1) _ _ (by dsimp only; omega) ⟨by dsimp only; omega, by dsimp only; omega, by dsimp only; omega, by rw [HI.out, prevL_succ hi']; (repeat' split) <;> first | rfl | (exfalso; omega)⟩ yS yS (fun b o e => by cases e)))
      · repeat' (first | (with_reducible first | refine DS.fltS yU yU yE ?_ | refine DS.opsNil ?_ | refine DS.seq ?_ | refine DS.regionL ?_) | fail)
        refine DS.bnd (t := 10) yG (.inl rfl) (fun hb10 => ?_); simp only [List.length_map] at hb10
        repeat' (first | (with_reducible first | refine DS.fltS yU yU yE ?_ | refine DS.opsNil ?_ | refine DS.seq ?_ | refine DS.regionL ?_ | (refine DS.cE yE ?_; first | refine CG.np (fun _ => ?_) (fun _ => ?_) | refine CG.p (fun _ => ?_) (fun _ => ?_) | refine CG.yes ?_ | refine CG.no ?_) | (refine DS.gE yU yE ?_; first | refine GG.sU ?_ | refine GG.pT (fun _ => ?_) (fun _ => ?_) | refine GG.pF (fun _ => ?_) (fun _ => ?_) | refine GG.run ?_ | refine GG.sF ?_ | refine GG.sT ?_) | refine DS.blk ?_ | refine DS.block ?_ | refine DS.skip ?_) | refine DS.pcS inferInstance (hkk) yR yT ?_ | refine DS.retT [] yE trivial ?_ | fail)
        all_goals first
          | (exfalso; omega)
          | ((try rw [prevL_zero (by assumption)] at HI); (try rw [prevL_pos (by assumption) hp] at HI); simp only [anyO_none, anyO_some, Bool.not_true, Bool.not_false, Bool.false_and, Bool.true_and, Bool.or_false, Bool.or_eq_true, decide_eq_true_eq, true_and, false_and, Bool.false_eq_true, if_false] at HI
             first
              | (rw [HI.out]; (repeat' split) <;> first | rfl | (exfalso; omega))
              | exact DS.back (HB.out (i + 1, 1) _ _ (by dsimp only; omega) ⟨by dsimp only; omega, by dsimp only; omega, by dsimp only; omega, by rw [HI.out, prevL_succ hi']; (repeat' split) <;> first | rfl | (exfalso; omega)⟩ yS yS (fun b o e => by cases e)))
    · have h6 : what = 6 := by have := hS.out.2; omega
      have hst : sv = true := hS.out.1.2 h6
      subst hst
      by_cases he : (0 : Int) < i ∧ l[i] = l[i - 1]
      · obtain ⟨he1, he2⟩ := he
        repeat' (first | (with_reducible first | refine DS.fltS yU yU yE ?_ | refine DS.opsNil ?_ | refine DS.seq ?_ | refine DS.regionL ?_) | fail)
        refine DS.bnd (t := 10) yG (.inl rfl) (fun hb10 => ?_); simp only [List.length_map] at hb10
        repeat' (first | (with_reducible first | refine DS.fltS yU yU yE ?_ | refine DS.opsNil ?_ | refine DS.seq ?_ | refine DS.regionL ?_ | (refine DS.cE yE ?_; first | refine CG.np (fun _ => ?_) (fun _ => ?_) | refine CG.p (fun _ => ?_) (fun _ => ?_) | refine CG.yes ?_ | refine CG.no ?_) | (refine DS.gE yU yE ?_; first | refine GG.sU ?_ | refine GG.pF (fun _ => ?_) (fun _ => ?_) | refine GG.run ?_ | refine GG.sF ?_ | refine GG.sT ?_) | refine DS.blk ?_ | refine DS.block ?_ | refine DS.skip ?_) | refine DS.pcS inferInstance (hkk) yR yT ?_ | refine DS.retT [] yE trivial ?_ | fail)
        all_goals first
          | (exfalso; omega)
          | ((try rw [prevL_zero (by assumption)] at HI); (try rw [prevL_pos (by assumption) hp] at HI); simp only [anyO_none, anyO_some, Bool.not_true, Bool.not_false, Bool.false_and, Bool.true_and, Bool.or_false, Bool.or_eq_true, decide_eq_true_eq, true_and, false_and, Bool.false_eq_true, if_false] at HI
             first
              | (rw [HI.out]; (repeat' split) <;> first | rfl | (exfalso; omega))
              | exact DS.back (HB.out (i + 1, m + 1) _ _ (by dsimp only; omega) ⟨by dsimp only; omega, by dsimp only; omega, by dsimp only; omega, by rw [HI.out, prevL_succ hi']; (repeat' split) <;> first | rfl | (exfalso; omega)⟩ yS yS (fun b o e => by cases e)))
      · repeat' (first | (with_reducible first | refine DS.fltS yU yU yE ?_ | refine DS.opsNil ?_ | refine DS.seq ?_ | refine DS.regionL ?_) | fail)
        refine DS.bnd (t := 10) yG (.inl rfl) (fun hb10 => ?_); simp only [List.length_map] at hb10
        repeat' (first | (with_reducible first | refine DS.fltS yU yU yE ?_ | refine DS.opsNil ?_ | refine DS.seq ?_ | refine DS.regionL ?_ | (refine DS.cE yE ?_; first | refine CG.np (fun _ => ?_) (fun _ => ?_) | refine CG.p (fun _ => ?_) (fun _ => ?_) | refine CG.yes ?_ | refine CG.no ?_) | (refine DS.gE yU yE ?_; first | refine GG.sU ?_ | refine GG.pT (fun _ => ?_) (fun _ => ?_) | refine GG.pF (fun _ => ?_) (fun _ => ?_) | refine GG.run ?_ | refine GG.sF ?_ | refine GG.sT ?_) | refine DS.blk ?_ | refine DS.block ?_ | refine DS.skip ?_) | refine DS.pcS inferInstance (hkk) yR yT ?_ | refine DS.retT [] yE trivial ?_ | fail)
        all_goals first
          | (exfalso; omega)
          | ((try rw [prevL_zero (by assumption)] at HI); (try rw [prevL_pos (by assumption) hp] at HI); simp only [anyO_none, anyO_some, Bool.not_true, Bool.not_false, Bool.false_and, Bool.true_and, Bool.or_false, Bool.or_eq_true, decide_eq_true_eq, true_and, false_and, Bool.false_eq_true, if_false] at HI
             first
              | (rw [HI.out]; (repeat' split) <;> first | rfl | (exfalso; omega))
              | exact DS.back (HB.out (i + 1, 1) _ _ (by dsimp only; omega) ⟨by dsimp only; omega, by dsimp only; omega, by dsimp only; omega, by rw [HI.out, prevL_succ hi']; (repeat' split) <;> first | rfl | (exfalso; omega)⟩ yS yS (fun b o e => by cases e)))
  · repeat' (first | (with_reducible first | refine DS.fltS yU yU yE ?_ | refine DS.opsNil ?_ | refine DS.seq ?_ | refine DS.regionL ?_ | (refine DS.cE yE ?_; refine CG.no ?_) | refine DS.exit yU ?_) | refine DS.retT [] yE trivial ?_ | fail)
    rw [hI2, drop_end hi]; rfl
end Go.XL
namespace Go.XL
open Go.Proofs
set_option maxRecDepth 100000
set_option maxHeartbeats 8000000
theorem r2form_pc (s:GSet) (f:Form):PC Tryz.prog 112 [s.val,f.val] (I (formS s f)):=by
 have hc:=r1check_pc s
 by_cases h0:gsetS s=0
 ·have ok:=gset_ok h0
  have hm:=ok.melds
  clear ok
  have hk:=r2kinds_pc s f h0
  have hn:=r2nines_pc s
  rw[h0]at hc
  obtain⟨b,hb⟩: ∃b,b=decide (s.suits= [9,9,9]):=⟨_,rfl⟩
  rw[←hb]at hn
  have HB:=Box.mk hb
  clear hb
  by_cases hw:1≤f.what∧f.what≤6
  ·by_cases hwr:f.wrong s=true
   ·rw[formS,if_neg (by omega),if_neg (by omega),if_pos hwr]
    have HW:Box (f.wrong s=true):=⟨hwr⟩
    clear hwr hk h0
    refine DC.of_run Tryz.func112 rfl Tryz.ntmps112 Tryz.results112 (by simp) (fun _ _=>?_);simp only[argV_cons,argV_nil,go_sem,Nat.zero_add,Nat.reduceAdd]
    repeat' (first|(with_reducible first|refine DS.fltS yU yU yE ?_|refine DS.opsNil ?_|refine DS.seq ?_|refine DS.regionL ?_|(refine DS.cE yE ?_;first|refine CG.np (fun _=>?_) (fun _=>?_)|refine CG.p (fun _=>?_) (fun _=>?_)|refine CG.yes ?_|refine CG.no ?_)|(refine DS.gE yU yE ?_;first|refine GG.sU ?_|refine GG.npF (fun _=>?_) (fun _=>?_)|refine GG.pT (fun _=>?_) (fun _=>?_)|refine GG.pF (fun _=>?_) (fun _=>?_)|refine GG.run ?_|refine GG.sF ?_|refine GG.sT ?_|refine GG.nF (fun _=>?_) (fun _=>?_)|refine GG.bT (fun _=>?_) (fun _=>?_))|refine DS.blk ?_|refine DS.block ?_|refine DS.skip ?_)|refine DS.pcS inferInstance (hc) yR yT ?_|refine DS.pcS inferInstance (hn) yR yT ?_|(refine DS.boxF (t:=2) yU yE yU ?_;simp only[cells_agg,cells_v,cells_lst,cells_fn,map_nil'',map_cons'',copy_own,copy_lst,copy_v,copy_at,copy_agg,copy_fn,copy_ifc,copy_tup])|(refine DS.boxF (t:=3) yU yE yU ?_;simp only[cells_agg,cells_v,cells_lst,cells_fn,map_nil'',map_cons'',copy_own,copy_lst,copy_v,copy_at,copy_agg,copy_fn,copy_ifc,copy_tup])|refine DS.retT [] yE trivial ?_|fail)
    all_goals first|rfl|(exfalso;have hb:=HB.out;have hwr:=HW.out;clear HB HW hc hn;grind [Form.wrong])
   ·have e:formS s f=fkGo s.plain s.copies (decide (f.what=6)) f.kinds none 0:=by rw[formS,if_neg (by omega),if_neg (by omega),if_neg hwr]
    have hk:=hk (by
     simp only[Form.wrong,Bool.or_eq_true,Bool.and_eq_true,decide_eq_true_eq,not_or,not_and,Bool.not_eq_true,Bool.not_eq_eq_eq_not,Bool.not_true,Bool.or_eq_false_iff,decide_eq_false_iff_not]at hwr
     omega)
    rw[e]
    clear e
    have HW:Box (¬f.wrong s=true):=⟨hwr⟩
    clear hwr h0
    obtain⟨what,kinds,again⟩:=f
    dsimp only at hw hk HW ⊢
    have hcase:what=1∨what=2∨what=3∨what=4∨what=5∨what=6:=by omega
    clear hw
    rcases hcase with rfl|rfl|rfl|rfl|rfl|rfl <;> cases again
    all_goals
     generalize fkGo s.plain s.copies _ kinds none 0=F at *
     refine DC.of_run Tryz.func112 rfl Tryz.ntmps112 Tryz.results112 (by simp) (fun _ _=>?_);simp only[argV_cons,argV_nil,go_sem,Nat.zero_add,Nat.reduceAdd]
     repeat' (first|(with_reducible first|refine DS.fltS yU yU yE ?_|refine DS.opsNil ?_|refine DS.seq ?_|refine DS.regionL ?_|(refine DS.cE yE ?_;first|refine CG.np (fun _=>?_) (fun _=>?_)|refine CG.p (fun _=>?_) (fun _=>?_)|refine CG.yes ?_|refine CG.no ?_)|(refine DS.gE yU yE ?_;first|refine GG.sU ?_|refine GG.pT (fun _=>?_) (fun _=>?_)|refine GG.run ?_|refine GG.sF ?_|refine GG.sT ?_|refine GG.nF (fun _=>?_) (fun _=>?_))|refine DS.blk ?_|refine DS.block ?_|refine DS.skip ?_)|refine DS.pcS inferInstance (hc) yR yT ?_|refine DS.pcS inferInstance (hn) yR yT ?_|refine DS.pcS inferInstance (hk) yR yT ?_|(refine DS.boxF (t:=2) yU yE yU ?_;simp only[cells_agg,cells_v,cells_lst,cells_fn,map_nil'',map_cons'',copy_own,copy_lst,copy_v,copy_at,copy_agg,copy_fn,copy_ifc,copy_tup])|(refine DS.boxF (t:=3) yU yE yU ?_;simp only[cells_agg,cells_v,cells_lst,cells_fn,map_nil'',map_cons'',copy_own,copy_lst,copy_v,copy_at,copy_agg,copy_fn,copy_ifc,copy_tup])|refine DS.retT [] yE trivial ?_|fail)
     all_goals first|rfl|(exfalso;have hb:=HB.out;have hwr:=HW.out;clear HB HW hc hn hk;grind [Form.wrong])
  ·rw[formS,if_neg (by omega),if_pos hw]
   refine DC.of_run Tryz.func112 rfl Tryz.ntmps112 Tryz.results112 (by simp) (fun _ _=>?_);simp only[argV_cons,argV_nil,go_sem,Nat.zero_add,Nat.reduceAdd]
   repeat' (first|(with_reducible first|refine DS.fltS yU yU yE ?_|refine DS.opsNil ?_|refine DS.seq ?_|refine DS.regionL ?_|(refine DS.cE yE ?_;first|refine CG.np (fun _=>?_) (fun _=>?_)|refine CG.p (fun _=>?_) (fun _=>?_)|refine CG.yes ?_|refine CG.no ?_)|(refine DS.gE yU yE ?_;first|refine GG.sU ?_|refine GG.npF (fun _=>?_) (fun _=>?_)|refine GG.pT (fun _=>?_) (fun _=>?_)|refine GG.pF (fun _=>?_) (fun _=>?_)|refine GG.run ?_|refine GG.sF ?_|refine GG.sT ?_|refine GG.bT (fun _=>?_) (fun _=>?_))|refine DS.blk ?_|refine DS.block ?_|refine DS.skip ?_)|refine DS.pcS inferInstance (hc) yR yT ?_|(refine DS.boxF (t:=2) yU yE yU ?_;simp only[cells_agg,cells_v,cells_lst,cells_fn,map_nil'',map_cons'',copy_own,copy_lst,copy_v,copy_at,copy_agg,copy_fn,copy_ifc,copy_tup])|(refine DS.boxF (t:=3) yU yE yU ?_;simp only[cells_agg,cells_v,cells_lst,cells_fn,map_nil'',map_cons'',copy_own,copy_lst,copy_v,copy_at,copy_agg,copy_fn,copy_ifc,copy_tup])|refine DS.retT [] yE trivial ?_|fail)
   all_goals first|rfl|(exfalso;omega)
 ·rw[formS,if_pos h0]
  refine DC.of_run Tryz.func112 rfl Tryz.ntmps112 Tryz.results112 (by simp) (fun _ _=>?_);simp only[argV_cons,argV_nil,go_sem,Nat.zero_add,Nat.reduceAdd]
  repeat' (first|(with_reducible first|refine DS.fltS yU yU yE ?_|refine DS.opsNil ?_|refine DS.seq ?_|refine DS.regionL ?_|(refine DS.cE yE ?_;refine CG.yes ?_))|refine DS.pcS inferInstance (hc) yR yT ?_|(refine DS.boxF (t:=2) yU yE yU ?_;simp only[cells_agg,cells_v,cells_lst,cells_fn,map_nil'',map_cons'',copy_own,copy_lst,copy_v,copy_at,copy_agg,copy_fn,copy_ifc,copy_tup])|(refine DS.boxF (t:=3) yU yE yU ?_;simp only[cells_agg,cells_v,cells_lst,cells_fn,map_nil'',map_cons'',copy_own,copy_lst,copy_v,copy_at,copy_agg,copy_fn,copy_ifc,copy_tup])|refine DS.retT [] yE trivial ?_|fail)
  all_goals first|rfl|(exfalso;omega)
theorem r2forms_pc (s:GSet) (l:List Form):PC Tryz.prog 75 [s.val,formsV l] (I (formsS s l)):=by
 have hc:=r1check_pc s
 refine DC.of_run Tryz.func75 rfl Tryz.ntmps75 Tryz.results75 (by simp) (fun _ _=>?_);simp only[argV_cons,argV_nil,go_sem,Nat.zero_add,Nat.reduceAdd]
 refine DS.bnd (t:=1) yG (.inl rfl) (fun hb1=>?_);simp only[List.length_map]at hb1
 by_cases h0:gsetS s=0
 ·rw[h0]at hc
  repeat' (first|(with_reducible first|refine DS.fltS yU yU yE ?_|refine DS.opsNil ?_|refine DS.seq ?_|refine DS.regionL ?_|(refine DS.cE yE ?_;first|refine CG.p (fun _=>?_) (fun _=>?_)|refine CG.no ?_)|refine DS.block ?_|refine DS.skip ?_)|refine DS.pcS inferInstance (hc) yR yT ?_|(refine DS.boxF (t:=2) yU yE yU ?_;simp only[cells_agg,cells_v,cells_lst,cells_fn,map_nil'',map_cons'',copy_own,copy_lst,copy_v,copy_at,copy_agg,copy_fn,copy_ifc,copy_tup])|refine DS.retT [] yE trivial ?_|fail)
  all_goals try first|(rw[formsS,if_neg (by omega),if_pos (by omega)];rfl)|(rw[formsS,if_neg (by omega),if_neg (by omega),if_pos (by omega)];rfl)
  refine DS.loopK [1,2] yN (fun(i:Nat)=> [(6,I i)]) (fun(i:Nat)=>i≤l.length∧formsS s l=formsGo s (l.drop i)) (fun(i:Nat)=>l.length-i) 0 yS ⟨Nat.zero_le _,by rw[formsS,if_neg (by omega),if_neg (by omega),if_neg (by omega)];rfl⟩ (fun i B hI hB=>?_);try dsimp only at hI hB;simp only[app_cons',app_nil']
  have HB:=Box.mk hB
  clear hB
  obtain⟨hI,hI2⟩:=hI
  by_cases hi:(i:Int)<(l.length:Int)
  ·have hi':i<l.length:=by omega
   rw[formsGo_at hi']at hI2
   have HI:=Box.mk hI2
   clear hI2
   have hf:=r2form_pc s l[i]
   by_cases he:formS s l[i]=0
   ·rw[he]at hf
    repeat' (first|(with_reducible first|refine DS.fltS yU yU yE ?_|refine DS.opsNil ?_|refine DS.seq ?_|refine DS.regionL ?_|(refine DS.cE yE ?_;first|refine CG.yes ?_|refine CG.no ?_)|refine DS.blk ?_|refine DS.block ?_|refine DS.skip ?_)|refine DS.pcS inferInstance (hf) yR yT ?_|refine DS.drawL (id:=11) [0,1,2,3,4] 5 (by kernel_rfl) mixed (by simp only[pickL_cons,pickL_nil,get_zero',get_cons',pickO_some];exact rfl) (by simp only[drop_zero',drop_cons',List.drop_nil];exact rfl) ?_|(with_reducible first|refine DD.fltS yU yU yU yE ?_|refine DD.nil0 ?_)|fail)
    exact DS.back (HB.out (i+1) _ _ (by omega) ⟨by omega,by rw[HI.out,if_neg (by omega)]⟩ yS yS (fun b o e=>by cases e))
   ·repeat' (first|(with_reducible first|refine DS.fltS yU yU yE ?_|refine DS.opsNil ?_|refine DS.seq ?_|refine DS.regionL ?_|(refine DS.cE yE ?_;refine CG.yes ?_)|refine DS.block ?_|refine DS.skip ?_)|refine DS.pcS inferInstance (hf) yR yT ?_|refine DS.drawL (id:=11) [0,1,2,3,4] 5 (by kernel_rfl) mixed (by simp only[pickL_cons,pickL_nil,get_zero',get_cons',pickO_some];exact rfl) (by simp only[drop_zero',drop_cons',List.drop_nil];exact rfl) ?_|(with_reducible first|refine DD.fltS yU yU yU yE ?_|refine DD.nil0 ?_)|refine DS.retT [] yE trivial ?_|fail)
    all_goals first|(rw[HI.out,if_pos he];rfl)|(exfalso;omega)
  ·repeat' (first|(with_reducible first|refine DS.fltS yU yU yE ?_|refine DS.opsNil ?_|refine DS.seq ?_|refine DS.regionL ?_|(refine DS.cE yE ?_;refine CG.no ?_)|refine DS.exit yU ?_)|refine DS.retT [] yE trivial ?_|fail)
   rw[hI2,drop_end hi];rfl
 ·repeat' (first|(with_reducible first|refine DS.fltS yU yU yE ?_|refine DS.opsNil ?_|refine DS.seq ?_|refine DS.regionL ?_|(refine DS.cE yE ?_;refine CG.yes ?_))|refine DS.pcS inferInstance (hc) yR yT ?_|(refine DS.boxF (t:=2) yU yE yU ?_;simp only[cells_agg,cells_v,cells_lst,cells_fn,map_nil'',map_cons'',copy_own,copy_lst,copy_v,copy_at,copy_agg,copy_fn,copy_ifc,copy_tup])|refine DS.retT [] yE trivial ?_|fail)
  all_goals first|(rw[formsS,if_pos h0];rfl)|(exfalso;omega)
end Go.XL
