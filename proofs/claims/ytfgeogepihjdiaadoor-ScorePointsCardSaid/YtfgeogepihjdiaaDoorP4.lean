/- A part of a program logic over the kit's walk rules, and contracts of functions in it. Conditions: as each theorem says. -/
import Derived.Test.YtfgeogepihjdiaaDoorP3
import Derived.Ground.NamesProg
import Derived.Shelf.Strings.SlTrimAscii
import Derived.Test.YtfgeogepihjdiaaDoorProg
import Derived.Laws.Bits64b
import Derived.Lib.TrailingZeros
import Derived.Shelf.Spec.TrailingZeros
import Derived.Lib.AppendZeros
set_option linter.all false
namespace Go.XL
open Go.Proofs
set_option maxRecDepth 100000
set_option maxHeartbeats 4000000
theorem formS_ok {s:GSet} {f:Form} (h0:gsetS s=0) (hw:1≤f.what∧f.what≤6):formS s f=if f.wrong s=true then 3 else fkGo s.plain s.copies (decide (f.what=6)) f.kinds none 0:=by
 rw[formS,if_neg (by omega),if_neg (by omega)]
theorem form_pc (s:GSet) (f:Form):PC Tryd.prog 49 [s.val,f.val] (I (formS s f)):=by
 by_cases h0:gsetS s=0
 ·have ok:=gset_ok h0
  have hm:=ok.melds
  clear ok
  have hk:=fun sv=>fkinds_pc s f.kinds sv h0
  have hc:=tcheck_pc s
  rw[h0]at hc
  by_cases hw:1≤f.what∧f.what≤6
  ·rw[formS_ok h0 hw]
   have hcase:f.what=1∨f.what=2∨f.what=3∨f.what=4∨f.what=5∨f.what=6:=by omega
   clear hw h0
   rcases hcase with h|h|h|h|h|h
   ·refine DC.of_run Tryd.func49 rfl Tryd.ntmps49 Tryd.results49 (by simp) (fun _ _=>?_);simp only[argV_cons,argV_nil,go_sem,Nat.zero_add,Nat.reduceAdd]
    repeat' (first|(with_reducible first|refine DS.fltS yU yU yE ?_|refine DS.opsNil ?_|refine DS.seq ?_|refine DS.regionL ?_|(refine DS.cE yE ?_;first|refine CG.yes ?_|refine CG.no ?_)|(refine DS.gE yU yE ?_;first|refine GG.sU ?_|refine GG.pT (fun _=>?_) (fun _=>?_)|refine GG.run ?_|refine GG.sF ?_|refine GG.sT ?_|refine GG.bT (fun _=>?_) (fun _=>?_))|refine DS.blk ?_|refine DS.block ?_|refine DS.skip ?_)|refine DS.pcS inferInstance (hc) yR yT ?_|refine DS.pcS inferInstance (hk _) yR yT ?_|(refine DS.boxF (t:=2) yU yE yU ?_;simp only[cells_agg,cells_v,cells_lst,cells_fn,map_nil'',map_cons'',copy_own,copy_lst,copy_v,copy_at,copy_agg,copy_fn,copy_ifc,copy_tup])|(refine DS.boxF (t:=3) yU yE yU ?_;simp only[cells_agg,cells_v,cells_lst,cells_fn,map_nil'',map_cons'',copy_own,copy_lst,copy_v,copy_at,copy_agg,copy_fn,copy_ifc,copy_tup])|refine DS.retT [] yE trivial ?_|fail)
    all_goals (split <;> first|rfl|(simp[tupV,h];done)|(exfalso;clear hc hk;(try clear he);grind [Form.wrong]))
   ·refine DC.of_run Tryd.func49 rfl Tryd.ntmps49 Tryd.results49 (by simp) (fun _ _=>?_);simp only[argV_cons,argV_nil,go_sem,Nat.zero_add,Nat.reduceAdd]
    repeat' (first|(with_reducible first|refine DS.fltS yU yU yE ?_|refine DS.opsNil ?_|refine DS.seq ?_|refine DS.regionL ?_|(refine DS.cE yE ?_;first|refine CG.p (fun _=>?_) (fun _=>?_)|refine CG.yes ?_|refine CG.no ?_)|(refine DS.gE yU yE ?_;first|refine GG.sU ?_|refine GG.pT (fun _=>?_) (fun _=>?_)|refine GG.run ?_|refine GG.sF ?_|refine GG.sT ?_|refine GG.bT (fun _=>?_) (fun _=>?_))|refine DS.blk ?_|refine DS.block ?_|refine DS.skip ?_)|refine DS.pcS inferInstance (hc) yR yT ?_|refine DS.pcS inferInstance (hk _) yR yT ?_|(refine DS.boxF (t:=2) yU yE yU ?_;simp only[cells_agg,cells_v,cells_lst,cells_fn,map_nil'',map_cons'',copy_own,copy_lst,copy_v,copy_at,copy_agg,copy_fn,copy_ifc,copy_tup])|(refine DS.boxF (t:=3) yU yE yU ?_;simp only[cells_agg,cells_v,cells_lst,cells_fn,map_nil'',map_cons'',copy_own,copy_lst,copy_v,copy_at,copy_agg,copy_fn,copy_ifc,copy_tup])|refine DS.retT [] yE trivial ?_|fail)
    all_goals (split <;> first|rfl|(simp[tupV,h];done)|(exfalso;clear hc hk;(try clear he);grind [Form.wrong]))
   ·refine DC.of_run Tryd.func49 rfl Tryd.ntmps49 Tryd.results49 (by simp) (fun _ _=>?_);simp only[argV_cons,argV_nil,go_sem,Nat.zero_add,Nat.reduceAdd]
    repeat' (first|(with_reducible first|refine DS.fltS yU yU yE ?_|refine DS.opsNil ?_|refine DS.seq ?_|refine DS.regionL ?_|(refine DS.cE yE ?_;first|refine CG.np (fun _=>?_) (fun _=>?_)|refine CG.yes ?_|refine CG.no ?_)|(refine DS.gE yU yE ?_;first|refine GG.pT (fun _=>?_) (fun _=>?_)|refine GG.run ?_|refine GG.sF ?_|refine GG.sT ?_|refine GG.bT (fun _=>?_) (fun _=>?_))|refine DS.blk ?_|refine DS.block ?_|refine DS.skip ?_)|refine DS.pcS inferInstance (hc) yR yT ?_|refine DS.pcS inferInstance (hk _) yR yT ?_|(refine DS.boxF (t:=2) yU yE yU ?_;simp only[cells_agg,cells_v,cells_lst,cells_fn,map_nil'',map_cons'',copy_own,copy_lst,copy_v,copy_at,copy_agg,copy_fn,copy_ifc,copy_tup])|(refine DS.boxF (t:=3) yU yE yU ?_;simp only[cells_agg,cells_v,cells_lst,cells_fn,map_nil'',map_cons'',copy_own,copy_lst,copy_v,copy_at,copy_agg,copy_fn,copy_ifc,copy_tup])|refine DS.retT [] yE trivial ?_|fail)
    all_goals (split <;> first|rfl|(simp[tupV,h];done)|(exfalso;clear hc hk;(try clear he);grind [Form.wrong]))
   ·refine DC.of_run Tryd.func49 rfl Tryd.ntmps49 Tryd.results49 (by simp) (fun _ _=>?_);simp only[argV_cons,argV_nil,go_sem,Nat.zero_add,Nat.reduceAdd]
    repeat' (first|(with_reducible first|refine DS.fltS yU yU yE ?_|refine DS.opsNil ?_|refine DS.seq ?_|refine DS.regionL ?_|(refine DS.cE yE ?_;first|refine CG.yes ?_|refine CG.no ?_)|(refine DS.gE yU yE ?_;first|refine GG.sU ?_|refine GG.pT (fun _=>?_) (fun _=>?_)|refine GG.run ?_|refine GG.sF ?_|refine GG.sT ?_|refine GG.bT (fun _=>?_) (fun _=>?_))|refine DS.blk ?_|refine DS.block ?_|refine DS.skip ?_)|refine DS.pcS inferInstance (hc) yR yT ?_|refine DS.pcS inferInstance (hk _) yR yT ?_|(refine DS.boxF (t:=2) yU yE yU ?_;simp only[cells_agg,cells_v,cells_lst,cells_fn,map_nil'',map_cons'',copy_own,copy_lst,copy_v,copy_at,copy_agg,copy_fn,copy_ifc,copy_tup])|(refine DS.boxF (t:=3) yU yE yU ?_;simp only[cells_agg,cells_v,cells_lst,cells_fn,map_nil'',map_cons'',copy_own,copy_lst,copy_v,copy_at,copy_agg,copy_fn,copy_ifc,copy_tup])|refine DS.retT [] yE trivial ?_|fail)
    all_goals (split <;> first|rfl|(simp[tupV,h];done)|(exfalso;clear hc hk;(try clear he);grind [Form.wrong]))
   ·have he:=slEqual_pc s.suits [9,9,9]
    obtain⟨b,hb⟩: ∃b,b=decide (s.suits= [9,9,9]):=⟨_,rfl⟩
    rw[←hb]at he
    have HB:=Box.mk hb
    clear hb
    refine DC.of_run Tryd.func49 rfl Tryd.ntmps49 Tryd.results49 (by simp) (fun _ _=>?_);simp only[argV_cons,argV_nil,go_sem,Nat.zero_add,Nat.reduceAdd]
    repeat' (first|(with_reducible first|refine DS.fltS yU yU yE ?_|refine DS.opsNil ?_|refine DS.seq ?_|refine DS.regionL ?_|(refine DS.cE yE ?_;first|refine CG.p (fun _=>?_) (fun _=>?_)|refine CG.yes ?_|refine CG.no ?_)|(refine DS.gE yU yE ?_;first|refine GG.sU ?_|refine GG.pT (fun _=>?_) (fun _=>?_)|refine GG.run ?_|refine GG.sF ?_|refine GG.sT ?_|refine GG.nF (fun _=>?_) (fun _=>?_)|refine GG.bT (fun _=>?_) (fun _=>?_))|refine DS.blk ?_|refine DS.block ?_|refine DS.skip ?_)|(refine DS.bsl yU yE yE ?_;simp only[go_sem,Nat.zero_add,Nat.reduceAdd])|refine DS.pcS inferInstance (hc) yR yT ?_|refine DS.pcS inferInstance (hk _) yR yT ?_|refine DS.pcS inferInstance (he) yR yT ?_|(refine DS.boxF (t:=2) yU yE yU ?_;simp only[cells_agg,cells_v,cells_lst,cells_fn,map_nil'',map_cons'',copy_own,copy_lst,copy_v,copy_at,copy_agg,copy_fn,copy_ifc,copy_tup])|(refine DS.boxF (t:=3) yU yE yU ?_;simp only[cells_agg,cells_v,cells_lst,cells_fn,map_nil'',map_cons'',copy_own,copy_lst,copy_v,copy_at,copy_agg,copy_fn,copy_ifc,copy_tup])|refine DS.retT [] yE trivial ?_|fail)
    all_goals (have hb:=HB.out;clear HB;split <;> first|rfl|(simp[tupV,h];done)|(exfalso;clear hc hk;(try clear he);grind [Form.wrong]))
   ·refine DC.of_run Tryd.func49 rfl Tryd.ntmps49 Tryd.results49 (by simp) (fun _ _=>?_);simp only[argV_cons,argV_nil,go_sem,Nat.zero_add,Nat.reduceAdd]
    repeat' (first|(with_reducible first|refine DS.fltS yU yU yE ?_|refine DS.opsNil ?_|refine DS.seq ?_|refine DS.regionL ?_|(refine DS.cE yE ?_;first|refine CG.np (fun _=>?_) (fun _=>?_)|refine CG.yes ?_|refine CG.no ?_)|(refine DS.gE yU yE ?_;first|refine GG.pT (fun _=>?_) (fun _=>?_)|refine GG.run ?_|refine GG.sF ?_|refine GG.sT ?_|refine GG.bT (fun _=>?_) (fun _=>?_))|refine DS.blk ?_|refine DS.block ?_|refine DS.skip ?_)|refine DS.pcS inferInstance (hc) yR yT ?_|refine DS.pcS inferInstance (hk _) yR yT ?_|(refine DS.boxF (t:=2) yU yE yU ?_;simp only[cells_agg,cells_v,cells_lst,cells_fn,map_nil'',map_cons'',copy_own,copy_lst,copy_v,copy_at,copy_agg,copy_fn,copy_ifc,copy_tup])|(refine DS.boxF (t:=3) yU yE yU ?_;simp only[cells_agg,cells_v,cells_lst,cells_fn,map_nil'',map_cons'',copy_own,copy_lst,copy_v,copy_at,copy_agg,copy_fn,copy_ifc,copy_tup])|refine DS.retT [] yE trivial ?_|fail)
    all_goals (split <;> first|rfl|(simp[tupV,h];done)|(exfalso;clear hc hk;(try clear he);grind [Form.wrong]))
  ·rw[formS,if_neg (by omega),if_pos hw]
   refine DC.of_run Tryd.func49 rfl Tryd.ntmps49 Tryd.results49 (by simp) (fun _ _=>?_);simp only[argV_cons,argV_nil,go_sem,Nat.zero_add,Nat.reduceAdd]
   repeat' (first|(with_reducible first|refine DS.fltS yU yU yE ?_|refine DS.opsNil ?_|refine DS.seq ?_|refine DS.regionL ?_|(refine DS.cE yE ?_;first|refine CG.np (fun _=>?_) (fun _=>?_)|refine CG.p (fun _=>?_) (fun _=>?_)|refine CG.yes ?_|refine CG.no ?_)|(refine DS.gE yU yE ?_;first|refine GG.sU ?_|refine GG.npF (fun _=>?_) (fun _=>?_)|refine GG.pT (fun _=>?_) (fun _=>?_)|refine GG.pF (fun _=>?_) (fun _=>?_)|refine GG.run ?_|refine GG.sF ?_|refine GG.sT ?_|refine GG.bT (fun _=>?_) (fun _=>?_))|refine DS.blk ?_|refine DS.block ?_|refine DS.skip ?_)|(refine DS.bsl yU yE yE ?_;simp only[go_sem,Nat.zero_add,Nat.reduceAdd])|refine DS.pcS inferInstance (hc) yR yT ?_|refine DS.pcS inferInstance (hk _) yR yT ?_|(refine DS.boxF (t:=2) yU yE yU ?_;simp only[cells_agg,cells_v,cells_lst,cells_fn,map_nil'',map_cons'',copy_own,copy_lst,copy_v,copy_at,copy_agg,copy_fn,copy_ifc,copy_tup])|(refine DS.boxF (t:=3) yU yE yU ?_;simp only[cells_agg,cells_v,cells_lst,cells_fn,map_nil'',map_cons'',copy_own,copy_lst,copy_v,copy_at,copy_agg,copy_fn,copy_ifc,copy_tup])|refine DS.retT [] yE trivial ?_|fail)
   all_goals first|rfl|(exfalso;omega)
 ·have hc:=tcheck_pc s
  rw[formS,if_pos h0]
  refine DC.of_run Tryd.func49 rfl Tryd.ntmps49 Tryd.results49 (by simp) (fun _ _=>?_);simp only[argV_cons,argV_nil,go_sem,Nat.zero_add,Nat.reduceAdd]
  repeat' (first|(with_reducible first|refine DS.fltS yU yU yE ?_|refine DS.opsNil ?_|refine DS.seq ?_|refine DS.regionL ?_|(refine DS.cE yE ?_;refine CG.yes ?_))|refine DS.pcS inferInstance (hc) yR yT ?_|(refine DS.boxF (t:=2) yU yE yU ?_;simp only[cells_agg,cells_v,cells_lst,cells_fn,map_nil'',map_cons'',copy_own,copy_lst,copy_v,copy_at,copy_agg,copy_fn,copy_ifc,copy_tup])|(refine DS.boxF (t:=3) yU yE yU ?_;simp only[cells_agg,cells_v,cells_lst,cells_fn,map_nil'',map_cons'',copy_own,copy_lst,copy_v,copy_at,copy_agg,copy_fn,copy_ifc,copy_tup])|refine DS.retT [] yE trivial ?_|fail)
  all_goals first|rfl|(exfalso;omega)
end Go.XL
namespace Go.XL
open Go.Proofs
set_option maxRecDepth 100000
set_option maxHeartbeats 4000000
theorem formsGo_at {s:GSet} {l:List Form} {i:Nat} (hi:i<l.length):formsGo s (l.drop i)=if formS s l[i]≠0 then formS s l[i]else formsGo s (l.drop (i+1)):=by
 rw[List.drop_eq_getElem_cons hi,formsGo]
theorem forms_pc (s:GSet) (l:List Form):PC Tryd.prog 38 [s.val,formsV l] (I (formsS s l)):=by
 have hc:=tcheck_pc s
 refine DC.of_run Tryd.func38 rfl Tryd.ntmps38 Tryd.results38 (by simp) (fun _ _=>?_);simp only[argV_cons,argV_nil,go_sem,Nat.zero_add,Nat.reduceAdd]
 refine DS.bnd (t:=1) yG (.inl rfl) (fun hb1=>?_);simp only[List.length_map]at hb1
 by_cases h0:gsetS s=0
 ·rw[h0]at hc
  repeat' (first|(with_reducible first|refine DS.fltS yU yU yE ?_|refine DS.opsNil ?_|refine DS.seq ?_|refine DS.regionL ?_|(refine DS.cE yE ?_;first|refine CG.p (fun _=>?_) (fun _=>?_)|refine CG.no ?_)|refine DS.blk ?_|refine DS.block ?_|refine DS.skip ?_)|refine DS.pcS inferInstance (hc) yR yT ?_|(refine DS.boxF (t:=2) yU yE yU ?_;simp only[cells_agg,cells_v,cells_lst,cells_fn,map_nil'',map_cons'',copy_own,copy_lst,copy_v,copy_at,copy_agg,copy_fn,copy_ifc,copy_tup])|refine DS.retT [] yE trivial ?_|fail)
  all_goals try first|(rw[formsS,if_neg (by omega),if_pos (by omega)];rfl)|(rw[formsS,if_neg (by omega),if_neg (by omega),if_pos (by omega)];rfl)
  refine DS.loopK [2,22,23] yN (fun(i:Nat)=> [(24,I i)]) (fun(i:Nat)=>i≤l.length∧formsS s l=formsGo s (l.drop i)) (fun(i:Nat)=>l.length-i) 0 yS ⟨Nat.zero_le _,by rw[formsS,if_neg (by omega),if_neg (by omega),if_neg (by omega)];rfl⟩ (fun i B hI hB=>?_);try dsimp only at hI hB;simp only[app_cons',app_nil']
  have HB:=Box.mk hB
  clear hB
  obtain⟨hI,hI2⟩:=hI
  by_cases hi:(i:Int)<(l.length:Int)
  ·have hi':i<l.length:=by omega
   rw[formsGo_at hi']at hI2
   have HI:=Box.mk hI2
   clear hI2
   have hf:=form_pc s l[i]
   by_cases he:formS s l[i]=0
   ·rw[he]at hf
    repeat' (first|(with_reducible first|refine DS.fltS yU yU yE ?_|refine DS.opsNil ?_|refine DS.seq ?_|refine DS.regionL ?_|(refine DS.cE yE ?_;first|refine CG.yes ?_|refine CG.no ?_)|refine DS.blk ?_|refine DS.block ?_|refine DS.skip ?_)|(refine DS.letF (t:=7) yU yE yU (fun _=>yE) yE yU (by exact⟨by with_unfolding_all rfl,by with_unfolding_all decide⟩) (fun _=>by simp only[go_sem,Nat.reduceEqDiff,↓reduceIte]) ?_;simp only[go_sem])|refine DS.pcS inferInstance (hf) yR yT ?_|fail)
    exact DS.back (HB.out (i+1) _ _ (by omega) ⟨by omega,by rw[HI.out,if_neg (by omega)]⟩ yS yS (fun b o e=>by cases e))
   ·repeat' (first|(with_reducible first|refine DS.fltS yU yU yE ?_|refine DS.opsNil ?_|refine DS.seq ?_|refine DS.regionL ?_|(refine DS.cE yE ?_;refine CG.yes ?_)|refine DS.block ?_|refine DS.skip ?_)|(refine DS.letF (t:=7) yU yE yU (fun _=>yE) yE yU (by exact⟨by with_unfolding_all rfl,by with_unfolding_all decide⟩) (fun _=>by simp only[go_sem,Nat.reduceEqDiff,↓reduceIte]) ?_;simp only[go_sem])|refine DS.pcS inferInstance (hf) yR yT ?_|refine DS.retT [] yE trivial ?_|fail)
    all_goals first|(rw[HI.out,if_pos he];rfl)|(exfalso;omega)
  ·repeat' (first|(with_reducible first|refine DS.fltS yU yU yE ?_|refine DS.opsNil ?_|refine DS.seq ?_|refine DS.regionL ?_|(refine DS.cE yE ?_;refine CG.no ?_)|refine DS.exit yU ?_)|refine DS.retT [] yE trivial ?_|fail)
   rw[hI2,drop_end hi];rfl
 ·repeat' (first|(with_reducible first|refine DS.fltS yU yU yE ?_|refine DS.opsNil ?_|refine DS.seq ?_|refine DS.regionL ?_|(refine DS.cE yE ?_;refine CG.yes ?_))|refine DS.pcS inferInstance (hc) yR yT ?_|(refine DS.boxF (t:=2) yU yE yU ?_;simp only[cells_agg,cells_v,cells_lst,cells_fn,map_nil'',map_cons'',copy_own,copy_lst,copy_v,copy_at,copy_agg,copy_fn,copy_ifc,copy_tup])|refine DS.retT [] yE trivial ?_|fail)
  all_goals first|(rw[formsS,if_pos h0];rfl)|(exfalso;omega)
theorem othersGo_at {own many:Int} {l:List Int} {i:Nat} (hi:i<l.length) (p:Option Int):othersGo own many (l.drop i) p=if ¬(0≤l[i]∧l[i]≤many-1)then 2 else if l[i]=own then 12 else if anyO (fun q=>decide (l[i]≤q)) p=true then 11 else othersGo own many (l.drop (i+1)) (some l[i]):=by
 rw[List.drop_eq_getElem_cons hi,othersGo]
theorem others_pc (l : List Int) (own many : Int) (hm : 0 ≤ many ∧ many ≤ 1000000) : PC Tryd.prog 54 [ints l, I own, I many] (I (othersS l own many)) := by
  refine DC.of_run Tryd.func54 rfl Tryd.ntmps54 Tryd.results54 (by simp) (fun _ _ => ?_); simp only [argV_cons, argV_nil, go_sem, Nat.zero_add, Nat.reduceAdd]
  refine DS.bnd (t := 0) yG (.inl rfl) (fun hb0 => ?_); simp only [List.length_map] at hb0
  repeat' (first | (with_reducible first | refine DS.fltS yU yU yE ?_ | refine DS.opsNil ?_ | refine DS.seq ?_ | refine DS.regionL ?_ | (refine DS.cE yE ?_; refine CG.p (fun _ => ?_) (fun _ => ?_)) | refine DS.block ?_ | refine DS.skip ?_) | refine DS.retT [] yE trivial ?_ | fail)
  · simp [tupV, othersS, *]
  refine DS.loopK [0, 1, 2, 12, 13] yN (fun (i : Nat) => [(14, I i)]) (fun (i : Nat) => i ≤ l.length ∧ othersS l own many = othersGo own many (l.drop i) (prevL l i)) (fun (i : Nat) => l.length - i) 0 yS (by simp [othersS, prevL, *]) (fun i B hI hB => ?_); try dsimp only at hI hB; simp only [app_cons', app_nil']
  have HB := Box.mk hB
  clear hB
  obtain ⟨hI, hI2⟩ := hI
  by_cases hi : (i : Int) < (l.length : Int)
  · have hi' : i < l.length := by omega
    have hp : i - 1 < l.length := by omega
    rw [othersGo_at hi'] at hI2
    have HI := Box.mk hI2
    clear hI2
    repeat' (first | (with_reducible first | refine DS.fltS yU yU yE ?_ | refine DS.opsNil ?_ | refine DS.seq ?_ | refine DS.regionL ?_ | (refine DS.cE yE ?_; first | refine CG.np (fun _ => ?_) (fun _ => ?_) | refine CG.p (fun _ => ?_) (fun _ => ?_) | refine CG.yes ?_ | refine CG.no ?_) | (refine DS.gE yU yE ?_; first | refine GG.pT (fun _ => ?_) (fun _ => ?_) | refine GG.run ?_ | refine GG.sF ?_) | refine DS.blk ?_ | refine DS.block ?_ | refine DS.skip ?_) | refine DS.pcS inferInstance (hfrom_pc _ _ _) yR yT ?_ | refine DS.retT [] yE trivial ?_ | fail)
    all_goals first
      | (exfalso; omega)
      | ((try rw [prevL_zero (by assumption)] at HI); (try rw [prevL_pos (by assumption) hp] at HI); (try simp only [anyO_none, anyO_some, decide_eq_true_eq, Bool.false_eq_true, if_false] at HI)
         first
          | (rw [HI.out]; (repeat' split) <;> first | rfl | (exfalso; omega))
          | exact DS.back (HB.out (i + 1) _ _ (by omega) ⟨by omega, by rw [HI.out, prevL_succ hi']; (repeat' split) <;> first | rfl | (exfalso; omega)⟩ yS yS (fun b o e => by cases e)))
  · repeat' (first | (with_reducible first | refine DS.fltS yU yU yE ?_ | refine DS.opsNil ?_ | refine DS.seq ?_ | refine DS.regionL ?_ | (refine DS.cE yE ?_; refine CG.no ?_) | refine DS.exit yU ?_) | refine DS.retT [] yE trivial ?_ | fail)
    rw [hI2, drop_end hi]; rfl
end Go.XL
namespace Go.XL
open Go.Proofs
set_option maxRecDepth 100000
set_option maxHeartbeats 8000000
theorem kinds_bd' (s:GSet):0≤kindsS s∧kindsS s≤1000:=by
 by_cases h:gsetS s=0
 ·have:=(gset_ok h).plain
  rw[kindsS,if_neg (by omega)];omega
 ·rw[kindsS,if_pos h];omega
theorem feedsGo_at {s:GSet} {l:List Feed} {i:Nat} (hi:i<l.length):feedsGo s (l.drop i)=if(l[i].kinds.length:Int)=0 then 6 else if ascS (kindsS s) l[i].kinds≠0 then ascS (kindsS s) l[i].kinds else if ¬(1≤l[i].many∧l[i].many≤s.melds)then 2 else feedsGo s (l.drop (i+1)):=by
 rw[List.drop_eq_getElem_cons hi,feedsGo]
theorem feeds_pc (s:GSet) (l:List Feed):PC Tryd.prog 57 [s.val, .lst (l.map Feed.cells)] (I (if 4<(l.length:Int)then 8 else feedsGo s l)):=by
 have hk:=tkinds_pc s
 have hb:=kinds_bd' s
 refine DC.of_run Tryd.func57 rfl Tryd.ntmps57 Tryd.results57 (by simp) (fun _ _=>?_);simp only[argV_cons,argV_nil,go_sem,Nat.zero_add,Nat.reduceAdd]
 repeat' (first|(with_reducible first|refine DS.fltS yU yU yE ?_|refine DS.opsNil ?_|refine DS.seq ?_|refine DS.regionL ?_|(refine DS.cE yE ?_;refine CG.p (fun _=>?_) (fun _=>?_))|refine DS.block ?_|refine DS.skip ?_)|(refine DS.boxF (t:=2) yU yE yU ?_;simp only[cells_agg,cells_v,cells_lst,cells_fn,map_nil'',map_cons'',copy_own,copy_lst,copy_v,copy_at,copy_agg,copy_fn,copy_ifc,copy_tup])|refine DS.retT [] yE trivial ?_|fail)
 ·rw[if_pos (by omega)];rfl
 rename_i h4
 rw[if_neg (by omega)]
 refine DS.loopK [2,11,12] yN (fun(i:Nat)=> [(13,I i)]) (fun(i:Nat)=>i≤l.length∧feedsGo s l=feedsGo s (l.drop i)) (fun(i:Nat)=>l.length-i) 0 yS ⟨Nat.zero_le _,rfl⟩ (fun i B hI hB=>?_);try dsimp only at hI hB;simp only[app_cons',app_nil']
 have HB:=Box.mk hB
 clear hB
 obtain⟨hI,hI2⟩:=hI
 by_cases hi:(i:Int)<(l.length:Int)
 ·have hi':i<l.length:=by omega
  rw[feedsGo_at hi']at hI2
  have HI:=Box.mk hI2
  clear hI2
  have hr:=hrising_pc (kindsS s) l[i].kinds hb
  by_cases h1:(l[i].kinds.length:Int)=0
  ·repeat' (first|(with_reducible first|refine DS.fltS yU yU yE ?_|refine DS.opsNil ?_|refine DS.seq ?_|refine DS.regionL ?_|(refine DS.cE yE ?_;refine CG.yes ?_)|refine DS.block ?_|refine DS.skip ?_)|(refine DS.letF (t:=6) yU yE yU (fun _=>yE) yE yU (by exact⟨by with_unfolding_all rfl,by with_unfolding_all decide⟩) (fun _=>by simp only[go_sem,Nat.reduceEqDiff,↓reduceIte]) ?_;simp only[go_sem])|refine DS.retT [] yE trivial ?_|fail)
   all_goals first|(rw[HI.out,if_pos h1];rfl)|(exfalso;omega)
  ·by_cases h2:ascS (kindsS s) l[i].kinds=0
   ·rw[h2]at hr
    repeat' (first|(with_reducible first|refine DS.fltS yU yU yE ?_|refine DS.opsNil ?_|refine DS.seq ?_|refine DS.regionL ?_|(refine DS.cE yE ?_;first|refine CG.np (fun _=>?_) (fun _=>?_)|refine CG.yes ?_|refine CG.no ?_)|refine DS.blk ?_|refine DS.block ?_|refine DS.skip ?_)|(refine DS.letF (t:=6) yU yE yU (fun _=>yE) yE yU (by exact⟨by with_unfolding_all rfl,by with_unfolding_all decide⟩) (fun _=>by simp only[go_sem,Nat.reduceEqDiff,↓reduceIte]) ?_;simp only[go_sem])|refine DS.pcS inferInstance (hr) yR yT ?_|refine DS.pcS inferInstance (hfrom_pc _ _ _) yR yT ?_|refine DS.drawL (id:=8) [0,1,2,3] 4 (by kernel_rfl) mixed (by simp only[pickL_cons,pickL_nil,get_zero',get_cons',pickO_some];exact rfl) (by simp only[drop_zero',drop_cons',List.drop_nil];exact rfl) ?_|(with_reducible first|refine DD.fltS yU yU yU yE ?_|refine DD.nil0 ?_)|refine DD.pcV0 inferInstance (hk) yU yT ?_|refine DS.retT [] yE trivial ?_|fail)
    all_goals first
     | (exfalso;omega)
     | (rw[HI.out,if_neg h1,if_neg (by omega),if_pos (by omega)];rfl)
     | exact DS.back (HB.out (i+1) _ _ (by omega) ⟨by omega,by rw[HI.out,if_neg h1,if_neg (by omega),if_neg (by omega)]⟩ yS yS (fun b o e=>by cases e))
   ·repeat' (first|(with_reducible first|refine DS.fltS yU yU yE ?_|refine DS.opsNil ?_|refine DS.seq ?_|refine DS.regionL ?_|(refine DS.cE yE ?_;first|refine CG.yes ?_|refine CG.no ?_)|refine DS.block ?_|refine DS.skip ?_)|(refine DS.letF (t:=6) yU yE yU (fun _=>yE) yE yU (by exact⟨by with_unfolding_all rfl,by with_unfolding_all decide⟩) (fun _=>by simp only[go_sem,Nat.reduceEqDiff,↓reduceIte]) ?_;simp only[go_sem])|refine DS.pcS inferInstance (hr) yR yT ?_|refine DS.drawL (id:=8) [0,1,2,3] 4 (by kernel_rfl) mixed (by simp only[pickL_cons,pickL_nil,get_zero',get_cons',pickO_some];exact rfl) (by simp only[drop_zero',drop_cons',List.drop_nil];exact rfl) ?_|(with_reducible first|refine DD.fltS yU yU yU yE ?_|refine DD.nil0 ?_)|refine DD.pcV0 inferInstance (hk) yU yT ?_|refine DS.retT [] yE trivial ?_|fail)
    all_goals first|(rw[HI.out,if_neg h1,if_pos h2];rfl)|(exfalso;omega)
 ·repeat' (first|(with_reducible first|refine DS.fltS yU yU yE ?_|refine DS.opsNil ?_|refine DS.seq ?_|refine DS.regionL ?_|(refine DS.cE yE ?_;refine CG.no ?_)|refine DS.exit yU ?_)|refine DS.retT [] yE trivial ?_|fail)
  rw[hI2,drop_end hi];rfl
theorem places_in {l:List Int} (h:placesB l=true): ∀x∈l,-1000000≤x∧x≤1000000:=fun x hx=>by
 simp only[placesB,List.all_eq_true]at h
 have:=h x hx
 simpa using this
theorem pay_pc (s:GSet) (p:Pay):PC Tryd.prog 43 [s.val,p.val] (I (payS s p)):=by
 have hc:=tcheck_pc s
 by_cases h0:gsetS s=0
 ·have hpl:=(gset_ok h0).players
  rw[h0]at hc
  have hf:=feeds_pc s p.feeds
  have ha1:=hall_pc 0 1000000 [p.basic,p.counter,p.stick,p.pool,p.foul,p.start]
  have ha2:=hall_pc (-1000000) 1000000 p.places
  have e1:([p.basic,p.counter,p.stick,p.pool,p.foul,p.start].all fun n=>decide (0≤n∧n≤1000000))=(ptB p.basic&&ptB p.counter&&ptB p.stick&&ptB p.pool&&ptB p.foul&&ptB p.start):=by
   simp[ptB,Bool.and_assoc]
  have e2:(p.places.all fun n=>decide (-1000000≤n∧n≤1000000))=placesB p.places:=rfl
  rw[e1]at ha1
  rw[e2]at ha2
  clear e1 e2
  have hpay:payS s p=if ¬(1≤p.mode∧p.mode≤3)then 4 else
   if(ptB p.basic&&ptB p.counter&&ptB p.stick&&ptB p.pool&&ptB p.foul&&ptB p.start)=false then 2 else if p.pool % 6≠0 then 2 else if ¬(1≤p.rounds∧p.rounds≤16)then 2 else if ¬(0≤p.stay∧p.stay≤7)then 2 else
   if 0<(p.places.length:Int)∧(p.places.length:Int)≠s.players then 3 else if placesB p.places=false then 2 else if sumI p.places≠0 then 12 else
   if 4<(p.feeds.length:Int)then 8 else feedsGo s p.feeds:=by rw[payS,if_neg (by omega)]
  have hpool:(ptB p.basic&&ptB p.counter&&ptB p.stick&&ptB p.pool&&ptB p.foul&&ptB p.start)=true→0≤p.pool:=by
   simp only[ptB,Bool.and_eq_true,decide_eq_true_eq];omega
  have hin:=fun h=>places_in (l:=p.places) h
  generalize (ptB p.basic&&ptB p.counter&&ptB p.stick&&ptB p.pool&&ptB p.foul&&ptB p.start)=B1 at *
  generalize placesB p.places=B2 at *
  rw[hpay]
  clear hpay
  by_cases hm:1≤p.mode∧p.mode≤3
  ·rw[if_neg (by omega)]
   cases B1 with
   | false =>
    rw[if_pos rfl]
    refine DC.of_run Tryd.func43 rfl Tryd.ntmps43 Tryd.results43 (by simp) (fun _ _=>?_);simp only[argV_cons,argV_nil,go_sem,Nat.zero_add,Nat.reduceAdd]
    repeat' (first|(with_reducible first|refine DS.fltS yU yU yE ?_|refine DS.opsNil ?_|refine DS.seq ?_|refine DS.regionL ?_|(refine DS.cE yE ?_;first|refine CG.yes ?_|refine CG.no ?_)|(refine DS.gE yU yE ?_;refine GG.sT ?_)|refine DS.skip ?_)|(refine DS.bsl yU yE yE ?_;simp only[go_sem,Nat.zero_add,Nat.reduceAdd])|refine DS.pcS inferInstance (hc) yR yF ?_|refine DS.pcS inferInstance (hfrom_pc _ _ _) yR yF ?_|refine DS.pcS inferInstance (ha1) yR yF ?_|(refine DS.boxF (t:=2) yU yE yU ?_;simp only[cells_agg,cells_v,cells_lst,cells_fn,map_nil'',map_cons'',copy_own,copy_lst,copy_v,copy_at,copy_agg,copy_fn,copy_ifc,copy_tup])|(refine DS.boxF (t:=3) yU yE yU ?_;simp only[cells_agg,cells_v,cells_lst,cells_fn,map_nil'',map_cons'',copy_own,copy_lst,copy_v,copy_at,copy_agg,copy_fn,copy_ifc,copy_tup])|refine DS.retT [] yE trivial ?_|fail)
    all_goals first|rfl|(exfalso;omega)
   | true =>
    rw[if_neg (by decide)]
    have ht:p.pool.tmod 6=p.pool % 6:=Int.tmod_eq_emod_of_nonneg (hpool rfl)
    have ht2:=Int.emod_nonneg p.pool (show(6:Int)≠0 by decide)
    clear hpool
    by_cases hx:p.pool % 6=0∧(1≤p.rounds∧p.rounds≤16)∧(0≤p.stay∧p.stay≤7)
    ·obtain⟨hx1,hx2,hx3⟩:=hx
     rw[if_neg (by omega),if_neg (by omega),if_neg (by omega)]
     have ht3: ¬(0:Int)<p.pool % 6:=by omega
     clear hx1 ht2
     by_cases hx4:0<(p.places.length:Int)∧(p.places.length:Int)≠s.players
     ·rw[if_pos hx4]
      obtain⟨hx5,hx6⟩:=hx4
      refine DC.of_run Tryd.func43 rfl Tryd.ntmps43 Tryd.results43 (by simp) (fun _ _=>?_);simp only[argV_cons,argV_nil,go_sem,Nat.zero_add,Nat.reduceAdd]
      repeat' (first|(with_reducible first|refine DS.fltS yU yU yE ?_|refine DS.opsNil ?_|refine DS.seq ?_|refine DS.regionL ?_|(refine DS.cE yE ?_;first|refine CG.yes ?_|refine CG.no ?_)|(refine DS.gE yU yE ?_;refine GG.run ?_)|refine DS.skip ?_)|(refine DS.bsl yU yE yE ?_;simp only[go_sem,Nat.zero_add,Nat.reduceAdd])|refine DS.pcS inferInstance (hc) yR yF ?_|refine DS.pcS inferInstance (hfrom_pc _ _ _) yR yF ?_|refine DS.pcS inferInstance (ha1) yR yF ?_|(refine DS.boxF (t:=2) yU yE yU ?_;simp only[cells_agg,cells_v,cells_lst,cells_fn,map_nil'',map_cons'',copy_own,copy_lst,copy_v,copy_at,copy_agg,copy_fn,copy_ifc,copy_tup])|(refine DS.boxF (t:=3) yU yE yU ?_;simp only[cells_agg,cells_v,cells_lst,cells_fn,map_nil'',map_cons'',copy_own,copy_lst,copy_v,copy_at,copy_agg,copy_fn,copy_ifc,copy_tup])|refine DS.retT [] yE trivial ?_|fail)
      all_goals first|rfl|(exfalso;omega)
     ·rw[if_neg hx4]
      cases B2 with
      | false =>
       rw[if_pos rfl]
       refine DC.of_run Tryd.func43 rfl Tryd.ntmps43 Tryd.results43 (by simp) (fun _ _=>?_);simp only[argV_cons,argV_nil,go_sem,Nat.zero_add,Nat.reduceAdd]
       repeat' (first|(with_reducible first|refine DS.fltS yU yU yE ?_|refine DS.opsNil ?_|refine DS.seq ?_|refine DS.regionL ?_|(refine DS.cE yE ?_;first|refine CG.np (fun _=>?_) (fun _=>?_)|refine CG.yes ?_|refine CG.no ?_)|(refine DS.gE yU yE ?_;first|refine GG.pT (fun _=>?_) (fun _=>?_)|refine GG.run ?_|refine GG.sF ?_)|refine DS.skip ?_)|(refine DS.bsl yU yE yE ?_;simp only[go_sem,Nat.zero_add,Nat.reduceAdd])|refine DS.pcS inferInstance (hc) yR yF ?_|refine DS.pcS inferInstance (hfrom_pc _ _ _) yR yF ?_|refine DS.pcS inferInstance (ha1) yR yF ?_|refine DS.pcS inferInstance (ha2) yR yF ?_|(refine DS.boxF (t:=2) yU yE yU ?_;simp only[cells_agg,cells_v,cells_lst,cells_fn,map_nil'',map_cons'',copy_own,copy_lst,copy_v,copy_at,copy_agg,copy_fn,copy_ifc,copy_tup])|(refine DS.boxF (t:=3) yU yE yU ?_;simp only[cells_agg,cells_v,cells_lst,cells_fn,map_nil'',map_cons'',copy_own,copy_lst,copy_v,copy_at,copy_agg,copy_fn,copy_ifc,copy_tup])|refine DS.retT [] yE trivial ?_|fail)
       all_goals first|rfl|(exfalso;omega)
      | true =>
       rw[if_neg (by decide)]
       have hin:=hin rfl
       have hl:(p.places.length:Int)≤4:=by omega
       have hx5:=Box.mk hx4
       clear hx4
       refine DC.of_run Tryd.func43 rfl Tryd.ntmps43 Tryd.results43 (by simp) (fun _ _=>?_);simp only[argV_cons,argV_nil,go_sem,Nat.zero_add,Nat.reduceAdd]
       repeat' (first|(with_reducible first|refine DS.fltS yU yU yE ?_|refine DS.opsNil ?_|refine DS.seq ?_|refine DS.regionL ?_|(refine DS.cE yE ?_;first|refine CG.np (fun _=>?_) (fun _=>?_)|refine CG.no ?_)|(refine DS.gE yU yE ?_;first|refine GG.pT (fun _=>?_) (fun _=>?_)|refine GG.run ?_|refine GG.sF ?_)|refine DS.block ?_|refine DS.skip ?_)|(refine DS.bsl yU yE yE ?_;simp only[go_sem,Nat.zero_add,Nat.reduceAdd])|refine DS.pcS inferInstance (hc) yR yF ?_|refine DS.pcS inferInstance (hfrom_pc _ _ _) yR yF ?_|refine DS.pcS inferInstance (ha1) yR yF ?_|refine DS.pcS inferInstance (ha2) yR yF ?_|(refine DS.boxF (t:=2) yU yE yU ?_;simp only[cells_agg,cells_v,cells_lst,cells_fn,map_nil'',map_cons'',copy_own,copy_lst,copy_v,copy_at,copy_agg,copy_fn,copy_ifc,copy_tup])|(refine DS.boxF (t:=3) yU yE yU ?_;simp only[cells_agg,cells_v,cells_lst,cells_fn,map_nil'',map_cons'',copy_own,copy_lst,copy_v,copy_at,copy_agg,copy_fn,copy_ifc,copy_tup])|refine DS.retT [] yE trivial ?_|fail)
       all_goals try (exfalso;have:=hx5.out;omega)
       ·refine DS.loopK [2,3,68,69] yN (fun(z:Nat×Int)=> [(6,I z.2),(70,I z.1)]) (fun(z:Nat×Int)=>z.1≤p.places.length∧z.2=sumI (p.places.take z.1)) (fun(z:Nat×Int)=>p.places.length-z.1) (0,0) yS ⟨Nat.zero_le _,rfl⟩ (fun z B hI hB=>?_);try dsimp only at hI hB;simp only[app_cons',app_nil']
        have HB:=Box.mk hB
        clear hB
        obtain⟨i,kk⟩:=z
        dsimp only at hI ⊢
        obtain⟨hI,hI1⟩:=hI
        have hbd:=sumI_bd (l:=p.places.take i) (lo := -1000000) (hi:=1000000) fun x hx=>hin x (List.mem_of_mem_take hx)
        rw[List.length_take,Nat.min_eq_left hI,←hI1]at hbd
        have H1:=Box.mk hI1
        clear hI1
        by_cases hi:(i:Int)<s.players
        ·have hi':i<p.places.length:=by omega
         have hx:=hin _ (List.getElem_mem hi')
         have e:=sumI_take hi'
         have H2:=Box.mk e
         clear e
         repeat' (first|(with_reducible first|refine DS.fltS yU yU yE ?_|refine DS.opsNil ?_|refine DS.seq ?_|refine DS.regionL ?_|(refine DS.cE yE ?_;refine CG.yes ?_)|refine DS.blk ?_|refine DS.block ?_|refine DS.skip ?_)|fail)
         exact DS.back (HB.out (i+1,kk+p.places[i]) _ _ (by dsimp only;omega) ⟨by dsimp only;omega,by dsimp only;rw[H2.out,H1.out]⟩ yS yS (fun b o e=>by cases e))
        ·have e:kk=sumI p.places:=by rw[H1.out,List.take_of_length_le (by omega)]
         rw[←e]
         clear e
         repeat' (first|(with_reducible first|refine DS.fltS yU yU yE ?_|refine DS.opsNil ?_|refine DS.seq ?_|refine DS.regionL ?_|(refine DS.cE yE ?_;first|refine CG.np (fun _=>?_) (fun _=>?_)|refine CG.no ?_)|refine DS.exit yU ?_|refine DS.skip ?_)|refine DS.pcS inferInstance (hf) yR yT ?_|refine DS.retT [] yE trivial ?_|fail)
         all_goals first
          | (rw[if_pos (show kk≠0 by omega)];rfl)
          | (rw[if_neg (show ¬kk≠0 by omega)];first|rfl|(rw[if_pos (by omega)];rfl)|(rw[if_neg (by omega)];rfl))
       ·refine DS.loopK [2,3,68,69] yN (fun(z:Nat×Int)=> [(6,I z.2),(70,I z.1)]) (fun(z:Nat×Int)=>z.1≤p.places.length∧z.2=sumI (p.places.take z.1)) (fun(z:Nat×Int)=>p.places.length-z.1) (0,0) yS ⟨Nat.zero_le _,rfl⟩ (fun z B hI hB=>?_);try dsimp only at hI hB;simp only[app_cons',app_nil']
        have HB:=Box.mk hB
        clear hB
        obtain⟨i,kk⟩:=z
        dsimp only at hI ⊢
        obtain⟨hI,hI1⟩:=hI
        have hbd:=sumI_bd (l:=p.places.take i) (lo := -1000000) (hi:=1000000) fun x hx=>hin x (List.mem_of_mem_take hx)
        rw[List.length_take,Nat.min_eq_left hI,←hI1]at hbd
        have H1:=Box.mk hI1
        clear hI1
        by_cases hi:(i:Int)<(p.places.length:Int)
        ·exfalso;omega
        ·have e:kk=sumI p.places:=by rw[H1.out,List.take_of_length_le (by omega)]
         rw[←e]
         clear e
         repeat' (first|(with_reducible first|refine DS.fltS yU yU yE ?_|refine DS.opsNil ?_|refine DS.seq ?_|refine DS.regionL ?_|(refine DS.cE yE ?_;first|refine CG.np (fun _=>?_) (fun _=>?_)|refine CG.no ?_)|refine DS.exit yU ?_|refine DS.skip ?_)|refine DS.pcS inferInstance (hf) yR yT ?_|refine DS.retT [] yE trivial ?_|fail)
         all_goals first
          | (rw[if_pos (show kk≠0 by omega)];rfl)
          | (rw[if_neg (show ¬kk≠0 by omega)];first|rfl|(rw[if_pos (by omega)];rfl)|(rw[if_neg (by omega)];rfl))
    ·have e:(if p.pool % 6≠0 then(2:Int)else if ¬(1≤p.rounds∧p.rounds≤16)then 2 else if ¬(0≤p.stay∧p.stay≤7)then 2 else
   if 0<(p.places.length:Int)∧(p.places.length:Int)≠s.players then 3 else if B2=false then 2 else if sumI p.places≠0 then 12 else
   if 4<(p.feeds.length:Int)then 8 else feedsGo s p.feeds)=2:=by
      by_cases a1:p.pool % 6=0
      ·by_cases a2:1≤p.rounds∧p.rounds≤16
       ·rw[if_neg (by omega),if_neg (by omega),if_pos (by omega)]
       ·rw[if_neg (by omega),if_pos (by omega)]
      ·rw[if_pos a1]
     rw[e]
     refine DC.of_run Tryd.func43 rfl Tryd.ntmps43 Tryd.results43 (by simp) (fun _ _=>?_);simp only[argV_cons,argV_nil,go_sem,Nat.zero_add,Nat.reduceAdd]
     repeat' (first|(with_reducible first|refine DS.fltS yU yU yE ?_|refine DS.opsNil ?_|refine DS.seq ?_|refine DS.regionL ?_|(refine DS.cE yE ?_;first|refine CG.np (fun _=>?_) (fun _=>?_)|refine CG.yes ?_|refine CG.no ?_|refine CG.nb (fun _=>?_) (fun _=>?_))|(refine DS.gE yU yE ?_;first|refine GG.npF (fun _=>?_) (fun _=>?_)|refine GG.pT (fun _=>?_) (fun _=>?_)|refine GG.pF (fun _=>?_) (fun _=>?_)|refine GG.run ?_|refine GG.sF ?_|refine GG.sT ?_)|refine DS.block ?_|refine DS.skip ?_)|(refine DS.bsl yU yE yE ?_;simp only[go_sem,Nat.zero_add,Nat.reduceAdd])|refine DS.pcS inferInstance (hc) yR yF ?_|refine DS.pcS inferInstance (hfrom_pc _ _ _) yR yF ?_|refine DS.pcS inferInstance (ha1) yR yF ?_|refine DS.pcS inferInstance (ha2) yR yF ?_|(refine DS.boxF (t:=2) yU yE yU ?_;simp only[cells_agg,cells_v,cells_lst,cells_fn,map_nil'',map_cons'',copy_own,copy_lst,copy_v,copy_at,copy_agg,copy_fn,copy_ifc,copy_tup])|(refine DS.boxF (t:=3) yU yE yU ?_;simp only[cells_agg,cells_v,cells_lst,cells_fn,map_nil'',map_cons'',copy_own,copy_lst,copy_v,copy_at,copy_agg,copy_fn,copy_ifc,copy_tup])|refine DS.retT [] yE trivial ?_|fail)
     all_goals first|rfl|(exfalso;omega)
  ·rw[if_pos hm]
   refine DC.of_run Tryd.func43 rfl Tryd.ntmps43 Tryd.results43 (by simp) (fun _ _=>?_);simp only[argV_cons,argV_nil,go_sem,Nat.zero_add,Nat.reduceAdd]
   repeat' (first|(with_reducible first|refine DS.fltS yU yU yE ?_|refine DS.opsNil ?_|refine DS.seq ?_|refine DS.regionL ?_|(refine DS.cE yE ?_;first|refine CG.yes ?_|refine CG.no ?_)|refine DS.skip ?_)|refine DS.pcS inferInstance (hc) yR yF ?_|refine DS.pcS inferInstance (hfrom_pc _ _ _) yR yF ?_|(refine DS.boxF (t:=2) yU yE yU ?_;simp only[cells_agg,cells_v,cells_lst,cells_fn,map_nil'',map_cons'',copy_own,copy_lst,copy_v,copy_at,copy_agg,copy_fn,copy_ifc,copy_tup])|(refine DS.boxF (t:=3) yU yE yU ?_;simp only[cells_agg,cells_v,cells_lst,cells_fn,map_nil'',map_cons'',copy_own,copy_lst,copy_v,copy_at,copy_agg,copy_fn,copy_ifc,copy_tup])|refine DS.retT [] yE trivial ?_|fail)
   all_goals first|rfl|(exfalso;omega)
 ·rw[payS,if_pos h0]
  refine DC.of_run Tryd.func43 rfl Tryd.ntmps43 Tryd.results43 (by simp) (fun _ _=>?_);simp only[argV_cons,argV_nil,go_sem,Nat.zero_add,Nat.reduceAdd]
  repeat' (first|(with_reducible first|refine DS.fltS yU yU yE ?_|refine DS.opsNil ?_|refine DS.seq ?_|refine DS.regionL ?_|(refine DS.cE yE ?_;refine CG.yes ?_))|refine DS.pcS inferInstance (hc) yR yT ?_|(refine DS.boxF (t:=2) yU yE yU ?_;simp only[cells_agg,cells_v,cells_lst,cells_fn,map_nil'',map_cons'',copy_own,copy_lst,copy_v,copy_at,copy_agg,copy_fn,copy_ifc,copy_tup])|(refine DS.boxF (t:=3) yU yE yU ?_;simp only[cells_agg,cells_v,cells_lst,cells_fn,map_nil'',map_cons'',copy_own,copy_lst,copy_v,copy_at,copy_agg,copy_fn,copy_ifc,copy_tup])|refine DS.retT [] yE trivial ?_|fail)
  all_goals first|rfl|(exfalso;omega)
def rowP (p:Play) (j:Nat):Int×Int×Int:= [(p.heads,1,3),(p.last,0,144),(p.rob,0,2),(p.kongs,0,16),(p.nines,0,34),(p.time,1,1000),(p.foul,1,2),(p.indicators,0,5)].getD j (0,0,0)
abbrev tabP (p:Play):List V:= [I p.heads,I 1,I 3,I p.last,I 0,I 144,I p.rob,I 0,I 2,I p.kongs,I 0,I 16,I p.nines,I 0,I 34,I p.time,I 1,I 1000,I p.foul,I 1,I 2,I p.indicators,I 0,I 5]
theorem tabP_row (p:Play): ∀(j:Nat),j<8→(((tabP p).drop ((j:Int).toNat*3)).take 3).map V.peek= [I (rowP p j).1,I (rowP p j).2.1,I (rowP p j).2.2]
 | 0,_=>rfl
 | 1,_=>rfl
 | 2,_=>rfl
 | 3,_=>rfl
 | 4,_=>rfl
 | 5,_=>rfl
 | 6,_=>rfl
 | 7,_=>rfl
 | _+8,h=>by omega
theorem play_tab {s:GSet} {p:Play} (h0:gsetS s=0) :
  (∀j,j<8→(rowP p j).2.1≤(rowP p j).1∧(rowP p j).1≤(rowP p j).2.2)∨playS s p=2:=by
 rw[playS,if_neg (by omega)]
 by_cases a1:1≤p.heads∧p.heads≤3
 ·rw[if_neg (by omega)]
  by_cases a2:0≤p.last∧p.last≤144
  ·rw[if_neg (by omega)]
   by_cases a3:0≤p.rob∧p.rob≤2
   ·rw[if_neg (by omega)]
    by_cases a4:0≤p.kongs∧p.kongs≤16
    ·rw[if_neg (by omega)]
     by_cases a5:0≤p.nines∧p.nines≤34
     ·rw[if_neg (by omega)]
      by_cases a6:1≤p.time∧p.time≤1000
      ·rw[if_neg (by omega)]
       by_cases a7:1≤p.foul∧p.foul≤2
       ·rw[if_neg (by omega)]
        by_cases a8:0≤p.indicators∧p.indicators≤5
        ·refine .inl fun j hj=>?_
         match j,hj with
         | 0,_=>exact a1
         | 1,_=>exact a2
         | 2,_=>exact a3
         | 3,_=>exact a4
         | 4,_=>exact a5
         | 5,_=>exact a6
         | 6,_=>exact a7
         | 7,_=>exact a8
        ·right;rw[if_pos a8]
       ·right;rw[if_pos a7]
      ·right;rw[if_pos a6]
     ·right;rw[if_pos a5]
    ·right;rw[if_pos a4]
   ·right;rw[if_pos a3]
  ·right;rw[if_pos a2]
 ·right;rw[if_pos a1]
theorem play_in {s:GSet} {p:Play} (h0:gsetS s=0) (h: ∀j,j<8→(rowP p j).2.1≤(rowP p j).1∧(rowP p j).1≤(rowP p j).2.2):playS s p=if 2*p.indicators > s.dead then 6 else 0:=by
 have a1:1≤p.heads∧p.heads≤3:=h 0 (by omega)
 have a2:0≤p.last∧p.last≤144:=h 1 (by omega)
 have a3:0≤p.rob∧p.rob≤2:=h 2 (by omega)
 have a4:0≤p.kongs∧p.kongs≤16:=h 3 (by omega)
 have a5:0≤p.nines∧p.nines≤34:=h 4 (by omega)
 have a6:1≤p.time∧p.time≤1000:=h 5 (by omega)
 have a7:1≤p.foul∧p.foul≤2:=h 6 (by omega)
 have a8:0≤p.indicators∧p.indicators≤5:=h 7 (by omega)
 rw[playS,if_neg (by omega),if_neg (by omega),if_neg (by omega),if_neg (by omega),if_neg (by omega),if_neg (by omega),if_neg (by omega),if_neg (by omega),if_neg (by omega)]
theorem play_pc (s:GSet) (p:Play):PC Tryd.prog 45 [s.val,p.val] (I (playS s p)):=by
 have hc:=tcheck_pc s
 by_cases h0:gsetS s=0
 ·rw[h0]at hc
  have HT:=Box.mk (And.intro (play_tab (p:=p) h0) (play_in (p:=p) h0))
  refine DC.of_run Tryd.func45 rfl Tryd.ntmps45 Tryd.results45 (by simp) (fun _ _=>?_);simp only[argV_cons,argV_nil,go_sem,Nat.zero_add,Nat.reduceAdd]
  repeat' (first|(with_reducible first|refine DS.fltS yU yU yE ?_|refine DS.opsNil ?_|refine DS.seq ?_|refine DS.regionL ?_|(refine DS.cE yE ?_;refine CG.no ?_)|refine DS.block ?_|refine DS.skip ?_)|refine DS.pcS inferInstance (hc) yR yT ?_|(refine DS.boxF (t:=2) yU yE yU ?_;simp only[cells_agg,cells_v,cells_lst,cells_fn,map_nil'',map_cons'',copy_own,copy_lst,copy_v,copy_at,copy_agg,copy_fn,copy_ifc,copy_tup])|(refine DS.boxF (t:=3) yU yE yU ?_;simp only[cells_agg,cells_v,cells_lst,cells_fn,map_nil'',map_cons'',copy_own,copy_lst,copy_v,copy_at,copy_agg,copy_fn,copy_ifc,copy_tup])|fail)
  refine DS.loopK [2,3,37] yN (fun(j:Nat)=> [(38,I j)]) (fun(j:Nat)=>j≤8∧ ∀m,m<j→(rowP p m).2.1≤(rowP p m).1∧(rowP p m).1≤(rowP p m).2.2) (fun(j:Nat)=>8-j) 0 yS ⟨Nat.zero_le _,fun m h=>by omega⟩ (fun j B hI hB=>?_);try dsimp only at hI hB;simp only[app_cons',app_nil']
  obtain⟨hJ,hJ2⟩:=hI
  have HJ:=Box.mk (And.intro hJ2 hB)
  clear hJ2 hB
  by_cases hj:(j:Int)<8
  ·repeat' (first|(with_reducible first|refine DS.fltS yU yU yE ?_|refine DS.opsNil ?_|refine DS.seq ?_|refine DS.regionL ?_|(refine DS.cE yE ?_;refine CG.yes ?_)|refine DS.block ?_|refine DS.skip ?_)|fail)
   refine DS.indexA (e:=120) (m:=3) (c:=tabP p) (by decide) (by kernel_rfl) (by kernel_rfl) yH yH (Int.natCast_nonneg _) hj (by show(j:Int).toNat*3+3≤24;omega) ?_
   rw[tabP_row p j (by omega)]
   generalize hq:rowP p j=q at *
   obtain⟨x,lo,hi2⟩:=q
   dsimp only
   by_cases hok:lo≤x∧x≤hi2
   ·repeat' (first|(with_reducible first|refine DS.fltS yU yU yE ?_|refine DS.opsNil ?_|refine DS.seq ?_|refine DS.regionL ?_|(refine DS.cE yE ?_;refine CG.no ?_)|refine DS.blk ?_|refine DS.skip ?_)|(refine DS.letF (t:=7) yU yE yU (fun _=>yE) yE yU (by exact⟨by with_unfolding_all rfl,by with_unfolding_all decide⟩) (fun _=>by simp only[go_sem,Nat.reduceEqDiff,↓reduceIte]) ?_;simp only[go_sem])|refine DS.pcS inferInstance (hfrom_pc _ _ _) yR yT ?_|fail)
    all_goals first
     | exact DS.back (HJ.out.2 (j+1) _ _ (by omega) ⟨by omega,fun m hm=>if h:m=j then(by subst h;rw[hq];exact hok)else HJ.out.1 m (by omega)⟩ yS yS (fun b o e=>by cases e))
     | (exfalso;omega)
   ·have e:playS s p=2:=HT.out.1.resolve_left fun h=>hok (by have:=h j (by omega);rw[hq]at this;exact this)
    rw[e]
    repeat' (first|(with_reducible first|refine DS.fltS yU yU yE ?_|refine DS.opsNil ?_|refine DS.seq ?_|refine DS.regionL ?_|(refine DS.cE yE ?_;refine CG.yes ?_))|(refine DS.letF (t:=7) yU yE yU (fun _=>yE) yE yU (by exact⟨by with_unfolding_all rfl,by with_unfolding_all decide⟩) (fun _=>by simp only[go_sem,Nat.reduceEqDiff,↓reduceIte]) ?_;simp only[go_sem])|refine DS.pcS inferInstance (hfrom_pc _ _ _) yR yT ?_|refine DS.retT [] yE trivial ?_|fail)
    all_goals first|rfl|(exfalso;omega)
  ·have h4: ∀j,j<8→(rowP p j).2.1≤(rowP p j).1∧(rowP p j).1≤(rowP p j).2.2:=fun m hm=>HJ.out.1 m (by omega)
   have e:=HT.out.2 h4
   have a8:0≤p.indicators∧p.indicators≤5:=h4 7 (by omega)
   rw[e]
   clear HT HJ e h4
   repeat' (first|(with_reducible first|refine DS.fltS yU yU yE ?_|refine DS.opsNil ?_|refine DS.seq ?_|refine DS.regionL ?_|(refine DS.cE yE ?_;first|refine CG.p (fun _=>?_) (fun _=>?_)|refine CG.no ?_)|refine DS.exit yU ?_|refine DS.skip ?_)|refine DS.retT [] yE trivial ?_|fail)
   ·rw[if_pos (by omega)];rfl
   ·rw[if_neg (by omega)];rfl
 ·rw[playS,if_pos h0]
  refine DC.of_run Tryd.func45 rfl Tryd.ntmps45 Tryd.results45 (by simp) (fun _ _=>?_);simp only[argV_cons,argV_nil,go_sem,Nat.zero_add,Nat.reduceAdd]
  repeat' (first|(with_reducible first|refine DS.fltS yU yU yE ?_|refine DS.opsNil ?_|refine DS.seq ?_|refine DS.regionL ?_|(refine DS.cE yE ?_;refine CG.yes ?_))|refine DS.pcS inferInstance (hc) yR yT ?_|(refine DS.boxF (t:=2) yU yE yU ?_;simp only[cells_agg,cells_v,cells_lst,cells_fn,map_nil'',map_cons'',copy_own,copy_lst,copy_v,copy_at,copy_agg,copy_fn,copy_ifc,copy_tup])|(refine DS.boxF (t:=3) yU yE yU ?_;simp only[cells_agg,cells_v,cells_lst,cells_fn,map_nil'',map_cons'',copy_own,copy_lst,copy_v,copy_at,copy_agg,copy_fn,copy_ifc,copy_tup])|refine DS.retT [] yE trivial ?_|fail)
  all_goals first|rfl|(exfalso;omega)
end Go.XL
namespace Go.Proofs
open Go.Shelf
def Tryd.lays160_ren :Go.Shelf.Ren:=⟨fun|160=>61|232=>69|231=>68|227=>70|234=>72|233=>71|236=>74|235=>73|228=>77|271=>80|151=>79|197=>78|120=>83|152=>82|260=>81|137=>84|119=>85|224=>86|225=>87|217=>88|266=>89|n=>n,fun|9=>9|4=>4|3=>3|5=>5|117=>136|116=>135|0=>0|124=>139|21=>21|105=>142|46=>66|119=>146|139=>149|138=>148|n=>n,fun|3=>2|4=>3|n=>n⟩
theorem Tryd.lays160 :Go.Proofs.Lays.n160 Tryd.prog Tryd.lays160_ren:={
 mixed:=by kernel_rfl
 f119:=Tryd.func85.trans (congrArg some (by kernel_rfl))
 f120:=Tryd.func83.trans (congrArg some (by kernel_rfl))
 f137:=Tryd.func84.trans (congrArg some (by kernel_rfl))
 f151:=Tryd.func79.trans (congrArg some (by kernel_rfl))
 f152:=Tryd.func82.trans (congrArg some (by kernel_rfl))
 f160:=Tryd.func61.trans (congrArg some (by kernel_rfl))
 f197:=Tryd.func78.trans (congrArg some (by kernel_rfl))
 f217:=Tryd.func88.trans (congrArg some (by kernel_rfl))
 f224:=Tryd.func86.trans (congrArg some (by kernel_rfl))
 f225:=Tryd.func87.trans (congrArg some (by kernel_rfl))
 f227:=Tryd.func70.trans (congrArg some (by kernel_rfl))
 f228:=Tryd.func77.trans (congrArg some (by kernel_rfl))
 f231:=Tryd.func68.trans (congrArg some (by kernel_rfl))
 f232:=Tryd.func69.trans (congrArg some (by kernel_rfl))
 f233:=Tryd.func71.trans (congrArg some (by kernel_rfl))
 f234:=Tryd.func72.trans (congrArg some (by kernel_rfl))
 f235:=Tryd.func73.trans (congrArg some (by kernel_rfl))
 f236:=Tryd.func74.trans (congrArg some (by kernel_rfl))
 f260:=Tryd.func81.trans (congrArg some (by kernel_rfl))
 f266:=Tryd.func89.trans (congrArg some (by kernel_rfl))
 f271:=Tryd.func80.trans (congrArg some (by kernel_rfl))
 t0:=Tryd.underlying0
 a0:=Tryd.isAgg0
 z0:=Tryd.sizeOf0
 v0:=Tryd.zeroValue0
 t3:=Tryd.underlying3
 a3:=Tryd.isAgg3
 z3:=Tryd.sizeOf3
 v3:=Tryd.zeroValue3
 t4:=Tryd.underlying4
 a4:=Tryd.isAgg4
 z4:=Tryd.sizeOf4
 v4:=Tryd.zeroValue4
 t5:=Tryd.underlying5
 a5:=Tryd.isAgg5
 z5:=Tryd.sizeOf5
 v5:=Tryd.zeroValue5
 t9:=Tryd.underlying9
 a9:=Tryd.isAgg9
 z9:=Tryd.sizeOf9
 v9:=Tryd.zeroValue9
 t21:=Tryd.underlying21
 a21:=Tryd.isAgg21
 z21:=Tryd.sizeOf21
 v21:=Tryd.zeroValue21
 t46:=Tryd.underlying66
 a46:=Tryd.isAgg66
 z46:=Tryd.sizeOf66
 v46:=Tryd.zeroValue66
 t105:=Tryd.underlying142
 a105:=Tryd.isAgg142
 z105:=Tryd.sizeOf142
 v105:=Tryd.zeroValue142
 t116:=Tryd.underlying135
 a116:=Tryd.isAgg135
 z116:=Tryd.sizeOf135
 t117:=Tryd.underlying136
 a117:=Tryd.isAgg136
 z117:=Tryd.sizeOf136
 v117:=Tryd.zeroValue136
 t119:=Tryd.underlying146
 a119:=Tryd.isAgg146
 z119:=Tryd.sizeOf146
 t124:=Tryd.underlying139
 a124:=Tryd.isAgg139
 z124:=Tryd.sizeOf139
 v124:=Tryd.zeroValue139
 t138:=Tryd.underlying148
 a138:=Tryd.isAgg148
 z138:=Tryd.sizeOf148
 v138:=Tryd.zeroValue148
 t139:=Tryd.underlying149
 a139:=Tryd.isAgg149
 z139:=Tryd.sizeOf149
 v139:=Tryd.zeroValue149
 g3:=by kernel_rfl
 g4:=by kernel_rfl}
end Go.Proofs
namespace Go.XL
open Go.Proofs
set_option maxRecDepth 100000
set_option maxHeartbeats 4000000
theorem RlL_raw_eq {hv:VH}: ∀{cs ys:List Value},RlL hv (cs.map V.v) ys→ys=cs
 | [],ys,h=>by simpa only[List.map_nil,RlL] using h
 | c::r,ys,h=>by
  simp only[List.map_cons,RlL]at h
  obtain⟨z,zs,rfl,h1,h2⟩:=h
  simp only[V.Rl]at h1
  rw[h1,RlL_raw_eq h2]
theorem PC.of_below {P:Program} {f:FuncId} {xs:List Value} {y:Value} (h: ∀w:World,Calls P f xs.toArray w fun e w'=>e = .returned y∧Go.RowKit.Below w.heap.size w w'):PC P f (xs.map V.v) (.v y):=by
 intro v0 K hv hold h0 ys hp hr s w hw
 obtain rfl:=RlL_raw_eq hr
 subst hw
 refine(h w).mono fun e w' ⟨he,hb⟩=>⟨y,he,⟨hb.os,hb.tape,hb.output⟩, .v y,[],hv,hold,PreV.refl hv,⟨fun b o e=>?_,fun t v e=>?_,fun b o e=>(by cases e),s.held,⟨s.base.1,Nat.le_trans s.base.2.1 hb.size,fun b hB=>?_⟩,s.vbase⟩,rfl⟩
 ·obtain⟨o',h1,h2⟩:=s.pre b o e
  exact⟨o',by rw[hb.block b (Array.getElem?_eq_some_iff.1 h1).1];exact h1,h2⟩
 ·simp only[lookV]at e
  split at e
  ·rename_i h1
   subst h1
   cases e
   exact⟨y,by simp[look],V.Rl_v,trivial⟩
  ·cases e
 ·rw[hb.block b (Nat.lt_of_lt_of_le (s.base.1 b hB) s.base.2.1)]
  exact s.base.2.2 b hB
def nameL :List UInt8:= [97,98,99,100,101,102,103,104,105,106,107,108,109,110,111,112,113,114,115,116,117,118,119,120,121,122,48,49,50,51,52,53,54,55,56,57,45]
theorem nameL_in (c:UInt8):nameL.contains c=nameC c:=by
 have h: ∀n:_root_.Fin 256,nameL.contains (UInt8.ofNat n.val)=nameC (UInt8.ofNat n.val):=by decide
 have:=h ⟨c.toNat,c.toNat_lt⟩
 simpa using this
theorem dropW_nil {p:UInt8→Bool}: ∀{l:List UInt8},l.dropWhile p= []↔l.all p=true
 | []=>by simp
 | a::l=>by
  rw[List.dropWhile_cons,List.all_cons]
  cases h:p a with
  | true=>simp[dropW_nil]
  | false=>simp
theorem trim_nil (l:List UInt8):Lib.trimS l nameL= []↔l.all nameC=true:=by
 have e:(fun c:UInt8=>nameL.contains c)=nameC:=funext nameL_in
 have h1:Lib.trimS l nameL=(Lib.trimRightS l nameL).dropWhile nameC:=by rw[Lib.trimS,Lib.trimLeftS];rw[e]
 have h2:Lib.trimRightS l nameL=(l.reverse.dropWhile nameC).reverse:=by rw[Lib.trimRightS];rw[e]
 rw[h1,dropW_nil,h2,List.all_reverse]
 constructor
 ·intro h
  have h3:l.reverse.dropWhile nameC= []:=by
   cases hd:l.reverse.dropWhile nameC with
   | nil=>rfl
   | cons a r =>
    have h4:=List.head?_dropWhile_not nameC l.reverse
    rw[hd]at h4 h
    simp only[List.head?_cons,List.all_cons,Bool.and_eq_true]at h4 h
    rw[h.1]at h4
    simp at h4
  have h5:=dropW_nil.1 h3
  rwa [List.all_reverse]at h5
 ·intro h
  have h3:l.reverse.dropWhile nameC= []:=dropW_nil.2 (by rw[List.all_reverse];exact h)
  rw[h3];rfl
theorem trim_pc (s:ByteArray) (hs:s.size≤9223372036854775807):PC Tryd.prog 61 [St8 s,St8 ⟨nameL.toArray⟩] (St8 ⟨(Lib.trimS s.data.toList nameL).toArray⟩) :=
 PC.of_below (xs:= [.string s, .string ⟨nameL.toArray⟩]) fun w=>Any.strings_Trim_laid Tryd.lays160 (by kernel_rfl) s ⟨nameL.toArray⟩ w hs (by decide) (ascii_of_all (by decide))
theorem named_pc (s:ByteArray):PC Tryd.prog 50 [St8 s] (Bo (namedB s)):=by
 refine DC.of_run Tryd.func50 rfl Tryd.ntmps50 Tryd.results50 (by simp) (fun _ _=>?_);simp only[argV_cons,argV_nil,go_sem,Nat.zero_add,Nat.reduceAdd]
 by_cases h:1≤(s.size:Int)∧(s.size:Int)≤24
 ·have ht:=trim_pc s (by omega)
  repeat' (first|(with_reducible first|refine DS.fltS yU yU yE ?_|refine DS.opsNil ?_|refine DS.seq ?_|refine DS.regionL ?_|(refine DS.gE yU yE ?_;refine GG.run ?_))|refine DS.pcS inferInstance (hfrom_pc _ _ _) yR yT ?_|refine DS.pcS inferInstance (ht) yR yT ?_|refine DS.retT [] yE trivial ?_|fail)
  have e:namedB s=s.data.toList.all nameC:=by simp[namedB,h]
  have h2:=trim_nil s.data.toList
  rw[e]
  simp only[tupV,ByteArray.mk.injEq]
  congr 2
  rw[Bool.eq_iff_iff,decide_eq_true_eq,←h2]
  constructor
  ·intro h3
   have:=congrArg Array.toList h3
   simpa using this
  ·intro h3;rw[h3]
 ·have e:namedB s=false:=by simp[namedB,h]
  rw[e]
  repeat' (first|(with_reducible first|refine DS.fltS yU yU yE ?_|refine DS.opsNil ?_|refine DS.seq ?_|refine DS.regionL ?_|(refine DS.gE yU yE ?_;refine GG.sF ?_))|refine DS.pcS inferInstance (hfrom_pc _ _ _) yR yT ?_|refine DS.retT [] yE trivial ?_|fail)
  all_goals first|rfl|(exfalso;omega)
end Go.XL
namespace Go.XL
open Go.Proofs
set_option maxRecDepth 100000
set_option maxHeartbeats 8000000
theorem indexFuncP_pc (l:List Pattern) {g:FuncId} {fs cs:List V} {fn:Func} (p:Pattern→Bool) (hf:FnOk Tryd.prog g fn) (h: ∀m:Pattern,PC Tryd.prog g (fs++ [m.val]++cs) (Bo (p m))) :
  PC Tryd.prog 62 [patsV l, .fn g fs cs] (I (idxF p l 0)):=by
 refine DC.of_run Tryd.func62 rfl Tryd.ntmps62 Tryd.results62 (by simp) (fun _ _=>?_);simp only[argV_cons,argV_nil,go_sem,Nat.zero_add,Nat.reduceAdd]
 refine DS.bnd (t:=0) yG (.inl rfl) (fun hb0=>?_);simp only[List.length_map]at hb0
 repeat' (first|(with_reducible first|refine DS.fltS yU yU yE ?_|refine DS.opsNil ?_|refine DS.seq ?_|refine DS.regionL ?_|refine DS.block ?_)|fail)
 refine DS.loopK [0,1,7] yN (fun(i:Nat)=> [(8,I i)]) (fun(i:Nat)=>i≤l.length∧idxF p l 0=idxF p (l.drop i) i) (fun(i:Nat)=>l.length-i) 0 yS (by simp) (fun i B hI hB=>?_);try dsimp only at hI hB;simp only[app_cons',app_nil']
 have HB:=Box.mk hB
 clear hB
 by_cases hi:(i:Int)<(l.length:Int)
 ·have hi':i<l.length:=by omega
  cases hp:p l[i]with
  | true =>
   have:=idxF_hit (p:=p) (l:=l) (i:=i) hi' hp
   repeat' (first|(with_reducible first|refine DS.fltS yU yU yE ?_|refine DS.opsNil ?_|refine DS.seq ?_|refine DS.regionL ?_|(refine DS.cE yE ?_;refine CG.yes ?_)|refine DS.block ?_|refine DS.skip ?_)|fail)
   refine DS.pcVS hf (by simp (disch:=omega) only[go_sem,dopV,yV0,↓reduceIte,Nat.reduceEqDiff,Nat.reduceLT,Nat.reduceLeDiff,Nat.reduceAdd,Nat.reduceMul,Nat.reduceSub,Int.reduceToNat,Int.reduceLT,Int.reduceLE,Int.reduceEq,IntWalk.toNatUp,IntWalk.iteOmega,IntWalk.i64_in,V.flat,V.one]) (h l[i]) yR yH ?_
   repeat' (first|(with_reducible first|refine DS.fltS yU yU yE ?_|refine DS.opsNil ?_|refine DS.seq ?_|refine DS.regionL ?_|(refine DS.cE yE ?_;refine CG.yes ?_))|refine DS.retT [] yE trivial ?_|fail)
   rw[hI.2,this];rfl
  | false =>
   repeat' (first|(with_reducible first|refine DS.fltS yU yU yE ?_|refine DS.opsNil ?_|refine DS.seq ?_|refine DS.regionL ?_|(refine DS.cE yE ?_;refine CG.yes ?_)|refine DS.block ?_|refine DS.skip ?_)|fail)
   refine DS.pcVS hf (by simp (disch:=omega) only[go_sem,dopV,yV0,↓reduceIte,Nat.reduceEqDiff,Nat.reduceLT,Nat.reduceLeDiff,Nat.reduceAdd,Nat.reduceMul,Nat.reduceSub,Int.reduceToNat,Int.reduceLT,Int.reduceLE,Int.reduceEq,IntWalk.toNatUp,IntWalk.iteOmega,IntWalk.i64_in,V.flat,V.one]) (h l[i]) yR yH ?_
   repeat' (first|(with_reducible first|refine DS.fltS yU yU yE ?_|refine DS.opsNil ?_|refine DS.regionL ?_|(refine DS.cE yE ?_;refine CG.no ?_)|refine DS.blk ?_|refine DS.skip ?_)|fail)
   refine DS.back (HB.out (i+1) _ _ (by omega) ⟨by omega,by rw[hI.2,idxF_miss hi' hp]⟩ yS yS (fun b o e=>by cases e))
 ·repeat' (first|(with_reducible first|refine DS.fltS yU yU yE ?_|refine DS.opsNil ?_|refine DS.seq ?_|refine DS.regionL ?_|(refine DS.cE yE ?_;refine CG.no ?_)|refine DS.exit yU ?_)|refine DS.retT [] yE trivial ?_|fail)
  have:=idxF_end (p:=p) (l:=l) (i:=i) (by omega)
  simp only[tupV];rw[hI.2,this]
theorem containsFuncP_pc (l:List Pattern) {g:FuncId} {fs cs:List V} {fn:Func} (p:Pattern→Bool) (hf:FnOk Tryd.prog g fn) (h: ∀m:Pattern,PC Tryd.prog g (fs++ [m.val]++cs) (Bo (p m))) :
  PC Tryd.prog 51 [patsV l, .fn g fs cs] (Bo (l.any p)):=by
 have e:=idxF_any p l 0
 have hk:=indexFuncP_pc l p hf h
 refine DC.of_run Tryd.func51 rfl Tryd.ntmps51 Tryd.results51 (by simp) (fun _ _=>?_);simp only[argV_cons,argV_nil,go_sem,Nat.zero_add,Nat.reduceAdd]
 repeat' (first|(with_reducible first|refine DS.fltS yU yU yE ?_|refine DS.opsNil ?_|refine DS.seq ?_|refine DS.regionL ?_)|refine DS.pcS inferInstance (hk) yR yT ?_|refine DS.retT [] yE trivial ?_|fail)
 rw[←e];rfl
theorem patC_pc (q p:Pattern):PC Tryd.prog 52 [q.val, .plc p.cells] (Bo (decide (q.name=p.name))):=by
 refine DC.of_run Tryd.func52 rfl Tryd.ntmps52 Tryd.results52 (by simp) (fun _ _=>?_);simp only[argV_cons,argV_nil,go_sem,Nat.zero_add,Nat.reduceAdd]
 repeat' (first|(with_reducible first|refine DS.fltS yU yU yE ?_|refine DS.opsNil ?_|refine DS.seq ?_|refine DS.regionL ?_)|(refine DS.boxF (t:=2) yU yE yU ?_;simp only[cells_agg,cells_v,cells_lst,cells_fn,map_nil'',map_cons'',copy_own,copy_lst,copy_v,copy_at,copy_agg,copy_fn,copy_ifc,copy_tup])|refine DS.retT [] yE trivial ?_|fail)
 rfl
def CondPC (s:GSet) (l:List Node):Prop:=PC Tryd.prog 40 [s.val,nodesV l] (.tup [Bo (condX s l).1,I (condX s l).2])
theorem yX0 {p:Prop} (h:p:=by(simp (disch:=omega) only[go_sem,dopV,yV0,↓reduceIte,Nat.reduceEqDiff,Nat.reduceLT,Nat.reduceLeDiff,Nat.reduceAdd,Nat.reduceMul,Nat.reduceSub,Int.reduceToNat,Int.reduceLT,Int.reduceLE,Int.reduceEq,IntWalk.toNatUp,IntWalk.iteOmega,IntWalk.i64_in,V.flat,V.one, *,List.forall_mem_map,Pattern.len,implies_true,List.drop_zero];exact rfl)):p:=h
theorem yX1 {p:Prop} (h:p:=by(simp (disch:=omega) only[go_sem,dopV,yV0,↓reduceIte,Nat.reduceEqDiff,Nat.reduceLT,Nat.reduceLeDiff,Nat.reduceAdd,Nat.reduceMul,Nat.reduceSub,Int.reduceToNat,Int.reduceLT,Int.reduceLE,Int.reduceEq,IntWalk.toNatUp,IntWalk.iteOmega,IntWalk.i64_in,V.flat,V.one, *,List.forall_mem_map,Pattern.len,implies_true,List.drop_zero];first|done|exact rfl)):p:=h
theorem pattern_pc (h:House) (hl:h.patterns.length≤1000000) {i:Nat} (hi:i<h.patterns.length) (hc:CondPC h.set h.patterns[i].cond):PC Tryd.prog 39 [h.val,I i] (I (patS h i)):=by
 have e:h.pat i=h.patterns[i]:=by rw[House.pat,List.getD_eq_getElem?_getD,List.getElem?_eq_getElem hi];rfl
 have hn:=named_pc h.patterns[i].name
 have ha:=hall_pc 0 1000 [h.patterns[i].closed,h.patterns[i].open_]
 have hk:=containsFuncP_pc (h.patterns.take i) (g:=52) (fs:= []) (cs:= [.plc h.patterns[i].cells]) (fun q=>decide (q.name=h.patterns[i].name)) inferInstance (fun q=>patC_pc q h.patterns[i])
 have ho1:=others_pc h.patterns[i].excl i h.patterns.length ⟨by omega,by omega⟩
 have ho2:=others_pc h.patterns[i].impl i h.patterns.length ⟨by omega,by omega⟩
 have e1:([h.patterns[i].closed,h.patterns[i].open_].all fun n=>decide (0≤n∧n≤1000))=decide ((0≤h.patterns[i].closed∧h.patterns[i].closed≤1000)∧(0≤h.patterns[i].open_∧h.patterns[i].open_≤1000)):=by simp
 rw[e1]at ha
 clear e1
 unfold CondPC at hc
 rw[patS,e]
 clear e
 have hil:(i:Int)<(h.patterns.length:Int):=by omega
 have hsub:(List.map Pattern.cells h.patterns).take i=List.map Pattern.cells (h.patterns.take i):=by rw[List.map_take]
 generalize ((h.patterns.take i).any fun q=>decide (q.name=h.patterns[i].name))=B1 at hk ⊢
 generalize condX h.set h.patterns[i].cond=C at hc ⊢
 obtain⟨c1,c2⟩:=C
 dsimp only at hc ⊢
 generalize othersS h.patterns[i].excl i h.patterns.length=O1 at ho1 ⊢
 generalize othersS h.patterns[i].impl i h.patterns.length=O2 at ho2 ⊢
 generalize namedB h.patterns[i].name=N at hn ⊢
 refine DC.of_run Tryd.func39 rfl Tryd.ntmps39 Tryd.results39 (by simp) (fun _ _=>?_);simp only[argV_cons,argV_nil,go_sem,Nat.zero_add,Nat.reduceAdd]
 repeat' (first|(with_reducible first|refine DS.fltS yU yU yX0 ?_|refine DS.opsNil ?_|refine DS.seq ?_|refine DS.regionL ?_|(refine DS.cE yX0 ?_;first|refine CG.np (fun _=>?_) (fun _=>?_)|refine CG.nb (fun _=>?_) (fun _=>?_)|refine CG.b (fun _=>?_) (fun _=>?_))|refine DS.skip ?_)|(refine DS.bsl yU yX0 yX0 ?_;simp only[go_sem,Nat.zero_add,Nat.reduceAdd])|(refine DS.letF (t:=5) yU yX0 yU (fun _=>yX0) yX0 yU (by exact⟨by with_unfolding_all rfl,by with_unfolding_all decide⟩) (fun _=>by simp only[go_sem,Nat.reduceEqDiff,↓reduceIte]) ?_;simp only[go_sem])|refine DS.pcS inferInstance (hn) yR yX1 ?_|refine DS.pcS inferInstance (hk) yR yX1 ?_|refine DS.pcS inferInstance (ha) yR yX1 ?_|refine DS.pcS inferInstance (hc) yR yX1 ?_|refine DS.pcS inferInstance (ho1) yR yX1 ?_|refine DS.pcS inferInstance (ho2) yR yX1 ?_|(refine DS.boxF (t:=2) yU yX0 yU ?_;simp only[cells_agg,cells_v,cells_lst,cells_fn,map_nil'',map_cons'',copy_own,copy_lst,copy_v,copy_at,copy_agg,copy_fn,copy_ifc,copy_tup])|refine DS.retT [] yX0 trivial ?_|fail)
 all_goals (clear hn hk ha hc ho1 ho2;simp only[tupV];(repeat' split) <;> first|rfl|(exfalso;omega)|(exfalso;grind))
theorem houseC1_pc (h:House):PC Tryd.prog 41 [.plc h.cells] (I (scaleS h.scale)):=by
 have hs:=checkScale_pc h.scale
 refine DC.of_run Tryd.func41 rfl Tryd.ntmps41 Tryd.results41 (by simp) (fun _ _=>?_);simp only[argV_cons,argV_nil,go_sem,Nat.zero_add,Nat.reduceAdd]
 repeat' (first|(with_reducible first|refine DS.fltS yU yU yE ?_|refine DS.opsNil ?_|refine DS.seq ?_|refine DS.regionL ?_)|refine DS.pcS inferInstance (hs) yR yT ?_|refine DS.retT [] yE trivial ?_|fail)
 rfl
theorem houseC2_pc (h:House):PC Tryd.prog 42 [.plc h.cells] (I (payS h.set h.pay)):=by
 have hs:=pay_pc h.set h.pay
 refine DC.of_run Tryd.func42 rfl Tryd.ntmps42 Tryd.results42 (by simp) (fun _ _=>?_);simp only[argV_cons,argV_nil,go_sem,Nat.zero_add,Nat.reduceAdd]
 repeat' (first|(with_reducible first|refine DS.fltS yU yU yE ?_|refine DS.opsNil ?_|refine DS.seq ?_|refine DS.regionL ?_)|refine DS.pcS inferInstance (hs) yR yT ?_|refine DS.retT [] yE trivial ?_|fail)
 rfl
theorem houseC3_pc (h:House):PC Tryd.prog 44 [.plc h.cells] (I (playS h.set h.play)):=by
 have hs:=play_pc h.set h.play
 refine DC.of_run Tryd.func44 rfl Tryd.ntmps44 Tryd.results44 (by simp) (fun _ _=>?_);simp only[argV_cons,argV_nil,go_sem,Nat.zero_add,Nat.reduceAdd]
 repeat' (first|(with_reducible first|refine DS.fltS yU yU yE ?_|refine DS.opsNil ?_|refine DS.seq ?_|refine DS.regionL ?_)|refine DS.pcS inferInstance (hs) yR yT ?_|refine DS.retT [] yE trivial ?_|fail)
 rfl
end Go.XL
namespace Go.XL
open Go.Proofs
set_option maxRecDepth 100000
set_option maxHeartbeats 8000000
structure House.CondsPC (h:House):Prop where
 minor:CondPC h.set h.minor
 pats: ∀(i:Nat) (hi:i<h.patterns.length),CondPC h.set h.patterns[i].cond
theorem patsGo_at (h:House): ∀(n i:Nat),patsGo h i (n+1)=if patS h i≠0 then patS h i else patsGo h (i+1) n:=fun _ _=>rfl
theorem yX2 {p:Prop} (h:p:=by(simp (disch:=omega) only[go_sem,dopV,yV0,↓reduceIte,Nat.reduceEqDiff,Nat.reduceLT,Nat.reduceLeDiff,Nat.reduceAdd,Nat.reduceMul,Nat.reduceSub,Int.reduceToNat,Int.reduceLT,Int.reduceLE,Int.reduceEq,IntWalk.toNatUp,IntWalk.iteOmega,IntWalk.i64_in,V.flat,V.one, *,Int.reduceAdd];exact rfl)):p:=h
theorem yX3 {p:Prop} (h:p:=by(simp (disch:=omega) only[go_sem,dopV,yV0,↓reduceIte,Nat.reduceEqDiff,Nat.reduceLT,Nat.reduceLeDiff,Nat.reduceAdd,Nat.reduceMul,Nat.reduceSub,Int.reduceToNat,Int.reduceLT,Int.reduceLE,Int.reduceEq,IntWalk.toNatUp,IntWalk.iteOmega,IntWalk.i64_in,V.flat,V.one, *,Int.reduceAdd];try exact rfl)):p:=h
theorem house_pc (h:House) (hc:h.CondsPC):PC Tryd.prog 28 [h.val] (I (houseS h)):=by
 have h1:=tcheck_pc h.set
 have h2:=forms_pc h.set h.forms
 have hm:=hc.minor
 unfold CondPC at hm
 by_cases h0:gsetS h.set=0
 ·rw[h0]at h1
  by_cases hf:formsS h.set h.forms=0
  ·rw[hf]at h2
   rw[houseS,if_neg (by omega)]
   refine DC.of_run Tryd.func28 rfl Tryd.ntmps28 Tryd.results28 (by simp) (fun _ _=>?_);simp only[argV_cons,argV_nil,go_sem,Nat.zero_add,Nat.reduceAdd]
   repeat' (first|(with_reducible first|refine DS.fltS yU yU yE ?_|refine DS.opsNil ?_|refine DS.seq ?_|refine DS.regionL ?_|(refine DS.cE yE ?_;first|refine CG.p (fun _=>?_) (fun _=>?_)|refine CG.no ?_)|refine DS.block ?_|refine DS.skip ?_)|refine DS.pcS inferInstance (h1) yR yT ?_|refine DS.pcS inferInstance (h2) yR yT ?_|(refine DS.boxF (t:=1) yU yE yU ?_;simp only[cells_agg,cells_v,cells_lst,cells_fn,map_nil'',map_cons'',copy_own,copy_lst,copy_v,copy_at,copy_agg,copy_fn,copy_ifc,copy_tup])|refine DS.retT [] yE trivial ?_|fail)
   ·rw[if_pos (by omega)];rfl
   rename_i g40
   rw[if_neg (by omega)]
   refine DS.loopK [1,32] yN (fun(i:Nat)=> [(33,I i)]) (fun(i:Nat)=>i≤h.patterns.length∧patsGo h 0 h.patterns.length=patsGo h i (h.patterns.length-i)) (fun(i:Nat)=>h.patterns.length-i) 0 yS ⟨Nat.zero_le _,rfl⟩ (fun i B hI hB=>?_);try dsimp only at hI hB;simp only[app_cons',app_nil']
   have HB:=Box.mk hB
   clear hB
   obtain⟨hI,hI2⟩:=hI
   by_cases hi:(i:Int)<(h.patterns.length:Int)
   ·have hi':i<h.patterns.length:=by omega
    obtain⟨m,hmm⟩: ∃m,h.patterns.length-i=m+1:=⟨h.patterns.length-i-1,by omega⟩
    rw[hmm,patsGo_at]at hI2
    have hmm2:h.patterns.length-(i+1)=m:=by omega
    have HI:=Box.mk hI2
    clear hI2
    have hp:=pattern_pc h (by omega) hi' (hc.pats i hi')
    have HM:=Box.mk hmm
    have HM2:=Box.mk hmm2
    clear hmm hmm2
    by_cases he:patS h i=0
    ·rw[he]at hp
     repeat' (first|(with_reducible first|refine DS.fltS yU yU yE ?_|refine DS.opsNil ?_|refine DS.seq ?_|refine DS.regionL ?_|(refine DS.cE yE ?_;first|refine CG.yes ?_|refine CG.no ?_)|refine DS.blk ?_|refine DS.block ?_|refine DS.skip ?_)|refine DS.pcS inferInstance (hp) yR yT ?_|fail)
     all_goals first
      | exact DS.back (HB.out (i+1) _ _ (by omega) ⟨by omega,by rw[HI.out,HM2.out,if_neg (by omega)]⟩ yS yS (fun b o e=>by cases e))
      | (exfalso;omega)
    ·repeat' (first|(with_reducible first|refine DS.fltS yU yU yE ?_|refine DS.opsNil ?_|refine DS.seq ?_|refine DS.regionL ?_|(refine DS.cE yE ?_;refine CG.yes ?_)|refine DS.block ?_|refine DS.skip ?_)|refine DS.pcS inferInstance (hp) yR yT ?_|refine DS.retT [] yE trivial ?_|fail)
     all_goals first|(rw[HI.out,if_pos he,if_pos he];rfl)|(exfalso;omega)
   ·have e:patsGo h 0 h.patterns.length=0:=by rw[hI2,show h.patterns.length-i=0 by omega];rfl
    rw[e,if_neg (by decide),rulesH]
    clear e hI2 HB
    have c1:=houseC1_pc h
    have c2:=houseC2_pc h
    have c3:=houseC3_pc h
    generalize condX h.set h.minor=C at hm ⊢
    obtain⟨m1,m2⟩:=C
    dsimp only at hm ⊢
    generalize scaleS h.scale=X1 at c1 ⊢
    generalize payS h.set h.pay=X2 at c2 ⊢
    generalize playS h.set h.play=X3 at c3 ⊢
    repeat' (first|(with_reducible first|refine DS.fltS yU yU yE ?_|refine DS.opsNil ?_|refine DS.seq ?_|refine DS.regionL ?_|(refine DS.cE yE ?_;first|refine CG.np (fun _=>?_) (fun _=>?_)|refine CG.no ?_|refine CG.nb (fun _=>?_) (fun _=>?_))|(refine DS.gE yU yE ?_;first|refine GG.pT (fun _=>?_) (fun _=>?_)|refine GG.run ?_|refine GG.sF ?_)|refine DS.blk ?_|refine DS.block ?_|refine DS.exit yU ?_|refine DS.skip ?_)|(refine DS.bsl yU yE yE ?_;simp only[go_sem,Nat.zero_add,Nat.reduceAdd])|refine DS.pcS inferInstance (hm) yR yT ?_|refine DS.pcS inferInstance (hfrom_pc _ _ _) yR yT ?_|refine DS.retT [] yE trivial ?_|fail)
    all_goals try ((simp only[tupV];(repeat' split) <;> first|rfl|(exfalso;omega)|(exfalso;grind));done)
    all_goals
     have eR:(if m2≠0 then m2 else if 0<(h.minor.length:Int)∧m1=false then 15 else if ¬(0≤h.least∧h.least≤1000)then 2 else if X1≠0 then X1 else if X2≠0 then X2 else X3)=if X1≠0 then X1 else if X2≠0 then X2 else X3:=by
      clear hm c1 c2 c3
      rw[if_neg (by omega),if_neg (by grind),if_neg (by omega)]
     rw[eR]
     clear eR
     refine DS.weaken (E':= [(74,I 0),(73,I 3),(72, .own false 94 1 [[.fn 41 [] [.plc h.cells]],[.fn 42 [] [.plc h.cells]],[.fn 44 [] [.plc h.cells]]])]) (subV_look ⟨by rfl,by rfl,by rfl,trivial⟩) (fun _ _ e=>e) ?_
     refine DS.loopK [72,73] yN (fun(j:Int)=> [(74,I j)]) (fun(j:Int)=>0≤j∧j≤3∧(0<j→X1=0)∧(1<j→X2=0)∧(2<j→X3=0)) (fun(j:Int)=>(3-j).toNat) 0 yS ⟨by omega,by omega,by omega,by omega,by omega⟩ (fun j B hI hB=>?_);try dsimp only at hI hB;simp only[app_cons',app_nil']
     have HB:=Box.mk hB
     clear hB
     obtain⟨hj0,hj,k1,k2,k3⟩:=hI
     have HK:=Box.mk (And.intro k1 (And.intro k2 k3))
     clear k1 k2 k3 hm
     obtain q|q|q|q:j=0∨j=1∨j=2∨j=3:=by omega
     ·subst q
      repeat' (first|(with_reducible first|refine DS.fltS yU yU yX2 ?_|refine DS.opsNil ?_|refine DS.seq ?_|refine DS.regionL ?_|(refine DS.cE yX2 ?_;first|refine CG.np (fun _=>?_) (fun _=>?_)|refine CG.yes ?_)|refine DS.blk ?_|refine DS.block ?_|refine DS.skip ?_)|refine DS.pcVS inferInstance yX2 (c1) yR yX3 ?_|refine DS.retT [] yX2 trivial ?_|fail)
      all_goals first
       | (rw[if_pos (by omega)];rfl)
       | exact DS.back (HB.out 1 _ _ (by omega) ⟨by omega,by omega,fun _=>by omega,by omega,by omega⟩ yS yS (fun b o e=>by cases e))
     ·subst q
      repeat' (first|(with_reducible first|refine DS.fltS yU yU yX2 ?_|refine DS.opsNil ?_|refine DS.seq ?_|refine DS.regionL ?_|(refine DS.cE yX2 ?_;first|refine CG.np (fun _=>?_) (fun _=>?_)|refine CG.yes ?_)|refine DS.blk ?_|refine DS.block ?_|refine DS.skip ?_)|refine DS.pcVS inferInstance yX2 (c2) yR yX3 ?_|refine DS.retT [] yX2 trivial ?_|fail)
      all_goals first
       | (obtain⟨k1,k2,k3⟩:=HK.out;rw[if_neg (by omega),if_pos (by omega)];rfl)
       | exact DS.back (HB.out 2 _ _ (by omega) ⟨by omega,by omega,fun _=>HK.out.1 (by omega),fun _=>by omega,by omega⟩ yS yS (fun b o e=>by cases e))
     ·subst q
      repeat' (first|(with_reducible first|refine DS.fltS yU yU yX2 ?_|refine DS.opsNil ?_|refine DS.seq ?_|refine DS.regionL ?_|(refine DS.cE yX2 ?_;first|refine CG.np (fun _=>?_) (fun _=>?_)|refine CG.yes ?_)|refine DS.blk ?_|refine DS.block ?_|refine DS.skip ?_)|refine DS.pcVS inferInstance yX2 (c3) yR yX3 ?_|refine DS.retT [] yX2 trivial ?_|fail)
      all_goals first
       | (obtain⟨k1,k2,k3⟩:=HK.out;rw[if_neg (by omega),if_neg (by omega)];rfl)
       | exact DS.back (HB.out 3 _ _ (by omega) ⟨by omega,by omega,fun _=>HK.out.1 (by omega),fun _=>HK.out.2.1 (by omega),fun _=>by omega⟩ yS yS (fun b o e=>by cases e))
     ·subst q
      repeat' (first|(with_reducible first|refine DS.fltS yU yU yE ?_|refine DS.opsNil ?_|refine DS.seq ?_|refine DS.regionL ?_|(refine DS.cE yE ?_;refine CG.no ?_)|refine DS.exit yU ?_)|refine DS.retT [] yE trivial ?_|fail)
      obtain⟨k1,k2,k3⟩:=HK.out
      rw[if_neg (by omega),if_neg (by omega),k3 (by omega)];rfl
  ·rw[houseS,if_pos hf]
   refine DC.of_run Tryd.func28 rfl Tryd.ntmps28 Tryd.results28 (by simp) (fun _ _=>?_);simp only[argV_cons,argV_nil,go_sem,Nat.zero_add,Nat.reduceAdd]
   repeat' (first|(with_reducible first|refine DS.fltS yU yU yE ?_|refine DS.opsNil ?_|refine DS.seq ?_|refine DS.regionL ?_|(refine DS.cE yE ?_;first|refine CG.yes ?_|refine CG.no ?_)|refine DS.skip ?_)|refine DS.pcS inferInstance (h1) yR yT ?_|refine DS.pcS inferInstance (h2) yR yT ?_|(refine DS.boxF (t:=1) yU yE yU ?_;simp only[cells_agg,cells_v,cells_lst,cells_fn,map_nil'',map_cons'',copy_own,copy_lst,copy_v,copy_at,copy_agg,copy_fn,copy_ifc,copy_tup])|refine DS.retT [] yE trivial ?_|fail)
   all_goals first|rfl|(exfalso;omega)
 ·have e:formsS h.set h.forms=gsetS h.set:=by rw[formsS,if_pos h0]
  rw[houseS,e,if_pos h0]
  refine DC.of_run Tryd.func28 rfl Tryd.ntmps28 Tryd.results28 (by simp) (fun _ _=>?_);simp only[argV_cons,argV_nil,go_sem,Nat.zero_add,Nat.reduceAdd]
  repeat' (first|(with_reducible first|refine DS.fltS yU yU yE ?_|refine DS.opsNil ?_|refine DS.seq ?_|refine DS.regionL ?_|(refine DS.cE yE ?_;refine CG.yes ?_))|refine DS.pcS inferInstance (h1) yR yT ?_|(refine DS.boxF (t:=1) yU yE yU ?_;simp only[cells_agg,cells_v,cells_lst,cells_fn,map_nil'',map_cons'',copy_own,copy_lst,copy_v,copy_at,copy_agg,copy_fn,copy_ifc,copy_tup])|refine DS.retT [] yE trivial ?_|fail)
  all_goals first|rfl|(exfalso;omega)
end Go.XL
namespace Go.XL
open Go.Proofs
set_option maxRecDepth 100000
set_option maxHeartbeats 8000000
def payL (L:List Int) (j w:Nat) (n:Int):List Int:=(L.set j (L.getD j 0-n)).set w ((L.set j (L.getD j 0-n)).getD w 0+n)
theorem payL_len (L:List Int) (j w:Nat) (n:Int):(payL L j w n).length=L.length:=by simp[payL]
abbrev slcO (bo n:Nat):V := .v (.slice (some ⟨bo,0,none⟩) n n)
theorem payC_dc (bo:Nat) (L:List Int) (j w:Nat) (n:Int) (hj:j<L.length) (hw:w<L.length) (hn:0≤n∧n≤1000000000) (hL: ∀x∈L,-1000000000000≤x∧x≤1000000000000) (hl:L.length≤4) :
  DC Tryd.prog 35 [I j,I n, .plc [slcO bo L.length], .plc [I w]] [(bo, .cells (L.map I) 3)] (fun u S'=>u=V.tup []∧S'= [(bo, .cells ((payL L j w n).map I) 3)]):=by
 have e1:(L.map I)[j]?=some (I L[j]):=by simp[hj]
 have e2:L.getD j 0=L[j]:=by rw[List.getD_eq_getElem?_getD,List.getElem?_eq_getElem hj];rfl
 have b1:=hL _ (List.getElem_mem hj)
 have hw':w<(L.set j (L[j]-n)).length:=by simpa using hw
 have e3:payL L j w n=(L.set j (L[j]-n)).set w ((L.set j (L[j]-n))[w]+n):=by
  rw[payL,e2,List.getD_eq_getElem?_getD,List.getElem?_eq_getElem hw'];rfl
 have e4:((L.set j (L[j]-n)).map I)[w]?=some (I (L.set j (L[j]-n))[w]):=by rw[List.getElem?_map,List.getElem?_eq_getElem hw'];rfl
 have b2 : -1000000000000-1000000000≤(L.set j (L[j]-n))[w]∧(L.set j (L[j]-n))[w]≤1000000000000:=by
  rw[List.getElem_set]
  split
  ·omega
  ·have:=hL _ (List.getElem_mem hw);omega
 have e5:(List.map I L).set j (V.v (Value.int IntKind.i64 (L[j]-n)))=(L.set j (L[j]-n)).map I:=by rw[List.map_set]
 have hl2:(L.set j (L[j]-n)).length=L.length:=by simp
 refine DC.of_run Tryd.func35 rfl Tryd.ntmps35 Tryd.results35 (by simp) (fun _ _=>?_);simp only[argV_cons,argV_nil,go_sem,Nat.zero_add,Nat.reduceAdd]
 repeat' (first|(with_reducible first|refine DS.fltS yU yU yE ?_|refine DS.opsNil ?_|refine DS.seq ?_|refine DS.regionL ?_)|(refine DS.store yR yE yE yE yE yU (by exact⟨by with_unfolding_all rfl,by(try simp only[List.length_map,List.length_append,List.length_set,List.length_replicate,List.length_cons,List.length_nil]);omega⟩) ?_;simp only[putV_none,setAll_cons,setAll_nil,scells_v,scells_own,scells_lst,scells_agg];try simp only[strip_tmp,strip_const,lookV_cons,Nat.reduceEqDiff,↓reduceIte,stripO_own,stripO_lst,stripO_v,stripO_plc,stripO_agg,stripO_fn,stripO_ifc])|fail)
 simp only[setS,↓reduceIte]
 rw[e3,show(List.map I (L.set j (L[j]-n))).set w (V.v (Value.int IntKind.i64 ((L.set j (L[j]-n))[w]+n)))=((L.set j (L[j]-n)).set w ((L.set j (L[j]-n))[w]+n)).map I by rw[List.map_set (l:=L.set j (L[j]-n))]]
 repeat' (first|refine DS.nilA yE ⟨?_,rfl⟩|fail)
 all_goals rfl
def outS (p:PayM) (liable:Int):Nat→List Int
 | 0=>List.replicate p.h.set.players.toNat 0
 | i+1=>if(i:Int)=p.winner then outS p liable i else
   if 0≤liable∧p.from_=p.winner then payL (outS p liable i) liable.toNat p.winner.toNat (owesS p.h p.points p.dealer p.winner p.from_ p.counters i)else
   if 0≤liable∧(i:Int)=p.from_∧liable≠p.from_ then
    payL (payL (outS p liable i) liable.toNat p.winner.toNat (owesS p.h p.points p.dealer p.winner p.from_ p.counters i-owesS p.h p.points p.dealer p.winner p.from_ p.counters i / 2)) i p.winner.toNat (owesS p.h p.points p.dealer p.winner p.from_ p.counters i / 2)
   else payL (outS p liable i) i p.winner.toNat (owesS p.h p.points p.dealer p.winner p.from_ p.counters i)
def payX2 (h:House) (points dealer winner from_ counters liable:Int):List Int×Int :=
 if houseS h≠0 then([],houseS h)else
 if points<0∨points > 1000000∨counters<0∨counters > 100 then([],2)else
 if(h.seat dealer&&h.seat winner&&h.seat from_)=false then([],2)else
 if liable ≠ -1∧(h.seat liable=false∨liable=winner)then([],2)else
 (outS ⟨h,points,dealer,winner,from_,counters⟩ liable h.set.players.toNat,0)
theorem payL_in {L:List Int} {j w:Nat} {n B:Int} (hL: ∀x∈L,-B≤x∧x≤B) (hn:0≤n∧n≤1000000000) (hB:0≤B): ∀x∈payL L j w n,-(B+2000000000)≤x∧x≤B+2000000000:=by
 have get: ∀(M:List Int) (C:Int),0≤C→(∀x∈M,-C≤x∧x≤C)→ ∀i:Nat,-C≤M.getD i 0∧M.getD i 0≤C:=fun M C hC hM i=>by
  rw[List.getD_eq_getElem?_getD]
  cases e:M[i]? with
  | none=>simp;omega
  | some v=>exact hM v (List.mem_of_getElem? e)
 have h1: ∀x∈L.set j (L.getD j 0-n),-(B+1000000000)≤x∧x≤B+1000000000:=fun x hx=>by
  rcases List.mem_or_eq_of_mem_set hx with h|h
  ·have:=hL x h;omega
  ·have:=get L B hB hL j;omega
 intro x hx
 rw[payL]at hx
 rcases List.mem_or_eq_of_mem_set hx with h|h
 ·have:=h1 x h;omega
 ·have:=get _ (B+1000000000) (by omega) h1 w;omega
theorem outS_ok (p:PayM) (ok:p.Ok) (liable:Int): ∀i:Nat,(outS p liable i).length=p.h.set.players.toNat∧ ∀x∈outS p liable i,-(i*4000000000:Int)≤x∧x≤(i*4000000000:Int)
 | 0=>by
  refine⟨by simp[outS],fun x hx=>?_⟩
  simp only[outS,List.mem_replicate]at hx
  rw[hx.2];omega
 | i+1=>by
  obtain⟨h1,h2⟩:=outS_ok p ok liable i
  have ho:=owesS_bd p ok i
  rw[outS]
  split
  ·exact⟨h1,fun x hx=>by have:=h2 x hx;omega⟩
  split
  ·refine⟨by rw[payL_len];exact h1,fun x hx=>?_⟩
   have:=payL_in h2 ho (by omega) x hx;omega
  split
  ·refine⟨by rw[payL_len,payL_len];exact h1,fun x hx=>?_⟩
   have q1: ∀x∈payL (outS p liable i) liable.toNat p.winner.toNat (owesS p.h p.points p.dealer p.winner p.from_ p.counters i-owesS p.h p.points p.dealer p.winner p.from_ p.counters i / 2),_:=payL_in h2 (n:=owesS p.h p.points p.dealer p.winner p.from_ p.counters i-owesS p.h p.points p.dealer p.winner p.from_ p.counters i / 2) (by omega) (by omega)
   have:=payL_in q1 (n:=owesS p.h p.points p.dealer p.winner p.from_ p.counters i / 2) (j:=i) (w:=p.winner.toNat) (by omega) (by omega) x hx
   omega
  ·refine⟨by rw[payL_len];exact h1,fun x hx=>?_⟩
   have:=payL_in h2 ho (by omega) x hx;omega
structure House.Ok (h:House):Prop where
 set:gsetS h.set=0
 forms:formsS h.set h.forms=0
 many:h.patterns.length≤40
 pats:patsGo h 0 h.patterns.length=0
 least:0≤h.least∧h.least≤1000
 scale:scaleS h.scale=0
 pay:payS h.set h.pay=0
 play:playS h.set h.play=0
theorem ite1 {b a:Int} (h:(if a≠0 then a else b)=0):a=0∧b=0:=by
 by_cases hp:a≠0
 ·rw[if_pos hp]at h;exact absurd h hp
 ·rw[if_neg hp]at h;exact⟨Decidable.not_not.1 hp,h⟩
theorem house_ok {h:House} (e:houseS h=0):h.Ok:=by
 rw[houseS]at e
 obtain⟨e1,e⟩:=ite1 e
 obtain⟨e2,e⟩:=ite0 (by decide) e
 obtain⟨e3,e⟩:=ite1 e
 rw[rulesH]at e
 obtain⟨e4,e⟩:=ite1 e
 obtain⟨e5,e⟩:=ite0 (by decide) e
 obtain⟨e6,e⟩:=ite0 (by decide) e
 obtain⟨e7,e⟩:=ite1 e
 obtain⟨e8,e⟩:=ite1 e
 have e9:gsetS h.set=0:=by
  rw[formsS]at e1
  exact(ite1 e1).1
 exact⟨e9,e1,by omega,e3,by omega,e7,e8,e⟩
theorem scale_ok {x:Scale} (e:scaleS x=0):(0≤x.base∧x.base≤1000)∧(1≤x.round∧x.round≤10000)∧x.limits.length≤12∧limitsGo x.limits none=0:=by
 rw[scaleS]at e
 obtain⟨e1,e⟩:=ite0 (by decide) e
 obtain⟨e2,e⟩:=ite0 (by decide) e
 obtain⟨e3,e⟩:=ite0 (by decide) e
 exact⟨by omega,by omega,by omega,e⟩
theorem pay_ok {s:GSet} {p:Pay} (e:payS s p=0):(1≤p.mode∧p.mode≤3)∧(ptB p.basic&&ptB p.counter&&ptB p.stick&&ptB p.pool&&ptB p.foul&&ptB p.start)=true:=by
 rw[payS]at e
 obtain⟨e1,e⟩:=ite1 e
 obtain⟨e2,e⟩:=ite0 (by decide) e
 obtain⟨e3,e⟩:=ite0 (by decide) e
 exact⟨by omega,by simpa [and_assoc] using e3⟩
theorem payM_ok {p:PayM} (e:houseS p.h=0) (hp: ¬(p.points<0∨p.points > 1000000∨p.counters<0∨p.counters > 100)):p.Ok:=by
 have ok:=house_ok e
 have h1:=(gset_ok ok.set).players
 obtain⟨s1,s2,-,-⟩:=scale_ok ok.scale
 obtain⟨q1,q2⟩:=pay_ok ok.pay
 simp only[Bool.and_eq_true,ptB,decide_eq_true_eq]at q2
 exact⟨h1,by omega,s2,q1,by omega,by omega,by omega⟩
end Go.XL
namespace Go.XL
def bitsM (m:Nat):List Nat:=(List.range 64).filter fun i=>m.testBit i
def andN (a b:Nat):Nat:=a &&& (b ^^^ (2 ^ 64-1))
def maskL :List Nat→Nat
 | []=>0
 | i::l=>2 ^ i ||| maskL l
theorem andN_bit {a:Nat} (b:Nat) (ha:a<2 ^ 64) (j:Nat):(andN a b).testBit j=(a.testBit j&& !b.testBit j):=by
 rw[andN,Nat.testBit_and,Nat.testBit_xor,Nat.testBit_two_pow_sub_one]
 by_cases h:j<64
 ·simp[h]
 ·have:a.testBit j=false:=Nat.testBit_lt_two_pow (Nat.lt_of_lt_of_le ha (Nat.pow_le_pow_right (by omega) (by omega)))
  simp[this]
theorem andN_lt {a:Nat} (b:Nat) (ha:a<2 ^ 64):andN a b<2 ^ 64:=Nat.lt_of_le_of_lt Nat.and_le_left ha
theorem filter_first {p p':Nat→Bool} {t:Nat} (hp:p t=true) (h0: ∀j,j<t→p j=false) (hp': ∀j,p' j=(p j&&decide (j≠t))): ∀n,t<n→(List.range n).filter p=t::(List.range n).filter p'
 | 0,h=>by omega
 | n+1,h=>by
  rw[List.range_succ,List.filter_append,List.filter_append]
  by_cases ht:t<n
  ·rw[filter_first hp h0 hp' n ht]
   have:p' n=p n:=by rw[hp'];simp;omega
   simp[List.filter_cons,this]
  ·have:t=n:=by omega
   subst this
   have e1:(List.range t).filter p= []:=List.filter_eq_nil_iff.2 fun j hj=>by rw[h0 j (List.mem_range.1 hj)];decide
   have e2:(List.range t).filter p'= []:=List.filter_eq_nil_iff.2 fun j hj=>by rw[hp',h0 j (List.mem_range.1 hj)];simp
   have e3:p' t=false:=by rw[hp'];simp
   rw[e1,e2];simp[hp,e3]
theorem bits_lt (m:Nat): ∀i∈bitsM m,i<64∧m.testBit i=true:=fun i hi=>by
 simp only[bitsM,List.mem_filter,List.mem_range]at hi;exact hi
theorem bits_zero :bitsM 0= []:=by simp[bitsM]
theorem ctz_lt {m:Nat} (h0:m≠0) (hm:m<2 ^ 64):Lib.ctz 64 m<64:=(Lib.lowest_bit 64 m h0 hm).2
theorem ctz_first {m:Nat} (h0:m≠0) (hm:m<2 ^ 64):m.testBit (Lib.ctz 64 m)=true∧ ∀j,j<Lib.ctz 64 m→m.testBit j=false:=by
 obtain⟨k,hk,ht⟩:=Lib.ctzFrom_spec 64 m (by omega) hm
 have e:Lib.ctz 64 m=Lib.ctzFrom 64 m:=by simp[Lib.ctz,h0]
 rw[e]
 generalize Lib.ctzFrom 64 m=t at *
 have e3:m=2 ^ t*(2*k+1)+0:=by omega
 have b2: ∀j,m.testBit j=if j<t then(0:Nat).testBit j else(2*k+1).testBit (j-t):=fun j=>by
  conv=>lhs;rw[e3]
  exact Nat.testBit_two_pow_mul_add _ (Nat.pow_pos (by omega)) j
 refine⟨?_,fun j hj=>?_⟩
 ·rw[b2,if_neg (by omega),Nat.sub_self,Nat.testBit_zero];simp
 ·rw[b2,if_pos hj];simp
theorem bits_cons {m:Nat} (h0:m≠0) (hm:m<2 ^ 64):bitsM m=Lib.ctz 64 m::bitsM (andN m (2 ^ Lib.ctz 64 m)):=by
 obtain⟨h1,h2⟩:=ctz_first h0 hm
 refine filter_first h1 h2 (fun j=>?_) 64 (ctz_lt h0 hm)
 rw[andN_bit _ hm,Nat.testBit_two_pow]
 congr 1
 by_cases h:Lib.ctz 64 m=j <;> simp[h]
 omega
theorem bits_andN {a:Nat} (b:Nat) (ha:a<2 ^ 64):bitsM (andN a b)=(bitsM a).filter fun k=> !b.testBit k:=by
 rw[bitsM,bitsM,List.filter_filter]
 refine List.filter_congr fun j _=>?_
 rw[andN_bit b ha,Bool.and_comm]
theorem bits_any {a:Nat} (b:Nat) (ha:a<2 ^ 64):(bitsM a).any (fun k=>b.testBit k)=decide (a &&& b≠0):=by
 rw[Bool.eq_iff_iff,List.any_eq_true,decide_eq_true_iff]
 constructor
 ·rintro⟨j,hj,hb⟩ h0
  have h1:=congrArg (·.testBit j) h0
  simp only[Nat.testBit_and,Nat.zero_testBit,(bits_lt a j hj).2,hb]at h1
  cases h1
 ·intro h
  refine Decidable.byContradiction fun hn=>h (Nat.eq_of_testBit_eq fun j=>?_)
  rw[Nat.testBit_and,Nat.zero_testBit]
  by_cases hj:j<64
  ·cases h1:a.testBit j with
   | false=>rfl
   | true =>
    cases h2:b.testBit j with
    | false=>rfl
    | true=>exact absurd ⟨j,by simp[bitsM,hj,h1],h2⟩ hn
  ·rw[Nat.testBit_lt_two_pow (Nat.lt_of_lt_of_le ha (Nat.pow_le_pow_right (by omega) (by omega)))];rfl
theorem mask_bit : ∀(l:List Nat) (j:Nat),(maskL l).testBit j=decide (j∈l)
 | [],j=>by simp[maskL]
 | i::l,j=>by
  rw[maskL,Nat.testBit_or,Nat.testBit_two_pow,mask_bit l j]
  by_cases h:i=j <;> by_cases h2:j∈l <;> simp[h,h2] <;> omega
theorem mask_lt : ∀(l:List Nat),(∀i∈l,i<64)→maskL l<2 ^ 64
 | [],_=>by simp[maskL]
 | i::l,h=>Nat.or_lt_two_pow (Nat.pow_lt_pow_right (by omega) (h i (List.mem_cons_self ..))) (mask_lt l fun j hj=>h j (List.mem_cons_of_mem _ hj))
def bestL (cl:Nat→Nat→Bool) (v:Nat→Int):List Nat→Int×List Nat
 | []=>(0,[])
 | i::l =>
  if l.any (cl i)=true∧(bestL cl v l).1 > (bestL cl v (l.filter fun k=> !cl i k)).1+v i then bestL cl v l
  else((bestL cl v (l.filter fun k=> !cl i k)).1+v i,i::(bestL cl v (l.filter fun k=> !cl i k)).2)
termination_by l=>l.length
decreasing_by all_goals (simp only[List.length_cons,List.unattach_filter,List.unattach_attach];first|omega|(have:=List.length_filter_le (fun k=> !cl i k) l;omega))
theorem bestL_nil (cl:Nat→Nat→Bool) (v:Nat→Int):bestL cl v []=(0,[]):=by rw[bestL]
theorem bestL_cons (cl:Nat→Nat→Bool) (v:Nat→Int) (i:Nat) (l:List Nat):bestL cl v (i::l)=if l.any (cl i)=true∧(bestL cl v l).1 > (bestL cl v (l.filter fun k=> !cl i k)).1+v i then bestL cl v l
  else((bestL cl v (l.filter fun k=> !cl i k)).1+v i,i::(bestL cl v (l.filter fun k=> !cl i k)).2):=by rw[bestL]
theorem bestL_sub (cl:Nat→Nat→Bool) (v:Nat→Int): ∀(n:Nat) (l:List Nat),l.length≤n→(bestL cl v l).2.Sublist l
 | _,[],_=>by rw[bestL_nil];exact List.Sublist.refl _
 | n+1,i::l,h=>by
  have h1:l.length≤n:=by simpa using h
  have h2:=List.length_filter_le (fun k=> !cl i k) l
  rw[bestL_cons]
  split
  ·exact(bestL_sub cl v n l h1).trans (List.sublist_cons_self ..)
  ·exact((bestL_sub cl v n _ (by omega)).trans (List.filter_sublist ..)).cons₂ i
theorem bestL_bd (cl:Nat→Nat→Bool) (v:Nat→Int) {B:Int} (hB:0≤B) (hv: ∀i,0≤v i∧v i≤B): ∀(n:Nat) (l:List Nat),l.length≤n→0≤(bestL cl v l).1∧(bestL cl v l).1≤n*B
 | n,[],_=>by rw[bestL_nil];exact⟨Int.le_refl _,Int.mul_nonneg (by omega) hB⟩
 | n+1,i::l,h=>by
  have h1:l.length≤n:=by simpa using h
  have h2:=List.length_filter_le (fun k=> !cl i k) l
  have a:=bestL_bd cl v hB hv n l h1
  have b:=bestL_bd cl v hB hv n (l.filter fun k=> !cl i k) (by omega)
  have c:=hv i
  have e:((n+1:Nat):Int)*B=n*B+B:=by rw[Int.natCast_add,Int.add_mul];simp
  rw[bestL_cons,e]
  split
  ·omega
  ·dsimp only;omega
def bestM (cl:Nat→Nat→Bool) (v:Nat→Int) (m:Nat):Int×Nat:=((bestL cl v (bitsM m)).1,maskL (bestL cl v (bitsM m)).2)
theorem bestM_zero (cl:Nat→Nat→Bool) (v:Nat→Int):bestM cl v 0=(0,0):=by rw[bestM,bits_zero,bestL_nil];rfl
theorem bestM_step (c:Nat→Nat) (v:Nat→Int) {m:Nat} (h0:m≠0) (hm:m<2 ^ 64) (i:Nat) (hi:i=Lib.ctz 64 m) (r:Nat) (hr:r=andN m (2 ^ i)) :
  bestM (fun i k=>(c i).testBit k) v m=if r &&& c i≠0∧(bestM (fun i k=>(c i).testBit k) v r).1 > (bestM (fun i k=>(c i).testBit k) v (andN r (c i))).1+v i then bestM (fun i k=>(c i).testBit k) v r
   else((bestM (fun i k=>(c i).testBit k) v (andN r (c i))).1+v i,(bestM (fun i k=>(c i).testBit k) v (andN r (c i))).2 ||| 2 ^ i):=by
 subst hi
 have hrl:r<2 ^ 64:=by rw[hr];exact andN_lt _ hm
 rw[bestM,bits_cons h0 hm,←hr,bestL_cons,bits_any _ hrl]
 simp only[bestM,bits_andN _ hrl]
 by_cases h:r &&& c (Lib.ctz 64 m)≠0∧(bestL (fun i k=>(c i).testBit k) v (bitsM r)).1 > (bestL (fun i k=>(c i).testBit k) v ((bitsM r).filter fun k=> !(c (Lib.ctz 64 m)).testBit k)).1+v (Lib.ctz 64 m)
 ·rw[if_pos h,if_pos (by simpa using h)]
 ·rw[if_neg h,if_neg (by simpa using h)]
  dsimp only
  rw[maskL,Nat.or_comm]
end Go.XL
namespace Go.XL
open Go.Proofs
open Go.Maps (Keyed)
set_option maxRecDepth 100000
set_option maxHeartbeats 4000000
abbrev UN (m:Nat):V := .v (.int .u64 (m:Int))
section
variable {P:Program} {T:TypeId} {a b:Nat}
theorem bits_andNot_u64_nat (ha:a<18446744073709551616) (hb:b<18446744073709551616):bits .andNot .u64 (a:Int) (b:Int)=((andN a b:Nat):Int):=by
 have h1:(BitVec.ofInt 64 (a:Int)).toNat=a:=by
  rw[BitVec.ofInt_natCast,BitVec.toNat_ofNat];exact Nat.mod_eq_of_lt (by omega)
 have h2:(BitVec.ofInt 64 (b:Int)).toNat=b:=by
  rw[BitVec.ofInt_natCast,BitVec.toNat_ofNat];exact Nat.mod_eq_of_lt (by omega)
 have hx:(BitVec.ofInt 64 (a:Int) &&& ~~~ BitVec.ofInt 64 (b:Int)).toNat=andN a b:=by
  apply Nat.eq_of_testBit_eq
  intro j
  rw[andN_bit b (by simpa using ha)]
  have e1: ∀x:BitVec 64,x.toNat.testBit j=x.getLsbD j:=fun _=>rfl
  rw[e1,BitVec.getLsbD_and,BitVec.getLsbD_not,←e1,←e1,h1,h2]
  by_cases hj:j<64
  ·simp[hj]
  ·have:a.testBit j=false:=Nat.testBit_lt_two_pow (Nat.lt_of_lt_of_le (show a<2 ^ 64 by simpa using ha) (Nat.pow_le_pow_right (by omega) (by omega)))
   simp[this]
 have hl:andN a b<2 ^ 64:=andN_lt b (by simpa using ha)
 show IntKind.u64.wrap ((BitVec.ofInt 64 (a:Int) &&& ~~~ BitVec.ofInt 64 (b:Int)).toNat:Int)=_
 rw[hx,IntKind.wrap_u64]
 omega
theorem bop_andU (ha:a<18446744073709551616) (hb:b<18446744073709551616):bop P .and T (.int .u64 (a:Int)) (.int .u64 (b:Int))=some (.int .u64 ((a &&& b:Nat):Int)):=by
 rw[←bits_and_u64_nat a b ha hb];rfl
theorem bop_orU (ha:a<18446744073709551616) (hb:b<18446744073709551616):bop P .or T (.int .u64 (a:Int)) (.int .u64 (b:Int))=some (.int .u64 ((a ||| b:Nat):Int)):=by
 rw[←bits_or_u64_nat a b ha hb];rfl
theorem bop_andNotU (ha:a<18446744073709551616) (hb:b<18446744073709551616):bop P .andNot T (.int .u64 (a:Int)) (.int .u64 (b:Int))=some (.int .u64 ((andN a b:Nat):Int)):=by
 rw[←bits_andNot_u64_nat ha hb];rfl
theorem bop_shlU {k:IntKind} {i:Nat} (hi:i<64):bop P .shl T (.int .u64 1) (.int k (i:Int))=some (.int .u64 ((2 ^ i:Nat):Int)):=by
 have h: ¬((i:Int)<0):=by omega
 have h2:(2 ^ i:Nat)<2 ^ 64:=Nat.pow_lt_pow_right (by omega) hi
 simp only[bop,Op.shift,if_neg h,Int.toNat_natCast,Nat.min_eq_left (show i≤IntKind.u64.bits from Nat.le_of_lt hi)]
 show some (Value.int .u64 (IntKind.u64.wrap (1*2 ^ i)))=_
 have e:IntKind.u64.wrap (1*2 ^ i)=((2 ^ i:Nat):Int):=by
  rw[IntKind.wrap_u64,Int.one_mul]
  have:((2:Int) ^ i)=((2 ^ i:Nat):Int):=by simp
  rw[this]
  generalize 2 ^ i=x at h2
  omega
 rw[e]
end
theorem bop_shrH {P:Program} {T:TypeId} {k':IntKind} {a b:Int} (h: ¬b<0):bop P .shr T (.int .u64 a) (.int k' b)=some (.int .u64 (a.fdiv (2 ^ (min b.toNat 64)))):=by
 simp only[bop,Op.shift]
 rw[if_neg h]
 rfl
theorem and_pred {m:Nat} (h0:m≠0) (hm:m<2 ^ 64):m &&& (m-1)=andN m (2 ^ Lib.ctz 64 m):=by
 obtain⟨k,hk,ht⟩:=Lib.ctzFrom_spec 64 m (by omega) hm
 have e:Lib.ctz 64 m=Lib.ctzFrom 64 m:=by simp[Lib.ctz,h0]
 rw[e]
 generalize Lib.ctzFrom 64 m=t at *
 apply Nat.eq_of_testBit_eq
 intro j
 rw[andN_bit _ hm,Nat.testBit_and,Nat.testBit_two_pow]
 have h1:0<2 ^ t:=Nat.pow_pos (by omega)
 have e2:m-1=2 ^ t*(2*k)+(2 ^ t-1):=by rw[hk,Nat.mul_add];omega
 have e3:m=2 ^ t*(2*k+1)+0:=by omega
 have b1:(m-1).testBit j=if j<t then(2 ^ t-1).testBit j else(2*k).testBit (j-t):=by
  rw[e2];exact Nat.testBit_two_pow_mul_add _ (by omega) j
 have b2:m.testBit j=if j<t then(0:Nat).testBit j else(2*k+1).testBit (j-t):=by
  conv=>lhs;rw[e3]
  exact Nat.testBit_two_pow_mul_add _ h1 j
 rw[b1,b2]
 by_cases hj:j<t
 ·simp[hj]
 ·rw[if_neg hj,if_neg hj]
  by_cases hj2:t=j
  ·subst hj2
   simp[Nat.testBit_zero]
  ·obtain⟨d,rfl⟩: ∃d,j=t+(d+1):=⟨j-t-1,by omega⟩
   have:t+(d+1)-t=d+1:=by omega
   rw[this,Nat.testBit_succ,Nat.testBit_succ]
   have:(2*k+1) / 2=k:=by omega
   have:2*k / 2=k:=by omega
   simp[*]
section
variable {P:Program} {t k e:TypeId} {b:Nat} {f:Value→Option Value} {es:Array MapEntry} {clock:Nat} {key z:Value}
theorem lookup_map2 (K:Keyed P k) (ht:P.underlying t=some (.map k e)) (hz: ∀w:World,(zeroValue e).run P w = .ok z w) (M:MapIs P k f es clock) (hk:KeyOk P k key) (w:World) (hb:w.heap[b]?=some (.map es clock)) :
  (Instr.lookup t (.map (some b)) key true).run P w = .ok (.tuple #[(f key).getD z, .bool (f key).isSome]) w:=by
 obtain⟨l,hl⟩:=hk
 rcases M.find K ⟨l,hl⟩with⟨h1,_,h2⟩|⟨j,e0,_,_,h1,h2⟩
 ·simp[Instr.lookup,run_underlying ht,MapKept.run_getObj_map hb,K.check w _ hl,h2,hz,h1,Result.andThen]
 ·simp[Instr.lookup,run_underlying ht,MapKept.run_getObj_map hb,K.check w _ hl,h2,hz,h1,Result.andThen]
end
section
variable {v0:VH} {P:Program} {n:Nat} {r:Rr} {Q:VEnv→Sto→Prop} {k:List Fr} {E:VEnv} {S:Sto} {dst:Option Tmp} {ty:TypeId} {pos:String} {af:Array Edge} {ops l:List Oper}
theorem OpS.look2 {T kt e:TypeId} {mx kx:Operand} {b:Nat} {f:Value→Option Value} {es:Array MapEntry} {clock:Nat} {key z:Value} {u:V} (K:Keyed P kt) (ht:P.underlying T=some (.map kt e)) (hz:tzero P e=some z) (M:MapIs P kt f es clock) (hk:KeyOk P kt key)
  (h1:evV E mx=some (.v (.map (some b)))) (h2:evV E kx=some (.v key)) (hS:lookS S b=some (.raw (.map es clock))) (hu: ∀hv,u.Rl hv ((f key).getD z)) (huf:(V.tup [u, .v (.bool (f key).isSome)]).free=true) :
  OpS v0 P n ⟨dst, .lookup T mx kx true,ty,pos,af,none⟩ E S (fun x E' S'=>x = .tup [u, .v (.bool (f key).isSome)]∧E'=E∧S'=S):=by
 intro K1 D hv hold env a w hfl ha s
 obtain⟨y1,a1,b1⟩:=s.rl _ _ h1
 obtain⟨y2,a2,b2⟩:=s.rl _ _ h2
 simp only[V.Rl]at b1 b2
 subst b1;subst b2
 have hb:w.heap[b]?=some (.map es clock):=(s.obj b _ hS).2.2
 have:=lookup_map2 K ht (fun w=>tzero_run hz w) M hk w hb
 refine yields_value (w':=w) (by simp[execOp,ha.ev a1,ha.ev a2,this];rfl) ⟨Same.refl w,_,E,S,hv,hold,PreV.refl hv,s.put dst (by simp only[V.Rl,RlL];exact⟨_,rfl,_,_,rfl,hu hv,_,_,rfl,rfl,rfl⟩) fun _ _=>V.free_Own (v := .tup [u, .v (.bool (f y2).isSome)]) huf _,rfl,rfl,rfl⟩
theorem DS.look2 {T kt e:TypeId} {mx kx:Operand} {b:Nat} {f:Value→Option Value} {es:Array MapEntry} {clock:Nat} {key z:Value} {u:V} (K:Keyed P kt) (ht:P.underlying T=some (.map kt e)) (hz:tzero P e=some z) (M:MapIs P kt f es clock) (hk:KeyOk P kt key)
  (h1:evV E mx=some (.v (.map (some b)))) (h2:evV E kx=some (.v key)) (hS:lookS S b=some (.raw (.map es clock))) (hu: ∀hv,u.Rl hv ((f key).getD z)) (huf:(V.tup [u, .v (.bool (f key).isSome)]).free=true) (hd:dok n dst=true) (q:DS P n r Q (.ops ops l::k) (putV E dst (.tup [u, .v (.bool (f key).isSome)])) S) :
  DS P n r Q (.ops ops (⟨dst, .lookup T mx kx true,ty,pos,af,none⟩::l)::k) E S:=by
 refine DS.step rfl rfl hd (OpS.look2 K ht hz M hk h1 h2 hS hu huf) fun u E' S' ⟨h1,h2,h3⟩=>?_
 subst h1;subst h2;subst h3;exact q
end
theorem bop_andG {P:Program} {T:TypeId} {a b:Int}:bop P .and T (.int .u64 a) (.int .u64 b)=some (.int .u64 (bits .and .u64 a b)):=rfl
theorem bop_shr58 {P:Program} {T:TypeId} {k':IntKind} {a:Int}:bop P .shr T (.int .u64 a) (.int k' 58)=some (.int .u64 (a / 288230376151711744)):=by
 rw[bop_shrH (by decide),Int.fdiv_eq_ediv_of_nonneg _ (by decide)]
 have:(2:Int) ^ (min (58:Int).toNat 64)=288230376151711744:=by decide
 rw[this]
theorem bruijn_at (k:Nat) (hk:k<64) (idx:Nat) (hi:idx<64) (h:Lib.deBruijn64tab.getD idx 0=k):(bruijn.map fun n=>V.v (.int .u8 n))[idx]?=some (.v (.int .u8 (k:Nat))):=by
 have e2:bruijn=Lib.deBruijn64tab.map fun n=>((n:Nat):Int):=by decide +kernel
 have hi':idx<Lib.deBruijn64tab.length:=hi
 have e3:Lib.deBruijn64tab[idx]=k:=by
  rw[←h,List.getD_eq_getElem?_getD,List.getElem?_eq_getElem hi'];rfl
 rw[e2,List.map_map,List.getElem?_map,List.getElem?_eq_getElem hi',e3];rfl
theorem ctz_zero_pc :PC Tryd.prog 32 [UN 0] (I 64):=by
 refine DC.of_run Tryd.func32 rfl Tryd.ntmps32 Tryd.results32 (by simp) (fun _ _=>?_);simp only[argV_cons,argV_nil,go_sem,Nat.zero_add,Nat.reduceAdd]
 repeat' (first|(with_reducible first|refine DS.fltS yU yU yE ?_|refine DS.opsNil ?_|refine DS.seq ?_|refine DS.regionL ?_|(refine DS.cE yE ?_;refine CG.yes ?_))|refine DS.retT [] yE trivial ?_|fail)
 all_goals first|rfl|(exfalso;omega)
theorem yX4 {p:Prop} (h:p:=by(simp (disch:=omega) only[go_sem,dopV,yV0,↓reduceIte,Nat.reduceEqDiff,Nat.reduceLT,Nat.reduceLeDiff,Nat.reduceAdd,Nat.reduceMul,Nat.reduceSub,Int.reduceToNat,Int.reduceLT,Int.reduceLE,Int.reduceEq,IntWalk.toNatUp,IntWalk.iteOmega,IntWalk.i64_in,V.flat,V.one, *,bop_andG,bop_shr58];exact rfl)):p:=h
theorem ctz_walk (m k idx:Nat) (h0:m≠0) (hm:m<18446744073709551616) (hk:k<64) (hi:idx<64) (hget:(bruijn.map fun n=>V.v (.int .u8 n))[idx]?=some (.v (.int .u8 (k:Nat))))
  (key:IntKind.u64.wrap (bits .and .u64 (m:Int) (IntKind.u64.wrap (0-(m:Int)))*285870213051353865) / 288230376151711744=(idx:Int)):PC Tryd.prog 32 [UN m] (I (k:Nat)):=by
 have hbl:bruijn.length=64:=rfl
 refine DC.of_run Tryd.func32 rfl Tryd.ntmps32 Tryd.results32 (by simp) (fun _ _=>?_);simp only[argV_cons,argV_nil,go_sem,Nat.zero_add,Nat.reduceAdd]
 repeat' (first|(with_reducible first|refine DS.fltS yU yU yX4 ?_|refine DS.opsNil ?_|refine DS.seq ?_|refine DS.regionL ?_|(refine DS.cE yX4 ?_;refine CG.p (fun _=>?_) (fun _=>?_))|refine DS.skip ?_)|refine DS.retT [] yX4 trivial ?_|fail)
 all_goals first|(exfalso;omega)|rfl
theorem ctz_pc (m:Nat) (hm:m<18446744073709551616):PC Tryd.prog 32 [UN m] (I (Lib.ctz 64 m:Nat)):=by
 by_cases h0:m=0
 ·subst h0;exact ctz_zero_pc
 ·obtain⟨hlow,hk⟩:=Lib.lowest_bit 64 m h0 (by simpa using hm)
  obtain⟨hi,htab⟩:=Lib.deBruijn64_at _ hk
  have key:=tz64_key m _ hm h0 hlow
  rw[←Int.zero_sub]at key
  exact ctz_walk m _ _ h0 hm hk hi (bruijn_at _ hk _ hi htab) key
end Go.XL
namespace Go.XL
open Go.Proofs
set_option maxRecDepth 100000
set_option maxHeartbeats 8000000
theorem bop_shr1 {P:Program} {T:TypeId} {k':IntKind} {a:Int}:bop P .shr T (.int .u64 a) (.int k' 1)=some (.int .u64 (a / 2)):=by
 rw[bop_shrH (by decide),Int.fdiv_eq_ediv_of_nonneg _ (by decide)]
 have:(2:Int) ^ (min (1:Int).toNat 64)=2:=by decide
 rw[this]
theorem isNaNI_pc (a:Int):PC Tryd.prog 26 [I a] (Bo false):=by
 refine DC.of_run Tryd.func26 rfl Tryd.ntmps26 Tryd.results26 (by simp) (fun _ _=>?_);simp only[argV_cons,argV_nil,go_sem,Nat.zero_add,Nat.reduceAdd]
 repeat' (first|(with_reducible first|refine DS.fltS yU yU yE ?_|refine DS.opsNil ?_|refine DS.seq ?_|refine DS.regionL ?_)|refine DS.retT [] yE trivial ?_|fail)
 all_goals first|rfl|(exfalso;omega)|(simp[tupV];done)
def cmpS (a b:Int):Int:=if a<b then -1 else if b<a then 1 else 0
theorem cmpS_lt (a b:Int):cmpS a b<0↔a<b:=by unfold cmpS;split <;> (try split) <;> omega
theorem cmpS_eq (a b:Int):cmpS a b=0↔a=b:=by unfold cmpS;split <;> (try split) <;> omega
theorem cmpI_pc (a b:Int):PC Tryd.prog 14 [I a,I b] (I (cmpS a b)):=by
 have h1:=isNaNI_pc a
 have h2:=isNaNI_pc b
 refine DC.of_run Tryd.func14 rfl Tryd.ntmps14 Tryd.results14 (by simp) (fun _ _=>?_);simp only[argV_cons,argV_nil,go_sem,Nat.zero_add,Nat.reduceAdd]
 repeat' (first|(with_reducible first|refine DS.fltS yU yU yE ?_|refine DS.opsNil ?_|refine DS.seq ?_|refine DS.regionL ?_|(refine DS.cE yE ?_;first|refine CG.p (fun _=>?_) (fun _=>?_)|refine CG.no ?_)|refine DS.skip ?_)|refine DS.pcS inferInstance (h1) yR yF ?_|refine DS.pcS inferInstance (h2) yR yF ?_|refine DS.retT [] yE trivial ?_|fail)
 all_goals (simp only[tupV,cmpS];(repeat' split) <;> first|rfl|(exfalso;omega))
theorem pointsC_pc (x:Limit) (v:Int):PC Tryd.prog 13 [x.val,I v] (I (cmpS x.from_ v)):=by
 refine DC.of_run Tryd.func13 rfl Tryd.ntmps13 Tryd.results13 (by simp) (fun _ _=>?_);simp only[argV_cons,argV_nil,go_sem,Nat.zero_add,Nat.reduceAdd]
 repeat' (first|(with_reducible first|refine DS.fltS yU yU yE ?_|refine DS.opsNil ?_|refine DS.seq ?_|refine DS.regionL ?_)|refine DS.pcS inferInstance (cmpI_pc _ _) yR yT ?_|(refine DS.boxF (t:=2) yU yE yU ?_;simp only[cells_agg,cells_v,cells_lst,cells_fn,map_nil'',map_cons'',copy_own,copy_lst,copy_v,copy_at,copy_agg,copy_fn,copy_ifc,copy_tup])|refine DS.retT [] yE trivial ?_|fail)
 rfl
structure Found (l:List Limit) (v:Int) (i:Nat):Prop where
 le:i≤l.length
 lo: ∀(t:Nat) (h:t<l.length),t<i→l[t].from_<v
 hi: ∀(t:Nat) (h:t<l.length),i≤t→v≤l[t].from_
def Rise (l:List Limit):Prop:= ∀(a b:Nat) (ha:a<l.length) (hb:b<l.length),a≤b→l[a].from_≤l[b].from_
theorem yX5 {p:Prop} (h:p:=by(simp (disch:=omega) only[go_sem,dopV,yV0,↓reduceIte,Nat.reduceEqDiff,Nat.reduceLT,Nat.reduceLeDiff,Nat.reduceAdd,Nat.reduceMul,Nat.reduceSub,Int.reduceToNat,Int.reduceLT,Int.reduceLE,Int.reduceEq,IntWalk.toNatUp,IntWalk.iteOmega,IntWalk.i64_in,V.flat,V.one, *,bop_shr1,IntWalk.u64_in];exact rfl)):p:=h
theorem yX6 {p:Prop} (h:p:=by(simp (disch:=omega) only[go_sem,dopV,yV0,↓reduceIte,Nat.reduceEqDiff,Nat.reduceLT,Nat.reduceLeDiff,Nat.reduceAdd,Nat.reduceMul,Nat.reduceSub,Int.reduceToNat,Int.reduceLT,Int.reduceLE,Int.reduceEq,IntWalk.toNatUp,IntWalk.iteOmega,IntWalk.i64_in,V.flat,V.one, *,bop_shr1,IntWalk.u64_in];try exact rfl)):p:=h
theorem search_dc (l:List Limit) (v:Int) (hr:Rise l) (hl:l.length≤1000) :
  DC Tryd.prog 12 [.lst (l.map Limit.cells),I v, .fn 13 [] []] [] (fun u S'=> ∃i:Nat,Found l v i∧u = .tup [I i,Bo (decide (∃h:i<l.length,l[i].from_=v))]):=by
 have HR:=Box.mk hr
 clear hr
 refine DC.of_run Tryd.func12 rfl Tryd.ntmps12 Tryd.results12 (by simp) (fun _ _=>?_);simp only[argV_cons,argV_nil,go_sem,Nat.zero_add,Nat.reduceAdd]
 repeat' (first|(with_reducible first|refine DS.fltS yU yU yE ?_|refine DS.opsNil ?_|refine DS.seq ?_|refine DS.regionL ?_|refine DS.block ?_)|fail)
 refine DS.loopK [0,1,2,8] yN (fun(x:Nat×Nat)=> [(9,I x.1),(10,I x.2)]) (fun(x:Nat×Nat)=>x.1≤x.2∧x.2≤l.length∧(∀(t:Nat) (h:t<l.length),t<x.1→l[t].from_<v)∧(∀(t:Nat) (h:t<l.length),x.2≤t→v≤l[t].from_)) (fun(x:Nat×Nat)=>x.2-x.1) (0,l.length) yS ⟨Nat.zero_le _,Nat.le_refl _,fun t h h2=>absurd h2 (Nat.not_lt_zero _),fun t h h2=>absurd h (by omega)⟩ (fun x B hI hB=>?_);try dsimp only at hI hB;simp only[app_cons',app_nil']
 obtain⟨lo,hi⟩:=x
 dsimp only at hI hB
 obtain⟨i1,i2,i3,i4⟩:=hI
 have H:=Box.mk (And.intro i3 i4)
 have HB:=Box.mk hB
 clear i3 i4 hB
 by_cases hlt:lo<hi
 ·have hlt':(lo:Int)<(hi:Int):=by omega
  obtain⟨m,hm⟩: ∃m:Nat,m=(lo+hi) / 2:=⟨_,rfl⟩
  have hm1:((lo:Int)+(hi:Int)) / 2=(m:Int):=by omega
  have hm2:m<l.length:=by omega
  have hm3:lo≤m∧m<hi:=by omega
  have hp:=pointsC_pc l[m] v
  clear hm
  repeat' (first|(with_reducible first|refine DS.fltS yU yU yX5 ?_|refine DS.opsNil ?_|refine DS.seq ?_|refine DS.regionL ?_|(refine DS.cE yX5 ?_;first|refine CG.p (fun _=>?_) (fun _=>?_)|refine CG.yes ?_)|refine DS.blk ?_|refine DS.block ?_|refine DS.skip ?_)|refine DS.pcVS inferInstance yX5 (hp) yR yX6 ?_|fail)
  ·rename_i e
   have e1:=(cmpS_lt _ _).1 e
   exact DS.back (HB.out (m+1,hi) _ _ (by dsimp only;omega) ⟨by dsimp only;omega,i2,fun t h ht=>by
    have:=HR.out t m h hm2 (by dsimp only at ht;omega)
    omega,H.out.2⟩ yS yS (fun b o e=>by exact e))
  ·rename_i e
   have e1: ¬l[m].from_<v:=fun h=>e ((cmpS_lt _ _).2 h)
   exact DS.back (HB.out (lo,m) _ _ (by dsimp only;omega) ⟨by dsimp only;omega,by dsimp only;omega,H.out.1,fun t h ht=>by
    have:=HR.out m t hm2 h ht
    omega⟩ yS yS (fun b o e=>by exact e))
 ·have hlt': ¬(lo:Int)<(hi:Int):=by omega
  have he:hi=lo:=by omega
  have hle:lo≤l.length:=by omega
  rw[he]at H
  clear he i1 HB
  have HF:Found l v lo:=⟨hle,H.out.1,H.out.2⟩
  by_cases hl2:lo<l.length
  ·have hl3:(lo:Int)<(l.length:Int):=by omega
   have hp:=pointsC_pc l[lo] v
   have hd:decide (∃h:lo<l.length,l[lo].from_=v)=decide (cmpS l[lo].from_ v=0):=by
    rw[decide_eq_decide,cmpS_eq];exact⟨fun⟨_,h⟩=>h,fun h=>⟨hl2,h⟩⟩
   have HF:=Box.mk (And.intro HF hd)
   clear hd
   repeat' (first|(with_reducible first|refine DS.fltS yU yU yE ?_|refine DS.opsNil ?_|refine DS.seq ?_|refine DS.regionL ?_|(refine DS.cE yE ?_;refine CG.no ?_)|(refine DS.gE yU yE ?_;refine GG.run ?_)|refine DS.exit yU ?_)|refine DS.pcVS inferInstance yE (hp) yR yT ?_|refine DS.retT [] yE trivial ?_|fail)
   all_goals exact⟨lo,HF.out.1,by rw[HF.out.2];rfl⟩
  ·have hl3: ¬(lo:Int)<(l.length:Int):=by omega
   have hd:decide (∃h:lo<l.length,l[lo].from_=v)=false:=by
    rw[decide_eq_false_iff_not];rintro⟨h,-⟩;exact hl2 h
   have HF:=Box.mk (And.intro HF hd)
   clear hd
   repeat' (first|(with_reducible first|refine DS.fltS yU yU yE ?_|refine DS.opsNil ?_|refine DS.seq ?_|refine DS.regionL ?_|(refine DS.cE yE ?_;refine CG.no ?_)|(refine DS.gE yU yE ?_;refine GG.sF ?_)|refine DS.exit yU ?_)|refine DS.retT [] yE trivial ?_|fail)
   all_goals exact⟨lo,HF.out.1,by rw[HF.out.2];rfl⟩
theorem limits_ok : ∀{l:List Limit} {p:Option Limit},limitsGo l p=0→(∀x∈l,(1≤x.from_∧x.from_≤1000)∧0≤x.points∧x.points≤1000000)∧l.Pairwise (fun a b=>a.from_<b.from_∧a.points≤b.points)∧ ∀q,p=some q→ ∀x∈l,q.from_<x.from_∧q.points≤x.points
 | [],_,_=>⟨by simp, .nil,by simp⟩
 | y::l,p,h=>by
  rw[limitsGo]at h
  obtain⟨h1,h⟩:=ite0 (by decide) h
  obtain⟨h2,h⟩:=ite0 (by decide) h
  obtain⟨h3,h⟩:=ite0 (by decide) h
  obtain⟨k1,k2,k3⟩:=limits_ok h
  have k4:=k3 y rfl
  refine⟨fun x hx=>?_,List.pairwise_cons.2 ⟨k4,k2⟩,fun q hq x hx=>?_⟩
  ·rcases List.mem_cons.1 hx with rfl|hx
   ·omega
   ·exact k1 x hx
  ·subst hq
   simp only[anyO,Bool.or_eq_true,decide_eq_true_eq,not_or]at h3
   rcases List.mem_cons.1 hx with rfl|hx
   ·omega
   ·have:=k4 x hx;omega
theorem rise_of {l:List Limit} (h:l.Pairwise (fun a b=>a.from_<b.from_∧a.points≤b.points)):Rise l:=fun a b ha hb hab=>by
 rcases Nat.lt_or_ge a b with h1|h1
 ·have:=List.pairwise_iff_getElem.1 h a b ha hb h1;omega
 ·have:a=b:=by omega
  subst this;exact Int.le_refl _
theorem limG_out (v:Int): ∀(l:List Limit) (out:Option Int),(∀x∈l,v<x.from_)→limG v l out=out
 | [],_,_=>rfl
 | y::l,out,h=>by
  have h1:=h y (List.mem_cons_self ..)
  rw[limG,if_neg (by omega)]
  exact limG_out v l out fun x hx=>h x (List.mem_cons_of_mem _ hx)
theorem limG_at (v:Int): ∀(l:List Limit) (out:Option Int) (j:Nat) (hj:j<l.length),l[j].from_≤v→(∀(t:Nat) (ht:t<l.length),j<t→v<l[t].from_)→limG v l out=some l[j].points
 | y::l,out,0,hj,h1,h2=>by
  rw[limG,if_pos (by simpa using h1),limG_out]
  ·rfl
  ·intro x hx
   obtain⟨t,ht,rfl⟩:=List.getElem_of_mem hx
   have:=h2 (t+1) (by simpa using ht) (by omega)
   simpa using this
 | y::l,out,j+1,hj,h1,h2=>by
  rw[limG]
  have hj':j<l.length:=by simpa using hj
  refine(limG_at v l _ j hj' (by simpa using h1) fun t ht hjt=>?_).trans (by simp)
  have:=h2 (t+1) (by simpa using ht) (by omega)
  simpa using this
theorem min_ite {a b:Int}:(if b<a then b else a)=min a b:=by rw[Int.min_def];split <;> split <;> omega
theorem shl_pts {T:TypeId} {n v:Int} (hn:0≤n∧n≤1000000) (hv:0≤v):bop Tryd.prog .shl T (.int .i64 n) (.int .i64 (if 21<v then 21 else v))=some (.int .i64 (n*2 ^ (min v 21).toNat)):=by
 rw[min_ite]
 obtain⟨s,hs⟩: ∃s:Nat,s=(min v 21).toNat:=⟨_,rfl⟩
 have hs2:min v 21=(s:Int):=by rw[hs];omega
 have hs3:s≤21:=by omega
 have hp:(2:Int) ^ s≤2 ^ 21:=by
  have:=Nat.pow_le_pow_right (n:=2) (by omega) hs3
  exact_mod_cast this
 have hp0:(0:Int)≤2 ^ s:=by
  have:=Nat.zero_le (2 ^ s)
  exact_mod_cast this
 have h1:0≤n*2 ^ s:=Int.mul_nonneg hn.1 hp0
 have h2:n*2 ^ s≤1000000*2097152:=Int.mul_le_mul hn.2 (by simpa using hp) hp0 (by omega)
 rw[hs2]
 simp only[bop,Op.shift,if_neg (show ¬((s:Int)<0) by omega),Int.toNat_natCast,Nat.min_eq_left (show s≤IntKind.i64.bits from Nat.le_trans hs3 (by decide))]
 show some (Value.int .i64 (IntKind.i64.wrap (n*2 ^ s)))=_
 rw[IntWalk.i64_in _ (by omega)]
theorem pts_some {x:Scale} {minor value:Int} (h0:scaleS x=0) (h1:0≤minor∧minor≤1000) (h2:0≤value∧value≤1073741824) {p:Int} (h:limS x value=some p):ptsS x minor value=p:=by
 rw[ptsS,if_neg (by omega),if_neg (by omega),if_neg (by omega),h]
theorem pts_none {x:Scale} {minor value:Int} (h0:scaleS x=0) (h1:0≤minor∧minor≤1000) (h2:0≤value∧value≤1073741824) (h:limS x value=none) :
  ptsS x minor value=min (if x.double=true then x.base*minor*2 ^ (min value 21).toNat else x.base*minor*value) (mostS x):=by
 rw[ptsS,if_neg (by omega),if_neg (by omega),if_neg (by omega),h]
theorem points_pc (x:Scale) (minor value:Int):PC Tryd.prog 5 [x.val,I minor,I value] (I (ptsS x minor value)):=by
 have hs:=checkScale_pc x
 by_cases h0:scaleS x=0
 ·rw[h0]at hs
  by_cases h1:0≤minor∧minor≤1000
  ·by_cases h2:0≤value∧value≤1073741824
   ·obtain⟨b1,b2,b3,b4⟩:=scale_ok h0
    obtain⟨k1,k2,-⟩:=limits_ok b4
    have hr:=rise_of k2
    have hsd:=search_dc x.limits value hr (by omega)
    have hm1:0≤x.base*minor:=Int.mul_nonneg b1.1 h1.1
    have hm2:x.base*minor≤1000*1000:=Int.mul_le_mul b1.2 h1.2 h1.1 (by omega)
    have hm3:0≤x.base*minor*value:=Int.mul_nonneg hm1 h2.1
    have hm4:x.base*minor*value≤1000*1000*1073741824:=Int.mul_le_mul hm2 h2.2 h2.1 (by omega)
    have hsh:bop Tryd.prog .shl 3 (.int .i64 (x.base*minor)) (.int .i64 (if 21<value then 21 else value))=some (.int .i64 (x.base*minor*2 ^ (min value 21).toNat)):=shl_pts ⟨hm1,hm2⟩ h2.1
    by_cases hl:0<x.limits.length
    ·have hl':(0:Int)<(x.limits.length:Int):=by omega
     by_cases hf:x.limits[0].from_≤value
     ·have hq: ∀i,Found x.limits value i→ ∀b,b=decide (∃h:i<x.limits.length,x.limits[i].from_=value)→ ∃j:Nat,∃hj:j<x.limits.length,(j:Int)=(if b=true then(i:Int)else(i:Int)-1)∧ptsS x minor value=x.limits[j].points:=by
       intro i hi b hb
       have fin: ∀(j:Nat) (hj:j<x.limits.length),x.limits[j].from_≤value→(∀(t:Nat) (ht:t<x.limits.length),j<t→value<x.limits[t].from_)→ptsS x minor value=x.limits[j].points:=fun j hj e1 e2=>pts_some h0 h1 h2 (limG_at value _ none j hj e1 e2)
       have hst: ∀(a b:Nat) (ha:a<x.limits.length) (hb:b<x.limits.length),a<b→x.limits[a].from_<x.limits[b].from_:=fun a b ha hb h=>(List.pairwise_iff_getElem.1 k2 a b ha hb h).1
       by_cases he: ∃h:i<x.limits.length,x.limits[i].from_=value
       ·rw[decide_eq_true he]at hb
        obtain⟨h3,h4⟩:=he
        refine⟨i,h3,by rw[if_pos hb],fin i h3 (by omega) fun t ht hit=>?_⟩
        have:=hst i t h3 ht hit;omega
       ·rw[decide_eq_false he]at hb
        have hi0:0<i:=by
         refine Nat.pos_of_ne_zero fun h=>?_
         subst h
         have:=hi.hi 0 hl (Nat.le_refl _)
         exact he ⟨hl,by omega⟩
        have hle:=hi.le
        refine⟨i-1,by omega,by rw[hb,if_neg (by decide)];omega,fin (i-1) (by omega) ?_ fun t ht hit=>?_⟩
        ·have:=hi.lo (i-1) (by omega) (by omega);omega
        ·have:=hi.hi t ht (by omega)
         have hne:x.limits[t].from_≠value:=fun h=>by
          rcases Nat.lt_or_ge i t with h5|h5
          ·have:=hst i t (by omega) ht h5
           have:=hi.hi i (by omega) (Nat.le_refl _)
           omega
          ·have:i=t:=by omega
           subst this;exact he ⟨ht,h⟩
         omega
      have HQ:=Box.mk hq
      clear hq k1 k2 hr b4
      refine DC.of_run Tryd.func5 rfl Tryd.ntmps5 Tryd.results5 (by simp) (fun _ _=>?_);simp only[argV_cons,argV_nil,go_sem,Nat.zero_add,Nat.reduceAdd]
      repeat' (first|(with_reducible first|refine DS.fltS yU yU yE ?_|refine DS.opsNil ?_|refine DS.seq ?_|refine DS.regionL ?_|(refine DS.cE yE ?_;first|refine CG.p (fun _=>?_) (fun _=>?_)|refine CG.yes ?_)|(refine DS.gE yU yE ?_;first|refine GG.pF (fun _=>?_) (fun _=>?_)|refine GG.run ?_|refine GG.sT ?_)|refine DS.skip ?_)|refine DS.pcS inferInstance (hs) yR yT ?_|(refine DS.boxF (t:=3) yU yE yU ?_;simp only[cells_agg,cells_v,cells_lst,cells_fn,map_nil'',map_cons'',copy_own,copy_lst,copy_v,copy_at,copy_agg,copy_fn,copy_ifc,copy_tup])|fail)
      all_goals try (exfalso;omega)
      refine DS.callA inferInstance hsd yR yH (fun u S' hu=>?_)
      obtain⟨i,hi,rfl⟩:=hu
      generalize hb:decide (∃h:i<x.limits.length,x.limits[i].from_=value)=b
      obtain⟨j,hj,q1,q2⟩:=HQ.out i hi b hb.symm
      rw[q2]
      have hile:=hi.le
      clear hb q2 hi HQ hsd
      cases b with
      | true =>
       have q3:i=j:=by rw[if_pos rfl]at q1;omega
       subst q3
       clear q1
       repeat' (first|(with_reducible first|refine DS.fltS yU yU yE ?_|refine DS.opsNil ?_|refine DS.seq ?_|refine DS.regionL ?_|(refine DS.cE yE ?_;refine CG.no ?_)|refine DS.skip ?_)|refine DS.retT [] yE trivial ?_|fail)
       all_goals first|rfl|(exfalso;omega)
      | false =>
       have q3:(i:Int)-1=(j:Int):=by rw[if_neg (by decide)]at q1;omega
       clear q1
       repeat' (first|(with_reducible first|refine DS.fltS yU yU yE ?_|refine DS.opsNil ?_|refine DS.seq ?_|refine DS.regionL ?_|(refine DS.cE yE ?_;refine CG.yes ?_))|refine DS.retT [] yE trivial ?_|fail)
       all_goals first|rfl|(exfalso;omega)
     ·have hn:limS x value=none:=limG_out value _ none fun y hy=>by
       obtain⟨t,ht,rfl⟩:=List.getElem_of_mem hy
       have:=hr 0 t hl ht (Nat.zero_le _);omega
      have hmo:mostS x=x.limits[0].points:=by
       unfold mostS
       split
       ·rename_i e;rw[e]at hl;simp at hl
       ·rename_i e;simp[e]
      rw[pts_none h0 h1 h2 hn,hmo]
      clear hn hmo hsd hr k2 k1 b4
      refine DC.of_run Tryd.func5 rfl Tryd.ntmps5 Tryd.results5 (by simp) (fun _ _=>?_);simp only[argV_cons,argV_nil,go_sem,Nat.zero_add,Nat.reduceAdd]
      repeat' (first|(with_reducible first|refine DS.fltS yU yU yE ?_|refine DS.opsNil ?_|refine DS.seq ?_|refine DS.regionL ?_|(refine DS.cE yE ?_;first|refine CG.p (fun _=>?_) (fun _=>?_)|refine CG.yes ?_|refine CG.no ?_|refine CG.b (fun _=>?_) (fun _=>?_))|(refine DS.gE yU yE ?_;first|refine GG.pF (fun _=>?_) (fun _=>?_)|refine GG.run ?_|refine GG.sT ?_)|refine DS.skip ?_)|refine DS.pcS inferInstance (hs) yR yT ?_|(refine DS.boxF (t:=3) yU yE yU ?_;simp only[cells_agg,cells_v,cells_lst,cells_fn,map_nil'',map_cons'',copy_own,copy_lst,copy_v,copy_at,copy_agg,copy_fn,copy_ifc,copy_tup])|refine DS.retT [] yE trivial ?_|fail)
      all_goals first|(exfalso;omega)|(rename_i hd;rw[hd];simp only[↓reduceIte,Bool.false_eq_true];exact congrArg I min_ite)
    ·have he:x.limits= []:=List.eq_nil_of_length_eq_zero (by omega)
     have hn:limS x value=none:=by rw[limS,he];rfl
     have hmo:mostS x=1000000:=by rw[mostS,he]
     have hl': ¬(0:Int)<(x.limits.length:Int):=by omega
     rw[pts_none h0 h1 h2 hn,hmo]
     clear hn hmo hsd hr k2 k1 b4 he
     refine DC.of_run Tryd.func5 rfl Tryd.ntmps5 Tryd.results5 (by simp) (fun _ _=>?_);simp only[argV_cons,argV_nil,go_sem,Nat.zero_add,Nat.reduceAdd]
     repeat' (first|(with_reducible first|refine DS.fltS yU yU yE ?_|refine DS.opsNil ?_|refine DS.seq ?_|refine DS.regionL ?_|(refine DS.cE yE ?_;first|refine CG.p (fun _=>?_) (fun _=>?_)|refine CG.yes ?_|refine CG.no ?_|refine CG.b (fun _=>?_) (fun _=>?_))|(refine DS.gE yU yE ?_;first|refine GG.pF (fun _=>?_) (fun _=>?_)|refine GG.run ?_|refine GG.sT ?_)|refine DS.skip ?_)|refine DS.pcS inferInstance (hs) yR yT ?_|(refine DS.boxF (t:=3) yU yE yU ?_;simp only[cells_agg,cells_v,cells_lst,cells_fn,map_nil'',map_cons'',copy_own,copy_lst,copy_v,copy_at,copy_agg,copy_fn,copy_ifc,copy_tup])|refine DS.retT [] yE trivial ?_|fail)
     all_goals first|(exfalso;omega)|(rename_i hd;rw[hd];simp only[↓reduceIte,Bool.false_eq_true];exact congrArg I min_ite)
   ·rw[ptsS,if_neg (by omega),if_neg (by omega),if_pos h2]
    refine DC.of_run Tryd.func5 rfl Tryd.ntmps5 Tryd.results5 (by simp) (fun _ _=>?_);simp only[argV_cons,argV_nil,go_sem,Nat.zero_add,Nat.reduceAdd]
    repeat' (first|(with_reducible first|refine DS.fltS yU yU yE ?_|refine DS.opsNil ?_|refine DS.seq ?_|refine DS.regionL ?_|(refine DS.cE yE ?_;first|refine CG.p (fun _=>?_) (fun _=>?_)|refine CG.yes ?_|refine CG.b (fun _=>?_) (fun _=>?_))|(refine DS.gE yU yE ?_;first|refine GG.pF (fun _=>?_) (fun _=>?_)|refine GG.run ?_|refine GG.sT ?_)|refine DS.skip ?_)|refine DS.pcS inferInstance (hs) yR yT ?_|(refine DS.boxF (t:=3) yU yE yU ?_;simp only[cells_agg,cells_v,cells_lst,cells_fn,map_nil'',map_cons'',copy_own,copy_lst,copy_v,copy_at,copy_agg,copy_fn,copy_ifc,copy_tup])|refine DS.retT [] yE trivial ?_|fail)
    all_goals first|rfl|(exfalso;omega)
  ·rw[ptsS,if_neg (by omega),if_pos h1]
   refine DC.of_run Tryd.func5 rfl Tryd.ntmps5 Tryd.results5 (by simp) (fun _ _=>?_);simp only[argV_cons,argV_nil,go_sem,Nat.zero_add,Nat.reduceAdd]
   repeat' (first|(with_reducible first|refine DS.fltS yU yU yE ?_|refine DS.opsNil ?_|refine DS.seq ?_|refine DS.regionL ?_|(refine DS.cE yE ?_;first|refine CG.p (fun _=>?_) (fun _=>?_)|refine CG.yes ?_|refine CG.b (fun _=>?_) (fun _=>?_))|(refine DS.gE yU yE ?_;first|refine GG.pF (fun _=>?_) (fun _=>?_)|refine GG.run ?_|refine GG.sT ?_)|refine DS.skip ?_)|refine DS.pcS inferInstance (hs) yR yT ?_|(refine DS.boxF (t:=3) yU yE yU ?_;simp only[cells_agg,cells_v,cells_lst,cells_fn,map_nil'',map_cons'',copy_own,copy_lst,copy_v,copy_at,copy_agg,copy_fn,copy_ifc,copy_tup])|refine DS.retT [] yE trivial ?_|fail)
   all_goals first|rfl|(exfalso;omega)
 ·rw[ptsS,if_pos h0]
  refine DC.of_run Tryd.func5 rfl Tryd.ntmps5 Tryd.results5 (by simp) (fun _ _=>?_);simp only[argV_cons,argV_nil,go_sem,Nat.zero_add,Nat.reduceAdd]
  repeat' (first|(with_reducible first|refine DS.fltS yU yU yE ?_|refine DS.opsNil ?_|refine DS.seq ?_|refine DS.regionL ?_|(refine DS.cE yE ?_;refine CG.yes ?_)|(refine DS.gE yU yE ?_;refine GG.sT ?_))|refine DS.pcS inferInstance (hs) yR yT ?_|(refine DS.boxF (t:=3) yU yE yU ?_;simp only[cells_agg,cells_v,cells_lst,cells_fn,map_nil'',map_cons'',copy_own,copy_lst,copy_v,copy_at,copy_agg,copy_fn,copy_ifc,copy_tup])|refine DS.retT [] yE trivial ?_|fail)
  all_goals first|rfl|(exfalso;omega)
end Go.XL
namespace Go.XL
open Go.Proofs
set_option maxRecDepth 100000
set_option maxHeartbeats 8000000
theorem checkScaleR_pc (x:Scale):PC Tryd.prog 15 [x.val] (I (scaleS x)):=by
 refine DC.of_run Tryd.func15 rfl Tryd.ntmps15 Tryd.results15 (by simp) (fun _ _=>?_);simp only[argV_cons,argV_nil,go_sem,Nat.zero_add,Nat.reduceAdd]
 repeat' (first|(with_reducible first|refine DS.fltS yU yU yE ?_|refine DS.opsNil ?_|refine DS.seq ?_|refine DS.regionL ?_|(refine DS.cE yE ?_;first|refine CG.np (fun _=>?_) (fun _=>?_)|refine CG.p (fun _=>?_) (fun _=>?_)|refine CG.yes ?_)|(refine DS.gE yU yE ?_;first|refine GG.npF (fun _=>?_) (fun _=>?_)|refine GG.run ?_|refine GG.sT ?_)|refine DS.block ?_|refine DS.skip ?_)|refine DS.pcS inferInstance (betweenR_pc _ _ _) yR yT ?_|(refine DS.boxF (t:=1) yU yE yU ?_;simp only[cells_agg,cells_v,cells_lst,cells_fn,map_nil'',map_cons'',copy_own,copy_lst,copy_v,copy_at,copy_agg,copy_fn,copy_ifc,copy_tup])|refine DS.retT [] yE trivial ?_|fail)
 all_goals try (simp[tupV,scaleS, *];done)
 rename_i g1 g2 g3
 refine DS.loopK [1] yN (fun(i:Nat)=> [(3,I i)]) (fun(i:Nat)=>i≤x.limits.length∧scaleS x=limitsGo (x.limits.drop i) (prevL x.limits i)) (fun(i:Nat)=>x.limits.length-i) 0 yS (by simp[scaleS,prevL, *]) (fun i B hI hB=>?_);try dsimp only at hI hB;simp only[app_cons',app_nil']
 have HB:=Box.mk hB
 clear hB
 by_cases hi:(i:Int)<(x.limits.length:Int)
 ·have hi':i<x.limits.length:=by omega
  have hp:i-1<x.limits.length:=by omega
  obtain⟨hI,hI2⟩:=hI
  rw[limitsGo_at hi']at hI2
  have HI:=Box.mk hI2
  clear hI2
  repeat' (first|(with_reducible first|refine DS.fltS yU yU yE ?_|refine DS.opsNil ?_|refine DS.seq ?_|refine DS.regionL ?_|(refine DS.cE yE ?_;first|refine CG.np (fun _=>?_) (fun _=>?_)|refine CG.p (fun _=>?_) (fun _=>?_)|refine CG.yes ?_|refine CG.no ?_)|(refine DS.gE yU yE ?_;first|refine GG.sU ?_|refine GG.npF (fun _=>?_) (fun _=>?_)|refine GG.run ?_|refine GG.sF ?_|refine GG.sT ?_)|refine DS.blk ?_|refine DS.block ?_|refine DS.skip ?_)|(refine DS.letF (t:=4) yU yE yU (fun _=>yE) yE yU (by exact⟨by with_unfolding_all rfl,by with_unfolding_all decide⟩) (fun _=>by simp only[go_sem,Nat.reduceEqDiff,↓reduceIte]) ?_;simp only[go_sem])|refine DS.pcS inferInstance (betweenR_pc _ _ _) yR yT ?_|refine DS.drawL (id:=11) [0,1,2,3,4,5,6,7,8,9,10,11,12,13,14,15,16,17,18,19,20,21,22] 23 (by kernel_rfl) mixed (by simp only[pickL_cons,pickL_nil,get_zero',get_cons',pickO_some];exact rfl) (by simp only[drop_zero',drop_cons',List.drop_nil];exact rfl) ?_|(with_reducible first|refine DD.fltS yU yU yU yE ?_|(refine DD.gE yU yE ?_;first|refine DGG.sU ?_|refine DGG.pT (fun _=>?_) (fun _=>?_)|refine DGG.pF (fun _=>?_) (fun _=>?_)|refine DGG.run ?_|refine DGG.sF ?_|refine DGG.sT ?_)|refine DD.nil0 ?_)|refine DS.retT [] yE trivial ?_|fail)
  all_goals (try rw[prevL_zero (by assumption)]at HI) <;> (try rw[prevL_pos (by assumption) hp]at HI)
  all_goals first
   | (rw[HI.out];simp[tupV,anyO_none,anyO_some, *];done)
   | exact DS.back (HB.out (i+1) _ _ (by omega) ⟨by omega,by rw[HI.out,prevL_succ hi'];simp[anyO_none,anyO_some, *]⟩ yS yS (fun b o e=>by cases e))
 ·repeat' (first|(with_reducible first|refine DS.fltS yU yU yE ?_|refine DS.opsNil ?_|refine DS.seq ?_|refine DS.regionL ?_|(refine DS.cE yE ?_;refine CG.no ?_)|refine DS.exit yU ?_)|refine DS.retT [] yE trivial ?_|fail)
  rw[hI.2,drop_end hi];rfl
theorem pow2_pos (i:Nat):(0:Int)<2 ^ i:=by
 have:=Nat.pow_pos (n:=i) (show 0<2 by omega)
 exact_mod_cast this
theorem pow2_mono {i j:Nat} (h:i≤j):(2:Int) ^ i≤2 ^ j:=by
 have:=Nat.pow_le_pow_right (n:=2) (by omega) h
 exact_mod_cast this
theorem pts_loop {n0 most:Int} {v i:Nat} (h0:0≤n0) (hm:0≤most∧most≤1000000) (hi:i≤v) (hprev:i=0∨n0*2 ^ (i-1)<most∧0<n0) (hexit:i=v∨most≤n0*2 ^ i∨n0*2 ^ i≤0) :
  min (n0*2 ^ i) most=min (n0*2 ^ (min v 21)) most:=by
 by_cases hz:n0=0
 ·subst hz;simp
 have hn:1≤n0:=by omega
 have hi21:i≤21:=by
  rcases hprev with h|⟨h,-⟩
  ·omega
  ·refine Decidable.byContradiction fun hc=>?_
   have h1:(2:Int) ^ 21≤2 ^ (i-1):=pow2_mono (by omega)
   have h2:1*2 ^ (i-1)≤n0*2 ^ (i-1):=Int.mul_le_mul_of_nonneg_right hn (Int.le_of_lt (pow2_pos _))
   have h3:(2:Int) ^ 21=2097152:=by decide
   omega
 rcases hexit with h|h|h
 ·subst h;rw[Nat.min_eq_left hi21]
 ·have h1:n0*2 ^ i≤n0*2 ^ (min v 21):=Int.mul_le_mul_of_nonneg_left (pow2_mono (by omega)) h0
  omega
 ·have:=Int.mul_pos (show 0<n0 by omega) (pow2_pos i);omega
theorem pointsR_pc (x:Scale) (minor value:Int):PC Tryd.prog 6 [x.val,I minor,I value] (I (ptsS x minor value)):=by
 have hs:=checkScaleR_pc x
 by_cases h0:scaleS x=0
 ·rw[h0]at hs
  by_cases h1:0≤minor∧minor≤1000
  ·by_cases h2:0≤value∧value≤1073741824
   ·obtain⟨b1,b2,b3,b4⟩:=scale_ok h0
    obtain⟨k1,k2,-⟩:=limits_ok b4
    have hm1:0≤x.base*minor:=Int.mul_nonneg b1.1 h1.1
    have hm2:x.base*minor≤1000*1000:=Int.mul_le_mul b1.2 h1.2 h1.1 (by omega)
    have hm3:0≤x.base*minor*value:=Int.mul_nonneg hm1 h2.1
    have hm4:x.base*minor*value≤1000*1000*1073741824:=Int.mul_le_mul hm2 h2.2 h2.1 (by omega)
    have hmo:0≤mostS x∧mostS x≤1000000:=by
     unfold mostS
     split
     ·decide
     ·rename_i l r e
      have:=k1 l (by rw[e];exact List.mem_cons_self ..)
      exact this.2
    have hv:(min value 21).toNat=min value.toNat 21:=by omega
    by_cases hl:0<x.limits.length
    ·have hl':(0:Int)<(x.limits.length:Int):=by omega
     have hmo2:mostS x=x.limits[0].points:=by
      unfold mostS
      split
      ·rename_i e;rw[e]at hl;simp at hl
      ·rename_i e;simp[e]
     rw[hmo2]at hmo
     refine DC.of_run Tryd.func6 rfl Tryd.ntmps6 Tryd.results6 (by simp) (fun _ _=>?_);simp only[argV_cons,argV_nil,go_sem,Nat.zero_add,Nat.reduceAdd]
     repeat' (first|(with_reducible first|refine DS.fltS yU yU yE ?_|refine DS.opsNil ?_|refine DS.seq ?_|refine DS.regionL ?_|(refine DS.cE yE ?_;first|refine CG.p (fun _=>?_) (fun _=>?_)|refine CG.yes ?_)|(refine DS.gE yU yE ?_;first|refine GG.pF (fun _=>?_) (fun _=>?_)|refine GG.run ?_|refine GG.sT ?_)|refine DS.block ?_|refine DS.skip ?_)|refine DS.pcS inferInstance (hs) yR yT ?_|(refine DS.boxF (t:=3) yU yE yU ?_;simp only[cells_agg,cells_v,cells_lst,cells_fn,map_nil'',map_cons'',copy_own,copy_lst,copy_v,copy_at,copy_agg,copy_fn,copy_ifc,copy_tup])|fail)
     all_goals try (exfalso;omega)
     refine DS.loopK [1,2,3] yN (fun(z:Nat×Option Int)=> [(9,I z.1),(8,I (z.2.getD (-1)))]) (fun(z:Nat×Option Int)=>z.1≤x.limits.length∧limS x value=limG value (x.limits.drop z.1) z.2∧ ∀p,z.2=some p→0≤p) (fun(z:Nat×Option Int)=>x.limits.length-z.1) (0,none) yS ⟨Nat.zero_le _,rfl,fun p h=>by cases h⟩ (fun z B hI hB=>?_);try dsimp only at hI hB;simp only[app_cons',app_nil']
     obtain⟨i,o⟩:=z
     dsimp only at hI hB
     obtain⟨i1,i2,i3⟩:=hI
     have HB:=Box.mk hB
     clear hB
     by_cases hi:(i:Int)<(x.limits.length:Int)
     ·have hi':i<x.limits.length:=by omega
      have hk:=k1 _ (List.getElem_mem hi')
      rw[List.drop_eq_getElem_cons hi',limG]at i2
      have H2:=Box.mk i2
      have H3:=Box.mk i3
      clear i2 i3
      repeat' (first|(with_reducible first|refine DS.fltS yU yU yE ?_|refine DS.opsNil ?_|refine DS.seq ?_|refine DS.regionL ?_|(refine DS.cE yE ?_;first|refine CG.p (fun _=>?_) (fun _=>?_)|refine CG.yes ?_)|refine DS.blk ?_|refine DS.block ?_|refine DS.skip ?_)|fail)
      ·rename_i hf
       exact DS.back (HB.out (i+1,some (x.limits[i].points)) _ _ (by dsimp only;omega) ⟨by dsimp only;omega,by have:=H2.out;rw[if_pos (by omega)]at this;exact this,fun p e=>by cases e;omega⟩ yS yS (fun b o e=>by cases e))
      ·rename_i hf
       exact DS.back (HB.out (i+1,o) _ _ (by dsimp only;omega) ⟨by dsimp only;omega,by have:=H2.out;rw[if_neg (by omega)]at this;exact this,H3.out⟩ yS yS (fun b o e=>by cases e))
     ·have H3:=Box.mk i3
      rw[drop_end hi,limG]at i2
      clear i3
      cases o with
      | some p =>
       have hp:=H3.out p rfl
       rw[pts_some h0 h1 h2 i2]
       clear H3 i2
       repeat' (first|(with_reducible first|refine DS.fltS yU yU yE ?_|refine DS.opsNil ?_|refine DS.seq ?_|refine DS.regionL ?_|(refine DS.cE yE ?_;first|refine CG.yes ?_|refine CG.no ?_)|refine DS.exit yU ?_)|refine DS.retT [] yE trivial ?_|fail)
       all_goals first|rfl|(exfalso;omega)
      | none =>
       rw[pts_none h0 h1 h2 i2,hmo2,hv]
       clear H3 i2
       repeat' (first|(with_reducible first|refine DS.fltS yU yU yE ?_|refine DS.opsNil ?_|refine DS.seq ?_|refine DS.regionL ?_|(refine DS.cE yE ?_;first|refine CG.no ?_|refine CG.nb (fun _=>?_) (fun _=>?_))|refine DS.block ?_|refine DS.exit yU ?_|refine DS.skip ?_)|fail)
       ·rename_i hd;simp only[hd,↓reduceIte,Bool.false_eq_true]
        repeat' (first|refine DS.retT [] yE trivial ?_|fail)
        exact congrArg I min_ite
       ·rename_i hd
        simp only[hd,↓reduceIte,Bool.false_eq_true]
        refine DS.loopK [2,7] yN (fun(z:Nat×Int)=> [(10,I z.2),(11,I z.1)]) (fun(z:Nat×Int)=>z.1≤value.toNat∧z.2=x.base*minor*2 ^ z.1∧0≤z.2∧z.2≤2000000∧(z.1=0∨x.base*minor*2 ^ (z.1-1)<x.limits[0].points∧0<x.base*minor)) (fun(z:Nat×Int)=>value.toNat-z.1) (0,x.base*minor) yS ⟨Nat.zero_le _,(Int.mul_one _).symm,hm1,by omega,Or.inl rfl⟩ (fun z B hI hB=>?_);try dsimp only at hI hB;simp only[app_cons',app_nil']
        obtain⟨i,n⟩:=z
        dsimp only at hI hB
        obtain⟨i1,i2,i3,i5,i4⟩:=hI
        have hpl:=pts_loop (n0:=x.base*minor) (most:=x.limits[0].points) (v:=value.toNat) (i:=i) hm1 (by omega) i1 i4
        rw[←i2]at hpl
        have hnx:n<x.limits[0].points→0<n→(i+1=0∨x.base*minor*(2:Int) ^ (i+1-1)<x.limits[0].points∧0<x.base*minor):=fun h h'=>Or.inr ⟨by rw[Nat.add_sub_cancel,←i2];exact h,by
         refine Decidable.byContradiction fun hc=>?_
         have h0:x.base*minor=0:=by omega
         rw[h0,Int.zero_mul]at i2;omega⟩
        have hps:2*n=x.base*minor*2 ^ (i+1):=by rw[Int.pow_succ,←Int.mul_assoc,←i2,Int.mul_comm]
        have HP:=Box.mk hpl
        have HX:=Box.mk (And.intro hnx hps)
        have HB:=Box.mk hB
        clear hpl i4 i2 hB hnx hps
        repeat' (first|(with_reducible first|refine DS.fltS yU yU yE ?_|refine DS.opsNil ?_|refine DS.seq ?_|refine DS.regionL ?_|(refine DS.cE yE ?_;first|refine CG.p (fun _=>?_) (fun _=>?_)|refine CG.no ?_)|(refine DS.gE yU yE ?_;first|refine GG.pT (fun _=>?_) (fun _=>?_)|refine GG.run ?_|refine GG.sF ?_)|refine DS.blk ?_|refine DS.block ?_|refine DS.exit yU ?_|refine DS.skip ?_)|refine DS.retT [] yE trivial ?_|fail)
        all_goals first
         | exact DS.back (HB.out (i+1,2*n) _ _ (by dsimp only;omega) ⟨by omega,HX.out.2,by dsimp only;omega,by dsimp only;omega,HX.out.1 (by omega) (by omega)⟩ yS yS (fun b o e=>by cases e))
         | (rw[←HP.out (by omega)];exact congrArg I min_ite)
         | (rw[←HP.out (by omega)];show I _=I _;congr 1;omega)
    ·have he:x.limits= []:=List.eq_nil_of_length_eq_zero (by omega)
     have hn:limS x value=none:=by rw[limS,he];rfl
     have hmo2:mostS x=1000000:=by rw[mostS,he]
     have hl': ¬(0:Int)<(x.limits.length:Int):=by omega
     rw[pts_none h0 h1 h2 hn,hmo2,hv]
     clear hn hmo hmo2 k2 k1 b4 he
     refine DC.of_run Tryd.func6 rfl Tryd.ntmps6 Tryd.results6 (by simp) (fun _ _=>?_);simp only[argV_cons,argV_nil,go_sem,Nat.zero_add,Nat.reduceAdd]
     repeat' (first|(with_reducible first|refine DS.fltS yU yU yE ?_|refine DS.opsNil ?_|refine DS.seq ?_|refine DS.regionL ?_|(refine DS.cE yE ?_;first|refine CG.p (fun _=>?_) (fun _=>?_)|refine CG.yes ?_|refine CG.no ?_|refine CG.nb (fun _=>?_) (fun _=>?_))|(refine DS.gE yU yE ?_;first|refine GG.pF (fun _=>?_) (fun _=>?_)|refine GG.run ?_|refine GG.sT ?_)|refine DS.block ?_|refine DS.skip ?_)|refine DS.pcS inferInstance (hs) yR yT ?_|(refine DS.boxF (t:=3) yU yE yU ?_;simp only[cells_agg,cells_v,cells_lst,cells_fn,map_nil'',map_cons'',copy_own,copy_lst,copy_v,copy_at,copy_agg,copy_fn,copy_ifc,copy_tup])|fail)
     all_goals try (exfalso;omega)
     ·rename_i hd;simp only[hd,↓reduceIte,Bool.false_eq_true]
      repeat' (first|refine DS.retT [] yE trivial ?_|fail)
      exact congrArg I min_ite
     ·rename_i hd
      simp only[hd,↓reduceIte,Bool.false_eq_true]
      refine DS.loopK [2,7] yN (fun(z:Nat×Int)=> [(10,I z.2),(11,I z.1)]) (fun(z:Nat×Int)=>z.1≤value.toNat∧z.2=x.base*minor*2 ^ z.1∧0≤z.2∧z.2≤2000000∧(z.1=0∨x.base*minor*2 ^ (z.1-1)<1000000∧0<x.base*minor)) (fun(z:Nat×Int)=>value.toNat-z.1) (0,x.base*minor) yS ⟨Nat.zero_le _,(Int.mul_one _).symm,hm1,by omega,Or.inl rfl⟩ (fun z B hI hB=>?_);try dsimp only at hI hB;simp only[app_cons',app_nil']
      obtain⟨i,n⟩:=z
      dsimp only at hI hB
      obtain⟨i1,i2,i3,i5,i4⟩:=hI
      have hpl:=pts_loop (n0:=x.base*minor) (most:=1000000) (v:=value.toNat) (i:=i) hm1 (by omega) i1 i4
      rw[←i2]at hpl
      have hnx:n<1000000→0<n→(i+1=0∨x.base*minor*(2:Int) ^ (i+1-1)<1000000∧0<x.base*minor):=fun h h'=>Or.inr ⟨by rw[Nat.add_sub_cancel,←i2];exact h,by
       refine Decidable.byContradiction fun hc=>?_
       have h0:x.base*minor=0:=by omega
       rw[h0,Int.zero_mul]at i2;omega⟩
      have hps:2*n=x.base*minor*2 ^ (i+1):=by rw[Int.pow_succ,←Int.mul_assoc,←i2,Int.mul_comm]
      have HP:=Box.mk hpl
      have HX:=Box.mk (And.intro hnx hps)
      have HB:=Box.mk hB
      clear hpl i4 i2 hB hnx hps
      repeat' (first|(with_reducible first|refine DS.fltS yU yU yE ?_|refine DS.opsNil ?_|refine DS.seq ?_|refine DS.regionL ?_|(refine DS.cE yE ?_;first|refine CG.p (fun _=>?_) (fun _=>?_)|refine CG.no ?_)|(refine DS.gE yU yE ?_;first|refine GG.pT (fun _=>?_) (fun _=>?_)|refine GG.run ?_|refine GG.sF ?_)|refine DS.blk ?_|refine DS.block ?_|refine DS.exit yU ?_|refine DS.skip ?_)|refine DS.retT [] yE trivial ?_|fail)
      all_goals first
       | exact DS.back (HB.out (i+1,2*n) _ _ (by dsimp only;omega) ⟨by omega,HX.out.2,by dsimp only;omega,by dsimp only;omega,HX.out.1 (by omega) (by omega)⟩ yS yS (fun b o e=>by cases e))
       | (rw[←HP.out (by omega)];exact congrArg I min_ite)
       | (rw[←HP.out (by omega)];show I _=I _;congr 1;omega)
   ·rw[ptsS,if_neg (by omega),if_neg (by omega),if_pos h2]
    refine DC.of_run Tryd.func6 rfl Tryd.ntmps6 Tryd.results6 (by simp) (fun _ _=>?_);simp only[argV_cons,argV_nil,go_sem,Nat.zero_add,Nat.reduceAdd]
    repeat' (first|(with_reducible first|refine DS.fltS yU yU yE ?_|refine DS.opsNil ?_|refine DS.seq ?_|refine DS.regionL ?_|(refine DS.cE yE ?_;first|refine CG.p (fun _=>?_) (fun _=>?_)|refine CG.yes ?_|refine CG.nb (fun _=>?_) (fun _=>?_))|(refine DS.gE yU yE ?_;first|refine GG.pF (fun _=>?_) (fun _=>?_)|refine GG.run ?_|refine GG.sT ?_)|refine DS.block ?_|refine DS.skip ?_)|refine DS.pcS inferInstance (hs) yR yT ?_|(refine DS.boxF (t:=3) yU yE yU ?_;simp only[cells_agg,cells_v,cells_lst,cells_fn,map_nil'',map_cons'',copy_own,copy_lst,copy_v,copy_at,copy_agg,copy_fn,copy_ifc,copy_tup])|refine DS.retT [] yE trivial ?_|fail)
    all_goals first|rfl|(exfalso;omega)
  ·rw[ptsS,if_neg (by omega),if_pos h1]
   refine DC.of_run Tryd.func6 rfl Tryd.ntmps6 Tryd.results6 (by simp) (fun _ _=>?_);simp only[argV_cons,argV_nil,go_sem,Nat.zero_add,Nat.reduceAdd]
   repeat' (first|(with_reducible first|refine DS.fltS yU yU yE ?_|refine DS.opsNil ?_|refine DS.seq ?_|refine DS.regionL ?_|(refine DS.cE yE ?_;first|refine CG.p (fun _=>?_) (fun _=>?_)|refine CG.yes ?_|refine CG.nb (fun _=>?_) (fun _=>?_))|(refine DS.gE yU yE ?_;first|refine GG.pF (fun _=>?_) (fun _=>?_)|refine GG.run ?_|refine GG.sT ?_)|refine DS.block ?_|refine DS.skip ?_)|refine DS.pcS inferInstance (hs) yR yT ?_|(refine DS.boxF (t:=3) yU yE yU ?_;simp only[cells_agg,cells_v,cells_lst,cells_fn,map_nil'',map_cons'',copy_own,copy_lst,copy_v,copy_at,copy_agg,copy_fn,copy_ifc,copy_tup])|refine DS.retT [] yE trivial ?_|fail)
   all_goals first|rfl|(exfalso;omega)
 ·rw[ptsS,if_pos h0]
  refine DC.of_run Tryd.func6 rfl Tryd.ntmps6 Tryd.results6 (by simp) (fun _ _=>?_);simp only[argV_cons,argV_nil,go_sem,Nat.zero_add,Nat.reduceAdd]
  repeat' (first|(with_reducible first|refine DS.fltS yU yU yE ?_|refine DS.opsNil ?_|refine DS.seq ?_|refine DS.regionL ?_|(refine DS.cE yE ?_;refine CG.yes ?_)|(refine DS.gE yU yE ?_;refine GG.sT ?_))|refine DS.pcS inferInstance (hs) yR yT ?_|(refine DS.boxF (t:=3) yU yE yU ?_;simp only[cells_agg,cells_v,cells_lst,cells_fn,map_nil'',map_cons'',copy_own,copy_lst,copy_v,copy_at,copy_agg,copy_fn,copy_ifc,copy_tup])|refine DS.retT [] yE trivial ?_|fail)
  all_goals first|rfl|(exfalso;omega)
end Go.XL
namespace Go.XL
def House.oth (h:House) (i:Nat):List Int:=(h.pat i).excl++(h.pat i).impl
def clashB (h:House) (a b:Nat):Bool:=decide ((b:Int)∈h.oth a) || decide ((a:Int)∈h.oth b)
def clM (h:House) (a:Nat):Nat:=maskL ((List.range 64).filter (clashB h a))
theorem clM_lt (h:House) (a:Nat):clM h a<2 ^ 64:=mask_lt _ fun i hi=>by
 have:=(List.mem_filter.1 hi).1;exact List.mem_range.1 this
theorem clM_bit (h:House) (a b:Nat):(clM h a).testBit b=(decide (b<64)&&clashB h a b):=by
 rw[clM,mask_bit]
 simp[List.mem_filter]
structure PatOk (h:House) (i:Nat):Prop where
 closed:0≤(h.pat i).closed∧(h.pat i).closed≤1000
 open_:0≤(h.pat i).open_∧(h.pat i).open_≤1000
 excl:(h.pat i).excl.length≤10
 impl:(h.pat i).impl.length≤10
 oth: ∀k∈h.oth i,0≤k∧k<(h.patterns.length:Int)∧k≠(i:Int)
theorem ite0' {p:Prop} {_:Decidable p} {a b:Int} (ha:a≠0) (h:(if p then a else b)=0): ¬p∧b=0:=by
 by_cases hp:p
 ·rw[if_pos hp]at h;exact absurd h ha
 ·rw[if_neg hp]at h;exact⟨hp,h⟩
theorem ite1' {b a:Int} (h:(if a≠0 then a else b)=0):a=0∧b=0:=by
 by_cases hp:a≠0
 ·rw[if_pos hp]at h;exact absurd h hp
 ·rw[if_neg hp]at h;exact⟨Decidable.not_not.1 hp,h⟩
theorem othersGo_ok {own many:Int}: ∀{l:List Int} {p:Option Int},othersGo own many l p=0→ ∀n∈l,0≤n∧n<many∧n≠own
 | x::l,p,h,n,hn=>by
  rw[othersGo]at h
  obtain⟨h1,h⟩:=ite0' (by decide) h
  obtain⟨h2,h⟩:=ite0' (by decide) h
  obtain⟨h3,h⟩:=ite0' (by decide) h
  rcases List.mem_cons.1 hn with rfl|hn
  ·omega
  ·exact othersGo_ok h n hn
theorem othersS_ok {own many:Int} {l:List Int} (h:othersS l own many=0):l.length≤10∧ ∀n∈l,0≤n∧n<many∧n≠own:=by
 rw[othersS]at h
 obtain⟨h1,h⟩:=ite0' (by decide) h
 exact⟨by omega,othersGo_ok h⟩
theorem patS_ok {h:House} {i:Nat} (e:patS h i=0):PatOk h i:=by
 rw[patS]at e
 obtain⟨e1,e⟩:=ite0' (by decide) e
 obtain⟨e2,e⟩:=ite0' (by decide) e
 obtain⟨e3,e⟩:=ite0' (by decide) e
 obtain⟨e4,e⟩:=ite0' (by decide) e
 obtain⟨e5,e⟩:=ite1' e
 obtain⟨e6,e⟩:=ite1' e
 obtain⟨k1,k2⟩:=othersS_ok e6
 obtain⟨k3,k4⟩:=othersS_ok e
 exact⟨by omega,by omega,k1,k3,fun k hk=>(List.mem_append.1 hk).elim (k2 k) (k4 k)⟩
theorem patsGo_ok {h:House}: ∀{n i:Nat},patsGo h i n=0→ ∀j,i≤j→j<i+n→patS h j=0
 | 0,i,_,j,h1,h2=>by omega
 | n+1,i,e,j,h1,h2=>by
  rw[patsGo]at e
  obtain⟨e1,e⟩:=ite1' e
  by_cases hj:j=i
  ·subst hj;exact e1
  ·exact patsGo_ok e j (by omega) (by omega)
theorem pat_at {h:House} {i:Nat} (hi:i<h.patterns.length):h.pat i=h.patterns[i]:=by
 rw[House.pat,List.getD_eq_getElem?_getD,List.getElem?_eq_getElem hi];rfl
theorem pat_out {h:House} {i:Nat} (hi:h.patterns.length≤i):h.pat i=noPat:=by
 rw[House.pat,List.getD_eq_getElem?_getD,List.getElem?_eq_none hi];rfl
theorem oth_out {h:House} {i:Nat} (hi:h.patterns.length≤i):h.oth i= []:=by rw[House.oth,pat_out hi];rfl
structure PatsOk (h:House):Prop where
 many:h.patterns.length≤40
 ok: ∀i,i<h.patterns.length→PatOk h i
def orAt (L:List Nat) (p q:Nat):List Nat:=L.set p (L.getD p 0 ||| 2 ^ q)
theorem orAt_len (L:List Nat) (p q:Nat):(orAt L p q).length=L.length:=by simp[orAt]
theorem orAt_bit {L:List Nat} {p q:Nat} (hp:p<L.length) (a b:Nat):((orAt L p q).getD a 0).testBit b=((L.getD a 0).testBit b || (decide (a=p)&&decide (b=q))):=by
 rw[orAt,List.getD_eq_getElem?_getD,List.getElem?_set]
 by_cases h:p=a
 ·subst h
  simp only[↓reduceIte,hp,Option.getD_some,Nat.testBit_or,Nat.testBit_two_pow,decide_true,Bool.true_and]
  congr 1
  by_cases h2:q=b <;> simp[h2];omega
 ·rw[if_neg h]
  have h2: ¬a=p:=fun e=>h e.symm
  simp[h2,List.getD_eq_getElem?_getD]
theorem orAt_lt {L:List Nat} {p q:Nat} (hL: ∀m∈L,m<2 ^ 64) (hq:q<64): ∀m∈orAt L p q,m<2 ^ 64:=fun m hm=>by
 rcases List.mem_or_eq_of_mem_set hm with h|h
 ·exact hL m h
 ·subst h
  refine Nat.or_lt_two_pow ?_ (Nat.pow_lt_pow_right (by omega) hq)
  rw[List.getD_eq_getElem?_getD]
  cases e:L[p]? with
  | none=>simp
  | some v=>exact hL v (List.mem_of_getElem? e)
structure Gath (h:House) (i j:Nat) (L:List Nat):Prop where
 len:L.length=h.patterns.length
 lt: ∀m∈L,m<2 ^ 64
 bit: ∀a b,a<h.patterns.length→(L.getD a 0).testBit b=(decide (a<i∧(b:Int)∈h.oth a) || decide (b<i∧(a:Int)∈h.oth b) || decide (a=i∧(b:Int)∈(h.oth i).take j) || decide (b=i∧(a:Int)∈(h.oth i).take j))
theorem Gath.start (h:House):Gath h 0 0 (List.replicate h.patterns.length 0):=by
 refine⟨by simp,fun m hm=>?_,fun a b ha=>?_⟩
 ·rw[(List.mem_replicate.1 hm).2];decide
 ·have:(List.replicate h.patterns.length 0).getD a 0=0:=by
   rw[List.getD_eq_getElem?_getD,List.getElem?_replicate];split <;> rfl
  rw[this];simp
theorem Gath.next {h:House} {i:Nat} {L:List Nat} (g:Gath h i (h.oth i).length L):Gath h (i+1) 0 L:=by
 refine⟨g.len,g.lt,fun a b ha=>?_⟩
 rw[g.bit a b ha,List.take_length,List.take_zero,Bool.eq_iff_iff]
 simp only[Bool.or_eq_true,decide_eq_true_eq,List.not_mem_nil,and_false,or_false]
 constructor
 ·rintro(((h1|h1)|h1)|h1)
  ·exact .inl ⟨by omega,h1.2⟩
  ·exact .inr ⟨by omega,h1.2⟩
  ·obtain⟨rfl,h2⟩:=h1;exact .inl ⟨by omega,h2⟩
  ·obtain⟨rfl,h2⟩:=h1;exact .inr ⟨by omega,h2⟩
 ·rintro(h1|h1)
  ·by_cases ha:a=i
   ·subst ha;exact .inl (.inr ⟨rfl,h1.2⟩)
   ·exact .inl (.inl (.inl ⟨by omega,h1.2⟩))
  ·by_cases hb:b=i
   ·subst hb;exact .inr ⟨rfl,h1.2⟩
   ·exact .inl (.inl (.inr ⟨by omega,h1.2⟩))
theorem Gath.step {h:House} {i j:Nat} {L:List Nat} (g:Gath h i j L) (hi:i<h.patterns.length) (hm:h.patterns.length≤40) (hj:j<(h.oth i).length) {K:Nat} (hk:(h.oth i)[j]=(K:Int)) (hK:K<h.patterns.length) :
  Gath h i (j+1) (orAt (orAt L i K) K i):=by
 refine⟨by rw[orAt_len,orAt_len,g.len],orAt_lt (orAt_lt g.lt (by omega)) (by omega),fun a b ha=>?_⟩
 rw[orAt_bit (by rw[orAt_len,g.len];exact hK),orAt_bit (by rw[g.len];exact hi),g.bit a b ha,List.take_succ_eq_append_getElem hj,hk,Bool.eq_iff_iff]
 simp only[Bool.or_eq_true,Bool.and_eq_true,decide_eq_true_eq,List.mem_append,List.mem_singleton]
 have e1: ∀x:Nat,((x:Int)=(K:Int))↔x=K:=fun x=>by omega
 rw[e1,e1]
 constructor
 ·rintro(((((h1|h1)|h1)|h1)|h1)|h1)
  ·exact .inl (.inl (.inl h1))
  ·exact .inl (.inl (.inr h1))
  ·exact .inl (.inr ⟨h1.1, .inl h1.2⟩)
  ·exact .inr ⟨h1.1, .inl h1.2⟩
  ·exact .inl (.inr ⟨h1.1, .inr h1.2⟩)
  ·exact .inr ⟨h1.2, .inr h1.1⟩
 ·rintro(((h1|h1)|⟨h1,h2|h2⟩)|⟨h1,h2|h2⟩)
  ·exact .inl (.inl (.inl (.inl (.inl h1))))
  ·exact .inl (.inl (.inl (.inl (.inr h1))))
  ·exact .inl (.inl (.inl (.inr ⟨h1,h2⟩)))
  ·exact .inl (.inr ⟨h1,h2⟩)
  ·exact .inl (.inl (.inr ⟨h1,h2⟩))
  ·exact .inr ⟨h2,h1⟩
theorem Gath.end {h:House} {L:List Nat} (g:Gath h h.patterns.length 0 L) (hok:PatsOk h):L=(List.range h.patterns.length).map (clM h):=by
 apply List.ext_getElem
 ·rw[g.len];simp
 ·intro a h1 h2
  rw[g.len]at h1
  rw[List.getElem_map,List.getElem_range]
  apply Nat.eq_of_testBit_eq
  intro b
  have hb:=g.bit a b h1
  rw[List.getD_eq_getElem?_getD,List.getElem?_eq_getElem (by rw[g.len];exact h1)]at hb
  simp only[Option.getD_some]at hb
  rw[hb,clM_bit,Bool.eq_iff_iff]
  simp only[clashB,Bool.or_eq_true,Bool.and_eq_true,decide_eq_true_eq,List.take_zero,List.not_mem_nil,and_false,or_false]
  constructor
  ·rintro(h3|h3)
   ·have:=(hok.ok a h1).oth b h3.2
    have:=hok.many
    exact⟨by omega, .inl h3.2⟩
   ·have:=hok.many
    exact⟨by omega, .inr h3.2⟩
  ·rintro⟨h3,h4|h4⟩
   ·exact .inl ⟨h1,h4⟩
   ·refine .inr ⟨?_,h4⟩
    refine Decidable.byContradiction fun hn=>?_
    rw[oth_out (by omega)]at h4
    simp at h4
end Go.XL
namespace Go.XL
structure Hold where
 pattern:Int
 times:Int
def Hold.cells (x:Hold):List V:= [I x.pattern,I x.times]
@[go_sem] theorem Hold.cells_eq (x:Hold):x.cells= [I x.pattern,I x.times]:=rfl
theorem Hold.len (x:Hold):x.cells.length=2:=rfl
abbrev Hold.val (x:Hold):V := .agg x.cells
abbrev holdsV (l:List Hold):V := .lst (l.map Hold.cells)
def worthS (p:Pattern) (o:Bool):Int:=if o=true then p.open_ else p.closed
def holdsGo (many:Int):List Hold→Int→Int
 | [],_=>0
 | x::l,last=>if ¬(0≤x.pattern∧x.pattern<many∧1≤x.times∧x.times≤1000)then 2 else if x.pattern≤last then 11 else holdsGo many l x.pattern
def valsGo (h:House) (o:Bool):List Hold→List Int→List Int
 | [],L=>L
 | x::l,L=>valsGo h o l (L.set x.pattern.toNat (x.times*worthS (h.pat x.pattern.toNat) o))
def valsS (h:House) (holds:List Hold) (o:Bool):List Int:=valsGo h o holds (List.replicate h.patterns.length 0)
def allK (L:List Int):Nat→Nat
 | 0=>0
 | k+1=>if 0<L.getD k 0 then allK L k ||| 2 ^ k else allK L k
theorem allK_lt (L:List Int): ∀k,allK L k<2 ^ k
 | 0=>by simp[allK]
 | k+1=>by
  have h:=allK_lt L k
  have h2:2 ^ k<2 ^ (k+1):=Nat.pow_lt_pow_right (by omega) (by omega)
  rw[allK]
  split
  ·exact Nat.or_lt_two_pow (by omega) h2
  ·omega
def bestH (h:House) (L:List Int):Int×Nat:=bestM (fun i k=>(clM h i).testBit k) (fun i=>L.getD i 0) (allK L h.patterns.length)
def natI (n:Nat):Int:=n
def chooseS (h:House) (holds:List Hold) (o:Bool):List Int×Int×Int :=
 if houseS h≠0 then([],0,houseS h)else if 40<(holds.length:Int)then([],0,8)else
 if holdsGo h.patterns.length holds (-1)≠0 then([],0,holdsGo h.patterns.length holds (-1))else
 ((bitsM (bestH h (valsS h holds o)).2).map natI,(bestH h (valsS h holds o)).1,0)
theorem holdsGo_at {many:Int} {l:List Hold} {i:Nat} (hi:i<l.length) (last:Int):holdsGo many (l.drop i) last=if ¬(0≤l[i].pattern∧l[i].pattern<many∧1≤l[i].times∧l[i].times≤1000)then 2 else if l[i].pattern≤last then 11 else holdsGo many (l.drop (i+1)) l[i].pattern:=by
 rw[List.drop_eq_getElem_cons hi,holdsGo]
theorem valsGo_at {h:House} {o:Bool} {l:List Hold} {i:Nat} (hi:i<l.length) (L:List Int):valsGo h o (l.drop i) L=valsGo h o (l.drop (i+1)) (L.set l[i].pattern.toNat (l[i].times*worthS (h.pat l[i].pattern.toNat) o)):=by
 rw[List.drop_eq_getElem_cons hi,valsGo]
end Go.XL
namespace Go.XL
open Go.Proofs
set_option maxHeartbeats 4000000
section
variable {v0:VH} {P:Program} {n:Nat} {E:VEnv} {S:Sto} {dst:Option Tmp} {ty:TypeId} {pos:String} {af:Array Edge}
theorem OpS.mono {o:Oper} {R R':V→VEnv→Sto→Prop} (h:OpS v0 P n o E S R) (k: ∀u E' S',R u E' S'→R' u E' S'):OpS v0 P n o E S R':=fun K D hv hold env a w h1 h2 h3 =>
 (h K D hv hold env a w h1 h2 h3).mono fun _ _ ⟨hs,u,E',S',hv',hold',p,q,r⟩=>⟨hs,u,E',S',hv',hold',p,q,k _ _ _ r⟩
theorem OpS.appE {g:GR} {T t by_ e sz:Nat} {sx x:Operand} {vx:V} (hd:dst=some t) (ht:tel P T=some (e,sz,by_))
  (hs:evV E sx=some g.cell) (hok:g.Ok e sz S) (hx:evV E x=some vx) (hxl:sliceL vx=some []) :
  OpS v0 P n ⟨dst, .call {callee := .builtin .append,args:= #[sx,x],argTypes:= #[T,T]},ty,pos,af,none⟩ E S (fun u E' S'=>E'=E∧u=g.cell∧S'=S):=by
 subst hd
 intro K D hv hold env a w hfl ha s
 obtain⟨yx,g3,g3'⟩:=s.rl _ _ hx
 have hxR:=sliceL_Rl hxl g3'
 obtain⟨hu,i,hi,hisz,hiby⟩:=tel_some ht
 obtain⟨ao,c,sz',rfl,x1,x2,x3,x4⟩:=hxR
 simp only[List.length_nil]at g3
 have key: ∀y,g.cell.Rl hv y→ev env sx=some y→(Builtin.append_ #[T,T] ty #[y, .slice ao 0 c]).run P w = .ok y w→Yields P ⟨some t, .call {callee := .builtin .append,args:= #[sx,x],argTypes:= #[T,T]},ty,pos,af,none⟩ a w fun y' w'=>Same w w'∧ ∃u E' S' hv' hold',PreV hv hv'∧St K hv' hold' (putV E' (some t) u) S' (put env (some t) y') w'.heap∧(E'=E∧u=g.cell∧S'=S):=fun y h1 h2 hr=>by
  have hrun:(execOp a.eval ⟨some t, .call {callee := .builtin .append,args:= #[sx,x],argTypes:= #[T,T]},ty,pos,af,none⟩).run P w = .ok (.value y) w:=by
   simp[execOp,resolve,Go.invoke,builtin,ha.ev h2,ha.ev g3,hr]
  refine yields_value hrun ⟨Same.refl w,g.cell,E,S,hv,hold,PreV.refl hv,s.put (some t) h1 fun u hu=>?_,rfl,rfl,rfl⟩
  obtain⟨l,blk⟩:=g
  cases blk <;> exact trivial
 obtain⟨y,g2,g2'⟩:=s.rl _ _ hs
 refine key y g2' g2 ?_
 obtain⟨l,blk⟩:=g
 cases blk with
 | none =>
  simp only[GR.cell,V.Rl]at g2';subst g2'
  cases ao <;> simp[Builtin.append_,run_underlying hu,sizeOf,typeInfo,hi,Builtin.lenOf,Builtin.firstCells,loadCells,loadCellsFrom]
 | some z =>
  obtain⟨b,cap,j⟩:=z
  simp only[GR.cell,V.Rl]at g2';subst g2'
  have hle:=hok.le
  cases ao <;> simp[Builtin.append_,run_underlying hu,sizeOf,typeInfo,hi,Builtin.lenOf,Builtin.firstCells,loadCells,loadCellsFrom,hle,storeCells]
theorem OpS.appA {g:GR} {T t by_ e sz:Nat} {z:Value} {sx x:Operand} {vx:V} {ml:List (List V)} (hd:dst=some t) (ht:tel P T=some (e,sz,by_)) (hz:tzero P e=some z) (hzs:z.cells.size=sz) (hzo:onesB z.cells.toList=true) (hsz:0<sz)
  (hs:evV E sx=some g.cell) (hok:g.Ok e sz S) (hx:evV E x=some vx) (hxl:sliceL vx=some ml) (hml: ∀c∈ml,c.length=sz) (hfit:g.l.length+ml.length≤2147483648∧by_≤65536) :
  OpS v0 P n ⟨dst, .call {callee := .builtin .append,args:= #[sx,x],argTypes:= #[T,T]},ty,pos,af,none⟩ E S
   (fun u E' S'=>E'=E∧ ∃g':GR,u=g'.cell∧g'.l=g.l++ml.map (·.map V.copy)∧g'.Ok e sz S'∧(∀b cap j,g'.blk=some (b,cap,j)→(∃cap j,g.blk=some (b,cap,j))∨lookS S b=none) ∧
    ∀b,(∀cap j,g'.blk≠some (b,cap,j))→(∀cap j,g.blk≠some (b,cap,j))→lookS S' b=lookS S b):=by
 cases ml with
 | nil =>
  refine(OpS.appE hd ht hs hok hx hxl).mono ?_
  rintro u E' S' ⟨rfl,rfl,rfl⟩
  exact⟨rfl,g,rfl,by simp,hok,fun b cap j h => .inl ⟨cap,j,h⟩,fun _ _ _=>rfl⟩
 | cons c r =>
  refine(OpS.appG hd ht hz hzs hzo hsz hs hok hx hxl (by simp) hml hfit).mono ?_
  rintro u E' S' ⟨rfl,b',cap',junk,rfl,m1,m2,m3⟩
  exact⟨rfl,_,rfl,rfl,m1,fun b cap j h=>by cases h;exact m2,fun b h1 h2=>m3 b (fun h=>h1 cap' junk (by rw[h])) h2⟩
end
end Go.XL
namespace Go.XL
theorem DS.mapO {P:Program} {n:Nat} {r:Rr} {Q:VEnv→Sto→Prop} {k:List Fr} {E:VEnv} {S:Sto} {b:Nat} {l:List V} {T:TypeId} (f:V→V) (hf: ∀hv v y,v.Rl hv y→(f v).Rl hv y) (hfr: ∀v,(f v).free=true) (hS:lookS S b=some (.cells l T)) (q:DS P n r Q k E (setS b (.cells (l.map f) T) S)):DS P n r Q k E S:=fun K W a w ⟨K',D,hv,hold,env,hbx,ha,s⟩ hw=>by
 refine q K W a w ⟨K',D,hv,hold,env,hbx,ha,⟨s.pre,s.slot,fun j o e=>?_,s.held,s.base,s.vbase⟩⟩ hw
 rw[lookS_set hS]at e
 split at e
 ·rename_i hj
  subst hj
  simp only[Option.some.injEq]at e;subst e
  obtain⟨o1,o2,cs,o3,o4,o5,o6⟩:=s.obj _ _ hS
  have key: ∀{l:List V} {cs:List Value},RlL hv l cs→RlL hv (l.map f) cs:=fun{l}=>by
   induction l with
   | nil=>exact fun h=>h
   | cons v r ih =>
    intro cs h
    obtain⟨z,zs,rfl,h1,h2⟩:=h.cons
    simp only[List.map_cons,RlL]
    exact⟨z,zs,rfl,hf _ _ _ h1,ih h2⟩
  refine⟨o1,o2,cs,o3,key o4,o5,fun i c u hc hu=>?_⟩
  obtain⟨v,hv,rfl⟩:=List.mem_map.1 (List.mem_of_getElem? hc)
  exact V.free_Own (hfr v) u
 ·exact s.obj j o e
theorem RlC_map {hv:VH} {f:V→V} (hf: ∀v y,v.Rl hv y→(f v).Rl hv y) {p:Option Addr}: ∀{c:List V} {i:Nat},RlC hv p i c→RlC hv p i (c.map f)
 | [],_,_=>trivial
 | v::r,i,h=>by
  simp only[List.map_cons,RlC]at h ⊢
  obtain⟨⟨u,h1,h2,h3⟩,h4⟩:=h
  exact⟨⟨u,h1,hf _ _ h2,h3⟩,RlC_map hf h4⟩
theorem RlE_map {hv:VH} {f:V→V} (hf: ∀v y,v.Rl hv y→(f v).Rl hv y) {p:Option Addr}: ∀{l:List (List V)} {i:Nat},RlE hv p i l→RlE hv p i (l.map (·.map f))
 | [],_,_=>trivial
 | c::r,i,h=>by
  simp only[List.map_cons,RlE]at h ⊢
  exact⟨RlC_map hf h.1,by rw[List.length_map];exact RlE_map hf h.2⟩
def inL (f:V→V) (v:V):V:=match v.peek with | .lst l => .lst (l.map (·.map f))|w=>w
theorem inL_Rl {hv:VH} {f:V→V} (hf: ∀v y,v.Rl hv y→(f v).Rl hv y) {v:V} {y:Value} (h:v.Rl hv y):(inL f v).Rl hv y:=by
 have h':=V.peek_Rl h
 unfold inL
 split
 ·rename_i l e
  rw[e]at h'
  simp only[V.Rl]at h' ⊢
  obtain⟨p,cap,sz,h1,h2,h3,h4,h5⟩:=h'
  refine⟨p,cap,sz,by rw[List.length_map];exact h1,by rw[List.length_map];exact h2,h3,fun c hc=>?_,RlE_map hf h5⟩
  obtain⟨d,hd,rfl⟩:=List.mem_map.1 hc
  rw[List.length_map];exact h4 d hd
 ·exact h'
theorem inL_free (f:V→V) (v:V):(inL f v).free=true:=by
 unfold inL
 split
 ·rfl
 ·exact peek_free v
def deep :V→V:=inL (inL (inL V.peek))
theorem deep_Rl {hv:VH} {v:V} {y:Value} (h:v.Rl hv y):(deep v).Rl hv y:=inL_Rl (fun _ _ h=>inL_Rl (fun _ _ h=>inL_Rl (fun _ _ h=>V.peek_Rl h) h) h) h
theorem PC.peek {P:Program} {f:FuncId} {args:List V} {v:V} (h:PC P f args v):PC P f args v.peek:=by
 intro v0 K hv hold hp xs hx ha s
 refine(h v0 K hv hold hp xs hx ha s).mono ?_
 rintro y h' ⟨u,S',hv',hold',p,st,rfl⟩
 refine⟨u.peek,S',hv',hold',p,⟨st.pre,fun t w e=>?_,st.obj,st.held,st.base,st.vbase⟩,rfl⟩
 rw[lookV_cons]at e
 split at e
 ·rename_i ht
  cases e
  obtain⟨z,h1,h2,-⟩:=st.slot t u (by rw[lookV_cons,if_pos ht])
  exact⟨z,h1,V.peek_Rl h2,V.free_Own (peek_free u) z⟩
 ·cases e
end Go.XL
namespace Go.XL
open Go.Proofs
open Go.Maps (Keyed)
open Go.ChangeMaps (setBlock)
set_option maxRecDepth 100000
set_option maxHeartbeats 4000000
section
variable {v0:VH} {P:Program} {n:Nat} {r:Rr} {Q:VEnv→Sto→Prop} {k:List Fr} {E:VEnv} {S:Sto} {dst:Option Tmp} {ty:TypeId} {pos:String} {af:Array Edge} {ops l:List Oper}
theorem OpS.appZ {T tn e sz by_ t : Nat} {z : Value} {kn : IntKind} {sx x : Operand} {N : Nat} (hd : dst = some t) (ht : tel P T = some (e, sz, by_)) (htn : P.underlying tn = some (.int kn)) (hz : tzero P e = some z) (hzs : z.cells.size = sz) (hzo : onesB z.cells.toList = true) (hsz : 0 < sz)
    (hs : evV E sx = some (.v (.slice none 0 0))) (hx : evV E x = some (.v (.int .i64 (N : Int)))) (hN : 0 < N ∧ N ≤ 1000000) (hby : by_ ≤ 65536) :
    OpS v0 P n ⟨dst, .call { callee := .builtin .append, args := #[sx, x], argTypes := #[T, tn] }, ty, pos, af, none⟩ E S
      (fun u E' S' => E' = E ∧ ∃ b cap, lookS S b = none ∧ N ≤ cap ∧ cap ≤ maxLen ∧ u = .v (.slice (some ⟨b, 0, none⟩) N cap) ∧ ∃ j : List V, j.length = cap * sz ∧ (∀ v ∈ j, v.free = true) ∧ S' = (b, .cells j e) :: S) := by
  subst hd
  intro K D hv hold env a w hfl ha s
  obtain ⟨y, g2, g2'⟩ := s.rl _ _ hs
  simp only [V.Rl] at g2'; subst g2'
  obtain ⟨yx, g3, g3'⟩ := s.rl _ _ hx
  simp only [V.Rl] at g3'; subst g3'
  obtain ⟨hu, i, hi, hisz, hiby⟩ := tel_some ht
  have hz' : i.zero = some z := by unfold tzero at hz; rw [hi] at hz; exact hz
  subst hisz; subst hiby
  have hbytes : N * i.bytes ≤ 1000000 * 65536 := Nat.mul_le_mul hN.2 hby
  have hr := Lib.run_append_nil_zeros (P := P) w T tn ty e i z .i64 kn hu htn hi hz' N hN.1 hsz (by omega) (by omega)
  have hge := grownCap_ge w N 0 e
  have hcm := grownCap_le_maxLen w N 0 e (by have : (1000000 : Nat) ≤ maxLen := by decide
                                             omega)
  have run : ∀ {y' : Value} {w' : World}, (Builtin.append_ #[T, tn] ty #[.slice none 0 0, .int .i64 (N : Int)]).run P w = .ok y' w' →
      (execOp a.eval ⟨some t, .call { callee := .builtin .append, args := #[sx, x], argTypes := #[T, tn] }, ty, pos, af, none⟩).run P w = .ok (.value y') w' := fun hr => by
    simp [execOp, resolve, Go.invoke, builtin, ha.ev g2, ha.ev g3, hr]
  refine yields_value (run hr) ⟨⟨rfl, rfl, rfl⟩, ?_⟩
  obtain ⟨cap2, hcap2⟩ : ∃ c2, c2 = grownCap w N 0 e := ⟨_, rfl⟩
  rw [← hcap2] at hge hcm ⊢
  let zs := Builtin.zeroCells z.cells N ++ Builtin.zeroCells z.cells (cap2 - N)
  have hzs2 : zs.toList.length = cap2 * i.size := by
    rw [Array.length_toList, Array.size_append, size_zeroCells, size_zeroCells, hzs, ← Nat.add_mul]; congr 1; omega
  have hzo2 : Ones zs.toList := fun u hu => by
    rw [Array.toList_append] at hu
    rcases List.mem_append.1 hu with hu | hu
    · exact zeroCells_ones hzo _ (by omega) u hu
    · exact zeroCells_ones hzo _ (by omega) u hu
  have h := real_cells (hv := hv) (h := w.heap) (hold := hold) (T := e) (cs := zs.toList) (l := zs.toList.map V.v) (RlL_raw _) hzo2 (raws_free _)
  rw [show zs.toList.toArray = zs by simp] at h
  obtain ⟨s2, hn⟩ := s.born (x := .cells zs e) h
  exact ⟨_, E, _, hv, hold, PreV.refl hv, s2.put (some t) V.Rl_v fun _ _ => trivial, rfl, w.heap.size, cap2, hn, by omega, hcm, rfl, zs.toList.map V.v, by rw [List.length_map]; exact hzs2, raws_free _, rfl⟩
theorem OpS.nilTo {T e sz by_:Nat} {x u:Operand} {kd:IntKind} (ht:tel P T=some (e,sz,by_)) (hx:evV E x=some (.v (.slice none 0 0))) (hu:evV E u=some (.v (.int kd 0))) :
  OpS v0 P n ⟨dst, .slice T x none (some u) none,ty,pos,af,none⟩ E S (fun v E' S'=>v = .v (.slice none 0 0)∧E'=E∧S'=S):=by
 intro K D hv hold env a w hfl ha s
 obtain⟨y,g2,g2'⟩:=s.rl _ _ hx
 simp only[V.Rl]at g2';subst g2'
 obtain⟨yu,g3,g3'⟩:=s.rl _ _ hu
 simp only[V.Rl]at g3';subst g3'
 have run:(execOp a.eval ⟨dst, .slice T x none (some u) none,ty,pos,af,none⟩).run P w = .ok (.value (.slice none 0 0)) w:=by
  refine dop_run ha ?_
  simp[dop,g2,g3,ht,slc,bnd]
 exact yields_value run ⟨Same.refl w,_,E,S,hv,hold,PreV.refl hv,s.put dst V.Rl_v fun _ _=>trivial,rfl,rfl,rfl⟩
theorem DS.nilTo {T e sz by_:Nat} {x u:Operand} {kd:IntKind} (ht:tel P T=some (e,sz,by_)) (hx:evV E x=some (.v (.slice none 0 0))) (hu:evV E u=some (.v (.int kd 0))) (hd:dok n dst=true) (q:DS P n r Q (.ops ops l::k) (putV E dst (.v (.slice none 0 0))) S) :
  DS P n r Q (.ops ops (⟨dst, .slice T x none (some u) none,ty,pos,af,none⟩::l)::k) E S:=by
 refine DS.step rfl rfl hd (OpS.nilTo ht hx hu) fun u E' S' ⟨g1,g2,g3⟩=>?_
 subst g1;subst g2;subst g3;exact q
theorem OpS.capB {x:Operand} {p:Option Addr} {m c T e:Nat} (hT:P.underlying T=some (.slice e)) (hx:evV E x=some (.v (.slice p m c))) :
  OpS v0 P n ⟨dst, .call {callee := .builtin .cap,args:= #[x],argTypes:= #[T]},ty,pos,af,none⟩ E S (fun u E' S'=>u=I (c:Nat)∧E'=E∧S'=S):=by
 intro K D hv hold env a w hfl ha s
 obtain⟨y,g2,g2'⟩:=s.rl _ _ hx
 simp only[V.Rl]at g2';subst g2'
 have run:(execOp a.eval ⟨dst, .call {callee := .builtin .cap,args:= #[x],argTypes:= #[T]},ty,pos,af,none⟩).run P w = .ok (.value (.int .i64 (c:Nat))) w:=by
  simp[execOp,resolve,Go.invoke,builtin,Builtin.cap_,run_underlying hT,goInt,ha.ev g2]
 exact yields_value run ⟨Same.refl w,_,E,S,hv,hold,PreV.refl hv,s.put dst V.Rl_v fun _ _=>trivial,rfl,rfl,rfl⟩
theorem DS.capB {x:Operand} {p:Option Addr} {m c T e:Nat} (hT:P.underlying T=some (.slice e)) (hx:evV E x=some (.v (.slice p m c))) (hd:dok n dst=true) (q:DS P n r Q (.ops ops l::k) (putV E dst (I (c:Nat))) S) :
  DS P n r Q (.ops ops (⟨dst, .call {callee := .builtin .cap,args:= #[x],argTypes:= #[T]},ty,pos,af,none⟩::l)::k) E S:=by
 refine DS.step rfl rfl hd (OpS.capB hT hx) fun u E' S' ⟨g1,g2,g3⟩=>?_
 subst g1;subst g2;subst g3;exact q
end
section
variable {P:Program} {t k e:TypeId} {b:Nat} {f:Value→Option Value} {es:Array MapEntry} {clock:Nat} {key:Value}
theorem update_map (K:Keyed P k) (ht:P.underlying t=some (.map k e)) (M:MapIs P k f es clock) (hk:KeyOk P k key) (val:Value) :
  ∃es2 clock2,MapIs P k (upd f key val) es2 clock2∧ ∀w:World,w.heap[b]?=some (.map es clock)→(Instr.mapUpdate t (.map (some b)) key val).run P w = .ok () (setBlock w b (.map es2 clock2)):=by
 obtain⟨l,hl⟩:=hk
 rcases M.find K ⟨l,hl⟩with⟨h1,hn,h2⟩|⟨j,e0,hj,h0,h1,h2⟩
 ·refine⟨es.push ⟨key,val,clock⟩,clock+1,M.push ⟨l,hl⟩ hn val,fun w hb=>?_⟩
  simp[Instr.mapUpdate,run_underlying ht,MapKept.run_getObj_map hb,K.check w false hl,h2,MapKept.run_setObj_map _ hb,Result.andThen,setBlock]
 ·refine⟨_,clock,by rw[←h0];exact M.set hj val,fun w hb=>?_⟩
  have hj':es[j]?=some e0:=by simpa using hj
  have hs:es.modify j (fun e=>{e with key:=key,val:=val})=es.modify j fun e=>{e with val:=val}:=by
   apply Array.ext'
   rw[Array.toList_modify,Array.toList_modify,ChangeMaps.modify_eq_set _ _ _ _ hj,ChangeMaps.modify_eq_set _ _ _ _ hj]
   have:({e0 with key:=key,val:=val}:MapEntry)={e0 with val:=val}:=by rw[←h0]
   rw[this]
  simp[Instr.mapUpdate,run_underlying ht,MapKept.run_getObj_map hb,K.check w false hl,h2,hj',h0,K.stays w hl,hs,MapKept.run_setObj_map _ hb,Result.andThen,setBlock]
end
section
variable {v0:VH} {P:Program} {n:Nat} {r:Rr} {Q:VEnv→Sto→Prop} {k:List Fr} {E:VEnv} {S:Sto} {dst:Option Tmp} {ty:TypeId} {pos:String} {af:Array Edge} {ops l:List Oper}
theorem OpS.mapUpdate {T kt e:TypeId} {mx kx x:Operand} {b:Nat} {f:Value→Option Value} {es:Array MapEntry} {clock:Nat} {key val:Value} {xv:V} (K:Keyed P kt) (ht:P.underlying T=some (.map kt e)) (M:MapIs P kt f es clock) (hk:KeyOk P kt key)
  (h1:evV E mx=some (.v (.map (some b)))) (h2:evV E kx=some (.v key)) (h3:evV E x=some xv) (hxv:xv.Is val) (hS:lookS S b=some (.raw (.map es clock))) :
  ∃es2 clock2,MapIs P kt (upd f key val) es2 clock2∧OpS v0 P n ⟨dst, .mapUpdate T mx kx x,ty,pos,af,none⟩ E S (fun u E' S'=>u = .v undef∧E'=E∧S'=setS b (.raw (.map es2 clock2)) S):=by
 obtain⟨es2,clock2,q1,q2⟩:=update_map (b:=b) K ht M hk val
 refine⟨es2,clock2,q1,?_⟩
 intro K1 D hv hold env a w hfl ha s
 obtain⟨y1,a1,b1⟩:=s.rl _ _ h1
 obtain⟨y2,a2,b2⟩:=s.rl _ _ h2
 obtain⟨y3,a3,b3⟩:=s.rl _ _ h3
 simp only[V.Rl]at b1 b2
 have b3:=hxv _ _ b3
 subst b1;subst b2;subst b3
 obtain⟨hb,s'⟩:=s.putObj (o' := .map es2 clock2) hS
 have:=q2 w hb
 refine yields_skip (w':=setBlock w b (.map es2 clock2)) (by simp[execOp,ha.ev a1,ha.ev a2,ha.ev a3,this]) ⟨⟨rfl,rfl,rfl⟩,_,E,_,hv,hold,PreV.refl hv,s'.put dst V.Rl_v fun _ _=>trivial,rfl,rfl,rfl⟩
theorem DS.mapUpdate {T kt e:TypeId} {mx kx x:Operand} {b:Nat} {f:Value→Option Value} {es:Array MapEntry} {clock:Nat} {key val:Value} {xv:V} (K:Keyed P kt) (ht:P.underlying T=some (.map kt e)) (M:MapIs P kt f es clock) (hk:KeyOk P kt key)
  (h1:evV E mx=some (.v (.map (some b)))) (h2:evV E kx=some (.v key)) (h3:evV E x=some xv) (hxv:xv.Is val) (hS:lookS S b=some (.raw (.map es clock))) (hd:dok n dst=true)
  (q: ∀es2 clock2,MapIs P kt (upd f key val) es2 clock2→DS P n r Q (.ops ops l::k) (putV E dst (.v undef)) (setS b (.raw (.map es2 clock2)) S)) :
  DS P n r Q (.ops ops (⟨dst, .mapUpdate T mx kx x,ty,pos,af,none⟩::l)::k) E S:=by
 obtain⟨es2,clock2,q1,q2⟩:=OpS.mapUpdate (v0:=r.v0) (n:=n) (dst:=dst) (ty:=ty) (pos:=pos) (af:=af) K ht M hk h1 h2 h3 hxv hS
 refine DS.step rfl rfl hd q2 fun u E' S' ⟨g1,g2,g3⟩=>?_
 subst g1;subst g2;subst g3;exact q es2 clock2 q1
end
theorem chunk_flatten {sz:Nat} (j:List V): ∀{l:List (List V)},(∀c∈l,c.length=sz)→chunk sz l.length (l.flatten++j)=l
 | [],_=>rfl
 | c::r,h=>by
  have hc:=h c (List.mem_cons_self ..)
  rw[List.length_cons,chunk,List.flatten_cons,List.append_assoc,List.take_append_of_le_length (by omega),List.take_of_length_le (by omega),List.drop_append_of_le_length (by omega),List.drop_eq_nil_of_le (by omega),List.nil_append,chunk_flatten j fun c hc=>h c (List.mem_cons_of_mem _ hc)]
section
variable {v0:VH} {P:Program} {n:Nat} {r:Rr} {Q:VEnv→Sto→Prop} {k:List Fr} {E:VEnv} {S:Sto}
theorem DS.freezeGR {t e sz:Nat} {g:GR} (hE:lookV E t=some g.cell) (hg:g.Ok e sz S) (q: ∀S',(∀b o,lookS S' b=some o→lookS S b=some o)→DS P n r Q k ((t, .lst (g.l.map (·.map V.copy)))::E) S'):DS P n r Q k E S:=by
 obtain⟨gl,blk⟩:=g
 cases blk with
 | none =>
  have h0:gl= []:=hg
  subst h0
  intro K W a w ⟨K',D,hv,hold,env,hb,ha,s⟩ hw
  refine q S (fun _ _ e=>e) K W a w ⟨K',D,hv,hold,env,hb,ha,⟨s.pre,fun u v e=>?_,s.obj,s.held,s.base,s.vbase⟩⟩ hw
  simp only[lookV]at e
  by_cases hu:t=u
  ·subst hu
   simp only[if_true,Option.some.injEq,List.map_nil]at e;subst e
   obtain⟨y,e1,e2,_⟩:=s.slot t _ hE
   simp only[GR.cell,V.Rl]at e2;subst e2
   exact⟨_,e1,by simp only[V.Rl];exact⟨none,0,0,rfl,Nat.le_refl _,Nat.zero_le _,by simp,by simp[RlE]⟩,trivial⟩
  ·rw[if_neg hu]at e;exact s.slot u v e
 | some x =>
  obtain⟨b,cap,j⟩:=x
  have hfl:=flatten_len hg.ll
  refine DS.freeze (t:=t) (b:=b) (sz:=sz) (by rw[hE,GR.cell_some]) hg.look (by rw[List.length_append,hfl];omega) ⟨hg.le,hg.cap⟩ ?_
  have hch:chunk sz gl.length ((gl.flatten++j).map V.copy)=gl.map (·.map V.copy):=by
   have h:=chunk_flatten (sz:=sz) (j.map V.copy) (l:=gl.map (·.map V.copy)) (fun c hc=>by obtain⟨d,hd,rfl⟩:=List.mem_map.1 hc;rw[List.length_map];exact hg.ll d hd)
   rw[List.length_map]at h
   rw[List.map_append,List.map_flatten];exact h
  rw[hch]
  exact q _ fun b' o e=>by
   rw[lookS_del]at e
   split at e
   ·cases e
   ·exact e
end
section
variable {v0:VH} {P:Program} {n:Nat} {r:Rr} {Q:VEnv→Sto→Prop} {k:List Fr} {E:VEnv} {S:Sto} {dst:Option Tmp} {ty:TypeId} {pos:String} {af:Array Edge} {ts:Array TypeId} {ops l:List Oper}
theorem OpS.callN {g:FuncId} {args:List V} {xs:Array Operand} {fn:Func} {S1 S2:Sto} {R:V→Sto→Prop} (hf:FnOk P g fn) (he:evsV (evV E) xs.toList=some args)
  (hc:DCh v0 P g args S1 R) (h1: ∀b o,lookS S1 b=some o→lookS S b=some o) (h2: ∀b o,lookS S2 b=some o→lookS S b=some o∧lookS S1 b=none) :
  OpS v0 P n ⟨dst, .call {callee := .value (.func g),args:=xs,argTypes:=ts},ty,pos,af,none⟩ E S (fun v E' S'=>E'=E∧ ∃S0,S'=S0++S2∧R v S0∧ ∀b o,lookS S0 b=some o→lookS S2 b=none):=by
 intro K D hv hold env a w hfl ha s
 obtain⟨ax,e5,e6⟩:=evsV_real s.rl he
 obtain⟨K',hcl,s1,back⟩:=s.call h1 h2
 refine yields_call (fs:= []) (cs:= []) ha hf rfl e5 ?_
 refine(hc K' hv hcl w.heap _ hfl (by simpa using e6) s1 w rfl).mono fun e w' ⟨v,ev,hs,u,S',hv',hold',p1,p2,p3⟩=>?_
 obtain⟨hold2,q1,q2⟩:=back (d:=dst) p1 p2
 exact⟨v,ev,hs,u,E,_,hv',hold2,p1,q1,rfl,S',rfl,p3,q2⟩
theorem DS.callNA {t:Nat} {g:FuncId} {args:List V} {xs:Array Operand} {fn:Func} {R:V→Sto→Prop} (hf:FnOk P g fn) (hc:DC P g args S R) (hd:decide (t<n)=true) (he:evsV (evV E) xs.toList=some args)
  (q: ∀u S',R u S'→DS P n r Q (.ops ops l::k) ((t,u)::E) S'):DS P n r Q (.ops ops (⟨some t, .call {callee := .value (.func g),args:=xs,argTypes:=ts},ty,pos,af,none⟩::l)::k) E S:=by
 refine DS.step rfl rfl hd (OpS.callN (S1:=S) (S2:= []) hf he (hc _) (fun _ _ e=>e) (fun _ _ e=>by cases e)) fun v E' S' ⟨eE,S0,eS,hR,hdis⟩=>?_
 subst eE;subst eS
 simpa [putV] using q v S0 hR
end
end Go.XL
namespace Go.XL
open Go.Proofs
set_option maxRecDepth 100000
set_option maxHeartbeats 8000000
def tinyG :GSet:=⟨3,[3],0,1,0,4,1,2,[1]⟩
def strA (c:UInt8):ByteArray:=⟨#[c]⟩
def smallH :House where
 set:=tinyG
 forms:= [⟨1,[],false⟩]
 patterns:= [⟨strA 97,2,1,[],[],[]⟩,⟨strA 98,3,3,[],[0],[]⟩,⟨strA 99,2,0,[],[],[0]⟩]
 minor:= []
 least:=1
 scale:=⟨8,true,[⟨5,2000⟩,⟨6,3000⟩],100⟩
 pay:=⟨1,true,0,100,1000,0,0,0,1,0,false,[],[]⟩
 play:=⟨false,1,false,0,false,0,0,0,false,false,false,5,1,0,false,false⟩
def fourH :House:={smallH with set:=⟨4,[4],0,1,0,4,1,2,[1]⟩}
theorem yX7 {p:Prop} (h:p:=by(simp (disch:=omega) only[go_sem,dopV,yV0,↓reduceIte,Nat.reduceEqDiff,Nat.reduceLT,Nat.reduceLeDiff,Nat.reduceAdd,Nat.reduceMul,Nat.reduceSub,Int.reduceToNat,Int.reduceLT,Int.reduceLE,Int.reduceEq,IntWalk.toNatUp,IntWalk.iteOmega,IntWalk.i64_in,V.flat,V.one, *,Value.oneCell'];exact rfl)):p:=h
theorem yX10 {p:Prop} (h:p:=by(simp (disch:=omega) only[go_sem,dopV,yV0,↓reduceIte,Nat.reduceEqDiff,Nat.reduceLT,Nat.reduceLeDiff,Nat.reduceAdd,Nat.reduceMul,Nat.reduceSub,Int.reduceToNat,Int.reduceLT,Int.reduceLE,Int.reduceEq,IntWalk.toNatUp,IntWalk.iteOmega,IntWalk.i64_in,V.flat,V.one,setS,setAll];exact rfl)):p:=h
theorem tiny_pc :PC Tryd.prog 33 [] tinyG.val:=by
 refine DC.of_run Tryd.func33 rfl Tryd.ntmps33 Tryd.results33 (by simp) (fun _ _=>?_);simp only[argV_cons,argV_nil,go_sem,Nat.zero_add,Nat.reduceAdd]
 refine DS.seq ?_
 repeat' (first|with_reducible refine DS.regionL ?_|fail)
 refine DS.allocS yR yU yU (fun b0 h0=>?_)
 clear h0
 repeat' (first|(with_reducible first|refine DS.fltS yU yU yX7 ?_|refine DS.opsNil ?_|refine DS.seq ?_|refine DS.regionL ?_)|(refine DS.bsl yU yX7 yX7 ?_;simp only[go_sem,Nat.zero_add,Nat.reduceAdd])|(refine DS.store yR yX7 yX7 yX7 yX7 yU (by exact⟨by with_unfolding_all rfl,by(try simp only[List.length_map,List.length_append,List.length_set,List.length_replicate,List.length_cons,List.length_nil]);omega⟩) ?_;simp only[putV_none,setAll_cons,setAll_nil,scells_v,scells_own,scells_lst,scells_agg];try simp only[strip_tmp,strip_const,lookV_cons,Nat.reduceEqDiff,↓reduceIte,stripO_own,stripO_lst,stripO_v,stripO_plc,stripO_agg,stripO_fn,stripO_ifc])|fail)
 refine DS.retA yX10 ?_
 rfl
theorem look_none' {d b:Nat} {o:Ob} {r:Sto} (h:lookS ((d,o)::r) b=none): ¬d=b∧lookS r b=none:=by
 simp only[lookS]at h
 by_cases e:d=b
 ·rw[if_pos e]at h;cases h
 ·rw[if_neg e]at h;exact⟨e,h⟩
theorem yX8 {p:Prop} (h:p:=by(simp (disch:=omega) only[go_sem,dopV,yV0,↓reduceIte,Nat.reduceEqDiff,Nat.reduceLT,Nat.reduceLeDiff,Nat.reduceAdd,Nat.reduceMul,Nat.reduceSub,Int.reduceToNat,Int.reduceLT,Int.reduceLE,Int.reduceEq,IntWalk.toNatUp,IntWalk.iteOmega,IntWalk.i64_in,V.flat,V.one, *,Value.oneCell'];try exact rfl)):p:=h
theorem small_pc :PC Tryd.prog 17 [] smallH.val:=by
 have ht:=tiny_pc
 refine DC.of_run Tryd.func17 rfl Tryd.ntmps17 Tryd.results17 (by simp) (fun _ _=>?_);simp only[argV_cons,argV_nil,go_sem,Nat.zero_add,Nat.reduceAdd]
 repeat' (first|(with_reducible first|refine DS.seq ?_|refine DS.regionL ?_)|fail)
 refine DS.allocS yR yU yU (fun b0 h0=>?_)
 clear h0
 repeat' (first|(with_reducible first|refine DS.fltS yU yU yX7 ?_|refine DS.opsNil ?_|refine DS.seq ?_|refine DS.regionL ?_)|(refine DS.bsl yU yX7 yX7 ?_;simp only[go_sem,Nat.zero_add,Nat.reduceAdd])|refine DS.pcS inferInstance (ht) yR yX8 ?_|fail)
 refine DS.allocS yR yU yU (fun b1 h1=>?_)
 obtain⟨n1,-⟩:=look_none' h1
 have n1':=fun e=>n1 (Eq.symm e)
 clear h1
 repeat' (first|(with_reducible first|refine DS.fltS yU yU yX7 ?_|refine DS.opsNil ?_|refine DS.seq ?_|refine DS.regionL ?_)|(refine DS.bsl yU yX7 yX7 ?_;simp only[go_sem,Nat.zero_add,Nat.reduceAdd])|(refine DS.store yR yX7 yX7 yX7 yX7 yU (by exact⟨by with_unfolding_all rfl,by(try simp only[List.length_map,List.length_append,List.length_set,List.length_replicate,List.length_cons,List.length_nil]);omega⟩) ?_;simp only[putV_none,setAll_cons,setAll_nil,scells_v,scells_own,scells_lst,scells_agg];try simp only[strip_tmp,strip_const,lookV_cons,Nat.reduceEqDiff,↓reduceIte,stripO_own,stripO_lst,stripO_v,stripO_plc,stripO_agg,stripO_fn,stripO_ifc])|fail)
 refine DS.mapO (b:=b0) deep (fun _ _ _ h=>deep_Rl h) (fun v=>inL_free _ v) (by(simp (disch:=omega) only[go_sem,dopV,yV0,↓reduceIte,Nat.reduceEqDiff,Nat.reduceLT,Nat.reduceLeDiff,Nat.reduceAdd,Nat.reduceMul,Nat.reduceSub,Int.reduceToNat,Int.reduceLT,Int.reduceLE,Int.reduceEq,IntWalk.toNatUp,IntWalk.iteOmega,IntWalk.i64_in,V.flat,V.one,setS,setAll,n1,n1'];exact rfl)) ?_
 refine DS.retA (by(simp (disch:=omega) only[go_sem,dopV,yV0,↓reduceIte,Nat.reduceEqDiff,Nat.reduceLT,Nat.reduceLeDiff,Nat.reduceAdd,Nat.reduceMul,Nat.reduceSub,Int.reduceToNat,Int.reduceLT,Int.reduceLE,Int.reduceEq,IntWalk.toNatUp,IntWalk.iteOmega,IntWalk.i64_in,V.flat,V.one,setS,setAll,n1,n1'];exact rfl)) ?_
 rfl
theorem four_pc :PC Tryd.prog 20 [] fourH.val:=by
 have hs:=small_pc
 refine DC.of_run Tryd.func20 rfl Tryd.ntmps20 Tryd.results20 (by simp) (fun _ _=>?_);simp only[argV_cons,argV_nil,go_sem,Nat.zero_add,Nat.reduceAdd]
 repeat' (first|(with_reducible first|refine DS.seq ?_|refine DS.regionL ?_)|fail)
 refine DS.allocS yR yU yU (fun b0 h0=>?_)
 clear h0
 repeat' (first|(with_reducible first|refine DS.opsNil ?_|refine DS.seq ?_|refine DS.regionL ?_)|refine DS.pcS inferInstance (hs) yR yX8 ?_|fail)
 refine DS.allocS yR yU yU (fun b1 h1=>?_)
 obtain⟨n1,-⟩:=look_none' h1
 have n1':=fun e=>n1 (Eq.symm e)
 clear h1
 repeat' (first|(with_reducible first|refine DS.fltS yU yU yX7 ?_|refine DS.opsNil ?_|refine DS.seq ?_|refine DS.regionL ?_)|(refine DS.bsl yU yX7 yX7 ?_;simp only[go_sem,Nat.zero_add,Nat.reduceAdd])|(refine DS.store yR yX7 yX7 yX7 yX7 yU (by exact⟨by with_unfolding_all rfl,by(try simp only[List.length_map,List.length_append,List.length_set,List.length_replicate,List.length_cons,List.length_nil]);omega⟩) ?_;simp only[putV_none,setAll_cons,setAll_nil,scells_v,scells_own,scells_lst,scells_agg];try simp only[strip_tmp,strip_const,lookV_cons,Nat.reduceEqDiff,↓reduceIte,stripO_own,stripO_lst,stripO_v,stripO_plc,stripO_agg,stripO_fn,stripO_ifc])|fail)
 refine DS.retA (by(simp (disch:=omega) only[go_sem,dopV,yV0,↓reduceIte,Nat.reduceEqDiff,Nat.reduceLT,Nat.reduceLeDiff,Nat.reduceAdd,Nat.reduceMul,Nat.reduceSub,Int.reduceToNat,Int.reduceLT,Int.reduceLE,Int.reduceEq,IntWalk.toNatUp,IntWalk.iteOmega,IntWalk.i64_in,V.flat,V.one,setS,setAll,n1,n1'];exact rfl)) ?_
 rfl
theorem yX9 {p:Prop} (h:p:=by first|exact rfl|(simp (disch:=omega) only[go_sem,dopV,yV0,↓reduceIte,Nat.reduceEqDiff,Nat.reduceLT,Nat.reduceLeDiff,Nat.reduceAdd,Nat.reduceMul,Nat.reduceSub,Int.reduceToNat,Int.reduceLT,Int.reduceLE,Int.reduceEq,IntWalk.toNatUp,IntWalk.iteOmega,IntWalk.i64_in,V.flat,V.one, *];exact rfl)):p:=h
theorem holdsL_pc (l:List Int) (hl:l.length≤1000):PC Tryd.prog 18 [ints l] (holdsV (l.map fun n=>⟨n,1⟩)):=by
 have h:PC Tryd.prog 18 [ints l] (.own false 70 2 ((l.map fun n=>(⟨n,1⟩:Hold)).map Hold.cells)):=by
  refine DC.of_run Tryd.func18 rfl Tryd.ntmps18 Tryd.results18 (by simp) (fun _ _=>?_);simp only[argV_cons,argV_nil,go_sem,Nat.zero_add,Nat.reduceAdd]
  repeat' (first|(with_reducible first|(refine DS.nilOwn (t:=2) yU yO yE ?_)|(refine DS.nilOwn (t:=3) yU yO yE ?_)|refine DS.fltS yU yU yE ?_|refine DS.opsNil ?_|refine DS.seq ?_|refine DS.regionL ?_|refine DS.block ?_)|fail)
  refine DS.loopK [0] yN (fun(i:Nat)=> [(3, .own false 70 2 (((l.take i).map fun n=>(⟨n,1⟩:Hold)).map Hold.cells)),(4,I i)]) (fun(i:Nat)=>i≤l.length) (fun(i:Nat)=>l.length-i) 0 yS (Nat.zero_le _) (fun i B hI hB=>?_);try dsimp only at hI hB;simp only[app_cons',app_nil']
  by_cases hi:i<l.length
  ·have hi':(i:Int)<(l.length:Int):=by omega
   repeat' (first|(with_reducible refine DS.mv (t:=3) yU yO yE ?_;simp only[strip_tmp,strip_const,lookV_cons,Nat.reduceEqDiff,↓reduceIte,stripO_own,stripO_lst,stripO_v,stripO_plc,stripO_agg,stripO_fn,stripO_ifc])|(with_reducible refine DS.mv (t:=11) yU yO yE ?_;simp only[strip_tmp,strip_const,lookV_cons,Nat.reduceEqDiff,↓reduceIte,stripO_own,stripO_lst,stripO_v,stripO_plc,stripO_agg,stripO_fn,stripO_ifc])|(with_reducible first|refine DS.fltS yU yU yE ?_|refine DS.opsNil ?_|refine DS.seq ?_|refine DS.regionL ?_|(refine DS.cE yE ?_;refine CG.yes ?_)|refine DS.blk ?_|refine DS.block ?_|refine DS.skip ?_)|(refine DS.bsl yU yE yE ?_;simp only[go_sem,Nat.zero_add,Nat.reduceAdd])|(refine DS.append (mm:=false) yU yE yE yU (by decide) yE (by first|exact .inl rfl|exact .inr ⟨rfl,rfl⟩) yE yX9 (by first|exact len_map cI_len _|exact len_map cR_len _|exact len_map Member.len _|exact len_map Sitting.len _|exact len_map Ruling.len _|(simp only[List.mem_cons,List.not_mem_nil,or_false,forall_eq];rfl)|simp) ⟨by(try simp only[List.length_map,List.length_cons,List.length_nil,List.length_append,List.length_take,List.length_drop]);omega,by decide⟩ ?_;simp only[strip_tmp,strip_const,lookV_cons,Nat.reduceEqDiff,↓reduceIte,stripO_own,stripO_lst,stripO_v,stripO_plc,stripO_agg,stripO_fn,stripO_ifc])|fail)
   have hts:=List.take_succ_eq_append_getElem hi
   exact DS.back (hB (i+1) _ _ (by omega) (by omega) yS yS (fun b o e=>by exact e))
  ·have hi': ¬(i:Int)<(l.length:Int):=by omega
   have ht:l.take i=l:=List.take_of_length_le (by omega)
   repeat' (first|(with_reducible refine DS.mv (t:=2) yU yO yE ?_;simp only[strip_tmp,strip_const,lookV_cons,Nat.reduceEqDiff,↓reduceIte,stripO_own,stripO_lst,stripO_v,stripO_plc,stripO_agg,stripO_fn,stripO_ifc])|(with_reducible refine DS.mv (t:=19) yU yO yE ?_;simp only[strip_tmp,strip_const,lookV_cons,Nat.reduceEqDiff,↓reduceIte,stripO_own,stripO_lst,stripO_v,stripO_plc,stripO_agg,stripO_fn,stripO_ifc])|(with_reducible first|refine DS.fltS yU yU yE ?_|refine DS.opsNil ?_|refine DS.seq ?_|refine DS.regionL ?_|(refine DS.cE yE ?_;refine CG.no ?_)|refine DS.exit yU ?_)|refine DS.retT [] yE trivial ?_|fail)
   all_goals first|rfl|(exfalso;omega)
 exact h.peek
end Go.XL
namespace Go.XL
section
variable (P:Program) (n:Nat) (r:Rr) (Q:VEnv→Sto→Prop)
def DX (ops:List Oper) (S0:Sto) (l:List Oper) (k:List Fr) (E0 E:VEnv) (T1:Sto→Prop):Prop:= ∀K0 K D W hv0 hs a SPs,Bx r K0 K D→PreV r.v0 hv0 →
 (∃env,Agree D n env a∧ ∀t v,lookV E0 t=some v→ ∃y,look env t=some y∧v.Rl hv0 y)→Pre hv0 hs→(∀b o,lookS S0 b=some o→hv0 b=none∧b<hs.size∧o.Rd hv0 hs b)→K.h0.size≤hs.size→(∃w1,Same W w1∧SPs noF w1.heap) →
 (∀F h1,SPs F h1→ ∃S1,T1 S1∧RunS P [] D n K hv0 hs S0 E S1 a F h1)→SW P ops.toArray (RdOf P [] hv0 hs S0) W (fun a' S'=> ∀w',S' noF w'.heap→Same W w'→ksem P n r K0 W Q k .normal a' w') l SPs a
end
section
variable {P:Program} {n:Nat} {r:Rr} {Q:VEnv→Sto→Prop} {k:List Fr} {E0 E:VEnv} {S0 S1:Sto} {T1:Sto→Prop} {ops l:List Oper} {dst:Option Tmp} {op:Op} {ty:TypeId} {pos:String} {af:Array Edge}
theorem RunS.after {o:Oper} {D:List Deferred} {K:Bs} {hv0:VH} {hs:Heap} {a:Act} {F:Nat→Prop} {v0:VH} {T:V→VEnv→Sto→Prop} {w:World} (hd:dok n o.dst=true) (ho:OpS v0 P n o E S1 T) (hfl:PreV v0 hv0) (h:RunS P [] D n K hv0 hs S0 E S1 a F w.heap) :
  Yields P o a w fun y w'=>Same w w'∧(∃v E' S',T v E' S'∧RunS P [] D n K hv0 hs S0 (putV E' o.dst v) S' (a.put o.dst y) F w'.heap)∧Kept F w.heap w'.heap:=by
 obtain⟨p1,p2,hv',hold,env',ha',s,p,f,g⟩:=h
 obtain⟨K',hc',s',hprot,hK1,hK2,back⟩:=s.frame fun b o e=>(g b o e).2.1
 refine(ho K' D hv' hc' env' a w (hfl.trans p) ha' s').mono fun y w' ⟨hsame,u,E2,S2,hv2,hold2,q1,q2,e1⟩=>?_
 obtain⟨hold3,t1,t2⟩:=back q1 q2
 have stay: ∀b,K'.B b→w'.heap[b]?=w.heap[b]?∧hv2 b=hv' b:=fun b hb=>⟨by rw[q2.base.2.2 b hb,hK1],by rw[q2.vbase.2 b hb,hK2]⟩
 have hFp: ∀b,F b→K'.B b:=fun b hb=>hprot b (p1 b hb).2 (f b hb).1 (by
  have:=(f b hb).2;rw[lookS_app]at this
  cases e:lookS S1 b with
  | none=>rfl
  | some o=>rw[e]at this;cases this)
 have hSp: ∀b o,lookS S0 b=some o→K'.B b:=fun b o e=>hprot b (Nat.lt_of_lt_of_le (g b o e).2.2 p2.1) (s.obj b o (by rw[lookS_app,(g b o e).2.1];exact e)).2.1 (g b o e).2.1
 have hsz:w.heap.size≤w'.heap.size:=by have:=q2.base.2.1;rwa [hK1]at this
 refine⟨hsame,⟨u,E2,S2,e1,fun b hb=>⟨(p1 b hb).1,Nat.lt_of_lt_of_le (p1 b hb).2 hsz⟩,⟨Nat.le_trans p2.1 hsz,MpOk.nil⟩,hv2,hold3,_,ha'.put' hd y,t1,p.trans q1,fun b hb=>?_,fun b o e=>?_⟩,fun b o hb eb _=>?_⟩
 ·refine⟨by rw[(stay b (hFp b hb)).2];exact(f b hb).1,?_⟩
  have hb2:=(f b hb).2
  rw[lookS_app]at hb2 ⊢
  cases e:lookS S2 b with
  | some o=>exact absurd (hFp b hb) (q2.obj b o e).1
  | none =>
   cases e1:lookS S1 b with
   | some o=>rw[e1]at hb2;cases hb2
   | none=>rw[e1]at hb2;exact hb2
 ·obtain⟨g1,g2,g3⟩:=g b o e
  exact⟨(stay b (hSp b o e)).1.trans g1,t2 b o e,g3⟩
 ·rw[(stay b (hFp b hb)).1];exact eb
theorem DD.stepX {o:Oper} {T:V→VEnv→Sto→Prop} (hg:o.guard=none) (hc:isChain o=true) (hb:isBirth o.op=false) (hd:dok n o.dst=true) (ho:OpS r.v0 P n o E S1 T) {E':VEnv} (hT: ∀v E2 S',T v E2 S'→E2=E'∧ ∃x,v = .v x) (hdst: ∃td:Nat,o.dst=some td)
  (q: ∀x,DX P n r Q ops S0 l k (delO o.dst E0) (putV E' o.dst (.v x)) (T (.v x) E')):DD P n r Q ops S0 [] (o::l) k E0 E S1:=fun K0 K D W hv0 hs a SPs hbx hfl hE hp hS0 hz hl hR=>by
 show SW P ops.toArray _ W _ (o::l) SPs a
 unfold SW Front
 rw[if_pos (by simp[Region.wanted,hg]),if_pos hc]
 refine⟨fun _ y=>y,fun _ y=>fun F h1=> ∃v E' S',T v E' S'∧RunS P [] D n K hv0 hs S0 (putV E' o.dst v) S' (a.put o.dst y) F h1,?_,fun _ y ⟨w',hw',hT'⟩=>?_⟩
 ·unfold Spec
  rw[if_neg (by simp[hb])]
  have G:=fun v E' S' y=>RunS.good P [] D n K hv0 hs S0 (putV E' o.dst v) S' (a.put o.dst y)
  refine⟨rfl,_,rfl,fun y=>⟨fun F h ⟨v,E',S',_,h2⟩=>(G v E' S' y).ext F h h2,fun F h ob ⟨v,E',S',h1,h2⟩=>⟨v,E',S',h1,(G v E' S' y).push F h ob h2⟩,fun F F' h hF ⟨v,E',S',h1,h2⟩=>⟨v,E',S',h1,(G v E' S' y).less F F' h hF h2⟩⟩,fun w F hF hw=>?_⟩
  exact RunS.after hd ho hfl (hR F w.heap hF)
 ·refine q y K0 K D W hv0 hs _ _ hbx hfl (e0_del hE hd y) hp hS0 hz ⟨w',hw',hT'⟩ fun F h1 ⟨v,E2,S',t1,t2⟩=>?_
  obtain⟨rfl,x,rfl⟩:=hT v E2 S' t1
  obtain⟨td,htd⟩:=hdst
  have hxy:x=y:=by
   obtain⟨_,_,hv',hold,env',ha',s,_⟩:=t2
   obtain⟨y',e1,e2,_⟩:=s.slot td (.v x) (by rw[htd];simp[putV,lookV])
   simp only[V.Rl]at e2
   have h1:=ha'.look td y' e1
   have hlt:td<n:=by rw[htd]at hd;simpa [dok] using hd
   rw[htd]at h1 ha'
   have hsz:=ha'.size
   simp only[Act.put]at h1 hsz
   rw[Array.getD_eq_getD_getElem?]at h1
   rw[Array.size_setIfInBounds]at hsz
   rw[Array.getElem?_setIfInBounds_self_of_lt (by omega)]at h1
   simp only[Option.getD_some]at h1
   rw[h1,e2]
  subst hxy
  exact⟨S',t1,t2⟩
theorem DX.flt {v:V} (hs1:isStep op=false) (hh:isHop op=false) (hd:dok n dst=true) (hv:dopV P S0 (evV E0) op=some v) (q:DX P n r Q ops S0 l k (putV E0 dst v) (putV E dst v) T1) :
  DX P n r Q ops S0 (⟨dst,op,ty,pos,af,none⟩::l) k E0 E T1:=fun K0 K D W hv0 hs a SPs hbx hfl hE hp hS0 hz hl hR=>by
 obtain⟨env,ha,hE'⟩:=hE
 have rl:RlO hv0 (evV E0) (ev env):=by
  intro x u e
  cases x with
  | tmp t=>exact hE' t u e
  | const c=>simp only[evV,Option.some.injEq]at e;subst e;exact⟨c,rfl,V.Rl_v⟩
  | global g=>simp only[evV,Option.some.injEq]at e;subst e;exact⟨_,rfl,gV_Rl (r.kn.mono hfl) g⟩
  | func g=>simp only[evV,Option.some.injEq]at e;subst e;exact⟨_,rfl,by simp only[V.Rl];exact⟨[],[],rfl,by simp[RlL],by simp[RlL]⟩⟩
 have hpl:=least_pre (S0:=S0) hp fun b o e=>(hS0 b o e).1
 obtain⟨y,h2,h3⟩:=dopV_real (h:=least hv0 hs S0) hpl (fun b o e=>by
  obtain⟨_,hlt,hr⟩:=hS0 b o e
  cases o with
  | cells cl T =>
   obtain⟨cs,q1,q2⟩:=hr
   exact⟨cs,by rw[least_S e hlt];exact q1,q2⟩
  | raw o=>exact(least_S e hlt).trans hr) rl hv
 show SW P ops.toArray _ W _ (_::l) SPs a
 unfold SW Front
 rw[if_pos (by simp[Region.wanted]),if_neg (by simp[isChain,hs1,hh])]
 refine⟨y, .inl fun w' hw'=>dop_run ha (dop_mono (least_ld hw') h2),?_⟩
 refine q K0 K D W hv0 hs _ SPs hbx hfl (e0_put ⟨env,ha,hE'⟩ hd h3) hp hS0 hz hl fun F h1 hF=>?_
 obtain⟨S1,t1,p1,p2,hv',hold,env',ha',s,p,f,g⟩:=hR F h1 hF
 exact⟨S1,t1,p1,p2,hv',hold,_,ha'.put' hd y,s.put dst (V.Rl_mono p v y h3) fun _ _=>V.free_Own (dopV_free hv) y,p,f,g⟩
theorem DX.step {o:Oper} {v:V} {E':VEnv} (hg:o.guard=none) (hc:isChain o=true) (hb:isBirth o.op=false) (hd:dok n o.dst=true) (ho: ∀S1,T1 S1→OpS r.v0 P n o E S1 (fun u E2 S2=>u=v∧E2=E'∧S2=S1)) (q:DX P n r Q ops S0 l k (delO o.dst E0) (putV E' o.dst v) T1) :
  DX P n r Q ops S0 (o::l) k E0 E T1:=fun K0 K D W hv0 hs a SPs hbx hfl hE hp hS0 hz hl hR=>by
 show SW P ops.toArray _ W _ (o::l) SPs a
 unfold SW Front
 rw[if_pos (by simp[Region.wanted,hg]),if_pos hc]
 refine⟨fun _ y=>y,fun _ y=>fun F h1=> ∃S1,T1 S1∧RunS P [] D n K hv0 hs S0 (putV E' o.dst v) S1 (a.put o.dst y) F h1,?_,fun _ y ⟨w',hw',hT'⟩=>?_⟩
 ·unfold Spec
  rw[if_neg (by simp[hb])]
  have G:=fun S' y=>RunS.good P [] D n K hv0 hs S0 (putV E' o.dst v) S' (a.put o.dst y)
  refine⟨rfl,_,rfl,fun y=>⟨fun F h ⟨S',_,h2⟩=>(G S' y).ext F h h2,fun F h ob ⟨S',h1,h2⟩=>⟨S',h1,(G S' y).push F h ob h2⟩,fun F F' h hF ⟨S',h1,h2⟩=>⟨S',h1,(G S' y).less F F' h hF h2⟩⟩,fun w F hF hw=>?_⟩
  obtain⟨S1,t1,t2⟩:=hR F w.heap hF
  refine(RunS.after hd (ho S1 t1) hfl t2).mono ?_
  rintro y w' ⟨g1,⟨u,E2,S2,⟨rfl,rfl,rfl⟩,g2⟩,g3⟩
  exact⟨g1,⟨S2,t1,g2⟩,g3⟩
 ·exact q K0 K D W hv0 hs _ _ hbx hfl (e0_del hE hd y) hp hS0 hz ⟨w',hw',hT'⟩ fun F h1 hF=>hF
theorem DX.pc {t:Nat} {ts:Array TypeId} {g:FuncId} {args:List V} {xs:Array Operand} {fn:Func} {v:V} (hf:FnOk P g fn) (hc:PC P g args v) (hd:decide (t<n)=true) (he:(evsV (evV E) xs.toList).map (·.map V.peek)=some args) (q:DX P n r Q ops S0 l k (delV t E0) ((t,v)::E) T1) :
  DX P n r Q ops S0 (⟨some t, .call {callee := .value (.func g),args:=xs,argTypes:=ts},ty,pos,af,none⟩::l) k E0 E T1:=by
 rw[Option.map_eq_some_iff]at he
 obtain⟨ws,e1,e2⟩:=he
 refine DX.step (E':=E) rfl rfl rfl hd (fun S1 _=>?_) q
 refine OpS.mono (OpS.call (fs:= []) (cs:= []) hf rfl e1 (S1:= []) (S2:=S1) (R:=fun u S'=>u=v∧S'= []) (by simpa [e2] using DC.pure hc _) (fun _ _ e=>by cases e) (fun _ _ e=>⟨e,rfl⟩)) ?_
 rintro u E' S' ⟨rfl,S2,rfl,⟨rfl,rfl⟩,-⟩
 exact⟨rfl,rfl,rfl⟩
theorem DX.last {o:Oper} {T:Sto→V→VEnv→Sto→Prop} (hg:o.guard=none) (hc:isChain o=true) (hb:isBirth o.op=false) (hd:dok n o.dst=true) (ho: ∀S1,T1 S1→OpS r.v0 P n o E S1 (T S1)) (q: ∀S1 v E' S',T1 S1→T S1 v E' S'→(∀b o,lookS S0 b=some o→lookS S' b=none)→DS P n r Q k (putV E' o.dst v) (S'++S0)) :
  DX P n r Q ops S0 [o] k E0 E T1:=fun K0 K D W hv0 hs a SPs hbx hfl hE hp hS0 hz hl hR=>by
 show SW P ops.toArray _ W _ [o] SPs a
 unfold SW Front
 rw[if_pos (by simp[Region.wanted,hg]),if_pos hc]
 refine⟨fun _ y=>y,fun _ y=>fun F h1=> ∃S1 v E' S',(T1 S1∧T S1 v E' S')∧RunS P [] D n K hv0 hs S0 (putV E' o.dst v) S' (a.put o.dst y) F h1,?_,fun _ y ⟨w',hw',hT⟩=>?_⟩
 ·unfold Spec
  rw[if_neg (by simp[hb])]
  have G:=fun v E' S' y=>RunS.good P [] D n K hv0 hs S0 (putV E' o.dst v) S' (a.put o.dst y)
  refine⟨rfl,_,rfl,fun y=>⟨fun F h ⟨S1,v,E',S',_,h2⟩=>(G v E' S' y).ext F h h2,fun F h ob ⟨S1,v,E',S',h1,h2⟩=>⟨S1,v,E',S',h1,(G v E' S' y).push F h ob h2⟩,fun F F' h hF ⟨S1,v,E',S',h1,h2⟩=>⟨S1,v,E',S',h1,(G v E' S' y).less F F' h hF h2⟩⟩,fun w F hF hw=>?_⟩
  obtain⟨S1,t1,t2⟩:=hR F w.heap hF
  refine(RunS.after hd (ho S1 t1) hfl t2).mono ?_
  rintro y w' ⟨g1,⟨u,E2,S2,g4,g2⟩,g3⟩
  exact⟨g1,⟨S1,u,E2,S2,⟨t1,g4⟩,g2⟩,g3⟩
 ·intro w2 ⟨S1,v,E',S',⟨h0,h1⟩,h2⟩ hw2
  obtain⟨_,_,hv,hold,env,ha,s,_,_,hg⟩:=h2
  exact q S1 v E' S' h0 h1 (fun b o e=>(hg b o e).2.1) K0 W _ w2 ⟨K,D,hv,hold,env,hbx,ha,s⟩ hw2
end
end Go.XL
namespace Go.XL
section
variable {P:Program} {n:Nat} {r:Rr} {Q:VEnv→Sto→Prop} {k:List Fr} {E0 E:VEnv} {S0 S1:Sto} {T1:Sto→Prop} {ops l:List Oper} {dst:Option Tmp} {op:Op} {ty:TypeId} {pos:String} {af:Array Edge}
theorem DD.toX (q:DX P n r Q ops S0 l k E0 E (fun S=>S=S1)):DD P n r Q ops S0 [] l k E0 E S1:=fun K0 K D W hv0 hs a SPs h1 h2 h3 h4 h5 h6 h7 h8 =>
 q K0 K D W hv0 hs a SPs h1 h2 h3 h4 h5 h6 h7 fun F h hF=>⟨S1,rfl,h8 F h hF⟩
theorem DX.nil (q: ∀S1,T1 S1→(∀b o,lookS S0 b=some o→lookS S1 b=none)→DS P n r Q k E (S1++S0)):DX P n r Q ops S0 [] k E0 E T1:=fun K0 K D W hv0 hs a SPs hbx hfl _ _ _ _ _ hR w' hS hw=>by
 obtain⟨S1,h0,_,_,hv,hold,env,ha,s,_,_,hg⟩:=hR noF w'.heap hS
 exact q S1 h0 (fun b o e=>(hg b o e).2.1) K0 W a w' ⟨K,D,hv,hold,env,hbx,ha,s⟩ hw
theorem DX.stepX {ι:Type} {o:Oper} {T:Sto→V→VEnv→Sto→Prop} (vf:ι→V) (inj: ∀hv hv' x x' y,(vf x).Rl hv y→(vf x').Rl hv' y→x=x') (hg:o.guard=none) (hc:isChain o=true) (hb:isBirth o.op=false) (hd:dok n o.dst=true) (ho: ∀S1,T1 S1→OpS r.v0 P n o E S1 (T S1)) {E':VEnv} (hT: ∀S1 v E2 S',T1 S1→T S1 v E2 S'→E2=E'∧ ∃x,v=vf x) (hdst: ∃td:Nat,o.dst=some td)
  (q: ∀x,DX P n r Q ops S0 l k (delO o.dst E0) (putV E' o.dst (vf x)) (fun S'=> ∃S1,T1 S1∧T S1 (vf x) E' S')):DX P n r Q ops S0 (o::l) k E0 E T1:=fun K0 K D W hv0 hs a SPs hbx hfl hE hp hS0 hz hl hR=>by
 show SW P ops.toArray _ W _ (o::l) SPs a
 unfold SW Front
 rw[if_pos (by simp[Region.wanted,hg]),if_pos hc]
 refine⟨fun _ y=>y,fun _ y=>fun F h1=> ∃S1 v E' S',(T1 S1∧T S1 v E' S')∧RunS P [] D n K hv0 hs S0 (putV E' o.dst v) S' (a.put o.dst y) F h1,?_,fun _ y ⟨w',hw',hT'⟩=>?_⟩
 ·unfold Spec
  rw[if_neg (by simp[hb])]
  have G:=fun v E' S' y=>RunS.good P [] D n K hv0 hs S0 (putV E' o.dst v) S' (a.put o.dst y)
  refine⟨rfl,_,rfl,fun y=>⟨fun F h ⟨S1,v,E',S',_,h2⟩=>(G v E' S' y).ext F h h2,fun F h ob ⟨S1,v,E',S',h1,h2⟩=>⟨S1,v,E',S',h1,(G v E' S' y).push F h ob h2⟩,fun F F' h hF ⟨S1,v,E',S',h1,h2⟩=>⟨S1,v,E',S',h1,(G v E' S' y).less F F' h hF h2⟩⟩,fun w F hF hw=>?_⟩
  obtain⟨S1,t1,t2⟩:=hR F w.heap hF
  refine(RunS.after hd (ho S1 t1) hfl t2).mono ?_
  rintro y w' ⟨g1,⟨u,E2,S2,g4,g2⟩,g3⟩
  exact⟨g1,⟨S1,u,E2,S2,⟨t1,g4⟩,g2⟩,g3⟩
 ·obtain⟨td,htd⟩:=hdst
  have rd: ∀{F h1 v S'},RunS P [] D n K hv0 hs S0 (putV E' o.dst v) S' (a.put o.dst y) F h1→ ∃hv,v.Rl hv y:=fun{F h1 v S'} t2=>by
   obtain⟨_,_,hv',hold,env',ha',s,_⟩:=t2
   obtain⟨y',e1,e2,_⟩:=s.slot td v (by rw[htd];simp[putV,lookV])
   have h1:=ha'.look td y' e1
   have hlt:td<n:=by rw[htd]at hd;simpa [dok] using hd
   rw[htd]at h1 ha'
   have hsz:=ha'.size
   simp only[Act.put]at h1 hsz
   rw[Array.getD_eq_getD_getElem?]at h1
   rw[Array.size_setIfInBounds]at hsz
   rw[Array.getElem?_setIfInBounds_self_of_lt (by omega)]at h1
   simp only[Option.getD_some]at h1
   exact⟨hv',by rw[h1];exact e2⟩
  have hT0:=hT'
  obtain⟨Sa,va,Ea,Sa',⟨u1,u2⟩,u3⟩:=hT0
  obtain⟨rfl,x,rfl⟩:=hT Sa va Ea Sa' u1 u2
  obtain⟨hva,ra⟩:=rd u3
  refine q x K0 K D W hv0 hs _ _ hbx hfl (e0_del hE hd y) hp hS0 hz ⟨w',hw',hT'⟩ fun F h1 ⟨S1,v,E2,S',⟨t0,t1⟩,t2⟩=>?_
  obtain⟨rfl,x',rfl⟩:=hT S1 v E2 S' t0 t1
  obtain⟨hvb,rb⟩:=rd t2
  obtain rfl:=inj _ _ _ _ _ rb ra
  exact⟨S',⟨S1,t0,t1⟩,t2⟩
theorem DX.bornO {o:Oper} {cl:List V} {T:TypeId} {vb:Nat→Value} (hg:o.guard=none) (hc:isChain o=true) (hb:isBirth o.op=true) (hd:dok n o.dst=true)
  (hr: ∃cs:List Value,(∀hv,RlL hv cl cs)∧Ones cs∧ ∀(a:Act) (w:World),a.tmps.size=n→(execOp a.eval o).run P w = .ok (.value (vb w.heap.size)) {w with heap:=w.heap.push (.cells cs.toArray T)}) (hfree: ∀v∈cl,v.free=true)
  (q: ∀u,lookS S0 u=none→DX P n r Q ops S0 l k (putV E0 o.dst (.v (vb u))) (putV E o.dst (.v (vb u))) (fun S'=> ∃S1,T1 S1∧lookS S1 u=none∧S'=(u, .cells cl T)::S1)):DX P n r Q ops S0 (o::l) k E0 E T1:=fun K0 K D W hv0 hs a SPs hbx hfl hE hp hS0 hz hl hR=>by
 obtain⟨w1,hw1,hSP⟩:=hl
 obtain⟨_,_,_,_,hv1,hold1,env1,ha1,s1,_⟩:=hR noF w1.heap hSP
 obtain⟨cs,c1,c2,c3⟩:=hr
 show SW P ops.toArray _ W _ (o::l) SPs a
 unfold SW Front
 rw[if_pos (by simp[Region.wanted,hg]),if_pos hc]
 refine⟨fun u _=>vb u,fun u _=>bornS SPs u (.cells cs.toArray T),?_,fun u _ ⟨w',hw',hT⟩=>?_⟩
 ·unfold Spec
  rw[if_pos hb]
  exact⟨.cells cs.toArray T,vb,rfl,fun w=>c3 a w ha1.size,rfl,rfl⟩
 ·have key: ∀F h1,bornS SPs u (.cells cs.toArray T) F h1→ ∃S1,T1 S1∧RunS P [] D n K hv0 hs S0 (putV E o.dst (.v (vb u))) ((u, .cells cl T)::S1) (a.put o.dst (vb u)) F h1∧lookS S1 u=none∧lookS S0 u=none:=by
   rintro F h1 ⟨t1,t2,t3⟩
   obtain⟨S1,t0,p1,p2,hv',hold,env',ha',s,p,f,g⟩:=hR _ h1 t1
   have hu:=p1 u (.inr rfl)
   have fu:=f u (.inr rfl)
   have hB: ¬K.B u:=fun hb=>by
    have:=s.base.1 u hb
    omega
   have nS:lookS S1 u=none∧lookS S0 u=none:=by
    have:=fu.2
    rw[lookS_app]at this
    cases e:lookS S1 u with
    | some o=>rw[e]at this;cases this
    | none=>rw[e]at this;exact⟨rfl,this⟩
   refine⟨S1,t0,⟨fun b hb=>p1 b (.inl hb),⟨p2.1,MpOk.nil⟩,hv',hold,_,ha'.put' hd (vb u),(s.adoptO t3 hB fu.1 (c1 hv') c2 hfree).put o.dst V.Rl_v fun _ _=>trivial,p,fun b hb=>⟨(f b (.inl hb)).1,?_⟩,fun b ob e=>?_⟩,nS⟩
   ·show lookS ((u,_)::(S1++S0)) b=none
    simp only[lookS]
    rw[if_neg (fun(e:u=b)=>t2 (by subst e;exact hb))];exact(f b (.inl hb)).2
   ·obtain⟨g1,g2,g3⟩:=g b ob e
    refine⟨g1,?_,g3⟩
    simp only[lookS]
    rw[if_neg (fun e=>by subst e;omega)];exact g2
  obtain⟨_,_,_,_,n2⟩:=key noF w'.heap hT
  exact q u n2 K0 K D W hv0 hs _ _ hbx hfl (e0_put hE hd V.Rl_v) hp hS0 hz ⟨w',hw',hT⟩ fun F h1 hF=>let ⟨S1,a1,a2,a3,_⟩:=key F h1 hF;⟨_,⟨S1,a1,a3,rfl⟩,a2⟩
theorem DX.alloc {T:TypeId} {z:Value} (hd:dok n dst=true) (hz:tzero P T=some z) (ho:onesB z.cells.toList=true) (q: ∀u,lookS S0 u=none→DX P n r Q ops S0 l k (putV E0 dst (.v (.pointer (some ⟨u,0,none⟩)))) (putV E dst (.v (.pointer (some ⟨u,0,none⟩)))) (fun S'=> ∃S1,T1 S1∧lookS S1 u=none∧S'=(u, .cells (z.cells.toList.map V.v) T)::S1)) :
  DX P n r Q ops S0 (⟨dst, .alloc T,ty,pos,af,none⟩::l) k E0 E T1:=by
 refine DX.bornO (vb:=fun u => .pointer (some ⟨u,0,none⟩)) rfl rfl rfl hd ⟨z.cells.toList,fun hv=>RlL_raw _,onesB_spec ho,fun a w hsz=>?_⟩ (raws_free _) q
 have ha:Agree a.defers n [] a:=⟨hsz,rfl,fun t v e=>by cases e⟩
 refine exec_hop (P:=P) (y:=fun u => .pointer (some ⟨u,0,none⟩)) ha (fun i=>by simp[undef]) (fun h1'=>?_) w
 simp only[hop,hz]
end
end Go.XL
namespace Go.XL
theorem DS.drawLS {P:Program} {n:Nat} {r:Rr} {Q:VEnv→Sto→Prop} {k:List Fr} {E:VEnv} {S:Sto} {id:Nat} {os l1 l2:List Oper} (S0 S1:Sto) (ord:List Nat) (m:Nat) (hok:drawOk os.toArray ord m=true) (hm:P.follows .mixedOrders=true) (h1:pickL os ord=l1) (h2:os.drop m=l2)
  (h0: ∀b o,lookS S0 b=some o→lookS S b=some o∧lookS S1 b=none) (h3: ∀b o,lookS S1 b=some o→lookS S b=some o)
  (q:DD P n r Q os S0 [] l1 (.ops os l2::k) E E S1):DS P n r Q (.code (.region id os.toArray true)::k) E S :=
 DS.draw S0 S1 [] MpOk.nil ord m hok hm h0 h3 (by rw[pickL_eq,h1];simpa [h2] using q)
end Go.XL
