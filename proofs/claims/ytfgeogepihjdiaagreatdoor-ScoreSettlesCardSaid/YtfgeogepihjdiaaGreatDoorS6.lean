/- A part of a program logic over the kit's walk rules, and contracts of functions in it. Conditions: as each theorem says. -/
import Derived.Test.YtfgeogepihjdiaaGreatDoorS5
set_option linter.all false
namespace Go.XL
open Go.Proofs
set_option maxRecDepth 100000
set_option maxHeartbeats 8000000
def feed1 (s:GSet) (f:Feed):Int:=if(f.kinds.length:Int)=0 then 6 else if ascS (kindsS s) f.kinds≠0 then ascS (kindsS s) f.kinds else if ¬(1≤f.many∧f.many≤s.melds)then 2 else 0
theorem feedsGo_at1 {s:GSet} {l:List Feed} {i:Nat} (hi:i<l.length):feedsGo s (l.drop i)=if feed1 s l[i]≠0 then feed1 s l[i]else feedsGo s (l.drop (i+1)):=by
 rw[feedsGo_at hi,feed1]
 (repeat' split) <;> first|rfl|(exfalso;omega)
theorem r4feed_pc (s:GSet) (f:Feed):PC Tryz.prog 148 [s.val,f.val] (I (feed1 s f)):=by
 have hk:=r4kinds_pc s f.kinds
 rw[feed1]
 refine DC.of_run Tryz.func148 rfl Tryz.ntmps148 Tryz.results148 (by simp) (fun _ _=>?_);simp only[argV_cons,argV_nil,go_sem,Nat.zero_add,Nat.reduceAdd]
 repeat' (first|(with_reducible first|refine DS.fltS yU yU yE ?_|refine DS.opsNil ?_|refine DS.seq ?_|refine DS.regionL ?_|(refine DS.cE yE ?_;first|refine CG.np (fun _=>?_) (fun _=>?_)|refine CG.p (fun _=>?_) (fun _=>?_))|refine DS.skip ?_)|refine DS.pcS inferInstance (hk) yR yT ?_|refine DS.pcS inferInstance (betweenR_pc _ _ _) yR yT ?_|(refine DS.boxF (t:=2) yU yE yU ?_;simp only[cells_agg,cells_v,cells_lst,cells_fn,map_nil'',map_cons'',copy_own,copy_lst,copy_v,copy_at,copy_agg,copy_fn,copy_ifc,copy_tup])|(refine DS.boxF (t:=3) yU yE yU ?_;simp only[cells_agg,cells_v,cells_lst,cells_fn,map_nil'',map_cons'',copy_own,copy_lst,copy_v,copy_at,copy_agg,copy_fn,copy_ifc,copy_tup])|refine DS.retT [] yE trivial ?_|fail)
 all_goals (clear hk;simp only[tupV];(repeat' split) <;> first|rfl|(exfalso;omega))
theorem r4play_pc (s:GSet) (p:Play):PC Tryz.prog 119 [s.val,p.val] (I (playS s p)):=by
 have hc:=r1check_pc s
 by_cases h0:gsetS s=0
 ·rw[h0]at hc
  rw[playS,if_neg (by omega)]
  refine DC.of_run Tryz.func119 rfl Tryz.ntmps119 Tryz.results119 (by simp) (fun _ _=>?_);simp only[argV_cons,argV_nil,go_sem,Nat.zero_add,Nat.reduceAdd]
  repeat' (first|(with_reducible first|refine DS.fltS yU yU yE ?_|refine DS.opsNil ?_|refine DS.seq ?_|refine DS.regionL ?_|(refine DS.cE yE ?_;first|refine CG.np (fun _=>?_) (fun _=>?_)|refine CG.p (fun _=>?_) (fun _=>?_)|refine CG.yes ?_|refine CG.no ?_)|(refine DS.gE yU yE ?_;first|refine GG.npF (fun _=>?_) (fun _=>?_)|refine GG.run ?_|refine GG.sT ?_)|refine DS.skip ?_)|refine DS.pcS inferInstance (hc) yR yF ?_|refine DS.pcS inferInstance (betweenR_pc _ _ _) yR yF ?_|(refine DS.boxF (t:=2) yU yE yU ?_;simp only[cells_agg,cells_v,cells_lst,cells_fn,map_nil'',map_cons'',copy_own,copy_lst,copy_v,copy_at,copy_agg,copy_fn,copy_ifc,copy_tup])|(refine DS.boxF (t:=3) yU yE yU ?_;simp only[cells_agg,cells_v,cells_lst,cells_fn,map_nil'',map_cons'',copy_own,copy_lst,copy_v,copy_at,copy_agg,copy_fn,copy_ifc,copy_tup])|refine DS.retT [] yE trivial ?_|fail)
  all_goals (clear hc;simp only[tupV];(repeat' split) <;> first|rfl|(exfalso;omega))
 ·rw[playS,if_pos h0]
  refine DC.of_run Tryz.func119 rfl Tryz.ntmps119 Tryz.results119 (by simp) (fun _ _=>?_);simp only[argV_cons,argV_nil,go_sem,Nat.zero_add,Nat.reduceAdd]
  repeat' (first|(with_reducible first|refine DS.fltS yU yU yE ?_|refine DS.opsNil ?_|refine DS.seq ?_|refine DS.regionL ?_|(refine DS.cE yE ?_;refine CG.yes ?_))|refine DS.pcS inferInstance (hc) yR yT ?_|(refine DS.boxF (t:=2) yU yE yU ?_;simp only[cells_agg,cells_v,cells_lst,cells_fn,map_nil'',map_cons'',copy_own,copy_lst,copy_v,copy_at,copy_agg,copy_fn,copy_ifc,copy_tup])|(refine DS.boxF (t:=3) yU yE yU ?_;simp only[cells_agg,cells_v,cells_lst,cells_fn,map_nil'',map_cons'',copy_own,copy_lst,copy_v,copy_at,copy_agg,copy_fn,copy_ifc,copy_tup])|refine DS.retT [] yE trivial ?_|fail)
  all_goals first|rfl|(exfalso;omega)
theorem r4other_pc (l : List Int) (own many : Int) (hm : 0 ≤ many ∧ many ≤ 1000000) : PC Tryz.prog 116 [ints l, I own, I many] (I (othersS l own many)) := by
  refine DC.of_run Tryz.func116 rfl Tryz.ntmps116 Tryz.results116 (by simp) (fun _ _ => ?_); simp only [argV_cons, argV_nil, go_sem, Nat.zero_add, Nat.reduceAdd]
  refine DS.bnd (t := 0) yG (.inl rfl) (fun hb0 => ?_); simp only [List.length_map] at hb0
  repeat' (first | (with_reducible first | refine DS.fltS yU yU yE ?_ | refine DS.opsNil ?_ | refine DS.seq ?_ | refine DS.regionL ?_ | (refine DS.cE yE ?_; refine CG.p (fun _ => ?_) (fun _ => ?_)) | refine DS.block ?_ | refine DS.skip ?_) | refine DS.retT [] yE trivial ?_ | fail)
  · simp [tupV, othersS, *]
  refine DS.loopK [0, 1, 2] yN (fun (i : Nat) => [(7, I i)]) (fun (i : Nat) => i ≤ l.length ∧ othersS l own many = othersGo own many (l.drop i) (prevL l i)) (fun (i : Nat) => l.length - i) 0 yS (by simp [othersS, prevL, *]) (fun i B hI hB => ?_); try dsimp only at hI hB; simp only [app_cons', app_nil']
  have HB := Box.mk hB
  clear hB
  obtain ⟨hI, hI2⟩ := hI
  by_cases hi : (i : Int) < (l.length : Int)
  · have hi' : i < l.length := by omega
    have hp : i - 1 < l.length := by omega
    rw [othersGo_at hi'] at hI2
    have HI := Box.mk hI2
    clear hI2
    repeat' (first | (with_reducible first | refine DS.fltS yU yU yE ?_ | refine DS.opsNil ?_ | refine DS.seq ?_ | refine DS.regionL ?_ | (refine DS.cE yE ?_; first | refine CG.np (fun _ => ?_) (fun _ => ?_) | refine CG.p (fun _ => ?_) (fun _ => ?_) | refine CG.yes ?_ | refine CG.no ?_) | (refine DS.gE yU yE ?_; first | refine GG.run ?_ | refine GG.sF ?_) | refine DS.blk ?_ | refine DS.block ?_ | refine DS.skip ?_) | refine DS.pcS inferInstance (betweenR_pc _ _ _) yR yT ?_ | refine DS.drawL (id := 10) [0, 1, 2, 3, 4, 5, 6, 7, 8, 9, 10, 11] 12 (by kernel_rfl) mixed (by simp only [pickL_cons, pickL_nil, get_zero', get_cons', pickO_some]; exact rfl) (by simp only [drop_zero', drop_cons', List.drop_nil]; exact rfl) ?_ | (with_reducible first | refine DD.fltS yU yU yU yE ?_ | (refine DD.gE yU yE ?_; first | refine DGG.pT (fun _ => ?_) (fun _ => ?_) | refine DGG.run ?_ | refine DGG.sF ?_) | refine DD.nil0 ?_) | refine DS.retT [] yE trivial ?_ | fail)
    all_goals first
      | (exfalso; omega)
      | ((try rw [prevL_zero (by assumption)] at HI); (try rw [prevL_pos (by assumption) hp] at HI); (try simp only [anyO_none, anyO_some, decide_eq_true_eq, Bool.false_eq_true, if_false] at HI)
         first
          | (rw [HI.out]; (repeat' split) <;> first | rfl | (exfalso; omega))
          | exact DS.back (HB.out (i + 1) _ _ (by omega) ⟨by omega, by rw [HI.out, prevL_succ hi']; (repeat' split) <;> first | rfl | (exfalso; omega)⟩ yS yS (fun b o e => by cases e)))
  · repeat' (first | (with_reducible first | refine DS.fltS yU yU yE ?_ | refine DS.opsNil ?_ | refine DS.seq ?_ | refine DS.regionL ?_ | (refine DS.cE yE ?_; refine CG.no ?_) | refine DS.exit yU ?_) | refine DS.retT [] yE trivial ?_ | fail)
    rw [hI2, drop_end hi]; rfl
end Go.XL
namespace Go.XL
open Go.Proofs
set_option maxRecDepth 100000
set_option maxHeartbeats 8000000
theorem places_at {l:List Int} {i:Nat} (hi:i<l.length):placesB (l.drop i)=(decide (-1000000≤l[i]∧l[i]≤1000000)&&placesB (l.drop (i+1))):=by
 rw[List.drop_eq_getElem_cons hi,placesB,List.all_cons];rfl
def ptsL (p:Pay):List Int:= [p.basic,p.counter,p.stick,p.pool,p.foul,p.start]
theorem r4pay_pc (s:GSet) (p:Pay):PC Tryz.prog 118 [s.val,p.val] (I (payS s p)):=by
 have hc:=r1check_pc s
 by_cases h0:gsetS s=0
 ·have hpl:=(gset_ok h0).players
  rw[h0]at hc
  have e1:(ptB p.basic&&ptB p.counter&&ptB p.stick&&ptB p.pool&&ptB p.foul&&ptB p.start)=((ptsL p).all fun n=>decide (0≤n∧n≤1000000)):=by
   simp[ptB,ptsL,Bool.and_assoc]
  have hpay:payS s p=if ¬(1≤p.mode∧p.mode≤3)then 4 else
   if((ptsL p).all fun n=>decide (0≤n∧n≤1000000))=false then 2 else if p.pool % 6≠0 then 2 else if ¬(1≤p.rounds∧p.rounds≤16)then 2 else if ¬(0≤p.stay∧p.stay≤7)then 2 else
   if 0<(p.places.length:Int)∧(p.places.length:Int)≠s.players then 3 else if placesB p.places=false then 2 else if sumI p.places≠0 then 12 else
   if 4<(p.feeds.length:Int)then 8 else feedsGo s p.feeds:=by rw[payS,if_neg (by omega),e1]
  clear e1
  by_cases hm:1≤p.mode∧p.mode≤3
  ·rw[if_neg (by omega)]at hpay
   rw[hpay]
   clear hpay
   refine DC.of_run Tryz.func118 rfl Tryz.ntmps118 Tryz.results118 (by simp) (fun _ _=>?_);simp only[argV_cons,argV_nil,go_sem,Nat.zero_add,Nat.reduceAdd]
   repeat' (first|(with_reducible first|refine DS.fltS yU yU yE ?_|refine DS.opsNil ?_|refine DS.seq ?_|refine DS.regionL ?_|(refine DS.cE yE ?_;refine CG.no ?_)|refine DS.block ?_|refine DS.skip ?_)|(refine DS.bsl yU yE yE ?_;simp only[go_sem,Nat.zero_add,Nat.reduceAdd])|refine DS.pcS inferInstance (hc) yR yT ?_|refine DS.pcS inferInstance (betweenR_pc _ _ _) yR yT ?_|(refine DS.boxF (t:=2) yU yE yU ?_;simp only[cells_agg,cells_v,cells_lst,cells_fn,map_nil'',map_cons'',copy_own,copy_lst,copy_v,copy_at,copy_agg,copy_fn,copy_ifc,copy_tup])|(refine DS.boxF (t:=3) yU yE yU ?_;simp only[cells_agg,cells_v,cells_lst,cells_fn,map_nil'',map_cons'',copy_own,copy_lst,copy_v,copy_at,copy_agg,copy_fn,copy_ifc,copy_tup])|fail)
   all_goals try (exfalso;omega)
   refine DS.loopK [2,3,6] yN (fun(i:Nat)=> [(7,I i)]) (fun(i:Nat)=>i≤6∧(((ptsL p).take i).all fun n=>decide (0≤n∧n≤1000000))=true) (fun(i:Nat)=>6-i) 0 yS ⟨by omega,rfl⟩ (fun i B hI hB=>?_);try dsimp only at hI hB;simp only[app_cons',app_nil']
   have HB:=Box.mk hB
   clear hB
   obtain⟨hI,hI2⟩:=hI
   have hcase:i=0∨i=1∨i=2∨i=3∨i=4∨i=5∨i=6:=by omega
   rcases hcase with q|q|q|q|q|q|q
   ·subst q
    have ca:((0:Nat):Int)=0:=rfl
    have cb:((1:Nat):Int)=1:=rfl
    by_cases hn:0≤p.basic∧p.basic≤1000000
    ·have hnx:(((ptsL p).take 1).all fun n=>decide (0≤n∧n≤1000000))=true:=by
      simp only[ptsL,List.take_succ_cons,List.take_zero,List.all_cons,List.all_nil,Bool.and_true,Bool.and_eq_true,decide_eq_true_eq]at hI2 ⊢
      omega
     have HN:=Box.mk hnx
     clear hI2 hnx
     repeat' (first|(with_reducible first|refine DS.fltS yU yU yX2 ?_|refine DS.opsNil ?_|refine DS.seq ?_|refine DS.regionL ?_|(refine DS.cE yX2 ?_;first|refine CG.np (fun _=>?_) (fun _=>?_)|refine CG.p (fun _=>?_) (fun _=>?_)|refine CG.yes ?_|refine CG.no ?_)|(refine DS.gE yU yX2 ?_;first|refine GG.npT (fun _=>?_) (fun _=>?_)|refine GG.npF (fun _=>?_) (fun _=>?_)|refine GG.run ?_|refine GG.sF ?_|refine GG.sT ?_)|refine DS.blk ?_|refine DS.block ?_|refine DS.exit yU ?_|refine DS.skip ?_)|refine DS.pcS inferInstance (betweenR_pc _ _ _) yR yX3 ?_|refine DS.retT [] yX2 trivial ?_|fail)
     all_goals first
      | exact DS.back (HB.out 1 _ _ (by omega) ⟨by omega,HN.out⟩ yS yS (fun b o e=>by cases e))
      | (exfalso;omega)
    ·have e:((ptsL p).all fun n=>decide (0≤n∧n≤1000000))=false:=by
      rw[Bool.eq_false_iff]
      intro h
      simp only[ptsL,List.all_cons,List.all_nil,Bool.and_true,Bool.and_eq_true,decide_eq_true_eq]at h
      omega
     rw[if_pos e]
     clear e hI2
     repeat' (first|(with_reducible first|refine DS.fltS yU yU yX2 ?_|refine DS.opsNil ?_|refine DS.seq ?_|refine DS.regionL ?_|(refine DS.cE yX2 ?_;first|refine CG.np (fun _=>?_) (fun _=>?_)|refine CG.p (fun _=>?_) (fun _=>?_)|refine CG.yes ?_|refine CG.no ?_)|(refine DS.gE yU yX2 ?_;first|refine GG.npT (fun _=>?_) (fun _=>?_)|refine GG.npF (fun _=>?_) (fun _=>?_)|refine GG.run ?_|refine GG.sF ?_|refine GG.sT ?_)|refine DS.block ?_|refine DS.exit yU ?_|refine DS.skip ?_)|refine DS.pcS inferInstance (betweenR_pc _ _ _) yR yX3 ?_|refine DS.retT [] yX2 trivial ?_|fail)
     all_goals first|rfl|(exfalso;omega)
   ·subst q
    have ca:((1:Nat):Int)=1:=rfl
    have cb:((2:Nat):Int)=2:=rfl
    by_cases hn:0≤p.counter∧p.counter≤1000000
    ·have hnx:(((ptsL p).take 2).all fun n=>decide (0≤n∧n≤1000000))=true:=by
      simp only[ptsL,List.take_succ_cons,List.take_zero,List.all_cons,List.all_nil,Bool.and_true,Bool.and_eq_true,decide_eq_true_eq]at hI2 ⊢
      omega
     have HN:=Box.mk hnx
     clear hI2 hnx
     repeat' (first|(with_reducible first|refine DS.fltS yU yU yX2 ?_|refine DS.opsNil ?_|refine DS.seq ?_|refine DS.regionL ?_|(refine DS.cE yX2 ?_;first|refine CG.np (fun _=>?_) (fun _=>?_)|refine CG.p (fun _=>?_) (fun _=>?_)|refine CG.yes ?_|refine CG.no ?_)|(refine DS.gE yU yX2 ?_;first|refine GG.npT (fun _=>?_) (fun _=>?_)|refine GG.npF (fun _=>?_) (fun _=>?_)|refine GG.run ?_|refine GG.sF ?_|refine GG.sT ?_)|refine DS.blk ?_|refine DS.block ?_|refine DS.exit yU ?_|refine DS.skip ?_)|refine DS.pcS inferInstance (betweenR_pc _ _ _) yR yX3 ?_|refine DS.retT [] yX2 trivial ?_|fail)
     all_goals first
      | exact DS.back (HB.out 2 _ _ (by omega) ⟨by omega,HN.out⟩ yS yS (fun b o e=>by cases e))
      | (exfalso;omega)
    ·have e:((ptsL p).all fun n=>decide (0≤n∧n≤1000000))=false:=by
      rw[Bool.eq_false_iff]
      intro h
      simp only[ptsL,List.all_cons,List.all_nil,Bool.and_true,Bool.and_eq_true,decide_eq_true_eq]at h
      omega
     rw[if_pos e]
     clear e hI2
     repeat' (first|(with_reducible first|refine DS.fltS yU yU yX2 ?_|refine DS.opsNil ?_|refine DS.seq ?_|refine DS.regionL ?_|(refine DS.cE yX2 ?_;first|refine CG.np (fun _=>?_) (fun _=>?_)|refine CG.p (fun _=>?_) (fun _=>?_)|refine CG.yes ?_|refine CG.no ?_)|(refine DS.gE yU yX2 ?_;first|refine GG.npT (fun _=>?_) (fun _=>?_)|refine GG.npF (fun _=>?_) (fun _=>?_)|refine GG.run ?_|refine GG.sF ?_|refine GG.sT ?_)|refine DS.block ?_|refine DS.exit yU ?_|refine DS.skip ?_)|refine DS.pcS inferInstance (betweenR_pc _ _ _) yR yX3 ?_|refine DS.retT [] yX2 trivial ?_|fail)
     all_goals first|rfl|(exfalso;omega)
   ·subst q
    have ca:((2:Nat):Int)=2:=rfl
    have cb:((3:Nat):Int)=3:=rfl
    by_cases hn:0≤p.stick∧p.stick≤1000000
    ·have hnx:(((ptsL p).take 3).all fun n=>decide (0≤n∧n≤1000000))=true:=by
      simp only[ptsL,List.take_succ_cons,List.take_zero,List.all_cons,List.all_nil,Bool.and_true,Bool.and_eq_true,decide_eq_true_eq]at hI2 ⊢
      omega
     have HN:=Box.mk hnx
     clear hI2 hnx
     repeat' (first|(with_reducible first|refine DS.fltS yU yU yX2 ?_|refine DS.opsNil ?_|refine DS.seq ?_|refine DS.regionL ?_|(refine DS.cE yX2 ?_;first|refine CG.np (fun _=>?_) (fun _=>?_)|refine CG.p (fun _=>?_) (fun _=>?_)|refine CG.yes ?_|refine CG.no ?_)|(refine DS.gE yU yX2 ?_;first|refine GG.npT (fun _=>?_) (fun _=>?_)|refine GG.npF (fun _=>?_) (fun _=>?_)|refine GG.run ?_|refine GG.sF ?_|refine GG.sT ?_)|refine DS.blk ?_|refine DS.block ?_|refine DS.exit yU ?_|refine DS.skip ?_)|refine DS.pcS inferInstance (betweenR_pc _ _ _) yR yX3 ?_|refine DS.retT [] yX2 trivial ?_|fail)
     all_goals first
      | exact DS.back (HB.out 3 _ _ (by omega) ⟨by omega,HN.out⟩ yS yS (fun b o e=>by cases e))
      | (exfalso;omega)
    ·have e:((ptsL p).all fun n=>decide (0≤n∧n≤1000000))=false:=by
      rw[Bool.eq_false_iff]
      intro h
      simp only[ptsL,List.all_cons,List.all_nil,Bool.and_true,Bool.and_eq_true,decide_eq_true_eq]at h
      omega
     rw[if_pos e]
     clear e hI2
     repeat' (first|(with_reducible first|refine DS.fltS yU yU yX2 ?_|refine DS.opsNil ?_|refine DS.seq ?_|refine DS.regionL ?_|(refine DS.cE yX2 ?_;first|refine CG.np (fun _=>?_) (fun _=>?_)|refine CG.p (fun _=>?_) (fun _=>?_)|refine CG.yes ?_|refine CG.no ?_)|(refine DS.gE yU yX2 ?_;first|refine GG.npT (fun _=>?_) (fun _=>?_)|refine GG.npF (fun _=>?_) (fun _=>?_)|refine GG.run ?_|refine GG.sF ?_|refine GG.sT ?_)|refine DS.block ?_|refine DS.exit yU ?_|refine DS.skip ?_)|refine DS.pcS inferInstance (betweenR_pc _ _ _) yR yX3 ?_|refine DS.retT [] yX2 trivial ?_|fail)
     all_goals first|rfl|(exfalso;omega)
   ·subst q
    have ca:((3:Nat):Int)=3:=rfl
    have cb:((4:Nat):Int)=4:=rfl
    by_cases hn:0≤p.pool∧p.pool≤1000000
    ·have hnx:(((ptsL p).take 4).all fun n=>decide (0≤n∧n≤1000000))=true:=by
      simp only[ptsL,List.take_succ_cons,List.take_zero,List.all_cons,List.all_nil,Bool.and_true,Bool.and_eq_true,decide_eq_true_eq]at hI2 ⊢
      omega
     have HN:=Box.mk hnx
     clear hI2 hnx
     repeat' (first|(with_reducible first|refine DS.fltS yU yU yX2 ?_|refine DS.opsNil ?_|refine DS.seq ?_|refine DS.regionL ?_|(refine DS.cE yX2 ?_;first|refine CG.np (fun _=>?_) (fun _=>?_)|refine CG.p (fun _=>?_) (fun _=>?_)|refine CG.yes ?_|refine CG.no ?_)|(refine DS.gE yU yX2 ?_;first|refine GG.npT (fun _=>?_) (fun _=>?_)|refine GG.npF (fun _=>?_) (fun _=>?_)|refine GG.run ?_|refine GG.sF ?_|refine GG.sT ?_)|refine DS.blk ?_|refine DS.block ?_|refine DS.exit yU ?_|refine DS.skip ?_)|refine DS.pcS inferInstance (betweenR_pc _ _ _) yR yX3 ?_|refine DS.retT [] yX2 trivial ?_|fail)
     all_goals first
      | exact DS.back (HB.out 4 _ _ (by omega) ⟨by omega,HN.out⟩ yS yS (fun b o e=>by cases e))
      | (exfalso;omega)
    ·have e:((ptsL p).all fun n=>decide (0≤n∧n≤1000000))=false:=by
      rw[Bool.eq_false_iff]
      intro h
      simp only[ptsL,List.all_cons,List.all_nil,Bool.and_true,Bool.and_eq_true,decide_eq_true_eq]at h
      omega
     rw[if_pos e]
     clear e hI2
     repeat' (first|(with_reducible first|refine DS.fltS yU yU yX2 ?_|refine DS.opsNil ?_|refine DS.seq ?_|refine DS.regionL ?_|(refine DS.cE yX2 ?_;first|refine CG.np (fun _=>?_) (fun _=>?_)|refine CG.p (fun _=>?_) (fun _=>?_)|refine CG.yes ?_|refine CG.no ?_)|(refine DS.gE yU yX2 ?_;first|refine GG.npT (fun _=>?_) (fun _=>?_)|refine GG.npF (fun _=>?_) (fun _=>?_)|refine GG.run ?_|refine GG.sF ?_|refine GG.sT ?_)|refine DS.block ?_|refine DS.exit yU ?_|refine DS.skip ?_)|refine DS.pcS inferInstance (betweenR_pc _ _ _) yR yX3 ?_|refine DS.retT [] yX2 trivial ?_|fail)
     all_goals first|rfl|(exfalso;omega)
   ·subst q
    have ca:((4:Nat):Int)=4:=rfl
    have cb:((5:Nat):Int)=5:=rfl
    by_cases hn:0≤p.foul∧p.foul≤1000000
    ·have hnx:(((ptsL p).take 5).all fun n=>decide (0≤n∧n≤1000000))=true:=by
      simp only[ptsL,List.take_succ_cons,List.take_zero,List.all_cons,List.all_nil,Bool.and_true,Bool.and_eq_true,decide_eq_true_eq]at hI2 ⊢
      omega
     have HN:=Box.mk hnx
     clear hI2 hnx
     repeat' (first|(with_reducible first|refine DS.fltS yU yU yX2 ?_|refine DS.opsNil ?_|refine DS.seq ?_|refine DS.regionL ?_|(refine DS.cE yX2 ?_;first|refine CG.np (fun _=>?_) (fun _=>?_)|refine CG.p (fun _=>?_) (fun _=>?_)|refine CG.yes ?_|refine CG.no ?_)|(refine DS.gE yU yX2 ?_;first|refine GG.npT (fun _=>?_) (fun _=>?_)|refine GG.npF (fun _=>?_) (fun _=>?_)|refine GG.run ?_|refine GG.sF ?_|refine GG.sT ?_)|refine DS.blk ?_|refine DS.block ?_|refine DS.exit yU ?_|refine DS.skip ?_)|refine DS.pcS inferInstance (betweenR_pc _ _ _) yR yX3 ?_|refine DS.retT [] yX2 trivial ?_|fail)
     all_goals first
      | exact DS.back (HB.out 5 _ _ (by omega) ⟨by omega,HN.out⟩ yS yS (fun b o e=>by cases e))
      | (exfalso;omega)
    ·have e:((ptsL p).all fun n=>decide (0≤n∧n≤1000000))=false:=by
      rw[Bool.eq_false_iff]
      intro h
      simp only[ptsL,List.all_cons,List.all_nil,Bool.and_true,Bool.and_eq_true,decide_eq_true_eq]at h
      omega
     rw[if_pos e]
     clear e hI2
     repeat' (first|(with_reducible first|refine DS.fltS yU yU yX2 ?_|refine DS.opsNil ?_|refine DS.seq ?_|refine DS.regionL ?_|(refine DS.cE yX2 ?_;first|refine CG.np (fun _=>?_) (fun _=>?_)|refine CG.p (fun _=>?_) (fun _=>?_)|refine CG.yes ?_|refine CG.no ?_)|(refine DS.gE yU yX2 ?_;first|refine GG.npT (fun _=>?_) (fun _=>?_)|refine GG.npF (fun _=>?_) (fun _=>?_)|refine GG.run ?_|refine GG.sF ?_|refine GG.sT ?_)|refine DS.block ?_|refine DS.exit yU ?_|refine DS.skip ?_)|refine DS.pcS inferInstance (betweenR_pc _ _ _) yR yX3 ?_|refine DS.retT [] yX2 trivial ?_|fail)
     all_goals first|rfl|(exfalso;omega)
   ·subst q
    have ca:((5:Nat):Int)=5:=rfl
    have cb:((6:Nat):Int)=6:=rfl
    by_cases hn:0≤p.start∧p.start≤1000000
    ·have hnx:(((ptsL p).take 6).all fun n=>decide (0≤n∧n≤1000000))=true:=by
      simp only[ptsL,List.take_succ_cons,List.take_zero,List.all_cons,List.all_nil,Bool.and_true,Bool.and_eq_true,decide_eq_true_eq]at hI2 ⊢
      omega
     have HN:=Box.mk hnx
     clear hI2 hnx
     repeat' (first|(with_reducible first|refine DS.fltS yU yU yX2 ?_|refine DS.opsNil ?_|refine DS.seq ?_|refine DS.regionL ?_|(refine DS.cE yX2 ?_;first|refine CG.yes ?_|refine CG.no ?_)|refine DS.blk ?_|refine DS.block ?_|refine DS.skip ?_)|refine DS.pcS inferInstance (betweenR_pc _ _ _) yR yX3 ?_|fail)
     all_goals first
      | exact DS.back (HB.out 6 _ _ (by omega) ⟨by omega,HN.out⟩ yS yS (fun b o e=>by cases e))
      | (exfalso;omega)
    ·have e:((ptsL p).all fun n=>decide (0≤n∧n≤1000000))=false:=by
      rw[Bool.eq_false_iff]
      intro h
      simp only[ptsL,List.all_cons,List.all_nil,Bool.and_true,Bool.and_eq_true,decide_eq_true_eq]at h
      omega
     rw[if_pos e]
     clear e hI2
     repeat' (first|(with_reducible first|refine DS.fltS yU yU yX2 ?_|refine DS.opsNil ?_|refine DS.seq ?_|refine DS.regionL ?_|(refine DS.cE yX2 ?_;refine CG.yes ?_)|refine DS.block ?_|refine DS.skip ?_)|refine DS.pcS inferInstance (betweenR_pc _ _ _) yR yX3 ?_|refine DS.retT [] yX2 trivial ?_|fail)
     all_goals first|rfl|(exfalso;omega)
   ·subst q
    have ca:((6:Nat):Int)=6:=rfl
    have hall:((ptsL p).all fun n=>decide (0≤n∧n≤1000000))=true:=hI2
    rw[if_neg (by rw[hall];decide)]
    have hpb:0≤p.pool∧p.pool≤1000000:=by
     simp only[ptsL,List.all_cons,List.all_nil,Bool.and_true,Bool.and_eq_true,decide_eq_true_eq]at hall
     omega
    clear hI2 hall HB
    have ht:p.pool.tmod 6=p.pool % 6:=Int.tmod_eq_emod_of_nonneg hpb.1
    have ht2:=Int.emod_nonneg p.pool (show(6:Int)≠0 by decide)
    generalize p.pool % 6=pm at *
    by_cases hx:pm=0∧(1≤p.rounds∧p.rounds≤16)∧(0≤p.stay∧p.stay≤7)
    ·obtain⟨hx1,hx2,hx3⟩:=hx
     rw[if_neg (by omega),if_neg (by omega),if_neg (by omega)]
     subst hx1
     by_cases hx4:0<(p.places.length:Int)∧(p.places.length:Int)≠s.players
     ·rw[if_pos hx4]
      repeat' (first|(with_reducible first|refine DS.fltS yU yU yX2 ?_|refine DS.opsNil ?_|refine DS.seq ?_|refine DS.regionL ?_|(refine DS.cE yX2 ?_;first|refine CG.yes ?_|refine CG.no ?_)|(refine DS.gE yU yX2 ?_;first|refine GG.npT (fun _=>?_) (fun _=>?_)|refine GG.run ?_|refine GG.sF ?_)|refine DS.block ?_|refine DS.exit yU ?_|refine DS.skip ?_)|refine DS.pcS inferInstance (betweenR_pc _ _ _) yR yX3 ?_|refine DS.retT [] yX2 trivial ?_|fail)
      all_goals first|rfl|(exfalso;omega)
     ·rw[if_neg hx4]
      have hx5:(p.places.length:Int)≤4:=by omega
      repeat' (first|(with_reducible first|refine DS.fltS yU yU yX2 ?_|refine DS.opsNil ?_|refine DS.seq ?_|refine DS.regionL ?_|(refine DS.cE yX2 ?_;first|refine CG.np (fun _=>?_) (fun _=>?_)|refine CG.no ?_)|(refine DS.gE yU yX2 ?_;first|refine GG.npT (fun _=>?_) (fun _=>?_)|refine GG.run ?_|refine GG.sF ?_)|refine DS.block ?_|refine DS.exit yU ?_|refine DS.skip ?_)|refine DS.pcS inferInstance (betweenR_pc _ _ _) yR yX3 ?_|fail)
      all_goals try (exfalso;omega)
      all_goals
       refine DS.loopK [2,3] yN (fun(z:Nat×Int)=> [(8,I z.2),(9,I z.1)]) (fun(z:Nat×Int)=>z.1≤p.places.length∧placesB p.places=placesB (p.places.drop z.1)∧z.2=sumI (p.places.take z.1) ∧ -1000000*z.1≤z.2∧z.2≤1000000*z.1) (fun(z:Nat×Int)=>p.places.length-z.1) (0,0) yS ⟨Nat.zero_le _,rfl,rfl,by simp,by simp⟩ (fun z B hI hB=>?_);try dsimp only at hI hB;simp only[app_cons',app_nil']
       have HB:=Box.mk hB
       clear hB
       obtain⟨i,sm⟩:=z
       dsimp only at hI ⊢
       obtain⟨i1,i2,i3,i4,i5⟩:=hI
       by_cases hi:(i:Int)<(p.places.length:Int)
       ·have hi':i<p.places.length:=by omega
        rw[places_at hi']at i2
        have hsm:=sumI_take hi'
        by_cases hn : -1000000≤p.places[i]∧p.places[i]≤1000000
        ·rw[decide_eq_true hn,Bool.true_and]at i2
         have HI:=Box.mk (And.intro i2 (And.intro i3 hsm))
         clear i2 i3 hsm
         repeat' (first|(with_reducible first|refine DS.fltS yU yU yE ?_|refine DS.opsNil ?_|refine DS.seq ?_|refine DS.regionL ?_|(refine DS.cE yE ?_;first|refine CG.np (fun _=>?_) (fun _=>?_)|refine CG.p (fun _=>?_) (fun _=>?_)|refine CG.no ?_)|refine DS.blk ?_|refine DS.block ?_|refine DS.exit yU ?_|refine DS.skip ?_)|refine DS.pcS inferInstance (betweenR_pc _ _ _) yR yT ?_|refine DS.retT [] yE trivial ?_|fail)
         all_goals first
          | exact DS.back (HB.out (i+1,sm+p.places[i]) _ _ (by dsimp only;omega) ⟨by dsimp only;omega,HI.out.1,by dsimp only;rw[HI.out.2.2,HI.out.2.1],by dsimp only;omega,by dsimp only;omega⟩ yS yS (fun b o e=>by cases e))
          | (exfalso;omega)
        ·rw[decide_eq_false hn,Bool.false_and]at i2
         rw[if_pos i2]
         clear i2 i3 hsm HB
         repeat' (first|(with_reducible first|refine DS.fltS yU yU yE ?_|refine DS.opsNil ?_|refine DS.seq ?_|refine DS.regionL ?_|(refine DS.cE yE ?_;first|refine CG.np (fun _=>?_) (fun _=>?_)|refine CG.p (fun _=>?_) (fun _=>?_)|refine CG.yes ?_)|refine DS.block ?_|refine DS.exit yU ?_|refine DS.skip ?_)|refine DS.pcS inferInstance (betweenR_pc _ _ _) yR yT ?_|refine DS.retT [] yE trivial ?_|fail)
         all_goals first|rfl|(exfalso;omega)
       ·rw[drop_end hi]at i2
        rw[List.take_of_length_le (by omega)]at i3
        rw[if_neg (show ¬placesB p.places=false by rw[i2];decide),←i3]
        clear i2 i3 HB
        by_cases hs0:sm=0
        ·rw[if_neg (by omega)]
         by_cases hf4:4<(p.feeds.length:Int)
         ·rw[if_pos hf4]
          repeat' (first|(with_reducible first|refine DS.fltS yU yU yE ?_|refine DS.opsNil ?_|refine DS.seq ?_|refine DS.regionL ?_|(refine DS.cE yE ?_;first|refine CG.p (fun _=>?_) (fun _=>?_)|refine CG.yes ?_|refine CG.no ?_)|refine DS.block ?_|refine DS.exit yU ?_|refine DS.skip ?_)|refine DS.retT [] yE trivial ?_|fail)
          all_goals first|rfl|(exfalso;omega)
         ·rw[if_neg hf4]
          repeat' (first|(with_reducible first|refine DS.fltS yU yU yE ?_|refine DS.opsNil ?_|refine DS.seq ?_|refine DS.regionL ?_|(refine DS.cE yE ?_;first|refine CG.p (fun _=>?_) (fun _=>?_)|refine CG.no ?_)|refine DS.block ?_|refine DS.exit yU ?_|refine DS.skip ?_)|fail)
          all_goals try (exfalso;omega)
          refine DS.loopK [2,3] yN (fun(j:Nat)=> [(10,I j)]) (fun(j:Nat)=>j≤p.feeds.length∧feedsGo s p.feeds=feedsGo s (p.feeds.drop j)) (fun(j:Nat)=>p.feeds.length-j) 0 yS ⟨Nat.zero_le _,rfl⟩ (fun j B hI hB=>?_);try dsimp only at hI hB;simp only[app_cons',app_nil']
          have HB:=Box.mk hB
          clear hB
          obtain⟨j1,j2⟩:=hI
          by_cases hj:(j:Int)<(p.feeds.length:Int)
          ·have hj':j<p.feeds.length:=by omega
           rw[feedsGo_at1 hj']at j2
           have HJ:=Box.mk j2
           clear j2
           have hf:=r4feed_pc s p.feeds[j]
           by_cases hz:feed1 s p.feeds[j]=0
           ·rw[hz]at hf
            repeat' (first|(with_reducible first|refine DS.fltS yU yU yE ?_|refine DS.opsNil ?_|refine DS.seq ?_|refine DS.regionL ?_|(refine DS.cE yE ?_;first|refine CG.yes ?_|refine CG.no ?_)|refine DS.blk ?_|refine DS.block ?_|refine DS.skip ?_)|refine DS.pcS inferInstance (hf) yR yT ?_|refine DS.drawL (id:=30) [0,1,2,3,4,5] 6 (by kernel_rfl) mixed (by simp only[pickL_cons,pickL_nil,get_zero',get_cons',pickO_some];exact rfl) (by simp only[drop_zero',drop_cons',List.drop_nil];exact rfl) ?_|(with_reducible first|refine DD.fltS yU yU yU yE ?_|refine DD.nil0 ?_)|fail)
            all_goals first
             | exact DS.back (HB.out (j+1) _ _ (by omega) ⟨by omega,by rw[HJ.out,if_neg (by omega)]⟩ yS yS (fun b o e=>by cases e))
             | (exfalso;omega)
           ·repeat' (first|(with_reducible first|refine DS.fltS yU yU yE ?_|refine DS.opsNil ?_|refine DS.seq ?_|refine DS.regionL ?_|(refine DS.cE yE ?_;refine CG.yes ?_)|refine DS.block ?_|refine DS.skip ?_)|refine DS.pcS inferInstance (hf) yR yT ?_|refine DS.drawL (id:=30) [0,1,2,3,4,5] 6 (by kernel_rfl) mixed (by simp only[pickL_cons,pickL_nil,get_zero',get_cons',pickO_some];exact rfl) (by simp only[drop_zero',drop_cons',List.drop_nil];exact rfl) ?_|(with_reducible first|refine DD.fltS yU yU yU yE ?_|refine DD.nil0 ?_)|refine DS.retT [] yE trivial ?_|fail)
            all_goals first|(rw[HJ.out,if_pos hz];rfl)|(exfalso;omega)
          ·rw[j2,drop_end hj]
           clear j2 HB
           repeat' (first|(with_reducible first|refine DS.fltS yU yU yE ?_|refine DS.opsNil ?_|refine DS.seq ?_|refine DS.regionL ?_|(refine DS.cE yE ?_;refine CG.no ?_)|refine DS.exit yU ?_)|refine DS.retT [] yE trivial ?_|fail)
           all_goals first|rfl|(exfalso;omega)
        ·rw[if_pos hs0]
         repeat' (first|(with_reducible first|refine DS.fltS yU yU yE ?_|refine DS.opsNil ?_|refine DS.seq ?_|refine DS.regionL ?_|(refine DS.cE yE ?_;first|refine CG.p (fun _=>?_) (fun _=>?_)|refine CG.yes ?_)|refine DS.block ?_|refine DS.exit yU ?_|refine DS.skip ?_)|refine DS.retT [] yE trivial ?_|fail)
         all_goals first|rfl|(exfalso;omega)
    ·repeat' (first|(with_reducible first|refine DS.fltS yU yU yX2 ?_|refine DS.opsNil ?_|refine DS.seq ?_|refine DS.regionL ?_|(refine DS.cE yX2 ?_;first|refine CG.np (fun _=>?_) (fun _=>?_)|refine CG.yes ?_|refine CG.no ?_)|(refine DS.gE yU yX2 ?_;first|refine GG.npT (fun _=>?_) (fun _=>?_)|refine GG.npF (fun _=>?_) (fun _=>?_)|refine GG.run ?_|refine GG.sF ?_|refine GG.sT ?_)|refine DS.block ?_|refine DS.exit yU ?_|refine DS.skip ?_)|refine DS.pcS inferInstance (betweenR_pc _ _ _) yR yX3 ?_|refine DS.retT [] yX2 trivial ?_|fail)
     all_goals first
      | (exfalso;omega)
      | (simp only[tupV];(repeat' split) <;> first|rfl|(exfalso;omega))
  ·rw[if_pos hm]at hpay
   rw[hpay]
   refine DC.of_run Tryz.func118 rfl Tryz.ntmps118 Tryz.results118 (by simp) (fun _ _=>?_);simp only[argV_cons,argV_nil,go_sem,Nat.zero_add,Nat.reduceAdd]
   repeat' (first|(with_reducible first|refine DS.fltS yU yU yE ?_|refine DS.opsNil ?_|refine DS.seq ?_|refine DS.regionL ?_|(refine DS.cE yE ?_;first|refine CG.yes ?_|refine CG.no ?_)|refine DS.skip ?_)|refine DS.pcS inferInstance (hc) yR yT ?_|refine DS.pcS inferInstance (betweenR_pc _ _ _) yR yT ?_|(refine DS.boxF (t:=2) yU yE yU ?_;simp only[cells_agg,cells_v,cells_lst,cells_fn,map_nil'',map_cons'',copy_own,copy_lst,copy_v,copy_at,copy_agg,copy_fn,copy_ifc,copy_tup])|(refine DS.boxF (t:=3) yU yE yU ?_;simp only[cells_agg,cells_v,cells_lst,cells_fn,map_nil'',map_cons'',copy_own,copy_lst,copy_v,copy_at,copy_agg,copy_fn,copy_ifc,copy_tup])|refine DS.retT [] yE trivial ?_|fail)
   all_goals first|rfl|(exfalso;omega)
 ·rw[payS,if_pos h0]
  refine DC.of_run Tryz.func118 rfl Tryz.ntmps118 Tryz.results118 (by simp) (fun _ _=>?_);simp only[argV_cons,argV_nil,go_sem,Nat.zero_add,Nat.reduceAdd]
  repeat' (first|(with_reducible first|refine DS.fltS yU yU yE ?_|refine DS.opsNil ?_|refine DS.seq ?_|refine DS.regionL ?_|(refine DS.cE yE ?_;refine CG.yes ?_))|refine DS.pcS inferInstance (hc) yR yT ?_|(refine DS.boxF (t:=2) yU yE yU ?_;simp only[cells_agg,cells_v,cells_lst,cells_fn,map_nil'',map_cons'',copy_own,copy_lst,copy_v,copy_at,copy_agg,copy_fn,copy_ifc,copy_tup])|(refine DS.boxF (t:=3) yU yE yU ?_;simp only[cells_agg,cells_v,cells_lst,cells_fn,map_nil'',map_cons'',copy_own,copy_lst,copy_v,copy_at,copy_agg,copy_fn,copy_ifc,copy_tup])|refine DS.retT [] yE trivial ?_|fail)
  all_goals first|rfl|(exfalso;omega)
end Go.XL
namespace Go.XL
open Go.Proofs
set_option maxRecDepth 100000
set_option maxHeartbeats 8000000
theorem r2kinds_pc (s : GSet) (f : Form) (h0 : gsetS s = 0) (hf : f.what = 3 ∨ f.what = 6 ∨ f.kinds.length = 0) : PC Tryz.prog 144 [s.val, f.val] (I (fkGo s.plain s.copies (decide (f.what = 6)) f.kinds none 0)) := by
  have ok := gset_ok h0
  have hc := ok.copies
  have ek : kindsS s = s.plain := by rw [kindsS, if_neg (by omega)]
  have hk := fun k => r2plain_pc s k
  rw [ek] at hk
  clear ek ok h0
  obtain ⟨what, l, again⟩ := f
  dsimp only at hf ⊢
  obtain ⟨sv, hsv⟩ : ∃ sv, sv = decide (what = 6) := ⟨_, rfl⟩
  have hs2 : sv = true ↔ what = 6 := by rw [hsv, decide_eq_true_eq]
  rw [← hsv]
  clear hsv
  refine DC.of_run Tryz.func144 rfl Tryz.ntmps144 Tryz.results144 (by simp) (fun _ _ => ?_); simp only [argV_cons, argV_nil, go_sem, Nat.zero_add, Nat.reduceAdd]
  repeat' (first | (with_reducible first | refine DS.fltS yU yU yE ?_ | refine DS.opsNil ?_ | refine DS.seq ?_ | refine DS.regionL ?_ | refine DS.block ?_) | (refine DS.boxF (t := 2) yU yE yU ?_; simp only [cells_agg, cells_v, cells_lst, cells_fn, map_nil'', map_cons'', copy_own, copy_lst, copy_v, copy_at, copy_agg, copy_fn, copy_ifc, copy_tup]) | (refine DS.boxF (t := 3) yU yE yU ?_; simp only [cells_agg, cells_v, cells_lst, cells_fn, map_nil'', map_cons'', copy_own, copy_lst, copy_v, copy_at, copy_agg, copy_fn, copy_ifc, copy_tup]) | fail)
  refine DS.loopK [2, 3] yN (fun (z : Nat × Int) => [(5, I z.2), (6, I z.1)]) (fun (z : Nat × Int) => z.1 ≤ l.length ∧ 0 ≤ z.2 ∧ z.2 ≤ z.1 ∧ fkGo s.plain s.copies sv l none 0 = fkGo s.plain s.copies sv (l.drop z.1) (prevL l z.1) z.2) (fun (z : Nat × Int) => l.length - z.1) (0, 0) yS ⟨Nat.zero_le _, Int.le_refl _, Int.le_refl _, rfl⟩ (fun z B hI hB => ?_); try dsimp only at hI hB; simp only [app_cons', app_nil']
  have HB := Box.mk hB
  clear hB
  obtain ⟨i, m⟩ := z
  dsimp only at hI ⊢
  obtain ⟨hI, hm1, hm2, hI2⟩ := hI
  by_cases hi : (i : Int) < (l.length : Int)
  · have hi' : i < l.length := by omega
    have hp : i - 1 < l.length := by omega
    rw [fkGo_at hi'] at hI2
    have hS : Box ((sv = true ↔ what = 6) ∧ (what = 3 ∨ what = 6)) := ⟨hs2, by omega⟩
    clear hs2 hf
    have HI := Box.mk hI2
    clear hI2
    have hkk := hk l[i]
    by_cases h3 : what = 3
    · have hsf : sv = false := by
        cases hq : sv with
        | false => rfl
        | true => have := hS.out.1.1 hq; omega
      subst hsf
      by_cases he : (0 : Int) < i ∧ l[i] = l[i - 1]
      · obtain ⟨he1, he2⟩ := he
        repeat' (first | (with_reducible first | refine DS.fltS yU yU yE ?_ | refine DS.opsNil ?_ | refine DS.seq ?_ | refine DS.regionL ?_) | fail)
        refine DS.bnd (t := 10) yG (.inl rfl) (fun hb10 => ?_); simp only [List.length_map] at hb10
        repeat' (first | (with_reducible first | refine DS.fltS yU yU yE ?_ | refine DS.opsNil ?_ | refine DS.seq ?_ | refine DS.regionL ?_ | (refine DS.cE yE ?_; first | refine CG.np (fun _ => ?_) (fun _ => ?_) | refine CG.yes ?_) | (refine DS.gE yU yE ?_; first | refine GG.sU ?_ | refine GG.pF (fun _ => ?_) (fun _ => ?_) | refine GG.run ?_ | refine GG.sT ?_) | refine DS.block ?_ | refine DS.skip ?_) | refine DS.pcS inferInstance (hkk) yR yT ?_ | refine DS.retT [] yE trivial ?_ | fail)
        all_goals first
          | (exfalso; omega)
          | ((try rw [prevL_zero (by assumption)] at HI); (try rw [prevL_pos (by assumption) hp] at HI); simp only [anyO_none, anyO_some, Bool.not_true, Bool.not_false, Bool.false_and, Bool.true_and, Bool.or_false, Bool.or_eq_true, decide_eq_true_eq, true_and, false_and, Bool.false_eq_true, if_false] at HI
             first
              | (rw [HI.out]; (repeat' split) <;> first | rfl | (exfalso; omega))
              | exact DS.back (HB.out (i + 1, m + 1) _ _ (by dsimp only; omega) ⟨by dsimp only; omega, by dsimp only; omega, by dsimp only; omega, by rw [HI.out, prevL_succ hi']; (repeat' split) <;> first | rfl | (exfalso; omega)⟩ yS yS (fun b o e => by cases e)))
      · repeat' (first | (with_reducible first | refine DS.fltS yU yU yE ?_ | refine DS.opsNil ?_ | refine DS.seq ?_ | refine DS.regionL ?_) | fail)
        refine DS.bnd (t := 10) yG (.inl rfl) (fun hb10 => ?_); simp only [List.length_map] at hb10
        repeat' (first | (with_reducible first | refine DS.fltS yU yU yE ?_ | refine DS.opsNil ?_ | refine DS.seq ?_ | refine DS.regionL ?_ | (refine DS.cE yE ?_; first | refine CG.np (fun _ => ?_) (fun _ => ?_) | refine CG.p (fun _ => ?_) (fun _ => ?_) | refine CG.yes ?_ | refine CG.no ?_) | (refine DS.gE yU yE ?_; first | refine GG.sU ?_ | refine GG.pT (fun _ => ?_) (fun _ => ?_) | refine GG.pF (fun _ => ?_) (fun _ => ?_) | refine GG.run ?_ | refine GG.sF ?_ | refine GG.sT ?_) | refine DS.blk ?_ | refine DS.block ?_ | refine DS.skip ?_) | refine DS.pcS inferInstance (hkk) yR yT ?_ | refine DS.retT [] yE trivial ?_ | fail)
        all_goals first
          | (exfalso; omega)
          | ((try rw [prevL_zero (by assumption)] at HI); (try rw [prevL_pos (by assumption) hp] at HI); simp only [anyO_none, anyO_some, Bool.not_true, Bool.not_false, Bool.false_and, Bool.true_and, Bool.or_false, Bool.or_eq_true, decide_eq_true_eq, true_and, false_and, Bool.false_eq_true, if_false] at HI
             first
              | (rw [HI.out]; (repeat' split) <;> first | rfl | (exfalso; omega))
              | exact DS.back (HB.out (i + 1, 1) _ _ (by dsimp only; omega) ⟨by dsimp only; omega, by dsimp only; omega, by dsimp only; omega, by rw [HI.out, prevL_succ hi']; (repeat' split) <;> first | rfl | (exfalso; omega)⟩ yS yS (fun b o e => by cases e)))
    · have h6 : what = 6 := by have := hS.out.2; omega
      have hst : sv = true := hS.out.1.2 h6
      subst hst
      by_cases he : (0 : Int) < i ∧ l[i] = l[i - 1]
      · obtain ⟨he1, he2⟩ := he
        repeat' (first | (with_reducible first | refine DS.fltS yU yU yE ?_ | refine DS.opsNil ?_ | refine DS.seq ?_ | refine DS.regionL ?_) | fail)
        refine DS.bnd (t := 10) yG (.inl rfl) (fun hb10 => ?_); simp only [List.length_map] at hb10
        repeat' (first | (with_reducible first | refine DS.fltS yU yU yE ?_ | refine DS.opsNil ?_ | refine DS.seq ?_ | refine DS.regionL ?_ | (refine DS.cE yE ?_; first | refine CG.np (fun _ => ?_) (fun _ => ?_) | refine CG.p (fun _ => ?_) (fun _ => ?_) | refine CG.yes ?_ | refine CG.no ?_) | (refine DS.gE yU yE ?_; first | refine GG.sU ?_ | refine GG.pF (fun _ => ?_) (fun _ => ?_) | refine GG.run ?_ | refine GG.sF ?_ | refine GG.sT ?_) | refine DS.blk ?_ | refine DS.block ?_ | refine DS.skip ?_) | refine DS.pcS inferInstance (hkk) yR yT ?_ | refine DS.retT [] yE trivial ?_ | fail)
        all_goals first
          | (exfalso; omega)
          | ((try rw [prevL_zero (by assumption)] at HI); (try rw [prevL_pos (by assumption) hp] at HI); simp only [anyO_none, anyO_some, Bool.not_true, Bool.not_false, Bool.false_and, Bool.true_and, Bool.or_false, Bool.or_eq_true, decide_eq_true_eq, true_and, false_and, Bool.false_eq_true, if_false] at HI
             first
              | (rw [HI.out]; (repeat' split) <;> first | rfl | (exfalso; omega))
              | exact DS.back (HB.out (i + 1, m + 1) _ _ (by dsimp only; omega) ⟨by dsimp only; omega, by dsimp only; omega, by dsimp only; omega, by rw [HI.out, prevL_succ hi']; (repeat' split) <;> first | rfl | (exfalso; omega)⟩ yS yS (fun b o e => by cases e)))
      · repeat' (first | (with_reducible first | refine DS.fltS yU yU yE ?_ | refine DS.opsNil ?_ | refine DS.seq ?_ | refine DS.regionL ?_) | fail)
        refine DS.bnd (t := 10) yG (.inl rfl) (fun hb10 => ?_); simp only [List.length_map] at hb10
        repeat' (first | (with_reducible first | refine DS.fltS yU yU yE ?_ | refine DS.opsNil ?_ | refine DS.seq ?_ | refine DS.regionL ?_ | (refine DS.cE yE ?_; first | refine CG.np (fun _ => ?_) (fun _ => ?_) | refine CG.p (fun _ => ?_) (fun _ => ?_) | refine CG.yes ?_ | refine CG.no ?_) | (refine DS.gE yU yE ?_; first | refine GG.sU ?_ | refine GG.pT (fun _ => ?_) (fun _ => ?_) | refine GG.pF (fun _ => ?_) (fun _ => ?_) | refine GG.run ?_ | refine GG.sF ?_ | refine GG.sT ?_) | refine DS.blk ?_ | refine DS.block ?_ | refine DS.skip ?_) | refine DS.pcS inferInstance (hkk) yR yT ?_ | refine DS.retT [] yE trivial ?_ | fail)
        all_goals first
          | (exfalso; omega)
          | ((try rw [prevL_zero (by assumption)] at HI); (try rw [prevL_pos (by assumption) hp] at HI); simp only [anyO_none, anyO_some, Bool.not_true, Bool.not_false, Bool.false_and, Bool.true_and, Bool.or_false, Bool.or_eq_true, decide_eq_true_eq, true_and, false_and, Bool.false_eq_true, if_false] at HI
             first
              | (rw [HI.out]; (repeat' split) <;> first | rfl | (exfalso; omega))
              | exact DS.back (HB.out (i + 1, 1) _ _ (by dsimp only; omega) ⟨by dsimp only; omega, by dsimp only; omega, by dsimp only; omega, by rw [HI.out, prevL_succ hi']; (repeat' split) <;> first | rfl | (exfalso; omega)⟩ yS yS (fun b o e => by cases e)))
  · repeat' (first | (with_reducible first | refine DS.fltS yU yU yE ?_ | refine DS.opsNil ?_ | refine DS.seq ?_ | refine DS.regionL ?_ | (refine DS.cE yE ?_; refine CG.no ?_) | refine DS.exit yU ?_) | refine DS.retT [] yE trivial ?_ | fail)
    rw [hI2, drop_end hi]; rfl
end Go.XL
namespace Go.XL
open Go.Proofs
set_option maxRecDepth 100000
set_option maxHeartbeats 8000000
theorem r2form_pc (s:GSet) (f:Form):PC Tryz.prog 112 [s.val,f.val] (I (formS s f)):=by
 have hc:=r1check_pc s
 by_cases h0:gsetS s=0
 ·have ok:=gset_ok h0
  have hm:=ok.melds
  clear ok
  have hk:=r2kinds_pc s f h0
  have hn:=r2nines_pc s
  rw[h0]at hc
  obtain⟨b,hb⟩: ∃b,b=decide (s.suits= [9,9,9]):=⟨_,rfl⟩
  rw[←hb]at hn
  have HB:=Box.mk hb
  clear hb
  by_cases hw:1≤f.what∧f.what≤6
  ·by_cases hwr:f.wrong s=true
   ·rw[formS,if_neg (by omega),if_neg (by omega),if_pos hwr]
    have HW:Box (f.wrong s=true):=⟨hwr⟩
    clear hwr hk h0
    refine DC.of_run Tryz.func112 rfl Tryz.ntmps112 Tryz.results112 (by simp) (fun _ _=>?_);simp only[argV_cons,argV_nil,go_sem,Nat.zero_add,Nat.reduceAdd]
    repeat' (first|(with_reducible first|refine DS.fltS yU yU yE ?_|refine DS.opsNil ?_|refine DS.seq ?_|refine DS.regionL ?_|(refine DS.cE yE ?_;first|refine CG.np (fun _=>?_) (fun _=>?_)|refine CG.p (fun _=>?_) (fun _=>?_)|refine CG.yes ?_|refine CG.no ?_)|(refine DS.gE yU yE ?_;first|refine GG.sU ?_|refine GG.npF (fun _=>?_) (fun _=>?_)|refine GG.pT (fun _=>?_) (fun _=>?_)|refine GG.pF (fun _=>?_) (fun _=>?_)|refine GG.run ?_|refine GG.sF ?_|refine GG.sT ?_|refine GG.nF (fun _=>?_) (fun _=>?_)|refine GG.bT (fun _=>?_) (fun _=>?_))|refine DS.blk ?_|refine DS.block ?_|refine DS.skip ?_)|refine DS.pcS inferInstance (hc) yR yT ?_|refine DS.pcS inferInstance (hn) yR yT ?_|(refine DS.boxF (t:=2) yU yE yU ?_;simp only[cells_agg,cells_v,cells_lst,cells_fn,map_nil'',map_cons'',copy_own,copy_lst,copy_v,copy_at,copy_agg,copy_fn,copy_ifc,copy_tup])|(refine DS.boxF (t:=3) yU yE yU ?_;simp only[cells_agg,cells_v,cells_lst,cells_fn,map_nil'',map_cons'',copy_own,copy_lst,copy_v,copy_at,copy_agg,copy_fn,copy_ifc,copy_tup])|refine DS.retT [] yE trivial ?_|fail)
    all_goals first|rfl|(exfalso;have hb:=HB.out;have hwr:=HW.out;clear HB HW hc hn;grind [Form.wrong])
   ·have e:formS s f=fkGo s.plain s.copies (decide (f.what=6)) f.kinds none 0:=by rw[formS,if_neg (by omega),if_neg (by omega),if_neg hwr]
    have hk:=hk (by
     simp only[Form.wrong,Bool.or_eq_true,Bool.and_eq_true,decide_eq_true_eq,not_or,not_and,Bool.not_eq_true,Bool.not_eq_eq_eq_not,Bool.not_true,Bool.or_eq_false_iff,decide_eq_false_iff_not]at hwr
     omega)
    rw[e]
    clear e
    have HW:Box (¬f.wrong s=true):=⟨hwr⟩
    clear hwr h0
    obtain⟨what,kinds,again⟩:=f
    dsimp only at hw hk HW ⊢
    have hcase:what=1∨what=2∨what=3∨what=4∨what=5∨what=6:=by omega
    clear hw
    rcases hcase with rfl|rfl|rfl|rfl|rfl|rfl <;> cases again
    all_goals
     generalize fkGo s.plain s.copies _ kinds none 0=F at *
     refine DC.of_run Tryz.func112 rfl Tryz.ntmps112 Tryz.results112 (by simp) (fun _ _=>?_);simp only[argV_cons,argV_nil,go_sem,Nat.zero_add,Nat.reduceAdd]
     repeat' (first|(with_reducible first|refine DS.fltS yU yU yE ?_|refine DS.opsNil ?_|refine DS.seq ?_|refine DS.regionL ?_|(refine DS.cE yE ?_;first|refine CG.np (fun _=>?_) (fun _=>?_)|refine CG.p (fun _=>?_) (fun _=>?_)|refine CG.yes ?_|refine CG.no ?_)|(refine DS.gE yU yE ?_;first|refine GG.sU ?_|refine GG.pT (fun _=>?_) (fun _=>?_)|refine GG.run ?_|refine GG.sF ?_|refine GG.sT ?_|refine GG.nF (fun _=>?_) (fun _=>?_))|refine DS.blk ?_|refine DS.block ?_|refine DS.skip ?_)|refine DS.pcS inferInstance (hc) yR yT ?_|refine DS.pcS inferInstance (hn) yR yT ?_|refine DS.pcS inferInstance (hk) yR yT ?_|(refine DS.boxF (t:=2) yU yE yU ?_;simp only[cells_agg,cells_v,cells_lst,cells_fn,map_nil'',map_cons'',copy_own,copy_lst,copy_v,copy_at,copy_agg,copy_fn,copy_ifc,copy_tup])|(refine DS.boxF (t:=3) yU yE yU ?_;simp only[cells_agg,cells_v,cells_lst,cells_fn,map_nil'',map_cons'',copy_own,copy_lst,copy_v,copy_at,copy_agg,copy_fn,copy_ifc,copy_tup])|refine DS.retT [] yE trivial ?_|fail)
     all_goals first|rfl|(exfalso;have hb:=HB.out;have hwr:=HW.out;clear HB HW hc hn hk;grind [Form.wrong])
  ·rw[formS,if_neg (by omega),if_pos hw]
   refine DC.of_run Tryz.func112 rfl Tryz.ntmps112 Tryz.results112 (by simp) (fun _ _=>?_);simp only[argV_cons,argV_nil,go_sem,Nat.zero_add,Nat.reduceAdd]
   repeat' (first|(with_reducible first|refine DS.fltS yU yU yE ?_|refine DS.opsNil ?_|refine DS.seq ?_|refine DS.regionL ?_|(refine DS.cE yE ?_;first|refine CG.np (fun _=>?_) (fun _=>?_)|refine CG.p (fun _=>?_) (fun _=>?_)|refine CG.yes ?_|refine CG.no ?_)|(refine DS.gE yU yE ?_;first|refine GG.sU ?_|refine GG.npF (fun _=>?_) (fun _=>?_)|refine GG.pT (fun _=>?_) (fun _=>?_)|refine GG.pF (fun _=>?_) (fun _=>?_)|refine GG.run ?_|refine GG.sF ?_|refine GG.sT ?_|refine GG.bT (fun _=>?_) (fun _=>?_))|refine DS.blk ?_|refine DS.block ?_|refine DS.skip ?_)|refine DS.pcS inferInstance (hc) yR yT ?_|(refine DS.boxF (t:=2) yU yE yU ?_;simp only[cells_agg,cells_v,cells_lst,cells_fn,map_nil'',map_cons'',copy_own,copy_lst,copy_v,copy_at,copy_agg,copy_fn,copy_ifc,copy_tup])|(refine DS.boxF (t:=3) yU yE yU ?_;simp only[cells_agg,cells_v,cells_lst,cells_fn,map_nil'',map_cons'',copy_own,copy_lst,copy_v,copy_at,copy_agg,copy_fn,copy_ifc,copy_tup])|refine DS.retT [] yE trivial ?_|fail)
   all_goals first|rfl|(exfalso;omega)
 ·rw[formS,if_pos h0]
  refine DC.of_run Tryz.func112 rfl Tryz.ntmps112 Tryz.results112 (by simp) (fun _ _=>?_);simp only[argV_cons,argV_nil,go_sem,Nat.zero_add,Nat.reduceAdd]
  repeat' (first|(with_reducible first|refine DS.fltS yU yU yE ?_|refine DS.opsNil ?_|refine DS.seq ?_|refine DS.regionL ?_|(refine DS.cE yE ?_;refine CG.yes ?_))|refine DS.pcS inferInstance (hc) yR yT ?_|(refine DS.boxF (t:=2) yU yE yU ?_;simp only[cells_agg,cells_v,cells_lst,cells_fn,map_nil'',map_cons'',copy_own,copy_lst,copy_v,copy_at,copy_agg,copy_fn,copy_ifc,copy_tup])|(refine DS.boxF (t:=3) yU yE yU ?_;simp only[cells_agg,cells_v,cells_lst,cells_fn,map_nil'',map_cons'',copy_own,copy_lst,copy_v,copy_at,copy_agg,copy_fn,copy_ifc,copy_tup])|refine DS.retT [] yE trivial ?_|fail)
  all_goals first|rfl|(exfalso;omega)
theorem r2forms_pc (s:GSet) (l:List Form):PC Tryz.prog 75 [s.val,formsV l] (I (formsS s l)):=by
 have hc:=r1check_pc s
 refine DC.of_run Tryz.func75 rfl Tryz.ntmps75 Tryz.results75 (by simp) (fun _ _=>?_);simp only[argV_cons,argV_nil,go_sem,Nat.zero_add,Nat.reduceAdd]
 refine DS.bnd (t:=1) yG (.inl rfl) (fun hb1=>?_);simp only[List.length_map]at hb1
 by_cases h0:gsetS s=0
 ·rw[h0]at hc
  repeat' (first|(with_reducible first|refine DS.fltS yU yU yE ?_|refine DS.opsNil ?_|refine DS.seq ?_|refine DS.regionL ?_|(refine DS.cE yE ?_;first|refine CG.p (fun _=>?_) (fun _=>?_)|refine CG.no ?_)|refine DS.block ?_|refine DS.skip ?_)|refine DS.pcS inferInstance (hc) yR yT ?_|(refine DS.boxF (t:=2) yU yE yU ?_;simp only[cells_agg,cells_v,cells_lst,cells_fn,map_nil'',map_cons'',copy_own,copy_lst,copy_v,copy_at,copy_agg,copy_fn,copy_ifc,copy_tup])|refine DS.retT [] yE trivial ?_|fail)
  all_goals try first|(rw[formsS,if_neg (by omega),if_pos (by omega)];rfl)|(rw[formsS,if_neg (by omega),if_neg (by omega),if_pos (by omega)];rfl)
  refine DS.loopK [1,2] yN (fun(i:Nat)=> [(6,I i)]) (fun(i:Nat)=>i≤l.length∧formsS s l=formsGo s (l.drop i)) (fun(i:Nat)=>l.length-i) 0 yS ⟨Nat.zero_le _,by rw[formsS,if_neg (by omega),if_neg (by omega),if_neg (by omega)];rfl⟩ (fun i B hI hB=>?_);try dsimp only at hI hB;simp only[app_cons',app_nil']
  have HB:=Box.mk hB
  clear hB
  obtain⟨hI,hI2⟩:=hI
  by_cases hi:(i:Int)<(l.length:Int)
  ·have hi':i<l.length:=by omega
   rw[formsGo_at hi']at hI2
   have HI:=Box.mk hI2
   clear hI2
   have hf:=r2form_pc s l[i]
   by_cases he:formS s l[i]=0
   ·rw[he]at hf
    repeat' (first|(with_reducible first|refine DS.fltS yU yU yE ?_|refine DS.opsNil ?_|refine DS.seq ?_|refine DS.regionL ?_|(refine DS.cE yE ?_;first|refine CG.yes ?_|refine CG.no ?_)|refine DS.blk ?_|refine DS.block ?_|refine DS.skip ?_)|refine DS.pcS inferInstance (hf) yR yT ?_|refine DS.drawL (id:=11) [0,1,2,3,4] 5 (by kernel_rfl) mixed (by simp only[pickL_cons,pickL_nil,get_zero',get_cons',pickO_some];exact rfl) (by simp only[drop_zero',drop_cons',List.drop_nil];exact rfl) ?_|(with_reducible first|refine DD.fltS yU yU yU yE ?_|refine DD.nil0 ?_)|fail)
    exact DS.back (HB.out (i+1) _ _ (by omega) ⟨by omega,by rw[HI.out,if_neg (by omega)]⟩ yS yS (fun b o e=>by cases e))
   ·repeat' (first|(with_reducible first|refine DS.fltS yU yU yE ?_|refine DS.opsNil ?_|refine DS.seq ?_|refine DS.regionL ?_|(refine DS.cE yE ?_;refine CG.yes ?_)|refine DS.block ?_|refine DS.skip ?_)|refine DS.pcS inferInstance (hf) yR yT ?_|refine DS.drawL (id:=11) [0,1,2,3,4] 5 (by kernel_rfl) mixed (by simp only[pickL_cons,pickL_nil,get_zero',get_cons',pickO_some];exact rfl) (by simp only[drop_zero',drop_cons',List.drop_nil];exact rfl) ?_|(with_reducible first|refine DD.fltS yU yU yU yE ?_|refine DD.nil0 ?_)|refine DS.retT [] yE trivial ?_|fail)
    all_goals first|(rw[HI.out,if_pos he];rfl)|(exfalso;omega)
  ·repeat' (first|(with_reducible first|refine DS.fltS yU yU yE ?_|refine DS.opsNil ?_|refine DS.seq ?_|refine DS.regionL ?_|(refine DS.cE yE ?_;refine CG.no ?_)|refine DS.exit yU ?_)|refine DS.retT [] yE trivial ?_|fail)
   rw[hI2,drop_end hi];rfl
 ·repeat' (first|(with_reducible first|refine DS.fltS yU yU yE ?_|refine DS.opsNil ?_|refine DS.seq ?_|refine DS.regionL ?_|(refine DS.cE yE ?_;refine CG.yes ?_))|refine DS.pcS inferInstance (hc) yR yT ?_|(refine DS.boxF (t:=2) yU yE yU ?_;simp only[cells_agg,cells_v,cells_lst,cells_fn,map_nil'',map_cons'',copy_own,copy_lst,copy_v,copy_at,copy_agg,copy_fn,copy_ifc,copy_tup])|refine DS.retT [] yE trivial ?_|fail)
  all_goals first|(rw[formsS,if_pos h0];rfl)|(exfalso;omega)
end Go.XL
namespace Go.XL
open Go.Proofs
set_option maxRecDepth 100000
set_option maxHeartbeats 8000000
theorem any_take_at {α:Type} {p:α→Bool} {l:List α} {k:Nat} (h:k<l.length):(l.take (k+1)).any p=((l.take k).any p || p l[k]):=by
 rw[List.take_succ_eq_append_getElem h,List.any_append];simp
theorem r4pattern_pc (h:House) (hl:h.patterns.length≤1000000) {i:Nat} (hi:i<h.patterns.length) (hsz: ∀p∈h.patterns,p.name.size≤9223372036854775807):PC Tryz.prog 76 [h.val,I i] (I (patS h i)):=by
 have e:h.pat i=h.patterns[i]:=by rw[House.pat,List.getD_eq_getElem?_getD,List.getElem?_eq_getElem hi];rfl
 have hn:=r4named_pc h.patterns[i].name (hsz _ (List.getElem_mem hi))
 have hc:=r4cond_pc h.set h.patterns[i].cond
 have ho1:=r4other_pc h.patterns[i].excl i h.patterns.length ⟨by omega,by omega⟩
 have ho2:=r4other_pc h.patterns[i].impl i h.patterns.length ⟨by omega,by omega⟩
 rw[patS,e]
 clear e
 have hil:(i:Int)<(h.patterns.length:Int):=by omega
 generalize condX h.set h.patterns[i].cond=C at hc ⊢
 obtain⟨c1,c2⟩:=C
 dsimp only at hc ⊢
 generalize othersS h.patterns[i].excl i h.patterns.length=O1 at ho1 ⊢
 generalize othersS h.patterns[i].impl i h.patterns.length=O2 at ho2 ⊢
 generalize hN:namedB h.patterns[i].name=N at hn ⊢
 clear hN
 cases N with
 | false =>
  rw[if_pos rfl]
  refine DC.of_run Tryz.func76 rfl Tryz.ntmps76 Tryz.results76 (by simp) (fun _ _=>?_);simp only[argV_cons,argV_nil,go_sem,Nat.zero_add,Nat.reduceAdd]
  repeat' (first|(with_reducible first|refine DS.fltS yU yU yE ?_|refine DS.opsNil ?_|refine DS.seq ?_|refine DS.regionL ?_|(refine DS.cE yE ?_;refine CG.yes ?_))|(refine DS.letF (t:=5) yU yE yU (fun _=>yE) yE yU (by exact⟨by with_unfolding_all rfl,by with_unfolding_all decide⟩) (fun _=>by simp only[go_sem,Nat.reduceEqDiff,↓reduceIte]) ?_;simp only[go_sem])|refine DS.pcS inferInstance (hn) yR yF ?_|(refine DS.boxF (t:=2) yU yE yU ?_;simp only[cells_agg,cells_v,cells_lst,cells_fn,map_nil'',map_cons'',copy_own,copy_lst,copy_v,copy_at,copy_agg,copy_fn,copy_ifc,copy_tup])|refine DS.retT [] yE trivial ?_|fail)
  all_goals first|rfl|(exfalso;omega)
 | true =>
  rw[if_neg (by decide)]
  refine DC.of_run Tryz.func76 rfl Tryz.ntmps76 Tryz.results76 (by simp) (fun _ _=>?_);simp only[argV_cons,argV_nil,go_sem,Nat.zero_add,Nat.reduceAdd]
  repeat' (first|(with_reducible first|refine DS.fltS yU yU yE ?_|refine DS.opsNil ?_|refine DS.seq ?_|refine DS.regionL ?_|(refine DS.cE yE ?_;refine CG.no ?_)|refine DS.block ?_|refine DS.skip ?_)|(refine DS.letF (t:=5) yU yE yU (fun _=>yE) yE yU (by exact⟨by with_unfolding_all rfl,by with_unfolding_all decide⟩) (fun _=>by simp only[go_sem,Nat.reduceEqDiff,↓reduceIte]) ?_;simp only[go_sem])|refine DS.pcS inferInstance (hn) yR yF ?_|(refine DS.boxF (t:=2) yU yE yU ?_;simp only[cells_agg,cells_v,cells_lst,cells_fn,map_nil'',map_cons'',copy_own,copy_lst,copy_v,copy_at,copy_agg,copy_fn,copy_ifc,copy_tup])|fail)
  refine DS.loopK [1,2,5] yN (fun(k:Nat)=> [(6,I k)]) (fun(k:Nat)=>k≤i∧((h.patterns.take k).any fun q=>decide (q.name=h.patterns[i].name))=false) (fun(k:Nat)=>i-k) 0 yS ⟨Nat.zero_le _,rfl⟩ (fun k B hI hB=>?_);try dsimp only at hI hB;simp only[app_cons',app_nil']
  have HB:=Box.mk hB
  clear hB
  obtain⟨k1,k2⟩:=hI
  by_cases hk:(k:Int)<(i:Int)
  ·have hkl:k<h.patterns.length:=by omega
   have hat:=any_take_at (p:=fun q:Pattern=>decide (q.name=h.patterns[i].name)) hkl
   rw[k2,Bool.false_or]at hat
   by_cases he:h.patterns[k].name=h.patterns[i].name
   ·have e:((h.patterns.take i).any fun q=>decide (q.name=h.patterns[i].name))=true :=
     List.any_eq_true.2 ⟨h.patterns[k],List.mem_take_iff_getElem.2 ⟨k,by omega,rfl⟩,by simp[he]⟩
    rw[if_pos e]
    have he1:=eq_true he
    clear e he hat k2 hc ho1 ho2 hn
    repeat' (first|(with_reducible first|refine DS.fltS yU yU yE ?_|refine DS.opsNil ?_|refine DS.seq ?_|refine DS.regionL ?_|(refine DS.cE yE ?_;refine CG.yes ?_)|refine DS.block ?_|refine DS.skip ?_)|refine DS.drawL (id:=7) [0,1,2,3,4,5,6,7] 8 (by kernel_rfl) mixed (by simp only[pickL_cons,pickL_nil,get_zero',get_cons',pickO_some];exact rfl) (by simp only[drop_zero',drop_cons',List.drop_nil];exact rfl) ?_|(with_reducible first|refine DD.fltS yU yU yU yE ?_|refine DD.nil0 ?_)|refine DS.retT [] yE trivial ?_|fail)
    all_goals first|rfl|(exfalso;omega)
   ·rw[decide_eq_false he]at hat
    have he1:=eq_false he
    have HA:=Box.mk hat
    clear he hat k2 hc ho1 ho2 hn
    repeat' (first|(with_reducible first|refine DS.fltS yU yU yE ?_|refine DS.opsNil ?_|refine DS.seq ?_|refine DS.regionL ?_|(refine DS.cE yE ?_;first|refine CG.yes ?_|refine CG.no ?_)|refine DS.blk ?_|refine DS.block ?_|refine DS.skip ?_)|refine DS.drawL (id:=7) [0,1,2,3,4,5,6,7] 8 (by kernel_rfl) mixed (by simp only[pickL_cons,pickL_nil,get_zero',get_cons',pickO_some];exact rfl) (by simp only[drop_zero',drop_cons',List.drop_nil];exact rfl) ?_|(with_reducible first|refine DD.fltS yU yU yU yE ?_|refine DD.nil0 ?_)|fail)
    all_goals first
     | exact DS.back (HB.out (k+1) _ _ (by omega) ⟨by omega,HA.out⟩ yS yS (fun b o e=>by cases e))
     | (exfalso;omega)
  ·have hki:k=i:=by omega
   subst hki
   rw[if_neg (by rw[k2];decide)]
   clear k2 HB hn
   repeat' (first|(with_reducible first|refine DS.fltS yU yU yE ?_|refine DS.opsNil ?_|refine DS.seq ?_|refine DS.regionL ?_|(refine DS.cE yE ?_;first|refine CG.np (fun _=>?_) (fun _=>?_)|refine CG.yes ?_|refine CG.no ?_)|(refine DS.gE yU yE ?_;first|refine GG.npF (fun _=>?_) (fun _=>?_)|refine GG.run ?_|refine GG.sT ?_)|refine DS.exit yU ?_|refine DS.skip ?_)|refine DS.pcS inferInstance (betweenR_pc _ _ _) yR yF ?_|refine DS.pcS inferInstance (hc) yR yF ?_|refine DS.pcS inferInstance (ho1) yR yF ?_|refine DS.pcS inferInstance (ho2) yR yF ?_|refine DS.retT [] yE trivial ?_|fail)
   all_goals (clear hc ho1 ho2;simp only[tupV];(repeat' split) <;> first|rfl|(exfalso;omega)|(exfalso;grind))
theorem r4rules_pc (h:House):PC Tryz.prog 77 [h.val] (I (rulesH h)):=by
 have hm:=r4cond_pc h.set h.minor
 have h1:=checkScaleR_pc h.scale
 have h2:=r4pay_pc h.set h.pay
 have h3:=r4play_pc h.set h.play
 rw[rulesH]
 generalize condX h.set h.minor=C at hm ⊢
 obtain⟨m1,m2⟩:=C
 dsimp only at hm ⊢
 generalize scaleS h.scale=X1 at h1 ⊢
 generalize payS h.set h.pay=X2 at h2 ⊢
 generalize playS h.set h.play=X3 at h3 ⊢
 refine DC.of_run Tryz.func77 rfl Tryz.ntmps77 Tryz.results77 (by simp) (fun _ _=>?_);simp only[argV_cons,argV_nil,go_sem,Nat.zero_add,Nat.reduceAdd]
 repeat' (first|(with_reducible first|refine DS.fltS yU yU yE ?_|refine DS.opsNil ?_|refine DS.seq ?_|refine DS.regionL ?_|(refine DS.cE yE ?_;first|refine CG.np (fun _=>?_) (fun _=>?_)|refine CG.p (fun _=>?_) (fun _=>?_)|refine CG.no ?_)|(refine DS.gE yU yE ?_;first|refine GG.run ?_|refine GG.sF ?_|refine GG.nT (fun _=>?_) (fun _=>?_))|refine DS.skip ?_)|refine DS.pcS inferInstance (hm) yR yF ?_|refine DS.pcS inferInstance (h1) yR yF ?_|refine DS.pcS inferInstance (h2) yR yF ?_|refine DS.pcS inferInstance (h3) yR yF ?_|refine DS.pcS inferInstance (betweenR_pc _ _ _) yR yF ?_|(refine DS.boxF (t:=1) yU yE yU ?_;simp only[cells_agg,cells_v,cells_lst,cells_fn,map_nil'',map_cons'',copy_own,copy_lst,copy_v,copy_at,copy_agg,copy_fn,copy_ifc,copy_tup])|refine DS.retT [] yE trivial ?_|fail)
 all_goals (clear hm h1 h2 h3;simp only[tupV];(repeat' split) <;> first|rfl|(exfalso;omega)|(exfalso;grind))
theorem r4house_pc (h:House) (hl:h.patterns.length≤1000000) (hsz: ∀p∈h.patterns,p.name.size≤9223372036854775807):PC Tryz.prog 38 [h.val] (I (houseS h)):=by
 have h2:=r2forms_pc h.set h.forms
 have hr:=r4rules_pc h
 rw[houseS]
 generalize formsS h.set h.forms=F at h2 ⊢
 generalize rulesH h=R at hr ⊢
 by_cases hf:F=0
 ·rw[if_neg (by omega)]
  subst hf
  refine DC.of_run Tryz.func38 rfl Tryz.ntmps38 Tryz.results38 (by simp) (fun _ _=>?_);simp only[argV_cons,argV_nil,go_sem,Nat.zero_add,Nat.reduceAdd]
  repeat' (first|(with_reducible first|refine DS.fltS yU yU yE ?_|refine DS.opsNil ?_|refine DS.seq ?_|refine DS.regionL ?_|(refine DS.cE yE ?_;first|refine CG.p (fun _=>?_) (fun _=>?_)|refine CG.no ?_)|refine DS.block ?_|refine DS.skip ?_)|refine DS.pcS inferInstance (h2) yR yT ?_|(refine DS.boxF (t:=1) yU yE yU ?_;simp only[cells_agg,cells_v,cells_lst,cells_fn,map_nil'',map_cons'',copy_own,copy_lst,copy_v,copy_at,copy_agg,copy_fn,copy_ifc,copy_tup])|refine DS.retT [] yE trivial ?_|fail)
  all_goals try (exfalso;omega)
  ·rw[if_pos (by omega)];rfl
  rw[if_neg (by omega)]
  refine DS.loopK [1] yN (fun(i:Nat)=> [(4,I i)]) (fun(i:Nat)=>i≤h.patterns.length∧patsGo h 0 h.patterns.length=patsGo h i (h.patterns.length-i)) (fun(i:Nat)=>h.patterns.length-i) 0 yS ⟨Nat.zero_le _,rfl⟩ (fun i B hI hB=>?_);try dsimp only at hI hB;simp only[app_cons',app_nil']
  have HB:=Box.mk hB
  clear hB
  obtain⟨hI,hI2⟩:=hI
  by_cases hi:(i:Int)<(h.patterns.length:Int)
  ·have hi':i<h.patterns.length:=by omega
   obtain⟨m,hmm⟩: ∃m,h.patterns.length-i=m+1:=⟨h.patterns.length-i-1,by omega⟩
   rw[hmm,patsGo_at]at hI2
   have hmm2:h.patterns.length-(i+1)=m:=by omega
   have HI:=Box.mk hI2
   clear hI2
   have hp:=r4pattern_pc h (by omega) hi' hsz
   have HM:=Box.mk hmm
   have HM2:=Box.mk hmm2
   clear hmm hmm2 hr
   by_cases he:patS h i=0
   ·rw[he]at hp
    repeat' (first|(with_reducible first|refine DS.fltS yU yU yE ?_|refine DS.opsNil ?_|refine DS.seq ?_|refine DS.regionL ?_|(refine DS.cE yE ?_;first|refine CG.yes ?_|refine CG.no ?_)|refine DS.blk ?_|refine DS.block ?_|refine DS.skip ?_)|refine DS.pcS inferInstance (hp) yR yT ?_|fail)
    all_goals first
     | exact DS.back (HB.out (i+1) _ _ (by omega) ⟨by omega,by rw[HI.out,HM2.out,if_neg (by omega)]⟩ yS yS (fun b o e=>by cases e))
     | (exfalso;omega)
   ·repeat' (first|(with_reducible first|refine DS.fltS yU yU yE ?_|refine DS.opsNil ?_|refine DS.seq ?_|refine DS.regionL ?_|(refine DS.cE yE ?_;refine CG.yes ?_)|refine DS.block ?_|refine DS.skip ?_)|refine DS.pcS inferInstance (hp) yR yT ?_|refine DS.retT [] yE trivial ?_|fail)
    all_goals first|(rw[HI.out,if_pos he,if_pos he];rfl)|(exfalso;omega)
  ·have e:patsGo h 0 h.patterns.length=0:=by rw[hI2,show h.patterns.length-i=0 by omega];rfl
   rw[e,if_neg (by decide)]
   clear e hI2 HB
   repeat' (first|(with_reducible first|refine DS.fltS yU yU yE ?_|refine DS.opsNil ?_|refine DS.seq ?_|refine DS.regionL ?_|(refine DS.cE yE ?_;refine CG.no ?_)|refine DS.exit yU ?_)|refine DS.pcS inferInstance (hr) yR yT ?_|refine DS.retT [] yE trivial ?_|fail)
   rfl
 ·rw[if_pos hf]
  refine DC.of_run Tryz.func38 rfl Tryz.ntmps38 Tryz.results38 (by simp) (fun _ _=>?_);simp only[argV_cons,argV_nil,go_sem,Nat.zero_add,Nat.reduceAdd]
  repeat' (first|(with_reducible first|refine DS.fltS yU yU yE ?_|refine DS.opsNil ?_|refine DS.seq ?_|refine DS.regionL ?_|(refine DS.cE yE ?_;refine CG.yes ?_))|refine DS.pcS inferInstance (h2) yR yT ?_|(refine DS.boxF (t:=1) yU yE yU ?_;simp only[cells_agg,cells_v,cells_lst,cells_fn,map_nil'',map_cons'',copy_own,copy_lst,copy_v,copy_at,copy_agg,copy_fn,copy_ifc,copy_tup])|refine DS.retT [] yE trivial ?_|fail)
  all_goals first|rfl|(exfalso;omega)
end Go.XL
namespace Go.XL
structure WinRow where
 who:Int
 from_:Int
 value:Int
 points:Int
 liable:Int
def WinRow.cells (x:WinRow):List V:= [I x.who,I x.from_,I x.value,I x.points,I x.liable]
@[go_sem] theorem WinRow.cells_eq (x:WinRow):x.cells= [I x.who,I x.from_,I x.value,I x.points,I x.liable]:=rfl
theorem WinRow.len (f:WinRow):f.cells.length=5:=rfl
abbrev WinRow.val (x:WinRow):V := .agg x.cells
abbrev rowsV (l:List WinRow):V := .lst (l.map WinRow.cells)
def addN (L M:List Int):Nat→List Int
 | 0=>L
 | k+1=>(addN L M k).set k ((addN L M k).getD k 0+M.getD k 0)
theorem addN_len (L M:List Int): ∀k,(addN L M k).length=L.length
 | 0=>rfl
 | k+1=>by rw[addN,List.length_set,addN_len L M k]
def LB (B:Int) (L:List Int):Prop:= ∀x∈L,-B≤x∧x≤B
theorem LB.at {B:Int} {L:List Int} (h:LB B L) (hB:0≤B) (i:Nat) : -B≤L.getD i 0∧L.getD i 0≤B:=by
 rw[List.getD_eq_getElem?_getD]
 cases e:L[i]? with
 | none=>simp only[Option.getD_none];omega
 | some v=>exact h v (List.mem_of_getElem? e)
theorem LB.set {B:Int} {L:List Int} (h:LB B L) {i:Nat} {v:Int} (hv : -B≤v∧v≤B):LB B (L.set i v):=fun x hx=>by
 rcases List.mem_or_eq_of_mem_set hx with h'|h'
 ·exact h x h'
 ·rw[h'];exact hv
theorem LB.mono {B C:Int} {L:List Int} (h:LB B L) (hc:B≤C):LB C L:=fun x hx=>by have:=h x hx;omega
theorem addN_at (L M:List Int) (x:Nat): ∀k,k≤L.length→(addN L M k).getD x 0=if x<k then L.getD x 0+M.getD x 0 else L.getD x 0
 | 0,_=>by rw[addN,if_neg (by omega)]
 | k+1,hk=>by
  rw[addN,getD_set (by rw[addN_len];omega),addN_at L M x k (by omega),addN_at L M k k (by omega),if_neg (Nat.lt_irrefl k)]
  by_cases h:x=k
  ·subst h;rw[if_pos rfl,if_pos (by omega)]
  ·rw[if_neg h]
   by_cases h2:x<k
   ·rw[if_pos h2,if_pos (by omega)]
   ·rw[if_neg h2,if_neg (by omega)]
theorem addN_LB {L M:List Int} {B C:Int} (hL:LB B L) (hM:LB C M) (hB:0≤B) (hC:0≤C) {k:Nat} (hk:k≤L.length):LB (B+C) (addN L M k):=fun x hx=>by
 obtain⟨i,hi,rfl⟩:=List.mem_iff_getElem.1 hx
 have e:(addN L M k).getD i 0=(addN L M k)[i]:=by rw[List.getD_eq_getElem?_getD,List.getElem?_eq_getElem hi];rfl
 rw[←e,addN_at L M i k hk]
 have h1:=hL.at hB i
 have h2:=hM.at hC i
 split <;> omega
def settleGo (h:House) (dealer:Int):List WinRow→Int→List Int→List Int×Int
 | [],_,acc=>(acc,0)
 | r::l,counters,acc=>if(payX2 h r.points dealer r.who r.from_ counters r.liable).2≠0 then([],(payX2 h r.points dealer r.who r.from_ counters r.liable).2)else
   settleGo h dealer l 0 (addN acc (payX2 h r.points dealer r.who r.from_ counters r.liable).1 acc.length)
def chkSettle (h:House) (dealer counters sticks:Int) (rows:List WinRow):Int :=
 if h.seat dealer=false∨counters<0∨counters > 100∨sticks<0∨sticks > 4000 then 2 else if(rows.length:Int)=0 then 7 else if h.set.players≤(rows.length:Int)then 8 else 0
def settleX (h:House) (dealer counters sticks:Int) (rows:List WinRow):List Int×Int :=
 if houseS h≠0 then([],houseS h)else if chkSettle h dealer counters sticks rows≠0 then([],chkSettle h dealer counters sticks rows)else
 if(settleGo h dealer rows counters (List.replicate h.set.players.toNat 0)).2≠0 then([],(settleGo h dealer rows counters (List.replicate h.set.players.toNat 0)).2)else
 ((settleGo h dealer rows counters (List.replicate h.set.players.toNat 0)).1.set (rows.headD ⟨0,0,0,0,0⟩).who.toNat ((settleGo h dealer rows counters (List.replicate h.set.players.toNat 0)).1.getD (rows.headD ⟨0,0,0,0,0⟩).who.toNat 0+sticks*h.pay.stick),0)
end Go.XL
namespace Go.XL
open Go.Proofs
set_option maxRecDepth 100000
set_option maxHeartbeats 8000000
theorem condsP (h:House):h.CondsPC:=⟨cond_pc _ _,fun i hi=>cond_pc _ _⟩
theorem r5payment_pc (h:House) (hm:h.patterns.length≤1000000) (hn: ∀p∈h.patterns,p.name.size≤9223372036854775807) (points dealer winner from_ counters liable:Int) :
  PC Tryz.prog 25 [h.val,I points,I dealer,I winner,I from_,I counters,I liable] (.tup [ints (payX2 h points dealer winner from_ counters liable).1,I (payX2 h points dealer winner from_ counters liable).2]):=by
 have hk:=r4house_pc h hm hn
 by_cases h0:houseS h=0
 ·rw[h0]at hk
  rw[payX2_chk _ _ _ _ _ _ _ h0]
  by_cases hc:chkPay h points dealer winner from_ counters liable=0
  ·obtain⟨a1,a2,-⟩:=chkPay_ok hc
   rw[if_neg (by omega)]
   exact r5pay_main ⟨h,points,dealer,winner,from_,counters⟩ liable hk hc (payM_ok (p:=⟨h,points,dealer,winner,from_,counters⟩) h0 (by dsimp only;omega))
  ·rw[if_pos hc]
   have hq:=r5check_pc h points dealer winner from_ counters liable
   generalize chkPay h points dealer winner from_ counters liable=c at *
   clear hn hm h0
   refine DC.of_run Tryz.func25 rfl Tryz.ntmps25 Tryz.results25 (by simp) (fun _ _=>?_);simp only[argV_cons,argV_nil,go_sem,Nat.zero_add,Nat.reduceAdd]
   repeat' (first|(with_reducible first|refine DS.fltS yU yU yE ?_|refine DS.opsNil ?_|refine DS.seq ?_|refine DS.regionL ?_|(refine DS.cE yE ?_;refine CG.yes ?_))|refine DS.pcS inferInstance (hk) yR yF ?_|refine DS.pcS inferInstance (hq) yR yF ?_|(refine DS.boxF (t:=7) yU yE yU ?_;simp only[cells_agg,cells_v,cells_lst,cells_fn,map_nil'',map_cons'',copy_own,copy_lst,copy_v,copy_at,copy_agg,copy_fn,copy_ifc,copy_tup])|refine DS.retT [] yE trivial ?_|fail)
   all_goals first|rfl|(exfalso;omega)
 ·rw[payX2,if_pos h0]
  generalize houseS h=c at *
  clear hn hm
  refine DC.of_run Tryz.func25 rfl Tryz.ntmps25 Tryz.results25 (by simp) (fun _ _=>?_);simp only[argV_cons,argV_nil,go_sem,Nat.zero_add,Nat.reduceAdd]
  repeat' (first|(with_reducible first|refine DS.fltS yU yU yE ?_|refine DS.opsNil ?_|refine DS.seq ?_|refine DS.regionL ?_|(refine DS.cE yE ?_;first|refine CG.yes ?_|refine CG.no ?_)|refine DS.skip ?_)|refine DS.pcS inferInstance (hk) yR yF ?_|(refine DS.boxF (t:=7) yU yE yU ?_;simp only[cells_agg,cells_v,cells_lst,cells_fn,map_nil'',map_cons'',copy_own,copy_lst,copy_v,copy_at,copy_agg,copy_fn,copy_ifc,copy_tup])|refine DS.retT [] yE trivial ?_|fail)
  all_goals first|rfl|(exfalso;omega)
end Go.XL
namespace Go.XL
open Go.Proofs
set_option maxRecDepth 100000
set_option maxHeartbeats 8000000
theorem payX2_ok {h:House} {points dealer winner from_ counters liable:Int} (e:(payX2 h points dealer winner from_ counters liable).2=0) :
  (payX2 h points dealer winner from_ counters liable).1.length=h.set.players.toNat∧LB 16000000000 (payX2 h points dealer winner from_ counters liable).1∧0≤winner∧winner<h.set.players:=by
 by_cases h0:houseS h=0
 ·rw[payX2_chk _ _ _ _ _ _ _ h0]at e ⊢
  by_cases hc:chkPay h points dealer winner from_ counters liable=0
  ·obtain⟨a1,a2,-,a3,-⟩:=chkPay_ok hc
   rw[if_neg (by omega)]
   have ok:=payM_ok (p:=⟨h,points,dealer,winner,from_,counters⟩) h0 (by dsimp only;omega)
   obtain⟨b1,b2⟩:=outS_ok ⟨h,points,dealer,winner,from_,counters⟩ ok liable h.set.players.toNat
   have hp:=ok.players
   dsimp only at hp b1
   exact⟨b1,fun x hx=>by have:=b2 x hx;omega,a3⟩
  ·rw[if_pos hc]at e;exact absurd e hc
 ·rw[payX2,if_pos h0]at e;exact absurd e h0
theorem settleGo_at {h:House} {dealer:Int} {l:List WinRow} {i:Nat} (hi:i<l.length) (c:Int) (acc:List Int):settleGo h dealer (l.drop i) c acc=if(payX2 h l[i].points dealer l[i].who l[i].from_ c l[i].liable).2≠0 then([],(payX2 h l[i].points dealer l[i].who l[i].from_ c l[i].liable).2)else
   settleGo h dealer (l.drop (i+1)) 0 (addN acc (payX2 h l[i].points dealer l[i].who l[i].from_ c l[i].liable).1 acc.length):=by
 rw[List.drop_eq_getElem_cons hi,settleGo]
theorem settle_who {h:House} {dealer:Int} {l:List WinRow} {c:Int} {acc:List Int} (hl:0<l.length) (e:(settleGo h dealer l c acc).2=0):0≤l[0].who∧l[0].who<h.set.players:=by
 have h1:=settleGo_at (h:=h) (dealer:=dealer) hl c acc
 rw[List.drop_zero]at h1
 rw[h1]at e
 by_cases hp:(payX2 h l[0].points dealer l[0].who l[0].from_ c l[0].liable).2=0
 ·exact(payX2_ok hp).2.2
 ·rw[if_pos hp]at e;exact absurd e hp
theorem settle_pc (h : House) (dealer counters sticks : Int) (rws : List WinRow) :
    PC Tryz.prog 28 [h.val, I dealer, I counters, I sticks, rowsV rws] (.tup [ints (settleX h dealer counters sticks rws).1, I (settleX h dealer counters sticks rws).2]) := by
  have hk := house_pc h (condsP h)
  have s1 := seat_pc h dealer
  by_cases h0 : houseS h = 0
  · rw [h0] at hk
    rw [settleX, if_neg (by omega)]
    by_cases c1 : h.seat dealer = false ∨ counters < 0 ∨ counters > 100 ∨ sticks < 0 ∨ sticks > 4000
    · rw [chkSettle, if_pos c1, if_pos (by decide)]
      generalize h.seat dealer = t at *
      clear h0
      refine DC.of_run Tryz.func28 rfl Tryz.ntmps28 Tryz.results28 (by simp) (fun _ _ => ?_); simp only [argV_cons, argV_nil, go_sem, Nat.zero_add, Nat.reduceAdd]
      repeat' (first | (with_reducible first | refine DS.fltS yU yU yE ?_ | refine DS.opsNil ?_ | refine DS.seq ?_ | refine DS.regionL ?_ | (refine DS.cE yE ?_; first | refine CG.p (fun _ => ?_) (fun _ => ?_) | refine CG.yes ?_ | refine CG.no ?_) | (refine DS.gE yU yE ?_; first | refine GG.pF (fun _ => ?_) (fun _ => ?_) | refine GG.run ?_ | refine GG.sT ?_ | refine GG.nF (fun _ => ?_) (fun _ => ?_)) | refine DS.blk ?_ | refine DS.block ?_ | refine DS.skip ?_) | refine DS.pcS inferInstance (hk) yR yF ?_ | refine DS.pcS inferInstance (s1) yR yF ?_ | (refine DS.boxF (t := 5) yU yE yU ?_; simp only [cells_agg, cells_v, cells_lst, cells_fn, map_nil'', map_cons'', copy_own, copy_lst, copy_v, copy_at, copy_agg, copy_fn, copy_ifc, copy_tup]) | refine DS.retT [] yE trivial ?_ | fail)
      all_goals first | rfl | (exfalso; clear hk s1; simp_all; done) | (exfalso; clear hk s1; simp_all; omega)
    by_cases c2 : (rws.length : Int) = 0
    · have hsd : h.seat dealer = true := by
        cases hs : h.seat dealer with
        | true => rfl
        | false => exact absurd (.inl hs) c1
      rw [chkSettle, if_neg c1, if_pos c2, if_pos (by decide)]
      rw [hsd] at s1
      have c3 : (0 ≤ counters ∧ counters ≤ 100) ∧ 0 ≤ sticks ∧ sticks ≤ 4000 := by omega
      clear c1 h0 hsd
      refine DC.of_run Tryz.func28 rfl Tryz.ntmps28 Tryz.results28 (by simp) (fun _ _ => ?_); simp only [argV_cons, argV_nil, go_sem, Nat.zero_add, Nat.reduceAdd]
      repeat' (first | (with_reducible first | refine DS.fltS yU yU yE ?_ | refine DS.opsNil ?_ | refine DS.seq ?_ | refine DS.regionL ?_ | (refine DS.cE yE ?_; first | refine CG.p (fun _ => ?_) (fun _ => ?_) | refine CG.yes ?_ | refine CG.no ?_) | (refine DS.gE yU yE ?_; first | refine GG.pF (fun _ => ?_) (fun _ => ?_) | refine GG.run ?_ | refine GG.sT ?_) | refine DS.block ?_ | refine DS.skip ?_) | refine DS.pcS inferInstance (hk) yR yF ?_ | refine DS.pcS inferInstance (s1) yR yF ?_ | (refine DS.boxF (t := 5) yU yE yU ?_; simp only [cells_agg, cells_v, cells_lst, cells_fn, map_nil'', map_cons'', copy_own, copy_lst, copy_v, copy_at, copy_agg, copy_fn, copy_ifc, copy_tup]) | refine DS.retT [] yE trivial ?_ | fail)
      all_goals first | rfl | (exfalso; omega)
    have hsd : h.seat dealer = true := by
      cases hs : h.seat dealer with
      | true => rfl
      | false => exact absurd (.inl hs) c1
    rw [hsd] at s1
    have c3 : (0 ≤ counters ∧ counters ≤ 100) ∧ 0 ≤ sticks ∧ sticks ≤ 4000 := by omega
    have ok := house_ok h0
    have hpl := (gset_ok ok.set).players
    by_cases c4 : h.set.players ≤ (rws.length : Int)
    · rw [chkSettle, if_neg c1, if_neg c2, if_pos c4, if_pos (by decide)]
      clear c1 h0 hsd ok
      refine DC.of_run Tryz.func28 rfl Tryz.ntmps28 Tryz.results28 (by simp) (fun _ _ => ?_); simp only [argV_cons, argV_nil, go_sem, Nat.zero_add, Nat.reduceAdd]
      repeat' (first | (with_reducible first | refine DS.fltS yU yU yE ?_ | refine DS.opsNil ?_ | refine DS.seq ?_ | refine DS.regionL ?_ | (refine DS.cE yE ?_; first | refine CG.p (fun _ => ?_) (fun _ => ?_) | refine CG.yes ?_ | refine CG.no ?_) | (refine DS.gE yU yE ?_; first | refine GG.pF (fun _ => ?_) (fun _ => ?_) | refine GG.run ?_ | refine GG.sT ?_) | refine DS.block ?_ | refine DS.skip ?_) | refine DS.pcS inferInstance (hk) yR yF ?_ | refine DS.pcS inferInstance (s1) yR yF ?_ | (refine DS.boxF (t := 5) yU yE yU ?_; simp only [cells_agg, cells_v, cells_lst, cells_fn, map_nil'', map_cons'', copy_own, copy_lst, copy_v, copy_at, copy_agg, copy_fn, copy_ifc, copy_tup]) | refine DS.retT [] yE trivial ?_ | fail)
      all_goals first | rfl | (exfalso; omega)
    rw [chkSettle, if_neg c1, if_neg c2, if_neg c4, if_neg (show ¬ (0 : Int) ≠ 0 by decide)]
    have hst := (pay_ok ok.pay).2
    simp only [Bool.and_eq_true, ptB, decide_eq_true_eq] at hst
    have hstk := hst.1.1.1.2
    have hm1 : 0 ≤ sticks * h.pay.stick := Int.mul_nonneg c3.2.1 hstk.1
    have hm2 : sticks * h.pay.stick ≤ 4000 * 1000000 := Int.mul_le_mul c3.2.2 hstk.2 hstk.1 (by omega)
    have hrl : 0 < rws.length := by omega
    have hwho := settle_who (h := h) (dealer := dealer) (c := counters) (acc := List.replicate h.set.players.toNat 0) hrl
    have hhd : rws.headD ⟨0, 0, 0, 0, 0⟩ = rws[0] := by
      cases rws with
      | nil => simp at hrl
      | cons x r => rfl
    rw [hhd]
    have hpay := fun i (hi : i < rws.length) c => payment_pc h (condsP h) rws[i].points dealer rws[i].who rws[i].from_ c rws[i].liable
    have HW := Box.mk (And.intro hwho hpay)
    clear hwho hpay hhd ok hst h0 hsd c1
    generalize hG : settleGo h dealer rws counters (List.replicate h.set.players.toNat 0) = G at *
    have HG := Box.mk hG
    clear hG
    have hrl4 : rws.length ≤ 4 := by omega
    refine DC.of_run Tryz.func28 rfl Tryz.ntmps28 Tryz.results28 (by simp) (fun _ _ => ?_); simp only [argV_cons, argV_nil, go_sem, Nat.zero_add, Nat.reduceAdd]
    repeat' (first | (with_reducible first | refine DS.fltS yU yU yE ?_ | refine DS.opsNil ?_ | refine DS.seq ?_ | refine DS.regionL ?_ | (refine DS.cE yE ?_; first | refine CG.p (fun _ => ?_) (fun _ => ?_) | refine CG.yes ?_ | refine CG.no ?_) | (refine DS.gE yU yE ?_; first | refine GG.pF (fun _ => ?_) (fun _ => ?_) | refine GG.run ?_ | refine GG.sT ?_) | refine DS.blk ?_ | refine DS.block ?_ | refine DS.skip ?_) | refine DS.pcS inferInstance (hk) yR yF ?_ | refine DS.pcS inferInstance (s1) yR yF ?_ | (refine DS.boxF (t := 5) yU yE yU ?_; simp only [cells_agg, cells_v, cells_lst, cells_fn, map_nil'', map_cons'', copy_own, copy_lst, copy_v, copy_at, copy_agg, copy_fn, copy_ifc, copy_tup]) | (refine DS.mkS yU yE yE yE yE yU yU ⟨by omega, by omega, by decide, by omega⟩ (fun _ hfr => ?_)) | fail)
    all_goals try (exfalso; omega)
    rename_i bo
    clear hk s1
    rw [zerosI (List.replicate h.set.players.toNat 0) rfl]
    refine DS.loopS [1, 3, 4, 5, 13, 61, 62] yN (fun (x : Nat × Int × List Int) => [(2, I x.2.1), (63, I x.1)]) (fun (x : Nat × Int × List Int) => [(bo, objI x.2.2)]) (fun (x : Nat × Int × List Int) => x.1 ≤ rws.length ∧ G = settleGo h dealer (rws.drop x.1) (if x.1 = 0 then x.2.1 else 0) x.2.2 ∧ x.2.2.length = h.set.players.toNat ∧ LB (x.1 * 16000000000) x.2.2 ∧ (x.1 = 0 → x.2.1 = counters)) (fun (x : Nat × Int × List Int) => rws.length - x.1) (0, counters, List.replicate h.set.players.toNat 0) yS (fun b o e => by exact e) ⟨Nat.zero_le _, by rw [← HG.out]; rfl, by simp, fun v hv => by rw [(List.mem_replicate.1 hv).2]; simp, fun _ => rfl⟩ (fun x B hI hB => ?_); try dsimp only at hI hB; simp only [app_cons', app_nil']
    obtain ⟨i, cc, acc⟩ := x
    dsimp only at hI hB ⊢
    obtain ⟨i1, i2, i3, i4, i5⟩ := hI
    have HB := Box.mk hB
    clear hB
    by_cases hi : (i : Int) < (rws.length : Int)
    · have hi' : i < rws.length := by omega
      rw [settleGo_at hi'] at i2
      obtain ⟨ce, hce⟩ : ∃ ce, ce = if i = 0 then cc else 0 := ⟨_, rfl⟩
      rw [← hce] at i2
      have hp := HW.out.2 i hi' ce
      have hXok := @payX2_ok h rws[i].points dealer rws[i].who rws[i].from_ ce rws[i].liable
      generalize payX2 h rws[i].points dealer rws[i].who rws[i].from_ ce rws[i].liable = X at *
      obtain ⟨X1, X2⟩ := X
      dsimp only at i2 hp hXok
      by_cases hz : X2 = 0
      · subst hz
        obtain ⟨x1, x2, -⟩ := hXok rfl
        rw [if_neg (by decide), i3] at i2
        have HI := Box.mk (And.intro i2 (And.intro i4 x2))
        clear i2 i4 x2 hXok i5
        by_cases hi0 : i = 0
        · rw [if_pos hi0] at hce
          subst hce
          have hi0' : ¬ (0 : Int) < (i : Int) := by omega
          clear hi0
          repeat' (first | (with_reducible first | refine DS.fltS yU yU yE ?_ | refine DS.opsNil ?_ | refine DS.seq ?_ | refine DS.regionL ?_ | (refine DS.cE yE ?_; first | refine CG.yes ?_ | refine CG.no ?_) | refine DS.block ?_ | refine DS.skip ?_) | (refine DS.letF1 (t := 15) yU yU yU yE yU (fun _ => yE) (fun _ => yE) yE yU (by exact ⟨by with_unfolding_all rfl, by with_unfolding_all decide⟩) (fun _ => by simp only [go_sem, Nat.reduceEqDiff, ↓reduceIte]) ?_; simp only [go_sem]) | refine DS.pcS inferInstance (hp) yR yF ?_ | fail)
          all_goals try (exfalso; omega)
          refine DS.loopS [1, 2, 3, 4, 5, 13, 61, 62, 63, 88, 89] yN (fun (j : Nat) => [(90, I j)]) (fun (j : Nat) => [(bo, objI (addN acc X1 j))]) (fun (j : Nat) => j ≤ h.set.players.toNat) (fun (j : Nat) => h.set.players.toNat - j) 0 yS (fun b o e => by exact e) (Nat.zero_le _) (fun j B hI hB => ?_); try dsimp only at hI hB; simp only [app_cons', app_nil']
          have HC := Box.mk hB
          clear hB
          have hAl := addN_len acc X1 j
          have hAb := addN_LB HI.out.2.1 HI.out.2.2 (by omega) (by omega) (k := j) (by omega)
          have hnx := addN.eq_2 acc X1 j
          generalize hA : addN acc X1 j = A at *
          by_cases hj : j < h.set.players.toNat
          · have hjA : j < A.length := by omega
            have hjX : j < X1.length := by omega
            have q1 := hAb _ (List.getElem_mem hjA)
            have q2 := HI.out.2.2 _ (List.getElem_mem hjX)
            rw [getD_at hjA, getD_at hjX] at hnx
            have e1 : (A.map I)[j]? = some (I A[j]) := map_I_get hjA
            have HN := Box.mk hnx
            clear hnx hAb hA
            repeat' (first | (with_reducible first | refine DS.fltS yU yU yE ?_ | refine DS.opsNil ?_ | refine DS.seq ?_ | refine DS.regionL ?_ | (refine DS.cE yE ?_; refine CG.p (fun _ => ?_) (fun _ => ?_)) | refine DS.blk ?_ | refine DS.block ?_ | refine DS.exit yU ?_ | refine DS.skip ?_) | (refine DS.store yR yE yE yE yE yU (by exact ⟨by with_unfolding_all rfl, by (try simp only [List.length_map, List.length_append, List.length_set, List.length_replicate, List.length_cons, List.length_nil]); omega⟩) ?_; simp only [putV_none, setAll_cons, setAll_nil, scells_v, scells_own, scells_lst, scells_agg]; try simp only [strip_tmp, strip_const, lookV_cons, Nat.reduceEqDiff, ↓reduceIte, stripO_own, stripO_lst, stripO_v, stripO_plc, stripO_agg, stripO_fn, stripO_ifc]) | fail)
            all_goals first
              | (exfalso; omega)
              | (refine DS.back (HC.out (j + 1) _ _ (by omega) (by omega) yS yS (fun b o e => ?_))
                 rw [HN.out, objI, List.map_set] at e
                 simp only [setS, ↓reduceIte]
                 exact e)
              | trace_state
          · have hjn : j = h.set.players.toNat := by omega
            subst hjn
            have hnn : ¬ ((h.set.players.toNat : Nat) : Int) < ((h.set.players.toNat : Nat) : Int) := by omega
            have HA := Box.mk (And.intro hA hAb)
            clear hnx hAb hA HC
            repeat' (first | (with_reducible first | refine DS.fltS yU yU yE ?_ | refine DS.opsNil ?_ | refine DS.seq ?_ | refine DS.regionL ?_ | (refine DS.cE yE ?_; refine CG.no ?_) | refine DS.blk ?_ | refine DS.exit yU ?_) | fail)
            all_goals first
              | (exfalso; omega)
              | exact DS.back (HB.out (i + 1, ce, A) _ _ (by dsimp only; omega) ⟨by dsimp only; omega, by dsimp only; rw [if_neg (by omega), ← HA.out.1]; exact HI.out.1, by dsimp only; omega, by dsimp only; exact HA.out.2.mono (by omega), fun h => by dsimp only at h; omega⟩ yS yS (fun b o e => by exact e))
              | trace_state
        · rw [if_neg hi0] at hce
          subst hce
          have hi0' : (0 : Int) < (i : Int) := by omega
          clear hi0
          repeat' (first | (with_reducible first | refine DS.fltS yU yU yE ?_ | refine DS.opsNil ?_ | refine DS.seq ?_ | refine DS.regionL ?_ | (refine DS.cE yE ?_; first | refine CG.yes ?_ | refine CG.no ?_) | refine DS.block ?_ | refine DS.skip ?_) | (refine DS.letF1 (t := 15) yU yU yU yE yU (fun _ => yE) (fun _ => yE) yE yU (by exact ⟨by with_unfolding_all rfl, by with_unfolding_all decide⟩) (fun _ => by simp only [go_sem, Nat.reduceEqDiff, ↓reduceIte]) ?_; simp only [go_sem]) | refine DS.pcS inferInstance (hp) yR yF ?_ | fail)
          all_goals try (exfalso; omega)
          refine DS.loopS [1, 2, 3, 4, 5, 13, 61, 62, 63, 88, 89] yN (fun (j : Nat) => [(90, I j)]) (fun (j : Nat) => [(bo, objI (addN acc X1 j))]) (fun (j : Nat) => j ≤ h.set.players.toNat) (fun (j : Nat) => h.set.players.toNat - j) 0 yS (fun b o e => by exact e) (Nat.zero_le _) (fun j B hI hB => ?_); try dsimp only at hI hB; simp only [app_cons', app_nil']
          have HC := Box.mk hB
          clear hB
          have hAl := addN_len acc X1 j
          have hAb := addN_LB HI.out.2.1 HI.out.2.2 (by omega) (by omega) (k := j) (by omega)
          have hnx := addN.eq_2 acc X1 j
          generalize hA : addN acc X1 j = A at *
          by_cases hj : j < h.set.players.toNat
          · have hjA : j < A.length := by omega
            have hjX : j < X1.length := by omega
            have q1 := hAb _ (List.getElem_mem hjA)
            have q2 := HI.out.2.2 _ (List.getElem_mem hjX)
            rw [getD_at hjA, getD_at hjX] at hnx
            have e1 : (A.map I)[j]? = some (I A[j]) := map_I_get hjA
            have HN := Box.mk hnx
            clear hnx hAb hA
            repeat' (first | (with_reducible first | refine DS.fltS yU yU yE ?_ | refine DS.opsNil ?_ | refine DS.seq ?_ | refine DS.regionL ?_ | (refine DS.cE yE ?_; refine CG.p (fun _ => ?_) (fun _ => ?_)) | refine DS.blk ?_ | refine DS.block ?_ | refine DS.exit yU ?_ | refine DS.skip ?_) | (refine DS.store yR yE yE yE yE yU (by exact ⟨by with_unfolding_all rfl, by (try simp only [List.length_map, List.length_append, List.length_set, List.length_replicate, List.length_cons, List.length_nil]); omega⟩) ?_; simp only [putV_none, setAll_cons, setAll_nil, scells_v, scells_own, scells_lst, scells_agg]; try simp only [strip_tmp, strip_const, lookV_cons, Nat.reduceEqDiff, ↓reduceIte, stripO_own, stripO_lst, stripO_v, stripO_plc, stripO_agg, stripO_fn, stripO_ifc]) | fail)
            all_goals first
              | (exfalso; omega)
              | (refine DS.back (HC.out (j + 1) _ _ (by omega) (by omega) yS yS (fun b o e => ?_))
                 rw [HN.out, objI, List.map_set] at e
                 simp only [setS, ↓reduceIte]
                 exact e)
              | trace_state
          · have hjn : j = h.set.players.toNat := by omega
            subst hjn
            have hnn : ¬ ((h.set.players.toNat : Nat) : Int) < ((h.set.players.toNat : Nat) : Int) := by omega
            have HA := Box.mk (And.intro hA hAb)
            clear hnx hAb hA HC
            repeat' (first | (with_reducible first | refine DS.fltS yU yU yE ?_ | refine DS.opsNil ?_ | refine DS.seq ?_ | refine DS.regionL ?_ | (refine DS.cE yE ?_; refine CG.no ?_) | refine DS.blk ?_ | refine DS.exit yU ?_) | fail)
            all_goals first
              | (exfalso; omega)
              | exact DS.back (HB.out (i + 1, (0 : Int), A) _ _ (by dsimp only; omega) ⟨by dsimp only; omega, by dsimp only; rw [if_neg (by omega), ← HA.out.1]; exact HI.out.1, by dsimp only; omega, by dsimp only; exact HA.out.2.mono (by omega), fun h => by dsimp only at h; omega⟩ yS yS (fun b o e => by exact e))
              | trace_state
      · rw [if_pos hz] at i2
        have e : G.2 = X2 ∧ G.1 = [] := by rw [i2]; exact ⟨rfl, rfl⟩
        rw [if_pos (by rw [e.1]; exact hz), e.1]
        clear e i2 hXok i4 HB HG HW
        by_cases hi0 : i = 0
        · rw [if_pos hi0] at hce
          subst hce
          have hi0' : ¬ (0 : Int) < (i : Int) := by omega
          clear hi0 i5
          repeat' (first | (with_reducible first | refine DS.fltS yU yU yE ?_ | refine DS.opsNil ?_ | refine DS.seq ?_ | refine DS.regionL ?_ | (refine DS.cE yE ?_; first | refine CG.yes ?_ | refine CG.no ?_) | refine DS.block ?_ | refine DS.skip ?_) | (refine DS.letF1 (t := 15) yU yU yU yE yU (fun _ => yE) (fun _ => yE) yE yU (by exact ⟨by with_unfolding_all rfl, by with_unfolding_all decide⟩) (fun _ => by simp only [go_sem, Nat.reduceEqDiff, ↓reduceIte]) ?_; simp only [go_sem]) | refine DS.pcS inferInstance (hp) yR yF ?_ | refine DS.retT [] yE trivial ?_ | fail)
          all_goals first | rfl | (exfalso; omega)
        · rw [if_neg hi0] at hce
          subst hce
          have hi0' : (0 : Int) < (i : Int) := by omega
          clear hi0 i5
          repeat' (first | (with_reducible first | refine DS.fltS yU yU yE ?_ | refine DS.opsNil ?_ | refine DS.seq ?_ | refine DS.regionL ?_ | (refine DS.cE yE ?_; refine CG.yes ?_) | refine DS.block ?_ | refine DS.skip ?_) | (refine DS.letF1 (t := 15) yU yU yU yE yU (fun _ => yE) (fun _ => yE) yE yU (by exact ⟨by with_unfolding_all rfl, by with_unfolding_all decide⟩) (fun _ => by simp only [go_sem, Nat.reduceEqDiff, ↓reduceIte]) ?_; simp only [go_sem]) | refine DS.pcS inferInstance (hp) yR yF ?_ | refine DS.retT [] yE trivial ?_ | fail)
          all_goals first | rfl | (exfalso; omega)
    · rw [drop_end hi, settleGo] at i2
      have hw := HW.out.1 (by rw [i2])
      rw [i2]
      dsimp only
      rw [if_neg (show ¬ (0 : Int) ≠ 0 by decide)]
      clear i2 HW HG HB
      obtain ⟨w1, w2⟩ := hw
      have hwl : rws[0].who.toNat < acc.length := by omega
      have hwI : ((rws[0].who.toNat : Nat) : Int) = rws[0].who := by omega
      have q1 := i4 _ (List.getElem_mem hwl)
      rw [getD_at hwl]
      generalize hwho : rws[0].who = wh at *
      have e1 : (acc.map I)[wh.toNat]? = some (I acc[wh.toNat]) := map_I_get hwl
      clear i4 i5
      repeat' (first | (with_reducible first | refine DS.fltS yU yU yE ?_ | refine DS.opsNil ?_ | refine DS.seq ?_ | refine DS.regionL ?_ | (refine DS.cE yE ?_; refine CG.no ?_) | refine DS.exit yU ?_) | (refine DS.store yR yE yE yE yE yU (by exact ⟨by with_unfolding_all rfl, by (try simp only [List.length_map, List.length_append, List.length_set, List.length_replicate, List.length_cons, List.length_nil]); omega⟩) ?_; simp only [putV_none, setAll_cons, setAll_nil, scells_v, scells_own, scells_lst, scells_agg]; try simp only [strip_tmp, strip_const, lookV_cons, Nat.reduceEqDiff, ↓reduceIte, stripO_own, stripO_lst, stripO_v, stripO_plc, stripO_agg, stripO_fn, stripO_ifc]) | refine DS.drawL (id := 25) [0, 1, 2, 3, 4, 5, 6, 7, 8, 9, 10, 11] 12 (by kernel_rfl) mixed (by simp only [pickL_cons, pickL_nil, get_zero', get_cons', pickO_some]; exact rfl) (by simp only [drop_zero', drop_cons', List.drop_nil]; exact rfl) ?_ | (with_reducible first | refine DD.fltS yU yU yU yE ?_ | refine DD.nil0 ?_) | fail)
      all_goals try (exfalso; omega)
      have hl2 : (acc.set wh.toNat (acc[wh.toNat] + sticks * h.pay.stick)).length = h.set.players.toNat := by rw [List.length_set]; exact i3
      refine DS.reS (S' := [(bo, objI (acc.set wh.toNat (acc[wh.toNat] + sticks * h.pay.stick)))]) (fun b o e => by rw [objI, List.map_set] at e; simp only [setS, ↓reduceIte]; exact e) ?_
      refine DS.freeze (t := 10) (b := bo) (sz := 1) (l := (acc.set wh.toNat (acc[wh.toNat] + sticks * h.pay.stick)).map I) (T := 3) yR (by simp only [lookS_cons, ↓reduceIte]) (by rw [List.length_map, hl2]; omega) ⟨Nat.le_refl _, by simp only [maxLen]; omega⟩ ?_
      refine DS.retA yG ?_
      rw [chunk_ints _ _ hl2]
      rfl
  · rw [settleX, if_pos h0]
    generalize houseS h = c at *
    refine DC.of_run Tryz.func28 rfl Tryz.ntmps28 Tryz.results28 (by simp) (fun _ _ => ?_); simp only [argV_cons, argV_nil, go_sem, Nat.zero_add, Nat.reduceAdd]
    repeat' (first | (with_reducible first | refine DS.fltS yU yU yE ?_ | refine DS.opsNil ?_ | refine DS.seq ?_ | refine DS.regionL ?_ | (refine DS.cE yE ?_; refine CG.yes ?_)) | refine DS.pcS inferInstance (hk) yR yF ?_ | (refine DS.boxF (t := 5) yU yE yU ?_; simp only [cells_agg, cells_v, cells_lst, cells_fn, map_nil'', map_cons'', copy_own, copy_lst, copy_v, copy_at, copy_agg, copy_fn, copy_ifc, copy_tup]) | refine DS.retT [] yE trivial ?_ | fail)
    all_goals first | rfl | (exfalso; omega)
end Go.XL
namespace Go.XL
open Go.Proofs
set_option maxRecDepth 100000
set_option maxHeartbeats 8000000
theorem r5settle_pc (h : House) (hm : h.patterns.length ≤ 1000000) (hn : ∀ p ∈ h.patterns, p.name.size ≤ 9223372036854775807) (dealer counters sticks : Int) (rws : List WinRow) :
    PC Tryz.prog 29 [h.val, I dealer, I counters, I sticks, rowsV rws] (.tup [ints (settleX h dealer counters sticks rws).1, I (settleX h dealer counters sticks rws).2]) := by
  have hk := r4house_pc h hm hn
  have s1 := r5seat_pc h dealer
  by_cases h0 : houseS h = 0
  · rw [h0] at hk
    rw [settleX, if_neg (by omega)]
    by_cases c1 : h.seat dealer = false ∨ counters < 0 ∨ counters > 100 ∨ sticks < 0 ∨ sticks > 4000
    · rw [chkSettle, if_pos c1, if_pos (by decide)]
      generalize h.seat dealer = t at *
      clear h0
      refine DC.of_run Tryz.func29 rfl Tryz.ntmps29 Tryz.results29 (by simp) (fun _ _ => ?_); simp only [argV_cons, argV_nil, go_sem, Nat.zero_add, Nat.reduceAdd]
      repeat' (first | (with_reducible first | refine DS.fltS yU yU yE ?_ | refine DS.opsNil ?_ | refine DS.seq ?_ | refine DS.regionL ?_ | (refine DS.cE yE ?_; first | refine CG.p (fun _ => ?_) (fun _ => ?_) | refine CG.yes ?_ | refine CG.no ?_) | (refine DS.gE yU yE ?_; first | refine GG.pF (fun _ => ?_) (fun _ => ?_) | refine GG.run ?_ | refine GG.sT ?_ | refine GG.nF (fun _ => ?_) (fun _ => ?_)) | refine DS.skip ?_) | refine DS.pcS inferInstance (hk) yR yF ?_ | refine DS.pcS inferInstance (s1) yR yF ?_ | (refine DS.boxF (t := 5) yU yE yU ?_; simp only [cells_agg, cells_v, cells_lst, cells_fn, map_nil'', map_cons'', copy_own, copy_lst, copy_v, copy_at, copy_agg, copy_fn, copy_ifc, copy_tup]) | refine DS.retT [] yE trivial ?_ | fail)
      all_goals first | rfl | (exfalso; clear hk s1; simp_all; done) | (exfalso; clear hk s1; simp_all; omega)
    by_cases c2 : (rws.length : Int) = 0
    · have hsd : h.seat dealer = true := by
        cases hs : h.seat dealer with
        | true => rfl
        | false => exact absurd (.inl hs) c1
      rw [chkSettle, if_neg c1, if_pos c2, if_pos (by decide)]
      rw [hsd] at s1
      have c3 : (0 ≤ counters ∧ counters ≤ 100) ∧ 0 ≤ sticks ∧ sticks ≤ 4000 := by omega
      clear c1 h0 hsd
      refine DC.of_run Tryz.func29 rfl Tryz.ntmps29 Tryz.results29 (by simp) (fun _ _ => ?_); simp only [argV_cons, argV_nil, go_sem, Nat.zero_add, Nat.reduceAdd]
      repeat' (first | (with_reducible first | refine DS.fltS yU yU yE ?_ | refine DS.opsNil ?_ | refine DS.seq ?_ | refine DS.regionL ?_ | (refine DS.cE yE ?_; first | refine CG.p (fun _ => ?_) (fun _ => ?_) | refine CG.yes ?_ | refine CG.no ?_) | (refine DS.gE yU yE ?_; first | refine GG.pF (fun _ => ?_) (fun _ => ?_) | refine GG.run ?_ | refine GG.sT ?_) | refine DS.skip ?_) | refine DS.pcS inferInstance (hk) yR yF ?_ | refine DS.pcS inferInstance (s1) yR yF ?_ | (refine DS.boxF (t := 5) yU yE yU ?_; simp only [cells_agg, cells_v, cells_lst, cells_fn, map_nil'', map_cons'', copy_own, copy_lst, copy_v, copy_at, copy_agg, copy_fn, copy_ifc, copy_tup]) | refine DS.retT [] yE trivial ?_ | fail)
      all_goals first | rfl | (exfalso; omega)
    have hsd : h.seat dealer = true := by
      cases hs : h.seat dealer with
      | true => rfl
      | false => exact absurd (.inl hs) c1
    rw [hsd] at s1
    have c3 : (0 ≤ counters ∧ counters ≤ 100) ∧ 0 ≤ sticks ∧ sticks ≤ 4000 := by omega
    have ok := house_ok h0
    have hpl := (gset_ok ok.set).players
    by_cases c4 : h.set.players ≤ (rws.length : Int)
    · rw [chkSettle, if_neg c1, if_neg c2, if_pos c4, if_pos (by decide)]
      clear c1 h0 hsd ok
      refine DC.of_run Tryz.func29 rfl Tryz.ntmps29 Tryz.results29 (by simp) (fun _ _ => ?_); simp only [argV_cons, argV_nil, go_sem, Nat.zero_add, Nat.reduceAdd]
      repeat' (first | (with_reducible first | refine DS.fltS yU yU yE ?_ | refine DS.opsNil ?_ | refine DS.seq ?_ | refine DS.regionL ?_ | (refine DS.cE yE ?_; first | refine CG.p (fun _ => ?_) (fun _ => ?_) | refine CG.yes ?_ | refine CG.no ?_) | (refine DS.gE yU yE ?_; first | refine GG.pF (fun _ => ?_) (fun _ => ?_) | refine GG.run ?_ | refine GG.sT ?_) | refine DS.block ?_ | refine DS.skip ?_) | refine DS.pcS inferInstance (hk) yR yF ?_ | refine DS.pcS inferInstance (s1) yR yF ?_ | (refine DS.boxF (t := 5) yU yE yU ?_; simp only [cells_agg, cells_v, cells_lst, cells_fn, map_nil'', map_cons'', copy_own, copy_lst, copy_v, copy_at, copy_agg, copy_fn, copy_ifc, copy_tup]) | (refine DS.mkS yU yE yE yE yE yU yU ⟨by omega, by omega, by decide, by omega⟩ (fun _ hfr => ?_)) | refine DS.retT [] yE trivial ?_ | fail)
      all_goals first | rfl | (exfalso; omega)
    rw [chkSettle, if_neg c1, if_neg c2, if_neg c4, if_neg (show ¬ (0 : Int) ≠ 0 by decide)]
    have hst := (pay_ok ok.pay).2
    simp only [Bool.and_eq_true, ptB, decide_eq_true_eq] at hst
    have hstk := hst.1.1.1.2
    have hm1 : 0 ≤ sticks * h.pay.stick := Int.mul_nonneg c3.2.1 hstk.1
    have hm2 : sticks * h.pay.stick ≤ 4000 * 1000000 := Int.mul_le_mul c3.2.2 hstk.2 hstk.1 (by omega)
    have hrl : 0 < rws.length := by omega
    have hwho := settle_who (h := h) (dealer := dealer) (c := counters) (acc := List.replicate h.set.players.toNat 0) hrl
    have hhd : rws.headD ⟨0, 0, 0, 0, 0⟩ = rws[0] := by
      cases rws with
      | nil => simp at hrl
      | cons x r => rfl
    rw [hhd]
    have hpay := fun i (hi : i < rws.length) c => r5payment_pc h hm hn rws[i].points dealer rws[i].who rws[i].from_ c rws[i].liable
    have HW := Box.mk (And.intro hwho hpay)
    clear hwho hpay hhd ok hst h0 hsd c1
    generalize hG : settleGo h dealer rws counters (List.replicate h.set.players.toNat 0) = G at *
    have HG := Box.mk hG
    clear hG
    have hrl4 : rws.length ≤ 4 := by omega
    refine DC.of_run Tryz.func29 rfl Tryz.ntmps29 Tryz.results29 (by simp) (fun _ _ => ?_); simp only [argV_cons, argV_nil, go_sem, Nat.zero_add, Nat.reduceAdd]
    repeat' (first | (with_reducible first | refine DS.fltS yU yU yE ?_ | refine DS.opsNil ?_ | refine DS.seq ?_ | refine DS.regionL ?_ | (refine DS.cE yE ?_; first | refine CG.p (fun _ => ?_) (fun _ => ?_) | refine CG.yes ?_ | refine CG.no ?_) | (refine DS.gE yU yE ?_; first | refine GG.pF (fun _ => ?_) (fun _ => ?_) | refine GG.run ?_ | refine GG.sT ?_) | refine DS.block ?_ | refine DS.skip ?_) | refine DS.pcS inferInstance (hk) yR yF ?_ | refine DS.pcS inferInstance (s1) yR yF ?_ | (refine DS.boxF (t := 5) yU yE yU ?_; simp only [cells_agg, cells_v, cells_lst, cells_fn, map_nil'', map_cons'', copy_own, copy_lst, copy_v, copy_at, copy_agg, copy_fn, copy_ifc, copy_tup]) | (refine DS.mkS yU yE yE yE yE yU yU ⟨by omega, by omega, by decide, by omega⟩ (fun _ hfr => ?_)) | fail)
    all_goals try (exfalso; omega)
    rename_i bo
    clear hk s1
    rw [zerosI (List.replicate h.set.players.toNat 0) rfl]
    refine DS.loopS [1, 3, 4, 5, 13] yN (fun (x : Nat × Int × List Int) => [(2, I x.2.1), (14, I x.1)]) (fun (x : Nat × Int × List Int) => [(bo, objI x.2.2)]) (fun (x : Nat × Int × List Int) => x.1 ≤ rws.length ∧ G = settleGo h dealer (rws.drop x.1) x.2.1 x.2.2 ∧ x.2.2.length = h.set.players.toNat ∧ LB (x.1 * 16000000000) x.2.2 ∧ (x.1 = 0 → x.2.1 = counters)) (fun (x : Nat × Int × List Int) => rws.length - x.1) (0, counters, List.replicate h.set.players.toNat 0) yS (fun b o e => by exact e) ⟨Nat.zero_le _, by rw [← HG.out]; rfl, by simp, fun v hv => by rw [(List.mem_replicate.1 hv).2]; simp, fun _ => rfl⟩ (fun x B hI hB => ?_); try dsimp only at hI hB; simp only [app_cons', app_nil']
    obtain ⟨i, cc, acc⟩ := x
    dsimp only at hI hB ⊢
    obtain ⟨i1, i2, i3, i4, i5⟩ := hI
    have HB := Box.mk hB
    clear hB
    by_cases hi : (i : Int) < (rws.length : Int)
    · have hi' : i < rws.length := by omega
      rw [settleGo_at hi'] at i2
      obtain ⟨ce, hce⟩ : ∃ ce, ce = cc := ⟨_, rfl⟩
      rw [← hce] at i2
      have hp := HW.out.2 i hi' ce
      have hXok := @payX2_ok h rws[i].points dealer rws[i].who rws[i].from_ ce rws[i].liable
      generalize payX2 h rws[i].points dealer rws[i].who rws[i].from_ ce rws[i].liable = X at *
      obtain ⟨X1, X2⟩ := X
      dsimp only at i2 hp hXok
      by_cases hz : X2 = 0
      · subst hz
        obtain ⟨x1, x2, -⟩ := hXok rfl
        rw [if_neg (by decide), i3] at i2
        have HI := Box.mk (And.intro i2 (And.intro i4 x2))
        clear i2 i4 x2 hXok i5
        by_cases hi0 : i = 0
        · subst hce
          have hi0' : ¬ (0 : Int) < (i : Int) := by omega
          clear hi0
          repeat' (first | (with_reducible first | refine DS.fltS yU yU yE ?_ | refine DS.opsNil ?_ | refine DS.seq ?_ | refine DS.regionL ?_ | (refine DS.cE yE ?_; first | refine CG.yes ?_ | refine CG.no ?_) | refine DS.block ?_ | refine DS.skip ?_) | refine DS.drawL (id := 14) [0, 1, 2, 3, 4, 5, 6, 7, 8, 9, 10, 11, 12, 13, 14, 15, 16, 17, 18, 19, 20, 21, 22, 23, 24, 25, 26, 27] 28 (by kernel_rfl) mixed (by simp only [pickL_cons, pickL_nil, get_zero', get_cons', pickO_some]; exact rfl) (by simp only [drop_zero', drop_cons', List.drop_nil]; exact rfl) ?_ | (with_reducible first | refine DD.fltS yU yU yU yE ?_ | refine DD.flt1S yU yU yU yU yE ?_ | refine DD.nil0 ?_) | refine DD.pcS inferInstance (hp) yU yF ?_; simp only [delV_cons', delV_nil', Nat.reduceEqDiff, ↓reduceIte] | fail)
          all_goals try (exfalso; omega)
          refine DS.loopS [1, 3, 4, 5, 13, 14, 15] yN (fun (j : Nat) => [(17, I j)]) (fun (j : Nat) => [(bo, objI (addN acc X1 j))]) (fun (j : Nat) => j ≤ h.set.players.toNat) (fun (j : Nat) => h.set.players.toNat - j) 0 yS (fun b o e => by exact e) (Nat.zero_le _) (fun j B hI hB => ?_); try dsimp only at hI hB; simp only [app_cons', app_nil']
          have HC := Box.mk hB
          clear hB
          have hAl := addN_len acc X1 j
          have hAb := addN_LB HI.out.2.1 HI.out.2.2 (by omega) (by omega) (k := j) (by omega)
          have hnx := addN.eq_2 acc X1 j
          generalize hA : addN acc X1 j = A at *
          by_cases hj : j < h.set.players.toNat
          · have hjA : j < A.length := by omega
            have hjX : j < X1.length := by omega
            have q1 := hAb _ (List.getElem_mem hjA)
            have q2 := HI.out.2.2 _ (List.getElem_mem hjX)
            rw [getD_at hjA, getD_at hjX] at hnx
            have e1 : (A.map I)[j]? = some (I A[j]) := map_I_get hjA
            have HN := Box.mk hnx
            clear hnx hAb hA
            repeat' (first | (with_reducible first | refine DS.fltS yU yU yE ?_ | refine DS.opsNil ?_ | refine DS.seq ?_ | refine DS.regionL ?_ | (refine DS.cE yE ?_; refine CG.p (fun _ => ?_) (fun _ => ?_)) | refine DS.blk ?_ | refine DS.block ?_ | refine DS.exit yU ?_ | refine DS.skip ?_) | (refine DS.store yR yE yE yE yE yU (by exact ⟨by with_unfolding_all rfl, by (try simp only [List.length_map, List.length_append, List.length_set, List.length_replicate, List.length_cons, List.length_nil]); omega⟩) ?_; simp only [putV_none, setAll_cons, setAll_nil, scells_v, scells_own, scells_lst, scells_agg]; try simp only [strip_tmp, strip_const, lookV_cons, Nat.reduceEqDiff, ↓reduceIte, stripO_own, stripO_lst, stripO_v, stripO_plc, stripO_agg, stripO_fn, stripO_ifc]) | refine DS.drawL (id := 20) [0, 1, 2, 3, 4, 5, 6, 7, 8, 9, 10] 11 (by kernel_rfl) mixed (by simp only [pickL_cons, pickL_nil, get_zero', get_cons', pickO_some]; exact rfl) (by simp only [drop_zero', drop_cons', List.drop_nil]; exact rfl) ?_ | (with_reducible first | refine DD.fltS yU yU yU yE ?_ | refine DD.nil0 ?_) | fail)
            all_goals first
              | (exfalso; omega)
              | (refine DS.back (HC.out (j + 1) _ _ (by omega) (by omega) yS yS (fun b o e => ?_))
                 rw [HN.out, objI, List.map_set] at e
                 simp only [setS, ↓reduceIte]
                 exact e)
              | trace_state
          · have hjn : j = h.set.players.toNat := by omega
            subst hjn
            have hnn : ¬ ((h.set.players.toNat : Nat) : Int) < ((h.set.players.toNat : Nat) : Int) := by omega
            have HA := Box.mk (And.intro hA hAb)
            clear hnx hAb hA HC
            repeat' (first | (with_reducible first | refine DS.fltS yU yU yE ?_ | refine DS.opsNil ?_ | refine DS.seq ?_ | refine DS.regionL ?_ | (refine DS.cE yE ?_; refine CG.no ?_) | refine DS.blk ?_ | refine DS.exit yU ?_) | fail)
            all_goals first
              | (exfalso; omega)
              | exact DS.back (HB.out (i + 1, (0 : Int), A) _ _ (by dsimp only; omega) ⟨by dsimp only; omega, by dsimp only; rw [← HA.out.1]; exact HI.out.1, by dsimp only; omega, by dsimp only; exact HA.out.2.mono (by omega), fun h => by dsimp only at h; omega⟩ yS yS (fun b o e => by exact e))
              | trace_state
        · subst hce
          have hi0' : (0 : Int) < (i : Int) := by omega
          clear hi0
          repeat' (first | (with_reducible first | refine DS.fltS yU yU yE ?_ | refine DS.opsNil ?_ | refine DS.seq ?_ | refine DS.regionL ?_ | (refine DS.cE yE ?_; first | refine CG.yes ?_ | refine CG.no ?_) | refine DS.block ?_ | refine DS.skip ?_) | refine DS.drawL (id := 14) [0, 1, 2, 3, 4, 5, 6, 7, 8, 9, 10, 11, 12, 13, 14, 15, 16, 17, 18, 19, 20, 21, 22, 23, 24, 25, 26, 27] 28 (by kernel_rfl) mixed (by simp only [pickL_cons, pickL_nil, get_zero', get_cons', pickO_some]; exact rfl) (by simp only [drop_zero', drop_cons', List.drop_nil]; exact rfl) ?_ | (with_reducible first | refine DD.fltS yU yU yU yE ?_ | refine DD.flt1S yU yU yU yU yE ?_ | refine DD.nil0 ?_) | refine DD.pcS inferInstance (hp) yU yF ?_; simp only [delV_cons', delV_nil', Nat.reduceEqDiff, ↓reduceIte] | fail)
          all_goals try (exfalso; omega)
          refine DS.loopS [1, 3, 4, 5, 13, 14, 15] yN (fun (j : Nat) => [(17, I j)]) (fun (j : Nat) => [(bo, objI (addN acc X1 j))]) (fun (j : Nat) => j ≤ h.set.players.toNat) (fun (j : Nat) => h.set.players.toNat - j) 0 yS (fun b o e => by exact e) (Nat.zero_le _) (fun j B hI hB => ?_); try dsimp only at hI hB; simp only [app_cons', app_nil']
          have HC := Box.mk hB
          clear hB
          have hAl := addN_len acc X1 j
          have hAb := addN_LB HI.out.2.1 HI.out.2.2 (by omega) (by omega) (k := j) (by omega)
          have hnx := addN.eq_2 acc X1 j
          generalize hA : addN acc X1 j = A at *
          by_cases hj : j < h.set.players.toNat
          · have hjA : j < A.length := by omega
            have hjX : j < X1.length := by omega
            have q1 := hAb _ (List.getElem_mem hjA)
            have q2 := HI.out.2.2 _ (List.getElem_mem hjX)
            rw [getD_at hjA, getD_at hjX] at hnx
            have e1 : (A.map I)[j]? = some (I A[j]) := map_I_get hjA
            have HN := Box.mk hnx
            clear hnx hAb hA
            repeat' (first | (with_reducible first | refine DS.fltS yU yU yE ?_ | refine DS.opsNil ?_ | refine DS.seq ?_ | refine DS.regionL ?_ | (refine DS.cE yE ?_; refine CG.p (fun _ => ?_) (fun _ => ?_)) | refine DS.blk ?_ | refine DS.block ?_ | refine DS.exit yU ?_ | refine DS.skip ?_) | (refine DS.store yR yE yE yE yE yU (by exact ⟨by with_unfolding_all rfl, by (try simp only [List.length_map, List.length_append, List.length_set, List.length_replicate, List.length_cons, List.length_nil]); omega⟩) ?_; simp only [putV_none, setAll_cons, setAll_nil, scells_v, scells_own, scells_lst, scells_agg]; try simp only [strip_tmp, strip_const, lookV_cons, Nat.reduceEqDiff, ↓reduceIte, stripO_own, stripO_lst, stripO_v, stripO_plc, stripO_agg, stripO_fn, stripO_ifc]) | refine DS.drawL (id := 20) [0, 1, 2, 3, 4, 5, 6, 7, 8, 9, 10] 11 (by kernel_rfl) mixed (by simp only [pickL_cons, pickL_nil, get_zero', get_cons', pickO_some]; exact rfl) (by simp only [drop_zero', drop_cons', List.drop_nil]; exact rfl) ?_ | (with_reducible first | refine DD.fltS yU yU yU yE ?_ | refine DD.nil0 ?_) | fail)
            all_goals first
              | (exfalso; omega)
              | (refine DS.back (HC.out (j + 1) _ _ (by omega) (by omega) yS yS (fun b o e => ?_))
                 rw [HN.out, objI, List.map_set] at e
                 simp only [setS, ↓reduceIte]
                 exact e)
              | trace_state
          · have hjn : j = h.set.players.toNat := by omega
            subst hjn
            have hnn : ¬ ((h.set.players.toNat : Nat) : Int) < ((h.set.players.toNat : Nat) : Int) := by omega
            have HA := Box.mk (And.intro hA hAb)
            clear hnx hAb hA HC
            repeat' (first | (with_reducible first | refine DS.fltS yU yU yE ?_ | refine DS.opsNil ?_ | refine DS.seq ?_ | refine DS.regionL ?_ | (refine DS.cE yE ?_; refine CG.no ?_) | refine DS.blk ?_ | refine DS.exit yU ?_) | fail)
            all_goals first
              | (exfalso; omega)
              | exact DS.back (HB.out (i + 1, (0 : Int), A) _ _ (by dsimp only; omega) ⟨by dsimp only; omega, by dsimp only; rw [← HA.out.1]; exact HI.out.1, by dsimp only; omega, by dsimp only; exact HA.out.2.mono (by omega), fun h => by dsimp only at h; omega⟩ yS yS (fun b o e => by exact e))
              | trace_state
      · rw [if_pos hz] at i2
        have e : G.2 = X2 ∧ G.1 = [] := by rw [i2]; exact ⟨rfl, rfl⟩
        rw [if_pos (by rw [e.1]; exact hz), e.1]
        clear e i2 hXok i4 HB HG HW
        by_cases hi0 : i = 0
        · subst hce
          have hi0' : ¬ (0 : Int) < (i : Int) := by omega
          clear hi0 i5
          repeat' (first | (with_reducible first | refine DS.fltS yU yU yE ?_ | refine DS.opsNil ?_ | refine DS.seq ?_ | refine DS.regionL ?_ | (refine DS.cE yE ?_; refine CG.yes ?_) | refine DS.block ?_ | refine DS.skip ?_) | refine DS.drawL (id := 14) [0, 1, 2, 3, 4, 5, 6, 7, 8, 9, 10, 11, 12, 13, 14, 15, 16, 17, 18, 19, 20, 21, 22, 23, 24, 25, 26, 27] 28 (by kernel_rfl) mixed (by simp only [pickL_cons, pickL_nil, get_zero', get_cons', pickO_some]; exact rfl) (by simp only [drop_zero', drop_cons', List.drop_nil]; exact rfl) ?_ | (with_reducible first | refine DD.fltS yU yU yU yE ?_ | refine DD.flt1S yU yU yU yU yE ?_ | refine DD.nil0 ?_) | refine DD.pcS inferInstance (hp) yU yF ?_; simp only [delV_cons', delV_nil', Nat.reduceEqDiff, ↓reduceIte] | refine DS.retT [] yE trivial ?_ | fail)
          all_goals first | rfl | (exfalso; omega)
        · subst hce
          have hi0' : (0 : Int) < (i : Int) := by omega
          clear hi0 i5
          repeat' (first | (with_reducible first | refine DS.fltS yU yU yE ?_ | refine DS.opsNil ?_ | refine DS.seq ?_ | refine DS.regionL ?_ | (refine DS.cE yE ?_; refine CG.yes ?_) | refine DS.block ?_ | refine DS.skip ?_) | refine DS.drawL (id := 14) [0, 1, 2, 3, 4, 5, 6, 7, 8, 9, 10, 11, 12, 13, 14, 15, 16, 17, 18, 19, 20, 21, 22, 23, 24, 25, 26, 27] 28 (by kernel_rfl) mixed (by simp only [pickL_cons, pickL_nil, get_zero', get_cons', pickO_some]; exact rfl) (by simp only [drop_zero', drop_cons', List.drop_nil]; exact rfl) ?_ | (with_reducible first | refine DD.fltS yU yU yU yE ?_ | refine DD.flt1S yU yU yU yU yE ?_ | refine DD.nil0 ?_) | refine DD.pcS inferInstance (hp) yU yF ?_; simp only [delV_cons', delV_nil', Nat.reduceEqDiff, ↓reduceIte] | refine DS.retT [] yE trivial ?_ | fail)
          all_goals first | rfl | (exfalso; omega)
    · rw [drop_end hi, settleGo] at i2
      have hw := HW.out.1 (by rw [i2])
      rw [i2]
      dsimp only
      rw [if_neg (show ¬ (0 : Int) ≠ 0 by decide)]
      clear i2 HW HG HB
      obtain ⟨w1, w2⟩ := hw
      have hwl : rws[0].who.toNat < acc.length := by omega
      have hwI : ((rws[0].who.toNat : Nat) : Int) = rws[0].who := by omega
      have q1 := i4 _ (List.getElem_mem hwl)
      rw [getD_at hwl]
      generalize hwho : rws[0].who = wh at *
      have e1 : (acc.map I)[wh.toNat]? = some (I acc[wh.toNat]) := map_I_get hwl
      clear i4 i5
      repeat' (first | (with_reducible first | refine DS.fltS yU yU yE ?_ | refine DS.opsNil ?_ | refine DS.seq ?_ | refine DS.regionL ?_ | (refine DS.cE yE ?_; refine CG.no ?_) | refine DS.exit yU ?_) | (refine DS.store yR yE yE yE yE yU (by exact ⟨by with_unfolding_all rfl, by (try simp only [List.length_map, List.length_append, List.length_set, List.length_replicate, List.length_cons, List.length_nil]); omega⟩) ?_; simp only [putV_none, setAll_cons, setAll_nil, scells_v, scells_own, scells_lst, scells_agg]; try simp only [strip_tmp, strip_const, lookV_cons, Nat.reduceEqDiff, ↓reduceIte, stripO_own, stripO_lst, stripO_v, stripO_plc, stripO_agg, stripO_fn, stripO_ifc]) | refine DS.drawL (id := 22) [0, 1, 2, 3, 4, 5, 6, 7, 8, 9, 10, 11, 12, 13, 14, 15, 16, 17] 18 (by kernel_rfl) mixed (by simp only [pickL_cons, pickL_nil, get_zero', get_cons', pickO_some]; exact rfl) (by simp only [drop_zero', drop_cons', List.drop_nil]; exact rfl) ?_ | (with_reducible first | refine DD.fltS yU yU yU yE ?_ | refine DD.nil0 ?_) | fail)
      all_goals try (exfalso; omega)
      have hl2 : (acc.set wh.toNat (acc[wh.toNat] + sticks * h.pay.stick)).length = h.set.players.toNat := by rw [List.length_set]; exact i3
      refine DS.reS (S' := [(bo, objI (acc.set wh.toNat (acc[wh.toNat] + sticks * h.pay.stick)))]) (fun b o e => by rw [objI, List.map_set] at e; simp only [setS, ↓reduceIte]; exact e) ?_
      refine DS.freeze (t := 10) (b := bo) (sz := 1) (l := (acc.set wh.toNat (acc[wh.toNat] + sticks * h.pay.stick)).map I) (T := 3) yR (by simp only [lookS_cons, ↓reduceIte]) (by rw [List.length_map, hl2]; omega) ⟨Nat.le_refl _, by simp only [maxLen]; omega⟩ ?_
      refine DS.retA yG ?_
      rw [chunk_ints _ _ hl2]
      rfl
  · rw [settleX, if_pos h0]
    generalize houseS h = c at *
    refine DC.of_run Tryz.func29 rfl Tryz.ntmps29 Tryz.results29 (by simp) (fun _ _ => ?_); simp only [argV_cons, argV_nil, go_sem, Nat.zero_add, Nat.reduceAdd]
    repeat' (first | (with_reducible first | refine DS.fltS yU yU yE ?_ | refine DS.opsNil ?_ | refine DS.seq ?_ | refine DS.regionL ?_ | (refine DS.cE yE ?_; refine CG.yes ?_)) | refine DS.pcS inferInstance (hk) yR yF ?_ | (refine DS.boxF (t := 5) yU yE yU ?_; simp only [cells_agg, cells_v, cells_lst, cells_fn, map_nil'', map_cons'', copy_own, copy_lst, copy_v, copy_at, copy_agg, copy_fn, copy_ifc, copy_tup]) | refine DS.retT [] yE trivial ?_ | fail)
    all_goals first | rfl | (exfalso; omega)
end Go.XL
namespace Go.XL
open Go.Proofs
set_option maxRecDepth 100000
set_option maxHeartbeats 8000000
def Pattern.far (p:Pattern):Bool:=decide (70<(p.cond.length:Int)∨20<(p.excl.length:Int)∨20<(p.impl.length:Int))
def House.far (h:House):Bool:=decide (10<(h.set.suits.length:Int)∨40<(h.set.reds.length:Int)∨8<(h.forms.length:Int)∨14<(h.patterns.length:Int)∨70<(h.minor.length:Int)∨20<(h.scale.limits.length:Int)∨10<(h.pay.feeds.length:Int))
def longS (h:House) (l:List (List Int)):Bool:=h.far || h.patterns.any Pattern.far || l.any fun m=>decide (60<(m.length:Int))
theorem any_at {α:Type} {p:α→Bool} {l:List α} {i:Nat} (hi:i<l.length):(l.drop i).any p=(p l[i] || (l.drop (i+1)).any p):=by
 rw[List.drop_eq_getElem_cons hi,List.any_cons]
theorem longS_false {h:House} {l:List (List Int)} (e:longS h l=false):h.patterns.length≤14:=by
 rw[longS,Bool.or_eq_false_iff,Bool.or_eq_false_iff]at e
 have:=of_decide_eq_false e.1.1
 omega
theorem yX14 {p:Prop} (h:p:=by(simp (disch:=omega) only[go_sem,dopV,yV0,↓reduceIte,Nat.reduceEqDiff,Nat.reduceLT,Nat.reduceLeDiff,Nat.reduceAdd,Nat.reduceMul,Nat.reduceSub,Int.reduceToNat,Int.reduceLT,Int.reduceLE,Int.reduceEq,IntWalk.toNatUp,IntWalk.iteOmega,IntWalk.i64_in,V.flat,V.one, *,List.length_nil,Int.natCast_zero];exact rfl)):p:=h
theorem long0_pc (h:House):PC Tryz.prog 11 [h.val, .agg [.v (.slice none 0 0), .v (.slice none 0 0)], .lst []] (Bo (longS h [])):=by
 by_cases hf:h.far=true
 ·have e:longS h []=true:=by rw[longS,hf];rfl
  rw[e]
  have HF:=Box.mk (of_decide_eq_true hf)
  clear hf e
  refine DC.of_run Tryz.func11 rfl Tryz.ntmps11 Tryz.results11 (by simp) (fun _ _=>?_);simp only[argV_cons,argV_nil,go_sem,Nat.zero_add,Nat.reduceAdd]
  repeat' (first|(with_reducible first|refine DS.fltS yU yU yX14 ?_|refine DS.opsNil ?_|refine DS.seq ?_|refine DS.regionL ?_|(refine DS.cE yX14 ?_;first|refine CG.yes ?_|refine CG.no ?_)|(refine DS.gE yU yX14 ?_;first|refine GG.pF (fun _=>?_) (fun _=>?_)|refine GG.run ?_|refine GG.sT ?_)|refine DS.block ?_|refine DS.skip ?_)|(refine DS.boxF (t:=3) yU yX14 yU ?_;simp only[cells_agg,cells_v,cells_lst,cells_fn,map_nil'',map_cons'',copy_own,copy_lst,copy_v,copy_at,copy_agg,copy_fn,copy_ifc,copy_tup])|(refine DS.boxF (t:=4) yU yX14 yU ?_;simp only[cells_agg,cells_v,cells_lst,cells_fn,map_nil'',map_cons'',copy_own,copy_lst,copy_v,copy_at,copy_agg,copy_fn,copy_ifc,copy_tup])|fail)
  all_goals first
   | (exfalso;have:=HF.out;clear HF;omega)
   | (repeat' (first|refine DS.retT [] yE trivial ?_|fail);rfl)
 ·have hf2:=of_decide_eq_false (Bool.eq_false_iff.2 hf)
  have e:longS h []=h.patterns.any Pattern.far:=by rw[longS,Bool.eq_false_iff.2 hf];simp
  rw[e]
  clear e hf
  refine DC.of_run Tryz.func11 rfl Tryz.ntmps11 Tryz.results11 (by simp) (fun _ _=>?_);simp only[argV_cons,argV_nil,go_sem,Nat.zero_add,Nat.reduceAdd]
  repeat' (first|(with_reducible first|refine DS.fltS yU yU yX14 ?_|refine DS.opsNil ?_|refine DS.seq ?_|refine DS.regionL ?_|(refine DS.cE yX14 ?_;first|refine CG.yes ?_|refine CG.no ?_)|(refine DS.gE yU yX14 ?_;first|refine GG.pF (fun _=>?_) (fun _=>?_)|refine GG.run ?_|refine GG.sT ?_)|refine DS.block ?_|refine DS.skip ?_)|(refine DS.boxF (t:=3) yU yX14 yU ?_;simp only[cells_agg,cells_v,cells_lst,cells_fn,map_nil'',map_cons'',copy_own,copy_lst,copy_v,copy_at,copy_agg,copy_fn,copy_ifc,copy_tup])|(refine DS.boxF (t:=4) yU yX14 yU ?_;simp only[cells_agg,cells_v,cells_lst,cells_fn,map_nil'',map_cons'',copy_own,copy_lst,copy_v,copy_at,copy_agg,copy_fn,copy_ifc,copy_tup])|fail)
  all_goals try (exfalso;omega)
  refine DS.loopK [2,3] yN (fun(i:Nat)=> [(7,I i)]) (fun(i:Nat)=>i≤h.patterns.length∧h.patterns.any Pattern.far=(h.patterns.drop i).any Pattern.far) (fun(i:Nat)=>h.patterns.length-i) 0 yS ⟨Nat.zero_le _,rfl⟩ (fun i B hI hB=>?_);try dsimp only at hI hB;simp only[app_cons',app_nil']
  have HB:=Box.mk hB
  clear hB
  obtain⟨hI,hI2⟩:=hI
  by_cases hi:(i:Int)<(h.patterns.length:Int)
  ·have hi':i<h.patterns.length:=by omega
   rw[any_at hi']at hI2
   have HI:=Box.mk hI2
   clear hI2
   by_cases hp:h.patterns[i].far=true
   ·rw[HI.out,hp,Bool.true_or]
    have hp2:=of_decide_eq_true hp
    clear HI hp
    repeat' (first|(with_reducible first|refine DS.fltS yU yU yE ?_|refine DS.opsNil ?_|refine DS.seq ?_|refine DS.regionL ?_|(refine DS.cE yE ?_;first|refine CG.p (fun _=>?_) (fun _=>?_)|refine CG.yes ?_)|(refine DS.gE yU yE ?_;first|refine GG.pF (fun _=>?_) (fun _=>?_)|refine GG.run ?_|refine GG.sT ?_)|refine DS.blk ?_|refine DS.block ?_|refine DS.skip ?_)|refine DS.retT [] yE trivial ?_|fail)
    all_goals first|rfl|(exfalso;omega)
   ·have hp1:h.patterns[i].far=false:=Bool.eq_false_iff.2 hp
    have hp2:=of_decide_eq_false hp1
    have HP:=Box.mk hp1
    clear hp hp1
    repeat' (first|(with_reducible first|refine DS.fltS yU yU yE ?_|refine DS.opsNil ?_|refine DS.seq ?_|refine DS.regionL ?_|(refine DS.cE yE ?_;first|refine CG.p (fun _=>?_) (fun _=>?_)|refine CG.yes ?_)|(refine DS.gE yU yE ?_;first|refine GG.pF (fun _=>?_) (fun _=>?_)|refine GG.run ?_|refine GG.sT ?_)|refine DS.blk ?_|refine DS.block ?_|refine DS.skip ?_)|refine DS.retT [] yE trivial ?_|fail)
    all_goals first
     | exact DS.back (HB.out (i+1) _ _ (by omega) ⟨by omega,by rw[HI.out,HP.out,Bool.false_or]⟩ yS yS (fun b o e=>by cases e))
     | (exfalso;omega)
  ·rw[hI2,drop_end hi]
   clear hI2 HB
   repeat' (first|(with_reducible first|refine DS.fltS yU yU yE ?_|refine DS.opsNil ?_|refine DS.seq ?_|refine DS.regionL ?_|(refine DS.cE yE ?_;refine CG.no ?_)|refine DS.block ?_|refine DS.exit yU ?_)|fail)
   refine DS.loopK [2] yN (fun(j:Nat)=> [(8,I j)]) (fun(j:Nat)=>j=0) (fun(j:Nat)=>0) 0 yS rfl (fun j B hI hB=>?_);try dsimp only at hI hB;simp only[app_cons',app_nil']
   subst hI
   repeat' (first|(with_reducible first|refine DS.fltS yU yU yX14 ?_|refine DS.opsNil ?_|refine DS.seq ?_|refine DS.regionL ?_|(refine DS.cE yX14 ?_;refine CG.no ?_)|refine DS.exit yU ?_)|refine DS.retT [] yX14 trivial ?_|fail)
   all_goals first|rfl|(exfalso;simp at *;done)
end Go.XL
namespace Go.XL
section
variable (P:Program) (n:Nat) (r:Rr) (Q:VEnv→Sto→Prop)
def DX (ops:List Oper) (S0:Sto) (l:List Oper) (k:List Fr) (E0 E:VEnv) (T1:Sto→Prop):Prop:= ∀K0 K D W hv0 hs a SPs,Bx r K0 K D→PreV r.v0 hv0 →
 (∃env,Agree D n env a∧ ∀t v,lookV E0 t=some v→ ∃y,look env t=some y∧v.Rl hv0 y)→Pre hv0 hs→(∀b o,lookS S0 b=some o→hv0 b=none∧b<hs.size∧o.Rd hv0 hs b)→K.h0.size≤hs.size→(∃w1,Same W w1∧SPs noF w1.heap) →
 (∀F h1,SPs F h1→ ∃S1,T1 S1∧RunS P [] D n K hv0 hs S0 E S1 a F h1)→SW P ops.toArray (RdOf P [] hv0 hs S0) W (fun a' S'=> ∀w',S' noF w'.heap→Same W w'→ksem P n r K0 W Q k .normal a' w') l SPs a
end
section
variable {P:Program} {n:Nat} {r:Rr} {Q:VEnv→Sto→Prop} {k:List Fr} {E0 E:VEnv} {S0 S1:Sto} {T1:Sto→Prop} {ops l:List Oper} {dst:Option Tmp} {op:Op} {ty:TypeId} {pos:String} {af:Array Edge}
theorem RunS.after {o:Oper} {D:List Deferred} {K:Bs} {hv0:VH} {hs:Heap} {a:Act} {F:Nat→Prop} {v0:VH} {T:V→VEnv→Sto→Prop} {w:World} (hd:dok n o.dst=true) (ho:OpS v0 P n o E S1 T) (hfl:PreV v0 hv0) (h:RunS P [] D n K hv0 hs S0 E S1 a F w.heap) :
  Yields P o a w fun y w'=>Same w w'∧(∃v E' S',T v E' S'∧RunS P [] D n K hv0 hs S0 (putV E' o.dst v) S' (a.put o.dst y) F w'.heap)∧Kept F w.heap w'.heap:=by
 obtain⟨p1,p2,hv',hold,env',ha',s,p,f,g⟩:=h
 obtain⟨K',hc',s',hprot,hK1,hK2,back⟩:=s.frame fun b o e=>(g b o e).2.1
 refine(ho K' D hv' hc' env' a w (hfl.trans p) ha' s').mono fun y w' ⟨hsame,u,E2,S2,hv2,hold2,q1,q2,e1⟩=>?_
 obtain⟨hold3,t1,t2⟩:=back q1 q2
 have stay: ∀b,K'.B b→w'.heap[b]?=w.heap[b]?∧hv2 b=hv' b:=fun b hb=>⟨by rw[q2.base.2.2 b hb,hK1],by rw[q2.vbase.2 b hb,hK2]⟩
 have hFp: ∀b,F b→K'.B b:=fun b hb=>hprot b (p1 b hb).2 (f b hb).1 (by
  have:=(f b hb).2;rw[lookS_app]at this
  cases e:lookS S1 b with
  | none=>rfl
  | some o=>rw[e]at this;cases this)
 have hSp: ∀b o,lookS S0 b=some o→K'.B b:=fun b o e=>hprot b (Nat.lt_of_lt_of_le (g b o e).2.2 p2.1) (s.obj b o (by rw[lookS_app,(g b o e).2.1];exact e)).2.1 (g b o e).2.1
 have hsz:w.heap.size≤w'.heap.size:=by have:=q2.base.2.1;rwa [hK1]at this
 refine⟨hsame,⟨u,E2,S2,e1,fun b hb=>⟨(p1 b hb).1,Nat.lt_of_lt_of_le (p1 b hb).2 hsz⟩,⟨Nat.le_trans p2.1 hsz,MpOk.nil⟩,hv2,hold3,_,ha'.put' hd y,t1,p.trans q1,fun b hb=>?_,fun b o e=>?_⟩,fun b o hb eb _=>?_⟩
 ·refine⟨by rw[(stay b (hFp b hb)).2];exact(f b hb).1,?_⟩
  have hb2:=(f b hb).2
  rw[lookS_app]at hb2 ⊢
  cases e:lookS S2 b with
  | some o=>exact absurd (hFp b hb) (q2.obj b o e).1
  | none =>
   cases e1:lookS S1 b with
   | some o=>rw[e1]at hb2;cases hb2
   | none=>rw[e1]at hb2;exact hb2
 ·obtain⟨g1,g2,g3⟩:=g b o e
  exact⟨(stay b (hSp b o e)).1.trans g1,t2 b o e,g3⟩
 ·rw[(stay b (hFp b hb)).1];exact eb
theorem DD.stepX {o:Oper} {T:V→VEnv→Sto→Prop} (hg:o.guard=none) (hc:isChain o=true) (hb:isBirth o.op=false) (hd:dok n o.dst=true) (ho:OpS r.v0 P n o E S1 T) {E':VEnv} (hT: ∀v E2 S',T v E2 S'→E2=E'∧ ∃x,v = .v x) (hdst: ∃td:Nat,o.dst=some td)
  (q: ∀x,DX P n r Q ops S0 l k (delO o.dst E0) (putV E' o.dst (.v x)) (T (.v x) E')):DD P n r Q ops S0 [] (o::l) k E0 E S1:=fun K0 K D W hv0 hs a SPs hbx hfl hE hp hS0 hz hl hR=>by
 show SW P ops.toArray _ W _ (o::l) SPs a
 unfold SW Front
 rw[if_pos (by simp[Region.wanted,hg]),if_pos hc]
 refine⟨fun _ y=>y,fun _ y=>fun F h1=> ∃v E' S',T v E' S'∧RunS P [] D n K hv0 hs S0 (putV E' o.dst v) S' (a.put o.dst y) F h1,?_,fun _ y ⟨w',hw',hT'⟩=>?_⟩
 ·unfold Spec
  rw[if_neg (by simp[hb])]
  have G:=fun v E' S' y=>RunS.good P [] D n K hv0 hs S0 (putV E' o.dst v) S' (a.put o.dst y)
  refine⟨rfl,_,rfl,fun y=>⟨fun F h ⟨v,E',S',_,h2⟩=>(G v E' S' y).ext F h h2,fun F h ob ⟨v,E',S',h1,h2⟩=>⟨v,E',S',h1,(G v E' S' y).push F h ob h2⟩,fun F F' h hF ⟨v,E',S',h1,h2⟩=>⟨v,E',S',h1,(G v E' S' y).less F F' h hF h2⟩⟩,fun w F hF hw=>?_⟩
  exact RunS.after hd ho hfl (hR F w.heap hF)
 ·refine q y K0 K D W hv0 hs _ _ hbx hfl (e0_del hE hd y) hp hS0 hz ⟨w',hw',hT'⟩ fun F h1 ⟨v,E2,S',t1,t2⟩=>?_
  obtain⟨rfl,x,rfl⟩:=hT v E2 S' t1
  obtain⟨td,htd⟩:=hdst
  have hxy:x=y:=by
   obtain⟨_,_,hv',hold,env',ha',s,_⟩:=t2
   obtain⟨y',e1,e2,_⟩:=s.slot td (.v x) (by rw[htd];simp[putV,lookV])
   simp only[V.Rl]at e2
   have h1:=ha'.look td y' e1
   have hlt:td<n:=by rw[htd]at hd;simpa [dok] using hd
   rw[htd]at h1 ha'
   have hsz:=ha'.size
   simp only[Act.put]at h1 hsz
   rw[Array.getD_eq_getD_getElem?]at h1
   rw[Array.size_setIfInBounds]at hsz
   rw[Array.getElem?_setIfInBounds_self_of_lt (by omega)]at h1
   simp only[Option.getD_some]at h1
   rw[h1,e2]
  subst hxy
  exact⟨S',t1,t2⟩
theorem DX.flt {v:V} (hs1:isStep op=false) (hh:isHop op=false) (hd:dok n dst=true) (hv:dopV P S0 (evV E0) op=some v) (q:DX P n r Q ops S0 l k (putV E0 dst v) (putV E dst v) T1) :
  DX P n r Q ops S0 (⟨dst,op,ty,pos,af,none⟩::l) k E0 E T1:=fun K0 K D W hv0 hs a SPs hbx hfl hE hp hS0 hz hl hR=>by
 obtain⟨env,ha,hE'⟩:=hE
 have rl:RlO hv0 (evV E0) (ev env):=by
  intro x u e
  cases x with
  | tmp t=>exact hE' t u e
  | const c=>simp only[evV,Option.some.injEq]at e;subst e;exact⟨c,rfl,V.Rl_v⟩
  | global g=>simp only[evV,Option.some.injEq]at e;subst e;exact⟨_,rfl,gV_Rl (r.kn.mono hfl) g⟩
  | func g=>simp only[evV,Option.some.injEq]at e;subst e;exact⟨_,rfl,by simp only[V.Rl];exact⟨[],[],rfl,by simp[RlL],by simp[RlL]⟩⟩
 have hpl:=least_pre (S0:=S0) hp fun b o e=>(hS0 b o e).1
 obtain⟨y,h2,h3⟩:=dopV_real (h:=least hv0 hs S0) hpl (fun b o e=>by
  obtain⟨_,hlt,hr⟩:=hS0 b o e
  cases o with
  | cells cl T =>
   obtain⟨cs,q1,q2⟩:=hr
   exact⟨cs,by rw[least_S e hlt];exact q1,q2⟩
  | raw o=>exact(least_S e hlt).trans hr) rl hv
 show SW P ops.toArray _ W _ (_::l) SPs a
 unfold SW Front
 rw[if_pos (by simp[Region.wanted]),if_neg (by simp[isChain,hs1,hh])]
 refine⟨y, .inl fun w' hw'=>dop_run ha (dop_mono (least_ld hw') h2),?_⟩
 refine q K0 K D W hv0 hs _ SPs hbx hfl (e0_put ⟨env,ha,hE'⟩ hd h3) hp hS0 hz hl fun F h1 hF=>?_
 obtain⟨S1,t1,p1,p2,hv',hold,env',ha',s,p,f,g⟩:=hR F h1 hF
 exact⟨S1,t1,p1,p2,hv',hold,_,ha'.put' hd y,s.put dst (V.Rl_mono p v y h3) fun _ _=>V.free_Own (dopV_free hv) y,p,f,g⟩
theorem DX.step {o:Oper} {v:V} {E':VEnv} (hg:o.guard=none) (hc:isChain o=true) (hb:isBirth o.op=false) (hd:dok n o.dst=true) (ho: ∀S1,T1 S1→OpS r.v0 P n o E S1 (fun u E2 S2=>u=v∧E2=E'∧S2=S1)) (q:DX P n r Q ops S0 l k (delO o.dst E0) (putV E' o.dst v) T1) :
  DX P n r Q ops S0 (o::l) k E0 E T1:=fun K0 K D W hv0 hs a SPs hbx hfl hE hp hS0 hz hl hR=>by
 show SW P ops.toArray _ W _ (o::l) SPs a
 unfold SW Front
 rw[if_pos (by simp[Region.wanted,hg]),if_pos hc]
 refine⟨fun _ y=>y,fun _ y=>fun F h1=> ∃S1,T1 S1∧RunS P [] D n K hv0 hs S0 (putV E' o.dst v) S1 (a.put o.dst y) F h1,?_,fun _ y ⟨w',hw',hT'⟩=>?_⟩
 ·unfold Spec
  rw[if_neg (by simp[hb])]
  have G:=fun S' y=>RunS.good P [] D n K hv0 hs S0 (putV E' o.dst v) S' (a.put o.dst y)
  refine⟨rfl,_,rfl,fun y=>⟨fun F h ⟨S',_,h2⟩=>(G S' y).ext F h h2,fun F h ob ⟨S',h1,h2⟩=>⟨S',h1,(G S' y).push F h ob h2⟩,fun F F' h hF ⟨S',h1,h2⟩=>⟨S',h1,(G S' y).less F F' h hF h2⟩⟩,fun w F hF hw=>?_⟩
  obtain⟨S1,t1,t2⟩:=hR F w.heap hF
  refine(RunS.after hd (ho S1 t1) hfl t2).mono ?_
  rintro y w' ⟨g1,⟨u,E2,S2,⟨rfl,rfl,rfl⟩,g2⟩,g3⟩
  exact⟨g1,⟨S2,t1,g2⟩,g3⟩
 ·exact q K0 K D W hv0 hs _ _ hbx hfl (e0_del hE hd y) hp hS0 hz ⟨w',hw',hT'⟩ fun F h1 hF=>hF
theorem DX.pc {t:Nat} {ts:Array TypeId} {g:FuncId} {args:List V} {xs:Array Operand} {fn:Func} {v:V} (hf:FnOk P g fn) (hc:PC P g args v) (hd:decide (t<n)=true) (he:(evsV (evV E) xs.toList).map (·.map V.peek)=some args) (q:DX P n r Q ops S0 l k (delV t E0) ((t,v)::E) T1) :
  DX P n r Q ops S0 (⟨some t, .call {callee := .value (.func g),args:=xs,argTypes:=ts},ty,pos,af,none⟩::l) k E0 E T1:=by
 rw[Option.map_eq_some_iff]at he
 obtain⟨ws,e1,e2⟩:=he
 refine DX.step (E':=E) rfl rfl rfl hd (fun S1 _=>?_) q
 refine OpS.mono (OpS.call (fs:= []) (cs:= []) hf rfl e1 (S1:= []) (S2:=S1) (R:=fun u S'=>u=v∧S'= []) (by simpa [e2] using DC.pure hc _) (fun _ _ e=>by cases e) (fun _ _ e=>⟨e,rfl⟩)) ?_
 rintro u E' S' ⟨rfl,S2,rfl,⟨rfl,rfl⟩,-⟩
 exact⟨rfl,rfl,rfl⟩
theorem DX.last {o:Oper} {T:Sto→V→VEnv→Sto→Prop} (hg:o.guard=none) (hc:isChain o=true) (hb:isBirth o.op=false) (hd:dok n o.dst=true) (ho: ∀S1,T1 S1→OpS r.v0 P n o E S1 (T S1)) (q: ∀S1 v E' S',T1 S1→T S1 v E' S'→(∀b o,lookS S0 b=some o→lookS S' b=none)→DS P n r Q k (putV E' o.dst v) (S'++S0)) :
  DX P n r Q ops S0 [o] k E0 E T1:=fun K0 K D W hv0 hs a SPs hbx hfl hE hp hS0 hz hl hR=>by
 show SW P ops.toArray _ W _ [o] SPs a
 unfold SW Front
 rw[if_pos (by simp[Region.wanted,hg]),if_pos hc]
 refine⟨fun _ y=>y,fun _ y=>fun F h1=> ∃S1 v E' S',(T1 S1∧T S1 v E' S')∧RunS P [] D n K hv0 hs S0 (putV E' o.dst v) S' (a.put o.dst y) F h1,?_,fun _ y ⟨w',hw',hT⟩=>?_⟩
 ·unfold Spec
  rw[if_neg (by simp[hb])]
  have G:=fun v E' S' y=>RunS.good P [] D n K hv0 hs S0 (putV E' o.dst v) S' (a.put o.dst y)
  refine⟨rfl,_,rfl,fun y=>⟨fun F h ⟨S1,v,E',S',_,h2⟩=>(G v E' S' y).ext F h h2,fun F h ob ⟨S1,v,E',S',h1,h2⟩=>⟨S1,v,E',S',h1,(G v E' S' y).push F h ob h2⟩,fun F F' h hF ⟨S1,v,E',S',h1,h2⟩=>⟨S1,v,E',S',h1,(G v E' S' y).less F F' h hF h2⟩⟩,fun w F hF hw=>?_⟩
  obtain⟨S1,t1,t2⟩:=hR F w.heap hF
  refine(RunS.after hd (ho S1 t1) hfl t2).mono ?_
  rintro y w' ⟨g1,⟨u,E2,S2,g4,g2⟩,g3⟩
  exact⟨g1,⟨S1,u,E2,S2,⟨t1,g4⟩,g2⟩,g3⟩
 ·intro w2 ⟨S1,v,E',S',⟨h0,h1⟩,h2⟩ hw2
  obtain⟨_,_,hv,hold,env,ha,s,_,_,hg⟩:=h2
  exact q S1 v E' S' h0 h1 (fun b o e=>(hg b o e).2.1) K0 W _ w2 ⟨K,D,hv,hold,env,hbx,ha,s⟩ hw2
end
end Go.XL
namespace Go.XL
section
variable {P:Program} {n:Nat} {r:Rr} {Q:VEnv→Sto→Prop} {k:List Fr} {E0 E:VEnv} {S0 S1:Sto} {T1:Sto→Prop} {ops l:List Oper} {dst:Option Tmp} {op:Op} {ty:TypeId} {pos:String} {af:Array Edge}
theorem DD.toX (q:DX P n r Q ops S0 l k E0 E (fun S=>S=S1)):DD P n r Q ops S0 [] l k E0 E S1:=fun K0 K D W hv0 hs a SPs h1 h2 h3 h4 h5 h6 h7 h8 =>
 q K0 K D W hv0 hs a SPs h1 h2 h3 h4 h5 h6 h7 fun F h hF=>⟨S1,rfl,h8 F h hF⟩
theorem DX.nil (q: ∀S1,T1 S1→(∀b o,lookS S0 b=some o→lookS S1 b=none)→DS P n r Q k E (S1++S0)):DX P n r Q ops S0 [] k E0 E T1:=fun K0 K D W hv0 hs a SPs hbx hfl _ _ _ _ _ hR w' hS hw=>by
 obtain⟨S1,h0,_,_,hv,hold,env,ha,s,_,_,hg⟩:=hR noF w'.heap hS
 exact q S1 h0 (fun b o e=>(hg b o e).2.1) K0 W a w' ⟨K,D,hv,hold,env,hbx,ha,s⟩ hw
theorem DX.stepX {ι:Type} {o:Oper} {T:Sto→V→VEnv→Sto→Prop} (vf:ι→V) (inj: ∀hv hv' x x' y,(vf x).Rl hv y→(vf x').Rl hv' y→x=x') (hg:o.guard=none) (hc:isChain o=true) (hb:isBirth o.op=false) (hd:dok n o.dst=true) (ho: ∀S1,T1 S1→OpS r.v0 P n o E S1 (T S1)) {E':VEnv} (hT: ∀S1 v E2 S',T1 S1→T S1 v E2 S'→E2=E'∧ ∃x,v=vf x) (hdst: ∃td:Nat,o.dst=some td)
  (q: ∀x,DX P n r Q ops S0 l k (delO o.dst E0) (putV E' o.dst (vf x)) (fun S'=> ∃S1,T1 S1∧T S1 (vf x) E' S')):DX P n r Q ops S0 (o::l) k E0 E T1:=fun K0 K D W hv0 hs a SPs hbx hfl hE hp hS0 hz hl hR=>by
 show SW P ops.toArray _ W _ (o::l) SPs a
 unfold SW Front
 rw[if_pos (by simp[Region.wanted,hg]),if_pos hc]
 refine⟨fun _ y=>y,fun _ y=>fun F h1=> ∃S1 v E' S',(T1 S1∧T S1 v E' S')∧RunS P [] D n K hv0 hs S0 (putV E' o.dst v) S' (a.put o.dst y) F h1,?_,fun _ y ⟨w',hw',hT'⟩=>?_⟩
 ·unfold Spec
  rw[if_neg (by simp[hb])]
  have G:=fun v E' S' y=>RunS.good P [] D n K hv0 hs S0 (putV E' o.dst v) S' (a.put o.dst y)
  refine⟨rfl,_,rfl,fun y=>⟨fun F h ⟨S1,v,E',S',_,h2⟩=>(G v E' S' y).ext F h h2,fun F h ob ⟨S1,v,E',S',h1,h2⟩=>⟨S1,v,E',S',h1,(G v E' S' y).push F h ob h2⟩,fun F F' h hF ⟨S1,v,E',S',h1,h2⟩=>⟨S1,v,E',S',h1,(G v E' S' y).less F F' h hF h2⟩⟩,fun w F hF hw=>?_⟩
  obtain⟨S1,t1,t2⟩:=hR F w.heap hF
  refine(RunS.after hd (ho S1 t1) hfl t2).mono ?_
  rintro y w' ⟨g1,⟨u,E2,S2,g4,g2⟩,g3⟩
  exact⟨g1,⟨S1,u,E2,S2,⟨t1,g4⟩,g2⟩,g3⟩
 ·obtain⟨td,htd⟩:=hdst
  have rd: ∀{F h1 v S'},RunS P [] D n K hv0 hs S0 (putV E' o.dst v) S' (a.put o.dst y) F h1→ ∃hv,v.Rl hv y:=fun{F h1 v S'} t2=>by
   obtain⟨_,_,hv',hold,env',ha',s,_⟩:=t2
   obtain⟨y',e1,e2,_⟩:=s.slot td v (by rw[htd];simp[putV,lookV])
   have h1:=ha'.look td y' e1
   have hlt:td<n:=by rw[htd]at hd;simpa [dok] using hd
   rw[htd]at h1 ha'
   have hsz:=ha'.size
   simp only[Act.put]at h1 hsz
   rw[Array.getD_eq_getD_getElem?]at h1
   rw[Array.size_setIfInBounds]at hsz
   rw[Array.getElem?_setIfInBounds_self_of_lt (by omega)]at h1
   simp only[Option.getD_some]at h1
   exact⟨hv',by rw[h1];exact e2⟩
  have hT0:=hT'
  obtain⟨Sa,va,Ea,Sa',⟨u1,u2⟩,u3⟩:=hT0
  obtain⟨rfl,x,rfl⟩:=hT Sa va Ea Sa' u1 u2
  obtain⟨hva,ra⟩:=rd u3
  refine q x K0 K D W hv0 hs _ _ hbx hfl (e0_del hE hd y) hp hS0 hz ⟨w',hw',hT'⟩ fun F h1 ⟨S1,v,E2,S',⟨t0,t1⟩,t2⟩=>?_
  obtain⟨rfl,x',rfl⟩:=hT S1 v E2 S' t0 t1
  obtain⟨hvb,rb⟩:=rd t2
  obtain rfl:=inj _ _ _ _ _ rb ra
  exact⟨S',⟨S1,t0,t1⟩,t2⟩
theorem DX.bornO {o:Oper} {cl:List V} {T:TypeId} {vb:Nat→Value} (hg:o.guard=none) (hc:isChain o=true) (hb:isBirth o.op=true) (hd:dok n o.dst=true)
  (hr: ∃cs:List Value,(∀hv,RlL hv cl cs)∧Ones cs∧ ∀(a:Act) (w:World),a.tmps.size=n→(execOp a.eval o).run P w = .ok (.value (vb w.heap.size)) {w with heap:=w.heap.push (.cells cs.toArray T)}) (hfree: ∀v∈cl,v.free=true)
  (q: ∀u,lookS S0 u=none→DX P n r Q ops S0 l k (putV E0 o.dst (.v (vb u))) (putV E o.dst (.v (vb u))) (fun S'=> ∃S1,T1 S1∧lookS S1 u=none∧S'=(u, .cells cl T)::S1)):DX P n r Q ops S0 (o::l) k E0 E T1:=fun K0 K D W hv0 hs a SPs hbx hfl hE hp hS0 hz hl hR=>by
 obtain⟨w1,hw1,hSP⟩:=hl
 obtain⟨_,_,_,_,hv1,hold1,env1,ha1,s1,_⟩:=hR noF w1.heap hSP
 obtain⟨cs,c1,c2,c3⟩:=hr
 show SW P ops.toArray _ W _ (o::l) SPs a
 unfold SW Front
 rw[if_pos (by simp[Region.wanted,hg]),if_pos hc]
 refine⟨fun u _=>vb u,fun u _=>bornS SPs u (.cells cs.toArray T),?_,fun u _ ⟨w',hw',hT⟩=>?_⟩
 ·unfold Spec
  rw[if_pos hb]
  exact⟨.cells cs.toArray T,vb,rfl,fun w=>c3 a w ha1.size,rfl,rfl⟩
 ·have key: ∀F h1,bornS SPs u (.cells cs.toArray T) F h1→ ∃S1,T1 S1∧RunS P [] D n K hv0 hs S0 (putV E o.dst (.v (vb u))) ((u, .cells cl T)::S1) (a.put o.dst (vb u)) F h1∧lookS S1 u=none∧lookS S0 u=none:=by
   rintro F h1 ⟨t1,t2,t3⟩
   obtain⟨S1,t0,p1,p2,hv',hold,env',ha',s,p,f,g⟩:=hR _ h1 t1
   have hu:=p1 u (.inr rfl)
   have fu:=f u (.inr rfl)
   have hB: ¬K.B u:=fun hb=>by
    have:=s.base.1 u hb
    omega
   have nS:lookS S1 u=none∧lookS S0 u=none:=by
    have:=fu.2
    rw[lookS_app]at this
    cases e:lookS S1 u with
    | some o=>rw[e]at this;cases this
    | none=>rw[e]at this;exact⟨rfl,this⟩
   refine⟨S1,t0,⟨fun b hb=>p1 b (.inl hb),⟨p2.1,MpOk.nil⟩,hv',hold,_,ha'.put' hd (vb u),(s.adoptO t3 hB fu.1 (c1 hv') c2 hfree).put o.dst V.Rl_v fun _ _=>trivial,p,fun b hb=>⟨(f b (.inl hb)).1,?_⟩,fun b ob e=>?_⟩,nS⟩
   ·show lookS ((u,_)::(S1++S0)) b=none
    simp only[lookS]
    rw[if_neg (fun(e:u=b)=>t2 (by subst e;exact hb))];exact(f b (.inl hb)).2
   ·obtain⟨g1,g2,g3⟩:=g b ob e
    refine⟨g1,?_,g3⟩
    simp only[lookS]
    rw[if_neg (fun e=>by subst e;omega)];exact g2
  obtain⟨_,_,_,_,n2⟩:=key noF w'.heap hT
  exact q u n2 K0 K D W hv0 hs _ _ hbx hfl (e0_put hE hd V.Rl_v) hp hS0 hz ⟨w',hw',hT⟩ fun F h1 hF=>let ⟨S1,a1,a2,a3,_⟩:=key F h1 hF;⟨_,⟨S1,a1,a3,rfl⟩,a2⟩
theorem DX.alloc {T:TypeId} {z:Value} (hd:dok n dst=true) (hz:tzero P T=some z) (ho:onesB z.cells.toList=true) (q: ∀u,lookS S0 u=none→DX P n r Q ops S0 l k (putV E0 dst (.v (.pointer (some ⟨u,0,none⟩)))) (putV E dst (.v (.pointer (some ⟨u,0,none⟩)))) (fun S'=> ∃S1,T1 S1∧lookS S1 u=none∧S'=(u, .cells (z.cells.toList.map V.v) T)::S1)) :
  DX P n r Q ops S0 (⟨dst, .alloc T,ty,pos,af,none⟩::l) k E0 E T1:=by
 refine DX.bornO (vb:=fun u => .pointer (some ⟨u,0,none⟩)) rfl rfl rfl hd ⟨z.cells.toList,fun hv=>RlL_raw _,onesB_spec ho,fun a w hsz=>?_⟩ (raws_free _) q
 have ha:Agree a.defers n [] a:=⟨hsz,rfl,fun t v e=>by cases e⟩
 refine exec_hop (P:=P) (y:=fun u => .pointer (some ⟨u,0,none⟩)) ha (fun i=>by simp[undef]) (fun h1'=>?_) w
 simp only[hop,hz]
end
end Go.XL
namespace Go.XL
theorem DS.drawLS {P:Program} {n:Nat} {r:Rr} {Q:VEnv→Sto→Prop} {k:List Fr} {E:VEnv} {S:Sto} {id:Nat} {os l1 l2:List Oper} (S0 S1:Sto) (ord:List Nat) (m:Nat) (hok:drawOk os.toArray ord m=true) (hm:P.follows .mixedOrders=true) (h1:pickL os ord=l1) (h2:os.drop m=l2)
  (h0: ∀b o,lookS S0 b=some o→lookS S b=some o∧lookS S1 b=none) (h3: ∀b o,lookS S1 b=some o→lookS S b=some o)
  (q:DD P n r Q os S0 [] l1 (.ops os l2::k) E E S1):DS P n r Q (.code (.region id os.toArray true)::k) E S :=
 DS.draw S0 S1 [] MpOk.nil ord m hok hm h0 h3 (by rw[pickL_eq,h1];simpa [h2] using q)
end Go.XL
namespace Go.XL
open Go.Proofs
set_option maxRecDepth 100000
set_option maxHeartbeats 4000000
def DCf (v1:VH) (P:Program) (f:FuncId) (args:List V) (S:Sto) (R:V→Sto→Prop):Prop:= ∀v0,PreV v1 v0→DCh v0 P f args S R
theorem DCf.of_run {v1:VH} {P:Program} {f:FuncId} {fn:Func} {c:Code} {args:List V} {S:Sto} {R:V→Sto→Prop} (hf:P.funcs[f]?=some fn) (hb:fn.body=some c) {m:Nat} (hm:fn.ntmps=m) {rs:List ResultVar} (hrs:fn.results=rs.toArray) (hn:args.length≤m)
  (q: ∀(v0:VH) (hk0:Kn v0),PreV v1 v0→DS P m ⟨none,v0,hk0⟩ (FinV P rs R) [.code c] (argV 0 args) S):DCf v1 P f args S R:=fun v0 hp K hv hold h xs hfl ha st=>(DCh.of_run (K.kn.mono st.vbase.1) hf hb hm hrs hn (q hv _ (hp.trans hfl))) K hv hold h xs (PreV.refl hv) ha st
theorem St.freezeV {K:Bs} {hv:VH} {hold:Nat→Option Hd} {E:VEnv} {S:Sto} {env:Env} {h:Heap} (s:St K hv hold E S env h) {b:Nat} {cs0:List Value} {T:TypeId} (hS:lookS S b=some (.cells (cs0.map V.v) T)) :
  ∃hv',PreV hv hv'∧St K hv' hold E (delS b S) env h∧hv' b=some (.cells cs0.toArray T (0,0)):=by
 obtain⟨o1,o2,cs,o3,o4,o5,o6⟩:=s.obj b _ hS
 have hcs:cs=cs0:=by
  have key: ∀(l:List Value) (ys:List Value),RlL hv (l.map V.v) ys→ys=l:=by
   intro l
   induction l with
   | nil=>intro ys h;simpa [RlL] using h
   | cons a l ih =>
    intro ys h
    simp only[List.map_cons,RlL,V.Rl]at h
    obtain⟨z,zs,rfl,rfl,h3⟩:=h
    rw[ih _ h3]
  exact key _ _ o4
 subst hcs
 have hpre:PreV hv (addB hv b (.cells cs.toArray T (0,0))):=addB_pre (.inl o2)
 refine⟨_,hpre,⟨addB_Pre s.pre o3 (leO.refl _),fun t v e=>?_,fun b' o e=>?_,s.held,s.base,s.vbase.1.trans hpre,fun j hj=>?_⟩,addB_self ..⟩
 ·obtain⟨y,h1,h2,h3⟩:=s.slot t v e
  refine⟨y,h1,V.Rl_mono hpre v y h2,h3.keep fun g ob a1 a2 a3=>⟨rfl,addB_ne _ fun e=>?_,a1⟩⟩
  subst e;rw[o2]at a2;cases a2
 ·rw[lookS_del]at e
  split at e
  ·cases e
  ·rename_i hb
   obtain⟨r1,r2,r3⟩:=s.obj b' o e
   exact⟨r1,by rw[addB_ne _ hb];exact r2,Ob.keep r3 hpre rfl fun g i ob a1 a2 a3=>⟨rfl,addB_ne _ (fun e=>by subst e;rw[o2]at a2;cases a2),a1⟩⟩
 ·have hne:j≠b:=fun e=>by subst e;exact o1 hj
  rw[addB_ne _ hne];exact s.vbase.2 j hj
def VHs :List (Nat×List Value×TypeId)→VH
 | [],_=>none
 | (b,cs,T)::r,j=>if j=b then some (.cells cs.toArray T (0,0))else VHs r j
def delSs :List (Nat×List Value×TypeId)→Sto→Sto
 | [],S=>S
 | (b,_,_)::r,S=>delSs r (delS b S)
theorem St.freezeVs {K:Bs} {hold:Nat→Option Hd} {E:VEnv} {env:Env} {h:Heap}: ∀(F:List (Nat×List Value×TypeId)) {hv:VH} {S:Sto},St K hv hold E S env h→F.Pairwise (fun a b=>a.1≠b.1)→(∀x∈F,lookS S x.1=some (.cells (x.2.1.map V.v) x.2.2)) →
  ∃hv',PreV hv hv'∧St K hv' hold E (delSs F S) env h∧PreV (VHs F) hv'
 | [],hv,S,s,_,_=>⟨hv,PreV.refl hv,s,fun _ _ e=>by cases e⟩
 | (b,cs,T)::r,hv,S,s,hp,hF=>by
  rw[List.pairwise_cons]at hp
  obtain⟨hv1,p1,s1,e1⟩:=s.freezeV (hF _ (List.mem_cons_self ..))
  obtain⟨hv2,p2,s2,e2⟩:=St.freezeVs r s1 hp.2 (fun x hx=>by
   rw[lookS_del,if_neg (fun e=>hp.1 x hx e.symm)];exact hF x (List.mem_cons_of_mem _ hx))
  refine⟨hv2,p1.trans p2,s2,fun j o ej=>?_⟩
  simp only[VHs]at ej
  split at ej
  ·rename_i hj;subst hj;cases ej
   exact p2 _ _ e1
  ·exact e2 j o ej
section
variable {v0:VH} {P:Program} {n:Nat} {r:Rr} {Q:VEnv→Sto→Prop} {k:List Fr} {E E0:VEnv} {S S0:Sto} {T1:Sto→Prop} {dst:Option Tmp} {ty:TypeId} {pos:String} {af:Array Edge} {ts:Array TypeId} {ops l:List Oper}
theorem OpS.callR {cx:Operand} {g:FuncId} {cs:List Value} {args:List V} {xs:Array Operand} {fn:Func} {S1 S2:Sto} {R:V→Sto→Prop} (hf:FnOk P g fn) (hcx:evV E cx=some (.v (.func (.func g) #[] cs.toArray))) (he:evsV (evV E) xs.toList=some args)
  (hc:DCh v0 P g (args++cs.map V.v) S1 R) (h1: ∀b o,lookS S1 b=some o→lookS S b=some o) (h2: ∀b o,lookS S2 b=some o→lookS S b=some o∧lookS S1 b=none) :
  OpS v0 P n ⟨dst, .call {callee := .value cx,args:=xs,argTypes:=ts},ty,pos,af,none⟩ E S (fun v E' S'=>E'=E∧ ∃S0,S'=S0++S2∧R v S0∧ ∀b o,lookS S0 b=some o→lookS S2 b=none):=by
 intro K D hv hold env a w hfl ha s
 obtain⟨y,e1,e2⟩:=s.rl _ _ hcx
 simp only[V.Rl]at e2;subst e2
 obtain⟨ax,e5,e6⟩:=evsV_real s.rl he
 obtain⟨K',hcl,s1,back⟩:=s.call h1 h2
 refine yields_call (fs:= []) (cs:=cs) ha hf e1 e5 ?_
 refine(hc K' hv hcl w.heap _ hfl (by simpa using e6.app (RlL_raw cs)) s1 w rfl).mono fun e w' ⟨v,ev,hs,u,S',hv',hold',p1,p2,p3⟩=>?_
 obtain⟨hold2,q1,q2⟩:=back (d:=dst) p1 p2
 exact⟨v,ev,hs,u,E,_,hv',hold2,p1,q1,rfl,S',rfl,p3,q2⟩
theorem DS.callR {t:Nat} {cx:Operand} {g:FuncId} {cs:List Value} {args:List V} {xs:Array Operand} {fn:Func} {R:V→Sto→Prop} (hf:FnOk P g fn) (hcx:evV E cx=some (.v (.func (.func g) #[] cs.toArray))) (he:evsV (evV E) xs.toList=some args) (S1 S2:Sto)
  (hc:DCh r.v0 P g (args++cs.map V.v) S1 R) (h1: ∀b o,lookS S1 b=some o→lookS S b=some o) (h2: ∀b o,lookS S2 b=some o→lookS S b=some o∧lookS S1 b=none) (hd:decide (t<n)=true)
  (q: ∀u S',R u S'→(∀b o,lookS S' b=some o→lookS S2 b=none)→DS P n r Q (.ops ops l::k) ((t,u)::E) (S'++S2)):DS P n r Q (.ops ops (⟨some t, .call {callee := .value cx,args:=xs,argTypes:=ts},ty,pos,af,none⟩::l)::k) E S:=by
 refine DS.step rfl rfl hd (OpS.callR hf hcx he hc h1 h2) fun v E' S' ⟨eE,S0,eS,hR,hdis⟩=>?_
 subst eE;subst eS
 simpa [putV] using q v S0 hR hdis
theorem OpS.callF {cx:Operand} {g:FuncId} {cs:List Value} {args:List V} {xs:Array Operand} {fn:Func} {S1:Sto} {R:V→Sto→Prop} (F:List (Nat×List Value×TypeId)) (hF:F.Pairwise (fun a b=>a.1≠b.1)) (hFS: ∀x∈F,lookS S x.1=some (.cells (x.2.1.map V.v) x.2.2))
  (hf:FnOk P g fn) (hcx:evV E cx=some (.v (.func (.func g) #[] cs.toArray))) (he:evsV (evV E) xs.toList=some args)
  (hc:DCf (VHs F) P g (args++cs.map V.v) S1 R) (h1: ∀b o,lookS S1 b=some o→lookS (delSs F S) b=some o) :
  OpS v0 P n ⟨dst, .call {callee := .value cx,args:=xs,argTypes:=ts},ty,pos,af,none⟩ E S (fun v E' S'=>E'=E∧R v S'):=by
 intro K D hv0 hold env a w hfl ha s0
 obtain⟨hv,hp0,s,hp1⟩:=s0.freezeVs F hF hFS
 obtain⟨y,e1,e2⟩:=s.rl _ _ hcx
 simp only[V.Rl]at e2;subst e2
 obtain⟨ax,e5,e6⟩:=evsV_real s.rl he
 obtain⟨K',hcl,s1,back⟩:=s.call (S2:= []) h1 (fun _ _ e=>by cases e)
 refine yields_call (fs:= []) (cs:=cs) ha hf e1 e5 ?_
 refine(hc hv hp1 K' hv hcl w.heap _ (PreV.refl hv) (by simpa using e6.app (RlL_raw cs)) s1 w rfl).mono fun e w' ⟨v,ev,hs,u,S',hv',hold',p1,p2,p3⟩=>?_
 obtain⟨hold2,q1,q2⟩:=back (d:=dst) p1 p2
 exact⟨v,ev,hs,u,E,_,hv',hold2,hp0.trans p1,q1,rfl,by rw[List.append_nil];exact p3⟩
theorem DS.callF {t:Nat} {cx:Operand} {g:FuncId} {cs:List Value} {args:List V} {xs:Array Operand} {fn:Func} {S1:Sto} {R:V→Sto→Prop} (F:List (Nat×List Value×TypeId)) (hF:F.Pairwise (fun a b=>a.1≠b.1)) (hFS: ∀x∈F,lookS S x.1=some (.cells (x.2.1.map V.v) x.2.2))
  (hf:FnOk P g fn) (hcx:evV E cx=some (.v (.func (.func g) #[] cs.toArray))) (he:evsV (evV E) xs.toList=some args)
  (hc:DCf (VHs F) P g (args++cs.map V.v) S1 R) (h1: ∀b o,lookS S1 b=some o→lookS (delSs F S) b=some o) (hd:decide (t<n)=true)
  (q: ∀u S',R u S'→DS P n r Q (.ops ops l::k) ((t,u)::E) S'):DS P n r Q (.ops ops (⟨some t, .call {callee := .value cx,args:=xs,argTypes:=ts},ty,pos,af,none⟩::l)::k) E S:=by
 refine DS.step rfl rfl hd (OpS.callF F hF hFS hf hcx he hc h1) fun v E' S' ⟨eE,hR⟩=>?_
 subst eE
 exact q v S' hR
theorem DX.callR {t:Nat} {cx:Operand} {g:FuncId} {cs:List Value} {args:List V} {xs:Array Operand} {fn:Func} {R:V→Sto→Prop} {u0:V} (hf:FnOk P g fn) (hcx:evV E cx=some (.v (.func (.func g) #[] cs.toArray))) (he:evsV (evV E) xs.toList=some args)
  (hc: ∀S1,T1 S1→DCh r.v0 P g (args++cs.map V.v) S1 R) (hR: ∀v S',R v S'→v=u0) (hd:decide (t<n)=true)
  (q:DX P n r Q ops S0 l k (delV t E0) ((t,u0)::E) (fun S'=>R u0 S')):DX P n r Q ops S0 (⟨some t, .call {callee := .value cx,args:=xs,argTypes:=ts},ty,pos,af,none⟩::l) k E0 E T1:=by
 refine DX.stepX (ι:=Unit) (fun _=>u0) (fun _ _ _ _ _ _ _=>rfl) (T:=fun S1 u E' S'=>E'=E∧R u S') rfl rfl rfl hd (fun S1 h=>?_) (E':=E) (fun S1 v E2 S' _ h=>⟨h.1,(),hR v S' h.2⟩) ⟨t,rfl⟩ fun _=>?_
 ·refine OpS.mono (OpS.callR hf hcx he (S1:=S1) (S2:= []) (hc S1 h) (fun _ _ e=>e) (fun _ _ e=>by cases e)) ?_
  rintro u E' S' ⟨rfl,S2,rfl,h1,-⟩
  exact⟨rfl,by rw[List.append_nil];exact h1⟩
 ·intro K0 K D W hv0 hs a SPs h1 h2 h3 h4 h5 h6 h7 h8
  exact q K0 K D W hv0 hs a SPs h1 h2 h3 h4 h5 h6 h7 fun F h hF=>let ⟨S',⟨S1,a1,a2,a3⟩,a6⟩:=h8 F h hF;⟨S',a3,a6⟩
theorem DS.ldF {T m t:Nat} {a0:Addr} {x:Value} {p:Operand} (hd:decide (t<n)=true) (ht:tsz P T=some (false,m)) (hp:evV E p=some (.v (.pointer (some a0)))) (hx:cellV r.v0 a0=some x)
  (q:DS P n r Q (.ops ops l::k) ((t, .v x)::E) S):DS P n r Q (.ops ops (⟨some t, .load T p,ty,pos,af,none⟩::l)::k) E S:=fun K W a w ⟨K',D,hvv,hold,env,hb,ha,s⟩ hw=>by
 have hc:cell w.heap a0=some x:=s.pre.cell ((hb.floor s).cell hx)
 obtain⟨y,e1,e2⟩:=s.rl _ _ hp
 simp only[V.Rl]at e2;subst e2
 have hr:(execOp a.eval ⟨some t, .load T p,ty,pos,af,none⟩).run P w = .ok (.value x) w:=by
  refine dop_run ha ?_
  simp only[dop,e1,ldT,ht]
  exact hc
 refine wpL_mono (wanted_none rfl a) ⟨fun _ _=>trivial,?_⟩
 rw[Oper.semAt_eq _ _ _ (noDef_spec yR),hr]
 exact q K W _ w ⟨K',D,hvv,hold,XL.put env (some t) x,hb,ha.put' (d:=some t) hd _,s.put (some t) V.Rl_v fun _ _=>V.free_Own rfl _⟩ hw
theorem DX.ldF {T m t:Nat} {a0:Addr} {x:Value} {p:Operand} (hd:decide (t<n)=true) (ht:tsz P T=some (false,m)) (hp:evV E0 p=some (.v (.pointer (some a0)))) (hx:cellV r.v0 a0=some x)
  (q:DX P n r Q ops S0 l k ((t, .v x)::E0) ((t, .v x)::E) T1):DX P n r Q ops S0 (⟨some t, .load T p,ty,pos,af,none⟩::l) k E0 E T1:=fun K0 K D W hv0 hs a SPs hbx hfl hE hpre hS0 hz hl hR=>by
 obtain⟨env,ha,hE'⟩:=hE
 have rl:RlO hv0 (evV E0) (ev env):=by
  intro x u e
  cases x with
  | tmp t=>exact hE' t u e
  | const c=>simp only[evV,Option.some.injEq]at e;subst e;exact⟨c,rfl,V.Rl_v⟩
  | global g=>simp only[evV,Option.some.injEq]at e;subst e;exact⟨_,rfl,gV_Rl (r.kn.mono hfl) g⟩
  | func g=>simp only[evV,Option.some.injEq]at e;subst e;exact⟨_,rfl,by simp only[V.Rl];exact⟨[],[],rfl,by simp[RlL],by simp[RlL]⟩⟩
 obtain⟨y,e1,e2⟩:=rl _ _ hp
 simp only[V.Rl]at e2;subst e2
 have hc:=hfl.cell hx
 show SW P ops.toArray _ W _ (_::l) SPs a
 unfold SW Front
 rw[if_pos (by simp[Region.wanted]),if_neg (by simp[isChain,isStep,isHop])]
 refine⟨x, .inl fun w' hw'=>dop_run ha ?_,?_⟩
 ·simp only[dop,e1,ldT,ht]
  exact hw'.1.cell hc
 refine q K0 K D W hv0 hs _ SPs hbx hfl (e0_put (dst:=some t) ⟨env,ha,hE'⟩ hd V.Rl_v) hpre hS0 hz hl fun F h1 hF=>?_
 obtain⟨S1,t1,p1,p2,hv',hold,env',ha',s,p,f,g⟩:=hR F h1 hF
 exact⟨S1,t1,p1,p2,hv',hold,_,ha'.put' (d:=some t) hd x,s.put (some t) V.Rl_v fun _ _=>V.free_Own rfl x,p,f,g⟩
end
end Go.XL
namespace Go.XL
open Go.Proofs
open Go.Maps (Keyed)
set_option maxRecDepth 100000
set_option maxHeartbeats 8000000
def bestV (x:Int×Nat):Value := .agg #[.int .i64 x.1, .int .u64 (x.2:Nat)]
abbrev bestU (x:Int×Nat):V := .agg [I x.1,UN x.2]
theorem bestU_Rl (hv:VH) (x:Int×Nat):(bestU x).Rl hv (bestV x):=by
 simp only[V.Rl,RlL,bestV]
 exact⟨_,rfl,_,_,rfl,rfl,_,_,rfl,rfl,rfl⟩
theorem bestU_Is (x:Int×Nat):(bestU x).Is (bestV x):=V.Is.two _ _
structure Memo (S:Sto) (bm:Nat) (best:Nat→Int×Nat):Prop where
 out: ∃f es clock,lookS S bm=some (.raw (.map es clock))∧MapIs Tryz.prog 86 f es clock∧ ∀k:Nat,k<18446744073709551616→ ∀v,f (.int .u64 (k:Nat))=some v→v=bestV (best k)
abbrev ptrV (b:Nat):Value := .pointer (some ⟨b,0,none⟩)
def capsC (b15 b16 b14 b11:Nat):List Value:= [ptrV b15,ptrV b16,ptrV b14,ptrV b11]
structure Fl (v1:VH) (b15 b16 b14 b11 bm bc bv n:Nat) (cl:Nat→Nat) (vs:Nat→Int):Prop where
 k15:cellV v1 ⟨b15,0,none⟩=some (.map (some bm))
 k16:cellV v1 ⟨b16,0,none⟩=some (.func (.func 36) #[] (capsC b15 b16 b14 b11).toArray)
 k14:cellV v1 ⟨b14,0,none⟩=some (.slice (some ⟨bc,0,none⟩) n n)
 kc: ∀i,i<n→cellV v1 ⟨bc,i,none⟩=some (.int .u64 (cl i:Nat))
 k11:cellV v1 ⟨b11,0,none⟩=some (.slice (some ⟨bv,0,none⟩) n n)
 kv: ∀i,i<n→cellV v1 ⟨bv,i,none⟩=some (.int .i64 (vs i))
theorem Fl.mono {v1 v2:VH} {b15 b16 b14 b11 bm bc bv n:Nat} {cl:Nat→Nat} {vs:Nat→Int} (h:Fl v1 b15 b16 b14 b11 bm bc bv n cl vs) (p:PreV v1 v2):Fl v2 b15 b16 b14 b11 bm bc bv n cl vs :=
 ⟨p.cell h.k15,p.cell h.k16,p.cell h.k14,fun i hi=>p.cell (h.kc i hi),p.cell h.k11,fun i hi=>p.cell (h.kv i hi)⟩
theorem keyU (m:Nat) (hm:m<18446744073709551616):KeyOk Tryz.prog 86 (.int .u64 (m:Nat)):=by
 have hw:(Lit.int .u64 (m:Int)).wf=true:=by
  have h1:decide (IntKind.u64.min≤(m:Int))=true:=decide_eq_true (show(0:Int)≤m by omega)
  have h2:decide ((m:Int)≤IntKind.u64.max)=true:=decide_eq_true (show(m:Int)≤18446744073709551615 by omega)
  simp only[Lit.wf,h1,h2,Bool.and_self]
 refine⟨.int .u64 (m:Int),?_⟩
 unfold keyOf
 rw[Tryz.underlying86]
 simp[mapKey,Tryz.underlying86,hw]
theorem Memo.of {S S':Sto} {bm:Nat} {best:Nat→Int×Nat} (h:Memo S bm best) (e:lookS S' bm=lookS S bm):Memo S' bm best:=by
 obtain⟨f,es,clock,h1,h2⟩:=h.out
 exact⟨f,es,clock,e.trans h1,h2⟩
theorem nf_look {bt b6:Nat} {A B:Ob} {Sx:Sto} (h4:lookS Sx b6=none) (b:Nat) (o:Ob) (e:lookS ([(bt,A),(b6,B)]++Sx) b=some o):lookS ((bt,A)::Sx++ [(b6,B)]) b=some o:=by
 simp only[List.cons_append,List.nil_append,lookS]at e ⊢
 by_cases h:bt=b
 ·rw[if_pos h]at e ⊢;exact e
 ·rw[if_neg h]at e ⊢
  rw[lookS_app]
  by_cases h2:b6=b
  ·subst h2
   rw[if_pos rfl]at e
   rw[h4];simpa [lookS] using e
  ·rw[if_neg h2]at e
   rw[e]
theorem nf_look2 {bt b6:Nat} {A B:Ob} {Sx:Sto} (hd: ∀b o,lookS Sx b=some o→lookS [(bt,A),(b6,B)] b=none) (b:Nat) (o:Ob) (e:lookS ([(bt,A),(b6,B)]++Sx) b=some o):lookS (Sx++ [(bt,A),(b6,B)]) b=some o:=by
 rw[lookS_app]at e ⊢
 cases h:lookS Sx b with
 | none=>rw[h]at e;cases h2:lookS [(bt,A),(b6,B)] b with
  | none=>rw[h2]at e;cases e
  | some x=>rw[h2]at e;exact e
 | some x =>
  rw[hd b x h,h]at e
  exact e
theorem yX15 {p:Prop} (h:p:=by(simp (disch:=omega) only[go_sem,dopV,yV0,↓reduceIte,Nat.reduceEqDiff,Nat.reduceLT,Nat.reduceLeDiff,Nat.reduceAdd,Nat.reduceMul,Nat.reduceSub,Int.reduceToNat,Int.reduceLT,Int.reduceLE,Int.reduceEq,IntWalk.toNatUp,IntWalk.iteOmega,IntWalk.i64_in,V.flat,V.one,setS];exact rfl)):p:=h
theorem go1_dc {v1:VH} {b15 b16 b14 b11 bm bc bv n:Nat} {cl:Nat→Nat} {vs:Nat→Int} (fl:Fl v1 b15 b16 b14 b11 bm bc bv n cl vs) (hn:n≤40) (hcl: ∀i,cl i<18446744073709551616) (hvs: ∀i,0≤vs i∧vs i≤1000000) :
  ∀(N m:Nat),m<N→m<2 ^ n→ ∀S,Memo S bm (bestM (fun i k=>(cl i).testBit k) vs) →
   DCf v1 Tryz.prog 36 ([UN m]++(capsC b15 b16 b14 b11).map V.v) S (fun u S'=>u=bestU (bestM (fun i k=>(cl i).testBit k) vs m)∧Memo S' bm (bestM (fun i k=>(cl i).testBit k) vs))
 | 0,m,h,_,_,_=>by omega
 | N+1,m,hmN,hmn,S,HM=>by
  refine DCf.of_run Tryz.func36 rfl Tryz.ntmps36 Tryz.results36 (by simp[capsC]) (fun v0 hk hp=>?_)
  simp only[capsC,List.map_cons,List.map_nil,List.cons_append,List.nil_append,argV_cons,argV_nil,go_sem,Nat.zero_add,Nat.reduceAdd]
  have f0:=fl.mono hp
  refine DS.seq ?_
  repeat' (first|with_reducible refine DS.regionL ?_|fail)
  refine DS.allocS yR yU yU (fun b6 hb6=>?_)
  have hz:(List.map V.v (Value.agg #[Value.int IntKind.i64 0,Value.int IntKind.u64 0]).cells.toList)= [I 0,UN 0]:=rfl
  rw[hz]
  clear hz
  obtain⟨f,es,clock,q1,q2,q3⟩:=HM.out
  have hne: ¬b6=bm:=fun e=>by rw[e,q1]at hb6;cases hb6
  by_cases h0:m=0
  ·subst h0
   rw[bestM_zero]
   repeat' (first|(with_reducible first|refine DS.fltS yU yU yE ?_|refine DS.opsNil ?_|refine DS.seq ?_|refine DS.regionL ?_|(refine DS.cE yE ?_;refine CG.yes ?_))|(refine DS.store yR yE yE yE yE yU (by exact⟨by with_unfolding_all rfl,by(try simp only[List.length_map,List.length_append,List.length_set,List.length_replicate,List.length_cons,List.length_nil]);omega⟩) ?_;simp only[putV_none,setAll_cons,setAll_nil,scells_v,scells_own,scells_lst,scells_agg];try simp only[strip_tmp,strip_const,lookV_cons,Nat.reduceEqDiff,↓reduceIte,stripO_own,stripO_lst,stripO_v,stripO_plc,stripO_agg,stripO_fn,stripO_ifc])|fail)
   all_goals first|(exfalso;omega)|skip
   refine DS.retA yX15 ⟨rfl,HM.of ?_⟩
   simp only[setS,↓reduceIte,lookS_cons,if_neg hne]
  have h0': ¬(m:Int)=0:=by omega
  have hm64:m<18446744073709551616:=Nat.lt_of_lt_of_le hmn (show 2 ^ n≤2 ^ 64 from Nat.pow_le_pow_right (by omega) (by omega))
  have hl6:lookS ((b6,Ob.cells [I 0,UN 0] 88)::S) bm=some (.raw (.map es clock)):=by simp only[lookS_cons,if_neg hne];exact q1
  repeat' (first|(with_reducible first|refine DS.fltS yU yU yE ?_|refine DS.opsNil ?_|refine DS.seq ?_|refine DS.regionL ?_|(refine DS.cE yE ?_;refine CG.no ?_)|refine DS.skip ?_)|fail)
  refine DS.ldF (m:=1) (by decide) (by kernel_rfl) yH f0.k15 ?_
  repeat' (first|with_reducible refine DS.fltS yU yU yE ?_|fail)
  cases hf:f (.int .u64 (m:Nat))with
  | some v =>
   have hv:=q3 m hm64 v hf
   subst hv
   refine DS.look2 (u:=bestU (bestM (fun i k=>(cl i).testBit k) vs m)) (Go.Maps.int_keyed Tryz.underlying86) yU yU q2 (keyU m hm64) yH yH hl6 (fun hv=>by rw[hf];exact bestU_Rl hv _) (by rw[hf];rfl) yR ?_
   simp only[putV_some,hf,Option.isSome_some]
   generalize bestM (fun i k=>(cl i).testBit k) vs m=x at *
   repeat' (first|(with_reducible first|refine DS.fltS yU yU yE ?_|refine DS.opsNil ?_|refine DS.seq ?_|refine DS.regionL ?_|(refine DS.cE yE ?_;refine CG.yes ?_))|(refine DS.letF (t:=7) yU yE yU (fun _=>yE) yE yU (by exact⟨by with_unfolding_all rfl,by with_unfolding_all decide⟩) (fun _=>by simp only[go_sem,Nat.reduceEqDiff,↓reduceIte]) ?_;simp only[go_sem])|(refine DS.store yR yE yE yE yE yU (by exact⟨by with_unfolding_all rfl,by(try simp only[List.length_map,List.length_append,List.length_set,List.length_replicate,List.length_cons,List.length_nil]);omega⟩) ?_;simp only[putV_none,setAll_cons,setAll_nil,scells_v,scells_own,scells_lst,scells_agg];try simp only[strip_tmp,strip_const,lookV_cons,Nat.reduceEqDiff,↓reduceIte,stripO_own,stripO_lst,stripO_v,stripO_plc,stripO_agg,stripO_fn,stripO_ifc])|fail)
   refine DS.retA yX10 ⟨rfl,HM.of ?_⟩
   simp only[setS,↓reduceIte,lookS_cons,if_neg hne]
  | none =>
   refine DS.look2 (u:=bestU (0,0)) (Go.Maps.int_keyed Tryz.underlying86) yU yU q2 (keyU m hm64) yH yH hl6 (fun hv=>by rw[hf];exact bestU_Rl hv (0,0)) (by rw[hf];rfl) yR ?_
   simp only[putV_some,hf,Option.isSome_none]
   obtain⟨i,hi⟩: ∃i,i=Lib.ctz 64 m:=⟨_,rfl⟩
   obtain⟨rm,hrm⟩: ∃rm,rm=andN m (2 ^ i):=⟨_,rfl⟩
   have hcz:=ctz_pc m hm64
   have hst:=bestM_step cl vs h0 (by simpa using hm64) i hi rm hrm
   have hi64:i<64:=by rw[hi];exact ctz_lt h0 (by simpa using hm64)
   rw[←hi]at hcz
   have hbit:=(ctz_first h0 (by simpa using hm64)).1
   rw[←hi]at hbit
   have hin:i<n:=by
    refine Decidable.byContradiction fun h=>?_
    rw[Nat.testBit_lt_two_pow (Nat.lt_of_lt_of_le hmn (Nat.pow_le_pow_right (by omega) (by omega)))]at hbit
    cases hbit
   have p1:2 ^ i<18446744073709551616:=show _<2 ^ 64 from Nat.pow_lt_pow_right (by omega) hi64
   have hrlt:rm<m:=by
    have h1:rm≤m:=by rw[hrm];exact Nat.and_le_left
    rcases Nat.lt_or_ge rm m with h|h
    ·exact h
    ·have he:rm=m:=by omega
     have h2:=andN_bit (2 ^ i) (show m<2 ^ 64 by simpa using hm64) i
     rw[←hrm,he,hbit,Nat.testBit_two_pow]at h2
     simp at h2
   have hr64:rm<18446744073709551616:=by omega
   obtain⟨r2,hr2⟩: ∃r2,r2=andN rm (cl i):=⟨_,rfl⟩
   have hr2lt:r2≤rm:=by rw[hr2];exact Nat.and_le_left
   have s1:bop Tryz.prog .shl 86 (.int .u64 1) (.int .i64 (i:Int))=some (.int .u64 ((2 ^ i:Nat):Int)):=bop_shlU hi64
   have s2:bop Tryz.prog .andNot 86 (.int .u64 (m:Int)) (.int .u64 ((2 ^ i:Nat):Int))=some (.int .u64 ((rm:Nat):Int)):=by rw[hrm];exact bop_andNotU hm64 p1
   have s3:bop Tryz.prog .andNot 86 (.int .u64 (rm:Int)) (.int .u64 ((cl i:Nat):Int))=some (.int .u64 ((r2:Nat):Int)):=by rw[hr2];exact bop_andNotU hr64 (hcl i)
   have s4:bop Tryz.prog .and 86 (.int .u64 (rm:Int)) (.int .u64 ((cl i:Nat):Int))=some (.int .u64 ((rm &&& cl i:Nat):Int)):=bop_andU hr64 (hcl i)
   rw[←hr2]at hst
   have ih2:=fun S' hS'=>go1_dc fl hn hcl hvs N r2 (by omega) (by omega) S' hS' v0 hp
   have ih1:=fun S' hS'=>go1_dc fl hn hcl hvs N rm (by omega) (by omega) S' hS' v0 hp
   have hb2: ∀x,(bestM (fun i k=>(cl i).testBit k) vs x).2<18446744073709551616∧0≤(bestM (fun i k=>(cl i).testBit k) vs x).1∧(bestM (fun i k=>(cl i).testBit k) vs x).1≤64*1000000:=fun x=>by
    have hbl:(bitsM x).length≤64:=by
     have:=List.length_filter_le (fun i=>x.testBit i) (List.range 64)
     simpa [bitsM] using this
    have h1:=bestL_bd (fun i k=>(cl i).testBit k) vs (B:=1000000) (by omega) hvs 64 (bitsM x) hbl
    refine⟨mask_lt _ fun j hj=>(bits_lt x j ((bestL_sub _ _ _ _ (Nat.le_refl _)).subset hj)).1,h1.1,by rw[bestM];simpa using h1.2⟩
   generalize hbest:bestM (fun i k=>(cl i).testBit k) vs=best at *
   have HS:=Box.mk (And.intro hst (And.intro ih1 (And.intro ih2 (And.intro hb2 (And.intro q2 q3)))))
   clear hst ih1 ih2 hb2 q3 hrm hi hr2 hbit hf
   repeat' (first|(with_reducible first|refine DS.fltS yU yU yE ?_|refine DS.opsNil ?_|refine DS.seq ?_|refine DS.regionL ?_|(refine DS.cE yE ?_;refine CG.no ?_)|refine DS.skip ?_)|(refine DS.letF (t:=7) yU yE yU (fun _=>yE) yE yU (by exact⟨by with_unfolding_all rfl,by with_unfolding_all decide⟩) (fun _=>by simp only[go_sem,Nat.reduceEqDiff,↓reduceIte]) ?_;simp only[go_sem])|refine DS.pcS inferInstance (hcz) yR yT ?_|fail)
   refine DS.drawLS (id:=8) ([(b6,Ob.cells [I 0,UN 0] 88)]) (S) [0,1,2,3,4,5,6,7,8] 9 (by kernel_rfl) mixed (by simp only[pickL_cons,pickL_nil,get_zero',get_cons',pickO_some];exact rfl) (by simp only[drop_zero',drop_cons',List.drop_nil];exact rfl) ((fun b o e=>by
    simp only[lookS_cons,lookS_nil]at e ⊢
    split at e
    ·rename_i h;subst h;exact⟨by rw[if_pos rfl];exact e,hb6⟩
    ·cases e)) ((fun b o e=>by
    simp only[lookS_cons]
    rw[if_neg (fun h=>by subst h;rw[hb6]at e;cases e)];exact e)) ?_
   refine DD.toX ?_
   refine DX.ldF (m:=1) (by decide) (by kernel_rfl) yH f0.k16 ?_
   refine DX.flt rfl rfl yR yG ?_
   simp only[putV_some]
   refine DX.ldF (m:=1) (by decide) (by kernel_rfl) yH f0.k14 ?_
   refine DX.flt rfl rfl yR yG ?_
   simp only[putV_some]
   refine DX.flt rfl rfl yR yG ?_
   simp only[putV_some]
   refine DX.ldF (m:=1) (by decide) (by kernel_rfl) yH (f0.kc i hin) ?_
   refine DX.flt rfl rfl yR (by(simp (disch:=omega) only[go_sem,dopV,yV0,↓reduceIte,Nat.reduceEqDiff,Nat.reduceLT,Nat.reduceLeDiff,Nat.reduceAdd,Nat.reduceMul,Nat.reduceSub,Int.reduceToNat,Int.reduceLT,Int.reduceLE,Int.reduceEq,IntWalk.toNatUp,IntWalk.iteOmega,IntWalk.i64_in,V.flat,V.one,s3];exact rfl)) ?_
   simp only[putV_some]
   refine DX.callR (R:=fun u S'=>u=bestU (best r2)∧Memo S' bm best) (args:= [UN r2]) (u0:=bestU (best r2)) inferInstance yH yH (fun S1 h=>by rw[h];exact HS.out.2.2.1 S HM) (fun v S' h=>h.1) (by decide) ?_
   simp only[delV_cons',delV_nil',Nat.reduceEqDiff,↓reduceIte]
   refine DX.alloc yR yU yU (fun bt hbt=>?_)
   simp only[putV_some]
   refine DX.nil (fun S1 h1 hdis=>?_)
   obtain⟨Sx,⟨-,hx1⟩,hx2,rfl⟩:=h1
   generalize hbr:best r2=x2 at *
   have hx34:lookS ((bt,Ob.cells [I 0,UN 0] 88)::Sx) b6=none:=hdis b6 (.cells [I 0,UN 0] 88) (by simp only[lookS_cons,↓reduceIte])
   have hx3: ¬bt=b6:=fun e=>by simp[lookS,e]at hx34
   have hx4:lookS Sx b6=none:=by simpa only[lookS_cons,if_neg hx3] using hx34
   refine DS.reS (S':= [(bt, .cells [I 0,UN 0] 88),(b6, .cells [I 0,UN 0] 88)]++Sx) (nf_look hx4) ?_
   clear hdis
   repeat' (first|(with_reducible first|refine DS.opsNil ?_|refine DS.seq ?_)|(refine DS.store yR yE yE yE yE yU (by exact⟨by with_unfolding_all rfl,by(try simp only[List.length_map,List.length_append,List.length_set,List.length_replicate,List.length_cons,List.length_nil]);omega⟩) ?_;simp only[putV_none,setAll_cons,setAll_nil,scells_v,scells_own,scells_lst,scells_agg];try simp only[strip_tmp,strip_const,lookV_cons,Nat.reduceEqDiff,↓reduceIte,stripO_own,stripO_lst,stripO_v,stripO_plc,stripO_agg,stripO_fn,stripO_ifc])|fail)
   have hbx:=HS.out.2.2.2.1 r2
   rw[hbr]at hbx
   have hvi:=hvs i
   have o1:bop Tryz.prog .or 86 (.int .u64 (x2.2:Nat)) (.int .u64 ((2 ^ i:Nat):Int))=some (.int .u64 ((x2.2 ||| 2 ^ i:Nat):Int)):=bop_orU hbx.1 p1
   refine DS.reS (S':=(bt, .cells [I x2.1,UN x2.2] 88)::(b6, .cells [I 0,UN 0] 88)::Sx) (fun b o e=>by simp only[setS,↓reduceIte,List.cons_append,List.nil_append];exact e) ?_
   refine DS.weaken (E':= [(11, .v (ptrV bt)),(10,UN rm),(9,I (i:Nat)),(6, .v (ptrV b6)),(0,UN m),(1, .v (ptrV b15)),(2, .v (ptrV b16)),(3, .v (ptrV b14)),(4, .v (ptrV b11))]) (subV_look ⟨by rfl,by rfl,by rfl,by rfl,by rfl,by rfl,by rfl,by rfl,by rfl,trivial⟩) (fun _ _ e=>e) ?_
   skip
   refine DS.drawLS (id:=9) ((bt, .cells [I x2.1,UN x2.2] 88)::(b6, .cells [I 0,UN 0] 88)::Sx) ([]) [0,1,2,3,4,5] 6 (by kernel_rfl) mixed (by simp only[pickL_cons,pickL_nil,get_zero',get_cons',pickO_some];exact rfl) (by simp only[drop_zero',drop_cons',List.drop_nil];exact rfl) ((fun _ _ e=>⟨e,rfl⟩)) ((fun _ _ e=>by cases e)) ?_
   refine DD.toX ?_
   refine DX.flt rfl rfl yR yG ?_
   simp only[putV_some]
   refine DX.flt rfl rfl yR yG ?_
   simp only[putV_some]
   refine DX.ldF (m:=1) (by decide) (by kernel_rfl) yH f0.k11 ?_
   refine DX.flt rfl rfl yR yG ?_
   simp only[putV_some]
   refine DX.flt rfl rfl yR yG ?_
   simp only[putV_some]
   refine DX.ldF (m:=1) (by decide) (by kernel_rfl) yH (f0.kv i hin) ?_
   refine DX.nil (fun S1 h1 hdis=>?_)
   subst h1
   simp only[List.nil_append]
   repeat' (first|(with_reducible first|refine DS.fltS yU yU yE ?_|refine DS.opsNil ?_|refine DS.seq ?_|refine DS.regionL ?_)|(refine DS.store yR yE yE yE yE yU (by exact⟨by with_unfolding_all rfl,by(try simp only[List.length_map,List.length_append,List.length_set,List.length_replicate,List.length_cons,List.length_nil]);omega⟩) ?_;simp only[putV_none,setAll_cons,setAll_nil,scells_v,scells_own,scells_lst,scells_agg];try simp only[strip_tmp,strip_const,lookV_cons,Nat.reduceEqDiff,↓reduceIte,stripO_own,stripO_lst,stripO_v,stripO_plc,stripO_agg,stripO_fn,stripO_ifc])|refine DS.drawL (id:=10) [0,1,2,3] 4 (by kernel_rfl) mixed (by simp only[pickL_cons,pickL_nil,get_zero',get_cons',pickO_some];exact rfl) (by simp only[drop_zero',drop_cons',List.drop_nil];exact rfl) ?_|(with_reducible first|refine DD.fltS yU yU yU yE ?_|refine DD.nil0 ?_)|fail)
   refine DS.ldF (m:=1) (by decide) (by kernel_rfl) yH f0.k14 ?_
   repeat' (first|with_reducible refine DS.fltS yU yU yE ?_|fail)
   refine DS.ldF (m:=1) (by decide) (by kernel_rfl) yH (f0.kc i hin) ?_
   repeat' (first|(with_reducible first|refine DS.fltS yU yU yE ?_|refine DS.opsNil ?_)|fail)
   obtain⟨vm,hvm⟩: ∃vm,vm=x2.1+vs i:=⟨_,rfl⟩
   obtain⟨sm,hsm⟩: ∃sm,sm=x2.2 ||| 2 ^ i:=⟨_,rfl⟩
   have hst:=HS.out.1
   rw[←hvm,←hsm]at hst
   rw[←hvm,←hsm]
   clear hvm hsm
   refine DS.reS (S':=(bt, .cells [I vm,UN sm] 88)::(b6, .cells [I 0,UN 0] 88)::Sx) (fun b o e=>by simp only[setS,↓reduceIte];exact e) ?_
   refine DS.weaken (E':= [(58, .v (.bool (decide (¬((rm &&& cl i:Nat):Int)=0)))),(11, .v (ptrV bt)),(10,UN rm),(6, .v (ptrV b6)),(0,UN m),(1, .v (ptrV b15)),(2, .v (ptrV b16))]) (subV_look ⟨by rfl,by rfl,by rfl,by rfl,by rfl,by rfl,by rfl,trivial⟩) (fun _ _ e=>e) ?_
   refine DS.joinL (fun _:Sto=> [(11, .v (ptrV bt)),(6, .v (ptrV b6)),(0,UN m),(1, .v (ptrV b15))]) (fun y=>(bt, .cells [I (best m).1,UN (best m).2] 88)::(b6, .cells [I 0,UN 0] 88)::y) (fun y=>Memo y bm best∧lookS y bt=none∧lookS y b6=none) ?_ (fun y hy=>?_)
   ·by_cases hand:rm &&& cl i=0
    ·have hand':((rm &&& cl i:Nat):Int)=0:=by omega
     have hbm:best m=(vm,sm):=by rw[hst,if_neg (fun h=>h.1 hand)]
     clear hst
     repeat' (first|(with_reducible first|(refine DS.cE yE ?_;refine CG.no ?_)|refine DS.skip ?_)|fail)
     exact DS.back ⟨Sx,⟨hx1,hx2,hx4⟩,yS,fun b o e=>by rw[hbm]at e;exact e⟩
    ·have hand': ¬((rm &&& cl i:Nat):Int)=0:=by omega
     generalize hx1m:best rm=x1 at hst
     repeat' (first|(with_reducible first|refine DS.seq ?_|refine DS.regionL ?_|(refine DS.cE yE ?_;refine CG.yes ?_))|fail)
     refine DS.ldF (m:=1) (by decide) (by kernel_rfl) yH f0.k16 ?_
     repeat' (first|with_reducible refine DS.fltS yU yU yE ?_|fail)
     have hcall:=HS.out.2.1 Sx hx1
     rw[hx1m]at hcall
     refine DS.callR (args:= [UN rm]) inferInstance yH yH Sx [(bt, .cells [I vm,UN sm] 88),(b6, .cells [I 0,UN 0] 88)] hcall (fun b o e=>?_) (fun b o e=>?_) (by decide) (fun u S' hu hdis=>?_)
     ·simp only[lookS_cons]
      rw[if_neg (fun h=>by subst h;rw[hx2]at e;cases e),if_neg (fun h=>by subst h;rw[hx4]at e;cases e)];exact e
     ·simp only[lookS_cons,lookS_nil]at e ⊢
      split at e
      ·rename_i h;subst h;exact⟨by rw[if_pos rfl];exact e,hx2⟩
      ·rename_i h
       split at e
       ·rename_i h2;subst h2;exact⟨by rw[if_neg h,if_pos rfl];exact e,hx4⟩
       ·cases e
     obtain⟨rfl,hu2⟩:=hu
     have hd1:lookS S' bt=none:=by
      cases h:lookS S' bt with
      | none=>rfl
      | some o=>have:=hdis bt o h;simp[lookS]at this
     have hd2:lookS S' b6=none:=by
      cases h:lookS S' b6 with
      | none=>rfl
      | some o=>have:=hdis b6 o h;simp only[lookS_cons,if_neg hx3,↓reduceIte]at this;cases this
     refine DS.reS (S':= [(bt, .cells [I vm,UN sm] 88),(b6, .cells [I 0,UN 0] 88)]++S') (nf_look2 hdis) ?_
     simp only[List.cons_append,List.nil_append]
     clear hdis
     by_cases hgt:vm<x1.1
     ·have hbm:best m=x1:=by rw[hst,if_pos ⟨hand,hgt⟩]
      clear hst
      repeat' (first|(with_reducible first|refine DS.fltS yU yU yE ?_|refine DS.opsNil ?_|refine DS.seq ?_|refine DS.regionL ?_|(refine DS.cE yE ?_;refine CG.yes ?_))|(refine DS.letF (t:=12) yU yE yU (fun _=>yE) yE yU (by exact⟨by with_unfolding_all rfl,by with_unfolding_all decide⟩) (fun _=>by simp only[go_sem,Nat.reduceEqDiff,↓reduceIte]) ?_;simp only[go_sem])|(refine DS.store yR yE yE yE yE yU (by exact⟨by with_unfolding_all rfl,by(try simp only[List.length_map,List.length_append,List.length_set,List.length_replicate,List.length_cons,List.length_nil]);omega⟩) ?_;simp only[putV_none,setAll_cons,setAll_nil,scells_v,scells_own,scells_lst,scells_agg];try simp only[strip_tmp,strip_const,lookV_cons,Nat.reduceEqDiff,↓reduceIte,stripO_own,stripO_lst,stripO_v,stripO_plc,stripO_agg,stripO_fn,stripO_ifc])|fail)
      refine DS.back ⟨S',⟨hu2,hd1,hd2⟩,yS,fun b o e=>?_⟩
      rw[hbm]at e
      simp only[setS,↓reduceIte]
      exact e
     ·have hbm:best m=(vm,sm):=by rw[hst,if_neg (fun h=>hgt h.2)]
      clear hst
      repeat' (first|(with_reducible first|refine DS.fltS yU yU yE ?_|refine DS.opsNil ?_|refine DS.seq ?_|refine DS.regionL ?_|(refine DS.cE yE ?_;refine CG.no ?_)|refine DS.skip ?_)|(refine DS.letF (t:=12) yU yE yU (fun _=>yE) yE yU (by exact⟨by with_unfolding_all rfl,by with_unfolding_all decide⟩) (fun _=>by simp only[go_sem,Nat.reduceEqDiff,↓reduceIte]) ?_;simp only[go_sem])|fail)
      exact DS.back ⟨S',⟨hu2,hd1,hd2⟩,yS,fun b o e=>by rw[hbm]at e;exact e⟩
   ·obtain⟨hy1,hy2,hy3⟩:=hy
    obtain⟨f2,es2,clock2,g1,g2,g3⟩:=hy1.out
    have hnb: ¬bt=bm:=fun e=>by rw[e,g1]at hy2;cases hy2
    have hl2:lookS ((bt,Ob.cells [I (best m).1,UN (best m).2] 88)::(b6,Ob.cells [I 0,UN 0] 88)::y) bm=some (.raw (.map es2 clock2)):=by
     simp only[lookS_cons,if_neg hne,if_neg hnb];exact g1
    clear hst
    generalize hbm:best m=xm at *
    repeat' (first|(with_reducible first|refine DS.seq ?_|refine DS.regionL ?_)|fail)
    refine DS.ldF (m:=1) (by decide) (by kernel_rfl) yH f0.k15 ?_
    repeat' (first|with_reducible refine DS.fltS yU yU yE ?_|fail)
    refine DS.mapUpdate (val:=bestV xm) (Go.Maps.int_keyed Tryz.underlying86) yU g2 (keyU m hm64) yH yH yH (bestU_Is xm) hl2 yR (fun es3 clock3 g4=>?_)
    simp only[putV_none]
    have hl3:lookS (setS bm (Ob.raw (Obj.map es3 clock3)) ((bt,Ob.cells [I xm.1,UN xm.2] 88)::(b6,Ob.cells [I 0,UN 0] 88)::y)) bm=some (.raw (.map es3 clock3)):=by rw[lookS_set hl2,if_pos rfl]
    refine DS.reS (S':=(bt, .cells [I xm.1,UN xm.2] 88)::(b6, .cells [I 0,UN 0] 88)::setS bm (Ob.raw (Obj.map es3 clock3)) y) (fun b o e=>?_) ?_
    ·simp only[setS,if_neg hne,if_neg hnb];exact e
    clear hl2 hl3
    repeat' (first|(with_reducible first|refine DS.fltS yU yU yE ?_|refine DS.opsNil ?_|refine DS.seq ?_|refine DS.regionL ?_)|(refine DS.store yR yE yE yE yE yU (by exact⟨by with_unfolding_all rfl,by(try simp only[List.length_map,List.length_append,List.length_set,List.length_replicate,List.length_cons,List.length_nil]);omega⟩) ?_;simp only[putV_none,setAll_cons,setAll_nil,scells_v,scells_own,scells_lst,scells_agg];try simp only[strip_tmp,strip_const,lookV_cons,Nat.reduceEqDiff,↓reduceIte,stripO_own,stripO_lst,stripO_v,stripO_plc,stripO_agg,stripO_fn,stripO_ifc])|fail)
    refine DS.retA yX10 ⟨rfl,⟨_,es3,clock3,?_,g4,fun k hk v hv=>?_⟩⟩
    ·simp only[setS,if_neg hx3,if_neg hne,if_neg hnb,↓reduceIte,lookS_cons]
     rw[lookS_set g1,if_pos rfl]
    ·by_cases hkm:k=m
     ·subst hkm
      rw[upd_same]at hv
      simp only[Option.some.injEq]at hv
      rw[←hv,hbm]
     ·rw[upd_ne _ _ (fun h=>hkm (by simp only[Value.int.injEq,true_and]at h;omega))]at hv
      exact g3 k hk v hv
end Go.XL
namespace Go.XL
open Go.Proofs
set_option maxRecDepth 100000
set_option maxHeartbeats 4000000
theorem yX16 {p:Prop} (h:p:=by(simp (disch:=omega) only[go_sem,dopV,yV0,↓reduceIte,Nat.reduceEqDiff,Nat.reduceLT,Nat.reduceLeDiff,Nat.reduceAdd,Nat.reduceMul,Nat.reduceSub,Int.reduceToNat,Int.reduceLT,Int.reduceLE,Int.reduceEq,IntWalk.toNatUp,IntWalk.iteOmega,IntWalk.i64_in,V.flat,V.one, *,Int.sub_zero,Int.lt_irrefl];exact rfl)):p:=h
theorem yX17 {p:Prop} (h:p:=by(simp (disch:=omega) only[go_sem,dopV,yV0,↓reduceIte,Nat.reduceEqDiff,Nat.reduceLT,Nat.reduceLeDiff,Nat.reduceAdd,Nat.reduceMul,Nat.reduceSub,Int.reduceToNat,Int.reduceLT,Int.reduceLE,Int.reduceEq,IntWalk.toNatUp,IntWalk.iteOmega,IntWalk.i64_in,V.flat,V.one, *,Int.sub_zero];exact rfl)):p:=h
theorem yX18 {p:Prop} (h:p:=by(simp (disch:=omega) only[go_sem,dopV,yV0,↓reduceIte,Nat.reduceEqDiff,Nat.reduceLT,Nat.reduceLeDiff,Nat.reduceAdd,Nat.reduceMul,Nat.reduceSub,Int.reduceToNat,Int.reduceLT,Int.reduceLE,Int.reduceEq,IntWalk.toNatUp,IntWalk.iteOmega,IntWalk.i64_in,V.flat,V.one, *,Int.sub_zero,Nat.sub_zero];exact rfl)):p:=h
theorem grow_dc (N:Nat) (hN:N≤1000000):DC Tryz.prog 110 [.v (.slice none 0 0),I N] [] (fun u S'=> ∃g:GR,u=g.cell∧g.l= []∧g.Ok 3 1 S'):=by
 refine DC.of_run Tryz.func110 rfl Tryz.ntmps110 Tryz.results110 (by simp) (fun _ _=>?_);simp only[argV_cons,argV_nil,go_sem,Nat.zero_add,Nat.reduceAdd]
 by_cases h:N=0
 ·subst h
  repeat' (first|(with_reducible first|refine DS.fltS yU yU yE ?_|refine DS.opsNil ?_|refine DS.seq ?_|refine DS.regionL ?_|(refine DS.cE yE ?_;refine CG.no ?_)|refine DS.skip ?_)|fail)
  refine DS.capB yU yH yR ?_
  simp only[putV_some]
  repeat' (first|(with_reducible first|refine DS.fltS yU yU yX16 ?_|refine DS.opsNil ?_|refine DS.seq ?_|refine DS.regionL ?_|(refine DS.cE yX16 ?_;refine CG.no ?_)|refine DS.skip ?_)|fail)
  refine DS.retA yG ⟨⟨[],none⟩,rfl,rfl,rfl⟩
 ·have h1:(0:Int)<(N:Int):=by omega
  have h2: ¬(N:Int)<0:=by omega
  repeat' (first|(with_reducible first|refine DS.fltS yU yU yE ?_|refine DS.opsNil ?_|refine DS.seq ?_|refine DS.regionL ?_|(refine DS.cE yE ?_;refine CG.no ?_)|refine DS.skip ?_)|fail)
  refine DS.capB yU yH yR ?_
  simp only[putV_some]
  repeat' (first|(with_reducible first|refine DS.fltS yU yU yX17 ?_|refine DS.opsNil ?_|refine DS.seq ?_|refine DS.regionL ?_|(refine DS.cE yX17 ?_;refine CG.yes ?_))|fail)
  refine DS.capB yU yH yR ?_
  simp only[putV_some]
  refine DS.nilTo yH yH yH yR ?_
  simp only[putV_some]
  repeat' (first|with_reducible refine DS.fltS yU yU yX17 ?_|fail)
  refine DS.step rfl rfl yR (OpS.appZ (N:=N) (kn := .i64) rfl yH Tryz.underlying3 yH yR yR (by decide) yH yH ⟨by omega,hN⟩ (by decide)) (fun u2 E' S4 hu2=>?_)
  obtain⟨rfl,b,cap,n1,n2,n3,rfl,j,n4,n5,rfl⟩:=hu2
  simp only[putV_some]
  repeat' (first|(with_reducible first|refine DS.fltS yU yU yX18 ?_|refine DS.opsNil ?_|refine DS.seq ?_|refine DS.regionL ?_)|fail)
  refine DS.retA yG ⟨⟨[],some (b,cap,j)⟩,rfl,rfl,?_⟩
  exact⟨by simp only[lookS_cons,↓reduceIte,List.flatten_nil,List.nil_append],by simpa using n4,Nat.zero_le _,n3,n5,by simp,by simp⟩
theorem concatL_pc (L:List (List Int)) (hL:L.length≤10) (hl: ∀l∈L,l.length≤1000):PC Tryz.prog 74 [.lst (L.map fun l=> [ints l])] (ints L.flatten):=by
 have hsum: ∀i,i≤L.length→(L.take i).flatten.length≤1000*i:=fun i hi=>by
  induction i with
  | zero=>simp
  | succ i ih =>
   have:=ih (by omega)
   have h2:=hl _ (List.getElem_mem (show i<L.length by omega))
   rw[List.take_succ_eq_append_getElem (by omega),List.flatten_append,List.length_append]
   simp only[List.flatten_cons,List.flatten_nil,List.append_nil]
   omega
 have hH:=Box.mk (And.intro hl hsum)
 clear hl hsum
 refine DC.of_run Tryz.func74 rfl Tryz.ntmps74 Tryz.results74 (by simp) (fun _ _=>?_);simp only[argV_cons,argV_nil,go_sem,Nat.zero_add,Nat.reduceAdd]
 repeat' (first|(with_reducible first|refine DS.fltS yU yU yE ?_|refine DS.opsNil ?_|refine DS.seq ?_|refine DS.regionL ?_|refine DS.block ?_)|fail)
 refine DS.loopK [0,9,10] yN (fun(i:Nat)=> [(3,I ((L.take i).flatten.length:Nat)),(11,I i)]) (fun(i:Nat)=>i≤L.length) (fun(i:Nat)=>L.length-i) 0 yS (Nat.zero_le _) (fun i B hI hB=>?_);try dsimp only at hI hB;simp only[app_cons',app_nil']
 by_cases hi:i<L.length
 ·have hi':(i:Int)<(L.length:Int):=by omega
  have h1:=hH.out.1 _ (List.getElem_mem hi)
  have h2:=hH.out.2 i (by omega)
  have h3:((L.take (i+1)).flatten.length:Int)=((L.take i).flatten.length:Int)+(L[i].length:Int):=by
   rw[List.take_succ_eq_append_getElem hi,List.flatten_append,List.length_append]
   simp only[List.flatten_cons,List.flatten_nil,List.append_nil]
   omega
  have h4: ¬((L.take i).flatten.length:Int)+(L[i].length:Int)<0:=by omega
  repeat' (first|(with_reducible first|refine DS.fltS yU yU yE ?_|refine DS.opsNil ?_|refine DS.seq ?_|refine DS.regionL ?_|(refine DS.cE yE ?_;first|refine CG.yes ?_|refine CG.no ?_)|refine DS.blk ?_|refine DS.block ?_|refine DS.skip ?_)|fail)
  exact DS.back (hB (i+1) _ _ (by omega) (by omega) yS yS (fun b o e=>by first|exact e|(simp only[lookS_cons];split <;> simp_all)))
 ·have hi': ¬(i:Int)<(L.length:Int):=by omega
  have he:i=L.length:=by omega
  have h2:=hH.out.2 i hI
  rw[he,List.take_length]at h2
  have hg:=grow_dc L.flatten.length (by omega)
  have ht:(L.take i).flatten.length=L.flatten.length:=by rw[he,List.take_length]
  clear hB he
  repeat' (first|(with_reducible first|refine DS.fltS yU yU yE ?_|refine DS.opsNil ?_|refine DS.seq ?_|refine DS.regionL ?_|(refine DS.cE yE ?_;refine CG.no ?_)|refine DS.exit yU ?_)|fail)
  refine DS.callNA inferInstance hg yR yH (fun u S' hu=>?_)
  obtain⟨g,rfl,g1,g2⟩:=hu
  clear hg ht
  have hgc:=g.cell_copy
  repeat' (first|(with_reducible first|refine DS.fltS yU yU yE ?_|refine DS.opsNil ?_|refine DS.seq ?_|refine DS.regionL ?_|refine DS.block ?_)|fail)
  clear hgc
  refine DS.loopS [25,26] yN (fun(x:Nat×GR×Sto)=> [(6,x.2.1.cell),(27,I x.1)]) (fun(x:Nat×GR×Sto)=>x.2.2) (fun(x:Nat×GR×Sto)=>x.1≤L.length∧x.2.1.l=(L.take x.1).flatten.map cI∧x.2.1.Ok 3 1 x.2.2) (fun(x:Nat×GR×Sto)=>L.length-x.1) (0,g,S') yS (fun b o e=>by exact e) ⟨Nat.zero_le _,g1,g2⟩ (fun x B hI hB=>?_);try dsimp only at hI hB;simp only[app_cons',app_nil']
  obtain⟨q,g3,S3⟩:=x
  dsimp only at hI hB
  obtain⟨k1,k2,k3⟩:=hI
  by_cases hq:q<L.length
  ·have hq':(q:Int)<(L.length:Int):=by omega
   have h1:=hH.out.1 _ (List.getElem_mem hq)
   have h2:=hH.out.2 q (by omega)
   have hgc:=g3.cell_copy
   repeat' (first|(with_reducible first|refine DS.fltS yU yU yE ?_|refine DS.opsNil ?_|refine DS.seq ?_|refine DS.regionL ?_|(refine DS.cE yE ?_;refine CG.yes ?_)|refine DS.block ?_|refine DS.skip ?_)|fail)
   refine DS.step rfl rfl yR (OpS.appA (g:=g3) (ml:=L[q].map cI) rfl yH yH yR yR (by decide) yH k3 yH yH (by intro x hx;obtain⟨y,-,rfl⟩:=List.mem_map.1 hx;rfl) ⟨by rw[k2];simp only[List.length_map];omega,by decide⟩) (fun u2 E' S4 hu2=>?_)
   obtain⟨rfl,g4,rfl,m1,m2,-,-⟩:=hu2
   have hgc4:=g4.cell_copy
   simp only[putV_some]
   repeat' (first|(with_reducible first|refine DS.fltS yU yU yE ?_|refine DS.opsNil ?_|refine DS.regionL ?_|refine DS.blk ?_)|fail)
   exact DS.back (hB (q+1,g4,S4) _ _ (by dsimp only;omega) ⟨by dsimp only;omega,by
    rw[m1,k2,List.take_succ_eq_append_getElem hq,List.flatten_append,List.map_append,List.map_map]
    simp only[List.flatten_cons,List.flatten_nil,List.append_nil];rfl,m2⟩ yS yS (fun b o e=>by exact e))
  ·have hq': ¬(q:Int)<(L.length:Int):=by omega
   have hgc:=g3.cell_copy
   rw[show L.take q=L by rw[List.take_of_length_le];omega]at k2
   clear hB
   repeat' (first|(with_reducible first|refine DS.fltS yU yU yE ?_|refine DS.opsNil ?_|refine DS.seq ?_|refine DS.regionL ?_|(refine DS.cE yE ?_;refine CG.no ?_)|refine DS.exit yU ?_)|fail)
   refine DS.freezeGR (t:=2) yR k3 (fun S4 _=>?_)
   refine DS.retA yG ?_
   rw[k2,List.map_map];rfl
theorem concat_pc (a b:List Int) (ha:a.length≤1000) (hb:b.length≤1000):PC Tryz.prog 74 [.lst [[ints a],[ints b]]] (ints (a++b)):=by
 have h:=concatL_pc [a,b] (by simp) (fun l hl=>by
  simp only[List.mem_cons,List.not_mem_nil,or_false]at hl
  rcases hl with rfl|rfl <;> assumption)
 simpa using h
end Go.XL
namespace Go.XL
open Go.Proofs
set_option maxRecDepth 100000
set_option maxHeartbeats 8000000
theorem patsOk {h:House} (ok:h.Ok):PatsOk h:=⟨ok.many,fun i hi=>patS_ok (patsGo_ok ok.pats i (Nat.zero_le _) (by omega))⟩
theorem set_or (N:List Nat) (p q:Nat):(N.map UN).set p (UN (N.getD p 0 ||| 2 ^ q))=(orAt N p q).map UN:=by rw[orAt,List.map_set]
theorem clashing_dc (h:House) (hok:PatsOk h):DC Tryz.prog 35 [h.val] [] (fun u S'=> ∃bc,u = .v (.slice (some ⟨bc,0,none⟩) h.patterns.length h.patterns.length)∧S'= [(bc, .cells (((List.range h.patterns.length).map (clM h)).map UN) 86)]):=by
 have hm:=hok.many
 refine DC.of_run Tryz.func35 rfl Tryz.ntmps35 Tryz.results35 (by simp) (fun _ _=>?_);simp only[argV_cons,argV_nil,go_sem,Nat.zero_add,Nat.reduceAdd]
 repeat' (first|(with_reducible first|refine DS.fltS yU yU yE ?_|refine DS.opsNil ?_|refine DS.seq ?_|refine DS.regionL ?_|refine DS.block ?_)|(refine DS.boxF (t:=1) yU yE yU ?_;simp only[cells_agg,cells_v,cells_lst,cells_fn,map_nil'',map_cons'',copy_own,copy_lst,copy_v,copy_at,copy_agg,copy_fn,copy_ifc,copy_tup])|(refine DS.mkS yU yE yE yE yE yU yU ⟨by omega,by omega,by decide,by omega⟩ (fun _ hfr=>?_))|fail)
 rename_i bo
 have hz:zerosV (.int .u64 0) ((h.patterns.length:Nat):Int).toNat=(List.replicate h.patterns.length 0).map UN:=by
  rw[Int.toNat_natCast,zerosV]
  have e:(Value.int IntKind.u64 0).cells.toList.map V.v= [UN 0]:=rfl
  rw[e];simp
 rw[hz]
 clear hz
 refine DS.loopS [3,13,14] yN (fun(x:Nat×List Nat)=> [(15,I x.1)]) (fun(x:Nat×List Nat)=> [(bo, .cells (x.2.map UN) 86)]) (fun(x:Nat×List Nat)=>x.1≤h.patterns.length∧Gath h x.1 0 x.2) (fun(x:Nat×List Nat)=>h.patterns.length-x.1) (0,List.replicate h.patterns.length 0) yS (fun b o e=>by exact e) ⟨Nat.zero_le _,Gath.start h⟩ (fun x B hI hB=>?_);try dsimp only at hI hB;simp only[app_cons',app_nil']
 obtain⟨i,L⟩:=x
 dsimp only at hI hB ⊢
 obtain⟨i1,i2⟩:=hI
 have HB:=Box.mk hB
 clear hB
 by_cases hi:i<h.patterns.length
 ·have hi':(i:Int)<(h.patterns.length:Int):=by omega
  have hp:=hok.ok i hi
  have hpe:=pat_at hi
  have hoth:h.oth i=h.patterns[i].excl++h.patterns[i].impl:=by rw[House.oth,hpe]
  have hex:=hp.excl
  have him:=hp.impl
  rw[hpe]at hex him
  have hcc:=concat_pc h.patterns[i].excl h.patterns[i].impl (by omega) (by omega)
  rw[←hoth]at hcc
  have hol:(h.oth i).length≤20:=by rw[hoth,List.length_append];omega
  have HP:=Box.mk hp.oth
  clear hpe hp hoth hex him
  repeat' (first|(with_reducible first|refine DS.fltS yU yU yE ?_|refine DS.opsNil ?_|refine DS.seq ?_|refine DS.regionL ?_|(refine DS.cE yE ?_;refine CG.yes ?_)|refine DS.block ?_|refine DS.skip ?_)|(refine DS.bsl yU yE yE ?_;simp only[go_sem,Nat.zero_add,Nat.reduceAdd])|(refine DS.letF1 (t:=5) yU yU yU yE yU (fun _=>yE) (fun _=>yE) yE yU (by exact⟨by with_unfolding_all rfl,by with_unfolding_all decide⟩) (fun _=>by simp only[go_sem,Nat.reduceEqDiff,↓reduceIte]) ?_;simp only[go_sem])|refine DS.pcS inferInstance (hcc) yR yT ?_|fail)
  refine DS.loopS [3,4,13,14,15,25,26] yN (fun(y:Nat×List Nat)=> [(27,I y.1)]) (fun(y:Nat×List Nat)=> [(bo, .cells (y.2.map UN) 86)]) (fun(y:Nat×List Nat)=>y.1≤(h.oth i).length∧Gath h i y.1 y.2) (fun(y:Nat×List Nat)=>(h.oth i).length-y.1) (0,L) yS (fun b o e=>by exact e) ⟨Nat.zero_le _,i2⟩ (fun y B hI hB=>?_);try dsimp only at hI hB;simp only[app_cons',app_nil']
  obtain⟨j,M⟩:=y
  dsimp only at hI hB ⊢
  obtain⟨j1,j2⟩:=hI
  clear i2
  by_cases hj:j<(h.oth i).length
  ·have hj':(j:Int)<((h.oth i).length:Int):=by omega
   obtain⟨k1,k2,k3⟩:=HP.out _ (List.getElem_mem hj)
   obtain⟨K,hk⟩:=Int.eq_ofNat_of_zero_le k1
   have hK:K<h.patterns.length:=by omega
   have hKi: ¬i=K:=by omega
   have hlen:=j2.len
   have get: ∀(N:List Nat) (a:Nat),N.length=h.patterns.length→a<h.patterns.length→(N.map UN)[a]?=some (UN (N.getD a 0)):=fun N a h1 h2=>by
    rw[List.getElem?_map,List.getElem?_eq_getElem (by omega),List.getD_eq_getElem?_getD,List.getElem?_eq_getElem (by omega)];rfl
   have lt: ∀(N:List Nat) (a:Nat),(∀m∈N,m<2 ^ 64)→N.getD a 0<18446744073709551616:=fun N a h1=>by
    rw[List.getD_eq_getElem?_getD]
    cases e:N[a]? with
    | none=>simp
    | some v=>exact h1 v (List.mem_of_getElem? e)
   have m1:=get M i hlen hi
   have m2:=get (orAt M i K) K (by rw[orAt_len];exact hlen) hK
   have l1:=lt M i j2.lt
   have l2:=lt (orAt M i K) K (orAt_lt j2.lt (by omega))
   have p1:2 ^ K<18446744073709551616:=show _<2 ^ 64 from Nat.pow_lt_pow_right (by omega) (by omega)
   have p2:2 ^ i<18446744073709551616:=show _<2 ^ 64 from Nat.pow_lt_pow_right (by omega) (by omega)
   have o1:bop Tryz.prog .or 86 (.int .u64 (M.getD i 0:Nat)) (.int .u64 ((2 ^ K:Nat):Int))=some (.int .u64 ((M.getD i 0 ||| 2 ^ K:Nat):Int)):=bop_orU l1 p1
   have o2:bop Tryz.prog .or 86 (.int .u64 ((orAt M i K).getD K 0:Nat)) (.int .u64 ((2 ^ i:Nat):Int))=some (.int .u64 (((orAt M i K).getD K 0 ||| 2 ^ i:Nat):Int)):=bop_orU l2 p2
   have s1:bop Tryz.prog .shl 86 (.int .u64 1) (.int .i64 (K:Int))=some (.int .u64 ((2 ^ K:Nat):Int)):=bop_shlU (by omega)
   have s2:bop Tryz.prog .shl 86 (.int .u64 1) (.int .i64 (i:Int))=some (.int .u64 ((2 ^ i:Nat):Int)):=bop_shlU (by omega)
   have st1:(M.map UN).set i (UN (M.getD i 0 ||| 2 ^ K))=(orAt M i K).map UN:=set_or _ _ _
   have st2:((orAt M i K).map UN).set K (UN ((orAt M i K).getD K 0 ||| 2 ^ i))=(orAt (orAt M i K) K i).map UN:=set_or _ _ _
   have hg:=j2.step hi hm hj hk hK
   have hKn:K<(h.patterns.length:Nat):=hK
   have hol2:(orAt M i K).length=h.patterns.length:=by rw[orAt_len];exact hlen
   have HX:=Box.mk (And.intro hg st2)
   clear hg j2 get lt l1 l2 p1 p2 k1 k2 k3
   repeat' (first|(with_reducible first|refine DS.fltS yU yU yE ?_|refine DS.opsNil ?_|refine DS.seq ?_|refine DS.regionL ?_|(refine DS.cE yE ?_;refine CG.yes ?_)|refine DS.blk ?_|refine DS.block ?_|refine DS.skip ?_)|(refine DS.store yR yE yE yE yE yU (by exact⟨by with_unfolding_all rfl,by(try simp only[List.length_map,List.length_append,List.length_set,List.length_replicate,List.length_cons,List.length_nil]);omega⟩) ?_;simp only[putV_none,setAll_cons,setAll_nil,scells_v,scells_own,scells_lst,scells_agg];try simp only[strip_tmp,strip_const,lookV_cons,Nat.reduceEqDiff,↓reduceIte,stripO_own,stripO_lst,stripO_v,stripO_plc,stripO_agg,stripO_fn,stripO_ifc])|refine DS.drawL (id:=8) [0,1,2,3,4,5] 6 (by kernel_rfl) mixed (by simp only[pickL_cons,pickL_nil,get_zero',get_cons',pickO_some];exact rfl) (by simp only[drop_zero',drop_cons',List.drop_nil];exact rfl) ?_|refine DS.drawL (id:=9) [0,1,2,3,4,5] 6 (by kernel_rfl) mixed (by simp only[pickL_cons,pickL_nil,get_zero',get_cons',pickO_some];exact rfl) (by simp only[drop_zero',drop_cons',List.drop_nil];exact rfl) ?_|(with_reducible first|refine DD.fltS yU yU yU yE ?_|refine DD.nil0 ?_)|fail)
   rw[HX.out.2]
   simp only[setS,↓reduceIte]
   exact DS.back (hB (j+1,orAt (orAt M i K) K i) _ _ (by dsimp only;omega) ⟨by dsimp only;omega,HX.out.1⟩ yS yS (fun b o e=>by exact e))
  ·have hj': ¬(j:Int)<((h.oth i).length:Int):=by omega
   have hje:j=(h.oth i).length:=by omega
   rw[hje]at j2
   have j3:=j2.next
   clear hje hB j2
   repeat' (first|(with_reducible first|refine DS.fltS yU yU yE ?_|refine DS.opsNil ?_|refine DS.seq ?_|refine DS.regionL ?_|(refine DS.cE yE ?_;refine CG.no ?_)|refine DS.blk ?_|refine DS.exit yU ?_)|fail)
   exact DS.back (HB.out (i+1,M) _ _ (by dsimp only;omega) ⟨by dsimp only;omega,j3⟩ yS yS (fun b o e=>by exact e))
 ·have hi': ¬(i:Int)<(h.patterns.length:Int):=by omega
  have hie:i=h.patterns.length:=by omega
  have hlen:=i2.len
  rw[hie]at i2
  have he:=i2.end hok
  clear i2 HB hie
  repeat' (first|(with_reducible first|refine DS.fltS yU yU yE ?_|refine DS.opsNil ?_|refine DS.seq ?_|refine DS.regionL ?_|(refine DS.cE yE ?_;refine CG.no ?_)|refine DS.exit yU ?_)|fail)
  rw[he]
  refine DS.retA yG ⟨bo,rfl,rfl⟩
end Go.XL
