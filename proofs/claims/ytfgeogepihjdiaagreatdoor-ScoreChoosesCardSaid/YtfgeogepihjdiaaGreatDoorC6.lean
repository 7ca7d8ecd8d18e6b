/- A part of a program logic over the kit's walk rules, and contracts of functions in it. Conditions: as each theorem says. -/
import Derived.Test.YtfgeogepihjdiaaGreatDoorC5
import Derived.Test.YtfgeogepihjdiaaGreatDoorRows
import Derived.WideKeyArgs
import Derived.OpenShut
import Derived.WalkKit
import Derived.ProofKit
set_option linter.all false
namespace Go.XL
open Go.Proofs
set_option maxRecDepth 100000
set_option maxHeartbeats 8000000
structure PayM where
 h:House
 points:Int
 dealer:Int
 winner:Int
 from_:Int
 counters:Int
def PayM.cells (p:PayM):List V:=p.h.cells++ [I p.points,I p.dealer,I p.winner,I p.from_,I p.counters]
@[go_sem] theorem PayM.cells_eq (p:PayM):p.cells= [I p.h.set.players,ints p.h.set.suits,I p.h.set.winds,I p.h.set.dragons,I p.h.set.flowers,I p.h.set.copies,I p.h.set.melds,I p.h.set.dead,ints p.h.set.reds,
 formsV p.h.forms,patsV p.h.patterns,nodesV p.h.minor,I p.h.least,
 I p.h.scale.base,Bo p.h.scale.double, .lst (p.h.scale.limits.map Limit.cells),I p.h.scale.round,
 I p.h.pay.mode,Bo p.h.pay.dealer,I p.h.pay.basic,I p.h.pay.counter,I p.h.pay.stick,I p.h.pay.pool,I p.h.pay.foul,I p.h.pay.start,I p.h.pay.rounds,I p.h.pay.stay,Bo p.h.pay.bust,ints p.h.pay.places, .lst (p.h.pay.feeds.map Feed.cells),
 Bo p.h.play.chows,I p.h.play.heads,Bo p.h.play.riichi,I p.h.play.last,Bo p.h.play.furiten,I p.h.play.rob,I p.h.play.kongs,I p.h.play.nines,Bo p.h.play.winds,Bo p.h.play.riichis,Bo p.h.play.swap,I p.h.play.time,I p.h.play.foul,I p.h.play.indicators,Bo p.h.play.show_,Bo p.h.play.under,
 I p.points,I p.dealer,I p.winner,I p.from_,I p.counters]:=rfl
abbrev PayM.val (p:PayM):V := .agg p.cells
structure PayM.Ok (p:PayM):Prop where
 players:3≤p.h.set.players∧p.h.set.players≤4
 points:0≤p.points∧p.points≤1000000
 round:1≤p.h.scale.round∧p.h.scale.round≤10000
 mode:1≤p.h.pay.mode∧p.h.pay.mode≤3
 basic:0≤p.h.pay.basic∧p.h.pay.basic≤1000000
 counter:0≤p.h.pay.counter∧p.h.pay.counter≤1000000
 counters:0≤p.counters∧p.counters≤100
theorem seat_pc (h:House) (n:Int):PC Tryz.prog 50 [h.val,I n] (Bo (h.seat n)):=by
 refine DC.of_run Tryz.func50 rfl Tryz.ntmps50 Tryz.results50 (by simp) (fun _ _=>?_);simp only[argV_cons,argV_nil,go_sem,Nat.zero_add,Nat.reduceAdd]
 repeat' (first|(with_reducible first|refine DS.fltS yU yU yE ?_|refine DS.opsNil ?_|refine DS.seq ?_|refine DS.regionL ?_|(refine DS.gE yU yE ?_;first|refine GG.pT (fun _=>?_) (fun _=>?_)|refine GG.run ?_|refine GG.sF ?_))|(refine DS.boxF (t:=2) yU yE yU ?_;simp only[cells_agg,cells_v,cells_lst,cells_fn,map_nil'',map_cons'',copy_own,copy_lst,copy_v,copy_at,copy_agg,copy_fn,copy_ifc,copy_tup])|refine DS.retT [] yE trivial ?_|fail)
 all_goals (simp[tupV,House.seat, *];try omega)
theorem share_pc (p:PayM) (j:Int):PC Tryz.prog 55 [p.val,I j] (I (shareS p.h p.dealer p.winner j)):=by
 refine DC.of_run Tryz.func55 rfl Tryz.ntmps55 Tryz.results55 (by simp) (fun _ _=>?_);simp only[argV_cons,argV_nil,go_sem,Nat.zero_add,Nat.reduceAdd]
 repeat' (first|(with_reducible first|refine DS.fltS yU yU yE ?_|refine DS.opsNil ?_|refine DS.seq ?_|refine DS.regionL ?_|(refine DS.cE yE ?_;first|refine CG.p (fun _=>?_) (fun _=>?_)|refine CG.yes ?_|refine CG.no ?_)|(refine DS.gE yU yE ?_;first|refine GG.sU ?_|refine GG.pF (fun _=>?_) (fun _=>?_)|refine GG.run ?_|refine GG.sF ?_|refine GG.sT ?_|refine GG.bT (fun _=>?_) (fun _=>?_))|refine DS.blk ?_|refine DS.block ?_|refine DS.skip ?_)|(refine DS.boxF (t:=2) yU yE yU ?_;simp only[cells_agg,cells_v,cells_lst,cells_fn,map_nil'',map_cons'',copy_own,copy_lst,copy_v,copy_at,copy_agg,copy_fn,copy_ifc,copy_tup])|refine DS.retT [] yE trivial ?_|fail)
 all_goals (simp only[tupV,shareS];(repeat' split) <;> first|rfl|(exfalso;omega)|(exfalso;grind))
theorem shareS_bd (h:House) (d w j:Int):0≤shareS h d w j∧shareS h d w j≤2:=by
 unfold shareS;split
 ·omega
 ·split <;> omega
theorem up_bd {n to:Int} (h0:0≤n) (h1:1≤to):0≤upS n to∧upS n to≤n+to:=by
 unfold upS
 have h2:=Int.emod_add_mul_ediv (n+to-1) to
 have h3:=Int.emod_nonneg (n+to-1) (show to≠0 by omega)
 have h4:0≤(n+to-1) / to:=Int.ediv_nonneg (by omega) (by omega)
 have h5:0≤(n+to-1) / to*to:=Int.mul_nonneg h4 (by omega)
 rw[Int.mul_comm]at h2
 omega
theorem up_pc (p:PayM) (n:Int) (ok:p.Ok) (hn:0≤n∧n≤8):PC Tryz.prog 97 [p.val,I n] (I (upS (p.points*n) p.h.scale.round)):=by
 have h1:=ok.points
 have h2:=ok.round
 have h3:0≤p.points*n:=Int.mul_nonneg h1.1 hn.1
 have h4:p.points*n≤1000000*8:=Int.mul_le_mul h1.2 hn.2 hn.1 (by omega)
 have hb:=up_bd h3 h2.1
 have e:(p.points*n+p.h.scale.round-1).tdiv p.h.scale.round=(p.points*n+p.h.scale.round-1) / p.h.scale.round:=Int.tdiv_eq_ediv_of_nonneg (by omega)
 have h5:0≤(p.points*n+p.h.scale.round-1) / p.h.scale.round:=Int.ediv_nonneg (by omega) (by omega)
 have h6:(p.points*n+p.h.scale.round-1) / p.h.scale.round≤p.points*n+p.h.scale.round-1:=Int.ediv_le_self _ (by omega)
 have h7:p.h.scale.round≠0:=by omega
 unfold upS at hb ⊢
 refine DC.of_run Tryz.func97 rfl Tryz.ntmps97 Tryz.results97 (by simp) (fun _ _=>?_);simp only[argV_cons,argV_nil,go_sem,Nat.zero_add,Nat.reduceAdd]
 repeat' (first|(with_reducible first|refine DS.fltS yU yU yE ?_|refine DS.opsNil ?_|refine DS.seq ?_|refine DS.regionL ?_)|(refine DS.boxF (t:=2) yU yE yU ?_;simp only[cells_agg,cells_v,cells_lst,cells_fn,map_nil'',map_cons'',copy_own,copy_lst,copy_v,copy_at,copy_agg,copy_fn,copy_ifc,copy_tup])|refine DS.retT [] yE trivial ?_|fail)
 rfl
theorem all_pc5 (p:PayM) (j:Int) (ok:p.Ok):PC Tryz.prog 211 [p.val,I j] (I (if j=p.from_ then 2*upS (p.points*shareS p.h p.dealer p.winner j) p.h.scale.round else upS (p.points*shareS p.h p.dealer p.winner j) p.h.scale.round)):=by
 have hs:=share_pc p j
 have hb:=shareS_bd p.h p.dealer p.winner j
 generalize shareS p.h p.dealer p.winner j=s at *
 have hu:=up_pc p s ok (by omega)
 have h1:=ok.points
 have h3:0≤p.points*s:=Int.mul_nonneg h1.1 hb.1
 have h4:p.points*s≤1000000*2:=Int.mul_le_mul h1.2 hb.2 hb.1 (by omega)
 have hub:=up_bd h3 ok.round.1
 have hr:=ok.round
 generalize upS (p.points*s) p.h.scale.round=u at *
 refine DC.of_run Tryz.func211 rfl Tryz.ntmps211 Tryz.results211 (by simp) (fun _ _=>?_);simp only[argV_cons,argV_nil,go_sem,Nat.zero_add,Nat.reduceAdd]
 repeat' (first|(with_reducible first|refine DS.fltS yU yU yE ?_|refine DS.opsNil ?_|refine DS.seq ?_|refine DS.regionL ?_|(refine DS.cE yE ?_;refine CG.p (fun _=>?_) (fun _=>?_))|refine DS.skip ?_)|refine DS.pcS inferInstance (hu) yR yT ?_|(refine DS.boxF (t:=2) yU yE yU ?_;simp only[cells_agg,cells_v,cells_lst,cells_fn,map_nil'',map_cons'',copy_own,copy_lst,copy_v,copy_at,copy_agg,copy_fn,copy_ifc,copy_tup])|refine DS.drawL (id:=2) [0,1,2,3] 4 (by kernel_rfl) mixed (by simp only[pickL_cons,pickL_nil,get_zero',get_cons',pickO_some];exact rfl) (by simp only[drop_zero',drop_cons',List.drop_nil];exact rfl) ?_|refine DS.drawL (id:=3) [0,1,2,3] 4 (by kernel_rfl) mixed (by simp only[pickL_cons,pickL_nil,get_zero',get_cons',pickO_some];exact rfl) (by simp only[drop_zero',drop_cons',List.drop_nil];exact rfl) ?_|(with_reducible first|refine DD.fltS yU yU yU yE ?_|refine DD.nil0 ?_)|refine DD.pcV0 inferInstance (hs) yU yT ?_|refine DS.retT [] yE trivial ?_|fail)
 all_goals first|(rw[if_pos (by omega)];rfl)|(rw[if_neg (by omega)];rfl)
theorem basic_pc (p:PayM) (j:Int) (ok:p.Ok):PC Tryz.prog 214 [p.val,I j] (I (if j=p.from_ then upS (p.points*shareS p.h p.dealer p.winner j) p.h.scale.round+p.h.pay.basic else p.h.pay.basic)):=by
 have hs:=share_pc p j
 have hb:=shareS_bd p.h p.dealer p.winner j
 generalize shareS p.h p.dealer p.winner j=s at *
 have hu:=up_pc p s ok (by omega)
 have h1:=ok.points
 have h3:0≤p.points*s:=Int.mul_nonneg h1.1 hb.1
 have h4:p.points*s≤1000000*2:=Int.mul_le_mul h1.2 hb.2 hb.1 (by omega)
 have hub:=up_bd h3 ok.round.1
 have hr:=ok.round
 have hba:=ok.basic
 generalize upS (p.points*s) p.h.scale.round=u at *
 refine DC.of_run Tryz.func214 rfl Tryz.ntmps214 Tryz.results214 (by simp) (fun _ _=>?_);simp only[argV_cons,argV_nil,go_sem,Nat.zero_add,Nat.reduceAdd]
 repeat' (first|(with_reducible first|refine DS.fltS yU yU yE ?_|refine DS.opsNil ?_|refine DS.seq ?_|refine DS.regionL ?_|(refine DS.cE yE ?_;refine CG.p (fun _=>?_) (fun _=>?_))|refine DS.skip ?_)|(refine DS.boxF (t:=2) yU yE yU ?_;simp only[cells_agg,cells_v,cells_lst,cells_fn,map_nil'',map_cons'',copy_own,copy_lst,copy_v,copy_at,copy_agg,copy_fn,copy_ifc,copy_tup])|refine DS.drawL (id:=2) [0,1,2,3,4,5,6,7,8] 9 (by kernel_rfl) mixed (by simp only[pickL_cons,pickL_nil,get_zero',get_cons',pickO_some];exact rfl) (by simp only[drop_zero',drop_cons',List.drop_nil];exact rfl) ?_|(with_reducible first|refine DD.fltS yU yU yU yE ?_|refine DD.nil0 ?_)|refine DD.pcV0 inferInstance (hs) yU yT ?_|refine DD.pcV0 inferInstance (hu) yU yT ?_|refine DS.retT [] yE trivial ?_|fail)
 all_goals first|(rw[if_pos (by omega)];rfl)|(rw[if_neg (by omega)];rfl)
theorem sumTo_bd {f:Nat→Int} {lo hi:Int} (h: ∀i,lo≤f i∧f i≤hi): ∀n:Nat,lo*n≤sumTo f n∧sumTo f n≤hi*n
 | 0=>by simp[sumTo]
 | n+1=>by
  have h1:=sumTo_bd h n
  have h2:=h n
  rw[sumTo,Int.natCast_add,Int.mul_add,Int.mul_add];omega
theorem alone_pc (p:PayM) (j:Int) (ok:p.Ok):PC Tryz.prog 213 [p.val,I j] (I (if j=p.from_ then upS (p.points*sumTo (fun i=>shareS p.h p.dealer p.winner i) p.h.set.players.toNat) p.h.scale.round else 0)):=by
 have hpl:=ok.players
 have hbd:=sumTo_bd (f:=fun i:Nat=>shareS p.h p.dealer p.winner i) (lo:=0) (hi:=2) fun i=>shareS_bd _ _ _ _
 refine DC.of_run Tryz.func213 rfl Tryz.ntmps213 Tryz.results213 (by simp) (fun _ _=>?_);simp only[argV_cons,argV_nil,go_sem,Nat.zero_add,Nat.reduceAdd]
 by_cases hj:j=p.from_
 ·rw[if_pos hj]
  repeat' (first|(with_reducible first|refine DS.fltS yU yU yE ?_|refine DS.opsNil ?_|refine DS.seq ?_|refine DS.regionL ?_|(refine DS.cE yE ?_;refine CG.no ?_)|refine DS.block ?_|refine DS.skip ?_)|(refine DS.boxF (t:=2) yU yE yU ?_;simp only[cells_agg,cells_v,cells_lst,cells_fn,map_nil'',map_cons'',copy_own,copy_lst,copy_v,copy_at,copy_agg,copy_fn,copy_ifc,copy_tup])|fail)
  all_goals try (exfalso;omega)
  refine DS.loopK [2,14] yN (fun(z:Nat×Int)=> [(5,I z.2),(15,I z.1)]) (fun(z:Nat×Int)=>z.1≤p.h.set.players.toNat∧z.2=sumTo (fun i=>shareS p.h p.dealer p.winner i) z.1) (fun(z:Nat×Int)=>p.h.set.players.toNat-z.1) (0,0) yS ⟨Nat.zero_le _,rfl⟩ (fun z B hI hB=>?_);try dsimp only at hI hB;simp only[app_cons',app_nil']
  have HB:=Box.mk hB
  clear hB
  obtain⟨i,kk⟩:=z
  dsimp only at hI ⊢
  obtain⟨hI,hI1⟩:=hI
  have b1:=hbd i
  rw[←hI1]at b1
  have H1:=Box.mk hI1
  clear hI1
  by_cases hi:(i:Int)<p.h.set.players
  ·have hs:=share_pc p i
   have hb:=shareS_bd p.h p.dealer p.winner i
   repeat' (first|(with_reducible first|refine DS.fltS yU yU yE ?_|refine DS.opsNil ?_|refine DS.seq ?_|refine DS.regionL ?_|(refine DS.cE yE ?_;refine CG.yes ?_)|refine DS.blk ?_|refine DS.block ?_|refine DS.skip ?_)|refine DS.pcS inferInstance (hs) yR yT ?_|fail)
   exact DS.back (HB.out (i+1,kk+shareS p.h p.dealer p.winner i) _ _ (by dsimp only;omega) ⟨by dsimp only;omega,by dsimp only;rw[H1.out];rfl⟩ yS yS (fun b o e=>by cases e))
  ·have hi2:i=p.h.set.players.toNat:=by omega
   subst hi2
   rw[←H1.out]
   have hu:=up_pc p kk ok (by omega)
   repeat' (first|(with_reducible first|refine DS.fltS yU yU yE ?_|refine DS.opsNil ?_|refine DS.seq ?_|refine DS.regionL ?_|(refine DS.cE yE ?_;refine CG.no ?_)|refine DS.exit yU ?_)|refine DS.pcS inferInstance (hu) yR yT ?_|refine DS.retT [] yE trivial ?_|fail)
   rfl
 ·rw[if_neg hj]
  repeat' (first|(with_reducible first|refine DS.fltS yU yU yE ?_|refine DS.opsNil ?_|refine DS.seq ?_|refine DS.regionL ?_|(refine DS.cE yE ?_;refine CG.yes ?_))|(refine DS.boxF (t:=2) yU yE yU ?_;simp only[cells_agg,cells_v,cells_lst,cells_fn,map_nil'',map_cons'',copy_own,copy_lst,copy_v,copy_at,copy_agg,copy_fn,copy_ifc,copy_tup])|refine DS.retT [] yE trivial ?_|fail)
  all_goals first|rfl|(exfalso;omega)
theorem owesS_bd (p:PayM) (ok:p.Ok) (j:Int):0≤owesS p.h p.points p.dealer p.winner p.from_ p.counters j∧owesS p.h p.points p.dealer p.winner p.from_ p.counters j≤1000000000:=by
 have hb:=shareS_bd p.h p.dealer p.winner j
 have hbd:=sumTo_bd (f:=fun i:Nat=>shareS p.h p.dealer p.winner i) (lo:=0) (hi:=2) (fun i=>shareS_bd _ _ _ _) p.h.set.players.toNat
 have h1:=ok.points
 have h2:=ok.round
 have h3:=ok.players
 have h4:=ok.basic
 have h5:=ok.counter
 have h6:=ok.counters
 have c1:0≤p.h.pay.counter*p.counters:=Int.mul_nonneg h5.1 h6.1
 have c2:p.h.pay.counter*p.counters≤1000000*100:=Int.mul_le_mul h5.2 h6.2 h6.1 (by omega)
 have c3:0≤p.h.pay.counter*p.counters*(p.h.set.players-1):=Int.mul_nonneg c1 (by omega)
 have c4:p.h.pay.counter*p.counters*(p.h.set.players-1)≤1000000*100*3:=Int.mul_le_mul c2 (by omega) (by omega) (by omega)
 unfold owesS
 generalize shareS p.h p.dealer p.winner j=s at *
 generalize sumTo (fun i:Nat=>shareS p.h p.dealer p.winner i) p.h.set.players.toNat=t at *
 have a1:0≤p.points*s:=Int.mul_nonneg h1.1 hb.1
 have a2:p.points*s≤1000000*2:=Int.mul_le_mul h1.2 hb.2 hb.1 (by omega)
 have a3:0≤p.points*t:=Int.mul_nonneg h1.1 (by omega)
 have a4:p.points*t≤1000000*8:=Int.mul_le_mul h1.2 (by omega) (by omega) (by omega)
 have u1:=up_bd a1 h2.1
 have u2:=up_bd a3 h2.1
 generalize p.h.pay.counter*p.counters*(p.h.set.players-1)=C2 at *
 generalize p.h.pay.counter*p.counters=C1 at *
 generalize upS (p.points*s) p.h.scale.round=U1 at *
 generalize upS (p.points*t) p.h.scale.round=U2 at *
 (repeat' split) <;> omega
theorem owes_pc (p:PayM) (j:Int) (ok:p.Ok):PC Tryz.prog 52 [p.val,I j] (I (owesS p.h p.points p.dealer p.winner p.from_ p.counters j)):=by
 have hs:=share_pc p j
 have hb:=shareS_bd p.h p.dealer p.winner j
 have hA:=alone_pc p j ok
 have hL:=all_pc5 p j ok
 have hC:=basic_pc p j ok
 have h1:=ok.points
 have h2:=ok.round
 have h3:=ok.players
 have h4:=ok.basic
 have h5:=ok.counter
 have h6:=ok.counters
 have h7:=ok.mode
 have c1:0≤p.h.pay.counter*p.counters:=Int.mul_nonneg h5.1 h6.1
 have c2:p.h.pay.counter*p.counters≤1000000*100:=Int.mul_le_mul h5.2 h6.2 h6.1 (by omega)
 have c3:0≤p.h.pay.counter*p.counters*(p.h.set.players-1):=Int.mul_nonneg c1 (by omega)
 have c4:p.h.pay.counter*p.counters*(p.h.set.players-1)≤1000000*100*3:=Int.mul_le_mul c2 (by omega) (by omega) (by omega)
 have hbd:=sumTo_bd (f:=fun i:Nat=>shareS p.h p.dealer p.winner i) (lo:=0) (hi:=2) (fun i=>shareS_bd _ _ _ _) p.h.set.players.toNat
 unfold owesS
 generalize sumTo (fun i:Nat=>shareS p.h p.dealer p.winner i) p.h.set.players.toNat=t at *
 generalize shareS p.h p.dealer p.winner j=s at *
 have hu:=up_pc p s ok (by omega)
 have a1:0≤p.points*s:=Int.mul_nonneg h1.1 hb.1
 have a2:p.points*s≤1000000*2:=Int.mul_le_mul h1.2 hb.2 hb.1 (by omega)
 have a3:0≤p.points*t:=Int.mul_nonneg h1.1 (by omega)
 have a4:p.points*t≤1000000*8:=Int.mul_le_mul h1.2 (by omega) (by omega) (by omega)
 have u1:=up_bd a1 h2.1
 have u2:=up_bd a3 h2.1
 generalize upS (p.points*s) p.h.scale.round=U1 at *
 generalize upS (p.points*t) p.h.scale.round=U2 at *
 refine DC.of_run Tryz.func52 rfl Tryz.ntmps52 Tryz.results52 (by simp) (fun v0 hk=>?_);simp only[argV_cons,argV_nil,go_sem,Nat.zero_add,Nat.reduceAdd]
 obtain⟨bm,es,clock,k1,k2,k3⟩:=hk.more
 have h1b:=Box.mk h7
 by_cases hf:p.from_=p.winner
 ·rw[if_pos hf]
  have hf1:=eq_true hf
  clear hf
  by_cases hm:p.h.pay.mode=3
  ·rw[if_pos hm]
   have hm1:=eq_true hm
   clear hm
   repeat' (first|(with_reducible first|refine DS.fltS yU yU yE ?_|refine DS.opsNil ?_|refine DS.seq ?_|refine DS.regionL ?_|(refine DS.cE yE ?_;refine CG.yes ?_))|(refine DS.boxF (t:=2) yU yE yU ?_;simp only[cells_agg,cells_v,cells_lst,cells_fn,map_nil'',map_cons'',copy_own,copy_lst,copy_v,copy_at,copy_agg,copy_fn,copy_ifc,copy_tup])|refine DS.drawL (id:=3) [0,1,2,3,4,5] 6 (by kernel_rfl) mixed (by simp only[pickL_cons,pickL_nil,get_zero',get_cons',pickO_some];exact rfl) (by simp only[drop_zero',drop_cons',List.drop_nil];exact rfl) ?_|(with_reducible first|refine DD.fltS yU yU yU yE ?_|refine DD.nil0 ?_)|refine DD.pcV0 inferInstance (hs) yU yT ?_|refine DD.pcV0 inferInstance (hu) yU yT ?_|refine DS.retT [] yE trivial ?_|fail)
   all_goals first|rfl|(exfalso;omega)|trace_state
  ·rw[if_neg hm,Int.add_zero]
   repeat' (first|(with_reducible first|refine DS.fltS yU yU yE ?_|refine DS.opsNil ?_|refine DS.seq ?_|refine DS.regionL ?_|(refine DS.cE yE ?_;first|refine CG.yes ?_|refine CG.no ?_)|refine DS.skip ?_)|(refine DS.boxF (t:=2) yU yE yU ?_;simp only[cells_agg,cells_v,cells_lst,cells_fn,map_nil'',map_cons'',copy_own,copy_lst,copy_v,copy_at,copy_agg,copy_fn,copy_ifc,copy_tup])|refine DS.drawL (id:=3) [0,1,2,3,4,5] 6 (by kernel_rfl) mixed (by simp only[pickL_cons,pickL_nil,get_zero',get_cons',pickO_some];exact rfl) (by simp only[drop_zero',drop_cons',List.drop_nil];exact rfl) ?_|(with_reducible first|refine DD.fltS yU yU yU yE ?_|refine DD.nil0 ?_)|refine DD.pcV0 inferInstance (hs) yU yT ?_|refine DD.pcV0 inferInstance (hu) yU yT ?_|refine DS.retT [] yE trivial ?_|fail)
   all_goals first|rfl|(exfalso;omega)|trace_state
 ·rw[if_neg hf]
  repeat' (first|(with_reducible first|refine DS.fltS yU yU yE ?_|refine DS.opsNil ?_|refine DS.seq ?_|refine DS.regionL ?_|(refine DS.cE yE ?_;refine CG.no ?_)|refine DS.skip ?_)|(refine DS.boxF (t:=2) yU yE yU ?_;simp only[cells_agg,cells_v,cells_lst,cells_fn,map_nil'',map_cons'',copy_own,copy_lst,copy_v,copy_at,copy_agg,copy_fn,copy_ifc,copy_tup])|fail)
  refine DS.loadG (m:=1) (by decide) (by kernel_rfl) k1 yR ?_
  repeat' (first|with_reducible refine DS.fltS yU yU yE ?_|fail)
  refine DS.lookM (m:=p.h.pay.mode) (by decide) k2 k3 yH yH h1b.out ?_
  have hmode:p.h.pay.mode=1∨p.h.pay.mode=2∨p.h.pay.mode=3:=by omega
  rcases hmode with hm|hm|hm
  ·rw[if_pos hm,show modeF p.h.pay.mode=213 by rw[hm];rfl]
   clear hm
   by_cases hj:j=p.from_
   ·rw[if_pos hj]at hA
    rw[if_pos hj,if_pos hj]
    have hj1:=eq_true hj
    clear hj
    repeat' (first|(with_reducible first|refine DS.fltS yU yU yE ?_|refine DS.opsNil ?_|refine DS.seq ?_|refine DS.regionL ?_|(refine DS.cE yE ?_;refine CG.yes ?_))|refine DS.pcVS inferInstance yE (hA) yR yT ?_|refine DS.retT [] yE trivial ?_|fail)
    all_goals first|rfl|(exfalso;omega)
   ·rw[if_neg hj]at hA
    rw[if_neg hj,if_neg hj]
    repeat' (first|(with_reducible first|refine DS.fltS yU yU yE ?_|refine DS.opsNil ?_|refine DS.seq ?_|refine DS.regionL ?_|(refine DS.cE yE ?_;refine CG.no ?_)|refine DS.skip ?_)|refine DS.pcVS inferInstance yE (hA) yR yT ?_|refine DS.retT [] yE trivial ?_|fail)
    all_goals first|rfl|(exfalso;omega)
  ·rw[if_neg (by omega),if_pos hm,show modeF p.h.pay.mode=211 by rw[hm];rfl]
   clear hm
   by_cases hj:j=p.from_
   ·rw[if_pos hj]at hL
    rw[if_pos hj,if_pos hj]
    have hj1:=eq_true hj
    clear hj
    repeat' (first|(with_reducible first|refine DS.fltS yU yU yE ?_|refine DS.opsNil ?_|refine DS.seq ?_|refine DS.regionL ?_|(refine DS.cE yE ?_;refine CG.yes ?_))|refine DS.pcVS inferInstance yE (hL) yR yT ?_|refine DS.retT [] yE trivial ?_|fail)
    all_goals first|rfl|(exfalso;omega)
   ·rw[if_neg hj]at hL
    rw[if_neg hj,if_neg hj,Int.add_zero]
    repeat' (first|(with_reducible first|refine DS.fltS yU yU yE ?_|refine DS.opsNil ?_|refine DS.seq ?_|refine DS.regionL ?_|(refine DS.cE yE ?_;refine CG.no ?_)|refine DS.skip ?_)|refine DS.pcVS inferInstance yE (hL) yR yT ?_|refine DS.retT [] yE trivial ?_|fail)
    all_goals first|rfl|(exfalso;omega)
  ·rw[if_neg (by omega),if_neg (by omega),show modeF p.h.pay.mode=214 by rw[hm];rfl]
   clear hm
   by_cases hj:j=p.from_
   ·rw[if_pos hj]at hC
    rw[if_pos hj,if_pos hj]
    have hj1:=eq_true hj
    clear hj
    repeat' (first|(with_reducible first|refine DS.fltS yU yU yE ?_|refine DS.opsNil ?_|refine DS.seq ?_|refine DS.regionL ?_|(refine DS.cE yE ?_;refine CG.yes ?_))|refine DS.pcVS inferInstance yE (hC) yR yT ?_|refine DS.retT [] yE trivial ?_|fail)
    all_goals first|rfl|(exfalso;omega)
   ·rw[if_neg hj]at hC
    rw[if_neg hj,if_neg hj,Int.add_zero]
    repeat' (first|(with_reducible first|refine DS.fltS yU yU yE ?_|refine DS.opsNil ?_|refine DS.seq ?_|refine DS.regionL ?_|(refine DS.cE yE ?_;refine CG.no ?_)|refine DS.skip ?_)|refine DS.pcVS inferInstance yE (hC) yR yT ?_|refine DS.retT [] yE trivial ?_|fail)
    all_goals first|rfl|(exfalso;omega)
end Go.XL
namespace Go.XL
open Go.Proofs
set_option maxRecDepth 100000
set_option maxHeartbeats 8000000
structure House.CondsPC (h:House):Prop where
 minor:CondPC h.set h.minor
 pats: ∀(i:Nat) (hi:i<h.patterns.length),CondPC h.set h.patterns[i].cond
theorem patsGo_at (h:House): ∀(n i:Nat),patsGo h i (n+1)=if patS h i≠0 then patS h i else patsGo h (i+1) n:=fun _ _=>rfl
theorem house_pc (h:House) (hc:h.CondsPC):PC Tryz.prog 33 [h.val] (I (houseS h)):=by
 have h1:=tcheck_pc h.set
 have h2:=forms_pc h.set h.forms
 have hm:=hc.minor
 unfold CondPC at hm
 by_cases h0:gsetS h.set=0
 ·rw[h0]at h1
  by_cases hf:formsS h.set h.forms=0
  ·rw[hf]at h2
   rw[houseS,if_neg (by omega)]
   refine DC.of_run Tryz.func33 rfl Tryz.ntmps33 Tryz.results33 (by simp) (fun _ _=>?_);simp only[argV_cons,argV_nil,go_sem,Nat.zero_add,Nat.reduceAdd]
   repeat' (first|(with_reducible first|refine DS.fltS yU yU yE ?_|refine DS.opsNil ?_|refine DS.seq ?_|refine DS.regionL ?_|(refine DS.cE yE ?_;first|refine CG.p (fun _=>?_) (fun _=>?_)|refine CG.no ?_)|refine DS.block ?_|refine DS.skip ?_)|refine DS.pcS inferInstance (h1) yR yT ?_|refine DS.pcS inferInstance (h2) yR yT ?_|(refine DS.boxF (t:=1) yU yE yU ?_;simp only[cells_agg,cells_v,cells_lst,cells_fn,map_nil'',map_cons'',copy_own,copy_lst,copy_v,copy_at,copy_agg,copy_fn,copy_ifc,copy_tup])|refine DS.retT [] yE trivial ?_|fail)
   ·rw[if_pos (by omega)];rfl
   rename_i g40
   rw[if_neg (by omega)]
   refine DS.loopK [1,32] yN (fun(i:Nat)=> [(33,I i)]) (fun(i:Nat)=>i≤h.patterns.length∧patsGo h 0 h.patterns.length=patsGo h i (h.patterns.length-i)) (fun(i:Nat)=>h.patterns.length-i) 0 yS ⟨Nat.zero_le _,rfl⟩ (fun i B hI hB=>?_);try dsimp only at hI hB;simp only[app_cons',app_nil']
   have HB:=Box.mk hB
   clear hB
   obtain⟨hI,hI2⟩:=hI
   by_cases hi:(i:Int)<(h.patterns.length:Int)
   ·have hi':i<h.patterns.length:=by omega
    obtain⟨m,hmm⟩: ∃m,h.patterns.length-i=m+1:=⟨h.patterns.length-i-1,by omega⟩
    rw[hmm,patsGo_at]at hI2
    have hmm2:h.patterns.length-(i+1)=m:=by omega
    have HI:=Box.mk hI2
    clear hI2
    have hp:=pattern_pc h (by omega) hi' (hc.pats i hi')
    have HM:=Box.mk hmm
    have HM2:=Box.mk hmm2
    clear hmm hmm2
    by_cases he:patS h i=0
    ·rw[he]at hp
     repeat' (first|(with_reducible first|refine DS.fltS yU yU yE ?_|refine DS.opsNil ?_|refine DS.seq ?_|refine DS.regionL ?_|(refine DS.cE yE ?_;first|refine CG.yes ?_|refine CG.no ?_)|refine DS.blk ?_|refine DS.block ?_|refine DS.skip ?_)|refine DS.pcS inferInstance (hp) yR yT ?_|fail)
     all_goals first
      | exact DS.back (HB.out (i+1) _ _ (by omega) ⟨by omega,by rw[HI.out,HM2.out,if_neg (by omega)]⟩ yS yS (fun b o e=>by cases e))
      | (exfalso;omega)
    ·repeat' (first|(with_reducible first|refine DS.fltS yU yU yE ?_|refine DS.opsNil ?_|refine DS.seq ?_|refine DS.regionL ?_|(refine DS.cE yE ?_;refine CG.yes ?_)|refine DS.block ?_|refine DS.skip ?_)|refine DS.pcS inferInstance (hp) yR yT ?_|refine DS.retT [] yE trivial ?_|fail)
     all_goals first|(rw[HI.out,if_pos he,if_pos he];rfl)|(exfalso;omega)
   ·have e:patsGo h 0 h.patterns.length=0:=by rw[hI2,show h.patterns.length-i=0 by omega];rfl
    rw[e,if_neg (by decide),rulesH]
    clear e hI2 HB
    have c1:=houseC1_pc h
    have c2:=houseC2_pc h
    have c3:=houseC3_pc h
    generalize condX h.set h.minor=C at hm ⊢
    obtain⟨m1,m2⟩:=C
    dsimp only at hm ⊢
    generalize scaleS h.scale=X1 at c1 ⊢
    generalize payS h.set h.pay=X2 at c2 ⊢
    generalize playS h.set h.play=X3 at c3 ⊢
    repeat' (first|(with_reducible first|refine DS.fltS yU yU yE ?_|refine DS.opsNil ?_|refine DS.seq ?_|refine DS.regionL ?_|(refine DS.cE yE ?_;first|refine CG.np (fun _=>?_) (fun _=>?_)|refine CG.no ?_|refine CG.nb (fun _=>?_) (fun _=>?_))|(refine DS.gE yU yE ?_;first|refine GG.pT (fun _=>?_) (fun _=>?_)|refine GG.run ?_|refine GG.sF ?_)|refine DS.blk ?_|refine DS.block ?_|refine DS.exit yU ?_|refine DS.skip ?_)|(refine DS.bsl yU yE yE ?_;simp only[go_sem,Nat.zero_add,Nat.reduceAdd])|refine DS.pcS inferInstance (hm) yR yT ?_|refine DS.pcS inferInstance (hfrom_pc _ _ _) yR yT ?_|refine DS.retT [] yE trivial ?_|fail)
    all_goals try ((simp only[tupV];(repeat' split) <;> first|rfl|(exfalso;omega)|(exfalso;grind));done)
    all_goals
     have eR:(if m2≠0 then m2 else if 0<(h.minor.length:Int)∧m1=false then 15 else if ¬(0≤h.least∧h.least≤1000)then 2 else if X1≠0 then X1 else if X2≠0 then X2 else X3)=if X1≠0 then X1 else if X2≠0 then X2 else X3:=by
      clear hm c1 c2 c3
      rw[if_neg (by omega),if_neg (by grind),if_neg (by omega)]
     rw[eR]
     clear eR
     refine DS.weaken (E':= [(74,I 0),(73,I 3),(72, .own false 128 1 [[.fn 68 [] [.plc h.cells]],[.fn 70 [] [.plc h.cells]],[.fn 72 [] [.plc h.cells]]])]) (subV_look ⟨by rfl,by rfl,by rfl,trivial⟩) (fun _ _ e=>e) ?_
     refine DS.loopK [72,73] yN (fun(j:Int)=> [(74,I j)]) (fun(j:Int)=>0≤j∧j≤3∧(0<j→X1=0)∧(1<j→X2=0)∧(2<j→X3=0)) (fun(j:Int)=>(3-j).toNat) 0 yS ⟨by omega,by omega,by omega,by omega,by omega⟩ (fun j B hI hB=>?_);try dsimp only at hI hB;simp only[app_cons',app_nil']
     have HB:=Box.mk hB
     clear hB
     obtain⟨hj0,hj,k1,k2,k3⟩:=hI
     have HK:=Box.mk (And.intro k1 (And.intro k2 k3))
     clear k1 k2 k3 hm
     obtain q|q|q|q:j=0∨j=1∨j=2∨j=3:=by omega
     ·subst q
      repeat' (first|(with_reducible first|refine DS.fltS yU yU yX11 ?_|refine DS.opsNil ?_|refine DS.seq ?_|refine DS.regionL ?_|(refine DS.cE yX11 ?_;first|refine CG.np (fun _=>?_) (fun _=>?_)|refine CG.yes ?_)|refine DS.blk ?_|refine DS.block ?_|refine DS.skip ?_)|refine DS.pcVS inferInstance yX11 (c1) yR yX12 ?_|refine DS.retT [] yX11 trivial ?_|fail)
      all_goals first
       | (rw[if_pos (by omega)];rfl)
       | exact DS.back (HB.out 1 _ _ (by omega) ⟨by omega,by omega,fun _=>by omega,by omega,by omega⟩ yS yS (fun b o e=>by cases e))
     ·subst q
      repeat' (first|(with_reducible first|refine DS.fltS yU yU yX11 ?_|refine DS.opsNil ?_|refine DS.seq ?_|refine DS.regionL ?_|(refine DS.cE yX11 ?_;first|refine CG.np (fun _=>?_) (fun _=>?_)|refine CG.yes ?_)|refine DS.blk ?_|refine DS.block ?_|refine DS.skip ?_)|refine DS.pcVS inferInstance yX11 (c2) yR yX12 ?_|refine DS.retT [] yX11 trivial ?_|fail)
      all_goals first
       | (obtain⟨k1,k2,k3⟩:=HK.out;rw[if_neg (by omega),if_pos (by omega)];rfl)
       | exact DS.back (HB.out 2 _ _ (by omega) ⟨by omega,by omega,fun _=>HK.out.1 (by omega),fun _=>by omega,by omega⟩ yS yS (fun b o e=>by cases e))
     ·subst q
      repeat' (first|(with_reducible first|refine DS.fltS yU yU yX11 ?_|refine DS.opsNil ?_|refine DS.seq ?_|refine DS.regionL ?_|(refine DS.cE yX11 ?_;first|refine CG.np (fun _=>?_) (fun _=>?_)|refine CG.yes ?_)|refine DS.blk ?_|refine DS.block ?_|refine DS.skip ?_)|refine DS.pcVS inferInstance yX11 (c3) yR yX12 ?_|refine DS.retT [] yX11 trivial ?_|fail)
      all_goals first
       | (obtain⟨k1,k2,k3⟩:=HK.out;rw[if_neg (by omega),if_neg (by omega)];rfl)
       | exact DS.back (HB.out 3 _ _ (by omega) ⟨by omega,by omega,fun _=>HK.out.1 (by omega),fun _=>HK.out.2.1 (by omega),fun _=>by omega⟩ yS yS (fun b o e=>by cases e))
     ·subst q
      repeat' (first|(with_reducible first|refine DS.fltS yU yU yE ?_|refine DS.opsNil ?_|refine DS.seq ?_|refine DS.regionL ?_|(refine DS.cE yE ?_;refine CG.no ?_)|refine DS.exit yU ?_)|refine DS.retT [] yE trivial ?_|fail)
      obtain⟨k1,k2,k3⟩:=HK.out
      rw[if_neg (by omega),if_neg (by omega),k3 (by omega)];rfl
  ·rw[houseS,if_pos hf]
   refine DC.of_run Tryz.func33 rfl Tryz.ntmps33 Tryz.results33 (by simp) (fun _ _=>?_);simp only[argV_cons,argV_nil,go_sem,Nat.zero_add,Nat.reduceAdd]
   repeat' (first|(with_reducible first|refine DS.fltS yU yU yE ?_|refine DS.opsNil ?_|refine DS.seq ?_|refine DS.regionL ?_|(refine DS.cE yE ?_;first|refine CG.yes ?_|refine CG.no ?_)|refine DS.skip ?_)|refine DS.pcS inferInstance (h1) yR yT ?_|refine DS.pcS inferInstance (h2) yR yT ?_|(refine DS.boxF (t:=1) yU yE yU ?_;simp only[cells_agg,cells_v,cells_lst,cells_fn,map_nil'',map_cons'',copy_own,copy_lst,copy_v,copy_at,copy_agg,copy_fn,copy_ifc,copy_tup])|refine DS.retT [] yE trivial ?_|fail)
   all_goals first|rfl|(exfalso;omega)
 ·have e:formsS h.set h.forms=gsetS h.set:=by rw[formsS,if_pos h0]
  rw[houseS,e,if_pos h0]
  refine DC.of_run Tryz.func33 rfl Tryz.ntmps33 Tryz.results33 (by simp) (fun _ _=>?_);simp only[argV_cons,argV_nil,go_sem,Nat.zero_add,Nat.reduceAdd]
  repeat' (first|(with_reducible first|refine DS.fltS yU yU yE ?_|refine DS.opsNil ?_|refine DS.seq ?_|refine DS.regionL ?_|(refine DS.cE yE ?_;refine CG.yes ?_))|refine DS.pcS inferInstance (h1) yR yT ?_|(refine DS.boxF (t:=1) yU yE yU ?_;simp only[cells_agg,cells_v,cells_lst,cells_fn,map_nil'',map_cons'',copy_own,copy_lst,copy_v,copy_at,copy_agg,copy_fn,copy_ifc,copy_tup])|refine DS.retT [] yE trivial ?_|fail)
  all_goals first|rfl|(exfalso;omega)
end Go.XL
namespace Go.XL
open Go.Proofs
set_option maxRecDepth 100000
set_option maxHeartbeats 8000000
def payL (L:List Int) (j w:Nat) (n:Int):List Int:=(L.set j (L.getD j 0-n)).set w ((L.set j (L.getD j 0-n)).getD w 0+n)
theorem payL_len (L:List Int) (j w:Nat) (n:Int):(payL L j w n).length=L.length:=by simp[payL]
abbrev slcO (bo n:Nat):V := .v (.slice (some ⟨bo,0,none⟩) n n)
theorem payC_dc (bo:Nat) (L:List Int) (j w:Nat) (n:Int) (hj:j<L.length) (hw:w<L.length) (hn:0≤n∧n≤1000000000) (hL: ∀x∈L,-1000000000000≤x∧x≤1000000000000) (hl:L.length≤4) :
  DC Tryz.prog 51 [I j,I n, .plc [slcO bo L.length], .plc [I w]] [(bo, .cells (L.map I) 3)] (fun u S'=>u=V.tup []∧S'= [(bo, .cells ((payL L j w n).map I) 3)]):=by
 have e1:(L.map I)[j]?=some (I L[j]):=by simp[hj]
 have e2:L.getD j 0=L[j]:=by rw[List.getD_eq_getElem?_getD,List.getElem?_eq_getElem hj];rfl
 have b1:=hL _ (List.getElem_mem hj)
 have hw':w<(L.set j (L[j]-n)).length:=by simpa using hw
 have e3:payL L j w n=(L.set j (L[j]-n)).set w ((L.set j (L[j]-n))[w]+n):=by
  rw[payL,e2,List.getD_eq_getElem?_getD,List.getElem?_eq_getElem hw'];rfl
 have e4:((L.set j (L[j]-n)).map I)[w]?=some (I (L.set j (L[j]-n))[w]):=by rw[List.getElem?_map,List.getElem?_eq_getElem hw'];rfl
 have b2 : -1000000000000-1000000000≤(L.set j (L[j]-n))[w]∧(L.set j (L[j]-n))[w]≤1000000000000:=by
  rw[List.getElem_set]
  split
  ·omega
  ·have:=hL _ (List.getElem_mem hw);omega
 have e5:(List.map I L).set j (V.v (Value.int IntKind.i64 (L[j]-n)))=(L.set j (L[j]-n)).map I:=by rw[List.map_set]
 have hl2:(L.set j (L[j]-n)).length=L.length:=by simp
 refine DC.of_run Tryz.func51 rfl Tryz.ntmps51 Tryz.results51 (by simp) (fun _ _=>?_);simp only[argV_cons,argV_nil,go_sem,Nat.zero_add,Nat.reduceAdd]
 repeat' (first|(with_reducible first|refine DS.fltS yU yU yE ?_|refine DS.opsNil ?_|refine DS.seq ?_|refine DS.regionL ?_)|(refine DS.store yR yE yE yE yE yU (by exact⟨by with_unfolding_all rfl,by(try simp only[List.length_map,List.length_append,List.length_set,List.length_replicate,List.length_cons,List.length_nil]);omega⟩) ?_;simp only[putV_none,setAll_cons,setAll_nil,scells_v,scells_own,scells_lst,scells_agg];try simp only[strip_tmp,strip_const,lookV_cons,Nat.reduceEqDiff,↓reduceIte,stripO_own,stripO_lst,stripO_v,stripO_plc,stripO_agg,stripO_fn,stripO_ifc])|fail)
 simp only[setS,↓reduceIte]
 rw[e3,show(List.map I (L.set j (L[j]-n))).set w (V.v (Value.int IntKind.i64 ((L.set j (L[j]-n))[w]+n)))=((L.set j (L[j]-n)).set w ((L.set j (L[j]-n))[w]+n)).map I by rw[List.map_set (l:=L.set j (L[j]-n))]]
 repeat' (first|refine DS.nilA yE ⟨?_,rfl⟩|fail)
 all_goals rfl
def outS (p:PayM) (liable:Int):Nat→List Int
 | 0=>List.replicate p.h.set.players.toNat 0
 | i+1=>if(i:Int)=p.winner then outS p liable i else
   if 0≤liable∧p.from_=p.winner then payL (outS p liable i) liable.toNat p.winner.toNat (owesS p.h p.points p.dealer p.winner p.from_ p.counters i)else
   if 0≤liable∧(i:Int)=p.from_∧liable≠p.from_ then
    payL (payL (outS p liable i) liable.toNat p.winner.toNat (owesS p.h p.points p.dealer p.winner p.from_ p.counters i-owesS p.h p.points p.dealer p.winner p.from_ p.counters i / 2)) i p.winner.toNat (owesS p.h p.points p.dealer p.winner p.from_ p.counters i / 2)
   else payL (outS p liable i) i p.winner.toNat (owesS p.h p.points p.dealer p.winner p.from_ p.counters i)
def payX2 (h:House) (points dealer winner from_ counters liable:Int):List Int×Int :=
 if houseS h≠0 then([],houseS h)else
 if points<0∨points > 1000000∨counters<0∨counters > 100 then([],2)else
 if(h.seat dealer&&h.seat winner&&h.seat from_)=false then([],2)else
 if liable ≠ -1∧(h.seat liable=false∨liable=winner)then([],2)else
 (outS ⟨h,points,dealer,winner,from_,counters⟩ liable h.set.players.toNat,0)
theorem payL_in {L:List Int} {j w:Nat} {n B:Int} (hL: ∀x∈L,-B≤x∧x≤B) (hn:0≤n∧n≤1000000000) (hB:0≤B): ∀x∈payL L j w n,-(B+2000000000)≤x∧x≤B+2000000000:=by
 have get: ∀(M:List Int) (C:Int),0≤C→(∀x∈M,-C≤x∧x≤C)→ ∀i:Nat,-C≤M.getD i 0∧M.getD i 0≤C:=fun M C hC hM i=>by
  rw[List.getD_eq_getElem?_getD]
  cases e:M[i]? with
  | none=>simp;omega
  | some v=>exact hM v (List.mem_of_getElem? e)
 have h1: ∀x∈L.set j (L.getD j 0-n),-(B+1000000000)≤x∧x≤B+1000000000:=fun x hx=>by
  rcases List.mem_or_eq_of_mem_set hx with h|h
  ·have:=hL x h;omega
  ·have:=get L B hB hL j;omega
 intro x hx
 rw[payL]at hx
 rcases List.mem_or_eq_of_mem_set hx with h|h
 ·have:=h1 x h;omega
 ·have:=get _ (B+1000000000) (by omega) h1 w;omega
theorem outS_ok (p:PayM) (ok:p.Ok) (liable:Int): ∀i:Nat,(outS p liable i).length=p.h.set.players.toNat∧ ∀x∈outS p liable i,-(i*4000000000:Int)≤x∧x≤(i*4000000000:Int)
 | 0=>by
  refine⟨by simp[outS],fun x hx=>?_⟩
  simp only[outS,List.mem_replicate]at hx
  rw[hx.2];omega
 | i+1=>by
  obtain⟨h1,h2⟩:=outS_ok p ok liable i
  have ho:=owesS_bd p ok i
  rw[outS]
  split
  ·exact⟨h1,fun x hx=>by have:=h2 x hx;omega⟩
  split
  ·refine⟨by rw[payL_len];exact h1,fun x hx=>?_⟩
   have:=payL_in h2 ho (by omega) x hx;omega
  split
  ·refine⟨by rw[payL_len,payL_len];exact h1,fun x hx=>?_⟩
   have q1: ∀x∈payL (outS p liable i) liable.toNat p.winner.toNat (owesS p.h p.points p.dealer p.winner p.from_ p.counters i-owesS p.h p.points p.dealer p.winner p.from_ p.counters i / 2),_:=payL_in h2 (n:=owesS p.h p.points p.dealer p.winner p.from_ p.counters i-owesS p.h p.points p.dealer p.winner p.from_ p.counters i / 2) (by omega) (by omega)
   have:=payL_in q1 (n:=owesS p.h p.points p.dealer p.winner p.from_ p.counters i / 2) (j:=i) (w:=p.winner.toNat) (by omega) (by omega) x hx
   omega
  ·refine⟨by rw[payL_len];exact h1,fun x hx=>?_⟩
   have:=payL_in h2 ho (by omega) x hx;omega
structure House.Ok (h:House):Prop where
 set:gsetS h.set=0
 forms:formsS h.set h.forms=0
 many:h.patterns.length≤40
 pats:patsGo h 0 h.patterns.length=0
 least:0≤h.least∧h.least≤1000
 scale:scaleS h.scale=0
 pay:payS h.set h.pay=0
 play:playS h.set h.play=0
theorem ite1 {b a:Int} (h:(if a≠0 then a else b)=0):a=0∧b=0:=by
 by_cases hp:a≠0
 ·rw[if_pos hp]at h;exact absurd h hp
 ·rw[if_neg hp]at h;exact⟨Decidable.not_not.1 hp,h⟩
theorem house_ok {h:House} (e:houseS h=0):h.Ok:=by
 rw[houseS]at e
 obtain⟨e1,e⟩:=ite1 e
 obtain⟨e2,e⟩:=ite0 (by decide) e
 obtain⟨e3,e⟩:=ite1 e
 rw[rulesH]at e
 obtain⟨e4,e⟩:=ite1 e
 obtain⟨e5,e⟩:=ite0 (by decide) e
 obtain⟨e6,e⟩:=ite0 (by decide) e
 obtain⟨e7,e⟩:=ite1 e
 obtain⟨e8,e⟩:=ite1 e
 have e9:gsetS h.set=0:=by
  rw[formsS]at e1
  exact(ite1 e1).1
 exact⟨e9,e1,by omega,e3,by omega,e7,e8,e⟩
theorem scale_ok {x:Scale} (e:scaleS x=0):(0≤x.base∧x.base≤1000)∧(1≤x.round∧x.round≤10000)∧x.limits.length≤12∧limitsGo x.limits none=0:=by
 rw[scaleS]at e
 obtain⟨e1,e⟩:=ite0 (by decide) e
 obtain⟨e2,e⟩:=ite0 (by decide) e
 obtain⟨e3,e⟩:=ite0 (by decide) e
 exact⟨by omega,by omega,by omega,e⟩
theorem pay_ok {s:GSet} {p:Pay} (e:payS s p=0):(1≤p.mode∧p.mode≤3)∧(ptB p.basic&&ptB p.counter&&ptB p.stick&&ptB p.pool&&ptB p.foul&&ptB p.start)=true:=by
 rw[payS]at e
 obtain⟨e1,e⟩:=ite1 e
 obtain⟨e2,e⟩:=ite0 (by decide) e
 obtain⟨e3,e⟩:=ite0 (by decide) e
 exact⟨by omega,by simpa [and_assoc] using e3⟩
theorem payM_ok {p:PayM} (e:houseS p.h=0) (hp: ¬(p.points<0∨p.points > 1000000∨p.counters<0∨p.counters > 100)):p.Ok:=by
 have ok:=house_ok e
 have h1:=(gset_ok ok.set).players
 obtain⟨s1,s2,-,-⟩:=scale_ok ok.scale
 obtain⟨q1,q2⟩:=pay_ok ok.pay
 simp only[Bool.and_eq_true,ptB,decide_eq_true_eq]at q2
 exact⟨h1,by omega,s2,q1,by omega,by omega,by omega⟩
end Go.XL
namespace Go.XL
open Go.Proofs
set_option maxRecDepth 100000
set_option maxHeartbeats 8000000
theorem bop_shr1 {P:Program} {T:TypeId} {k':IntKind} {a:Int}:bop P .shr T (.int .u64 a) (.int k' 1)=some (.int .u64 (a / 2)):=by
 rw[bop_shrH (by decide),Int.fdiv_eq_ediv_of_nonneg _ (by decide)]
 have:(2:Int) ^ (min (1:Int).toNat 64)=2:=by decide
 rw[this]
theorem isNaNI_pc (a:Int):PC Tryz.prog 121 [I a] (Bo false):=by
 refine DC.of_run Tryz.func121 rfl Tryz.ntmps121 Tryz.results121 (by simp) (fun _ _=>?_);simp only[argV_cons,argV_nil,go_sem,Nat.zero_add,Nat.reduceAdd]
 repeat' (first|(with_reducible first|refine DS.fltS yU yU yE ?_|refine DS.opsNil ?_|refine DS.seq ?_|refine DS.regionL ?_)|refine DS.retT [] yE trivial ?_|fail)
 all_goals first|rfl|(exfalso;omega)|(simp[tupV];done)
def cmpS (a b:Int):Int:=if a<b then -1 else if b<a then 1 else 0
theorem cmpS_lt (a b:Int):cmpS a b<0↔a<b:=by unfold cmpS;split <;> (try split) <;> omega
theorem cmpS_eq (a b:Int):cmpS a b=0↔a=b:=by unfold cmpS;split <;> (try split) <;> omega
theorem cmpI_pc (a b:Int):PC Tryz.prog 83 [I a,I b] (I (cmpS a b)):=by
 have h1:=isNaNI_pc a
 have h2:=isNaNI_pc b
 refine DC.of_run Tryz.func83 rfl Tryz.ntmps83 Tryz.results83 (by simp) (fun _ _=>?_);simp only[argV_cons,argV_nil,go_sem,Nat.zero_add,Nat.reduceAdd]
 repeat' (first|(with_reducible first|refine DS.fltS yU yU yE ?_|refine DS.opsNil ?_|refine DS.seq ?_|refine DS.regionL ?_|(refine DS.cE yE ?_;first|refine CG.p (fun _=>?_) (fun _=>?_)|refine CG.no ?_)|refine DS.skip ?_)|refine DS.pcS inferInstance (h1) yR yF ?_|refine DS.pcS inferInstance (h2) yR yF ?_|refine DS.retT [] yE trivial ?_|fail)
 all_goals (simp only[tupV,cmpS];(repeat' split) <;> first|rfl|(exfalso;omega))
theorem pointsC_pc (x:Limit) (v:Int):PC Tryz.prog 82 [x.val,I v] (I (cmpS x.from_ v)):=by
 refine DC.of_run Tryz.func82 rfl Tryz.ntmps82 Tryz.results82 (by simp) (fun _ _=>?_);simp only[argV_cons,argV_nil,go_sem,Nat.zero_add,Nat.reduceAdd]
 repeat' (first|(with_reducible first|refine DS.fltS yU yU yE ?_|refine DS.opsNil ?_|refine DS.seq ?_|refine DS.regionL ?_)|refine DS.pcS inferInstance (cmpI_pc _ _) yR yT ?_|(refine DS.boxF (t:=2) yU yE yU ?_;simp only[cells_agg,cells_v,cells_lst,cells_fn,map_nil'',map_cons'',copy_own,copy_lst,copy_v,copy_at,copy_agg,copy_fn,copy_ifc,copy_tup])|refine DS.retT [] yE trivial ?_|fail)
 rfl
structure Found (l:List Limit) (v:Int) (i:Nat):Prop where
 le:i≤l.length
 lo: ∀(t:Nat) (h:t<l.length),t<i→l[t].from_<v
 hi: ∀(t:Nat) (h:t<l.length),i≤t→v≤l[t].from_
def Rise (l:List Limit):Prop:= ∀(a b:Nat) (ha:a<l.length) (hb:b<l.length),a≤b→l[a].from_≤l[b].from_
theorem yX13 {p:Prop} (h:p:=by(simp (disch:=omega) only[go_sem,dopV,yV0,↓reduceIte,Nat.reduceEqDiff,Nat.reduceLT,Nat.reduceLeDiff,Nat.reduceAdd,Nat.reduceMul,Nat.reduceSub,Int.reduceToNat,Int.reduceLT,Int.reduceLE,Int.reduceEq,IntWalk.toNatUp,IntWalk.iteOmega,IntWalk.i64_in,V.flat,V.one, *,bop_shr1,IntWalk.u64_in];exact rfl)):p:=h
theorem yX14 {p:Prop} (h:p:=by(simp (disch:=omega) only[go_sem,dopV,yV0,↓reduceIte,Nat.reduceEqDiff,Nat.reduceLT,Nat.reduceLeDiff,Nat.reduceAdd,Nat.reduceMul,Nat.reduceSub,Int.reduceToNat,Int.reduceLT,Int.reduceLE,Int.reduceEq,IntWalk.toNatUp,IntWalk.iteOmega,IntWalk.i64_in,V.flat,V.one, *,bop_shr1,IntWalk.u64_in];try exact rfl)):p:=h
theorem search_dc (l:List Limit) (v:Int) (hr:Rise l) (hl:l.length≤1000) :
  DC Tryz.prog 81 [.lst (l.map Limit.cells),I v, .fn 82 [] []] [] (fun u S'=> ∃i:Nat,Found l v i∧u = .tup [I i,Bo (decide (∃h:i<l.length,l[i].from_=v))]):=by
 have HR:=Box.mk hr
 clear hr
 refine DC.of_run Tryz.func81 rfl Tryz.ntmps81 Tryz.results81 (by simp) (fun _ _=>?_);simp only[argV_cons,argV_nil,go_sem,Nat.zero_add,Nat.reduceAdd]
 repeat' (first|(with_reducible first|refine DS.fltS yU yU yE ?_|refine DS.opsNil ?_|refine DS.seq ?_|refine DS.regionL ?_|refine DS.block ?_)|fail)
 refine DS.loopK [0,1,2,8] yN (fun(x:Nat×Nat)=> [(9,I x.1),(10,I x.2)]) (fun(x:Nat×Nat)=>x.1≤x.2∧x.2≤l.length∧(∀(t:Nat) (h:t<l.length),t<x.1→l[t].from_<v)∧(∀(t:Nat) (h:t<l.length),x.2≤t→v≤l[t].from_)) (fun(x:Nat×Nat)=>x.2-x.1) (0,l.length) yS ⟨Nat.zero_le _,Nat.le_refl _,fun t h h2=>absurd h2 (Nat.not_lt_zero _),fun t h h2=>absurd h (by omega)⟩ (fun x B hI hB=>?_);try dsimp only at hI hB;simp only[app_cons',app_nil']
 obtain⟨lo,hi⟩:=x
 dsimp only at hI hB
 obtain⟨i1,i2,i3,i4⟩:=hI
 have H:=Box.mk (And.intro i3 i4)
 have HB:=Box.mk hB
 clear i3 i4 hB
 by_cases hlt:lo<hi
 ·have hlt':(lo:Int)<(hi:Int):=by omega
  obtain⟨m,hm⟩: ∃m:Nat,m=(lo+hi) / 2:=⟨_,rfl⟩
  have hm1:((lo:Int)+(hi:Int)) / 2=(m:Int):=by omega
  have hm2:m<l.length:=by omega
  have hm3:lo≤m∧m<hi:=by omega
  have hp:=pointsC_pc l[m] v
  clear hm
  repeat' (first|(with_reducible first|refine DS.fltS yU yU yX13 ?_|refine DS.opsNil ?_|refine DS.seq ?_|refine DS.regionL ?_|(refine DS.cE yX13 ?_;first|refine CG.p (fun _=>?_) (fun _=>?_)|refine CG.yes ?_)|refine DS.blk ?_|refine DS.block ?_|refine DS.skip ?_)|refine DS.pcVS inferInstance yX13 (hp) yR yX14 ?_|fail)
  ·rename_i e
   have e1:=(cmpS_lt _ _).1 e
   exact DS.back (HB.out (m+1,hi) _ _ (by dsimp only;omega) ⟨by dsimp only;omega,i2,fun t h ht=>by
    have:=HR.out t m h hm2 (by dsimp only at ht;omega)
    omega,H.out.2⟩ yS yS (fun b o e=>by exact e))
  ·rename_i e
   have e1: ¬l[m].from_<v:=fun h=>e ((cmpS_lt _ _).2 h)
   exact DS.back (HB.out (lo,m) _ _ (by dsimp only;omega) ⟨by dsimp only;omega,by dsimp only;omega,H.out.1,fun t h ht=>by
    have:=HR.out m t hm2 h ht
    omega⟩ yS yS (fun b o e=>by exact e))
 ·have hlt': ¬(lo:Int)<(hi:Int):=by omega
  have he:hi=lo:=by omega
  have hle:lo≤l.length:=by omega
  rw[he]at H
  clear he i1 HB
  have HF:Found l v lo:=⟨hle,H.out.1,H.out.2⟩
  by_cases hl2:lo<l.length
  ·have hl3:(lo:Int)<(l.length:Int):=by omega
   have hp:=pointsC_pc l[lo] v
   have hd:decide (∃h:lo<l.length,l[lo].from_=v)=decide (cmpS l[lo].from_ v=0):=by
    rw[decide_eq_decide,cmpS_eq];exact⟨fun⟨_,h⟩=>h,fun h=>⟨hl2,h⟩⟩
   have HF:=Box.mk (And.intro HF hd)
   clear hd
   repeat' (first|(with_reducible first|refine DS.fltS yU yU yE ?_|refine DS.opsNil ?_|refine DS.seq ?_|refine DS.regionL ?_|(refine DS.cE yE ?_;refine CG.no ?_)|(refine DS.gE yU yE ?_;refine GG.run ?_)|refine DS.exit yU ?_)|refine DS.pcVS inferInstance yE (hp) yR yT ?_|refine DS.retT [] yE trivial ?_|fail)
   all_goals exact⟨lo,HF.out.1,by rw[HF.out.2];rfl⟩
  ·have hl3: ¬(lo:Int)<(l.length:Int):=by omega
   have hd:decide (∃h:lo<l.length,l[lo].from_=v)=false:=by
    rw[decide_eq_false_iff_not];rintro⟨h,-⟩;exact hl2 h
   have HF:=Box.mk (And.intro HF hd)
   clear hd
   repeat' (first|(with_reducible first|refine DS.fltS yU yU yE ?_|refine DS.opsNil ?_|refine DS.seq ?_|refine DS.regionL ?_|(refine DS.cE yE ?_;refine CG.no ?_)|(refine DS.gE yU yE ?_;refine GG.sF ?_)|refine DS.exit yU ?_)|refine DS.retT [] yE trivial ?_|fail)
   all_goals exact⟨lo,HF.out.1,by rw[HF.out.2];rfl⟩
theorem limits_ok : ∀{l:List Limit} {p:Option Limit},limitsGo l p=0→(∀x∈l,(1≤x.from_∧x.from_≤1000)∧0≤x.points∧x.points≤1000000)∧l.Pairwise (fun a b=>a.from_<b.from_∧a.points≤b.points)∧ ∀q,p=some q→ ∀x∈l,q.from_<x.from_∧q.points≤x.points
 | [],_,_=>⟨by simp, .nil,by simp⟩
 | y::l,p,h=>by
  rw[limitsGo]at h
  obtain⟨h1,h⟩:=ite0 (by decide) h
  obtain⟨h2,h⟩:=ite0 (by decide) h
  obtain⟨h3,h⟩:=ite0 (by decide) h
  obtain⟨k1,k2,k3⟩:=limits_ok h
  have k4:=k3 y rfl
  refine⟨fun x hx=>?_,List.pairwise_cons.2 ⟨k4,k2⟩,fun q hq x hx=>?_⟩
  ·rcases List.mem_cons.1 hx with rfl|hx
   ·omega
   ·exact k1 x hx
  ·subst hq
   simp only[anyO,Bool.or_eq_true,decide_eq_true_eq,not_or]at h3
   rcases List.mem_cons.1 hx with rfl|hx
   ·omega
   ·have:=k4 x hx;omega
theorem rise_of {l:List Limit} (h:l.Pairwise (fun a b=>a.from_<b.from_∧a.points≤b.points)):Rise l:=fun a b ha hb hab=>by
 rcases Nat.lt_or_ge a b with h1|h1
 ·have:=List.pairwise_iff_getElem.1 h a b ha hb h1;omega
 ·have:a=b:=by omega
  subst this;exact Int.le_refl _
theorem limG_out (v:Int): ∀(l:List Limit) (out:Option Int),(∀x∈l,v<x.from_)→limG v l out=out
 | [],_,_=>rfl
 | y::l,out,h=>by
  have h1:=h y (List.mem_cons_self ..)
  rw[limG,if_neg (by omega)]
  exact limG_out v l out fun x hx=>h x (List.mem_cons_of_mem _ hx)
theorem limG_at (v:Int): ∀(l:List Limit) (out:Option Int) (j:Nat) (hj:j<l.length),l[j].from_≤v→(∀(t:Nat) (ht:t<l.length),j<t→v<l[t].from_)→limG v l out=some l[j].points
 | y::l,out,0,hj,h1,h2=>by
  rw[limG,if_pos (by simpa using h1),limG_out]
  ·rfl
  ·intro x hx
   obtain⟨t,ht,rfl⟩:=List.getElem_of_mem hx
   have:=h2 (t+1) (by simpa using ht) (by omega)
   simpa using this
 | y::l,out,j+1,hj,h1,h2=>by
  rw[limG]
  have hj':j<l.length:=by simpa using hj
  refine(limG_at v l _ j hj' (by simpa using h1) fun t ht hjt=>?_).trans (by simp)
  have:=h2 (t+1) (by simpa using ht) (by omega)
  simpa using this
theorem min_ite {a b:Int}:(if b<a then b else a)=min a b:=by rw[Int.min_def];split <;> split <;> omega
theorem shl_pts {T:TypeId} {n v:Int} (hn:0≤n∧n≤1000000) (hv:0≤v):bop Tryz.prog .shl T (.int .i64 n) (.int .i64 (if 21<v then 21 else v))=some (.int .i64 (n*2 ^ (min v 21).toNat)):=by
 rw[min_ite]
 obtain⟨s,hs⟩: ∃s:Nat,s=(min v 21).toNat:=⟨_,rfl⟩
 have hs2:min v 21=(s:Int):=by rw[hs];omega
 have hs3:s≤21:=by omega
 have hp:(2:Int) ^ s≤2 ^ 21:=by
  have:=Nat.pow_le_pow_right (n:=2) (by omega) hs3
  exact_mod_cast this
 have hp0:(0:Int)≤2 ^ s:=by
  have:=Nat.zero_le (2 ^ s)
  exact_mod_cast this
 have h1:0≤n*2 ^ s:=Int.mul_nonneg hn.1 hp0
 have h2:n*2 ^ s≤1000000*2097152:=Int.mul_le_mul hn.2 (by simpa using hp) hp0 (by omega)
 rw[hs2]
 simp only[bop,Op.shift,if_neg (show ¬((s:Int)<0) by omega),Int.toNat_natCast,Nat.min_eq_left (show s≤IntKind.i64.bits from Nat.le_trans hs3 (by decide))]
 show some (Value.int .i64 (IntKind.i64.wrap (n*2 ^ s)))=_
 rw[IntWalk.i64_in _ (by omega)]
theorem pts_some {x:Scale} {minor value:Int} (h0:scaleS x=0) (h1:0≤minor∧minor≤1000) (h2:0≤value∧value≤1073741824) {p:Int} (h:limS x value=some p):ptsS x minor value=p:=by
 rw[ptsS,if_neg (by omega),if_neg (by omega),if_neg (by omega),h]
theorem pts_none {x:Scale} {minor value:Int} (h0:scaleS x=0) (h1:0≤minor∧minor≤1000) (h2:0≤value∧value≤1073741824) (h:limS x value=none) :
  ptsS x minor value=min (if x.double=true then x.base*minor*2 ^ (min value 21).toNat else x.base*minor*value) (mostS x):=by
 rw[ptsS,if_neg (by omega),if_neg (by omega),if_neg (by omega),h]
theorem points_pc (x:Scale) (minor value:Int):PC Tryz.prog 45 [x.val,I minor,I value] (I (ptsS x minor value)):=by
 have hs:=checkScale_pc x
 by_cases h0:scaleS x=0
 ·rw[h0]at hs
  by_cases h1:0≤minor∧minor≤1000
  ·by_cases h2:0≤value∧value≤1073741824
   ·obtain⟨b1,b2,b3,b4⟩:=scale_ok h0
    obtain⟨k1,k2,-⟩:=limits_ok b4
    have hr:=rise_of k2
    have hsd:=search_dc x.limits value hr (by omega)
    have hm1:0≤x.base*minor:=Int.mul_nonneg b1.1 h1.1
    have hm2:x.base*minor≤1000*1000:=Int.mul_le_mul b1.2 h1.2 h1.1 (by omega)
    have hm3:0≤x.base*minor*value:=Int.mul_nonneg hm1 h2.1
    have hm4:x.base*minor*value≤1000*1000*1073741824:=Int.mul_le_mul hm2 h2.2 h2.1 (by omega)
    have hsh:bop Tryz.prog .shl 3 (.int .i64 (x.base*minor)) (.int .i64 (if 21<value then 21 else value))=some (.int .i64 (x.base*minor*2 ^ (min value 21).toNat)):=shl_pts ⟨hm1,hm2⟩ h2.1
    by_cases hl:0<x.limits.length
    ·have hl':(0:Int)<(x.limits.length:Int):=by omega
     by_cases hf:x.limits[0].from_≤value
     ·have hq: ∀i,Found x.limits value i→ ∀b,b=decide (∃h:i<x.limits.length,x.limits[i].from_=value)→ ∃j:Nat,∃hj:j<x.limits.length,(j:Int)=(if b=true then(i:Int)else(i:Int)-1)∧ptsS x minor value=x.limits[j].points:=by
       intro i hi b hb
       have fin: ∀(j:Nat) (hj:j<x.limits.length),x.limits[j].from_≤value→(∀(t:Nat) (ht:t<x.limits.length),j<t→value<x.limits[t].from_)→ptsS x minor value=x.limits[j].points:=fun j hj e1 e2=>pts_some h0 h1 h2 (limG_at value _ none j hj e1 e2)
       have hst: ∀(a b:Nat) (ha:a<x.limits.length) (hb:b<x.limits.length),a<b→x.limits[a].from_<x.limits[b].from_:=fun a b ha hb h=>(List.pairwise_iff_getElem.1 k2 a b ha hb h).1
       by_cases he: ∃h:i<x.limits.length,x.limits[i].from_=value
       ·rw[decide_eq_true he]at hb
        obtain⟨h3,h4⟩:=he
        refine⟨i,h3,by rw[if_pos hb],fin i h3 (by omega) fun t ht hit=>?_⟩
        have:=hst i t h3 ht hit;omega
       ·rw[decide_eq_false he]at hb
        have hi0:0<i:=by
         refine Nat.pos_of_ne_zero fun h=>?_
         subst h
         have:=hi.hi 0 hl (Nat.le_refl _)
         exact he ⟨hl,by omega⟩
        have hle:=hi.le
        refine⟨i-1,by omega,by rw[hb,if_neg (by decide)];omega,fin (i-1) (by omega) ?_ fun t ht hit=>?_⟩
        ·have:=hi.lo (i-1) (by omega) (by omega);omega
        ·have:=hi.hi t ht (by omega)
         have hne:x.limits[t].from_≠value:=fun h=>by
          rcases Nat.lt_or_ge i t with h5|h5
          ·have:=hst i t (by omega) ht h5
           have:=hi.hi i (by omega) (Nat.le_refl _)
           omega
          ·have:i=t:=by omega
           subst this;exact he ⟨ht,h⟩
         omega
      have HQ:=Box.mk hq
      clear hq k1 k2 hr b4
      refine DC.of_run Tryz.func45 rfl Tryz.ntmps45 Tryz.results45 (by simp) (fun _ _=>?_);simp only[argV_cons,argV_nil,go_sem,Nat.zero_add,Nat.reduceAdd]
      repeat' (first|(with_reducible first|refine DS.fltS yU yU yE ?_|refine DS.opsNil ?_|refine DS.seq ?_|refine DS.regionL ?_|(refine DS.cE yE ?_;first|refine CG.p (fun _=>?_) (fun _=>?_)|refine CG.yes ?_)|(refine DS.gE yU yE ?_;first|refine GG.pF (fun _=>?_) (fun _=>?_)|refine GG.run ?_|refine GG.sT ?_)|refine DS.skip ?_)|refine DS.pcS inferInstance (hs) yR yT ?_|(refine DS.boxF (t:=3) yU yE yU ?_;simp only[cells_agg,cells_v,cells_lst,cells_fn,map_nil'',map_cons'',copy_own,copy_lst,copy_v,copy_at,copy_agg,copy_fn,copy_ifc,copy_tup])|fail)
      all_goals try (exfalso;omega)
      refine DS.callA inferInstance hsd yR yH (fun u S' hu=>?_)
      obtain⟨i,hi,rfl⟩:=hu
      generalize hb:decide (∃h:i<x.limits.length,x.limits[i].from_=value)=b
      obtain⟨j,hj,q1,q2⟩:=HQ.out i hi b hb.symm
      rw[q2]
      have hile:=hi.le
      clear hb q2 hi HQ hsd
      cases b with
      | true =>
       have q3:i=j:=by rw[if_pos rfl]at q1;omega
       subst q3
       clear q1
       repeat' (first|(with_reducible first|refine DS.fltS yU yU yE ?_|refine DS.opsNil ?_|refine DS.seq ?_|refine DS.regionL ?_|(refine DS.cE yE ?_;refine CG.no ?_)|refine DS.skip ?_)|refine DS.retT [] yE trivial ?_|fail)
       all_goals first|rfl|(exfalso;omega)
      | false =>
       have q3:(i:Int)-1=(j:Int):=by rw[if_neg (by decide)]at q1;omega
       clear q1
       repeat' (first|(with_reducible first|refine DS.fltS yU yU yE ?_|refine DS.opsNil ?_|refine DS.seq ?_|refine DS.regionL ?_|(refine DS.cE yE ?_;refine CG.yes ?_))|refine DS.retT [] yE trivial ?_|fail)
       all_goals first|rfl|(exfalso;omega)
     ·have hn:limS x value=none:=limG_out value _ none fun y hy=>by
       obtain⟨t,ht,rfl⟩:=List.getElem_of_mem hy
       have:=hr 0 t hl ht (Nat.zero_le _);omega
      have hmo:mostS x=x.limits[0].points:=by
       unfold mostS
       split
       ·rename_i e;rw[e]at hl;simp at hl
       ·rename_i e;simp[e]
      rw[pts_none h0 h1 h2 hn,hmo]
      clear hn hmo hsd hr k2 k1 b4
      refine DC.of_run Tryz.func45 rfl Tryz.ntmps45 Tryz.results45 (by simp) (fun _ _=>?_);simp only[argV_cons,argV_nil,go_sem,Nat.zero_add,Nat.reduceAdd]
      repeat' (first|(with_reducible first|refine DS.fltS yU yU yE ?_|refine DS.opsNil ?_|refine DS.seq ?_|refine DS.regionL ?_|(refine DS.cE yE ?_;first|refine CG.p (fun _=>?_) (fun _=>?_)|refine CG.yes ?_|refine CG.no ?_|refine CG.b (fun _=>?_) (fun _=>?_))|(refine DS.gE yU yE ?_;first|refine GG.pF (fun _=>?_) (fun _=>?_)|refine GG.run ?_|refine GG.sT ?_)|refine DS.skip ?_)|refine DS.pcS inferInstance (hs) yR yT ?_|(refine DS.boxF (t:=3) yU yE yU ?_;simp only[cells_agg,cells_v,cells_lst,cells_fn,map_nil'',map_cons'',copy_own,copy_lst,copy_v,copy_at,copy_agg,copy_fn,copy_ifc,copy_tup])|refine DS.retT [] yE trivial ?_|fail)
      all_goals first|(exfalso;omega)|(rename_i hd;rw[hd];simp only[↓reduceIte,Bool.false_eq_true];exact congrArg I min_ite)
    ·have he:x.limits= []:=List.eq_nil_of_length_eq_zero (by omega)
     have hn:limS x value=none:=by rw[limS,he];rfl
     have hmo:mostS x=1000000:=by rw[mostS,he]
     have hl': ¬(0:Int)<(x.limits.length:Int):=by omega
     rw[pts_none h0 h1 h2 hn,hmo]
     clear hn hmo hsd hr k2 k1 b4 he
     refine DC.of_run Tryz.func45 rfl Tryz.ntmps45 Tryz.results45 (by simp) (fun _ _=>?_);simp only[argV_cons,argV_nil,go_sem,Nat.zero_add,Nat.reduceAdd]
     repeat' (first|(with_reducible first|refine DS.fltS yU yU yE ?_|refine DS.opsNil ?_|refine DS.seq ?_|refine DS.regionL ?_|(refine DS.cE yE ?_;first|refine CG.p (fun _=>?_) (fun _=>?_)|refine CG.yes ?_|refine CG.no ?_|refine CG.b (fun _=>?_) (fun _=>?_))|(refine DS.gE yU yE ?_;first|refine GG.pF (fun _=>?_) (fun _=>?_)|refine GG.run ?_|refine GG.sT ?_)|refine DS.skip ?_)|refine DS.pcS inferInstance (hs) yR yT ?_|(refine DS.boxF (t:=3) yU yE yU ?_;simp only[cells_agg,cells_v,cells_lst,cells_fn,map_nil'',map_cons'',copy_own,copy_lst,copy_v,copy_at,copy_agg,copy_fn,copy_ifc,copy_tup])|refine DS.retT [] yE trivial ?_|fail)
     all_goals first|(exfalso;omega)|(rename_i hd;rw[hd];simp only[↓reduceIte,Bool.false_eq_true];exact congrArg I min_ite)
   ·rw[ptsS,if_neg (by omega),if_neg (by omega),if_pos h2]
    refine DC.of_run Tryz.func45 rfl Tryz.ntmps45 Tryz.results45 (by simp) (fun _ _=>?_);simp only[argV_cons,argV_nil,go_sem,Nat.zero_add,Nat.reduceAdd]
    repeat' (first|(with_reducible first|refine DS.fltS yU yU yE ?_|refine DS.opsNil ?_|refine DS.seq ?_|refine DS.regionL ?_|(refine DS.cE yE ?_;first|refine CG.p (fun _=>?_) (fun _=>?_)|refine CG.yes ?_|refine CG.b (fun _=>?_) (fun _=>?_))|(refine DS.gE yU yE ?_;first|refine GG.pF (fun _=>?_) (fun _=>?_)|refine GG.run ?_|refine GG.sT ?_)|refine DS.skip ?_)|refine DS.pcS inferInstance (hs) yR yT ?_|(refine DS.boxF (t:=3) yU yE yU ?_;simp only[cells_agg,cells_v,cells_lst,cells_fn,map_nil'',map_cons'',copy_own,copy_lst,copy_v,copy_at,copy_agg,copy_fn,copy_ifc,copy_tup])|refine DS.retT [] yE trivial ?_|fail)
    all_goals first|rfl|(exfalso;omega)
  ·rw[ptsS,if_neg (by omega),if_pos h1]
   refine DC.of_run Tryz.func45 rfl Tryz.ntmps45 Tryz.results45 (by simp) (fun _ _=>?_);simp only[argV_cons,argV_nil,go_sem,Nat.zero_add,Nat.reduceAdd]
   repeat' (first|(with_reducible first|refine DS.fltS yU yU yE ?_|refine DS.opsNil ?_|refine DS.seq ?_|refine DS.regionL ?_|(refine DS.cE yE ?_;first|refine CG.p (fun _=>?_) (fun _=>?_)|refine CG.yes ?_|refine CG.b (fun _=>?_) (fun _=>?_))|(refine DS.gE yU yE ?_;first|refine GG.pF (fun _=>?_) (fun _=>?_)|refine GG.run ?_|refine GG.sT ?_)|refine DS.skip ?_)|refine DS.pcS inferInstance (hs) yR yT ?_|(refine DS.boxF (t:=3) yU yE yU ?_;simp only[cells_agg,cells_v,cells_lst,cells_fn,map_nil'',map_cons'',copy_own,copy_lst,copy_v,copy_at,copy_agg,copy_fn,copy_ifc,copy_tup])|refine DS.retT [] yE trivial ?_|fail)
   all_goals first|rfl|(exfalso;omega)
 ·rw[ptsS,if_pos h0]
  refine DC.of_run Tryz.func45 rfl Tryz.ntmps45 Tryz.results45 (by simp) (fun _ _=>?_);simp only[argV_cons,argV_nil,go_sem,Nat.zero_add,Nat.reduceAdd]
  repeat' (first|(with_reducible first|refine DS.fltS yU yU yE ?_|refine DS.opsNil ?_|refine DS.seq ?_|refine DS.regionL ?_|(refine DS.cE yE ?_;refine CG.yes ?_)|(refine DS.gE yU yE ?_;refine GG.sT ?_))|refine DS.pcS inferInstance (hs) yR yT ?_|(refine DS.boxF (t:=3) yU yE yU ?_;simp only[cells_agg,cells_v,cells_lst,cells_fn,map_nil'',map_cons'',copy_own,copy_lst,copy_v,copy_at,copy_agg,copy_fn,copy_ifc,copy_tup])|refine DS.retT [] yE trivial ?_|fail)
  all_goals first|rfl|(exfalso;omega)
end Go.XL
namespace Go.XL
open Go.Proofs
set_option maxRecDepth 100000
set_option maxHeartbeats 8000000
theorem checkScaleR_pc (x:Scale):PC Tryz.prog 117 [x.val] (I (scaleS x)):=by
 refine DC.of_run Tryz.func117 rfl Tryz.ntmps117 Tryz.results117 (by simp) (fun _ _=>?_);simp only[argV_cons,argV_nil,go_sem,Nat.zero_add,Nat.reduceAdd]
 repeat' (first|(with_reducible first|refine DS.fltS yU yU yE ?_|refine DS.opsNil ?_|refine DS.seq ?_|refine DS.regionL ?_|(refine DS.cE yE ?_;first|refine CG.np (fun _=>?_) (fun _=>?_)|refine CG.p (fun _=>?_) (fun _=>?_)|refine CG.yes ?_)|(refine DS.gE yU yE ?_;first|refine GG.npF (fun _=>?_) (fun _=>?_)|refine GG.run ?_|refine GG.sT ?_)|refine DS.block ?_|refine DS.skip ?_)|refine DS.pcS inferInstance (betweenR_pc _ _ _) yR yT ?_|(refine DS.boxF (t:=1) yU yE yU ?_;simp only[cells_agg,cells_v,cells_lst,cells_fn,map_nil'',map_cons'',copy_own,copy_lst,copy_v,copy_at,copy_agg,copy_fn,copy_ifc,copy_tup])|refine DS.retT [] yE trivial ?_|fail)
 all_goals try (simp[tupV,scaleS, *];done)
 rename_i g1 g2 g3
 refine DS.loopK [1] yN (fun(i:Nat)=> [(3,I i)]) (fun(i:Nat)=>i≤x.limits.length∧scaleS x=limitsGo (x.limits.drop i) (prevL x.limits i)) (fun(i:Nat)=>x.limits.length-i) 0 yS (by simp[scaleS,prevL, *]) (fun i B hI hB=>?_);try dsimp only at hI hB;simp only[app_cons',app_nil']
 have HB:=Box.mk hB
 clear hB
 by_cases hi:(i:Int)<(x.limits.length:Int)
 ·have hi':i<x.limits.length:=by omega
  have hp:i-1<x.limits.length:=by omega
  obtain⟨hI,hI2⟩:=hI
  rw[limitsGo_at hi']at hI2
  have HI:=Box.mk hI2
  clear hI2
  repeat' (first|(with_reducible first|refine DS.fltS yU yU yE ?_|refine DS.opsNil ?_|refine DS.seq ?_|refine DS.regionL ?_|(refine DS.cE yE ?_;first|refine CG.np (fun _=>?_) (fun _=>?_)|refine CG.p (fun _=>?_) (fun _=>?_)|refine CG.yes ?_|refine CG.no ?_)|(refine DS.gE yU yE ?_;first|refine GG.sU ?_|refine GG.npF (fun _=>?_) (fun _=>?_)|refine GG.run ?_|refine GG.sF ?_|refine GG.sT ?_)|refine DS.blk ?_|refine DS.block ?_|refine DS.skip ?_)|(refine DS.letF (t:=4) yU yE yU (fun _=>yE) yE yU (by exact⟨by with_unfolding_all rfl,by with_unfolding_all decide⟩) (fun _=>by simp only[go_sem,Nat.reduceEqDiff,↓reduceIte]) ?_;simp only[go_sem])|refine DS.pcS inferInstance (betweenR_pc _ _ _) yR yT ?_|refine DS.drawL (id:=11) [0,1,2,3,4,5,6,7,8,9,10,11,12,13,14,15,16,17,18,19,20,21,22] 23 (by kernel_rfl) mixed (by simp only[pickL_cons,pickL_nil,get_zero',get_cons',pickO_some];exact rfl) (by simp only[drop_zero',drop_cons',List.drop_nil];exact rfl) ?_|(with_reducible first|refine DD.fltS yU yU yU yE ?_|(refine DD.gE yU yE ?_;first|refine DGG.sU ?_|refine DGG.pT (fun _=>?_) (fun _=>?_)|refine DGG.pF (fun _=>?_) (fun _=>?_)|refine DGG.run ?_|refine DGG.sF ?_|refine DGG.sT ?_)|refine DD.nil0 ?_)|refine DS.retT [] yE trivial ?_|fail)
  all_goals (try rw[prevL_zero (by assumption)]at HI) <;> (try rw[prevL_pos (by assumption) hp]at HI)
  all_goals first
   | (rw[HI.out];simp[tupV,anyO_none,anyO_some, *];done)
   | exact DS.back (HB.out (i+1) _ _ (by omega) ⟨by omega,by rw[HI.out,prevL_succ hi'];simp[anyO_none,anyO_some, *]⟩ yS yS (fun b o e=>by cases e))
 ·repeat' (first|(with_reducible first|refine DS.fltS yU yU yE ?_|refine DS.opsNil ?_|refine DS.seq ?_|refine DS.regionL ?_|(refine DS.cE yE ?_;refine CG.no ?_)|refine DS.exit yU ?_)|refine DS.retT [] yE trivial ?_|fail)
  rw[hI.2,drop_end hi];rfl
end Go.XL
namespace Go.XL
open Go.Proofs
set_option maxRecDepth 100000
set_option maxHeartbeats 8000000
theorem any_take_at {α:Type} {p:α→Bool} {l:List α} {k:Nat} (h:k<l.length):(l.take (k+1)).any p=((l.take k).any p || p l[k]):=by
 rw[List.take_succ_eq_append_getElem h,List.any_append];simp
theorem r4pattern_pc (h:House) (hl:h.patterns.length≤1000000) {i:Nat} (hi:i<h.patterns.length) (hsz: ∀p∈h.patterns,p.name.size≤9223372036854775807):PC Tryz.prog 76 [h.val,I i] (I (patS h i)):=by
 have e:h.pat i=h.patterns[i]:=by rw[House.pat,List.getD_eq_getElem?_getD,List.getElem?_eq_getElem hi];rfl
 have hn:=r4named_pc h.patterns[i].name (hsz _ (List.getElem_mem hi))
 have hc:=r4cond_pc h.set h.patterns[i].cond
 have ho1:=r4other_pc h.patterns[i].excl i h.patterns.length ⟨by omega,by omega⟩
 have ho2:=r4other_pc h.patterns[i].impl i h.patterns.length ⟨by omega,by omega⟩
 rw[patS,e]
 clear e
 have hil:(i:Int)<(h.patterns.length:Int):=by omega
 generalize condX h.set h.patterns[i].cond=C at hc ⊢
 obtain⟨c1,c2⟩:=C
 dsimp only at hc ⊢
 generalize othersS h.patterns[i].excl i h.patterns.length=O1 at ho1 ⊢
 generalize othersS h.patterns[i].impl i h.patterns.length=O2 at ho2 ⊢
 generalize hN:namedB h.patterns[i].name=N at hn ⊢
 clear hN
 cases N with
 | false =>
  rw[if_pos rfl]
  refine DC.of_run Tryz.func76 rfl Tryz.ntmps76 Tryz.results76 (by simp) (fun _ _=>?_);simp only[argV_cons,argV_nil,go_sem,Nat.zero_add,Nat.reduceAdd]
  repeat' (first|(with_reducible first|refine DS.fltS yU yU yE ?_|refine DS.opsNil ?_|refine DS.seq ?_|refine DS.regionL ?_|(refine DS.cE yE ?_;refine CG.yes ?_))|(refine DS.letF (t:=5) yU yE yU (fun _=>yE) yE yU (by exact⟨by with_unfolding_all rfl,by with_unfolding_all decide⟩) (fun _=>by simp only[go_sem,Nat.reduceEqDiff,↓reduceIte]) ?_;simp only[go_sem])|refine DS.pcS inferInstance (hn) yR yF ?_|(refine DS.boxF (t:=2) yU yE yU ?_;simp only[cells_agg,cells_v,cells_lst,cells_fn,map_nil'',map_cons'',copy_own,copy_lst,copy_v,copy_at,copy_agg,copy_fn,copy_ifc,copy_tup])|refine DS.retT [] yE trivial ?_|fail)
  all_goals first|rfl|(exfalso;omega)
 | true =>
  rw[if_neg (by decide)]
  refine DC.of_run Tryz.func76 rfl Tryz.ntmps76 Tryz.results76 (by simp) (fun _ _=>?_);simp only[argV_cons,argV_nil,go_sem,Nat.zero_add,Nat.reduceAdd]
  repeat' (first|(with_reducible first|refine DS.fltS yU yU yE ?_|refine DS.opsNil ?_|refine DS.seq ?_|refine DS.regionL ?_|(refine DS.cE yE ?_;refine CG.no ?_)|refine DS.block ?_|refine DS.skip ?_)|(refine DS.letF (t:=5) yU yE yU (fun _=>yE) yE yU (by exact⟨by with_unfolding_all rfl,by with_unfolding_all decide⟩) (fun _=>by simp only[go_sem,Nat.reduceEqDiff,↓reduceIte]) ?_;simp only[go_sem])|refine DS.pcS inferInstance (hn) yR yF ?_|(refine DS.boxF (t:=2) yU yE yU ?_;simp only[cells_agg,cells_v,cells_lst,cells_fn,map_nil'',map_cons'',copy_own,copy_lst,copy_v,copy_at,copy_agg,copy_fn,copy_ifc,copy_tup])|fail)
  refine DS.loopK [1,2,5] yN (fun(k:Nat)=> [(6,I k)]) (fun(k:Nat)=>k≤i∧((h.patterns.take k).any fun q=>decide (q.name=h.patterns[i].name))=false) (fun(k:Nat)=>i-k) 0 yS ⟨Nat.zero_le _,rfl⟩ (fun k B hI hB=>?_);try dsimp only at hI hB;simp only[app_cons',app_nil']
  have HB:=Box.mk hB
  clear hB
  obtain⟨k1,k2⟩:=hI
  by_cases hk:(k:Int)<(i:Int)
  ·have hkl:k<h.patterns.length:=by omega
   have hat:=any_take_at (p:=fun q:Pattern=>decide (q.name=h.patterns[i].name)) hkl
   rw[k2,Bool.false_or]at hat
   by_cases he:h.patterns[k].name=h.patterns[i].name
   ·have e:((h.patterns.take i).any fun q=>decide (q.name=h.patterns[i].name))=true :=
     List.any_eq_true.2 ⟨h.patterns[k],List.mem_take_iff_getElem.2 ⟨k,by omega,rfl⟩,by simp[he]⟩
    rw[if_pos e]
    have he1:=eq_true he
    clear e he hat k2 hc ho1 ho2 hn
    repeat' (first|(with_reducible first|refine DS.fltS yU yU yE ?_|refine DS.opsNil ?_|refine DS.seq ?_|refine DS.regionL ?_|(refine DS.cE yE ?_;refine CG.yes ?_)|refine DS.block ?_|refine DS.skip ?_)|refine DS.drawL (id:=7) [0,1,2,3,4,5,6,7] 8 (by kernel_rfl) mixed (by simp only[pickL_cons,pickL_nil,get_zero',get_cons',pickO_some];exact rfl) (by simp only[drop_zero',drop_cons',List.drop_nil];exact rfl) ?_|(with_reducible first|refine DD.fltS yU yU yU yE ?_|refine DD.nil0 ?_)|refine DS.retT [] yE trivial ?_|fail)
    all_goals first|rfl|(exfalso;omega)
   ·rw[decide_eq_false he]at hat
    have he1:=eq_false he
    have HA:=Box.mk hat
    clear he hat k2 hc ho1 ho2 hn
    repeat' (first|(with_reducible first|refine DS.fltS yU yU yE ?_|refine DS.opsNil ?_|refine DS.seq ?_|refine DS.regionL ?_|(refine DS.cE yE ?_;first|refine CG.yes ?_|refine CG.no ?_)|refine DS.blk ?_|refine DS.block ?_|refine DS.skip ?_)|refine DS.drawL (id:=7) [0,1,2,3,4,5,6,7] 8 (by kernel_rfl) mixed (by simp only[pickL_cons,pickL_nil,get_zero',get_cons',pickO_some];exact rfl) (by simp only[drop_zero',drop_cons',List.drop_nil];exact rfl) ?_|(with_reducible first|refine DD.fltS yU yU yU yE ?_|refine DD.nil0 ?_)|fail)
    all_goals first
     | exact DS.back (HB.out (k+1) _ _ (by omega) ⟨by omega,HA.out⟩ yS yS (fun b o e=>by cases e))
     | (exfalso;omega)
  ·have hki:k=i:=by omega
   subst hki
   rw[if_neg (by rw[k2];decide)]
   clear k2 HB hn
   repeat' (first|(with_reducible first|refine DS.fltS yU yU yE ?_|refine DS.opsNil ?_|refine DS.seq ?_|refine DS.regionL ?_|(refine DS.cE yE ?_;first|refine CG.np (fun _=>?_) (fun _=>?_)|refine CG.yes ?_|refine CG.no ?_)|(refine DS.gE yU yE ?_;first|refine GG.npF (fun _=>?_) (fun _=>?_)|refine GG.run ?_|refine GG.sT ?_)|refine DS.exit yU ?_|refine DS.skip ?_)|refine DS.pcS inferInstance (betweenR_pc _ _ _) yR yF ?_|refine DS.pcS inferInstance (hc) yR yF ?_|refine DS.pcS inferInstance (ho1) yR yF ?_|refine DS.pcS inferInstance (ho2) yR yF ?_|refine DS.retT [] yE trivial ?_|fail)
   all_goals (clear hc ho1 ho2;simp only[tupV];(repeat' split) <;> first|rfl|(exfalso;omega)|(exfalso;grind))
theorem r4rules_pc (h:House):PC Tryz.prog 77 [h.val] (I (rulesH h)):=by
 have hm:=r4cond_pc h.set h.minor
 have h1:=checkScaleR_pc h.scale
 have h2:=r4pay_pc h.set h.pay
 have h3:=r4play_pc h.set h.play
 rw[rulesH]
 generalize condX h.set h.minor=C at hm ⊢
 obtain⟨m1,m2⟩:=C
 dsimp only at hm ⊢
 generalize scaleS h.scale=X1 at h1 ⊢
 generalize payS h.set h.pay=X2 at h2 ⊢
 generalize playS h.set h.play=X3 at h3 ⊢
 refine DC.of_run Tryz.func77 rfl Tryz.ntmps77 Tryz.results77 (by simp) (fun _ _=>?_);simp only[argV_cons,argV_nil,go_sem,Nat.zero_add,Nat.reduceAdd]
 repeat' (first|(with_reducible first|refine DS.fltS yU yU yE ?_|refine DS.opsNil ?_|refine DS.seq ?_|refine DS.regionL ?_|(refine DS.cE yE ?_;first|refine CG.np (fun _=>?_) (fun _=>?_)|refine CG.p (fun _=>?_) (fun _=>?_)|refine CG.no ?_)|(refine DS.gE yU yE ?_;first|refine GG.run ?_|refine GG.sF ?_|refine GG.nT (fun _=>?_) (fun _=>?_))|refine DS.skip ?_)|refine DS.pcS inferInstance (hm) yR yF ?_|refine DS.pcS inferInstance (h1) yR yF ?_|refine DS.pcS inferInstance (h2) yR yF ?_|refine DS.pcS inferInstance (h3) yR yF ?_|refine DS.pcS inferInstance (betweenR_pc _ _ _) yR yF ?_|(refine DS.boxF (t:=1) yU yE yU ?_;simp only[cells_agg,cells_v,cells_lst,cells_fn,map_nil'',map_cons'',copy_own,copy_lst,copy_v,copy_at,copy_agg,copy_fn,copy_ifc,copy_tup])|refine DS.retT [] yE trivial ?_|fail)
 all_goals (clear hm h1 h2 h3;simp only[tupV];(repeat' split) <;> first|rfl|(exfalso;omega)|(exfalso;grind))
theorem r4house_pc (h:House) (hl:h.patterns.length≤1000000) (hsz: ∀p∈h.patterns,p.name.size≤9223372036854775807):PC Tryz.prog 38 [h.val] (I (houseS h)):=by
 have h2:=r2forms_pc h.set h.forms
 have hr:=r4rules_pc h
 rw[houseS]
 generalize formsS h.set h.forms=F at h2 ⊢
 generalize rulesH h=R at hr ⊢
 by_cases hf:F=0
 ·rw[if_neg (by omega)]
  subst hf
  refine DC.of_run Tryz.func38 rfl Tryz.ntmps38 Tryz.results38 (by simp) (fun _ _=>?_);simp only[argV_cons,argV_nil,go_sem,Nat.zero_add,Nat.reduceAdd]
  repeat' (first|(with_reducible first|refine DS.fltS yU yU yE ?_|refine DS.opsNil ?_|refine DS.seq ?_|refine DS.regionL ?_|(refine DS.cE yE ?_;first|refine CG.p (fun _=>?_) (fun _=>?_)|refine CG.no ?_)|refine DS.block ?_|refine DS.skip ?_)|refine DS.pcS inferInstance (h2) yR yT ?_|(refine DS.boxF (t:=1) yU yE yU ?_;simp only[cells_agg,cells_v,cells_lst,cells_fn,map_nil'',map_cons'',copy_own,copy_lst,copy_v,copy_at,copy_agg,copy_fn,copy_ifc,copy_tup])|refine DS.retT [] yE trivial ?_|fail)
  all_goals try (exfalso;omega)
  ·rw[if_pos (by omega)];rfl
  rw[if_neg (by omega)]
  refine DS.loopK [1] yN (fun(i:Nat)=> [(4,I i)]) (fun(i:Nat)=>i≤h.patterns.length∧patsGo h 0 h.patterns.length=patsGo h i (h.patterns.length-i)) (fun(i:Nat)=>h.patterns.length-i) 0 yS ⟨Nat.zero_le _,rfl⟩ (fun i B hI hB=>?_);try dsimp only at hI hB;simp only[app_cons',app_nil']
  have HB:=Box.mk hB
  clear hB
  obtain⟨hI,hI2⟩:=hI
  by_cases hi:(i:Int)<(h.patterns.length:Int)
  ·have hi':i<h.patterns.length:=by omega
   obtain⟨m,hmm⟩: ∃m,h.patterns.length-i=m+1:=⟨h.patterns.length-i-1,by omega⟩
   rw[hmm,patsGo_at]at hI2
   have hmm2:h.patterns.length-(i+1)=m:=by omega
   have HI:=Box.mk hI2
   clear hI2
   have hp:=r4pattern_pc h (by omega) hi' hsz
   have HM:=Box.mk hmm
   have HM2:=Box.mk hmm2
   clear hmm hmm2 hr
   by_cases he:patS h i=0
   ·rw[he]at hp
    repeat' (first|(with_reducible first|refine DS.fltS yU yU yE ?_|refine DS.opsNil ?_|refine DS.seq ?_|refine DS.regionL ?_|(refine DS.cE yE ?_;first|refine CG.yes ?_|refine CG.no ?_)|refine DS.blk ?_|refine DS.block ?_|refine DS.skip ?_)|refine DS.pcS inferInstance (hp) yR yT ?_|fail)
    all_goals first
     | exact DS.back (HB.out (i+1) _ _ (by omega) ⟨by omega,by rw[HI.out,HM2.out,if_neg (by omega)]⟩ yS yS (fun b o e=>by cases e))
     | (exfalso;omega)
   ·repeat' (first|(with_reducible first|refine DS.fltS yU yU yE ?_|refine DS.opsNil ?_|refine DS.seq ?_|refine DS.regionL ?_|(refine DS.cE yE ?_;refine CG.yes ?_)|refine DS.block ?_|refine DS.skip ?_)|refine DS.pcS inferInstance (hp) yR yT ?_|refine DS.retT [] yE trivial ?_|fail)
    all_goals first|(rw[HI.out,if_pos he,if_pos he];rfl)|(exfalso;omega)
  ·have e:patsGo h 0 h.patterns.length=0:=by rw[hI2,show h.patterns.length-i=0 by omega];rfl
   rw[e,if_neg (by decide)]
   clear e hI2 HB
   repeat' (first|(with_reducible first|refine DS.fltS yU yU yE ?_|refine DS.opsNil ?_|refine DS.seq ?_|refine DS.regionL ?_|(refine DS.cE yE ?_;refine CG.no ?_)|refine DS.exit yU ?_)|refine DS.pcS inferInstance (hr) yR yT ?_|refine DS.retT [] yE trivial ?_|fail)
   rfl
 ·rw[if_pos hf]
  refine DC.of_run Tryz.func38 rfl Tryz.ntmps38 Tryz.results38 (by simp) (fun _ _=>?_);simp only[argV_cons,argV_nil,go_sem,Nat.zero_add,Nat.reduceAdd]
  repeat' (first|(with_reducible first|refine DS.fltS yU yU yE ?_|refine DS.opsNil ?_|refine DS.seq ?_|refine DS.regionL ?_|(refine DS.cE yE ?_;refine CG.yes ?_))|refine DS.pcS inferInstance (h2) yR yT ?_|(refine DS.boxF (t:=1) yU yE yU ?_;simp only[cells_agg,cells_v,cells_lst,cells_fn,map_nil'',map_cons'',copy_own,copy_lst,copy_v,copy_at,copy_agg,copy_fn,copy_ifc,copy_tup])|refine DS.retT [] yE trivial ?_|fail)
  all_goals first|rfl|(exfalso;omega)
end Go.XL
namespace Go.XL
open Go.Proofs
set_option maxRecDepth 100000
set_option maxHeartbeats 4000000
theorem yX15 {p:Prop} (h:p:=by(simp (disch:=omega) only[go_sem,dopV,yV0,↓reduceIte,Nat.reduceEqDiff,Nat.reduceLT,Nat.reduceLeDiff,Nat.reduceAdd,Nat.reduceMul,Nat.reduceSub,Int.reduceToNat,Int.reduceLT,Int.reduceLE,Int.reduceEq,IntWalk.toNatUp,IntWalk.iteOmega,IntWalk.i64_in,V.flat,V.one, *,Int.sub_zero,Int.lt_irrefl];exact rfl)):p:=h
theorem yX16 {p:Prop} (h:p:=by(simp (disch:=omega) only[go_sem,dopV,yV0,↓reduceIte,Nat.reduceEqDiff,Nat.reduceLT,Nat.reduceLeDiff,Nat.reduceAdd,Nat.reduceMul,Nat.reduceSub,Int.reduceToNat,Int.reduceLT,Int.reduceLE,Int.reduceEq,IntWalk.toNatUp,IntWalk.iteOmega,IntWalk.i64_in,V.flat,V.one, *,Int.sub_zero];exact rfl)):p:=h
theorem yX17 {p:Prop} (h:p:=by(simp (disch:=omega) only[go_sem,dopV,yV0,↓reduceIte,Nat.reduceEqDiff,Nat.reduceLT,Nat.reduceLeDiff,Nat.reduceAdd,Nat.reduceMul,Nat.reduceSub,Int.reduceToNat,Int.reduceLT,Int.reduceLE,Int.reduceEq,IntWalk.toNatUp,IntWalk.iteOmega,IntWalk.i64_in,V.flat,V.one, *,Int.sub_zero,Nat.sub_zero];exact rfl)):p:=h
theorem grow_dc (N:Nat) (hN:N≤1000000):DC Tryz.prog 110 [.v (.slice none 0 0),I N] [] (fun u S'=> ∃g:GR,u=g.cell∧g.l= []∧g.Ok 3 1 S'):=by
 refine DC.of_run Tryz.func110 rfl Tryz.ntmps110 Tryz.results110 (by simp) (fun _ _=>?_);simp only[argV_cons,argV_nil,go_sem,Nat.zero_add,Nat.reduceAdd]
 by_cases h:N=0
 ·subst h
  repeat' (first|(with_reducible first|refine DS.fltS yU yU yE ?_|refine DS.opsNil ?_|refine DS.seq ?_|refine DS.regionL ?_|(refine DS.cE yE ?_;refine CG.no ?_)|refine DS.skip ?_)|fail)
  refine DS.capB yU yH yR ?_
  simp only[putV_some]
  repeat' (first|(with_reducible first|refine DS.fltS yU yU yX15 ?_|refine DS.opsNil ?_|refine DS.seq ?_|refine DS.regionL ?_|(refine DS.cE yX15 ?_;refine CG.no ?_)|refine DS.skip ?_)|fail)
  refine DS.retA yG ⟨⟨[],none⟩,rfl,rfl,rfl⟩
 ·have h1:(0:Int)<(N:Int):=by omega
  have h2: ¬(N:Int)<0:=by omega
  repeat' (first|(with_reducible first|refine DS.fltS yU yU yE ?_|refine DS.opsNil ?_|refine DS.seq ?_|refine DS.regionL ?_|(refine DS.cE yE ?_;refine CG.no ?_)|refine DS.skip ?_)|fail)
  refine DS.capB yU yH yR ?_
  simp only[putV_some]
  repeat' (first|(with_reducible first|refine DS.fltS yU yU yX16 ?_|refine DS.opsNil ?_|refine DS.seq ?_|refine DS.regionL ?_|(refine DS.cE yX16 ?_;refine CG.yes ?_))|fail)
  refine DS.capB yU yH yR ?_
  simp only[putV_some]
  refine DS.nilTo yH yH yH yR ?_
  simp only[putV_some]
  repeat' (first|with_reducible refine DS.fltS yU yU yX16 ?_|fail)
  refine DS.step rfl rfl yR (OpS.appZ (N:=N) (kn := .i64) rfl yH Tryz.underlying3 yH yR yR (by decide) yH yH ⟨by omega,hN⟩ (by decide)) (fun u2 E' S4 hu2=>?_)
  obtain⟨rfl,b,cap,n1,n2,n3,rfl,j,n4,n5,rfl⟩:=hu2
  simp only[putV_some]
  repeat' (first|(with_reducible first|refine DS.fltS yU yU yX17 ?_|refine DS.opsNil ?_|refine DS.seq ?_|refine DS.regionL ?_)|fail)
  refine DS.retA yG ⟨⟨[],some (b,cap,j)⟩,rfl,rfl,?_⟩
  exact⟨by simp only[lookS_cons,↓reduceIte,List.flatten_nil,List.nil_append],by simpa using n4,Nat.zero_le _,n3,n5,by simp,by simp⟩
theorem concatL_pc (L:List (List Int)) (hL:L.length≤10) (hl: ∀l∈L,l.length≤1000):PC Tryz.prog 74 [.lst (L.map fun l=> [ints l])] (ints L.flatten):=by
 have hsum: ∀i,i≤L.length→(L.take i).flatten.length≤1000*i:=fun i hi=>by
  induction i with
  | zero=>simp
  | succ i ih =>
   have:=ih (by omega)
   have h2:=hl _ (List.getElem_mem (show i<L.length by omega))
   rw[List.take_succ_eq_append_getElem (by omega),List.flatten_append,List.length_append]
   simp only[List.flatten_cons,List.flatten_nil,List.append_nil]
   omega
 have hH:=Box.mk (And.intro hl hsum)
 clear hl hsum
 refine DC.of_run Tryz.func74 rfl Tryz.ntmps74 Tryz.results74 (by simp) (fun _ _=>?_);simp only[argV_cons,argV_nil,go_sem,Nat.zero_add,Nat.reduceAdd]
 repeat' (first|(with_reducible first|refine DS.fltS yU yU yE ?_|refine DS.opsNil ?_|refine DS.seq ?_|refine DS.regionL ?_|refine DS.block ?_)|fail)
 refine DS.loopK [0,9,10] yN (fun(i:Nat)=> [(3,I ((L.take i).flatten.length:Nat)),(11,I i)]) (fun(i:Nat)=>i≤L.length) (fun(i:Nat)=>L.length-i) 0 yS (Nat.zero_le _) (fun i B hI hB=>?_);try dsimp only at hI hB;simp only[app_cons',app_nil']
 by_cases hi:i<L.length
 ·have hi':(i:Int)<(L.length:Int):=by omega
  have h1:=hH.out.1 _ (List.getElem_mem hi)
  have h2:=hH.out.2 i (by omega)
  have h3:((L.take (i+1)).flatten.length:Int)=((L.take i).flatten.length:Int)+(L[i].length:Int):=by
   rw[List.take_succ_eq_append_getElem hi,List.flatten_append,List.length_append]
   simp only[List.flatten_cons,List.flatten_nil,List.append_nil]
   omega
  have h4: ¬((L.take i).flatten.length:Int)+(L[i].length:Int)<0:=by omega
  repeat' (first|(with_reducible first|refine DS.fltS yU yU yE ?_|refine DS.opsNil ?_|refine DS.seq ?_|refine DS.regionL ?_|(refine DS.cE yE ?_;first|refine CG.yes ?_|refine CG.no ?_)|refine DS.blk ?_|refine DS.block ?_|refine DS.skip ?_)|fail)
  exact DS.back (hB (i+1) _ _ (by omega) (by omega) yS yS (fun b o e=>by first|exact e|(simp only[lookS_cons];split <;> simp_all)))
 ·have hi': ¬(i:Int)<(L.length:Int):=by omega
  have he:i=L.length:=by omega
  have h2:=hH.out.2 i hI
  rw[he,List.take_length]at h2
  have hg:=grow_dc L.flatten.length (by omega)
  have ht:(L.take i).flatten.length=L.flatten.length:=by rw[he,List.take_length]
  clear hB he
  repeat' (first|(with_reducible first|refine DS.fltS yU yU yE ?_|refine DS.opsNil ?_|refine DS.seq ?_|refine DS.regionL ?_|(refine DS.cE yE ?_;refine CG.no ?_)|refine DS.exit yU ?_)|fail)
  refine DS.callNA inferInstance hg yR yH (fun u S' hu=>?_)
  obtain⟨g,rfl,g1,g2⟩:=hu
  clear hg ht
  have hgc:=g.cell_copy
  repeat' (first|(with_reducible first|refine DS.fltS yU yU yE ?_|refine DS.opsNil ?_|refine DS.seq ?_|refine DS.regionL ?_|refine DS.block ?_)|fail)
  clear hgc
  refine DS.loopS [25,26] yN (fun(x:Nat×GR×Sto)=> [(6,x.2.1.cell),(27,I x.1)]) (fun(x:Nat×GR×Sto)=>x.2.2) (fun(x:Nat×GR×Sto)=>x.1≤L.length∧x.2.1.l=(L.take x.1).flatten.map cI∧x.2.1.Ok 3 1 x.2.2) (fun(x:Nat×GR×Sto)=>L.length-x.1) (0,g,S') yS (fun b o e=>by exact e) ⟨Nat.zero_le _,g1,g2⟩ (fun x B hI hB=>?_);try dsimp only at hI hB;simp only[app_cons',app_nil']
  obtain⟨q,g3,S3⟩:=x
  dsimp only at hI hB
  obtain⟨k1,k2,k3⟩:=hI
  by_cases hq:q<L.length
  ·have hq':(q:Int)<(L.length:Int):=by omega
   have h1:=hH.out.1 _ (List.getElem_mem hq)
   have h2:=hH.out.2 q (by omega)
   have hgc:=g3.cell_copy
   repeat' (first|(with_reducible first|refine DS.fltS yU yU yE ?_|refine DS.opsNil ?_|refine DS.seq ?_|refine DS.regionL ?_|(refine DS.cE yE ?_;refine CG.yes ?_)|refine DS.block ?_|refine DS.skip ?_)|fail)
   refine DS.step rfl rfl yR (OpS.appA (g:=g3) (ml:=L[q].map cI) rfl yH yH yR yR (by decide) yH k3 yH yH (by intro x hx;obtain⟨y,-,rfl⟩:=List.mem_map.1 hx;rfl) ⟨by rw[k2];simp only[List.length_map];omega,by decide⟩) (fun u2 E' S4 hu2=>?_)
   obtain⟨rfl,g4,rfl,m1,m2,-,-⟩:=hu2
   have hgc4:=g4.cell_copy
   simp only[putV_some]
   repeat' (first|(with_reducible first|refine DS.fltS yU yU yE ?_|refine DS.opsNil ?_|refine DS.regionL ?_|refine DS.blk ?_)|fail)
   exact DS.back (hB (q+1,g4,S4) _ _ (by dsimp only;omega) ⟨by dsimp only;omega,by
    rw[m1,k2,List.take_succ_eq_append_getElem hq,List.flatten_append,List.map_append,List.map_map]
    simp only[List.flatten_cons,List.flatten_nil,List.append_nil];rfl,m2⟩ yS yS (fun b o e=>by exact e))
  ·have hq': ¬(q:Int)<(L.length:Int):=by omega
   have hgc:=g3.cell_copy
   rw[show L.take q=L by rw[List.take_of_length_le];omega]at k2
   clear hB
   repeat' (first|(with_reducible first|refine DS.fltS yU yU yE ?_|refine DS.opsNil ?_|refine DS.seq ?_|refine DS.regionL ?_|(refine DS.cE yE ?_;refine CG.no ?_)|refine DS.exit yU ?_)|fail)
   refine DS.freezeGR (t:=2) yR k3 (fun S4 _=>?_)
   refine DS.retA yG ?_
   rw[k2,List.map_map];rfl
theorem concat_pc (a b:List Int) (ha:a.length≤1000) (hb:b.length≤1000):PC Tryz.prog 74 [.lst [[ints a],[ints b]]] (ints (a++b)):=by
 have h:=concatL_pc [a,b] (by simp) (fun l hl=>by
  simp only[List.mem_cons,List.not_mem_nil,or_false]at hl
  rcases hl with rfl|rfl <;> assumption)
 simpa using h
end Go.XL
namespace Go.XL
theorem chunk1_map {α:Type} (f:α→V): ∀l:List α,chunk 1 l.length (l.map f)=l.map fun a=> [f a]
 | []=>rfl
 | a::r=>by
  rw[List.length_cons,chunk,List.map_cons,List.map_cons,←chunk1_map f r];rfl
end Go.XL
namespace Go.XL
open Go.Proofs
set_option maxRecDepth 100000
set_option maxHeartbeats 8000000
theorem patsOk {h:House} (ok:h.Ok):PatsOk h:=⟨ok.many,fun i hi=>patS_ok (patsGo_ok ok.pats i (Nat.zero_le _) (by omega))⟩
theorem set_or (N:List Nat) (p q:Nat):(N.map UN).set p (UN (N.getD p 0 ||| 2 ^ q))=(orAt N p q).map UN:=by rw[orAt,List.map_set]
theorem clashing_dc (h:House) (hok:PatsOk h):DC Tryz.prog 35 [h.val] [] (fun u S'=> ∃bc,u = .v (.slice (some ⟨bc,0,none⟩) h.patterns.length h.patterns.length)∧S'= [(bc, .cells (((List.range h.patterns.length).map (clM h)).map UN) 86)]):=by
 have hm:=hok.many
 refine DC.of_run Tryz.func35 rfl Tryz.ntmps35 Tryz.results35 (by simp) (fun _ _=>?_);simp only[argV_cons,argV_nil,go_sem,Nat.zero_add,Nat.reduceAdd]
 repeat' (first|(with_reducible first|refine DS.fltS yU yU yE ?_|refine DS.opsNil ?_|refine DS.seq ?_|refine DS.regionL ?_|refine DS.block ?_)|(refine DS.boxF (t:=1) yU yE yU ?_;simp only[cells_agg,cells_v,cells_lst,cells_fn,map_nil'',map_cons'',copy_own,copy_lst,copy_v,copy_at,copy_agg,copy_fn,copy_ifc,copy_tup])|(refine DS.mkS yU yE yE yE yE yU yU ⟨by omega,by omega,by decide,by omega⟩ (fun _ hfr=>?_))|fail)
 rename_i bo
 have hz:zerosV (.int .u64 0) ((h.patterns.length:Nat):Int).toNat=(List.replicate h.patterns.length 0).map UN:=by
  rw[Int.toNat_natCast,zerosV]
  have e:(Value.int IntKind.u64 0).cells.toList.map V.v= [UN 0]:=rfl
  rw[e];simp
 rw[hz]
 clear hz
 refine DS.loopS [3,13,14] yN (fun(x:Nat×List Nat)=> [(15,I x.1)]) (fun(x:Nat×List Nat)=> [(bo, .cells (x.2.map UN) 86)]) (fun(x:Nat×List Nat)=>x.1≤h.patterns.length∧Gath h x.1 0 x.2) (fun(x:Nat×List Nat)=>h.patterns.length-x.1) (0,List.replicate h.patterns.length 0) yS (fun b o e=>by exact e) ⟨Nat.zero_le _,Gath.start h⟩ (fun x B hI hB=>?_);try dsimp only at hI hB;simp only[app_cons',app_nil']
 obtain⟨i,L⟩:=x
 dsimp only at hI hB ⊢
 obtain⟨i1,i2⟩:=hI
 have HB:=Box.mk hB
 clear hB
 by_cases hi:i<h.patterns.length
 ·have hi':(i:Int)<(h.patterns.length:Int):=by omega
  have hp:=hok.ok i hi
  have hpe:=pat_at hi
  have hoth:h.oth i=h.patterns[i].excl++h.patterns[i].impl:=by rw[House.oth,hpe]
  have hex:=hp.excl
  have him:=hp.impl
  rw[hpe]at hex him
  have hcc:=concat_pc h.patterns[i].excl h.patterns[i].impl (by omega) (by omega)
  rw[←hoth]at hcc
  have hol:(h.oth i).length≤20:=by rw[hoth,List.length_append];omega
  have HP:=Box.mk hp.oth
  clear hpe hp hoth hex him
  repeat' (first|(with_reducible first|refine DS.fltS yU yU yE ?_|refine DS.opsNil ?_|refine DS.seq ?_|refine DS.regionL ?_|(refine DS.cE yE ?_;refine CG.yes ?_)|refine DS.block ?_|refine DS.skip ?_)|(refine DS.bsl yU yE yE ?_;simp only[go_sem,Nat.zero_add,Nat.reduceAdd])|(refine DS.letF1 (t:=5) yU yU yU yE yU (fun _=>yE) (fun _=>yE) yE yU (by exact⟨by with_unfolding_all rfl,by with_unfolding_all decide⟩) (fun _=>by simp only[go_sem,Nat.reduceEqDiff,↓reduceIte]) ?_;simp only[go_sem])|refine DS.pcS inferInstance (hcc) yR yT ?_|fail)
  refine DS.loopS [3,4,13,14,15,25,26] yN (fun(y:Nat×List Nat)=> [(27,I y.1)]) (fun(y:Nat×List Nat)=> [(bo, .cells (y.2.map UN) 86)]) (fun(y:Nat×List Nat)=>y.1≤(h.oth i).length∧Gath h i y.1 y.2) (fun(y:Nat×List Nat)=>(h.oth i).length-y.1) (0,L) yS (fun b o e=>by exact e) ⟨Nat.zero_le _,i2⟩ (fun y B hI hB=>?_);try dsimp only at hI hB;simp only[app_cons',app_nil']
  obtain⟨j,M⟩:=y
  dsimp only at hI hB ⊢
  obtain⟨j1,j2⟩:=hI
  clear i2
  by_cases hj:j<(h.oth i).length
  ·have hj':(j:Int)<((h.oth i).length:Int):=by omega
   obtain⟨k1,k2,k3⟩:=HP.out _ (List.getElem_mem hj)
   obtain⟨K,hk⟩:=Int.eq_ofNat_of_zero_le k1
   have hK:K<h.patterns.length:=by omega
   have hKi: ¬i=K:=by omega
   have hlen:=j2.len
   have get: ∀(N:List Nat) (a:Nat),N.length=h.patterns.length→a<h.patterns.length→(N.map UN)[a]?=some (UN (N.getD a 0)):=fun N a h1 h2=>by
    rw[List.getElem?_map,List.getElem?_eq_getElem (by omega),List.getD_eq_getElem?_getD,List.getElem?_eq_getElem (by omega)];rfl
   have lt: ∀(N:List Nat) (a:Nat),(∀m∈N,m<2 ^ 64)→N.getD a 0<18446744073709551616:=fun N a h1=>by
    rw[List.getD_eq_getElem?_getD]
    cases e:N[a]? with
    | none=>simp
    | some v=>exact h1 v (List.mem_of_getElem? e)
   have m1:=get M i hlen hi
   have m2:=get (orAt M i K) K (by rw[orAt_len];exact hlen) hK
   have l1:=lt M i j2.lt
   have l2:=lt (orAt M i K) K (orAt_lt j2.lt (by omega))
   have p1:2 ^ K<18446744073709551616:=show _<2 ^ 64 from Nat.pow_lt_pow_right (by omega) (by omega)
   have p2:2 ^ i<18446744073709551616:=show _<2 ^ 64 from Nat.pow_lt_pow_right (by omega) (by omega)
   have o1:bop Tryz.prog .or 86 (.int .u64 (M.getD i 0:Nat)) (.int .u64 ((2 ^ K:Nat):Int))=some (.int .u64 ((M.getD i 0 ||| 2 ^ K:Nat):Int)):=bop_orU l1 p1
   have o2:bop Tryz.prog .or 86 (.int .u64 ((orAt M i K).getD K 0:Nat)) (.int .u64 ((2 ^ i:Nat):Int))=some (.int .u64 (((orAt M i K).getD K 0 ||| 2 ^ i:Nat):Int)):=bop_orU l2 p2
   have s1:bop Tryz.prog .shl 86 (.int .u64 1) (.int .i64 (K:Int))=some (.int .u64 ((2 ^ K:Nat):Int)):=bop_shlU (by omega)
   have s2:bop Tryz.prog .shl 86 (.int .u64 1) (.int .i64 (i:Int))=some (.int .u64 ((2 ^ i:Nat):Int)):=bop_shlU (by omega)
   have st1:(M.map UN).set i (UN (M.getD i 0 ||| 2 ^ K))=(orAt M i K).map UN:=set_or _ _ _
   have st2:((orAt M i K).map UN).set K (UN ((orAt M i K).getD K 0 ||| 2 ^ i))=(orAt (orAt M i K) K i).map UN:=set_or _ _ _
   have hg:=j2.step hi hm hj hk hK
   have hKn:K<(h.patterns.length:Nat):=hK
   have hol2:(orAt M i K).length=h.patterns.length:=by rw[orAt_len];exact hlen
   have HX:=Box.mk (And.intro hg st2)
   clear hg j2 get lt l1 l2 p1 p2 k1 k2 k3
   repeat' (first|(with_reducible first|refine DS.fltS yU yU yE ?_|refine DS.opsNil ?_|refine DS.seq ?_|refine DS.regionL ?_|(refine DS.cE yE ?_;refine CG.yes ?_)|refine DS.blk ?_|refine DS.block ?_|refine DS.skip ?_)|(refine DS.store yR yE yE yE yE yU (by exact⟨by with_unfolding_all rfl,by(try simp only[List.length_map,List.length_append,List.length_set,List.length_replicate,List.length_cons,List.length_nil]);omega⟩) ?_;simp only[putV_none,setAll_cons,setAll_nil,scells_v,scells_own,scells_lst,scells_agg];try simp only[strip_tmp,strip_const,lookV_cons,Nat.reduceEqDiff,↓reduceIte,stripO_own,stripO_lst,stripO_v,stripO_plc,stripO_agg,stripO_fn,stripO_ifc])|refine DS.drawL (id:=8) [0,1,2,3,4,5] 6 (by kernel_rfl) mixed (by simp only[pickL_cons,pickL_nil,get_zero',get_cons',pickO_some];exact rfl) (by simp only[drop_zero',drop_cons',List.drop_nil];exact rfl) ?_|refine DS.drawL (id:=9) [0,1,2,3,4,5] 6 (by kernel_rfl) mixed (by simp only[pickL_cons,pickL_nil,get_zero',get_cons',pickO_some];exact rfl) (by simp only[drop_zero',drop_cons',List.drop_nil];exact rfl) ?_|(with_reducible first|refine DD.fltS yU yU yU yE ?_|refine DD.nil0 ?_)|fail)
   rw[HX.out.2]
   simp only[setS,↓reduceIte]
   exact DS.back (hB (j+1,orAt (orAt M i K) K i) _ _ (by dsimp only;omega) ⟨by dsimp only;omega,HX.out.1⟩ yS yS (fun b o e=>by exact e))
  ·have hj': ¬(j:Int)<((h.oth i).length:Int):=by omega
   have hje:j=(h.oth i).length:=by omega
   rw[hje]at j2
   have j3:=j2.next
   clear hje hB j2
   repeat' (first|(with_reducible first|refine DS.fltS yU yU yE ?_|refine DS.opsNil ?_|refine DS.seq ?_|refine DS.regionL ?_|(refine DS.cE yE ?_;refine CG.no ?_)|refine DS.blk ?_|refine DS.exit yU ?_)|fail)
   exact DS.back (HB.out (i+1,M) _ _ (by dsimp only;omega) ⟨by dsimp only;omega,j3⟩ yS yS (fun b o e=>by exact e))
 ·have hi': ¬(i:Int)<(h.patterns.length:Int):=by omega
  have hie:i=h.patterns.length:=by omega
  have hlen:=i2.len
  rw[hie]at i2
  have he:=i2.end hok
  clear i2 HB hie
  repeat' (first|(with_reducible first|refine DS.fltS yU yU yE ?_|refine DS.opsNil ?_|refine DS.seq ?_|refine DS.regionL ?_|(refine DS.cE yE ?_;refine CG.no ?_)|refine DS.exit yU ?_)|fail)
  rw[he]
  refine DS.retA yG ⟨bo,rfl,rfl⟩
end Go.XL
namespace Go.XL
open Go.Proofs
set_option maxRecDepth 100000
set_option maxHeartbeats 8000000
theorem posH_at {h:House} {o:Bool} {l:List Hold} {i:Nat} (hi:i<l.length):posH h o (l.take (i+1))=if 0<worthS (h.pat l[i].pn) o then posH h o (l.take i)++ [l[i]]else posH h o (l.take i):=by
 rw[List.take_succ_eq_append_getElem hi,posH,List.filter_append,posH]
 by_cases h1:0<worthS (h.pat l[i].pn) o
 ·rw[if_pos h1];simp[h1]
 ·rw[if_neg h1];simp[h1]
theorem worthS_bd {h:House} (hok:PatsOk h) (o:Bool) {i:Nat} (hi:i<h.patterns.length):0≤worthS (h.pat i) o∧worthS (h.pat i) o≤1000:=by
 have hp:=hok.ok i hi
 have h1:=hp.closed
 have h2:=hp.open_
 unfold worthS;split <;> omega
theorem posH_len (h:House) (o:Bool) (l:List Hold):(posH h o l).length≤l.length:=List.length_filter_le ..
theorem r5choose_pc (h:House) (hm:h.patterns.length≤1000000) (hn: ∀p∈h.patterns,p.name.size≤9223372036854775807) (holds:List Hold) (o:Bool) :
  PC Tryz.prog 13 [h.val,holdsV holds,Bo o] (.tup [ints (chooseS h holds o).1,I (chooseS h holds o).2.1,I (chooseS h holds o).2.2]):=by
 have hk:=r4house_pc h hm hn
 have hc:=r5checkHolds_pc h holds
 by_cases h0:houseS h=0
 ·rw[h0]at hk
  by_cases h40:40<(holds.length:Int)
  ·rw[if_pos h40]at hc
   rw[chooseS,if_neg (by omega),if_pos h40]
   refine DC.of_run Tryz.func13 rfl Tryz.ntmps13 Tryz.results13 (by simp) (fun _ _=>?_);simp only[argV_cons,argV_nil,go_sem,Nat.zero_add,Nat.reduceAdd]
   repeat' (first|(with_reducible first|refine DS.fltS yU yU yE ?_|refine DS.opsNil ?_|refine DS.seq ?_|refine DS.regionL ?_|(refine DS.cE yE ?_;refine CG.yes ?_))|refine DS.pcS inferInstance (hk) yR yT ?_|refine DS.pcS inferInstance (hc) yR yT ?_|(refine DS.boxF (t:=3) yU yE yU ?_;simp only[cells_agg,cells_v,cells_lst,cells_fn,map_nil'',map_cons'',copy_own,copy_lst,copy_v,copy_at,copy_agg,copy_fn,copy_ifc,copy_tup])|refine DS.retT [] yE trivial ?_|fail)
   all_goals first|rfl|(exfalso;omega)
  ·rw[if_neg h40]at hc
   rw[chooseS,if_neg (by omega),if_neg h40]
   by_cases h1:holdsGo h.patterns.length holds (-1)=0
   ·rw[if_neg (by omega)]
    rw[h1]at hc
    have hok:=patsOk (house_ok h0)
    have hmn:=hok.many
    have href:=choose_ref (o:=o) (by omega) h1 fun i hi=>(worthS_bd hok o hi).1
    obtain⟨a,b,c⟩:=holdsGo_ok h1
    have hLl:(List.replicate h.patterns.length (0:Int)).length=h.patterns.length:=by simp
    have hin:=valsGo_in (h:=h) (o:=o) holds (List.replicate h.patterns.length 0) c fun x hx=>⟨(a x hx).1,by have:=a x hx;rw[hLl];unfold Hold.pn;omega⟩
    have hsub:(posH h o holds).Sublist holds:=List.filter_sublist
    have hpl:=posH_len h o holds
    have hv:HoldsOk h (fun i=>(valsS h holds o).getD i 0) o ([]++posH h o holds):=by
     rw[List.nil_append]
     refine⟨fun x hx=>?_,fun x hx=>?_,fun x hx=>(hin x (hsub.subset hx)).symm,fun x hx=>?_,by omega⟩
     ·have:=a x (hsub.subset hx);omega
     ·have:=a x (hsub.subset hx);omega
     ·have h2:=a x (hsub.subset hx)
      have h3:=worthS_bd hok o (i:=x.pn) (by unfold Hold.pn;omega)
      have h4:=hin x (hsub.subset hx)
      show 0≤(valsS h holds o).getD x.pn 0∧(valsS h holds o).getD x.pn 0≤1000000
      rw[show(valsS h holds o).getD x.pn 0=x.times*worthS (h.pat x.pn) o from h4]
      exact⟨Int.mul_nonneg (by omega) h3.1,Int.le_trans (Int.mul_le_mul h2.2.2.2 h3.2 h3.1 (by omega)) (by omega)⟩
    have hb:=r5best_pc h _ o (posH h o holds) [] hv (by rw[List.nil_append];exact c.sublist hsub)
    rw[List.map_nil,href]at hb
    dsimp only at hb
    generalize bestH h (valsS h holds o)=R at *
    have HB0:=Box.mk (And.intro a hok)
    clear href hin hsub hv a b c hok
    have hp0:posH h o []= []:=rfl
    refine DC.of_run Tryz.func13 rfl Tryz.ntmps13 Tryz.results13 (by simp) (fun _ _=>?_);simp only[argV_cons,argV_nil,go_sem,Nat.zero_add,Nat.reduceAdd]
    repeat' (first|(with_reducible first|(refine DS.nilOwn (t:=10) yU yO yE ?_)|refine DS.fltS yU yU yE ?_|refine DS.opsNil ?_|refine DS.seq ?_|refine DS.regionL ?_|(refine DS.cE yE ?_;first|refine CG.yes ?_|refine CG.no ?_)|refine DS.block ?_|refine DS.skip ?_)|refine DS.pcS inferInstance (hk) yR yT ?_|refine DS.pcS inferInstance (hc) yR yT ?_|(refine DS.boxF (t:=3) yU yE yU ?_;simp only[cells_agg,cells_v,cells_lst,cells_fn,map_nil'',map_cons'',copy_own,copy_lst,copy_v,copy_at,copy_agg,copy_fn,copy_ifc,copy_tup])|fail)
    all_goals try (exfalso;omega)
    clear hk hc
    refine DS.loopK [1,2,3] yN (fun(i:Nat)=> [(10, .own false 59 2 ((posH h o (holds.take i)).map Hold.cells)),(11,I i)]) (fun(i:Nat)=>i≤holds.length) (fun(i:Nat)=>holds.length-i) 0 yS (Nat.zero_le _) (fun i B hI hB=>?_);try dsimp only at hI hB;simp only[app_cons',app_nil']
    have HB:=Box.mk hB
    clear hB
    by_cases hi:(i:Int)<(holds.length:Int)
    ·have hi':i<holds.length:=by omega
     have ha:=HB0.out.1 _ (List.getElem_mem hi')
     have hpi:holds[i].pn<h.patterns.length:=by unfold Hold.pn;omega
     have htn:holds[i].pattern.toNat=holds[i].pn:=rfl
     have hw:=r5worth_pc h.patterns[holds[i].pn] o
     have hnx:=posH_at (h:=h) (o:=o) hi'
     rw[pat_at hpi]at hnx
     have hlt:=posH_len h o (holds.take i)
     have hl2:(holds.take i).length≤i:=List.length_take_le ..
     by_cases hpos:0<worthS h.patterns[holds[i].pn] o
     ·rw[if_pos hpos]at hnx
      have HN:=Box.mk hnx
      clear hnx
      repeat' (first|(with_reducible refine DS.mv (t:=10) yU yO yE ?_;simp only[strip_tmp,strip_const,lookV_cons,Nat.reduceEqDiff,↓reduceIte,stripO_own,stripO_lst,stripO_v,stripO_plc,stripO_agg,stripO_fn,stripO_ifc])|(with_reducible refine DS.mv (t:=42) yU yO yE ?_;simp only[strip_tmp,strip_const,lookV_cons,Nat.reduceEqDiff,↓reduceIte,stripO_own,stripO_lst,stripO_v,stripO_plc,stripO_agg,stripO_fn,stripO_ifc])|(with_reducible first|refine DS.fltS yU yU yE ?_|refine DS.opsNil ?_|refine DS.seq ?_|refine DS.regionL ?_|(refine DS.cE yE ?_;refine CG.yes ?_)|refine DS.blk ?_|refine DS.block ?_|refine DS.skip ?_)|(refine DS.bsl yU yE yE ?_;simp only[go_sem,Nat.zero_add,Nat.reduceAdd])|(refine DS.append (mm:=false) yU yE yE yU (by decide) yE (by first|exact .inl rfl|exact .inr ⟨rfl,rfl⟩) yE yX4 (by first|exact len_map cI_len _|exact len_map cR_len _|exact len_map Member.len _|exact len_map Sitting.len _|exact len_map Ruling.len _|exact len_map Hold.len _|exact len_map Node.len _|exact len_map Form.len _|exact len_map Pattern.len _|(simp only[List.mem_cons,List.not_mem_nil,or_false,forall_eq];rfl)|simp) ⟨by(try simp only[List.length_map,List.length_cons,List.length_nil,List.length_append,List.length_take,List.length_drop]);omega,by decide⟩ ?_;simp only[strip_tmp,strip_const,lookV_cons,Nat.reduceEqDiff,↓reduceIte,stripO_own,stripO_lst,stripO_v,stripO_plc,stripO_agg,stripO_fn,stripO_ifc])|refine DS.pcS inferInstance (hw) yR yT ?_|refine DS.drawL (id:=10) [0,1,2,3,4,5,6,7,8,9] 10 (by kernel_rfl) mixed (by simp only[pickL_cons,pickL_nil,get_zero',get_cons',pickO_some];exact rfl) (by simp only[drop_zero',drop_cons',List.drop_nil];exact rfl) ?_|(with_reducible first|refine DD.fltS yU yU yU yE ?_|refine DD.nil0 ?_)|fail)
      all_goals try (exfalso;omega)
      exact DS.back (HB.out (i+1) _ _ (by omega) (by omega) (by rw[HN.out];simp (disch:=omega) only[go_sem,dopV,yV0,↓reduceIte,Nat.reduceEqDiff,Nat.reduceLT,Nat.reduceLeDiff,Nat.reduceAdd,Nat.reduceMul,Nat.reduceSub,Int.reduceToNat,Int.reduceLT,Int.reduceLE,Int.reduceEq,IntWalk.toNatUp,IntWalk.iteOmega,IntWalk.i64_in,V.flat,V.one,subV_cons,subV_nil,subS_cons,subS_nil,and_self,Int.natCast_add,Int.natCast_one,Int.natCast_zero,Int.zero_add,Int.reduceAdd,List.map_append,ints,rows, *]) yS (fun b o e=>by cases e))
     ·rw[if_neg hpos]at hnx
      have HN:=Box.mk hnx
      clear hnx
      repeat' (first|(with_reducible first|refine DS.fltS yU yU yE ?_|refine DS.opsNil ?_|refine DS.seq ?_|refine DS.regionL ?_|(refine DS.cE yE ?_;first|refine CG.yes ?_|refine CG.no ?_)|refine DS.blk ?_|refine DS.block ?_|refine DS.skip ?_)|refine DS.pcS inferInstance (hw) yR yT ?_|refine DS.drawL (id:=10) [0,1,2,3,4,5,6,7,8,9] 10 (by kernel_rfl) mixed (by simp only[pickL_cons,pickL_nil,get_zero',get_cons',pickO_some];exact rfl) (by simp only[drop_zero',drop_cons',List.drop_nil];exact rfl) ?_|(with_reducible first|refine DD.fltS yU yU yU yE ?_|refine DD.nil0 ?_)|fail)
      all_goals try (exfalso;omega)
      exact DS.back (HB.out (i+1) _ _ (by omega) (by omega) (by rw[HN.out];simp (disch:=omega) only[go_sem,dopV,yV0,↓reduceIte,Nat.reduceEqDiff,Nat.reduceLT,Nat.reduceLeDiff,Nat.reduceAdd,Nat.reduceMul,Nat.reduceSub,Int.reduceToNat,Int.reduceLT,Int.reduceLE,Int.reduceEq,IntWalk.toNatUp,IntWalk.iteOmega,IntWalk.i64_in,V.flat,V.one,subV_cons,subV_nil,subS_cons,subS_nil,and_self,Int.natCast_add,Int.natCast_one,Int.natCast_zero,Int.zero_add,Int.reduceAdd,List.map_append,ints,rows, *]) yS (fun b o e=>by cases e))
    ·rw[List.take_of_length_le (by omega)]
     clear HB HB0
     repeat' (first|(with_reducible first|refine DS.fltS yU yU yE ?_|refine DS.opsNil ?_|refine DS.seq ?_|refine DS.regionL ?_|(refine DS.cE yE ?_;refine CG.no ?_)|refine DS.exit yU ?_)|refine DS.pcS inferInstance (hb) yR yT ?_|refine DS.retT [] yE trivial ?_|fail)
     all_goals first|rfl|(exfalso;omega)
   ·rw[if_pos h1]
    generalize holdsGo h.patterns.length holds (-1)=r at *
    refine DC.of_run Tryz.func13 rfl Tryz.ntmps13 Tryz.results13 (by simp) (fun _ _=>?_);simp only[argV_cons,argV_nil,go_sem,Nat.zero_add,Nat.reduceAdd]
    repeat' (first|(with_reducible first|refine DS.fltS yU yU yE ?_|refine DS.opsNil ?_|refine DS.seq ?_|refine DS.regionL ?_|(refine DS.cE yE ?_;refine CG.yes ?_))|refine DS.pcS inferInstance (hk) yR yT ?_|refine DS.pcS inferInstance (hc) yR yT ?_|(refine DS.boxF (t:=3) yU yE yU ?_;simp only[cells_agg,cells_v,cells_lst,cells_fn,map_nil'',map_cons'',copy_own,copy_lst,copy_v,copy_at,copy_agg,copy_fn,copy_ifc,copy_tup])|refine DS.retT [] yE trivial ?_|fail)
    all_goals first|rfl|(exfalso;omega)
 ·rw[chooseS,if_pos h0]
  generalize houseS h=c at *
  refine DC.of_run Tryz.func13 rfl Tryz.ntmps13 Tryz.results13 (by simp) (fun _ _=>?_);simp only[argV_cons,argV_nil,go_sem,Nat.zero_add,Nat.reduceAdd]
  repeat' (first|(with_reducible first|refine DS.fltS yU yU yE ?_|refine DS.opsNil ?_|refine DS.seq ?_|refine DS.regionL ?_|(refine DS.cE yE ?_;first|refine CG.yes ?_|refine CG.no ?_)|refine DS.skip ?_)|refine DS.pcS inferInstance (hk) yR yT ?_|(refine DS.boxF (t:=3) yU yE yU ?_;simp only[cells_agg,cells_v,cells_lst,cells_fn,map_nil'',map_cons'',copy_own,copy_lst,copy_v,copy_at,copy_agg,copy_fn,copy_ifc,copy_tup])|refine DS.retT [] yE trivial ?_|fail)
  all_goals first|rfl|(exfalso;omega)
end Go.XL
namespace Go.XL
open Go.Proofs
set_option maxRecDepth 100000
set_option maxHeartbeats 8000000
theorem chunk_ints (L:List Int) (n:Nat) (h:L.length=n):chunk 1 n ((L.map I).map V.copy)=L.map cI:=by
 subst h
 rw[List.map_map]
 exact chunk1_map (V.copy∘I) L
theorem payment_main (p : PayM) (liable : Int) (hk : PC Tryz.prog 33 [p.h.val] (I 0))
    (s1 : PC Tryz.prog 50 [p.h.val, I p.dealer] (Bo true)) (s2 : PC Tryz.prog 50 [p.h.val, I p.winner] (Bo true)) (s3 : PC Tryz.prog 50 [p.h.val, I p.from_] (Bo true)) (s4 : PC Tryz.prog 50 [p.h.val, I liable] (Bo (p.h.seat liable)))
    (ok : p.Ok) (b1 : 0 ≤ p.dealer ∧ p.dealer < p.h.set.players) (b2 : 0 ≤ p.winner ∧ p.winner < p.h.set.players) (b3 : 0 ≤ p.from_ ∧ p.from_ < p.h.set.players) (b4 : liable = -1 ∨ (p.h.seat liable = true ∧ liable ≠ p.winner ∧ 0 ≤ liable ∧ liable < p.h.set.players)) :
    PC Tryz.prog 23 [p.h.val, I p.points, I p.dealer, I p.winner, I p.from_, I p.counters, I liable] (.tup [ints (outS p liable p.h.set.players.toNat), I 0]) := by
  have hpl := ok.players
  have hpt := ok.points
  have hct := ok.counters
  have Hout := outS_ok p ok liable
  have Hsum := owesS_bd p ok
  have How := fun j => owes_pc p j ok
  clear ok
  refine DC.of_run Tryz.func23 rfl Tryz.ntmps23 Tryz.results23 (by simp) (fun _ _ => ?_); simp only [argV_cons, argV_nil, go_sem, Nat.zero_add, Nat.reduceAdd]
  repeat' (first | (with_reducible first | refine DS.fltS yU yU yE ?_ | refine DS.opsNil ?_ | refine DS.seq ?_ | refine DS.regionL ?_ | (refine DS.cE yE ?_; first | refine CG.p (fun _ => ?_) (fun _ => ?_) | refine CG.yes ?_ | refine CG.no ?_) | (refine DS.gE yU yE ?_; first | refine GG.sU ?_ | refine GG.npT (fun _ => ?_) (fun _ => ?_) | refine GG.pF (fun _ => ?_) (fun _ => ?_) | refine GG.run ?_ | refine GG.sF ?_ | refine GG.sT ?_ | refine GG.nF (fun _ => ?_) (fun _ => ?_)) | refine DS.blk ?_ | refine DS.block ?_ | refine DS.skip ?_) | (refine DS.letF (t := 17) yU yE yU (fun _ => yE) yE yU (by exact ⟨by with_unfolding_all rfl, by with_unfolding_all decide⟩) (fun _ => by simp only [go_sem, Nat.reduceEqDiff, ↓reduceIte]) ?_; simp only [go_sem]) | (refine DS.letF (t := 18) yU yE yU (fun _ => yE) yE yU (by exact ⟨by with_unfolding_all rfl, by with_unfolding_all decide⟩) (fun _ => by simp only [go_sem, Nat.reduceEqDiff, ↓reduceIte]) ?_; simp only [go_sem]) | refine DS.pcS inferInstance (hk) yR yF ?_ | refine DS.pcS inferInstance (s1) yR yF ?_ | refine DS.pcS inferInstance (s2) yR yF ?_ | refine DS.pcS inferInstance (s3) yR yF ?_ | refine DS.pcS inferInstance (s4) yR yF ?_ | (refine DS.boxF (t := 7) yU yE yU ?_; simp only [cells_agg, cells_v, cells_lst, cells_fn, map_nil'', map_cons'', copy_own, copy_lst, copy_v, copy_at, copy_agg, copy_fn, copy_ifc, copy_tup]) | (refine DS.boxF (t := 10) yU yE yU ?_; simp only [cells_agg, cells_v, cells_lst, cells_fn, map_nil'', map_cons'', copy_own, copy_lst, copy_v, copy_at, copy_agg, copy_fn, copy_ifc, copy_tup]) | (refine DS.mkS yU yE yE yE yE yU yU ⟨by omega, by omega, by decide, by omega⟩ (fun _ hfr => ?_)) | refine DS.retT [] yE trivial ?_ | fail)
  all_goals try (exfalso; omega)
  rotate_left 1
  · rename_i e1 e2
    rcases b4 with b4 | b4
    · exact absurd b4 e1
    · rw [b4.1] at e2; cases e2
  all_goals
    rename_i bo
    clear hk s1 s2 s3 s4
    have hb4 : liable = -1 ∨ (liable ≠ p.winner ∧ 0 ≤ liable ∧ liable < p.h.set.players) := by omega
    clear b4
    have hz : List.replicate p.h.set.players.toNat (V.v (Value.int IntKind.i64 0)) = (outS p liable 0).map I := by simp [outS]
    rw [hz]
    clear hz
    refine DS.loopS [4, 6, 10, 17, 18, 19, 86] yN (fun (k : Nat) => [(87, I k)]) (fun (k : Nat) => [(bo, .cells ((outS p liable k).map I) 3)]) (fun (k : Nat) => k ≤ p.h.set.players.toNat) (fun (k : Nat) => p.h.set.players.toNat - k) 0 yS (fun b o e => by exact e) (Nat.zero_le _) (fun k B hI hB => ?_); try dsimp only at hI hB; simp only [app_cons', app_nil']
    obtain ⟨Hl, Hx⟩ := Hout k
    have hsum := Hsum k
    have Hl2 := Hl
    have how := How k
    have Hx1 : ∀ x ∈ outS p liable k, -1000000000000 ≤ x ∧ x ≤ 1000000000000 := fun x hx => by have := Hx x hx; omega
    have Hx2 : ∀ (j w : Nat) (n : Int), 0 ≤ n ∧ n ≤ 1000000000 → ∀ x ∈ payL (outS p liable k) j w n, -1000000000000 ≤ x ∧ x ≤ 1000000000000 := fun j w n hn x hx => by
      have := payL_in Hx hn (by omega) x hx; omega
    have hw := Int.toNat_of_nonneg b2.1
    have hwl : p.winner.toNat < p.h.set.players.toNat := by omega
    have D1 : ∀ (j : Nat) (n : Int), j < p.h.set.players.toNat → 0 ≤ n ∧ n ≤ 1000000000 → _ := fun j n hj hn => payC_dc bo (outS p liable k) j p.winner.toNat n (by rw [Hl]; exact hj) (by rw [Hl]; exact hwl) hn Hx1 (by omega)
    have D2 : ∀ (j j2 : Nat) (n n2 : Int), j < p.h.set.players.toNat → j2 < p.h.set.players.toNat → 0 ≤ n ∧ n ≤ 1000000000 → 0 ≤ n2 ∧ n2 ≤ 1000000000 → _ := fun j j2 n n2 hj hj2 hn hn2 => payC_dc bo (payL (outS p liable k) j2 p.winner.toNat n2) j p.winner.toNat n (by rw [payL_len, Hl]; exact hj) (by rw [payL_len, Hl]; exact hwl) hn (Hx2 _ _ _ hn2) (by rw [payL_len]; omega)
    simp only [payL_len, Hl, hw] at D1 D2
    have hout := outS.eq_2 p liable k
    have hT : (owesS p.h p.points p.dealer p.winner p.from_ p.counters k).tdiv 2 = owesS p.h p.points p.dealer p.winner p.from_ p.counters k / 2 := Int.tdiv_eq_ediv_of_nonneg hsum.1
    generalize hN : owesS p.h p.points p.dealer p.winner p.from_ p.counters k = N at *
    clear hN
    have H := Box.mk (And.intro D1 D2)
    have HO := Box.mk hout
    have HB := Box.mk hB
    clear hB Hl Hx Hx1 Hx2 Hsum How Hout D1 D2 hout
    repeat' (first | (with_reducible first | refine DS.fltS yU yU yE ?_ | refine DS.opsNil ?_ | refine DS.seq ?_ | refine DS.regionL ?_ | (refine DS.cE yE ?_; first | refine CG.np (fun _ => ?_) (fun _ => ?_) | refine CG.p (fun _ => ?_) (fun _ => ?_) | refine CG.no ?_) | (refine DS.gE yU yE ?_; first | refine GG.pT (fun _ => ?_) (fun _ => ?_) | refine GG.run ?_ | refine GG.sF ?_) | refine DS.block ?_ | refine DS.exit yU ?_ | refine DS.skip ?_) | refine DS.pcS inferInstance (how) yR yT ?_ | fail)
    all_goals first
      | (exfalso; omega)
      | refine DS.back (HB.out (k + 1) _ _ (by omega) (by omega) yS yS (fun b o e => by rw [HO.out, if_pos (by omega)] at e; exact e))
      | (have D := H.out.1 k N (by omega) hsum
         try rw [show ((k : Nat) : Int) = p.from_ by omega] at D
         refine DS.callVA inferInstance yH D (by decide) yH (fun u S' hu => ?_)
         obtain ⟨rfl, rfl⟩ := hu
         repeat' (first | (with_reducible first | refine DS.fltS yU yU yE ?_ | refine DS.opsNil ?_ | refine DS.regionL ?_ | refine DS.blk ?_) | fail)
         exact DS.back (HB.out (k + 1) _ _ (by omega) (by omega) yS yS (fun b o e => by rw [HO.out, if_neg (by omega), if_neg (by omega), if_neg (by omega)] at e; exact e)))
      | (have D := H.out.1 liable.toNat N (by omega) hsum
         rw [Int.toNat_of_nonneg (by omega)] at D
         refine DS.callVA inferInstance yH D (by decide) yH (fun u S' hu => ?_)
         obtain ⟨rfl, rfl⟩ := hu
         repeat' (first | (with_reducible first | refine DS.fltS yU yU yE ?_ | refine DS.opsNil ?_ | refine DS.regionL ?_ | refine DS.blk ?_) | fail)
         exact DS.back (HB.out (k + 1) _ _ (by omega) (by omega) yS yS (fun b o e => by rw [HO.out, if_neg (by omega), if_pos (by omega)] at e; exact e)))
      | (have D := H.out.1 liable.toNat (N - N / 2) (by omega) (by omega)
         rw [Int.toNat_of_nonneg (by omega)] at D
         refine DS.callVA inferInstance yH D (by decide) (by (simp (disch := omega) only [go_sem, dopV, yV0, ↓reduceIte, Nat.reduceEqDiff, Nat.reduceLT, Nat.reduceLeDiff, Nat.reduceAdd, Nat.reduceMul, Nat.reduceSub, Int.reduceToNat, Int.reduceLT, Int.reduceLE, Int.reduceEq, IntWalk.toNatUp, IntWalk.iteOmega, IntWalk.i64_in, V.flat, V.one, hT]; try exact rfl)) (fun u S' hu => ?_)
         obtain ⟨rfl, rfl⟩ := hu
         have D3 := H.out.2 k liable.toNat (N / 2) (N - N / 2) (by omega) (by omega) (by omega) (by omega)
         rw [show ((k : Nat) : Int) = p.from_ by omega] at D3
         repeat' (first | (with_reducible first | refine DS.fltS yU yU yE ?_ | refine DS.opsNil ?_ | refine DS.regionL ?_) | fail)
         refine DS.callVA inferInstance yH D3 (by decide) yH (fun u S' hu => ?_)
         obtain ⟨rfl, rfl⟩ := hu
         repeat' (first | (with_reducible first | refine DS.fltS yU yU yE ?_ | refine DS.opsNil ?_ | refine DS.regionL ?_ | refine DS.blk ?_) | fail)
         exact DS.back (HB.out (k + 1) _ _ (by omega) (by omega) yS yS (fun b o e => by rw [HO.out, if_neg (by omega), if_neg (by omega), if_pos (by omega)] at e; exact e)))
      | (have hk : k = p.h.set.players.toNat := by omega
         subst hk
         refine DS.freeze (t := 14) (b := bo) (sz := 1) (l := (outS p liable p.h.set.players.toNat).map I) (T := 3) yR (by simp only [lookS_cons, ↓reduceIte]) (by simp [Hl2]) ⟨Nat.le_refl _, by simp only [maxLen]; omega⟩ ?_
         refine DS.retA yG ?_
         rw [chunk_ints _ _ Hl2]
         rfl)
theorem payment_pc (h:House) (hc:h.CondsPC) (points dealer winner from_ counters liable:Int) :
  PC Tryz.prog 23 [h.val,I points,I dealer,I winner,I from_,I counters,I liable] (.tup [ints (payX2 h points dealer winner from_ counters liable).1,I (payX2 h points dealer winner from_ counters liable).2]):=by
 have hk:=house_pc h hc
 by_cases h0:houseS h=0
 ·rw[h0]at hk
  have s1:=seat_pc h dealer
  have s2:=seat_pc h winner
  have s3:=seat_pc h from_
  have s4:=seat_pc h liable
  have ex:payX2 h points dealer winner from_ counters liable=if points<0∨points > 1000000∨counters<0∨counters > 100 then([],2)else
   if(h.seat dealer&&h.seat winner&&h.seat from_)=false then([],2)else
   if liable ≠ -1∧(h.seat liable=false∨liable=winner)then([],2)else
   (outS ⟨h,points,dealer,winner,from_,counters⟩ liable h.set.players.toNat,0):=by rw[payX2,if_neg (by omega)]
  rw[ex]
  clear ex
  by_cases g1:points<0∨points > 1000000∨counters<0∨counters > 100
  ·rw[if_pos g1]
   refine DC.of_run Tryz.func23 rfl Tryz.ntmps23 Tryz.results23 (by simp) (fun _ _=>?_);simp only[argV_cons,argV_nil,go_sem,Nat.zero_add,Nat.reduceAdd]
   repeat' (first|(with_reducible first|refine DS.fltS yU yU yE ?_|refine DS.opsNil ?_|refine DS.seq ?_|refine DS.regionL ?_|(refine DS.cE yE ?_;first|refine CG.p (fun _=>?_) (fun _=>?_)|refine CG.yes ?_|refine CG.no ?_)|(refine DS.gE yU yE ?_;first|refine GG.pF (fun _=>?_) (fun _=>?_)|refine GG.run ?_|refine GG.sT ?_)|refine DS.block ?_|refine DS.skip ?_)|refine DS.pcS inferInstance (hk) yR yF ?_|(refine DS.boxF (t:=7) yU yE yU ?_;simp only[cells_agg,cells_v,cells_lst,cells_fn,map_nil'',map_cons'',copy_own,copy_lst,copy_v,copy_at,copy_agg,copy_fn,copy_ifc,copy_tup])|(refine DS.boxF (t:=10) yU yE yU ?_;simp only[cells_agg,cells_v,cells_lst,cells_fn,map_nil'',map_cons'',copy_own,copy_lst,copy_v,copy_at,copy_agg,copy_fn,copy_ifc,copy_tup])|refine DS.retT [] yE trivial ?_|fail)
   all_goals first|rfl|(exfalso;omega)
  rw[if_neg g1]
  by_cases g2:(h.seat dealer&&h.seat winner&&h.seat from_)=false
  ·rw[if_pos g2]
   refine DC.of_run Tryz.func23 rfl Tryz.ntmps23 Tryz.results23 (by simp) (fun _ _=>?_);simp only[argV_cons,argV_nil,go_sem,Nat.zero_add,Nat.reduceAdd]
   repeat' (first|(with_reducible first|refine DS.fltS yU yU yE ?_|refine DS.opsNil ?_|refine DS.seq ?_|refine DS.regionL ?_|(refine DS.cE yE ?_;first|refine CG.p (fun _=>?_) (fun _=>?_)|refine CG.yes ?_|refine CG.no ?_|refine CG.nb (fun _=>?_) (fun _=>?_))|(refine DS.gE yU yE ?_;first|refine GG.sU ?_|refine GG.npT (fun _=>?_) (fun _=>?_)|refine GG.pF (fun _=>?_) (fun _=>?_)|refine GG.run ?_|refine GG.sF ?_|refine GG.sT ?_|refine GG.nF (fun _=>?_) (fun _=>?_))|refine DS.blk ?_|refine DS.block ?_|refine DS.skip ?_)|(refine DS.letF (t:=17) yU yE yU (fun _=>yE) yE yU (by exact⟨by with_unfolding_all rfl,by with_unfolding_all decide⟩) (fun _=>by simp only[go_sem,Nat.reduceEqDiff,↓reduceIte]) ?_;simp only[go_sem])|refine DS.pcS inferInstance (hk) yR yF ?_|refine DS.pcS inferInstance (s1) yR yF ?_|refine DS.pcS inferInstance (s2) yR yF ?_|refine DS.pcS inferInstance (s3) yR yF ?_|refine DS.pcS inferInstance (s4) yR yF ?_|(refine DS.boxF (t:=7) yU yE yU ?_;simp only[cells_agg,cells_v,cells_lst,cells_fn,map_nil'',map_cons'',copy_own,copy_lst,copy_v,copy_at,copy_agg,copy_fn,copy_ifc,copy_tup])|(refine DS.boxF (t:=10) yU yE yU ?_;simp only[cells_agg,cells_v,cells_lst,cells_fn,map_nil'',map_cons'',copy_own,copy_lst,copy_v,copy_at,copy_agg,copy_fn,copy_ifc,copy_tup])|refine DS.retT [] yE trivial ?_|fail)
   all_goals first|rfl|(exfalso;omega)|(exfalso;simp_all;done)|trace_state
  rw[if_neg g2]
  simp only[Bool.not_eq_false,Bool.and_eq_true]at g2
  rw[g2.1.1]at s1
  rw[g2.1.2]at s2
  rw[g2.2]at s3
  by_cases g3:liable ≠ -1∧(h.seat liable=false∨liable=winner)
  ·rw[if_pos g3]
   refine DC.of_run Tryz.func23 rfl Tryz.ntmps23 Tryz.results23 (by simp) (fun _ _=>?_);simp only[argV_cons,argV_nil,go_sem,Nat.zero_add,Nat.reduceAdd]
   repeat' (first|(with_reducible first|refine DS.fltS yU yU yE ?_|refine DS.opsNil ?_|refine DS.seq ?_|refine DS.regionL ?_|(refine DS.cE yE ?_;first|refine CG.p (fun _=>?_) (fun _=>?_)|refine CG.yes ?_|refine CG.no ?_)|(refine DS.gE yU yE ?_;first|refine GG.pF (fun _=>?_) (fun _=>?_)|refine GG.run ?_|refine GG.sT ?_|refine GG.nF (fun _=>?_) (fun _=>?_))|refine DS.blk ?_|refine DS.block ?_|refine DS.skip ?_)|(refine DS.letF (t:=17) yU yE yU (fun _=>yE) yE yU (by exact⟨by with_unfolding_all rfl,by with_unfolding_all decide⟩) (fun _=>by simp only[go_sem,Nat.reduceEqDiff,↓reduceIte]) ?_;simp only[go_sem])|refine DS.pcS inferInstance (hk) yR yF ?_|refine DS.pcS inferInstance (s1) yR yF ?_|refine DS.pcS inferInstance (s2) yR yF ?_|refine DS.pcS inferInstance (s3) yR yF ?_|refine DS.pcS inferInstance (s4) yR yF ?_|(refine DS.boxF (t:=7) yU yE yU ?_;simp only[cells_agg,cells_v,cells_lst,cells_fn,map_nil'',map_cons'',copy_own,copy_lst,copy_v,copy_at,copy_agg,copy_fn,copy_ifc,copy_tup])|(refine DS.boxF (t:=10) yU yE yU ?_;simp only[cells_agg,cells_v,cells_lst,cells_fn,map_nil'',map_cons'',copy_own,copy_lst,copy_v,copy_at,copy_agg,copy_fn,copy_ifc,copy_tup])|refine DS.retT [] yE trivial ?_|fail)
   all_goals first|rfl|(exfalso;omega)|(exfalso;simp_all;done)|trace_state
  rw[if_neg g3]
  have ok:PayM.Ok ⟨h,points,dealer,winner,from_,counters⟩:=payM_ok h0 g1
  refine payment_main ⟨h,points,dealer,winner,from_,counters⟩ liable hk s1 s2 s3 s4 ok ?_ ?_ ?_ ?_
  ·simpa [House.seat] using g2.1.1
  ·simpa [House.seat] using g2.1.2
  ·simpa [House.seat] using g2.2
  ·by_cases hl:liable = -1
   ·exact .inl hl
   ·have h1:h.seat liable=true:=by
     cases hs:h.seat liable with
     | true=>rfl
     | false=>exact absurd ⟨hl, .inl hs⟩ g3
    have h2:liable≠winner:=fun e=>g3 ⟨hl, .inr e⟩
    have h3:0≤liable∧liable<h.set.players:=by simpa [House.seat] using h1
    exact .inr ⟨h1,h2,h3.1,h3.2⟩
 ·rw[payX2,if_pos h0]
  refine DC.of_run Tryz.func23 rfl Tryz.ntmps23 Tryz.results23 (by simp) (fun _ _=>?_);simp only[argV_cons,argV_nil,go_sem,Nat.zero_add,Nat.reduceAdd]
  repeat' (first|(with_reducible first|refine DS.fltS yU yU yE ?_|refine DS.opsNil ?_|refine DS.seq ?_|refine DS.regionL ?_|(refine DS.cE yE ?_;refine CG.yes ?_))|refine DS.pcS inferInstance (hk) yR yT ?_|(refine DS.boxF (t:=7) yU yE yU ?_;simp only[cells_agg,cells_v,cells_lst,cells_fn,map_nil'',map_cons'',copy_own,copy_lst,copy_v,copy_at,copy_agg,copy_fn,copy_ifc,copy_tup])|(refine DS.boxF (t:=10) yU yE yU ?_;simp only[cells_agg,cells_v,cells_lst,cells_fn,map_nil'',map_cons'',copy_own,copy_lst,copy_v,copy_at,copy_agg,copy_fn,copy_ifc,copy_tup])|refine DS.retT [] yE trivial ?_|fail)
  all_goals first|rfl|(exfalso;omega)
end Go.XL
namespace Go.XL
open Go.Proofs
set_option maxRecDepth 100000
set_option maxHeartbeats 8000000
theorem conds (h:House):h.CondsPC:=⟨cond_pc _ _,fun i hi=>cond_pc _ _⟩
theorem worth_pc (p:Pattern) (o:Bool):PC Tryz.prog 34 [p.val,Bo o] (I (worthS p o)):=by
 refine DC.of_run Tryz.func34 rfl Tryz.ntmps34 Tryz.results34 (by simp) (fun _ _=>?_);simp only[argV_cons,argV_nil,go_sem,Nat.zero_add,Nat.reduceAdd]
 repeat' (first|(with_reducible first|refine DS.fltS yU yU yE ?_|refine DS.opsNil ?_|refine DS.seq ?_|refine DS.regionL ?_|(refine DS.cE yE ?_;refine CG.b (fun _=>?_) (fun _=>?_))|refine DS.skip ?_)|(refine DS.boxF (t:=2) yU yE yU ?_;simp only[cells_agg,cells_v,cells_lst,cells_fn,map_nil'',map_cons'',copy_own,copy_lst,copy_v,copy_at,copy_agg,copy_fn,copy_ifc,copy_tup])|refine DS.retT [] yE trivial ?_|fail)
 all_goals (simp only[tupV,worthS];simp[*])
theorem DS.fnRaw {P:Program} {n:Nat} {r:Rr} {Q:VEnv→Sto→Prop} {k:List Fr} {E:VEnv} {S:Sto} {t:Nat} {f:FuncId} {cs:List Value} (hE:lookV E t=some (.fn f [] (cs.map V.v))) (q:DS P n r Q k ((t, .v (.func (.func f) #[] cs.toArray))::E) S):DS P n r Q k E S:=by
 intro K W a w ⟨K',D,hv,hold,env,hb,ha,s⟩ hw
 refine q K W a w ⟨K',D,hv,hold,env,hb,ha,⟨s.pre,fun u v e=>?_,s.obj,s.held,s.base,s.vbase⟩⟩ hw
 simp only[lookV]at e
 by_cases hu:t=u
 ·subst hu
  simp only[if_true,Option.some.injEq]at e;subst e
  obtain⟨y,e1,e2,_⟩:=s.slot t _ hE
  simp only[V.Rl]at e2
  obtain⟨xs,ys,rfl,h1,h2⟩:=e2
  have key: ∀(l:List Value) (ys:List Value),RlL hv (l.map V.v) ys→ys=l:=by
   intro l
   induction l with
   | nil=>intro ys h;simpa [RlL] using h
   | cons a l ih =>
    intro ys h
    simp only[List.map_cons,RlL,V.Rl]at h
    obtain⟨z,zs,rfl,rfl,h3⟩:=h
    rw[ih _ h3]
  have hx:xs= []:=by simpa [RlL] using h1
  rw[key _ _ h2,hx]at e1
  exact⟨_,e1,by simp only[V.Rl],trivial⟩
 ·rw[if_neg hu]at e;exact s.slot u v e
theorem look_none {d b:Nat} {o:Ob} {r:Sto} (h:lookS ((d,o)::r) b=none): ¬d=b∧lookS r b=none:=by
 simp only[lookS]at h
 by_cases e:d=b
 ·rw[if_pos e]at h;cases h
 ·rw[if_neg e]at h;exact⟨e,h⟩
def tailH (id:Nat):Code→Option Code
 | .seq a b=>if(match a with | .region i _ _=>i == id|_=>false)then some b else match tailH id a with|some x=>some x|none=>tailH id b
 | .cond _ a b=>match tailH id a with|some x=>some x|none=>tailH id b
 | .block _ c=>tailH id c
 | .loop c=>tailH id c
 | .scope c=>tailH id c
 | _=>none
theorem choose_tail (h:House) (L:List Int) (hok:PatsOk h) (hLl:L.length=h.patterns.length) (hLb: ∀v∈L,0≤v∧v≤1000000) (b11 bv bc b14 bm b15 b16:Nat) (d1: ¬b11=bc) (d2: ¬bv=bc) (d3: ¬bc=b14) (d4: ¬b11=b14) (d5: ¬bv=b14) (d6: ¬b14=bm) (d7: ¬bc=bm) (d8: ¬b11=bm) (d9: ¬bv=bm) (d10: ¬bm=b15) (d11: ¬b14=b15) (d12: ¬bc=b15) (d13: ¬b11=b15) (d14: ¬bv=b15) (d15: ¬b15=b16) (d16: ¬bm=b16) (d17: ¬b14=b16) (d18: ¬bc=b16) (d19: ¬b11=b16) (d20: ¬bv=b16) (d21: ¬b11=bv)
  {v0:VH} {hk:Kn v0} {cd:Code} (h3:Tryz.f12.body.bind (tailH 20)=some cd) :
  DS Tryz.prog 118 ⟨none,v0,hk⟩ (FinV Tryz.prog [.tmp 6, .tmp 7, .tmp 8] fun u _=>u = .tup [ints ((bitsM (bestH h L).2).map natI),I (bestH h L).1,I 0]) [.code cd]
   [(6, .own false 3 1 []),(11, .v (ptrV b11)),(14, .v (ptrV b14)),(15, .v (ptrV b15)),(16, .v (ptrV b16))] [(b11, .cells [.v (.slice (some ⟨bv,0,none⟩) h.patterns.length h.patterns.length)] 22),(bv, .cells (L.map I) 3),(b15, .cells [.v (.map (some bm))] 84),(bm, .raw (.map #[] 0)),(b14, .cells [.v (.slice (some ⟨bc,0,none⟩) h.patterns.length h.patterns.length)] 82),(bc, .cells (((List.range h.patterns.length).map (clM h)).map UN) 86),(b16, .cells [.v .nilFunc] 85)]:=by
 have hm:=hok.many
 obtain rfl:=Option.some.inj ((show Tryz.f12.body.bind (tailH 20)=some _ from rfl).symm.trans h3)
 clear h3
 have s1:=fun e=>d1 (Eq.symm e)
 have s2:=fun e=>d2 (Eq.symm e)
 have s3:=fun e=>d3 (Eq.symm e)
 have s4:=fun e=>d4 (Eq.symm e)
 have s5:=fun e=>d5 (Eq.symm e)
 have s6:=fun e=>d6 (Eq.symm e)
 have s7:=fun e=>d7 (Eq.symm e)
 have s8:=fun e=>d8 (Eq.symm e)
 have s9:=fun e=>d9 (Eq.symm e)
 have s10:=fun e=>d10 (Eq.symm e)
 have s11:=fun e=>d11 (Eq.symm e)
 have s12:=fun e=>d12 (Eq.symm e)
 have s13:=fun e=>d13 (Eq.symm e)
 have s14:=fun e=>d14 (Eq.symm e)
 have s15:=fun e=>d15 (Eq.symm e)
 have s16:=fun e=>d16 (Eq.symm e)
 have s17:=fun e=>d17 (Eq.symm e)
 have s18:=fun e=>d18 (Eq.symm e)
 have s19:=fun e=>d19 (Eq.symm e)
 have s20:=fun e=>d20 (Eq.symm e)
 have s21:=fun e=>d21 (Eq.symm e)
 refine DS.seq ?_
 refine DS.regionL ?_
 refine DS.fltS yR yR yG ?_
 refine DS.fnRaw (t:=84) (cs:=capsC b15 b16 b14 b11) yR ?_
 repeat' (first|(with_reducible first|refine DS.fltS yU yU yE ?_|refine DS.opsNil ?_|refine DS.seq ?_|refine DS.regionL ?_|refine DS.block ?_)|(refine DS.store yR yE yE yE yE yU (by exact⟨by with_unfolding_all rfl,by(try simp only[List.length_map,List.length_append,List.length_set,List.length_replicate,List.length_cons,List.length_nil]);omega⟩) ?_;simp only[putV_none,setAll_cons,setAll_nil,scells_v,scells_own,scells_lst,scells_agg];try simp only[strip_tmp,strip_const,lookV_cons,Nat.reduceEqDiff,↓reduceIte,stripO_own,stripO_lst,stripO_v,stripO_plc,stripO_agg,stripO_fn,stripO_ifc])|fail)
 refine DS.reS (S':= [(b11, .cells [.v (.slice (some ⟨bv,0,none⟩) h.patterns.length h.patterns.length)] 22),(bv, .cells (L.map I) 3),(b15, .cells [.v (.map (some bm))] 84),(bm, .raw (.map #[] 0)),(b14, .cells [.v (.slice (some ⟨bc,0,none⟩) h.patterns.length h.patterns.length)] 82),(bc, .cells (((List.range h.patterns.length).map (clM h)).map UN) 86),(b16, .cells [.v (Value.func (.func 36) #[] (capsC b15 b16 b14 b11).toArray)] 85)]) (fun b o e=>by simp only[setS,↓reduceIte,if_neg d15,if_neg d16,if_neg d17,if_neg d18,if_neg d19,if_neg d20];exact e) ?_
 have hall0:(0:Int)=((allK L 0:Nat):Int):=rfl
 refine DS.loopK [6,16,85,86] yN (fun(k:Nat)=> [(17,UN (allK L k)),(87,I k)]) (fun(k:Nat)=>k≤h.patterns.length) (fun(k:Nat)=>h.patterns.length-k) 0 yS (Nat.zero_le _) (fun k B hI hB=>?_);try dsimp only at hI hB;simp only[app_cons',app_nil']
 have hmk:=Nat.lt_of_lt_of_le (allK_lt L k) (show 2 ^ k≤2 ^ 64 from Nat.pow_le_pow_right (by omega) (by omega))
 clear hall0
 by_cases hkn:k<h.patterns.length
 ·have hkn':(k:Int)<(h.patterns.length:Int):=by omega
  have hkL:k<L.length:=by omega
  have hgd:L.getD k 0=L[k]:=by rw[List.getD_eq_getElem?_getD,List.getElem?_eq_getElem hkL];rfl
  by_cases hpos:0<L[k]
  ·have hnx:allK L (k+1)=allK L k ||| 2 ^ k:=by rw[allK,hgd,if_pos hpos]
   have s1:bop Tryz.prog .shl 86 (.int .u64 1) (.int .i64 (k:Int))=some (.int .u64 ((2 ^ k:Nat):Int)):=bop_shlU (by omega)
   have o1:bop Tryz.prog .or 86 (.int .u64 (allK L k:Nat)) (.int .u64 ((2 ^ k:Nat):Int))=some (.int .u64 ((allK L k ||| 2 ^ k:Nat):Int)):=bop_orU (by simpa using hmk) (show _<2 ^ 64 from Nat.pow_lt_pow_right (by omega) (by omega))
   have HN:=Box.mk hnx
   clear hgd hnx
   repeat' (first|(with_reducible first|refine DS.fltS yU yU yE ?_|refine DS.opsNil ?_|refine DS.seq ?_|refine DS.regionL ?_|(refine DS.cE yE ?_;refine CG.yes ?_)|refine DS.blk ?_|refine DS.block ?_|refine DS.skip ?_)|fail)
   exact DS.back (hB (k+1) _ _ (by omega) (by omega) (by rw[HN.out];simp (disch:=omega) only[go_sem,dopV,yV0,↓reduceIte,Nat.reduceEqDiff,Nat.reduceLT,Nat.reduceLeDiff,Nat.reduceAdd,Nat.reduceMul,Nat.reduceSub,Int.reduceToNat,Int.reduceLT,Int.reduceLE,Int.reduceEq,IntWalk.toNatUp,IntWalk.iteOmega,IntWalk.i64_in,V.flat,V.one,subV_cons,subV_nil,subS_cons,subS_nil,and_self,Int.natCast_add,Int.natCast_one,Int.natCast_zero,Int.zero_add,Int.reduceAdd,List.map_append,ints,rows, *]) yS (fun b o e=>by exact e))
  ·have hnx:allK L (k+1)=allK L k:=by rw[allK,hgd,if_neg hpos]
   have HN:=Box.mk hnx
   clear hgd hnx
   repeat' (first|(with_reducible first|refine DS.fltS yU yU yE ?_|refine DS.opsNil ?_|refine DS.seq ?_|refine DS.regionL ?_|(refine DS.cE yE ?_;first|refine CG.yes ?_|refine CG.no ?_)|refine DS.blk ?_|refine DS.block ?_|refine DS.skip ?_)|fail)
   exact DS.back (hB (k+1) _ _ (by omega) (by omega) (by rw[HN.out];simp (disch:=omega) only[go_sem,dopV,yV0,↓reduceIte,Nat.reduceEqDiff,Nat.reduceLT,Nat.reduceLeDiff,Nat.reduceAdd,Nat.reduceMul,Nat.reduceSub,Int.reduceToNat,Int.reduceLT,Int.reduceLE,Int.reduceEq,IntWalk.toNatUp,IntWalk.iteOmega,IntWalk.i64_in,V.flat,V.one,subV_cons,subV_nil,subS_cons,subS_nil,and_self,Int.natCast_add,Int.natCast_one,Int.natCast_zero,Int.zero_add,Int.reduceAdd,List.map_append,ints,rows, *]) yS (fun b o e=>by exact e))
 ·have hkn': ¬(k:Int)<(h.patterns.length:Int):=by omega
  have hke:k=h.patterns.length:=by omega
  have hal:allK L k=allK L h.patterns.length:=by rw[hke]
  clear hB hke
  repeat' (first|(with_reducible first|refine DS.fltS yU yU yE ?_|refine DS.opsNil ?_|refine DS.seq ?_|refine DS.regionL ?_|(refine DS.cE yE ?_;refine CG.no ?_)|refine DS.exit yU ?_)|fail)
  have hlt:allK L h.patterns.length<2 ^ h.patterns.length:=allK_lt L _
  have hfl:Fl (VHs [(b15,[.map (some bm)],84),(b16,[Value.func (.func 36) #[] (capsC b15 b16 b14 b11).toArray],85),(b14,[.slice (some ⟨bc,0,none⟩) h.patterns.length h.patterns.length],82),(bc,((List.range h.patterns.length).map (clM h)).map (fun m=>Value.int .u64 (m:Nat)),86),(b11,[.slice (some ⟨bv,0,none⟩) h.patterns.length h.patterns.length],22),(bv,L.map (fun x=>Value.int .i64 x),3)]) b15 b16 b14 b11 bm bc bv h.patterns.length (clM h) (fun i=>L.getD i 0):=by
   refine⟨?_,?_,?_,fun i hi=>?_,?_,fun i hi=>?_⟩
   ·simp only[cellV,VHs,↓reduceIte];rfl
   ·simp only[cellV,VHs,if_neg s15,↓reduceIte];rfl
   ·simp only[cellV,VHs,if_neg d11,if_neg d17,↓reduceIte];rfl
   ·simp only[cellV,VHs,if_neg d12,if_neg d18,if_neg d3,↓reduceIte]
    simp[hi]
   ·simp only[cellV,VHs,if_neg d13,if_neg d19,if_neg d4,if_neg d1,↓reduceIte];rfl
   ·simp only[cellV,VHs,if_neg d14,if_neg d20,if_neg d5,if_neg d2,if_neg s21,↓reduceIte]
    simp[hLl,hi]
  have hvs: ∀i,0≤L.getD i 0∧L.getD i 0≤1000000:=fun i=>by
   rw[List.getD_eq_getElem?_getD]
   cases e:L[i]? with
   | none=>exact⟨Int.le_refl _,by decide⟩
   | some v=>exact hLb v (List.mem_of_getElem? e)
  have hgo:=go1_dc hfl hm (fun i=>by simpa using clM_lt h i) hvs (allK L h.patterns.length+1) (allK L h.patterns.length) (by omega) hlt [(bm, .raw (.map #[] 0))] ⟨_,_,_,by rw[lookS_cons,if_pos rfl],MapIs.empty _ _,fun k hk v hv=>by cases hv⟩
  refine DS.callF (args:= [UN (allK L h.patterns.length)]) [(b15,[.map (some bm)],84),(b16,[Value.func (.func 36) #[] (capsC b15 b16 b14 b11).toArray],85),(b14,[.slice (some ⟨bc,0,none⟩) h.patterns.length h.patterns.length],82),(bc,((List.range h.patterns.length).map (clM h)).map (fun m=>Value.int .u64 (m:Nat)),86),(b11,[.slice (some ⟨bv,0,none⟩) h.patterns.length h.patterns.length],22),(bv,L.map (fun x=>Value.int .i64 x),3)] ?_ ?_ inferInstance yH (by(simp (disch:=omega) only[go_sem,dopV,yV0,↓reduceIte,Nat.reduceEqDiff,Nat.reduceLT,Nat.reduceLeDiff,Nat.reduceAdd,Nat.reduceMul,Nat.reduceSub,Int.reduceToNat,Int.reduceLT,Int.reduceLE,Int.reduceEq,IntWalk.toNatUp,IntWalk.iteOmega,IntWalk.i64_in,V.flat,V.one,hal];try exact rfl)) hgo ?_ (by decide) (fun u S' hu=>?_)
  ·simp[*]
   exact⟨⟨s11,s12,s13,s14⟩,⟨s17,s18,s19,s20⟩,⟨s3,s4,s5⟩,s1,s2⟩
  ·intro x hx
   simp only[List.mem_cons,List.not_mem_nil,or_false]at hx
   rcases hx with rfl|rfl|rfl|rfl|rfl|rfl
   ·simp only[lookS_cons,if_neg d13,if_neg d14,↓reduceIte];rfl
   ·simp only[lookS_cons,if_neg d19,if_neg d20,if_neg d15,if_neg d16,if_neg d17,if_neg d18,↓reduceIte];rfl
   ·simp only[lookS_cons,if_neg d4,if_neg d5,if_neg s11,if_neg s6,↓reduceIte];rfl
   ·simp only[lookS_cons,if_neg d1,if_neg d2,if_neg s12,if_neg s7,if_neg s3,↓reduceIte,List.map_map];rfl
   ·simp only[lookS_cons,↓reduceIte];rfl
   ·simp only[lookS_cons,if_neg d21,↓reduceIte,List.map_map];rfl
  ·intro b o e
   simp only[delSs,delS,↓reduceIte,if_neg d13,if_neg d14,if_neg d10,if_neg d11,if_neg d12,if_neg s15,if_neg d19,if_neg d20,if_neg d16,if_neg d17,if_neg d18,if_neg d4,if_neg d5,if_neg s6,if_neg d3,if_neg d1,if_neg d2,if_neg s7,if_neg s8,if_neg s21,if_neg s9]
   exact e
  obtain⟨rfl,-⟩:=hu
  rw[show bestM (fun i k=>(clM h i).testBit k) (fun i=>L.getD i 0) (allK L h.patterns.length)=bestH h L from rfl]
  have hb64:(bestH h L).2<18446744073709551616:=mask_lt _ fun j hj=>(bits_lt _ j ((bestL_sub _ _ _ _ (Nat.le_refl _)).subset hj)).1
  generalize bestH h L=bx at *
  clear hgo hfl hvs hlt hal
  repeat' (first|(with_reducible first|refine DS.fltS yU yU yE ?_|refine DS.opsNil ?_|refine DS.seq ?_|refine DS.regionL ?_|refine DS.block ?_)|(refine DS.letF (t:=20) yU yE yU (fun _=>yE) yE yU (by exact⟨by with_unfolding_all rfl,by with_unfolding_all decide⟩) (fun _=>by simp only[go_sem,Nat.reduceEqDiff,↓reduceIte]) ?_;simp only[go_sem])|fail)
  refine DS.loopK [20] yN (fun(y:List Nat×Nat)=> [(6, .own false 3 1 ((y.1.map natI).map cI)),(21,UN y.2)]) (fun(y:List Nat×Nat)=>y.2<18446744073709551616∧bitsM bx.2=y.1++bitsM y.2) (fun(y:List Nat×Nat)=>y.2) ([],bx.2) yS ⟨hb64,rfl⟩ (fun y B hI hB=>?_);try dsimp only at hI hB;simp only[app_cons',app_nil']
  obtain⟨acc,s⟩:=y
  dsimp only at hI hB
  obtain⟨i1,i2⟩:=hI
  have hlen:acc.length≤64:=by
   have h1:(bitsM bx.2).length≤64:=by
    have:=List.length_filter_le (fun i=>bx.2.testBit i) (List.range 64)
    simpa [bitsM] using this
   rw[i2,List.length_append]at h1;omega
  by_cases hs0:s=0
  ·have hs0':(s:Int)=0:=by omega
   rw[hs0,bits_zero,List.append_nil]at i2
   rw[i2]
   clear i2 hB hs0
   repeat' (first|(with_reducible first|refine DS.fltS yU yU yE ?_|refine DS.opsNil ?_|refine DS.seq ?_|refine DS.regionL ?_|(refine DS.cE yE ?_;refine CG.no ?_)|refine DS.exit yU ?_)|refine DS.drawL (id:=34) [0,1,2,3] 4 (by kernel_rfl) mixed (by simp only[pickL_cons,pickL_nil,get_zero',get_cons',pickO_some];exact rfl) (by simp only[drop_zero',drop_cons',List.drop_nil];exact rfl) ?_|(with_reducible refine DD.mvS (t:=6) yU yO yE ?_;simp only[strip_tmp,strip_const,lookV_cons,Nat.reduceEqDiff,↓reduceIte,stripO_own,stripO_lst,stripO_v,stripO_plc,stripO_agg,stripO_fn,stripO_ifc];simp only[delV_cons',delV_nil',Nat.reduceEqDiff,↓reduceIte])|(with_reducible refine DD.mvS (t:=115) yU yO yE ?_;simp only[strip_tmp,strip_const,lookV_cons,Nat.reduceEqDiff,↓reduceIte,stripO_own,stripO_lst,stripO_v,stripO_plc,stripO_agg,stripO_fn,stripO_ifc];simp only[delV_cons',delV_nil',Nat.reduceEqDiff,↓reduceIte])|(with_reducible first|refine DD.fltS yU yU yU yE ?_|refine DD.nil0 ?_)|refine DS.retT [] yE trivial ?_|fail)
   all_goals first|rfl|(exfalso;omega)
  ·have hs0': ¬(s:Int)=0:=by omega
   have hcz:=ctz_pc s i1
   have hpr:=and_pred hs0 (by simpa using i1)
   have hbc2:=bits_cons hs0 (by simpa using i1)
   have hw:IntKind.u64.wrap ((s:Int)-1)=((s-1:Nat):Int):=by rw[IntWalk.u64_in _ (by omega)];omega
   have ha:bop Tryz.prog .and 86 (.int .u64 (s:Int)) (.int .u64 ((s-1:Nat):Int))=some (.int .u64 ((s &&& (s-1):Nat):Int)):=bop_andU i1 (by omega)
   rw[←hpr]at hbc2
   have hle:s &&& (s-1)≤s-1:=Nat.and_le_right
   have HB:=Box.mk (And.intro hbc2 (And.intro i2 hB))
   clear hbc2 i2 hB hpr
   have hnat: ∀n:Nat,natI n=(n:Int):=fun _=>rfl
   repeat' (first|(with_reducible refine DS.mv (t:=6) yU yO yE ?_;simp only[strip_tmp,strip_const,lookV_cons,Nat.reduceEqDiff,↓reduceIte,stripO_own,stripO_lst,stripO_v,stripO_plc,stripO_agg,stripO_fn,stripO_ifc])|(with_reducible refine DS.mv (t:=110) yU yO yE ?_;simp only[strip_tmp,strip_const,lookV_cons,Nat.reduceEqDiff,↓reduceIte,stripO_own,stripO_lst,stripO_v,stripO_plc,stripO_agg,stripO_fn,stripO_ifc])|(with_reducible first|refine DS.fltS yU yU yE ?_|refine DS.opsNil ?_|refine DS.seq ?_|refine DS.regionL ?_|(refine DS.cE yE ?_;refine CG.yes ?_)|refine DS.blk ?_|refine DS.block ?_|refine DS.skip ?_)|(refine DS.bsl yU yE yE ?_;simp only[go_sem,Nat.zero_add,Nat.reduceAdd])|(refine DS.append (mm:=false) yU yE yE yU (by decide) yE (by first|exact .inl rfl|exact .inr ⟨rfl,rfl⟩) yE yX4 (by first|exact len_map cI_len _|exact len_map cR_len _|exact len_map Member.len _|exact len_map Sitting.len _|exact len_map Ruling.len _|exact len_map Hold.len _|exact len_map Node.len _|exact len_map Form.len _|exact len_map Pattern.len _|(simp only[List.mem_cons,List.not_mem_nil,or_false,forall_eq];rfl)|simp) ⟨by(try simp only[List.length_map,List.length_cons,List.length_nil,List.length_append,List.length_take,List.length_drop]);omega,by decide⟩ ?_;simp only[strip_tmp,strip_const,lookV_cons,Nat.reduceEqDiff,↓reduceIte,stripO_own,stripO_lst,stripO_v,stripO_plc,stripO_agg,stripO_fn,stripO_ifc])|refine DS.pcS inferInstance (hcz) yR yT ?_|fail)
   exact DS.back (HB.out.2.2 (acc++ [Lib.ctz 64 s],s &&& (s-1)) _ _ (by dsimp only;omega) ⟨by dsimp only;omega,by dsimp only;rw[HB.out.2.1,HB.out.1,List.append_assoc];rfl⟩ yS yS (fun b o e=>by exact e))
theorem choose_main (h : House) (holds : List Hold) (o : Bool) (ok : h.Ok) (hk : PC Tryz.prog 33 [h.val] (I 0)) (hl : holds.length ≤ 40) (r : List Int × Int × Int)
    (hr1 : holdsGo h.patterns.length holds (-1) ≠ 0 → r = ([], 0, holdsGo h.patterns.length holds (-1)))
    (hr2 : holdsGo h.patterns.length holds (-1) = 0 → r = ((bitsM (bestH h (valsS h holds o)).2).map natI, (bestH h (valsS h holds o)).1, 0)) :
    PC Tryz.prog 12 [h.val, holdsV holds, Bo o] (.tup [ints r.1, I r.2.1, I r.2.2]) := by
  have hok := patsOk ok
  have hm := hok.many
  have e40 : ¬ (40 : Int) < (holds.length : Int) := by omega
  refine DC.of_run Tryz.func12 rfl Tryz.ntmps12 Tryz.results12 (by simp) (fun _ _ => ?_); simp only [argV_cons, argV_nil, go_sem, Nat.zero_add, Nat.reduceAdd]
  repeat' (first | (with_reducible first | (refine DS.nilOwn (t := 6) yU yO yE ?_) | refine DS.fltS yU yU yE ?_ | refine DS.opsNil ?_ | refine DS.seq ?_ | refine DS.regionL ?_ | (refine DS.cE yE ?_; refine CG.no ?_) | refine DS.skip ?_) | refine DS.pcS inferInstance (hk) yR yT ?_ | (refine DS.boxF (t := 3) yU yE yU ?_; simp only [cells_agg, cells_v, cells_lst, cells_fn, map_nil'', map_cons'', copy_own, copy_lst, copy_v, copy_at, copy_agg, copy_fn, copy_ifc, copy_tup]) | (refine DS.mkS yU yE yE yE yE yU yU ⟨by omega, by omega, by decide, by omega⟩ (fun _ hfr => ?_)) | fail)
  rename_i bv
  have hbv := hfr
  refine DS.allocS yR yU yU (fun b11 hb11 => ?_)
  have hz : (List.map V.v (Value.slice none 0 0).cells.toList) = [.v (.slice none 0 0)] := rfl
  have hz2 : zerosV (.int .i64 0) h.patterns.length = (List.replicate h.patterns.length 0).map I := by
    rw [zerosV]
    have e : (Value.int IntKind.i64 0).cells.toList.map V.v = [I 0] := rfl
    rw [e]; simp
  rw [hz, Int.toNat_natCast, hz2]
  clear hz hz2
  have hbne : ¬ b11 = bv := fun e => by rw [e] at hb11; simp [lookS] at hb11
  repeat' (first | (with_reducible first | refine DS.fltS yU yU yE ?_ | refine DS.opsNil ?_ | refine DS.seq ?_ | refine DS.regionL ?_ | refine DS.block ?_) | (refine DS.store yR yE yE yE yE yU (by exact ⟨by with_unfolding_all rfl, by (try simp only [List.length_map, List.length_append, List.length_set, List.length_replicate, List.length_cons, List.length_nil]); omega⟩) ?_; simp only [putV_none, setAll_cons, setAll_nil, scells_v, scells_own, scells_lst, scells_agg]; try simp only [strip_tmp, strip_const, lookV_cons, Nat.reduceEqDiff, ↓reduceIte, stripO_own, stripO_lst, stripO_v, stripO_plc, stripO_agg, stripO_fn, stripO_ifc]) | fail)
  refine DS.reS (S' := [(b11, .cells [.v (.slice (some ⟨bv, 0, none⟩) h.patterns.length h.patterns.length)] 22), (bv, .cells ((List.replicate h.patterns.length 0).map I) 3)]) (fun b o e => by simp only [setS, ↓reduceIte]; exact e) ?_
  refine DS.loopS [2, 3, 11, 34, 35] yN (fun (x : Nat × Int × List Int) => [(6, .own false 3 1 []), (10, I x.2.1), (36, I x.1)]) (fun (x : Nat × Int × List Int) => [(b11, .cells [.v (.slice (some ⟨bv, 0, none⟩) h.patterns.length h.patterns.length)] 22), (bv, .cells (x.2.2.map I) 3)]) (fun (x : Nat × Int × List Int) => x.1 ≤ holds.length ∧ holdsGo h.patterns.length holds (-1) = holdsGo h.patterns.length (holds.drop x.1) x.2.1 ∧ valsS h holds o = valsGo h o (holds.drop x.1) x.2.2 ∧ x.2.2.length = h.patterns.length ∧ (∀ v ∈ x.2.2, 0 ≤ v ∧ v ≤ 1000000) ∧ -1 ≤ x.2.1) (fun (x : Nat × Int × List Int) => holds.length - x.1) (0, -1, List.replicate h.patterns.length 0) yS (fun b o e => by exact e) ⟨Nat.zero_le _, rfl, rfl, by simp, fun v hv => by rw [(List.mem_replicate.1 hv).2]; decide, Int.le_refl _⟩ (fun x B hI hB => ?_); try dsimp only at hI hB; simp only [app_cons', app_nil']
  obtain ⟨k, last, L⟩ := x
  dsimp only at hI hB
  obtain ⟨i1, i2, i3, i4, i5, i6⟩ := hI
  have HB := Box.mk hB
  clear hB
  by_cases hk : k < holds.length
  · have hk' : (k : Int) < (holds.length : Int) := by omega
    rw [holdsGo_at hk] at i2
    rw [valsGo_at hk] at i3
    by_cases c1 : 0 ≤ holds[k].pattern ∧ holds[k].pattern < (h.patterns.length : Int) ∧ 1 ≤ holds[k].times ∧ holds[k].times ≤ 1000
    · rw [if_neg (fun hc => hc c1)] at i2
      by_cases c2 : holds[k].pattern ≤ last
      · rw [if_pos c2] at i2
        rw [hr1 (by rw [i2]; decide), i2]
        clear hr1 hr2 i2 i3 i5 HB
        repeat' (first | (with_reducible first | (refine DS.nilOwn (t := 6) yU yO yE ?_) | refine DS.fltS yU yU yE ?_ | refine DS.opsNil ?_ | refine DS.seq ?_ | refine DS.regionL ?_ | (refine DS.cE yE ?_; first | refine CG.p (fun _ => ?_) (fun _ => ?_) | refine CG.yes ?_) | (refine DS.gE yU yE ?_; first | refine GG.pF (fun _ => ?_) (fun _ => ?_) | refine GG.run ?_ | refine GG.sT ?_) | refine DS.block ?_ | refine DS.skip ?_) | (refine DS.letF (t := 13) yU yE yU (fun _ => yE) yE yU (by exact ⟨by with_unfolding_all rfl, by with_unfolding_all decide⟩) (fun _ => by simp only [go_sem, Nat.reduceEqDiff, ↓reduceIte]) ?_; simp only [go_sem]) | refine DS.retT [] yE trivial ?_ | fail)
        all_goals first | rfl | (exfalso; omega)
      · rw [if_neg c2] at i2
        obtain ⟨P, hP⟩ := Int.eq_ofNat_of_zero_le c1.1
        have hPn : P < h.patterns.length := by omega
        have hpk := hok.ok P hPn
        have hw := worth_pc h.patterns[P] o
        have hwb : 0 ≤ worthS h.patterns[P] o ∧ worthS h.patterns[P] o ≤ 1000 := by
          have h1 := hpk.closed
          have h2 := hpk.open_
          rw [pat_at hPn] at h1 h2
          unfold worthS; split <;> omega
        have hpt : h.pat holds[k].pattern.toNat = h.patterns[P] := by rw [hP, Int.toNat_natCast, pat_at hPn]
        rw [hpt, hP, Int.toNat_natCast] at i3
        rw [hP] at i2
        have hmul : 0 ≤ holds[k].times * worthS h.patterns[P] o ∧ holds[k].times * worthS h.patterns[P] o ≤ 1000000 := ⟨Int.mul_nonneg (by omega) hwb.1, by
          have := Int.mul_le_mul c1.2.2.2 hwb.2 hwb.1 (show (0 : Int) ≤ 1000 by omega)
          omega⟩
        have c2' : ¬ (P : Int) ≤ last := by omega
        have hPn' : (P : Int) < (h.patterns.length : Int) := by omega
        have ht1 : 1 ≤ holds[k].times ∧ holds[k].times ≤ 1000 := c1.2.2
        have H := Box.mk (And.intro i2 (And.intro i3 i5))
        have hLl : P < L.length := by omega
        clear hr1 hr2 i2 i3 i5 c1 c2 hpt
        repeat' (first | (with_reducible first | (refine DS.nilOwn (t := 6) yU yO yE ?_) | refine DS.fltS yU yU yE ?_ | refine DS.opsNil ?_ | refine DS.seq ?_ | refine DS.regionL ?_ | (refine DS.cE yE ?_; first | refine CG.p (fun _ => ?_) (fun _ => ?_) | refine CG.yes ?_ | refine CG.no ?_) | (refine DS.gE yU yE ?_; first | refine GG.pF (fun _ => ?_) (fun _ => ?_) | refine GG.run ?_ | refine GG.sT ?_) | refine DS.blk ?_ | refine DS.block ?_ | refine DS.skip ?_) | (refine DS.letF (t := 13) yU yE yU (fun _ => yE) yE yU (by exact ⟨by with_unfolding_all rfl, by with_unfolding_all decide⟩) (fun _ => by simp only [go_sem, Nat.reduceEqDiff, ↓reduceIte]) ?_; simp only [go_sem]) | (refine DS.store yR yE yE yE yE yU (by exact ⟨by with_unfolding_all rfl, by (try simp only [List.length_map, List.length_append, List.length_set, List.length_replicate, List.length_cons, List.length_nil]); omega⟩) ?_; simp only [putV_none, setAll_cons, setAll_nil, scells_v, scells_own, scells_lst, scells_agg]; try simp only [strip_tmp, strip_const, lookV_cons, Nat.reduceEqDiff, ↓reduceIte, stripO_own, stripO_lst, stripO_v, stripO_plc, stripO_agg, stripO_fn, stripO_ifc]) | refine DS.drawL (id := 16) [0, 1, 2, 3, 4, 5, 6, 7, 8, 9, 10, 11] 12 (by kernel_rfl) mixed (by simp only [pickL_cons, pickL_nil, get_zero', get_cons', pickO_some]; exact rfl) (by simp only [drop_zero', drop_cons', List.drop_nil]; exact rfl) ?_ | (with_reducible first | refine DD.fltS yU yU yU yE ?_ | refine DD.nil0 ?_) | refine DD.pcV0 inferInstance (hw) yU yT ?_ | fail)
        all_goals first
          | (exfalso; omega)
          | (refine DS.back (HB.out (k + 1, (P : Int), L.set P (holds[k].times * worthS h.patterns[P] o)) _ _ (by dsimp only; omega) ⟨by dsimp only; omega, H.out.1, H.out.2.1, by simpa using i4, fun v hv => ?_, by dsimp only; omega⟩ yS yS (fun b o e => ?_))
             · rcases List.mem_or_eq_of_mem_set hv with h | h
               · exact H.out.2.2 v h
               · rw [h]; exact hmul
             · dsimp only at e
               rw [List.map_set] at e
               simp only [setS, if_neg hbne, ↓reduceIte]
               exact e)
    · rw [if_pos c1] at i2
      rw [hr1 (by rw [i2]; decide), i2]
      clear hr1 hr2 i2 i3 i5 HB
      repeat' (first | (with_reducible first | (refine DS.nilOwn (t := 6) yU yO yE ?_) | refine DS.fltS yU yU yE ?_ | refine DS.opsNil ?_ | refine DS.seq ?_ | refine DS.regionL ?_ | (refine DS.cE yE ?_; first | refine CG.p (fun _ => ?_) (fun _ => ?_) | refine CG.yes ?_) | (refine DS.gE yU yE ?_; first | refine GG.pF (fun _ => ?_) (fun _ => ?_) | refine GG.run ?_ | refine GG.sT ?_) | refine DS.block ?_ | refine DS.skip ?_) | (refine DS.letF (t := 13) yU yE yU (fun _ => yE) yE yU (by exact ⟨by with_unfolding_all rfl, by with_unfolding_all decide⟩) (fun _ => by simp only [go_sem, Nat.reduceEqDiff, ↓reduceIte]) ?_; simp only [go_sem]) | refine DS.drawL (id := 16) [0, 1, 2, 3, 4, 5, 6, 7, 8, 9, 10, 11] 12 (by kernel_rfl) mixed (by simp only [pickL_cons, pickL_nil, get_zero', get_cons', pickO_some]; exact rfl) (by simp only [drop_zero', drop_cons', List.drop_nil]; exact rfl) ?_ | with_reducible refine DD.fltS yU yU yU yE ?_ | refine DS.retT [] yE trivial ?_ | fail)
      all_goals first | rfl | (exfalso; omega)
  · have hk' : ¬ (k : Int) < (holds.length : Int) := by omega
    have h0 : holdsGo h.patterns.length holds (-1) = 0 := by rw [i2, List.drop_eq_nil_of_le (by omega)]; rfl
    have hv : valsS h holds o = L := by rw [i3, List.drop_eq_nil_of_le (by omega)]; rfl
    have hr := hr2 h0
    rw [hv] at hr
    have HR := Box.mk (And.intro hr i5)
    have hcl := clashing_dc h hok
    clear hr1 hr2 h0 hv hr i5 i2 i3 HB
    repeat' (first | (with_reducible first | refine DS.fltS yU yU yE ?_ | refine DS.opsNil ?_ | refine DS.seq ?_ | refine DS.regionL ?_ | (refine DS.cE yE ?_; refine CG.no ?_) | refine DS.exit yU ?_) | fail)
    refine DS.call (dst := some 82) [] [(b11, .cells [.v (.slice (some ⟨bv, 0, none⟩) h.patterns.length h.patterns.length)] 22), (bv, .cells (L.map I) 3)] inferInstance hcl yR yH (fun _ _ e => by cases e) (fun _ _ e => ⟨e, rfl⟩) (fun u S' hu hdis => ?_)
    obtain ⟨bc, rfl, rfl⟩ := hu
    simp only [putV_some, List.cons_append, List.nil_append]
    obtain ⟨d1, hbc⟩ := look_none (hdis bc _ (by rw [lookS_cons, if_pos rfl]))
    obtain ⟨d2, -⟩ := look_none hbc
    clear hdis hcl hbc
    refine DS.weaken (E' := [(82, .v (.slice (some ⟨bc, 0, none⟩) h.patterns.length h.patterns.length)), (6, .own false 3 1 []), (11, .v (ptrV b11))]) (subV_look ⟨by rfl, by rfl, by rfl, trivial⟩) (fun _ _ e => e) ?_
    refine DS.allocS yR yU yU (fun b14 hb14 => ?_)
    obtain ⟨d3, hb14⟩ := look_none hb14
    obtain ⟨d4, hb14⟩ := look_none hb14
    obtain ⟨d5, -⟩ := look_none hb14
    have hz : (List.map V.v (Value.slice none 0 0).cells.toList) = [.v (.slice none 0 0)] := rfl
    rw [hz]
    clear hz hb14
    repeat' (first | (with_reducible first | refine DS.opsNil ?_ | refine DS.seq ?_ | refine DS.regionL ?_) | (refine DS.store yR yE yE yE yE yU (by exact ⟨by with_unfolding_all rfl, by (try simp only [List.length_map, List.length_append, List.length_set, List.length_replicate, List.length_cons, List.length_nil]); omega⟩) ?_; simp only [putV_none, setAll_cons, setAll_nil, scells_v, scells_own, scells_lst, scells_agg]; try simp only [strip_tmp, strip_const, lookV_cons, Nat.reduceEqDiff, ↓reduceIte, stripO_own, stripO_lst, stripO_v, stripO_plc, stripO_agg, stripO_fn, stripO_ifc]) | fail)
    refine DS.reS (S' := [(b14, .cells [.v (.slice (some ⟨bc, 0, none⟩) h.patterns.length h.patterns.length)] 82), (bc, .cells (((List.range h.patterns.length).map (clM h)).map UN) 86), (b11, .cells [.v (.slice (some ⟨bv, 0, none⟩) h.patterns.length h.patterns.length)] 22), (bv, .cells (L.map I) 3)]) (fun b o e => by simp only [setS, ↓reduceIte]; exact e) ?_
    refine DS.mkMap yR (fun bm hbm => ?_)
    obtain ⟨d6, hbm⟩ := look_none hbm
    obtain ⟨d7, hbm⟩ := look_none hbm
    obtain ⟨d8, hbm⟩ := look_none hbm
    obtain ⟨d9, -⟩ := look_none hbm
    simp only [putV_some]
    refine DS.allocS yR yU yU (fun b15 hb15 => ?_)
    obtain ⟨d10, hb15⟩ := look_none hb15
    obtain ⟨d11, hb15⟩ := look_none hb15
    obtain ⟨d12, hb15⟩ := look_none hb15
    obtain ⟨d13, hb15⟩ := look_none hb15
    obtain ⟨d14, -⟩ := look_none hb15
    have hz : (List.map V.v (Value.map none).cells.toList) = [.v (.map none)] := rfl
    rw [hz]
    clear hz hbm hb15
    repeat' (first | (with_reducible first | refine DS.opsNil ?_ | refine DS.seq ?_ | refine DS.regionL ?_) | (refine DS.store yR yE yE yE yE yU (by exact ⟨by with_unfolding_all rfl, by (try simp only [List.length_map, List.length_append, List.length_set, List.length_replicate, List.length_cons, List.length_nil]); omega⟩) ?_; simp only [putV_none, setAll_cons, setAll_nil, scells_v, scells_own, scells_lst, scells_agg]; try simp only [strip_tmp, strip_const, lookV_cons, Nat.reduceEqDiff, ↓reduceIte, stripO_own, stripO_lst, stripO_v, stripO_plc, stripO_agg, stripO_fn, stripO_ifc]) | fail)
    refine DS.reS (S' := [(b15, .cells [.v (.map (some bm))] 84), (bm, .raw (.map #[] 0)), (b14, .cells [.v (.slice (some ⟨bc, 0, none⟩) h.patterns.length h.patterns.length)] 82), (bc, .cells (((List.range h.patterns.length).map (clM h)).map UN) 86), (b11, .cells [.v (.slice (some ⟨bv, 0, none⟩) h.patterns.length h.patterns.length)] 22), (bv, .cells (L.map I) 3)]) (fun b o e => by simp only [setS, ↓reduceIte]; exact e) ?_
    refine DS.allocS yR yU yU (fun b16 hb16 => ?_)
    obtain ⟨d15, hb16⟩ := look_none hb16
    obtain ⟨d16, hb16⟩ := look_none hb16
    obtain ⟨d17, hb16⟩ := look_none hb16
    obtain ⟨d18, hb16⟩ := look_none hb16
    obtain ⟨d19, hb16⟩ := look_none hb16
    obtain ⟨d20, -⟩ := look_none hb16
    have hz : (List.map V.v Value.nilFunc.cells.toList) = [.v .nilFunc] := rfl
    rw [hz]
    clear hz hb16
    refine DS.opsNil ?_
    refine DS.weaken (E' := [(6, .own false 3 1 []), (11, .v (ptrV b11)), (14, .v (ptrV b14)), (15, .v (ptrV b15)), (16, .v (ptrV b16))]) (subV_look ⟨by rfl, by rfl, by rfl, by rfl, by rfl, trivial⟩) (fun _ _ e => e) ?_
    have s1 := fun e => d1 (Eq.symm e)
    have s2 := fun e => d2 (Eq.symm e)
    have s3 := fun e => d3 (Eq.symm e)
    have s4 := fun e => d4 (Eq.symm e)
    have s5 := fun e => d5 (Eq.symm e)
    have s6 := fun e => d6 (Eq.symm e)
    have s7 := fun e => d7 (Eq.symm e)
    have s8 := fun e => d8 (Eq.symm e)
    have s9 := fun e => d9 (Eq.symm e)
    have s10 := fun e => d10 (Eq.symm e)
    have s11 := fun e => d11 (Eq.symm e)
    have s12 := fun e => d12 (Eq.symm e)
    have s13 := fun e => d13 (Eq.symm e)
    have s14 := fun e => d14 (Eq.symm e)
    have s15 := fun e => d15 (Eq.symm e)
    have s16 := fun e => d16 (Eq.symm e)
    have s17 := fun e => d17 (Eq.symm e)
    have s18 := fun e => d18 (Eq.symm e)
    have s19 := fun e => d19 (Eq.symm e)
    have s20 := fun e => d20 (Eq.symm e)
    refine DS.reS (S' := [(b11, .cells [.v (.slice (some ⟨bv, 0, none⟩) h.patterns.length h.patterns.length)] 22), (bv, .cells (L.map I) 3), (b15, .cells [.v (.map (some bm))] 84), (bm, .raw (.map #[] 0)), (b14, .cells [.v (.slice (some ⟨bc, 0, none⟩) h.patterns.length h.patterns.length)] 82), (bc, .cells (((List.range h.patterns.length).map (clM h)).map UN) 86), (b16, .cells [.v .nilFunc] 85)]) (fun b o e => ?_) ?_
    · simp only [lookS_cons, lookS_nil] at e ⊢
      by_cases h1 : b11 = b
      · rw [if_pos h1] at e
        subst h1
        rw [if_neg s19, if_neg s13, if_neg s8, if_neg s4, if_neg s1, if_pos rfl]; exact e
      rw [if_neg h1] at e
      by_cases h2 : bv = b
      · rw [if_pos h2] at e
        subst h2
        rw [if_neg s20, if_neg s14, if_neg s9, if_neg s5, if_neg s2, if_neg hbne, if_pos rfl]; exact e
      rw [if_neg h2] at e
      by_cases h3 : b15 = b
      · rw [if_pos h3] at e
        subst h3
        rw [if_neg s15, if_pos rfl]; exact e
      rw [if_neg h3] at e
      by_cases h4 : bm = b
      · rw [if_pos h4] at e
        subst h4
        rw [if_neg s16, if_neg s10, if_pos rfl]; exact e
      rw [if_neg h4] at e
      by_cases h5 : b14 = b
      · rw [if_pos h5] at e
        subst h5
        rw [if_neg s17, if_neg s11, if_neg s6, if_pos rfl]; exact e
      rw [if_neg h5] at e
      by_cases h6 : bc = b
      · rw [if_pos h6] at e
        subst h6
        rw [if_neg s18, if_neg s12, if_neg s7, if_neg s3, if_pos rfl]; exact e
      rw [if_neg h6] at e
      by_cases h7 : b16 = b
      · rw [if_pos h7] at e ⊢; exact e
      · rw [if_neg h7] at e; cases e
    rw [HR.out.1]
    exact choose_tail h L hok (by omega) HR.out.2 b11 bv bc b14 bm b15 b16 d1 d2 d3 d4 d5 d6 d7 d8 d9 d10 d11 d12 d13 d14 d15 d16 d17 d18 d19 d20 hbne yR
theorem choose_pc (h:House) (holds:List Hold) (o:Bool) (hl:holds.length≤1000000):PC Tryz.prog 12 [h.val,holdsV holds,Bo o] (.tup [ints (chooseS h holds o).1,I (chooseS h holds o).2.1,I (chooseS h holds o).2.2]):=by
 have hk:=house_pc h (conds h)
 by_cases h0:houseS h=0
 ·rw[h0]at hk
  by_cases h1:40<(holds.length:Int)
  ·have e:chooseS h holds o=([],0,8):=by rw[chooseS,if_neg (by omega),if_pos h1]
   rw[e]
   refine DC.of_run Tryz.func12 rfl Tryz.ntmps12 Tryz.results12 (by simp) (fun _ _=>?_);simp only[argV_cons,argV_nil,go_sem,Nat.zero_add,Nat.reduceAdd]
   repeat' (first|(with_reducible first|(refine DS.nilOwn (t:=6) yU yO yE ?_)|refine DS.fltS yU yU yE ?_|refine DS.opsNil ?_|refine DS.seq ?_|refine DS.regionL ?_|(refine DS.cE yE ?_;first|refine CG.yes ?_|refine CG.no ?_)|refine DS.skip ?_)|refine DS.pcS inferInstance (hk) yR yT ?_|(refine DS.boxF (t:=3) yU yE yU ?_;simp only[cells_agg,cells_v,cells_lst,cells_fn,map_nil'',map_cons'',copy_own,copy_lst,copy_v,copy_at,copy_agg,copy_fn,copy_ifc,copy_tup])|refine DS.retT [] yE trivial ?_|fail)
   all_goals first|rfl|(exfalso;omega)
  ·refine choose_main h holds o (house_ok h0) hk (by omega) _ (fun h2=>?_) (fun h2=>?_)
   ·rw[chooseS,if_neg (by omega),if_neg h1,if_pos h2]
   ·rw[chooseS,if_neg (by omega),if_neg h1,if_neg (by omega)]
 ·have e:chooseS h holds o=([],0,houseS h):=by rw[chooseS,if_pos h0]
  rw[e]
  refine DC.of_run Tryz.func12 rfl Tryz.ntmps12 Tryz.results12 (by simp) (fun _ _=>?_);simp only[argV_cons,argV_nil,go_sem,Nat.zero_add,Nat.reduceAdd]
  repeat' (first|(with_reducible first|(refine DS.nilOwn (t:=6) yU yO yE ?_)|refine DS.fltS yU yU yE ?_|refine DS.opsNil ?_|refine DS.seq ?_|refine DS.regionL ?_|(refine DS.cE yE ?_;refine CG.yes ?_))|refine DS.pcS inferInstance (hk) yR yT ?_|(refine DS.boxF (t:=3) yU yE yU ?_;simp only[cells_agg,cells_v,cells_lst,cells_fn,map_nil'',map_cons'',copy_own,copy_lst,copy_v,copy_at,copy_agg,copy_fn,copy_ifc,copy_tup])|refine DS.retT [] yE trivial ?_|fail)
  all_goals first|rfl|(exfalso;omega)
end Go.XL
namespace Go.XL
open Go.Proofs
set_option maxRecDepth 100000
set_option maxHeartbeats 8000000
def Pattern.far (p:Pattern):Bool:=decide (70<(p.cond.length:Int)∨20<(p.excl.length:Int)∨20<(p.impl.length:Int))
def House.far (h:House):Bool:=decide (10<(h.set.suits.length:Int)∨40<(h.set.reds.length:Int)∨8<(h.forms.length:Int)∨14<(h.patterns.length:Int)∨70<(h.minor.length:Int)∨20<(h.scale.limits.length:Int)∨10<(h.pay.feeds.length:Int))
def longS (h:House) (l:List (List Int)):Bool:=h.far || h.patterns.any Pattern.far || l.any fun m=>decide (60<(m.length:Int))
theorem any_at {α:Type} {p:α→Bool} {l:List α} {i:Nat} (hi:i<l.length):(l.drop i).any p=(p l[i] || (l.drop (i+1)).any p):=by
 rw[List.drop_eq_getElem_cons hi,List.any_cons]
theorem longS_false {h:House} {l:List (List Int)} (e:longS h l=false):h.patterns.length≤14:=by
 rw[longS,Bool.or_eq_false_iff,Bool.or_eq_false_iff]at e
 have:=of_decide_eq_false e.1.1
 omega
theorem yX18 {p:Prop} (h:p:=by(simp (disch:=omega) only[go_sem,dopV,yV0,↓reduceIte,Nat.reduceEqDiff,Nat.reduceLT,Nat.reduceLeDiff,Nat.reduceAdd,Nat.reduceMul,Nat.reduceSub,Int.reduceToNat,Int.reduceLT,Int.reduceLE,Int.reduceEq,IntWalk.toNatUp,IntWalk.iteOmega,IntWalk.i64_in,V.flat,V.one, *,List.length_nil,Int.natCast_zero];exact rfl)):p:=h
theorem long0_pc (h:House):PC Tryz.prog 11 [h.val, .agg [.v (.slice none 0 0), .v (.slice none 0 0)], .lst []] (Bo (longS h [])):=by
 by_cases hf:h.far=true
 ·have e:longS h []=true:=by rw[longS,hf];rfl
  rw[e]
  have HF:=Box.mk (of_decide_eq_true hf)
  clear hf e
  refine DC.of_run Tryz.func11 rfl Tryz.ntmps11 Tryz.results11 (by simp) (fun _ _=>?_);simp only[argV_cons,argV_nil,go_sem,Nat.zero_add,Nat.reduceAdd]
  repeat' (first|(with_reducible first|refine DS.fltS yU yU yX18 ?_|refine DS.opsNil ?_|refine DS.seq ?_|refine DS.regionL ?_|(refine DS.cE yX18 ?_;first|refine CG.yes ?_|refine CG.no ?_)|(refine DS.gE yU yX18 ?_;first|refine GG.pF (fun _=>?_) (fun _=>?_)|refine GG.run ?_|refine GG.sT ?_)|refine DS.block ?_|refine DS.skip ?_)|(refine DS.boxF (t:=3) yU yX18 yU ?_;simp only[cells_agg,cells_v,cells_lst,cells_fn,map_nil'',map_cons'',copy_own,copy_lst,copy_v,copy_at,copy_agg,copy_fn,copy_ifc,copy_tup])|(refine DS.boxF (t:=4) yU yX18 yU ?_;simp only[cells_agg,cells_v,cells_lst,cells_fn,map_nil'',map_cons'',copy_own,copy_lst,copy_v,copy_at,copy_agg,copy_fn,copy_ifc,copy_tup])|fail)
  all_goals first
   | (exfalso;have:=HF.out;clear HF;omega)
   | (repeat' (first|refine DS.retT [] yE trivial ?_|fail);rfl)
 ·have hf2:=of_decide_eq_false (Bool.eq_false_iff.2 hf)
  have e:longS h []=h.patterns.any Pattern.far:=by rw[longS,Bool.eq_false_iff.2 hf];simp
  rw[e]
  clear e hf
  refine DC.of_run Tryz.func11 rfl Tryz.ntmps11 Tryz.results11 (by simp) (fun _ _=>?_);simp only[argV_cons,argV_nil,go_sem,Nat.zero_add,Nat.reduceAdd]
  repeat' (first|(with_reducible first|refine DS.fltS yU yU yX18 ?_|refine DS.opsNil ?_|refine DS.seq ?_|refine DS.regionL ?_|(refine DS.cE yX18 ?_;first|refine CG.yes ?_|refine CG.no ?_)|(refine DS.gE yU yX18 ?_;first|refine GG.pF (fun _=>?_) (fun _=>?_)|refine GG.run ?_|refine GG.sT ?_)|refine DS.block ?_|refine DS.skip ?_)|(refine DS.boxF (t:=3) yU yX18 yU ?_;simp only[cells_agg,cells_v,cells_lst,cells_fn,map_nil'',map_cons'',copy_own,copy_lst,copy_v,copy_at,copy_agg,copy_fn,copy_ifc,copy_tup])|(refine DS.boxF (t:=4) yU yX18 yU ?_;simp only[cells_agg,cells_v,cells_lst,cells_fn,map_nil'',map_cons'',copy_own,copy_lst,copy_v,copy_at,copy_agg,copy_fn,copy_ifc,copy_tup])|fail)
  all_goals try (exfalso;omega)
  refine DS.loopK [2,3] yN (fun(i:Nat)=> [(7,I i)]) (fun(i:Nat)=>i≤h.patterns.length∧h.patterns.any Pattern.far=(h.patterns.drop i).any Pattern.far) (fun(i:Nat)=>h.patterns.length-i) 0 yS ⟨Nat.zero_le _,rfl⟩ (fun i B hI hB=>?_);try dsimp only at hI hB;simp only[app_cons',app_nil']
  have HB:=Box.mk hB
  clear hB
  obtain⟨hI,hI2⟩:=hI
  by_cases hi:(i:Int)<(h.patterns.length:Int)
  ·have hi':i<h.patterns.length:=by omega
   rw[any_at hi']at hI2
   have HI:=Box.mk hI2
   clear hI2
   by_cases hp:h.patterns[i].far=true
   ·rw[HI.out,hp,Bool.true_or]
    have hp2:=of_decide_eq_true hp
    clear HI hp
    repeat' (first|(with_reducible first|refine DS.fltS yU yU yE ?_|refine DS.opsNil ?_|refine DS.seq ?_|refine DS.regionL ?_|(refine DS.cE yE ?_;first|refine CG.p (fun _=>?_) (fun _=>?_)|refine CG.yes ?_)|(refine DS.gE yU yE ?_;first|refine GG.pF (fun _=>?_) (fun _=>?_)|refine GG.run ?_|refine GG.sT ?_)|refine DS.blk ?_|refine DS.block ?_|refine DS.skip ?_)|refine DS.retT [] yE trivial ?_|fail)
    all_goals first|rfl|(exfalso;omega)
   ·have hp1:h.patterns[i].far=false:=Bool.eq_false_iff.2 hp
    have hp2:=of_decide_eq_false hp1
    have HP:=Box.mk hp1
    clear hp hp1
    repeat' (first|(with_reducible first|refine DS.fltS yU yU yE ?_|refine DS.opsNil ?_|refine DS.seq ?_|refine DS.regionL ?_|(refine DS.cE yE ?_;first|refine CG.p (fun _=>?_) (fun _=>?_)|refine CG.yes ?_)|(refine DS.gE yU yE ?_;first|refine GG.pF (fun _=>?_) (fun _=>?_)|refine GG.run ?_|refine GG.sT ?_)|refine DS.blk ?_|refine DS.block ?_|refine DS.skip ?_)|refine DS.retT [] yE trivial ?_|fail)
    all_goals first
     | exact DS.back (HB.out (i+1) _ _ (by omega) ⟨by omega,by rw[HI.out,HP.out,Bool.false_or]⟩ yS yS (fun b o e=>by cases e))
     | (exfalso;omega)
  ·rw[hI2,drop_end hi]
   clear hI2 HB
   repeat' (first|(with_reducible first|refine DS.fltS yU yU yE ?_|refine DS.opsNil ?_|refine DS.seq ?_|refine DS.regionL ?_|(refine DS.cE yE ?_;refine CG.no ?_)|refine DS.block ?_|refine DS.exit yU ?_)|fail)
   refine DS.loopK [2] yN (fun(j:Nat)=> [(8,I j)]) (fun(j:Nat)=>j=0) (fun(j:Nat)=>0) 0 yS rfl (fun j B hI hB=>?_);try dsimp only at hI hB;simp only[app_cons',app_nil']
   subst hI
   repeat' (first|(with_reducible first|refine DS.fltS yU yU yX18 ?_|refine DS.opsNil ?_|refine DS.seq ?_|refine DS.regionL ?_|(refine DS.cE yX18 ?_;refine CG.no ?_)|refine DS.exit yU ?_)|refine DS.retT [] yX18 trivial ?_|fail)
   all_goals first|rfl|(exfalso;simp at *;done)
end Go.XL
namespace Go.XL
theorem DS.mapO {P:Program} {n:Nat} {r:Rr} {Q:VEnv→Sto→Prop} {k:List Fr} {E:VEnv} {S:Sto} {b:Nat} {l:List V} {T:TypeId} (f:V→V) (hf: ∀hv v y,v.Rl hv y→(f v).Rl hv y) (hfr: ∀v,(f v).free=true) (hS:lookS S b=some (.cells l T)) (q:DS P n r Q k E (setS b (.cells (l.map f) T) S)):DS P n r Q k E S:=fun K W a w ⟨K',D,hv,hold,env,hbx,ha,s⟩ hw=>by
 refine q K W a w ⟨K',D,hv,hold,env,hbx,ha,⟨s.pre,s.slot,fun j o e=>?_,s.held,s.base,s.vbase⟩⟩ hw
 rw[lookS_set hS]at e
 split at e
 ·rename_i hj
  subst hj
  simp only[Option.some.injEq]at e;subst e
  obtain⟨o1,o2,cs,o3,o4,o5,o6⟩:=s.obj _ _ hS
  have key: ∀{l:List V} {cs:List Value},RlL hv l cs→RlL hv (l.map f) cs:=fun{l}=>by
   induction l with
   | nil=>exact fun h=>h
   | cons v r ih =>
    intro cs h
    obtain⟨z,zs,rfl,h1,h2⟩:=h.cons
    simp only[List.map_cons,RlL]
    exact⟨z,zs,rfl,hf _ _ _ h1,ih h2⟩
  refine⟨o1,o2,cs,o3,key o4,o5,fun i c u hc hu=>?_⟩
  obtain⟨v,hv,rfl⟩:=List.mem_map.1 (List.mem_of_getElem? hc)
  exact V.free_Own (hfr v) u
 ·exact s.obj j o e
theorem RlC_map {hv:VH} {f:V→V} (hf: ∀v y,v.Rl hv y→(f v).Rl hv y) {p:Option Addr}: ∀{c:List V} {i:Nat},RlC hv p i c→RlC hv p i (c.map f)
 | [],_,_=>trivial
 | v::r,i,h=>by
  simp only[List.map_cons,RlC]at h ⊢
  obtain⟨⟨u,h1,h2,h3⟩,h4⟩:=h
  exact⟨⟨u,h1,hf _ _ h2,h3⟩,RlC_map hf h4⟩
theorem RlE_map {hv:VH} {f:V→V} (hf: ∀v y,v.Rl hv y→(f v).Rl hv y) {p:Option Addr}: ∀{l:List (List V)} {i:Nat},RlE hv p i l→RlE hv p i (l.map (·.map f))
 | [],_,_=>trivial
 | c::r,i,h=>by
  simp only[List.map_cons,RlE]at h ⊢
  exact⟨RlC_map hf h.1,by rw[List.length_map];exact RlE_map hf h.2⟩
def inL (f:V→V) (v:V):V:=match v.peek with | .lst l => .lst (l.map (·.map f))|w=>w
theorem inL_Rl {hv:VH} {f:V→V} (hf: ∀v y,v.Rl hv y→(f v).Rl hv y) {v:V} {y:Value} (h:v.Rl hv y):(inL f v).Rl hv y:=by
 have h':=V.peek_Rl h
 unfold inL
 split
 ·rename_i l e
  rw[e]at h'
  simp only[V.Rl]at h' ⊢
  obtain⟨p,cap,sz,h1,h2,h3,h4,h5⟩:=h'
  refine⟨p,cap,sz,by rw[List.length_map];exact h1,by rw[List.length_map];exact h2,h3,fun c hc=>?_,RlE_map hf h5⟩
  obtain⟨d,hd,rfl⟩:=List.mem_map.1 hc
  rw[List.length_map];exact h4 d hd
 ·exact h'
theorem inL_free (f:V→V) (v:V):(inL f v).free=true:=by
 unfold inL
 split
 ·rfl
 ·exact peek_free v
def deep :V→V:=inL (inL (inL V.peek))
theorem deep_Rl {hv:VH} {v:V} {y:Value} (h:v.Rl hv y):(deep v).Rl hv y:=inL_Rl (fun _ _ h=>inL_Rl (fun _ _ h=>inL_Rl (fun _ _ h=>V.peek_Rl h) h) h) h
theorem PC.peek {P:Program} {f:FuncId} {args:List V} {v:V} (h:PC P f args v):PC P f args v.peek:=by
 intro v0 K hv hold hp xs hx ha s
 refine(h v0 K hv hold hp xs hx ha s).mono ?_
 rintro y h' ⟨u,S',hv',hold',p,st,rfl⟩
 refine⟨u.peek,S',hv',hold',p,⟨st.pre,fun t w e=>?_,st.obj,st.held,st.base,st.vbase⟩,rfl⟩
 rw[lookV_cons]at e
 split at e
 ·rename_i ht
  cases e
  obtain⟨z,h1,h2,-⟩:=st.slot t u (by rw[lookV_cons,if_pos ht])
  exact⟨z,h1,V.peek_Rl h2,V.free_Own (peek_free u) z⟩
 ·cases e
end Go.XL
namespace Go.XL
open Go.Proofs
set_option maxRecDepth 100000
set_option maxHeartbeats 8000000
def tinyG :GSet:=⟨3,[3],0,1,0,4,1,2,[1]⟩
def strA (c:UInt8):ByteArray:=⟨#[c]⟩
def smallH :House where
 set:=tinyG
 forms:= [⟨1,[],false⟩]
 patterns:= [⟨strA 97,2,1,[],[],[]⟩,⟨strA 98,3,3,[],[0],[]⟩,⟨strA 99,2,0,[],[],[0]⟩]
 minor:= []
 least:=1
 scale:=⟨8,true,[⟨5,2000⟩,⟨6,3000⟩],100⟩
 pay:=⟨1,true,0,100,1000,0,0,0,1,0,false,[],[]⟩
 play:=⟨false,1,false,0,false,0,0,0,false,false,false,5,1,0,false,false⟩
def fourH :House:={smallH with set:=⟨4,[4],0,1,0,4,1,2,[1]⟩}
theorem tiny_pc :PC Tryz.prog 80 [] tinyG.val:=by
 refine DC.of_run Tryz.func80 rfl Tryz.ntmps80 Tryz.results80 (by simp) (fun _ _=>?_);simp only[argV_cons,argV_nil,go_sem,Nat.zero_add,Nat.reduceAdd]
 refine DS.seq ?_
 repeat' (first|with_reducible refine DS.regionL ?_|fail)
 refine DS.allocS yR yU yU (fun b0 h0=>?_)
 clear h0
 repeat' (first|(with_reducible first|refine DS.fltS yU yU yX8 ?_|refine DS.opsNil ?_|refine DS.seq ?_|refine DS.regionL ?_)|(refine DS.bsl yU yX8 yX8 ?_;simp only[go_sem,Nat.zero_add,Nat.reduceAdd])|(refine DS.store yR yX8 yX8 yX8 yX8 yU (by exact⟨by with_unfolding_all rfl,by(try simp only[List.length_map,List.length_append,List.length_set,List.length_replicate,List.length_cons,List.length_nil]);omega⟩) ?_;simp only[putV_none,setAll_cons,setAll_nil,scells_v,scells_own,scells_lst,scells_agg];try simp only[strip_tmp,strip_const,lookV_cons,Nat.reduceEqDiff,↓reduceIte,stripO_own,stripO_lst,stripO_v,stripO_plc,stripO_agg,stripO_fn,stripO_ifc])|fail)
 refine DS.retA yX3 ?_
 rfl
theorem look_none' {d b:Nat} {o:Ob} {r:Sto} (h:lookS ((d,o)::r) b=none): ¬d=b∧lookS r b=none:=by
 simp only[lookS]at h
 by_cases e:d=b
 ·rw[if_pos e]at h;cases h
 ·rw[if_neg e]at h;exact⟨e,h⟩
theorem yX19 {p:Prop} (h:p:=by(simp (disch:=omega) only[go_sem,dopV,yV0,↓reduceIte,Nat.reduceEqDiff,Nat.reduceLT,Nat.reduceLeDiff,Nat.reduceAdd,Nat.reduceMul,Nat.reduceSub,Int.reduceToNat,Int.reduceLT,Int.reduceLE,Int.reduceEq,IntWalk.toNatUp,IntWalk.iteOmega,IntWalk.i64_in,V.flat,V.one, *,Value.oneCell'];try exact rfl)):p:=h
theorem small_pc :PC Tryz.prog 42 [] smallH.val:=by
 have ht:=tiny_pc
 refine DC.of_run Tryz.func42 rfl Tryz.ntmps42 Tryz.results42 (by simp) (fun _ _=>?_);simp only[argV_cons,argV_nil,go_sem,Nat.zero_add,Nat.reduceAdd]
 repeat' (first|(with_reducible first|refine DS.seq ?_|refine DS.regionL ?_)|fail)
 refine DS.allocS yR yU yU (fun b0 h0=>?_)
 clear h0
 repeat' (first|(with_reducible first|refine DS.fltS yU yU yX8 ?_|refine DS.opsNil ?_|refine DS.seq ?_|refine DS.regionL ?_)|(refine DS.bsl yU yX8 yX8 ?_;simp only[go_sem,Nat.zero_add,Nat.reduceAdd])|refine DS.pcS inferInstance (ht) yR yX19 ?_|fail)
 refine DS.allocS yR yU yU (fun b1 h1=>?_)
 obtain⟨n1,-⟩:=look_none' h1
 have n1':=fun e=>n1 (Eq.symm e)
 clear h1
 repeat' (first|(with_reducible first|refine DS.fltS yU yU yX8 ?_|refine DS.opsNil ?_|refine DS.seq ?_|refine DS.regionL ?_)|(refine DS.bsl yU yX8 yX8 ?_;simp only[go_sem,Nat.zero_add,Nat.reduceAdd])|(refine DS.store yR yX8 yX8 yX8 yX8 yU (by exact⟨by with_unfolding_all rfl,by(try simp only[List.length_map,List.length_append,List.length_set,List.length_replicate,List.length_cons,List.length_nil]);omega⟩) ?_;simp only[putV_none,setAll_cons,setAll_nil,scells_v,scells_own,scells_lst,scells_agg];try simp only[strip_tmp,strip_const,lookV_cons,Nat.reduceEqDiff,↓reduceIte,stripO_own,stripO_lst,stripO_v,stripO_plc,stripO_agg,stripO_fn,stripO_ifc])|fail)
 refine DS.mapO (b:=b0) deep (fun _ _ _ h=>deep_Rl h) (fun v=>inL_free _ v) (by(simp (disch:=omega) only[go_sem,dopV,yV0,↓reduceIte,Nat.reduceEqDiff,Nat.reduceLT,Nat.reduceLeDiff,Nat.reduceAdd,Nat.reduceMul,Nat.reduceSub,Int.reduceToNat,Int.reduceLT,Int.reduceLE,Int.reduceEq,IntWalk.toNatUp,IntWalk.iteOmega,IntWalk.i64_in,V.flat,V.one,setS,setAll,n1,n1'];exact rfl)) ?_
 refine DS.retA (by(simp (disch:=omega) only[go_sem,dopV,yV0,↓reduceIte,Nat.reduceEqDiff,Nat.reduceLT,Nat.reduceLeDiff,Nat.reduceAdd,Nat.reduceMul,Nat.reduceSub,Int.reduceToNat,Int.reduceLT,Int.reduceLE,Int.reduceEq,IntWalk.toNatUp,IntWalk.iteOmega,IntWalk.i64_in,V.flat,V.one,setS,setAll,n1,n1'];exact rfl)) ?_
 rfl
theorem four_pc :PC Tryz.prog 44 [] fourH.val:=by
 have hs:=small_pc
 refine DC.of_run Tryz.func44 rfl Tryz.ntmps44 Tryz.results44 (by simp) (fun _ _=>?_);simp only[argV_cons,argV_nil,go_sem,Nat.zero_add,Nat.reduceAdd]
 repeat' (first|(with_reducible first|refine DS.seq ?_|refine DS.regionL ?_)|fail)
 refine DS.allocS yR yU yU (fun b0 h0=>?_)
 clear h0
 repeat' (first|(with_reducible first|refine DS.opsNil ?_|refine DS.seq ?_|refine DS.regionL ?_)|refine DS.pcS inferInstance (hs) yR yX19 ?_|fail)
 refine DS.allocS yR yU yU (fun b1 h1=>?_)
 obtain⟨n1,-⟩:=look_none' h1
 have n1':=fun e=>n1 (Eq.symm e)
 clear h1
 repeat' (first|(with_reducible first|refine DS.fltS yU yU yX8 ?_|refine DS.opsNil ?_|refine DS.seq ?_|refine DS.regionL ?_)|(refine DS.bsl yU yX8 yX8 ?_;simp only[go_sem,Nat.zero_add,Nat.reduceAdd])|(refine DS.store yR yX8 yX8 yX8 yX8 yU (by exact⟨by with_unfolding_all rfl,by(try simp only[List.length_map,List.length_append,List.length_set,List.length_replicate,List.length_cons,List.length_nil]);omega⟩) ?_;simp only[putV_none,setAll_cons,setAll_nil,scells_v,scells_own,scells_lst,scells_agg];try simp only[strip_tmp,strip_const,lookV_cons,Nat.reduceEqDiff,↓reduceIte,stripO_own,stripO_lst,stripO_v,stripO_plc,stripO_agg,stripO_fn,stripO_ifc])|fail)
 refine DS.retA (by(simp (disch:=omega) only[go_sem,dopV,yV0,↓reduceIte,Nat.reduceEqDiff,Nat.reduceLT,Nat.reduceLeDiff,Nat.reduceAdd,Nat.reduceMul,Nat.reduceSub,Int.reduceToNat,Int.reduceLT,Int.reduceLE,Int.reduceEq,IntWalk.toNatUp,IntWalk.iteOmega,IntWalk.i64_in,V.flat,V.one,setS,setAll,n1,n1'];exact rfl)) ?_
 rfl
theorem holdsL_pc (l:List Int) (hl:l.length≤1000):PC Tryz.prog 43 [ints l] (holdsV (l.map fun n=>⟨n,1⟩)):=by
 have h:PC Tryz.prog 43 [ints l] (.own false 59 2 ((l.map fun n=>(⟨n,1⟩:Hold)).map Hold.cells)):=by
  refine DC.of_run Tryz.func43 rfl Tryz.ntmps43 Tryz.results43 (by simp) (fun _ _=>?_);simp only[argV_cons,argV_nil,go_sem,Nat.zero_add,Nat.reduceAdd]
  repeat' (first|(with_reducible first|(refine DS.nilOwn (t:=2) yU yO yE ?_)|(refine DS.nilOwn (t:=3) yU yO yE ?_)|refine DS.fltS yU yU yE ?_|refine DS.opsNil ?_|refine DS.seq ?_|refine DS.regionL ?_|refine DS.block ?_)|fail)
  refine DS.loopK [0] yN (fun(i:Nat)=> [(3, .own false 59 2 (((l.take i).map fun n=>(⟨n,1⟩:Hold)).map Hold.cells)),(4,I i)]) (fun(i:Nat)=>i≤l.length) (fun(i:Nat)=>l.length-i) 0 yS (Nat.zero_le _) (fun i B hI hB=>?_);try dsimp only at hI hB;simp only[app_cons',app_nil']
  by_cases hi:i<l.length
  ·have hi':(i:Int)<(l.length:Int):=by omega
   repeat' (first|(with_reducible refine DS.mv (t:=3) yU yO yE ?_;simp only[strip_tmp,strip_const,lookV_cons,Nat.reduceEqDiff,↓reduceIte,stripO_own,stripO_lst,stripO_v,stripO_plc,stripO_agg,stripO_fn,stripO_ifc])|(with_reducible refine DS.mv (t:=11) yU yO yE ?_;simp only[strip_tmp,strip_const,lookV_cons,Nat.reduceEqDiff,↓reduceIte,stripO_own,stripO_lst,stripO_v,stripO_plc,stripO_agg,stripO_fn,stripO_ifc])|(with_reducible first|refine DS.fltS yU yU yE ?_|refine DS.opsNil ?_|refine DS.seq ?_|refine DS.regionL ?_|(refine DS.cE yE ?_;refine CG.yes ?_)|refine DS.blk ?_|refine DS.block ?_|refine DS.skip ?_)|(refine DS.bsl yU yE yE ?_;simp only[go_sem,Nat.zero_add,Nat.reduceAdd])|(refine DS.append (mm:=false) yU yE yE yU (by decide) yE (by first|exact .inl rfl|exact .inr ⟨rfl,rfl⟩) yE yX4 (by first|exact len_map cI_len _|exact len_map cR_len _|exact len_map Member.len _|exact len_map Sitting.len _|exact len_map Ruling.len _|exact len_map Hold.len _|exact len_map Node.len _|exact len_map Form.len _|exact len_map Pattern.len _|(simp only[List.mem_cons,List.not_mem_nil,or_false,forall_eq];rfl)|simp) ⟨by(try simp only[List.length_map,List.length_cons,List.length_nil,List.length_append,List.length_take,List.length_drop]);omega,by decide⟩ ?_;simp only[strip_tmp,strip_const,lookV_cons,Nat.reduceEqDiff,↓reduceIte,stripO_own,stripO_lst,stripO_v,stripO_plc,stripO_agg,stripO_fn,stripO_ifc])|fail)
   have hts:=List.take_succ_eq_append_getElem hi
   exact DS.back (hB (i+1) _ _ (by omega) (by omega) yS yS (fun b o e=>by exact e))
  ·have hi': ¬(i:Int)<(l.length:Int):=by omega
   have ht:l.take i=l:=List.take_of_length_le (by omega)
   repeat' (first|(with_reducible refine DS.mv (t:=2) yU yO yE ?_;simp only[strip_tmp,strip_const,lookV_cons,Nat.reduceEqDiff,↓reduceIte,stripO_own,stripO_lst,stripO_v,stripO_plc,stripO_agg,stripO_fn,stripO_ifc])|(with_reducible refine DS.mv (t:=19) yU yO yE ?_;simp only[strip_tmp,strip_const,lookV_cons,Nat.reduceEqDiff,↓reduceIte,stripO_own,stripO_lst,stripO_v,stripO_plc,stripO_agg,stripO_fn,stripO_ifc])|(with_reducible first|refine DS.fltS yU yU yE ?_|refine DS.opsNil ?_|refine DS.seq ?_|refine DS.regionL ?_|(refine DS.cE yE ?_;refine CG.no ?_)|refine DS.exit yU ?_)|refine DS.retT [] yE trivial ?_|fail)
   all_goals first|rfl|(exfalso;omega)
 exact h.peek
end Go.XL
namespace Go.XL
open Go.Proofs
theorem kitEqual_pc (a b:List Int):PC Tryz.prog 14 [ints a,ints b] (Bo (decide (a=b))):=by
 refine DC.of_run Tryz.func14 rfl Tryz.ntmps14 Tryz.results14 (by simp) (fun _ _=>?_);simp only[argV_cons,argV_nil,go_sem,Nat.zero_add,Nat.reduceAdd]
 refine DS.bnd (t:=0) yG (.inl rfl) (fun hb0=>?_);simp only[List.length_map]at hb0
 repeat' (first|(with_reducible first|refine DS.fltS yU yU yE ?_|refine DS.opsNil ?_|refine DS.seq ?_|refine DS.regionL ?_|(refine DS.cE yE ?_;refine CG.np (fun _=>?_) (fun _=>?_))|refine DS.block ?_|refine DS.skip ?_)|refine DS.retT [] yE trivial ?_|fail)
 ·simp_all [tupV];intro h;subst h;simp_all
 refine DS.loopG (fun(i:Nat)=> [(0,ints a),(1,ints b),(5,I i)]) (fun(i:Nat)=> []) (fun(i:Nat)=>i≤a.length∧a.take i=b.take i) (fun(i:Nat)=>a.length-i) 0 yS yS (by simp) (fun i B hI hB=>?_);try dsimp only at hI hB ⊢
 repeat' (first|(with_reducible first|refine DS.fltS yU yU yE ?_|refine DS.opsNil ?_|refine DS.seq ?_|refine DS.regionL ?_|(refine DS.cE yE ?_;first|refine CG.np (fun _=>?_) (fun _=>?_)|refine CG.p (fun _=>?_) (fun _=>?_))|refine DS.blk ?_|refine DS.block ?_|refine DS.exit yU ?_|refine DS.skip ?_)|refine DS.drawL (id:=6) [0,1,2,3,4,5,6,7] 8 (by kernel_rfl) mixed (by simp only[pickL_cons,pickL_nil,get_zero',get_cons',pickO_some];exact rfl) (by simp only[drop_zero',drop_cons',List.drop_nil];exact rfl) ?_|(with_reducible first|refine DD.fltS yU yU yU yE ?_|refine DD.nil0 ?_)|refine DS.retT [] yE trivial ?_|fail)
 ·rename_i h1 h2
  have:a≠b:=fun e=>h2 (by subst e;rfl)
  simp[tupV,this]
 ·exact DS.back (hB (i+1) _ _ (by omega) ⟨by omega,take_succ_eq hI.2 (by omega) (by omega) (by simp_all)⟩ yS yS)
 ·have:i=a.length:=by omega
  have:a=b:=by
   have h:=hI.2
   rw[List.take_of_length_le (by omega),List.take_of_length_le (by omega)]at h
   exact h
  simp[tupV,this]
end Go.XL
namespace Go.XL
open Go.Proofs
set_option maxRecDepth 100000
set_option maxHeartbeats 8000000
section
variable {P:Program} {n:Nat} {r:Rr} {Q:VEnv→Sto→Prop} {k:List Fr} {E:VEnv} {S:Sto} {dst:Option Tmp} {ty:TypeId} {pos:String} {af:Array Edge} {ops l:List Oper} {t:Nat}
theorem OpS.fieldV {v0:VH} {T m f:Nat} {fs:Array Field} {fd:Field} {c:List V} {x:Operand} (hT:P.underlying T=some (.struct fs)) (hf:fs[f]?=some fd) (he:tsz P fd.type=some (true,m)) (hx:evV E x=some (.agg c)) :
  OpS v0 P n ⟨dst, .field T x f,ty,pos,af,none⟩ E S (fun v E' S'=>v = .agg (((c.drop fd.offset).take m).map V.peek)∧E'=E∧S'=S):=by
 intro K D hv hold env a w hfl ha s0
 obtain⟨y,e1,e2⟩:=s0.rl _ _ hx
 simp only[V.Rl]at e2
 obtain⟨ys,rfl,e2⟩:=e2
 obtain⟨ti,q1,q2,q3⟩:=tsz_some he
 have hrun:(execOp a.eval ⟨dst, .field T x f,ty,pos,af,none⟩).run P w = .ok (.value (.agg (ys.toArray.extract fd.offset (fd.offset+m)))) w:=by
  simp[execOp,Instr.field,run_underlying hT,hf,ha.ev e1,part,asAgg,q3,sizeOf_run q1,q2]
 have hr:RlL hv (((c.drop fd.offset).take m).map V.peek) ((ys.drop fd.offset).take m):=RlL_peek ((e2.drop _).take _)
 refine yields_value hrun ⟨Same.refl w,_,E,S,hv,hold,PreV.refl hv,s0.put dst (v := .agg (((c.drop fd.offset).take m).map V.peek)) ?_ fun _ _=>trivial,rfl,rfl,rfl⟩
 simp only[V.Rl]
 refine⟨(ys.drop fd.offset).take m,?_,hr⟩
 congr 1
 apply Array.ext'
 simp[Array.toList_extract,List.extract_eq_take_drop]
theorem DS.fieldV {T m f off:Nat} {fs:Array Field} {fd:Field} {c:List V} {x:Operand} (hd:decide (t<n)=true) (hT:P.underlying T=some (.struct fs)) (hf:fs[f]?=some fd) (ho:fd.offset=off) (he:tsz P fd.type=some (true,m)) (hx:evV E x=some (.agg c))
  (q:DS P n r Q (.ops ops l::k) ((t, .agg (((c.drop off).take m).map V.peek))::E) S):DS P n r Q (.ops ops (⟨some t, .field T x f,ty,pos,af,none⟩::l)::k) E S:=by
 subst ho
 refine DS.step rfl rfl hd (OpS.fieldV hT hf he hx) fun v E' S' ⟨h1,h2,h3⟩=>?_
 subst h1;subst h2;subst h3;exact q
end
theorem small_best :bestH smallH [2,3,2]=(5,6):=by
 have hb:bitsM (allK [2,3,2] 3)= [0,1,2]:=by decide +kernel
 have c01:(clM smallH 0).testBit 1=true:=by decide +kernel
 have c02:(clM smallH 0).testBit 2=true:=by decide +kernel
 have c12:(clM smallH 1).testBit 2=false:=by decide +kernel
 have hl:smallH.patterns.length=3:=rfl
 rw[bestH,hl,bestM,hb]
 have e2:bestL (fun i k=>(clM smallH i).testBit k) (fun i=> [2,3,2].getD i 0) [2]=(2,[2]):=by
  rw[bestL_cons,if_neg (by simp)];simp[bestL_nil]
 have e1:bestL (fun i k=>(clM smallH i).testBit k) (fun i=> [2,3,2].getD i 0) [1,2]=(5,[1,2]):=by
  have f2:([2]:List Nat).filter (fun k=> !(clM smallH 1).testBit k)= [2]:=by simp[c12]
  rw[bestL_cons,if_neg (by simp[c12]),f2,e2];rfl
 have e0:bestL (fun i k=>(clM smallH i).testBit k) (fun i=> [2,3,2].getD i 0) [0,1,2]=(5,[1,2]):=by
  have f0:([1,2]:List Nat).filter (fun k=> !(clM smallH 0).testBit k)= []:=by simp[c01,c02]
  rw[bestL_cons,f0,e1,bestL_nil,if_pos ⟨by simp[c01],by decide⟩]
 rw[e0]
 decide +kernel
theorem small_choose :chooseS smallH [⟨0,1⟩,⟨1,1⟩,⟨2,1⟩] false=([1,2],5,0):=by
 have h0:houseS smallH=0:=by decide +kernel
 have h1:holdsGo smallH.patterns.length [⟨0,1⟩,⟨1,1⟩,⟨2,1⟩] (-1)=0:=by decide +kernel
 have h2:valsS smallH [⟨0,1⟩,⟨1,1⟩,⟨2,1⟩] false= [2,3,2]:=by decide +kernel
 have h3:(bitsM 6).map natI= [1,2]:=by decide +kernel
 rw[chooseS,if_neg (by rw[h0];decide),if_neg (by decide),if_neg (by rw[h1];decide),h2,small_best]
 dsimp only
 rw[h3]
theorem four_pay :payX2 fourH 480 0 1 2 1 (-1)=([0,2300,-2300,0],0):=by decide +kernel
theorem small_pts :ptsS smallH.scale 30 3=1920:=by decide +kernel
theorem awake5_pc :PC Tryz.prog 15 [] (Bo true):=by
 have k1:=small_pc
 have k2:=holdsL_pc [0,1,2] (by decide)
 have k3:=choose_pc smallH [⟨0,1⟩,⟨1,1⟩,⟨2,1⟩] false (by decide)
 have k4:=four_pc
 have k5:=payment_pc fourH (conds fourH) 480 0 1 2 1 (-1)
 have k6:=kitEqual_pc [1,2] [1,2]
 have k7:=kitEqual_pc [0,2300,-2300,0] [0,2300,-2300,0]
 have k8:=points_pc smallH.scale 30 3
 rw[small_choose]at k3
 rw[four_pay]at k5
 rw[small_pts]at k8
 generalize smallH=H1 at *
 refine DC.of_run Tryz.func15 rfl Tryz.ntmps15 Tryz.results15 (by simp) (fun _ _=>?_);simp only[argV_cons,argV_nil,go_sem,Nat.zero_add,Nat.reduceAdd]
 repeat' (first|(with_reducible first|refine DS.fltS yU yU yE ?_|refine DS.opsNil ?_|refine DS.seq ?_|refine DS.regionL ?_|(refine DS.gE yU yE ?_;refine GG.run ?_))|(refine DS.bsl yU yE yE ?_;simp only[go_sem,Nat.zero_add,Nat.reduceAdd])|refine DS.pcS inferInstance (k1) yR yF ?_|refine DS.pcS inferInstance (k2) yR yF ?_|refine DS.pcS inferInstance (k3) yR yF ?_|refine DS.pcS inferInstance (k4) yR yF ?_|refine DS.pcS inferInstance (k5) yR yF ?_|refine DS.pcS inferInstance (k6) yR yF ?_|refine DS.pcS inferInstance (k7) yR yF ?_|fail)
 refine DS.fieldV (off:=13) (by decide) Tryz.underlying37 yR yR (show tsz Tryz.prog 30=some (true,4) by kernel_rfl) yH ?_
 repeat' (first|(with_reducible first|refine DS.fltS yU yU yE ?_|refine DS.opsNil ?_|(refine DS.gE yU yE ?_;refine GG.run ?_))|refine DS.pcS inferInstance (k8) yR yF ?_|refine DS.retT [] yE trivial ?_|fail)
 all_goals rfl
end Go.XL
namespace Go.XL
open Go.Proofs
set_option maxRecDepth 100000
set_option maxHeartbeats 8000000
theorem scoreChooses_pc (h:House) (hn: ∀p∈h.patterns,p.name.size≤9223372036854775807) (holds:List Hold) (o:Bool):PC Tryz.prog 3 [h.val,holdsV holds,Bo o] (Bo true):=by
 have hl:=long0_pc h
 cases hq:longS h []with
 | true =>
  rw[hq]at hl
  refine DC.of_run Tryz.func3 rfl Tryz.ntmps3 Tryz.results3 (by simp) (fun _ _=>?_);simp only[argV_cons,argV_nil,go_sem,Nat.zero_add,Nat.reduceAdd]
  repeat' (first|(with_reducible first|refine DS.fltS yU yU yE ?_|refine DS.opsNil ?_|refine DS.seq ?_|refine DS.regionL ?_|(refine DS.cE yE ?_;refine CG.yes ?_)|(refine DS.gE yU yE ?_;refine GG.sT ?_))|refine DS.pcS inferInstance (hl) yR yT ?_|(refine DS.boxF (t:=3) yU yE yU ?_;simp only[cells_agg,cells_v,cells_lst,cells_fn,map_nil'',map_cons'',copy_own,copy_lst,copy_v,copy_at,copy_agg,copy_fn,copy_ifc,copy_tup])|refine DS.retT [] yE trivial ?_|fail)
  all_goals first|rfl|(exfalso;omega)
 | false =>
  rw[hq]at hl
  have hm:h.patterns.length≤1000000:=by have:=longS_false hq;omega
  by_cases h50:50<(holds.length:Int)
  ·clear hq hm hn
   refine DC.of_run Tryz.func3 rfl Tryz.ntmps3 Tryz.results3 (by simp) (fun _ _=>?_);simp only[argV_cons,argV_nil,go_sem,Nat.zero_add,Nat.reduceAdd]
   repeat' (first|(with_reducible first|refine DS.fltS yU yU yE ?_|refine DS.opsNil ?_|refine DS.seq ?_|refine DS.regionL ?_|(refine DS.cE yE ?_;refine CG.yes ?_)|(refine DS.gE yU yE ?_;refine GG.run ?_))|refine DS.pcS inferInstance (hl) yR yT ?_|(refine DS.boxF (t:=3) yU yE yU ?_;simp only[cells_agg,cells_v,cells_lst,cells_fn,map_nil'',map_cons'',copy_own,copy_lst,copy_v,copy_at,copy_agg,copy_fn,copy_ifc,copy_tup])|refine DS.retT [] yE trivial ?_|fail)
   all_goals first|rfl|(exfalso;omega)
  have p1:=choose_pc h holds o (by omega)
  have p2:=r5choose_pc h hm hn holds o
  have e1:=kitEqual_pc (chooseS h holds o).1 (chooseS h holds o).1
  simp only[decide_true]at e1
  generalize chooseS h holds o=X at *
  obtain⟨x1,x2,x3⟩:=X
  dsimp only at p1 p2 e1
  clear hq hm hn
  refine DC.of_run Tryz.func3 rfl Tryz.ntmps3 Tryz.results3 (by simp) (fun _ _=>?_);simp only[argV_cons,argV_nil,go_sem,Nat.zero_add,Nat.reduceAdd]
  repeat' (first|(with_reducible first|refine DS.fltS yU yU yE ?_|refine DS.opsNil ?_|refine DS.seq ?_|refine DS.regionL ?_|(refine DS.cE yE ?_;refine CG.no ?_)|(refine DS.gE yU yE ?_;refine GG.run ?_)|refine DS.skip ?_)|refine DS.pcS inferInstance (hl) yR yF ?_|refine DS.pcS inferInstance (p1) yR yF ?_|refine DS.pcS inferInstance (p2) yR yF ?_|refine DS.pcS inferInstance (e1) yR yF ?_|refine DS.pcS inferInstance (awake5_pc) yR yF ?_|(refine DS.boxF (t:=3) yU yE yU ?_;simp only[cells_agg,cells_v,cells_lst,cells_fn,map_nil'',map_cons'',copy_own,copy_lst,copy_v,copy_at,copy_agg,copy_fn,copy_ifc,copy_tup])|refine DS.retT [] yE trivial ?_|fail)
  all_goals first|rfl|(exfalso;omega)
end Go.XL
namespace Go.XL
open Go.Proofs Go.ChangeShapes Go.WideShapes Go.ChangeAt Go.RowKit
def hvW (W:World):VH:=fun b=>W.heap[b]?
def baseW (W:World) (k:Kn (hvW W)):Bs:=⟨fun b=>b<W.heap.size,W.heap,hvW W,k⟩
theorem stW (W:World) (k:Kn (hvW W)):St (baseW W k) (hvW W) (fun _=>none) [] [] [] W.heap where
 pre:=fun b o e=>⟨o,e,leO.refl o⟩
 slot:=fun t v e=>by cases e
 obj:=fun b o e=>by cases e
 held:=fun g x e=>by cases e
 base:=⟨fun b h=>h,Nat.le_refl _,fun b _=>rfl⟩
 vbase:=⟨PreV.refl _,fun _ _=>rfl⟩
structure KeptW (W W':World):Prop where
 os:W'.os=W.os
 output:W'.output=W.output
 size:W.heap.size≤W'.heap.size
 old: ∀b,b<W.heap.size→W'.heap[b]?=W.heap[b]?
theorem PC.door {P:Program} {f:FuncId} {vs:List V} {xs:List Value} (h:PC P f vs (.v (.bool true))) (W:World) (hx:RlL (hvW W) vs xs) (k:Kn (hvW W):=by exact kn_all _) :
  Calls P f xs.toArray W fun e w'=>e = .returned (.bool true)∧KeptW W w':=by
 refine(h (hvW W) (baseW W k) (hvW W) (fun _=>none) W.heap xs (PreV.refl _) hx (stW W k) W rfl).mono fun e w'=>?_
 rintro⟨y,rfl,⟨s1,s2,s3⟩,v,S',hv',hold',-,st,rfl⟩
 obtain⟨z,h1,h2,-⟩:=st.slot 0 (.v (.bool true)) rfl
 simp only[V.Rl]at h2
 subst h2
 have h3:look [(0,y)] 0=some y:=by simp[look]
 rw[h3]at h1
 cases h1
 exact⟨rfl,s1,s3,st.base.2.1,st.base.2.2⟩
theorem KeptW.keptBut {W W':World} (k:KeptW W W') (may:MemPlace→Prop):W.keptBut W' may:=by
 refine⟨k.os,k.output,fun i hi=>?_⟩
 rw[k.old i hi]
 generalize W.heap[i]?=o
 cases o with
 | none=>trivial
 | some o=>cases o <;> simp
theorem KeptW.cell {W W':World} (k:KeptW W W') {a:Addr} (h:a.block<W.heap.size):W'.cell? a=W.cell? a:=by
 unfold World.cell?
 rw[k.old _ h]
theorem KeptW.sameAt {W W':World} (k:KeptW W W') {p:MemPlace} (h:p.block<W.heap.size):W.sameAt W' p:=by
 cases p with
 | cell b off=>exact k.cell h
 | map b=>exact k.old _ h
section
variable {H:Type} {enc:TypeId×Value→H} {P:Program}
theorem trodAll_stays (hl:laidOutB P=true) {W W':World} {sp:Nat→Bool}: ∀{ts:List TypeId} {vs:List Value} {ds:List (DataW H)} {ps:List MemPlace},(∀t∈ts,P.readableRec t=true∧t<P.types.size) →
  DataW.TrodAll enc P W 0 (fun _=>true) true ts vs ds ps→(∀p∈ps,W.sameAt W' p)→(∀p∈ps,sp p.block=true)→DataW.TrodAll enc P W' 0 sp true ts vs ds ps
 | [],vs,ds,ps,_,h,_,_=>by
  obtain⟨rfl,rfl,rfl⟩:=trodAll_nil h
  rfl
 | t::ts,vs,ds,ps,ht,h,h1,h2=>by
  obtain⟨v,vs',d,ds',p,q,rfl,rfl,rfl,h3,h4⟩:=trodAll_cons h
  obtain⟨r1,r2⟩:=ht t (List.mem_cons_self ..)
  exact⟨p,q,WideElems.Trod_stays hl r1 r2 h3 (fun x hx=>h1 x (List.mem_append_left _ hx)) (fun x hx=>h2 x (List.mem_append_left _ hx)),
   trodAll_stays hl (fun t h=>ht t (List.mem_cons_of_mem _ h)) h4 (fun x hx=>h1 x (List.mem_append_right _ hx)) (fun x hx=>h2 x (List.mem_append_right _ hx)),rfl⟩
theorem post_law {f:Func} {s:ChangeSpec} {apart fresh handsOn:Bool} {W W':World} {args:Array Value} {ds gs:List (DataW H)} {before:List MemPlace} {tb:TypeId}
  (hW:DataW.Whole enc P f.params.toList s.vars apart W args.toList ds gs before) (hv:s.vars= []) (hs:s.fn H ds={results:= [.lit (.bool true)],args:=ds})
  (hrt:f.resultTypes= #[tb]) (hb:P.underlying tb=some .bool) (hl:laidOutB P=true) (hr: ∀t∈f.params.toList,P.readableRec t=true∧t<P.types.size) (k:KeptW W W') :
  s.post enc P f apart fresh handsOn false W args (.bool true) W':=by
 have hlt:=fun p hp=>hW.lt (p:=p) hp
 have hW':=hW
 obtain⟨p,q,hA,hV,rfl,-,-⟩:=hW
 rw[hv]at hV
 obtain⟨rfl,rfl⟩:=trodVars_none hV
 refine⟨ds,[],p++ [],[],p,[],hW',?_,?_,?_,k.keptBut _,fun h=>by cases h⟩
 ·rw[List.append_nil,hs,hrt]
  exact trodAll_mk1 (shut_bool hb _)
 ·rw[List.append_nil,hs]
  exact trodAll_stays hl hr hA (fun x hx=>k.sameAt (hlt x (by simpa using hx))) (fun x hx=>by simpa using hlt x (by simpa using hx))
 ·rw[List.append_nil,hs,hv]
  rfl
def Opens (P:Program) (W:World) (H:Type) (enc:TypeId×Value→H) (t:TypeId) {α:Type} (f:α→List V) (G:α→Prop):Prop :=
 ∀fuel cs x,DataW.trod enc P W 0 (fun _=>true) true fuel t cs=some x→ ∃a,RlL (hvW W) (f a) cs∧(∀u∈cs,u.oneCell'=true)∧G a
variable {W:World} {t e:TypeId}
theorem opens_int {k:IntKind} (ht:P.underlying t=some (.int k)):Opens P W H enc t (fun n:Int=> [.v (.int k n)]) (fun n=>(Lit.int k n).wf=true):=by
 intro fuel cs x h
 obtain⟨n,rfl,-,hw⟩:=DataW.trod_int ht h
 exact⟨n,by simp[RlL,V.Rl],by simp[Value.oneCell'],hw⟩
theorem opens_bool (ht:P.underlying t=some .bool):Opens P W H enc t (fun b:Bool=> [.v (.bool b)]) (fun _=>True):=by
 intro fuel cs x h
 obtain⟨b,rfl,-⟩:=DataW.trod_bool ht h
 exact⟨b,by simp[RlL,V.Rl],by simp[Value.oneCell'],trivial⟩
theorem RlL.len {hv:VH}: ∀{vs:List V} {cs:List Value},RlL hv vs cs→vs.length=cs.length
 | [],_,h=>by simp only[RlL]at h;subst h;rfl
 | v::vs,cs,h=>by
  simp only[RlL]at h
  obtain⟨z,zs,rfl,-,h⟩:=h
  simp[RlL.len h]
theorem in64_wf {n:Int} (h:(Lit.int .i64 n).wf=true) : -9223372036854775808≤n∧n≤9223372036854775807:=by
 have h1:IntKind.min .i64 = -9223372036854775808:=by decide
 have h2:IntKind.max .i64=9223372036854775807:=by decide
 simp only[Lit.wf,h1,h2,Bool.and_eq_true,decide_eq_true_eq]at h
 exact h
theorem RlL.one {hv:VH} {v:V} {y:Value} (h:v.Rl hv y):RlL hv [v] [y]:=by
 simp only[RlL];exact⟨y,[],rfl,h,rfl⟩
theorem RlL.cons_one {hv:VH} {v:V} {y:Value} {vs:List V} {ys:List Value} (h:RlL hv [v] [y]) (k:RlL hv vs ys):RlL hv (v::vs) (y::ys):=by
 simp only[RlL]at h ⊢
 obtain⟨z,zs,e,h1,h2⟩:=h
 cases e
 exact⟨_,_,rfl,h1,k⟩
theorem rlC_of {a:Addr} {m:Nat}: ∀{vs:List V} {cs:List Value} {i:Nat},RlL (hvW W) vs cs→(∀u∈cs,u.oneCell'=true)→(∀j,j<cs.length→W.cell? (a.add (i+j))=cs[j]?)→RlC (hvW W) (some a) i vs
 | [],_,_,_,_,_=>by simp only[RlC]
 | v::vs,cs,i,h,h1,h2=>by
  simp only[RlL]at h
  obtain⟨z,zs,rfl,h3,h4⟩:=h
  simp only[RlC]
  refine⟨⟨z,?_,h3,h1 z (List.mem_cons_self ..)⟩,rlC_of (m:=m) h4 (fun u hu=>h1 u (List.mem_cons_of_mem _ hu)) fun j hj=>?_⟩
  ·have:=h2 0 (by simp)
   rw[Nat.add_zero]at this
   exact this
  ·have:=h2 (j+1) (by simpa using hj)
   rw[show i+1+j=i+(j+1) by omega,this]
   rfl
theorem rlE_of {a:Addr} {sz:Nat}: ∀{l:List (List V)} {i:Nat},(∀(j:Nat) (h:j<l.length),l[j].length=sz∧RlC (hvW W) (some a) (i+j*sz) l[j])→RlE (hvW W) (some a) i l
 | [],_,_=>by simp only[RlE]
 | c::l,i,h=>by
  simp only[RlE]
  have h0:=h 0 (by simp)
  simp only[Nat.zero_mul,Nat.add_zero,List.getElem_cons_zero]at h0
  refine⟨h0.2,rlE_of (sz:=sz) fun j hj=>?_⟩
  have h1:=h (j+1) (by simpa using hj)
  simp only[List.getElem_cons_succ]at h1
  refine⟨h1.1,?_⟩
  have e:i+c.length+j*sz=i+(j+1)*sz:=by rw[h0.1,Nat.add_mul,Nat.one_mul];omega
  rw[e]
  exact h1.2
theorem choose_list {α β:Type} {R:Nat→α→Prop}: ∀(n:Nat),(∀i,i<n→ ∃a,R i a)→ ∃l:List α,l.length=n∧ ∀(i:Nat) (h:i<l.length),R i l[i]
 | 0,_=>⟨[],rfl,fun i h=>by cases h⟩
 | n+1,h=>by
  obtain⟨l,h1,h2⟩:=choose_list (β:=β) n fun i hi=>h i (by omega)
  obtain⟨a,ha⟩:=h n (by omega)
  refine⟨l++ [a],by simp[h1],fun i hi=>?_⟩
  rw[List.length_append,List.length_singleton]at hi
  by_cases h3:i<l.length
  ·rw[List.getElem_append_left h3];exact h2 i h3
  ·obtain rfl:i=l.length:=by omega
   simp only[List.getElem_concat_length]
   rw[h1];exact ha
theorem opens_slice {α:Type} {f:α→List V} {G:α→Prop} {sz:Nat} (ht:P.underlying t=some (.slice e)) (hc:P.cellsOf e=sz) (h:Opens P W H enc e f G) :
  Opens P W H enc t (fun l:List α=> [.lst (l.map f)]) (fun l=> ∀a∈l,G a):=by
 intro fuel cs x hx
 rcases DataW.trod_slice ht hx with⟨rfl,-⟩|⟨a,len,cap,elems,rest,n,rfl,rfl,-,-,h1,h2,h3,h4,-,-⟩
 ·refine⟨[],?_,by simp[Value.oneCell'],fun a h=>by cases h⟩
  simp only[RlL,V.Rl,List.map_nil]
  exact⟨_,[],rfl,⟨none,0,0,rfl,Nat.le_refl _,Nat.zero_le _,(fun c h=>by cases h),by simp only[RlE]⟩,rfl⟩
 ·obtain⟨l,hl,hk⟩:=choose_list (β:=Unit) (R:=fun i y=> ∃cs,W.cells? 0 (a.add (i*sz)) sz=some cs∧RlL (hvW W) (f y) cs∧(∀u∈cs,u.oneCell'=true)∧G y) len (fun i hi=>by
   have h5:=h4 i hi
   rw[List.getElem?_eq_getElem (by omega),Option.bind_eq_some_iff,hc]at h5
   obtain⟨cs,h6,h7⟩:=h5
   obtain⟨y,h8,h9,h10⟩:=h _ _ _ h7
   exact⟨y,cs,h6,h8,h9,h10⟩)
  have hlen: ∀y∈l,(f y).length=sz:=fun y hy=>by
   obtain⟨i,hi,rfl⟩:=List.mem_iff_getElem.1 hy
   obtain⟨cs,k1,k2,-,-⟩:=hk i hi
   rw[k2.len,(World.cells?_some k1).2.1]
  refine⟨l,?_,by simp[Value.oneCell'],fun y hy=>?_⟩
  ·simp only[RlL,V.Rl]
   refine⟨_,[],rfl,⟨some a,cap,sz,by rw[List.length_map,hl],by rw[List.length_map,hl];exact h1,h2,fun c hc=>?_,rlE_of (sz:=sz) fun j hj=>?_⟩,rfl⟩
   ·obtain⟨y,hy,rfl⟩:=List.mem_map.1 hc
    exact hlen y hy
   ·rw[List.length_map]at hj
    rw[List.getElem_map]
    obtain⟨cs,k1,k2,k3,k4⟩:=hk j hj
    obtain⟨-,k5,k6⟩:=World.cells?_some k1
    refine⟨hlen _ (List.getElem_mem hj),rlC_of (m:=sz) k2 k3 fun i hi=>?_⟩
    rw[Nat.zero_add,←add_add]
    exact k6 i (by omega)
  ·obtain⟨i,hi,rfl⟩:=List.mem_iff_getElem.1 hy
   obtain⟨cs,-,-,-,k4⟩:=hk i hi
   exact k4
end
end Go.XL
