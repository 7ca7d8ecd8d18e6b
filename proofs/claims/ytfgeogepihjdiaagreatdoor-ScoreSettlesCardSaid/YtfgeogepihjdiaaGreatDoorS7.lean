/- A part of a program logic over the kit's walk rules, and contracts of functions in it. Conditions: as each theorem says. -/
import Derived.Test.YtfgeogepihjdiaaGreatDoorS6
import Derived.Test.YtfgeogepihjdiaaGreatDoorRows
import Derived.WideKeyArgs
import Derived.OpenShut
import Derived.WalkKit
import Derived.ProofKit
import Derived.Laws.StructEq
import Derived.WideKeyElems2
import Derived.LaidMore
import Derived.Lay
import Derived.SevenTiedAt
import Derived.Stop.Joined
import Derived.LaidSub
import Derived.Test.YtfgeogepihjdiaaGreatDoorTie
import Derived.Test.YtfgeogepihjdiaaGreatDoorCards
set_option linter.all false
namespace Go.XL
open Go.Proofs
set_option maxRecDepth 100000
set_option maxHeartbeats 8000000
theorem conds (h:House):h.CondsPC:=⟨cond_pc _ _,fun i hi=>cond_pc _ _⟩
theorem worth_pc (p:Pattern) (o:Bool):PC Tryz.prog 34 [p.val,Bo o] (I (worthS p o)):=by
 refine DC.of_run Tryz.func34 rfl Tryz.ntmps34 Tryz.results34 (by simp) (fun _ _=>?_);simp only[argV_cons,argV_nil,go_sem,Nat.zero_add,Nat.reduceAdd]
 repeat' (first|(with_reducible first|refine DS.fltS yU yU yE ?_|refine DS.opsNil ?_|refine DS.seq ?_|refine DS.regionL ?_|(refine DS.cE yE ?_;refine CG.b (fun _=>?_) (fun _=>?_))|refine DS.skip ?_)|(refine DS.boxF (t:=2) yU yE yU ?_;simp only[cells_agg,cells_v,cells_lst,cells_fn,map_nil'',map_cons'',copy_own,copy_lst,copy_v,copy_at,copy_agg,copy_fn,copy_ifc,copy_tup])|refine DS.retT [] yE trivial ?_|fail)
 all_goals (simp only[tupV,worthS];simp[*])
theorem DS.fnRaw {P:Program} {n:Nat} {r:Rr} {Q:VEnv→Sto→Prop} {k:List Fr} {E:VEnv} {S:Sto} {t:Nat} {f:FuncId} {cs:List Value} (hE:lookV E t=some (.fn f [] (cs.map V.v))) (q:DS P n r Q k ((t, .v (.func (.func f) #[] cs.toArray))::E) S):DS P n r Q k E S:=by
 intro K W a w ⟨K',D,hv,hold,env,hb,ha,s⟩ hw
 refine q K W a w ⟨K',D,hv,hold,env,hb,ha,⟨s.pre,fun u v e=>?_,s.obj,s.held,s.base,s.vbase⟩⟩ hw
 simp only[lookV]at e
 by_cases hu:t=u
 ·subst hu
  simp only[if_true,Option.some.injEq]at e;subst e
  obtain⟨y,e1,e2,_⟩:=s.slot t _ hE
  simp only[V.Rl]at e2
  obtain⟨xs,ys,rfl,h1,h2⟩:=e2
  have key: ∀(l:List Value) (ys:List Value),RlL hv (l.map V.v) ys→ys=l:=by
   intro l
   induction l with
   | nil=>intro ys h;simpa [RlL] using h
   | cons a l ih =>
    intro ys h
    simp only[List.map_cons,RlL,V.Rl]at h
    obtain⟨z,zs,rfl,rfl,h3⟩:=h
    rw[ih _ h3]
  have hx:xs= []:=by simpa [RlL] using h1
  rw[key _ _ h2,hx]at e1
  exact⟨_,e1,by simp only[V.Rl],trivial⟩
 ·rw[if_neg hu]at e;exact s.slot u v e
theorem look_none {d b:Nat} {o:Ob} {r:Sto} (h:lookS ((d,o)::r) b=none): ¬d=b∧lookS r b=none:=by
 simp only[lookS]at h
 by_cases e:d=b
 ·rw[if_pos e]at h;cases h
 ·rw[if_neg e]at h;exact⟨e,h⟩
def tailH (id:Nat):Code→Option Code
 | .seq a b=>if(match a with | .region i _ _=>i == id|_=>false)then some b else match tailH id a with|some x=>some x|none=>tailH id b
 | .cond _ a b=>match tailH id a with|some x=>some x|none=>tailH id b
 | .block _ c=>tailH id c
 | .loop c=>tailH id c
 | .scope c=>tailH id c
 | _=>none
theorem choose_tail (h:House) (L:List Int) (hok:PatsOk h) (hLl:L.length=h.patterns.length) (hLb: ∀v∈L,0≤v∧v≤1000000) (b11 bv bc b14 bm b15 b16:Nat) (d1: ¬b11=bc) (d2: ¬bv=bc) (d3: ¬bc=b14) (d4: ¬b11=b14) (d5: ¬bv=b14) (d6: ¬b14=bm) (d7: ¬bc=bm) (d8: ¬b11=bm) (d9: ¬bv=bm) (d10: ¬bm=b15) (d11: ¬b14=b15) (d12: ¬bc=b15) (d13: ¬b11=b15) (d14: ¬bv=b15) (d15: ¬b15=b16) (d16: ¬bm=b16) (d17: ¬b14=b16) (d18: ¬bc=b16) (d19: ¬b11=b16) (d20: ¬bv=b16) (d21: ¬b11=bv)
  {v0:VH} {hk:Kn v0} {cd:Code} (h3:Tryz.f12.body.bind (tailH 20)=some cd) :
  DS Tryz.prog 118 ⟨none,v0,hk⟩ (FinV Tryz.prog [.tmp 6, .tmp 7, .tmp 8] fun u _=>u = .tup [ints ((bitsM (bestH h L).2).map natI),I (bestH h L).1,I 0]) [.code cd]
   [(6, .own false 3 1 []),(11, .v (ptrV b11)),(14, .v (ptrV b14)),(15, .v (ptrV b15)),(16, .v (ptrV b16))] [(b11, .cells [.v (.slice (some ⟨bv,0,none⟩) h.patterns.length h.patterns.length)] 22),(bv, .cells (L.map I) 3),(b15, .cells [.v (.map (some bm))] 84),(bm, .raw (.map #[] 0)),(b14, .cells [.v (.slice (some ⟨bc,0,none⟩) h.patterns.length h.patterns.length)] 82),(bc, .cells (((List.range h.patterns.length).map (clM h)).map UN) 86),(b16, .cells [.v .nilFunc] 85)]:=by
 have hm:=hok.many
 obtain rfl:=Option.some.inj ((show Tryz.f12.body.bind (tailH 20)=some _ from rfl).symm.trans h3)
 clear h3
 have s1:=fun e=>d1 (Eq.symm e)
 have s2:=fun e=>d2 (Eq.symm e)
 have s3:=fun e=>d3 (Eq.symm e)
 have s4:=fun e=>d4 (Eq.symm e)
 have s5:=fun e=>d5 (Eq.symm e)
 have s6:=fun e=>d6 (Eq.symm e)
 have s7:=fun e=>d7 (Eq.symm e)
 have s8:=fun e=>d8 (Eq.symm e)
 have s9:=fun e=>d9 (Eq.symm e)
 have s10:=fun e=>d10 (Eq.symm e)
 have s11:=fun e=>d11 (Eq.symm e)
 have s12:=fun e=>d12 (Eq.symm e)
 have s13:=fun e=>d13 (Eq.symm e)
 have s14:=fun e=>d14 (Eq.symm e)
 have s15:=fun e=>d15 (Eq.symm e)
 have s16:=fun e=>d16 (Eq.symm e)
 have s17:=fun e=>d17 (Eq.symm e)
 have s18:=fun e=>d18 (Eq.symm e)
 have s19:=fun e=>d19 (Eq.symm e)
 have s20:=fun e=>d20 (Eq.symm e)
 have s21:=fun e=>d21 (Eq.symm e)
 refine DS.seq ?_
 refine DS.regionL ?_
 refine DS.fltS yR yR yG ?_
 refine DS.fnRaw (t:=84) (cs:=capsC b15 b16 b14 b11) yR ?_
 repeat' (first|(with_reducible first|refine DS.fltS yU yU yE ?_|refine DS.opsNil ?_|refine DS.seq ?_|refine DS.regionL ?_|refine DS.block ?_)|(refine DS.store yR yE yE yE yE yU (by exact⟨by with_unfolding_all rfl,by(try simp only[List.length_map,List.length_append,List.length_set,List.length_replicate,List.length_cons,List.length_nil]);omega⟩) ?_;simp only[putV_none,setAll_cons,setAll_nil,scells_v,scells_own,scells_lst,scells_agg];try simp only[strip_tmp,strip_const,lookV_cons,Nat.reduceEqDiff,↓reduceIte,stripO_own,stripO_lst,stripO_v,stripO_plc,stripO_agg,stripO_fn,stripO_ifc])|fail)
 refine DS.reS (S':= [(b11, .cells [.v (.slice (some ⟨bv,0,none⟩) h.patterns.length h.patterns.length)] 22),(bv, .cells (L.map I) 3),(b15, .cells [.v (.map (some bm))] 84),(bm, .raw (.map #[] 0)),(b14, .cells [.v (.slice (some ⟨bc,0,none⟩) h.patterns.length h.patterns.length)] 82),(bc, .cells (((List.range h.patterns.length).map (clM h)).map UN) 86),(b16, .cells [.v (Value.func (.func 36) #[] (capsC b15 b16 b14 b11).toArray)] 85)]) (fun b o e=>by simp only[setS,↓reduceIte,if_neg d15,if_neg d16,if_neg d17,if_neg d18,if_neg d19,if_neg d20];exact e) ?_
 have hall0:(0:Int)=((allK L 0:Nat):Int):=rfl
 refine DS.loopK [6,16,85,86] yN (fun(k:Nat)=> [(17,UN (allK L k)),(87,I k)]) (fun(k:Nat)=>k≤h.patterns.length) (fun(k:Nat)=>h.patterns.length-k) 0 yS (Nat.zero_le _) (fun k B hI hB=>?_);try dsimp only at hI hB;simp only[app_cons',app_nil']
 have hmk:=Nat.lt_of_lt_of_le (allK_lt L k) (show 2 ^ k≤2 ^ 64 from Nat.pow_le_pow_right (by omega) (by omega))
 clear hall0
 by_cases hkn:k<h.patterns.length
 ·have hkn':(k:Int)<(h.patterns.length:Int):=by omega
  have hkL:k<L.length:=by omega
  have hgd:L.getD k 0=L[k]:=by rw[List.getD_eq_getElem?_getD,List.getElem?_eq_getElem hkL];rfl
  by_cases hpos:0<L[k]
  ·have hnx:allK L (k+1)=allK L k ||| 2 ^ k:=by rw[allK,hgd,if_pos hpos]
   have s1:bop Tryz.prog .shl 86 (.int .u64 1) (.int .i64 (k:Int))=some (.int .u64 ((2 ^ k:Nat):Int)):=bop_shlU (by omega)
   have o1:bop Tryz.prog .or 86 (.int .u64 (allK L k:Nat)) (.int .u64 ((2 ^ k:Nat):Int))=some (.int .u64 ((allK L k ||| 2 ^ k:Nat):Int)):=bop_orU (by simpa using hmk) (show _<2 ^ 64 from Nat.pow_lt_pow_right (by omega) (by omega))
   have HN:=Box.mk hnx
   clear hgd hnx
   repeat' (first|(with_reducible first|refine DS.fltS yU yU yE ?_|refine DS.opsNil ?_|refine DS.seq ?_|refine DS.regionL ?_|(refine DS.cE yE ?_;refine CG.yes ?_)|refine DS.blk ?_|refine DS.block ?_|refine DS.skip ?_)|fail)
   exact DS.back (hB (k+1) _ _ (by omega) (by omega) (by rw[HN.out];simp (disch:=omega) only[go_sem,dopV,yV0,↓reduceIte,Nat.reduceEqDiff,Nat.reduceLT,Nat.reduceLeDiff,Nat.reduceAdd,Nat.reduceMul,Nat.reduceSub,Int.reduceToNat,Int.reduceLT,Int.reduceLE,Int.reduceEq,IntWalk.toNatUp,IntWalk.iteOmega,IntWalk.i64_in,V.flat,V.one,subV_cons,subV_nil,subS_cons,subS_nil,and_self,Int.natCast_add,Int.natCast_one,Int.natCast_zero,Int.zero_add,Int.reduceAdd,List.map_append,ints,rows, *]) yS (fun b o e=>by exact e))
  ·have hnx:allK L (k+1)=allK L k:=by rw[allK,hgd,if_neg hpos]
   have HN:=Box.mk hnx
   clear hgd hnx
   repeat' (first|(with_reducible first|refine DS.fltS yU yU yE ?_|refine DS.opsNil ?_|refine DS.seq ?_|refine DS.regionL ?_|(refine DS.cE yE ?_;first|refine CG.yes ?_|refine CG.no ?_)|refine DS.blk ?_|refine DS.block ?_|refine DS.skip ?_)|fail)
   exact DS.back (hB (k+1) _ _ (by omega) (by omega) (by rw[HN.out];simp (disch:=omega) only[go_sem,dopV,yV0,↓reduceIte,Nat.reduceEqDiff,Nat.reduceLT,Nat.reduceLeDiff,Nat.reduceAdd,Nat.reduceMul,Nat.reduceSub,Int.reduceToNat,Int.reduceLT,Int.reduceLE,Int.reduceEq,IntWalk.toNatUp,IntWalk.iteOmega,IntWalk.i64_in,V.flat,V.one,subV_cons,subV_nil,subS_cons,subS_nil,and_self,Int.natCast_add,Int.natCast_one,Int.natCast_zero,Int.zero_add,Int.reduceAdd,List.map_append,ints,rows, *]) yS (fun b o e=>by exact e))
 ·have hkn': ¬(k:Int)<(h.patterns.length:Int):=by omega
  have hke:k=h.patterns.length:=by omega
  have hal:allK L k=allK L h.patterns.length:=by rw[hke]
  clear hB hke
  repeat' (first|(with_reducible first|refine DS.fltS yU yU yE ?_|refine DS.opsNil ?_|refine DS.seq ?_|refine DS.regionL ?_|(refine DS.cE yE ?_;refine CG.no ?_)|refine DS.exit yU ?_)|fail)
  have hlt:allK L h.patterns.length<2 ^ h.patterns.length:=allK_lt L _
  have hfl:Fl (VHs [(b15,[.map (some bm)],84),(b16,[Value.func (.func 36) #[] (capsC b15 b16 b14 b11).toArray],85),(b14,[.slice (some ⟨bc,0,none⟩) h.patterns.length h.patterns.length],82),(bc,((List.range h.patterns.length).map (clM h)).map (fun m=>Value.int .u64 (m:Nat)),86),(b11,[.slice (some ⟨bv,0,none⟩) h.patterns.length h.patterns.length],22),(bv,L.map (fun x=>Value.int .i64 x),3)]) b15 b16 b14 b11 bm bc bv h.patterns.length (clM h) (fun i=>L.getD i 0):=by
   refine⟨?_,?_,?_,fun i hi=>?_,?_,fun i hi=>?_⟩
   ·simp only[cellV,VHs,↓reduceIte];rfl
   ·simp only[cellV,VHs,if_neg s15,↓reduceIte];rfl
   ·simp only[cellV,VHs,if_neg d11,if_neg d17,↓reduceIte];rfl
   ·simp only[cellV,VHs,if_neg d12,if_neg d18,if_neg d3,↓reduceIte]
    simp[hi]
   ·simp only[cellV,VHs,if_neg d13,if_neg d19,if_neg d4,if_neg d1,↓reduceIte];rfl
   ·simp only[cellV,VHs,if_neg d14,if_neg d20,if_neg d5,if_neg d2,if_neg s21,↓reduceIte]
    simp[hLl,hi]
  have hvs: ∀i,0≤L.getD i 0∧L.getD i 0≤1000000:=fun i=>by
   rw[List.getD_eq_getElem?_getD]
   cases e:L[i]? with
   | none=>exact⟨Int.le_refl _,by decide⟩
   | some v=>exact hLb v (List.mem_of_getElem? e)
  have hgo:=go1_dc hfl hm (fun i=>by simpa using clM_lt h i) hvs (allK L h.patterns.length+1) (allK L h.patterns.length) (by omega) hlt [(bm, .raw (.map #[] 0))] ⟨_,_,_,by rw[lookS_cons,if_pos rfl],MapIs.empty _ _,fun k hk v hv=>by cases hv⟩
  refine DS.callF (args:= [UN (allK L h.patterns.length)]) [(b15,[.map (some bm)],84),(b16,[Value.func (.func 36) #[] (capsC b15 b16 b14 b11).toArray],85),(b14,[.slice (some ⟨bc,0,none⟩) h.patterns.length h.patterns.length],82),(bc,((List.range h.patterns.length).map (clM h)).map (fun m=>Value.int .u64 (m:Nat)),86),(b11,[.slice (some ⟨bv,0,none⟩) h.patterns.length h.patterns.length],22),(bv,L.map (fun x=>Value.int .i64 x),3)] ?_ ?_ inferInstance yH (by(simp (disch:=omega) only[go_sem,dopV,yV0,↓reduceIte,Nat.reduceEqDiff,Nat.reduceLT,Nat.reduceLeDiff,Nat.reduceAdd,Nat.reduceMul,Nat.reduceSub,Int.reduceToNat,Int.reduceLT,Int.reduceLE,Int.reduceEq,IntWalk.toNatUp,IntWalk.iteOmega,IntWalk.i64_in,V.flat,V.one,hal];try exact rfl)) hgo ?_ (by decide) (fun u S' hu=>?_)
  ·simp[*]
   exact⟨⟨s11,s12,s13,s14⟩,⟨s17,s18,s19,s20⟩,⟨s3,s4,s5⟩,s1,s2⟩
  ·intro x hx
   simp only[List.mem_cons,List.not_mem_nil,or_false]at hx
   rcases hx with rfl|rfl|rfl|rfl|rfl|rfl
   ·simp only[lookS_cons,if_neg d13,if_neg d14,↓reduceIte];rfl
   ·simp only[lookS_cons,if_neg d19,if_neg d20,if_neg d15,if_neg d16,if_neg d17,if_neg d18,↓reduceIte];rfl
   ·simp only[lookS_cons,if_neg d4,if_neg d5,if_neg s11,if_neg s6,↓reduceIte];rfl
   ·simp only[lookS_cons,if_neg d1,if_neg d2,if_neg s12,if_neg s7,if_neg s3,↓reduceIte,List.map_map];rfl
   ·simp only[lookS_cons,↓reduceIte];rfl
   ·simp only[lookS_cons,if_neg d21,↓reduceIte,List.map_map];rfl
  ·intro b o e
   simp only[delSs,delS,↓reduceIte,if_neg d13,if_neg d14,if_neg d10,if_neg d11,if_neg d12,if_neg s15,if_neg d19,if_neg d20,if_neg d16,if_neg d17,if_neg d18,if_neg d4,if_neg d5,if_neg s6,if_neg d3,if_neg d1,if_neg d2,if_neg s7,if_neg s8,if_neg s21,if_neg s9]
   exact e
  obtain⟨rfl,-⟩:=hu
  rw[show bestM (fun i k=>(clM h i).testBit k) (fun i=>L.getD i 0) (allK L h.patterns.length)=bestH h L from rfl]
  have hb64:(bestH h L).2<18446744073709551616:=mask_lt _ fun j hj=>(bits_lt _ j ((bestL_sub _ _ _ _ (Nat.le_refl _)).subset hj)).1
  generalize bestH h L=bx at *
  clear hgo hfl hvs hlt hal
  repeat' (first|(with_reducible first|refine DS.fltS yU yU yE ?_|refine DS.opsNil ?_|refine DS.seq ?_|refine DS.regionL ?_|refine DS.block ?_)|(refine DS.letF (t:=20) yU yE yU (fun _=>yE) yE yU (by exact⟨by with_unfolding_all rfl,by with_unfolding_all decide⟩) (fun _=>by simp only[go_sem,Nat.reduceEqDiff,↓reduceIte]) ?_;simp only[go_sem])|fail)
  refine DS.loopK [20] yN (fun(y:List Nat×Nat)=> [(6, .own false 3 1 ((y.1.map natI).map cI)),(21,UN y.2)]) (fun(y:List Nat×Nat)=>y.2<18446744073709551616∧bitsM bx.2=y.1++bitsM y.2) (fun(y:List Nat×Nat)=>y.2) ([],bx.2) yS ⟨hb64,rfl⟩ (fun y B hI hB=>?_);try dsimp only at hI hB;simp only[app_cons',app_nil']
  obtain⟨acc,s⟩:=y
  dsimp only at hI hB
  obtain⟨i1,i2⟩:=hI
  have hlen:acc.length≤64:=by
   have h1:(bitsM bx.2).length≤64:=by
    have:=List.length_filter_le (fun i=>bx.2.testBit i) (List.range 64)
    simpa [bitsM] using this
   rw[i2,List.length_append]at h1;omega
  by_cases hs0:s=0
  ·have hs0':(s:Int)=0:=by omega
   rw[hs0,bits_zero,List.append_nil]at i2
   rw[i2]
   clear i2 hB hs0
   repeat' (first|(with_reducible first|refine DS.fltS yU yU yE ?_|refine DS.opsNil ?_|refine DS.seq ?_|refine DS.regionL ?_|(refine DS.cE yE ?_;refine CG.no ?_)|refine DS.exit yU ?_)|refine DS.drawL (id:=34) [0,1,2,3] 4 (by kernel_rfl) mixed (by simp only[pickL_cons,pickL_nil,get_zero',get_cons',pickO_some];exact rfl) (by simp only[drop_zero',drop_cons',List.drop_nil];exact rfl) ?_|(with_reducible refine DD.mvS (t:=6) yU yO yE ?_;simp only[strip_tmp,strip_const,lookV_cons,Nat.reduceEqDiff,↓reduceIte,stripO_own,stripO_lst,stripO_v,stripO_plc,stripO_agg,stripO_fn,stripO_ifc];simp only[delV_cons',delV_nil',Nat.reduceEqDiff,↓reduceIte])|(with_reducible refine DD.mvS (t:=115) yU yO yE ?_;simp only[strip_tmp,strip_const,lookV_cons,Nat.reduceEqDiff,↓reduceIte,stripO_own,stripO_lst,stripO_v,stripO_plc,stripO_agg,stripO_fn,stripO_ifc];simp only[delV_cons',delV_nil',Nat.reduceEqDiff,↓reduceIte])|(with_reducible first|refine DD.fltS yU yU yU yE ?_|refine DD.nil0 ?_)|refine DS.retT [] yE trivial ?_|fail)
   all_goals first|rfl|(exfalso;omega)
  ·have hs0': ¬(s:Int)=0:=by omega
   have hcz:=ctz_pc s i1
   have hpr:=and_pred hs0 (by simpa using i1)
   have hbc2:=bits_cons hs0 (by simpa using i1)
   have hw:IntKind.u64.wrap ((s:Int)-1)=((s-1:Nat):Int):=by rw[IntWalk.u64_in _ (by omega)];omega
   have ha:bop Tryz.prog .and 86 (.int .u64 (s:Int)) (.int .u64 ((s-1:Nat):Int))=some (.int .u64 ((s &&& (s-1):Nat):Int)):=bop_andU i1 (by omega)
   rw[←hpr]at hbc2
   have hle:s &&& (s-1)≤s-1:=Nat.and_le_right
   have HB:=Box.mk (And.intro hbc2 (And.intro i2 hB))
   clear hbc2 i2 hB hpr
   have hnat: ∀n:Nat,natI n=(n:Int):=fun _=>rfl
   repeat' (first|(with_reducible refine DS.mv (t:=6) yU yO yE ?_;simp only[strip_tmp,strip_const,lookV_cons,Nat.reduceEqDiff,↓reduceIte,stripO_own,stripO_lst,stripO_v,stripO_plc,stripO_agg,stripO_fn,stripO_ifc])|(with_reducible refine DS.mv (t:=110) yU yO yE ?_;simp only[strip_tmp,strip_const,lookV_cons,Nat.reduceEqDiff,↓reduceIte,stripO_own,stripO_lst,stripO_v,stripO_plc,stripO_agg,stripO_fn,stripO_ifc])|(with_reducible first|refine DS.fltS yU yU yE ?_|refine DS.opsNil ?_|refine DS.seq ?_|refine DS.regionL ?_|(refine DS.cE yE ?_;refine CG.yes ?_)|refine DS.blk ?_|refine DS.block ?_|refine DS.skip ?_)|(refine DS.bsl yU yE yE ?_;simp only[go_sem,Nat.zero_add,Nat.reduceAdd])|(refine DS.append (mm:=false) yU yE yE yU (by decide) yE (by first|exact .inl rfl|exact .inr ⟨rfl,rfl⟩) yE yX9 (by first|exact len_map cI_len _|exact len_map cR_len _|exact len_map Member.len _|exact len_map Sitting.len _|exact len_map Ruling.len _|exact len_map Hold.len _|exact len_map Node.len _|exact len_map Form.len _|exact len_map Pattern.len _|(simp only[List.mem_cons,List.not_mem_nil,or_false,forall_eq];rfl)|simp) ⟨by(try simp only[List.length_map,List.length_cons,List.length_nil,List.length_append,List.length_take,List.length_drop]);omega,by decide⟩ ?_;simp only[strip_tmp,strip_const,lookV_cons,Nat.reduceEqDiff,↓reduceIte,stripO_own,stripO_lst,stripO_v,stripO_plc,stripO_agg,stripO_fn,stripO_ifc])|refine DS.pcS inferInstance (hcz) yR yT ?_|fail)
   exact DS.back (HB.out.2.2 (acc++ [Lib.ctz 64 s],s &&& (s-1)) _ _ (by dsimp only;omega) ⟨by dsimp only;omega,by dsimp only;rw[HB.out.2.1,HB.out.1,List.append_assoc];rfl⟩ yS yS (fun b o e=>by exact e))
theorem choose_main (h : House) (holds : List Hold) (o : Bool) (ok : h.Ok) (hk : PC Tryz.prog 33 [h.val] (I 0)) (hl : holds.length ≤ 40) (r : List Int × Int × Int)
    (hr1 : holdsGo h.patterns.length holds (-1) ≠ 0 → r = ([], 0, holdsGo h.patterns.length holds (-1)))
    (hr2 : holdsGo h.patterns.length holds (-1) = 0 → r = ((bitsM (bestH h (valsS h holds o)).2).map natI, (bestH h (valsS h holds o)).1, 0)) :
    PC Tryz.prog 12 [h.val, holdsV holds, Bo o] (.tup [ints r.1, I r.2.1, I r.2.2]) := by
  have hok := patsOk ok
  have hm := hok.many
  have e40 : ¬ (40 : Int) < (holds.length : Int) := by omega
  refine DC.of_run Tryz.func12 rfl Tryz.ntmps12 Tryz.results12 (by simp) (fun _ _ => ?_); simp only [argV_cons, argV_nil, go_sem, Nat.zero_add, Nat.reduceAdd]
  repeat' (first | (with_reducible first | (refine DS.nilOwn (t := 6) yU yO yE ?_) | refine DS.fltS yU yU yE ?_ | refine DS.opsNil ?_ | refine DS.seq ?_ | refine DS.regionL ?_ | (refine DS.cE yE ?_; refine CG.no ?_) | refine DS.skip ?_) | refine DS.pcS inferInstance (hk) yR yT ?_ | (refine DS.boxF (t := 3) yU yE yU ?_; simp only [cells_agg, cells_v, cells_lst, cells_fn, map_nil'', map_cons'', copy_own, copy_lst, copy_v, copy_at, copy_agg, copy_fn, copy_ifc, copy_tup]) | (refine DS.mkS yU yE yE yE yE yU yU ⟨by omega, by omega, by decide, by omega⟩ (fun _ hfr => ?_)) | fail)
  rename_i bv
  have hbv := hfr
  refine DS.allocS yR yU yU (fun b11 hb11 => ?_)
  have hz : (List.map V.v (Value.slice none 0 0).cells.toList) = [.v (.slice none 0 0)] := rfl
  have hz2 : zerosV (.int .i64 0) h.patterns.length = (List.replicate h.patterns.length 0).map I := by
    rw [zerosV]
    have e : (Value.int IntKind.i64 0).cells.toList.map V.v = [I 0] := rfl
    rw [e]; simp
  rw [hz, Int.toNat_natCast, hz2]
  clear hz hz2
  have hbne : ¬ b11 = bv := fun e => by rw [e] at hb11; simp [lookS] at hb11
  repeat' (first | (with_reducible first | refine DS.fltS yU yU yE ?_ | refine DS.opsNil ?_ | refine DS.seq ?_ | refine DS.regionL ?_ | refine DS.block ?_) | (refine DS.store yR yE yE yE yE yU (by exact ⟨by with_unfolding_all rfl, by (try simp only [List.length_map, List.length_append, List.length_set, List.length_replicate, List.length_cons, List.length_nil]); omega⟩) ?_; simp only [putV_none, setAll_cons, setAll_nil, scells_v, scells_own, scells_lst, scells_agg]; try simp only [strip_tmp, strip_const, lookV_cons, Nat.reduceEqDiff, ↓reduceIte, stripO_own, stripO_lst, stripO_v, stripO_plc, stripO_agg, stripO_fn, stripO_ifc]) | fail)
  refine DS.reS (S' := [(b11, .cells [.v (.slice (some ⟨bv, 0, none⟩) h.patterns.length h.patterns.length)] 22), (bv, .cells ((List.replicate h.patterns.length 0).map I) 3)]) (fun b o e => by simp only [setS, ↓reduceIte]; exact e) ?_
  refine DS.loopS [2, 3, 11, 34, 35] yN (fun (x : Nat × Int × List Int) => [(6, .own false 3 1 []), (10, I x.2.1), (36, I x.1)]) (fun (x : Nat × Int × List Int) => [(b11, .cells [.v (.slice (some ⟨bv, 0, none⟩) h.patterns.length h.patterns.length)] 22), (bv, .cells (x.2.2.map I) 3)]) (fun (x : Nat × Int × List Int) => x.1 ≤ holds.length ∧ holdsGo h.patterns.length holds (-1) = holdsGo h.patterns.length (holds.drop x.1) x.2.1 ∧ valsS h holds o = valsGo h o (holds.drop x.1) x.2.2 ∧ x.2.2.length = h.patterns.length ∧ (∀ v ∈ x.2.2, 0 ≤ v ∧ v ≤ 1000000) ∧ -1 ≤ x.2.1) (fun (x : Nat × Int × List Int) => holds.length - x.1) (0, -1, List.replicate h.patterns.length 0) yS (fun b o e => by exact e) ⟨Nat.zero_le _, rfl, rfl, by simp, fun v hv => by rw [(List.mem_replicate.1 hv).2]; decide, Int.le_refl _⟩ (fun x B hI hB => ?_); try dsimp only at hI hB; simp only [app_cons', app_nil']
  obtain ⟨k, last, L⟩ := x
  dsimp only at hI hB
  obtain ⟨i1, i2, i3, i4, i5, i6⟩ := hI
  have HB := Box.mk hB
  clear hB
  by_cases hk : k < holds.length
  · have hk' : (k : Int) < (holds.length : Int) := by omega
    rw [holdsGo_at hk] at i2
    rw [valsGo_at hk] at i3
    by_cases c1 : 0 ≤ holds[k].pattern ∧ holds[k].pattern < (h.patterns.length : Int) ∧ 1 ≤ holds[k].times ∧ holds[k].times ≤ 1000
    · rw [if_neg (fun hc => hc c1)] at i2
      by_cases c2 : holds[k].pattern ≤ last
      · rw [if_pos c2] at i2
        rw [hr1 (by rw [i2]; decide), i2]
        clear hr1 hr2 i2 i3 i5 HB
        repeat' (first | (with_reducible first | (refine DS.nilOwn (t := 6) yU yO yE ?_) | refine DS.fltS yU yU yE ?_ | refine DS.opsNil ?_ | refine DS.seq ?_ | refine DS.regionL ?_ | (refine DS.cE yE ?_; first | refine CG.p (fun _ => ?_) (fun _ => ?_) | refine CG.yes ?_) | (refine DS.gE yU yE ?_; first | refine GG.pF (fun _ => ?_) (fun _ => ?_) | refine GG.run ?_ | refine GG.sT ?_) | refine DS.block ?_ | refine DS.skip ?_) | (refine DS.letF (t := 13) yU yE yU (fun _ => yE) yE yU (by exact ⟨by with_unfolding_all rfl, by with_unfolding_all decide⟩) (fun _ => by simp only [go_sem, Nat.reduceEqDiff, ↓reduceIte]) ?_; simp only [go_sem]) | refine DS.retT [] yE trivial ?_ | fail)
        all_goals first | rfl | (exfalso; omega)
      · rw [if_neg c2] at i2
        obtain ⟨P, hP⟩ := Int.eq_ofNat_of_zero_le c1.1
        have hPn : P < h.patterns.length := by omega
        have hpk := hok.ok P hPn
        have hw := worth_pc h.patterns[P] o
        have hwb : 0 ≤ worthS h.patterns[P] o ∧ worthS h.patterns[P] o ≤ 1000 := by
          have h1 := hpk.closed
          have h2 := hpk.open_
          rw [pat_at hPn] at h1 h2
          unfold worthS; split <;> omega
        have hpt : h.pat holds[k].pattern.toNat = h.patterns[P] := by rw [hP, Int.toNat_natCast, pat_at hPn]
        rw [hpt, hP, Int.toNat_natCast] at i3
        rw [hP] at i2
        have hmul : 0 ≤ holds[k].times * worthS h.patterns[P] o ∧ holds[k].times * worthS h.patterns[P] o ≤ 1000000 := ⟨Int.mul_nonneg (by omega) hwb.1, by
          have := Int.mul_le_mul c1.2.2.2 hwb.2 hwb.1 (show (0 : Int) ≤ 1000 by omega)
          omega⟩
        have c2' : ¬ (P : Int) ≤ last := by omega
        have hPn' : (P : Int) < (h.patterns.length : Int) := by omega
        have ht1 : 1 ≤ holds[k].times ∧ holds[k].times ≤ 1000 := c1.2.2
        have H := Box.mk (And.intro i2 (And.intro i3 i5))
        have hLl : P < L.length := by omega
        clear hr1 hr2 i2 i3 i5 c1 c2 hpt
        repeat' (first | (with_reducible first | (refine DS.nilOwn (t := 6) yU yO yE ?_) | refine DS.fltS yU yU yE ?_ | refine DS.opsNil ?_ | refine DS.seq ?_ | refine DS.regionL ?_ | (refine DS.cE yE ?_; first | refine CG.p (fun _ => ?_) (fun _ => ?_) | refine CG.yes ?_ | refine CG.no ?_) | (refine DS.gE yU yE ?_; first | refine GG.pF (fun _ => ?_) (fun _ => ?_) | refine GG.run ?_ | refine GG.sT ?_) | refine DS.blk ?_ | refine DS.block ?_ | refine DS.skip ?_) | (refine DS.letF (t := 13) yU yE yU (fun _ => yE) yE yU (by exact ⟨by with_unfolding_all rfl, by with_unfolding_all decide⟩) (fun _ => by simp only [go_sem, Nat.reduceEqDiff, ↓reduceIte]) ?_; simp only [go_sem]) | (refine DS.store yR yE yE yE yE yU (by exact ⟨by with_unfolding_all rfl, by (try simp only [List.length_map, List.length_append, List.length_set, List.length_replicate, List.length_cons, List.length_nil]); omega⟩) ?_; simp only [putV_none, setAll_cons, setAll_nil, scells_v, scells_own, scells_lst, scells_agg]; try simp only [strip_tmp, strip_const, lookV_cons, Nat.reduceEqDiff, ↓reduceIte, stripO_own, stripO_lst, stripO_v, stripO_plc, stripO_agg, stripO_fn, stripO_ifc]) | refine DS.drawL (id := 16) [0, 1, 2, 3, 4, 5, 6, 7, 8, 9, 10, 11] 12 (by kernel_rfl) mixed (by simp only [pickL_cons, pickL_nil, get_zero', get_cons', pickO_some]; exact rfl) (by simp only [drop_zero', drop_cons', List.drop_nil]; exact rfl) ?_ | (with_reducible first | refine DD.fltS yU yU yU yE ?_ | refine DD.nil0 ?_) | refine DD.pcV0 inferInstance (hw) yU yT ?_ | fail)
        all_goals first
          | (exfalso; omega)
          | (refine DS.back (HB.out (k + 1, (P : Int), L.set P (holds[k].times * worthS h.patterns[P] o)) _ _ (by dsimp only; omega) ⟨by dsimp only; omega, H.out.1, H.out.2.1, by simpa using i4, fun v hv => ?_, by dsimp only; omega⟩ yS yS (fun b o e => ?_))
             · rcases List.mem_or_eq_of_mem_set hv with h | h
               · exact H.out.2.2 v h
               · rw [h]; exact hmul
             · dsimp only at e
               rw [List.map_set] at e
               simp only [setS, if_neg hbne, ↓reduceIte]
               exact e)
    · rw [if_pos c1] at i2
      rw [hr1 (by rw [i2]; decide), i2]
      clear hr1 hr2 i2 i3 i5 HB
      repeat' (first | (with_reducible first | (refine DS.nilOwn (t := 6) yU yO yE ?_) | refine DS.fltS yU yU yE ?_ | refine DS.opsNil ?_ | refine DS.seq ?_ | refine DS.regionL ?_ | (refine DS.cE yE ?_; first | refine CG.p (fun _ => ?_) (fun _ => ?_) | refine CG.yes ?_) | (refine DS.gE yU yE ?_; first | refine GG.pF (fun _ => ?_) (fun _ => ?_) | refine GG.run ?_ | refine GG.sT ?_) | refine DS.block ?_ | refine DS.skip ?_) | (refine DS.letF (t := 13) yU yE yU (fun _ => yE) yE yU (by exact ⟨by with_unfolding_all rfl, by with_unfolding_all decide⟩) (fun _ => by simp only [go_sem, Nat.reduceEqDiff, ↓reduceIte]) ?_; simp only [go_sem]) | refine DS.drawL (id := 16) [0, 1, 2, 3, 4, 5, 6, 7, 8, 9, 10, 11] 12 (by kernel_rfl) mixed (by simp only [pickL_cons, pickL_nil, get_zero', get_cons', pickO_some]; exact rfl) (by simp only [drop_zero', drop_cons', List.drop_nil]; exact rfl) ?_ | with_reducible refine DD.fltS yU yU yU yE ?_ | refine DS.retT [] yE trivial ?_ | fail)
      all_goals first | rfl | (exfalso; omega)
  · have hk' : ¬ (k : Int) < (holds.length : Int) := by omega
    have h0 : holdsGo h.patterns.length holds (-1) = 0 := by rw [i2, List.drop_eq_nil_of_le (by omega)]; rfl
    have hv : valsS h holds o = L := by rw [i3, List.drop_eq_nil_of_le (by omega)]; rfl
    have hr := hr2 h0
    rw [hv] at hr
    have HR := Box.mk (And.intro hr i5)
    have hcl := clashing_dc h hok
    clear hr1 hr2 h0 hv hr i5 i2 i3 HB
    repeat' (first | (with_reducible first | refine DS.fltS yU yU yE ?_ | refine DS.opsNil ?_ | refine DS.seq ?_ | refine DS.regionL ?_ | (refine DS.cE yE ?_; refine CG.no ?_) | refine DS.exit yU ?_) | fail)
    refine DS.call (dst := some 82) [] [(b11, .cells [.v (.slice (some ⟨bv, 0, none⟩) h.patterns.length h.patterns.length)] 22), (bv, .cells (L.map I) 3)] inferInstance hcl yR yH (fun _ _ e => by cases e) (fun _ _ e => ⟨e, rfl⟩) (fun u S' hu hdis => ?_)
    obtain ⟨bc, rfl, rfl⟩ := hu
    simp only [putV_some, List.cons_append, List.nil_append]
    obtain ⟨d1, hbc⟩ := look_none (hdis bc _ (by rw [lookS_cons, if_pos rfl]))
    obtain ⟨d2, -⟩ := look_none hbc
    clear hdis hcl hbc
    refine DS.weaken (E' := [(82, .v (.slice (some ⟨bc, 0, none⟩) h.patterns.length h.patterns.length)), (6, .own false 3 1 []), (11, .v (ptrV b11))]) (subV_look ⟨by rfl, by rfl, by rfl, trivial⟩) (fun _ _ e => e) ?_
    refine DS.allocS yR yU yU (fun b14 hb14 => ?_)
    obtain ⟨d3, hb14⟩ := look_none hb14
    obtain ⟨d4, hb14⟩ := look_none hb14
    obtain ⟨d5, -⟩ := look_none hb14
    have hz : (List.map V.v (Value.slice none 0 0).cells.toList) = [.v (.slice none 0 0)] := rfl
    rw [hz]
    clear hz hb14
    repeat' (first | (with_reducible first | refine DS.opsNil ?_ | refine DS.seq ?_ | refine DS.regionL ?_) | (refine DS.store yR yE yE yE yE yU (by exact ⟨by with_unfolding_all rfl, by (try simp only [List.length_map, List.length_append, List.length_set, List.length_replicate, List.length_cons, List.length_nil]); omega⟩) ?_; simp only [putV_none, setAll_cons, setAll_nil, scells_v, scells_own, scells_lst, scells_agg]; try simp only [strip_tmp, strip_const, lookV_cons, Nat.reduceEqDiff, ↓reduceIte, stripO_own, stripO_lst, stripO_v, stripO_plc, stripO_agg, stripO_fn, stripO_ifc]) | fail)
    refine DS.reS (S' := [(b14, .cells [.v (.slice (some ⟨bc, 0, none⟩) h.patterns.length h.patterns.length)] 82), (bc, .cells (((List.range h.patterns.length).map (clM h)).map UN) 86), (b11, .cells [.v (.slice (some ⟨bv, 0, none⟩) h.patterns.length h.patterns.length)] 22), (bv, .cells (L.map I) 3)]) (fun b o e => by simp only [setS, ↓reduceIte]; exact e) ?_
    refine DS.mkMap yR (fun bm hbm => ?_)
    obtain ⟨d6, hbm⟩ := look_none hbm
    obtain ⟨d7, hbm⟩ := look_none hbm
    obtain ⟨d8, hbm⟩ := look_none hbm
    obtain ⟨d9, -⟩ := look_none hbm
    simp only [putV_some]
    refine DS.allocS yR yU yU (fun b15 hb15 => ?_)
    obtain ⟨d10, hb15⟩ := look_none hb15
    obtain ⟨d11, hb15⟩ := look_none hb15
    obtain ⟨d12, hb15⟩ := look_none hb15
    obtain ⟨d13, hb15⟩ := look_none hb15
    obtain ⟨d14, -⟩ := look_none hb15
    have hz : (List.map V.v (Value.map none).cells.toList) = [.v (.map none)] := rfl
    rw [hz]
    clear hz hbm hb15
    repeat' (first | (with_reducible first | refine DS.opsNil ?_ | refine DS.seq ?_ | refine DS.regionL ?_) | (refine DS.store yR yE yE yE yE yU (by exact ⟨by with_unfolding_all rfl, by (try simp only [List.length_map, List.length_append, List.length_set, List.length_replicate, List.length_cons, List.length_nil]); omega⟩) ?_; simp only [putV_none, setAll_cons, setAll_nil, scells_v, scells_own, scells_lst, scells_agg]; try simp only [strip_tmp, strip_const, lookV_cons, Nat.reduceEqDiff, ↓reduceIte, stripO_own, stripO_lst, stripO_v, stripO_plc, stripO_agg, stripO_fn, stripO_ifc]) | fail)
    refine DS.reS (S' := [(b15, .cells [.v (.map (some bm))] 84), (bm, .raw (.map #[] 0)), (b14, .cells [.v (.slice (some ⟨bc, 0, none⟩) h.patterns.length h.patterns.length)] 82), (bc, .cells (((List.range h.patterns.length).map (clM h)).map UN) 86), (b11, .cells [.v (.slice (some ⟨bv, 0, none⟩) h.patterns.length h.patterns.length)] 22), (bv, .cells (L.map I) 3)]) (fun b o e => by simp only [setS, ↓reduceIte]; exact e) ?_
    refine DS.allocS yR yU yU (fun b16 hb16 => ?_)
    obtain ⟨d15, hb16⟩ := look_none hb16
    obtain ⟨d16, hb16⟩ := look_none hb16
    obtain ⟨d17, hb16⟩ := look_none hb16
    obtain ⟨d18, hb16⟩ := look_none hb16
    obtain ⟨d19, hb16⟩ := look_none hb16
    obtain ⟨d20, -⟩ := look_none hb16
    have hz : (List.map V.v Value.nilFunc.cells.toList) = [.v .nilFunc] := rfl
    rw [hz]
    clear hz hb16
    refine DS.opsNil ?_
    refine DS.weaken (E' := [(6, .own false 3 1 []), (11, .v (ptrV b11)), (14, .v (ptrV b14)), (15, .v (ptrV b15)), (16, .v (ptrV b16))]) (subV_look ⟨by rfl, by rfl, by rfl, by rfl, by rfl, trivial⟩) (fun _ _ e => e) ?_
    have s1 := fun e => d1 (Eq.symm e)
    have s2 := fun e => d2 (Eq.symm e)
    have s3 := fun e => d3 (Eq.symm e)
    have s4 := fun e => d4 (Eq.symm e)
    have s5 := fun e => d5 (Eq.symm e)
    have s6 := fun e => d6 (Eq.symm e)
    have s7 := fun e => d7 (Eq.symm e)
    have s8 := fun e => d8 (Eq.symm e)
    have s9 := fun e => d9 (Eq.symm e)
    have s10 := fun e => d10 (Eq.symm e)
    have s11 := fun e => d11 (Eq.symm e)
    have s12 := fun e => d12 (Eq.symm e)
    have s13 := fun e => d13 (Eq.symm e)
    have s14 := fun e => d14 (Eq.symm e)
    have s15 := fun e => d15 (Eq.symm e)
    have s16 := fun e => d16 (Eq.symm e)
    have s17 := fun e => d17 (Eq.symm e)
    have s18 := fun e => d18 (Eq.symm e)
    have s19 := fun e => d19 (Eq.symm e)
    have s20 := fun e => d20 (Eq.symm e)
    refine DS.reS (S' := [(b11, .cells [.v (.slice (some ⟨bv, 0, none⟩) h.patterns.length h.patterns.length)] 22), (bv, .cells (L.map I) 3), (b15, .cells [.v (.map (some bm))] 84), (bm, .raw (.map #[] 0)), (b14, .cells [.v (.slice (some ⟨bc, 0, none⟩) h.patterns.length h.patterns.length)] 82), (bc, .cells (((List.range h.patterns.length).map (clM h)).map UN) 86), (b16, .cells [.v .nilFunc] 85)]) (fun b o e => ?_) ?_
    · simp only [lookS_cons, lookS_nil] at e ⊢
      by_cases h1 : b11 = b
      · rw [if_pos h1] at e
        subst h1
        rw [if_neg s19, if_neg s13, if_neg s8, if_neg s4, if_neg s1, if_pos rfl]; exact e
      rw [if_neg h1] at e
      by_cases h2 : bv = b
      · rw [if_pos h2] at e
        subst h2
        rw [if_neg s20, if_neg s14, if_neg s9, if_neg s5, if_neg s2, if_neg hbne, if_pos rfl]; exact e
      rw [if_neg h2] at e
      by_cases h3 : b15 = b
      · rw [if_pos h3] at e
        subst h3
        rw [if_neg s15, if_pos rfl]; exact e
      rw [if_neg h3] at e
      by_cases h4 : bm = b
      · rw [if_pos h4] at e
        subst h4
        rw [if_neg s16, if_neg s10, if_pos rfl]; exact e
      rw [if_neg h4] at e
      by_cases h5 : b14 = b
      · rw [if_pos h5] at e
        subst h5
        rw [if_neg s17, if_neg s11, if_neg s6, if_pos rfl]; exact e
      rw [if_neg h5] at e
      by_cases h6 : bc = b
      · rw [if_pos h6] at e
        subst h6
        rw [if_neg s18, if_neg s12, if_neg s7, if_neg s3, if_pos rfl]; exact e
      rw [if_neg h6] at e
      by_cases h7 : b16 = b
      · rw [if_pos h7] at e ⊢; exact e
      · rw [if_neg h7] at e; cases e
    rw [HR.out.1]
    exact choose_tail h L hok (by omega) HR.out.2 b11 bv bc b14 bm b15 b16 d1 d2 d3 d4 d5 d6 d7 d8 d9 d10 d11 d12 d13 d14 d15 d16 d17 d18 d19 d20 hbne yR
theorem choose_pc (h:House) (holds:List Hold) (o:Bool) (hl:holds.length≤1000000):PC Tryz.prog 12 [h.val,holdsV holds,Bo o] (.tup [ints (chooseS h holds o).1,I (chooseS h holds o).2.1,I (chooseS h holds o).2.2]):=by
 have hk:=house_pc h (conds h)
 by_cases h0:houseS h=0
 ·rw[h0]at hk
  by_cases h1:40<(holds.length:Int)
  ·have e:chooseS h holds o=([],0,8):=by rw[chooseS,if_neg (by omega),if_pos h1]
   rw[e]
   refine DC.of_run Tryz.func12 rfl Tryz.ntmps12 Tryz.results12 (by simp) (fun _ _=>?_);simp only[argV_cons,argV_nil,go_sem,Nat.zero_add,Nat.reduceAdd]
   repeat' (first|(with_reducible first|(refine DS.nilOwn (t:=6) yU yO yE ?_)|refine DS.fltS yU yU yE ?_|refine DS.opsNil ?_|refine DS.seq ?_|refine DS.regionL ?_|(refine DS.cE yE ?_;first|refine CG.yes ?_|refine CG.no ?_)|refine DS.skip ?_)|refine DS.pcS inferInstance (hk) yR yT ?_|(refine DS.boxF (t:=3) yU yE yU ?_;simp only[cells_agg,cells_v,cells_lst,cells_fn,map_nil'',map_cons'',copy_own,copy_lst,copy_v,copy_at,copy_agg,copy_fn,copy_ifc,copy_tup])|refine DS.retT [] yE trivial ?_|fail)
   all_goals first|rfl|(exfalso;omega)
  ·refine choose_main h holds o (house_ok h0) hk (by omega) _ (fun h2=>?_) (fun h2=>?_)
   ·rw[chooseS,if_neg (by omega),if_neg h1,if_pos h2]
   ·rw[chooseS,if_neg (by omega),if_neg h1,if_neg (by omega)]
 ·have e:chooseS h holds o=([],0,houseS h):=by rw[chooseS,if_pos h0]
  rw[e]
  refine DC.of_run Tryz.func12 rfl Tryz.ntmps12 Tryz.results12 (by simp) (fun _ _=>?_);simp only[argV_cons,argV_nil,go_sem,Nat.zero_add,Nat.reduceAdd]
  repeat' (first|(with_reducible first|(refine DS.nilOwn (t:=6) yU yO yE ?_)|refine DS.fltS yU yU yE ?_|refine DS.opsNil ?_|refine DS.seq ?_|refine DS.regionL ?_|(refine DS.cE yE ?_;refine CG.yes ?_))|refine DS.pcS inferInstance (hk) yR yT ?_|(refine DS.boxF (t:=3) yU yE yU ?_;simp only[cells_agg,cells_v,cells_lst,cells_fn,map_nil'',map_cons'',copy_own,copy_lst,copy_v,copy_at,copy_agg,copy_fn,copy_ifc,copy_tup])|refine DS.retT [] yE trivial ?_|fail)
  all_goals first|rfl|(exfalso;omega)
end Go.XL
namespace Go.XL
open Go.Proofs
theorem kitEqual_pc (a b:List Int):PC Tryz.prog 14 [ints a,ints b] (Bo (decide (a=b))):=by
 refine DC.of_run Tryz.func14 rfl Tryz.ntmps14 Tryz.results14 (by simp) (fun _ _=>?_);simp only[argV_cons,argV_nil,go_sem,Nat.zero_add,Nat.reduceAdd]
 refine DS.bnd (t:=0) yG (.inl rfl) (fun hb0=>?_);simp only[List.length_map]at hb0
 repeat' (first|(with_reducible first|refine DS.fltS yU yU yE ?_|refine DS.opsNil ?_|refine DS.seq ?_|refine DS.regionL ?_|(refine DS.cE yE ?_;refine CG.np (fun _=>?_) (fun _=>?_))|refine DS.block ?_|refine DS.skip ?_)|refine DS.retT [] yE trivial ?_|fail)
 ·simp_all [tupV];intro h;subst h;simp_all
 refine DS.loopG (fun(i:Nat)=> [(0,ints a),(1,ints b),(5,I i)]) (fun(i:Nat)=> []) (fun(i:Nat)=>i≤a.length∧a.take i=b.take i) (fun(i:Nat)=>a.length-i) 0 yS yS (by simp) (fun i B hI hB=>?_);try dsimp only at hI hB ⊢
 repeat' (first|(with_reducible first|refine DS.fltS yU yU yE ?_|refine DS.opsNil ?_|refine DS.seq ?_|refine DS.regionL ?_|(refine DS.cE yE ?_;first|refine CG.np (fun _=>?_) (fun _=>?_)|refine CG.p (fun _=>?_) (fun _=>?_))|refine DS.blk ?_|refine DS.block ?_|refine DS.exit yU ?_|refine DS.skip ?_)|refine DS.drawL (id:=6) [0,1,2,3,4,5,6,7] 8 (by kernel_rfl) mixed (by simp only[pickL_cons,pickL_nil,get_zero',get_cons',pickO_some];exact rfl) (by simp only[drop_zero',drop_cons',List.drop_nil];exact rfl) ?_|(with_reducible first|refine DD.fltS yU yU yU yE ?_|refine DD.nil0 ?_)|refine DS.retT [] yE trivial ?_|fail)
 ·rename_i h1 h2
  have:a≠b:=fun e=>h2 (by subst e;rfl)
  simp[tupV,this]
 ·exact DS.back (hB (i+1) _ _ (by omega) ⟨by omega,take_succ_eq hI.2 (by omega) (by omega) (by simp_all)⟩ yS yS)
 ·have:i=a.length:=by omega
  have:a=b:=by
   have h:=hI.2
   rw[List.take_of_length_le (by omega),List.take_of_length_le (by omega)]at h
   exact h
  simp[tupV,this]
end Go.XL
namespace Go.XL
open Go.Proofs
set_option maxRecDepth 100000
set_option maxHeartbeats 8000000
section
variable {P:Program} {n:Nat} {r:Rr} {Q:VEnv→Sto→Prop} {k:List Fr} {E:VEnv} {S:Sto} {dst:Option Tmp} {ty:TypeId} {pos:String} {af:Array Edge} {ops l:List Oper} {t:Nat}
theorem OpS.fieldV {v0:VH} {T m f:Nat} {fs:Array Field} {fd:Field} {c:List V} {x:Operand} (hT:P.underlying T=some (.struct fs)) (hf:fs[f]?=some fd) (he:tsz P fd.type=some (true,m)) (hx:evV E x=some (.agg c)) :
  OpS v0 P n ⟨dst, .field T x f,ty,pos,af,none⟩ E S (fun v E' S'=>v = .agg (((c.drop fd.offset).take m).map V.peek)∧E'=E∧S'=S):=by
 intro K D hv hold env a w hfl ha s0
 obtain⟨y,e1,e2⟩:=s0.rl _ _ hx
 simp only[V.Rl]at e2
 obtain⟨ys,rfl,e2⟩:=e2
 obtain⟨ti,q1,q2,q3⟩:=tsz_some he
 have hrun:(execOp a.eval ⟨dst, .field T x f,ty,pos,af,none⟩).run P w = .ok (.value (.agg (ys.toArray.extract fd.offset (fd.offset+m)))) w:=by
  simp[execOp,Instr.field,run_underlying hT,hf,ha.ev e1,part,asAgg,q3,sizeOf_run q1,q2]
 have hr:RlL hv (((c.drop fd.offset).take m).map V.peek) ((ys.drop fd.offset).take m):=RlL_peek ((e2.drop _).take _)
 refine yields_value hrun ⟨Same.refl w,_,E,S,hv,hold,PreV.refl hv,s0.put dst (v := .agg (((c.drop fd.offset).take m).map V.peek)) ?_ fun _ _=>trivial,rfl,rfl,rfl⟩
 simp only[V.Rl]
 refine⟨(ys.drop fd.offset).take m,?_,hr⟩
 congr 1
 apply Array.ext'
 simp[Array.toList_extract,List.extract_eq_take_drop]
theorem DS.fieldV {T m f off:Nat} {fs:Array Field} {fd:Field} {c:List V} {x:Operand} (hd:decide (t<n)=true) (hT:P.underlying T=some (.struct fs)) (hf:fs[f]?=some fd) (ho:fd.offset=off) (he:tsz P fd.type=some (true,m)) (hx:evV E x=some (.agg c))
  (q:DS P n r Q (.ops ops l::k) ((t, .agg (((c.drop off).take m).map V.peek))::E) S):DS P n r Q (.ops ops (⟨some t, .field T x f,ty,pos,af,none⟩::l)::k) E S:=by
 subst ho
 refine DS.step rfl rfl hd (OpS.fieldV hT hf he hx) fun v E' S' ⟨h1,h2,h3⟩=>?_
 subst h1;subst h2;subst h3;exact q
end
theorem small_best :bestH smallH [2,3,2]=(5,6):=by
 have hb:bitsM (allK [2,3,2] 3)= [0,1,2]:=by decide +kernel
 have c01:(clM smallH 0).testBit 1=true:=by decide +kernel
 have c02:(clM smallH 0).testBit 2=true:=by decide +kernel
 have c12:(clM smallH 1).testBit 2=false:=by decide +kernel
 have hl:smallH.patterns.length=3:=rfl
 rw[bestH,hl,bestM,hb]
 have e2:bestL (fun i k=>(clM smallH i).testBit k) (fun i=> [2,3,2].getD i 0) [2]=(2,[2]):=by
  rw[bestL_cons,if_neg (by simp)];simp[bestL_nil]
 have e1:bestL (fun i k=>(clM smallH i).testBit k) (fun i=> [2,3,2].getD i 0) [1,2]=(5,[1,2]):=by
  have f2:([2]:List Nat).filter (fun k=> !(clM smallH 1).testBit k)= [2]:=by simp[c12]
  rw[bestL_cons,if_neg (by simp[c12]),f2,e2];rfl
 have e0:bestL (fun i k=>(clM smallH i).testBit k) (fun i=> [2,3,2].getD i 0) [0,1,2]=(5,[1,2]):=by
  have f0:([1,2]:List Nat).filter (fun k=> !(clM smallH 0).testBit k)= []:=by simp[c01,c02]
  rw[bestL_cons,f0,e1,bestL_nil,if_pos ⟨by simp[c01],by decide⟩]
 rw[e0]
 decide +kernel
theorem small_choose :chooseS smallH [⟨0,1⟩,⟨1,1⟩,⟨2,1⟩] false=([1,2],5,0):=by
 have h0:houseS smallH=0:=by decide +kernel
 have h1:holdsGo smallH.patterns.length [⟨0,1⟩,⟨1,1⟩,⟨2,1⟩] (-1)=0:=by decide +kernel
 have h2:valsS smallH [⟨0,1⟩,⟨1,1⟩,⟨2,1⟩] false= [2,3,2]:=by decide +kernel
 have h3:(bitsM 6).map natI= [1,2]:=by decide +kernel
 rw[chooseS,if_neg (by rw[h0];decide),if_neg (by decide),if_neg (by rw[h1];decide),h2,small_best]
 dsimp only
 rw[h3]
theorem four_pay :payX2 fourH 480 0 1 2 1 (-1)=([0,2300,-2300,0],0):=by decide +kernel
theorem small_pts :ptsS smallH.scale 30 3=1920:=by decide +kernel
theorem awake5_pc :PC Tryz.prog 15 [] (Bo true):=by
 have k1:=small_pc
 have k2:=holdsL_pc [0,1,2] (by decide)
 have k3:=choose_pc smallH [⟨0,1⟩,⟨1,1⟩,⟨2,1⟩] false (by decide)
 have k4:=four_pc
 have k5:=payment_pc fourH (conds fourH) 480 0 1 2 1 (-1)
 have k6:=kitEqual_pc [1,2] [1,2]
 have k7:=kitEqual_pc [0,2300,-2300,0] [0,2300,-2300,0]
 have k8:=points_pc smallH.scale 30 3
 rw[small_choose]at k3
 rw[four_pay]at k5
 rw[small_pts]at k8
 generalize smallH=H1 at *
 refine DC.of_run Tryz.func15 rfl Tryz.ntmps15 Tryz.results15 (by simp) (fun _ _=>?_);simp only[argV_cons,argV_nil,go_sem,Nat.zero_add,Nat.reduceAdd]
 repeat' (first|(with_reducible first|refine DS.fltS yU yU yE ?_|refine DS.opsNil ?_|refine DS.seq ?_|refine DS.regionL ?_|(refine DS.gE yU yE ?_;refine GG.run ?_))|(refine DS.bsl yU yE yE ?_;simp only[go_sem,Nat.zero_add,Nat.reduceAdd])|refine DS.pcS inferInstance (k1) yR yF ?_|refine DS.pcS inferInstance (k2) yR yF ?_|refine DS.pcS inferInstance (k3) yR yF ?_|refine DS.pcS inferInstance (k4) yR yF ?_|refine DS.pcS inferInstance (k5) yR yF ?_|refine DS.pcS inferInstance (k6) yR yF ?_|refine DS.pcS inferInstance (k7) yR yF ?_|fail)
 refine DS.fieldV (off:=13) (by decide) Tryz.underlying37 yR yR (show tsz Tryz.prog 30=some (true,4) by kernel_rfl) yH ?_
 repeat' (first|(with_reducible first|refine DS.fltS yU yU yE ?_|refine DS.opsNil ?_|(refine DS.gE yU yE ?_;refine GG.run ?_))|refine DS.pcS inferInstance (k8) yR yF ?_|refine DS.retT [] yE trivial ?_|fail)
 all_goals rfl
end Go.XL
namespace Go.XL
open Go.Proofs
set_option maxRecDepth 100000
set_option maxHeartbeats 8000000
theorem scoreSettles_pc (h:House) (hn: ∀p∈h.patterns,p.name.size≤9223372036854775807) (dealer counters sticks:Int) (rows:List WinRow):PC Tryz.prog 8 [h.val,I dealer,I counters,I sticks,rowsV rows] (Bo true):=by
 have hl:=long0_pc h
 cases hq:longS h []with
 | true =>
  rw[hq]at hl
  refine DC.of_run Tryz.func8 rfl Tryz.ntmps8 Tryz.results8 (by simp) (fun _ _=>?_);simp only[argV_cons,argV_nil,go_sem,Nat.zero_add,Nat.reduceAdd]
  repeat' (first|(with_reducible first|refine DS.fltS yU yU yE ?_|refine DS.opsNil ?_|refine DS.seq ?_|refine DS.regionL ?_|(refine DS.cE yE ?_;refine CG.yes ?_)|(refine DS.gE yU yE ?_;refine GG.sT ?_))|refine DS.pcS inferInstance (hl) yR yT ?_|(refine DS.boxF (t:=5) yU yE yU ?_;simp only[cells_agg,cells_v,cells_lst,cells_fn,map_nil'',map_cons'',copy_own,copy_lst,copy_v,copy_at,copy_agg,copy_fn,copy_ifc,copy_tup])|refine DS.retT [] yE trivial ?_|fail)
  all_goals first|rfl|(exfalso;omega)
 | false =>
  rw[hq]at hl
  have hm:h.patterns.length≤1000000:=by have:=longS_false hq;omega
  have p1:=settle_pc h dealer counters sticks rows
  have p2:=r5settle_pc h hm hn dealer counters sticks rows
  have e1:=kitEqual_pc (settleX h dealer counters sticks rows).1 (settleX h dealer counters sticks rows).1
  simp only[decide_true]at e1
  generalize settleX h dealer counters sticks rows=X at *
  obtain⟨x1,x2⟩:=X
  dsimp only at p1 p2 e1
  clear hq hm hn
  refine DC.of_run Tryz.func8 rfl Tryz.ntmps8 Tryz.results8 (by simp) (fun _ _=>?_);simp only[argV_cons,argV_nil,go_sem,Nat.zero_add,Nat.reduceAdd]
  repeat' (first|(with_reducible first|refine DS.fltS yU yU yE ?_|refine DS.opsNil ?_|refine DS.seq ?_|refine DS.regionL ?_|(refine DS.cE yE ?_;refine CG.p (fun _=>?_) (fun _=>?_))|(refine DS.gE yU yE ?_;refine GG.run ?_)|refine DS.skip ?_)|refine DS.pcS inferInstance (hl) yR yF ?_|refine DS.pcS inferInstance (p1) yR yF ?_|refine DS.pcS inferInstance (p2) yR yF ?_|refine DS.pcS inferInstance (e1) yR yF ?_|refine DS.pcS inferInstance (awake5_pc) yR yF ?_|(refine DS.boxF (t:=5) yU yE yU ?_;simp only[cells_agg,cells_v,cells_lst,cells_fn,map_nil'',map_cons'',copy_own,copy_lst,copy_v,copy_at,copy_agg,copy_fn,copy_ifc,copy_tup])|refine DS.retT [] yE trivial ?_|fail)
  all_goals first|rfl|(exfalso;omega)
end Go.XL
namespace Go.XL
open Go.Proofs Go.ChangeShapes Go.WideShapes Go.ChangeAt Go.RowKit
def hvW (W:World):VH:=fun b=>W.heap[b]?
def baseW (W:World) (k:Kn (hvW W)):Bs:=⟨fun b=>b<W.heap.size,W.heap,hvW W,k⟩
theorem stW (W:World) (k:Kn (hvW W)):St (baseW W k) (hvW W) (fun _=>none) [] [] [] W.heap where
 pre:=fun b o e=>⟨o,e,leO.refl o⟩
 slot:=fun t v e=>by cases e
 obj:=fun b o e=>by cases e
 held:=fun g x e=>by cases e
 base:=⟨fun b h=>h,Nat.le_refl _,fun b _=>rfl⟩
 vbase:=⟨PreV.refl _,fun _ _=>rfl⟩
structure KeptW (W W':World):Prop where
 os:W'.os=W.os
 output:W'.output=W.output
 size:W.heap.size≤W'.heap.size
 old: ∀b,b<W.heap.size→W'.heap[b]?=W.heap[b]?
theorem PC.door {P:Program} {f:FuncId} {vs:List V} {xs:List Value} (h:PC P f vs (.v (.bool true))) (W:World) (hx:RlL (hvW W) vs xs) (k:Kn (hvW W):=by exact kn_all _) :
  Calls P f xs.toArray W fun e w'=>e = .returned (.bool true)∧KeptW W w':=by
 refine(h (hvW W) (baseW W k) (hvW W) (fun _=>none) W.heap xs (PreV.refl _) hx (stW W k) W rfl).mono fun e w'=>?_
 rintro⟨y,rfl,⟨s1,s2,s3⟩,v,S',hv',hold',-,st,rfl⟩
 obtain⟨z,h1,h2,-⟩:=st.slot 0 (.v (.bool true)) rfl
 simp only[V.Rl]at h2
 subst h2
 have h3:look [(0,y)] 0=some y:=by simp[look]
 rw[h3]at h1
 cases h1
 exact⟨rfl,s1,s3,st.base.2.1,st.base.2.2⟩
theorem KeptW.keptBut {W W':World} (k:KeptW W W') (may:MemPlace→Prop):W.keptBut W' may:=by
 refine⟨k.os,k.output,fun i hi=>?_⟩
 rw[k.old i hi]
 generalize W.heap[i]?=o
 cases o with
 | none=>trivial
 | some o=>cases o <;> simp
theorem KeptW.cell {W W':World} (k:KeptW W W') {a:Addr} (h:a.block<W.heap.size):W'.cell? a=W.cell? a:=by
 unfold World.cell?
 rw[k.old _ h]
theorem KeptW.sameAt {W W':World} (k:KeptW W W') {p:MemPlace} (h:p.block<W.heap.size):W.sameAt W' p:=by
 cases p with
 | cell b off=>exact k.cell h
 | map b=>exact k.old _ h
section
variable {H:Type} {enc:TypeId×Value→H} {P:Program}
theorem trodAll_stays (hl:laidOutB P=true) {W W':World} {sp:Nat→Bool}: ∀{ts:List TypeId} {vs:List Value} {ds:List (DataW H)} {ps:List MemPlace},(∀t∈ts,P.readableRec t=true∧t<P.types.size) →
  DataW.TrodAll enc P W 0 (fun _=>true) true ts vs ds ps→(∀p∈ps,W.sameAt W' p)→(∀p∈ps,sp p.block=true)→DataW.TrodAll enc P W' 0 sp true ts vs ds ps
 | [],vs,ds,ps,_,h,_,_=>by
  obtain⟨rfl,rfl,rfl⟩:=trodAll_nil h
  rfl
 | t::ts,vs,ds,ps,ht,h,h1,h2=>by
  obtain⟨v,vs',d,ds',p,q,rfl,rfl,rfl,h3,h4⟩:=trodAll_cons h
  obtain⟨r1,r2⟩:=ht t (List.mem_cons_self ..)
  exact⟨p,q,WideElems.Trod_stays hl r1 r2 h3 (fun x hx=>h1 x (List.mem_append_left _ hx)) (fun x hx=>h2 x (List.mem_append_left _ hx)),
   trodAll_stays hl (fun t h=>ht t (List.mem_cons_of_mem _ h)) h4 (fun x hx=>h1 x (List.mem_append_right _ hx)) (fun x hx=>h2 x (List.mem_append_right _ hx)),rfl⟩
theorem post_law {f:Func} {s:ChangeSpec} {apart fresh handsOn:Bool} {W W':World} {args:Array Value} {ds gs:List (DataW H)} {before:List MemPlace} {tb:TypeId}
  (hW:DataW.Whole enc P f.params.toList s.vars apart W args.toList ds gs before) (hv:s.vars= []) (hs:s.fn H ds={results:= [.lit (.bool true)],args:=ds})
  (hrt:f.resultTypes= #[tb]) (hb:P.underlying tb=some .bool) (hl:laidOutB P=true) (hr: ∀t∈f.params.toList,P.readableRec t=true∧t<P.types.size) (k:KeptW W W') :
  s.post enc P f apart fresh handsOn false W args (.bool true) W':=by
 have hlt:=fun p hp=>hW.lt (p:=p) hp
 have hW':=hW
 obtain⟨p,q,hA,hV,rfl,-,-⟩:=hW
 rw[hv]at hV
 obtain⟨rfl,rfl⟩:=trodVars_none hV
 refine⟨ds,[],p++ [],[],p,[],hW',?_,?_,?_,k.keptBut _,fun h=>by cases h⟩
 ·rw[List.append_nil,hs,hrt]
  exact trodAll_mk1 (shut_bool hb _)
 ·rw[List.append_nil,hs]
  exact trodAll_stays hl hr hA (fun x hx=>k.sameAt (hlt x (by simpa using hx))) (fun x hx=>by simpa using hlt x (by simpa using hx))
 ·rw[List.append_nil,hs,hv]
  rfl
def Opens (P:Program) (W:World) (H:Type) (enc:TypeId×Value→H) (t:TypeId) {α:Type} (f:α→List V) (G:α→Prop):Prop :=
 ∀fuel cs x,DataW.trod enc P W 0 (fun _=>true) true fuel t cs=some x→ ∃a,RlL (hvW W) (f a) cs∧(∀u∈cs,u.oneCell'=true)∧G a
variable {W:World} {t e:TypeId}
theorem opens_int {k:IntKind} (ht:P.underlying t=some (.int k)):Opens P W H enc t (fun n:Int=> [.v (.int k n)]) (fun n=>(Lit.int k n).wf=true):=by
 intro fuel cs x h
 obtain⟨n,rfl,-,hw⟩:=DataW.trod_int ht h
 exact⟨n,by simp[RlL,V.Rl],by simp[Value.oneCell'],hw⟩
theorem opens_bool (ht:P.underlying t=some .bool):Opens P W H enc t (fun b:Bool=> [.v (.bool b)]) (fun _=>True):=by
 intro fuel cs x h
 obtain⟨b,rfl,-⟩:=DataW.trod_bool ht h
 exact⟨b,by simp[RlL,V.Rl],by simp[Value.oneCell'],trivial⟩
theorem RlL.len {hv:VH}: ∀{vs:List V} {cs:List Value},RlL hv vs cs→vs.length=cs.length
 | [],_,h=>by simp only[RlL]at h;subst h;rfl
 | v::vs,cs,h=>by
  simp only[RlL]at h
  obtain⟨z,zs,rfl,-,h⟩:=h
  simp[RlL.len h]
theorem in64_wf {n:Int} (h:(Lit.int .i64 n).wf=true) : -9223372036854775808≤n∧n≤9223372036854775807:=by
 have h1:IntKind.min .i64 = -9223372036854775808:=by decide
 have h2:IntKind.max .i64=9223372036854775807:=by decide
 simp only[Lit.wf,h1,h2,Bool.and_eq_true,decide_eq_true_eq]at h
 exact h
theorem RlL.one {hv:VH} {v:V} {y:Value} (h:v.Rl hv y):RlL hv [v] [y]:=by
 simp only[RlL];exact⟨y,[],rfl,h,rfl⟩
theorem RlL.cons_one {hv:VH} {v:V} {y:Value} {vs:List V} {ys:List Value} (h:RlL hv [v] [y]) (k:RlL hv vs ys):RlL hv (v::vs) (y::ys):=by
 simp only[RlL]at h ⊢
 obtain⟨z,zs,e,h1,h2⟩:=h
 cases e
 exact⟨_,_,rfl,h1,k⟩
theorem rlC_of {a:Addr} {m:Nat}: ∀{vs:List V} {cs:List Value} {i:Nat},RlL (hvW W) vs cs→(∀u∈cs,u.oneCell'=true)→(∀j,j<cs.length→W.cell? (a.add (i+j))=cs[j]?)→RlC (hvW W) (some a) i vs
 | [],_,_,_,_,_=>by simp only[RlC]
 | v::vs,cs,i,h,h1,h2=>by
  simp only[RlL]at h
  obtain⟨z,zs,rfl,h3,h4⟩:=h
  simp only[RlC]
  refine⟨⟨z,?_,h3,h1 z (List.mem_cons_self ..)⟩,rlC_of (m:=m) h4 (fun u hu=>h1 u (List.mem_cons_of_mem _ hu)) fun j hj=>?_⟩
  ·have:=h2 0 (by simp)
   rw[Nat.add_zero]at this
   exact this
  ·have:=h2 (j+1) (by simpa using hj)
   rw[show i+1+j=i+(j+1) by omega,this]
   rfl
theorem rlE_of {a:Addr} {sz:Nat}: ∀{l:List (List V)} {i:Nat},(∀(j:Nat) (h:j<l.length),l[j].length=sz∧RlC (hvW W) (some a) (i+j*sz) l[j])→RlE (hvW W) (some a) i l
 | [],_,_=>by simp only[RlE]
 | c::l,i,h=>by
  simp only[RlE]
  have h0:=h 0 (by simp)
  simp only[Nat.zero_mul,Nat.add_zero,List.getElem_cons_zero]at h0
  refine⟨h0.2,rlE_of (sz:=sz) fun j hj=>?_⟩
  have h1:=h (j+1) (by simpa using hj)
  simp only[List.getElem_cons_succ]at h1
  refine⟨h1.1,?_⟩
  have e:i+c.length+j*sz=i+(j+1)*sz:=by rw[h0.1,Nat.add_mul,Nat.one_mul];omega
  rw[e]
  exact h1.2
theorem choose_list {α β:Type} {R:Nat→α→Prop}: ∀(n:Nat),(∀i,i<n→ ∃a,R i a)→ ∃l:List α,l.length=n∧ ∀(i:Nat) (h:i<l.length),R i l[i]
 | 0,_=>⟨[],rfl,fun i h=>by cases h⟩
 | n+1,h=>by
  obtain⟨l,h1,h2⟩:=choose_list (β:=β) n fun i hi=>h i (by omega)
  obtain⟨a,ha⟩:=h n (by omega)
  refine⟨l++ [a],by simp[h1],fun i hi=>?_⟩
  rw[List.length_append,List.length_singleton]at hi
  by_cases h3:i<l.length
  ·rw[List.getElem_append_left h3];exact h2 i h3
  ·obtain rfl:i=l.length:=by omega
   simp only[List.getElem_concat_length]
   rw[h1];exact ha
theorem opens_slice {α:Type} {f:α→List V} {G:α→Prop} {sz:Nat} (ht:P.underlying t=some (.slice e)) (hc:P.cellsOf e=sz) (h:Opens P W H enc e f G) :
  Opens P W H enc t (fun l:List α=> [.lst (l.map f)]) (fun l=> ∀a∈l,G a):=by
 intro fuel cs x hx
 rcases DataW.trod_slice ht hx with⟨rfl,-⟩|⟨a,len,cap,elems,rest,n,rfl,rfl,-,-,h1,h2,h3,h4,-,-⟩
 ·refine⟨[],?_,by simp[Value.oneCell'],fun a h=>by cases h⟩
  simp only[RlL,V.Rl,List.map_nil]
  exact⟨_,[],rfl,⟨none,0,0,rfl,Nat.le_refl _,Nat.zero_le _,(fun c h=>by cases h),by simp only[RlE]⟩,rfl⟩
 ·obtain⟨l,hl,hk⟩:=choose_list (β:=Unit) (R:=fun i y=> ∃cs,W.cells? 0 (a.add (i*sz)) sz=some cs∧RlL (hvW W) (f y) cs∧(∀u∈cs,u.oneCell'=true)∧G y) len (fun i hi=>by
   have h5:=h4 i hi
   rw[List.getElem?_eq_getElem (by omega),Option.bind_eq_some_iff,hc]at h5
   obtain⟨cs,h6,h7⟩:=h5
   obtain⟨y,h8,h9,h10⟩:=h _ _ _ h7
   exact⟨y,cs,h6,h8,h9,h10⟩)
  have hlen: ∀y∈l,(f y).length=sz:=fun y hy=>by
   obtain⟨i,hi,rfl⟩:=List.mem_iff_getElem.1 hy
   obtain⟨cs,k1,k2,-,-⟩:=hk i hi
   rw[k2.len,(World.cells?_some k1).2.1]
  refine⟨l,?_,by simp[Value.oneCell'],fun y hy=>?_⟩
  ·simp only[RlL,V.Rl]
   refine⟨_,[],rfl,⟨some a,cap,sz,by rw[List.length_map,hl],by rw[List.length_map,hl];exact h1,h2,fun c hc=>?_,rlE_of (sz:=sz) fun j hj=>?_⟩,rfl⟩
   ·obtain⟨y,hy,rfl⟩:=List.mem_map.1 hc
    exact hlen y hy
   ·rw[List.length_map]at hj
    rw[List.getElem_map]
    obtain⟨cs,k1,k2,k3,k4⟩:=hk j hj
    obtain⟨-,k5,k6⟩:=World.cells?_some k1
    refine⟨hlen _ (List.getElem_mem hj),rlC_of (m:=sz) k2 k3 fun i hi=>?_⟩
    rw[Nat.zero_add,←add_add]
    exact k6 i (by omega)
  ·obtain⟨i,hi,rfl⟩:=List.mem_iff_getElem.1 hy
   obtain⟨cs,-,-,-,k4⟩:=hk i hi
   exact k4
end
end Go.XL
namespace Go.XL
open Go.Proofs Go.ChangeShapes Go.WideShapes Go.ChangeAt Go.RowKit
set_option maxRecDepth 100000
abbrev N64 (n:Int):Prop := -9223372036854775808≤n∧n≤9223372036854775807
def offFs (P:Program):List Field→Nat→List TypeId→Bool
 | [],_,[]=>true
 | f::fs,i,t::ts=>f.offset == i&&f.type == t&&offFs P fs (i+P.cellsOf t) ts
 | _,_,_=>false
def sumFs (P:Program) (ts:List TypeId):Nat:=(ts.map P.cellsOf).sum
theorem rlL_app {hv:VH}: ∀{a b:List V} {x y:List Value},RlL hv a x→RlL hv b y→RlL hv (a++b) (x++y)
 | [],b,x,y,h,k=>by simp only[RlL]at h;subst h;exact k
 | v::a,b,x,y,h,k=>by
  simp only[RlL]at h
  obtain⟨z,zs,rfl,h1,h2⟩:=h
  simp only[List.cons_append,RlL]
  exact⟨z,_,rfl,h1,rlL_app h2 k⟩
section
variable {H:Type} {enc:TypeId×Value→H} {P:Program} {W:World} {t:TypeId}
def CutAt (enc:TypeId×Value→H) (P:Program) (W:World) (n:Nat):List TypeId→List Value→Prop
 | [],cs=>cs= []
 | t::ts,cs=> ∃a b,cs=a++b∧(∃y,DataW.trod enc P W 0 (fun _=>true) true n t a=some y)∧CutAt enc P W n ts b
theorem cut_of {n:Nat}: ∀{fs:List Field} {k:Nat} {ts:List TypeId} {cs:List Value},offFs P fs k ts=true→cs.length=k+sumFs P ts →
  (∀(i:Nat) (f:Field),fs[i]?=some f→ ∃y,DataW.trod enc P W 0 (fun _=>true) true n f.type ((cs.drop f.offset).take (P.cellsOf f.type))=some y)→CutAt enc P W n ts (cs.drop k)
 | [],k,[],cs,_,hl,_=>by
  simp only[CutAt]
  simp only[sumFs,List.map_nil,List.sum_nil,Nat.add_zero]at hl
  rw[←hl,List.drop_length]
 | [],k,_::_,cs,h,_,_=>by cases h
 | _::_,k,[],cs,h,_,_=>by cases h
 | f::fs,k,u::ts,cs,h,hl,hy=>by
  simp only[offFs,Bool.and_eq_true,beq_iff_eq]at h
  obtain⟨⟨h1,h2⟩,h3⟩:=h
  simp only[sumFs,List.map_cons,List.sum_cons]at hl
  obtain⟨y,h4⟩:=hy 0 f rfl
  rw[h1,h2]at h4
  refine⟨(cs.drop k).take (P.cellsOf u),(cs.drop k).drop (P.cellsOf u),(List.take_append_drop _ _).symm,⟨y,h4⟩,?_⟩
  rw[List.drop_drop]
  exact cut_of h3 (by simp only[sumFs];omega) fun i g hg=>hy (i+1) g hg
def OpensC (P:Program) (W:World) (H:Type) (enc:TypeId×Value→H) (ts:List TypeId) {α:Type} (f:α→List V) (G:α→Prop):Prop :=
 ∀n cs,CutAt enc P W n ts cs→ ∃a,RlL (hvW W) (f a) cs∧(∀u∈cs,u.oneCell'=true)∧G a
theorem OpensC.nil :OpensC P W H enc [] (fun _:Unit=> []) (fun _=>True):=fun n cs h=>by
 simp only[CutAt]at h;subst h
 exact⟨(),by simp only[RlL],fun u hu=>(by cases hu),trivial⟩
theorem Opens.cons {α β:Type} {ts:List TypeId} {f:α→List V} {g:β→List V} {G:α→Prop} {K:β→Prop} (h:Opens P W H enc t f G) (k:OpensC P W H enc ts g K) :
  OpensC P W H enc (t::ts) (fun p:α×β=>f p.1++g p.2) (fun p=>G p.1∧K p.2):=fun n cs hc=>by
 obtain⟨a,b,rfl,⟨y,hy⟩,hb⟩:=hc
 obtain⟨x,h1,h2,h3⟩:=h _ _ _ hy
 obtain⟨z,k1,k2,k3⟩:=k _ _ hb
 exact⟨(x,z),rlL_app h1 k1,fun u hu=>(List.mem_append.1 hu).elim (h2 u) (k2 u),h3,k3⟩
theorem OpensC.struct {α:Type} {ts:List TypeId} {f:α→List V} {G:α→Prop} (k:OpensC P W H enc ts f G) (ht:P.underlying t=some (.struct (P.fieldsOf t))) (hf:offFs P (P.fieldsOf t).toList 0 ts=true) (hn:P.cellsOf t=sumFs P ts) :
  Opens P W H enc t f G:=fun fuel cs x h=>by
 obtain⟨xs,n,-,-,h1,h2,h3⟩:=DataW.trod_struct ht h
 have:=cut_of (enc:=enc) (W:=W) (n:=n) (cs:=cs) hf (by rw[h1,hn,Nat.zero_add]) fun i g hg=>by
  have g1':(P.fieldsOf t)[i]?=some g:=by simpa using hg
  have h5:i<xs.length:=by
   rw[h2]
   exact(Array.getElem?_eq_some_iff.1 g1').1
  exact⟨xs[i],by rw[h3 i g g1',List.getElem?_eq_getElem h5]⟩
 rw[List.drop_zero]at this
 exact k n cs this
theorem Opens.iso {α β:Type} {f:α→List V} {G:α→Prop} {g:β→List V} {K:β→Prop} (h:Opens P W H enc t f G) (e:α→β) (h1: ∀a,f a=g (e a)) (h2: ∀a,G a→K (e a)):Opens P W H enc t g K:=fun fuel cs x hx=>by
 obtain⟨a,k1,k2,k3⟩:=h _ _ _ hx
 exact⟨e a,h1 a▸k1,k2,h2 a k3⟩
theorem Opens.agg {α:Type} {f:α→List V} {G:α→Prop} (h:Opens P W H enc t f G) (hf: ∀a,1<(f a).length) {v:Value} {fuel:Nat} {x:DataW H×List MemPlace}
  (hx:DataW.trod enc P W 0 (fun _=>true) true fuel t v.cells.toList=some x): ∃a,RlL (hvW W) [.agg (f a)] [v]∧G a:=by
 obtain⟨c,h1,-,h3⟩:=h _ _ _ hx
 have hl:=h1.len
 have:=hf c
 have hs: ∃xs,v = .agg xs:=by
  cases v <;> first|exact⟨_,rfl⟩|(simp[Value.cells]at hl;omega)
 obtain⟨xs,rfl⟩:=hs
 refine⟨c,RlL.one ?_,h3⟩
 simp only[V.Rl]
 exact⟨xs.toList,rfl,h1⟩
end
section
variable {H:Type} {enc:TypeId×Value→H} {W:World}
theorem oI :Opens Tryz.prog W H enc 3 cI N64:=fun fuel cs x h=>by
 obtain⟨a,h1,h2,h3⟩:=opens_int Tryz.underlying3 fuel cs x h
 exact⟨a,h1,h2,in64_wf h3⟩
theorem oB :Opens Tryz.prog W H enc 4 (fun b:Bool=> [.v (.bool b)]) (fun _=>True):=opens_bool Tryz.underlying4
theorem oL :Opens Tryz.prog W H enc 22 (fun l=> [ints l]) (fun l=> ∀x∈l,N64 x):=opens_slice (sz:=1) Tryz.underlying22 (by kernel_rfl) oI
theorem oLim :Opens Tryz.prog W H enc 139 Limit.cells (fun _=>True) :=
 ((oI.cons (oI.cons .nil)).struct (by kernel_rfl) (by kernel_rfl) (by kernel_rfl)).iso (fun p=>⟨p.1,p.2.1⟩) (fun _=>rfl) (fun _ _=>trivial)
theorem oScale :Opens Tryz.prog W H enc 30 Scale.cells (fun _=>True) :=
 ((oI.cons (oB.cons ((opens_slice (sz:=2) Tryz.underlying28 (by kernel_rfl) oLim).cons (oI.cons .nil)))).struct (by kernel_rfl) (by kernel_rfl) (by kernel_rfl)).iso
  (fun p=>(⟨p.1,p.2.1,p.2.2.1,p.2.2.2.1⟩:Scale)) (fun _=>rfl) (fun _ _=>trivial)
end
end Go.XL
namespace Go.XL
open Go.Proofs Go.ChangeShapes Go.WideShapes Go.ChangeAt Go.RowKit
set_option maxRecDepth 100000
def Pattern.NameIn (p:Pattern):Prop:=p.name.size≤9223372036854775807
def House.NamesIn (h:House):Prop:= ∀p∈h.patterns,p.name.size≤9223372036854775807
section
variable {H:Type} {enc:TypeId×Value→H} {W:World}
theorem oStr :Opens Tryz.prog W H enc 9 (fun b:ByteArray=> [St8 b]) (fun b=>b.size≤9223372036854775807):=by
 intro fuel cs x h
 obtain⟨s,rfl,-,hs⟩:=DataW.trod_string Tryz.underlying9 h
 exact⟨s,by simp[RlL,V.Rl],by simp[Value.oneCell'],hs⟩
theorem Opens.weak {P:Program} {t:TypeId} {α:Type} {f:α→List V} {G:α→Prop} (h:Opens P W H enc t f G):Opens P W H enc t f (fun _=>True):=fun fuel cs x hx=>by
 obtain⟨a,h1,h2,-⟩:=h _ _ _ hx
 exact⟨a,h1,h2,trivial⟩
theorem oSet :Opens Tryz.prog W H enc 24 GSet.cells (fun _=>True) :=
 ((oI.cons (oL.cons (oI.cons (oI.cons (oI.cons (oI.cons (oI.cons (oI.cons (oL.cons .nil))))))))).struct (by kernel_rfl) (by kernel_rfl) (by kernel_rfl)).iso
  (fun p=>(⟨p.1,p.2.1,p.2.2.1,p.2.2.2.1,p.2.2.2.2.1,p.2.2.2.2.2.1,p.2.2.2.2.2.2.1,p.2.2.2.2.2.2.2.1,p.2.2.2.2.2.2.2.2.1⟩:GSet)) (fun _=>rfl) (fun _ _=>trivial)
theorem oForm :Opens Tryz.prog W H enc 137 Form.cells (fun _=>True) :=
 ((oI.cons (oL.cons (oB.cons .nil))).struct (by kernel_rfl) (by kernel_rfl) (by kernel_rfl)).iso (fun p=>(⟨p.1,p.2.1,p.2.2.1⟩:Form)) (fun _=>rfl) (fun _ _=>trivial)
theorem oNode :Opens Tryz.prog W H enc 170 Node.cells (fun _=>True) :=
 ((oI.cons (oI.cons (oI.cons (oI.cons (oI.cons (oB.cons (oL.cons .nil))))))).struct (by kernel_rfl) (by kernel_rfl) (by kernel_rfl)).iso
  (fun p=>(⟨p.1,p.2.1,p.2.2.1,p.2.2.2.1,p.2.2.2.2.1,p.2.2.2.2.2.1,p.2.2.2.2.2.2.1⟩:Node)) (fun _=>rfl) (fun _ _=>trivial)
theorem oNodes :Opens Tryz.prog W H enc 27 (fun l:List Node=> [nodesV l]) (fun _=>True):=(opens_slice (sz:=7) Tryz.underlying27 (by kernel_rfl) oNode).weak
theorem oPat :Opens Tryz.prog W H enc 57 Pattern.cells Pattern.NameIn :=
 ((oStr.cons (oI.cons (oI.cons (oNodes.cons (oL.cons (oL.cons .nil)))))).struct (by kernel_rfl) (by kernel_rfl) (by kernel_rfl)).iso
  (fun p=>(⟨p.1,p.2.1,p.2.2.1,p.2.2.2.1,p.2.2.2.2.1,p.2.2.2.2.2.1⟩:Pattern)) (fun _=>rfl) (fun _ h=>h.1)
theorem oFeed :Opens Tryz.prog W H enc 113 Feed.cells (fun _=>True) :=
 ((oL.cons (oI.cons .nil)).struct (by kernel_rfl) (by kernel_rfl) (by kernel_rfl)).iso (fun p=>(⟨p.1,p.2.1⟩:Feed)) (fun _=>rfl) (fun _ _=>trivial)
theorem oPay :Opens Tryz.prog W H enc 33 Pay.cells (fun _=>True) :=
 ((oI.cons (oB.cons (oI.cons (oI.cons (oI.cons (oI.cons (oI.cons (oI.cons (oI.cons (oI.cons (oB.cons (oL.cons ((opens_slice (sz:=2) Tryz.underlying31 (by kernel_rfl) oFeed).cons .nil))))))))))))).struct (by kernel_rfl) (by kernel_rfl) (by kernel_rfl)).iso
  (fun p=>(⟨p.1,p.2.1,p.2.2.1,p.2.2.2.1,p.2.2.2.2.1,p.2.2.2.2.2.1,p.2.2.2.2.2.2.1,p.2.2.2.2.2.2.2.1,p.2.2.2.2.2.2.2.2.1,p.2.2.2.2.2.2.2.2.2.1,p.2.2.2.2.2.2.2.2.2.2.1,p.2.2.2.2.2.2.2.2.2.2.2.1,p.2.2.2.2.2.2.2.2.2.2.2.2.1⟩:Pay)) (fun _=>rfl) (fun _ _=>trivial)
theorem oPlay :Opens Tryz.prog W H enc 35 Play.cells (fun _=>True) :=
 ((oB.cons (oI.cons (oB.cons (oI.cons (oB.cons (oI.cons (oI.cons (oI.cons (oB.cons (oB.cons (oB.cons (oI.cons (oI.cons (oI.cons (oB.cons (oB.cons .nil)))))))))))))))).struct (by kernel_rfl) (by kernel_rfl) (by kernel_rfl)).iso
  (fun p=>(⟨p.1,p.2.1,p.2.2.1,p.2.2.2.1,p.2.2.2.2.1,p.2.2.2.2.2.1,p.2.2.2.2.2.2.1,p.2.2.2.2.2.2.2.1,p.2.2.2.2.2.2.2.2.1,p.2.2.2.2.2.2.2.2.2.1,p.2.2.2.2.2.2.2.2.2.2.1,p.2.2.2.2.2.2.2.2.2.2.2.1,p.2.2.2.2.2.2.2.2.2.2.2.2.1,p.2.2.2.2.2.2.2.2.2.2.2.2.2.1,p.2.2.2.2.2.2.2.2.2.2.2.2.2.2.1,p.2.2.2.2.2.2.2.2.2.2.2.2.2.2.2.1⟩:Play)) (fun _=>rfl) (fun _ _=>trivial)
theorem oHouse :Opens Tryz.prog W H enc 37 House.cells House.NamesIn :=
 ((oSet.cons ((opens_slice (sz:=3) Tryz.underlying25 (by kernel_rfl) oForm).cons ((opens_slice (sz:=6) Tryz.underlying26 (by kernel_rfl) oPat).cons (oNodes.cons (oI.cons (oScale.cons (oPay.cons (oPlay.cons .nil)))))))).struct (by kernel_rfl) (by kernel_rfl) (by kernel_rfl)).iso
  (fun p=>(⟨p.1,p.2.1,p.2.2.1,p.2.2.2.1,p.2.2.2.2.1,p.2.2.2.2.2.1,p.2.2.2.2.2.2.1,p.2.2.2.2.2.2.2.1⟩:House)) (fun _=>rfl) (fun _ h=>h.2.2.1)
end
end Go.XL
namespace Go.XL
open Go.Proofs Go.ChangeShapes Go.WideShapes Go.ChangeAt Go.RowKit
set_option maxRecDepth 100000
section
variable {H:Type} {enc:TypeId×Value→H} {W:World}
theorem oRow :Opens Tryz.prog W H enc 75 WinRow.cells (fun _=>True) :=
 ((oI.cons (oI.cons (oI.cons (oI.cons (oI.cons .nil))))).struct (by kernel_rfl) (by kernel_rfl) (by kernel_rfl)).iso (fun p=>(⟨p.1,p.2.1,p.2.2.1,p.2.2.2.1,p.2.2.2.2.1⟩:WinRow)) (fun _=>rfl) (fun _ _=>trivial)
theorem oRows :Opens Tryz.prog W H enc 71 (fun l:List WinRow=> [rowsV l]) (fun _=>True):=(opens_slice (sz:=5) Tryz.underlying71 (by kernel_rfl) oRow).weak
end
end Go.XL
namespace Go.XL
open Go.Proofs Go.Proofs.YtfgeogepihjdiaaGreatDoor Go.ChangeShapes Go.WideShapes Go.ChangeAt Go.RowKit Go.WideElems
open Go.Maps (Keyed)
theorem gModes :Tryz.prog.globalNamed "sparrow/score.modes" =some 1:=by kernel_rfl
theorem gBruijn :Tryz.prog.globalNamed "math/bits.deBruijn64tab" =some 0:=by kernel_rfl
theorem tModes :(Tryz.prog.globals[1]?).map (·.type)=some 157:=by kernel_rfl
theorem cellV_hvW (W:World) (a:Addr):cellV (hvW W) a=W.cell? a:=by
 unfold cellV hvW World.cell?
 rfl
theorem elemAt_func {H:Type} {enc:TypeId×Value→H} {P:Program} {W:World} {n:Nat} {e:TypeId} {v:Value} {y:DataW H×List MemPlace} {ps rs:Array TypeId} {va:Bool}
  (he:P.underlying e=some (.func ps rs va)) (h:elemAt enc P W 0 (fun _=>true) true n e v=some y):DataW.trod enc P W 0 (fun _=>true) true n e [v]=some y:=by
 unfold elemAt at h
 split at h
 ·rename_i hf
  cases v <;> first|exact h|(simp[Value.formed,he]at hf)
 ·cases h
theorem mem_ins {H:Type} {p:Lit×DataW H}: ∀(l:List (Lit×DataW H)),p∈l.foldr DataW.insert []↔p∈l
 | []=>by simp
 | x::l=>by rw[List.foldr_cons,ChangeMaps.mem_insert_iff,mem_ins l,List.mem_cons]
theorem modes_is {W:World} {n:Nat} {e:TypeId} {ps rs:Array TypeId} {va:Bool} {es:Array MapEntry} {clock:Nat} {names:List (List UInt8)}
  (hT:Tryz.prog.underlying 157=some (.map 3 e)) (he:Tryz.prog.underlying e=some (.func ps rs va))
  (F:Fit Tryz.prog 3 (elemAt (funcToken Tryz.prog) Tryz.prog W 0 (fun _=>true) true n e) es clock)
  (m:Int) (hm:1≤m∧m≤3) {b:UInt8} {r:List UInt8} {f0:FuncId} {L:List (Lit×DataW (List UInt8))}
  (hone:((List.range Tryz.prog.funcs.size).filter fun f=>(Tryz.prog.funcs[f]?).any (·.name.toUTF8.data.toList == b::r))= [f0])
  (hL:(es.toList.map (rg Tryz.prog 3 (elemAt (funcToken Tryz.prog) Tryz.prog W 0 (fun _=>true) true n e))).foldr DataW.insert []=L)
  (hin:(Lit.int .i64 m,DataW.held (b::r))∈L) (huniq: ∀d,(Lit.int .i64 m,d)∈L→d=DataW.held (b::r)) :
  ∀(w:World) (bk:Nat),w.heap[bk]?=some (.map es clock)→(Instr.lookup 157 (.map (some bk)) (.int .i64 m) false).run Tryz.prog w = .ok (.func (.func f0) #[] #[]) w:=by
 intro w bk hb
 have K:Keyed Tryz.prog 3:=Go.Maps.int_keyed Tryz.underlying3
 have hw:(Lit.int .i64 m).wf=true:=by
  have h1:decide (IntKind.i64.min≤m)=true:=decide_eq_true (show(-9223372036854775808:Int)≤m by omega)
  have h2:decide (m≤IntKind.i64.max)=true:=decide_eq_true (show m≤(9223372036854775807:Int) by omega)
  simp only[Lit.wf,h1,h2,Bool.and_self]
 have hkey:keyOf Tryz.prog 3 (.int .i64 m)=some (.int .i64 m):=by simp[keyOf,mapKey,Tryz.underlying3,hw]
 have hkeys: ∀x∈es.toList,∃l,keyOf Tryz.prog 3 x.key=some l:=fun x hx=>by
  obtain⟨y,hy⟩:=F.reads x hx
  exact⟨_,rd_key hy⟩
 rcases K.find w hkey es.toList hkeys with⟨_,hno⟩|⟨j,e0,hf,hj,hk⟩
 ·rw[←hL]at hin
  obtain⟨x,hx,hxe⟩:=List.mem_map.1 ((mem_ins _).1 hin)
  obtain⟨y,hy⟩:=F.reads x hx
  have h1:=rd_key hy
  rw[rg_of hy]at hxe
  subst hxe
  exact absurd (K.inj h1 hkey) (hno x hx)
 ·have he0:=List.mem_of_getElem? hj
  obtain⟨y,hy⟩:=F.reads e0 he0
  have h1:=rd_key hy
  rw[hk,hkey]at h1
  have hm1:rg Tryz.prog 3 (elemAt (funcToken Tryz.prog) Tryz.prog W 0 (fun _=>true) true n e) e0∈L:=by
   rw[←hL]
   exact(mem_ins _).2 (List.mem_map.2 ⟨e0,he0,rfl⟩)
  rw[rg_of hy]at hm1
  obtain⟨k1,d1⟩:=y
  cases h1
  obtain rfl:=huniq _ hm1
  obtain⟨z,hz,hd⟩:=rd_val hy
  have h2:=elemAt_func he hz
  obtain⟨z1,z2⟩:=z
  simp only at hd
  subst hd
  have h3:=func_of_trod he hone h2
  simp[Instr.lookup,run_underlying hT,MapKept.run_getObj_map hb,K.check w _ hkey,hf,h3,Result.andThen]
theorem getA {α:Type} {l:List α} {i:Nat} {a:α} (h:(l.drop i).take 1= [a]):l[i]?=some a:=by
 have h0:((l.drop i).take 1)[0]?=some a:=by rw[h];rfl
 simpa using h0
theorem bruijn_cells {W:World} (h:laidMetH Tryz.prog [("math/bits.deBruijn64tab",Rows.laid_math_bits_deBruijn64tab)] W): ∀r,r<64→W.cell? ⟨0,r,none⟩=some (.int .u8 (bruijn.getD r 0)):=by
 intro r hr
 rw[MakeChecks.laidMetH_plain _ _ _ (by kernel_rfl)]at h
 obtain⟨ps,⟨g,t,cs,fuel,p,q,hg,ht,hv,hd,_,_⟩,_,_⟩:=h
 obtain rfl:=Option.some.inj (gBruijn.symm.trans hg)
 obtain rfl:=Option.some.inj ((show(Tryz.prog.globals[0]?).map (·.type)=some 133 by kernel_rfl).symm.trans ht)
 obtain⟨xs,m,_,ex,_,hl,hel⟩:=DataW.trod_array Tryz.underlying133 hd
 have c5:Tryz.prog.cellsOf 5=1:=by kernel_rfl
 have hE:=hel r hr
 rw[c5,Nat.mul_one,List.getElem?_eq_getElem (by omega)]at hE
 obtain⟨z,e1,e2,_⟩:=DataW.trod_int Tryz.underlying5 hE
 have hlen:bruijn.length=64:=by decide
 have e0:(Rows.laid_math_bits_deBruijn64tab:DataW Unit) = .agg (bruijn.map fun n => .lit (.int .u8 n)):=rfl
 have e3:(xs.map (·.1))=bruijn.map fun n => .lit (.int .u8 n):=(DataW.agg.inj ((e0.symm.trans (Prod.mk.inj ex).1))).symm
 have e4:(xs.map (·.1))[r]?=(bruijn.map fun n=>(DataW.lit (.int .u8 n):DataW Unit))[r]?:=by rw[e3]
 rw[List.getElem?_map,List.getElem?_map,List.getElem?_eq_getElem (by omega:r<xs.length),List.getElem?_eq_getElem (by omega:r<bruijn.length),e2]at e4
 have hz:z=bruijn.getD r 0:=by
  simp only[Option.map_some,Option.some.injEq,DataW.lit.injEq,Lit.int.injEq,true_and]at e4
  rw[e4,List.getD,List.getElem?_eq_getElem (by omega:r<bruijn.length)];rfl
 rw[World.var?_cell hg hv r,←hz]
 have:=getA e1
 simpa using this
theorem rlC_ints {hv:VH} {g:Nat}: ∀(l:List Int) (i:Nat),(∀r (h:r<l.length),cellV hv ⟨g,i+r,none⟩=some (.int .u8 l[r]))→RlC hv (some ⟨g,0,none⟩) i (l.map fun n=>V.v (.int .u8 n))
 | [],i,_=>by simp only[List.map_nil,RlC]
 | x::l,i,h=>by
  simp only[List.map_cons,RlC]
  have h0:=h 0 (by simp)
  refine⟨⟨_,?_,V.Rl_v,rfl⟩,rlC_ints l (i+1) fun r hr=>?_⟩
  ·rw[Nat.add_zero]at h0
   have:(⟨g,0,none⟩:Addr).add i=⟨g,i,none⟩:=by unfold Addr.add;by_cases hi:i=0 <;> simp[hi]
   show cellV hv ((⟨g,0,none⟩:Addr).add i)=_
   rw[this];exact h0
  ·have:=h (r+1) (by simpa using hr)
   rw[show i+1+r=i+(r+1) by omega]
   simpa using this
theorem kn_of {W:World} {l:List (String×DataW Unit)} (h:laidMetH Tryz.prog l W) (h1:(l.filter fun x=>x.1 == "math/bits.deBruijn64tab")= [("math/bits.deBruijn64tab",Rows.laid_math_bits_deBruijn64tab)]) (h2:("sparrow/score.modes",Rows.laid_sparrow_score_modes)∈l):Kn (hvW W):=by
 refine⟨fun g c hc=>?_,?_⟩
 ·unfold knC at hc
  split at hc
  ·rename_i hg;subst hg;cases hc
   have hb:=bruijn_cells (h1▸h.filter fun x=>x.1 == "math/bits.deBruijn64tab")
   refine rlC_ints _ _ fun r hr=>?_
   rw[Nat.zero_add,cellV_hvW,hb r hr,List.getD,List.getElem?_eq_getElem hr];rfl
  ·cases hc
 ·obtain⟨g,t,cs,fuel,p,hg,ht,hv,hd⟩:=h.funcs h2
  obtain rfl:=Option.some.inj (gModes.symm.trans hg)
  obtain rfl:=Option.some.inj (tModes.symm.trans ht)
  rcases open_map Tryz.underlying157 hd with⟨_,hx⟩|⟨b,es,clock,n,rfl,hcs,hb,_,F,hx⟩
  ·simp[DataW.funcsOut]at hx
  ·simp only[Prod.mk.injEq]at hx
   have hcell:=World.var?_cell hg hv 0
   rw[Array.eq_one_of_toList hcs]at hcell
   have hL:=(DataW.map.inj hx.1).symm
   refine⟨b,es,clock,by rw[cellV_hvW];simpa using hcell,hb,fun w m hb' m1 m2=>?_⟩
   have hm:m=1∨m=2∨m=3:=by omega
   rcases hm with rfl|rfl|rfl
   ·exact modes_is (names:= []) Tryz.underlying157 Tryz.underlying156 F 1 (by omega) (b:=40) (r:= [115,112,97,114,114,111,119,47,115,99,111,114,101,46,112,97,121,109,101,110,116,41,46,97,108,111,110,101]) (by kernel_rfl) hL (by simp[DataW.funcsOutEntries,DataW.funcsOut]) (by simp[DataW.funcsOutEntries,DataW.funcsOut]) w b hb'
   ·exact modes_is (names:= []) Tryz.underlying157 Tryz.underlying156 F 2 (by omega) (b:=40) (r:= [115,112,97,114,114,111,119,47,115,99,111,114,101,46,112,97,121,109,101,110,116,41,46,97,108,108]) (by kernel_rfl) hL (by simp[DataW.funcsOutEntries,DataW.funcsOut]) (by simp[DataW.funcsOutEntries,DataW.funcsOut]) w b hb'
   ·exact modes_is (names:= []) Tryz.underlying157 Tryz.underlying156 F 3 (by omega) (b:=40) (r:= [115,112,97,114,114,111,119,47,115,99,111,114,101,46,112,97,121,109,101,110,116,41,46,98,97,115,105,99]) (by kernel_rfl) hL (by simp[DataW.funcsOutEntries,DataW.funcsOut]) (by simp[DataW.funcsOutEntries,DataW.funcsOut]) w b hb'
end Go.XL
namespace Go.XL
open Go.Proofs Go.Proofs.YtfgeogepihjdiaaGreatDoor Go.ChangeShapes Go.WideShapes Go.ChangeAt Go.RowKit
set_option maxRecDepth 100000
def laidL :List (String×DataW Unit):= [("math/bits.deBruijn64tab",Rows.laid_math_bits_deBruijn64tab),("unicode/utf8.acceptRanges",Rows.laid_unicode_utf8_acceptRanges),("sparrow/score.modes",Rows.laid_sparrow_score_modes),("unicode/utf8.first",Rows.laid_unicode_utf8_first)]
def dataL :List (String×DataW Unit):= [("math/bits.deBruijn64tab",Rows.laid_math_bits_deBruijn64tab),("unicode/utf8.acceptRanges",Rows.laid_unicode_utf8_acceptRanges),("unicode/utf8.first",Rows.laid_unicode_utf8_first)]
noncomputable def wit (os:Os):World:=(World.doorLaid Tryz.prog 600 os).layVars Tryz.prog dataL
theorem wit_os (os:Os):(wit os).os=os:=World.layVars_os _ _ _
theorem laidL_data :(laidL.filter fun x=>x.2.handleName?.isNone)=dataL:=rfl
theorem wit_fits (os:Os):(World.doorLaid Tryz.prog 600 os).layFits Tryz.prog dataL []=true:=by kernel_rfl
theorem wit_met (os:Os) (args:Array Value):laidMetH Tryz.prog laidL ((wit os).forCall (fun _ _=>0) ⟨#[],args,[]⟩).memory :=
 laidMetH_of_parts3 (fuel:=8) (by
  rw[laidL_data]
  have e1:(dataL.filter fun x=>(dataL.map (·.1)).contains x.1)=dataL:=List.filter_eq_self.2 fun x hx=>List.contains_iff_mem.2 (List.mem_map.2 ⟨x,hx,rfl⟩)
  have e2:(dataL.filter fun x=> !(dataL.map (·.1)).contains x.1)= []:=List.filter_eq_nil_iff.2 fun x hx=>by rw[List.contains_iff_mem.2 (List.mem_map.2 ⟨x,hx,rfl⟩)];simp
  have h:laidMet Tryz.prog dataL (wit os):=laidMet_layVars (w0:=World.doorLaid Tryz.prog 600 os) (dataL.map (·.1)) [] (by rw[e1];rfl) (by rw[e1];exact wit_fits os) (by rw[e1];kernel_rfl) (by rw[e2];exact LaidIn.none)
  exact h.of_heap (by simp[World.memory,World.forCall,Input.heap])) (by kernel_rfl) (by kernel_rfl)
end Go.XL
namespace Go.Proofs.YtfgeogepihjdiaaGreatDoor
open Go.XL Go.ChangeShapes Go.WideShapes Go.ChangeAt Go.RowKit
theorem own : ownKnob Tryz.prog.godebug = none := by kernel_rfl
theorem laid : laidOutB Tryz.prog = true := by kernel_rfl
set_option maxRecDepth 100000 in
theorem scoreSettles_lifted (os : Os) (started : os.Started) (H : Type) (enc : TypeId × Value → H) :
  ReturnsInHanded {} Tryz.checked os 8 .any (fun w args => (Rows.scoreSettlesSpec.pre enc Tryz.prog Tryz.f8 Rows.scoreSettlesRow.domain false w args ∧ laidMetH Tryz.prog laidL w) ∧ sizedMet enc Tryz.prog Tryz.f8 (OpenSpec.ofChange Rows.scoreSettlesSpec) false w args) (Rows.scoreSettlesSpec.post enc Tryz.prog Tryz.f8 false true false false) := by
 refine returnsInHanded_of_change_and (C := Tryz.checked) (X := fun w _ => laidMetH Tryz.prog laidL w) (fun _ _ _ hh h => h.of_heap hh) own started (by kernel_rfl) Tryz.func8
  (ChangeSpec.witness_shaped (enc := enc) (C := Tryz.checked) (os := os) (X := fun w _ => laidMetH Tryz.prog laidL w) false (wit os) #[.agg #[.int .i64 0, .slice none 0 0, .int .i64 0, .int .i64 0, .int .i64 0, .int .i64 0, .int .i64 0, .int .i64 0, .slice none 0 0, .slice none 0 0, .slice none 0 0, .slice none 0 0, .int .i64 0, .int .i64 0, .bool false, .slice none 0 0, .int .i64 0, .int .i64 0, .bool false, .int .i64 0, .int .i64 0, .int .i64 0, .int .i64 0, .int .i64 0, .int .i64 0, .int .i64 0, .int .i64 0, .bool false, .slice none 0 0, .slice none 0 0, .bool false, .int .i64 0, .bool false, .int .i64 0, .bool false, .int .i64 0, .int .i64 0, .int .i64 0, .bool false, .bool false, .bool false, .int .i64 0, .int .i64 0, .int .i64 0, .bool false, .bool false], .int .i64 0, .int .i64 0, .int .i64 0, .slice none 0 0] 8 (wit_os os)
   (World.shaped_of_ZipB (by kernel_rfl) (by kernel_rfl)) (by kernel_rfl) (by kernel_rfl) (by kernel_rfl) (wit_met os _)) ?_
 intro W base args ds gs before hval0 hW hcnd _ hL _
 have hW' := hW
 obtain ⟨p, q, hA, -, -, -, -⟩ := hW'
 have hkn : Kn (hvW W) := kn_of hL rfl (by simp [laidL])
 have hval : ∀ (j : Nat) t v, Tryz.f8.params[j]? = some t → args[j]? = some v → Value.okWide Tryz.prog W .any base t v := hval0
 have hA1 : DataW.TrodAll enc Tryz.prog W 0 (fun _ => true) true Tryz.f8.params.toList args.toList ds p := hA
 rw [Tryz.params8] at hA1 hval
 obtain ⟨v0, vs0, d0, ds0, p0, q0, hargs, rfl, -, h0, r0⟩ := trodAll_cons hA1
 obtain ⟨v1, vs1, d1, ds1, p1, q1, rfl, rfl, -, h1, r1⟩ := trodAll_cons r0
 obtain ⟨v2, vs2, d2, ds2, p2, q2, rfl, rfl, -, h2, r2⟩ := trodAll_cons r1
 obtain ⟨v3, vs3, d3, ds3, p3, q3, rfl, rfl, -, h3, r3⟩ := trodAll_cons r2
 obtain ⟨v4, vs4, d4, ds4, p4, q4, rfl, rfl, -, h4, r4⟩ := trodAll_cons r3
 obtain ⟨rfl, rfl, -⟩ := trodAll_nil r4
 obtain rfl : args = #[v0, v1, v2, v3, v4] := by cases args; simp_all
 obtain ⟨fuel0, hf0⟩ := h0
 obtain ⟨x0, e0, w0⟩ := oHouse.agg (fun _ => by simp [House.cells_eq]) hf0
 obtain ⟨x1, rfl, -, -, w1⟩ := open_int Tryz.underlying3 (hval 1 3 v1 rfl rfl) h1
 obtain ⟨x2, rfl, -, -, w2⟩ := open_int Tryz.underlying3 (hval 2 3 v2 rfl rfl) h2
 obtain ⟨x3, rfl, -, -, w3⟩ := open_int Tryz.underlying3 (hval 3 3 v3 rfl rfl) h3
 obtain ⟨a4, len4, cap4, rfl⟩ := okWide_slice Tryz.underlying71 (hval 4 71 v4 rfl rfl)
 obtain ⟨fuel4, hf4⟩ := h4
 obtain ⟨x4, e4, -, w4⟩ := oRows _ _ _ hf4
 refine (PC.door (scoreSettles_pc x0 w0 x1 x2 x3 x4) W (xs := [v0, .int .i64 x1, .int .i64 x2, .int .i64 x3, .slice a4 len4 cap4]) (RlL.cons_one e0 (RlL.cons_one (RlL.one V.Rl_v) (RlL.cons_one (RlL.one V.Rl_v) (RlL.cons_one (RlL.one V.Rl_v) e4)))) hkn).mono fun e W' ⟨he, k⟩ => ⟨_, he, ?_⟩
 exact post_law hW rfl rfl rfl Tryz.underlying4 laid (by rw [show Tryz.f8.params = _ from Tryz.params8]; intro t ht; simp only [List.mem_cons, List.not_mem_nil, or_false] at ht; rcases ht with rfl | rfl | rfl | rfl | rfl <;> exact ⟨by kernel_rfl, of_decide_eq_true (by kernel_rfl)⟩) k
theorem scoreSettles_row : Rows.ScoreSettlesSaid :=
 OpenClaim.holds_of_wide 8 Tryz.f8 rfl rfl rfl rfl rfl rfl rfl ⟨rfl, rfl, rfl, rfl, rfl⟩ rfl rfl rfl rfl rfl (by kernel_rfl) Tryz.func8 (by kernel_rfl)
  (of_decide_eq_true (by kernel_rfl)) (by unfold Func.isWrapper; first | (rw [if_pos (by decide +kernel)]; kernel_rfl) | (rw [if_neg (by decide +kernel)]; exact ⟨rfl, rfl⟩))
  (fun os started H enc _ => scoreSettles_lifted os started H enc)
theorem scoreSettles_holds : Rows.ScoreSettlesCardSaid :=
 Claim7.holds_tied_plain_at .later [] [.data, .data, .funcs, .pinned] true Rows.scoreSettlesCard.stood.harness false scoreSettles_row (fun _ h => by cases h) (by kernel_rfl) (fun _ h => by cases h) scoreSettles_row_tie rfl ⟨rfl, rfl⟩ (by kernel_rfl) rfl
  (fun f fn hf hfn => by
   obtain rfl : f = 8 := Option.some.inj ((show Tryz.prog.funcNamed "sparrow/sparrowlaw05.ScoreSettles" = some 8 by kernel_rfl).symm.trans hf) |>.symm
   obtain rfl : fn = Tryz.f8 := (Option.some.inj (Tryz.func8.symm.trans hfn)).symm
   exact ⟨by kernel_rfl, fun j t ht => by
    rw [Tryz.params8] at ht
    have hm : t ∈ [37, 3, 3, 3, 71] := by simpa using Array.mem_of_getElem? ht
    have hall : ([37, 3, 3, 3, 71].all fun u => !Tryz.prog.wantsStandIn u) = true := by kernel_rfl
    exact (show Tryz.prog.wantsStandIn t = false by simpa using List.all_eq_true.1 hall t hm)⟩)
  (by kernel_rfl)
end Go.Proofs.YtfgeogepihjdiaaGreatDoor
