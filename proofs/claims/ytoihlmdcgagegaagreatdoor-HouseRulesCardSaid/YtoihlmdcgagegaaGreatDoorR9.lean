/- A part of a program logic over the kit's walk rules, and contracts of functions in it. Conditions: as each theorem says. -/
import Derived.Test.YtoihlmdcgagegaaGreatDoorR8
import Derived.Test.YtoihlmdcgagegaaGreatDoorRows
import Derived.WideKeyArgs
import Derived.OpenShut
import Derived.WalkKit
import Derived.ProofKit
import Derived.Laws.StructEq
set_option linter.all false
namespace Go.XL
open Go.Proofs
set_option maxRecDepth 100000
set_option maxHeartbeats 8000000
theorem yX22 {p:Prop} (h:p:=by(simp (disch:=omega) only[go_sem,dopV,yV0,↓reduceIte,Nat.reduceEqDiff,Nat.reduceLT,Nat.reduceLeDiff,Nat.reduceAdd,Nat.reduceMul,Nat.reduceSub,Int.reduceToNat,Int.reduceLT,Int.reduceLE,Int.reduceEq,IntWalk.toNatUp,IntWalk.iteOmega,IntWalk.i64_in,V.flat,V.one,List.map_append,ints];try exact rfl)):p:=h
theorem won_qc (bs:Nat) (x:Int) (s:GSet) (h:gsetS s=0) (f:Form) (hf:formS s f=0):QC Tryz.prog 81 [ptr bs,s.val,f.val] bs x (fun u=> ∃(hd:Hnd) (r:Bool),u = .tup [hd.val,Bo r]∧HandIn s.plain.toNat hd):=by
 have ok:=gset_ok h
 have hp:=kitPlain_pc s ok.few
 have hpl:=ok.plain
 have hme:=ok.melds
 have hco:=ok.copies
 have hfi:=form_in hf
 have hbu:=built_qc bs x s h
 have hkn:=knit_qc bs x s h
 have hdi:=different_gc bs x s h ((3*s.melds+2) / 2) (by omega)
 have hdd:(3*s.melds+2).tdiv 2=(3*s.melds+2) / 2:=Int.tdiv_eq_ediv_of_nonneg (by omega)
 have hN34:s.plain.toNat≤34:=by omega
 obtain⟨wh,fk,ag⟩:=f
 have hwh:=hfi.what
 have HS:=Box.mk h
 have HFI:=Box.mk hfi
 dsimp only at hwh
 clear ok h hf hfi
 unfold QC
 refine DC.of_run Tryz.func81 rfl Tryz.ntmps81 Tryz.results81 (by simp) (fun _ _=>?_);simp only[argV_cons,argV_nil,go_sem,Nat.zero_add,Nat.reduceAdd]
 repeat' (first|refine yJ ?_|(refine DS.boxF (t:=4) yU yE yU ?_;simp only[yS3])|(refine DS.boxF (t:=5) yU yE yU ?_;simp only[yS3])|fail)
 refine DS.allocS yR yU yU (fun b6 h6=>?_)
 have n6: ¬bs=b6:=fun e=>by rw[lookS_cons,if_pos e]at h6;cases h6
 have n6': ¬b6=bs:=fun e=>n6 e.symm
 clear h6
 have hz:(Value.agg #[Value.slice none 0 0,Value.slice none 0 0]).cells.toList.map V.v= [.v (.slice none 0 0), .v (.slice none 0 0)]:=rfl
 rw[hz]
 clear hz
 by_cases w2:wh=2
 ·have w2':(wh=2)=True:=eq_true w2
  clear w2 hbu hkn
  repeat' (first|(with_reducible (refine DS.nilOwn (t:=8) yU yO yE ?_))|refine yJT ?_|fail)
  refine DS.call (dst:=some 38) [(bs,srcO x)] [(b6,Ob.cells [.v (.slice none 0 0), .v (.slice none 0 0)] 33)] inferInstance hdi yR yH (fun d o e=>?_) (fun d o e=>?_) (fun u S0 hu hdis=>?_)
  ·rw[lookS_swap n6']
   simp only[lookS_cons,lookS_nil]at e ⊢
   split at e
   ·rename_i hq;subst hq;simp only[↓reduceIte];exact e
   ·cases e
  ·simp only[lookS_cons,lookS_nil]at e ⊢
   split at e
   ·rename_i hq;subst hq;simp only[n6,↓reduceIte];exact⟨e,trivial⟩
   ·cases e
  obtain⟨l,g,x',rfl,hg,rfl,hk,hl⟩:=hu
  have hnb:NBg (bs:: [(b6,Ob.cells [.v (.slice none 0 0), .v (.slice none 0 0)] 33)].map Prod.fst) g:=fun b cap j hb hm=>by
   simp only[List.map_cons,List.map_nil,List.mem_cons,List.not_mem_nil,or_false]at hm
   rcases hm with rfl|rfl
   ·exact hg.nb _ cap j hb (by simp)
   ·have h1:=hg.nb
    have h2:lookS ((bs,srcO x')::SRg 3 g) b=some (.cells (g.l.flatten++j) 3):=by
     obtain⟨gl,blk⟩:=g
     dsimp only at hb
     subst hb
     simp only[lookS_cons,SRg,n6,↓reduceIte]
    have h3:=hdis b _ h2
    rw[lookS_cons,if_pos rfl]at h3;cases h3
  refine DS.reS (S':=(bs,srcO x')::([(b6,Ob.cells [.v (.slice none 0 0), .v (.slice none 0 0)] 33)]++SRg 3 g)) (fun d o e=>srg_swap (L:= [(b6,Ob.cells [.v (.slice none 0 0), .v (.slice none 0 0)] 33)]) hnb d o e) ?_
  have hdel:=hnb.del 3 (c:=bs) (by simp)
  have HK:=Box.mk (And.intro hk (And.intro hdi hdis))
  clear hk hdis hdi
  simp only[putV_some,app_cons',app_nil']
  obtain⟨gl,blk⟩:=g
  have hgl:gl=l.map cI:=hg.l
  subst hgl
  cases blk with
  | none =>
   have hl0:l= []:=by
    rcases l with _|⟨e0,l2⟩
    ·rfl
    ·obtain⟨bq,cq,jq,hbad⟩:=hg.some (by simp)
     cases hbad
   subst hl0
   simp only[GR.cell_none]
   refine DS.reS (S':= [(bs,srcO x'),(b6,Ob.cells [.v (.slice none 0 0), .v (.slice none 0 0)] 33)]) (fun d o e=>e) ?_
   have HKK:=Box.mk (And.intro (KindsIn.nil s.plain.toNat) (show([]:List Int).length≤100 by simp))
   cases ag with
   | false =>
    repeat' (first|(with_reducible refine DS.mv (t:=8) yU yO yX6 ?_;simp only[yS2,Nat.reduceEqDiff,↓reduceIte])|(with_reducible refine DS.mv (t:=9) yU yO yX6 ?_;simp only[yS2,Nat.reduceEqDiff,↓reduceIte])|(with_reducible refine DS.mv (t:=60) yU yO yX6 ?_;simp only[yS2,Nat.reduceEqDiff,↓reduceIte])|with_reducible refine DS.fltS yU yU yX6 ?_|refine yJ ?_|(with_reducible first|(refine DS.cE yX6 ?_;refine CG.no ?_)|(refine DS.gE yU yX6 ?_;refine GG.sF ?_))|(refine DS.append (mm:=false) yU yX6 yX6 yU (by decide) yX6 yO2 yX6 yX20 yLM yQ2 ?_;simp only[yS2,Nat.reduceEqDiff,↓reduceIte])|fail)
    refine DS.qp inferInstance (bagOf_qp s HS.out [] HKK.out.1 HKK.out.2) yR yH (fun u hu=>?_)
    obtain⟨bag,rfl,hB⟩:=hu
    have HB:=Box.mk hB
    clear hB
    repeat' (first|with_reducible refine DS.fltS yU yU yX6 ?_|refine yJ ?_|(refine DS.letF (t:=17) yU yX6 yU (fun _=>yX6) yX6 yU yV1 (fun _=>yN1) ?_;simp only[go_sem])|fail)
    refine DS.drawLS (id:=27) ([(bs,srcO x'),(b6,Ob.cells [.v (.slice none 0 0), .v (.slice none 0 0)] 33)]) ([]) [0,1,2,3] 4 yKR mixed yP1 yP2 ((fun d o e=>?_)) ((fun d o e=>by cases e)) ?_
    ·refine⟨?_,rfl⟩
     first|exact e|(rw[lookS_swap n6'];exact e)
    repeat' (first|with_reducible refine DD.fltS yU yU yU yE ?_|fail)
    refine DD.callV inferInstance (full_qp s HS.out ⟨bag,[]⟩ 1000 HB.out.bd (by rw[HB.out.len];omega) (by omega) (Nat.zero_le _) (fun g hg=>by cases hg)) (fun v S' ⟨r,hr⟩=>⟨_,hr⟩) yR yH (fun u hu=>?_)
    obtain⟨S',r,hr⟩:=hu
    cases hr
    simp only[delV_cons',delV_nil',Nat.reduceEqDiff,↓reduceIte]
    repeat' (first|with_reducible refine DS.fltS yU yU yX6 ?_|refine yJ ?_|(refine DS.store yR yX6 yX6 yX6 yX6 yU yQ ?_;simp only[yS1];try simp only[yS2,Nat.reduceEqDiff,↓reduceIte])|with_reducible refine DD.nil0 ?_|fail)
    simp only[setS,delS_cons,delS_nil,app_cons',app_nil',n6,n6',↓reduceIte,List.map_cons,List.map_nil,copy_v,copy_lst,copy_own,setAll_cons,setAll_nil,set_cons',set_zero',Nat.reduceAdd,Nat.zero_add]
    refine DS.retW [(bs,srcO x')] (by(simp (disch:=omega) only[go_sem,dopV,yV0,↓reduceIte,Nat.reduceEqDiff,Nat.reduceLT,Nat.reduceLeDiff,Nat.reduceAdd,Nat.reduceMul,Nat.reduceSub,Int.reduceToNat,Int.reduceLT,Int.reduceLE,Int.reduceEq,IntWalk.toNatUp,IntWalk.iteOmega,IntWalk.i64_in,V.flat,V.one,setS,setAll,n6,n6'];exact rfl)) (fun b o e=>?_) ?_
    ·simp only[lookS_cons,lookS_nil]at e ⊢
     split at e
     ·rename_i hb;subst hb;simp only[n6',↓reduceIte];exact e
     ·cases e
    ·exact⟨⟨⟨bag,[]⟩,r,rfl,⟨HB.out,Nat.zero_le _,fun g hg=>by cases hg⟩⟩,x',rfl⟩
   | true =>
    repeat' (first|(with_reducible refine DS.mv (t:=8) yU yO yX6 ?_;simp only[yS2,Nat.reduceEqDiff,↓reduceIte])|(with_reducible refine DS.mv (t:=9) yU yO yX6 ?_;simp only[yS2,Nat.reduceEqDiff,↓reduceIte])|(with_reducible refine DS.mv (t:=60) yU yO yX6 ?_;simp only[yS2,Nat.reduceEqDiff,↓reduceIte])|with_reducible refine DS.fltS yU yU yX6 ?_|refine yJ ?_|(with_reducible first|(refine DS.cE yX6 ?_;refine CG.no ?_)|(refine DS.gE yU yX6 ?_;first|refine GG.run ?_|refine GG.sF ?_))|(refine DS.append (mm:=false) yU yX6 yX6 yU (by decide) yX6 yO2 yX6 yX20 yLM yQ2 ?_;simp only[yS2,Nat.reduceEqDiff,↓reduceIte])|fail)
    refine DS.qp inferInstance (bagOf_qp s HS.out [] HKK.out.1 HKK.out.2) yR yH (fun u hu=>?_)
    obtain⟨bag,rfl,hB⟩:=hu
    have HB:=Box.mk hB
    clear hB
    repeat' (first|with_reducible refine DS.fltS yU yU yX6 ?_|refine yJ ?_|(refine DS.letF (t:=17) yU yX6 yU (fun _=>yX6) yX6 yU yV1 (fun _=>yN1) ?_;simp only[go_sem])|fail)
    refine DS.drawLS (id:=27) ([(bs,srcO x'),(b6,Ob.cells [.v (.slice none 0 0), .v (.slice none 0 0)] 33)]) ([]) [0,1,2,3] 4 yKR mixed yP1 yP2 ((fun d o e=>?_)) ((fun d o e=>by cases e)) ?_
    ·refine⟨?_,rfl⟩
     first|exact e|(rw[lookS_swap n6'];exact e)
    repeat' (first|with_reducible refine DD.fltS yU yU yU yE ?_|fail)
    refine DD.callV inferInstance (full_qp s HS.out ⟨bag,[]⟩ 1000 HB.out.bd (by rw[HB.out.len];omega) (by omega) (Nat.zero_le _) (fun g hg=>by cases hg)) (fun v S' ⟨r,hr⟩=>⟨_,hr⟩) yR yH (fun u hu=>?_)
    obtain⟨S',r,hr⟩:=hu
    cases hr
    simp only[delV_cons',delV_nil',Nat.reduceEqDiff,↓reduceIte]
    repeat' (first|with_reducible refine DS.fltS yU yU yX6 ?_|refine yJ ?_|(refine DS.store yR yX6 yX6 yX6 yX6 yU yQ ?_;simp only[yS1];try simp only[yS2,Nat.reduceEqDiff,↓reduceIte])|with_reducible refine DD.nil0 ?_|fail)
    simp only[setS,delS_cons,delS_nil,app_cons',app_nil',n6,n6',↓reduceIte,List.map_cons,List.map_nil,copy_v,copy_lst,copy_own,setAll_cons,setAll_nil,set_cons',set_zero',Nat.reduceAdd,Nat.zero_add]
    refine DS.retW [(bs,srcO x')] (by(simp (disch:=omega) only[go_sem,dopV,yV0,↓reduceIte,Nat.reduceEqDiff,Nat.reduceLT,Nat.reduceLeDiff,Nat.reduceAdd,Nat.reduceMul,Nat.reduceSub,Int.reduceToNat,Int.reduceLT,Int.reduceLE,Int.reduceEq,IntWalk.toNatUp,IntWalk.iteOmega,IntWalk.i64_in,V.flat,V.one,setS,setAll,n6,n6'];exact rfl)) (fun b o e=>?_) ?_
    ·simp only[lookS_cons,lookS_nil]at e ⊢
     split at e
     ·rename_i hb;subst hb;simp only[n6',↓reduceIte];exact e
     ·cases e
    ·exact⟨⟨⟨bag,[]⟩,r,rfl,⟨HB.out,Nat.zero_le _,fun g hg=>by cases hg⟩⟩,x',rfl⟩
  | some q =>
   obtain⟨bq,cq,jq⟩:=q
   have h1:=hnb bq cq jq rfl
   simp only[List.map_cons,List.map_nil,List.mem_cons,List.not_mem_nil,or_false,not_or]at h1
   obtain⟨nq1,nq2⟩:=h1
   have nq1': ¬bs=bq:=fun e=>nq1 e.symm
   have nq2': ¬b6=bq:=fun e=>nq2 e.symm
   have hok:GR.At 3 1 _ (l.map cI) bq cq jq:=hg.ok
   have q1:=hok.len
   have q2:=hok.le
   have q3:=hok.cap
   rw[List.length_map]at q1 q2
   have eo:(l.map cI).flatten++jq=(l.map fun x=>I x)++jq:=by rw[ints_flatI]
   simp only[SRg,GR.cell_some,List.length_map,eo]
   clear hok hg hdel hnb eo
   have q2':(l.length:Int)≤34:=by omega
   have Q:=Box.mk (And.intro q1 (And.intro q2 q3))
   have HL:=Box.mk hl
   clear q1 q2 q3 hl
   cases ag with
   | false =>
    repeat' (first|with_reducible refine DS.fltS yU yU yX6 ?_|refine yJ ?_|(with_reducible first|(refine DS.cE yX6 ?_;refine CG.no ?_)|(refine DS.gE yU yX6 ?_;refine GG.sF ?_))|fail)
    refine DS.ownI2 (t:=60) (u:=61) (b:=bq) (cap:=cq) (l:=l) (j:=jq) (T:=3) yH yH (by simp only[lookS_cons,nq1,nq2,nq1',nq2',n6,n6',↓reduceIte]) ⟨Q.out.2.1,Q.out.2.2⟩ (by have:=Q.out.1;omega) ?_
    simp only[delS_cons,delS_nil,nq1,nq2,nq1',nq2',n6,n6',↓reduceIte]
    have hkk:KindsIn s.plain.toNat (l++l):=KindsIn.app HK.out.1 HK.out.1
    have hkL:(l++l).length≤100:=by have:=HL.out;rw[List.length_append];omega
    have HKK:=Box.mk (And.intro hkk hkL)
    clear hkk hkL
    repeat' (first|(with_reducible refine DS.mv (t:=8) yU yO yX6 ?_;simp only[yS2,Nat.reduceEqDiff,↓reduceIte])|with_reducible refine DS.fltS yU yU yX6 ?_|refine yJ ?_|(refine DS.append (mm:=false) yU yX6 yX6 yU (by decide) yX6 yO2 yX6 yX20 yLM yQ2 ?_;simp only[yS2,Nat.reduceEqDiff,↓reduceIte])|fail)
    refine DS.qp inferInstance (bagOf_qp s HS.out (l++l) HKK.out.1 HKK.out.2) yR yX22 (fun u hu=>?_)
    obtain⟨bag,rfl,hB⟩:=hu
    have HB:=Box.mk hB
    clear hB
    repeat' (first|with_reducible refine DS.fltS yU yU yX6 ?_|refine yJ ?_|(refine DS.letF (t:=17) yU yX6 yU (fun _=>yX6) yX6 yU yV1 (fun _=>yN1) ?_;simp only[go_sem])|fail)
    refine DS.drawLS (id:=27) ([(bs,srcO x'),(b6,Ob.cells [.v (.slice none 0 0), .v (.slice none 0 0)] 33)]) ([]) [0,1,2,3] 4 yKR mixed yP1 yP2 ((fun d o e=>?_)) ((fun d o e=>by cases e)) ?_
    ·refine⟨?_,rfl⟩
     first|exact e|(rw[lookS_swap n6'];exact e)
    repeat' (first|with_reducible refine DD.fltS yU yU yU yE ?_|fail)
    refine DD.callV inferInstance (full_qp s HS.out ⟨bag,[]⟩ 1000 HB.out.bd (by rw[HB.out.len];omega) (by omega) (Nat.zero_le _) (fun g hg=>by cases hg)) (fun v S' ⟨r,hr⟩=>⟨_,hr⟩) yR yH (fun u hu=>?_)
    obtain⟨S',r,hr⟩:=hu
    cases hr
    simp only[delV_cons',delV_nil',Nat.reduceEqDiff,↓reduceIte]
    repeat' (first|with_reducible refine DS.fltS yU yU yX6 ?_|refine yJ ?_|(refine DS.store yR yX6 yX6 yX6 yX6 yU yQ ?_;simp only[yS1];try simp only[yS2,Nat.reduceEqDiff,↓reduceIte])|with_reducible refine DD.nil0 ?_|fail)
    simp only[setS,delS_cons,delS_nil,app_cons',app_nil',n6,n6',↓reduceIte,List.map_cons,List.map_nil,copy_v,copy_lst,copy_own,setAll_cons,setAll_nil,set_cons',set_zero',Nat.reduceAdd,Nat.zero_add]
    refine DS.retW [(bs,srcO x')] (by(simp (disch:=omega) only[go_sem,dopV,yV0,↓reduceIte,Nat.reduceEqDiff,Nat.reduceLT,Nat.reduceLeDiff,Nat.reduceAdd,Nat.reduceMul,Nat.reduceSub,Int.reduceToNat,Int.reduceLT,Int.reduceLE,Int.reduceEq,IntWalk.toNatUp,IntWalk.iteOmega,IntWalk.i64_in,V.flat,V.one,setS,setAll,n6,n6'];exact rfl)) (fun b o e=>?_) ?_
    ·simp only[lookS_cons,lookS_nil]at e ⊢
     split at e
     ·rename_i hb;subst hb;simp only[n6',↓reduceIte];exact e
     ·cases e
    ·exact⟨⟨⟨bag,[]⟩,r,rfl,⟨HB.out,Nat.zero_le _,fun g hg=>by cases hg⟩⟩,x',rfl⟩
   | true =>
    by_cases hlt:(1:Int)<(l.length:Int)
    ·by_cases hc4:s.copies=4
     ·have hc4':(s.copies=4)=True:=eq_true hc4
      clear hc4
      have co:=odds_sc bs x' 2 (by omega)
      obtain⟨od,hod⟩: ∃od,oddsX x' 2=od:=⟨_,rfl⟩
      obtain⟨x2,hx2⟩: ∃x2,stepX x'=x2:=⟨_,rfl⟩
      rw[hod,hx2]at co
      clear hod hx2
      cases od with
      | false =>
       have hlt':((1:Int)<(l.length:Int))=True:=eq_true hlt
       clear hlt
       repeat' (first|with_reducible refine DS.fltS yU yU yX6 ?_|refine yJ ?_|(with_reducible first|(refine DS.cE yX6 ?_;refine CG.no ?_)|(refine DS.gE yU yX6 ?_;refine GG.run ?_))|(refine DS.scS inferInstance (co) yR yX12 yX12 ?_;(try simp only[delS_cons,delS_nil,↓reduceIte, *]))|fail)
       try (simp only[setS,delS_cons,delS_nil,nq1,nq2,nq1',nq2',n6,n6',↓reduceIte,set_cons',set_zero'])
       refine DS.ownI2 (t:=60) (u:=61) (b:=bq) (cap:=cq) (l:=l) (j:=jq) (T:=3) yH yH (by simp only[lookS_cons,nq1,nq2,nq1',nq2',n6,n6',↓reduceIte]) ⟨Q.out.2.1,Q.out.2.2⟩ (by have:=Q.out.1;omega) ?_
       simp only[delS_cons,delS_nil,nq1,nq2,nq1',nq2',n6,n6',↓reduceIte]
       have hkk:KindsIn s.plain.toNat (l++l):=KindsIn.app HK.out.1 HK.out.1
       have hkL:(l++l).length≤100:=by have:=HL.out;rw[List.length_append];omega
       have HKK:=Box.mk (And.intro hkk hkL)
       clear hkk hkL
       repeat' (first|(with_reducible refine DS.mv (t:=8) yU yO yX6 ?_;simp only[yS2,Nat.reduceEqDiff,↓reduceIte])|with_reducible refine DS.fltS yU yU yX6 ?_|refine yJ ?_|(refine DS.append (mm:=false) yU yX6 yX6 yU (by decide) yX6 yO2 yX6 yX20 yLM yQ2 ?_;simp only[yS2,Nat.reduceEqDiff,↓reduceIte])|fail)
       refine DS.qp inferInstance (bagOf_qp s HS.out (l++l) HKK.out.1 HKK.out.2) yR yX22 (fun u hu=>?_)
       obtain⟨bag,rfl,hB⟩:=hu
       have HB:=Box.mk hB
       clear hB
       repeat' (first|with_reducible refine DS.fltS yU yU yX6 ?_|refine yJ ?_|(refine DS.letF (t:=17) yU yX6 yU (fun _=>yX6) yX6 yU yV1 (fun _=>yN1) ?_;simp only[go_sem])|fail)
       refine DS.drawLS (id:=27) ([(bs,srcO x2),(b6,Ob.cells [.v (.slice none 0 0), .v (.slice none 0 0)] 33)]) ([]) [0,1,2,3] 4 yKR mixed yP1 yP2 ((fun d o e=>?_)) ((fun d o e=>by cases e)) ?_
       ·refine⟨?_,rfl⟩
        first|exact e|(rw[lookS_swap n6'];exact e)
       repeat' (first|with_reducible refine DD.fltS yU yU yU yE ?_|fail)
       refine DD.callV inferInstance (full_qp s HS.out ⟨bag,[]⟩ 1000 HB.out.bd (by rw[HB.out.len];omega) (by omega) (Nat.zero_le _) (fun g hg=>by cases hg)) (fun v S' ⟨r,hr⟩=>⟨_,hr⟩) yR yH (fun u hu=>?_)
       obtain⟨S',r,hr⟩:=hu
       cases hr
       simp only[delV_cons',delV_nil',Nat.reduceEqDiff,↓reduceIte]
       repeat' (first|with_reducible refine DS.fltS yU yU yX6 ?_|refine yJ ?_|(refine DS.store yR yX6 yX6 yX6 yX6 yU yQ ?_;simp only[yS1];try simp only[yS2,Nat.reduceEqDiff,↓reduceIte])|with_reducible refine DD.nil0 ?_|fail)
       simp only[setS,delS_cons,delS_nil,app_cons',app_nil',n6,n6',↓reduceIte,List.map_cons,List.map_nil,copy_v,copy_lst,copy_own,setAll_cons,setAll_nil,set_cons',set_zero',Nat.reduceAdd,Nat.zero_add]
       refine DS.retW [(bs,srcO x2)] (by(simp (disch:=omega) only[go_sem,dopV,yV0,↓reduceIte,Nat.reduceEqDiff,Nat.reduceLT,Nat.reduceLeDiff,Nat.reduceAdd,Nat.reduceMul,Nat.reduceSub,Int.reduceToNat,Int.reduceLT,Int.reduceLE,Int.reduceEq,IntWalk.toNatUp,IntWalk.iteOmega,IntWalk.i64_in,V.flat,V.one,setS,setAll,n6,n6'];exact rfl)) (fun b o e=>?_) ?_
       ·simp only[lookS_cons,lookS_nil]at e ⊢
        split at e
        ·rename_i hb;subst hb;simp only[n6',↓reduceIte];exact e
        ·cases e
       ·exact⟨⟨⟨bag,[]⟩,r,rfl,⟨HB.out,Nat.zero_le _,fun g hg=>by cases hg⟩⟩,x2,rfl⟩
      | true =>
       rcases l with _|⟨e0,_|⟨e1,l2⟩⟩
       ·exact absurd hlt (by simp)
       ·exact absurd hlt (by simp)
       ·have eo2:((e0::e1::l2).map fun x=>I x)++jq=I e0::I e1::((l2.map fun x=>I x)++jq):=rfl
        rw[eo2]
        clear eo2
        obtain⟨L,hL⟩: ∃L,e0::e0::l2=L:=⟨_,rfl⟩
        have hKL:KindsIn s.plain.toNat L:=hL▸(fun z hz=>HK.out.1 z (by simp only[List.mem_cons]at hz ⊢;rcases hz with h|h|h <;> simp[h]))
        have hLL:L.length=(e0::e1::l2).length:=by rw[←hL];rfl
        have hl22:((1:Int)<((l2.length+1+1:Nat):Int))=True:=eq_true (by omega)
        have q2L:(L.length:Int)≤34:=by rw[hLL];exact q2'
        have HKL:=Box.mk (And.intro hKL (And.intro hLL hL))
        clear hKL hLL hL
        repeat' (first|with_reducible refine DS.fltS yU yU yX6 ?_|refine yJ ?_|(with_reducible first|(refine DS.cE yX6 ?_;refine CG.yes ?_)|(refine DS.gE yU yX6 ?_;refine GG.run ?_))|(refine DS.scS inferInstance (co) yR yX12 yX12 ?_;(try simp only[delS_cons,delS_nil,↓reduceIte, *]))|(refine DS.store yR yX6 yX6 yX6 yX6 yU yQ ?_;simp only[yS1];try simp only[yS2,Nat.reduceEqDiff,↓reduceIte])|fail)
        try (simp only[setS,delS_cons,delS_nil,nq1,nq2,nq1',nq2',n6,n6',↓reduceIte,set_cons',set_zero'])
        refine DS.ownI2 (t:=60) (u:=61) (b:=bq) (cap:=cq) (l:=(e0::e0::l2)) (j:=jq) (T:=3) yH yH (by simp only[lookS_cons,nq1,nq2,nq1',nq2',n6,n6',↓reduceIte];exact rfl) ⟨Q.out.2.1,Q.out.2.2⟩ (by have:=Q.out.1;simp only[List.length_cons]at this ⊢;omega) ?_
        rw[HKL.out.2.2]
        simp only[delS_cons,delS_nil,nq1,nq2,nq1',nq2',n6,n6',↓reduceIte]
        have hkk:KindsIn s.plain.toNat (L++L):=KindsIn.app HKL.out.1 HKL.out.1
        have hkL:(L++L).length≤100:=by have:=HL.out;rw[List.length_append];rw[HKL.out.2.1];omega
        have HKK:=Box.mk (And.intro hkk hkL)
        clear hkk hkL
        repeat' (first|(with_reducible refine DS.mv (t:=8) yU yO yX6 ?_;simp only[yS2,Nat.reduceEqDiff,↓reduceIte])|with_reducible refine DS.fltS yU yU yX6 ?_|refine yJ ?_|(refine DS.append (mm:=false) yU yX6 yX6 yU (by decide) yX6 yO2 yX6 yX20 yLM yQ2 ?_;simp only[yS2,Nat.reduceEqDiff,↓reduceIte])|fail)
        refine DS.qp inferInstance (bagOf_qp s HS.out (L++L) HKK.out.1 HKK.out.2) yR yX22 (fun u hu=>?_)
        obtain⟨bag,rfl,hB⟩:=hu
        have HB:=Box.mk hB
        clear hB
        repeat' (first|with_reducible refine DS.fltS yU yU yX6 ?_|refine yJ ?_|(refine DS.letF (t:=17) yU yX6 yU (fun _=>yX6) yX6 yU yV1 (fun _=>yN1) ?_;simp only[go_sem])|fail)
        refine DS.drawLS (id:=27) ([(bs,srcO x2),(b6,Ob.cells [.v (.slice none 0 0), .v (.slice none 0 0)] 33)]) ([]) [0,1,2,3] 4 yKR mixed yP1 yP2 ((fun d o e=>?_)) ((fun d o e=>by cases e)) ?_
        ·refine⟨?_,rfl⟩
         first|exact e|(rw[lookS_swap n6'];exact e)
        repeat' (first|with_reducible refine DD.fltS yU yU yU yE ?_|fail)
        refine DD.callV inferInstance (full_qp s HS.out ⟨bag,[]⟩ 1000 HB.out.bd (by rw[HB.out.len];omega) (by omega) (Nat.zero_le _) (fun g hg=>by cases hg)) (fun v S' ⟨r,hr⟩=>⟨_,hr⟩) yR yH (fun u hu=>?_)
        obtain⟨S',r,hr⟩:=hu
        cases hr
        simp only[delV_cons',delV_nil',Nat.reduceEqDiff,↓reduceIte]
        repeat' (first|with_reducible refine DS.fltS yU yU yX6 ?_|refine yJ ?_|(refine DS.store yR yX6 yX6 yX6 yX6 yU yQ ?_;simp only[yS1];try simp only[yS2,Nat.reduceEqDiff,↓reduceIte])|with_reducible refine DD.nil0 ?_|fail)
        simp only[setS,delS_cons,delS_nil,app_cons',app_nil',n6,n6',↓reduceIte,List.map_cons,List.map_nil,copy_v,copy_lst,copy_own,setAll_cons,setAll_nil,set_cons',set_zero',Nat.reduceAdd,Nat.zero_add]
        refine DS.retW [(bs,srcO x2)] (by(simp (disch:=omega) only[go_sem,dopV,yV0,↓reduceIte,Nat.reduceEqDiff,Nat.reduceLT,Nat.reduceLeDiff,Nat.reduceAdd,Nat.reduceMul,Nat.reduceSub,Int.reduceToNat,Int.reduceLT,Int.reduceLE,Int.reduceEq,IntWalk.toNatUp,IntWalk.iteOmega,IntWalk.i64_in,V.flat,V.one,setS,setAll,n6,n6'];exact rfl)) (fun b o e=>?_) ?_
        ·simp only[lookS_cons,lookS_nil]at e ⊢
         split at e
         ·rename_i hb;subst hb;simp only[n6',↓reduceIte];exact e
         ·cases e
        ·exact⟨⟨⟨bag,[]⟩,r,rfl,⟨HB.out,Nat.zero_le _,fun g hg=>by cases hg⟩⟩,x2,rfl⟩
        all_goals (exfalso;omega)
     ·have hc4':(s.copies=4)=False:=eq_false hc4
      have hlt':((1:Int)<(l.length:Int))=True:=eq_true hlt
      clear hc4 hlt
      repeat' (first|with_reducible refine DS.fltS yU yU yX6 ?_|refine yJ ?_|(with_reducible first|(refine DS.cE yX6 ?_;refine CG.no ?_)|(refine DS.gE yU yX6 ?_;first|refine GG.run ?_|refine GG.sF ?_))|fail)
      refine DS.ownI2 (t:=60) (u:=61) (b:=bq) (cap:=cq) (l:=l) (j:=jq) (T:=3) yH yH (by simp only[lookS_cons,nq1,nq2,nq1',nq2',n6,n6',↓reduceIte]) ⟨Q.out.2.1,Q.out.2.2⟩ (by have:=Q.out.1;omega) ?_
      simp only[delS_cons,delS_nil,nq1,nq2,nq1',nq2',n6,n6',↓reduceIte]
      have hkk:KindsIn s.plain.toNat (l++l):=KindsIn.app HK.out.1 HK.out.1
      have hkL:(l++l).length≤100:=by have:=HL.out;rw[List.length_append];omega
      have HKK:=Box.mk (And.intro hkk hkL)
      clear hkk hkL
      repeat' (first|(with_reducible refine DS.mv (t:=8) yU yO yX6 ?_;simp only[yS2,Nat.reduceEqDiff,↓reduceIte])|with_reducible refine DS.fltS yU yU yX6 ?_|refine yJ ?_|(refine DS.append (mm:=false) yU yX6 yX6 yU (by decide) yX6 yO2 yX6 yX20 yLM yQ2 ?_;simp only[yS2,Nat.reduceEqDiff,↓reduceIte])|fail)
      refine DS.qp inferInstance (bagOf_qp s HS.out (l++l) HKK.out.1 HKK.out.2) yR yX22 (fun u hu=>?_)
      obtain⟨bag,rfl,hB⟩:=hu
      have HB:=Box.mk hB
      clear hB
      repeat' (first|with_reducible refine DS.fltS yU yU yX6 ?_|refine yJ ?_|(refine DS.letF (t:=17) yU yX6 yU (fun _=>yX6) yX6 yU yV1 (fun _=>yN1) ?_;simp only[go_sem])|fail)
      refine DS.drawLS (id:=27) ([(bs,srcO x'),(b6,Ob.cells [.v (.slice none 0 0), .v (.slice none 0 0)] 33)]) ([]) [0,1,2,3] 4 yKR mixed yP1 yP2 ((fun d o e=>?_)) ((fun d o e=>by cases e)) ?_
      ·refine⟨?_,rfl⟩
       first|exact e|(rw[lookS_swap n6'];exact e)
      repeat' (first|with_reducible refine DD.fltS yU yU yU yE ?_|fail)
      refine DD.callV inferInstance (full_qp s HS.out ⟨bag,[]⟩ 1000 HB.out.bd (by rw[HB.out.len];omega) (by omega) (Nat.zero_le _) (fun g hg=>by cases hg)) (fun v S' ⟨r,hr⟩=>⟨_,hr⟩) yR yH (fun u hu=>?_)
      obtain⟨S',r,hr⟩:=hu
      cases hr
      simp only[delV_cons',delV_nil',Nat.reduceEqDiff,↓reduceIte]
      repeat' (first|with_reducible refine DS.fltS yU yU yX6 ?_|refine yJ ?_|(refine DS.store yR yX6 yX6 yX6 yX6 yU yQ ?_;simp only[yS1];try simp only[yS2,Nat.reduceEqDiff,↓reduceIte])|with_reducible refine DD.nil0 ?_|fail)
      simp only[setS,delS_cons,delS_nil,app_cons',app_nil',n6,n6',↓reduceIte,List.map_cons,List.map_nil,copy_v,copy_lst,copy_own,setAll_cons,setAll_nil,set_cons',set_zero',Nat.reduceAdd,Nat.zero_add]
      refine DS.retW [(bs,srcO x')] (by(simp (disch:=omega) only[go_sem,dopV,yV0,↓reduceIte,Nat.reduceEqDiff,Nat.reduceLT,Nat.reduceLeDiff,Nat.reduceAdd,Nat.reduceMul,Nat.reduceSub,Int.reduceToNat,Int.reduceLT,Int.reduceLE,Int.reduceEq,IntWalk.toNatUp,IntWalk.iteOmega,IntWalk.i64_in,V.flat,V.one,setS,setAll,n6,n6'];exact rfl)) (fun b o e=>?_) ?_
      ·simp only[lookS_cons,lookS_nil]at e ⊢
       split at e
       ·rename_i hb;subst hb;simp only[n6',↓reduceIte];exact e
       ·cases e
      ·exact⟨⟨⟨bag,[]⟩,r,rfl,⟨HB.out,Nat.zero_le _,fun g hg=>by cases hg⟩⟩,x',rfl⟩
    ·have hlt':((1:Int)<(l.length:Int))=False:=eq_false hlt
     clear hlt
     repeat' (first|with_reducible refine DS.fltS yU yU yX6 ?_|refine yJ ?_|(with_reducible first|(refine DS.cE yX6 ?_;refine CG.no ?_)|(refine DS.gE yU yX6 ?_;first|refine GG.run ?_|refine GG.sF ?_))|fail)
     refine DS.ownI2 (t:=60) (u:=61) (b:=bq) (cap:=cq) (l:=l) (j:=jq) (T:=3) yH yH (by simp only[lookS_cons,nq1,nq2,nq1',nq2',n6,n6',↓reduceIte]) ⟨Q.out.2.1,Q.out.2.2⟩ (by have:=Q.out.1;omega) ?_
     simp only[delS_cons,delS_nil,nq1,nq2,nq1',nq2',n6,n6',↓reduceIte]
     have hkk:KindsIn s.plain.toNat (l++l):=KindsIn.app HK.out.1 HK.out.1
     have hkL:(l++l).length≤100:=by have:=HL.out;rw[List.length_append];omega
     have HKK:=Box.mk (And.intro hkk hkL)
     clear hkk hkL
     repeat' (first|(with_reducible refine DS.mv (t:=8) yU yO yX6 ?_;simp only[yS2,Nat.reduceEqDiff,↓reduceIte])|with_reducible refine DS.fltS yU yU yX6 ?_|refine yJ ?_|(refine DS.append (mm:=false) yU yX6 yX6 yU (by decide) yX6 yO2 yX6 yX20 yLM yQ2 ?_;simp only[yS2,Nat.reduceEqDiff,↓reduceIte])|fail)
     refine DS.qp inferInstance (bagOf_qp s HS.out (l++l) HKK.out.1 HKK.out.2) yR yX22 (fun u hu=>?_)
     obtain⟨bag,rfl,hB⟩:=hu
     have HB:=Box.mk hB
     clear hB
     repeat' (first|with_reducible refine DS.fltS yU yU yX6 ?_|refine yJ ?_|(refine DS.letF (t:=17) yU yX6 yU (fun _=>yX6) yX6 yU yV1 (fun _=>yN1) ?_;simp only[go_sem])|fail)
     refine DS.drawLS (id:=27) ([(bs,srcO x'),(b6,Ob.cells [.v (.slice none 0 0), .v (.slice none 0 0)] 33)]) ([]) [0,1,2,3] 4 yKR mixed yP1 yP2 ((fun d o e=>?_)) ((fun d o e=>by cases e)) ?_
     ·refine⟨?_,rfl⟩
      first|exact e|(rw[lookS_swap n6'];exact e)
     repeat' (first|with_reducible refine DD.fltS yU yU yU yE ?_|fail)
     refine DD.callV inferInstance (full_qp s HS.out ⟨bag,[]⟩ 1000 HB.out.bd (by rw[HB.out.len];omega) (by omega) (Nat.zero_le _) (fun g hg=>by cases hg)) (fun v S' ⟨r,hr⟩=>⟨_,hr⟩) yR yH (fun u hu=>?_)
     obtain⟨S',r,hr⟩:=hu
     cases hr
     simp only[delV_cons',delV_nil',Nat.reduceEqDiff,↓reduceIte]
     repeat' (first|with_reducible refine DS.fltS yU yU yX6 ?_|refine yJ ?_|(refine DS.store yR yX6 yX6 yX6 yX6 yU yQ ?_;simp only[yS1];try simp only[yS2,Nat.reduceEqDiff,↓reduceIte])|with_reducible refine DD.nil0 ?_|fail)
     simp only[setS,delS_cons,delS_nil,app_cons',app_nil',n6,n6',↓reduceIte,List.map_cons,List.map_nil,copy_v,copy_lst,copy_own,setAll_cons,setAll_nil,set_cons',set_zero',Nat.reduceAdd,Nat.zero_add]
     refine DS.retW [(bs,srcO x')] (by(simp (disch:=omega) only[go_sem,dopV,yV0,↓reduceIte,Nat.reduceEqDiff,Nat.reduceLT,Nat.reduceLeDiff,Nat.reduceAdd,Nat.reduceMul,Nat.reduceSub,Int.reduceToNat,Int.reduceLT,Int.reduceLE,Int.reduceEq,IntWalk.toNatUp,IntWalk.iteOmega,IntWalk.i64_in,V.flat,V.one,setS,setAll,n6,n6'];exact rfl)) (fun b o e=>?_) ?_
     ·simp only[lookS_cons,lookS_nil]at e ⊢
      split at e
      ·rename_i hb;subst hb;simp only[n6',↓reduceIte];exact e
      ·cases e
     ·exact⟨⟨⟨bag,[]⟩,r,rfl,⟨HB.out,Nat.zero_le _,fun g hg=>by cases hg⟩⟩,x',rfl⟩
 have w2':(wh=2)=False:=eq_false w2
 by_cases w3:wh=3
 ·have w3':(wh=3)=True:=eq_true w3
  have hfl:(fk.length:Int)=3*s.melds+1:=HFI.out.each w3
  have hfl2:4≤fk.length∧fk.length≤13:=by omega
  clear w3 w2 hbu hkn hdi hfl
  have cb:=below_sc bs x fk.length (by omega)
  have bb:=below_lt (x:=x) (n:=(fk.length:Int)) (by omega)
  obtain⟨k,hk⟩: ∃k:Nat,(k:Int)=belowX x fk.length:=⟨(belowX x fk.length).toNat,by omega⟩
  rw[←hk]at cb bb
  clear hk
  generalize stepX x=y1 at *
  have hkf:k<fk.length:=by omega
  repeat' (first|(with_reducible (refine DS.nilOwn (t:=8) yU yO yE ?_))|refine yJT ?_|fail)
  (refine DS.drawX (id:=11) (bs:=bs) (x:=x) (by simp only[lookS_cons,lookS_nil,↓reduceIte, *]) [0,1,2,3,4,5,6,7,8,10,11,9] 12 yKR mixed yP1 yP2 ?_;simp only[delS_cons,delS_nil,↓reduceIte, *])
  repeat' (first|(with_reducible first|refine DD.fltS yU yU yU yE ?_|refine DD.flt1S yU yU yU yU yE ?_)|(refine DD.scS inferInstance (cb) yU yT yT ?_;simp only[delV_cons',delV_nil',Nat.reduceEqDiff,↓reduceIte];(try simp only[delS_cons,delS_nil,↓reduceIte, *]))|fail)
  refine DD.late yU yU yE ?_
  have hkk:KindsIn s.plain.toNat ([fk[k]]++fk):=KindsIn.app (fun z hz=>by rw[List.mem_singleton.1 hz];exact HFI.out.kinds _ (List.getElem_mem hkf)) HFI.out.kinds
  have hkL:([fk[k]]++fk).length≤100:=by simp only[List.length_append,List.length_singleton];omega
  have HKK:=Box.mk (And.intro hkk hkL)
  clear hkk hkL
  repeat' (first|(with_reducible refine DS.mv (t:=8) yU yO yX6 ?_;simp only[yS2,Nat.reduceEqDiff,↓reduceIte])|with_reducible refine DS.fltS yU yU yX6 ?_|refine yJ ?_|(refine DS.append (mm:=false) yU yX6 yX6 yU (by decide) yX6 yO2 yX6 yX20 yLM yQ2 ?_;simp only[yS2,Nat.reduceEqDiff,↓reduceIte])|with_reducible refine DD.fltS yU yU yU yX6 ?_|(with_reducible refine DD.nil ?_;simp only[app_cons',app_nil'])|(refine DD.bslS yU yX6 yX6 ?_;simp only[go_sem,Nat.zero_add,Nat.reduceAdd];simp only[delV_cons',delV_nil',Nat.reduceEqDiff,↓reduceIte])|fail)
  refine DS.qp inferInstance (bagOf_qp s HS.out ([fk[k]]++fk) HKK.out.1 HKK.out.2) yR yH (fun u hu=>?_)
  obtain⟨bag,rfl,hB⟩:=hu
  have HB:=Box.mk hB
  clear hB
  repeat' (first|with_reducible refine DS.fltS yU yU yX6 ?_|refine yJ ?_|(refine DS.letF (t:=17) yU yX6 yU (fun _=>yX6) yX6 yU yV1 (fun _=>yN1) ?_;simp only[go_sem])|fail)
  refine DS.drawLS (id:=27) ([(bs,srcO y1),(b6,Ob.cells [.v (.slice none 0 0), .v (.slice none 0 0)] 33)]) ([]) [0,1,2,3] 4 yKR mixed yP1 yP2 ((fun d o e=>?_)) ((fun d o e=>by cases e)) ?_
  ·refine⟨?_,rfl⟩
   first|exact e|(rw[lookS_swap n6'];exact e)
  repeat' (first|with_reducible refine DD.fltS yU yU yU yE ?_|fail)
  refine DD.callV inferInstance (full_qp s HS.out ⟨bag,[]⟩ 1000 HB.out.bd (by rw[HB.out.len];omega) (by omega) (Nat.zero_le _) (fun g hg=>by cases hg)) (fun v S' ⟨r,hr⟩=>⟨_,hr⟩) yR yH (fun u hu=>?_)
  obtain⟨S',r,hr⟩:=hu
  cases hr
  simp only[delV_cons',delV_nil',Nat.reduceEqDiff,↓reduceIte]
  repeat' (first|with_reducible refine DS.fltS yU yU yX6 ?_|refine yJ ?_|(refine DS.store yR yX6 yX6 yX6 yX6 yU yQ ?_;simp only[yS1];try simp only[yS2,Nat.reduceEqDiff,↓reduceIte])|with_reducible refine DD.nil0 ?_|fail)
  simp only[setS,delS_cons,delS_nil,app_cons',app_nil',n6,n6',↓reduceIte,List.map_cons,List.map_nil,copy_v,copy_lst,copy_own,setAll_cons,setAll_nil,set_cons',set_zero',Nat.reduceAdd,Nat.zero_add]
  refine DS.retW [(bs,srcO y1)] (by(simp (disch:=omega) only[go_sem,dopV,yV0,↓reduceIte,Nat.reduceEqDiff,Nat.reduceLT,Nat.reduceLeDiff,Nat.reduceAdd,Nat.reduceMul,Nat.reduceSub,Int.reduceToNat,Int.reduceLT,Int.reduceLE,Int.reduceEq,IntWalk.toNatUp,IntWalk.iteOmega,IntWalk.i64_in,V.flat,V.one,setS,setAll,n6,n6'];exact rfl)) (fun b o e=>?_) ?_
  ·simp only[lookS_cons,lookS_nil]at e ⊢
   split at e
   ·rename_i hb;subst hb;simp only[n6',↓reduceIte];exact e
   ·cases e
  ·exact⟨⟨⟨bag,[]⟩,r,rfl,⟨HB.out,Nat.zero_le _,fun g hg=>by cases hg⟩⟩,y1,rfl⟩
 have w3':(wh=3)=False:=eq_false w3
 by_cases w4:wh=4
 ·have w4':(wh=4)=True:=eq_true w4
  clear w4 w3 w2 hbu hdi
  repeat' (first|(with_reducible (refine DS.nilOwn (t:=8) yU yO yE ?_))|refine yJT ?_|fail)
  refine DS.qc inferInstance hkn yR yH (by(simp (disch:=omega) only[go_sem,dopV,yV0,↓reduceIte,Nat.reduceEqDiff,Nat.reduceLT,Nat.reduceLeDiff,Nat.reduceAdd,Nat.reduceMul,Nat.reduceSub,Int.reduceToNat,Int.reduceLT,Int.reduceLE,Int.reduceEq,IntWalk.toNatUp,IntWalk.iteOmega,IntWalk.i64_in,V.flat,V.one,n6,n6'];try exact rfl)) (fun u x' hu=>?_)
  obtain⟨kl,rfl,hk,hl⟩:=hu
  simp only[delS_cons,delS_nil,n6,n6',↓reduceIte]
  repeat' (first|(with_reducible refine DS.mv (t:=8) yU yO yX6 ?_;simp only[yS2,Nat.reduceEqDiff,↓reduceIte])|with_reducible refine DS.fltS yU yU yX6 ?_|refine yJ ?_|fail)
  refine DS.qp inferInstance (bagOf_qp s HS.out kl hk (by omega)) yR yH (fun u hu=>?_)
  obtain⟨bag,rfl,hB⟩:=hu
  have HB:=Box.mk hB
  clear hB
  repeat' (first|with_reducible refine DS.fltS yU yU yX6 ?_|refine yJ ?_|(refine DS.letF (t:=17) yU yX6 yU (fun _=>yX6) yX6 yU yV1 (fun _=>yN1) ?_;simp only[go_sem])|fail)
  refine DS.drawLS (id:=27) ([(bs,srcO x'),(b6,Ob.cells [.v (.slice none 0 0), .v (.slice none 0 0)] 33)]) ([]) [0,1,2,3] 4 yKR mixed yP1 yP2 ((fun d o e=>?_)) ((fun d o e=>by cases e)) ?_
  ·refine⟨?_,rfl⟩
   first|exact e|(rw[lookS_swap n6'];exact e)
  repeat' (first|with_reducible refine DD.fltS yU yU yU yE ?_|fail)
  refine DD.callV inferInstance (full_qp s HS.out ⟨bag,[]⟩ 1000 HB.out.bd (by rw[HB.out.len];omega) (by omega) (Nat.zero_le _) (fun g hg=>by cases hg)) (fun v S' ⟨r,hr⟩=>⟨_,hr⟩) yR yH (fun u hu=>?_)
  obtain⟨S',r,hr⟩:=hu
  cases hr
  simp only[delV_cons',delV_nil',Nat.reduceEqDiff,↓reduceIte]
  repeat' (first|with_reducible refine DS.fltS yU yU yX6 ?_|refine yJ ?_|(refine DS.store yR yX6 yX6 yX6 yX6 yU yQ ?_;simp only[yS1];try simp only[yS2,Nat.reduceEqDiff,↓reduceIte])|with_reducible refine DD.nil0 ?_|fail)
  simp only[setS,delS_cons,delS_nil,app_cons',app_nil',n6,n6',↓reduceIte,List.map_cons,List.map_nil,copy_v,copy_lst,copy_own,setAll_cons,setAll_nil,set_cons',set_zero',Nat.reduceAdd,Nat.zero_add]
  refine DS.retW [(bs,srcO x')] (by(simp (disch:=omega) only[go_sem,dopV,yV0,↓reduceIte,Nat.reduceEqDiff,Nat.reduceLT,Nat.reduceLeDiff,Nat.reduceAdd,Nat.reduceMul,Nat.reduceSub,Int.reduceToNat,Int.reduceLT,Int.reduceLE,Int.reduceEq,IntWalk.toNatUp,IntWalk.iteOmega,IntWalk.i64_in,V.flat,V.one,setS,setAll,n6,n6'];exact rfl)) (fun b o e=>?_) ?_
  ·simp only[lookS_cons,lookS_nil]at e ⊢
   split at e
   ·rename_i hb;subst hb;simp only[n6',↓reduceIte];exact e
   ·cases e
  ·exact⟨⟨⟨bag,[]⟩,r,rfl,⟨HB.out,Nat.zero_le _,fun g hg=>by cases hg⟩⟩,x',rfl⟩
 have w4':(wh=4)=False:=eq_false w4
 by_cases w5:wh=5
 ·have w5':(wh=5)=True:=eq_true w5
  have hst:=HFI.out.straight w5
  have hpN:27≤s.plain:=by
   have e:s.plain=s.winds+s.dragons+sumI s.suits:=rfl
   have e2:sumI s.suits=27:=by rw[hst.1];rfl
   have:=(gset_ok HS.out).winds
   have:=(gset_ok HS.out).dragons
   omega
  have hm3:=hst.2
  have cb:=below_sc bs x 3 (by omega)
  have bb:=below_lt (x:=x) (n:=3) (by omega)
  generalize belowX x 3=sh at *
  generalize stepX x=y1 at *
  clear w2 w3 w4 w5 hbu hkn hdi hst
  have hnil:GR.cell ⟨[],none⟩=V.v (.slice none 0 0):=rfl
  repeat' (first|refine yJT ?_|(refine DS.scS inferInstance (cb) yR yT yT ?_;(try simp only[delS_cons,delS_nil,↓reduceIte, *]))|fail)
  try (simp only[setS,delS_cons,delS_nil,app_cons',app_nil',n6,n6',↓reduceIte,List.map_cons,List.map_nil,copy_v,copy_lst,copy_own,setAll_cons,setAll_nil,set_cons',set_zero',Nat.reduceAdd,Nat.zero_add])
  refine DS.loopS [0,4,6,10] yN (fun(y:Nat×List Int×GR)=> [(8,y.2.2.cell),(11,I y.1)]) (fun(y:Nat×List Int×GR)=>(bs,srcO y1)::(b6,Ob.cells [.v (.slice none 0 0), .v (.slice none 0 0)] 33)::SRg 3 y.2.2) (fun(y:Nat×List Int×GR)=>(y.1≤9∧y.2.1.length=y.1)∧(∀z∈y.2.1,0≤z∧z<27)∧IntG [bs,b6] y.2.1 y.2.2) (fun(y:Nat×List Int×GR)=>9-y.1) (0,[],⟨[],none⟩) yS (fun b o e=>by exact e) ⟨⟨Nat.zero_le _,rfl⟩,(fun z hz=>by cases hz),⟨rfl,rfl,NBg.none _ _⟩⟩ (fun y B hI hB=>?_);try dsimp only at hI hB;simp only[app_cons',app_nil']
  clear hnil
  obtain⟨i,l,g⟩:=y
  dsimp only at hI hB ⊢
  obtain⟨⟨i1,i2⟩,i3,i4⟩:=hI
  have H:=Box.mk (And.intro i4 (And.intro i3 hB))
  have hdel:=i4.nb.del 3 (c:=bs) (by simp)
  clear i3 i4 hB
  by_cases hi:(i:Int)<9
  ·have hq1:(i:Int).tdiv 3=(i:Int) / 3:=Int.tdiv_eq_ediv_of_nonneg (by omega)
   have hq2:(i:Int).tmod 3=(i:Int) % 3:=Int.tmod_eq_emod_of_nonneg (by omega)
   have hq3:(sh+(i:Int) / 3).tmod 3=(sh+(i:Int) / 3) % 3:=Int.tmod_eq_emod_of_nonneg (by omega)
   have hE:0≤9*((i:Int) / 3)+(sh+(i:Int) / 3) % 3+3*((i:Int) % 3)∧9*((i:Int) / 3)+(sh+(i:Int) / 3) % 3+3*((i:Int) % 3)<27:=by omega
   repeat' (first|with_reducible refine DS.fltS yU yU yX13 ?_|refine yJ ?_|(with_reducible (refine DS.cE yX13 ?_;refine CG.yes ?_))|fail)
   clear hq1 hq2 hq3
   generalize 9*((i:Int) / 3)+(sh+(i:Int) / 3) % 3+3*((i:Int) % 3)=e9 at *
   refine DS.bsl yU yG yG ?_
   simp only[go_sem,Nat.zero_add,Nat.reduceAdd]
   have hnb:=H.out.1.nb
   have hgl:g.l.length=l.length:=by rw[H.out.1.l,List.length_map]
   refine DS.reS (S':=(bs,srcO y1)::([(b6,Ob.cells [.v (.slice none 0 0), .v (.slice none 0 0)] 33)]++SRg 3 g)) (fun d o e=>e) ?_
   refine DS.step rfl rfl yR (OpS.appG (g:=g) (ml:= [cI e9]) rfl yH yH yR yR (by decide) yH (H.out.1.ok.under (L:= [(b6,Ob.cells [.v (.slice none 0 0), .v (.slice none 0 0)] 33)]) hnb) yH yH (by exact Nat.zero_lt_succ _) (by intro c hc;simp only[List.mem_cons,List.not_mem_nil,or_false]at hc;first|(subst hc;rfl)|(rcases hc with rfl|rfl <;> rfl)|(rcases hc with rfl|rfl|rfl <;> rfl)) ⟨by rw[hgl];simp only[List.length_cons,List.length_nil];omega,by decide⟩) (fun u2 E' S4 hu2=>?_)
   obtain⟨rfl,b',cap',junk',rfl,m1,m2,m3⟩:=hu2
   have hml:g.l++ [cI e9].map (fun x=>List.map V.copy x)=(l++ [(e9:Int)]).map cI:=by rw[H.out.1.l,List.map_append];rfl
   rw[hml]at m1 ⊢
   obtain⟨hnb2,hS4⟩:=srg_seq (L:= [(b6,Ob.cells [.v (.slice none 0 0), .v (.slice none 0 0)] 33)]) hnb m1 m2 m3
   refine DS.reS (S':=(bs,srcO y1)::([(b6,Ob.cells [.v (.slice none 0 0), .v (.slice none 0 0)] 33)]++SRg 3 ⟨(l++ [(e9:Int)]).map cI,some (b',cap',junk')⟩)) hS4 ?_
   have hI2:IntG [bs,b6] (l++ [(e9:Int)]) ⟨(l++ [(e9:Int)]).map cI,some (b',cap',junk')⟩:=⟨rfl,SRg.ok m1,hnb2⟩
   have H3:=Box.mk hI2
   clear hI2 hml m1 m2 m3 hnb2 hS4 hgl hnb
   simp only[putV_some]
   generalize hg2:(⟨(l++ [e9]).map cI,some (b',cap',junk')⟩:GR)=g2
   rw[hg2]at H3
   clear hg2
   repeat' (first|with_reducible refine DS.fltS yU yU yX13 ?_|refine yJ ?_|fail)
   refine DS.back (H.out.2.2 (i+1,l++ [e9],g2) _ _ (by dsimp only;omega) ⟨⟨by dsimp only;omega,by simp only[List.length_append,List.length_singleton];omega⟩,fun z hz=>(List.mem_append.1 hz).elim (H.out.2.1 z) fun hz=>by rw[List.mem_singleton.1 hz];exact hE,H3.out⟩ yS yS (fun d o e=>e))
  ·have cb7:=below_sc bs y1 7 (by omega)
   have bb7:=below_lt (x:=y1) (n:=7) (by omega)
   generalize belowX y1 7=k7 at *
   generalize stepX y1=y2 at *
   repeat' (first|with_reducible refine DS.fltS yU yU yX13 ?_|refine yJ ?_|(with_reducible (refine DS.cE yX13 ?_;refine CG.no ?_))|(refine DS.scS inferInstance (cb7) yR yX16 yX16 ?_;(try simp only[delS_cons,delS_nil,↓reduceIte, *]))|fail)
   try (simp only[delS_cons,delS_nil,n6,n6',↓reduceIte,hdel])
   skip
   refine DS.bsl yU yG yG ?_
   simp only[go_sem,Nat.zero_add,Nat.reduceAdd]
   have hnb:=H.out.1.nb
   have hgl:g.l.length=l.length:=by rw[H.out.1.l,List.length_map]
   refine DS.reS (S':=(bs,srcO y2)::([(b6,Ob.cells [.v (.slice none 0 0), .v (.slice none 0 0)] 33)]++SRg 3 g)) (fun d o e=>e) ?_
   refine DS.step rfl rfl yR (OpS.appG (g:=g) (ml:= [cI k7,cI (k7+1),cI (k7+2)]) rfl yH yH yR yR (by decide) yH (H.out.1.ok.under (L:= [(b6,Ob.cells [.v (.slice none 0 0), .v (.slice none 0 0)] 33)]) hnb) yH yH (by exact Nat.zero_lt_succ _) (by intro c hc;simp only[List.mem_cons,List.not_mem_nil,or_false]at hc;first|(subst hc;rfl)|(rcases hc with rfl|rfl <;> rfl)|(rcases hc with rfl|rfl|rfl <;> rfl)) ⟨by rw[hgl];simp only[List.length_cons,List.length_nil];omega,by decide⟩) (fun u2 E' S4 hu2=>?_)
   obtain⟨rfl,b',cap',junk',rfl,m1,m2,m3⟩:=hu2
   have hml:g.l++ [cI k7,cI (k7+1),cI (k7+2)].map (fun x=>List.map V.copy x)=(l++ [(k7:Int),((k7+1):Int),((k7+2):Int)]).map cI:=by rw[H.out.1.l,List.map_append];rfl
   rw[hml]at m1 ⊢
   obtain⟨hnb2,hS4⟩:=srg_seq (L:= [(b6,Ob.cells [.v (.slice none 0 0), .v (.slice none 0 0)] 33)]) hnb m1 m2 m3
   refine DS.reS (S':=(bs,srcO y2)::([(b6,Ob.cells [.v (.slice none 0 0), .v (.slice none 0 0)] 33)]++SRg 3 ⟨(l++ [(k7:Int),((k7+1):Int),((k7+2):Int)]).map cI,some (b',cap',junk')⟩)) hS4 ?_
   have hI2:IntG [bs,b6] (l++ [(k7:Int),((k7+1):Int),((k7+2):Int)]) ⟨(l++ [(k7:Int),((k7+1):Int),((k7+2):Int)]).map cI,some (b',cap',junk')⟩:=⟨rfl,SRg.ok m1,hnb2⟩
   have H3:=Box.mk hI2
   clear hI2 hml m1 m2 m3 hnb2 hS4 hgl hnb
   simp only[putV_some]
   have hl9:l.length=9:=by omega
   have cbN:=below_sc bs y2 s.plain (by omega)
   have bbN:=below_lt (x:=y2) (n:=s.plain) (by omega)
   generalize belowX y2 s.plain=pN at *
   generalize stepX y2=y3 at *
   have hdel3:=H3.out.nb.del 3 (c:=bs) (by simp)
   repeat' (first|with_reducible refine DS.fltS yU yU yX13 ?_|refine yJ ?_|refine DS.pcS inferInstance (hp) yR yX16 ?_|(refine DS.scS inferInstance (cbN) yR yX16 yX16 ?_;(try simp only[delS_cons,delS_nil,↓reduceIte, *]))|fail)
   try (simp only[delS_cons,delS_nil,n6,n6',↓reduceIte,hdel3])
   obtain⟨L12,hL⟩: ∃L12,l++ [(k7:Int),((k7+1):Int),((k7+2):Int)]=L12:=⟨_,rfl⟩
   have hL12:L12.length=12:=by rw[←hL];simp only[List.length_append,List.length_cons,List.length_nil];omega
   have hLi: ∀z∈L12,0≤z∧z<27:=fun z hz=>by
    rw[←hL]at hz
    rcases List.mem_append.1 hz with hz|hz
    ·exact H.out.2.1 z hz
    ·simp only[List.mem_cons,List.not_mem_nil,or_false]at hz
     rcases hz with rfl|rfl|rfl <;> omega
   rw[hL]at H3 ⊢
   have hok:GR.At 3 1 _ (L12.map cI) b' cap' junk':=H3.out.ok
   have q1:=hok.len
   have q2:=hok.le
   have q3:=hok.cap
   have h1:=H3.out.nb b' cap' junk' rfl
   simp only[List.mem_cons,List.not_mem_nil,or_false,not_or]at h1
   obtain⟨nq1,nq2⟩:=h1
   have nq1': ¬bs=b':=fun e=>nq1 e.symm
   have nq2': ¬b6=b':=fun e=>nq2 e.symm
   rw[List.length_map]at q1 q2
   simp only[SRg,GR.cell_some,List.length_map,ints_flatI]
   try (simp only[delS_cons,delS_nil,app_cons',app_nil',nq1,nq2,nq1',nq2',n6,n6',↓reduceIte])
   obtain⟨M3,hM3⟩: ∃M3:Nat,3*s.melds=M3:=⟨(3*s.melds).toNat,by omega⟩
   have hM3b:9≤M3∧M3≤12:=by omega
   have HLL:=Box.mk (And.intro hL (And.intro hLi hok))
   clear hL hLi hok hdel3 hdel
   rw[hL12]at q1 q2
   have hT:(L12.take M3).length=M3:=by rw[List.length_take];omega
   have hD:(L12.drop M3).length=12-M3:=by rw[List.length_drop];omega
   have hobj:(L12.map fun x=>I x)++junk'=((L12.take M3).map fun x=>I x)++(((L12.drop M3).map fun x=>I x)++junk'):=by
    rw[←List.append_assoc,←List.map_append,List.take_append_drop]
   have HT:=Box.mk (And.intro hT (And.intro hD (And.intro hobj hL12)))
   clear hT hD hobj
   repeat' (first|with_reducible refine DS.fltS yU yU yX13 ?_|fail)
   refine DS.ownI (t:=125) (b:=b') (cap:=cap') (l:=L12.take M3) (j:=((L12.drop M3).map fun x=>I x)++junk') (T:=3) (by rw[HT.out.1];(simp (disch:=omega) only[go_sem,dopV,yV0,↓reduceIte,Nat.reduceEqDiff,Nat.reduceLT,Nat.reduceLeDiff,Nat.reduceAdd,Nat.reduceMul,Nat.reduceSub,Int.reduceToNat,Int.reduceLT,Int.reduceLE,Int.reduceEq,IntWalk.toNatUp,IntWalk.iteOmega,IntWalk.i64_in,V.flat,V.one];try exact rfl)) (by rw[←HT.out.2.2.1];simp only[lookS_cons,nq1,nq2,nq1',nq2',n6,n6',↓reduceIte]) (by rw[HT.out.1];omega) (by rw[HT.out.1,List.length_append,List.length_map,HT.out.2.1];omega) ?_
   simp only[delS_cons,delS_nil,nq1,nq2,nq1',nq2',n6,n6',↓reduceIte]
   have hkk:KindsIn s.plain.toNat (L12.take M3++ [pN,pN]):=KindsIn.app (fun z hz=>by have:=HLL.out.2.1 z (List.mem_of_mem_take hz);omega) (fun z hz=>by simp only[List.mem_cons,List.not_mem_nil,or_false,or_self]at hz;subst hz;omega)
   have hkL:(L12.take M3++ [pN,pN]).length≤100:=by rw[List.length_append,HT.out.1];simp only[List.length_cons,List.length_nil];omega
   have HKK:=Box.mk (And.intro hkk hkL)
   clear hkk hkL
   repeat' (first|(with_reducible refine DS.mv (t:=8) yU yO yX6 ?_;simp only[yS2,Nat.reduceEqDiff,↓reduceIte])|with_reducible refine DS.fltS yU yU yX6 ?_|refine yJ ?_|(refine DS.bsl yU yX6 yX6 ?_;simp only[go_sem,Nat.zero_add,Nat.reduceAdd])|(refine DS.append (mm:=false) yU yX6 yX6 yU (by decide) yX6 yO2 yX6 yX20 yLM yQ2 ?_;simp only[yS2,Nat.reduceEqDiff,↓reduceIte])|fail)
   refine DS.qp inferInstance (bagOf_qp s HS.out (L12.take M3++ [pN,pN]) HKK.out.1 HKK.out.2) yR yX22 (fun u hu=>?_)
   obtain⟨bag,rfl,hB⟩:=hu
   have HB:=Box.mk hB
   clear hB
   repeat' (first|with_reducible refine DS.fltS yU yU yX6 ?_|refine yJ ?_|(refine DS.letF (t:=17) yU yX6 yU (fun _=>yX6) yX6 yU yV1 (fun _=>yN1) ?_;simp only[go_sem])|fail)
   refine DS.drawLS (id:=27) ([(bs,srcO y3),(b6,Ob.cells [.v (.slice none 0 0), .v (.slice none 0 0)] 33)]) ([]) [0,1,2,3] 4 yKR mixed yP1 yP2 ((fun d o e=>?_)) ((fun d o e=>by cases e)) ?_
   ·refine⟨?_,rfl⟩
    first|exact e|(rw[lookS_swap n6'];exact e)
   repeat' (first|with_reducible refine DD.fltS yU yU yU yE ?_|fail)
   refine DD.callV inferInstance (full_qp s HS.out ⟨bag,[]⟩ 1000 HB.out.bd (by rw[HB.out.len];omega) (by omega) (Nat.zero_le _) (fun g hg=>by cases hg)) (fun v S' ⟨r,hr⟩=>⟨_,hr⟩) yR yH (fun u hu=>?_)
   obtain⟨S',r,hr⟩:=hu
   cases hr
   simp only[delV_cons',delV_nil',Nat.reduceEqDiff,↓reduceIte]
   repeat' (first|with_reducible refine DS.fltS yU yU yX6 ?_|refine yJ ?_|(refine DS.store yR yX6 yX6 yX6 yX6 yU yQ ?_;simp only[yS1];try simp only[yS2,Nat.reduceEqDiff,↓reduceIte])|with_reducible refine DD.nil0 ?_|fail)
   simp only[setS,delS_cons,delS_nil,app_cons',app_nil',n6,n6',↓reduceIte,List.map_cons,List.map_nil,copy_v,copy_lst,copy_own,setAll_cons,setAll_nil,set_cons',set_zero',Nat.reduceAdd,Nat.zero_add]
   refine DS.retW [(bs,srcO y3)] (by(simp (disch:=omega) only[go_sem,dopV,yV0,↓reduceIte,Nat.reduceEqDiff,Nat.reduceLT,Nat.reduceLeDiff,Nat.reduceAdd,Nat.reduceMul,Nat.reduceSub,Int.reduceToNat,Int.reduceLT,Int.reduceLE,Int.reduceEq,IntWalk.toNatUp,IntWalk.iteOmega,IntWalk.i64_in,V.flat,V.one,setS,setAll,n6,n6'];exact rfl)) (fun b o e=>?_) ?_
   ·simp only[lookS_cons,lookS_nil]at e ⊢
    split at e
    ·rename_i hb;subst hb;simp only[n6',↓reduceIte];exact e
    ·cases e
   ·exact⟨⟨⟨bag,[]⟩,r,rfl,⟨HB.out,Nat.zero_le _,fun g hg=>by cases hg⟩⟩,y3,rfl⟩
 have w5':(wh=5)=False:=eq_false w5
 by_cases w6:wh=6
 ·have w6':(wh=6)=True:=eq_true w6
  have hfl:(fk.length:Int)=3*s.melds+2:=HFI.out.list w6
  have hfl2:fk.length≤14:=by omega
  clear w2 w3 w4 w5 w6 hbu hkn hdi hfl
  repeat' (first|with_reducible (refine DS.nilOwn (t:=8) yU yO yX6 ?_)|(with_reducible refine DS.mv (t:=8) yU yO yX6 ?_;simp only[yS2,Nat.reduceEqDiff,↓reduceIte])|with_reducible refine DS.fltS yU yU yX6 ?_|refine yJ ?_|(with_reducible (refine DS.cE yX6 ?_;first|refine CG.yes ?_|refine CG.no ?_))|fail)
  refine DS.qp inferInstance (bagOf_qp s HS.out fk HFI.out.kinds (by omega)) yR yH (fun u hu=>?_)
  obtain⟨bag,rfl,hB⟩:=hu
  have HB:=Box.mk hB
  clear hB
  repeat' (first|with_reducible refine DS.fltS yU yU yX6 ?_|refine yJ ?_|(refine DS.letF (t:=17) yU yX6 yU (fun _=>yX6) yX6 yU yV1 (fun _=>yN1) ?_;simp only[go_sem])|fail)
  refine DS.drawLS (id:=27) ([(bs,srcO x),(b6,Ob.cells [.v (.slice none 0 0), .v (.slice none 0 0)] 33)]) ([]) [0,1,2,3] 4 yKR mixed yP1 yP2 ((fun d o e=>?_)) ((fun d o e=>by cases e)) ?_
  ·refine⟨?_,rfl⟩
   first|exact e|(rw[lookS_swap n6'];exact e)
  repeat' (first|with_reducible refine DD.fltS yU yU yU yE ?_|fail)
  refine DD.callV inferInstance (full_qp s HS.out ⟨bag,[]⟩ 1000 HB.out.bd (by rw[HB.out.len];omega) (by omega) (Nat.zero_le _) (fun g hg=>by cases hg)) (fun v S' ⟨r,hr⟩=>⟨_,hr⟩) yR yH (fun u hu=>?_)
  obtain⟨S',r,hr⟩:=hu
  cases hr
  simp only[delV_cons',delV_nil',Nat.reduceEqDiff,↓reduceIte]
  repeat' (first|with_reducible refine DS.fltS yU yU yX6 ?_|refine yJ ?_|(refine DS.store yR yX6 yX6 yX6 yX6 yU yQ ?_;simp only[yS1];try simp only[yS2,Nat.reduceEqDiff,↓reduceIte])|with_reducible refine DD.nil0 ?_|fail)
  simp only[setS,delS_cons,delS_nil,app_cons',app_nil',n6,n6',↓reduceIte,List.map_cons,List.map_nil,copy_v,copy_lst,copy_own,setAll_cons,setAll_nil,set_cons',set_zero',Nat.reduceAdd,Nat.zero_add]
  refine DS.retW [(bs,srcO x)] (by(simp (disch:=omega) only[go_sem,dopV,yV0,↓reduceIte,Nat.reduceEqDiff,Nat.reduceLT,Nat.reduceLeDiff,Nat.reduceAdd,Nat.reduceMul,Nat.reduceSub,Int.reduceToNat,Int.reduceLT,Int.reduceLE,Int.reduceEq,IntWalk.toNatUp,IntWalk.iteOmega,IntWalk.i64_in,V.flat,V.one,setS,setAll,n6,n6'];exact rfl)) (fun b o e=>?_) ?_
  ·simp only[lookS_cons,lookS_nil]at e ⊢
   split at e
   ·rename_i hb;subst hb;simp only[n6',↓reduceIte];exact e
   ·cases e
  ·exact⟨⟨⟨bag,[]⟩,r,rfl,⟨HB.out,Nat.zero_le _,fun g hg=>by cases hg⟩⟩,x,rfl⟩
 ·have w6':(wh=6)=False:=eq_false w6
  clear w2 w3 w4 w5 w6 hkn hdi
  repeat' (first|(with_reducible (refine DS.nilOwn (t:=8) yU yO yE ?_))|refine yJT ?_|fail)
  refine DS.qc inferInstance hbu yR yH (by(simp (disch:=omega) only[go_sem,dopV,yV0,↓reduceIte,Nat.reduceEqDiff,Nat.reduceLT,Nat.reduceLeDiff,Nat.reduceAdd,Nat.reduceMul,Nat.reduceSub,Int.reduceToNat,Int.reduceLT,Int.reduceLE,Int.reduceEq,IntWalk.toNatUp,IntWalk.iteOmega,IntWalk.i64_in,V.flat,V.one,n6,n6'];try exact rfl)) (fun u x' hu=>?_)
  obtain⟨hd2,gs,r,rfl,hB⟩:=hu
  simp only[delS_cons,delS_nil,n6,n6',↓reduceIte]
  repeat' (first|with_reducible refine DS.fltS yU yU yX6 ?_|refine yJ ?_|(refine DS.letF (t:=14) yU yX6 yU (fun _=>yX6) yX6 yU yV1 (fun _=>yN1) ?_;simp only[go_sem])|(refine DS.store yR yX6 yX6 yX6 yX6 yU yQ ?_;simp only[yS1];try simp only[yS2,Nat.reduceEqDiff,↓reduceIte])|fail)
  simp only[setS,delS_cons,delS_nil,app_cons',app_nil',n6,n6',↓reduceIte,List.map_cons,List.map_nil,copy_v,copy_lst,copy_own,setAll_cons,setAll_nil,set_cons',set_zero',Nat.reduceAdd,Nat.zero_add]
  refine DS.retW [(bs,srcO x')] (by(simp (disch:=omega) only[go_sem,dopV,yV0,↓reduceIte,Nat.reduceEqDiff,Nat.reduceLT,Nat.reduceLeDiff,Nat.reduceAdd,Nat.reduceMul,Nat.reduceSub,Int.reduceToNat,Int.reduceLT,Int.reduceLE,Int.reduceEq,IntWalk.toNatUp,IntWalk.iteOmega,IntWalk.i64_in,V.flat,V.one,setS,setAll,n6,n6'];exact rfl)) (fun b o e=>?_) ?_
  ·simp only[lookS_cons,lookS_nil]at e ⊢
   split at e
   ·rename_i hb;subst hb;simp only[n6',↓reduceIte];exact e
   ·cases e
  ·exact⟨⟨hd2,r,rfl,hB⟩,x',rfl⟩
end Go.XL
namespace Go.XL
open Go.Proofs
set_option maxRecDepth 100000
set_option maxHeartbeats 8000000
theorem formsS_all {s:GSet} {l:List Form} (h:formsS s l=0):(1≤l.length∧l.length≤8)∧ ∀f∈l,formS s f=0:=by
 rw[formsS]at h
 split at h
 ·exact absurd h (by assumption)
 split at h
 ·exact absurd h (by decide)
 split at h
 ·exact absurd h (by decide)
 refine⟨⟨by omega,by omega⟩,?_⟩
 rename_i h1 h2 h3
 clear h1 h2 h3
 induction l with
 | nil=>intro f hf;cases hf
 | cons a l ih =>
  rw[formsGo]at h
  split at h
  ·exact absurd h (by assumption)
  ·rename_i h0
   intro f hf
   rcases List.mem_cons.1 hf with rfl|hf
   ·exact Classical.byContradiction h0
   ·exact ih h f hf
section
variable {P:Program} {n:Nat} {r:Rr} {Q:VEnv→Sto→Prop} {k:List Fr} {E0 E:VEnv} {S0 S1:Sto} {Mp:List MpE} {ops l:List Oper}
theorem DD.sure {t:Nat} {x:Value} (e:lookV E t=some (.v x)) (q:DD P n r Q ops S0 Mp l k ((t, .v x)::E0) E S1):DD P n r Q ops S0 Mp l k E0 E S1:=fun K0 K D W hv0 hs a SPs hbx hfl hE hp hS0 hz hl hR=>by
 obtain⟨w1,hw1,h1⟩:=hl
 obtain⟨_,_,hv1,hold1,env1,ha1,s1,_⟩:=hR noF _ h1
 obtain⟨y,e1,e2,_⟩:=s1.slot t _ e
 simp only[V.Rl]at e2;subst e2
 obtain⟨env,ha,hE'⟩:=hE
 refine q K0 K D W hv0 hs a SPs hbx hfl ⟨(t,y)::env,⟨ha.size,ha.defers,fun t' u h=>?_⟩,fun t' u h=>?_⟩ hp hS0 hz ⟨w1,hw1,h1⟩ hR
 ·simp only[XL.look]at h
  split at h
  ·rename_i q;subst q;cases h;exact ha1.look _ _ e1
  ·exact ha.look _ _ h
 ·rw[lookV_cons]at h
  split at h
  ·rename_i q;subst q;cases h;exact⟨y,by simp only[XL.look,↓reduceIte],V.Rl_v⟩
  ·rename_i q
   obtain⟨z,g1,g2⟩:=hE' _ _ h
   exact⟨z,by simp only[XL.look,if_neg q];exact g1,g2⟩
end
structure HandUp (n:Nat) (h:Hnd):Prop where
 bag:Bag n 1001 h.bag
 melds:h.melds.length≤4
 kinds:MeldsIn n h.melds
theorem HandIn.up {n:Nat} {h:Hnd} (H:HandIn n h):HandUp n h:=⟨⟨H.bag.len,fun z hz=>by have:=H.bag.bd z hz;omega⟩,H.melds,H.kinds⟩
theorem handOf_qc (bs:Nat) (x:Int) (s:GSet) (h:gsetS s=0) (l:List Form) (hl:formsS s l=0):QC Tryz.prog 42 [ptr bs,s.val,formsV l] bs x (fun u=> ∃hd:Hnd,u=hd.val∧HandUp s.plain.toNat hd):=by
 have ok:=gset_ok h
 have hp:=kitPlain_pc s ok.few
 have hpl:=ok.plain
 obtain⟨hln,hfo⟩:=formsS_all hl
 have hbu:=fun y=>built_qc bs y s h
 have hfi:=fun y hd hh=>filled_qc bs y s h hd hh
 have hwo:=fun y f hf=>won_qc bs y s h f hf
 generalize hN:s.plain.toNat=N at *
 have hNi:(N:Int)=s.plain:=by omega
 have HNI:=Box.mk hNi
 clear hN hNi
 have HS:=Box.mk (And.intro h (And.intro hfo (And.intro hbu (And.intro hfi hwo))))
 clear ok h hl hfo hbu hfi hwo
 have cb:=below_sc bs x l.length (by omega)
 have bb:=below_lt (x:=x) (n:=(l.length:Int)) (by omega)
 obtain⟨k,hk⟩: ∃k:Nat,(k:Int)=belowX x l.length:=⟨(belowX x l.length).toNat,by omega⟩
 rw[←hk]at cb bb
 clear hk
 generalize stepX x=y1 at *
 have hkl:k<l.length:=by omega
 unfold QC
 refine DC.of_run Tryz.func42 rfl Tryz.ntmps42 Tryz.results42 (by simp) (fun _ _=>?_);simp only[argV_cons,argV_nil,go_sem,Nat.zero_add,Nat.reduceAdd]
 repeat' (first|refine yJ ?_|(refine DS.boxF (t:=4) yU yE yU ?_;simp only[yS3])|fail)
 refine DS.allocS yR yU yU (fun b6 h6=>?_)
 have n6: ¬bs=b6:=fun e=>by rw[lookS_cons,if_pos e]at h6;cases h6
 have n6': ¬b6=bs:=fun e=>n6 e.symm
 clear h6
 have hz:(Value.agg #[Value.slice none 0 0,Value.slice none 0 0]).cells.toList.map V.v= [.v (.slice none 0 0), .v (.slice none 0 0)]:=rfl
 rw[hz]
 clear hz
 repeat' (first|refine yJ ?_|fail)
 (refine DS.drawX (id:=1) (bs:=bs) (x:=x) (by simp only[lookS_cons,lookS_nil,↓reduceIte, *]) [0,1,2,3,4,5,6,7,8,9,10,11,12,13,14] 15 yKR mixed yP1 yP2 ?_;simp only[delS_cons,delS_nil,↓reduceIte, *])
 repeat' (first|with_reducible refine DD.fltS yU yU yU yE ?_|fail)
 refine DD.scS inferInstance cb yR yH (by simp only[lookS_cons,lookS_nil,↓reduceIte]) ?_
 simp only[delV_cons',delV_nil',Nat.reduceEqDiff,↓reduceIte]
 try (simp only[delS_cons,delS_nil,↓reduceIte])
 refine DD.sure (t:=18) (x := .int .i64 k) (by simp only[lookV_cons,↓reduceIte]) ?_
 repeat' (first|with_reducible refine DD.fltS yU yU yU yE ?_|fail)
 try refine DD.fltS yU yU yU yG ?_
 have hw:=HS.out.2.2.2.2 y1 l[k] (HS.out.2.1 _ (List.getElem_mem hkl))
 refine DD.callR [(bs,srcO y1)] [] inferInstance hw yR yH (fun _ _ e=>e) (fun _ _ e=>by cases e) (late_of yKR) (fun u S' hu hdis=>?_)
 obtain⟨⟨hd1,r1,rfl,hH⟩,z1,rfl⟩:=hu
 have HH:=Box.mk hH
 clear hH hdis hw
 simp only[List.append_nil]
 repeat' (first|with_reducible refine DD.flt1S yU yU yU yU yE ?_|fail)
 refine DD.alloc yR yU yU (fun b7 a1 a2=>?_)
 have n7: ¬bs=b7:=fun e=>by rw[lookS_cons,if_pos e]at a1;cases a1
 have n7': ¬b7=bs:=fun e=>n7 e.symm
 have n67: ¬b6=b7:=fun e=>by rw[lookS_cons,if_pos e]at a2;cases a2
 have n67': ¬b7=b6:=fun e=>n67 e.symm
 clear a1 a2
 have hz7: ∀u v:V,u.copy=u→v.copy=v→setAll (List.map V.v (Value.agg #[Value.slice none 0 0,Value.slice none 0 0]).cells.toList) 0 (V.agg [u,v]).scells= [u,v]:=fun u v h1 h2=>by show [u.copy,v.copy]= [u,v];rw[h1,h2]
 refine DD.store (b:=b7) (off:=0) (m:=2) (T':=33) yR yH yG yU (by simp only[lookS_cons,↓reduceIte];rfl) yR ⟨by rfl,by decide⟩ (fun _=>MpOk.nil) ?_
 simp only[setS,delS_cons,delS_nil,app_cons',app_nil',n6,n6',n7,n7',n67,n67',↓reduceIte,List.map_cons,List.map_nil,copy_v,copy_lst,copy_own,setAll_cons,setAll_nil,set_cons',set_zero',Nat.reduceAdd,Nat.zero_add]
 rw[hz7 _ _ rfl rfl]
 refine DD.nil ?_
 simp only[app_cons',app_nil']
 cases r1 with
 | false =>
  repeat' (first|with_reducible refine DS.fltS yU yU yX6 ?_|refine yJ ?_|(with_reducible first|(refine DS.cE yX6 ?_;refine CG.yes ?_)|(refine DS.gE yU yX6 ?_;refine GG.sT ?_))|fail)
  refine DS.qc inferInstance (HS.out.2.2.1 z1) yR yH (by(simp (disch:=omega) only[go_sem,dopV,yV0,↓reduceIte,Nat.reduceEqDiff,Nat.reduceLT,Nat.reduceLeDiff,Nat.reduceAdd,Nat.reduceMul,Nat.reduceSub,Int.reduceToNat,Int.reduceLT,Int.reduceLE,Int.reduceEq,IntWalk.toNatUp,IntWalk.iteOmega,IntWalk.i64_in,V.flat,V.one,n6,n6',n7,n7',n67,n67'];try exact rfl)) (fun u z3 hu=>?_)
  obtain⟨hd2,gs,r,rfl,hB⟩:=hu
  have HB:=Box.mk hB
  clear hB
  simp only[delS_cons,delS_nil,n6,n6',n7,n7',n67,n67',↓reduceIte]
  repeat' (first|with_reducible refine DS.fltS yU yU yX6 ?_|refine yJ ?_|(refine DS.store yR yX6 yX6 yX6 yX6 yU yQ ?_;simp only[yS1];try simp only[yS2,Nat.reduceEqDiff,↓reduceIte])|fail)
  try (simp only[setS,delS_cons,delS_nil,app_cons',app_nil',n6,n6',n7,n7',n67,n67',↓reduceIte,List.map_cons,List.map_nil,copy_v,copy_lst,copy_own,setAll_cons,setAll_nil,set_cons',set_zero',Nat.reduceAdd,Nat.zero_add])
  skip
  refine DS.qc inferInstance (HS.out.2.2.2.1 z3 hd2 HB.out) yR yH (by(simp (disch:=omega) only[go_sem,dopV,yV0,↓reduceIte,Nat.reduceEqDiff,Nat.reduceLT,Nat.reduceLeDiff,Nat.reduceAdd,Nat.reduceMul,Nat.reduceSub,Int.reduceToNat,Int.reduceLT,Int.reduceLE,Int.reduceEq,IntWalk.toNatUp,IntWalk.iteOmega,IntWalk.i64_in,V.flat,V.one,n6,n6',n7,n7',n67,n67'];try exact rfl)) (fun u z4 hu=>?_)
  obtain⟨hd3,rfl,hC⟩:=hu
  have HC:=Box.mk hC
  clear hC
  simp only[delS_cons,delS_nil,n6,n6',n7,n7',n67,n67',↓reduceIte]
  repeat' (first|refine yJ ?_|(refine DS.store yR yX6 yX6 yX6 yX6 yU yQ ?_;simp only[yS1];try simp only[yS2,Nat.reduceEqDiff,↓reduceIte])|fail)
  try (simp only[setS,delS_cons,delS_nil,app_cons',app_nil',n6,n6',n7,n7',n67,n67',↓reduceIte,List.map_cons,List.map_nil,copy_v,copy_lst,copy_own,setAll_cons,setAll_nil,set_cons',set_zero',Nat.reduceAdd,Nat.zero_add])
  refine DS.retW [(bs,srcO z4)] (by(simp (disch:=omega) only[go_sem,dopV,yV0,↓reduceIte,Nat.reduceEqDiff,Nat.reduceLT,Nat.reduceLeDiff,Nat.reduceAdd,Nat.reduceMul,Nat.reduceSub,Int.reduceToNat,Int.reduceLT,Int.reduceLE,Int.reduceEq,IntWalk.toNatUp,IntWalk.iteOmega,IntWalk.i64_in,V.flat,V.one,setS,setAll,n6,n6',n7,n7',n67,n67'];exact rfl)) (fun b o e=>?_) ?_
  ·simp only[lookS_cons,lookS_nil]at e ⊢
   split at e
   ·rename_i hb;subst hb;simp only[n6,n6',n7,n7',n67,n67',↓reduceIte];exact e
   ·cases e
  ·exact⟨⟨hd3,rfl,HC.out.up⟩,z4,rfl⟩
 | true =>
  have cod:=odds_sc bs z1 6 (by omega)
  obtain⟨od,hod⟩: ∃od,oddsX z1 6=od:=⟨_,rfl⟩
  obtain⟨z2,hz2⟩: ∃z2,stepX z1=z2:=⟨_,rfl⟩
  rw[hod,hz2]at cod
  clear hod hz2
  repeat' (first|with_reducible refine DS.fltS yU yU yX6 ?_|refine yJ ?_|(with_reducible (refine DS.gE yU yX6 ?_;refine GG.run ?_))|fail)
  refine DS.scS inferInstance cod yR yH (by simp only[lookS_cons,n6,n6',n7,n7',n67,n67',↓reduceIte]) ?_
  try (simp only[delS_cons,delS_nil,n6,n6',n7,n7',n67,n67',↓reduceIte])
  cases od with
  | true =>
   repeat' (first|with_reducible refine DS.fltS yU yU yX6 ?_|refine yJ ?_|(with_reducible (refine DS.cE yX6 ?_;refine CG.yes ?_))|fail)
   refine DS.qc inferInstance (HS.out.2.2.1 z2) yR yH (by(simp (disch:=omega) only[go_sem,dopV,yV0,↓reduceIte,Nat.reduceEqDiff,Nat.reduceLT,Nat.reduceLeDiff,Nat.reduceAdd,Nat.reduceMul,Nat.reduceSub,Int.reduceToNat,Int.reduceLT,Int.reduceLE,Int.reduceEq,IntWalk.toNatUp,IntWalk.iteOmega,IntWalk.i64_in,V.flat,V.one,n6,n6',n7,n7',n67,n67'];try exact rfl)) (fun u z3 hu=>?_)
   obtain⟨hd2,gs,r,rfl,hB⟩:=hu
   have HB:=Box.mk hB
   clear hB
   simp only[delS_cons,delS_nil,n6,n6',n7,n7',n67,n67',↓reduceIte]
   repeat' (first|with_reducible refine DS.fltS yU yU yX6 ?_|refine yJ ?_|(refine DS.store yR yX6 yX6 yX6 yX6 yU yQ ?_;simp only[yS1];try simp only[yS2,Nat.reduceEqDiff,↓reduceIte])|fail)
   try (simp only[setS,delS_cons,delS_nil,app_cons',app_nil',n6,n6',n7,n7',n67,n67',↓reduceIte,List.map_cons,List.map_nil,copy_v,copy_lst,copy_own,setAll_cons,setAll_nil,set_cons',set_zero',Nat.reduceAdd,Nat.zero_add])
   skip
   refine DS.qc inferInstance (HS.out.2.2.2.1 z3 hd2 HB.out) yR yH (by(simp (disch:=omega) only[go_sem,dopV,yV0,↓reduceIte,Nat.reduceEqDiff,Nat.reduceLT,Nat.reduceLeDiff,Nat.reduceAdd,Nat.reduceMul,Nat.reduceSub,Int.reduceToNat,Int.reduceLT,Int.reduceLE,Int.reduceEq,IntWalk.toNatUp,IntWalk.iteOmega,IntWalk.i64_in,V.flat,V.one,n6,n6',n7,n7',n67,n67'];try exact rfl)) (fun u z4 hu=>?_)
   obtain⟨hd3,rfl,hC⟩:=hu
   have HC:=Box.mk hC
   clear hC
   simp only[delS_cons,delS_nil,n6,n6',n7,n7',n67,n67',↓reduceIte]
   repeat' (first|refine yJ ?_|(refine DS.store yR yX6 yX6 yX6 yX6 yU yQ ?_;simp only[yS1];try simp only[yS2,Nat.reduceEqDiff,↓reduceIte])|fail)
   try (simp only[setS,delS_cons,delS_nil,app_cons',app_nil',n6,n6',n7,n7',n67,n67',↓reduceIte,List.map_cons,List.map_nil,copy_v,copy_lst,copy_own,setAll_cons,setAll_nil,set_cons',set_zero',Nat.reduceAdd,Nat.zero_add])
   refine DS.retW [(bs,srcO z4)] (by(simp (disch:=omega) only[go_sem,dopV,yV0,↓reduceIte,Nat.reduceEqDiff,Nat.reduceLT,Nat.reduceLeDiff,Nat.reduceAdd,Nat.reduceMul,Nat.reduceSub,Int.reduceToNat,Int.reduceLT,Int.reduceLE,Int.reduceEq,IntWalk.toNatUp,IntWalk.iteOmega,IntWalk.i64_in,V.flat,V.one,setS,setAll,n6,n6',n7,n7',n67,n67'];exact rfl)) (fun b o e=>?_) ?_
   ·simp only[lookS_cons,lookS_nil]at e ⊢
    split at e
    ·rename_i hb;subst hb;simp only[n6,n6',n7,n7',n67,n67',↓reduceIte];exact e
    ·cases e
   ·exact⟨⟨hd3,rfl,HC.out.up⟩,z4,rfl⟩
  | false =>
   repeat' (first|with_reducible refine DS.fltS yU yU yX6 ?_|refine yJ ?_|(with_reducible (refine DS.cE yX6 ?_;refine CG.no ?_))|fail)
   have coe:=odds_sc bs z2 3 (by omega)
   obtain⟨oe,hoe⟩: ∃oe,oddsX z2 3=oe:=⟨_,rfl⟩
   obtain⟨z3,hz3⟩: ∃z3,stepX z2=z3:=⟨_,rfl⟩
   rw[hoe,hz3]at coe
   clear hoe hz3
   skip
   refine DS.scS inferInstance coe yR yH (by simp only[lookS_cons,n6,n6',n7,n7',n67,n67',↓reduceIte]) ?_
   try (simp only[delS_cons,delS_nil,n6,n6',n7,n7',n67,n67',↓reduceIte])
   cases oe with
   | false =>
    repeat' (first|with_reducible refine DS.fltS yU yU yX6 ?_|refine yJ ?_|(with_reducible (refine DS.cE yX6 ?_;refine CG.no ?_))|(refine DS.store yR yX6 yX6 yX6 yX6 yU yQ ?_;simp only[yS1];try simp only[yS2,Nat.reduceEqDiff,↓reduceIte])|fail)
    try (simp only[setS,delS_cons,delS_nil,app_cons',app_nil',n6,n6',n7,n7',n67,n67',↓reduceIte,List.map_cons,List.map_nil,copy_v,copy_lst,copy_own,setAll_cons,setAll_nil,set_cons',set_zero',Nat.reduceAdd,Nat.zero_add])
    refine DS.retW [(bs,srcO z3)] (by(simp (disch:=omega) only[go_sem,dopV,yV0,↓reduceIte,Nat.reduceEqDiff,Nat.reduceLT,Nat.reduceLeDiff,Nat.reduceAdd,Nat.reduceMul,Nat.reduceSub,Int.reduceToNat,Int.reduceLT,Int.reduceLE,Int.reduceEq,IntWalk.toNatUp,IntWalk.iteOmega,IntWalk.i64_in,V.flat,V.one,setS,setAll,n6,n6',n7,n7',n67,n67'];exact rfl)) (fun b o e=>?_) ?_
    ·simp only[lookS_cons,lookS_nil]at e ⊢
     split at e
     ·rename_i hb;subst hb;simp only[n6,n6',n7,n7',n67,n67',↓reduceIte];exact e
     ·cases e
    ·exact⟨⟨hd1,rfl,HH.out.up⟩,z3,rfl⟩
   | true =>
    repeat' (first|with_reducible refine DS.fltS yU yU yX6 ?_|refine yJ ?_|(with_reducible (refine DS.cE yX6 ?_;refine CG.yes ?_))|fail)
    refine DS.call (dst:=some 45) [(bs,srcO z3)] [(b7,Ob.cells [ints hd1.bag,grpsV hd1.melds] 33),(b6,Ob.cells [.v (.slice none 0 0), .v (.slice none 0 0)] 33)] inferInstance (without_dc bs z3 hd1 N 1000 HH.out.bag (by have:=HNI.out;omega) (by omega) (by have:=HH.out.melds;omega)) yR yH (fun d o e=>?_) (fun d o e=>?_) (fun u S0 hu hdis=>?_)
    ·simp only[lookS_cons,lookS_nil]at e ⊢
     split at e
     ·rename_i hq;subst hq;simp only[↓reduceIte];exact e
     ·cases e
    ·simp only[lookS_cons,lookS_nil]at e ⊢
     split at e
     ·rename_i hq;subst hq;simp only[n7,n7',↓reduceIte];exact⟨e,trivial⟩
     ·rename_i hq0
      split at e
      ·rename_i hq;subst hq;simp only[n6,n6',n67',↓reduceIte];exact⟨e,trivial⟩
      ·cases e
    obtain⟨b,cap,j,l1,z4,m0,q1,q2,q3,q4,rfl,rfl⟩:=hu
    have m0': ¬b=bs:=fun e=>m0 e.symm
    have hd0:=hdis b _ (by simp only[lookS_cons,m0,↓reduceIte];exact rfl)
    simp only[lookS_cons,lookS_nil]at hd0
    have m7: ¬b7=b:=fun e=>by rw[if_pos e]at hd0;cases hd0
    have m7': ¬b=b7:=fun e=>m7 e.symm
    have m6: ¬b6=b:=fun e=>by rw[if_neg m7,if_pos e]at hd0;cases hd0
    have m6': ¬b=b6:=fun e=>m6 e.symm
    clear hd0
    have HW:=Box.mk (And.intro hdis (And.intro q3 q4))
    clear hdis q3
    simp only[putV_some,app_cons',app_nil']
    refine DS.allocS yR yU yU (fun b9 h9=>?_)
    have h9a:=h9
    simp only[lookS_cons,lookS_nil]at h9a
    have k0: ¬bs=b9:=fun e=>by rw[if_pos e]at h9a;cases h9a
    have k0': ¬b9=bs:=fun e=>k0 e.symm
    rw[if_neg k0]at h9a
    have kb: ¬b=b9:=fun e=>by rw[if_pos e]at h9a;cases h9a
    have kb': ¬b9=b:=fun e=>kb e.symm
    rw[if_neg kb]at h9a
    have k7: ¬b7=b9:=fun e=>by rw[if_pos e]at h9a;cases h9a
    have k7': ¬b9=b7:=fun e=>k7 e.symm
    rw[if_neg k7]at h9a
    have k6: ¬b6=b9:=fun e=>by rw[if_pos e]at h9a;cases h9a
    have k6': ¬b9=b6:=fun e=>k6 e.symm
    clear h9 h9a
    have cbp:=below_sc bs z4 s.plain (by omega)
    have bbp:=below_lt (x:=z4) (n:=s.plain) (by omega)
    obtain⟨k2,hk2⟩: ∃k2:Nat,(k2:Int)=belowX z4 s.plain:=⟨(belowX z4 s.plain).toNat,by omega⟩
    rw[←hk2]at cbp bbp
    clear hk2
    generalize stepX z4=z5 at *
    have hk2N:k2<l1.length:=by have:=q4.len;have:=HNI.out;omega
    have hk2n:(k2:Int)<N:=by have:=HNI.out;omega
    have hm2:=q4.get hk2N
    clear q4
    repeat' (first|with_reducible refine DS.fltS yU yU yX6 ?_|refine yJ ?_|refine DS.pcS inferInstance (hp) yR yX12 ?_|(refine DS.scS inferInstance (cbp) yR yX12 yX12 ?_;(try simp only[delS_cons,delS_nil,↓reduceIte, *]))|(refine DS.store yR yX6 yX6 yX6 yX6 yU yQ ?_;simp only[yS1];try simp only[yS2,Nat.reduceEqDiff,↓reduceIte])|fail)
    try (simp only[setS,delS_cons,delS_nil,app_cons',app_nil',n6,n6',n7,n7',n67,n67',m0,m0',m6,m6',m7,m7',k0,k0',k6,k6',k7,k7',kb,kb',↓reduceIte,List.map_cons,List.map_nil,copy_v,copy_lst,copy_own,setAll_cons,setAll_nil,set_cons',set_zero',Nat.reduceAdd,Nat.zero_add])
    have g1:=objJ (j:=j) hk2N
    refine DS.fltS yU yU (by(simp (disch:=omega) only[go_sem,dopV,yV0,↓reduceIte,Nat.reduceEqDiff,Nat.reduceLT,Nat.reduceLeDiff,Nat.reduceAdd,Nat.reduceMul,Nat.reduceSub,Int.reduceToNat,Int.reduceLT,Int.reduceLE,Int.reduceEq,IntWalk.toNatUp,IntWalk.iteOmega,IntWalk.i64_in,V.flat,V.one,g1];exact rfl)) ?_
    refine DS.fltS yU yU yG ?_
    refine DS.fltS yU yU yG ?_
    refine DS.store yR yG yG yG yG yU (by exact⟨by with_unfolding_all rfl,by(try simp only[List.length_map,List.length_append,List.length_set]);omega⟩) ?_
    simp only[putV_none,setAll_cons,setAll_nil,scells_v]
    simp only[setS,delS_cons,delS_nil,app_cons',app_nil',n6,n6',n7,n7',n67,n67',m0,m0',m6,m6',m7,m7',k0,k0',k6,k6',k7,k7',kb,kb',↓reduceIte,List.map_cons,List.map_nil,copy_v,copy_lst,copy_own,setAll_cons,setAll_nil,set_cons',set_zero',Nat.reduceAdd,Nat.zero_add]
    rw[objJ_set hk2N]
    clear g1
    have hl2:Bag N 1001 (l1.set k2 (l1[k2]+1)):=⟨by rw[List.length_set];exact HW.out.2.2.len,fun z hz=>by
     rcases List.mem_or_eq_of_mem_set hz with hz|rfl
     ·have:=HW.out.2.2.bd z hz;omega
     ·omega⟩
    generalize l1.set k2 (l1[k2]+1)=l2 at *
    have hch:=chunk_objJ l2 j
    rw[hl2.len]at hch
    refine DS.freezeC (b:=b) (b':=b9) (i:=0) (sz:=1) (len:=N) (cap:=cap) (l:=(l2.map fun x=>I x)++j) (T:=3) (l':= [.v (.slice (some ⟨b,0,none⟩) N cap),grpsV hd1.melds]) (T':=33) kb' (by simp only[lookS_cons,n6,n6',n7,n7',n67,n67',m0,m0',m6,m6',m7,m7',k0,k0',k6,k6',k7,k7',kb,kb',↓reduceIte]) yR (by simp only[lookS_cons,n6,n6',n7,n7',n67,n67',m0,m0',m6,m6',m7,m7',k0,k0',k6,k6',k7,k7',kb,kb',↓reduceIte]) (by rw[List.length_append,List.length_map,hl2.len];omega) ⟨q1,q2⟩ ?_
    rw[hch]
    simp only[setS,delS_cons,delS_nil,app_cons',app_nil',n6,n6',n7,n7',n67,n67',m0,m0',m6,m6',m7,m7',k0,k0',k6,k6',k7,k7',kb,kb',↓reduceIte,List.map_cons,List.map_nil,copy_v,copy_lst,copy_own,setAll_cons,setAll_nil,set_cons',set_zero',Nat.reduceAdd,Nat.zero_add]
    clear hch
    have HL2:=Box.mk hl2
    clear hl2 hk2n
    repeat' (first|with_reducible refine DS.fltS yU yU yX6 ?_|refine yJ ?_|fail)
    have HU:HandUp N ⟨l2,hd1.melds⟩:=⟨HL2.out,HH.out.melds,HH.out.kinds⟩
    have hfu:=full_qp s HS.out.1 ⟨l2,hd1.melds⟩ 1001 HL2.out.bd (by show l2.length≤1000;rw[HL2.out.len];have:=HNI.out;omega) (by omega) (by show hd1.melds.length≤1000;have:=HH.out.melds;omega) (by rw[show s.plain.toNat=N by have:=HNI.out;omega];exact HH.out.kinds)
    refine DS.qp inferInstance hfu yR yH (fun u hu=>?_)
    obtain⟨r,rfl⟩:=hu
    cases r with
    | true =>
     repeat' (first|with_reducible refine DS.fltS yU yU yX6 ?_|refine yJ ?_|(with_reducible (refine DS.cE yX6 ?_;refine CG.yes ?_))|(refine DS.store yR yX6 yX6 yX6 yX6 yU yQ ?_;simp only[yS1];try simp only[yS2,Nat.reduceEqDiff,↓reduceIte])|fail)
     try (simp only[setS,delS_cons,delS_nil,app_cons',app_nil',n6,n6',n7,n7',n67,n67',m0,m0',m6,m6',m7,m7',k0,k0',k6,k6',k7,k7',kb,kb',↓reduceIte,List.map_cons,List.map_nil,copy_v,copy_lst,copy_own,setAll_cons,setAll_nil,set_cons',set_zero',Nat.reduceAdd,Nat.zero_add])
     refine DS.retW [(bs,srcO z5)] (by(simp (disch:=omega) only[go_sem,dopV,yV0,↓reduceIte,Nat.reduceEqDiff,Nat.reduceLT,Nat.reduceLeDiff,Nat.reduceAdd,Nat.reduceMul,Nat.reduceSub,Int.reduceToNat,Int.reduceLT,Int.reduceLE,Int.reduceEq,IntWalk.toNatUp,IntWalk.iteOmega,IntWalk.i64_in,V.flat,V.one,setS,setAll,n6,n6',n7,n7',n67,n67',m0,m0',m6,m6',m7,m7',k0,k0',k6,k6',k7,k7',kb,kb'];exact rfl)) (fun b o e=>?_) ?_
     ·simp only[lookS_cons,lookS_nil]at e ⊢
      split at e
      ·rename_i hb;subst hb;simp only[n6,n6',n7,n7',n67,n67',m0,m0',m6,m6',m7,m7',k0,k0',k6,k6',k7,k7',kb,kb',↓reduceIte];exact e
      ·cases e
     ·exact⟨⟨⟨l2,hd1.melds⟩,rfl,HU⟩,z5,rfl⟩
    | false =>
     repeat' (first|with_reducible refine DS.fltS yU yU yX6 ?_|refine yJ ?_|(with_reducible (refine DS.cE yX6 ?_;refine CG.no ?_))|(refine DS.store yR yX6 yX6 yX6 yX6 yU yQ ?_;simp only[yS1];try simp only[yS2,Nat.reduceEqDiff,↓reduceIte])|fail)
     try (simp only[setS,delS_cons,delS_nil,app_cons',app_nil',n6,n6',n7,n7',n67,n67',m0,m0',m6,m6',m7,m7',k0,k0',k6,k6',k7,k7',kb,kb',↓reduceIte,List.map_cons,List.map_nil,copy_v,copy_lst,copy_own,setAll_cons,setAll_nil,set_cons',set_zero',Nat.reduceAdd,Nat.zero_add])
     refine DS.retW [(bs,srcO z5)] (by(simp (disch:=omega) only[go_sem,dopV,yV0,↓reduceIte,Nat.reduceEqDiff,Nat.reduceLT,Nat.reduceLeDiff,Nat.reduceAdd,Nat.reduceMul,Nat.reduceSub,Int.reduceToNat,Int.reduceLT,Int.reduceLE,Int.reduceEq,IntWalk.toNatUp,IntWalk.iteOmega,IntWalk.i64_in,V.flat,V.one,setS,setAll,n6,n6',n7,n7',n67,n67',m0,m0',m6,m6',m7,m7',k0,k0',k6,k6',k7,k7',kb,kb'];exact rfl)) (fun b o e=>?_) ?_
     ·simp only[lookS_cons,lookS_nil]at e ⊢
      split at e
      ·rename_i hb;subst hb;simp only[n6,n6',n7,n7',n67,n67',m0,m0',m6,m6',m7,m7',k0,k0',k6,k6',k7,k7',kb,kb',↓reduceIte];exact e
      ·cases e
     ·exact⟨⟨hd1,rfl,HH.out.up⟩,z5,rfl⟩
end Go.XL
namespace Go.XL
open Go.Proofs
set_option maxRecDepth 100000
set_option maxHeartbeats 8000000
theorem shape_dc (l:List Int):DC Tryz.prog 9 [ints l] [] (fun u S'=> ∃(bs:Nat) (x:Int) (s:GSet) (fs:List Form) (hd:Hnd),u = .tup [ptr bs,s.val,formsV fs,hd.val]∧S'= [(bs,srcO x)]∧gsetS s=0∧formsS s fs=0∧HandUp s.plain.toNat hd):=by
 have hns:=newSource_dc l
 refine DC.of_run Tryz.func9 rfl Tryz.ntmps9 Tryz.results9 (by simp) (fun _ _=>?_);simp only[argV_cons,argV_nil,go_sem,Nat.zero_add,Nat.reduceAdd]
 repeat' (first|refine yJ ?_|fail)
 refine DS.allocS yR yU yU (fun b3 h3=>?_)
 repeat' (first|refine yJ ?_|fail)
 refine DS.allocS yR yU yU (fun b5 h5=>?_)
 have n35: ¬b3=b5:=fun e=>by rw[lookS_cons,if_pos e]at h5;cases h5
 have n35': ¬b5=b3:=fun e=>n35 e.symm
 clear h3 h5
 have hz5:(Value.agg #[Value.slice none 0 0,Value.slice none 0 0]).cells.toList.map V.v= [.v (.slice none 0 0), .v (.slice none 0 0)]:=rfl
 have hz3:(Value.agg #[.int .i64 0, .slice none 0 0, .int .i64 0, .int .i64 0, .int .i64 0, .int .i64 0, .int .i64 0, .int .i64 0, .slice none 0 0]).cells.toList.map V.v= [.v (.int .i64 0), .v (.slice none 0 0), .v (.int .i64 0), .v (.int .i64 0), .v (.int .i64 0), .v (.int .i64 0), .v (.int .i64 0), .v (.int .i64 0), .v (.slice none 0 0)]:=rfl
 rw[hz5,hz3]
 clear hz5 hz3
 repeat' (first|refine yJ ?_|fail)
 refine DS.call (dst:=some 10) [] [(b5,Ob.cells [.v (.slice none 0 0), .v (.slice none 0 0)] 33),(b3,Ob.cells [.v (.int .i64 0), .v (.slice none 0 0), .v (.int .i64 0), .v (.int .i64 0), .v (.int .i64 0), .v (.int .i64 0), .v (.int .i64 0), .v (.int .i64 0), .v (.slice none 0 0)] 24)] inferInstance hns yR yH (fun _ _ e=>by cases e) (fun _ _ e=>⟨e,rfl⟩) (fun u S0 hu hdis=>?_)
 obtain⟨bs,rfl,rfl⟩:=hu
 generalize newX l=x1 at *
 have hd0:=hdis bs _ (by simp only[lookS_cons,↓reduceIte];exact rfl)
 simp only[lookS_cons,lookS_nil]at hd0
 have m5: ¬b5=bs:=fun e=>by rw[if_pos e]at hd0;cases hd0
 have m5': ¬bs=b5:=fun e=>m5 e.symm
 have m3: ¬b3=bs:=fun e=>by rw[if_neg m5,if_pos e]at hd0;cases hd0
 have m3': ¬bs=b3:=fun e=>m3 e.symm
 clear hd0 hdis hns
 simp only[putV_some,app_cons',app_nil']
 repeat' (first|refine yJ ?_|fail)
 refine DS.qc inferInstance (setOf_qc bs x1) yR yH (by(simp (disch:=omega) only[go_sem,dopV,yV0,↓reduceIte,Nat.reduceEqDiff,Nat.reduceLT,Nat.reduceLeDiff,Nat.reduceAdd,Nat.reduceMul,Nat.reduceSub,Int.reduceToNat,Int.reduceLT,Int.reduceLE,Int.reduceEq,IntWalk.toNatUp,IntWalk.iteOmega,IntWalk.i64_in,V.flat,V.one,m3,m3',m5,m5'];try exact rfl)) (fun u x2 hu=>?_)
 obtain⟨s,rfl,hs⟩:=hu
 simp only[delS_cons,delS_nil,m3,m3',m5,m5',↓reduceIte]
 skip
 refine DS.allocS yR yU yU (fun b7 h7=>?_)
 simp only[lookS_cons,lookS_nil]at h7
 have k0: ¬bs=b7:=fun e=>by rw[if_pos e]at h7;cases h7
 have k0': ¬b7=bs:=fun e=>k0 e.symm
 rw[if_neg k0]at h7
 have k5: ¬b5=b7:=fun e=>by rw[if_pos e]at h7;cases h7
 have k5': ¬b7=b5:=fun e=>k5 e.symm
 rw[if_neg k5]at h7
 have k3: ¬b3=b7:=fun e=>by rw[if_pos e]at h7;cases h7
 have k3': ¬b7=b3:=fun e=>k3 e.symm
 clear h7
 have hz3:(Value.agg #[.int .i64 0, .slice none 0 0, .int .i64 0, .int .i64 0, .int .i64 0, .int .i64 0, .int .i64 0, .int .i64 0, .slice none 0 0]).cells.toList.map V.v= [.v (.int .i64 0), .v (.slice none 0 0), .v (.int .i64 0), .v (.int .i64 0), .v (.int .i64 0), .v (.int .i64 0), .v (.int .i64 0), .v (.int .i64 0), .v (.slice none 0 0)]:=rfl
 rw[hz3]
 clear hz3
 repeat' (first|refine yJ ?_|(refine DS.store yR yE yE yE yE yU yQ ?_;simp only[yS1];try simp only[yS2,Nat.reduceEqDiff,↓reduceIte])|fail)
 try (simp only[setS,delS_cons,delS_nil,app_cons',app_nil',n35,n35',m3,m3',m5,m5',k0,k0',k3,k3',k5,k5',↓reduceIte,List.map_cons,List.map_nil,copy_v,copy_lst,copy_own,setAll_cons,setAll_nil,set_cons',set_zero',Nat.reduceAdd,Nat.zero_add])
 have HS:=Box.mk hs
 clear hs
 have co:=odds_sc bs x2 5 (by omega)
 obtain⟨od,hod⟩: ∃od,oddsX x2 5=od:=⟨_,rfl⟩
 obtain⟨x3,hx3⟩: ∃x3,stepX x2=x3:=⟨_,rfl⟩
 rw[hod,hx3]at co
 clear hod hx3
 skip
 refine DS.scS inferInstance co yR yH (by simp only[lookS_cons,n35,n35',m3,m3',m5,m5',k0,k0',k3,k3',k5,k5',↓reduceIte]) ?_
 try (simp only[delS_cons,delS_nil,n35,n35',m3,m3',m5,m5',k0,k0',k3,k3',k5,k5',↓reduceIte])
 clear co
 have hset: ∀s:GSet,setAll [.v (.int .i64 0), .v (.slice none 0 0), .v (.int .i64 0), .v (.int .i64 0), .v (.int .i64 0), .v (.int .i64 0), .v (.int .i64 0), .v (.int .i64 0), .v (.slice none 0 0)] 0 (s.cells.map V.copy)=s.cells:=fun s=>rfl
 have hset2: ∀s s':GSet,setAll [I s.players,ints s.suits,I s.winds,I s.dragons,I s.flowers,I s.copies,I s.melds,I s.dead,ints s.reds] 0 (s'.cells.map V.copy)=s'.cells:=fun s s'=>rfl
 rw[hset s]
 have HX:=Box.mk hset2
 clear hset hset2
 cases od with
 | false =>
  repeat' (first|refine yJT ?_|fail)
  refine DS.qc inferInstance (formsOf_qc bs x3 s HS.out) yR yH (by(simp (disch:=omega) only[go_sem,dopV,yV0,↓reduceIte,Nat.reduceEqDiff,Nat.reduceLT,Nat.reduceLeDiff,Nat.reduceAdd,Nat.reduceMul,Nat.reduceSub,Int.reduceToNat,Int.reduceLT,Int.reduceLE,Int.reduceEq,IntWalk.toNatUp,IntWalk.iteOmega,IntWalk.i64_in,V.flat,V.one,n35,n35',m3,m3',m5,m5',k0,k0',k3,k3',k5,k5'];try exact rfl)) (fun u y1 hu=>?_)
  obtain⟨fs,rfl,hfs⟩:=hu
  have HF:=Box.mk hfs
  clear hfs
  simp only[delS_cons,delS_nil,n35,n35',m3,m3',m5,m5',k0,k0',k3,k3',k5,k5',↓reduceIte]
  repeat' (first|refine yJ ?_|fail)
  refine DS.reS (S':= [(b7,Ob.cells s.cells 24),(bs,srcO y1),(b3,Ob.cells [.v (.int .i64 0), .v (.slice none 0 0), .v (.int .i64 0), .v (.int .i64 0), .v (.int .i64 0), .v (.int .i64 0), .v (.int .i64 0), .v (.int .i64 0), .v (.slice none 0 0)] 24),(b5,Ob.cells [.v (.slice none 0 0), .v (.slice none 0 0)] 33)]) (fun d o e=>?_) ?_
  ·simp only[lookS_cons,lookS_nil]at e ⊢
   split at e
   ·rename_i hq;subst hq;simp only[n35,n35',m3,m3',m5,m5',k0,k0',k3,k3',k5,k5',↓reduceIte];exact e
   ·rename_i hq4
    split at e
    ·rename_i hq;subst hq;simp only[n35,n35',m3,m3',m5,m5',k0,k0',k3,k3',k5,k5',↓reduceIte];exact e
    ·rename_i hq3
     split at e
     ·rename_i hq;subst hq;simp only[n35,n35',m3,m3',m5,m5',k0,k0',k3,k3',k5,k5',↓reduceIte];exact e
     ·rename_i hq2
      split at e
      ·rename_i hq;subst hq;simp only[n35,n35',m3,m3',m5,m5',k0,k0',k3,k3',k5,k5',↓reduceIte];exact e
      ·cases e
  refine DS.drawLS (id:=6) ([(b7,Ob.cells s.cells 24)]) ([(bs,srcO y1),(b3,Ob.cells [.v (.int .i64 0), .v (.slice none 0 0), .v (.int .i64 0), .v (.int .i64 0), .v (.int .i64 0), .v (.int .i64 0), .v (.int .i64 0), .v (.int .i64 0), .v (.slice none 0 0)] 24),(b5,Ob.cells [.v (.slice none 0 0), .v (.slice none 0 0)] 33)]) [0,1,2,3,4,5,6,7,8] 9 yKR mixed yP1 yP2 ((fun d o e=>?_)) ((fun d o e=>?_)) ?_
  ·simp only[lookS_cons,lookS_nil]at e ⊢
   split at e
   ·rename_i hq;subst hq;simp only[n35,n35',m3,m3',m5,m5',k0,k0',k3,k3',k5,k5',↓reduceIte];exact⟨e,trivial⟩
   ·cases e
  ·simp only[lookS_cons,lookS_nil]at e ⊢
   split at e
   ·rename_i hq;subst hq;simp only[n35,n35',m3,m3',m5,m5',k0,k0',k3,k3',k5,k5',↓reduceIte];exact e
   ·rename_i hq3
    split at e
    ·rename_i hq;subst hq;simp only[n35,n35',m3,m3',m5,m5',k0,k0',k3,k3',k5,k5',↓reduceIte];exact e
    ·rename_i hq2
     split at e
     ·rename_i hq;subst hq;simp only[n35,n35',m3,m3',m5,m5',k0,k0',k3,k3',k5,k5',↓reduceIte];exact e
     ·cases e
  repeat' (first|with_reducible refine DD.fltS yU yU yU yE ?_|fail)
  refine DD.callR [(bs,srcO y1)] [(b3,Ob.cells [.v (.int .i64 0), .v (.slice none 0 0), .v (.int .i64 0), .v (.int .i64 0), .v (.int .i64 0), .v (.int .i64 0), .v (.int .i64 0), .v (.int .i64 0), .v (.slice none 0 0)] 24),(b5,Ob.cells [.v (.slice none 0 0), .v (.slice none 0 0)] 33)] inferInstance (handOf_qc bs y1 s HS.out fs HF.out) yR yH (fun d o e=>?_) (fun d o e=>?_) (late_of yKR) (fun u S' hu hdis=>?_)
  ·simp only[lookS_cons,lookS_nil]at e ⊢
   split at e
   ·rename_i hq;subst hq;simp only[n35,n35',m3,m3',m5,m5',k0,k0',k3,k3',k5,k5',↓reduceIte];exact e
   ·cases e
  ·simp only[lookS_cons,lookS_nil]at e ⊢
   split at e
   ·rename_i hq;subst hq;simp only[n35,n35',m3,m3',m5,m5',k0,k0',k3,k3',k5,k5',↓reduceIte];exact⟨e,trivial⟩
   ·rename_i hq2
    split at e
    ·rename_i hq;subst hq;simp only[n35,n35',m3,m3',m5,m5',k0,k0',k3,k3',k5,k5',↓reduceIte];exact⟨e,trivial⟩
    ·cases e
  obtain⟨⟨hd1,rfl,hH⟩,y2,rfl⟩:=hu
  have HH:=Box.mk hH
  clear hH hdis
  simp only[app_cons',app_nil',delV_cons',delV_nil',Nat.reduceEqDiff,↓reduceIte]
  repeat' (first|with_reducible refine DD.fltS yU yU yU yE ?_|fail)
  refine DD.store (b:=b3) (off:=0) (m:=9) (T':=24) yR yH yG yU (by simp only[lookS_cons,n35,n35',m3,m3',m5,m5',k0,k0',k3,k3',k5,k5',↓reduceIte];rfl) yR ⟨by rfl,by decide⟩ (fun _=>MpOk.nil) ?_
  simp only[setS,delS_cons,delS_nil,app_cons',app_nil',n35,n35',m3,m3',m5,m5',k0,k0',k3,k3',k5,k5',↓reduceIte,List.map_cons,List.map_nil,copy_v,copy_lst,copy_own,setAll_cons,setAll_nil,set_cons',set_zero',Nat.reduceAdd,Nat.zero_add]
  refine DD.nil ?_
  simp only[app_cons',app_nil']
  repeat' (first|refine yJ ?_|(refine DS.store yR yE yE yE yE yU yQ ?_;simp only[yS1];try simp only[yS2,Nat.reduceEqDiff,↓reduceIte])|fail)
  try (simp only[setS,delS_cons,delS_nil,app_cons',app_nil',n35,n35',m3,m3',m5,m5',k0,k0',k3,k3',k5,k5',↓reduceIte,List.map_cons,List.map_nil,copy_v,copy_lst,copy_own,setAll_cons,setAll_nil,set_cons',set_zero',Nat.reduceAdd,Nat.zero_add])
  refine DS.retW [(bs,srcO y2)] (by(simp (disch:=omega) only[go_sem,dopV,yV0,↓reduceIte,Nat.reduceEqDiff,Nat.reduceLT,Nat.reduceLeDiff,Nat.reduceAdd,Nat.reduceMul,Nat.reduceSub,Int.reduceToNat,Int.reduceLT,Int.reduceLE,Int.reduceEq,IntWalk.toNatUp,IntWalk.iteOmega,IntWalk.i64_in,V.flat,V.one,setS,setAll,n35,n35',m3,m3',m5,m5',k0,k0',k3,k3',k5,k5'];exact rfl)) (fun d o e=>?_) ?_
  ·simp only[lookS_cons,lookS_nil]at e ⊢
   split at e
   ·rename_i hq;subst hq;simp only[n35,n35',m3,m3',m5,m5',k0,k0',k3,k3',k5,k5',↓reduceIte];exact e
   ·cases e
  ·exact⟨bs,y2,s,fs,hd1,rfl,rfl,HS.out,HF.out,HH.out⟩
 | true =>
  have cr:=range_sc bs x3 1 3 (by omega)
  have br:=below_lt (x:=x3) (n:=3) (by omega)
  have er:rangeX x3 1 3=1+belowX x3 3:=rfl
  obtain⟨m,hm⟩: ∃m,rangeX x3 1 3=m:=⟨_,rfl⟩
  obtain⟨x4,hx4⟩: ∃x4,stepX x3=x4:=⟨_,rfl⟩
  rw[hm,hx4]at cr
  rw[hm]at er
  have hm3:1≤m∧m≤3:=by omega
  clear hm hx4 br er
  repeat' (first|refine yJT ?_|fail)
  refine DS.scS inferInstance cr yR yH (by simp only[lookS_cons,n35,n35',m3,m3',m5,m5',k0,k0',k3,k3',k5,k5',↓reduceIte]) ?_
  try (simp only[delS_cons,delS_nil,n35,n35',m3,m3',m5,m5',k0,k0',k3,k3',k5,k5',↓reduceIte])
  clear cr
  skip
  refine DS.qc inferInstance (little_qc bs x4 m hm3) yR yH (by(simp (disch:=omega) only[go_sem,dopV,yV0,↓reduceIte,Nat.reduceEqDiff,Nat.reduceLT,Nat.reduceLeDiff,Nat.reduceAdd,Nat.reduceMul,Nat.reduceSub,Int.reduceToNat,Int.reduceLT,Int.reduceLE,Int.reduceEq,IntWalk.toNatUp,IntWalk.iteOmega,IntWalk.i64_in,V.flat,V.one,n35,n35',m3,m3',m5,m5',k0,k0',k3,k3',k5,k5'];try exact rfl)) (fun u x5 hu=>?_)
  obtain⟨s2,rfl,hs2⟩:=hu
  have HS2:=Box.mk hs2
  clear hs2
  simp only[delS_cons,delS_nil,n35,n35',m3,m3',m5,m5',k0,k0',k3,k3',k5,k5',↓reduceIte]
  repeat' (first|refine yJ ?_|(refine DS.store yR yE yE yE yE yU yQ ?_;simp only[yS1];try simp only[yS2,Nat.reduceEqDiff,↓reduceIte])|fail)
  try (simp only[setS,delS_cons,delS_nil,app_cons',app_nil',n35,n35',m3,m3',m5,m5',k0,k0',k3,k3',k5,k5',↓reduceIte,List.map_cons,List.map_nil,copy_v,copy_lst,copy_own,setAll_cons,setAll_nil,set_cons',set_zero',Nat.reduceAdd,Nat.zero_add])
  rw[HX.out s s2]
  skip
  refine DS.qc inferInstance (formsOf_qc bs x5 s2 HS2.out) yR yH (by(simp (disch:=omega) only[go_sem,dopV,yV0,↓reduceIte,Nat.reduceEqDiff,Nat.reduceLT,Nat.reduceLeDiff,Nat.reduceAdd,Nat.reduceMul,Nat.reduceSub,Int.reduceToNat,Int.reduceLT,Int.reduceLE,Int.reduceEq,IntWalk.toNatUp,IntWalk.iteOmega,IntWalk.i64_in,V.flat,V.one,n35,n35',m3,m3',m5,m5',k0,k0',k3,k3',k5,k5'];try exact rfl)) (fun u y1 hu=>?_)
  obtain⟨fs,rfl,hfs⟩:=hu
  have HF:=Box.mk hfs
  clear hfs
  simp only[delS_cons,delS_nil,n35,n35',m3,m3',m5,m5',k0,k0',k3,k3',k5,k5',↓reduceIte]
  repeat' (first|refine yJ ?_|fail)
  refine DS.reS (S':= [(b7,Ob.cells s2.cells 24),(bs,srcO y1),(b3,Ob.cells [.v (.int .i64 0), .v (.slice none 0 0), .v (.int .i64 0), .v (.int .i64 0), .v (.int .i64 0), .v (.int .i64 0), .v (.int .i64 0), .v (.int .i64 0), .v (.slice none 0 0)] 24),(b5,Ob.cells [.v (.slice none 0 0), .v (.slice none 0 0)] 33)]) (fun d o e=>?_) ?_
  ·simp only[lookS_cons,lookS_nil]at e ⊢
   split at e
   ·rename_i hq;subst hq;simp only[n35,n35',m3,m3',m5,m5',k0,k0',k3,k3',k5,k5',↓reduceIte];exact e
   ·rename_i hq4
    split at e
    ·rename_i hq;subst hq;simp only[n35,n35',m3,m3',m5,m5',k0,k0',k3,k3',k5,k5',↓reduceIte];exact e
    ·rename_i hq3
     split at e
     ·rename_i hq;subst hq;simp only[n35,n35',m3,m3',m5,m5',k0,k0',k3,k3',k5,k5',↓reduceIte];exact e
     ·rename_i hq2
      split at e
      ·rename_i hq;subst hq;simp only[n35,n35',m3,m3',m5,m5',k0,k0',k3,k3',k5,k5',↓reduceIte];exact e
      ·cases e
  refine DS.drawLS (id:=6) ([(b7,Ob.cells s2.cells 24)]) ([(bs,srcO y1),(b3,Ob.cells [.v (.int .i64 0), .v (.slice none 0 0), .v (.int .i64 0), .v (.int .i64 0), .v (.int .i64 0), .v (.int .i64 0), .v (.int .i64 0), .v (.int .i64 0), .v (.slice none 0 0)] 24),(b5,Ob.cells [.v (.slice none 0 0), .v (.slice none 0 0)] 33)]) [0,1,2,3,4,5,6,7,8] 9 yKR mixed yP1 yP2 ((fun d o e=>?_)) ((fun d o e=>?_)) ?_
  ·simp only[lookS_cons,lookS_nil]at e ⊢
   split at e
   ·rename_i hq;subst hq;simp only[n35,n35',m3,m3',m5,m5',k0,k0',k3,k3',k5,k5',↓reduceIte];exact⟨e,trivial⟩
   ·cases e
  ·simp only[lookS_cons,lookS_nil]at e ⊢
   split at e
   ·rename_i hq;subst hq;simp only[n35,n35',m3,m3',m5,m5',k0,k0',k3,k3',k5,k5',↓reduceIte];exact e
   ·rename_i hq3
    split at e
    ·rename_i hq;subst hq;simp only[n35,n35',m3,m3',m5,m5',k0,k0',k3,k3',k5,k5',↓reduceIte];exact e
    ·rename_i hq2
     split at e
     ·rename_i hq;subst hq;simp only[n35,n35',m3,m3',m5,m5',k0,k0',k3,k3',k5,k5',↓reduceIte];exact e
     ·cases e
  repeat' (first|with_reducible refine DD.fltS yU yU yU yE ?_|fail)
  refine DD.callR [(bs,srcO y1)] [(b3,Ob.cells [.v (.int .i64 0), .v (.slice none 0 0), .v (.int .i64 0), .v (.int .i64 0), .v (.int .i64 0), .v (.int .i64 0), .v (.int .i64 0), .v (.int .i64 0), .v (.slice none 0 0)] 24),(b5,Ob.cells [.v (.slice none 0 0), .v (.slice none 0 0)] 33)] inferInstance (handOf_qc bs y1 s2 HS2.out fs HF.out) yR yH (fun d o e=>?_) (fun d o e=>?_) (late_of yKR) (fun u S' hu hdis=>?_)
  ·simp only[lookS_cons,lookS_nil]at e ⊢
   split at e
   ·rename_i hq;subst hq;simp only[n35,n35',m3,m3',m5,m5',k0,k0',k3,k3',k5,k5',↓reduceIte];exact e
   ·cases e
  ·simp only[lookS_cons,lookS_nil]at e ⊢
   split at e
   ·rename_i hq;subst hq;simp only[n35,n35',m3,m3',m5,m5',k0,k0',k3,k3',k5,k5',↓reduceIte];exact⟨e,trivial⟩
   ·rename_i hq2
    split at e
    ·rename_i hq;subst hq;simp only[n35,n35',m3,m3',m5,m5',k0,k0',k3,k3',k5,k5',↓reduceIte];exact⟨e,trivial⟩
    ·cases e
  obtain⟨⟨hd1,rfl,hH⟩,y2,rfl⟩:=hu
  have HH:=Box.mk hH
  clear hH hdis
  simp only[app_cons',app_nil',delV_cons',delV_nil',Nat.reduceEqDiff,↓reduceIte]
  repeat' (first|with_reducible refine DD.fltS yU yU yU yE ?_|fail)
  refine DD.store (b:=b3) (off:=0) (m:=9) (T':=24) yR yH yG yU (by simp only[lookS_cons,n35,n35',m3,m3',m5,m5',k0,k0',k3,k3',k5,k5',↓reduceIte];rfl) yR ⟨by rfl,by decide⟩ (fun _=>MpOk.nil) ?_
  simp only[setS,delS_cons,delS_nil,app_cons',app_nil',n35,n35',m3,m3',m5,m5',k0,k0',k3,k3',k5,k5',↓reduceIte,List.map_cons,List.map_nil,copy_v,copy_lst,copy_own,setAll_cons,setAll_nil,set_cons',set_zero',Nat.reduceAdd,Nat.zero_add]
  refine DD.nil ?_
  simp only[app_cons',app_nil']
  repeat' (first|refine yJ ?_|(refine DS.store yR yE yE yE yE yU yQ ?_;simp only[yS1];try simp only[yS2,Nat.reduceEqDiff,↓reduceIte])|fail)
  try (simp only[setS,delS_cons,delS_nil,app_cons',app_nil',n35,n35',m3,m3',m5,m5',k0,k0',k3,k3',k5,k5',↓reduceIte,List.map_cons,List.map_nil,copy_v,copy_lst,copy_own,setAll_cons,setAll_nil,set_cons',set_zero',Nat.reduceAdd,Nat.zero_add])
  refine DS.retW [(bs,srcO y2)] (by(simp (disch:=omega) only[go_sem,dopV,yV0,↓reduceIte,Nat.reduceEqDiff,Nat.reduceLT,Nat.reduceLeDiff,Nat.reduceAdd,Nat.reduceMul,Nat.reduceSub,Int.reduceToNat,Int.reduceLT,Int.reduceLE,Int.reduceEq,IntWalk.toNatUp,IntWalk.iteOmega,IntWalk.i64_in,V.flat,V.one,setS,setAll,n35,n35',m3,m3',m5,m5',k0,k0',k3,k3',k5,k5'];exact rfl)) (fun d o e=>?_) ?_
  ·simp only[lookS_cons,lookS_nil]at e ⊢
   split at e
   ·rename_i hq;subst hq;simp only[n35,n35',m3,m3',m5,m5',k0,k0',k3,k3',k5,k5',↓reduceIte];exact e
   ·cases e
  ·exact⟨bs,y2,s2,fs,hd1,rfl,rfl,HS2.out,HF.out,HH.out⟩
end Go.XL
namespace Go.XL
theorem lookS_keys {b:Nat}: ∀{S:Sto},lookS S b=none→b ∉ S.map Prod.fst
 | [],_=>by simp
 | (d,v)::r,h=>by
  simp only[lookS]at h
  split at h
  ·cases h
  ·rename_i hne
   simp only[List.map_cons,List.mem_cons,not_or]
   exact⟨fun e=>hne e.symm,lookS_keys h⟩
end Go.XL
namespace Go.XL
open Go.Proofs
set_option maxRecDepth 100000
set_option maxHeartbeats 8000000
theorem checkScaleR_pc (x:Scale):PC Tryz.prog 18 [x.val] (I (scaleS x)):=by
 refine DC.of_run Tryz.func18 rfl Tryz.ntmps18 Tryz.results18 (by simp) (fun _ _=>?_);simp only[argV_cons,argV_nil,go_sem,Nat.zero_add,Nat.reduceAdd]
 repeat' (first|refine yJ ?_|(with_reducible first|(refine DS.cE yE ?_;first|refine CG.np (fun _=>?_) (fun _=>?_)|refine CG.p (fun _=>?_) (fun _=>?_)|refine CG.yes ?_)|(refine DS.gE yU yE ?_;first|refine GG.npF (fun _=>?_) (fun _=>?_)|refine GG.run ?_|refine GG.sT ?_))|refine DS.pcS inferInstance (betweenR_pc _ _ _) yR yT ?_|(refine DS.boxF (t:=1) yU yE yU ?_;simp only[yS3])|refine DS.retT [] yE trivial ?_|fail)
 all_goals try (simp[tupV,scaleS, *];done)
 rename_i g1 g2 g3
 refine DS.loopK [1] yN (fun(i:Nat)=> [(3,I i)]) (fun(i:Nat)=>i≤x.limits.length∧scaleS x=limitsGo (x.limits.drop i) (prevL x.limits i)) (fun(i:Nat)=>x.limits.length-i) 0 yS (by simp[scaleS,prevL, *]) (fun i B hI hB=>?_);try dsimp only at hI hB;simp only[app_cons',app_nil']
 have HB:=Box.mk hB
 clear hB
 by_cases hi:(i:Int)<(x.limits.length:Int)
 ·have hi':i<x.limits.length:=by omega
  have hp:i-1<x.limits.length:=by omega
  obtain⟨hI,hI2⟩:=hI
  rw[limitsGo_at hi']at hI2
  have HI:=Box.mk hI2
  clear hI2
  repeat' (first|refine yJ ?_|(with_reducible first|(refine DS.cE yE ?_;first|refine CG.np (fun _=>?_) (fun _=>?_)|refine CG.p (fun _=>?_) (fun _=>?_)|refine CG.yes ?_|refine CG.no ?_)|(refine DS.gE yU yE ?_;first|refine GG.sU ?_|refine GG.npF (fun _=>?_) (fun _=>?_)|refine GG.run ?_|refine GG.sF ?_|refine GG.sT ?_))|(refine DS.letF (t:=4) yU yE yU (fun _=>yE) yE yU yV1 (fun _=>yN1) ?_;simp only[go_sem])|refine DS.pcS inferInstance (betweenR_pc _ _ _) yR yT ?_|refine DS.drawL (id:=11) [0,1,2,3,4,5,6,7,8,9,10,11,12,13,14,15,16,17,18,19,20,21,22] 23 yKR mixed yP1 yP2 ?_|(with_reducible first|refine DD.fltS yU yU yU yE ?_|(refine DD.gE yU yE ?_;first|refine DGG.sU ?_|refine DGG.pT (fun _=>?_) (fun _=>?_)|refine DGG.pF (fun _=>?_) (fun _=>?_)|refine DGG.run ?_|refine DGG.sF ?_|refine DGG.sT ?_)|refine DD.nil0 ?_)|refine DS.retT [] yE trivial ?_|fail)
  all_goals (try rw[prevL_zero (by assumption)]at HI) <;> (try rw[prevL_pos (by assumption) hp]at HI)
  all_goals first
   | (rw[HI.out];simp[tupV,anyO_none,anyO_some, *];done)
   | exact DS.back (HB.out (i+1) _ _ (by omega) ⟨by omega,by rw[HI.out,prevL_succ hi'];simp[anyO_none,anyO_some, *]⟩ yS yS (fun b o e=>by cases e))
 ·repeat' (first|refine yJT ?_|refine DS.retT [] yE trivial ?_|fail)
  rw[hI.2,drop_end hi];rfl
end Go.XL
namespace Go.XL
open Go.Proofs
set_option maxRecDepth 100000
set_option maxHeartbeats 8000000
def Use.cells (u:Use):List V:= [Bo u.what,Bo u.open_,Bo u.kinds,I u.nLow,I u.nTop,I u.mLow,I u.mTop,St8 (partB u.parts)]
@[go_sem] theorem Use.cells_eq (u:Use):u.cells= [Bo u.what,Bo u.open_,Bo u.kinds,I u.nLow,I u.nTop,I u.mLow,I u.mTop,St8 (partB u.parts)]:=rfl
end Go.XL
namespace Go.XL
open Go.Proofs
set_option maxRecDepth 100000
set_option maxHeartbeats 8000000
theorem r4kinds_pc (s:GSet) (l:List Int):PC Tryz.prog 94 [s.val,ints l] (I (ascS (kindsS s) l)):=by
 have hk:=r1kinds_pc s
 have hm:=kinds_bd s
 generalize kindsS s=many at *
 refine DC.of_run Tryz.func94 rfl Tryz.ntmps94 Tryz.results94 (by simp) (fun _ _=>?_);simp only[argV_cons,argV_nil,go_sem,Nat.zero_add,Nat.reduceAdd]
 refine DS.bnd (t:=1) yG (.inl rfl) (fun hb1=>?_);simp only[List.length_map]at hb1
 repeat' (first|refine yJ ?_|(refine DS.boxF (t:=2) yU yE yU ?_;simp only[yS3])|fail)
 refine DS.loopK [1,2] yN (fun(i:Nat)=> [(5,I i)]) (fun(i:Nat)=>i≤l.length∧ascS many l=ascGo many (l.drop i) ((prevL l i).getD (-1))) (fun(i:Nat)=>l.length-i) 0 yS ⟨Nat.zero_le _,rfl⟩ (fun i B hI hB=>?_);try dsimp only at hI hB;simp only[app_cons',app_nil']
 have HB:=Box.mk hB
 clear hB
 obtain⟨hI,hI2⟩:=hI
 by_cases hi:(i:Int)<(l.length:Int)
 ·have hi':i<l.length:=by omega
  have hp:i-1<l.length:=by omega
  rw[ascGo_at hi']at hI2
  have HI:=Box.mk hI2
  clear hI2
  repeat' (first|refine yJ ?_|(with_reducible first|(refine DS.cE yE ?_;first|refine CG.np (fun _=>?_) (fun _=>?_)|refine CG.p (fun _=>?_) (fun _=>?_)|refine CG.yes ?_|refine CG.no ?_)|(refine DS.gE yU yE ?_;first|refine GG.run ?_|refine GG.sF ?_))|refine DS.pcS inferInstance (betweenR_pc _ _ _) yR yT ?_|refine DS.drawL (id:=4) [0,1,2,3,4,5,6] 7 yKR mixed yP1 yP2 ?_|refine DS.drawL (id:=6) [0,1,2,3,4,5,6,7,8,9,10,11] 12 yKR mixed yP1 yP2 ?_|(with_reducible first|refine DD.fltS yU yU yU yE ?_|(refine DD.gE yU yE ?_;first|refine DGG.pT (fun _=>?_) (fun _=>?_)|refine DGG.run ?_|refine DGG.sF ?_)|refine DD.nil0 ?_)|refine DD.pcV0 inferInstance (hk) yU yT ?_|refine DS.retT [] yE trivial ?_|fail)
  all_goals (try rw[prevL_zero (by assumption)]at HI) <;> (try rw[prevL_pos (by assumption) hp]at HI)
  all_goals try simp only[Option.getD_none,Option.getD_some]at HI
  all_goals first
   | exact DS.back (HB.out (i+1) _ _ (by omega) ⟨by omega,by rw[HI.out,prevL_succ hi',if_neg (by omega),if_neg (by omega)];rfl⟩ yS yS (fun b o e=>by cases e))
   | (rw[HI.out,if_pos (by omega)];rfl)
   | (rw[HI.out,if_neg (by omega),if_pos (by omega)];rfl)
   | (exfalso;omega)
 ·repeat' (first|refine yJT ?_|refine DS.retT [] yE trivial ?_|fail)
  rw[hI2,drop_end hi];rfl
end Go.XL
namespace Go.XL
open Go.Proofs
set_option maxRecDepth 100000
set_option maxHeartbeats 8000000
def feed1 (s:GSet) (f:Feed):Int:=if(f.kinds.length:Int)=0 then 6 else if ascS (kindsS s) f.kinds≠0 then ascS (kindsS s) f.kinds else if ¬(1≤f.many∧f.many≤s.melds)then 2 else 0
theorem feedsGo_at1 {s:GSet} {l:List Feed} {i:Nat} (hi:i<l.length):feedsGo s (l.drop i)=if feed1 s l[i]≠0 then feed1 s l[i]else feedsGo s (l.drop (i+1)):=by
 rw[feedsGo_at hi,feed1]
 (repeat' split) <;> first|rfl|(exfalso;omega)
theorem r4feed_pc (s:GSet) (f:Feed):PC Tryz.prog 63 [s.val,f.val] (I (feed1 s f)):=by
 have hk:=r4kinds_pc s f.kinds
 rw[feed1]
 refine DC.of_run Tryz.func63 rfl Tryz.ntmps63 Tryz.results63 (by simp) (fun _ _=>?_);simp only[argV_cons,argV_nil,go_sem,Nat.zero_add,Nat.reduceAdd]
 repeat' (first|refine yJ ?_|(with_reducible (refine DS.cE yE ?_;first|refine CG.np (fun _=>?_) (fun _=>?_)|refine CG.p (fun _=>?_) (fun _=>?_)))|refine DS.pcS inferInstance (hk) yR yT ?_|refine DS.pcS inferInstance (betweenR_pc _ _ _) yR yT ?_|(refine DS.boxF (t:=2) yU yE yU ?_;simp only[yS3])|(refine DS.boxF (t:=3) yU yE yU ?_;simp only[yS3])|refine DS.retT [] yE trivial ?_|fail)
 all_goals (clear hk;simp only[tupV];(repeat' split) <;> first|rfl|(exfalso;omega))
theorem r4play_pc (s:GSet) (p:Play):PC Tryz.prog 22 [s.val,p.val] (I (playS s p)):=by
 have hc:=r1check_pc s
 by_cases h0:gsetS s=0
 ·rw[h0]at hc
  rw[playS,if_neg (by omega)]
  refine DC.of_run Tryz.func22 rfl Tryz.ntmps22 Tryz.results22 (by simp) (fun _ _=>?_);simp only[argV_cons,argV_nil,go_sem,Nat.zero_add,Nat.reduceAdd]
  repeat' (first|refine yJ ?_|(with_reducible first|(refine DS.cE yE ?_;first|refine CG.np (fun _=>?_) (fun _=>?_)|refine CG.p (fun _=>?_) (fun _=>?_)|refine CG.yes ?_|refine CG.no ?_)|(refine DS.gE yU yE ?_;first|refine GG.npF (fun _=>?_) (fun _=>?_)|refine GG.run ?_|refine GG.sT ?_))|refine DS.pcS inferInstance (hc) yR yF ?_|refine DS.pcS inferInstance (betweenR_pc _ _ _) yR yF ?_|(refine DS.boxF (t:=2) yU yE yU ?_;simp only[yS3])|(refine DS.boxF (t:=3) yU yE yU ?_;simp only[yS3])|refine DS.retT [] yE trivial ?_|fail)
  all_goals (clear hc;simp only[tupV];(repeat' split) <;> first|rfl|(exfalso;omega))
 ·rw[playS,if_pos h0]
  refine DC.of_run Tryz.func22 rfl Tryz.ntmps22 Tryz.results22 (by simp) (fun _ _=>?_);simp only[argV_cons,argV_nil,go_sem,Nat.zero_add,Nat.reduceAdd]
  repeat' (first|refine yJT ?_|refine DS.pcS inferInstance (hc) yR yT ?_|(refine DS.boxF (t:=2) yU yE yU ?_;simp only[yS3])|(refine DS.boxF (t:=3) yU yE yU ?_;simp only[yS3])|refine DS.retT [] yE trivial ?_|fail)
  all_goals first|rfl|(exfalso;omega)
end Go.XL
namespace Go.XL
open Go.Proofs
set_option maxRecDepth 100000
set_option maxHeartbeats 8000000
theorem places_at {l:List Int} {i:Nat} (hi:i<l.length):placesB (l.drop i)=(decide (-1000000≤l[i]∧l[i]≤1000000)&&placesB (l.drop (i+1))):=by
 rw[List.drop_eq_getElem_cons hi,placesB,List.all_cons];rfl
def ptsL (p:Pay):List Int:= [p.basic,p.counter,p.stick,p.pool,p.foul,p.start]
theorem r4pay_pc (s:GSet) (p:Pay):PC Tryz.prog 20 [s.val,p.val] (I (payS s p)):=by
 have hc:=r1check_pc s
 by_cases h0:gsetS s=0
 ·have hpl:=(gset_ok h0).players
  rw[h0]at hc
  have e1:(ptB p.basic&&ptB p.counter&&ptB p.stick&&ptB p.pool&&ptB p.foul&&ptB p.start)=((ptsL p).all fun n=>decide (0≤n∧n≤1000000)):=by
   simp[ptB,ptsL,Bool.and_assoc]
  have hpay:payS s p=if ¬(1≤p.mode∧p.mode≤3)then 4 else
   if((ptsL p).all fun n=>decide (0≤n∧n≤1000000))=false then 2 else if p.pool % 6≠0 then 2 else if ¬(1≤p.rounds∧p.rounds≤16)then 2 else if ¬(0≤p.stay∧p.stay≤7)then 2 else
   if 0<(p.places.length:Int)∧(p.places.length:Int)≠s.players then 3 else if placesB p.places=false then 2 else if sumI p.places≠0 then 12 else
   if 4<(p.feeds.length:Int)then 8 else feedsGo s p.feeds:=by rw[payS,if_neg (by omega),e1]
  clear e1
  by_cases hm:1≤p.mode∧p.mode≤3
  ·rw[if_neg (by omega)]at hpay
   rw[hpay]
   clear hpay
   refine DC.of_run Tryz.func20 rfl Tryz.ntmps20 Tryz.results20 (by simp) (fun _ _=>?_);simp only[argV_cons,argV_nil,go_sem,Nat.zero_add,Nat.reduceAdd]
   repeat' (first|refine yJT ?_|(refine DS.bsl yU yE yE ?_;simp only[go_sem,Nat.zero_add,Nat.reduceAdd])|refine DS.pcS inferInstance (hc) yR yT ?_|refine DS.pcS inferInstance (betweenR_pc _ _ _) yR yT ?_|(refine DS.boxF (t:=2) yU yE yU ?_;simp only[yS3])|(refine DS.boxF (t:=3) yU yE yU ?_;simp only[yS3])|fail)
   all_goals try (exfalso;omega)
   refine DS.loopK [2,3,6] yN (fun(i:Nat)=> [(7,I i)]) (fun(i:Nat)=>i≤6∧(((ptsL p).take i).all fun n=>decide (0≤n∧n≤1000000))=true) (fun(i:Nat)=>6-i) 0 yS ⟨by omega,rfl⟩ (fun i B hI hB=>?_);try dsimp only at hI hB;simp only[app_cons',app_nil']
   have HB:=Box.mk hB
   clear hB
   obtain⟨hI,hI2⟩:=hI
   have hcase:i=0∨i=1∨i=2∨i=3∨i=4∨i=5∨i=6:=by omega
   rcases hcase with q|q|q|q|q|q|q
   ·subst q
    have ca:((0:Nat):Int)=0:=rfl
    have cb:((1:Nat):Int)=1:=rfl
    by_cases hn:0≤p.basic∧p.basic≤1000000
    ·have hnx:(((ptsL p).take 1).all fun n=>decide (0≤n∧n≤1000000))=true:=by
      simp only[ptsL,List.take_succ_cons,List.take_zero,List.all_cons,List.all_nil,Bool.and_true,Bool.and_eq_true,decide_eq_true_eq]at hI2 ⊢
      omega
     have HN:=Box.mk hnx
     clear hI2 hnx
     repeat' (first|with_reducible refine DS.fltS yU yU yX2 ?_|refine yJ ?_|(with_reducible first|(refine DS.cE yX2 ?_;first|refine CG.np (fun _=>?_) (fun _=>?_)|refine CG.p (fun _=>?_) (fun _=>?_)|refine CG.yes ?_|refine CG.no ?_)|(refine DS.gE yU yX2 ?_;first|refine GG.npT (fun _=>?_) (fun _=>?_)|refine GG.npF (fun _=>?_) (fun _=>?_)|refine GG.run ?_|refine GG.sF ?_|refine GG.sT ?_))|refine DS.pcS inferInstance (betweenR_pc _ _ _) yR yX3 ?_|refine DS.retT [] yX2 trivial ?_|fail)
     all_goals first
      | exact DS.back (HB.out 1 _ _ (by omega) ⟨by omega,HN.out⟩ yS yS (fun b o e=>by cases e))
      | (exfalso;omega)
    ·have e:((ptsL p).all fun n=>decide (0≤n∧n≤1000000))=false:=by
      rw[Bool.eq_false_iff]
      intro h
      simp only[ptsL,List.all_cons,List.all_nil,Bool.and_true,Bool.and_eq_true,decide_eq_true_eq]at h
      omega
     rw[if_pos e]
     clear e hI2
     repeat' (first|with_reducible refine DS.fltS yU yU yX2 ?_|refine yJ ?_|(with_reducible first|(refine DS.cE yX2 ?_;first|refine CG.np (fun _=>?_) (fun _=>?_)|refine CG.p (fun _=>?_) (fun _=>?_)|refine CG.yes ?_|refine CG.no ?_)|(refine DS.gE yU yX2 ?_;first|refine GG.npT (fun _=>?_) (fun _=>?_)|refine GG.npF (fun _=>?_) (fun _=>?_)|refine GG.run ?_|refine GG.sF ?_|refine GG.sT ?_))|refine DS.pcS inferInstance (betweenR_pc _ _ _) yR yX3 ?_|refine DS.retT [] yX2 trivial ?_|fail)
     all_goals first|rfl|(exfalso;omega)
   ·subst q
    have ca:((1:Nat):Int)=1:=rfl
    have cb:((2:Nat):Int)=2:=rfl
    by_cases hn:0≤p.counter∧p.counter≤1000000
    ·have hnx:(((ptsL p).take 2).all fun n=>decide (0≤n∧n≤1000000))=true:=by
      simp only[ptsL,List.take_succ_cons,List.take_zero,List.all_cons,List.all_nil,Bool.and_true,Bool.and_eq_true,decide_eq_true_eq]at hI2 ⊢
      omega
     have HN:=Box.mk hnx
     clear hI2 hnx
     repeat' (first|with_reducible refine DS.fltS yU yU yX2 ?_|refine yJ ?_|(with_reducible first|(refine DS.cE yX2 ?_;first|refine CG.np (fun _=>?_) (fun _=>?_)|refine CG.p (fun _=>?_) (fun _=>?_)|refine CG.yes ?_|refine CG.no ?_)|(refine DS.gE yU yX2 ?_;first|refine GG.npT (fun _=>?_) (fun _=>?_)|refine GG.npF (fun _=>?_) (fun _=>?_)|refine GG.run ?_|refine GG.sF ?_|refine GG.sT ?_))|refine DS.pcS inferInstance (betweenR_pc _ _ _) yR yX3 ?_|refine DS.retT [] yX2 trivial ?_|fail)
     all_goals first
      | exact DS.back (HB.out 2 _ _ (by omega) ⟨by omega,HN.out⟩ yS yS (fun b o e=>by cases e))
      | (exfalso;omega)
    ·have e:((ptsL p).all fun n=>decide (0≤n∧n≤1000000))=false:=by
      rw[Bool.eq_false_iff]
      intro h
      simp only[ptsL,List.all_cons,List.all_nil,Bool.and_true,Bool.and_eq_true,decide_eq_true_eq]at h
      omega
     rw[if_pos e]
     clear e hI2
     repeat' (first|with_reducible refine DS.fltS yU yU yX2 ?_|refine yJ ?_|(with_reducible first|(refine DS.cE yX2 ?_;first|refine CG.np (fun _=>?_) (fun _=>?_)|refine CG.p (fun _=>?_) (fun _=>?_)|refine CG.yes ?_|refine CG.no ?_)|(refine DS.gE yU yX2 ?_;first|refine GG.npT (fun _=>?_) (fun _=>?_)|refine GG.npF (fun _=>?_) (fun _=>?_)|refine GG.run ?_|refine GG.sF ?_|refine GG.sT ?_))|refine DS.pcS inferInstance (betweenR_pc _ _ _) yR yX3 ?_|refine DS.retT [] yX2 trivial ?_|fail)
     all_goals first|rfl|(exfalso;omega)
   ·subst q
    have ca:((2:Nat):Int)=2:=rfl
    have cb:((3:Nat):Int)=3:=rfl
    by_cases hn:0≤p.stick∧p.stick≤1000000
    ·have hnx:(((ptsL p).take 3).all fun n=>decide (0≤n∧n≤1000000))=true:=by
      simp only[ptsL,List.take_succ_cons,List.take_zero,List.all_cons,List.all_nil,Bool.and_true,Bool.and_eq_true,decide_eq_true_eq]at hI2 ⊢
      omega
     have HN:=Box.mk hnx
     clear hI2 hnx
     repeat' (first|with_reducible refine DS.fltS yU yU yX2 ?_|refine yJ ?_|(with_reducible first|(refine DS.cE yX2 ?_;first|refine CG.np (fun _=>?_) (fun _=>?_)|refine CG.p (fun _=>?_) (fun _=>?_)|refine CG.yes ?_|refine CG.no ?_)|(refine DS.gE yU yX2 ?_;first|refine GG.npT (fun _=>?_) (fun _=>?_)|refine GG.npF (fun _=>?_) (fun _=>?_)|refine GG.run ?_|refine GG.sF ?_|refine GG.sT ?_))|refine DS.pcS inferInstance (betweenR_pc _ _ _) yR yX3 ?_|refine DS.retT [] yX2 trivial ?_|fail)
     all_goals first
      | exact DS.back (HB.out 3 _ _ (by omega) ⟨by omega,HN.out⟩ yS yS (fun b o e=>by cases e))
      | (exfalso;omega)
    ·have e:((ptsL p).all fun n=>decide (0≤n∧n≤1000000))=false:=by
      rw[Bool.eq_false_iff]
      intro h
      simp only[ptsL,List.all_cons,List.all_nil,Bool.and_true,Bool.and_eq_true,decide_eq_true_eq]at h
      omega
     rw[if_pos e]
     clear e hI2
     repeat' (first|with_reducible refine DS.fltS yU yU yX2 ?_|refine yJ ?_|(with_reducible first|(refine DS.cE yX2 ?_;first|refine CG.np (fun _=>?_) (fun _=>?_)|refine CG.p (fun _=>?_) (fun _=>?_)|refine CG.yes ?_|refine CG.no ?_)|(refine DS.gE yU yX2 ?_;first|refine GG.npT (fun _=>?_) (fun _=>?_)|refine GG.npF (fun _=>?_) (fun _=>?_)|refine GG.run ?_|refine GG.sF ?_|refine GG.sT ?_))|refine DS.pcS inferInstance (betweenR_pc _ _ _) yR yX3 ?_|refine DS.retT [] yX2 trivial ?_|fail)
     all_goals first|rfl|(exfalso;omega)
   ·subst q
    have ca:((3:Nat):Int)=3:=rfl
    have cb:((4:Nat):Int)=4:=rfl
    by_cases hn:0≤p.pool∧p.pool≤1000000
    ·have hnx:(((ptsL p).take 4).all fun n=>decide (0≤n∧n≤1000000))=true:=by
      simp only[ptsL,List.take_succ_cons,List.take_zero,List.all_cons,List.all_nil,Bool.and_true,Bool.and_eq_true,decide_eq_true_eq]at hI2 ⊢
      omega
     have HN:=Box.mk hnx
     clear hI2 hnx
     repeat' (first|with_reducible refine DS.fltS yU yU yX2 ?_|refine yJ ?_|(with_reducible first|(refine DS.cE yX2 ?_;first|refine CG.np (fun _=>?_) (fun _=>?_)|refine CG.p (fun _=>?_) (fun _=>?_)|refine CG.yes ?_|refine CG.no ?_)|(refine DS.gE yU yX2 ?_;first|refine GG.npT (fun _=>?_) (fun _=>?_)|refine GG.npF (fun _=>?_) (fun _=>?_)|refine GG.run ?_|refine GG.sF ?_|refine GG.sT ?_))|refine DS.pcS inferInstance (betweenR_pc _ _ _) yR yX3 ?_|refine DS.retT [] yX2 trivial ?_|fail)
     all_goals first
      | exact DS.back (HB.out 4 _ _ (by omega) ⟨by omega,HN.out⟩ yS yS (fun b o e=>by cases e))
      | (exfalso;omega)
    ·have e:((ptsL p).all fun n=>decide (0≤n∧n≤1000000))=false:=by
      rw[Bool.eq_false_iff]
      intro h
      simp only[ptsL,List.all_cons,List.all_nil,Bool.and_true,Bool.and_eq_true,decide_eq_true_eq]at h
      omega
     rw[if_pos e]
     clear e hI2
     repeat' (first|with_reducible refine DS.fltS yU yU yX2 ?_|refine yJ ?_|(with_reducible first|(refine DS.cE yX2 ?_;first|refine CG.np (fun _=>?_) (fun _=>?_)|refine CG.p (fun _=>?_) (fun _=>?_)|refine CG.yes ?_|refine CG.no ?_)|(refine DS.gE yU yX2 ?_;first|refine GG.npT (fun _=>?_) (fun _=>?_)|refine GG.npF (fun _=>?_) (fun _=>?_)|refine GG.run ?_|refine GG.sF ?_|refine GG.sT ?_))|refine DS.pcS inferInstance (betweenR_pc _ _ _) yR yX3 ?_|refine DS.retT [] yX2 trivial ?_|fail)
     all_goals first|rfl|(exfalso;omega)
   ·subst q
    have ca:((4:Nat):Int)=4:=rfl
    have cb:((5:Nat):Int)=5:=rfl
    by_cases hn:0≤p.foul∧p.foul≤1000000
    ·have hnx:(((ptsL p).take 5).all fun n=>decide (0≤n∧n≤1000000))=true:=by
      simp only[ptsL,List.take_succ_cons,List.take_zero,List.all_cons,List.all_nil,Bool.and_true,Bool.and_eq_true,decide_eq_true_eq]at hI2 ⊢
      omega
     have HN:=Box.mk hnx
     clear hI2 hnx
     repeat' (first|with_reducible refine DS.fltS yU yU yX2 ?_|refine yJ ?_|(with_reducible first|(refine DS.cE yX2 ?_;first|refine CG.np (fun _=>?_) (fun _=>?_)|refine CG.p (fun _=>?_) (fun _=>?_)|refine CG.yes ?_|refine CG.no ?_)|(refine DS.gE yU yX2 ?_;first|refine GG.npT (fun _=>?_) (fun _=>?_)|refine GG.npF (fun _=>?_) (fun _=>?_)|refine GG.run ?_|refine GG.sF ?_|refine GG.sT ?_))|refine DS.pcS inferInstance (betweenR_pc _ _ _) yR yX3 ?_|refine DS.retT [] yX2 trivial ?_|fail)
     all_goals first
      | exact DS.back (HB.out 5 _ _ (by omega) ⟨by omega,HN.out⟩ yS yS (fun b o e=>by cases e))
      | (exfalso;omega)
    ·have e:((ptsL p).all fun n=>decide (0≤n∧n≤1000000))=false:=by
      rw[Bool.eq_false_iff]
      intro h
      simp only[ptsL,List.all_cons,List.all_nil,Bool.and_true,Bool.and_eq_true,decide_eq_true_eq]at h
      omega
     rw[if_pos e]
     clear e hI2
     repeat' (first|with_reducible refine DS.fltS yU yU yX2 ?_|refine yJ ?_|(with_reducible first|(refine DS.cE yX2 ?_;first|refine CG.np (fun _=>?_) (fun _=>?_)|refine CG.p (fun _=>?_) (fun _=>?_)|refine CG.yes ?_|refine CG.no ?_)|(refine DS.gE yU yX2 ?_;first|refine GG.npT (fun _=>?_) (fun _=>?_)|refine GG.npF (fun _=>?_) (fun _=>?_)|refine GG.run ?_|refine GG.sF ?_|refine GG.sT ?_))|refine DS.pcS inferInstance (betweenR_pc _ _ _) yR yX3 ?_|refine DS.retT [] yX2 trivial ?_|fail)
     all_goals first|rfl|(exfalso;omega)
   ·subst q
    have ca:((5:Nat):Int)=5:=rfl
    have cb:((6:Nat):Int)=6:=rfl
    by_cases hn:0≤p.start∧p.start≤1000000
    ·have hnx:(((ptsL p).take 6).all fun n=>decide (0≤n∧n≤1000000))=true:=by
      simp only[ptsL,List.take_succ_cons,List.take_zero,List.all_cons,List.all_nil,Bool.and_true,Bool.and_eq_true,decide_eq_true_eq]at hI2 ⊢
      omega
     have HN:=Box.mk hnx
     clear hI2 hnx
     repeat' (first|with_reducible refine DS.fltS yU yU yX2 ?_|refine yJ ?_|(with_reducible (refine DS.cE yX2 ?_;first|refine CG.yes ?_|refine CG.no ?_))|refine DS.pcS inferInstance (betweenR_pc _ _ _) yR yX3 ?_|fail)
     all_goals first
      | exact DS.back (HB.out 6 _ _ (by omega) ⟨by omega,HN.out⟩ yS yS (fun b o e=>by cases e))
      | (exfalso;omega)
    ·have e:((ptsL p).all fun n=>decide (0≤n∧n≤1000000))=false:=by
      rw[Bool.eq_false_iff]
      intro h
      simp only[ptsL,List.all_cons,List.all_nil,Bool.and_true,Bool.and_eq_true,decide_eq_true_eq]at h
      omega
     rw[if_pos e]
     clear e hI2
     repeat' (first|with_reducible refine DS.fltS yU yU yX2 ?_|refine yJ ?_|(with_reducible (refine DS.cE yX2 ?_;refine CG.yes ?_))|refine DS.pcS inferInstance (betweenR_pc _ _ _) yR yX3 ?_|refine DS.retT [] yX2 trivial ?_|fail)
     all_goals first|rfl|(exfalso;omega)
   ·subst q
    have ca:((6:Nat):Int)=6:=rfl
    have hall:((ptsL p).all fun n=>decide (0≤n∧n≤1000000))=true:=hI2
    rw[if_neg (by rw[hall];decide)]
    have hpb:0≤p.pool∧p.pool≤1000000:=by
     simp only[ptsL,List.all_cons,List.all_nil,Bool.and_true,Bool.and_eq_true,decide_eq_true_eq]at hall
     omega
    clear hI2 hall HB
    have ht:p.pool.tmod 6=p.pool % 6:=Int.tmod_eq_emod_of_nonneg hpb.1
    have ht2:=Int.emod_nonneg p.pool (show(6:Int)≠0 by decide)
    generalize p.pool % 6=pm at *
    by_cases hx:pm=0∧(1≤p.rounds∧p.rounds≤16)∧(0≤p.stay∧p.stay≤7)
    ·obtain⟨hx1,hx2,hx3⟩:=hx
     rw[if_neg (by omega),if_neg (by omega),if_neg (by omega)]
     subst hx1
     by_cases hx4:0<(p.places.length:Int)∧(p.places.length:Int)≠s.players
     ·rw[if_pos hx4]
      repeat' (first|with_reducible refine DS.fltS yU yU yX2 ?_|refine yJ ?_|(with_reducible first|(refine DS.cE yX2 ?_;first|refine CG.yes ?_|refine CG.no ?_)|(refine DS.gE yU yX2 ?_;first|refine GG.npT (fun _=>?_) (fun _=>?_)|refine GG.run ?_|refine GG.sF ?_))|refine DS.pcS inferInstance (betweenR_pc _ _ _) yR yX3 ?_|refine DS.retT [] yX2 trivial ?_|fail)
      all_goals first|rfl|(exfalso;omega)
     ·rw[if_neg hx4]
      have hx5:(p.places.length:Int)≤4:=by omega
      repeat' (first|with_reducible refine DS.fltS yU yU yX2 ?_|refine yJ ?_|(with_reducible first|(refine DS.cE yX2 ?_;first|refine CG.np (fun _=>?_) (fun _=>?_)|refine CG.no ?_)|(refine DS.gE yU yX2 ?_;first|refine GG.npT (fun _=>?_) (fun _=>?_)|refine GG.run ?_|refine GG.sF ?_))|refine DS.pcS inferInstance (betweenR_pc _ _ _) yR yX3 ?_|fail)
      all_goals try (exfalso;omega)
      all_goals
       refine DS.loopK [2,3] yN (fun(z:Nat×Int)=> [(8,I z.2),(9,I z.1)]) (fun(z:Nat×Int)=>z.1≤p.places.length∧placesB p.places=placesB (p.places.drop z.1)∧z.2=sumI (p.places.take z.1) ∧ -1000000*z.1≤z.2∧z.2≤1000000*z.1) (fun(z:Nat×Int)=>p.places.length-z.1) (0,0) yS ⟨Nat.zero_le _,rfl,rfl,by simp,by simp⟩ (fun z B hI hB=>?_);try dsimp only at hI hB;simp only[app_cons',app_nil']
       have HB:=Box.mk hB
       clear hB
       obtain⟨i,sm⟩:=z
       dsimp only at hI ⊢
       obtain⟨i1,i2,i3,i4,i5⟩:=hI
       by_cases hi:(i:Int)<(p.places.length:Int)
       ·have hi':i<p.places.length:=by omega
        rw[places_at hi']at i2
        have hsm:=sumI_take hi'
        by_cases hn : -1000000≤p.places[i]∧p.places[i]≤1000000
        ·rw[decide_eq_true hn,Bool.true_and]at i2
         have HI:=Box.mk (And.intro i2 (And.intro i3 hsm))
         clear i2 i3 hsm
         repeat' (first|refine yJ ?_|(with_reducible (refine DS.cE yE ?_;first|refine CG.np (fun _=>?_) (fun _=>?_)|refine CG.p (fun _=>?_) (fun _=>?_)|refine CG.no ?_))|refine DS.pcS inferInstance (betweenR_pc _ _ _) yR yT ?_|refine DS.retT [] yE trivial ?_|fail)
         all_goals first
          | exact DS.back (HB.out (i+1,sm+p.places[i]) _ _ (by dsimp only;omega) ⟨by dsimp only;omega,HI.out.1,by dsimp only;rw[HI.out.2.2,HI.out.2.1],by dsimp only;omega,by dsimp only;omega⟩ yS yS (fun b o e=>by cases e))
          | (exfalso;omega)
        ·rw[decide_eq_false hn,Bool.false_and]at i2
         rw[if_pos i2]
         clear i2 i3 hsm HB
         repeat' (first|refine yJ ?_|(with_reducible (refine DS.cE yE ?_;first|refine CG.np (fun _=>?_) (fun _=>?_)|refine CG.p (fun _=>?_) (fun _=>?_)|refine CG.yes ?_))|refine DS.pcS inferInstance (betweenR_pc _ _ _) yR yT ?_|refine DS.retT [] yE trivial ?_|fail)
         all_goals first|rfl|(exfalso;omega)
       ·rw[drop_end hi]at i2
        rw[List.take_of_length_le (by omega)]at i3
        rw[if_neg (show ¬placesB p.places=false by rw[i2];decide),←i3]
        clear i2 i3 HB
        by_cases hs0:sm=0
        ·rw[if_neg (by omega)]
         by_cases hf4:4<(p.feeds.length:Int)
         ·rw[if_pos hf4]
          repeat' (first|refine yJ ?_|(with_reducible (refine DS.cE yE ?_;first|refine CG.p (fun _=>?_) (fun _=>?_)|refine CG.yes ?_|refine CG.no ?_))|refine DS.retT [] yE trivial ?_|fail)
          all_goals first|rfl|(exfalso;omega)
         ·rw[if_neg hf4]
          repeat' (first|refine yJ ?_|(with_reducible (refine DS.cE yE ?_;first|refine CG.p (fun _=>?_) (fun _=>?_)|refine CG.no ?_))|fail)
          all_goals try (exfalso;omega)
          refine DS.loopK [2,3] yN (fun(j:Nat)=> [(10,I j)]) (fun(j:Nat)=>j≤p.feeds.length∧feedsGo s p.feeds=feedsGo s (p.feeds.drop j)) (fun(j:Nat)=>p.feeds.length-j) 0 yS ⟨Nat.zero_le _,rfl⟩ (fun j B hI hB=>?_);try dsimp only at hI hB;simp only[app_cons',app_nil']
          have HB:=Box.mk hB
          clear hB
          obtain⟨j1,j2⟩:=hI
          by_cases hj:(j:Int)<(p.feeds.length:Int)
          ·have hj':j<p.feeds.length:=by omega
           rw[feedsGo_at1 hj']at j2
           have HJ:=Box.mk j2
           clear j2
           have hf:=r4feed_pc s p.feeds[j]
           by_cases hz:feed1 s p.feeds[j]=0
           ·rw[hz]at hf
            repeat' (first|refine yJT ?_|refine DS.pcS inferInstance (hf) yR yT ?_|refine DS.drawL (id:=30) [0,1,2,3,4,5] 6 yKR mixed yP1 yP2 ?_|(with_reducible first|refine DD.fltS yU yU yU yE ?_|refine DD.nil0 ?_)|fail)
            all_goals first
             | exact DS.back (HB.out (j+1) _ _ (by omega) ⟨by omega,by rw[HJ.out,if_neg (by omega)]⟩ yS yS (fun b o e=>by cases e))
             | (exfalso;omega)
           ·repeat' (first|refine yJT ?_|refine DS.pcS inferInstance (hf) yR yT ?_|refine DS.drawL (id:=30) [0,1,2,3,4,5] 6 yKR mixed yP1 yP2 ?_|(with_reducible first|refine DD.fltS yU yU yU yE ?_|refine DD.nil0 ?_)|refine DS.retT [] yE trivial ?_|fail)
            all_goals first|(rw[HJ.out,if_pos hz];rfl)|(exfalso;omega)
          ·rw[j2,drop_end hj]
           clear j2 HB
           repeat' (first|refine yJT ?_|refine DS.retT [] yE trivial ?_|fail)
           all_goals first|rfl|(exfalso;omega)
        ·rw[if_pos hs0]
         repeat' (first|refine yJ ?_|(with_reducible (refine DS.cE yE ?_;first|refine CG.p (fun _=>?_) (fun _=>?_)|refine CG.yes ?_))|refine DS.retT [] yE trivial ?_|fail)
         all_goals first|rfl|(exfalso;omega)
    ·repeat' (first|with_reducible refine DS.fltS yU yU yX2 ?_|refine yJ ?_|(with_reducible first|(refine DS.cE yX2 ?_;first|refine CG.np (fun _=>?_) (fun _=>?_)|refine CG.yes ?_|refine CG.no ?_)|(refine DS.gE yU yX2 ?_;first|refine GG.npT (fun _=>?_) (fun _=>?_)|refine GG.npF (fun _=>?_) (fun _=>?_)|refine GG.run ?_|refine GG.sF ?_|refine GG.sT ?_))|refine DS.pcS inferInstance (betweenR_pc _ _ _) yR yX3 ?_|refine DS.retT [] yX2 trivial ?_|fail)
     all_goals first
      | (exfalso;omega)
      | (simp only[tupV];(repeat' split) <;> first|rfl|(exfalso;omega))
  ·rw[if_pos hm]at hpay
   rw[hpay]
   refine DC.of_run Tryz.func20 rfl Tryz.ntmps20 Tryz.results20 (by simp) (fun _ _=>?_);simp only[argV_cons,argV_nil,go_sem,Nat.zero_add,Nat.reduceAdd]
   repeat' (first|refine yJT ?_|refine DS.pcS inferInstance (hc) yR yT ?_|refine DS.pcS inferInstance (betweenR_pc _ _ _) yR yT ?_|(refine DS.boxF (t:=2) yU yE yU ?_;simp only[yS3])|(refine DS.boxF (t:=3) yU yE yU ?_;simp only[yS3])|refine DS.retT [] yE trivial ?_|fail)
   all_goals first|rfl|(exfalso;omega)
 ·rw[payS,if_pos h0]
  refine DC.of_run Tryz.func20 rfl Tryz.ntmps20 Tryz.results20 (by simp) (fun _ _=>?_);simp only[argV_cons,argV_nil,go_sem,Nat.zero_add,Nat.reduceAdd]
  repeat' (first|refine yJT ?_|refine DS.pcS inferInstance (hc) yR yT ?_|(refine DS.boxF (t:=2) yU yE yU ?_;simp only[yS3])|(refine DS.boxF (t:=3) yU yE yU ?_;simp only[yS3])|refine DS.retT [] yE trivial ?_|fail)
  all_goals first|rfl|(exfalso;omega)
end Go.XL
namespace Go.XL
open Go.Proofs
set_option maxRecDepth 100000
set_option maxHeartbeats 8000000
theorem bigSet_pc (s:GSet):PC Tryz.prog 6 [s.val] (Bo (decide (20<(s.suits.length:Int)) || decide (60<(s.reds.length:Int)))):=by
 refine DC.of_run Tryz.func6 rfl Tryz.ntmps6 Tryz.results6 (by simp) (fun _ _=>?_);simp only[argV_cons,argV_nil,go_sem,Nat.zero_add,Nat.reduceAdd]
 repeat' (first|refine yJ ?_|(with_reducible (refine DS.gE yU yE ?_;first|refine GG.pF (fun _=>?_) (fun _=>?_)|refine GG.run ?_|refine GG.sT ?_))|(refine DS.boxF (t:=1) yU yE yU ?_;simp only[yS3])|refine DS.retT [] yE trivial ?_|fail)
 all_goals (simp[tupV, *])
def bigFeeds :List Feed→Bool
 | []=>false
 | f::l=>decide (60<(f.kinds.length:Int)) || bigFeeds l
def bigPayS (x:Scale) (p:Pay):Bool:=decide (30<(x.limits.length:Int)) || decide (10<(p.places.length:Int)) || decide (10<(p.feeds.length:Int)) || bigFeeds p.feeds
theorem bigFeeds_at {l:List Feed} {i:Nat} (hi:i<l.length):bigFeeds (l.drop i)=(decide (60<(l[i].kinds.length:Int)) || bigFeeds (l.drop (i+1))):=by
 rw[List.drop_eq_getElem_cons hi];rfl
theorem bigPay_pc (x:Scale) (p:Pay):PC Tryz.prog 16 [x.val,p.val] (Bo (bigPayS x p)):=by
 refine DC.of_run Tryz.func16 rfl Tryz.ntmps16 Tryz.results16 (by simp) (fun _ _=>?_);simp only[argV_cons,argV_nil,go_sem,Nat.zero_add,Nat.reduceAdd]
 repeat' (first|refine yJ ?_|(with_reducible first|(refine DS.cE yE ?_;first|refine CG.p (fun _=>?_) (fun _=>?_)|refine CG.yes ?_)|(refine DS.gE yU yE ?_;first|refine GG.pF (fun _=>?_) (fun _=>?_)|refine GG.run ?_|refine GG.sT ?_))|(refine DS.boxF (t:=2) yU yE yU ?_;simp only[yS3])|(refine DS.boxF (t:=3) yU yE yU ?_;simp only[yS3])|refine DS.retT [] yE trivial ?_|fail)
 all_goals try (simp[tupV,bigPayS, *];done)
 rename_i g1 g2 g3
 refine DS.loopK [3] yN (fun(i:Nat)=> [(5,I i)]) (fun(i:Nat)=>i≤p.feeds.length∧bigPayS x p=bigFeeds (p.feeds.drop i)) (fun(i:Nat)=>p.feeds.length-i) 0 yS ⟨Nat.zero_le _,by
  rw[bigPayS,decide_eq_false g1,decide_eq_false g2,decide_eq_false g3];simp⟩ (fun i B hI hB=>?_);try dsimp only at hI hB;simp only[app_cons',app_nil']
 have HB:=Box.mk (And.intro hI.2 hB)
 have hI:=hI.1
 clear hB
 by_cases hi:(i:Int)<(p.feeds.length:Int)
 ·have hi':i<p.feeds.length:=by omega
  have hat:=Box.mk (bigFeeds_at hi')
  repeat' (first|refine yJ ?_|(with_reducible (refine DS.cE yE ?_;first|refine CG.p (fun _=>?_) (fun _=>?_)|refine CG.yes ?_))|refine DS.retT [] yE trivial ?_|fail)
  ·rename_i e1
   rw[HB.out.1,hat.out,decide_eq_true e1];rfl
  ·rename_i e1
   refine DS.back (HB.out.2 (i+1) _ _ (by omega) ⟨by omega,by rw[HB.out.1,hat.out,decide_eq_false e1];rfl⟩ yS yS (fun b o e=>by cases e))
 ·repeat' (first|refine yJT ?_|refine DS.retT [] yE trivial ?_|fail)
  rw[HB.out.1,List.drop_eq_nil_of_le (by omega)];rfl
theorem houseRules_pc0 (s:GSet) (x:Scale) (p:Pay) (y:Play) (l:List Int)
  (hsh:DC Tryz.prog 9 [ints l] [] (fun u S'=> ∃(bs:Nat) (x:Int) (s:GSet) (fs:List Form) (hd:Hnd),u = .tup [ptr bs,s.val,formsV fs,hd.val]∧S'= [(bs,srcO x)])) :
  PC Tryz.prog 4 [s.val,x.val,p.val,y.val,ints l] (Bo true):=by
 have ha:=awakeH_pc
 refine DC.of_run Tryz.func4 rfl Tryz.ntmps4 Tryz.results4 (by simp) (fun _ _=>?_);simp only[argV_cons,argV_nil,go_sem,Nat.zero_add,Nat.reduceAdd]
 repeat' (first|refine yJ ?_|(with_reducible first|(refine DS.cE yE ?_;first|refine CG.yes ?_|refine CG.b (fun _=>?_) (fun _=>?_))|(refine DS.gE yU yE ?_;first|refine GG.run ?_|refine GG.sT ?_|refine GG.bF (fun _=>?_) (fun _=>?_)))|refine DS.pcS inferInstance (bigSet_pc s) yR yT ?_|refine DS.pcS inferInstance (bigPay_pc x p) yR yT ?_|refine DS.pcS inferInstance (ha) yR yT ?_|(refine DS.boxF (t:=5) yU yE yU ?_;simp only[yS3])|(refine DS.boxF (t:=6) yU yE yU ?_;simp only[yS3])|(refine DS.boxF (t:=7) yU yE yU ?_;simp only[yS3])|(refine DS.boxF (t:=8) yU yE yU ?_;simp only[yS3])|fail)
 all_goals try (refine DS.retA yH ?_;rfl)
 refine DS.callA inferInstance hsh yR yH (fun u S' hu=>?_)
 obtain⟨bs,z,t,fs,hd,rfl,rfl⟩:=hu
 clear hsh
 repeat' (first|refine yJ ?_|fail)
 refine DS.allocS yR yU yU (fun c1 g1=>?_)
 have a1: ¬c1=bs:=fun e=>by subst e;simp[lookS]at g1
 have a1': ¬bs=c1:=fun e=>a1 e.symm
 clear g1
 refine DS.allocS yR yU yU (fun c2 g2=>?_)
 have g2:=lookS_keys g2
 simp only[List.map_cons,List.map_nil,List.mem_cons,List.not_mem_nil,or_false,not_or]at g2
 obtain⟨a2,a3⟩:=g2
 have a2': ¬c1=c2:=fun e=>a2 e.symm
 have a3': ¬bs=c2:=fun e=>a3 e.symm
 repeat' (first|with_reducible refine DS.fltS yU yU yX6 ?_|refine yJ ?_|(refine DS.store yR yX6 yX6 yX6 yX6 yU yQ ?_;simp only[yS1];try simp only[yS2,Nat.reduceEqDiff,↓reduceIte])|fail)
 simp only[setS,a1,a1',a2,a2',a3,a3',↓reduceIte]
 repeat' (first|refine yJT ?_|refine DS.pcS inferInstance (r4play_pc t y) yR yF ?_|refine DS.pcS inferInstance (ha) yR yF ?_|refine DS.drawL (id:=4) [0,1,2,3,4,5,6,7,8,9,10,11,12,13,14,15,16,17,18,19,20,21,22,23,24,25,26,27,28,29,30,31,32,33,34,35,36,37] 38 yKR mixed yP1 yP2 ?_|(with_reducible first|refine DD.fltS yU yU yU yE ?_|(refine DD.gE yU yE ?_;refine DGG.run ?_)|refine DD.nil0 ?_)|refine DD.pcV0 inferInstance (checkScale_pc x) yU yF ?_|refine DD.pcV0 inferInstance (checkScaleR_pc x) yU yF ?_|refine DD.pcV0 inferInstance (pay_pc s p) yU yF ?_|refine DD.pcV0 inferInstance (pay_pc t p) yU yF ?_|refine DD.pcV0 inferInstance (r4pay_pc s p) yU yF ?_|refine DD.pcV0 inferInstance (r4pay_pc t p) yU yF ?_|refine DD.pcV0 inferInstance (play_pc s y) yU yF ?_|refine DD.pcV0 inferInstance (play_pc t y) yU yF ?_|refine DD.pcV0 inferInstance (r4play_pc s y) yU yF ?_|fail)
 refine DS.retA yH ?_
 simp[tupV]
theorem houseRules_pc (s:GSet) (x:Scale) (p:Pay) (y:Play) (l:List Int):PC Tryz.prog 4 [s.val,x.val,p.val,y.val,ints l] (Bo true) :=
 houseRules_pc0 s x p y l ((shape_dc l).mono fun u S' ⟨bs,z,t,fs,hd,h1,h2,_⟩=>⟨bs,z,t,fs,hd,h1,h2⟩)
end Go.XL
namespace Go.XL
open Go.Proofs Go.ChangeShapes Go.WideShapes Go.ChangeAt Go.RowKit
def hvW (W:World):VH:=fun b=>W.heap[b]?
def baseW (W:World) (k:Kn (hvW W)):Bs:=⟨fun b=>b<W.heap.size,W.heap,hvW W,k⟩
theorem stW (W:World) (k:Kn (hvW W)):St (baseW W k) (hvW W) (fun _=>none) [] [] [] W.heap where
 pre:=fun b o e=>⟨o,e,leO.refl o⟩
 slot:=fun t v e=>by cases e
 obj:=fun b o e=>by cases e
 held:=fun g x e=>by cases e
 base:=⟨fun b h=>h,Nat.le_refl _,fun b _=>rfl⟩
 vbase:=⟨PreV.refl _,fun _ _=>rfl⟩
structure KeptW (W W':World):Prop where
 os:W'.os=W.os
 output:W'.output=W.output
 size:W.heap.size≤W'.heap.size
 old: ∀b,b<W.heap.size→W'.heap[b]?=W.heap[b]?
theorem PC.door {P:Program} {f:FuncId} {vs:List V} {xs:List Value} (h:PC P f vs (.v (.bool true))) (W:World) (hx:RlL (hvW W) vs xs) (k:Kn (hvW W):=by exact kn_all _) :
  Calls P f xs.toArray W fun e w'=>e = .returned (.bool true)∧KeptW W w':=by
 refine(h (hvW W) (baseW W k) (hvW W) (fun _=>none) W.heap xs (PreV.refl _) hx (stW W k) W rfl).mono fun e w'=>?_
 rintro⟨y,rfl,⟨s1,s2,s3⟩,v,S',hv',hold',-,st,rfl⟩
 obtain⟨z,h1,h2,-⟩:=st.slot 0 (.v (.bool true)) rfl
 simp only[V.Rl]at h2
 subst h2
 have h3:look [(0,y)] 0=some y:=by simp[look]
 rw[h3]at h1
 cases h1
 exact⟨rfl,s1,s3,st.base.2.1,st.base.2.2⟩
theorem KeptW.keptBut {W W':World} (k:KeptW W W') (may:MemPlace→Prop):W.keptBut W' may:=by
 refine⟨k.os,k.output,fun i hi=>?_⟩
 rw[k.old i hi]
 generalize W.heap[i]?=o
 cases o with
 | none=>trivial
 | some o=>cases o <;> simp
theorem KeptW.cell {W W':World} (k:KeptW W W') {a:Addr} (h:a.block<W.heap.size):W'.cell? a=W.cell? a:=by
 unfold World.cell?
 rw[k.old _ h]
theorem KeptW.sameAt {W W':World} (k:KeptW W W') {p:MemPlace} (h:p.block<W.heap.size):W.sameAt W' p:=by
 cases p with
 | cell b off=>exact k.cell h
 | map b=>exact k.old _ h
section
variable {H:Type} {enc:TypeId×Value→H} {P:Program}
theorem trodAll_stays (hl:laidOutB P=true) {W W':World} {sp:Nat→Bool}: ∀{ts:List TypeId} {vs:List Value} {ds:List (DataW H)} {ps:List MemPlace},(∀t∈ts,P.readableRec t=true∧t<P.types.size) →
  DataW.TrodAll enc P W 0 (fun _=>true) true ts vs ds ps→(∀p∈ps,W.sameAt W' p)→(∀p∈ps,sp p.block=true)→DataW.TrodAll enc P W' 0 sp true ts vs ds ps
 | [],vs,ds,ps,_,h,_,_=>by
  obtain⟨rfl,rfl,rfl⟩:=trodAll_nil h
  rfl
 | t::ts,vs,ds,ps,ht,h,h1,h2=>by
  obtain⟨v,vs',d,ds',p,q,rfl,rfl,rfl,h3,h4⟩:=trodAll_cons h
  obtain⟨r1,r2⟩:=ht t (List.mem_cons_self ..)
  exact⟨p,q,WideElems.Trod_stays hl r1 r2 h3 (fun x hx=>h1 x (List.mem_append_left _ hx)) (fun x hx=>h2 x (List.mem_append_left _ hx)),
   trodAll_stays hl (fun t h=>ht t (List.mem_cons_of_mem _ h)) h4 (fun x hx=>h1 x (List.mem_append_right _ hx)) (fun x hx=>h2 x (List.mem_append_right _ hx)),rfl⟩
theorem post_law {f:Func} {s:ChangeSpec} {apart fresh handsOn:Bool} {W W':World} {args:Array Value} {ds gs:List (DataW H)} {before:List MemPlace} {tb:TypeId}
  (hW:DataW.Whole enc P f.params.toList s.vars apart W args.toList ds gs before) (hv:s.vars= []) (hs:s.fn H ds={results:= [.lit (.bool true)],args:=ds})
  (hrt:f.resultTypes= #[tb]) (hb:P.underlying tb=some .bool) (hl:laidOutB P=true) (hr: ∀t∈f.params.toList,P.readableRec t=true∧t<P.types.size) (k:KeptW W W') :
  s.post enc P f apart fresh handsOn false W args (.bool true) W':=by
 have hlt:=fun p hp=>hW.lt (p:=p) hp
 have hW':=hW
 obtain⟨p,q,hA,hV,rfl,-,-⟩:=hW
 rw[hv]at hV
 obtain⟨rfl,rfl⟩:=trodVars_none hV
 refine⟨ds,[],p++ [],[],p,[],hW',?_,?_,?_,k.keptBut _,fun h=>by cases h⟩
 ·rw[List.append_nil,hs,hrt]
  exact trodAll_mk1 (shut_bool hb _)
 ·rw[List.append_nil,hs]
  exact trodAll_stays hl hr hA (fun x hx=>k.sameAt (hlt x (by simpa using hx))) (fun x hx=>by simpa using hlt x (by simpa using hx))
 ·rw[List.append_nil,hs,hv]
  rfl
def Opens (P:Program) (W:World) (H:Type) (enc:TypeId×Value→H) (t:TypeId) {α:Type} (f:α→List V) (G:α→Prop):Prop :=
 ∀fuel cs x,DataW.trod enc P W 0 (fun _=>true) true fuel t cs=some x→ ∃a,RlL (hvW W) (f a) cs∧(∀u∈cs,u.oneCell'=true)∧G a
variable {W:World} {t e:TypeId}
theorem opens_int {k:IntKind} (ht:P.underlying t=some (.int k)):Opens P W H enc t (fun n:Int=> [.v (.int k n)]) (fun n=>(Lit.int k n).wf=true):=by
 intro fuel cs x h
 obtain⟨n,rfl,-,hw⟩:=DataW.trod_int ht h
 exact⟨n,by simp[RlL,V.Rl],by simp[Value.oneCell'],hw⟩
theorem opens_bool (ht:P.underlying t=some .bool):Opens P W H enc t (fun b:Bool=> [.v (.bool b)]) (fun _=>True):=by
 intro fuel cs x h
 obtain⟨b,rfl,-⟩:=DataW.trod_bool ht h
 exact⟨b,by simp[RlL,V.Rl],by simp[Value.oneCell'],trivial⟩
theorem RlL.len {hv:VH}: ∀{vs:List V} {cs:List Value},RlL hv vs cs→vs.length=cs.length
 | [],_,h=>by simp only[RlL]at h;subst h;rfl
 | v::vs,cs,h=>by
  simp only[RlL]at h
  obtain⟨z,zs,rfl,-,h⟩:=h
  simp[RlL.len h]
theorem in64_wf {n:Int} (h:(Lit.int .i64 n).wf=true) : -9223372036854775808≤n∧n≤9223372036854775807:=by
 have h1:IntKind.min .i64 = -9223372036854775808:=by decide
 have h2:IntKind.max .i64=9223372036854775807:=by decide
 simp only[Lit.wf,h1,h2,Bool.and_eq_true,decide_eq_true_eq]at h
 exact h
theorem RlL.one {hv:VH} {v:V} {y:Value} (h:v.Rl hv y):RlL hv [v] [y]:=by
 simp only[RlL];exact⟨y,[],rfl,h,rfl⟩
theorem RlL.cons_one {hv:VH} {v:V} {y:Value} {vs:List V} {ys:List Value} (h:RlL hv [v] [y]) (k:RlL hv vs ys):RlL hv (v::vs) (y::ys):=by
 simp only[RlL]at h ⊢
 obtain⟨z,zs,e,h1,h2⟩:=h
 cases e
 exact⟨_,_,rfl,h1,k⟩
theorem rlC_of {a:Addr} {m:Nat}: ∀{vs:List V} {cs:List Value} {i:Nat},RlL (hvW W) vs cs→(∀u∈cs,u.oneCell'=true)→(∀j,j<cs.length→W.cell? (a.add (i+j))=cs[j]?)→RlC (hvW W) (some a) i vs
 | [],_,_,_,_,_=>by simp only[RlC]
 | v::vs,cs,i,h,h1,h2=>by
  simp only[RlL]at h
  obtain⟨z,zs,rfl,h3,h4⟩:=h
  simp only[RlC]
  refine⟨⟨z,?_,h3,h1 z (List.mem_cons_self ..)⟩,rlC_of (m:=m) h4 (fun u hu=>h1 u (List.mem_cons_of_mem _ hu)) fun j hj=>?_⟩
  ·have:=h2 0 (by simp)
   rw[Nat.add_zero]at this
   exact this
  ·have:=h2 (j+1) (by simpa using hj)
   rw[show i+1+j=i+(j+1) by omega,this]
   rfl
theorem rlE_of {a:Addr} {sz:Nat}: ∀{l:List (List V)} {i:Nat},(∀(j:Nat) (h:j<l.length),l[j].length=sz∧RlC (hvW W) (some a) (i+j*sz) l[j])→RlE (hvW W) (some a) i l
 | [],_,_=>by simp only[RlE]
 | c::l,i,h=>by
  simp only[RlE]
  have h0:=h 0 (by simp)
  simp only[Nat.zero_mul,Nat.add_zero,List.getElem_cons_zero]at h0
  refine⟨h0.2,rlE_of (sz:=sz) fun j hj=>?_⟩
  have h1:=h (j+1) (by simpa using hj)
  simp only[List.getElem_cons_succ]at h1
  refine⟨h1.1,?_⟩
  have e:i+c.length+j*sz=i+(j+1)*sz:=by rw[h0.1,Nat.add_mul,Nat.one_mul];omega
  rw[e]
  exact h1.2
theorem choose_list {α β:Type} {R:Nat→α→Prop}: ∀(n:Nat),(∀i,i<n→ ∃a,R i a)→ ∃l:List α,l.length=n∧ ∀(i:Nat) (h:i<l.length),R i l[i]
 | 0,_=>⟨[],rfl,fun i h=>by cases h⟩
 | n+1,h=>by
  obtain⟨l,h1,h2⟩:=choose_list (β:=β) n fun i hi=>h i (by omega)
  obtain⟨a,ha⟩:=h n (by omega)
  refine⟨l++ [a],by simp[h1],fun i hi=>?_⟩
  rw[List.length_append,List.length_singleton]at hi
  by_cases h3:i<l.length
  ·rw[List.getElem_append_left h3];exact h2 i h3
  ·obtain rfl:i=l.length:=by omega
   simp only[List.getElem_concat_length]
   rw[h1];exact ha
theorem opens_slice {α:Type} {f:α→List V} {G:α→Prop} {sz:Nat} (ht:P.underlying t=some (.slice e)) (hc:P.cellsOf e=sz) (h:Opens P W H enc e f G) :
  Opens P W H enc t (fun l:List α=> [.lst (l.map f)]) (fun l=> ∀a∈l,G a):=by
 intro fuel cs x hx
 rcases DataW.trod_slice ht hx with⟨rfl,-⟩|⟨a,len,cap,elems,rest,n,rfl,rfl,-,-,h1,h2,h3,h4,-,-⟩
 ·refine⟨[],?_,by simp[Value.oneCell'],fun a h=>by cases h⟩
  simp only[RlL,V.Rl,List.map_nil]
  exact⟨_,[],rfl,⟨none,0,0,rfl,Nat.le_refl _,Nat.zero_le _,(fun c h=>by cases h),by simp only[RlE]⟩,rfl⟩
 ·obtain⟨l,hl,hk⟩:=choose_list (β:=Unit) (R:=fun i y=> ∃cs,W.cells? 0 (a.add (i*sz)) sz=some cs∧RlL (hvW W) (f y) cs∧(∀u∈cs,u.oneCell'=true)∧G y) len (fun i hi=>by
   have h5:=h4 i hi
   rw[List.getElem?_eq_getElem (by omega),Option.bind_eq_some_iff,hc]at h5
   obtain⟨cs,h6,h7⟩:=h5
   obtain⟨y,h8,h9,h10⟩:=h _ _ _ h7
   exact⟨y,cs,h6,h8,h9,h10⟩)
  have hlen: ∀y∈l,(f y).length=sz:=fun y hy=>by
   obtain⟨i,hi,rfl⟩:=List.mem_iff_getElem.1 hy
   obtain⟨cs,k1,k2,-,-⟩:=hk i hi
   rw[k2.len,(World.cells?_some k1).2.1]
  refine⟨l,?_,by simp[Value.oneCell'],fun y hy=>?_⟩
  ·simp only[RlL,V.Rl]
   refine⟨_,[],rfl,⟨some a,cap,sz,by rw[List.length_map,hl],by rw[List.length_map,hl];exact h1,h2,fun c hc=>?_,rlE_of (sz:=sz) fun j hj=>?_⟩,rfl⟩
   ·obtain⟨y,hy,rfl⟩:=List.mem_map.1 hc
    exact hlen y hy
   ·rw[List.length_map]at hj
    rw[List.getElem_map]
    obtain⟨cs,k1,k2,k3,k4⟩:=hk j hj
    obtain⟨-,k5,k6⟩:=World.cells?_some k1
    refine⟨hlen _ (List.getElem_mem hj),rlC_of (m:=sz) k2 k3 fun i hi=>?_⟩
    rw[Nat.zero_add,←add_add]
    exact k6 i (by omega)
  ·obtain⟨i,hi,rfl⟩:=List.mem_iff_getElem.1 hy
   obtain⟨cs,-,-,-,k4⟩:=hk i hi
   exact k4
end
end Go.XL
namespace Go.XL
open Go.Proofs Go.ChangeShapes Go.WideShapes Go.ChangeAt Go.RowKit
set_option maxRecDepth 100000
abbrev N64 (n:Int):Prop := -9223372036854775808≤n∧n≤9223372036854775807
def offFs (P:Program):List Field→Nat→List TypeId→Bool
 | [],_,[]=>true
 | f::fs,i,t::ts=>f.offset == i&&f.type == t&&offFs P fs (i+P.cellsOf t) ts
 | _,_,_=>false
def sumFs (P:Program) (ts:List TypeId):Nat:=(ts.map P.cellsOf).sum
theorem rlL_app {hv:VH}: ∀{a b:List V} {x y:List Value},RlL hv a x→RlL hv b y→RlL hv (a++b) (x++y)
 | [],b,x,y,h,k=>by simp only[RlL]at h;subst h;exact k
 | v::a,b,x,y,h,k=>by
  simp only[RlL]at h
  obtain⟨z,zs,rfl,h1,h2⟩:=h
  simp only[List.cons_append,RlL]
  exact⟨z,_,rfl,h1,rlL_app h2 k⟩
section
variable {H:Type} {enc:TypeId×Value→H} {P:Program} {W:World} {t:TypeId}
def CutAt (enc:TypeId×Value→H) (P:Program) (W:World) (n:Nat):List TypeId→List Value→Prop
 | [],cs=>cs= []
 | t::ts,cs=> ∃a b,cs=a++b∧(∃y,DataW.trod enc P W 0 (fun _=>true) true n t a=some y)∧CutAt enc P W n ts b
theorem cut_of {n:Nat}: ∀{fs:List Field} {k:Nat} {ts:List TypeId} {cs:List Value},offFs P fs k ts=true→cs.length=k+sumFs P ts →
  (∀(i:Nat) (f:Field),fs[i]?=some f→ ∃y,DataW.trod enc P W 0 (fun _=>true) true n f.type ((cs.drop f.offset).take (P.cellsOf f.type))=some y)→CutAt enc P W n ts (cs.drop k)
 | [],k,[],cs,_,hl,_=>by
  simp only[CutAt]
  simp only[sumFs,List.map_nil,List.sum_nil,Nat.add_zero]at hl
  rw[←hl,List.drop_length]
 | [],k,_::_,cs,h,_,_=>by cases h
 | _::_,k,[],cs,h,_,_=>by cases h
 | f::fs,k,u::ts,cs,h,hl,hy=>by
  simp only[offFs,Bool.and_eq_true,beq_iff_eq]at h
  obtain⟨⟨h1,h2⟩,h3⟩:=h
  simp only[sumFs,List.map_cons,List.sum_cons]at hl
  obtain⟨y,h4⟩:=hy 0 f rfl
  rw[h1,h2]at h4
  refine⟨(cs.drop k).take (P.cellsOf u),(cs.drop k).drop (P.cellsOf u),(List.take_append_drop _ _).symm,⟨y,h4⟩,?_⟩
  rw[List.drop_drop]
  exact cut_of h3 (by simp only[sumFs];omega) fun i g hg=>hy (i+1) g hg
def OpensC (P:Program) (W:World) (H:Type) (enc:TypeId×Value→H) (ts:List TypeId) {α:Type} (f:α→List V) (G:α→Prop):Prop :=
 ∀n cs,CutAt enc P W n ts cs→ ∃a,RlL (hvW W) (f a) cs∧(∀u∈cs,u.oneCell'=true)∧G a
theorem OpensC.nil :OpensC P W H enc [] (fun _:Unit=> []) (fun _=>True):=fun n cs h=>by
 simp only[CutAt]at h;subst h
 exact⟨(),by simp only[RlL],fun u hu=>(by cases hu),trivial⟩
theorem Opens.cons {α β:Type} {ts:List TypeId} {f:α→List V} {g:β→List V} {G:α→Prop} {K:β→Prop} (h:Opens P W H enc t f G) (k:OpensC P W H enc ts g K) :
  OpensC P W H enc (t::ts) (fun p:α×β=>f p.1++g p.2) (fun p=>G p.1∧K p.2):=fun n cs hc=>by
 obtain⟨a,b,rfl,⟨y,hy⟩,hb⟩:=hc
 obtain⟨x,h1,h2,h3⟩:=h _ _ _ hy
 obtain⟨z,k1,k2,k3⟩:=k _ _ hb
 exact⟨(x,z),rlL_app h1 k1,fun u hu=>(List.mem_append.1 hu).elim (h2 u) (k2 u),h3,k3⟩
theorem OpensC.struct {α:Type} {ts:List TypeId} {f:α→List V} {G:α→Prop} (k:OpensC P W H enc ts f G) (ht:P.underlying t=some (.struct (P.fieldsOf t))) (hf:offFs P (P.fieldsOf t).toList 0 ts=true) (hn:P.cellsOf t=sumFs P ts) :
  Opens P W H enc t f G:=fun fuel cs x h=>by
 obtain⟨xs,n,-,-,h1,h2,h3⟩:=DataW.trod_struct ht h
 have:=cut_of (enc:=enc) (W:=W) (n:=n) (cs:=cs) hf (by rw[h1,hn,Nat.zero_add]) fun i g hg=>by
  have g1':(P.fieldsOf t)[i]?=some g:=by simpa using hg
  have h5:i<xs.length:=by
   rw[h2]
   exact(Array.getElem?_eq_some_iff.1 g1').1
  exact⟨xs[i],by rw[h3 i g g1',List.getElem?_eq_getElem h5]⟩
 rw[List.drop_zero]at this
 exact k n cs this
theorem Opens.iso {α β:Type} {f:α→List V} {G:α→Prop} {g:β→List V} {K:β→Prop} (h:Opens P W H enc t f G) (e:α→β) (h1: ∀a,f a=g (e a)) (h2: ∀a,G a→K (e a)):Opens P W H enc t g K:=fun fuel cs x hx=>by
 obtain⟨a,k1,k2,k3⟩:=h _ _ _ hx
 exact⟨e a,h1 a▸k1,k2,h2 a k3⟩
theorem Opens.agg {α:Type} {f:α→List V} {G:α→Prop} (h:Opens P W H enc t f G) (hf: ∀a,1<(f a).length) {v:Value} {fuel:Nat} {x:DataW H×List MemPlace}
  (hx:DataW.trod enc P W 0 (fun _=>true) true fuel t v.cells.toList=some x): ∃a,RlL (hvW W) [.agg (f a)] [v]∧G a:=by
 obtain⟨c,h1,-,h3⟩:=h _ _ _ hx
 have hl:=h1.len
 have:=hf c
 have hs: ∃xs,v = .agg xs:=by
  cases v <;> first|exact⟨_,rfl⟩|(simp[Value.cells]at hl;omega)
 obtain⟨xs,rfl⟩:=hs
 refine⟨c,RlL.one ?_,h3⟩
 simp only[V.Rl]
 exact⟨xs.toList,rfl,h1⟩
end
section
variable {H:Type} {enc:TypeId×Value→H} {W:World}
theorem oI :Opens Tryz.prog W H enc 3 cI N64:=fun fuel cs x h=>by
 obtain⟨a,h1,h2,h3⟩:=opens_int Tryz.underlying3 fuel cs x h
 exact⟨a,h1,h2,in64_wf h3⟩
theorem oB :Opens Tryz.prog W H enc 4 (fun b:Bool=> [.v (.bool b)]) (fun _=>True):=opens_bool Tryz.underlying4
theorem oL :Opens Tryz.prog W H enc 22 (fun l=> [ints l]) (fun l=> ∀x∈l,N64 x):=opens_slice (sz:=1) Tryz.underlying22 yKR oI
theorem oLim :Opens Tryz.prog W H enc 118 Limit.cells (fun _=>True) :=
 ((oI.cons (oI.cons .nil)).struct yKR yKR yKR).iso (fun p=>⟨p.1,p.2.1⟩) (fun _=>rfl) (fun _ _=>trivial)
theorem oScale :Opens Tryz.prog W H enc 50 Scale.cells (fun _=>True) :=
 ((oI.cons (oB.cons ((opens_slice (sz:=2) Tryz.underlying48 yKR oLim).cons (oI.cons .nil)))).struct yKR yKR yKR).iso
  (fun p=>(⟨p.1,p.2.1,p.2.2.1,p.2.2.2.1⟩:Scale)) (fun _=>rfl) (fun _ _=>trivial)
end
end Go.XL
namespace Go.XL
open Go.Proofs Go.ChangeShapes Go.WideShapes Go.ChangeAt Go.RowKit
set_option maxRecDepth 100000
section
variable {H:Type} {enc:TypeId×Value→H} {W:World}
theorem oSet :Opens Tryz.prog W H enc 24 GSet.cells (fun _=>True) :=
 ((oI.cons (oL.cons (oI.cons (oI.cons (oI.cons (oI.cons (oI.cons (oI.cons (oL.cons .nil))))))))).struct yKR yKR yKR).iso
  (fun p=>(⟨p.1,p.2.1,p.2.2.1,p.2.2.2.1,p.2.2.2.2.1,p.2.2.2.2.2.1,p.2.2.2.2.2.2.1,p.2.2.2.2.2.2.2.1,p.2.2.2.2.2.2.2.2.1⟩:GSet)) (fun _=>rfl) (fun _ _=>trivial)
theorem oFeed :Opens Tryz.prog W H enc 115 Feed.cells (fun _=>True) :=
 ((oL.cons (oI.cons .nil)).struct yKR yKR yKR).iso (fun p=>(⟨p.1,p.2.1⟩:Feed)) (fun _=>rfl) (fun _ _=>trivial)
theorem oPay :Opens Tryz.prog W H enc 53 Pay.cells (fun _=>True) :=
 ((oI.cons (oB.cons (oI.cons (oI.cons (oI.cons (oI.cons (oI.cons (oI.cons (oI.cons (oI.cons (oB.cons (oL.cons ((opens_slice (sz:=2) Tryz.underlying51 yKR oFeed).cons .nil))))))))))))).struct yKR yKR yKR).iso
  (fun p=>(⟨p.1,p.2.1,p.2.2.1,p.2.2.2.1,p.2.2.2.2.1,p.2.2.2.2.2.1,p.2.2.2.2.2.2.1,p.2.2.2.2.2.2.2.1,p.2.2.2.2.2.2.2.2.1,p.2.2.2.2.2.2.2.2.2.1,p.2.2.2.2.2.2.2.2.2.2.1,p.2.2.2.2.2.2.2.2.2.2.2.1,p.2.2.2.2.2.2.2.2.2.2.2.2.1⟩:Pay)) (fun _=>rfl) (fun _ _=>trivial)
theorem oPlay :Opens Tryz.prog W H enc 55 Play.cells (fun _=>True) :=
 ((oB.cons (oI.cons (oB.cons (oI.cons (oB.cons (oI.cons (oI.cons (oI.cons (oB.cons (oB.cons (oB.cons (oI.cons (oI.cons (oI.cons (oB.cons (oB.cons .nil)))))))))))))))).struct yKR yKR yKR).iso
  (fun p=>(⟨p.1,p.2.1,p.2.2.1,p.2.2.2.1,p.2.2.2.2.1,p.2.2.2.2.2.1,p.2.2.2.2.2.2.1,p.2.2.2.2.2.2.2.1,p.2.2.2.2.2.2.2.2.1,p.2.2.2.2.2.2.2.2.2.1,p.2.2.2.2.2.2.2.2.2.2.1,p.2.2.2.2.2.2.2.2.2.2.2.1,p.2.2.2.2.2.2.2.2.2.2.2.2.1,p.2.2.2.2.2.2.2.2.2.2.2.2.2.1,p.2.2.2.2.2.2.2.2.2.2.2.2.2.2.1,p.2.2.2.2.2.2.2.2.2.2.2.2.2.2.2.1⟩:Play)) (fun _=>rfl) (fun _ _=>trivial)
end
end Go.XL
