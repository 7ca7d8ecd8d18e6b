/- A part of a program logic over the kit's walk rules, and contracts of functions in it. Conditions: as each theorem says. -/
import Derived.Test.YtbbhoipphnbdiaaGreatDoorB8
import Derived.Test.YtbbhoipphnbdiaaGreatDoorRows
import Derived.WideKeyArgs
import Derived.OpenShut
import Derived.WalkKit
import Derived.ProofKit
import Derived.Laws.StructEq
import Derived.WideKeyElems2
import Derived.LaidMore
import Derived.Lay
import Derived.SevenTiedAt
import Derived.Stop.Joined
import Derived.LaidSub
set_option linter.all false
namespace Go.XL
open Go.Proofs
set_option maxRecDepth 100000
set_option maxHeartbeats 8000000
theorem yX34 {p:Prop} (h:p:=by(simp (disch:=omega) only[go_sem,dopV,yV0,↓reduceIte,Nat.reduceEqDiff,Nat.reduceLT,Nat.reduceLeDiff,Nat.reduceAdd,Nat.reduceMul,Nat.reduceSub,Int.reduceToNat,Int.reduceLT,Int.reduceLE,Int.reduceEq,IntWalk.toNatUp,IntWalk.iteOmega,IntWalk.i64_in,V.flat,V.one, *,zzz];exact rfl)):p:=h
theorem yX35 {p:Prop} (h:p:=by(simp (disch:=omega) only[go_sem,dopV,yV0,↓reduceIte,Nat.reduceEqDiff,Nat.reduceLT,Nat.reduceLeDiff,Nat.reduceAdd,Nat.reduceMul,Nat.reduceSub,Int.reduceToNat,Int.reduceLT,Int.reduceLE,Int.reduceEq,IntWalk.toNatUp,IntWalk.iteOmega,IntWalk.i64_in,V.flat,V.one, *,zzx,yac];exact rfl)):p:=h
theorem yX36 {p:Prop} (h:p:=by(simp (disch:=omega) only[go_sem,dopV,yV0,↓reduceIte,Nat.reduceEqDiff,Nat.reduceLT,Nat.reduceLeDiff,Nat.reduceAdd,Nat.reduceMul,Nat.reduceSub,Int.reduceToNat,Int.reduceLT,Int.reduceLE,Int.reduceEq,IntWalk.toNatUp,IntWalk.iteOmega,IntWalk.i64_in,V.flat,V.one, *,zzx,yac];try exact rfl)):p:=h
theorem yX37 {p:Prop} (h:p:=by(simp (disch:=omega) only[go_sem,dopV,yV0,↓reduceIte,Nat.reduceEqDiff,Nat.reduceLT,Nat.reduceLeDiff,Nat.reduceAdd,Nat.reduceMul,Nat.reduceSub,Int.reduceToNat,Int.reduceLT,Int.reduceLE,Int.reduceEq,IntWalk.toNatUp,IntWalk.iteOmega,IntWalk.i64_in,V.flat,V.one, *,zzz];try exact rfl)):p:=h
theorem ztb (l:List Int) (o:Bool):PC Tryz.prog 3 [ints l,Bo o] (Bo true):=by
 refine DC.of_run Tryz.func3 rfl Tryz.ntmps3 Tryz.results3 (by simp) (fun _ _=>?_);simp only[zag,zaj,go_sem,Nat.zero_add,Nat.reduceAdd]
 repeat' (first|refine yJ ?_|fail)
 refine yak inferInstance (ybg l) yR yH (fun u S' hu=>?_)
 obtain⟨bs,x0,s,fs,h,hd,w,rfl,rfl,hs,hM,hH,hw⟩:=hu
 clear hH hw
 have hMB:=Box.mk (And.intro hs hM)
 clear hs hM
 repeat' (first|refine yJ ?_|fail)
 refine zbd yR yU yU (fun c1 g1=>?_)
 have a1: ¬c1=bs:=fun e=>by subst e;simp[zae]at g1
 have a1': ¬bs=c1:=fun e=>a1 e.symm
 clear g1
 refine zbu (S':= [(c1,Ob.cells zdo 38),(bs,srcO x0)]) (fun d o e=>e) ?_
 skip
 refine zbd yR yU yU (fun c2 g2=>?_)
 have g2:=zfm g2
 simp only[List.map_cons,List.map_nil,List.mem_cons,List.not_mem_nil,or_false,not_or]at g2
 obtain⟨a2,a3⟩:=g2
 have a2': ¬c1=c2:=fun e=>a2 e.symm
 have a3': ¬bs=c2:=fun e=>a3 e.symm
 refine zbu (S':= [(c2,Ob.cells [.v (.slice none 0 0), .v (.slice none 0 0)] 41),(c1,Ob.cells zdo 38),(bs,srcO x0)]) (fun d o e=>e) ?_
 skip
 refine zbd yR yU yU (fun c3 g3=>?_)
 have g3:=zfm g3
 simp only[List.map_cons,List.map_nil,List.mem_cons,List.not_mem_nil,or_false,not_or]at g3
 obtain⟨a4,a5,a6⟩:=g3
 have a4': ¬c2=c3:=fun e=>a4 e.symm
 have a5': ¬c1=c3:=fun e=>a5 e.symm
 have a6': ¬bs=c3:=fun e=>a6 e.symm
 refine zbu (S':= [(c3,Ob.cells [I 0,Bo false,I 0,I 0, .v (.slice none 0 0),I 0] 43),(c2,Ob.cells [.v (.slice none 0 0), .v (.slice none 0 0)] 41),(c1,Ob.cells zdo 38),(bs,srcO x0)]) (fun d o e=>e) ?_
 repeat' (first|refine yJ ?_|fail)
 refine DS.store (b:=c1) (off:=0) (m:=46) (cl:=zdo) (T':=38) yR yH yG yU (by simp only[zaa,a2,a4,a5,↓reduceIte]) yR ⟨by rfl,by decide⟩ ?_
 rw[zfj _ _ yR]
 simp only[setS,a2,a5,↓reduceIte,zgv]
 refine zht (t:=6) (b:=c1) (l:=h.cells) yH (by simp only[zaa,a2,a4,a5,↓reduceIte];rfl) ?_
 rw[show h.cells.map V.copy=h.cells from rfl]
 simp only[zab,zac,a1,a1',a2,a2',a3,a3',a4,a4',a5,a5',a6,a6',↓reduceIte]
 repeat' (first|refine yJ ?_|(refine DS.store yR yE yE yE yE yU yQ ?_;simp only[yS1];try simp only[yS2,Nat.reduceEqDiff,↓reduceIte])|fail)
 simp only[setS,a1,a1',a2,a2',a3,a3',a4,a4',a5,a5',a6,a6',↓reduceIte]
 refine zbu (S':= [(bs,srcO x0)]) (fun d o e=>?_) ?_
 ·simp only[zaa,zah]at e ⊢
  split at e
  ·rename_i hq;subst hq;simp only[a3,a6,↓reduceIte];exact e
  ·cases e
 clear a1 a1' a2 a2' a3 a3' a4 a4' a5 a5' a6 a6' g2 g3
 have hn:3≤h.set.players∧h.set.players≤4:=by rw[hMB.out.2.set];exact(zcb hMB.out.1).players
 have hmany:=hMB.out.2.many
 refine zkh inferInstance (ybu bs x0 h (by omega)) yR yH (by simp only[zaa,↓reduceIte]) (fun u x1 hu=>?_)
 obtain⟨hs,rfl,h0,hlen⟩:=hu
 simp only[zab,zac,↓reduceIte]
 refine yhn (t:=31) yR ?_
 have c1:=zuu h hs o (by omega)
 rw[ycg hMB.out.2.ok (by omega) h0]at c1
 have hmost:=yjd (h:=h) (o:=o) (hs:=hs) (by omega) (by omega) h0
 have hmine:=yje (h:=h) (o:=o) (hs:=hs) (by omega) (by omega) h0
 generalize (bH h hs o).2.map natI=cnt at *
 generalize (bH h hs o).1=val at *
 dsimp only at c1
 obtain⟨P2,hP2⟩: ∃P2,2 ^ hs.length=P2:=⟨_,rfl⟩
 have hP64:P2≤64:=by
  have h6:=Nat.pow_le_pow_right (show 0<2 by decide) (show hs.length≤6 by omega)
  rw[hP2]at h6
  exact h6
 rw[hP2]at hmost hmine
 have HM:=Box.mk (And.intro hmost (And.intro hmine h0))
 clear hmost hmine h0
 have hsl:hs.length≤6:=by omega
 have HW0:Box (∀j,j<h.patterns.length→0≤zee (h.pat j) o∧zee (h.pat j) o≤1000):=Box.mk fun j hj=>by
  have ok:=zvw (zld (zll hMB.out.2.ok).pats j (Nat.zero_le _) (by omega))
  unfold zee
  split
  ·exact ok.open_
  ·exact ok.closed
 repeat' (first|refine yJT ?_|refine zap inferInstance (c1) yR yT ?_|fail)
 have b0:zid h o hs 0=0:=rfl
 have b1:zko h o hs cnt 0=0:=rfl
 refine zbp [1,6,9,10,11] yN (fun(y:Nat)=> [(13,I (zid h o hs y)),(14,I (zko h o hs cnt y)),(15,I y)]) (fun(y:Nat)=>y≤P2) (fun(y:Nat)=>P2-y) 0 yS (Nat.zero_le _) (fun y B hI hB=>?_);try dsimp only at hI hB;simp only[zad,zaf]
 have HB:=Box.mk hB
 clear hB c1
 by_cases hy:(y:Int)<(P2:Int)
 ·have hy64:y<64:=by omega
  repeat' (first|with_reducible refine zak yU yU yX34 ?_|refine yJ ?_|(with_reducible (refine zax yX34 ?_;refine zay ?_))|fail)
  refine zbp [1,6,9,10,11,13,14,15] yN (fun(x:Nat×Bool×Int×Int)=> [(16,I x.2.2.1),(17,Bo x.2.1),(18,I x.2.2.2),(19,I x.1)]) (fun(x:Nat×Bool×Int×Int)=>(x.1≤hs.length∧(-1000000*(x.1:Int)≤x.2.2.1∧x.2.2.1≤1000000*(x.1:Int))∧(-100≤x.2.2.2∧x.2.2.2≤x.1))∧x.2.1=zhc h o hs y x.1∧(x.2.1=true→x.2.2.1=sumB h o hs y x.1∧x.2.2.2=zkn cnt hs y x.1)) (fun(x:Nat×Bool×Int×Int)=>hs.length-x.1) (0,true,0,0) yS ⟨⟨Nat.zero_le _,by dsimp only;omega,by dsimp only;omega⟩,rfl,fun _=>⟨rfl,rfl⟩⟩ (fun x B hI hB=>?_);try dsimp only at hI hB;simp only[zad,zaf]
  obtain⟨i,fi,su,sa⟩:=x
  dsimp only at hI hB ⊢
  obtain⟨⟨i1,i2,i3⟩,i4⟩:=hI
  have HC:=Box.mk (And.intro hB i4)
  clear hB i4
  by_cases hi:(i:Int)<(hs.length:Int)
  ·have hi':i<hs.length:=by omega
   cases fi with
   | false =>
    have hF:zhc h o hs y hs.length=false:=zqv HC.out.2.1.symm _ (by omega)
    have e13:zid h o hs (y+1)=zid h o hs y:=by rw[zid,if_neg (by rw[hF];simp)]
    have e14:zko h o hs cnt (y+1)=zko h o hs cnt y:=by rw[zko,if_neg (by rw[hF];simp)]
    clear hF
    repeat' (first|refine yJT ?_|(with_reducible (refine zbi yU yE ?_;first|refine GG.run ?_|refine zcl ?_))|fail)
    exact DS.back (HB.out (y+1) _ _ (by omega) (by omega) yS yS (fun d o e=>by exact e))
   | true =>
    have hsb:y >>> i<64:=Nat.lt_of_le_of_lt (Nat.shiftRight_le y i) hy64
    have hbm:=ygs (s:=y) (i:=i)
    obtain⟨q,hq⟩: ∃q,(y >>> i) % 2=q:=⟨_,rfl⟩
    rw[hq]at hbm
    have hq2:q<2:=by omega
    by_cases hq0:q=0
    ·subst hq0
     have hbf:y.testBit i=false:=by rw[hbm];rfl
     have f1:zhc h o hs y (i+1)=true:=by rw[zhc,←HC.out.2.1,hbf];rfl
     have f2:sumB h o hs y (i+1)=su:=by rw[sumB,if_neg (by rw[hbf];decide),(HC.out.2.2 rfl).1]
     have f3:zkn cnt hs y (i+1)=sa:=by rw[zkn,if_neg (by rw[hbf];decide),(HC.out.2.2 rfl).2]
     have HF:=Box.mk (And.intro f1 (And.intro f2 f3))
     clear hbm hbf f1 f2 f3
     repeat' (first|with_reducible refine zak yU yU yX35 ?_|refine yJ ?_|(with_reducible first|(refine zax yX35 ?_;refine zay ?_)|(refine zbi yU yX35 ?_;refine GG.run ?_))|fail)
     exact DS.back (HC.out.1 (i+1,true,su,sa) _ _ (by dsimp only;omega) ⟨⟨by dsimp only;omega,by dsimp only;omega,by dsimp only;omega⟩,HF.out.1.symm,fun _=>⟨HF.out.2.1.symm,HF.out.2.2.symm⟩⟩ yS yS (fun d o e=>by exact e))
    ·obtain rfl:q=1:=by omega
     have hbt:y.testBit i=true:=by rw[hbm];rfl
     clear hbm
     have hpm:=zia HM.out.2.2 (List.getElem_mem hi')
     obtain⟨pk,hpk⟩: ∃j:Nat,hs[i].pattern=(j:Int):=⟨hs[i].pattern.toNat,by omega⟩
     have hpkB:pkB hs i=pk:=by rw[pkB,zij hi',Hold.pn,hpk,Int.toNat_natCast]
     have hpl:pk<h.patterns.length:=by omega
     have cw:=yct h.patterns[pk] o
     have hwo:zee h.patterns[pk] o=woB h o hs i:=by rw[woB,hpkB,zof hpl]
     have hwb:0≤woB h o hs i∧woB h o hs i≤1000:=by
      have:=HW0.out pk hpl
      rw[zof hpl]at this
      rw[←hwo];exact this
     rw[hwo]at cw
     have hti:(hs.getD i zok).times=hs[i].times:=by rw[zij hi']
     have hpi:(hs.getD i zok).pattern=hs[i].pattern:=by rw[zij hi']
     have hm1:0≤woB h o hs i*hs[i].times:=Int.mul_nonneg hwb.1 (by omega)
     have hm2:woB h o hs i*hs[i].times≤1000*1000:=Int.mul_le_mul hwb.2 (by omega) (by omega) (by omega)
     have fs:sumB h o hs y (i+1)=su+woB h o hs i*hs[i].times:=by rw[sumB,if_pos hbt,(HC.out.2.2 rfl).1,hti]
     have fa:zkn cnt hs y (i+1)=if hs[i].pattern∈cnt then sa+1 else -100:=by rw[zkn,if_pos hbt,hpi,(HC.out.2.2 rfl).2]
     have ff:zhc h o hs y (i+1)=(decide (0<woB h o hs i)&&clsB h hs y i i):=by rw[zhc,←HC.out.2.1,hbt,Bool.not_true,Bool.false_or,Bool.true_and]
     have ci:=zlj cnt pk
     rw[hpk]at fa
     have HF:=Box.mk (And.intro fs (And.intro fa (And.intro ff (And.intro hwo (And.intro hpm hpkB)))))
     clear hbt fs fa ff hwo hti hpi
     generalize woB h o hs i=wo at *
     obtain⟨pr,hpr⟩: ∃pr,wo*hs[i].times=pr:=⟨_,rfl⟩
     have h1c:((1:Nat):Int)=1:=rfl
     repeat' (first|with_reducible refine zak yU yU yX35 ?_|refine yJ ?_|(with_reducible first|(refine zax yX35 ?_;first|refine zay ?_|refine zbl ?_)|(refine zbi yU yX35 ?_;refine GG.run ?_))|refine zap inferInstance (cw) yR yX36 ?_|refine zbe (id:=15) [0,1,2,3,4,5,6,7,8,9] 10 yKR mixed yP1 yP2 ?_|(with_reducible first|refine zau yU yU yU yX35 ?_|refine zbg ?_)|fail)
     refine zbp [1,6,9,10,11,13,14,15,16,18,19,20] yN (fun(x:Nat×Bool)=> [(17,Bo x.2),(21,I x.1)]) (fun(x:Nat×Bool)=>x.1≤i∧x.2=(decide (0<wo)&&clsB h hs y i x.1)) (fun(x:Nat×Bool)=>i-x.1) (0,decide (0<wo)) yS ⟨Nat.zero_le _,by rw[clsB,Bool.and_true]⟩ (fun x B hI hB=>?_);try dsimp only at hI hB;simp only[zad,zaf]
     obtain⟨k,fk⟩:=x
     dsimp only at hI hB ⊢
     obtain⟨k1,k2⟩:=hI
     have HD:=Box.mk (And.intro hB k2)
     clear hB k2 hq hq0
     by_cases hx:(k:Int)<(i:Int)∧fk=true
     ·obtain⟨hk,rfl⟩:=hx
      have hkl:k<hs.length:=by omega
      have hks:y >>> k<64:=Nat.lt_of_le_of_lt (Nat.shiftRight_le y k) hy64
      have hbm:=ygs (s:=y) (i:=k)
      obtain⟨q,hq⟩: ∃q,(y >>> k) % 2=q:=⟨_,rfl⟩
      rw[hq]at hbm
      have hq2:q<2:=by omega
      have hpk2:=zia HM.out.2.2 (List.getElem_mem hkl)
      obtain⟨pj,hpj⟩: ∃j:Nat,hs[k].pattern=(j:Int):=⟨hs[k].pattern.toNat,by omega⟩
      have hpjB:pkB hs k=pj:=by rw[pkB,zij hkl,Hold.pn,hpj,Int.toNat_natCast]
      have hnx:(decide (0<wo)&&clsB h hs y i (k+1))=(!decide (q=1) || !zdp h pk pj):=by rw[clsB,←Bool.and_assoc,←HD.out.2,Bool.true_and,hbm,HF.out.2.2.2.2.2,hpjB]
      have cc:=ygg h pk pj hpl (by omega)
      have HN:=Box.mk hnx
      clear hbm hnx hpjB
      generalize zdp h pk pj=cl at *
      by_cases hq0:q=0
      ·subst hq0
       repeat' (first|with_reducible refine zak yU yU yX35 ?_|refine yJ ?_|(with_reducible first|(refine zax yX35 ?_;refine zay ?_)|(refine zbi yU yX35 ?_;first|refine GG.run ?_|refine zcv ?_))|refine zbe (id:=20) [0,1,2,3,4,5,6,7,8,9,10,11,12,13,14,15,16] 17 yKR mixed yP1 yP2 ?_|(with_reducible first|refine zau yU yU yU yX35 ?_|(refine zim yU yX35 ?_;refine yal ?_)|refine zbg ?_)|fail)
       exact DS.back (HD.out.1 (k+1,true) _ _ (by dsimp only;omega) ⟨by dsimp only;omega,HN.out.symm⟩ yS yS (fun d o e=>by exact e))
      ·obtain rfl:q=1:=by omega
       cases cl with
       | false =>
        repeat' (first|with_reducible refine zak yU yU yX35 ?_|refine yJ ?_|(with_reducible first|(refine zax yX35 ?_;refine zay ?_)|(refine zbi yU yX35 ?_;refine GG.run ?_))|refine zap inferInstance (cc) yR yX36 ?_|refine zbe (id:=20) [0,1,2,3,4,5,6,7,8,9,10,11,12,13,14,15,16] 17 yKR mixed yP1 yP2 ?_|(with_reducible first|refine zau yU yU yU yX35 ?_|(refine zim yU yX35 ?_;refine DGG.run ?_)|refine zbg ?_)|fail)
        exact DS.back (HD.out.1 (k+1,true) _ _ (by dsimp only;omega) ⟨by dsimp only;omega,HN.out.symm⟩ yS yS (fun d o e=>by exact e))
       | true =>
        repeat' (first|with_reducible refine zak yU yU yX35 ?_|refine yJ ?_|(with_reducible first|(refine zax yX35 ?_;refine zay ?_)|(refine zbi yU yX35 ?_;refine GG.run ?_))|refine zap inferInstance (cc) yR yX36 ?_|refine zbe (id:=20) [0,1,2,3,4,5,6,7,8,9,10,11,12,13,14,15,16] 17 yKR mixed yP1 yP2 ?_|(with_reducible first|refine zau yU yU yU yX35 ?_|(refine zim yU yX35 ?_;refine DGG.run ?_)|refine zbg ?_)|fail)
        exact DS.back (HD.out.1 (k+1,false) _ _ (by dsimp only;omega) ⟨by dsimp only;omega,HN.out.symm⟩ yS yS (fun d o e=>by exact e))
     ·have hfk:fk=zhc h o hs y (i+1):=by
       rw[HF.out.2.2.1,HD.out.2]
       by_cases hki:(k:Int)<(i:Int)
       ·have hff:fk=false:=by
         cases fk with
         | false=>rfl
         | true=>exact absurd ⟨hki,rfl⟩ hx
        have hcc:=HD.out.2
        rw[hff]at hcc
        cases hw0:decide (0<wo)with
        | false=>rfl
        | true =>
         rw[hw0,Bool.true_and]at hcc
         rw[Bool.true_and,Bool.true_and,←hcc,zut hcc.symm i (by omega)]
       ·obtain rfl:k=i:=by omega
        rfl
      have hx2:(¬(k:Int)<(i:Int))∨fk=false:=by
       by_cases hki:(k:Int)<(i:Int)
       ·refine .inr ?_
        cases fk with
        | false=>rfl
        | true=>exact absurd ⟨hki,rfl⟩ hx
       ·exact .inl hki
      have HFK:=Box.mk hfk
      clear hfk hx HD
      by_cases hmem:(pk:Int)∈cnt
      ·rw[decide_eq_true hmem]at ci
       have fa:=HF.out.2.1
       rw[if_pos hmem]at fa
       have HA:=Box.mk fa
       clear fa hmem
       rcases hx2 with hx2|rfl
       all_goals
        repeat' (first|refine yJT ?_|(with_reducible (refine zbi yU yE ?_;first|refine zfb (fun _=>?_) (fun _=>?_)|refine zcl ?_))|refine zap inferInstance (ci) yR yT ?_|fail)
        all_goals exact DS.back (HC.out.1 (i+1,_,su+pr,sa+1) _ _ (by dsimp only;omega) ⟨⟨by dsimp only;omega,by dsimp only;omega,by dsimp only;omega⟩,HFK.out,fun _=>⟨by dsimp only;rw[HF.out.1,hpr],HA.out.symm⟩⟩ yS yS (fun d o e=>by exact e))
      ·rw[decide_eq_false hmem]at ci
       have fa:=HF.out.2.1
       rw[if_neg hmem]at fa
       have HA:=Box.mk fa
       clear fa hmem
       rcases hx2 with hx2|rfl
       all_goals
        repeat' (first|refine yJT ?_|(with_reducible (refine zbi yU yE ?_;first|refine zfb (fun _=>?_) (fun _=>?_)|refine zcl ?_))|refine zap inferInstance (ci) yR yT ?_|fail)
        all_goals exact DS.back (HC.out.1 (i+1,_,su+pr,-100) _ _ (by dsimp only;omega) ⟨⟨by dsimp only;omega,by dsimp only;omega,by dsimp only;omega⟩,HFK.out,fun _=>⟨by dsimp only;rw[HF.out.1,hpr],HA.out.symm⟩⟩ yS yS (fun d o e=>by exact e))
  ·obtain rfl:i=hs.length:=by omega
   have hfe:=HC.out.2.1
   have hse:=HC.out.2.2
   cases fi with
   | false =>
    have e13:zid h o hs (y+1)=zid h o hs y:=by rw[zid,if_neg (by rw[←hfe];simp)]
    have e14:zko h o hs cnt (y+1)=zko h o hs cnt y:=by rw[zko,if_neg (by rw[←hfe];simp)]
    clear HC hfe hse
    repeat' (first|refine yJT ?_|fail)
    exact DS.back (HB.out (y+1) _ _ (by omega) (by omega) yS yS (fun d o e=>by exact e))
   | true =>
    obtain⟨s1,s2⟩:=hse rfl
    have e13:zid h o hs (y+1)=if su > zid h o hs y then su else zid h o hs y:=by
     rw[zid,←hfe,←s1];simp
    have e14:zko h o hs cnt (y+1)=if sa=(cnt.length:Int)then su else zko h o hs cnt y:=by
     rw[zko,←hfe,←s1,←s2];simp
    clear HC hfe hse s1 s2
    by_cases h1:su > zid h o hs y
    ·rw[if_pos h1]at e13
     have h1':(su > zid h o hs y)=True:=eq_true h1
     clear h1
     by_cases h2:sa=(cnt.length:Int)
     ·rw[if_pos h2]at e14
      have h2':(sa=(cnt.length:Int))=True:=eq_true h2
      clear h2
      repeat' (first|refine yJT ?_|(with_reducible (refine zbi yU yE ?_;first|refine GG.run ?_|refine zcl ?_))|fail)
      exact DS.back (HB.out (y+1) _ _ (by omega) (by omega) yS yS (fun d o e=>by exact e))
     ·rw[if_neg h2]at e14
      repeat' (first|refine yJT ?_|(with_reducible (refine zbi yU yE ?_;first|refine GG.run ?_|refine zcl ?_))|fail)
      exact DS.back (HB.out (y+1) _ _ (by omega) (by omega) yS yS (fun d o e=>by exact e))
    ·rw[if_neg h1]at e13
     by_cases h2:sa=(cnt.length:Int)
     ·rw[if_pos h2]at e14
      have h2':(sa=(cnt.length:Int))=True:=eq_true h2
      clear h2
      repeat' (first|refine yJT ?_|(with_reducible (refine zbi yU yE ?_;first|refine GG.run ?_|refine zcl ?_))|fail)
      exact DS.back (HB.out (y+1) _ _ (by omega) (by omega) yS yS (fun d o e=>by exact e))
     ·rw[if_neg h2]at e14
      repeat' (first|refine yJT ?_|(with_reducible (refine zbi yU yE ?_;first|refine GG.run ?_|refine zcl ?_))|fail)
      exact DS.back (HB.out (y+1) _ _ (by omega) (by omega) yS yS (fun d o e=>by exact e))
 ·obtain rfl:y=P2:=by omega
  have r1:=HM.out.1
  have r2:=HM.out.2.1
  clear HB HW0 b0 b1
  repeat' (first|with_reducible refine zak yU yU yX34 ?_|refine yJ ?_|(with_reducible first|(refine zax yX34 ?_;refine zbl ?_)|(refine zbi yU yX34 ?_;refine GG.run ?_))|refine zap inferInstance (ygv) yR yX37 ?_|refine zan [] yX34 trivial ?_|fail)
  all_goals first|rfl|(exfalso;omega)
end Go.XL
namespace Go.XL
open Go.Proofs Go.ChangeShapes Go.WideShapes Go.ChangeAt Go.RowKit
def hvW (W:World):VH:=fun b=>W.heap[b]?
def yqx (W:World) (k:Kn (hvW W)):Bs:=⟨fun b=>b<W.heap.size,W.heap,hvW W,k⟩
theorem stW (W:World) (k:Kn (hvW W)):St (yqx W k) (hvW W) (fun _=>none) [] [] [] W.heap where
 pre:=fun b o e=>⟨o,e,leO.refl o⟩
 slot:=fun t v e=>by cases e
 obj:=fun b o e=>by cases e
 held:=fun g x e=>by cases e
 base:=⟨fun b h=>h,Nat.le_refl _,fun b _=>rfl⟩
 vbase:=⟨PreV.refl _,fun _ _=>rfl⟩
structure KeptW (W W':World):Prop where
 os:W'.os=W.os
 output:W'.output=W.output
 size:W.heap.size≤W'.heap.size
 old: ∀b,b<W.heap.size→W'.heap[b]?=W.heap[b]?
theorem PC.door {P:Program} {f:FuncId} {vs:List V} {xs:List Value} (h:PC P f vs (.v (.bool true))) (W:World) (hx:RlL (hvW W) vs xs) (k:Kn (hvW W):=by exact kn_all _) :
  Calls P f xs.toArray W fun e w'=>e = .returned (.bool true)∧KeptW W w':=by
 refine(h (hvW W) (yqx W k) (hvW W) (fun _=>none) W.heap xs (PreV.refl _) hx (stW W k) W rfl).mono fun e w'=>?_
 rintro⟨y,rfl,⟨s1,s2,s3⟩,v,S',hv',hold',-,st,rfl⟩
 obtain⟨z,h1,h2,-⟩:=st.slot 0 (.v (.bool true)) rfl
 simp only[V.Rl]at h2
 subst h2
 have h3:look [(0,y)] 0=some y:=by simp[look]
 rw[h3]at h1
 cases h1
 exact⟨rfl,s1,s3,st.base.2.1,st.base.2.2⟩
theorem KeptW.keptBut {W W':World} (k:KeptW W W') (may:MemPlace→Prop):W.keptBut W' may:=by
 refine⟨k.os,k.output,fun i hi=>?_⟩
 rw[k.old i hi]
 generalize W.heap[i]?=o
 cases o with
 | none=>trivial
 | some o=>cases o <;> simp
theorem KeptW.cell {W W':World} (k:KeptW W W') {a:Addr} (h:a.block<W.heap.size):W'.cell? a=W.cell? a:=by
 unfold World.cell?
 rw[k.old _ h]
theorem KeptW.sameAt {W W':World} (k:KeptW W W') {p:MemPlace} (h:p.block<W.heap.size):W.sameAt W' p:=by
 cases p with
 | cell b off=>exact k.cell h
 | map b=>exact k.old _ h
section
variable {H:Type} {enc:TypeId×Value→H} {P:Program}
theorem zkw (hl:laidOutB P=true) {W W':World} {sp:Nat→Bool}: ∀{ts:List TypeId} {vs:List Value} {ds:List (DataW H)} {ps:List MemPlace},(∀t∈ts,P.readableRec t=true∧t<P.types.size) →
  DataW.TrodAll enc P W 0 (fun _=>true) true ts vs ds ps→(∀p∈ps,W.sameAt W' p)→(∀p∈ps,sp p.block=true)→DataW.TrodAll enc P W' 0 sp true ts vs ds ps
 | [],vs,ds,ps,_,h,_,_=>by
  obtain⟨rfl,rfl,rfl⟩:=trodAll_nil h
  rfl
 | t::ts,vs,ds,ps,ht,h,h1,h2=>by
  obtain⟨v,vs',d,ds',p,q,rfl,rfl,rfl,h3,h4⟩:=trodAll_cons h
  obtain⟨r1,r2⟩:=ht t (List.mem_cons_self ..)
  exact⟨p,q,WideElems.Trod_stays hl r1 r2 h3 (fun x hx=>h1 x (List.mem_append_left _ hx)) (fun x hx=>h2 x (List.mem_append_left _ hx)),
   zkw hl (fun t h=>ht t (List.mem_cons_of_mem _ h)) h4 (fun x hx=>h1 x (List.mem_append_right _ hx)) (fun x hx=>h2 x (List.mem_append_right _ hx)),rfl⟩
theorem yiq {f:Func} {s:ChangeSpec} {apart fresh handsOn:Bool} {W W':World} {args:Array Value} {ds gs:List (DataW H)} {before:List MemPlace} {tb:TypeId}
  (hW:DataW.Whole enc P f.params.toList s.vars apart W args.toList ds gs before) (hv:s.vars= []) (hs:s.fn H ds={results:= [.lit (.bool true)],args:=ds})
  (hrt:f.resultTypes= #[tb]) (hb:P.underlying tb=some .bool) (hl:laidOutB P=true) (hr: ∀t∈f.params.toList,P.readableRec t=true∧t<P.types.size) (k:KeptW W W') :
  s.post enc P f apart fresh handsOn false W args (.bool true) W':=by
 have hlt:=fun p hp=>hW.lt (p:=p) hp
 have hW':=hW
 obtain⟨p,q,hA,hV,rfl,-,-⟩:=hW
 rw[hv]at hV
 obtain⟨rfl,rfl⟩:=trodVars_none hV
 refine⟨ds,[],p++ [],[],p,[],hW',?_,?_,?_,k.keptBut _,fun h=>by cases h⟩
 ·rw[List.append_nil,hs,hrt]
  exact trodAll_mk1 (shut_bool hb _)
 ·rw[List.append_nil,hs]
  exact zkw hl hr hA (fun x hx=>k.sameAt (hlt x (by simpa using hx))) (fun x hx=>by simpa using hlt x (by simpa using hx))
 ·rw[List.append_nil,hs,hv]
  rfl
def yhc (P:Program) (W:World) (H:Type) (enc:TypeId×Value→H) (t:TypeId) {α:Type} (f:α→List V) (G:α→Prop):Prop :=
 ∀fuel cs x,DataW.trod enc P W 0 (fun _=>true) true fuel t cs=some x→ ∃a,RlL (hvW W) (f a) cs∧(∀u∈cs,u.oneCell'=true)∧G a
variable {W:World} {t e:TypeId}
theorem ydv {k:IntKind} (ht:P.underlying t=some (.int k)):yhc P W H enc t (fun n:Int=> [.v (.int k n)]) (fun n=>(Lit.int k n).wf=true):=by
 intro fuel cs x h
 obtain⟨n,rfl,-,hw⟩:=DataW.trod_int ht h
 exact⟨n,by simp[RlL,V.Rl],by simp[Value.oneCell'],hw⟩
theorem RlL.len {hv:VH}: ∀{vs:List V} {cs:List Value},RlL hv vs cs→vs.length=cs.length
 | [],_,h=>by simp only[RlL]at h;subst h;rfl
 | v::vs,cs,h=>by
  simp only[RlL]at h
  obtain⟨z,zs,rfl,-,h⟩:=h
  simp[RlL.len h]
theorem yon {n:Int} (h:(Lit.int .i64 n).wf=true) : -9223372036854775808≤n∧n≤9223372036854775807:=by
 have h1:IntKind.min .i64 = -9223372036854775808:=by decide
 have h2:IntKind.max .i64=9223372036854775807:=by decide
 simp only[Lit.wf,h1,h2,Bool.and_eq_true,decide_eq_true_eq]at h
 exact h
theorem RlL.one {hv:VH} {v:V} {y:Value} (h:v.Rl hv y):RlL hv [v] [y]:=by
 simp only[RlL];exact⟨y,[],rfl,h,rfl⟩
theorem RlL.cons_one {hv:VH} {v:V} {y:Value} {vs:List V} {ys:List Value} (h:RlL hv [v] [y]) (k:RlL hv vs ys):RlL hv (v::vs) (y::ys):=by
 simp only[RlL]at h ⊢
 obtain⟨z,zs,e,h1,h2⟩:=h
 cases e
 exact⟨_,_,rfl,h1,k⟩
theorem ymr {a:Addr} {m:Nat}: ∀{vs:List V} {cs:List Value} {i:Nat},RlL (hvW W) vs cs→(∀u∈cs,u.oneCell'=true)→(∀j,j<cs.length→W.cell? (a.add (i+j))=cs[j]?)→RlC (hvW W) (some a) i vs
 | [],_,_,_,_,_=>by simp only[RlC]
 | v::vs,cs,i,h,h1,h2=>by
  simp only[RlL]at h
  obtain⟨z,zs,rfl,h3,h4⟩:=h
  simp only[RlC]
  refine⟨⟨z,?_,h3,h1 z (List.mem_cons_self ..)⟩,ymr (m:=m) h4 (fun u hu=>h1 u (List.mem_cons_of_mem _ hu)) fun j hj=>?_⟩
  ·have:=h2 0 (by simp)
   rw[Nat.add_zero]at this
   exact this
  ·have:=h2 (j+1) (by simpa using hj)
   rw[show i+1+j=i+(j+1) by omega,this]
   rfl
theorem ymq {a:Addr} {sz:Nat}: ∀{l:List (List V)} {i:Nat},(∀(j:Nat) (h:j<l.length),l[j].length=sz∧RlC (hvW W) (some a) (i+j*sz) l[j])→RlE (hvW W) (some a) i l
 | [],_,_=>by simp only[RlE]
 | c::l,i,h=>by
  simp only[RlE]
  have h0:=h 0 (by simp)
  simp only[Nat.zero_mul,Nat.add_zero,List.getElem_cons_zero]at h0
  refine⟨h0.2,ymq (sz:=sz) fun j hj=>?_⟩
  have h1:=h (j+1) (by simpa using hj)
  simp only[List.getElem_cons_succ]at h1
  refine⟨h1.1,?_⟩
  have e:i+c.length+j*sz=i+(j+1)*sz:=by rw[h0.1,Nat.add_mul,Nat.one_mul];omega
  rw[e]
  exact h1.2
theorem zpa {α β:Type} {R:Nat→α→Prop}: ∀(n:Nat),(∀i,i<n→ ∃a,R i a)→ ∃l:List α,l.length=n∧ ∀(i:Nat) (h:i<l.length),R i l[i]
 | 0,_=>⟨[],rfl,fun i h=>by cases h⟩
 | n+1,h=>by
  obtain⟨l,h1,h2⟩:=zpa (β:=β) n fun i hi=>h i (by omega)
  obtain⟨a,ha⟩:=h n (by omega)
  refine⟨l++ [a],by simp[h1],fun i hi=>?_⟩
  rw[List.length_append,List.length_singleton]at hi
  by_cases h3:i<l.length
  ·rw[List.getElem_append_left h3];exact h2 i h3
  ·obtain rfl:i=l.length:=by omega
   simp only[List.getElem_concat_length]
   rw[h1];exact ha
theorem zvz {α:Type} {f:α→List V} {G:α→Prop} {sz:Nat} (ht:P.underlying t=some (.slice e)) (hc:P.cellsOf e=sz) (h:yhc P W H enc e f G) :
  yhc P W H enc t (fun l:List α=> [.lst (l.map f)]) (fun l=> ∀a∈l,G a):=by
 intro fuel cs x hx
 rcases DataW.trod_slice ht hx with⟨rfl,-⟩|⟨a,len,cap,elems,rest,n,rfl,rfl,-,-,h1,h2,h3,h4,-,-⟩
 ·refine⟨[],?_,by simp[Value.oneCell'],fun a h=>by cases h⟩
  simp only[RlL,V.Rl,List.map_nil]
  exact⟨_,[],rfl,⟨none,0,0,rfl,Nat.le_refl _,Nat.zero_le _,(fun c h=>by cases h),by simp only[RlE]⟩,rfl⟩
 ·obtain⟨l,hl,hk⟩:=zpa (β:=Unit) (R:=fun i y=> ∃cs,W.cells? 0 (a.add (i*sz)) sz=some cs∧RlL (hvW W) (f y) cs∧(∀u∈cs,u.oneCell'=true)∧G y) len (fun i hi=>by
   have h5:=h4 i hi
   rw[List.getElem?_eq_getElem (by omega),Option.bind_eq_some_iff,hc]at h5
   obtain⟨cs,h6,h7⟩:=h5
   obtain⟨y,h8,h9,h10⟩:=h _ _ _ h7
   exact⟨y,cs,h6,h8,h9,h10⟩)
  have hlen: ∀y∈l,(f y).length=sz:=fun y hy=>by
   obtain⟨i,hi,rfl⟩:=List.mem_iff_getElem.1 hy
   obtain⟨cs,k1,k2,-,-⟩:=hk i hi
   rw[k2.len,(World.cells?_some k1).2.1]
  refine⟨l,?_,by simp[Value.oneCell'],fun y hy=>?_⟩
  ·simp only[RlL,V.Rl]
   refine⟨_,[],rfl,⟨some a,cap,sz,by rw[List.length_map,hl],by rw[List.length_map,hl];exact h1,h2,fun c hc=>?_,ymq (sz:=sz) fun j hj=>?_⟩,rfl⟩
   ·obtain⟨y,hy,rfl⟩:=List.mem_map.1 hc
    exact hlen y hy
   ·rw[List.length_map]at hj
    rw[List.getElem_map]
    obtain⟨cs,k1,k2,k3,k4⟩:=hk j hj
    obtain⟨-,k5,k6⟩:=World.cells?_some k1
    refine⟨hlen _ (List.getElem_mem hj),ymr (m:=sz) k2 k3 fun i hi=>?_⟩
    rw[Nat.zero_add,←ygz]
    exact k6 i (by omega)
  ·obtain⟨i,hi,rfl⟩:=List.mem_iff_getElem.1 hy
   obtain⟨cs,-,-,-,k4⟩:=hk i hi
   exact k4
end
end Go.XL
namespace Go.XL
open Go.Proofs Go.ChangeShapes Go.WideShapes Go.ChangeAt Go.RowKit
set_option maxRecDepth 100000
abbrev N64 (n:Int):Prop := -9223372036854775808≤n∧n≤9223372036854775807
section
variable {H:Type} {enc:TypeId×Value→H} {W:World}
theorem oI :yhc Tryz.prog W H enc 3 cI N64:=fun fuel cs x h=>by
 obtain⟨a,h1,h2,h3⟩:=ydv Tryz.underlying3 fuel cs x h
 exact⟨a,h1,h2,yon h3⟩
theorem oL :yhc Tryz.prog W H enc 22 (fun l=> [ints l]) (fun l=> ∀x∈l,N64 x):=zvz (sz:=1) Tryz.underlying22 yKR oI
end
end Go.XL
namespace Go.XL
open Go.Proofs Go.Proofs.YtbbhoipphnbdiaaGreatDoor Go.ChangeShapes Go.WideShapes Go.ChangeAt Go.RowKit Go.WideElems
open Go.Maps (Keyed)
theorem gModes :Tryz.prog.globalNamed "sparrow/score.modes" =some 1:=by kernel_rfl
theorem gBruijn :Tryz.prog.globalNamed "math/bits.deBruijn64tab" =some 0:=by kernel_rfl
theorem tModes :(Tryz.prog.globals[1]?).map (·.type)=some 132:=by kernel_rfl
theorem zuz (W:World) (a:Addr):zfu (hvW W) a=W.cell? a:=by
 unfold zfu hvW World.cell?
 rfl
theorem zwm {H:Type} {enc:TypeId×Value→H} {P:Program} {W:World} {n:Nat} {e:TypeId} {v:Value} {y:DataW H×List MemPlace} {ps rs:Array TypeId} {va:Bool}
  (he:P.underlying e=some (.func ps rs va)) (h:elemAt enc P W 0 (fun _=>true) true n e v=some y):DataW.trod enc P W 0 (fun _=>true) true n e [v]=some y:=by
 unfold elemAt at h
 split at h
 ·rename_i hf
  cases v <;> first|exact h|(simp[Value.formed,he]at hf)
 ·cases h
theorem zwb {H:Type} {p:Lit×DataW H}: ∀(l:List (Lit×DataW H)),p∈l.foldr DataW.insert []↔p∈l
 | []=>by simp
 | x::l=>by rw[List.foldr_cons,ChangeMaps.mem_insert_iff,zwb l,List.mem_cons]
theorem zrx {W:World} {n:Nat} {e:TypeId} {ps rs:Array TypeId} {va:Bool} {es:Array MapEntry} {clock:Nat} {names:List (List UInt8)}
  (hT:Tryz.prog.underlying 132=some (.map 3 e)) (he:Tryz.prog.underlying e=some (.func ps rs va))
  (F:Fit Tryz.prog 3 (elemAt (funcToken Tryz.prog) Tryz.prog W 0 (fun _=>true) true n e) es clock)
  (m:Int) (hm:1≤m∧m≤3) {b:UInt8} {r:List UInt8} {f0:FuncId} {L:List (Lit×DataW (List UInt8))}
  (hone:((List.range Tryz.prog.funcs.size).filter fun f=>(Tryz.prog.funcs[f]?).any (·.name.toUTF8.data.toList == b::r))= [f0])
  (hL:(es.toList.map (rg Tryz.prog 3 (elemAt (funcToken Tryz.prog) Tryz.prog W 0 (fun _=>true) true n e))).foldr DataW.insert []=L)
  (hin:(Lit.int .i64 m,DataW.held (b::r))∈L) (huniq: ∀d,(Lit.int .i64 m,d)∈L→d=DataW.held (b::r)) :
  ∀(w:World) (bk:Nat),w.heap[bk]?=some (.map es clock)→(Instr.lookup 132 (.map (some bk)) (.int .i64 m) false).run Tryz.prog w = .ok (.func (.func f0) #[] #[]) w:=by
 intro w bk hb
 have K:Keyed Tryz.prog 3:=Go.Maps.int_keyed Tryz.underlying3
 have hw:(Lit.int .i64 m).wf=true:=by
  have h1:decide (IntKind.i64.min≤m)=true:=decide_eq_true (show(-9223372036854775808:Int)≤m by omega)
  have h2:decide (m≤IntKind.i64.max)=true:=decide_eq_true (show m≤(9223372036854775807:Int) by omega)
  simp only[Lit.wf,h1,h2,Bool.and_self]
 have hkey:keyOf Tryz.prog 3 (.int .i64 m)=some (.int .i64 m):=by simp[keyOf,mapKey,Tryz.underlying3,hw]
 have hkeys: ∀x∈es.toList,∃l,keyOf Tryz.prog 3 x.key=some l:=fun x hx=>by
  obtain⟨y,hy⟩:=F.reads x hx
  exact⟨_,rd_key hy⟩
 rcases K.find w hkey es.toList hkeys with⟨_,hno⟩|⟨j,e0,hf,hj,hk⟩
 ·rw[←hL]at hin
  obtain⟨x,hx,hxe⟩:=List.mem_map.1 ((zwb _).1 hin)
  obtain⟨y,hy⟩:=F.reads x hx
  have h1:=rd_key hy
  rw[rg_of hy]at hxe
  subst hxe
  exact absurd (K.inj h1 hkey) (hno x hx)
 ·have he0:=List.mem_of_getElem? hj
  obtain⟨y,hy⟩:=F.reads e0 he0
  have h1:=rd_key hy
  rw[hk,hkey]at h1
  have hm1:rg Tryz.prog 3 (elemAt (funcToken Tryz.prog) Tryz.prog W 0 (fun _=>true) true n e) e0∈L:=by
   rw[←hL]
   exact(zwb _).2 (List.mem_map.2 ⟨e0,he0,rfl⟩)
  rw[rg_of hy]at hm1
  obtain⟨k1,d1⟩:=y
  cases h1
  obtain rfl:=huniq _ hm1
  obtain⟨z,hz,hd⟩:=rd_val hy
  have h2:=zwm he hz
  obtain⟨z1,z2⟩:=z
  simp only at hd
  subst hd
  have h3:=func_of_trod he hone h2
  simp[Instr.lookup,run_underlying hT,MapKept.run_getObj_map hb,K.check w _ hkey,hf,h3,Result.andThen]
theorem getA {α:Type} {l:List α} {i:Nat} {a:α} (h:(l.drop i).take 1= [a]):l[i]?=some a:=by
 have h0:((l.drop i).take 1)[0]?=some a:=by rw[h];rfl
 simpa using h0
theorem zvc {W:World} (h:laidMetH Tryz.prog [("math/bits.deBruijn64tab",Rows.laid_math_bits_deBruijn64tab)] W): ∀r,r<64→W.cell? ⟨0,r,none⟩=some (.int .u8 (bruijn.getD r 0)):=by
 intro r hr
 rw[MakeChecks.laidMetH_plain _ _ _ yKR]at h
 obtain⟨ps,⟨g,t,cs,fuel,p,q,hg,ht,hv,hd,_,_⟩,_,_⟩:=h
 obtain rfl:=Option.some.inj (gBruijn.symm.trans hg)
 obtain rfl:=Option.some.inj ((show(Tryz.prog.globals[0]?).map (·.type)=some 122 by kernel_rfl).symm.trans ht)
 obtain⟨xs,m,_,ex,_,hl,hel⟩:=DataW.trod_array Tryz.underlying122 hd
 have c5:Tryz.prog.cellsOf 5=1:=by kernel_rfl
 have hE:=hel r hr
 rw[c5,Nat.mul_one,List.getElem?_eq_getElem (by omega)]at hE
 obtain⟨z,e1,e2,_⟩:=DataW.trod_int Tryz.underlying5 hE
 have hlen:bruijn.length=64:=by decide
 have e0:(Rows.laid_math_bits_deBruijn64tab:DataW Unit) = .agg (bruijn.map fun n => .lit (.int .u8 n)):=rfl
 have e3:(xs.map (·.1))=bruijn.map fun n => .lit (.int .u8 n):=(DataW.agg.inj ((e0.symm.trans (Prod.mk.inj ex).1))).symm
 have e4:(xs.map (·.1))[r]?=(bruijn.map fun n=>(DataW.lit (.int .u8 n):DataW Unit))[r]?:=by rw[e3]
 rw[List.getElem?_map,List.getElem?_map,List.getElem?_eq_getElem (by omega:r<xs.length),List.getElem?_eq_getElem (by omega:r<bruijn.length),e2]at e4
 have hz:z=bruijn.getD r 0:=by
  simp only[Option.map_some,Option.some.injEq,DataW.lit.injEq,Lit.int.injEq,true_and]at e4
  rw[e4,List.getD,List.getElem?_eq_getElem (by omega:r<bruijn.length)];rfl
 rw[World.var?_cell hg hv r,←hz]
 have:=getA e1
 simpa using this
theorem zxr {hv:VH} {g:Nat}: ∀(l:List Int) (i:Nat),(∀r (h:r<l.length),zfu hv ⟨g,i+r,none⟩=some (.int .u8 l[r]))→RlC hv (some ⟨g,0,none⟩) i (l.map fun n=>V.v (.int .u8 n))
 | [],i,_=>by simp only[List.map_nil,RlC]
 | x::l,i,h=>by
  simp only[List.map_cons,RlC]
  have h0:=h 0 (by simp)
  refine⟨⟨_,?_,V.Rl_v,rfl⟩,zxr l (i+1) fun r hr=>?_⟩
  ·rw[Nat.add_zero]at h0
   have:(⟨g,0,none⟩:Addr).add i=⟨g,i,none⟩:=by unfold Addr.add;by_cases hi:i=0 <;> simp[hi]
   show zfu hv ((⟨g,0,none⟩:Addr).add i)=_
   rw[this];exact h0
  ·have:=h (r+1) (by simpa using hr)
   rw[show i+1+r=i+(r+1) by omega]
   simpa using this
theorem ysv {W:World} {l:List (String×DataW Unit)} (h:laidMetH Tryz.prog l W) (h1:(l.filter fun x=>x.1 == "math/bits.deBruijn64tab")= [("math/bits.deBruijn64tab",Rows.laid_math_bits_deBruijn64tab)]) (h2:("sparrow/score.modes",Rows.laid_sparrow_score_modes)∈l):Kn (hvW W):=by
 refine⟨fun g c hc=>?_,?_⟩
 ·unfold knC at hc
  split at hc
  ·rename_i hg;subst hg;cases hc
   have hb:=zvc (h1▸h.filter fun x=>x.1 == "math/bits.deBruijn64tab")
   refine zxr _ _ fun r hr=>?_
   rw[Nat.zero_add,zuz,hb r hr,List.getD,List.getElem?_eq_getElem hr];rfl
  ·cases hc
 ·obtain⟨g,t,cs,fuel,p,hg,ht,hv,hd⟩:=h.funcs h2
  obtain rfl:=Option.some.inj (gModes.symm.trans hg)
  obtain rfl:=Option.some.inj (tModes.symm.trans ht)
  rcases open_map Tryz.underlying132 hd with⟨_,hx⟩|⟨b,es,clock,n,rfl,hcs,hb,_,F,hx⟩
  ·simp[DataW.funcsOut]at hx
  ·simp only[Prod.mk.injEq]at hx
   have hcell:=World.var?_cell hg hv 0
   rw[Array.eq_one_of_toList hcs]at hcell
   have hL:=(DataW.map.inj hx.1).symm
   refine⟨b,es,clock,by rw[zuz];simpa using hcell,hb,fun w m hb' m1 m2=>?_⟩
   have hm:m=1∨m=2∨m=3:=by omega
   rcases hm with rfl|rfl|rfl
   ·exact zrx (names:= []) Tryz.underlying132 Tryz.underlying131 F 1 (by omega) (b:=40) (r:= [115,112,97,114,114,111,119,47,115,99,111,114,101,46,112,97,121,109,101,110,116,41,46,97,108,111,110,101]) yKR hL (by simp[DataW.funcsOutEntries,DataW.funcsOut]) (by simp[DataW.funcsOutEntries,DataW.funcsOut]) w b hb'
   ·exact zrx (names:= []) Tryz.underlying132 Tryz.underlying131 F 2 (by omega) (b:=40) (r:= [115,112,97,114,114,111,119,47,115,99,111,114,101,46,112,97,121,109,101,110,116,41,46,97,108,108]) yKR hL (by simp[DataW.funcsOutEntries,DataW.funcsOut]) (by simp[DataW.funcsOutEntries,DataW.funcsOut]) w b hb'
   ·exact zrx (names:= []) Tryz.underlying132 Tryz.underlying131 F 3 (by omega) (b:=40) (r:= [115,112,97,114,114,111,119,47,115,99,111,114,101,46,112,97,121,109,101,110,116,41,46,98,97,115,105,99]) yKR hL (by simp[DataW.funcsOutEntries,DataW.funcsOut]) (by simp[DataW.funcsOutEntries,DataW.funcsOut]) w b hb'
end Go.XL
