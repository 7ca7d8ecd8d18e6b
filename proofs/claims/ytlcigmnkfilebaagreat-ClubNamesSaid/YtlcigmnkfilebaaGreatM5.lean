/- A part of a program logic over the kit's walk rules, and contracts of functions in it. Conditions: as each theorem says. -/
import Derived.Test.YtlcigmnkfilebaaGreatM4
set_option linter.all false
namespace Go.XL
open Go.Proofs
set_option maxRecDepth 100000
set_option maxHeartbeats 4000000
theorem yhp {c:Club} {i:Nat} (h:i<c.rounds.length) (h1:zey c i=0) (h2: ¬zhb c i=0):zef c i (c.rounds.length-i)=zhb c i:=by rw[zhp h,if_neg (by omega),if_pos h2]
theorem yho {c:Club} {i:Nat} (h:i<c.rounds.length) (h1:zey c i=0) (h2:zhb c i=0):zef c i (c.rounds.length-i)=zef c (i+1:Nat) (c.rounds.length-(i+1)):=by rw[zhp h,if_neg (by omega),if_neg (by omega)]
theorem zjz (c:Club) (hs:c.Small):PC Tryz.prog 12 [c.val] (I (zde c)):=by
 have q1:=hs.rounds
 have q2:=hs.members
 refine DC.of_run Tryz.func12 rfl Tryz.ntmps12 Tryz.results12 (by simp) (fun _=>?_);simp only[zaq,zat,go_sem,Nat.zero_add,Nat.reduceAdd]
 repeat' (first|(with_reducible first|refine zac yU yU yE ?_|refine zab ?_|refine DS.seq ?_|refine zaa ?_|(refine zbc yE ?_;first|refine zgh (fun _=>?_) (fun _=>?_)|refine zdb ?_)|(refine zea yU yE ?_;first|refine zwe (fun _=>?_) (fun _=>?_)|refine GG.run ?_|refine zqp ?_)|refine DS.skip ?_)|refine zcd inferInstance (zlb _ _ _) yR yT ?_|(refine zda (t:=1) yU yE yU ?_;simp only[zbs,zct,zbr,zcg,zbq,zbj,zbt,zbn,zcp,zcr,zcb,zcq,zcf,zce])|refine zbf [] yE trivial ?_|fail)
 rotate_left 2
 ·rename_i e1 e2 e3
  have hr:zfl c=2:=by rw[zfl,if_neg (by simpa using e1),if_neg (by simpa using e2),if_pos e3]
  rw[zde,if_pos (by rw[hr];decide),hr];rfl
 ·rename_i e1 e2
  have hr:zfl c=2:=by rw[zfl,if_neg (by simpa using e1),if_pos e2]
  rw[zde,if_pos (by rw[hr];decide),hr];rfl
 ·rename_i e1
  have hr:zfl c=2:=by rw[zfl,if_pos e1]
  rw[zde,if_pos (by rw[hr];decide),hr];rfl
 ·rename_i e1 e2 e3 e4
  have hr:zfl c=2:=by rw[zfl,if_neg (by simpa using e1),if_neg (by simpa using e2),if_neg (by simpa using e3),if_pos e4]
  rw[zde,if_pos (by rw[hr];decide),hr];rfl
 ·rename_i e1 e2 e3 e4
  have hr:zfl c=zha c.size c.places 1000000 0:=by rw[zfl,if_neg (by simpa using e1),if_neg (by simpa using e2),if_neg (by simpa using e3),if_neg (by simpa using e4)]
  have hz:=hr
  clear hr
  repeat' (first|(with_reducible first|refine zac yU yU yE ?_|refine zab ?_|refine DS.seq ?_|refine zaa ?_|(refine zbc yE ?_;first|refine zgh (fun _=>?_) (fun _=>?_)|refine zen (fun _=>?_) (fun _=>?_))|refine DS.block ?_|refine DS.skip ?_)|refine zcd inferInstance (yeb c c.places 1000000 0 (by omega) (by decide) (by decide)) yR yT ?_|refine zcd inferInstance (yid c.members) yR yT ?_|refine zbf [] yE trivial ?_|fail)
  ·rename_i e5
   rw[zde,if_pos (by omega),hz];rfl
  ·rename_i e5 e6
   rw[zde,if_neg (by omega),if_pos e6];rfl
  ·rename_i e5 e6 e7
   rw[zde,if_neg (by omega),if_neg (by omega),if_pos (by omega)];rfl
  ·rename_i e5 e6 e7
   have f:=zya e6
   have hc:zde c=zef c 0 c.rounds.length:=by rw[zde,if_neg (by omega),if_neg (by omega),if_neg (by omega)]
   rw[hc]
   clear hc hz
   refine zcl [1,49] yN (fun(i:Nat)=> [(50,I i)]) (fun(i:Nat)=>i≤c.rounds.length∧zef c 0 c.rounds.length=zef c i (c.rounds.length-i)) (fun(i:Nat)=>c.rounds.length-i) 0 yS ⟨Nat.zero_le _,rfl⟩ (fun i B hI hB=>?_);try dsimp only at hI hB;simp only[zar,zav]
   repeat' (first|(with_reducible first|refine zac yU yU yE ?_|refine zab ?_|refine DS.seq ?_|refine zaa ?_|(refine zbc yE ?_;first|refine zgh (fun _=>?_) (fun _=>?_)|refine zen (fun _=>?_) (fun _=>?_))|refine DS.blk ?_|refine DS.block ?_|refine DS.exit yU ?_|refine DS.skip ?_)|refine zcd inferInstance (yje c hs f e1.2 e1.1 (i:=i) (by omega)) yR yT ?_|refine zcd inferInstance (yru c hs e1.2 (by omega) e2 e4 (i:=i) (by omega) (by omega)) yR yT ?_|refine zbf [] yE trivial ?_|fail)
   ·rename_i e8 e9
    rw[hI.2,zvb (by omega) e9];rfl
   ·rename_i e8 e9 e10
    rw[hI.2,yhp (by omega) e9 e10];rfl
   ·rename_i e8 e9 e10
    exact DS.back (hB (i+1) _ _ (by omega) (⟨by omega,by rw[hI.2,yho (by omega) e9 e10]⟩) yS yS (fun b o e=>by first|exact e|(simp only[zae];split <;> simp_all)))
   ·rename_i e8
    rw[hI.2,show c.rounds.length-i=0 by omega];rfl
theorem yhw (c:Club) (round:Int) (hm:c.members.length≤1000000):PC Tryz.prog 62 [c.val,I round] (.own false 3 1 ((zdn c round).map cI)):=by
 refine DC.of_run Tryz.func62 rfl Tryz.ntmps62 Tryz.results62 (by simp) (fun _=>?_);simp only[zaq,zat,go_sem,Nat.zero_add,Nat.reduceAdd]
 repeat' (first|(with_reducible first|(refine zdi (t:=4) yU yO yE ?_)|(refine zdi (t:=5) yU yO yE ?_)|refine zac yU yU yE ?_|refine zab ?_|refine DS.seq ?_|refine zaa ?_|refine DS.block ?_)|(refine zda (t:=2) yU yE yU ?_;simp only[zbs,zct,zbr,zcg,zbq,zbj,zbt,zbn,zcp,zcr,zcb,zcq,zcf,zce])|fail)
 refine zcl [1,9,10] yN (fun(k:Nat×List Int)=> [(5, .own false 3 1 (k.2.map cI)),(11,I k.1)]) (fun(k:Nat×List Int)=>k.1≤c.members.length∧k.2.length≤k.1∧k.2++((c.members.drop k.1).filter (fun m=>m.plays round)).map Member.id=zdn c round) (fun(k:Nat×List Int)=>c.members.length-k.1) (0,[]) yS (by simp[zdn]) (fun k B hI hB=>?_);try dsimp only at hI hB;simp only[zar,zav]
 repeat' (first|(with_reducible refine zdx (t:=4) yU yO yE ?_;simp only[zam,zaf,zag,Nat.reduceEqDiff,↓reduceIte,zaj,zak,zap,zai,zah,zan,zal])|(with_reducible refine zdx (t:=5) yU yO yE ?_;simp only[zam,zaf,zag,Nat.reduceEqDiff,↓reduceIte,zaj,zak,zap,zai,zah,zan,zal])|(with_reducible refine zdx (t:=18) yU yO yE ?_;simp only[zam,zaf,zag,Nat.reduceEqDiff,↓reduceIte,zaj,zak,zap,zai,zah,zan,zal])|(with_reducible refine zdx (t:=24) yU yO yE ?_;simp only[zam,zaf,zag,Nat.reduceEqDiff,↓reduceIte,zaj,zak,zap,zai,zah,zan,zal])|(with_reducible first|refine zac yU yU yE ?_|refine zab ?_|refine DS.seq ?_|refine zaa ?_|(refine zbc yE ?_;first|refine zen (fun _=>?_) (fun _=>?_)|refine ygy (fun _=>?_) (fun _=>?_))|refine DS.blk ?_|refine DS.block ?_|refine DS.exit yU ?_|refine DS.skip ?_)|(refine zfa yU yE yE ?_;simp only[go_sem,Nat.zero_add,Nat.reduceAdd])|(refine DS.append (mm:=false) yU yE yE yU (by decide) yE (by first|exact .inl rfl|exact .inr ⟨rfl,rfl⟩) yE yX0 (by first|exact zas zdu _|exact zas zer _|exact zas Member.len _|exact zas Sitting.len _|exact zas Ruling.len _|(simp only[List.mem_cons,List.not_mem_nil,or_false,forall_eq];rfl)|simp) ⟨by(try simp only[List.length_map,List.length_cons,List.length_nil,List.length_append,List.length_take,List.length_drop]);omega,by decide⟩ ?_;simp only[zam,zaf,zag,Nat.reduceEqDiff,↓reduceIte,zaj,zak,zap,zai,zah,zan,zal])|(refine zhh (t:=7) yU yE yU (fun _=>yE) yE yU (by exact⟨by with_unfolding_all rfl,by with_unfolding_all decide⟩) (fun _=>by simp only[go_sem,Nat.reduceEqDiff,↓reduceIte]) ?_;simp only[go_sem])|refine zcd inferInstance (zqv _ _) yR yT ?_|refine zbf [] yE trivial ?_|fail)
 ·rename_i e2 e3
  obtain⟨_,r,dr1,rfl,dr3⟩:=zcs (l:=c.members) (i:=k.1) (by omega);rw[dr1]at hI
  exact DS.back (hB (k.1+1,k.2++ [c.members[k.1].id]) _ _ (by simp;omega) (⟨by simp;omega,by simp;omega,by rw[←hI.2.2,dr3,List.filter_cons,if_pos e3];simp⟩) yS yS (fun b o e=>by first|exact e|(simp only[zae];split <;> simp_all)))
 ·rename_i e2 e3
  obtain⟨_,r,dr1,rfl,dr3⟩:=zcs (l:=c.members) (i:=k.1) (by omega);rw[dr1]at hI
  exact DS.back (hB (k.1+1,k.2) _ _ (by simp;omega) (⟨by simp;omega,by simp;omega,by rw[←hI.2.2,dr3,List.filter_cons,if_neg (by simp[e3])]⟩) yS yS (fun b o e=>by first|exact e|(simp only[zae];split <;> simp_all)))
 ·have de1:=zem (l:=c.members) (i:=k.1) (by omega);rw[de1]at hI
  rw[zfm,show k.2=zdn c round by have e:=hI.2.2;simpa using e]
end Go.XL
namespace Go.XL
open Go.Proofs
set_option maxRecDepth 100000
set_option maxHeartbeats 8000000
structure Hid (p:Prop):Prop where
 out:p
def kA (a b:Int):Value := .agg #[.int .i64 a, .int .i64 b]
def In64 (a:Int):Prop := -9223372036854775808≤a∧a≤9223372036854775807
structure MapW (S:Sto) (b:Nat) (w:W):Prop where
 out: ∃f es clock,zad S b=some (.raw (.map es clock))∧MapIs Tryz.prog 90 f es clock∧ ∀x y,In64 x→In64 y→(f (kA x y)).getD (.int .i64 0) = .int .i64 (w x y)
theorem keyA {a b:Int} (ha:In64 a) (hb:In64 b):zmj Tryz.prog 90 (kA a b):=by
 have hw: ∀c:Int,In64 c→(Lit.int .i64 c).wf=true:=fun c hc=>by
  have h1:decide (IntKind.i64.min≤c)=true:=decide_eq_true (show(-9223372036854775808:Int)≤c from hc.1)
  have h2:decide (c≤IntKind.i64.max)=true:=decide_eq_true (show c≤(9223372036854775807:Int)from hc.2)
  simp only[Lit.wf,h1,h2,Bool.and_self]
 have h1:Tryz.prog.underlying 90=some (.array 2 3):=by with_unfolding_all rfl
 have h2:Tryz.prog.keyType 90=true:=by with_unfolding_all rfl
 have h3:Value.formed Tryz.prog 90 (kA a b)=true:=by with_unfolding_all rfl
 have h4:Tryz.prog.underlying 3=some (.int .i64):=by with_unfolding_all rfl
 have h5:Tryz.prog.cellsOf 90=2:=by with_unfolding_all rfl
 have h6:Tryz.prog.cellsOf 3=1:=by with_unfolding_all rfl
 obtain⟨m,hm⟩: ∃m,Tryz.prog.types.size=m+1:=⟨Tryz.prog.types.size-1,by with_unfolding_all rfl⟩
 have k1: ∀c,In64 c→Tryz.prog.keyLits (m+1) 3 [.int .i64 c]=some [.int .i64 c]:=fun c hc=>by
  unfold Program.keyLits
  rw[h4]
  simp[hw c hc]
 unfold zmj keyOf
 rw[h1]
 simp only[h2,h3,Bool.and_self,if_true]
 rw[hm]
 unfold Program.keyLits
 rw[h1]
 simp only[h5,h6]
 have hc:(kA a b).cells.toList= [.int .i64 a, .int .i64 b]:=rfl
 rw[hc]
 have hr:List.range 2= [0,1]:=rfl
 rw[hr]
 simp[k1 a ha,k1 b hb]
def zyh (c:Club):Prop:= ∀s∈c.rounds,∀t∈s.tables,∀x∈t,In64 x
theorem yX22 {p:Prop} (h:p:=by(simp (disch:=omega) only[go_sem,dopV,yV0,↓reduceIte,Nat.reduceEqDiff,Nat.reduceLT,Nat.reduceLeDiff,Nat.reduceAdd,Nat.reduceMul,Nat.reduceSub,Int.reduceToNat,Int.reduceLT,Int.reduceLE,Int.reduceEq,IntWalk.toNatUp,IntWalk.iteOmega,IntWalk.i64_in,V.flat,V.one, *,List.forall_mem_map,implies_true,zdu,List.drop_zero];exact rfl)):p:=h
theorem zsk (c:Club) (hs:c.Small) (hc:zyh c):DC Tryz.prog 64 [c.val] [] (fun u S'=> ∃b,u = .v (.map (some b))∧MapW S' b (zuo c)):=by
 have q1:=hs.rounds
 refine DC.of_run Tryz.func64 rfl Tryz.ntmps64 Tryz.results64 (by simp) (fun _=>?_);simp only[zaq,zat,go_sem,Nat.zero_add,Nat.reduceAdd]
 repeat' (first|(with_reducible first|refine zac yU yU yE ?_|refine zab ?_|refine DS.seq ?_|refine zaa ?_)|(refine zda (t:=1) yU yE yU ?_;simp only[zbs,zct,zbr,zcg,zbq,zbj,zbt,zbn,zcp,zcr,zcb,zcq,zcf,zce])|fail)
 refine yqt yR (fun b hb=>?_)
 simp only[zco]
 repeat' (first|(with_reducible first|refine zac yU yU yE ?_|refine zab ?_|refine DS.seq ?_|refine zaa ?_|refine DS.block ?_)|fail)
 have M0:MapW [(b, .raw (.map #[] 0))] b (fun _ _=>0):=⟨_,_,_,by simp only[zad,if_true],MapIs.empty _ _,fun _ _ _ _=>rfl⟩
 refine zcn [3,14,15] yN (fun(x:Nat×Sto×W)=> [(16,I x.1)]) (fun(x:Nat×Sto×W)=>x.2.1) (fun(x:Nat×Sto×W)=>x.1≤c.rounds.length∧MapW x.2.1 b x.2.2∧zuo c=addS (c.rounds.drop x.1) x.2.2) (fun(x:Nat×Sto×W)=>c.rounds.length-x.1) (0,[(b, .raw (.map #[] 0))],fun _ _=>0) yS (fun b o e=>by exact e) ⟨Nat.zero_le _,M0,rfl⟩ (fun x B hI hB=>?_);try dsimp only at hI hB;simp only[zar,zav]
 obtain⟨i,S,w⟩:=x
 dsimp only at hI hB
 obtain⟨g1,g2,g3⟩:=hI
 repeat' (first|(with_reducible first|refine zac yU yU yE ?_|refine zab ?_|refine DS.seq ?_|refine zaa ?_|(refine zbc yE ?_;refine zen (fun _=>?_) (fun _=>?_))|refine DS.block ?_|refine DS.exit yU ?_|refine DS.skip ?_)|(refine zhh (t:=5) yU yE yU (fun _=>yE) yE yU (by exact⟨by with_unfolding_all rfl,by with_unfolding_all decide⟩) (fun _=>by simp only[go_sem,Nat.reduceEqDiff,↓reduceIte]) ?_;simp only[go_sem])|fail)
 ·rename_i e1
  have hi:i<c.rounds.length:=by omega
  have q2:=hs.at hi
  have q3:=q2.tables
  have hB0:=hB
  clear hB
  refine zcn [3,14,15,16,21,22] yN (fun(y:Nat×Sto×W)=> [(23,I y.1)]) (fun(y:Nat×Sto×W)=>y.2.1) (fun(y:Nat×Sto×W)=>y.1≤(c.rounds[i]'hi).tables.length∧MapW y.2.1 b y.2.2∧zuo c=addS (c.rounds.drop (i+1)) (zuv ((c.rounds[i]'hi).tables.drop y.1) y.2.2)) (fun(y:Nat×Sto×W)=>(c.rounds[i]'hi).tables.length-y.1) (0,S,w) yS (fun b o e=>by exact e) ⟨Nat.zero_le _,g2,by rw[g3,List.drop_eq_getElem_cons hi];rfl⟩ (fun y B hI hB=>?_);try dsimp only at hI hB;simp only[zar,zav]
  obtain⟨k,S1,w1⟩:=y
  dsimp only at hI hB
  obtain⟨k1,k2,k3⟩:=hI
  clear g2 g3 M0
  repeat' (first|(with_reducible first|refine zac yU yU yE ?_|refine zab ?_|refine DS.seq ?_|refine zaa ?_|(refine zbc yE ?_;refine zen (fun _=>?_) (fun _=>?_))|refine DS.blk ?_|refine DS.block ?_|refine DS.exit yU ?_|refine DS.skip ?_)|fail)
  ·rename_i e2
   have hk:k<(c.rounds[i]'hi).tables.length:=by omega
   have q4:=q2.table _ (List.getElem_mem hk)
   have hct:=hc _ (List.getElem_mem hi) _ (List.getElem_mem hk)
   rw[List.drop_eq_getElem_cons hk,zuv]at k3
   have hB1:=hB
   clear hB
   refine zcn [3,7,14,15,16,21,22,23,27,28] yN (fun(z:Nat×Sto×W)=> [(29,I z.1)]) (fun(z:Nat×Sto×W)=>z.2.1) (fun(z:Nat×Sto×W)=>z.1≤((c.rounds[i]'hi).tables[k]'hk).length∧MapW z.2.1 b z.2.2∧zuo c=addS (c.rounds.drop (i+1)) (zuv ((c.rounds[i]'hi).tables.drop (k+1)) (addT 1 (((c.rounds[i]'hi).tables[k]'hk).take z.1) (((c.rounds[i]'hi).tables[k]'hk).drop z.1) z.2.2))) (fun(z:Nat×Sto×W)=>((c.rounds[i]'hi).tables[k]'hk).length-z.1) (0,S1,w1) yS (fun b o e=>by exact e) ⟨Nat.zero_le _,k2,k3⟩ (fun z B hI hB=>?_);try dsimp only at hI hB;simp only[zar,zav]
   obtain⟨j,S2,w2⟩:=z
   dsimp only at hI hB
   obtain⟨j1,j2,j3⟩:=hI
   clear k2 k3
   repeat' (first|(with_reducible first|refine zac yU yU yE ?_|refine zab ?_|refine DS.seq ?_|refine zaa ?_|(refine zbc yE ?_;refine zen (fun _=>?_) (fun _=>?_))|refine DS.blk ?_|refine DS.block ?_|refine DS.exit yU ?_|refine DS.skip ?_)|fail)
   ·rename_i e3
    have hj:j<((c.rounds[i]'hi).tables[k]'hk).length:=by omega
    have hB2:=hB
    clear hB
    have hle:j≤((c.rounds[i]'hi).tables[k]'hk).length:=by omega
    obtain⟨pre,hpre⟩: ∃pre,pre=((c.rounds[i]'hi).tables[k]'hk).take j:=⟨_,rfl⟩
    have hpl:pre.length=j:=by rw[hpre,List.length_take];omega
    have hpi: ∀x∈pre,In64 x:=fun x hx=>hct x (List.mem_of_mem_take (hpre▸hx))
    have htk:List.take j (List.map cI ((c.rounds[i]'hi).tables[k]'hk))=pre.map cI:=by rw[hpre,List.map_take]
    rw[←hpre]at j3
    have J0:=Hid.mk (And.intro hpre j3)
    clear hpre j3
    repeat' (first|(with_reducible first|refine zac yU yU yX22 ?_|refine zab ?_|refine DS.block ?_)|fail)
    clear htk
    refine zcn [3,7,9,14,15,16,21,22,23,27,28,29,36,37] yN (fun(u:Nat×Sto×W)=> [(38,I u.1)]) (fun(u:Nat×Sto×W)=>u.2.1) (fun(u:Nat×Sto×W)=>u.1≤j∧MapW u.2.1 b u.2.2∧addR 1 (((c.rounds[i]'hi).tables[k]'hk)[j]'hj) pre w2=addR 1 (((c.rounds[i]'hi).tables[k]'hk)[j]'hj) (pre.drop u.1) u.2.2) (fun(u:Nat×Sto×W)=>j-u.1) (0,S2,w2) yS (fun b o e=>by exact e) ⟨Nat.zero_le _,j2,rfl⟩ (fun u B hI hB=>?_);try dsimp only at hI hB;simp only[zar,zav]
    obtain⟨p,S3,w3⟩:=u
    dsimp only at hI hB
    obtain⟨p1,p2,p3⟩:=hI
    clear j2
    repeat' (first|(with_reducible first|refine zac yU yU yE ?_|refine zab ?_|refine DS.seq ?_|refine zaa ?_|(refine zbc yE ?_;refine zen (fun _=>?_) (fun _=>?_))|refine DS.blk ?_|refine DS.block ?_|refine DS.exit yU ?_|refine DS.skip ?_)|fail)
    ·rename_i e4
     have hp:p<pre.length:=by omega
     obtain⟨fm,es,clock,m1,m2,m3⟩:=p2.out
     have hdel: ∀b' o,zad (delS b S3) b'=some o→zad S3 b'=some o∧zad [(b,Ob.raw (.map es clock))] b'=none:=fun b' o e=>by
      rw[zcx]at e
      split at e
      ·cases e
      ·rename_i hne
       exact⟨e,by simp only[zad];rw[if_neg (fun h=>hne h.symm)]⟩
     have hone: ∀b' o,zad [(b,Ob.raw (.map es clock))] b'=some o→zad S3 b'=some o:=fun b' o e=>by
      simp only[zad]at e
      split at e
      ·rename_i hbb;subst hbb;rw[m1];exact e
      ·cases e
     have hMp:MpOk Tryz.prog [⟨b,90, .int .i64 0,fun x=>(fm x).getD (.int .i64 0)⟩] ([(b,Ob.raw (.map es clock))]++delS b S3):=fun m hm=>by
      rw[List.mem_singleton]at hm
      subst hm
      exact⟨_,by simp[zad],es,clock,fm,rfl,m2,fun _=>rfl⟩
     refine yby (id:=14) (delS b S3) ([(b,Ob.raw (.map es clock))]) ([⟨b,90, .int .i64 0,fun x=>(fm x).getD (.int .i64 0)⟩]) [0,1,2,3,4,5,6,7] 8 (by kernel_rfl) zdq (by simp only[zba,zbg,zbh,zbi,zaz];exact rfl) (by simp only[zax,zay,List.drop_nil];exact rfl) (hMp) (hdel) (hone) ?_
     repeat' (first|with_reducible refine zbz yU yU yU yX8 ?_|fail)
     have hin1:=hpi _ (List.getElem_mem hp)
     have hin2:=hct _ (List.getElem_mem hj)
     have hkey:=keyA hin1 hin2
     have hval:=m3 _ _ hin1 hin2
     refine ygx (me:=⟨b,90, .int .i64 0,fun x=>(fm x).getD (.int .i64 0)⟩) (key:=kA pre[p] (((c.rounds[i]'hi).tables[k]'hk)[j]'hj)) (List.mem_singleton.2 rfl) kd90 yU yU yR yH yH (V.Is.two _ _) hkey ?_
     simp only[hval,zco]
     repeat' (first|with_reducible refine zbz yU yU yU yE ?_|fail)
     refine ycb (key:=kA pre[p] (((c.rounds[i]'hi).tables[k]'hk)[j]'hj)) kd90 yU yU m2 hkey yH yH (V.Is.two _ _) (by simp only[zad,if_true]) yR (fun me hme _=>by rw[List.mem_singleton]at hme;subst hme;exact⟨rfl,rfl⟩) (fun st es1 clock1 n1 n2=>?_)
     simp only[zco]
     repeat' (first|with_reducible refine zkc yU yU yU yU yE ?_|(with_reducible refine DD.nil ?_;simp only[zar,zav])|fail)
     have hs2:zad (setS b (Ob.raw (Obj.map es1 clock1)) [(b,Ob.raw (Obj.map es clock))]++delS b S3) b=some (Ob.raw (Obj.map es1 clock1)):=by simp[setS,zad]
     refine DS.entryStore n2 yH (by(simp (disch:=omega) only[go_sem,dopV,yV0,↓reduceIte,Nat.reduceEqDiff,Nat.reduceLT,Nat.reduceLeDiff,Nat.reduceAdd,Nat.reduceMul,Nat.reduceSub,Int.reduceToNat,Int.reduceLT,Int.reduceLE,Int.reduceEq,IntWalk.toNatUp,IntWalk.iteOmega,IntWalk.i64_in,V.flat,V.one,goInt];try exact rfl)) yH hs2 yR (fun es2 n3=>?_)
     have hW:MapW (setS b (Ob.raw (Obj.map es2 clock1)) (setS b (Ob.raw (Obj.map es1 clock1)) [(b,Ob.raw (Obj.map es clock))]++delS b S3)) b (addP 1 w3 pre[p] (((c.rounds[i]'hi).tables[k]'hk)[j]'hj)):=by
      refine⟨_,es2,clock1,by rw[zbe hs2,if_pos rfl],n3,fun x y hx hy=>?_⟩
      by_cases hxy:x=pre[p]∧y=(((c.rounds[i]'hi).tables[k]'hk)[j]'hj)
      ·rw[addP,if_pos hxy,hxy.1,hxy.2,zir];rfl
      ·rw[addP,if_neg hxy,zlj _ _ (fun h=>hxy (by simp only[kA,Value.agg.injEq]at h;simp at h;exact h)),m3 x y hx hy]
     generalize setS b (Ob.raw (Obj.map es2 clock1)) (setS b (Ob.raw (Obj.map es1 clock1)) [(b,Ob.raw (Obj.map es clock))]++delS b S3)=S5 at *
     clear hs2 n3 n2 n1 m1 m2 m3 hMp hdel hone hval hkey
     simp only[zbo]
     repeat' (first|(with_reducible first|refine zac yU yU yE ?_|refine zab ?_|refine zaa ?_|refine DS.blk ?_)|fail)
     refine DS.back (hB (p+1,S5,addP 1 w3 pre[p] (((c.rounds[i]'hi).tables[k]'hk)[j]'hj)) _ _ (by dsimp only;omega) ⟨by dsimp only;omega,hW,by rw[p3,List.drop_eq_getElem_cons hp,addR]⟩ yS yS (fun b o e=>by exact e))
    ·rename_i e4
     have hp:p=j:=by omega
     have J:=J0.out
     subst hp
     rw[List.drop_eq_nil_of_le (by omega)]at p3
     skip
     refine DS.back (hB2 (p+1,S3,w3) _ _ (by dsimp only;omega) ⟨by dsimp only;omega,p2,by rw[J.2,List.drop_eq_getElem_cons hj,addT,p3,List.take_succ_eq_append_getElem hj,←J.1];rfl⟩ yS yS (fun b o e=>by exact e))
   ·rename_i e3
    have hje:j=((c.rounds[i]'hi).tables[k]'hk).length:=by omega
    rw[show((c.rounds[i]'hi).tables[k]'hk).drop j= []from List.drop_eq_nil_of_le (by omega)]at j3
    refine DS.back (hB1 (k+1,S2,w2) _ _ (by dsimp only;omega) ⟨by dsimp only;omega,j2,j3⟩ yS yS (fun b o e=>by exact e))
  ·rename_i e2
   rw[show(c.rounds[i]'hi).tables.drop k= []from List.drop_eq_nil_of_le (by omega)]at k3
   refine DS.back (hB0 (i+1,S1,w1) _ _ (by dsimp only;omega) ⟨by dsimp only;omega,k2,k3⟩ yS yS (fun b o e=>by exact e))
 ·refine zci yG ⟨b,rfl,?_⟩
  rw[g3,List.drop_eq_nil_of_le (by omega)]
  exact g2
end Go.XL
namespace Go.XL
open Go.Proofs
set_option maxRecDepth 100000
set_option maxHeartbeats 8000000
theorem zof {c:Club} {r:Int}: ∀{T:List (List Int)} {s:List Int} {f:Int},zdj c r T s f=0→ ∀t∈T,(t.length:Int)=c.size∧zdy c r t none=0
 | [],_,_,_,_,h=>(List.not_mem_nil h).elim
 | t::l,s,f,e,x,h=>by
  simp only[zdj]at e
  split at e
  ·cases e
  rename_i h1
  split at e
  ·rename_i h2;exact absurd e h2
  rename_i h2
  split at e
  ·cases e
  split at e
  ·cases e
  rcases List.mem_cons.1 h with rfl|h
  ·exact⟨by omega,by omega⟩
  ·exact zof e x h
theorem zol {c:Club}: ∀{n i:Nat},zef c i n=0→ ∀k,i≤k→k<i+n→zey c k=0∧zhb c k=0
 | 0,i,_,k,h1,h2=>by omega
 | n+1,i,e,k,h1,h2=>by
  simp only[zef]at e
  split at e
  ·rename_i h;exact absurd e h
  rename_i h3
  split at e
  ·rename_i h;exact absurd e h
  rename_i h4
  by_cases hk:k=i
  ·subst hk;exact⟨by omega,by omega⟩
  ·exact zol e k (by omega) (by omega)
theorem zye {c:Club} (h:zde c=0):zef c 0 c.rounds.length=0:=by
 obtain⟨h1,h2,h3⟩:=zfe h
 unfold zde at h
 rwa [if_neg (by omega),if_neg (by omega),if_neg (by omega)]at h
theorem ybn {c:Club} (h:zde c=0) {i:Nat} (hi:i<c.rounds.length): ∀t∈c.rounds[i].tables,(t.length:Int)=c.size∧zdy c i t none=0:=by
 have h1:=(zol (zye h) i (Nat.zero_le _) (by omega)).1
 rw[zey,c.round_at hi]at h1
 exact zof h1
theorem yis {c:Club} (h:zde c=0): ∀s∈c.rounds,ytp s.tables:=fun s hs t ht=>by
 obtain⟨i,hi,rfl⟩:=List.getElem_of_mem hs
 exact(zox (ybn h hi t ht).2).1
theorem yji {α:Type} (f:α→Nat) (m:Nat): ∀l:List α,(∀x∈l,f x≤m)→(l.map f).sum≤l.length*m
 | [],_=>by simp
 | x::r,h=>by
  have:=yji f m r fun y hy=>h y (List.mem_cons_of_mem _ hy)
  have h1:=h x (List.mem_cons_self ..)
  simp only[List.map_cons,List.sum_cons,List.length_cons,Nat.succ_mul]
  omega
theorem zxl {c:Club} (hs:c.Small) (h:zde c=0) (x y:Int):zuo c x y=if x<y then(metS c x y:Int)else 0:=by
 have h1:=yji (fun s:Sitting=>s.tables.length) 1000000 c.rounds fun s h=>(hs.round s h).tables
 have h2:=hs.rounds
 have h3:c.rounds.length*1000000≤1000000*1000000:=Nat.mul_le_mul_right _ h2
 rw[zuo,ynd c.rounds _ x y (yis h) ⟨Int.le_refl _,by omega⟩]
 simp only[Int.zero_add];rfl
theorem yks (c:Club) (a:Int):metS c a a=0:=by
 have k1: ∀T,metT a a T=0:=fun T=>by
  induction T with
  | nil=>rfl
  | cons t r ih=>simp[metT,ih]
 unfold metS
 generalize c.rounds=R
 induction R with
 | nil=>rfl
 | cons s r ih=>simp[znh,ih,k1]
theorem yag {c:Club} (hs:c.Small) (h:zde c=0) (a b:Int):zuo c (min a b) (max a b)=metS c a b:=by
 rw[zxl hs h]
 rcases Int.lt_trichotomy a b with h1|h1|h1
 ·rw[Int.min_eq_left (by omega),Int.max_eq_right (by omega),if_pos h1]
 ·subst h1;rw[Int.min_self,Int.max_self,if_neg (by omega),yks];rfl
 ·rw[Int.min_eq_right (by omega),Int.max_eq_left (by omega),if_pos h1,yad]
theorem ysb (c:Club) (hs:c.Small) (hc:zyh c) (a b:Int) (ha:In64 a) (hb:In64 b):PC Tryz.prog 21 [c.val,I a,I b] (I (metX c a b)):=by
 rw[metX]
 refine DC.of_run Tryz.func21 rfl Tryz.ntmps21 Tryz.results21 (by simp) (fun _=>?_);simp only[zaq,zat,go_sem,Nat.zero_add,Nat.reduceAdd]
 repeat' (first|(with_reducible first|refine zac yU yU yE ?_|refine zab ?_|refine DS.seq ?_|refine zaa ?_|(refine zbc yE ?_;refine zgh (fun _=>?_) (fun _=>?_))|refine DS.skip ?_)|refine zcd inferInstance (zjz c hs) yR yT ?_|(refine zda (t:=3) yU yE yU ?_;simp only[zbs,zct,zbr,zcg,zbq,zbj,zbt,zbn,zcp,zcr,zcb,zcq,zcf,zce])|refine zbf [] yE trivial ?_|fail)
 ·rename_i e1
  rw[if_pos e1];rfl
 ·rename_i e1
  rw[if_neg (by omega)]
  refine zdv inferInstance (zsk c hs hc) yR yH (fun u S' hu=>?_)
  obtain⟨m,rfl,hw⟩:=hu
  obtain⟨f,es,clock,m1,m2,m3⟩:=hw.out
  have hin1:In64 (min a b):=by unfold In64 at *;omega
  have hin2:In64 (max a b):=by unfold In64 at *;omega
  have hkey:=keyA hin1 hin2
  have hval:=m3 _ _ hin1 hin2
  rw[yag hs e1]at hval
  have e2:min a b=(if b<a then b else a):=by split <;> omega
  have e3:max a b=(if b > a then b else a):=by split <;> omega
  rw[e2,e3]at hkey hval
  have J:=Hid.mk hval
  clear e2 e3 hin1 hin2 hval
  repeat' (first|with_reducible refine zac yU yU yX8 ?_|fail)
  refine ygs (key:=kA (if b<a then b else a) (if b > a then b else a)) kd90 yU yU m2 hkey yH yH (V.Is.two _ _) m1 yR ?_
  rw[J.out]
  simp only[zco]
  clear m1 m2 m3 hw
  repeat' (first|(with_reducible first|refine zac yU yU yE ?_|refine zab ?_)|refine zbf [] yE trivial ?_|fail)
  rfl
end Go.XL
namespace Go.XL
structure GoodW (B:Int) (met:Int→Int→Bool) (w:W):Prop where
 is: ∀a b,a<b→met a b=decide (0<w a b)
 bd: ∀a b,0≤w a b∧w a b≤B
 sym: ∀a b,met a b=met b a
theorem GoodW.mono {B B':Int} {met:Int→Int→Bool} {w:W} (g:GoodW B met w) (h:B≤B'):GoodW B' met w:=⟨g.is,fun a b=>⟨(g.bd a b).1,Int.le_trans (g.bd a b).2 h⟩,g.sym⟩
theorem GoodW.add {B:Int} {met:Int→Int→Bool} {w:W} (g:GoodW B met w) (hB:B<9223372036854775807) {t:List Int} (ht:t.Pairwise (· < ·)):GoodW (B+1) (ziw met t) (addT 1 [] t w):=by
 have e: ∀x y,addT 1 [] t w x y=if x∈t∧y∈t∧x<y then w x y+1 else w x y:=fun x y=>by
  have h:=zud 1 t [] w x y (by simpa using ht)
  simp only[List.nil_append]at h
  have hb:=g.bd x y
  rw[h,zux (by omega)]
 refine⟨fun a b hab=>?_,fun a b=>?_,fun a b=>?_⟩
 ·rw[e,ziw]
  have hb:=g.bd a b
  by_cases h:a∈t∧b∈t
  ·rw[if_pos ⟨h.1,h.2,by omega⟩,if_pos ⟨h.1,h.2,hab⟩]
   exact(decide_eq_true (by omega)).symm
  ·rw[if_neg (fun h'=>h ⟨h'.1,h'.2.1⟩),if_neg (fun h'=>h ⟨h'.1,h'.2.1⟩)]
   exact g.is a b hab
 ·rw[e]
  have hb:=g.bd a b
  split <;> omega
 ·simp only[ziw,g.sym a b]
  by_cases h:a∈t∧b∈t∧a≠b
  ·rw[if_pos h,if_pos ⟨h.2.1,h.1,h.2.2.symm⟩]
  ·rw[if_neg h,if_neg (fun h'=>h ⟨h'.2.1,h'.1,h'.2.2.symm⟩)]
theorem ync {B:Int} {met:Int→Int→Bool} {w:W} (g:GoodW B met w) (hB:B<9223372036854775807) {t:List Int} (ht:t.Pairwise (· < ·)):addT (-1) [] t (addT 1 [] t w)=w:=by
 funext x y
 have h1:=zud 1 t [] w x y (by simpa using ht)
 have h2:=zud (-1) t [] (addT 1 [] t w) x y (by simpa using ht)
 simp only[List.nil_append]at h1 h2
 have hb:=g.bd x y
 rw[h2,h1]
 split
 ·rw[zux (n:=w x y+1) (by omega),zux (by omega)];omega
 ·rfl
theorem yhj {B:Int} {met:Int→Int→Bool} {w:W} (g:GoodW B met w) {t:List Int} {id:Int} (h: ∀a∈t,a<id):zbx met t id= !t.any fun a=>decide (0<w a id):=by
 induction t with
 | nil=>rfl
 | cons a r ih =>
  have h1:=g.is a id (h a (List.mem_cons_self ..))
  have h2:=ih fun b hb=>h b (List.mem_cons_of_mem _ hb)
  simp only[zbx,List.all_cons,List.any_cons,h1]at h2 ⊢
  rw[h2];simp
theorem yaz (st:List Int→Int→Bool): ∀(n:Nat) (t ids:List Int),(t++ids).Pairwise (· < ·)→ ∀x∈zgo st n t ids,x.length=t.length+n∧x.Sublist (t++ids)∧x.Pairwise (· < ·)
 | 0,t,ids,h,x,hx=>by
  simp only[zgo,List.mem_singleton]at hx;subst hx
  exact⟨rfl,List.sublist_append_left ..,(List.pairwise_append.1 h).1⟩
 | n+1,t,ids,h,x,hx=>by
  have key: ∀l:List Int,l.Sublist ids→ ∀x∈zfi st (zgo st n) t l,x.length=t.length+(n+1)∧x.Sublist (t++l)∧x.Pairwise (· < ·):=by
   intro l
   induction l with
   | nil=>intro _ x hx;simp[zfi]at hx
   | cons id r ih =>
    intro hl x hx
    simp only[zfi,List.mem_append]at hx
    rcases hx with hx|hx
    ·split at hx
     ·have hp:((t++ [id])++r).Pairwise (· < ·):=by
       have:(t++id::r).Pairwise (· < ·):=h.sublist (List.Sublist.append (List.Sublist.refl t) hl)
       simpa using this
      obtain⟨h1,h2,h3⟩:=yaz st n (t++ [id]) r hp x hx
      exact⟨by simp at h1;omega,by simpa using h2,h3⟩
     ·simp at hx
    ·obtain⟨h1,h2,h3⟩:=ih ((List.sublist_cons_self ..).trans hl) x hx
     exact⟨h1,h2.trans (List.Sublist.append (List.Sublist.refl t) (List.sublist_cons_self ..)),h3⟩
  exact key ids (List.Sublist.refl _) x hx
theorem ybd {st:List Int→Int→Bool} {f:List Int→List Int→List (List Int)} {t l:List Int} {i:Nat} (h:i<l.length):zfi st f t (l.drop i)=(if st t l[i]=true then f (t++ [l[i]]) (l.drop (i+1))else [])++zfi st f t (l.drop (i+1)):=by
 rw[List.drop_eq_getElem_cons h,zfi]
end Go.XL
namespace Go.XL
open Go.Proofs
set_option maxRecDepth 100000
set_option maxHeartbeats 8000000
def pC (size budget steps:Int) (rs:List (List Int)) (bp R bm:Nat):List V:= [I size,I budget,I steps,rows rs, .v (.slice (some ⟨bp,0,none⟩) R R), .v (.map (some bm))]
@[go_sem] theorem ykj (size budget steps:Int) (rs:List (List Int)) (bp R bm:Nat):pC size budget steps rs bp R bm= [I size,I budget,I steps,rows rs, .v (.slice (some ⟨bp,0,none⟩) R R), .v (.map (some bm))]:=rfl
abbrev TP :Nat:=103
theorem yX23 {p:Prop} (h:p:=by(simp (disch:=omega) only[go_sem,dopV,yV0,↓reduceIte,Nat.reduceEqDiff,Nat.reduceLT,Nat.reduceLeDiff,Nat.reduceAdd,Nat.reduceMul,Nat.reduceSub,Int.reduceToNat,Int.reduceLT,Int.reduceLE,Int.reduceEq,IntWalk.toNatUp,IntWalk.iteOmega,IntWalk.i64_in,V.flat,V.one, *,ykj,Value.oneCell'];exact rfl)):p:=h
theorem zyz (S:Sto) {bx bp R bm:Nat} {size budget steps:Int} {rs:List (List Int)} {w:W} (hx:zad S bx=some (.cells (pC size budget steps rs bp R bm) TP)) (hw:MapW S bm w) (a id:Int) (ha:In64 a) (hid:In64 id) :
  RC Tryz.prog 141 [I a, .plc [.v (.pointer (some ⟨bx,0,none⟩))], .plc [I id]] S (Bo (decide (0<w a id))):=by
 obtain⟨f,es,clock,m1,m2,m3⟩:=hw.out
 have hkey:=keyA ha hid
 have hval:=m3 _ _ ha hid
 have J:=Hid.mk hval
 clear hval m3 hw
 refine DC.of_run Tryz.func141 rfl Tryz.ntmps141 Tryz.results141 (by simp) (fun _=>?_);simp only[zaq,zat,go_sem,Nat.zero_add,Nat.reduceAdd]
 repeat' (first|(with_reducible first|refine zac yU yU yX23 ?_|refine zab ?_|refine DS.seq ?_|refine zaa ?_)|refine zch (id:=1) [0,1,2,3,4,5,6] 7 (by kernel_rfl) zdq (by simp only[zba,zbg,zbh,zbi,zaz];exact rfl) (by simp only[zax,zay,List.drop_nil];exact rfl) ?_|(with_reducible first|refine zbz yU yU yU yX23 ?_|refine zdc ?_)|fail)
 refine ygs (key:=kA a id) kd90 yU yU m2 hkey yH yH (V.Is.two _ _) m1 yR ?_
 rw[J.out]
 simp only[zco]
 clear m1 m2 J hkey
 repeat' (first|(with_reducible first|refine zac yU yU yE ?_|refine zab ?_)|refine zci yE ⟨?_,rfl⟩|fail)
 rfl
theorem zuq (S:Sto) (l:List Int) {g:FuncId} {fs cs:List V} {fn:Func} (p:Int→Bool) (hf:FnOk Tryz.prog g fn) (h: ∀x∈l,RC Tryz.prog g (fs++ [I x]++cs) S (Bo (p x))) :
  RC Tryz.prog 111 [ints l, .fn g fs cs] S (I (idxF p l 0)):=by
 refine DC.of_run Tryz.func111 rfl Tryz.ntmps111 Tryz.results111 (by simp) (fun _=>?_);simp only[zaq,zat,go_sem,Nat.zero_add,Nat.reduceAdd]
 refine zjq (t:=0) yG (.inl rfl) (fun hb0=>?_);simp only[List.length_map]at hb0
 repeat' (first|(with_reducible first|refine zac yU yU yE ?_|refine zab ?_|refine DS.seq ?_|refine zaa ?_|refine DS.block ?_)|fail)
 refine zcl [0,1,7] yN (fun(i:Nat)=> [(8,I i)]) (fun(i:Nat)=>i≤l.length∧idxF p l 0=idxF p (l.drop i) i) (fun(i:Nat)=>l.length-i) 0 yS ⟨Nat.zero_le _,rfl⟩ (fun i B hI hB=>?_);try dsimp only at hI hB;simp only[zar,zav]
 repeat' (first|(with_reducible first|refine zac yU yU yE ?_|refine zab ?_|refine DS.seq ?_|refine zaa ?_|(refine zbc yE ?_;refine zen (fun _=>?_) (fun _=>?_))|refine DS.block ?_|refine DS.exit yU ?_|refine DS.skip ?_)|refine zci yE ⟨?_,rfl⟩|fail)
 ·refine yns hf (by simp (disch:=omega) only[go_sem,dopV,yV0,↓reduceIte,Nat.reduceEqDiff,Nat.reduceLT,Nat.reduceLeDiff,Nat.reduceAdd,Nat.reduceMul,Nat.reduceSub,Int.reduceToNat,Int.reduceLT,Int.reduceLE,Int.reduceEq,IntWalk.toNatUp,IntWalk.iteOmega,IntWalk.i64_in,V.flat,V.one]) (h l[i] (List.getElem_mem _)) yR yH ?_
  repeat' (first|(with_reducible first|refine zac yU yU yE ?_|refine zab ?_|refine DS.seq ?_|refine zaa ?_|(refine zbc yE ?_;refine ygy (fun _=>?_) (fun _=>?_))|refine DS.blk ?_|refine DS.skip ?_)|refine zci yE ⟨?_,rfl⟩|fail)
  ·rename_i h1 h2
   rw[hI.2,zmx (p:=p) (l:=l) (i:=i) (by omega) h2];rfl
  ·rename_i h1 h2
   exact DS.back (hB (i+1) _ _ (by omega) (⟨by omega,by rw[hI.2,zkp (by omega) h2]⟩) yS yS (fun b o e=>by first|exact e|(simp only[zae];split <;> simp_all)))
 ·rw[hI.2,zmy (p:=p) (l:=l) (i:=i) (by omega)];rfl
theorem zqn (S:Sto) (l:List Int) {g:FuncId} {fs cs:List V} {fn:Func} (p:Int→Bool) (hf:FnOk Tryz.prog g fn) (h: ∀x∈l,RC Tryz.prog g (fs++ [I x]++cs) S (Bo (p x))) :
  RC Tryz.prog 89 [ints l, .fn g fs cs] S (Bo (l.any p)):=by
 refine DC.of_run Tryz.func89 rfl Tryz.ntmps89 Tryz.results89 (by simp) (fun _=>?_);simp only[zaq,zat,go_sem,Nat.zero_add,Nat.reduceAdd]
 repeat' (first|(with_reducible first|refine zac yU yU yE ?_|refine zab ?_|refine DS.seq ?_|refine zaa ?_)|refine zij inferInstance (zuq S l p hf h) yR yT ?_|refine zci yE ⟨?_,rfl⟩|fail)
 rw[zfm,zou]
theorem yck (S:Sto) {bx bp R bm:Nat} {size budget steps:Int} {rs:List (List Int)} {w:W} (hx:zad S bx=some (.cells (pC size budget steps rs bp R bm) TP)) (hw:MapW S bm w) (t:List Int) (id:Int) (ha: ∀a∈t,In64 a) (hid:In64 id) :
  RC Tryz.prog 132 [.v (.pointer (some ⟨bx,0,none⟩)),ints t,I id] S (Bo (!t.any fun a=>decide (0<w a id))):=by
 have hcf:=zqn S t (fun a=>decide (0<w a id)) inferInstance (g:=141) (fs:= []) (cs:= [.plc [.v (.pointer (some ⟨bx,0,none⟩))], .plc [I id]]) (fun x hx'=>zyz S hx hw x id (ha x hx') hid)
 clear hx hw
 refine DC.of_run Tryz.func132 rfl Tryz.ntmps132 Tryz.results132 (by simp) (fun _=>?_);simp only[zaq,zat,go_sem,Nat.zero_add,Nat.reduceAdd]
 repeat' (first|(with_reducible first|refine zac yU yU yE ?_|refine zab ?_|refine DS.seq ?_|refine zaa ?_)|refine zij inferInstance (hcf) yR yT ?_|(refine zda (t:=3) yU yE yU ?_;simp only[zbs,zct,zbr,zcg,zbq,zbj,zbt,zbn,zcp,zcr,zcb,zcq,zcf,zce])|(refine zda (t:=5) yU yE yU ?_;simp only[zbs,zct,zbr,zcg,zbq,zbj,zbt,zbn,zcp,zcr,zcb,zcq,zcf,zce])|refine zci yE ⟨?_,rfl⟩|fail)
 rfl
theorem yX24 {p:Prop} (h:p:=by(simp (disch:=omega) only[go_sem,dopV,yV0,↓reduceIte,Nat.reduceEqDiff,Nat.reduceLT,Nat.reduceLeDiff,Nat.reduceAdd,Nat.reduceMul,Nat.reduceSub,Int.reduceToNat,Int.reduceLT,Int.reduceLE,Int.reduceEq,IntWalk.toNatUp,IntWalk.iteOmega,IntWalk.i64_in,V.flat,V.one, *,Value.oneCell',ykj];exact rfl)):p:=h
theorem yjd (S:Sto) {bx bp R bm:Nat} {size budget steps:Int} {rs:List (List Int)} {w:W} (hx:zad S bx=some (.cells (pC size budget steps rs bp R bm) TP)) (hw:MapW S bm w) (hbx:bx≠bm) (t:List Int) (by':Int) (ht: ∀a∈t,In64 a) (hl:t.length≤1000000) :
  DC Tryz.prog 114 [.v (.pointer (some ⟨bx,0,none⟩)),ints t,I by'] S (fun _ S'=>MapW S' bm (addT by' [] t w)∧ ∀b,b≠bm→zad S' b=zad S b):=by
 refine DC.of_run Tryz.func114 rfl Tryz.ntmps114 Tryz.results114 (by simp) (fun _=>?_);simp only[zaq,zat,go_sem,Nat.zero_add,Nat.reduceAdd]
 repeat' (first|(with_reducible first|refine zac yU yU yE ?_|refine zab ?_|refine DS.seq ?_|refine zaa ?_|refine DS.block ?_)|fail)
 refine zcn [0,1,2,10,11] yN (fun(z:Nat×Sto×W)=> [(12,I z.1)]) (fun(z:Nat×Sto×W)=>z.2.1) (fun(z:Nat×Sto×W)=>z.1≤t.length∧MapW z.2.1 bm z.2.2∧(∀b,b≠bm→zad z.2.1 b=zad S b)∧addT by' [] t w=addT by' (t.take z.1) (t.drop z.1) z.2.2) (fun(z:Nat×Sto×W)=>t.length-z.1) (0,S,w) yS (fun b o e=>by exact e) ⟨Nat.zero_le _,hw,fun _ _=>rfl,rfl⟩ (fun z B hI hB=>?_);try dsimp only at hI hB;simp only[zar,zav]
 obtain⟨j,S2,w2⟩:=z
 dsimp only at hI hB
 obtain⟨j1,j2,j4,j3⟩:=hI
 repeat' (first|(with_reducible first|refine zac yU yU yE ?_|refine zab ?_|refine DS.seq ?_|refine zaa ?_|(refine zbc yE ?_;refine zen (fun _=>?_) (fun _=>?_))|refine DS.block ?_|refine DS.exit yU ?_|refine DS.skip ?_)|fail)
 ·rename_i e3
  have hj:j<t.length:=by omega
  have hB2:=hB
  clear hB
  have hle:j≤t.length:=by omega
  obtain⟨pre,hpre⟩: ∃pre,pre=t.take j:=⟨_,rfl⟩
  have hpl:pre.length=j:=by rw[hpre,List.length_take];omega
  have hpi: ∀x∈pre,In64 x:=fun x hx=>ht x (List.mem_of_mem_take (hpre▸hx))
  have htk:List.take j (List.map cI t)=pre.map cI:=by rw[hpre,List.map_take]
  rw[←hpre]at j3
  have J0:=Hid.mk (And.intro hpre j3)
  have J1:=Hid.mk hx
  clear hpre j3 hx
  repeat' (first|(with_reducible first|refine zac yU yU yX22 ?_|refine zab ?_|refine DS.block ?_)|fail)
  clear htk
  refine zcn [0,1,2,7,10,11,12,19,20] yN (fun(u:Nat×Sto×W)=> [(21,I u.1)]) (fun(u:Nat×Sto×W)=>u.2.1) (fun(u:Nat×Sto×W)=>u.1≤j∧MapW u.2.1 bm u.2.2∧(∀b,b≠bm→zad u.2.1 b=zad S b)∧addR by' (t[j]'hj) pre w2=addR by' (t[j]'hj) (pre.drop u.1) u.2.2) (fun(u:Nat×Sto×W)=>j-u.1) (0,S2,w2) yS (fun b o e=>by exact e) ⟨Nat.zero_le _,j2,j4,rfl⟩ (fun u B hI hB=>?_);try dsimp only at hI hB;simp only[zar,zav]
  obtain⟨p,S3,w3⟩:=u
  dsimp only at hI hB
  obtain⟨p1,p2,p4,p3⟩:=hI
  clear j2 j4
  repeat' (first|(with_reducible first|refine zac yU yU yE ?_|refine zab ?_|refine DS.seq ?_|refine zaa ?_|(refine zbc yE ?_;refine zen (fun _=>?_) (fun _=>?_))|refine DS.blk ?_|refine DS.block ?_|refine DS.exit yU ?_|refine DS.skip ?_)|fail)
  ·rename_i e4
   have hp:p<pre.length:=by omega
   obtain⟨fm,es,clock,m1,m2,m3⟩:=p2.out
   have hdel: ∀b' o,zad (delS bm S3) b'=some o→zad S3 b'=some o∧zad [(bm,Ob.raw (.map es clock))] b'=none:=fun b' o e=>by
    rw[zcx]at e
    split at e
    ·cases e
    ·rename_i hne
     exact⟨e,by simp only[zad];rw[if_neg (fun h=>hne h.symm)]⟩
   have hone: ∀b' o,zad [(bm,Ob.raw (.map es clock))] b'=some o→zad S3 b'=some o:=fun b' o e=>by
    simp only[zad]at e
    split at e
    ·rename_i hbb;subst hbb;rw[m1];exact e
    ·cases e
   have hMp:MpOk Tryz.prog [⟨bm,90, .int .i64 0,fun x=>(fm x).getD (.int .i64 0)⟩] ([(bm,Ob.raw (.map es clock))]++delS bm S3):=fun m hm=>by
    rw[List.mem_singleton]at hm
    subst hm
    exact⟨_,by simp[zad],es,clock,fm,rfl,m2,fun _=>rfl⟩
   have hxd:zad (delS bm S3) bx=some (.cells (pC size budget steps rs bp R bm) TP):=by rw[zcx,if_neg hbx,p4 bx hbx];exact J1.out
   refine yby (id:=6) (delS bm S3) ([(bm,Ob.raw (.map es clock))]) ([⟨bm,90, .int .i64 0,fun x=>(fm x).getD (.int .i64 0)⟩]) [0,1,2,3,4,5,6,7,8,9,10,11] 12 (by kernel_rfl) zdq (by simp only[zba,zbg,zbh,zbi,zaz];exact rfl) (by simp only[zax,zay,List.drop_nil];exact rfl) (hMp) (hdel) (hone) ?_
   repeat' (first|with_reducible refine zbz yU yU yU yX24 ?_|fail)
   have hin1:=hpi _ (List.getElem_mem hp)
   have hin2:=ht _ (List.getElem_mem hj)
   have hkey:=keyA hin1 hin2
   have hval:=m3 _ _ hin1 hin2
   refine ygx (me:=⟨bm,90, .int .i64 0,fun x=>(fm x).getD (.int .i64 0)⟩) (key:=kA pre[p] (t[j]'hj)) (List.mem_singleton.2 rfl) kd90 yU yU yR yH yH (V.Is.two _ _) hkey ?_
   simp only[hval,zco]
   repeat' (first|with_reducible refine zbz yU yU yU yE ?_|fail)
   refine ycb (key:=kA pre[p] (t[j]'hj)) kd90 yU yU m2 hkey yH yH (V.Is.two _ _) (by simp only[zad,if_true]) yR (fun me hme _=>by rw[List.mem_singleton]at hme;subst hme;exact⟨rfl,rfl⟩) (fun st es1 clock1 n1 n2=>?_)
   simp only[zco]
   repeat' (first|with_reducible refine zkc yU yU yU yU yE ?_|(with_reducible refine DD.nil ?_;simp only[zar,zav])|fail)
   have hs2:zad (setS bm (Ob.raw (Obj.map es1 clock1)) [(bm,Ob.raw (Obj.map es clock))]++delS bm S3) bm=some (Ob.raw (Obj.map es1 clock1)):=by simp[setS,zad]
   refine DS.entryStore n2 yH (by(simp (disch:=omega) only[go_sem,dopV,yV0,↓reduceIte,Nat.reduceEqDiff,Nat.reduceLT,Nat.reduceLeDiff,Nat.reduceAdd,Nat.reduceMul,Nat.reduceSub,Int.reduceToNat,Int.reduceLT,Int.reduceLE,Int.reduceEq,IntWalk.toNatUp,IntWalk.iteOmega,IntWalk.i64_in,V.flat,V.one,goInt];try exact rfl)) yH hs2 yR (fun es2 n3=>?_)
   have hW:MapW (setS bm (Ob.raw (Obj.map es2 clock1)) (setS bm (Ob.raw (Obj.map es1 clock1)) [(bm,Ob.raw (Obj.map es clock))]++delS bm S3)) bm (addP by' w3 pre[p] (t[j]'hj)):=by
    refine⟨_,es2,clock1,by rw[zbe hs2,if_pos rfl],n3,fun x y hx hy=>?_⟩
    by_cases hxy:x=pre[p]∧y=(t[j]'hj)
    ·rw[addP,if_pos hxy,hxy.1,hxy.2,zir];rfl
    ·rw[addP,if_neg hxy,zlj _ _ (fun h=>hxy (by simp only[kA,Value.agg.injEq]at h;simp at h;exact h)),m3 x y hx hy]
   have hF: ∀b,b≠bm→zad (setS bm (Ob.raw (Obj.map es2 clock1)) (setS bm (Ob.raw (Obj.map es1 clock1)) [(bm,Ob.raw (Obj.map es clock))]++delS bm S3)) b=zad S b:=fun b hb=>by
    rw[zbe hs2,if_neg hb,←p4 b hb,zbd]
    have h1:zad (setS bm (Ob.raw (Obj.map es1 clock1)) [(bm,Ob.raw (Obj.map es clock))]) b=none:=by
     rw[zbe (o0:=Ob.raw (Obj.map es clock)) (by simp[zad]),if_neg hb];simp only[zad];rw[if_neg (fun h=>hb h.symm)]
    rw[h1]
    simp only[]
    rw[zcx,if_neg hb]
   generalize setS bm (Ob.raw (Obj.map es2 clock1)) (setS bm (Ob.raw (Obj.map es1 clock1)) [(bm,Ob.raw (Obj.map es clock))]++delS bm S3)=S5 at *
   clear hs2 n3 n2 n1 m1 m2 m3 hMp hdel hone hval hkey hxd
   simp only[zbo]
   repeat' (first|(with_reducible first|refine zac yU yU yE ?_|refine zab ?_|refine zaa ?_|refine DS.blk ?_)|fail)
   refine DS.back (hB (p+1,S5,addP by' w3 pre[p] (t[j]'hj)) _ _ (by dsimp only;omega) ⟨by dsimp only;omega,hW,hF,by rw[p3,List.drop_eq_getElem_cons hp,addR]⟩ yS yS (fun b o e=>by exact e))
  ·rename_i e4
   have hp:p=j:=by omega
   have J:=J0.out
   subst hp
   rw[List.drop_eq_nil_of_le (by omega)]at p3
   skip
   refine DS.back (hB2 (p+1,S3,w3) _ _ (by dsimp only;omega) ⟨by dsimp only;omega,p2,p4,by rw[J.2,List.drop_eq_getElem_cons hj,addT,p3,List.take_succ_eq_append_getElem hj,←J.1];rfl⟩ yS yS (fun b o e=>by exact e))
 ·rename_i e3
  rw[List.drop_eq_nil_of_le (by omega)]at j3
  refine zpv yG ⟨?_,j4⟩
  rw[j3]
  exact j2
end Go.XL
namespace Go.XL
open Go.Proofs
set_option maxRecDepth 100000
set_option maxHeartbeats 8000000
theorem yqa (t:List Int) (id:Int):PC Tryz.prog 116 [I id, .plc [ints t]] (Bo (decide (id∈t))):=by
 refine DC.of_run Tryz.func116 rfl Tryz.ntmps116 Tryz.results116 (by simp) (fun _=>?_);simp only[zaq,zat,go_sem,Nat.zero_add,Nat.reduceAdd]
 repeat' (first|(with_reducible first|refine zac yU yU yE ?_|refine zab ?_|refine DS.seq ?_|refine zaa ?_)|refine zcd inferInstance (ydf t id) yR yT ?_|refine zbf [] yE trivial ?_|fail)
 rfl
def capF (bx l bf:Nat):List V:= [.plc [.v (.pointer (some ⟨bx,0,none⟩))], .plc [V.yl l], .v (.pointer (some ⟨bf,0,none⟩))]
structure FEnv (S:Sto) (bx l bf:Nat) (size:Int) (met:Int→Int→Bool):Prop where
 self:zad S bf=some (.cells [.fn 131 [] (capF bx l bf)] 37)
 srch: ∃budget steps rs bp R bm w B,zad S bx=some (.cells (pC size budget steps rs bp R bm) TP)∧MapW S bm w∧GoodW B met w∧bx≠bm∧bf≠bx∧bf≠bm
theorem yX25 {p:Prop} (h:p:=by(simp (disch:=omega) only[go_sem,dopV,yV0,↓reduceIte,Nat.reduceEqDiff,Nat.reduceLT,Nat.reduceLeDiff,Nat.reduceAdd,Nat.reduceMul,Nat.reduceSub,Int.reduceToNat,Int.reduceLT,Int.reduceLE,Int.reduceEq,IntWalk.toNatUp,IntWalk.iteOmega,IntWalk.i64_in,V.flat,V.one, *,ykj];exact rfl)):p:=h
theorem yX26 {p:Prop} (h:p:=by(simp (disch:=omega) only[go_sem,dopV,yV0,↓reduceIte,Nat.reduceEqDiff,Nat.reduceLT,Nat.reduceLeDiff,Nat.reduceAdd,Nat.reduceMul,Nat.reduceSub,Int.reduceToNat,Int.reduceLT,Int.reduceLE,Int.reduceEq,IntWalk.toNatUp,IntWalk.iteOmega,IntWalk.i64_in,V.flat,V.one, *,zih,List.forall_mem_map,implies_true,zfz,zdu];exact rfl)):p:=h
theorem yX27 {p:Prop} (h:p:=by(simp (disch:=omega) only[go_sem,dopV,yV0,↓reduceIte,Nat.reduceEqDiff,Nat.reduceLT,Nat.reduceLeDiff,Nat.reduceAdd,Nat.reduceMul,Nat.reduceSub,Int.reduceToNat,Int.reduceLT,Int.reduceLE,Int.reduceEq,IntWalk.toNatUp,IntWalk.iteOmega,IntWalk.i64_in,V.flat,V.one, *,zih,List.forall_mem_map,implies_true,zfz,zdu];try exact rfl)):p:=h
theorem yX28 {p:Prop} (h:p:=by first|exact rfl|(simp (disch:=omega) only[go_sem,dopV,yV0,↓reduceIte,Nat.reduceEqDiff,Nat.reduceLT,Nat.reduceLeDiff,Nat.reduceAdd,Nat.reduceMul,Nat.reduceSub,Int.reduceToNat,Int.reduceLT,Int.reduceLE,Int.reduceEq,IntWalk.toNatUp,IntWalk.iteOmega,IntWalk.i64_in,V.flat,V.one, *,zih,List.forall_mem_map,implies_true,zfz,zdu];exact rfl)):p:=h
theorem yX29 {p:Prop} (h:p:=by(simp (disch:=omega) only[go_sem,dopV,yV0,↓reduceIte,Nat.reduceEqDiff,Nat.reduceLT,Nat.reduceLeDiff,Nat.reduceAdd,Nat.reduceMul,Nat.reduceSub,Int.reduceToNat,Int.reduceLT,Int.reduceLE,Int.reduceEq,IntWalk.toNatUp,IntWalk.iteOmega,IntWalk.i64_in,V.flat,V.one,capF];try exact rfl)):p:=h
theorem yX30 {p:Prop} (h:p:=by(simp (disch:=omega) only[go_sem,dopV,yV0,↓reduceIte,Nat.reduceEqDiff,Nat.reduceLT,Nat.reduceLeDiff,Nat.reduceAdd,Nat.reduceMul,Nat.reduceSub,Int.reduceToNat,Int.reduceLT,Int.reduceLE,Int.reduceEq,IntWalk.toNatUp,IntWalk.iteOmega,IntWalk.i64_in,V.flat,V.one,capF,List.map_append];try exact rfl)):p:=h
theorem ygg {v1:VH} {l bx bf:Nat} {size:Nat} {met:Int→Int→Bool} (Inv:List (List Int)→Sto→Prop) (Done:Sto→Prop) (hE: ∀X S,Inv X S→FEnv S bx l bf size met)
  (hY: ∀t X S,t.length=size→Inv (t::X) S→YC v1 Tryz.prog l [ints t] S (fun u S'=>(u=Bo true∧Inv X S')∨(u=Bo false∧Done S'))) :
  ∀(n:Nat) (t ids:List Int) (X:List (List Int)) (S:Sto),n≤100→(t++ids).Pairwise (· < ·)→(∀a∈t++ids,In64 a)→t.length+n=size→size≤100→ids.length≤1000000→Inv (zgo (zbx met) n t ids++X) S →
  DCh v1 Tryz.prog 131 [ints t,ints ids, .plc [.v (.pointer (some ⟨bx,0,none⟩))], .plc [V.yl l], .v (.pointer (some ⟨bf,0,none⟩))] S (fun u S'=>(u=Bo true∧Inv X S')∨(u=Bo false∧Done S'))
 | 0,t,ids,X,S,hn,hp,hin,hl,hs,hil,hI=>by
  have hI':Inv (t::X) S:=by simpa [zgo] using hI
  obtain⟨f1,budget,steps,rs,bp,R,bm,w,B,f2,f3,f4,f5,f6,f7⟩:=hE _ _ hI'
  have hY':=hY t X S (by omega) hI'
  have hlen:(t.length:Int)=size:=by omega
  clear hI hI' hY hE f1 f3 f4
  refine DCh.of_run Tryz.func131 rfl Tryz.ntmps131 Tryz.results131 (by simp) ?_;simp only[zaq,zat,go_sem,Nat.zero_add,Nat.reduceAdd]
  repeat' (first|(with_reducible first|refine zac yU yU yX25 ?_|refine zab ?_|refine DS.seq ?_|refine zaa ?_|(refine zbc yX25 ?_;refine zdb ?_))|fail)
  refine ynq yH hY' yR yH (fun u S' hu=>?_)
  clear hY' f2
  rcases hu with⟨rfl,hu⟩|⟨rfl,hu⟩
  ·repeat' (first|(with_reducible first|refine zac yU yU yE ?_|refine zab ?_)|fail)
   refine zci yG (.inl ⟨rfl,hu⟩)
  ·repeat' (first|(with_reducible first|refine zac yU yU yE ?_|refine zab ?_)|fail)
   refine zci yG (.inr ⟨rfl,hu⟩)
 | n+1,t,ids,X,S,hn,hp,hin,hl,hs,hil,hI=>by
  have ih:=ygg Inv Done hE hY n
  have hlen: ¬(t.length:Int)=size:=by omega
  have hI0:Inv (zfi (zbx met) (zgo (zbx met) n) t ids++X) S:=by simpa [zgo] using hI
  obtain⟨f1,budget,steps,rs,bp,R,bm,w,B,f2,f3,f4,f5,f6,f7⟩:=hE _ _ hI0
  have htl:t.length≤100:=by omega
  clear hI hY f1 f3 f4
  refine DCh.of_run Tryz.func131 rfl Tryz.ntmps131 Tryz.results131 (by simp) ?_;simp only[zaq,zat,go_sem,Nat.zero_add,Nat.reduceAdd]
  repeat' (first|(with_reducible first|refine zac yU yU yX25 ?_|refine zab ?_|refine DS.seq ?_|refine zaa ?_|(refine zbc yX25 ?_;refine zdd ?_)|refine DS.block ?_|refine DS.skip ?_)|fail)
  clear f2 f5 f6 f7
  refine zcn [0,1,2,4,20,21] yN (fun(x:Nat×Sto)=> [(22,I x.1)]) (fun(x:Nat×Sto)=>x.2) (fun(x:Nat×Sto)=>x.1≤ids.length∧Inv (zfi (zbx met) (zgo (zbx met) n) t (ids.drop x.1)++X) x.2) (fun(x:Nat×Sto)=>ids.length-x.1) (0,S) yS (fun b o e=>by exact e) ⟨Nat.zero_le _,hI0⟩ (fun x B hI hB=>?_);try dsimp only at hI hB;simp only[zar,zav]
  clear hI0
  obtain⟨i,S1⟩:=x
  dsimp only at hI hB
  obtain⟨g1,g2⟩:=hI
  repeat' (first|(with_reducible first|refine zac yU yU yE ?_|refine zab ?_|refine DS.seq ?_|refine zaa ?_|(refine zbc yE ?_;refine zen (fun _=>?_) (fun _=>?_))|refine DS.block ?_|refine DS.exit yU ?_|refine DS.skip ?_)|fail)
  ·rename_i e1
   have hi:i<ids.length:=by omega
   obtain⟨f1,budget,steps,rs,bp,R,bm,w,B,f2,f3,f4,f5,f6,f7⟩:=hE _ _ g2
   obtain⟨fm,es,clock,m1,m2,m3⟩:=f3.out
   obtain⟨k0,k1,k2,k3⟩:=ytz f2 m1 f5
   have hself:=(k3 bf f6 f7).trans f1
   have hpt:(t++ [ids[i]]).Pairwise (· < ·)∧(t++ [ids[i]]++ids.drop (i+1)).Pairwise (· < ·):=by
    have h1:(t++ids.drop i).Pairwise (· < ·):=hp.sublist (List.Sublist.append (List.Sublist.refl t) (List.drop_sublist i ids))
    rw[List.drop_eq_getElem_cons hi]at h1
    have h2:t++ids[i]::ids.drop (i+1)=t++ [ids[i]]++ids.drop (i+1):=by simp
    rw[h2]at h1
    exact⟨h1.sublist (List.sublist_append_left ..),h1⟩
   have hlt: ∀a∈t,a<ids[i]:=fun a ha=>(List.pairwise_append.1 hpt.1).2.2 a ha _ (by simp)
   have hst:=yck [(bx, .cells (pC size budget steps rs bp R bm) TP),(bm, .raw (.map es clock))] (bx:=bx) (bp:=bp) (R:=R) (bm:=bm) (size:=size) (budget:=budget) (steps:=steps) (rs:=rs) (w:=w) (by simp only[zad,if_true]) ⟨fm,es,clock,by simp[zad,f5],m2,m3⟩ t ids[i] (fun a ha=>hin a (by simp[ha])) (hin _ (by simp))
   rw[←yhj f4 hlt]at hst
   have H:=And.intro hpt (And.intro hlt (And.intro f1 (And.intro f2 (And.intro m1 (And.intro k2 g2)))))
   clear hpt hlt f1 f2 f3 f4 m1 m2 m3 k2 k3 f5 f6 f7 g2 hE
   skip
   refine zhi (id:=6) (delS bx (delS bm S1)) ([(bx, .cells (pC size budget steps rs bp R bm) TP),(bm, .raw (.map es clock))]) [0,1,2,3,4,5,6,7,8,9,10,11,12,13,14] 15 (by kernel_rfl) zdq (by simp only[zba,zbg,zbh,zbi,zaz];exact rfl) (by simp only[zax,zay,List.drop_nil];exact rfl) (k0) (k1) ?_
   repeat' (first|with_reducible refine zbz yU yU yU yE ?_|fail)
   refine ytm inferInstance hst yR yH ?_
   repeat' (first|(with_reducible first|refine zac yU yU yX26 ?_|refine zab ?_|refine zaa ?_|(refine zbc yX26 ?_;refine zdd ?_)|(refine zea yU yX26 ?_;first|refine GG.run ?_|refine zfy ?_)|refine DS.blk ?_|refine DS.skip ?_|refine zbz yU yU yU yX26 ?_|(refine zuj yU yX26 ?_;first|refine DGG.run ?_|refine zqk ?_|refine yvf (fun _=>?_) (fun _=>?_)))|(with_reducible refine DD.nil ?_;simp only[zar,zav])|refine zml inferInstance (ybm t (by omega)) yU yX27 ?_;simp only[zca,zck,Nat.reduceEqDiff,↓reduceIte]|(refine ziq yU yX26 yX26 ?_;simp only[go_sem,Nat.zero_add,Nat.reduceAdd];simp only[zca,zck,Nat.reduceEqDiff,↓reduceIte])|(refine DD.append (mm:=false) yU yX26 yX26 yU (by decide) yX26 (by first|exact .inl rfl|exact .inr ⟨rfl,rfl⟩) yX26 yX28 (by first|exact zas zdu _|exact zas zer _|exact zas Member.len _|exact zas Sitting.len _|exact zas Ruling.len _|(simp only[List.mem_cons,List.not_mem_nil,or_false,forall_eq];rfl)|simp) ⟨by(try simp only[List.length_map,List.length_cons,List.length_nil,List.length_append,List.length_take,List.length_drop]);omega,by decide⟩ ?_;simp only[zam,zaf,zag,Nat.reduceEqDiff,↓reduceIte,zaj,zak,zap,zai,zah,zan,zal];simp only[zca,zck,Nat.reduceEqDiff,↓reduceIte])|fail)
   ·rename_i e2
    refine zet (S':=S1) (fun b o e=>H.2.2.2.2.2.1 b o e) ?_
    have hih:=ih (t++ [ids[i]]) (ids.drop (i+1)) (zfi (zbx met) (zgo (zbx met) n) t (ids.drop (i+1))++X) S1 (by omega) H.1.2 (fun a ha=>hin a (by
     simp only[List.append_assoc,List.mem_append,List.mem_singleton]at ha ⊢
     rcases ha with h|h|h
     ·exact .inl h
     ·exact .inr (h▸List.getElem_mem _)
     ·exact .inr (List.mem_of_mem_drop h))) (by simp;omega) hs (by simp;omega) (by
     have h1:=H.2.2.2.2.2.2
     rw[ybd hi,if_pos e2,List.append_assoc]at h1
     exact h1)
    clear ih
    have ea:ints (t++ [ids[i]]) = .lst (List.map cI t++ [[.v (.int .i64 ids[i])]]):=by simp[cI]
    rw[ea]at hih
    refine zwf inferInstance yX29 hih yR yX30 (fun u S' hu=>?_)
    clear hih
    rcases hu with⟨rfl,hu⟩|⟨rfl,hu⟩
    ·repeat' (first|(with_reducible first|refine zac yU yU yE ?_|refine zab ?_|refine zaa ?_|(refine zbc yE ?_;refine zdd ?_)|(refine zea yU yE ?_;refine GG.run ?_)|refine DS.blk ?_|refine DS.skip ?_)|fail)
     refine DS.back (hB (i+1,S') _ _ (by dsimp only;omega) ⟨by dsimp only;omega,hu⟩ yS yS (fun b o e=>by exact e))
    ·repeat' (first|(with_reducible first|refine zac yU yU yE ?_|refine zab ?_|refine DS.seq ?_|refine zaa ?_|(refine zbc yE ?_;refine zdb ?_)|(refine zea yU yE ?_;refine GG.run ?_))|fail)
     refine zci yG (.inr ⟨rfl,hu⟩)
   ·rename_i e2
    refine zet (S':=S1) (fun b o e=>H.2.2.2.2.2.1 b o e) ?_
    have h1:=H.2.2.2.2.2.2
    rw[ybd hi,if_neg (by rw[e2];decide),List.nil_append]at h1
    refine DS.back (hB (i+1,S1) _ _ (by dsimp only;omega) ⟨by dsimp only;omega,h1⟩ yS yS (fun b o e=>by exact e))
  ·rename_i e1
   rw[List.drop_eq_nil_of_le (by omega)]at g2
   refine zci yG (.inl ⟨rfl,by simpa [zfi] using g2⟩)
theorem yim (bx:Nat) (t ids:List Int):PC Tryz.prog 113 [.v (.pointer (some ⟨bx,0,none⟩)),ints t,ints ids] (.fn 130 [] [.plc [.v (.pointer (some ⟨bx,0,none⟩))], .plc [ints t], .plc [ints ids]]):=by
 refine DC.of_run Tryz.func113 rfl Tryz.ntmps113 Tryz.results113 (by simp) (fun _=>?_);simp only[zaq,zat,go_sem,Nat.zero_add,Nat.reduceAdd]
 repeat' (first|(with_reducible first|refine zac yU yU yE ?_|refine zab ?_|refine DS.seq ?_|refine zaa ?_)|(refine zda (t:=3) yU yE yU ?_;simp only[zbs,zct,zbr,zcg,zbq,zbj,zbt,zbn,zcp,zcr,zcb,zcq,zcf,zce])|(refine zda (t:=4) yU yE yU ?_;simp only[zbs,zct,zbr,zcg,zbq,zbj,zbt,zbn,zcp,zcr,zcb,zcq,zcf,zce])|(refine zda (t:=5) yU yE yU ?_;simp only[zbs,zct,zbr,zcg,zbq,zbj,zbt,zbn,zcp,zcr,zcb,zcq,zcf,zce])|refine zbf [] yE trivial ?_|fail)
 rfl
def zju (S:Sto) (bx l bf:Nat):Prop:=zad S bf=some (.cells [.fn 131 [] (capF bx l bf)] 37)
def ywi (S:Sto) (bx:Nat) (size:Int) (met:Int→Int→Bool):Prop:= ∃budget steps rs bp R bm w B,zad S bx=some (.cells (pC size budget steps rs bp R bm) TP)∧MapW S bm w∧GoodW B met w∧bx≠bm
theorem yda {v1:VH} {l bx:Nat} {size:Nat} {met:Int→Int→Bool} (Inv:List (List Int)→Sto→Prop) (Done:Sto→Prop) (S:Sto) (n:Nat) (t ids:List Int) (hn:n≤100) (hp:(t++ids).Pairwise (· < ·)) (hin: ∀a∈t++ids,In64 a) (hl:t.length+n=size) (hs:size≤100) (hil:ids.length≤1000000)
  (hE: ∀X S,Inv X S→ywi S bx size met)
  (hY: ∀bf t X S,t.length=size→Inv (t::X) S→zju S bx l bf→YC v1 Tryz.prog l [ints t] S (fun u S'=>((u=Bo true∧Inv X S')∨(u=Bo false∧Done S'))∧zju S' bx l bf))
  (hI: ∀S',(∀b o,zad S b=some o→zad S' b=some o)→Inv (zgo (zbx met) n t ids) S') :
  DCh v1 Tryz.prog 130 [V.yl l, .plc [.v (.pointer (some ⟨bx,0,none⟩))], .plc [ints t], .plc [ints ids]] S (fun _ S'=>Inv [] S'∨Done S'):=by
 refine DCh.of_run Tryz.func130 rfl Tryz.ntmps130 Tryz.results130 (by simp) ?_;simp only[zaq,zat,go_sem,Nat.zero_add,Nat.reduceAdd]
 repeat' (first|(with_reducible first|refine zab ?_|refine DS.seq ?_|refine zaa ?_)|(refine zda (t:=4) yU yE yU ?_;simp only[zbs,zct,zbr,zcg,zbq,zbj,zbt,zbn,zcp,zcr,zcb,zcq,zcf,zce])|fail)
 refine zej yR yU yU (fun bf hbf=>?_)
 have hz:(List.map V.v (Value.nilFunc).cells.toList)= [.v .nilFunc]:=rfl
 rw[hz]
 clear hz
 repeat' (first|(with_reducible first|refine zac yU yU yE ?_|refine zab ?_|refine DS.seq ?_|refine zaa ?_)|(refine DS.store yR yE yE yE yE yU (by exact⟨by with_unfolding_all rfl,by(try simp only[List.length_map,List.length_append,List.length_set,List.length_replicate,List.length_cons,List.length_nil]);omega⟩) ?_;simp only[zbo,zau,zaw,zbw,zbm,zbk,zbl];try simp only[zam,zaf,zag,Nat.reduceEqDiff,↓reduceIte,zaj,zak,zap,zai,zah,zan,zal])|fail)
 refine zet (S':=(bf, .cells [.fn 131 [] (capF bx l bf)] 37)::S) (fun b o e=>by simp only[setS,if_true,yjt,zau,zaw,zcc];exact e) ?_
 have hS2:zju ((bf, .cells [.fn 131 [] (capF bx l bf)] 37)::S) bx l bf:=by simp[zju,zad]
 have hI2:=hI ((bf, .cells [.fn 131 [] (capF bx l bf)] 37)::S) (fun b o e=>by
  simp only[zad]
  rw[if_neg (fun h=>by subst h;rw[hbf]at e;cases e)];exact e)
 generalize ((bf,Ob.cells [.fn 131 [] (capF bx l bf)] 37)::S)=S2 at *
 have hd:=ygg (v1:=v1) (l:=l) (bx:=bx) (bf:=bf) (size:=size) (met:=met) (fun X S=>Inv X S∧zju S bx l bf) (fun S=>Done S∧zju S bx l bf)
  (fun X S h=>by
   obtain⟨budget,steps,rs,bp,R,bm,w,B,f2,f3,f4,f5⟩:=hE X S h.1
   have hs:=h.2
   refine⟨h.2,budget,steps,rs,bp,R,bm,w,B,f2,f3,f4,f5,fun e=>?_,fun e=>?_⟩
   ·subst e
    simp only[zju]at hs
    rw[hs]at f2
    simp[pC]at f2
   ·subst e
    obtain⟨_,_,_,m1,_⟩:=f3.out
    simp only[zju]at hs
    rw[hs]at m1
    simp at m1)
  (fun t X S h1 h2 K hv hold h xs a1 a2 a3 w a4=>by
   obtain⟨f,tm,x,y,b1,b2⟩:=hY bf t X S h1 h2.1 h2.2 K hv hold h xs a1 a2 a3 w a4
   refine⟨f,tm,x,y,b1,b2.mono fun e w' ⟨u,c1,c2,v,S',hv',hold',c3,c4,c5,c6⟩=>⟨u,c1,c2,v,S',hv',hold',c3,c4,?_⟩⟩
   rcases c5 with⟨rfl,c5⟩|⟨rfl,c5⟩
   ·exact .inl ⟨rfl,c5,c6⟩
   ·exact .inr ⟨rfl,c5,c6⟩)
  n t ids [] S2 hn hp hin hl hs hil ⟨by simpa using hI2,hS2⟩
 clear hE hY hI hI2 hbf
 refine zwf inferInstance yX29 hd yR yX29 (fun u S' hu=>?_)
 repeat' (first|with_reducible refine zab ?_|fail)
 refine zpv yG ?_
 rcases hu with⟨rfl,hu⟩|⟨rfl,hu⟩
 ·exact .inl hu.1
 ·exact .inr hu.1
end Go.XL
namespace Go.XL
open Go.Proofs
set_option maxRecDepth 100000
set_option maxHeartbeats 8000000
structure SearchP (S:Sto) (bx bp bm:Nat) (size:Int) (rs:List (List Int)) (budget steps:Int) (w:W) (ps:List PRow):Prop where
 obj:zad S bx=some (.cells (pC size budget steps rs bp ps.length bm) TP)
 map:MapW S bm w
 pln:zad S bp=some (.cells (ps.map PRow.cell) 49)
 row: ∀(i:Nat) (h:i<ps.length),ps[i].Ok S
 xp:bx≠bp
 rx: ∀(i:Nat) (h:i<ps.length) (b cap:Nat) (j:List V),ps[i].blk=some (b,cap,j)→b≠bx∧b≠bp
 rr: ∀(i k:Nat) (hi:i<ps.length) (hk:k<ps.length) (b cap cap':Nat) (j j':List V),ps[i].blk=some (b,cap,j)→ps[k].blk=some (b,cap',j')→i=k
section
variable {S S':Sto} {bx bp bm:Nat} {size budget steps:Int} {rs:List (List Int)} {w:W} {ps:List PRow}
theorem MapW.ne_cells {S:Sto} {b bm:Nat} {w:W} (m:MapW S bm w) {l:List V} {T:TypeId} (h:zad S b=some (.cells l T)):b≠bm:=fun e=>by
 subst e
 obtain⟨_,_,_,m1,_⟩:=m.out
 rw[h]at m1;simp at m1
theorem MapW.of {S S':Sto} {bm:Nat} {w:W} (m:MapW S bm w) (e:zad S' bm=zad S bm):MapW S' bm w:=by
 obtain⟨f,es,clock,m1,m2,m3⟩:=m.out
 exact⟨f,es,clock,by rw[e];exact m1,m2,m3⟩
theorem SearchP.xm (s:SearchP S bx bp bm size rs budget steps w ps):bx≠bm:=s.map.ne_cells s.obj
theorem SearchP.pm (s:SearchP S bx bp bm size rs budget steps w ps):bp≠bm:=s.map.ne_cells s.pln
theorem SearchP.rm (s:SearchP S bx bp bm size rs budget steps w ps) {i:Nat} (h:i<ps.length) {b cap:Nat} {j:List V} (hb:ps[i].blk=some (b,cap,j)):b≠bm:=by
 have h3:=s.row i h
 generalize ps[i]=p at hb h3
 obtain⟨T',blk⟩:=p
 dsimp only at hb
 subst hb
 exact s.map.ne_cells h3.1
theorem SearchP.of (s:SearchP S bx bp bm size rs budget steps w ps) (e: ∀b,b=bx∨b=bp∨b=bm∨(∃(i:Nat) (h:i<ps.length) (cap:Nat) (j:List V),ps[i].blk=some (b,cap,j))→zad S' b=zad S b):SearchP S' bx bp bm size rs budget steps w ps :=
 ⟨by rw[e _ (.inl rfl)];exact s.obj,s.map.of (e _ (.inr (.inr (.inl rfl)))),by rw[e _ (.inr (.inl rfl))];exact s.pln,fun i h=>(s.row i h).of fun b cap j hb=>e b (.inr (.inr (.inr ⟨i,h,cap,j,hb⟩))),s.xp,s.rx,s.rr⟩
theorem SearchP.steps' (s:SearchP S bx bp bm size rs budget steps w ps) (n:Int):SearchP (setS bx (.cells (pC size budget n rs bp ps.length bm) TP) S) bx bp bm size rs budget n w ps:=by
 have e: ∀b,b≠bx→zad (setS bx (.cells (pC size budget n rs bp ps.length bm) TP) S) b=zad S b:=fun b hb=>by rw[zbe s.obj,if_neg hb]
 refine⟨by rw[zbe s.obj,if_pos rfl],s.map.of (e _ s.xm.symm),by rw[e _ s.xp.symm];exact s.pln,fun i h=>(s.row i h).of fun b cap j hb=>e b (s.rx i h b cap j hb).1,s.xp,s.rx,s.rr⟩
theorem SearchP.counted {w':W} (s:SearchP S bx bp bm size rs budget steps w ps) (m:MapW S' bm w') (e: ∀b,b≠bm→zad S' b=zad S b):SearchP S' bx bp bm size rs budget steps w' ps :=
 ⟨by rw[e _ s.xm];exact s.obj,m,by rw[e _ s.pm];exact s.pln,fun i h=>(s.row i h).of fun b cap j hb=>e b (s.rm h hb),s.xp,s.rx,s.rr⟩
theorem SearchP.turn (s:SearchP S bx bp bm size rs budget steps w ps) {r:Nat} (hr:r<ps.length) {T:List (List Int)} {b' cap':Nat} {junk:List V}
  (hb:(∃cap j,ps[r].blk=some (b',cap,j))∨zad S b'=none) (hok:PRow.Ok S' ⟨T,some (b',cap',junk)⟩) (hp:zad S' bp=some (.cells ((ps.map PRow.cell).set r (.v (.slice (some ⟨b',0,none⟩) T.length cap'))) 49))
  (e: ∀b,b≠bp→b≠b'→(∀cap j,ps[r].blk≠some (b,cap,j))→zad S' b=zad S b) :
  SearchP S' bx bp bm size rs budget steps w (ps.set r ⟨T,some (b',cap',junk)⟩):=by
 have n1:b'≠bx∧b'≠bp:=by
  rcases hb with⟨cap,j,h⟩|h
  ·exact s.rx r hr b' cap j h
  ·refine⟨?_,?_⟩
   ·intro h';rw[h',s.obj]at h;cases h
   ·intro h';rw[h',s.pln]at h;cases h
 have nm:b'≠bm:=by
  rcases hb with⟨cap,j,h⟩|h
  ·exact s.rm hr h
  ·intro h'
   obtain⟨_,_,_,m1,_⟩:=s.map.out
   rw[h',m1]at h;cases h
 have nb: ∀(i:Nat) (h:i<ps.length) (cap:Nat) (j:List V),ps[i].blk=some (b',cap,j)→i=r:=fun i h cap j hi=>by
  rcases hb with⟨cap2,j2,h2⟩|h2
  ·exact s.rr i r h hr b' cap cap2 j j2 hi h2
  ·have h3:=s.row i h
   generalize ps[i]=p at hi h3
   obtain⟨T',blk⟩:=p
   dsimp only at hi
   subst hi
   rw[h3.1]at h2;cases h2
 have eb: ∀(i:Nat) (h:i<ps.length) (b cap:Nat) (j:List V),i≠r→ps[i].blk=some (b,cap,j)→zad S' b=zad S b:=fun i h b cap j hir hi=>by
  refine e b (s.rx i h b cap j hi).2 (fun hbb=>?_) fun cap2 j2 h2=>hir (s.rr i r h hr b cap cap2 j j2 hi h2)
  subst hbb;exact hir (nb i h cap j hi)
 have gs: ∀(i:Nat) (h:i<(ps.set r ⟨T,some (b',cap',junk)⟩).length),(ps.set r ⟨T,some (b',cap',junk)⟩)[i]=if r=i then⟨T,some (b',cap',junk)⟩else ps[i]'(by simpa using h):=fun i h=>by rw[List.getElem_set]
 refine⟨?_,s.map.of ?_,?_,fun i h=>?_,s.xp,fun i h b cap j hi=>?_,fun i k hi hk b cap cap2 j j2 h1 h2=>?_⟩
 ·rw[e bx s.xp n1.1.symm fun cap j h4=>(s.rx r hr bx cap j h4).1 rfl,s.obj,List.length_set]
 ·exact e bm s.pm.symm nm.symm fun cap j h4=>(s.rm hr h4) rfl
 ·rw[hp,List.map_set];rfl
 ·rw[gs]
  have h':i<ps.length:=by simpa using h
  by_cases hir:r=i
  ·rw[if_pos hir];exact hok
  ·rw[if_neg hir];exact(s.row i h').of fun b cap j hi=>eb i h' b cap j (Ne.symm hir) hi
 ·rw[gs]at hi
  have h':i<ps.length:=by simpa using h
  by_cases hir:r=i
  ·rw[if_pos hir]at hi;cases hi;exact n1
  ·rw[if_neg hir]at hi;exact s.rx i h' b cap j hi
 ·rw[gs]at h1 h2
  have hi':i<ps.length:=by simpa using hi
  have hk':k<ps.length:=by simpa using hk
  by_cases hir:r=i
  ·rw[if_pos hir]at h1
   by_cases hkr:r=k
   ·omega
   ·rw[if_neg hkr]at h2
    simp only[Option.some.injEq,Prod.mk.injEq]at h1
    obtain⟨rfl,_⟩:=h1
    exact hir▸(nb k hk' cap2 j2 h2).symm
  ·rw[if_neg hir]at h1
   by_cases hkr:r=k
   ·rw[if_pos hkr]at h2
    simp only[Option.some.injEq,Prod.mk.injEq]at h2
    obtain⟨rfl,_⟩:=h2
    exact hkr▸nb i hi' cap j h1
   ·rw[if_neg hkr]at h2
    exact s.rr i k hi' hk' b cap cap2 j j2 h1 h2
theorem SearchP.appended {S0 Sr S4:Sto} (s:SearchP S bx bp bm size rs budget steps w ps) {r:Nat} (hr:r<ps.length) {p:PRow} (hp:p=ps[r])
  (k3: ∀b,(∀cap j,p.blk≠some (b,cap,j))→zad S0 b=zad S b∧zad Sr b=none) (hdis: ∀b o,zad S0 b=some o→zad S4 b=none) {T:List (List Int)} {b' cap':Nat} {junk:List V} (m1:PRow.Ok S4 ⟨T,some (b',cap',junk)⟩)
  (m2:(∃cap j,p.blk=some (b',cap,j))∨zad Sr b'=none) (m3: ∀b,b≠b'→(∀cap j,p.blk≠some (b,cap,j))→zad S4 b=zad Sr b) :
  zad (S4++S0) bp=some (.cells (ps.map PRow.cell) 49) ∧
  SearchP (setS bp (.cells ((ps.map PRow.cell).set r (.v (.slice (some ⟨b',0,none⟩) T.length cap'))) 49) (S4++S0)) bx bp bm size rs budget steps w (ps.set r ⟨T,some (b',cap',junk)⟩) ∧
  ∀b o,b≠bp→(∀cap j,p.blk≠some (b,cap,j))→zad S b=some o→zad (setS bp (.cells ((ps.map PRow.cell).set r (.v (.slice (some ⟨b',0,none⟩) T.length cap'))) 49) (S4++S0)) b=some o:=by
 subst hp
 have hbp:=k3 bp fun cap j h=>(s.rx r hr bp cap j h).2 rfl
 have h0:zad S0 bp=some (.cells (ps.map PRow.cell) 49):=hbp.1.trans s.pln
 have h1:zad (S4++S0) bp=some (.cells (ps.map PRow.cell) 49):=by rw[zbd,hdis bp _ h0];exact h0
 have h2: ∃cap j,zad S4 b'=some (.cells ((T.map fun t=>ints t)++j) cap):=⟨_,_,m1.1⟩
 have h3:b'≠bp:=fun h=>by
  obtain⟨_,_,h2⟩:=h2
  rw[h,hdis bp _ h0]at h2;cases h2
 refine⟨h1,s.turn hr ?_ (m1.of fun b cap j h=>?_) ?_ fun b e1 e2 e3=>?_,fun b o e1 e2 e3=>?_⟩
 ·by_cases hold: ∃cap j,ps[r].blk=some (b',cap,j)
  ·exact .inl hold
  ·right
   have hk:=k3 b' fun cap j h=>hold ⟨cap,j,h⟩
   rw[←hk.1]
   cases hh:zad S0 b' with
   | none=>rfl
   | some o =>
    obtain⟨_,_,h2⟩:=h2
    rw[hdis b' o hh]at h2;cases h2
 ·simp only[Option.some.injEq,Prod.mk.injEq]at h
  obtain⟨rfl,_⟩:=h
  rw[zbe h1,if_neg h3,zbd,m1.1]
 ·rw[zbe h1,if_pos rfl]
 ·rw[zbe h1,if_neg e1,zbd,m3 b e2 e3,(k3 b e3).2]
  exact(k3 b e3).1
 ·have h4:=(k3 b e2).1.trans e3
  rw[zbe h1,if_neg e1,zbd,hdis b o h4]
  exact h4
end
def zot (p:Nat→Bool):Sto→Sto
 | []=> []
 | (d,x)::r=>if p d=true then(d,x)::zot p r else zot p r
theorem zhs (p:Nat→Bool) (b:Nat): ∀S:Sto,zad (zot p S) b=if p b=true then zad S b else none
 | []=>by simp[zot,zad]
 | (d,x)::r=>by
  simp only[zot,zad]
  have ih:=zhs p b r
  by_cases hd:p d=true
  ·rw[if_pos hd]
   simp only[zad]
   by_cases hb:d=b
   ·subst hb;rw[if_pos rfl,if_pos rfl,if_pos hd]
   ·rw[if_neg hb,if_neg hb,ih]
  ·rw[if_neg hd,ih]
   by_cases hb:d=b
   ·subst hb;rw[if_neg hd,if_neg hd]
   ·rw[if_neg hb]
def inP (bx bp bm:Nat) (ps:List PRow) (b:Nat):Bool:=decide (b=bx) || decide (b=bp) || decide (b=bm) || ps.any fun p=>match p.blk with
 | some (c,_,_)=>decide (b=c)
 | none=>false
theorem yli {bx bp bm:Nat} {ps:List PRow} {i:Nat} (h:i<ps.length) {b cap:Nat} {j:List V} (hb:ps[i].blk=some (b,cap,j)):inP bx bp bm ps b=true:=by
 have:(ps.any fun p=>match p.blk with
  | some (c,_,_)=>decide (b=c)
  | none=>false)=true:=List.any_eq_true.2 ⟨ps[i],List.getElem_mem h,by rw[hb];simp⟩
 simp[inP,this]
theorem znt {bx bp bm:Nat} {ps:List PRow} {b:Nat} (h:inP bx bp bm ps b=false):b≠bx∧b≠bp∧b≠bm∧ ∀(i:Nat) (hi:i<ps.length) (cap:Nat) (j:List V),ps[i].blk≠some (b,cap,j):=by
 refine⟨fun e=>?_,fun e=>?_,fun e=>?_,fun i hi cap j e=>?_⟩
 ·subst e;simp[inP]at h
 ·subst e;simp[inP]at h
 ·subst e;simp[inP]at h
 ·rw[yli hi e]at h;cases h
end Go.XL
namespace Go.XL
open Go.Proofs
set_option maxRecDepth 100000
set_option maxHeartbeats 8000000
@[go_sem] theorem selO_none (t:Nat) (r:VEnv):selO t r none=r:=rfl
theorem znz {P:Program} {n:Nat} {r:Rr} {rs:List ResultVar} {R:V→Sto→Prop} {k:List Fr} {E:VEnv} {S:Sto} (T:Sto) {vs:List V} (h1:resV P E S rs=some vs) (h2: ∀b o,zad T b=some o→zad S b=some o) (h3:R (tupV vs) T) (hk:popR k=none:=by rfl):DS P n r (FinV P rs R) (.code .ret::k) E S :=
 DS.ret hk ⟨vs,T,h1,h2,h3⟩
def zne (bx bp bm:Nat) (size:Int) (rs:List (List Int)) (budget:Int) (w:W) (ps:List PRow) (res:Int×Int×List (Nat×List Int)) (u:V) (S':Sto):Prop :=
 u=I res.1∧ ∃w' ps',SearchP S' bx bp bm size rs budget res.2.1 w' ps'∧ps'.length=ps.length∧(res.1=2→w'=w∧ ∀(i:Nat) (h:i<ps.length) (h':i<ps'.length),ps'[i].rows=ps[i].rows) ∧
  (res.1=1→ ∀(i:Nat) (h:i<ps.length) (h':i<ps'.length),ps'[i].rows=ps[i].rows++(res.2.2.filter fun q=>decide (q.1=i)).map Prod.snd)
structure AscI (l:List Int):Prop where
 asc:l.Pairwise (· < ·)
 in64: ∀a∈l,In64 a
 len:l.length≤40
section
variable {S S':Sto} {bx bp bm:Nat} {size budget steps:Int} {rs:List (List Int)} {w:W} {ps:List PRow}
theorem SearchP.loopless (s:SearchP S bx bp bm size rs budget steps w ps) {l:Nat} {rc:Loop} (hl:zad S l=some (.raw (.loop rc))): ∀b,b=bx∨b=bp∨b=bm∨(∃(i:Nat) (h:i<ps.length) (cap:Nat) (j:List V),ps[i].blk=some (b,cap,j))→b≠l:=by
 rintro b h rfl
 rcases h with h|h|h|⟨i,h,cap,j,hb⟩
 ·subst h;rw[s.obj]at hl;cases hl
 ·subst h;rw[s.pln]at hl;cases hl
 ·subst h
  obtain⟨_,_,_,m1,_⟩:=s.map.out
  rw[m1]at hl;cases hl
 ·have h3:=s.row i h
  generalize ps[i]=p at hb h3
  obtain⟨T',blk⟩:=p
  dsimp only at hb
  subst hb
  rw[h3.1]at hl;cases hl
theorem SearchP.setL (s:SearchP S bx bp bm size rs budget steps w ps) {l:Nat} {rc:Loop} (hl:zad S l=some (.raw (.loop rc))) (o:Ob):SearchP (setS l o S) bx bp bm size rs budget steps w ps :=
 s.of fun b hb=>by rw[zbe hl,if_neg (s.loopless hl b hb)]
theorem SearchP.delL (s:SearchP S bx bp bm size rs budget steps w ps) {l:Nat} {rc:Loop} (hl:zad S l=some (.raw (.loop rc))):SearchP (delS l S) bx bp bm size rs budget steps w ps :=
 s.of fun b hb=>by rw[zcx,if_neg (s.loopless hl b hb)]
theorem SearchP.intless (s:SearchP S bx bp bm size rs budget steps w ps) {b6:Nat} {l:List V} (hl:zad S b6=some (.cells l 3)): ∀b,b=bx∨b=bp∨b=bm∨(∃(i:Nat) (h:i<ps.length) (cap:Nat) (j:List V),ps[i].blk=some (b,cap,j))→b≠b6:=by
 rintro b h rfl
 rcases h with h|h|h|⟨i,h,cap,j,hb⟩
 ·subst h;rw[s.obj]at hl;simp at hl;exact absurd hl.2 (by decide)
 ·subst h;rw[s.pln]at hl;simp at hl
 ·subst h
  obtain⟨_,_,_,m1,_⟩:=s.map.out
  rw[m1]at hl;simp at hl
 ·have h3:=s.row i h
  generalize ps[i]=p at hb h3
  obtain⟨T',blk⟩:=p
  dsimp only at hb
  subst hb
  rw[h3.1]at hl;simp at hl
theorem SearchP.setI (s:SearchP S bx bp bm size rs budget steps w ps) {b6:Nat} {l:List V} (hl:zad S b6=some (.cells l 3)) (o:Ob):SearchP (setS b6 o S) bx bp bm size rs budget steps w ps :=
 s.of fun b hb=>by rw[zbe hl,if_neg (s.intless hl b hb)]
theorem SearchP.up (s:SearchP S bx bp bm size rs budget steps w ps) (h: ∀b o,zad S b=some o→zad S' b=some o):SearchP S' bx bp bm size rs budget steps w ps:=by
 refine s.of fun b hb=>?_
 have key: ∃o,zad S b=some o:=by
  rcases hb with h|h|h|⟨i,hi,cap,j,hb⟩
  ·subst h;exact⟨_,s.obj⟩
  ·subst h;exact⟨_,s.pln⟩
  ·subst h
   obtain⟨_,_,_,m1,_⟩:=s.map.out
   exact⟨_,m1⟩
  ·have h3:=s.row i hi
   generalize ps[i]=p at hb h3
   obtain⟨T',blk⟩:=p
   dsimp only at hb
   subst hb
   exact⟨_,h3.1⟩
 obtain⟨o,ho⟩:=key
 rw[ho];exact h b o ho
theorem SearchP.keep (s:SearchP S bx bp bm size rs budget steps w ps):SearchP (zot (inP bx bp bm ps) S) bx bp bm size rs budget steps w ps :=
 s.of fun b hb=>by
  rw[zhs,if_pos]
  rcases hb with h|h|h|⟨i,hi,cap,j,hb⟩
  ·subst h;simp[inP]
  ·subst h;simp[inP]
  ·subst h;simp[inP]
  ·exact yli hi hb
end
structure TabsOk (size:Nat) (ids:List Int) (X:List (List Int)):Prop where
 each: ∀t∈X,t.length=size∧t.Sublist ids∧t.Pairwise (· < ·)∧t.headD 0=ids.headD 0
def ydt (ps:List PRow) (b:Nat):Prop:= ∀(i:Nat) (h:i<ps.length) (cap:Nat) (j:List V),ps[i].blk≠some (b,cap,j)
structure Oth (T:Sto) (l b4 b5 b6 bf bx:Nat) (rb:Loop) (r1:Nat) (ids:List Int):Prop where
 lp:zad T l=some (.raw (.loop rb))
 o4:zad T b4=some (.cells [I r1] 3)
 o5:zad T b5=some (.cells [ints ids] 22)
 o6:zad T b6=some (.cells [I 0] 3)
 sf:zju T bx l bf
section
variable {T T':Sto} {l b4 b5 b6 bf bx bp bm:Nat} {rb:Loop} {r1:Nat} {ids:List Int} {size budget steps:Int} {rs:List (List Int)} {w:W} {ps:List PRow}
theorem Oth.of (h:Oth T l b4 b5 b6 bf bx rb r1 ids) (e: ∀b,b=l∨b=b4∨b=b5∨b=b6∨b=bf→zad T' b=zad T b):Oth T' l b4 b5 b6 bf bx rb r1 ids :=
 ⟨by rw[e _ (.inl rfl)];exact h.lp,by rw[e _ (.inr (.inl rfl))];exact h.o4,by rw[e _ (.inr (.inr (.inl rfl)))];exact h.o5,by rw[e _ (.inr (.inr (.inr (.inl rfl))))];exact h.o6,by have:=h.sf;simp only[zju]at this ⊢;rw[e _ (.inr (.inr (.inr (.inr rfl))))];exact this⟩
theorem Oth.apart (h:Oth T l b4 b5 b6 bf bx rb r1 ids) (s:SearchP T bx bp bm size rs budget steps w ps) (ap:ydt ps b5): ∀b,b=l∨b=b4∨b=b5∨b=b6∨b=bf→inP bx bp bm ps b=false:=fun b hb=>by
 have key: ∀c,c=bx∨c=bp∨c=bm∨(∃(i:Nat) (h:i<ps.length) (cap:Nat) (j:List V),ps[i].blk=some (c,cap,j))→c≠b:=by
  rcases hb with rfl|rfl|rfl|rfl|rfl
  ·exact s.loopless h.lp
  ·exact s.intless h.o4
  ·rintro c hc rfl
   have h5:=h.o5
   rcases hc with hc|hc|hc|⟨i,hi,cap,j,hc⟩
   ·subst hc;rw[s.obj]at h5;simp at h5;exact absurd h5.2 (by decide)
   ·subst hc;rw[s.pln]at h5;simp at h5
   ·subst hc
    obtain⟨_,_,_,m1,_⟩:=s.map.out
    rw[m1]at h5;simp at h5
   ·exact ap i hi cap j hc
  ·exact s.intless h.o6
  ·rintro c hc rfl
   have h5:=h.sf
   simp only[zju]at h5
   rcases hc with hc|hc|hc|⟨i,hi,cap,j,hc⟩
   ·subst hc;rw[s.obj]at h5;simp at h5;exact absurd h5.2 (by decide)
   ·subst hc;rw[s.pln]at h5;simp at h5
   ·subst hc
    obtain⟨_,_,_,m1,_⟩:=s.map.out
    rw[m1]at h5;simp at h5
   ·have h3:=s.row i hi
    generalize ps[i]=p at hc h3
    obtain⟨T',blk⟩:=p
    dsimp only at hc
    subst hc
    rw[h3.1]at h5;simp at h5
 cases hin:inP bx bp bm ps b with
 | false=>rfl
 | true =>
  exfalso
  simp only[inP,Bool.or_eq_true,decide_eq_true_eq,List.any_eq_true]at hin
  rcases hin with((hin|hin)|hin)|⟨p,hp,hin⟩
  ·exact key b (.inl hin) rfl
  ·exact key b (.inr (.inl hin)) rfl
  ·exact key b (.inr (.inr (.inl hin))) rfl
  ·obtain⟨i,hi,rfl⟩:=List.getElem_of_mem hp
   split at hin
   ·rename_i c cap j hc
    simp only[decide_eq_true_eq]at hin
    subst hin
    exact key b (.inr (.inr (.inr ⟨i,hi,cap,j,hc⟩))) rfl
   ·cases hin
end
structure FInv (l b4 b5 b6 bx bp bm:Nat) (rc:Loop) (size:Nat) (rs:List (List Int)) (budget:Int) (w:W) (ps:List PRow) (r1:Nat) (ids:List Int) (rec:List Int→Int→Int×Int×List (Nat×List Int)) (res:Int×Int×List (Nat×List Int)) (X:List (List Int)) (T:Sto) (st:Int) (ps1:List PRow):Prop where
 lp:zad T l=some (.raw (.loop rc))
 o4:zad T b4=some (.cells [I r1] 3)
 o5:zad T b5=some (.cells [ints ids] 22)
 o6:zad T b6=some (.cells [I 0] 3)
 s:SearchP T bx bp bm size rs budget st w ps1
 pl:ps1.length=ps.length
 rows: ∀(i:Nat) (h:i<ps.length) (h':i<ps1.length),ps1[i].rows=ps[i].rows
 ap:ydt ps1 b5
 try_:tryL budget r1 rec X st=res
 tabs:TabsOk size ids X
structure FDone (l b6 bx bp bm:Nat) (size:Nat) (rs:List (List Int)) (budget:Int) (w:W) (ps:List PRow) (res:Int×Int×List (Nat×List Int)) (T:Sto) (rc:Loop):Prop where
 lp:zad T l=some (.raw (.loop rc))
 st:rc.state ≠ .busy
 pd:rc.pending=some .ret
 o6:zad T b6=some (.cells [I res.1] 3)
 post:zne bx bp bm size rs budget w ps res (I res.1) T
section
variable {l b4 b5 b6 bf bx bp bm:Nat} {rc:Loop} {size:Nat} {rs:List (List Int)} {budget:Int} {w:W} {ps:List PRow} {r1:Nat} {ids:List Int} {rec:List Int→Int→Int×Int×List (Nat×List Int)} {res:Int×Int×List (Nat×List Int)}
theorem yen {A:Sto→Prop} {T:Sto} {E:VEnv} (h0:zad T l=some (.raw (.loop {rc with state := .busy}))) (h6:zad T b6=some (.cells [I res.1] 3)) (hp:zne bx bp bm size rs budget w ps res (I res.1) T) (hf:zju T bx l bf) :
  RndQ l (fun u S'=>((u=Bo true∧A S')∨(u=Bo false∧ ∃rc',FDone l b6 bx bp bm size rs budget w ps res S' rc'))∧zju S' bx l bf) .ret E T:=by
 refine⟨{rc with state := .busy},setS l (.raw (.loop (endR {rc with state := .busy} .ret))) T,h0,fun b o e=>e, .inr ⟨rfl,endR {rc with state := .busy} .ret,?_⟩,?_⟩
 ·obtain⟨e1,w',ps',p1,p2,p3,p4⟩:=hp
  refine⟨by rw[zbe h0,if_pos rfl],by simp[endR],rfl,?_,e1,w',ps',p1.setL h0 _,p2,p3,p4⟩
  rw[zbe h0,if_neg (fun e=>by rw[e,h0]at h6;cases h6)];exact h6
 ·have h:=hf
  simp only[zju]at h ⊢
  rw[zbe h0,if_neg (fun e=>by rw[e,h0]at h;cases h)];exact h
theorem yon {D:Sto→Prop} {X:List (List Int)} {T:Sto} {E:VEnv} {st:Int} {ps1:List PRow} (hst:rc.state = .ready) (hpd:rc.pending=none) (h:Oth T l b4 b5 b6 bf bx {rc with state := .busy} r1 ids) (s:SearchP T bx bp bm size rs budget st w ps1) (pl:ps1.length=ps.length)
  (rows: ∀(i:Nat) (h:i<ps.length) (h':i<ps1.length),ps1[i].rows=ps[i].rows) (ap:ydt ps1 b5) (try_:tryL budget r1 rec X st=res) (tabs:TabsOk size ids X) :
  RndQ l (fun u S'=>((u=Bo true∧ ∃st ps1,FInv l b4 b5 b6 bx bp bm rc size rs budget w ps r1 ids rec res X S' st ps1)∨(u=Bo false∧D S'))∧zju S' bx l bf) .normal E T:=by
 have e0:endR {rc with state := .busy} .normal=rc:=by cases rc;simp only[endR]at *;subst hst;subst hpd;rfl
 have nl: ∀{b:Nat} {o:List V×TypeId},zad T b=some (.cells o.1 o.2)→b≠l:=fun{b o} h' e=>by rw[e,h.lp]at h';cases h'
 have sf:=h.sf
 refine⟨_,setS l (.raw (.loop rc)) T,h.lp,fun b o e=>by rw[e0];exact e, .inl ⟨rfl,st,ps1,?_⟩,?_⟩
 ·exact⟨by rw[zbe h.lp,if_pos rfl],by rw[zbe h.lp,if_neg (nl (o:=([I r1],3)) h.o4)];exact h.o4,by rw[zbe h.lp,if_neg (nl (o:=([ints ids],22)) h.o5)];exact h.o5,by rw[zbe h.lp,if_neg (nl (o:=([I 0],3)) h.o6)];exact h.o6,s.setL h.lp _,pl,rows,ap,try_,tabs⟩
 ·simp only[zju]at sf ⊢
  rw[zbe h.lp,if_neg (fun e=>by rw[e,h.lp]at sf;cases sf)];exact sf
end
def rfOf :Code→Option (Code×Code)
 | .rangeFunc _ _ a b=>some (a,b)
 | .seq a b=>match rfOf a with|some x=>some x|none=>rfOf b
 | .cond _ a b=>match rfOf a with|some x=>some x|none=>rfOf b
 | .block _ c=>rfOf c
 | .loop c=>rfOf c
 | .scope c=>rfOf c
 | _=>none
def yuj (id:Nat):Code→Bool
 | .region i _ _=>i == id
 | _=>false
def zku (id:Nat):Code→Option Code
 | .seq a b=>if yuj id a then some b else match zku id a with|some x=>some x|none=>zku id b
 | .rangeFunc _ _ a b=>match zku id a with|some x=>some x|none=>zku id b
 | .cond _ a b=>match zku id a with|some x=>some x|none=>zku id b
 | .block _ c=>zku id c
 | .loop c=>zku id c
 | .scope c=>zku id c
 | _=>none
def ybw (bx bp bm:Nat) (size:Nat) (rs:List (List Int)) (budget:Int) (n:Nat):Prop :=
 ∀(S:Sto) (met:Int→Int→Bool) (w:W) (B:Int) (steps:Int) (ps:List PRow) (round:Nat) (free:List Int),SearchP S bx bp bm size rs budget steps w ps→ps.length=rs.length→round<rs.length→GoodW B met w→B+n≤1000000000000→AscI free →
  mzS rs round free.length<n→(∀i (h:i<ps.length),ps[i].rows.length+n≤10000) →
  DC Tryz.prog 103 [.v (.pointer (some ⟨bx,0,none⟩)),I round,ints free] S (zne bx bp bm size rs budget w ps (srch size budget rs n met round free steps))
abbrev eF (bx b4 b5 b6:Nat):VEnv:= [(3, .plc [.v (.pointer (some ⟨bx,0,none⟩))]),(4, .v (.pointer (some ⟨b4,0,none⟩))),(5, .v (.pointer (some ⟨b5,0,none⟩))),(6, .v (.pointer (some ⟨b6,0,none⟩)))]
end Go.XL
namespace Go.XL
open Go.Proofs
set_option maxRecDepth 100000
set_option maxHeartbeats 4000000
theorem ypk {h:Heap} {p:Option Addr}: ∀(k i j:Nat) (zs:List Value),ldN h p (k+i) j=some zs→ldN h p k j=some (zs.take k):=by
 intro k
 induction k with
 | zero=>intro i j zs _;simp[ldN]
 | succ k ih =>
  intro i j zs hz
  rw[show k+1+i=(k+i)+1 by omega]at hz
  simp only[ldN]at hz ⊢
  cases hl:ld h (at? p j)with
  | none=>rw[hl]at hz;simp at hz
  | some u =>
   cases hr:ldN h p (k+i) (j+1)with
   | none=>rw[hl,hr]at hz;simp at hz
   | some us =>
    rw[hl,hr]at hz
    simp only[Option.bind_some,Option.map_some,Option.some.injEq]at hz
    subst hz
    simp only[Option.bind_some,ih i (j+1) us hr,Option.map_some,List.take_succ_cons]
theorem ybr {P:Program} {hv:VH} {h:Heap} {T m:Nat} {p:Option Addr} {c:List V} (hc: ∃ys,ldN h p c.length 0=some ys∧RlL hv c ys) (ht:tsz P T=some (true,m+1)) (hl:m+1≤c.length) :
  ∃y,ldT P h T p=some y∧(V.agg ((c.take (m+1)).map V.copy)).Rl hv y:=by
 obtain⟨ys,h1,h2⟩:=hc
 have h3:=ypk (m+1) (c.length-(m+1)) 0 ys (by rw[show m+1+(c.length-(m+1))=c.length by omega];exact h1)
 refine⟨.agg (ys.take (m+1)).toArray,by simp only[ldT,ht,h3,Option.map_some],?_⟩
 simp only[V.Rl]
 exact⟨_,rfl,zgq (h2.take (m+1))⟩
section
variable {P:Program} {n:Nat} {r:Rr} {Q:VEnv→Sto→Prop} {k:List Fr} {E:VEnv} {S:Sto} {ty:TypeId} {pos:String} {af:Array Edge} {ops l:List Oper} {t:Nat}
theorem ygt {T m:Nat} {x:Operand} {c:List V} (hd:decide (t<n)=true) (hx:evV E x=some (.plc c)) (ht:tsz P T=some (true,m+1)) (hl:m+1≤c.length)
  (q:DS P n r Q (.ops ops l::k) ((t, .agg ((c.take (m+1)).map V.copy))::E) S):DS P n r Q (.ops ops (⟨some t, .load T x,ty,pos,af,none⟩::l)::k) E S:=fun K W a w ⟨K',D,hvv,hold,env,hb,ha,s⟩ hw=>by
 obtain⟨y0,e1,e2⟩:=s.rl _ _ hx
 simp only[V.Rl]at e2
 obtain⟨p,rfl,_,e3⟩:=e2
 obtain⟨y,h2,h3⟩:=ybr (P:=P) (e3.loads s.pre) ht hl
 have h2':dop P w.heap (ev env) (.load T x)=some y:=by simp only[dop,e1];exact h2
 have hr:=zin (P:=P) (o:=⟨some t, .load T x,ty,pos,af,none⟩) ha h2'
 refine zwj (zno rfl a) ⟨fun _ _=>trivial,?_⟩
 rw[Oper.semAt_eq _ _ _ (zhr (zvl rfl)),hr]
 exact q K W _ w ⟨K',D,hvv,hold,XL.put env (some t) y,hb,ha.put' (d:=some t) hd y,s.put (some t) h3 fun t _=>V.free_Own rfl y⟩ hw
end
def FinC (P:Program) (a T:Nat) (R:V→Sto→Prop) (E:VEnv) (S:Sto):Prop :=
 ∃c T' b m S',zdg E a=some (.v (.pointer (some ⟨b,0,none⟩)))∧zad S b=some (.cells c T')∧tsz P T=some (true,m+1)∧m+1≤c.length∧(∀b o,zad S' b=some o→zad S b=some o)∧R (.agg ((c.take (m+1)).map V.copy)) S'
theorem ydp {P:Program} {n:Nat} {r:Rr} {a T:Nat} {R:V→Sto→Prop} {k:List Fr} {E:VEnv} {S:Sto} (S':Sto) {c:List V} {T' b m:Nat} (h1:zdg E a=some (.v (.pointer (some ⟨b,0,none⟩)))) (h2:zad S b=some (.cells c T')) (h3:tsz P T=some (true,m+1)) (h4:m+1≤c.length)
  (h5: ∀b o,zad S' b=some o→zad S b=some o) (h6:R (.agg ((c.take (m+1)).map V.copy)) S') (hk:popR k=none:=by rfl):DS P n r (FinC P a T R) (.code .ret::k) E S :=
 DS.ret hk ⟨c,T',b,m,S',h1,h2,h3,h4,h5,h6⟩
theorem DCh.of_runC {v0:VH} {P:Program} {f:FuncId} {fn:Func} {c:Code} {args:List V} {S:Sto} {R:V→Sto→Prop} (hf:P.funcs[f]?=some fn) (hb:fn.body=some c) {m:Nat} (hm:fn.ntmps=m) {rs:List ResultVar} (hrs:fn.results=rs.toArray) (hn:args.length≤m) {a0 T0:Nat} (hr0:rs= [.cell a0 T0])
  (q:DS P m ⟨none,v0⟩ (FinC P a0 T0 R) [.code c] (argV 0 args) S):DCh v0 P f args S R:=by
 intro K hv hold h xs hfl hargs st w hw
 subst hm
 have hrs':fn.results.toList= [.cell a0 T0]:=by rw[hrs,hr0]
 subst hw
 refine callsIn_fw.1 (callsIn_of_wp_marks (F:=FW none) (n:=0) hf hb trivial ?_ rfl)
 have st':St ⟨K.B,K.h0,hv⟩ hv hold (argV 0 args) S (zpe 0 xs) w.heap:=⟨st.pre,zua 0 hargs,st.obj,st.held,st.base,PreV.refl hv,fun _ _=>rfl⟩
 have hk2:c.wpIn (FW none) 0 P (ksem P fn.ntmps ⟨none,v0⟩ ⟨K.B,K.h0,hv⟩ w (FinC P a0 T0 R) []) {tmps:=xs.toArray++Array.replicate (fn.ntmps-xs.toArray.size) undef,defers:= []} w :=
  q ⟨K.B,K.h0,hv⟩ w _ w ⟨⟨K.B,K.h0,hv⟩,[],hv,hold,_,Bx.refl hfl st.base.1,zuc (by rw[hargs.length];exact hn),st'⟩ (Same.refl w)
 refine wpIn_mono hk2 fun e a w' t=>?_
 have key:Fin fn.ntmps ⟨none,v0⟩ ⟨K.B,K.h0,hv⟩ w (FinC P a0 T0 R) a w'→LeavesInM (FW none) 0 P fn a.tmps (fun e w'=> ∃u,e = .returned u∧Same w w'∧ ∃v' S' hv' hold',PreV hv hv'∧St K hv' hold' [(0,v')] S' [(0,u)] w'.heap∧R v' S') a.defers .returning w':=by
  rintro⟨E,S0,⟨K',D,hv',hold',env,hbx,ha,s0⟩,hs,c1,T',b1,m1,S',g1,g2,g3,g4,hsub,hR⟩
  rw[ha.defers]
  refine zlu w' (fun w2 hw2 s0=>?_) D K' w' hbx s0 (Same.refl w')
  obtain⟨y0,e1,e2,_⟩:=s0.slot a0 _ g1
  simp only[V.Rl]at e2;subst e2
  obtain⟨y,h7,h8⟩:=ybr (P:=P) (T:=T0) (p:=some ⟨b1,0,none⟩) (c:=c1) (by simpa using zzw (off:=0) (s0.objs b1 _ g2)) g3 g4
  have h1:resR P env w2.heap fn.results.toList=some [y]:=by rw[hrs'];simp only[resR,e1,h7,Option.bind_some,Option.map_some]
  have s:=s0.weaken (fun _ _ e=>e) hsub
  refine⟨_,zrq ha h1,_,rfl,hs.trans hw2,_,S',hv',fun g=>match hold' g with|some (.slot _)=>some (.slot 0)|x=>x,s.vbase.1,⟨s.pre,fun t v e=>?_,fun b o e=>?_,fun g x e=>?_,s.base,st.vbase.1.trans s.vbase.1,fun b hb=>(s.vbase.2 b hb).trans (st.vbase.2 b hb)⟩,hR⟩
  ·simp only[zdg]at e
   split at e
   ·rename_i ht;subst ht;cases e
    exact⟨y,by simp[look,tupR],h8,trivial⟩
   ·cases e
  ·obtain⟨q1,q2,q3⟩:=s.obj b o e
   exact⟨q1,q2,Ob.keep q3 (PreV.refl hv') rfl fun g i ob a1 a2 a3=>⟨rfl,rfl,by simp[a1]⟩⟩
  ·cases hg:hold' g with
   | none=>simp[hg]at e
   | some z=>exact s.held g z hg
 cases e with
 | normal=>exact key t
 | ret=>exact key t
 | _=>exact t.elim
theorem DC.of_runC {P:Program} {f:FuncId} {fn:Func} {c:Code} {args:List V} {S:Sto} {R:V→Sto→Prop} (hf:P.funcs[f]?=some fn) (hb:fn.body=some c) {m:Nat} (hm:fn.ntmps=m) {rs:List ResultVar} (hrs:fn.results=rs.toArray) (hn:args.length≤m) {a0 T0:Nat} (hr0:rs= [.cell a0 T0])
  (q: ∀v0,DS P m ⟨none,v0⟩ (FinC P a0 T0 R) [.code c] (argV 0 args) S):DC P f args S R:=fun v0 => .of_runC hf hb hm hrs hn hr0 (q v0)
structure Th (b:Nat) (l:List V) (hv hv3:VH):Prop where
 blk: ∃cs T,hv b=some (.cells (List.toArray cs) T (0,0))∧RlL hv l cs
 ne: ∀j,j≠b→hv3 j=hv j
def Safe (b:Nat) (l:List V) (c:V):Prop:= ∀hv hv3,Th b l hv hv3→ ∀y,c.Rl hv y→c.Rl hv3 y
theorem Safe.v {b:Nat} {l:List V} (x:Value):Safe b l (.v x):=fun _ _ _ _ h=>by simp only[V.Rl]at h ⊢;exact h
theorem Safe.list {b:Nat} {l:List V} {hv hv3:VH} (t:Th b l hv hv3): ∀{c:List V} {ys:List Value},(∀v∈c,Safe b l v)→RlL hv c ys→RlL hv3 c ys
 | [],_,_,h=>h
 | v::r,_,hs,h=>by
  obtain⟨z,zs,rfl,h1,h2⟩:=h.cons
  simp only[RlL]
  exact⟨z,zs,rfl,hs v (List.mem_cons_self ..) _ _ t _ h1,Safe.list t (fun u hu=>hs u (List.mem_cons_of_mem _ hu)) h2⟩
theorem Safe.agg {b:Nat} {l c:List V} (h: ∀v∈c,Safe b l v):Safe b l (.agg c):=fun _ _ t _ e=>by
 simp only[V.Rl]at e ⊢
 obtain⟨ys,rfl,e2⟩:=e
 exact⟨ys,rfl,Safe.list t h e2⟩
open Classical in
theorem yqo {v0:VH} {P:Program} {n:Nat} {E:VEnv} {S:Sto} {dst:Option Tmp} {ty:TypeId} {pos:String} {af:Array Edge} {ts:Array TypeId} {g:FuncId} {xs:Array Operand} {fn:Func} {S1 S2:Sto} {R:V→Sto→Prop} {x0:V} {pre l:List V} {b len cap sz T:Nat} {cl:List (List V)}
  (hf:FnOk P g fn) (he:evsV (evV E) xs.toList=some [x0, .agg (pre++ [.v (.slice (some ⟨b,0,none⟩) len cap)])]) (hc:DCh v0 P g [x0.peek, .agg (pre++ [.lst cl])] S1 R)
  (hS:zad S b=some (.cells l T)) (hfree: ∀v∈l,v.free=true) (hlen:cl.length=len) (hsz: ∀c∈cl,c.length=sz) (hflat:cl.flatten=(l.take (len*sz)).map V.peek) (hcap:len≤cap∧cap≤maxLen)
  (h1: ∀j o,zad S1 j=some o→zad (delS b S) j=some o) (h2: ∀j o,zad S2 j=some o→zad (delS b S) j=some o∧zad S1 j=none)
  (hsR: ∀v S',R v S'→Safe b (l.take (len*sz)) v∧v.free=true∧ ∀j c T',zad S' j=some (.cells c T')→ ∀v∈c,Safe b (l.take (len*sz)) v)
  (hs2: ∀j c T',zad S2 j=some (.cells c T')→ ∀v∈c,Safe b (l.take (len*sz)) v) :
  OpS v0 P n ⟨dst, .call {callee := .value (.func g),args:=xs,argTypes:=ts},ty,pos,af,none⟩ E S (fun v E' S'=>E'=E∧ ∃S0,S'=(b, .cells l T)::(S0++S2)∧R v S0∧(∀j o,zad S0 j=some o→zad S2 j=none∧j≠b)):=by
 intro K D hv hold env a w hfl ha s
 obtain⟨ax,e5,e6⟩:=zjn s.rl he
 obtain⟨o1,o2,cs,o3,o4,o5,o6⟩:=s.obj b _ hS
 have hpre:PreV hv (addB hv b (.cells (cs.take (len*sz)).toArray T (0,0))):=znd (.inl o2)
 have hlt:=(Array.getElem?_eq_some_iff.1 o3).1
 have s1:St ⟨fun j=>K.B j∨j=b,w.heap,addB hv b (.cells (cs.take (len*sz)).toArray T (0,0))⟩ (addB hv b (.cells (cs.take (len*sz)).toArray T (0,0))) (fun g=>if g=b then none else hold g) E (delS b S) env w.heap:=by
  refine⟨zpg s.pre o3 ⟨(cs.drop (len*sz)).toArray,by rw[List.append_toArray,List.take_append_drop]⟩,fun t v e=>?_,fun b' o e=>?_,fun g x e=>?_,⟨fun j hj=>?_,Nat.le_refl _,fun _ _=>rfl⟩,PreV.refl _,fun _ _=>rfl⟩
  ·obtain⟨y,q1,q2,q3⟩:=s.slot t v e
   refine⟨y,q1,V.Rl_mono hpre v y q2,q3.keep fun g ob a1 a2 a3=>?_⟩
   have hne:g≠b:=fun e=>by subst e;rw[o2]at a2;cases a2
   exact⟨rfl,zgf _ hne,by simp[hne,a1]⟩
  ·rw[zcx]at e
   split at e
   ·cases e
   ·rename_i hb
    obtain⟨r1,r2,r3⟩:=s.obj b' o e
    refine⟨fun h=>h.elim r1 hb,by rw[zgf _ hb];exact r2,Ob.keep r3 hpre rfl fun g i ob a1 a2 a3=>?_⟩
    have hne:g≠b:=fun e=>by subst e;rw[o2]at a2;cases a2
    exact⟨rfl,zgf _ hne,by simp[hne,a1]⟩
  ·have e':(if g=b then none else hold g)=some x:=e
   split at e'
   ·cases e'
   ·rename_i hne
    exact fun h=>h.elim (s.held g x e') hne
  ·rcases hj with hj|rfl
   ·exact Nat.lt_of_lt_of_le (s.base.1 j hj) s.base.2.1
   ·exact hlt
 obtain⟨K',hcl,s2,back⟩:=s1.call h1 h2
 obtain⟨y0,ys,rfl,a1,a2⟩:=e6.cons
 obtain⟨y1,ys2,rfl,a3,a4⟩:=a2.cons
 have a5:ys2= []:=by simpa only[RlL] using a4
 subst a5
 have hargs:RlL (addB hv b (.cells (cs.take (len*sz)).toArray T (0,0))) [x0.peek, .agg (pre++ [.lst cl])] [y0,y1]:=by
  simp only[V.Rl]at a3
  obtain⟨zs,rfl,a6⟩:=a3
  have hz:=a6.length
  have a7:=a6.take pre.length
  have a8:=a6.drop pre.length
  rw[List.take_left' rfl]at a7
  rw[List.drop_left' rfl]at a8
  obtain⟨z,zs',e1,a9,a10⟩:=a8.cons
  have a11:zs'= []:=by simpa only[RlL] using a10
  subst a11
  simp only[V.Rl]at a9;subst a9
  have hzs:zs=zs.take pre.length++ [.slice (some ⟨b,0,none⟩) len cap]:=by rw[←e1,List.take_append_drop]
  have hC:RlC (addB hv b (.cells (cs.take (len*sz)).toArray T (0,0))) (some ⟨b,0,none⟩) 0 ((l.take (len*sz)).map V.peek):=zny (T:=T) (f:=(0,0)) (cs:=cs.take (len*sz)) (i:=0) ⟨#[],by simp[addB]⟩ rfl (zka (zff hpre _ _ (o4.take _))) (fun u hu=>o5 u (List.mem_of_mem_take hu))
  have hlst:(V.lst cl).Rl (addB hv b (.cells (cs.take (len*sz)).toArray T (0,0))) (.slice (some ⟨b,0,none⟩) len cap):=by
   simp only[V.Rl]
   refine⟨_,cap,sz,by rw[hlen],by rw[hlen];exact hcap.1,hcap.2,hsz,RlE.of_flat ?_⟩
   rw[hflat]
   exact hC
  simp only[RlL]
  refine⟨y0,_,rfl,V.peek_Rl (V.Rl_mono hpre _ _ a1),_,_,rfl,?_,rfl⟩
  simp only[V.Rl]
  refine⟨zs,rfl,?_⟩
  rw[hzs]
  refine(zff hpre _ _ a7).app ?_
  simp only[RlL]
  exact⟨_,_,rfl,hlst,rfl⟩
 have hfl':PreV v0 (addB hv b (.cells (cs.take (len*sz)).toArray T (0,0))):=hfl.trans hpre
 refine zrb (fs:= []) (cs:= []) (args:= [y0,y1]) ha hf rfl e5 ?_
 refine(hc K' _ hcl w.heap _ hfl' (by simpa using hargs) s2 w rfl).mono fun e w' ⟨v,ev,hs,u,S',hv',hold',p1,p2,p3⟩=>?_
 obtain⟨hold2,q1,q2⟩:=back (d:=dst) p1 p2
 obtain⟨g1,g2,g3⟩:=hsR u S' p3
 have hb1:hv' b=some (.cells (cs.take (len*sz)).toArray T (0,0)):=by rw[q1.vbase.2 b (.inr rfl)];exact zii ..
 have hb2:w'.heap[b]?=some (.cells cs.toArray T (0,0)):=by rw[q1.base.2.2 b (.inr rfl)];exact o3
 have m1:PreV hv (fun j=>if j=b then none else hv' j):=fun j o e=>by
  have hne:j≠b:=fun e1=>by subst e1;rw[o2]at e;cases e
  obtain⟨o',r1,r2⟩:=(hpre.trans p1) j o e
  exact⟨o',by simp[hne,r1],r2⟩
 have th:Th b (l.take (len*sz)) hv' (fun j=>if j=b then none else hv' j):=⟨⟨cs.take (len*sz),T,hb1,zff (hpre.trans p1) _ _ (o4.take _)⟩,fun j hj=>by simp[hj]⟩
 have kO: ∀{x:Hd} {u:V} {z:Value},Own hv' w'.heap hold2 x u z→Own (fun j=>if j=b then none else hv' j) w'.heap hold2 x u z:=fun ho =>
  ho.keep fun g ob a1 a2 a3=>by
   have hne:g≠b:=fun e1=>q1.held g _ a1 (.inr e1)
   exact⟨rfl,by simp[hne],a1⟩
 refine⟨v,ev,hs,u,E,_,_,hold2,m1,⟨fun j o e=>?_,fun t x e=>?_,fun j o e=>?_,fun g x e h=>q1.held g x e (.inl h),⟨s.base.1,Nat.le_trans s.base.2.1 q1.base.2.1,fun j hj=>(q1.base.2.2 j (.inl hj)).trans (s.base.2.2 j hj)⟩,s.vbase.1.trans m1,fun j hj=>?_⟩,rfl,S',rfl,p3,fun j o e=>⟨q2 j o e,fun e1=>?_⟩⟩
 ·have e':(if j=b then none else hv' j)=some o:=e
  split at e'
  ·cases e'
  ·exact q1.pre j o e'
 ·obtain⟨y,r1,r2,r3⟩:=q1.slot t x e
  refine⟨y,r1,?_,kO r3⟩
  have old: ∀{t x y},zdg E t=some x→XL.look env t=some y→x.Rl (fun j=>if j=b then none else hv' j) y:=fun{t x y} e1 e2=>by
   obtain⟨y',f1,f2,_⟩:=s.slot t x e1
   rw[f1]at e2;cases e2
   exact V.Rl_mono m1 _ _ f2
  cases dst with
  | none=>exact old e r1
  | some d =>
   simp only[putV,zdg]at e
   simp only[XL.put,XL.look]at r1
   by_cases hd:d=t
   ·simp only[hd,if_true,Option.some.injEq]at e
    subst e
    exact g1 _ _ th _ r2
   ·rw[if_neg hd]at e r1
    exact old e r1
 ·simp only[zad]at e
  split at e
  ·rename_i hj;subst hj
   simp only[Option.some.injEq]at e;subst e
   exact⟨o1,by simp,cs,hb2,zff m1 _ _ o4,o5,fun i c u hc hu=>V.free_Own (hfree c (List.mem_of_getElem? hc)) u⟩
  ·rename_i hj
   obtain⟨r1,r2,r3⟩:=q1.obj j o e
   have hj':j≠b:=fun h=>hj h.symm
   refine⟨fun h=>r1 (.inl h),by simp only[hj',if_false];exact r2,?_⟩
   cases o with
   | raw o=>exact r3
   | cells c T' =>
    obtain⟨cs',u1,u2,u3,u4⟩:=r3
    have hsafe: ∀v∈c,Safe b (l.take (len*sz)) v:=by
     rw[zbd]at e
     cases e1:zad S' j with
     | some o'=>rw[e1]at e;simp only[Option.some.injEq]at e;subst e;exact g3 j c T' e1
     | none=>rw[e1]at e;exact hs2 j c T' e
    exact⟨cs',u1,Safe.list th hsafe u2,u3,fun i c u hc hu=>kO (u4 i c u hc hu)⟩
 ·have hne:j≠b:=fun e=>by subst e;exact o1 hj
  simp only[hne,if_false]
  exact(q1.vbase.2 j (.inl hj)).trans ((zgf _ hne).trans (s.vbase.2 j hj))
 ·subst e1
  have:=(p2.obj j o e).2.1
  rw[hb1]at this;cases this
theorem yiy {P:Program} {n:Nat} {r:Rr} {Q:VEnv→Sto→Prop} {k:List Fr} {E:VEnv} {S:Sto} {t b i len cap sz:Nat} {l l':List V} {T:TypeId} (hE:zdg E t=some (.agg l')) (hi:l'[i]?=some (.v (.slice (some ⟨b,0,none⟩) len cap))) (hS:zad S b=some (.cells l T)) (hl:len*sz≤l.length) (hc:len≤cap∧cap≤maxLen)
  (q:DS P n r Q k ((t, .agg (l'.set i (.lst (chunk sz len (l.map V.peek)))))::E) (delS b S)):DS P n r Q k E S:=fun K W a w ⟨K',D,hv,hold,env,hb,ha,s⟩ hw=>by
 obtain⟨hv',h1,h2,h3'⟩:=s.freeze hS
 have h3:RlC hv' (some ⟨b,0,none⟩) 0 (l.map V.peek):=by
  have:=zyk h3'
  rw[List.map_map,show(V.peek∘V.copy)=V.peek from funext fun v=>by cases v <;> rfl]at this
  exact this
 obtain⟨y,e1,e2,_⟩:=h2.slot t _ hE
 refine q K W a w ⟨K',D,hv',hold,env,hb,ha,⟨h2.pre,fun u v e=>?_,h2.obj,h2.held,h2.base,h2.vbase⟩⟩ hw
 simp only[zdg]at e
 by_cases hu:t=u
 ·subst hu
  simp only[if_true,Option.some.injEq]at e;subst e
  refine⟨y,e1,?_,trivial⟩
  simp only[V.Rl]at e2 ⊢
  obtain⟨ys,rfl,e3⟩:=e2
  refine⟨ys,rfl,?_⟩
  obtain⟨z,z1,z2⟩:=e3.get hi
  simp only[V.Rl]at z2;subst z2
  refine RlL.setL e3 z1 ?_
  obtain⟨f1,f2⟩:=zje sz len ((l.map V.peek).take (len*sz)) (by simp;omega)
  have f3:chunk sz len ((l.map V.peek).take (len*sz))=chunk sz len (l.map V.peek):=by
   have key: ∀(len m:Nat) (l:List V),len*sz≤m→chunk sz len (l.take m)=chunk sz len l:=by
    intro len
    induction len with
    | zero=>intro m l _;rfl
    | succ len ih =>
     intro m l hm
     rw[Nat.succ_mul]at hm
     simp only[chunk]
     rw[List.take_take,Nat.min_eq_left (by omega),List.drop_take,ih _ _ (by omega)]
   exact key len _ _ (Nat.le_refl _)
  simp only[V.Rl]
  refine⟨_,cap,sz,by rw[zdl],by rw[zdl];exact hc.1,hc.2,by rw[←f3];exact f2,RlE.of_flat ?_⟩
  rw[←f3,f1]
  exact h3.take _
 ·rw[if_neg hu]at e;exact h2.slot u v e
def SlV (v:V):Prop:=(∃x,v = .lst x)∨v = .v (.slice none 0 0)
def NumV (v:V):Prop:= ∃x,v = .v x∧ ∀p n c,x ≠ .slice p n c
theorem SlV.val {hv:VH} {v:V} {u:Value} (h:SlV v) (e:v.Rl hv u): ∃p n c,u = .slice p n c:=by
 rcases h with⟨x,rfl⟩|rfl
 ·simp only[V.Rl]at e;obtain⟨p,c,_,rfl,_⟩:=e;exact⟨_,_,_,rfl⟩
 ·simp only[V.Rl]at e;exact⟨_,_,_,e⟩
theorem Th.ldH {b:Nat} {l:List V} {hv hv3:VH} (t:Th b l hv hv3) {q:Option Addr} {u:Value} (e:ldH hv q=some u):ldH hv3 q=some u∨ ∃v∈l,v.Rl hv u:=by
 cases q with
 | none=>simp[XL.ldH]at e
 | some a =>
  by_cases hb:a.block=b
  ·obtain⟨cs,T,h1,h2⟩:=t.blk
   refine .inr ?_
   simp only[XL.ldH,Option.bind_some,ztx,hb,h1]at e
   split at e
   ·cases e
   ·have hlt:a.off<cs.length:=by
     have:=(Array.getElem?_eq_some_iff.1 e).1;simpa using this
    have hl:a.off<l.length:=by rw[←h2.length];exact hlt
    obtain⟨y,y1,y2⟩:=h2.get (List.getElem?_eq_getElem hl)
    have:cs[a.off]?=some u:=by simpa using e
    rw[this]at y1;cases y1
    exact⟨_,List.getElem_mem hl,y2⟩
  ·refine .inl ?_
   simp only[XL.ldH,Option.bind_some,ztx]at e ⊢
   rw[t.ne _ hb];exact e
theorem Th.nums {b:Nat} {l:List V} {hv hv3:VH} (t:Th b l hv hv3) (hl: ∀v∈l,SlV v) {p:Option Addr}: ∀{c:List V} {i:Nat},(∀v∈c,NumV v)→RlC hv p i c→RlC hv3 p i c
 | [],_,_,_=>trivial
 | v::r,i,h,e=>by
  simp only[RlC]at e ⊢
  obtain⟨⟨u,e1,e2,e3⟩,e4⟩:=e
  obtain⟨x,rfl,hx⟩:=h v (List.mem_cons_self ..)
  simp only[V.Rl]at e2;subst e2
  refine⟨⟨u,(t.ldH e1).resolve_right ?_,by simp only[V.Rl],e3⟩,Th.nums t hl (fun w hw=>h w (List.mem_cons_of_mem _ hw)) e4⟩
  rintro⟨w,hw,hw2⟩
  obtain⟨p',n',c',h'⟩:=(hl w hw).val hw2
  exact hx _ _ _ h'
theorem Safe.nums {b:Nat} {l:List V} (hl: ∀v∈l,SlV v) {cl:List (List V)} (h: ∀c∈cl,∀v∈c,NumV v):Safe b l (.lst cl):=fun hv hv3 t y e=>by
 simp only[V.Rl]at e ⊢
 obtain⟨p,cap,sz,e1,e2,e3,e4,e5⟩:=e
 exact⟨p,cap,sz,e1,e2,e3,e4,RlE.of_flat (t.nums hl (fun v hv=>by obtain⟨c,h1,h2⟩:=List.mem_flatten.1 hv;exact h c h1 v h2) e5.flat)⟩
theorem Safe.own {b:Nat} {l:List V} {m:Bool} {e sz:Nat} {cl:List (List V)} (h:Safe b l (.lst cl)):Safe b l (.own m e sz cl):=fun hv hv3 t y r=>by
 have:=h hv hv3 t y (by simpa only[V.Rl] using r)
 simpa only[V.Rl] using this
theorem Safe.ints {b:Nat} {l:List V} (hl: ∀v∈l,SlV v) (L:List Int):Safe b l (ints L):=Safe.nums hl fun c hc v hv=>by
 obtain⟨n,_,rfl⟩:=List.mem_map.1 hc
 simp only[cI,List.mem_singleton]at hv
 exact⟨_,hv,fun _ _ _ h=>by cases h⟩
theorem yan : ∀L:List Int,(L.map cI).flatten=L.map I
 | []=>rfl
 | a::r=>by
  simp only[List.map_cons,List.flatten_cons,yan r];rfl
def NoInt (v:V):Prop:= ∀hv u L,3≤L.length→v.Rl hv u→(XL.ints L).Rl hv u→False
theorem NoInt.nil :NoInt (.v (.slice none 0 0)):=fun hv u L hL h1 h2=>by
 simp only[V.Rl]at h1 h2;subst h1
 obtain⟨p,cap,_,e,_⟩:=h2
 simp only[Value.slice.injEq,List.length_map]at e
 omega
theorem NoInt.lst {x:List (List V)} {j:Nat} (hj:j<3) (h:3≤x.length→ ∃v,x.flatten[j]?=some v∧SlV v):NoInt (.lst x):=fun hv u L hL h1 h2=>by
 simp only[V.Rl]at h1 h2
 obtain⟨p,cap,_,rfl,_,_,_,e5⟩:=h1
 obtain⟨p',cap',_,e,_,_,_,f5⟩:=h2
 simp only[Value.slice.injEq,List.length_map]at e
 obtain⟨rfl,e1,rfl⟩:=e
 obtain⟨v,v1,v2⟩:=h (by omega)
 obtain⟨u,u1,u2,_⟩:=e5.flat.get v1
 have f6:=f5.flat
 rw[yan]at f6
 have hlt:j<L.length:=by omega
 obtain⟨w,w1,w2,_⟩:=f6.get (j:=j) (v:=I L[j]) (by rw[List.getElem?_map,List.getElem?_eq_getElem hlt];rfl)
 rw[u1]at w1;cases w1
 simp only[V.Rl]at w2
 obtain⟨_,_,_,h'⟩:=v2.val u2
 rw[w2]at h';cases h'
theorem NoInt.rows (M:List (List Int)):NoInt (rows M):=NoInt.lst (j:=0) (by omega) fun h=>by
 cases M with
 | nil=>simp at h
 | cons a r=>exact⟨XL.ints a,rfl, .inl ⟨_,rfl⟩⟩
theorem NoInt.rulings (M:List Ruling):NoInt (.lst (M.map Ruling.cells)):=NoInt.lst (j:=2) (by omega) fun h=>by
 cases M with
 | nil=>simp at h
 | cons a r=>exact⟨XL.ints a.points,rfl, .inl ⟨_,rfl⟩⟩
theorem Safe.rows {b:Nat} {l:List V} (hl: ∀v∈l,SlV v∧NoInt v) {M:List (List Int)} (hM: ∀r∈M,3≤r.length):Safe b l (rows M):=fun hv hv3 t y e=>by
 simp only[V.Rl]at e ⊢
 obtain⟨p,cap,sz,e1,e2,e3,e4,e5⟩:=e
 refine⟨p,cap,sz,e1,e2,e3,e4,?_⟩
 clear e1 e2 e4
 revert e5
 generalize 0=i
 induction M generalizing i with
 | nil=>exact fun h=>h
 | cons a r ih =>
  intro h
  simp only[List.map_cons,RlE,cR,RlC,List.length_singleton]at h ⊢
  obtain⟨⟨⟨u,u1,u2,u3⟩,_⟩,h2⟩:=h
  refine⟨⟨⟨u,(t.ldH u1).resolve_right ?_,Safe.ints (fun v hv=>(hl v hv).1) a _ _ t _ u2,u3⟩,trivial⟩,ih (fun r' hr'=>hM r' (List.mem_cons_of_mem _ hr')) _ h2⟩
  rintro⟨w,hw,hw2⟩
  exact(hl w hw).2 hv u a (hM a (List.mem_cons_self ..)) hw2 u2
theorem yog (R:List Sitting): ∀v∈(R.map Sitting.cells).flatten,SlV v∧NoInt v:=fun v hv=>by
 obtain⟨c,h1,h2⟩:=List.mem_flatten.1 hv
 obtain⟨s,_,rfl⟩:=List.mem_map.1 h1
 simp only[Sitting.cells,List.mem_cons,List.not_mem_nil,or_false]at h2
 rcases h2 with rfl|rfl|rfl
 ·exact⟨.inl ⟨_,rfl⟩,NoInt.rows _⟩
 ·exact⟨.inl ⟨_,rfl⟩,NoInt.rows _⟩
 ·exact⟨.inl ⟨_,rfl⟩,NoInt.rulings _⟩
end Go.XL
namespace Go.XL
open Go.Proofs
set_option maxRecDepth 100000
set_option maxHeartbeats 8000000
def ptC (p:List Int):V:=if p= []then .v (.slice none 0 0)else ints p
def regC (id:Nat):Code→Option (List Oper)
 | .region i ops _=>if i=id then some ops.toList else none
 | .seq a b=>match regC id a with|some x=>some x|none=>regC id b
 | .rangeFunc _ _ a b=>match regC id a with|some x=>some x|none=>regC id b
 | .cond _ a b=>match regC id a with|some x=>some x|none=>regC id b
 | .block _ c=>regC id c
 | .loop c=>regC id c
 | .scope c=>regC id c
 | _=>none
def zuf (bs:Nat) (x:Int) (c:Club) (u:V) (S':Sto):Prop:= ∃bp,bp≠bs∧u = .agg [rows (zbb c x).1, .v (.slice (some ⟨bp,0,none⟩) (zbb c x).1.length (zbb c x).1.length), .v (.slice none 0 0)]∧S'= [(bp, .cells ((zcu c x).1.map ptC) 22),(bs,srcO (zcu c x).2)]
theorem zms (bs b4:Nat) (x:Int) (c:Club) (hzB:Box (∃z:Nat,c.size=z)) (hsz:3≤c.size∧c.size≤4) (hst:0≤c.start∧c.start≤1000000) (hl:(zbb c x).1.length≤1000002) (n4: ¬bs=b4) (n4': ¬b4=bs) {v0:VH} {os l:List Oper} {cd:Code}
  (h1:Tryz.f87.body.bind (regC 7)=some os) (h2:os.drop 3=l) (h3:Tryz.f87.body.bind (zku 7)=some cd) :
  DS Tryz.prog 67 ⟨none,v0⟩ (FinC Tryz.prog 4 61 (zuf bs x c)) [.ops os l, .code cd]
   [(42,rows (zbb c x).1),(44,I ((zbb c x).1.length:Int)),(6,rows (zbb c x).1),(0,ptr bs),(3, .plc c.cells),(4,ptr b4)] [(bs,srcO (zbb c x).2),(b4, .cells [.v (.slice none 0 0), .v (.slice none 0 0), .v (.slice none 0 0)] 61)]:=by
 obtain rfl:=Option.some.inj ((show Tryz.f87.body.bind (regC 7)=some _ from rfl).symm.trans h1)
 obtain rfl:=Option.some.inj ((show Tryz.f87.body.bind (zku 7)=some _ from rfl).symm.trans h3)
 subst h2
 clear h1 h3
 simp only[zax,zay]
 repeat' (first|(with_reducible first|refine zac yU yU yX8 ?_|refine zab ?_|refine DS.seq ?_|refine zaa ?_|refine DS.block ?_)|(refine zhh (t:=9) yU yX8 yU (fun _=>yX8) yX8 yU (by exact⟨by with_unfolding_all rfl,by with_unfolding_all decide⟩) (fun _=>by simp only[go_sem,Nat.reduceEqDiff,↓reduceIte]) ?_;simp only[go_sem])|(refine ynu yU yX8 yX8 yX8 yX8 yU yU ⟨by omega,by omega,by decide,by omega⟩ (fun _ hfr=>?_))|fail)
 rename_i bp
 have np: ¬bs=bp:=fun e=>by simp only[zae]at hfr;rw[if_pos e]at hfr;cases hfr
 have np4: ¬b4=bp:=fun e=>by simp only[zae]at hfr;rw[if_neg np,if_pos e]at hfr;cases hfr
 have np': ¬bp=bs:=fun e=>np e.symm
 have np4': ¬bp=b4:=fun e=>np4 e.symm
 clear hfr
 refine zcn [0,3,4,6,9] yN (fun(y:Nat×Int×List (List Int))=> [(10,I y.1)]) (fun(y:Nat×Int×List (List Int))=> [(bp, .cells (y.2.2.map ptC++List.replicate ((zbb c x).1.length-y.1) (.v (.slice none 0 0))) 22),(bs,srcO y.2.1),(b4, .cells [.v (.slice none 0 0), .v (.slice none 0 0), .v (.slice none 0 0)] 61)]) (fun(y:Nat×Int×List (List Int))=>y.1≤(zbb c x).1.length∧y.2.2.length=y.1∧zcu c x=ptsG c.size c.start ((zbb c x).1.length-y.1) y.2.1 y.2.2) (fun(y:Nat×Int×List (List Int))=>(zbb c x).1.length-y.1) (0,(zbb c x).2,[]) yS (fun b o e=>by exact e) ⟨Nat.zero_le _,rfl,rfl⟩ (fun y B hI hB=>?_);try dsimp only at hI hB;simp only[zar,zav]
 obtain⟨k,x1,P⟩:=y
 dsimp only at hI hB
 obtain⟨g1,g2,g3⟩:=hI
 have H:=Box.mk (And.intro g3 (And.intro hsz hst))
 clear g3
 have he: ∃z:Nat,c.size=z∧SC Tryz.prog 88 [ptr bs,I c.size,I c.start] bs (stepX x1) (ints (zfw c.size c.start (stepX x1)).1) (zfw c.size c.start (stepX x1)).2∧(zfw c.size c.start (stepX x1)).1≠ []:=by
  obtain⟨z,hz⟩:=hzB.out
  refine⟨z,hz,?_,?_⟩
  ·rw[hz];exact ymi bs (stepX x1) z c.start (by omega) hst
  ·intro h
   have:=zpb c.size c.start (stepX x1) (by omega)
   rw[h]at this;simp at this;omega
 obtain⟨z,hz,he,hen⟩:=he
 have H2:=Box.mk (And.intro hz hen)
 clear hz hen
 repeat' (first|(refine ygt (t:=66) yU yE yU (by simp only[List.length_cons,List.length_nil];omega) ?_;simp only[List.take_succ_cons,List.take_zero,List.map_cons,List.map_nil,zbt,zbn,zcp,Nat.reduceAdd])|(with_reducible first|refine zac yU yU yE ?_|refine zab ?_|refine DS.seq ?_|refine zaa ?_|(refine zbc yE ?_;refine zen (fun _=>?_) (fun _=>?_))|refine DS.blk ?_|refine DS.block ?_|refine DS.exit yU ?_|refine DS.skip ?_)|(refine zfg inferInstance (zei bs x1 5 (by omega)) yR yT yT ?_;(try simp only[zbp,zbv,↓reduceIte, *]))|(refine DS.store yR yE yE yE yE yU (by exact⟨by with_unfolding_all rfl,by(try simp only[List.length_map,List.length_append,List.length_set,List.length_replicate,List.length_cons,List.length_nil]);omega⟩) ?_;simp only[zbo,zau,zaw,zbw,zbm,zbk,zbl];try simp only[zam,zaf,zag,Nat.reduceEqDiff,↓reduceIte,zaj,zak,zap,zai,zah,zan,zal])|fail)
 ·rename_i e1 e2
  have hk:k<(zbb c x).1.length:=by omega
  obtain⟨m,hm⟩: ∃m,(zbb c x).1.length-k=m+1:=⟨(zbb c x).1.length-k-1,by omega⟩
  have hP:(P.map ptC).length=k:=by simpa using g2
  refine zhi (id:=12) ([(bp,Ob.cells (List.map ptC P++List.replicate ((zbb c x).1.length-k) (V.v (Value.slice none 0 0))) 22),(b4,Ob.cells [V.v (Value.slice none 0 0),V.v (Value.slice none 0 0),V.v (Value.slice none 0 0)] 61)]) ([(bs,srcO (stepX x1))]) [0,1,2,3,4,5,6,7,8] 9 (by kernel_rfl) zdq (by simp only[zba,zbg,zbh,zbi,zaz];exact rfl) (by simp only[zax,zay,List.drop_nil];exact rfl) ((fun b o e=>by
   have hb: ¬bs=b:=fun h=>by subst h;simp only[zae,zbu,np',n4',↓reduceIte]at e;cases e
   simp only[zae,zbu,hb,↓reduceIte]at e ⊢;exact⟨e,trivial⟩)) ((fun b o e=>by
   simp only[zae,zbu]at e ⊢
   split at e
   ·rename_i h;rw[if_pos h];exact e
   ·cases e)) ?_
  repeat' (first|(with_reducible first|refine zac yU yU yE ?_|refine zab ?_|refine zaa ?_|refine DS.blk ?_)|(refine DS.store yR yE yE yE yE yU (by exact⟨by with_unfolding_all rfl,by(try simp only[List.length_map,List.length_append,List.length_set,List.length_replicate,List.length_cons,List.length_nil]);omega⟩) ?_;simp only[zbo,zau,zaw,zbw,zbm,zbk,zbl];try simp only[zam,zaf,zag,Nat.reduceEqDiff,↓reduceIte,zaj,zak,zap,zai,zah,zan,zal])|with_reducible refine zbz yU yU yU yE ?_|(with_reducible refine DD.nil ?_;simp only[zar,zav])|(refine zpk inferInstance (he) yU yT yT ?_;simp only[zca,zck,Nat.reduceEqDiff,↓reduceIte];(try simp only[zbp,zbv,↓reduceIte, *]))|fail)
  obtain⟨h1,h2,h3⟩:=H.out
  rw[hm,ptsG,if_pos (by omega)]at h1
  refine DS.back (hB (k+1,(zfw c.size c.start (stepX x1)).2,P++ [(zfw c.size c.start (stepX x1)).1]) _ _ (by dsimp only;omega) ⟨by dsimp only;omega,by simp;omega,by dsimp only;rw[show(zbb c x).1.length-(k+1)=m by omega];exact h1⟩ yS yS (fun b o e=>?_))
  have hc:(P++ [(zfw c.size c.start (stepX x1)).1]).map ptC++List.replicate ((zbb c x).1.length-(k+1)) (.v (.slice none 0 0))=(P.map ptC++List.replicate ((zbb c x).1.length-k) (V.v (.slice none 0 0))).set k (ints (zfw c.size c.start (stepX x1)).1):=by
   rw[hm,show(zbb c x).1.length-(k+1)=m by omega,List.replicate_succ,List.map_append,List.append_assoc,List.set_append_right _ _ (by omega),hP,Nat.sub_self]
   show _=_++(ints _::_)
   rw[List.map_cons,List.map_nil,ptC,if_neg H2.out.2]
   rfl
  dsimp only at e
  rw[hc]at e
  have hc2:(P.map ptC++V.v (Value.slice none 0 0)::List.replicate m (V.v (Value.slice none 0 0)))=(P.map ptC++List.replicate ((zbb c x).1.length-k) (.v (.slice none 0 0))):=by rw[hm,List.replicate_succ]
  rw[hc2]
  simp only[zae,zbu,setS,np,↓reduceIte]at e ⊢
  by_cases hb:bs=b
  ·subst hb;simp only[np',n4',↓reduceIte]at e ⊢;exact e
  ·simp only[hb,↓reduceIte]at e ⊢;exact e
 ·rename_i e1 e2
  obtain⟨h1,h2,h3⟩:=H.out
  have hk:k<(zbb c x).1.length:=by omega
  obtain⟨m,hm⟩: ∃m,(zbb c x).1.length-k=m+1:=⟨(zbb c x).1.length-k-1,by omega⟩
  rw[hm,ptsG,if_neg (by omega)]at h1
  refine DS.back (hB (k+1,stepX x1,P++ [[]]) _ _ (by dsimp only;omega) ⟨by dsimp only;omega,by simp;omega,by dsimp only;rw[show(zbb c x).1.length-(k+1)=m by omega];exact h1⟩ yS yS (fun b o e=>?_))
  have hc:(P++ [[]]).map ptC++List.replicate ((zbb c x).1.length-(k+1)) (.v (.slice none 0 0))=P.map ptC++List.replicate ((zbb c x).1.length-k) (.v (.slice none 0 0)):=by
   rw[hm,show(zbb c x).1.length-(k+1)=m by omega,List.replicate_succ,List.map_append,List.append_assoc];rfl
  dsimp only at e
  rw[hc]at e
  simp only[zae,zbu]at e ⊢
  by_cases hb:bs=b
  ·subst hb;simp only[np',n4',↓reduceIte]at e ⊢;exact e
  ·simp only[hb,↓reduceIte]at e ⊢;exact e
 ·rename_i e1
  obtain⟨h1,h2,h3⟩:=H.out
  have hk:k=(zbb c x).1.length:=by omega
  rw[hk,Nat.sub_self,ptsG]at h1
  refine ydp [(bp, .cells ((zcu c x).1.map ptC) 22),(bs,srcO (zcu c x).2)] yH yH yH yH (fun b o e=>?_) ⟨bp,np',rfl,rfl⟩
  rw[h1]at e
  rw[hk,Nat.sub_self,List.replicate_zero,List.append_nil]
  simp only[setS,np4',n4,↓reduceIte]
  simp only[zae,zbu]at e ⊢
  by_cases hb:bp=b
  ·subst hb;simp only[↓reduceIte]at e ⊢;exact e
  ·by_cases hb2:bs=b
   ·subst hb2;simp only[hb,↓reduceIte]at e ⊢;exact e
   ·simp only[hb,hb2,↓reduceIte]at e;cases e
end Go.XL
namespace Go.XL
open Go.Proofs
set_option maxRecDepth 100000
set_option maxHeartbeats 8000000
theorem yom (bs:Nat) (x:Int) (c:Club) (hs:c.Small) (hsz:3≤c.size∧c.size≤4) (hst:0≤c.start∧c.start≤1000000) :
  DC Tryz.prog 87 [ptr bs,c.val] [(bs,srcO x)] (zuf bs x c):=by
 have q1:=hs.members
 have q2:=hs.rounds
 have hzB:Box (∃z:Nat,c.size=z):=⟨⟨c.size.toNat,by omega⟩⟩
 have hpl:(zcv c c.rounds.length).length≤1000000:=by
  unfold zcv
  repeat' split
  all_goals first|(simp;done)|skip
  rw[zdn,List.length_map]
  exact Nat.le_trans (List.length_filter_le _ _) q1
 have hid:=(zga c.size x (zcv c c.rounds.length)).length_le
 have htl:=zom c x
 have hmu:=zsc bs x (zcv c c.rounds.length) c.size hsz hpl
 have hto:=yci bs (zdp c.size x (zcv c c.rounds.length)).2 (zdp c.size x (zcv c c.rounds.length)).1 c.size hsz (by omega)
 have hbe:=zei bs (zes c.size (zdp c.size x (zcv c c.rounds.length)).2 (zdp c.size x (zcv c c.rounds.length)).1).2 3 (by omega)
 have hne:=ypa c hs (zdp c.size x (zcv c c.rounds.length)).1 (by omega)
 refine DC.of_runC Tryz.func87 rfl Tryz.ntmps87 Tryz.results87 (by simp) rfl (fun _=>?_);simp only[zaq,zat,go_sem,Nat.zero_add,Nat.reduceAdd]
 repeat' (first|(with_reducible first|refine DS.seq ?_|refine zaa ?_)|(refine zda (t:=3) yU yE yU ?_;simp only[zbs,zct,zbr,zcg,zbq,zbj,zbt,zbn,zcp,zcr,zcb,zcq,zcf,zce])|fail)
 refine zej yR yU yU (fun b4 h4=>?_)
 have n4: ¬bs=b4:=fun e=>by rw[zae,if_pos e]at h4;cases h4
 have n4': ¬b4=bs:=fun e=>n4 e.symm
 clear h4
 have hz4:(List.map V.v (Value.agg #[.slice none 0 0, .slice none 0 0, .slice none 0 0]).cells.toList)= [.v (.slice none 0 0), .v (.slice none 0 0), .v (.slice none 0 0)]:=rfl
 repeat' (first|(with_reducible first|refine zac yU yU yE ?_|refine zab ?_|refine DS.seq ?_|refine zaa ?_|(refine zbc yE ?_;first|refine zen (fun _=>?_) (fun _=>?_)|refine zdd ?_)|(refine zea yU yE ?_;first|refine zpi (fun _=>?_) (fun _=>?_)|refine GG.run ?_|refine zfy ?_)|refine DS.skip ?_)|(refine zfg inferInstance (hmu) yR yF yF ?_;(try simp only[zbp,zbv,↓reduceIte, *]))|(refine zfg inferInstance (hto) yR yF yF ?_;(try simp only[zbp,zbv,↓reduceIte, *]))|(refine zfg inferInstance (hbe) yR yF yF ?_;(try simp only[zbp,zbv,↓reduceIte, *]))|refine zcd inferInstance (hne) yR yF ?_|refine zch (id:=1) [0,1,2,3,4,5,6,7] 8 (by kernel_rfl) zdq (by simp only[zba,zbg,zbh,zbi,zaz];exact rfl) (by simp only[zax,zay,List.drop_nil];exact rfl) ?_|(with_reducible first|refine zbz yU yU yU yE ?_|refine zdc ?_)|refine zml inferInstance (zrt c hs _) yU yF ?_;simp only[zca,zck,Nat.reduceEqDiff,↓reduceIte]|fail)
 ·rename_i e1 e2 e3
  have hT:zbb c x=((zge c (zdp c.size x (zcv c c.rounds.length)).1).1,stepX (zes c.size (zdp c.size x (zcv c c.rounds.length)).2 (zdp c.size x (zcv c c.rounds.length)).1).2):=by
   rw[zbb,zdt,if_pos (by omega),if_pos ⟨e2,e3⟩]
  refine zec (E':= [(42,rows (zbb c x).1),(44,I ((zbb c x).1.length:Int)),(6,rows (zbb c x).1),(0,ptr bs),(3, .plc c.cells),(4,ptr b4)]) (S':= [(bs,srcO (zbb c x).2),(b4, .cells [.v (.slice none 0 0), .v (.slice none 0 0), .v (.slice none 0 0)] 61)]) (zep (by rw[hT];simp (disch:=omega) only[go_sem,↓reduceIte,Nat.reduceEqDiff,zez,zfn,and_self,ints,rows])) (fun b o e=>by rw[hT]at e;exact e) ?_
  exact zms bs b4 x c hzB hsz hst (by omega) n4 n4' yR yR yR
 ·rename_i e1 e2 e3
  have hT:zbb c x=((zes c.size (zdp c.size x (zcv c c.rounds.length)).2 (zdp c.size x (zcv c c.rounds.length)).1).1,stepX (zes c.size (zdp c.size x (zcv c c.rounds.length)).2 (zdp c.size x (zcv c c.rounds.length)).1).2):=by
   rw[zbb,zdt,if_pos (by omega),if_neg (fun h=>e3 h.2)]
  refine zec (E':= [(42,rows (zbb c x).1),(44,I ((zbb c x).1.length:Int)),(6,rows (zbb c x).1),(0,ptr bs),(3, .plc c.cells),(4,ptr b4)]) (S':= [(bs,srcO (zbb c x).2),(b4, .cells [.v (.slice none 0 0), .v (.slice none 0 0), .v (.slice none 0 0)] 61)]) (zep (by rw[hT];simp (disch:=omega) only[go_sem,↓reduceIte,Nat.reduceEqDiff,zez,zfn,and_self,ints,rows])) (fun b o e=>by rw[hT]at e;exact e) ?_
  exact zms bs b4 x c hzB hsz hst (by omega) n4 n4' yR yR yR
 ·rename_i e1 e2
  have hT:zbb c x=((zes c.size (zdp c.size x (zcv c c.rounds.length)).2 (zdp c.size x (zcv c c.rounds.length)).1).1,stepX (zes c.size (zdp c.size x (zcv c c.rounds.length)).2 (zdp c.size x (zcv c c.rounds.length)).1).2):=by
   rw[zbb,zdt,if_pos (by omega),if_neg (fun h=>e2 h.1)]
  refine zec (E':= [(42,rows (zbb c x).1),(44,I ((zbb c x).1.length:Int)),(6,rows (zbb c x).1),(0,ptr bs),(3, .plc c.cells),(4,ptr b4)]) (S':= [(bs,srcO (zbb c x).2),(b4, .cells [.v (.slice none 0 0), .v (.slice none 0 0), .v (.slice none 0 0)] 61)]) (zep (by rw[hT];simp (disch:=omega) only[go_sem,↓reduceIte,Nat.reduceEqDiff,zez,zfn,and_self,ints,rows])) (fun b o e=>by rw[hT]at e;exact e) ?_
  exact zms bs b4 x c hzB hsz hst (by omega) n4 n4' yR yR yR
 ·rename_i e1
  have hT:zbb c x=zes c.size (zdp c.size x (zcv c c.rounds.length)).2 (zdp c.size x (zcv c c.rounds.length)).1:=by
   rw[zbb,zdt,if_neg (by omega)]
  refine zec (E':= [(42,rows (zbb c x).1),(44,I ((zbb c x).1.length:Int)),(6,rows (zbb c x).1),(0,ptr bs),(3, .plc c.cells),(4,ptr b4)]) (S':= [(bs,srcO (zbb c x).2),(b4, .cells [.v (.slice none 0 0), .v (.slice none 0 0), .v (.slice none 0 0)] 61)]) (zep (by rw[hT];simp (disch:=omega) only[go_sem,↓reduceIte,Nat.reduceEqDiff,zez,zfn,and_self,ints,rows])) (fun b o e=>by rw[hT]at e;exact e) ?_
  exact zms bs b4 x c hzB hsz hst (by omega) n4 n4' yR yR yR
end Go.XL
namespace Go.XL
def zdw (n:Int):Nat→Int→Int→List Int→Int→List Int×Int×Int
 | 0,_,x,out,sum=>(out,sum,x)
 | k+1,i,x,out,sum=>zdw n k (i+1) (stepX x) (out++ [n.tdiv (i+1)-zao x 9]) (sum+(n.tdiv (i+1)-zao x 9))
def zja (x:Int):Int×Int:=if zqm x 4=true then(zao (stepX x) 21-10,stepX (stepX x))else(0,stepX x)
def zlp (x:Int):(Int×Int)×Int:=if zqm x 9=true then((zao (stepX x) 3,zao (stepX x) 3+zao (stepX (stepX x)) 2),stepX (stepX (stepX x)))else((0,-1),stepX x)
def zdf :Nat→Int→Int→List Member→List Member×Int
 | 0,_,x,out=>(out,x)
 | k+1,id,x,out=>zdf k (id+zcz x 1 3) (zlp (zja (stepX x)).2).2 (out++ [⟨id+zcz x 1 3,(zja (stepX x)).1,(zlp (zja (stepX x)).2).1.1,(zlp (zja (stepX x)).2).1.2⟩])
def rulG (size start round:Int):List (List Int)→Int→Int→List Ruling→List Ruling×Int
 | [],_,x,R=>(R,x)
 | p::r,t,x,R =>
  if 0<(p.length:Int)then
   if zqm x 3=true then rulG size start round r (t+1) (zfw size start (stepX x)).2 (R++ [⟨round,t,(zfw size start (stepX x)).1⟩])
   else rulG size start round r (t+1) (stepX x) R
  else rulG size start round r (t+1) x R
def zkf (window x:Int) (n:Nat):Int:=max 0 ((n:Int)-1-zao x (window+1))
def rulK (size start window:Int) (ps:List (List (List Int))):Nat→Int→List Ruling→List Ruling×Int
 | 0,x,R=>(R,x)
 | k+1,x,R=>rulK size start window ps k (rulG size start (zkf window x ps.length) (ps.getD (zkf window x ps.length).toNat []) 0 (stepX x) R).2 (rulG size start (zkf window x ps.length) (ps.getD (zkf window x ps.length).toNat []) 0 (stepX x) R).1
def zcy (c:Club) (R:List Sitting):Club:={c with rounds:=R}
def zid (c:Club) (x:Int) (R:List Sitting):List Ruling×Int :=
 rulK c.size c.start c.window (R.map Sitting.points++ [(zcu (zcy c R) x).1]) (zao (zcu (zcy c R) x).2 3).toNat (stepX (zcu (zcy c R) x).2) []
def zfb (c:Club):Nat→Int→List Sitting→List Sitting×Int
 | 0,x,R=>(R,x)
 | i+1,x,R=>zfb c i (zid c x R).2 (R++ [⟨(zbb (zcy c R) x).1,(zcu (zcy c R) x).1,(zid c x R).1⟩])
def zgi (x:Int):Int:=if zqm (stepX (stepX (stepX (stepX x)))) 4=true then 4 else 3
def x5 (x:Int):Int:=stepX (stepX (stepX (stepX (stepX x))))
def zdo (x:Int):List Int×Int :=
 let n:=zao (x5 x) 5*10
 let a:=n+zao (stepX (x5 x)) 2
 let q:=zdw n (zgi x-2).toNat 1 (stepX (stepX (x5 x))) [a] a
 (q.1++ [-q.2.1],q.2.2)
def zfp (x:Int):List Member×Int :=
 zdf (zgi x*zcz (zdo x).2 1 3+zao (stepX (zdo x).2) 2).toNat 0 (stepX (stepX (zdo x).2)) []
def zio (x:Int):Club:=⟨zgi x,zao x 4*100,zao (stepX x) 5*10-30,zao (stepX (stepX x)) 3,(zdo x).1,zqm (stepX (stepX (stepX x))) 2,(zfp x).1,[]⟩
def zev (x most:Int):Club×Int :=
 let q:=zfb (zio x) (zao (zfp x).2 (most+1)).toNat (stepX (zfp x).2) []
 (zcy (zio x) q.1,q.2)
end Go.XL
namespace Go.XL
open Go.Proofs
set_option maxRecDepth 100000
set_option maxHeartbeats 8000000
def forC (id:Nat):Code→Option (Code×Code×Code)
 | .seq a b=>match forC id a with
  | some x=>some x
  | none=>match a with
   | .seq a1 a2=>if yuj id a1 then some (a1,a2,b)else forC id b
   | _=>forC id b
 | .rangeFunc _ _ a b=>match forC id a with|some x=>some x|none=>forC id b
 | .cond _ a b=>match forC id a with|some x=>some x|none=>forC id b
 | .block _ c=>forC id c
 | .loop c=>forC id c
 | .scope c=>forC id c
 | _=>none
theorem zli {P:Program} {n:Nat} {r:Rr} {Q:VEnv→Sto→Prop} {k:List Fr} {E:VEnv} {S:Sto} {id:Nat} {os l1 l2:List Oper} {bs:Nat} {x:Int} (hS:zad S bs=some (srcO x)) (ord:List Nat) (m:Nat) (hok:zpc os.toArray ord m=true) (hm:P.follows .mixedOrders=true) (h1:zpp os ord=l1) (h2:os.drop m=l2)
  (q:DD P n r Q os (delS bs S) [] l1 (.ops os l2::k) E E [(bs,srcO x)]):DS P n r Q (.code (.region id os.toArray true)::k) E S :=
 zhi (delS bs S) [(bs,srcO x)] ord m hok hm h1 h2 (zvf hS).2 (zvf hS).1 q
abbrev zds :List V:= [I 0,I 0,I 0,I 0, .v (.slice none 0 0),Bo false, .v (.slice none 0 0), .v (.slice none 0 0)]
abbrev zhk (sz st ab wi:Int) (P:List Int) (sh:Bool) (m r:V):List V:= [I sz,I st,I ab,I wi, .own false 3 1 (P.map cI),Bo sh,m,r]
end Go.XL
namespace Go.XL
open Go.Proofs
set_option maxRecDepth 100000
set_option maxHeartbeats 8000000
def LR (R:List Sitting) (T P:List (List Int)) (c:V) (j:List V):List V:=(R.map Sitting.cells).flatten++([rows T,rows P,c]++j)
theorem zhz (R:List Sitting):(R.map Sitting.cells).flatten.length=R.length*3:=by
 rw[zfh (sz:=3) (fun c hc=>by obtain⟨s,_,rfl⟩:=List.mem_map.1 hc;rfl),List.length_map]
theorem yus (R:List Sitting) (T P:List (List Int)) (c:V) (j:List V):(LR R T P c j).length=R.length*3+3+j.length:=by
 rw[LR,List.length_append,zhz];simp;omega
theorem yno (R:List Sitting) (T P:List (List Int)) (c:V) (j:List V) {o:Nat} (h:o=R.length*3+2):(LR R T P c j)[o]?=some c:=by
 subst h
 rw[LR,List.getElem?_append_right (by rw[zhz];omega),zhz,show R.length*3+2-R.length*3=2 by omega];rfl
theorem zzf : ∀(R:List Sitting) (r:Nat) (h:r<R.length),(R.map Sitting.cells).flatten[r*3+1]?=some (rows R[r].points)
 | s::R,0,h=>rfl
 | s::R,r+1,h=>by
  have:=zzf R r (by simpa using h)
  rw[List.map_cons,List.flatten_cons,List.getElem?_append_right (by simp only[Sitting.cells,List.length_cons,List.length_nil];omega)]
  simp only[Sitting.cells,List.length_cons,List.length_nil,List.getElem_cons_succ]
  rw[show(r+1)*3+1-(0+1+1+1)=r*3+1 by omega]
  exact this
theorem yte (R:List Sitting) (T P:List (List Int)) (c:V) (j:List V) {o r:Nat} (hr:r≤R.length) (h:o=r*3+1):(LR R T P c j)[o]?=some (rows ((R.map Sitting.points++ [P]).getD r [])):=by
 subst h
 by_cases hl:r<R.length
 ·rw[LR,List.getElem?_append_left (by rw[zhz];omega),zzf R r hl]
  rw[List.getD_eq_getElem?_getD,List.getElem?_append_left (by simpa using hl),List.getElem?_map,List.getElem?_eq_getElem hl];rfl
 ·obtain rfl:r=R.length:=by omega
  rw[LR,List.getElem?_append_right (by rw[zhz];omega),zhz,show R.length*3+1-R.length*3=1 by omega]
  show some (rows P)=_
  rw[List.getD_eq_getElem?_getD,List.getElem?_append_right (by simp),List.length_map,Nat.sub_self];rfl
theorem ynn (R:List Sitting) (T P:List (List Int)) (c d:V) (j:List V) {o:Nat} (h:o=R.length*3+2):(LR R T P c j).set o d=LR R T P d j:=by
 subst h
 rw[LR,List.set_append_right _ _ (by rw[zhz];omega),zhz,show R.length*3+2-R.length*3=2 by omega];rfl
def SR (T:Nat) (g:GR):Sto:=match g with|⟨_,none⟩=> []|⟨l,some (b,_,j)⟩=> [(b, .cells (l.flatten++j) T)]
theorem yok (wi x:Int) (n:Nat) (h:1≤n):0≤zkf wi x n∧zkf wi x n<n:=by
 have:=zby x (wi+1)
 unfold zkf;omega
def NB (bs b4 b5 b:Nat) (g:GR):Prop:= ∀b' cap j,g.blk=some (b',cap,j)→b'≠bs∧b'≠b4∧b'≠b5∧b'≠b
theorem NB.del {bs b4 b5 b:Nat} {g:GR} (h:NB bs b4 b5 b g) (T:Nat):delS bs (SR T g)=SR T g:=by
 obtain⟨l,blk⟩:=g
 cases blk with
 | none=>rfl
 | some x =>
  obtain⟨b',cap,j⟩:=x
  simp only[SR,delS,(h b' cap j rfl).1,↓reduceIte]
theorem NB.look {bs b4 b5 b:Nat} {g:GR} (h:NB bs b4 b5 b g) (T c:Nat) (hc:c=bs∨c=b4∨c=b5∨c=b):zad (SR T g) c=none:=by
 obtain⟨l,blk⟩:=g
 cases blk with
 | none=>rfl
 | some x =>
  obtain⟨b',cap,j⟩:=x
  have:=h b' cap j rfl
  simp only[SR,zad]
  rw[if_neg]
  rintro rfl
  omega
structure RulI (bs b4 b5 b:Nat) (Rul:List Ruling) (g:GR):Prop where
 l:g.l=Rul.map Ruling.cells
 ok:g.Ok 65 3 (SR 65 g)
 nb:NB bs b4 b5 b g
theorem yX31 {p:Prop} (h:p:=by(simp (disch:=omega) only[go_sem,dopV,yV0,↓reduceIte,Nat.reduceEqDiff,Nat.reduceLT,Nat.reduceLeDiff,Nat.reduceAdd,Nat.reduceMul,Nat.reduceSub,Int.reduceToNat,Int.reduceLT,Int.reduceLE,Int.reduceEq,IntWalk.toNatUp,IntWalk.iteOmega,IntWalk.i64_in,V.flat,V.one, *,GR.cell_copy,Value.oneCell'];exact rfl)):p:=h
theorem yX32 {p:Prop} (h:p:=by(simp (disch:=omega) only[go_sem,dopV,yV0,↓reduceIte,Nat.reduceEqDiff,Nat.reduceLT,Nat.reduceLeDiff,Nat.reduceAdd,Nat.reduceMul,Nat.reduceSub,Int.reduceToNat,Int.reduceLT,Int.reduceLE,Int.reduceEq,IntWalk.toNatUp,IntWalk.iteOmega,IntWalk.i64_in,V.flat,V.one, *,GR.cell_copy,Value.oneCell'];try exact rfl)):p:=h
theorem yqf (bs b4 b5 b cap:Nat) (x sz st ab wi i:Int) (sh:Bool) (PL:List Int) (M:List Member) (R:List Sitting) (T P:List (List Int)) (j:List V) (hszB:Box (∃z:Nat,sz=z)) (hsz:3≤sz∧sz≤4) (hst:0≤st∧st≤1000000) (hwi:0≤wi∧wi≤2) (hnb:R.length≤1000) (hps: ∀r,((R.map Sitting.points++ [P]).getD r []).length≤1000)
  (n4: ¬bs=b4) (n4': ¬b4=bs) (n5: ¬bs=b5) (n5': ¬b5=bs) (m5: ¬b4=b5) (m5': ¬b5=b4) (q1: ¬bs=b) (q1': ¬b=bs) (q2: ¬b4=b) (q2': ¬b=b4) (q3: ¬b5=b) (q3': ¬b=b5) {v0:VH} {Q:VEnv→Sto→Prop} {fr:List Fr} {cd:Code} {os l:List Oper}
  (h4:Tryz.f40.body.bind (regC 30)=some os) (h5:os.drop 1=l) (h3:Tryz.f40.body.bind (zku 30)=some cd)
  (q: ∀g,RulI bs b4 b5 b (rulK sz st wi (R.map Sitting.points++ [P]) (zao x 3).toNat (stepX x) []).1 g→DS Tryz.prog 207 ⟨none,v0⟩ Q fr [(13,I i),(0,ptr bs),(4,ptr b4),(5,ptr b5)]
   ((bs,srcO (rulK sz st wi (R.map Sitting.points++ [P]) (zao x 3).toNat (stepX x) []).2)::(b5, .cells (zhk sz st ab wi PL sh (.own false 47 4 (M.map Member.cells)) (.v (.slice (some ⟨b,0,none⟩) (R.length+1) cap))) 26)::(b4, .cells zds 26)::(b, .cells (LR R T P g.cell j) 61)::SR 65 g)) :
  DS Tryz.prog 207 ⟨none,v0⟩ Q (.ops os l :: .code cd::fr)
   [(138,ptr bs),(13,I i),(0,ptr bs),(4,ptr b4),(5,ptr b5)] [(bs,srcO x),(b5, .cells (zhk sz st ab wi PL sh (.own false 47 4 (M.map Member.cells)) (.v (.slice (some ⟨b,0,none⟩) (R.length+1) cap))) 26),(b4, .cells zds 26),(b, .cells (LR R T P (.v (.slice none 0 0)) j) 61)]:=by
 obtain rfl:=Option.some.inj ((show Tryz.f40.body.bind (zku 30)=some _ from rfl).symm.trans h3)
 obtain rfl:=Option.some.inj ((show Tryz.f40.body.bind (regC 30)=some _ from rfl).symm.trans h4)
 subst h5
 clear h4
 clear h3
 simp only[zax,zay]
 have k1:=zby x 3
 repeat' (first|(with_reducible first|refine zac yU yU yE ?_|refine zab ?_|refine DS.block ?_)|(refine zfg inferInstance (zei bs x 3 (by omega)) yR yT yT ?_;(try simp only[zbp,zbv,↓reduceIte, *]))|fail)
 obtain⟨N,hN⟩: ∃N:Nat,(N:Int)=zao x 3:=⟨(zao x 3).toNat,by omega⟩
 have hNN:(zao x 3).toNat=N:=by omega
 rw[hNN]at q
 refine zcn [0,4,5,13] yN (fun(y:Nat×Int×Int×List Ruling×GR)=> [(15,I y.2.1)]) (fun(y:Nat×Int×Int×List Ruling×GR)=>(bs,srcO y.2.2.1)::(b5, .cells (zhk sz st ab wi PL sh (.own false 47 4 (M.map Member.cells)) (.v (.slice (some ⟨b,0,none⟩) (R.length+1) cap))) 26)::(b4, .cells zds 26)::(b, .cells (LR R T P y.2.2.2.2.cell j) 61)::SR 65 y.2.2.2.2) (fun(y:Nat×Int×Int×List Ruling×GR)=>(y.2.1≤y.1∧(y.1:Int)≤y.2.1)∧y.2.2.2.1.length+1000*y.1≤2000∧RulI bs b4 b5 b y.2.2.2.1 y.2.2.2.2∧rulK sz st wi (R.map Sitting.points++ [P]) N (stepX x) []=rulK sz st wi (R.map Sitting.points++ [P]) y.1 y.2.2.1 y.2.2.2.1) (fun(y:Nat×Int×Int×List Ruling×GR)=>y.1) (N,zao x 3,stepX x,[],⟨[],none⟩) yS (fun b o e=>by exact e) ⟨by dsimp only;omega,by dsimp only[List.length_nil];omega,⟨rfl,rfl,fun _ _ _ e=>by cases e⟩,rfl⟩ (fun y B hI hB=>?_);try dsimp only at hI hB;simp only[zar,zav]
 obtain⟨k,cnt,x1,Rul,g⟩:=y
 dsimp only at hI hB ⊢
 obtain⟨g1,g2,g3,g4⟩:=hI
 have H:=Box.mk (And.intro g3 (And.intro g4 (And.intro q hN)))
 clear g4 q hN hNN
 have hdel:=g3.nb.del 65
 clear g3
 have k2:=zby x1 (wi+1)
 have hB3:=hB
 clear hB
 repeat' (first|(with_reducible first|refine zac yU yU yE ?_|refine zab ?_|refine DS.seq ?_|refine zaa ?_|(refine zbc yE ?_;refine zen (fun _=>?_) (fun _=>?_))|refine DS.block ?_|refine DS.exit yU ?_|refine DS.skip ?_)|fail)
 ·rename_i e0
  (refine zli (id:=33) (bs:=bs) (x:=x1) (by simp only[zae,zbu,↓reduceIte, *]) [0,1,2,3,4,5,6,7,8] 9 (by kernel_rfl) zdq (by simp only[zba,zbg,zbh,zbi,zaz];exact rfl) (by simp only[zax,zay,List.drop_nil];exact rfl) ?_;simp only[zbp,zbv,↓reduceIte, *])
  repeat' (first|(with_reducible first|refine zac yU yU yE ?_|refine zab ?_|refine DS.seq ?_|refine zaa ?_|refine DS.block ?_|refine zbz yU yU yU yE ?_)|(with_reducible refine DD.nil ?_;simp only[zar,zav])|(refine zpk inferInstance (zei bs x1 (wi+1) (by omega)) yU yT yT ?_;simp only[zca,zck,Nat.reduceEqDiff,↓reduceIte];(try simp only[zbp,zbv,↓reduceIte, *]))|fail)
  have hrb:=yok wi x1 (R.length+1) (by omega)
  obtain⟨rd,hrd⟩: ∃rd:Nat,(rd:Int)=zkf wi x1 (R.length+1):=⟨(zkf wi x1 (R.length+1)).toNat,by omega⟩
  have hrl:rd≤R.length:=by omega
  have hif:(if((R.length+1:Nat):Int)-1-zao x1 (wi+1) > 0 then((R.length+1:Nat):Int)-1-zao x1 (wi+1)else 0)=(rd:Int):=by
   rw[hrd];unfold zkf;split <;> omega
  simp only[hif]
  clear hif
  have Hr:=Box.mk hrd
  clear hrd hrb
  obtain⟨ps,hpsE⟩: ∃ps,ps=(R.map Sitting.points++ [P]).getD rd []:=⟨_,rfl⟩
  have hpl:=hps rd
  rw[←hpsE]at hpl
  have Hp:=Box.mk hpsE
  clear hpsE
  refine zcn [0,4,5,13,15,16] yN (fun(z:Nat×Int×List Ruling×GR)=> [(17,I z.1)]) (fun(z:Nat×Int×List Ruling×GR)=>(bs,srcO z.2.1)::(b5, .cells (zhk sz st ab wi PL sh (.own false 47 4 (M.map Member.cells)) (.v (.slice (some ⟨b,0,none⟩) (R.length+1) cap))) 26)::(b4, .cells zds 26)::(b, .cells (LR R T P z.2.2.2.cell j) 61)::SR 65 z.2.2.2) (fun(z:Nat×Int×List Ruling×GR)=>z.1≤ps.length∧z.2.2.1.length+(ps.length-z.1)+1000*(k-1)≤2000∧RulI bs b4 b5 b z.2.2.1 z.2.2.2∧rulG sz st rd ps 0 (stepX x1) Rul=rulG sz st rd (ps.drop z.1) z.1 z.2.1 z.2.2.1) (fun(z:Nat×Int×List Ruling×GR)=>ps.length-z.1) (0,stepX x1,Rul,g) yS (fun b o e=>by exact e) ⟨Nat.zero_le _,by dsimp only;omega,H.out.1,rfl⟩ (fun z B hI hB=>?_);try dsimp only at hI hB;simp only[zar,zav]
  obtain⟨u,x2,Rul2,g'⟩:=z
  dsimp only at hI hB ⊢
  obtain⟨i1,i2,i3,i4⟩:=hI
  have H2:=Box.mk (And.intro i3 i4)
  clear i4
  have hdel2:=i3.nb.del 65
  clear i3
  have hc1:(LR R T P g'.cell j)[rd*3+1]?=some (rows ps):=by rw[Hp.out];exact yte R T P g'.cell j hrl rfl
  repeat' (first|(with_reducible first|refine zac yU yU yE ?_|refine zab ?_|refine DS.seq ?_|refine zaa ?_|(refine zbc yE ?_;first|refine zen (fun _=>?_) (fun _=>?_)|refine zdd ?_|refine ygy (fun _=>?_) (fun _=>?_))|(refine zea yU yE ?_;first|refine zpi (fun _=>?_) (fun _=>?_)|refine GG.run ?_|refine zfy ?_)|refine DS.blk ?_|refine DS.block ?_|refine DS.exit yU ?_|refine DS.skip ?_)|(refine zfg inferInstance (znq bs x2 3 (by omega)) yR yT yT ?_;(try simp only[zbp,zbv,↓reduceIte, *]))|fail)
  ·rename_i e1 e2 e3
   have hu:u<ps.length:=by omega
   simp only[Nat.add_sub_cancel]
   have hc2:(LR R T P g'.cell j)[R.length*3+2]?=some g'.cell:=yno R T P g'.cell j rfl
   have he:SC Tryz.prog 88 [ptr bs,I sz,I st] bs (stepX x2) (ints (zfw sz st (stepX x2)).1) (zfw sz st (stepX x2)).2:=by
    obtain⟨z,hz⟩:=hszB.out
    rw[hz];exact ymi bs (stepX x2) z st (by omega) (by omega)
   refine zhi (id:=39) ([(b5, .cells (zhk sz st ab wi PL sh (.own false 47 4 (M.map Member.cells)) (.v (.slice (some ⟨b,0,none⟩) (R.length+1) cap))) 26),(b4, .cells zds 26),(b, .cells (LR R T P g'.cell j) 61)]) ((bs,srcO (stepX x2))::SR 65 g') [0,1,2,3,4,5,6,7,8,9,10,11,12,13,14,15] 16 (by kernel_rfl) zdq (by simp only[zba,zbg,zbh,zbi,zaz];exact rfl) (by simp only[zax,zay,List.drop_nil];exact rfl) ((fun d o e=>by
    have hb: ¬bs=d:=fun h=>by subst h;simp only[zae,zbu,n5',n4',q1',↓reduceIte]at e;cases e
    have hl:d=b5∨d=b4∨d=b:=by
     simp only[zae,zbu]at e
     split at e
     ·rename_i h;exact .inl h.symm
     split at e
     ·rename_i h;exact .inr (.inl h.symm)
     split at e
     ·rename_i h;exact .inr (.inr h.symm)
     ·cases e
    have hn:=H2.out.1.nb.look 65 d (by omega)
    refine⟨?_,by simp only[zae,hb,↓reduceIte];exact hn⟩
    simp only[zae,zbu,hb,↓reduceIte]at e ⊢
    by_cases a1:b5=d
    ·rw[if_pos a1]at e ⊢;exact e
    rw[if_neg a1]at e ⊢
    by_cases a2:b4=d
    ·rw[if_pos a2]at e ⊢;exact e
    rw[if_neg a2]at e ⊢
    by_cases a3:b=d
    ·rw[if_pos a3]at e ⊢;exact e
    ·rw[if_neg a3]at e;cases e)) ((fun d o e=>by
    simp only[zae]at e ⊢
    by_cases a0:bs=d
    ·rw[if_pos a0]at e ⊢;exact e
    ·rw[if_neg a0]at e ⊢
     rw[if_neg (fun h=>by subst h;rw[H2.out.1.nb.look _ _ (.inr (.inr (.inl rfl)))]at e;cases e),if_neg (fun h=>by subst h;rw[H2.out.1.nb.look _ _ (.inr (.inl rfl))]at e;cases e),if_neg (fun h=>by subst h;rw[H2.out.1.nb.look _ _ (.inr (.inr (.inr rfl)))]at e;cases e)]
     exact e)) ?_
   repeat' (first|(with_reducible first|refine zbz yU yU yU yX31 ?_|refine zkc yU yU yU yU yX31 ?_)|(refine zpk inferInstance (he) yU yX32 yX32 ?_;simp only[zca,zck,Nat.reduceEqDiff,↓reduceIte];(try simp only[zbp,zbv,↓reduceIte, *]))|(refine ziq yU yX31 yX31 ?_;simp only[go_sem,Nat.zero_add,Nat.reduceAdd];simp only[zca,zck,Nat.reduceEqDiff,↓reduceIte])|fail)
   have hOk:g'.Ok 65 3 ((bs,srcO (zfw sz st (stepX x2)).2)::SR 65 g'):=H2.out.1.ok.of fun d cap' jj h=>by
    rw[zae,if_neg (fun h'=>(H2.out.1.nb d cap' jj h).1 h'.symm)]
   have hgl:g'.l.length=Rul2.length:=by rw[H2.out.1.l,List.length_map]
   refine zui rfl rfl rfl yR (zkb (g:=g') (ml:= [Ruling.cells ⟨rd,u,(zfw sz st (stepX x2)).1⟩]) rfl yH yH yR yR (by decide) yH hOk yH yH (by exact Nat.zero_lt_succ _) (by intro c hc;obtain rfl:=List.mem_singleton.1 hc;rfl) ⟨by rw[hgl,List.length_singleton];omega,by decide⟩) (fun u2 E' S4 hu2 hdis=>?_)
   obtain⟨rfl,b',cap',junk',rfl,m1,m2,m3⟩:=hu2
   have hml:g'.l++ [Ruling.cells ⟨rd,u,(zfw sz st (stepX x2)).1⟩].map (fun x=>List.map V.copy x)=(Rul2++ [(⟨rd,u,(zfw sz st (stepX x2)).1⟩:Ruling)]).map Ruling.cells:=by rw[H2.out.1.l,List.map_append];rfl
   rw[hml]at m1 ⊢
   obtain⟨Rul3,hR3⟩: ∃Rul3:List Ruling,Rul3=Rul2++ [(⟨rd,u,(zfw sz st (stepX x2)).1⟩:Ruling)]:=⟨_,rfl⟩
   rw[←hR3]at m1 ⊢
   have e0:b'≠bs:=by
    rcases m2 with⟨c,jj,h⟩|h
    ·exact(H2.out.1.nb _ _ _ h).1
    ·intro h';subst h';simp[zad]at h
   have hS0: ∀d o,zad [(b5,Ob.cells (zhk sz st ab wi PL sh (.own false 47 4 (M.map Member.cells)) (.v (.slice (some ⟨b,0,none⟩) (R.length+1) cap))) 26),(b4, .cells zds 26),(b, .cells (LR R T P g'.cell j) 61)] d=some o→b'≠d:=fun d o e h=>by
    have h1:=hdis d o e
    rw[←h,m1.look]at h1;cases h1
   have e5:b'≠b5:=hS0 b5 _ (by simp only[zae,↓reduceIte];exact rfl)
   have e4:b'≠b4:=hS0 b4 _ (by simp only[zae,m5',↓reduceIte];exact rfl)
   have eb:b'≠b:=hS0 b _ (by simp only[zae,q2,q3,↓reduceIte];exact rfl)
   have hbs:zad S4 bs=some (srcO (zfw sz st (stepX x2)).2):=by
    rw[m3 bs (fun h=>e0 h.symm) (fun c jj h=>(H2.out.1.nb _ _ _ h).1 rfl),zae,if_pos rfl]
   refine zet (S':=(bs,srcO (zfw sz st (stepX x2)).2)::(b5, .cells (zhk sz st ab wi PL sh (.own false 47 4 (M.map Member.cells)) (.v (.slice (some ⟨b,0,none⟩) (R.length+1) cap))) 26)::(b4, .cells zds 26)::(b, .cells (LR R T P g'.cell j) 61)::SR 65 ⟨Rul3.map Ruling.cells,some (b',cap',junk')⟩) (fun d o e=>?_) ?_
   ·rw[zbd]
    rw[zae]at e
    by_cases a0:bs=d
    ·rw[if_pos a0]at e;subst a0;rw[hbs];exact e
    rw[if_neg a0]at e
    by_cases a1: ∃o',zad [(b5,Ob.cells (zhk sz st ab wi PL sh (.own false 47 4 (M.map Member.cells)) (.v (.slice (some ⟨b,0,none⟩) (R.length+1) cap))) 26),(b4, .cells zds 26),(b, .cells (LR R T P g'.cell j) 61)] d=some o'
    ·obtain⟨o',h'⟩:=a1
     rw[hdis d o' h']
     have:o'=o:=by
      simp only[zae,zbu]at h' e
      by_cases c1:b5=d
      ·rw[if_pos c1]at h' e;rw[h']at e;exact Option.some.inj e
      rw[if_neg c1]at h' e
      by_cases c2:b4=d
      ·rw[if_pos c2]at h' e;rw[h']at e;exact Option.some.inj e
      rw[if_neg c2]at h' e
      by_cases c3:b=d
      ·rw[if_pos c3]at h' e;rw[h']at e;exact Option.some.inj e
      ·rw[if_neg c3]at h';cases h'
     rw[←this];exact h'
    ·have c1: ¬b5=d:=fun h=>a1 ⟨_,by simp only[zae,h,↓reduceIte];rfl⟩
     have c2: ¬b4=d:=fun h=>a1 ⟨_,by simp only[zae,c1,h,↓reduceIte];rfl⟩
     have c3: ¬b=d:=fun h=>a1 ⟨_,by simp only[zae,c1,c2,h,↓reduceIte];rfl⟩
     simp only[zae,c1,c2,c3,↓reduceIte,SR,zbu]at e
     by_cases c4:b'=d
     ·subst c4;rw[m1.look];rw[if_pos rfl]at e;exact e
     ·rw[if_neg c4]at e;cases e
   simp only[GR.cell_some,zco,List.length_map]
   have hk:rulG sz st rd ps 0 (stepX x1) Rul=rulG sz st rd (ps.drop (u+1)) ((u+1:Nat):Int) (zfw sz st (stepX x2)).2 Rul3:=by
    rw[H2.out.2,List.drop_eq_getElem_cons hu,rulG,if_pos e2,if_pos e3,hR3];rfl
   have hrl:Rul3.length=Rul2.length+1:=by rw[hR3,List.length_append];rfl
   have hI3:RulI bs b4 b5 b Rul3 ⟨Rul3.map Ruling.cells,some (b',cap',junk')⟩:=⟨rfl,⟨by simp[SR,zad],m1.len,m1.le,m1.cap,m1.jf,m1.lf,m1.ll⟩,fun c1 c2 c3 h=>by cases h;exact⟨e0,e4,e5,eb⟩⟩
   have H3:=Box.mk (And.intro hk hI3)
   clear hk hR3 hml m1 m2 m3 hdis hI3 hS0 hbs hOk hgl
   have hll:=yus R T P g'.cell j
   repeat' (first|(with_reducible first|refine zac yU yU yE ?_|refine zab ?_|refine zaa ?_|refine DS.blk ?_)|(refine DS.store yR yE yE yE yE yU (by exact⟨by with_unfolding_all rfl,by(try simp only[List.length_map,List.length_append,List.length_set,List.length_replicate,List.length_cons,List.length_nil]);omega⟩) ?_;simp only[zbo,zau,zaw,zbw,zbm,zbk,zbl];try simp only[zam,zaf,zag,Nat.reduceEqDiff,↓reduceIte,zaj,zak,zap,zai,zah,zan,zal])|fail)
   simp only[setS,q1,q2,q3,↓reduceIte]
   rw[ynn _ _ _ _ _ _ rfl]
   refine DS.back (hB (u+1,(zfw sz st (stepX x2)).2,Rul3,⟨Rul3.map Ruling.cells,some (b',cap',junk')⟩) _ _ (by dsimp only;omega) ⟨by dsimp only;omega,by dsimp only;omega,H3.out.2,H3.out.1⟩ yS yS (fun d o e=>?_))
   dsimp only at e
   rw[GR.cell_some,List.length_map,hrl]at e
   exact e
  ·rename_i e1 e2 e3
   have hu:u<ps.length:=by omega
   have hk:rulG sz st rd ps 0 (stepX x1) Rul=rulG sz st rd (ps.drop (u+1)) ((u+1:Nat):Int) (stepX x2) Rul2:=by
    rw[H2.out.2,List.drop_eq_getElem_cons hu,rulG,if_pos e2,if_neg (by simp[e3])];rfl
   refine DS.back (hB (u+1,stepX x2,Rul2,g') _ _ (by dsimp only;omega) ⟨by dsimp only;omega,by dsimp only;omega,H2.out.1,hk⟩ yS yS (fun b o e=>e))
  ·rename_i e1 e2
   have hu:u<ps.length:=by omega
   have hk:rulG sz st rd ps 0 (stepX x1) Rul=rulG sz st rd (ps.drop (u+1)) ((u+1:Nat):Int) x2 Rul2:=by
    rw[H2.out.2,List.drop_eq_getElem_cons hu,rulG,if_neg e2];rfl
   refine DS.back (hB (u+1,x2,Rul2,g') _ _ (by dsimp only;omega) ⟨by dsimp only;omega,by dsimp only;omega,H2.out.1,hk⟩ yS yS (fun b o e=>e))
  ·rename_i e1
   have hk:rulK sz st wi (R.map Sitting.points++ [P]) N (stepX x) []=rulK sz st wi (R.map Sitting.points++ [P]) (k-1) x2 Rul2:=by
    obtain⟨k',rfl⟩: ∃k',k=k'+1:=⟨k-1,by omega⟩
    have h1:=H2.out.2
    rw[show ps.drop u= []from List.drop_eq_nil_of_le (by omega),rulG,Hr.out,Hp.out]at h1
    have h2:rd=(zkf wi x1 (R.length+1)).toNat:=by have:=Hr.out;omega
    rw[H.out.2.1,rulK,List.length_append,List.length_map,List.length_singleton,←h2,h1]
    rfl
   refine DS.back (hB3 (k-1,cnt-1,x2,Rul2,g') _ _ (by dsimp only;omega) ⟨by dsimp only;omega,by dsimp only;omega,H2.out.1,hk⟩ yS yS (fun b o e=>e))
 ·rename_i e1
  obtain⟨h1,h2,h3,h4⟩:=H.out
  obtain rfl:k=0:=by omega
  rw[h2]at h3
  exact zec (zep (by simp (disch:=omega) only[go_sem,↓reduceIte,Nat.reduceEqDiff,zez,zfn,and_self,zar,zav])) (fun _ _ e=>e) (h3 g h1)
end Go.XL
namespace Go.XL
theorem zvq {st:List Int→Int→Bool} {f:List Int→List Int→List (List Int)} {t x:List Int}: ∀{ids:List Int},x∈zfi st f t ids→ ∃id r,x∈f (t++ [id]) r
 | [],h=>by simp[zfi]at h
 | id::r,h=>by
  rw[zfi]at h
  rcases List.mem_append.1 h with h|h
  ·split at h
   ·exact⟨id,r,h⟩
   ·cases h
  ·exact zvq h
theorem yba {st:List Int→Int→Bool} {x:List Int}: ∀(n:Nat) (t ids:List Int),x∈zgo st n t ids→x.length=t.length+n
 | 0,t,ids,h=>by
  simp only[zgo,List.mem_singleton]at h;subst h;rfl
 | n+1,t,ids,h=>by
  obtain⟨id,r,h⟩:=zvq h
  have:=yba n _ _ h
  rw[this];simp;omega
theorem zyu {budget:Int} {round sz:Nat} {rec:List Int→Int→Int×Int×List (Nat×List Int)} (h: ∀t s,∀q∈(rec t s).2.2,q.2.length=sz): ∀(l:List (List Int)) (s:Int),(∀t∈l,t.length=sz)→ ∀q∈(tryL budget round rec l s).2.2,q.2.length=sz
 | [],s,_,q,hq=>by simp[tryL]at hq
 | t::r,s,hl,q,hq=>by
  simp only[tryL]at hq
  split at hq
  ·cases hq
  split at hq
  ·exact zyu h r _ (fun t' ht=>hl t' (List.mem_cons_of_mem _ ht)) q hq
  ·rcases List.mem_cons.1 hq with rfl|hq
   ·exact hl t (List.mem_cons_self ..)
   ·exact h _ _ q hq
theorem zrk {size:Nat} {budget:Int} {rounds:List (List Int)} (hs:1≤size): ∀(n:Nat) (met:Int→Int→Bool) (round:Nat) (ids:List Int) (s:Int),∀q∈(srch size budget rounds n met round ids s).2.2,q.2.length=size
 | 0,met,round,ids,s,q,hq=>by simp[srch]at hq
 | n+1,met,round,[],s,q,hq=>by
  rw[srch]at hq
  split at hq
  ·cases hq
  ·exact zrk hs n met _ _ _ q hq
 | n+1,met,round,f::fr,s,q,hq=>by
  rw[srch]at hq
  refine zyu (fun t s=>zrk hs n _ _ _ _) _ _ (fun t ht=>?_) q hq
  have:=yba _ _ _ ht
  rw[this];simp;omega
theorem yib (c:Club) (hs:1≤c.size) (ids:List Int): ∀t∈(zge c ids).1,(t.length:Int)=c.size:=by
 intro t ht
 unfold zge at ht
 repeat' split at ht
 all_goals first|(cases ht;done)|skip
 obtain⟨q,hq,rfl⟩:=List.mem_map.1 ht
 have:=zrk (by omega) _ _ _ _ _ q hq
 omega
theorem ypm (out:List Int) (n:Int):(insS out n).length=out.length+1:=by
 simp only[insS,List.length_append,List.length_take,List.length_cons,List.length_drop];omega
theorem zoy : ∀(l out:List Int),(l.foldl insS out).length=out.length+l.length
 | [],out=>rfl
 | a::r,out=>by rw[List.foldl_cons,zoy r,ypm];simp;omega
theorem zpl (size:Int) (hs:1≤size): ∀(n:Nat) (x:Int) (rest:List Int) (out:List (List Int)),(∀t∈out,(t.length:Int)=size)→ ∀t∈(znp size n x rest out).1,(t.length:Int)=size
 | 0,x,rest,out,h=>by simpa [znp] using h
 | n+1,x,rest,out,h=>by
  simp only[znp]
  split
  ·refine zpl size hs n _ _ _ fun t ht=>?_
   rcases List.mem_append.1 ht with ht|ht
   ·exact h t ht
   ·obtain rfl:=List.mem_singleton.1 ht
    rw[zft,zoy]
    have:=zwn size size.toNat x [rest.headD 0] (rest.drop 1) (by simp;omega) (by simp;omega)
    simp only[List.length_nil,Nat.zero_add];exact this
  ·exact h
theorem zum (c:Club) (x:Int) (hs:1≤c.size): ∀t∈(zbb c x).1,(t.length:Int)=c.size:=by
 unfold zbb
 split
 ·dsimp only
  split
  ·exact yib c hs _
  ·exact zpl c.size hs _ _ _ _ (fun t ht=>by cases ht)
 ·exact zpl c.size hs _ _ _ _ (fun t ht=>by cases ht)
theorem zoo (size start:Int) (hs:1≤size): ∀(n:Nat) (x:Int) (out:List (List Int)),(∀p∈out,p= []∨(p.length:Int)=size)→(∀p∈(ptsG size start n x out).1,p= []∨(p.length:Int)=size)∧(ptsG size start n x out).1.length=out.length+n
 | 0,x,out,h=>⟨h,rfl⟩
 | n+1,x,out,h=>by
  rw[ptsG]
  split
  ·have:=zoo size start hs n (zfw size start (stepX x)).2 (out++ [(zfw size start (stepX x)).1]) (fun p hp=>by
    rcases List.mem_append.1 hp with hp|hp
    ·exact h p hp
    ·obtain rfl:=List.mem_singleton.1 hp
     exact .inr (zpb size start _ hs))
   exact⟨this.1,by rw[this.2];simp;omega⟩
  ·have:=zoo size start hs n (stepX x) (out++ [[]]) (fun p hp=>by
    rcases List.mem_append.1 hp with hp|hp
    ·exact h p hp
    ·obtain rfl:=List.mem_singleton.1 hp
     exact .inl rfl)
   exact⟨this.1,by rw[this.2];simp;omega⟩
theorem zqt (size start round:Int) (hs:1≤size): ∀(l:List (List Int)) (t x:Int) (R:List Ruling),(∀r∈R,(r.points.length:Int)=size)→(∀r∈(rulG size start round l t x R).1,(r.points.length:Int)=size)∧(rulG size start round l t x R).1.length≤R.length+l.length
 | [],t,x,R,h=>⟨h,by simp[rulG]⟩
 | p::l,t,x,R,h=>by
  rw[rulG]
  split
  ·split
   ·have:=zqt size start round hs l (t+1) (zfw size start (stepX x)).2 (R++ [⟨round,t,(zfw size start (stepX x)).1⟩]) (fun r hr=>by
     rcases List.mem_append.1 hr with hr|hr
     ·exact h r hr
     ·obtain rfl:=List.mem_singleton.1 hr
      exact zpb size start _ hs)
    refine⟨this.1,Nat.le_trans this.2 ?_⟩
    simp;omega
   ·have:=zqt size start round hs l (t+1) (stepX x) R h
    exact⟨this.1,Nat.le_trans this.2 (by simp)⟩
  ·have:=zqt size start round hs l (t+1) x R h
   exact⟨this.1,Nat.le_trans this.2 (by simp)⟩
theorem zww (size start window:Int) (hs:1≤size) (ps:List (List (List Int))) (L:Nat) (hL: ∀r,(ps.getD r []).length≤L): ∀(k:Nat) (x:Int) (R:List Ruling),(∀r∈R,(r.points.length:Int)=size)→(∀r∈(rulK size start window ps k x R).1,(r.points.length:Int)=size)∧(rulK size start window ps k x R).1.length≤R.length+k*L
 | 0,x,R,h=>⟨h,by simp[rulK]⟩
 | k+1,x,R,h=>by
  rw[rulK]
  have h1:=zqt size start (zkf window x ps.length) hs (ps.getD (zkf window x ps.length).toNat []) 0 (stepX x) R h
  have h2:=zww size start window hs ps L hL k (rulG size start (zkf window x ps.length) (ps.getD (zkf window x ps.length).toNat []) 0 (stepX x) R).2 _ h1.1
  have h3:=hL (zkf window x ps.length).toNat
  refine⟨h2.1,Nat.le_trans h2.2 ?_⟩
  rw[Nat.succ_mul];omega
structure MadeR (size:Int) (L:Nat) (s:Sitting):Prop where
 rows: ∀t∈s.tables,(t.length:Int)=size
 len:s.tables.length≤L
 pts: ∀p∈s.points,p= []∨(p.length:Int)=size
 plen:s.points.length=s.tables.length
 rul:s.rulings.length≤2*L
 rpts: ∀r∈s.rulings,(r.points.length:Int)=size
theorem MadeR.small {size:Int} {L:Nat} {s:Sitting} (h:MadeR size L s) (hs:size≤100) (hL:L≤1000):s.Small where
 tables:=Nat.le_trans h.len (by omega)
 points:=by rw[h.plen];exact Nat.le_trans h.len (by omega)
 rulings:=Nat.le_trans h.rul (by omega)
 table:=fun t ht=>by have:=h.rows t ht;omega
 point:=fun t ht=>by
  rcases h.pts t ht with rfl|e
  ·simp
  ·omega
 ruling:=fun r hr=>by have:=h.rpts r hr;omega
theorem ycy {α:Type} {l:List (List α)} {L:Nat} (h: ∀x∈l,x.length≤L) (r:Nat):(l.getD r []).length≤L:=by
 rw[List.getD_eq_getElem?_getD]
 cases e:l[r]? with
 | none=>simp
 | some x=>exact h x (List.mem_of_getElem? e)
theorem zrp (c:Club) (x:Int) (R:List Sitting) (L:Nat) (hs:1≤c.size) (hL:c.members.length+2≤L) (hR: ∀s∈R,MadeR c.size L s) :
  MadeR c.size L ⟨(zbb (zcy c R) x).1,(zcu (zcy c R) x).1,(zid c x R).1⟩:=by
 have h1:=zum (zcy c R) x hs
 have h2:=zom (zcy c R) x
 have h3:=zoo c.size c.start hs (zbb (zcy c R) x).1.length (zbb (zcy c R) x).2 [] (fun p hp=>by cases hp)
 have h3':(zcu (zcy c R) x).1.length=(zbb (zcy c R) x).1.length:=by
  have:=h3.2
  rw[List.length_nil,Nat.zero_add]at this;exact this
 have h4:=zww c.size c.start c.window hs (R.map Sitting.points++ [(zcu (zcy c R) x).1]) L (ycy (fun p hp=>by
  rcases List.mem_append.1 hp with hp|hp
  ·obtain⟨s,hs,rfl⟩:=List.mem_map.1 hp
   rw[(hR s hs).plen];exact(hR s hs).len
  ·obtain rfl:=List.mem_singleton.1 hp
   rw[h3'];exact Nat.le_trans h2 hL)) (zao (zcu (zcy c R) x).2 3).toNat (stepX (zcu (zcy c R) x).2) [] (fun r hr=>by cases hr)
 have h5:=zby (zcu (zcy c R) x).2 3
 refine⟨h1,Nat.le_trans h2 hL,h3.1,h3',Nat.le_trans h4.2 ?_,h4.1⟩
 simp only[List.length_nil,Nat.zero_add]
 exact Nat.mul_le_mul_right _ (by omega)
end Go.XL
namespace Go.XL
open Go.Proofs
set_option maxRecDepth 100000
set_option maxHeartbeats 8000000
theorem yth {P:Program} {n:Nat} {r:Rr} {Q:VEnv→Sto→Prop} {k:List Fr} {E:VEnv} {S:Sto} {t:Nat} {ty:TypeId} {pos:String} {af:Array Edge} {ts:Array TypeId} {g:FuncId} {xs:Array Operand} {fn:Func} {ops l:List Oper} (S1 S2:Sto) {R:V→Sto→Prop} {x0:V} {pre cs:List V} {b len cap sz T:Nat} {cl:List (List V)}
  (hf:FnOk P g fn) (hd:decide (t<n)=true) (he:evsV (evV E) xs.toList=some [x0, .agg (pre++ [.v (.slice (some ⟨b,0,none⟩) len cap)])]) (hc:DC P g [x0.peek, .agg (pre++ [.lst cl])] S1 R)
  (hS:zad S b=some (.cells cs T)) (hfree: ∀v∈cs,v.free=true) (hlen:cl.length=len) (hsz: ∀c∈cl,c.length=sz) (hflat:cl.flatten=(cs.take (len*sz)).map V.peek) (hcap:len≤cap∧cap≤maxLen)
  (h1: ∀j o,zad S1 j=some o→zad (delS b S) j=some o) (h2: ∀j o,zad S2 j=some o→zad (delS b S) j=some o∧zad S1 j=none)
  (hsR: ∀v S',R v S'→Safe b (cs.take (len*sz)) v∧v.free=true∧ ∀j c T',zad S' j=some (.cells c T')→ ∀v∈c,Safe b (cs.take (len*sz)) v)
  (hs2: ∀j c T',zad S2 j=some (.cells c T')→ ∀v∈c,Safe b (cs.take (len*sz)) v)
  (q: ∀v S0,R v S0→(∀j o,zad S0 j=some o→zad S2 j=none∧j≠b)→DS P n r Q (.ops ops l::k) ((t,v)::E) ((b, .cells cs T)::(S0++S2))) :
  DS P n r Q (.ops ops (⟨some t, .call {callee := .value (.func g),args:=xs,argTypes:=ts},ty,pos,af,none⟩::l)::k) E S:=by
 refine zed rfl rfl hd (yqo hf he (hc _) hS hfree hlen hsz hflat hcap h1 h2 hsR hs2) fun v E' S' ⟨eE,S0,eS,hR,hdis⟩=>?_
 subst eE;subst eS
 exact q v S0 hR hdis
theorem yqr {P:Program} {n:Nat} {r:Rr} {Q:VEnv→Sto→Prop} {k:List Fr} {E:VEnv} {S:Sto} {b:Nat} {l:List V} {T:TypeId} (hS:zad S b=some (.cells l T)) (q:DS P n r Q k E (setS b (.cells (l.map V.peek) T) S)):DS P n r Q k E S:=fun K W a w ⟨K',D,hv,hold,env,hbx,ha,s⟩ hw=>by
 refine q K W a w ⟨K',D,hv,hold,env,hbx,ha,⟨s.pre,s.slot,fun j o e=>?_,s.held,s.base,s.vbase⟩⟩ hw
 rw[zbe hS]at e
 split at e
 ·rename_i hj
  subst hj
  simp only[Option.some.injEq]at e;subst e
  obtain⟨o1,o2,cs,o3,o4,o5,o6⟩:=s.obj _ _ hS
  refine⟨o1,o2,cs,o3,zka o4,o5,fun i c u hc hu=>?_⟩
  obtain⟨v,hv,rfl⟩:=List.mem_map.1 (List.mem_of_getElem? hc)
  exact V.free_Own (zfu v) u
 ·exact s.obj j o e
theorem zwb {α:Type} (f:α→V): ∀l:List α,chunk 1 l.length (l.map f)=l.map fun a=> [f a]
 | []=>rfl
 | a::r=>by
  rw[List.length_cons,chunk,List.map_cons,List.map_cons,←zwb f r];rfl
theorem yot (P:List (List Int)):chunk 1 P.length ((P.map ptC).map V.peek)=P.map cR:=by
 rw[List.map_map,zwb]
 refine List.map_congr_left fun p _=>?_
 simp only[Function.comp,ptC,cR]
 split
 ·rename_i h;subst h;rfl
 ·rfl
theorem zhf {sz:Nat} {j:List V}: ∀{l:List (List V)},(∀c∈l,c.length=sz)→chunk sz l.length (l.flatten++j)=l
 | [],_=>rfl
 | c::r,h=>by
  have hc:=h c (List.mem_cons_self ..)
  rw[List.length_cons,chunk,List.flatten_cons,List.append_assoc,List.take_left' hc,List.drop_left' hc,zhf fun d hd=>h d (List.mem_cons_of_mem _ hd)]
theorem yjm (R:List Sitting):(R.map Sitting.cells).flatten.map V.copy=(R.map Sitting.cells).flatten:=by
 rw[List.map_flatten,List.map_map];rfl
theorem zze (R:List Sitting):(R.map Sitting.cells).flatten.map V.peek=(R.map Sitting.cells).flatten:=by
 rw[List.map_flatten,List.map_map];rfl
theorem zzg (R:List Sitting): ∀v∈(R.map Sitting.cells).flatten,v.free=true:=fun v hv=>by
 obtain⟨c,h1,h2⟩:=List.mem_flatten.1 hv
 obtain⟨s,_,rfl⟩:=List.mem_map.1 h1
 simp only[Sitting.cells,List.mem_cons,List.not_mem_nil,or_false]at h2
 rcases h2 with rfl|rfl|rfl <;> rfl
structure SitI (bs b4 b5:Nat) (Rs:List Sitting) (g:GR):Prop where
 l:g.l=Rs.map Sitting.cells
 ok:g.Ok 61 3 (SR 61 g)
 nb:NB bs b4 b5 b5 g
theorem ybk (bs b4 b5 bp:Nat) (x sz st ab wi i:Int) (sh:Bool) (PL:List Int) (M:List Member) (Rs:List Sitting) (T P:List (List Int)) (g:GR) (hszB:Box (∃z:Nat,sz=z)) (hsz:3≤sz∧sz≤4) (hst:0≤st∧st≤1000000) (hwi:0≤wi∧wi≤2) (hnb:Rs.length≤3) (hps: ∀r,((Rs.map Sitting.points++ [P]).getD r []).length≤1000) (hg:SitI bs b4 b5 Rs g)
  (n4: ¬bs=b4) (n4': ¬b4=bs) (n5: ¬bs=b5) (n5': ¬b5=bs) (m5: ¬b4=b5) (m5': ¬b5=b4) (q1: ¬bs=bp) (q1': ¬bp=bs) (q2: ¬b4=bp) (q2': ¬bp=b4) (q3: ¬b5=bp) (q3': ¬bp=b5) (hbp: ∀b' cap j,g.blk=some (b',cap,j)→b'≠bp) {v0:VH} {Q:VEnv→Sto→Prop} {fr:List Fr} {cd:Code} {os l:List Oper}
  (h4:Tryz.f40.body.bind (regC 28)=some os) (h5:os.drop 3=l) (h3:Tryz.f40.body.bind (zku 28)=some cd)
  (q: ∀g',SitI bs b4 b5 (Rs++ [⟨T,P,(rulK sz st wi (Rs.map Sitting.points++ [P]) (zao x 3).toNat (stepX x) []).1⟩]) g'→DS Tryz.prog 207 ⟨none,v0⟩ Q fr [(13,I i),(0,ptr bs),(4,ptr b4),(5,ptr b5)]
   ((bs,srcO (rulK sz st wi (Rs.map Sitting.points++ [P]) (zao x 3).toNat (stepX x) []).2)::(b5, .cells (zhk sz st ab wi PL sh (.own false 47 4 (M.map Member.cells)) g'.cell) 26)::(b4, .cells zds 26)::SR 61 g')) :
  DS Tryz.prog 207 ⟨none,v0⟩ Q (.ops os l :: .code cd::fr)
   [(131, .agg [rows T, .v (.slice (some ⟨bp,0,none⟩) P.length P.length), .v (.slice none 0 0)]),(13,I i),(0,ptr bs),(4,ptr b4),(5,ptr b5)] ((bp, .cells (P.map ptC) 22)::(bs,srcO x)::(b5, .cells (zhk sz st ab wi PL sh (.own false 47 4 (M.map Member.cells)) g.cell) 26)::(b4, .cells zds 26)::SR 61 g):=by
 obtain rfl:=Option.some.inj ((show Tryz.f40.body.bind (zku 28)=some _ from rfl).symm.trans h3)
 obtain rfl:=Option.some.inj ((show Tryz.f40.body.bind (regC 28)=some _ from rfl).symm.trans h4)
 subst h5
 clear h4 h3
 simp only[zax,zay]
 have hdel:delS bp (SR 61 g)=SR 61 g:=by
  obtain⟨l,blk⟩:=g
  cases blk with
  | none=>rfl
  | some y =>
   obtain⟨b',cap,j⟩:=y
   simp only[SR,delS,hbp b' cap j rfl,↓reduceIte]
 refine yiy (t:=131) (b:=bp) (i:=1) (len:=P.length) (cap:=P.length) (sz:=1) (l:=P.map ptC) (T:=22) yR yR (by simp only[zae,↓reduceIte]) (by simp) ⟨Nat.le_refl _,?_⟩ ?_
 ·have:=hps Rs.length
  rw[List.getD_eq_getElem?_getD,List.getElem?_append_right (by simp),List.length_map,Nat.sub_self]at this
  exact Nat.le_trans (m:=1000) this (by decide)
 rw[yot]
 simp only[zbp,hdel,q1,q2,q3,↓reduceIte,zcj,zcc]
 repeat' (first|(refine ygt (t:=134) yU yX21 yU (by simp only[List.length_cons,List.length_nil];omega) ?_;simp only[List.take_succ_cons,List.take_zero,List.map_cons,List.map_nil,zbt,zbn,zcp,Nat.reduceAdd])|(with_reducible first|refine zac yU yU yX21 ?_|refine zab ?_|refine DS.seq ?_|refine zaa ?_)|(refine zfa yU yX21 yX21 ?_;simp only[go_sem,Nat.zero_add,Nat.reduceAdd])|(refine zhh (t:=14) yU yX21 yU (fun _=>yX21) yX21 yU (by exact⟨by with_unfolding_all rfl,by with_unfolding_all decide⟩) (fun _=>by simp only[go_sem,Nat.reduceEqDiff,↓reduceIte]) ?_;simp only[go_sem])|fail)
 have hgl:g.l.length=Rs.length:=by rw[hg.l,List.length_map]
 refine zed rfl rfl yR (zkb (g:=g) (ml:= [[rows T,rows P, .v (.slice none 0 0)]]) rfl yH yH yR yR (by decide) yH (hg.ok.of fun d cap' jj h=>?_) yH yH (by exact Nat.zero_lt_succ _) (by intro c hc;obtain rfl:=List.mem_singleton.1 hc;rfl) ⟨by rw[hgl,List.length_singleton];omega,by decide⟩) (fun u2 E' S4 hu2=>?_)
 ·have hn:=hg.nb d cap' jj h
  rw[zae,if_neg (fun h'=>hn.1 h'.symm),zae,if_neg (fun h'=>hn.2.2.1 h'.symm),zae,if_neg (fun h'=>hn.2.1 h'.symm)]
 obtain⟨rfl,b',cap',junk',rfl,m1,m2,m3⟩:=hu2
 have hml:g.l++ [[rows T,rows P,V.v (.slice none 0 0)]].map (fun x=>List.map V.copy x)=Rs.map Sitting.cells++ [[rows T,rows P,V.v (.slice none 0 0)]]:=by rw[hg.l];rfl
 rw[hml]at m1 ⊢
 have e0:b'≠bs∧b'≠b5∧b'≠b4:=by
  rcases m2 with⟨c,jj,h⟩|h
  ·have hn:=hg.nb _ _ _ h
   exact⟨hn.1,hn.2.2.1,hn.2.1⟩
  ·simp only[zae]at h
   refine⟨fun h'=>?_,fun h'=>?_,fun h'=>?_⟩
   ·rw[if_pos h'.symm]at h;cases h
   ·rw[if_neg (fun x=>n5 (x.trans h')),if_pos h'.symm]at h;cases h
   ·rw[if_neg (fun x=>n4 (x.trans h')),if_neg (fun x=>m5' (x.trans h')),if_pos h'.symm]at h;cases h
 obtain⟨e1,e2,e3⟩:=e0
 have hold: ∀d,d≠b'→(d=bs∨d=b5∨d=b4)→zad S4 d=zad ((bs,srcO x)::(b5,Ob.cells (zhk sz st ab wi PL sh (.own false 47 4 (M.map Member.cells)) g.cell) 26)::(b4, .cells zds 26)::SR 61 g) d:=fun d hd hl =>
  m3 d hd fun c jj h=>by
   have hn:=hg.nb _ _ _ h
   rcases hl with rfl|rfl|rfl
   ·exact hn.1 rfl
   ·exact hn.2.2.1 rfl
   ·exact hn.2.1 rfl
 have hLR:(Rs.map Sitting.cells++ [[rows T,rows P,V.v (.slice none 0 0)]]).flatten++junk'=LR Rs T P (.v (.slice none 0 0)) junk':=by
  rw[LR,List.flatten_append,List.append_assoc];rfl
 have hlook:=m1.look
 rw[hLR]at hlook
 have hlen:=m1.len
 have hle:=m1.le
 rw[List.length_append,List.length_map,List.length_singleton]at hlen hle
 have hcap:=m1.cap
 have hjf:=m1.jf
 refine zet (S':= [(bs,srcO x),(b5, .cells (zhk sz st ab wi PL sh (.own false 47 4 (M.map Member.cells)) g.cell) 26),(b4, .cells zds 26),(b', .cells (LR Rs T P (.v (.slice none 0 0)) junk') 61)]) (fun d o e=>?_) ?_
 ·simp only[zae,zbu]at e
  by_cases c0:bs=d
  ·subst c0;rw[if_pos rfl]at e;rw[hold _ (fun h=>e1 h.symm) (.inl rfl),zae,if_pos rfl];exact e
  rw[if_neg c0]at e
  by_cases c1:b5=d
  ·subst c1;rw[if_pos rfl]at e;rw[hold _ (fun h=>e2 h.symm) (.inr (.inl rfl)),zae,if_neg c0,zae,if_pos rfl];exact e
  rw[if_neg c1]at e
  by_cases c2:b4=d
  ·subst c2;rw[if_pos rfl]at e;rw[hold _ (fun h=>e3 h.symm) (.inr (.inr rfl)),zae,if_neg c0,zae,if_neg c1,zae,if_pos rfl];exact e
  rw[if_neg c2]at e
  by_cases c3:b'=d
  ·subst c3;rw[if_pos rfl]at e;rw[hlook];exact e
  ·rw[if_neg c3]at e;cases e
 simp only[GR.cell_some,zco,List.length_append,List.length_map,List.length_singleton]
 have fin: ∀(Rul:List Ruling) (jn:List V),jn.length=junk'.length→(∀v∈jn,v.free=true)→SitI bs b4 b5 (Rs++ [⟨T,P,Rul⟩]) ⟨(Rs++ [(⟨T,P,Rul⟩:Sitting)]).map Sitting.cells,some (b',cap',jn)⟩:=fun Rul jn h1 h2 =>
  ⟨rfl,⟨by simp[SR,zad],by simp only[List.length_map,List.length_append,List.length_singleton,h1];exact hlen,by simp only[List.length_map,List.length_append,List.length_singleton];exact hle,hcap,h2,zzg _,fun c hc=>by obtain⟨s,_,rfl⟩:=List.mem_map.1 hc;rfl⟩,fun c1 c2 c3 h=>by cases h;exact⟨e1,e3,e2,e2⟩⟩
 have finC: ∀(Rul:List Ruling) (jn:List V),((Rs++ [(⟨T,P,Rul⟩:Sitting)]).map Sitting.cells).flatten++jn=LR Rs T P (.lst (Rul.map Ruling.cells)) jn:=fun Rul jn=>by
  rw[LR,List.map_append,List.flatten_append,List.append_assoc];rfl
 clear hml m1 m2 m3 hold hLR hlook hg
 repeat' (first|(with_reducible first|refine zac yU yU yE ?_|refine zab ?_|refine DS.seq ?_|refine zaa ?_)|(refine DS.store yR yE yE yE yE yU (by exact⟨by with_unfolding_all rfl,by(try simp only[List.length_map,List.length_append,List.length_set,List.length_replicate,List.length_cons,List.length_nil]);omega⟩) ?_;simp only[zbo,zau,zaw,zbw,zbm,zbk,zbl];try simp only[zam,zaf,zag,Nat.reduceEqDiff,↓reduceIte,zaj,zak,zap,zai,zah,zan,zal])|fail)
 simp only[setS,n5,↓reduceIte]
 refine zec (E':= [(138,ptr bs),(13,I i),(0,ptr bs),(4,ptr b4),(5,ptr b5)]) (S':= [(bs,srcO x),(b5, .cells (zhk sz st ab wi PL sh (.own false 47 4 (M.map Member.cells)) (.v (.slice (some ⟨b',0,none⟩) (Rs.length+1) cap'))) 26),(b4, .cells zds 26),(b', .cells (LR Rs T P (.v (.slice none 0 0)) junk') 61)]) (zep (by simp (disch:=omega) only[go_sem,↓reduceIte,Nat.reduceEqDiff,zez,zfn,and_self])) (fun _ _ e=>e) ?_
 refine yqf bs b4 b5 b' cap' x sz st ab wi i sh PL M Rs T P junk' hszB hsz hst hwi (by omega) hps n4 n4' n5 n5' m5 m5' (fun h=>e1 h.symm) e1 (fun h=>e3 h.symm) e3 (fun h=>e2 h.symm) e2 yR yR yR (fun gr hgr=>?_)
 have g2: ¬b5=b':=fun h=>e2 h.symm
 have g1: ¬bs=b':=fun h=>e1 h.symm
 have g3: ¬b4=b':=fun h=>e3 h.symm
 obtain⟨hrl,hrok,hrnb⟩:=hgr
 obtain⟨grl,blk⟩:=gr
 dsimp only at hrl
 subst hrl
 cases blk with
 | none =>
  have hnil:(rulK sz st wi (Rs.map Sitting.points++ [P]) (zao x 3).toNat (stepX x) []).1.map Ruling.cells= []:=hrok
  refine yqr (b:=b') (l:=LR Rs T P (.v (.slice none 0 0)) junk') (T:=61) (by simp only[zae,g1,g2,g3,↓reduceIte,GR.cell_none]) ?_
  have h1:(LR Rs T P (.v (.slice none 0 0)) junk').map V.peek=LR Rs T P (.lst ((rulK sz st wi (Rs.map Sitting.points++ [P]) (zao x 3).toNat (stepX x) []).1.map Ruling.cells)) (junk'.map V.peek):=by
   rw[hnil,LR,List.map_append,zze,List.map_append];rfl
  rw[h1,←finC]
  refine zet (fun d o e=>?_) (q _ (fin _ (junk'.map V.peek) (by rw[List.length_map]) (fun v hv=>by obtain⟨w,_,rfl⟩:=List.mem_map.1 hv;exact zfu w)))
  simp only[setS,g1,g2,g3,↓reduceIte,GR.cell_some,SR,List.length_map,List.length_append,List.length_singleton]at e ⊢
  exact e
 | some y =>
  obtain⟨br,capr,jr⟩:=y
  have hb:=hrnb br capr jr rfl
  have o1: ¬b'=br:=fun h=>hb.2.2.2 h.symm
  have o2: ¬b5=br:=fun h=>hb.2.2.1 h.symm
  have o3: ¬b4=br:=fun h=>hb.2.1 h.symm
  have o4: ¬bs=br:=fun h=>hb.1 h.symm
  refine zgd (b:=br) (b':=b') (i:=Rs.length*3+2) (sz:=3) (len:=((rulK sz st wi (Rs.map Sitting.points++ [P]) (zao x 3).toNat (stepX x) []).1.map Ruling.cells).length) (cap:=capr) (l':=LR Rs T P (GR.cell ⟨(rulK sz st wi (Rs.map Sitting.points++ [P]) (zao x 3).toNat (stepX x) []).1.map Ruling.cells,some (br,capr,jr)⟩) junk') (l:=((rulK sz st wi (Rs.map Sitting.points++ [P]) (zao x 3).toNat (stepX x) []).1.map Ruling.cells).flatten++jr) (T:=65) (T':=61) o1 (by simp only[zae,g1,g2,g3,↓reduceIte]) (yno _ _ _ _ _ rfl) (by simp only[zae,o1,o2,o3,o4,SR,↓reduceIte]) (by have:=hrok.len;rw[List.length_append,zfh hrok.ll];omega) ⟨hrok.le,hrok.cap⟩ ?_
  have hch:chunk 3 ((rulK sz st wi (Rs.map Sitting.points++ [P]) (zao x 3).toNat (stepX x) []).1.map Ruling.cells).length ((((rulK sz st wi (Rs.map Sitting.points++ [P]) (zao x 3).toNat (stepX x) []).1.map Ruling.cells).flatten++jr).map V.copy)=(rulK sz st wi (Rs.map Sitting.points++ [P]) (zao x 3).toNat (stepX x) []).1.map Ruling.cells:=by
   rw[List.map_append,List.map_flatten,List.map_map]
   exact zhf (fun c hc=>hrok.ll c hc)
  rw[hch,ynn _ _ _ _ _ _ rfl,←finC]
  refine zet (fun d o e=>?_) (q _ (fin _ junk' rfl hjf))
  simp only[setS,delS,g1,g2,g3,o1,o2,o3,o4,↓reduceIte,GR.cell_some,SR,List.length_map,List.length_append,List.length_singleton]at e ⊢
  exact e
theorem ydi (bs b4 b5:Nat) (x most sz st ab wi:Int) (sh:Bool) (PL:List Int) (M:List Member) (hm:0≤most∧most≤3) (hszB:Box (∃z:Nat,sz=z)) (hsz:3≤sz∧sz≤4) (hst:0≤st∧st≤1000000) (hwi:0≤wi∧wi≤2) (hM:M.length≤13) (hPL:PL.length≤4)
  (n4: ¬bs=b4) (n4': ¬b4=bs) (n5: ¬bs=b5) (n5': ¬b5=bs) (m5: ¬b4=b5) (m5': ¬b5=b4) {v0:VH} {R:V→Sto→Prop} {os l:List Oper} {a c b:Code}
  (h1:Tryz.f40.body.bind (forC 25)=some (a,c,b)) (h2:Tryz.f40.body.bind (regC 25)=some os) (h3:os.drop 3=l)
  (hR:R (zcy ⟨sz,st,ab,wi,PL,sh,M,[]⟩ (zfb ⟨sz,st,ab,wi,PL,sh,M,[]⟩ (zao x (most+1)).toNat (stepX x) []).1).val [(bs,srcO (zfb ⟨sz,st,ab,wi,PL,sh,M,[]⟩ (zao x (most+1)).toNat (stepX x) []).2)]) :
  DS Tryz.prog 207 ⟨none,v0⟩ (FinV Tryz.prog [ResultVar.cell 4 26] R) [.ops os l, .code c, .code b]
   [(121,ptr bs),(123,I (most+1)),(0,ptr bs),(4,ptr b4),(5,ptr b5)] [(bs,srcO x),(b5, .cells (zhk sz st ab wi PL sh (.own false 47 4 (M.map Member.cells)) (.v (.slice none 0 0))) 26),(b4, .cells zds 26)]:=by
 have h1:=Option.some.inj ((show Tryz.f40.body.bind (forC 25)=some _ from rfl).symm.trans h1)
 obtain⟨rfl,rfl,rfl⟩:=Prod.mk.inj h1 |>.imp id Prod.mk.inj
 obtain rfl:=Option.some.inj ((show Tryz.f40.body.bind (regC 25)=some _ from rfl).symm.trans h2)
 subst h3
 clear h1 h2
 simp only[zax,zay]
 have k1:=zby x (most+1)
 repeat' (first|(with_reducible first|refine zac yU yU yE ?_|refine zab ?_|refine DS.block ?_)|(refine zfg inferInstance (zei bs x (most+1) (by omega)) yR yT yT ?_;(try simp only[zbp,zbv,↓reduceIte, *]))|fail)
 obtain⟨N,hN⟩: ∃N:Nat,(N:Int)=zao x (most+1):=⟨(zao x (most+1)).toNat,by omega⟩
 have hNN:(zao x (most+1)).toNat=N:=by omega
 rw[hNN]at hR
 refine zcn [0,4,5] yN (fun(y:Nat×Int×Int×List Sitting×GR)=> [(13,I y.2.1)]) (fun(y:Nat×Int×Int×List Sitting×GR)=>(bs,srcO y.2.2.1)::(b5, .cells (zhk sz st ab wi PL sh (.own false 47 4 (M.map Member.cells)) y.2.2.2.2.cell) 26)::(b4, .cells zds 26)::SR 61 y.2.2.2.2) (fun(y:Nat×Int×Int×List Sitting×GR)=>(y.2.1≤y.1∧(y.1:Int)≤y.2.1)∧y.2.2.2.1.length+y.1≤3∧SitI bs b4 b5 y.2.2.2.1 y.2.2.2.2∧(∀s∈y.2.2.2.1,MadeR sz 15 s)∧zfb ⟨sz,st,ab,wi,PL,sh,M,[]⟩ N (stepX x) []=zfb ⟨sz,st,ab,wi,PL,sh,M,[]⟩ y.1 y.2.2.1 y.2.2.2.1) (fun(y:Nat×Int×Int×List Sitting×GR)=>y.1) (N,zao x (most+1),stepX x,[],⟨[],none⟩) yS (fun b o e=>by exact e) ⟨by dsimp only;omega,by dsimp only[List.length_nil];omega,⟨rfl,rfl,fun _ _ _ e=>by cases e⟩,(fun s hs=>by cases hs),rfl⟩ (fun y B hI hB=>?_);try dsimp only at hI hB;simp only[zar,zav]
 obtain⟨k,cnt,x1,Rs,g⟩:=y
 dsimp only at hI hB ⊢
 obtain⟨g1,g2,g3,g4,g5⟩:=hI
 obtain⟨l,blk⟩:=g
 obtain rfl:l=Rs.map Sitting.cells:=g3.l
 have hsm:(zcy ⟨sz,st,ab,wi,PL,sh,M,[]⟩ Rs).Small:=⟨by show PL.length≤_;omega,by show M.length≤_;omega,by show Rs.length≤_;omega,fun s hs=>(g4 s hs).small (by omega) (by omega)⟩
 have hrd:=yom bs x1 (zcy ⟨sz,st,ab,wi,PL,sh,M,[]⟩ Rs) hsm hsz hst
 have hmade:=zrp ⟨sz,st,ab,wi,PL,sh,M,[]⟩ x1 Rs 15 (by show 1≤sz;omega) (by show M.length+2≤15;omega) g4
 have hplen:=hmade.plen
 have H:=Box.mk (And.intro g3 (And.intro g4 (And.intro g5 (And.intro hR (And.intro hN (And.intro hmade hplen))))))
 clear g4 g5 hR hN hNN hmade hplen
 by_cases e0:0<cnt
 ·have next: ∀g',SitI bs b4 b5 (Rs++ [⟨(zbb (zcy ⟨sz,st,ab,wi,PL,sh,M,[]⟩ Rs) x1).1,(zcu (zcy ⟨sz,st,ab,wi,PL,sh,M,[]⟩ Rs) x1).1,(zid ⟨sz,st,ab,wi,PL,sh,M,[]⟩ x1 Rs).1⟩]) g'→zfb ⟨sz,st,ab,wi,PL,sh,M,[]⟩ N (stepX x) []=zfb ⟨sz,st,ab,wi,PL,sh,M,[]⟩ (k-1) (zid ⟨sz,st,ab,wi,PL,sh,M,[]⟩ x1 Rs).2 (Rs++ [⟨(zbb (zcy ⟨sz,st,ab,wi,PL,sh,M,[]⟩ Rs) x1).1,(zcu (zcy ⟨sz,st,ab,wi,PL,sh,M,[]⟩ Rs) x1).1,(zid ⟨sz,st,ab,wi,PL,sh,M,[]⟩ x1 Rs).1⟩]):=fun g' _=>by
   obtain⟨k',rfl⟩: ∃k',k=k'+1:=⟨k-1,by omega⟩
   rw[H.out.2.2.1,zfb];rfl
  have hpsL: ∀r,((Rs.map Sitting.points++ [(zcu (zcy ⟨sz,st,ab,wi,PL,sh,M,[]⟩ Rs) x1).1]).getD r []).length≤1000:=ycy (fun p hp=>by
   rcases List.mem_append.1 hp with hp|hp
   ·obtain⟨s,hs,rfl⟩:=List.mem_map.1 hp
    rw[(H.out.2.1 s hs).plen];exact Nat.le_trans (H.out.2.1 s hs).len (by omega)
   ·obtain rfl:=List.mem_singleton.1 hp
    have h1:=H.out.2.2.2.2.2.2
    have h2:=H.out.2.2.2.2.2.1.len
    dsimp only at h1 h2
    omega)
  cases blk with
  | none =>
   have hnil:Rs= []:=by
    have:Rs.map Sitting.cells= []:=g3.ok
    simpa using this
   simp only[GR.cell_none,SR]
   repeat' (first|(with_reducible first|refine zac yU yU yE ?_|refine zab ?_|refine DS.seq ?_|refine zaa ?_|(refine zbc yE ?_;refine zdb ?_)|refine DS.block ?_|refine DS.skip ?_)|fail)
   subst hnil
   refine DS.call (dst:=some 131) [(bs,srcO x1)] [(b5, .cells (zhk sz st ab wi PL sh (.own false 47 4 (M.map Member.cells)) (.v (.slice none 0 0))) 26),(b4, .cells zds 26)] inferInstance hrd yR yH (fun d o e=>?_) (fun d o e=>?_) (fun v S0 hR0 hdis=>?_)
   ·simp only[zae,zbu]at e ⊢
    by_cases c0:bs=d
    ·rw[if_pos c0]at e ⊢;exact e
    ·rw[if_neg c0]at e;cases e
   ·have c0: ¬bs=d:=fun h=>by subst h;simp only[zae,zbu,n5',n4',↓reduceIte]at e;cases e
    refine⟨by rw[zae,if_neg c0];exact e,by rw[zae,if_neg c0];rfl⟩
   obtain⟨bp,hbp,rfl,rfl⟩:=hR0
   have hn:=hdis bp _ (by rw[zae,if_pos rfl])
   have d5: ¬b5=bp:=fun h=>by rw[zae,if_pos h]at hn;cases hn
   have d4: ¬b4=bp:=fun h=>by rw[zae,if_neg d5,zae,if_pos h]at hn;cases hn
   clear hn hdis
   have hpl:=H.out.2.2.2.2.2.2
   dsimp only at hpl
   refine zec (E':= [(131, .agg [rows (zbb (zcy ⟨sz,st,ab,wi,PL,sh,M,[]⟩ []) x1).1, .v (.slice (some ⟨bp,0,none⟩) (zcu (zcy ⟨sz,st,ab,wi,PL,sh,M,[]⟩ []) x1).1.length (zcu (zcy ⟨sz,st,ab,wi,PL,sh,M,[]⟩ []) x1).1.length), .v (.slice none 0 0)]),(13,I cnt),(0,ptr bs),(4,ptr b4),(5,ptr b5)]) (S':=(bp, .cells ((zcu (zcy ⟨sz,st,ab,wi,PL,sh,M,[]⟩ []) x1).1.map ptC) 22)::(bs,srcO (zcu (zcy ⟨sz,st,ab,wi,PL,sh,M,[]⟩ []) x1).2)::(b5, .cells (zhk sz st ab wi PL sh (.own false 47 4 (M.map Member.cells)) (GR.cell ⟨[],none⟩)) 26)::(b4, .cells zds 26)::SR 61 ⟨[],none⟩) (zep (by rw[hpl];simp (disch:=omega) only[go_sem,↓reduceIte,Nat.reduceEqDiff,zez,zfn,and_self,zar,zav])) (fun d o e=>?_) ?_
   ·exact e
   refine ybk bs b4 b5 bp (zcu (zcy ⟨sz,st,ab,wi,PL,sh,M,[]⟩ []) x1).2 sz st ab wi cnt sh PL M [] (zbb (zcy ⟨sz,st,ab,wi,PL,sh,M,[]⟩ []) x1).1 (zcu (zcy ⟨sz,st,ab,wi,PL,sh,M,[]⟩ []) x1).1 ⟨[],none⟩ hszB hsz hst hwi (by omega) hpsL g3 n4 n4' n5 n5' m5 m5' (fun h=>hbp h.symm) hbp (fun h=>d4 h) (fun h=>d4 h.symm) (fun h=>d5 h) (fun h=>d5 h.symm) (fun _ _ _ e=>by cases e) yR yR yR (fun g' hg'=>?_)
   have nx:=next g' hg'
   have H4:=Box.mk (And.intro nx hg')
   clear nx hg' next hpl
   repeat' (first|(with_reducible first|refine zac yU yU yE ?_|refine zab ?_|refine zaa ?_|refine DS.blk ?_)|fail)
   refine DS.back (hB (k-1,cnt-1,(zid ⟨sz,st,ab,wi,PL,sh,M,[]⟩ x1 []).2,[]++ [(⟨(zbb (zcy ⟨sz,st,ab,wi,PL,sh,M,[]⟩ []) x1).1,(zcu (zcy ⟨sz,st,ab,wi,PL,sh,M,[]⟩ []) x1).1,(zid ⟨sz,st,ab,wi,PL,sh,M,[]⟩ x1 []).1⟩:Sitting)],g') _ _ (by dsimp only;omega) ⟨by dsimp only;omega,by dsimp only;rw[List.length_append,List.length_singleton];omega,H4.out.2,(fun s hs=>?_),H4.out.1⟩ yS yS (fun d o e=>e))
   rcases List.mem_append.1 hs with hs|hs
   ·exact H.out.2.1 s hs
   ·obtain rfl:=List.mem_singleton.1 hs
    exact H.out.2.2.2.2.2.1
  | some y =>
   obtain⟨bb,cap,j⟩:=y
   have hb:=g3.nb bb cap j rfl
   have o1: ¬bs=bb:=fun h=>hb.1 h.symm
   have o2: ¬b4=bb:=fun h=>hb.2.1 h.symm
   have o3: ¬b5=bb:=fun h=>hb.2.2.1 h.symm
   have hok:GR.At 61 3 (SR 61 ⟨Rs.map Sitting.cells,some (bb,cap,j)⟩) (Rs.map Sitting.cells) bb cap j:=g3.ok
   have hle:=hok.le
   rw[List.length_map]at hle
   have hcap:=hok.cap
   have hjf:=hok.jf
   have htk:((Rs.map Sitting.cells).flatten++j).take (Rs.length*3)=(Rs.map Sitting.cells).flatten:=List.take_left' (zhz Rs)
   have hsl:=yog Rs
   have hrows:=H.out.2.2.2.2.2.1.rows
   dsimp only at hrows
   have HH:=Box.mk (And.intro htk (And.intro hle (And.intro hcap (And.intro hjf (And.intro hsl hrows)))))
   clear htk hle hcap hjf hsl hrows hok
   simp only[GR.cell_some,SR,List.length_map]
   repeat' (first|(with_reducible first|refine zac yU yU yE ?_|refine zab ?_|refine DS.seq ?_|refine zaa ?_|(refine zbc yE ?_;refine zdb ?_)|refine DS.block ?_|refine DS.skip ?_)|fail)
   obtain⟨htk,hle,hcap,hjf,hsl,hrows⟩:=HH.out
   refine yth (t:=131) (S1:= [(bs,srcO x1)]) (S2:= [(b5, .cells (zhk sz st ab wi PL sh (.own false 47 4 (M.map Member.cells)) (.v (.slice (some ⟨bb,0,none⟩) Rs.length cap))) 26),(b4, .cells zds 26)]) (x0:=ptr bs) (pre:= [I sz,I st,I ab,I wi,ints PL,Bo sh, .lst (M.map Member.cells)]) (cs:=(Rs.map Sitting.cells).flatten++j) (b:=bb) (len:=Rs.length) (cap:=cap) (sz:=3) (T:=61) (cl:=Rs.map Sitting.cells) (R:=zuf bs x1 (zcy ⟨sz,st,ab,wi,PL,sh,M,[]⟩ Rs)) inferInstance yR yH hrd (by simp only[zae,o1,o2,o3,↓reduceIte])
    (fun v hv=>(List.mem_append.1 hv).elim (zzg Rs v) (hjf v)) (by rw[List.length_map]) (fun c hc=>by obtain⟨s,_,rfl⟩:=List.mem_map.1 hc;rfl) (by rw[htk,zze]) ⟨hle,hcap⟩ (fun d o e=>?_) (fun d o e=>?_) (fun v S' hv=>?_) (fun d c T' e v hv=>?_) (fun v S0 hR0 hdis=>?_)
   ·simp only[zae,zbu,zbp,zbv,o1,o2,o3,↓reduceIte]at e ⊢
    by_cases c0:bs=d
    ·rw[if_pos c0]at e ⊢;exact e
    ·rw[if_neg c0]at e;cases e
   ·have c0: ¬bs=d:=fun h=>by subst h;simp only[zae,zbu,n5',n4',↓reduceIte]at e;cases e
    simp only[zbp,zbv,o1,o2,o3,↓reduceIte]
    refine⟨by rw[zae,if_neg c0];exact e,by rw[zae,if_neg c0];rfl⟩
   ·obtain⟨bp,hbp,rfl,rfl⟩:=hv
    rw[htk]
    refine⟨Safe.agg fun v hv=>?_,rfl,fun d c T' e v hv=>?_⟩
    ·simp only[List.mem_cons,List.not_mem_nil,or_false]at hv
     rcases hv with rfl|rfl|rfl
     ·exact Safe.rows hsl (fun r hr=>by have:=hrows r hr;omega)
     ·exact Safe.v _
     ·exact Safe.v _
    ·simp only[zae,zbu]at e
     by_cases c0:bp=d
     ·rw[if_pos c0]at e;cases e
      obtain⟨p,_,rfl⟩:=List.mem_map.1 hv
      unfold ptC
      split
      ·exact Safe.v _
      ·exact Safe.ints (fun v hv=>(hsl v hv).1) p
     rw[if_neg c0]at e
     by_cases c1:bs=d
     ·rw[if_pos c1]at e;cases e
      obtain rfl:=List.mem_singleton.1 hv
      exact Safe.v _
     ·rw[if_neg c1]at e;cases e
   ·rw[htk]
    simp only[zae,zbu]at e
    by_cases c0:b5=d
    ·rw[if_pos c0]at e;cases e
     simp only[zhk,List.mem_cons,List.not_mem_nil,or_false]at hv
     rcases hv with rfl|rfl|rfl|rfl|rfl|rfl|rfl|rfl
     ·exact Safe.v _
     ·exact Safe.v _
     ·exact Safe.v _
     ·exact Safe.v _
     ·exact(Safe.ints (fun v hv=>(hsl v hv).1) PL).own
     ·exact Safe.v _
     ·refine(Safe.nums (fun v hv=>(hsl v hv).1) fun c hc v hv=>?_).own
      obtain⟨m,_,rfl⟩:=List.mem_map.1 hc
      simp only[Member.cells,List.mem_cons,List.not_mem_nil,or_false]at hv
      rcases hv with rfl|rfl|rfl|rfl <;> exact⟨_,rfl,fun _ _ _ h=>by cases h⟩
     ·exact Safe.v _
    rw[if_neg c0]at e
    by_cases c1:b4=d
    ·rw[if_pos c1]at e;cases e
     simp only[zds,List.mem_cons,List.not_mem_nil,or_false]at hv
     rcases hv with rfl|rfl|rfl|rfl|rfl|rfl|rfl|rfl <;> exact Safe.v _
    ·rw[if_neg c1]at e;cases e
   clear htk hle hcap hjf hsl hrows
   obtain⟨bp,hbp,rfl,rfl⟩:=hR0
   obtain⟨hn,hnb⟩:=hdis bp _ (by rw[zae,if_pos rfl])
   have d5: ¬b5=bp:=fun h=>by rw[zae,if_pos h]at hn;cases hn
   have d4: ¬b4=bp:=fun h=>by rw[zae,if_neg d5,zae,if_pos h]at hn;cases hn
   clear hn hdis
   have hpl:=H.out.2.2.2.2.2.2
   dsimp only at hpl
   refine zec (E':= [(131, .agg [rows (zbb (zcy ⟨sz,st,ab,wi,PL,sh,M,[]⟩ Rs) x1).1, .v (.slice (some ⟨bp,0,none⟩) (zcu (zcy ⟨sz,st,ab,wi,PL,sh,M,[]⟩ Rs) x1).1.length (zcu (zcy ⟨sz,st,ab,wi,PL,sh,M,[]⟩ Rs) x1).1.length), .v (.slice none 0 0)]),(13,I cnt),(0,ptr bs),(4,ptr b4),(5,ptr b5)]) (S':=(bp, .cells ((zcu (zcy ⟨sz,st,ab,wi,PL,sh,M,[]⟩ Rs) x1).1.map ptC) 22)::(bs,srcO (zcu (zcy ⟨sz,st,ab,wi,PL,sh,M,[]⟩ Rs) x1).2)::(b5, .cells (zhk sz st ab wi PL sh (.own false 47 4 (M.map Member.cells)) (GR.cell ⟨Rs.map Sitting.cells,some (bb,cap,j)⟩)) 26)::(b4, .cells zds 26)::SR 61 ⟨Rs.map Sitting.cells,some (bb,cap,j)⟩) (zep (by rw[hpl];simp (disch:=omega) only[go_sem,↓reduceIte,Nat.reduceEqDiff,zez,zfn,and_self,zar,zav])) (fun d o e=>?_) ?_
   ·simp only[GR.cell_some,SR,List.length_map,zae,zbu,zar,zav]at e ⊢
    by_cases c0:bb=d
    ·subst c0
     rw[if_pos rfl]
     rw[if_neg (fun h=>hnb h),if_neg o1,if_neg o3,if_neg o2,if_pos rfl]at e
     exact e
    ·rw[if_neg c0]
     rw[if_neg c0]at e
     exact e
   refine ybk bs b4 b5 bp (zcu (zcy ⟨sz,st,ab,wi,PL,sh,M,[]⟩ Rs) x1).2 sz st ab wi cnt sh PL M Rs (zbb (zcy ⟨sz,st,ab,wi,PL,sh,M,[]⟩ Rs) x1).1 (zcu (zcy ⟨sz,st,ab,wi,PL,sh,M,[]⟩ Rs) x1).1 ⟨Rs.map Sitting.cells,some (bb,cap,j)⟩ hszB hsz hst hwi (by omega) hpsL g3 n4 n4' n5 n5' m5 m5' (fun h=>hbp h.symm) hbp (fun h=>d4 h) (fun h=>d4 h.symm) (fun h=>d5 h) (fun h=>d5 h.symm) (fun b' c' j' h=>by cases h;exact fun h=>hnb h.symm) yR yR yR (fun g' hg'=>?_)
   have nx:=next g' hg'
   have H4:=Box.mk (And.intro nx hg')
   clear nx hg' next hpl
   repeat' (first|(with_reducible first|refine zac yU yU yE ?_|refine zab ?_|refine zaa ?_|refine DS.blk ?_)|fail)
   refine DS.back (hB (k-1,cnt-1,(zid ⟨sz,st,ab,wi,PL,sh,M,[]⟩ x1 Rs).2,Rs++ [(⟨(zbb (zcy ⟨sz,st,ab,wi,PL,sh,M,[]⟩ Rs) x1).1,(zcu (zcy ⟨sz,st,ab,wi,PL,sh,M,[]⟩ Rs) x1).1,(zid ⟨sz,st,ab,wi,PL,sh,M,[]⟩ x1 Rs).1⟩:Sitting)],g') _ _ (by dsimp only;omega) ⟨by dsimp only;omega,by dsimp only;rw[List.length_append,List.length_singleton];omega,H4.out.2,(fun s hs=>?_),H4.out.1⟩ yS yS (fun d o e=>e))
   rcases List.mem_append.1 hs with hs|hs
   ·exact H.out.2.1 s hs
   ·obtain rfl:=List.mem_singleton.1 hs
    exact H.out.2.2.2.2.2.1
 ·obtain rfl:k=0:=by omega
  cases blk with
  | none =>
   have hnil:Rs= []:=by
    have:Rs.map Sitting.cells= []:=g3.ok
    simpa using this
   simp only[GR.cell_none,SR]
   repeat' (first|(with_reducible first|refine zac yU yU yE ?_|refine zab ?_|refine DS.seq ?_|refine zaa ?_|(refine zbc yE ?_;refine zdd ?_)|refine DS.exit yU ?_)|(refine DS.store yR yE yE yE yE yU (by exact⟨by with_unfolding_all rfl,by(try simp only[List.length_map,List.length_append,List.length_set,List.length_replicate,List.length_cons,List.length_nil]);omega⟩) ?_;simp only[zbo,zau,zaw,zbw,zbm,zbk,zbl];try simp only[zam,zaf,zag,Nat.reduceEqDiff,↓reduceIte,zaj,zak,zap,zai,zah,zan,zal])|fail)
   subst hnil
   simp only[zds,List.map_cons,List.map_nil,zcp,zbn,zau,zaw,zcj,zcc,setS,n4,m5',↓reduceIte,Nat.reduceAdd,Nat.zero_add]
   have hRR:=H.out.2.2.2.1
   rw[H.out.2.2.1,zfb]at hRR
   refine znz [(bs,srcO x1)] (vs:= [(zcy ⟨sz,st,ab,wi,PL,sh,M,[]⟩ []).val]) yH (fun d o e=>?_) hRR
   simp only[zae,zbu]at e ⊢
   by_cases c0:bs=d
   ·rw[if_pos c0]at e ⊢;exact e
   ·rw[if_neg c0]at e;cases e
  | some y =>
   obtain⟨bb,cap,j⟩:=y
   have hb:=g3.nb bb cap j rfl
   have o1: ¬bs=bb:=fun h=>hb.1 h.symm
   have o2: ¬b4=bb:=fun h=>hb.2.1 h.symm
   have o3: ¬b5=bb:=fun h=>hb.2.2.1 h.symm
   have hok:GR.At 61 3 (SR 61 ⟨Rs.map Sitting.cells,some (bb,cap,j)⟩) (Rs.map Sitting.cells) bb cap j:=g3.ok
   simp only[GR.cell_some,SR,List.length_map]
   refine zgd (b:=bb) (b':=b5) (i:=7) (sz:=3) (len:=Rs.length) (cap:=cap) (l':=zhk sz st ab wi PL sh (.own false 47 4 (M.map Member.cells)) (.v (.slice (some ⟨bb,0,none⟩) Rs.length cap))) (l:=(Rs.map Sitting.cells).flatten++j) (T:=61) (T':=26) o3 (by simp only[zae,n5,↓reduceIte]) yR (by simp only[zae,o1,o2,o3,↓reduceIte]) (by rw[List.length_append,zhz];omega) ⟨by have:=hok.le;rw[List.length_map]at this;exact this,hok.cap⟩ ?_
   have hch:chunk 3 Rs.length (((Rs.map Sitting.cells).flatten++j).map V.copy)=Rs.map Sitting.cells:=by
    rw[List.map_append,yjm]
    have:=zhf (sz:=3) (j:=j.map V.copy) (l:=Rs.map Sitting.cells) (fun c hc=>by obtain⟨s,_,rfl⟩:=List.mem_map.1 hc;rfl)
    rw[List.length_map]at this;exact this
   rw[hch]
   clear hch hok
   simp only[setS,zbp,zbv,o1,o2,o3,n5,↓reduceIte,zcj,zcc,zhk]
   repeat' (first|(with_reducible first|refine zac yU yU yE ?_|refine zab ?_|refine DS.seq ?_|refine zaa ?_|(refine zbc yE ?_;refine zdd ?_)|refine DS.exit yU ?_)|(refine DS.store yR yE yE yE yE yU (by exact⟨by with_unfolding_all rfl,by(try simp only[List.length_map,List.length_append,List.length_set,List.length_replicate,List.length_cons,List.length_nil]);omega⟩) ?_;simp only[zbo,zau,zaw,zbw,zbm,zbk,zbl];try simp only[zam,zaf,zag,Nat.reduceEqDiff,↓reduceIte,zaj,zak,zap,zai,zah,zan,zal])|fail)
   simp only[zds,List.map_cons,List.map_nil,zcp,zbn,zau,zaw,zcj,zcc,setS,n4,m5',↓reduceIte,Nat.reduceAdd,Nat.zero_add]
   have hRR:=H.out.2.2.2.1
   rw[H.out.2.2.1,zfb]at hRR
   refine znz [(bs,srcO x1)] (vs:= [(zcy ⟨sz,st,ab,wi,PL,sh,M,[]⟩ Rs).val]) yH (fun d o e=>?_) hRR
   simp only[zae,zbu]at e ⊢
   by_cases c0:bs=d
   ·rw[if_pos c0]at e ⊢;exact e
   ·rw[if_neg c0]at e;cases e
end Go.XL
