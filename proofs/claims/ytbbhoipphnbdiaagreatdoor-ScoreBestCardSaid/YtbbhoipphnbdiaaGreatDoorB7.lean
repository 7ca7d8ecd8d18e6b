/- A part of a program logic over the kit's walk rules, and contracts of functions in it. Conditions: as each theorem says. -/
import Derived.Test.YtbbhoipphnbdiaaGreatDoorB6
import Derived.Ground.NamesProg
import Derived.Shelf.Strings.SlTrimAscii
import Derived.Test.YtbbhoipphnbdiaaGreatDoorProg
set_option linter.all false
namespace Go.XL
open Go.Proofs
set_option maxRecDepth 100000
set_option maxHeartbeats 8000000
theorem yW1 : ¬((1:Int)=0)∧ ¬((2:Int)=0)∧ ¬((2:Int)=1)∧ ¬((3:Int)=0)∧ ¬((3:Int)=1)∧ ¬((3:Int)=2)∧ ¬((4:Int)=0)∧ ¬((4:Int)=1)∧ ¬((4:Int)=2)∧ ¬((4:Int)=3)∧ ¬((5:Int)=0)∧ ¬((5:Int)=1)∧ ¬((5:Int)=2)∧ ¬((5:Int)=3)∧ ¬((5:Int)=4)∧ ¬((6:Int)=0)∧ ¬((6:Int)=1)∧ ¬((6:Int)=2)∧ ¬((6:Int)=3)∧ ¬((6:Int)=4)∧ ¬((6:Int)=5)∧ ¬((7:Int)=0)∧ ¬((7:Int)=1)∧ ¬((7:Int)=2)∧ ¬((7:Int)=3)∧ ¬((7:Int)=4)∧ ¬((7:Int)=5)∧ ¬((7:Int)=6)∧ ¬((8:Int)=0)∧ ¬((8:Int)=1)∧ ¬((8:Int)=2)∧ ¬((8:Int)=3)∧ ¬((8:Int)=4)∧ ¬((8:Int)=5)∧ ¬((8:Int)=6)∧ ¬((8:Int)=7)∧ ¬((9:Int)=0)∧ ¬((9:Int)=1)∧ ¬((9:Int)=2)∧ ¬((9:Int)=3)∧ ¬((9:Int)=4)∧ ¬((9:Int)=5)∧ ¬((9:Int)=6)∧ ¬((9:Int)=7)∧ ¬((9:Int)=8)∧ ¬((10:Int)=0)∧ ¬((10:Int)=1)∧ ¬((10:Int)=2)∧ ¬((10:Int)=3)∧ ¬((10:Int)=4)∧ ¬((10:Int)=5)∧ ¬((10:Int)=6)∧ ¬((10:Int)=7)∧ ¬((10:Int)=8)∧ ¬((10:Int)=9)∧ ¬((11:Int)=0)∧ ¬((11:Int)=1)∧ ¬((11:Int)=2)∧ ¬((11:Int)=3)∧ ¬((11:Int)=4)∧ ¬((11:Int)=5)∧ ¬((11:Int)=6)∧ ¬((11:Int)=7)∧ ¬((11:Int)=8)∧ ¬((11:Int)=9)∧ ¬((11:Int)=10):=by repeat' (first|apply And.intro|decide)
theorem zwe (bs:Nat) (x:Int) (s:GSet) (h:zbo s=0):SC Tryz.prog 78 [ptr bs,s.val,Bo true] bs x ((zkg s x true).1.val) (zkg s x true).2:=by
 have c1:=zce bs x 1 31 (by omega)
 have c2:=zck bs (stepX x) 2 (by omega)
 have c3:=zba bs (stepX (stepX x)) 5 (by omega)
 have b3:=zaz (x:=stepX (stepX x)) (n:=5) (by omega)
 obtain⟨j,hj⟩: ∃j:Nat,zar (stepX (stepX x)) 5=j:=⟨(zar (stepX (stepX x)) 5).toNat,by omega⟩
 have hsh:bop Tryz.prog .shl 3 (.int .i64 1) (.int .i64 (j:Int))=some (.int .i64 ((2 ^ j:Nat):Int)):=yaa (by omega)
 obtain⟨od,hod⟩: ∃od,zcu (stepX x) 2=od:=⟨_,rfl⟩
 obtain⟨y,hy⟩: ∃y,(zkp x).2=y:=⟨_,rfl⟩
 obtain⟨w,hw⟩: ∃w,(zkp x).1=w:=⟨_,rfl⟩
 rw[zkg,if_pos rfl,hy,hw]
 rw[zkp,hod]at hy hw
 rw[hj,Int.toNat_natCast]at hw
 rw[hod]at c2
 rw[hj]at c3
 clear hod hj b3
 unfold SC
 refine DC.of_run Tryz.func78 rfl Tryz.ntmps78 Tryz.results78 (by simp) (fun _ _=>?_);simp only[zag,zaj,go_sem,Nat.zero_add,Nat.reduceAdd]
 repeat' (first|refine yJ ?_|(refine zao (t:=4) yU yE yU ?_;simp only[yS3])|fail)
 refine zbd yR yU yU (fun b2 h2=>?_)
 have n2: ¬bs=b2:=fun e=>by rw[zaa,if_pos e]at h2;cases h2
 have n2': ¬b2=bs:=fun e=>n2 e.symm
 clear h2
 repeat' (first|with_reducible refine zak yU yU yX0 ?_|refine yJ ?_|(refine zaw inferInstance (c1) yR yX3 yX3 ?_;(try simp only[zab,zac,↓reduceIte, *]))|(refine zaw inferInstance (c2) yR yX3 yX3 ?_;(try simp only[zab,zac,↓reduceIte, *]))|fail)
 refine zxd [(7,I w),(0,ptr bs),(2,Bo true),(4, .plc s.cells),(6,ptr b2)] [(bs,srcO y),(b2, .cells [I 0,I 0,I 0,I 0,I 0,Bo false, .v (.slice none 0 0)] 148)] ?_ ?_
 ·cases od with
  | true =>
   rw[if_pos rfl]at hy hw
   dsimp only at hy hw
   subst hy
   subst hw
   repeat' (first|with_reducible refine zak yU yU yX0 ?_|refine yJ ?_|(with_reducible (refine zax yX0 ?_;refine zay ?_))|(refine zaw inferInstance (c3) yR yX3 yX3 ?_;(try simp only[zab,zac,↓reduceIte, *]))|fail)
   try (simp only[setS,zab,zac,n2,n2',↓reduceIte,List.map_cons,List.map_nil,zbc,zai,zam,zaq,zal,Nat.reduceAdd,Nat.zero_add])
   refine DS.back ⟨yS,yS⟩
  | false =>
   rw[if_neg (by decide)]at hy hw
   dsimp only at hy hw
   subst hy
   subst hw
   repeat' (first|(with_reducible (refine zax yX0 ?_;refine zbl ?_))|refine yJ ?_|fail)
   try (simp only[setS,zab,zac,n2,n2',↓reduceIte,List.map_cons,List.map_nil,zbc,zai,zam,zaq,zal,Nat.reduceAdd,Nat.zero_add])
   refine DS.back ⟨yS,yS⟩
 clear c1 c2 c3 hsh hy hw
 have c4:=zba bs y 12 (by omega)
 have b4:=zaz (x:=y) (n:=12) (by omega)
 generalize zar y 12=c at *
 rcases(show(c=0)∨(c=1∨c=6∨c=7)∨(c=2∨c=3)∨(c=4)∨(c=5)∨(c=8∨c=9)∨(c=10∨c=11) by omega)with hc|hc|hc|hc|hc|hc|hc
 ·clear b4
  have c5:=zba bs (stepX y) 6 (by omega)
  subst hc
  all_goals
   simp only[zpm,↓reduceIte,or_true,true_or,or_self,yW1]
   repeat' (first|with_reducible refine zak yU yU yX0 ?_|refine yJ ?_|(with_reducible (refine zax yX0 ?_;first|refine zay ?_|refine zbl ?_))|(refine zaw inferInstance (c4) yR yX3 yX3 ?_;(try simp only[zab,zac,↓reduceIte, *]))|(refine zaw inferInstance (c5) yR yX3 yX3 ?_;(try simp only[zab,zac,↓reduceIte, *]))|(refine DS.store yR yX0 yX0 yX0 yX0 yU yQ ?_;simp only[yS1];try simp only[yS2,Nat.reduceEqDiff,↓reduceIte])|fail)
   try (simp only[setS,zab,zac,n2,n2',↓reduceIte,List.map_cons,List.map_nil,zbc,zai,zam,zaq,zal,Nat.reduceAdd,Nat.zero_add])
   refine zic (b:=b2) deep (fun _ _ _ h=>zib h) (fun v=>zfe _ v) (by simp only[zaa,zah,n2,n2',↓reduceIte];rfl) ?_
   simp only[setS,n2,n2',↓reduceIte]
   refine zbj [(bs,srcO _)] (by(simp (disch:=omega) only[go_sem,dopV,yV0,↓reduceIte,Nat.reduceEqDiff,Nat.reduceLT,Nat.reduceLeDiff,Nat.reduceAdd,Nat.reduceMul,Nat.reduceSub,Int.reduceToNat,Int.reduceLT,Int.reduceLE,Int.reduceEq,IntWalk.toNatUp,IntWalk.iteOmega,IntWalk.i64_in,V.flat,V.one,setS,setAll,n2,n2'];exact rfl)) (fun b o e=>?_) ⟨?_,rfl⟩
   ·simp only[zaa,zah]at e ⊢
    split at e
    ·rename_i hb;subst hb;simp only[n2',↓reduceIte];exact e
    ·cases e
   ·first|rfl|(simp only[Node.cells,ints,deep,inL,V.peek,List.map_map];rfl)
 ·clear b4
  rcases hc with rfl|rfl|rfl
  all_goals
   simp only[zpm,↓reduceIte,or_true,true_or,or_self,yW1]
   repeat' (first|with_reducible refine zak yU yU yX0 ?_|refine yJ ?_|(with_reducible (refine zax yX0 ?_;first|refine zay ?_|refine zbl ?_))|(refine zaw inferInstance (c4) yR yX3 yX3 ?_;(try simp only[zab,zac,↓reduceIte, *]))|(refine DS.store yR yX0 yX0 yX0 yX0 yU yQ ?_;simp only[yS1];try simp only[yS2,Nat.reduceEqDiff,↓reduceIte])|fail)
   try (simp only[setS,zab,zac,n2,n2',↓reduceIte,List.map_cons,List.map_nil,zbc,zai,zam,zaq,zal,Nat.reduceAdd,Nat.zero_add])
   refine zic (b:=b2) deep (fun _ _ _ h=>zib h) (fun v=>zfe _ v) (by simp only[zaa,zah,n2,n2',↓reduceIte];rfl) ?_
   simp only[setS,n2,n2',↓reduceIte]
   refine zbj [(bs,srcO _)] (by(simp (disch:=omega) only[go_sem,dopV,yV0,↓reduceIte,Nat.reduceEqDiff,Nat.reduceLT,Nat.reduceLeDiff,Nat.reduceAdd,Nat.reduceMul,Nat.reduceSub,Int.reduceToNat,Int.reduceLT,Int.reduceLE,Int.reduceEq,IntWalk.toNatUp,IntWalk.iteOmega,IntWalk.i64_in,V.flat,V.one,setS,setAll,n2,n2'];exact rfl)) (fun b o e=>?_) ⟨?_,rfl⟩
   ·simp only[zaa,zah]at e ⊢
    split at e
    ·rename_i hb;subst hb;simp only[n2',↓reduceIte];exact e
    ·cases e
   ·first|rfl|(simp only[Node.cells,ints,deep,inL,V.peek,List.map_map];rfl)
 ·clear b4
  have c6:=zce bs (stepX y) 1 2 (by omega)
  rcases hc with rfl|rfl
  all_goals
   simp only[zpm,↓reduceIte,or_true,true_or,or_self,yW1]
   repeat' (first|with_reducible refine zak yU yU yX0 ?_|refine yJ ?_|(with_reducible (refine zax yX0 ?_;first|refine zay ?_|refine zbl ?_))|(refine zaw inferInstance (c4) yR yX3 yX3 ?_;(try simp only[zab,zac,↓reduceIte, *]))|(refine zaw inferInstance (c6) yR yX3 yX3 ?_;(try simp only[zab,zac,↓reduceIte, *]))|(refine DS.store yR yX0 yX0 yX0 yX0 yU yQ ?_;simp only[yS1];try simp only[yS2,Nat.reduceEqDiff,↓reduceIte])|fail)
   try (simp only[setS,zab,zac,n2,n2',↓reduceIte,List.map_cons,List.map_nil,zbc,zai,zam,zaq,zal,Nat.reduceAdd,Nat.zero_add])
   refine zic (b:=b2) deep (fun _ _ _ h=>zib h) (fun v=>zfe _ v) (by simp only[zaa,zah,n2,n2',↓reduceIte];rfl) ?_
   simp only[setS,n2,n2',↓reduceIte]
   refine zbj [(bs,srcO _)] (by(simp (disch:=omega) only[go_sem,dopV,yV0,↓reduceIte,Nat.reduceEqDiff,Nat.reduceLT,Nat.reduceLeDiff,Nat.reduceAdd,Nat.reduceMul,Nat.reduceSub,Int.reduceToNat,Int.reduceLT,Int.reduceLE,Int.reduceEq,IntWalk.toNatUp,IntWalk.iteOmega,IntWalk.i64_in,V.flat,V.one,setS,setAll,n2,n2'];exact rfl)) (fun b o e=>?_) ⟨?_,rfl⟩
   ·simp only[zaa,zah]at e ⊢
    split at e
    ·rename_i hb;subst hb;simp only[n2',↓reduceIte];exact e
    ·cases e
   ·first|rfl|(simp only[Node.cells,ints,deep,inL,V.peek,List.map_map];rfl)
 ·clear b4
  have c7:=zce bs (stepX y) 2 4 (by omega)
  have c8:=zce bs (stepX (stepX y)) 1 3 (by omega)
  subst hc
  all_goals
   simp only[zpm,↓reduceIte,or_true,true_or,or_self,yW1]
   repeat' (first|with_reducible refine zak yU yU yX0 ?_|refine yJ ?_|(with_reducible (refine zax yX0 ?_;first|refine zay ?_|refine zbl ?_))|(refine zaw inferInstance (c4) yR yX3 yX3 ?_;(try simp only[zab,zac,↓reduceIte, *]))|(refine zaw inferInstance (c7) yR yX3 yX3 ?_;(try simp only[zab,zac,↓reduceIte, *]))|(refine zaw inferInstance (c8) yR yX3 yX3 ?_;(try simp only[zab,zac,↓reduceIte, *]))|(refine DS.store yR yX0 yX0 yX0 yX0 yU yQ ?_;simp only[yS1];try simp only[yS2,Nat.reduceEqDiff,↓reduceIte])|fail)
   try (simp only[setS,zab,zac,n2,n2',↓reduceIte,List.map_cons,List.map_nil,zbc,zai,zam,zaq,zal,Nat.reduceAdd,Nat.zero_add])
   refine zic (b:=b2) deep (fun _ _ _ h=>zib h) (fun v=>zfe _ v) (by simp only[zaa,zah,n2,n2',↓reduceIte];rfl) ?_
   simp only[setS,n2,n2',↓reduceIte]
   refine zbj [(bs,srcO _)] (by(simp (disch:=omega) only[go_sem,dopV,yV0,↓reduceIte,Nat.reduceEqDiff,Nat.reduceLT,Nat.reduceLeDiff,Nat.reduceAdd,Nat.reduceMul,Nat.reduceSub,Int.reduceToNat,Int.reduceLT,Int.reduceLE,Int.reduceEq,IntWalk.toNatUp,IntWalk.iteOmega,IntWalk.i64_in,V.flat,V.one,setS,setAll,n2,n2'];exact rfl)) (fun b o e=>?_) ⟨?_,rfl⟩
   ·simp only[zaa,zah]at e ⊢
    split at e
    ·rename_i hb;subst hb;simp only[n2',↓reduceIte];exact e
    ·cases e
   ·first|rfl|(simp only[Node.cells,ints,deep,inL,V.peek,List.map_map];rfl)
 ·clear b4
  have c9:=zce bs (stepX y) 2 3 (by omega)
  have c10:=zba bs (stepX (stepX y)) 3 (by omega)
  subst hc
  all_goals
   simp only[zpm,↓reduceIte,or_true,true_or,or_self,yW1]
   repeat' (first|with_reducible refine zak yU yU yX0 ?_|refine yJ ?_|(with_reducible (refine zax yX0 ?_;first|refine zay ?_|refine zbl ?_))|(refine zaw inferInstance (c4) yR yX3 yX3 ?_;(try simp only[zab,zac,↓reduceIte, *]))|(refine zaw inferInstance (c9) yR yX3 yX3 ?_;(try simp only[zab,zac,↓reduceIte, *]))|(refine zaw inferInstance (c10) yR yX3 yX3 ?_;(try simp only[zab,zac,↓reduceIte, *]))|(refine DS.store yR yX0 yX0 yX0 yX0 yU yQ ?_;simp only[yS1];try simp only[yS2,Nat.reduceEqDiff,↓reduceIte])|fail)
   try (simp only[setS,zab,zac,n2,n2',↓reduceIte,List.map_cons,List.map_nil,zbc,zai,zam,zaq,zal,Nat.reduceAdd,Nat.zero_add])
   refine zic (b:=b2) deep (fun _ _ _ h=>zib h) (fun v=>zfe _ v) (by simp only[zaa,zah,n2,n2',↓reduceIte];rfl) ?_
   simp only[setS,n2,n2',↓reduceIte]
   refine zbj [(bs,srcO _)] (by(simp (disch:=omega) only[go_sem,dopV,yV0,↓reduceIte,Nat.reduceEqDiff,Nat.reduceLT,Nat.reduceLeDiff,Nat.reduceAdd,Nat.reduceMul,Nat.reduceSub,Int.reduceToNat,Int.reduceLT,Int.reduceLE,Int.reduceEq,IntWalk.toNatUp,IntWalk.iteOmega,IntWalk.i64_in,V.flat,V.one,setS,setAll,n2,n2'];exact rfl)) (fun b o e=>?_) ⟨?_,rfl⟩
   ·simp only[zaa,zah]at e ⊢
    split at e
    ·rename_i hb;subst hb;simp only[n2',↓reduceIte];exact e
    ·cases e
   ·first|rfl|(simp only[Node.cells,ints,deep,inL,V.peek,List.map_map];rfl)
 ·clear b4
  have c13:=zmi bs (stepX y) s h
  rcases hc with rfl|rfl
  all_goals
   simp only[zpm,↓reduceIte,or_true,true_or,or_self,yW1]
   repeat' (first|with_reducible refine zak yU yU yX0 ?_|refine yJ ?_|(with_reducible (refine zax yX0 ?_;first|refine zay ?_|refine zbl ?_))|(refine zaw inferInstance (c4) yR yX3 yX3 ?_;(try simp only[zab,zac,↓reduceIte, *]))|(refine zaw inferInstance (c13) yR yX3 yX3 ?_;(try simp only[zab,zac,↓reduceIte, *]))|(refine DS.store yR yX0 yX0 yX0 yX0 yU yQ ?_;simp only[yS1];try simp only[yS2,Nat.reduceEqDiff,↓reduceIte])|fail)
   try (simp only[setS,zab,zac,n2,n2',↓reduceIte,List.map_cons,List.map_nil,zbc,zai,zam,zaq,zal,Nat.reduceAdd,Nat.zero_add])
   refine zic (b:=b2) deep (fun _ _ _ h=>zib h) (fun v=>zfe _ v) (by simp only[zaa,zah,n2,n2',↓reduceIte];rfl) ?_
   simp only[setS,n2,n2',↓reduceIte]
   refine zbj [(bs,srcO _)] (by(simp (disch:=omega) only[go_sem,dopV,yV0,↓reduceIte,Nat.reduceEqDiff,Nat.reduceLT,Nat.reduceLeDiff,Nat.reduceAdd,Nat.reduceMul,Nat.reduceSub,Int.reduceToNat,Int.reduceLT,Int.reduceLE,Int.reduceEq,IntWalk.toNatUp,IntWalk.iteOmega,IntWalk.i64_in,V.flat,V.one,setS,setAll,n2,n2'];exact rfl)) (fun b o e=>?_) ⟨?_,rfl⟩
   ·simp only[zaa,zah]at e ⊢
    split at e
    ·rename_i hb;subst hb;simp only[n2',↓reduceIte];exact e
    ·cases e
   ·first|rfl|(simp only[Node.cells,ints,deep,inL,V.peek,List.map_map];rfl)
 ·clear b4
  have c11:=zba bs (stepX y) 3 (by omega)
  have c12:=zck bs (stepX (stepX y)) 2 (by omega)
  have c14:=zmi bs (stepX (stepX (stepX y))) s h
  rcases hc with rfl|rfl
  all_goals
   simp only[zpm,↓reduceIte,or_true,true_or,or_self,yW1]
   repeat' (first|with_reducible refine zak yU yU yX0 ?_|refine yJ ?_|(with_reducible (refine zax yX0 ?_;refine zbl ?_))|(refine zaw inferInstance (c4) yR yX3 yX3 ?_;(try simp only[zab,zac,↓reduceIte, *]))|fail)
   try (simp only[setS,zab,zac,n2,n2',↓reduceIte,List.map_cons,List.map_nil,zbc,zai,zam,zaq,zal,Nat.reduceAdd,Nat.zero_add])
   (refine zho (id:=37) (bs:=bs) (x:=stepX y) (by simp only[zaa,zah,↓reduceIte, *]) [0,1,2,3,4,5,6,7] 8 yKR mixed yP1 yP2 ?_;simp only[zab,zac,↓reduceIte, *])
   repeat' (first|with_reducible refine zak yU yU yX0 ?_|refine yJ ?_|(refine DS.store yR yX0 yX0 yX0 yX0 yU yQ ?_;simp only[yS1];try simp only[yS2,Nat.reduceEqDiff,↓reduceIte])|with_reducible refine zau yU yU yU yX0 ?_|(with_reducible refine DD.nil ?_;simp only[zad,zaf])|(refine zcy inferInstance (c11) yU yX3 yX3 ?_;simp only[zas,zat,Nat.reduceEqDiff,↓reduceIte];(try simp only[zab,zac,↓reduceIte, *]))|(refine zcy inferInstance (c12) yU yX3 yX3 ?_;simp only[zas,zat,Nat.reduceEqDiff,↓reduceIte];(try simp only[zab,zac,↓reduceIte, *]))|(refine zcy inferInstance (c14) yU yX3 yX3 ?_;simp only[zas,zat,Nat.reduceEqDiff,↓reduceIte];(try simp only[zab,zac,↓reduceIte, *]))|fail)
   try (simp only[setS,zab,zac,n2,n2',↓reduceIte,List.map_cons,List.map_nil,zbc,zai,zam,zaq,zal,Nat.reduceAdd,Nat.zero_add])
   refine zic (b:=b2) deep (fun _ _ _ h=>zib h) (fun v=>zfe _ v) (by simp only[zaa,zah,n2,n2',↓reduceIte];rfl) ?_
   simp only[setS,n2,n2',↓reduceIte]
   refine zbj [(bs,srcO _)] (by(simp (disch:=omega) only[go_sem,dopV,yV0,↓reduceIte,Nat.reduceEqDiff,Nat.reduceLT,Nat.reduceLeDiff,Nat.reduceAdd,Nat.reduceMul,Nat.reduceSub,Int.reduceToNat,Int.reduceLT,Int.reduceLE,Int.reduceEq,IntWalk.toNatUp,IntWalk.iteOmega,IntWalk.i64_in,V.flat,V.one,setS,setAll,n2,n2'];exact rfl)) (fun b o e=>?_) ⟨?_,rfl⟩
   ·simp only[zaa,zah]at e ⊢
    split at e
    ·rename_i hb;subst hb;simp only[n2',↓reduceIte];exact e
    ·cases e
   ·first|rfl|(simp only[Node.cells,ints,deep,inL,V.peek,List.map_map];rfl)
theorem yeb (bs:Nat) (x:Int) (s:GSet) (h:zbo s=0) (b:Bool):SC Tryz.prog 78 [ptr bs,s.val,Bo b] bs x ((zkg s x b).1.val) (zkg s x b).2:=by
 cases b with
 | true=>exact zwe bs x s h
 | false=>exact zts bs x s
end Go.XL
namespace Go.XL
open Go.Proofs
set_option maxRecDepth 100000
set_option maxHeartbeats 8000000
theorem zoz (bs:Nat) (x:Int) (s:GSet) (h:zbo s=0) (d:Nat) (hd:d≤2) (b:Bool) (ho:d=0∨zcu x 3=true):SC Tryz.prog 48 [ptr bs,s.val,I d,Bo b] bs x (.own false 148 7 ((zgx s d x b).1.map Node.cells)) (zgx s d x b).2:=by
 have ho3:=zck bs x 3 (by omega)
 by_cases hd0:(d:Int)=0
 ·have hd0':d=0:=by omega
  subst hd0'
  have hl:=yeb bs x s h b
  rw[zgx]
  generalize zkg s x b=L at *
  clear ho ho3
  unfold SC
  refine DC.of_run Tryz.func48 rfl Tryz.ntmps48 Tryz.results48 (by simp) (fun _ _=>?_);simp only[zag,zaj,go_sem,Nat.zero_add,Nat.reduceAdd]
  repeat' (first|with_reducible (refine zbs (t:=8) yU yO yX0 ?_)|(with_reducible refine zcj (t:=8) yU yO yX0 ?_;simp only[yS2,Nat.reduceEqDiff,↓reduceIte])|with_reducible refine zak yU yU yX0 ?_|refine yJ ?_|(with_reducible first|(refine zax yX0 ?_;refine zay ?_)|(refine zbi yU yX0 ?_;refine zcv ?_))|(refine zbw yU yX0 yX0 ?_;simp only[go_sem,Nat.zero_add,Nat.reduceAdd])|(refine zaw inferInstance (hl) yR yX6 yX6 ?_;(try simp only[zab,zac,↓reduceIte, *]))|(refine zao (t:=5) yU yX0 yU ?_;simp only[yS3])|fail)
  all_goals first
   | (exfalso;omega)
   | refine zbh yG ⟨rfl,rfl⟩
 ·obtain⟨d',rfl⟩: ∃d',d=d'+1:=⟨d-1,by omega⟩
  have ho1:zcu x 3=true:=by
   rcases ho with h|h
   ·omega
   ·exact h
  rw[ho1]at ho3
  have hl:=yeb bs (stepX x) s h b
  rw[zgx,if_pos ho1]
  generalize zkg s (stepX x) b=L at *
  generalize stepX x=x1 at *
  clear ho ho1
  unfold SC
  refine DC.of_run Tryz.func48 rfl Tryz.ntmps48 Tryz.results48 (by simp) (fun _ _=>?_);simp only[zag,zaj,go_sem,Nat.zero_add,Nat.reduceAdd]
  repeat' (first|with_reducible (refine zbs (t:=8) yU yO yX0 ?_)|(with_reducible refine zcj (t:=8) yU yO yX0 ?_;simp only[yS2,Nat.reduceEqDiff,↓reduceIte])|with_reducible refine zak yU yU yX0 ?_|refine yJ ?_|(with_reducible first|(refine zax yX0 ?_;refine zay ?_)|(refine zbi yU yX0 ?_;refine GG.run ?_))|(refine zbw yU yX0 yX0 ?_;simp only[go_sem,Nat.zero_add,Nat.reduceAdd])|(refine zaw inferInstance (hl) yR yX3 yX3 ?_;(try simp only[zab,zac,↓reduceIte, *]))|(refine zaw inferInstance (ho3) yR yX3 yX3 ?_;(try simp only[zab,zac,↓reduceIte, *]))|(refine zao (t:=5) yU yX0 yU ?_;simp only[yS3])|fail)
  all_goals first
   | (exfalso;omega)
   | refine zbh yG ⟨rfl,rfl⟩
end Go.XL
namespace Go.XL
open Go.Proofs
set_option maxRecDepth 100000
set_option maxHeartbeats 8000000
def cBk (b:Bool):List V:= [Bo b]
@[go_sem] theorem cB_eq (b:Bool):cBk b= [Bo b]:=rfl
abbrev yql (x:Node):List V:= [I x.op,I x.what,I x.n,I x.m,I x.open_,Bo x.all, .v (.slice none 0 0)]
theorem zwh (x:Int) (b:Bool):(zjc x b).1.kinds= []:=by
 unfold zjc
 (repeat' split) <;> rfl
theorem yds (f:Int→Bool→List Node×Int) {ps:List Bool} {i:Nat} (hi:i<ps.length) (x:Int):zfq f (ps.drop i) x=((f x ps[i]).1++(zfq f (ps.drop (i+1)) (f x ps[i]).2).1,(zfq f (ps.drop (i+1)) (f x ps[i]).2).2):=by
 rw[List.drop_eq_getElem_cons hi,zfq]
theorem yX18 {p:Prop} (h:p:=by(simp (disch:=omega) only[go_sem,dopV,yV0,↓reduceIte,Nat.reduceEqDiff,Nat.reduceLT,Nat.reduceLeDiff,Nat.reduceAdd,Nat.reduceMul,Nat.reduceSub,Int.reduceToNat,Int.reduceLT,Int.reduceLE,Int.reduceEq,IntWalk.toNatUp,IntWalk.iteOmega,IntWalk.i64_in,V.flat,V.one,Value.oneCell'];exact rfl)):p:=h
theorem zwp (s:GSet) (h:zbo s=0) (bs:Nat): ∀(d:Nat) (hd:d≤2) (x:Int) (b:Bool),SC Tryz.prog 48 [ptr bs,s.val,I d,Bo b] bs x (.own false 148 7 ((zgx s d x b).1.map Node.cells)) (zgx s d x b).2
 | 0,hd,x,b=>zoz bs x s h 0 hd b (.inl rfl)
 | d+1,hd,x,b=>by
  cases ho:zcu x 3 with
  | true=>exact zoz bs x s h (d+1) hd b (.inr ho)
  | false =>
   have ho3:=zck bs x 3 (by omega)
   rw[ho]at ho3
   have ih:=fun y b'=>zwp s h bs d (by omega) y b'
   have hlen:=fun y b'=>(znp h d y b').len
   have hcl:zus d≤4:=by
    rcases(show d=0∨d=1 by omega)with rfl|rfl <;> decide
   rw[zgx,if_neg (by rw[ho];decide)]
   clear ho
   have hk:=zwh (stepX x) b
   have hp3:=(zyo (s:=s) (stepX x) b).2.2.2
   obtain⟨nd,hnd⟩: ∃nd,(zjc (stepX x) b).1=nd:=⟨_,rfl⟩
   obtain⟨ps,hps⟩: ∃ps,(zjc (stepX x) b).2.1=ps:=⟨_,rfl⟩
   obtain⟨x2,hx2⟩: ∃x2,(zjc (stepX x) b).2.2=x2:=⟨_,rfl⟩
   rw[hnd,hps,hx2]
   rw[hnd]at hk
   rw[hps]at hp3
   have hdi: ¬((d+1:Nat):Int)=0:=by omega
   have hd1:((d+1:Nat):Int)-1=(d:Int):=by omega
   have hdb:((d+1:Nat):Int)≤2∧0≤((d+1:Nat):Int):=by omega
   unfold SC
   have HI:=Box.mk (And.intro ih (And.intro hlen hcl))
   clear ih hlen hcl
   generalize ((d+1:Nat):Int)=D at *
   refine DC.of_run Tryz.func48 rfl Tryz.ntmps48 Tryz.results48 (by simp) (fun _ _=>?_);simp only[zag,zaj,go_sem,Nat.zero_add,Nat.reduceAdd]
   repeat' (first|(with_reducible first|(refine zbs (t:=8) yU yO yX0 ?_)|refine zak yU yU yX0 ?_)|refine yJ ?_|(with_reducible first|(refine zax yX0 ?_;refine zbl ?_)|(refine zbi yU yX0 ?_;refine GG.run ?_))|(refine zaw inferInstance (ho3) yR yX6 yX6 ?_;(try simp only[zab,zac,↓reduceIte, *]))|(refine zao (t:=5) yU yX0 yU ?_;simp only[yS3])|fail)
   refine zbd yR yU yU (fun b9 h9=>?_)
   have n9: ¬bs=b9:=fun e=>by rw[zaa,if_pos e]at h9;cases h9
   have n9': ¬b9=bs:=fun e=>n9 e.symm
   clear h9
   refine zjv ?_
   refine DS.seq ?_
   refine zkf ?_
   refine zak yR yR yG ?_
   refine zak yR yR yG ?_
   refine zbw yR yG yX18 ?_
   simp only[go_sem,Nat.zero_add,Nat.reduceAdd]
   refine zak yR yR yG ?_
   refine zjv ?_
   refine DS.seq ?_
   refine zxd [(0,ptr bs),(2,I D),(5, .plc s.cells),(9,ptr b9),(10, .lst (ps.map cBk)),(8, .own false 148 7 [])] [(bs,srcO x2),(b9, .cells (yql nd) 148)] ?_ ?_
   ·have c1:=zck bs (stepX x) 4 (by omega)
    have c2:=zck bs (stepX (stepX x)) 3 (by omega)
    have c3:=zck bs (stepX (stepX x)) 2 (by omega)
    have c4:=zce bs (stepX (stepX (stepX x))) 1 12 (by omega)
    have c5:=zce bs (stepX (stepX (stepX x))) 12 13 (by omega)
    have c6:=zba bs (stepX (stepX (stepX x))) 5 (by omega)
    have c7:=zce bs (stepX (stepX (stepX x))) 3 4 (by omega)
    rw[←hnd,←hps,←hx2]
    unfold zjc
    clear hnd hps hx2 hp3 hk HI
    generalize zcu (stepX x) 4=o1 at *
    generalize zcu (stepX (stepX x)) 3=o2 at *
    generalize zcu (stepX (stepX x)) 2=o3 at *
    cases b with
    | true =>
     cases o1 with
     | true =>
      clear c2 c3 c4 c5 c6 c7
      simp only[↓reduceIte]
      repeat' (first|with_reducible refine zak yU yU yX0 ?_|refine yJ ?_|(with_reducible first|(refine zax yX0 ?_;refine zay ?_)|(refine zbi yU yX0 ?_;refine GG.run ?_))|(refine zbw yU yX0 yX0 ?_;simp only[go_sem,Nat.zero_add,Nat.reduceAdd])|(refine zaw inferInstance (c1) yR yX3 yX3 ?_;(try simp only[zab,zac,↓reduceIte, *]))|(refine DS.store yR yX0 yX0 yX0 yX0 yU yQ ?_;simp only[yS1];try simp only[yS2,Nat.reduceEqDiff,↓reduceIte])|fail)
      simp only[setS,zab,zac,n9,n9',↓reduceIte,List.map_cons,List.map_nil,zbc,zai,zam,zaq,zal,Nat.reduceAdd,Nat.zero_add]
      refine DS.back ⟨yS,yS⟩
     | false =>
      cases o2 with
      | true =>
       clear c3 c5 c6 c7
       simp only[↓reduceIte,Bool.false_eq_true]
       repeat' (first|with_reducible refine zak yU yU yX0 ?_|refine yJ ?_|(with_reducible first|(refine zax yX0 ?_;first|refine zay ?_|refine zbl ?_)|(refine zbi yU yX0 ?_;refine GG.run ?_))|(refine zbw yU yX0 yX0 ?_;simp only[go_sem,Nat.zero_add,Nat.reduceAdd])|(refine zaw inferInstance (c1) yR yX3 yX3 ?_;(try simp only[zab,zac,↓reduceIte, *]))|(refine zaw inferInstance (c2) yR yX3 yX3 ?_;(try simp only[zab,zac,↓reduceIte, *]))|(refine zaw inferInstance (c4) yR yX3 yX3 ?_;(try simp only[zab,zac,↓reduceIte, *]))|(refine DS.store yR yX0 yX0 yX0 yX0 yU yQ ?_;simp only[yS1];try simp only[yS2,Nat.reduceEqDiff,↓reduceIte])|fail)
       simp only[setS,zab,zac,n9,n9',↓reduceIte,List.map_cons,List.map_nil,zbc,zai,zam,zaq,zal,Nat.reduceAdd,Nat.zero_add]
       refine DS.back ⟨yS,yS⟩
      | false =>
       clear c3 c4 c6 c7
       simp only[↓reduceIte,Bool.false_eq_true]
       repeat' (first|with_reducible refine zak yU yU yX0 ?_|refine yJ ?_|(with_reducible first|(refine zax yX0 ?_;first|refine zay ?_|refine zbl ?_)|(refine zbi yU yX0 ?_;refine GG.run ?_))|(refine zaw inferInstance (c1) yR yX3 yX3 ?_;(try simp only[zab,zac,↓reduceIte, *]))|(refine zaw inferInstance (c2) yR yX3 yX3 ?_;(try simp only[zab,zac,↓reduceIte, *]))|(refine zaw inferInstance (c5) yR yX3 yX3 ?_;(try simp only[zab,zac,↓reduceIte, *]))|(refine DS.store yR yX0 yX0 yX0 yX0 yU yQ ?_;simp only[yS1];try simp only[yS2,Nat.reduceEqDiff,↓reduceIte])|fail)
       simp only[setS,zab,zac,n9,n9',↓reduceIte,List.map_cons,List.map_nil,zbc,zai,zam,zaq,zal,Nat.reduceAdd,Nat.zero_add]
       refine DS.back ⟨yS,yS⟩
    | false =>
     cases o1 with
     | true =>
      clear c2 c3 c4 c5 c6 c7
      simp only[↓reduceIte,Bool.false_eq_true]
      repeat' (first|with_reducible refine zak yU yU yX0 ?_|refine yJ ?_|(with_reducible first|(refine zax yX0 ?_;first|refine zay ?_|refine zbl ?_)|(refine zbi yU yX0 ?_;refine zcl ?_))|(refine zbw yU yX0 yX0 ?_;simp only[go_sem,Nat.zero_add,Nat.reduceAdd])|(refine zaw inferInstance (c1) yR yX3 yX3 ?_;(try simp only[zab,zac,↓reduceIte, *]))|(refine DS.store yR yX0 yX0 yX0 yX0 yU yQ ?_;simp only[yS1];try simp only[yS2,Nat.reduceEqDiff,↓reduceIte])|fail)
      simp only[setS,zab,zac,n9,n9',↓reduceIte,List.map_cons,List.map_nil,zbc,zai,zam,zaq,zal,Nat.reduceAdd,Nat.zero_add]
      refine DS.back ⟨yS,yS⟩
     | false =>
      cases o3 with
      | true =>
       clear c2 c4 c5 c7
       simp only[↓reduceIte,Bool.false_eq_true]
       repeat' (first|with_reducible refine zak yU yU yX0 ?_|refine yJ ?_|(with_reducible first|(refine zax yX0 ?_;first|refine zay ?_|refine zbl ?_)|(refine zbi yU yX0 ?_;refine zcl ?_))|(refine zbw yU yX0 yX0 ?_;simp only[go_sem,Nat.zero_add,Nat.reduceAdd])|(refine zaw inferInstance (c1) yR yX3 yX3 ?_;(try simp only[zab,zac,↓reduceIte, *]))|(refine zaw inferInstance (c3) yR yX3 yX3 ?_;(try simp only[zab,zac,↓reduceIte, *]))|(refine zaw inferInstance (c6) yR yX3 yX3 ?_;(try simp only[zab,zac,↓reduceIte, *]))|(refine DS.store yR yX0 yX0 yX0 yX0 yU yQ ?_;simp only[yS1];try simp only[yS2,Nat.reduceEqDiff,↓reduceIte])|fail)
       simp only[setS,zab,zac,n9,n9',↓reduceIte,List.map_cons,List.map_nil,zbc,zai,zam,zaq,zal,Nat.reduceAdd,Nat.zero_add]
       refine DS.back ⟨yS,yS⟩
      | false =>
       clear c2 c4 c5 c6
       simp only[↓reduceIte,Bool.false_eq_true]
       repeat' (first|with_reducible refine zak yU yU yX0 ?_|refine yJ ?_|(with_reducible first|(refine zax yX0 ?_;refine zbl ?_)|(refine zbi yU yX0 ?_;refine zcl ?_))|(refine zaw inferInstance (c1) yR yX3 yX3 ?_;(try simp only[zab,zac,↓reduceIte, *]))|(refine zaw inferInstance (c3) yR yX3 yX3 ?_;(try simp only[zab,zac,↓reduceIte, *]))|(refine zaw inferInstance (c7) yR yX3 yX3 ?_;(try simp only[zab,zac,↓reduceIte, *]))|(refine DS.store yR yX0 yX0 yX0 yX0 yU yQ ?_;simp only[yS1];try simp only[yS2,Nat.reduceEqDiff,↓reduceIte])|fail)
       simp only[setS,zab,zac,n9,n9',↓reduceIte,List.map_cons,List.map_nil,zbc,zai,zam,zaq,zal,Nat.reduceAdd,Nat.zero_add]
       refine DS.back ⟨yS,yS⟩
   ·clear hnd hps hx2 ho3
    refine zic (b:=b9) deep (fun _ _ _ h=>zib h) (fun v=>zfe _ v) (by simp only[zaa,zah,n9,n9',↓reduceIte];rfl) ?_
    have hdp:(yql nd).map deep= [I nd.op,I nd.what,I nd.n,I nd.m,I nd.open_,Bo nd.all,ints []]:=rfl
    rw[hdp]
    simp only[setS,n9,n9',↓reduceIte]
    clear hdp
    repeat' (first|(with_reducible refine zcj (t:=11) yU yO yX0 ?_;simp only[yS2,Nat.reduceEqDiff,↓reduceIte])|with_reducible refine zak yU yU yX0 ?_|refine yJ ?_|(refine zbw yU yX0 yX0 ?_;simp only[go_sem,Nat.zero_add,Nat.reduceAdd])|fail)
    have hnc:nd.cells= [I nd.op,I nd.what,I nd.n,I nd.m,I nd.open_,Bo nd.all,ints []]:=by rw[Node.cells,hk]
    have hgo:([I nd.op,I nd.what,I nd.n,I nd.m,I nd.open_,Bo nd.all,ints []]::List.map Node.cells (zfq (zgx s d) ps x2).1)=(nd::(zfq (zgx s d) ps x2).1).map Node.cells:=by rw[List.map_cons,hnc]
    refine zbn [0,2,5,10] yN (fun(y:Nat×Int×List Node)=> [(11, .own false 148 7 ((nd::y.2.2).map Node.cells)),(12,I y.1)]) (fun(y:Nat×Int×List Node)=> [(bs,srcO y.2.1),(b9, .cells [I nd.op,I nd.what,I nd.n,I nd.m,I nd.open_,Bo nd.all,ints []] 148)]) (fun(y:Nat×Int×List Node)=>y.1≤ps.length∧zfq (zgx s d) ps x2=(y.2.2++(zfq (zgx s d) (ps.drop y.1) y.2.1).1,(zfq (zgx s d) (ps.drop y.1) y.2.1).2)∧y.2.2.length≤4*y.1) (fun(y:Nat×Int×List Node)=>ps.length-y.1) (0,x2,[]) yS (fun b o e=>by exact e) ⟨Nat.zero_le _,rfl,Nat.le_refl _⟩ (fun y B hI hB=>?_);try dsimp only at hI hB;simp only[zad,zaf]
    obtain⟨i,x1,out⟩:=y
    dsimp only at hI hB ⊢
    obtain⟨g1,g2,g3⟩:=hI
    have HB:=Box.mk hB
    clear hB
    by_cases hi:(i:Int)<(ps.length:Int)
    ·have hi':i<ps.length:=by omega
     rw[yds _ hi']at g2
     have hL:=HI.out.2.1 x1 ps[i]
     have hih:=HI.out.1 x1 ps[i]
     have h4:=HI.out.2.2
     have HG:=Box.mk g2
     have Hc:=Box.mk (And.intro hnc hgo)
     clear g2 hnc hgo hk
     generalize zgx s d x1 ps[i]=R at *
     repeat' (first|with_reducible refine zak yU yU yX0 ?_|refine yJ ?_|(with_reducible (refine zax yX0 ?_;refine zay ?_))|fail)
     try (simp only[setS,zab,zac,n9,n9',↓reduceIte])
     (refine zho (id:=20) (bs:=bs) (x:=x1) (by simp only[zaa,zah,↓reduceIte, *]) [0,1,2,3,4,5,6,7,8,9] 10 yKR mixed yP1 yP2 ?_;simp only[zab,zac,↓reduceIte, *])
     repeat' (first|(with_reducible refine zcj (t:=11) yU yO yX0 ?_;simp only[yS2,Nat.reduceEqDiff,↓reduceIte])|with_reducible refine zak yU yU yX0 ?_|refine yJ ?_|(refine DS.append (mm:=false) yU yX0 yX0 yU (by decide) yX0 yO2 yX0 yX14 yLM yQ2 ?_;simp only[yS2,Nat.reduceEqDiff,↓reduceIte])|(with_reducible refine zvm (t:=73) yU yO yX0 ?_;simp only[yS2,Nat.reduceEqDiff,↓reduceIte];simp only[zas,zat,Nat.reduceEqDiff,↓reduceIte])|with_reducible refine zau yU yU yU yX0 ?_|(with_reducible refine DD.nil ?_;simp only[zad,zaf])|(refine zcy inferInstance (hih) yU yX6 yX6 ?_;simp only[zas,zat,Nat.reduceEqDiff,↓reduceIte];(try simp only[zab,zac,↓reduceIte, *]))|fail)
     try (simp only[setS,zab,zac,n9,n9',↓reduceIte])
     refine DS.back (HB.out (i+1,R.2,out++R.1) _ _ (by dsimp only;omega) ⟨by dsimp only;omega,by dsimp only;rw[HG.out,List.append_assoc],by dsimp only;rw[List.length_append];omega⟩ yS yS (fun b o e=>by exact e))
    ·have hie:ps.drop i= []:=List.drop_eq_nil_of_le (by omega)
     rw[hie,zfq,List.append_nil]at g2
     rw[hgo,g2]
     clear HB HI g2 hgo
     repeat' (first|(with_reducible refine zcj (t:=8) yU yO yX0 ?_;simp only[yS2,Nat.reduceEqDiff,↓reduceIte])|(with_reducible refine zcj (t:=84) yU yO yX0 ?_;simp only[yS2,Nat.reduceEqDiff,↓reduceIte])|with_reducible refine zak yU yU yX0 ?_|refine yJ ?_|(with_reducible (refine zax yX0 ?_;refine zbl ?_))|fail)
     refine zbj [(bs,srcO x1)] yG (fun b o e=>?_) ⟨by rw[List.map_cons,hnc];rfl,rfl⟩
     simp only[zaa,zah]at e ⊢
     split at e
     ·rename_i hb;subst hb;simp only[n9',↓reduceIte];exact e
     ·cases e
end Go.XL
namespace Go.XL
open Go.Proofs
set_option maxRecDepth 100000
set_option maxHeartbeats 8000000
theorem ydj (bs:Nat) (x:Int) (s:GSet) (h:zbo s=0):SC Tryz.prog 45 [ptr bs,s.val] bs x ((zpj s x).1.val) (zpj s x).2:=by
 have hd:=(zcb h).dead
 have hdv:s.dead.tdiv 2=s.dead / 2:=Int.tdiv_eq_ediv_of_nonneg (by omega)
 have hdb:0≤s.dead / 2∧s.dead / 2≤10:=by omega
 obtain⟨y1,e1⟩: ∃y,stepX x=y:=⟨_,rfl⟩
 obtain⟨y2,e2⟩: ∃y,stepX y1=y:=⟨_,rfl⟩
 obtain⟨y3,e3⟩: ∃y,stepX y2=y:=⟨_,rfl⟩
 obtain⟨y4,e4⟩: ∃y,stepX y3=y:=⟨_,rfl⟩
 obtain⟨y5,e5⟩: ∃y,stepX y4=y:=⟨_,rfl⟩
 obtain⟨y6,e6⟩: ∃y,stepX y5=y:=⟨_,rfl⟩
 obtain⟨y7,e7⟩: ∃y,stepX y6=y:=⟨_,rfl⟩
 obtain⟨y8,e8⟩: ∃y,stepX y7=y:=⟨_,rfl⟩
 obtain⟨y9,e9⟩: ∃y,stepX y8=y:=⟨_,rfl⟩
 obtain⟨y10,e10⟩: ∃y,stepX y9=y:=⟨_,rfl⟩
 obtain⟨y11,e11⟩: ∃y,stepX y10=y:=⟨_,rfl⟩
 obtain⟨y12,e12⟩: ∃y,stepX y11=y:=⟨_,rfl⟩
 obtain⟨y13,e13⟩: ∃y,stepX y12=y:=⟨_,rfl⟩
 obtain⟨y14,e14⟩: ∃y,stepX y13=y:=⟨_,rfl⟩
 obtain⟨y15,e15⟩: ∃y,stepX y14=y:=⟨_,rfl⟩
 obtain⟨y16,e16⟩: ∃y,stepX y15=y:=⟨_,rfl⟩
 unfold zpj
 simp only[e1,e2,e3,e4,e5,e6,e7,e8,e9,e10,e11,e12,e13,e14,e15,e16]
 have h7:=zaz (x:=y7) (n:=3) (by omega)
 generalize s.dead / 2=dd at *
 obtain⟨mn,hmn⟩: ∃mn,(if dd<2 then dd else 2)=mn:=⟨_,rfl⟩
 have hm2:min 2 dd=mn:=by rw[←hmn,Int.min_def];split <;> split <;> omega
 have hm3:0≤mn∧mn≤2:=by rw[←hmn];split <;> omega
 rw[hm2]
 clear h hm2
 unfold SC
 refine DC.of_run Tryz.func45 rfl Tryz.ntmps45 Tryz.results45 (by simp) (fun _ _=>?_);simp only[zag,zaj,go_sem,Nat.zero_add,Nat.reduceAdd]
 repeat' (first|refine yJ ?_|(refine zao (t:=3) yU yE yU ?_;simp only[yS3])|fail)
 refine zbd yR yU yU (fun b2 h2=>?_)
 have n2: ¬bs=b2:=fun e=>by rw[zaa,if_pos e]at h2;cases h2
 have n2': ¬b2=bs:=fun e=>n2 e.symm
 clear h2
 repeat' (first|refine yJ ?_|fail)
 (refine zho (id:=1) (bs:=bs) (x:=x) (by simp only[zaa,zah,↓reduceIte, *]) [0,1,2,3,4,5,6,7,8,9,10,11,12,13,14,15,16,17,18,19,20,21,22,23,24,25,26,27,28,29,30,31,32,33,34,35,36,37,38] 39 yKR mixed yP1 yP2 ?_;simp only[zab,zac,↓reduceIte, *])
 repeat' (first|with_reducible refine zak yU yU yX0 ?_|refine yJ ?_|(refine DS.store yR yX0 yX0 yX0 yX0 yU yQ ?_;simp only[yS1];try simp only[yS2,Nat.reduceEqDiff,↓reduceIte])|(with_reducible first|refine zau yU yU yU yX0 ?_|refine zff yU yU yU yU yX0 ?_)|(with_reducible refine DD.nil ?_;simp only[zad,zaf])|(refine zcy inferInstance (zck bs x 4 (by omega)) yU yX3 yX3 ?_;simp only[zas,zat,Nat.reduceEqDiff,↓reduceIte];(try simp only[zab,zac,↓reduceIte, *]))|(refine zcy inferInstance (zce bs y1 1 3 (by omega)) yU yX3 yX3 ?_;simp only[zas,zat,Nat.reduceEqDiff,↓reduceIte];(try simp only[zab,zac,↓reduceIte, *]))|(refine zcy inferInstance (zck bs y2 2 (by omega)) yU yX3 yX3 ?_;simp only[zas,zat,Nat.reduceEqDiff,↓reduceIte];(try simp only[zab,zac,↓reduceIte, *]))|(refine zcy inferInstance (zba bs y3 5 (by omega)) yU yX3 yX3 ?_;simp only[zas,zat,Nat.reduceEqDiff,↓reduceIte];(try simp only[zab,zac,↓reduceIte, *]))|(refine zcy inferInstance (zck bs y4 2 (by omega)) yU yX3 yX3 ?_;simp only[zas,zat,Nat.reduceEqDiff,↓reduceIte];(try simp only[zab,zac,↓reduceIte, *]))|(refine zcy inferInstance (zba bs y5 3 (by omega)) yU yX3 yX3 ?_;simp only[zas,zat,Nat.reduceEqDiff,↓reduceIte];(try simp only[zab,zac,↓reduceIte, *]))|(refine zcy inferInstance (zba bs y6 3 (by omega)) yU yX3 yX3 ?_;simp only[zas,zat,Nat.reduceEqDiff,↓reduceIte];(try simp only[zab,zac,↓reduceIte, *]))|(refine zcy inferInstance (zba bs y7 3 (by omega)) yU yX3 yX3 ?_;simp only[zas,zat,Nat.reduceEqDiff,↓reduceIte];(try simp only[zab,zac,↓reduceIte, *]))|(refine zcy inferInstance (zck bs y8 2 (by omega)) yU yX3 yX3 ?_;simp only[zas,zat,Nat.reduceEqDiff,↓reduceIte];(try simp only[zab,zac,↓reduceIte, *]))|(refine zcy inferInstance (zck bs y9 2 (by omega)) yU yX3 yX3 ?_;simp only[zas,zat,Nat.reduceEqDiff,↓reduceIte];(try simp only[zab,zac,↓reduceIte, *]))|(refine zcy inferInstance (zck bs y10 2 (by omega)) yU yX3 yX3 ?_;simp only[zas,zat,Nat.reduceEqDiff,↓reduceIte];(try simp only[zab,zac,↓reduceIte, *]))|(refine zcy inferInstance (zce bs y11 1 9 (by omega)) yU yX3 yX3 ?_;simp only[zas,zat,Nat.reduceEqDiff,↓reduceIte];(try simp only[zab,zac,↓reduceIte, *]))|(refine zcy inferInstance (zce bs y12 1 2 (by omega)) yU yX3 yX3 ?_;simp only[zas,zat,Nat.reduceEqDiff,↓reduceIte];(try simp only[zab,zac,↓reduceIte, *]))|(refine zcy inferInstance (zba bs y13 (mn+1) (by omega)) yU yX3 yX3 ?_;simp only[zas,zat,Nat.reduceEqDiff,↓reduceIte];(try simp only[zab,zac,↓reduceIte, *]))|(refine zcy inferInstance (zck bs y14 2 (by omega)) yU yX3 yX3 ?_;simp only[zas,zat,Nat.reduceEqDiff,↓reduceIte];(try simp only[zab,zac,↓reduceIte, *]))|(refine zcy inferInstance (zck bs y15 2 (by omega)) yU yX3 yX3 ?_;simp only[zas,zat,Nat.reduceEqDiff,↓reduceIte];(try simp only[zab,zac,↓reduceIte, *]))|fail)
 simp only[setS,zab,zac,n2,n2',↓reduceIte,List.map_cons,List.map_nil,zbc,zai,zam,zaq,zal,Nat.reduceAdd,Nat.zero_add]
 refine zbj [(bs,srcO y16)] (by(simp (disch:=omega) only[go_sem,dopV,yV0,↓reduceIte,Nat.reduceEqDiff,Nat.reduceLT,Nat.reduceLeDiff,Nat.reduceAdd,Nat.reduceMul,Nat.reduceSub,Int.reduceToNat,Int.reduceLT,Int.reduceLE,Int.reduceEq,IntWalk.toNatUp,IntWalk.iteOmega,IntWalk.i64_in,V.flat,V.one,setS,setAll,n2,n2'];exact rfl)) (fun b o e=>?_) ⟨?_,rfl⟩
 ·simp only[zaa,zah]at e ⊢
  split at e
  ·rename_i hb;subst hb;simp only[n2',↓reduceIte];exact e
  ·cases e
 ·rfl
end Go.XL
namespace Go.XL
open Go.Proofs
set_option maxRecDepth 100000
set_option maxHeartbeats 8000000
theorem zul (s:GSet) (n:Nat) (x:Int):zdh s (n+1) x=if((zdv s x).1.length:Int) > 0 then(⟨(zdv s x).1,zbv (zdv s x).2 1 s.melds⟩::(zdh s n (stepX (zdv s x).2)).1,(zdh s n (stepX (zdv s x).2)).2)else zdh s n (zdv s x).2:=by rw[zdh]
structure FdI (bl:List Nat) (fs:List Feed) (g:GR):Prop where
 l:g.l=fs.map Feed.cells
 ok:g.Ok 145 2 (SRg 145 g)
 nb:NBg bl g
theorem yiv (bs:Nat) (x:Int) (s:GSet) (h:zbo s=0):SC Tryz.prog 44 [ptr bs,s.val] bs x ((payK s x).1.val) (payK s x).2:=by
 have hok:=zcb h
 have hpl:=hok.players
 have hme:=hok.melds
 obtain⟨y1,e1⟩: ∃y,stepX x=y:=⟨_,rfl⟩
 obtain⟨y2,e2⟩: ∃y,stepX y1=y:=⟨_,rfl⟩
 obtain⟨y3,e3⟩: ∃y,stepX y2=y:=⟨_,rfl⟩
 obtain⟨y4,e4⟩: ∃y,stepX y3=y:=⟨_,rfl⟩
 obtain⟨y5,e5⟩: ∃y,stepX y4=y:=⟨_,rfl⟩
 obtain⟨y6,e6⟩: ∃y,stepX y5=y:=⟨_,rfl⟩
 obtain⟨y7,e7⟩: ∃y,stepX y6=y:=⟨_,rfl⟩
 obtain⟨y8,e8⟩: ∃y,stepX y7=y:=⟨_,rfl⟩
 obtain⟨y9,e9⟩: ∃y,stepX y8=y:=⟨_,rfl⟩
 obtain⟨y10,e10⟩: ∃y,stepX y9=y:=⟨_,rfl⟩
 obtain⟨y11,e11⟩: ∃y,stepX y10=y:=⟨_,rfl⟩
 obtain⟨y12,e12⟩: ∃y,stepX y11=y:=⟨_,rfl⟩
 have b3:=zaz (x:=y3) (n:=4) (by omega)
 have b4:=zaz (x:=y4) (n:=2) (by omega)
 have b5:=zaz (x:=y5) (n:=3) (by omega)
 have b6:=zaz (x:=y6) (n:=3) (by omega)
 have b7:=zco (x:=y7) (lo:=0) (hi:=30) (by omega)
 have hk:=zmi bs
 unfold payK
 simp only[e1,e2,e3,e4,e5,e6,e7,e8,e9,e10,e11,e12]
 unfold SC
 have Hh:=Box.mk (And.intro h hk)
 clear h hk hok
 refine DC.of_run Tryz.func44 rfl Tryz.ntmps44 Tryz.results44 (by simp) (fun _ _=>?_);simp only[zag,zaj,go_sem,Nat.zero_add,Nat.reduceAdd]
 repeat' (first|refine yJ ?_|(refine zao (t:=3) yU yE yU ?_;simp only[yS3])|fail)
 refine zbd yR yU yU (fun b4' h4=>?_)
 have n4: ¬bs=b4':=fun e=>by rw[zaa,if_pos e]at h4;cases h4
 have n4': ¬b4'=bs:=fun e=>n4 e.symm
 clear h4
 repeat' (first|with_reducible refine zak yU yU yX0 ?_|refine yJ ?_|(refine zaw inferInstance (zce bs x 1 3 (by omega)) yR yX3 yX3 ?_;(try simp only[zab,zac,↓reduceIte, *]))|(refine zaw inferInstance (zck bs y1 2 (by omega)) yR yX3 yX3 ?_;(try simp only[zab,zac,↓reduceIte, *]))|(refine zaw inferInstance (zba bs y2 9 (by omega)) yR yX3 yX3 ?_;(try simp only[zab,zac,↓reduceIte, *]))|(refine zaw inferInstance (zba bs y3 4 (by omega)) yR yX3 yX3 ?_;(try simp only[zab,zac,↓reduceIte, *]))|(refine zaw inferInstance (zba bs y4 2 (by omega)) yR yX3 yX3 ?_;(try simp only[zab,zac,↓reduceIte, *]))|(refine zaw inferInstance (zba bs y5 3 (by omega)) yR yX3 yX3 ?_;(try simp only[zab,zac,↓reduceIte, *]))|(refine zaw inferInstance (zba bs y6 3 (by omega)) yR yX3 yX3 ?_;(try simp only[zab,zac,↓reduceIte, *]))|(refine zaw inferInstance (zce bs y7 0 30 (by omega)) yR yX3 yX3 ?_;(try simp only[zab,zac,↓reduceIte, *]))|(refine zaw inferInstance (zce bs y8 1 3 (by omega)) yR yX3 yX3 ?_;(try simp only[zab,zac,↓reduceIte, *]))|(refine zaw inferInstance (zba bs y9 8 (by omega)) yR yX3 yX3 ?_;(try simp only[zab,zac,↓reduceIte, *]))|(refine zaw inferInstance (zck bs y10 2 (by omega)) yR yX3 yX3 ?_;(try simp only[zab,zac,↓reduceIte, *]))|fail)
 refine zbd yR yU yU (fun b5' h5=>?_)
 have n5: ¬bs=b5':=fun e=>by simp only[zaa,e,↓reduceIte]at h5;first|(cases h5;done)|(split at h5 <;> cases h5)
 have n5': ¬b5'=bs:=fun e=>n5 e.symm
 have m5: ¬b4'=b5':=fun e=>by simp only[zaa,e,↓reduceIte]at h5;first|(cases h5;done)|(split at h5 <;> cases h5)
 have m5': ¬b5'=b4':=fun e=>m5 e.symm
 clear h5
 repeat' (first|with_reducible refine zak yU yU yX0 ?_|refine yJ ?_|(refine zaw inferInstance (zck bs y11 2 (by omega)) yR yX3 yX3 ?_;(try simp only[zab,zac,↓reduceIte, *]))|(refine DS.store yR yX0 yX0 yX0 yX0 yU yQ ?_;simp only[yS1];try simp only[yS2,Nat.reduceEqDiff,↓reduceIte])|fail)
 simp only[setS,zab,zac,n4,n4',n5,n5',m5,m5',↓reduceIte,List.map_cons,List.map_nil,zbc,zai,zam,zaq,zal,Nat.reduceAdd,Nat.zero_add]
 generalize zbv x 1 3=q0 at *
 generalize zcu y1 2=q1 at *
 generalize zar y2 9=q2 at *
 generalize zar y3 4=q3 at *
 generalize zar y4 2=q4 at *
 generalize zar y5 3=q5 at *
 generalize zar y6 3=q6 at *
 generalize zbv y7 0 30=q7 at *
 generalize zbv y8 1 3=q8 at *
 generalize zar y9 8=q9 at *
 generalize zcu y10 2=q10 at *
 clear e1 e2 e3 e4 e5 e6 e7 e8 e9 e10 e11 e12
 obtain⟨od,hod⟩: ∃od,zcu y11 2=od:=⟨_,rfl⟩
 rw[hod]
 clear hod
 have hz0:(Value.agg #[Value.int IntKind.i64 0,Value.bool false,Value.int IntKind.i64 0,Value.int IntKind.i64 0,Value.int IntKind.i64 0,Value.int IntKind.i64 0,Value.int IntKind.i64 0,Value.int IntKind.i64 0,Value.int IntKind.i64 0,Value.int IntKind.i64 0,Value.bool false,Value.slice none 0 0,Value.slice none 0 0]).cells.toList.map V.v= [I 0,Bo false,I 0,I 0,I 0,I 0,I 0,I 0,I 0,I 0,Bo false, .v (.slice none 0 0), .v (.slice none 0 0)]:=rfl
 rw[hz0]
 clear hz0
 obtain⟨pl,hpl2⟩: ∃pl:List Int,(if od=true then zjn s (zar y12 20*100)else [])=pl:=⟨_,rfl⟩
 obtain⟨z,hz⟩: ∃z:Int,(if od=true then stepX y12 else y12)=z:=⟨_,rfl⟩
 have hspec:(if od=true then
   ((⟨q0,q1,q2,q3*100,q4*1000,q5*600,q6*500,q7*1000,q8,q9,q10,zjn s (zar y12 20*100),(zdh s (zar (stepX y12) 3).toNat (stepX (stepX y12))).1⟩:Pay),(zdh s (zar (stepX y12) 3).toNat (stepX (stepX y12))).2)
   else(⟨q0,q1,q2,q3*100,q4*1000,q5*600,q6*500,q7*1000,q8,q9,q10,[],(zdh s (zar y12 3).toNat (stepX y12)).1⟩,(zdh s (zar y12 3).toNat (stepX y12)).2)) =
   (⟨q0,q1,q2,q3*100,q4*1000,q5*600,q6*500,q7*1000,q8,q9,q10,pl,(zdh s (zar z 3).toNat (stepX z)).1⟩,(zdh s (zar z 3).toNat (stepX z)).2):=by
  rw[←hpl2,←hz];cases od <;> rfl
 rw[hspec]
 clear hspec
 obtain⟨plV,hpv⟩: ∃plV:V,(if od=true then .lst (pl.map cI)else .v (.slice none 0 0))=plV:=⟨_,rfl⟩
 have hpk:plV.peek = .lst (pl.map cI):=by
  rw[←hpv,←hpl2]
  cases od <;> rfl
 refine zxd [(0,ptr bs),(4,ptr b4'),(3, .plc s.cells),(5,ptr b5')] [(bs,srcO z),(b5', .cells [I q0,Bo q1,I q2,I (q3*100),I (q4*1000),I (q5*600),I (q6*500),I (q7*1000),I q8,I q9,Bo q10,plV, .v (.slice none 0 0)] 34),(b4', .cells [I 0,Bo false,I 0,I 0,I 0,I 0,I 0,I 0,I 0,I 0,Bo false, .v (.slice none 0 0), .v (.slice none 0 0)] 34)] ?_ ?_
 ·cases od with
  | false =>
   rw[if_neg (by decide)]at hpl2 hz
   subst hpl2
   subst hz
   rw[if_neg (by decide)]at hpv
   subst hpv
   repeat' (first|refine yJT ?_|fail)
   refine DS.back ⟨yS,yS⟩
  | true =>
   rw[if_pos rfl]at hpl2 hz hpv
   have b12:=zaz (x:=y12) (n:=20) (by omega)
   have c12:=zba bs y12 20 (by omega)
   subst hz
   generalize stepX y12=z at *
   generalize zar y12 20=w at *
   repeat' (first|refine yJT ?_|(refine zaw inferInstance (c12) yR yT yT ?_;(try simp only[zab,zac,↓reduceIte, *]))|(refine zmx yU yE yE yE yE yU yU ⟨by omega,by omega,by decide,by omega⟩ (fun _ hfr=>?_))|fail)
   rename_i bm
   have hbm:=hfr
   obtain⟨m1,hbm⟩: ¬bs=bm∧(¬b5'=bm∧ ¬b4'=bm):=by
    refine⟨fun e=>?_,fun e=>?_,fun e=>?_⟩ <;> subst e <;> simp[zae,n4,n4',n5,n5',m5,m5']at hbm
   obtain⟨m2,m3⟩:=hbm
   have m1': ¬bm=bs:=fun e=>m1 (Eq.symm e)
   have m2': ¬bm=b5':=fun e=>m2 (Eq.symm e)
   have m3': ¬bm=b4':=fun e=>m3 (Eq.symm e)
   clear hfr hbm
   repeat' (first|refine yJ ?_|(refine DS.store yR yE yE yE yE yU yQ ?_;simp only[yS1];try simp only[yS2,Nat.reduceEqDiff,↓reduceIte])|fail)
   simp only[setS,zab,zac,n4,n4',n5,n5',m5,m5',m1,m1',m2,m2',m3,m3',↓reduceIte,List.map_cons,List.map_nil,zbc,zai,zam,zaq,zal,Nat.reduceAdd,Nat.zero_add]
   have hpn:s.players.toNat=3∨s.players.toNat=4:=by omega
   have hpI:(s.players.toNat:Int)=s.players:=by omega
   generalize hpp:s.players.toNat=np at *
   refine ymc (id:=5) (b:=bm) (o := .cells (zcp (.int .i64 0) np) 3) (by simp only[zaa,zah,m1,m1',m2,m2',m3,m3',↓reduceIte]) [0,1,2,3,4,5,6,7,8,9,10,11] 12 yKR mixed yP1 yP2 ?_
   simp only[zab,zac,m1,m1',m2,m2',m3,m3',↓reduceIte]
   repeat' (first|with_reducible refine zau yU yU yU yE ?_|fail)
   have hplv:pl=(if np=3 then [w*100,0,0-w*100]else [w*100,0,0,0-w*100]):=by
    rw[←hpl2,zjn,hpp]
    rcases hpn with e|e
    ·have e2:(s.players-1).toNat=2:=by omega
     rw[e,e2]
     show [w*100,0,-(w*100)]= [w*100,0,0-w*100]
     rw[Int.zero_sub]
    ·have e2:(s.players-1).toNat=3:=by omega
     rw[e,e2]
     show [w*100,0,0,-(w*100)]= [w*100,0,0,0-w*100]
     rw[Int.zero_sub]
   clear hpl2
   rcases hpn with rfl|rfl
   ·have hz3:zcp (.int .i64 0) 3= [I 0,I 0,I 0]:=rfl
    have hp3:s.players=3:=by omega
    rw[hz3]
    rw[if_pos rfl]at hplv
    subst hplv
    clear hz3 hpI hpp
    refine DD.store (b:=bm) (off:=0) (m:=1) (cl:= [I 0,I 0,I 0]) (T':=3) yR yH yG yU (by simp only[zaa,↓reduceIte]) yR ⟨by rfl,by decide⟩ (fun _=>MpOk.nil) ?_
    simp only[setS,m1,m1',m2,m2',m3,m3',↓reduceIte,List.map_cons,List.map_nil,zai,zam,zaq,zal,Nat.reduceAdd,Nat.zero_add]
    refine DD.nil ?_
    simp only[zad,zaf]
    repeat' (first|refine yJ ?_|(refine DS.store yR yE yE yE yE yU yQ ?_;simp only[yS1];try simp only[yS2,Nat.reduceEqDiff,↓reduceIte])|fail)
    simp only[setS,zab,zac,n4,n4',n5,n5',m5,m5',m1,m1',m2,m2',m3,m3',↓reduceIte,List.map_cons,List.map_nil,zbc,zai,zam,zaq,zal,Nat.reduceAdd,Nat.zero_add]
    refine zfn (b:=bm) (b':=b5') (i:=11) (len:=3) (cap:=3) (sz:=1) (l:= [I (w*100),I 0,I (0-w*100)]) (T:=3) (l':= [I q0,Bo q1,I q2,I (q3*100),I (q4*1000),I (q5*600),I (q6*500),I (q7*1000),I q8,I q9,Bo q10, .v (.slice (some ⟨bm,0,none⟩) 3 3), .v (.slice none 0 0)]) (T':=34) m2 (by simp only[zaa,zah,n5,n5',m1,m1',m2,m2',m3,m3',↓reduceIte]) yR (by simp only[zaa,↓reduceIte]) (by simp) ⟨by decide,by decide⟩ ?_
    simp only[setS,zab,zac,n4,n4',n5,n5',m5,m5',m1,m1',m2,m2',m3,m3',↓reduceIte]
    rw[←hpv]
    refine DS.back ⟨yS,?_⟩
    simp only[zjl,zky,zaa,zah,n4,n4',n5,n5',m5,m5',↓reduceIte]
    exact⟨trivial,rfl,trivial,trivial⟩
   ·have hz3:zcp (.int .i64 0) 4= [I 0,I 0,I 0,I 0]:=rfl
    have hp3:s.players=4:=by omega
    rw[hz3]
    rw[if_neg (by decide)]at hplv
    subst hplv
    clear hz3 hpI hpp
    refine DD.store (b:=bm) (off:=0) (m:=1) (cl:= [I 0,I 0,I 0,I 0]) (T':=3) yR yH yG yU (by simp only[zaa,↓reduceIte]) yR ⟨by rfl,by decide⟩ (fun _=>MpOk.nil) ?_
    simp only[setS,m1,m1',m2,m2',m3,m3',↓reduceIte,List.map_cons,List.map_nil,zai,zam,zaq,zal,Nat.reduceAdd,Nat.zero_add]
    refine DD.nil ?_
    simp only[zad,zaf]
    repeat' (first|refine yJ ?_|(refine DS.store yR yE yE yE yE yU yQ ?_;simp only[yS1];try simp only[yS2,Nat.reduceEqDiff,↓reduceIte])|fail)
    simp only[setS,zab,zac,n4,n4',n5,n5',m5,m5',m1,m1',m2,m2',m3,m3',↓reduceIte,List.map_cons,List.map_nil,zbc,zai,zam,zaq,zal,Nat.reduceAdd,Nat.zero_add]
    refine zfn (b:=bm) (b':=b5') (i:=11) (len:=4) (cap:=4) (sz:=1) (l:= [I (w*100),I 0,I 0,I (0-w*100)]) (T:=3) (l':= [I q0,Bo q1,I q2,I (q3*100),I (q4*1000),I (q5*600),I (q6*500),I (q7*1000),I q8,I q9,Bo q10, .v (.slice (some ⟨bm,0,none⟩) 4 4), .v (.slice none 0 0)]) (T':=34) m2 (by simp only[zaa,zah,n5,n5',m1,m1',m2,m2',m3,m3',↓reduceIte]) yR (by simp only[zaa,↓reduceIte]) (by simp) ⟨by decide,by decide⟩ ?_
    simp only[setS,zab,zac,n4,n4',n5,n5',m5,m5',m1,m1',m2,m2',m3,m3',↓reduceIte]
    rw[←hpv]
    refine DS.back ⟨yS,?_⟩
    simp only[zjl,zky,zaa,zah,n4,n4',n5,n5',m5,m5',↓reduceIte]
    exact⟨trivial,rfl,trivial,trivial⟩
 ·have b13:=zaz (x:=z) (n:=3) (by omega)
  have c13:=zba bs z 3 (by omega)
  obtain⟨N,hN⟩: ∃N:Nat,(N:Int)=zar z 3:=⟨(zar z 3).toNat,by omega⟩
  rw[←hN]at b13 c13 ⊢
  rw[Int.toNat_natCast]
  clear hpl2 hz hN hpv
  generalize stepX z=z0 at *
  repeat' (first|refine yJ ?_|(refine zaw inferInstance (c13) yR yT yT ?_;(try simp only[zab,zac,↓reduceIte, *]))|fail)
  refine zbn [0,3,4,5] yN (fun(y:Nat×Int×List Feed×GR)=> [(7,I y.1)]) (fun(y:Nat×Int×List Feed×GR)=>(bs,srcO y.2.1)::(b5', .cells [I q0,Bo q1,I q2,I (q3*100),I (q4*1000),I (q5*600),I (q6*500),I (q7*1000),I q8,I q9,Bo q10,plV,y.2.2.2.cell] 34)::(b4', .cells [I 0,Bo false,I 0,I 0,I 0,I 0,I 0,I 0,I 0,I 0,Bo false, .v (.slice none 0 0), .v (.slice none 0 0)] 34)::SRg 145 y.2.2.2) (fun(y:Nat×Int×List Feed×GR)=>y.1+y.2.2.1.length≤3∧FdI [bs,b5',b4'] y.2.2.1 y.2.2.2∧zdh s N z0=(y.2.2.1++(zdh s y.1 y.2.1).1,(zdh s y.1 y.2.1).2)) (fun(y:Nat×Int×List Feed×GR)=>y.1) (N,z0,[],⟨[],none⟩) yS (fun b o e=>by exact e) ⟨by dsimp only[List.length_nil];omega,⟨rfl,rfl,NBg.none _ _⟩,rfl⟩ (fun y B hI hB=>?_);try dsimp only at hI hB;simp only[zad,zaf]
  obtain⟨i,z1,fs,g⟩:=y
  dsimp only at hI hB ⊢
  obtain⟨i1,i2,i3⟩:=hI
  have H:=Box.mk (And.intro i2 i3)
  clear i3
  have hdel:=i2.nb.del 145 (c:=bs) (by simp)
  clear i2
  have ck:=Hh.out.2 z1 s Hh.out.1
  obtain⟨z2,hz2⟩: ∃z2,(zdv s z1).2=z2:=⟨_,rfl⟩
  obtain⟨ks,hks⟩: ∃ks,(zdv s z1).1=ks:=⟨_,rfl⟩
  rw[hz2,hks]at ck
  have Hk:=Box.mk (And.intro hz2 hks)
  clear hz2 hks
  repeat' (first|refine yJ ?_|(with_reducible (refine zax yE ?_;refine zdz (fun _=>?_) (fun _=>?_)))|(refine zaw inferInstance (ck) yR yT yT ?_;(try simp only[zab,zac,↓reduceIte, *]))|fail)
  ·rename_i e0 e1
   obtain⟨k,rfl⟩: ∃k,i=k+1:=⟨i-1,by omega⟩
   have hfd:=zul s k z1
   rw[Hk.out.1,Hk.out.2]at hfd
   rw[if_pos (by omega)]at hfd
   have Hf:=Box.mk hfd
   clear hfd
   have cr:=zce bs z2 1 s.melds (by omega)
   obtain⟨rg,hrg⟩: ∃rg,zbv z2 1 s.melds=rg:=⟨_,rfl⟩
   rw[hrg]at cr
   have Hr:=Box.mk hrg
   clear hrg
   refine zbx (id:=11) ([(b5',Ob.cells [I q0,Bo q1,I q2,I (q3*100),I (q4*1000),I (q5*600),I (q6*500),I (q7*1000),I q8,I q9,Bo q10,plV,g.cell] 34),(b4', .cells [I 0,Bo false,I 0,I 0,I 0,I 0,I 0,I 0,I 0,I 0,Bo false, .v (.slice none 0 0), .v (.slice none 0 0)] 34)]) ((bs,srcO z2)::SRg 145 g) [0,1,2,3,4,5,6,7,8] 9 yKR mixed yP1 yP2 ((zpy (L:= [(b5',Ob.cells [I q0,Bo q1,I q2,I (q3*100),I (q4*1000),I (q5*600),I (q6*500),I (q7*1000),I q8,I q9,Bo q10,plV,g.cell] 34),(b4', .cells [I 0,Bo false,I 0,I 0,I 0,I 0,I 0,I 0,I 0,I 0,Bo false, .v (.slice none 0 0), .v (.slice none 0 0)] 34)]) (by simp only[List.map_cons,List.map_nil,List.mem_cons,List.not_mem_nil,or_false,not_or];exact⟨n5,n4⟩) H.out.1.nb)) ((zpx (L:= [(b5',Ob.cells [I q0,Bo q1,I q2,I (q3*100),I (q4*1000),I (q5*600),I (q6*500),I (q7*1000),I q8,I q9,Bo q10,plV,g.cell] 34),(b4', .cells [I 0,Bo false,I 0,I 0,I 0,I 0,I 0,I 0,I 0,I 0,Bo false, .v (.slice none 0 0), .v (.slice none 0 0)] 34)]) H.out.1.nb)) ?_
   repeat' (first|(with_reducible first|refine zau yU yU yU yX8 ?_|refine zff yU yU yU yU yX8 ?_)|(with_reducible refine DD.nil ?_;simp only[zad,zaf])|(refine zcy inferInstance (cr) yU yX13 yX13 ?_;simp only[zas,zat,Nat.reduceEqDiff,↓reduceIte];(try simp only[zab,zac,↓reduceIte, *]))|(refine zfx yU yX8 yX8 ?_;simp only[go_sem,Nat.zero_add,Nat.reduceAdd];simp only[zas,zat,Nat.reduceEqDiff,↓reduceIte])|fail)
   have hnb:=H.out.1.nb
   have hgl:g.l.length=fs.length:=by rw[H.out.1.l,List.length_map]
   refine zbu (S':=(bs,srcO (stepX z2))::([(b5',Ob.cells [I q0,Bo q1,I q2,I (q3*100),I (q4*1000),I (q5*600),I (q6*500),I (q7*1000),I q8,I q9,Bo q10,plV,g.cell] 34),(b4', .cells [I 0,Bo false,I 0,I 0,I 0,I 0,I 0,I 0,I 0,I 0,Bo false, .v (.slice none 0 0), .v (.slice none 0 0)] 34)]++SRg 145 g)) (zrl (L:= [(b5',Ob.cells [I q0,Bo q1,I q2,I (q3*100),I (q4*1000),I (q5*600),I (q6*500),I (q7*1000),I q8,I q9,Bo q10,plV,g.cell] 34),(b4', .cells [I 0,Bo false,I 0,I 0,I 0,I 0,I 0,I 0,I 0,I 0,Bo false, .v (.slice none 0 0), .v (.slice none 0 0)] 34)]) hnb) ?_
   refine zch rfl rfl yR (zed (g:=g) (ml:= [Feed.cells ⟨ks,rg⟩]) rfl yH yH yR yR (by decide) yH (H.out.1.ok.under (L:= [(b5',Ob.cells [I q0,Bo q1,I q2,I (q3*100),I (q4*1000),I (q5*600),I (q6*500),I (q7*1000),I q8,I q9,Bo q10,plV,g.cell] 34),(b4', .cells [I 0,Bo false,I 0,I 0,I 0,I 0,I 0,I 0,I 0,I 0,Bo false, .v (.slice none 0 0), .v (.slice none 0 0)] 34)]) hnb) yH yH (by exact Nat.zero_lt_succ _) (by intro c hc;obtain rfl:=List.mem_singleton.1 hc;rfl) ⟨by rw[hgl,List.length_singleton];omega,by decide⟩) (fun u2 E' S4 hu2=>?_)
   obtain⟨rfl,b',cap',junk',rfl,m1,m2,m3⟩:=hu2
   have hml:g.l++ [Feed.cells ⟨ks,rg⟩].map (fun x=>List.map V.copy x)=(fs++ [(⟨ks,rg⟩:Feed)]).map Feed.cells:=by rw[H.out.1.l,List.map_append];rfl
   rw[hml]at m1 ⊢
   obtain⟨f2,hf2⟩: ∃f2:List Feed,f2=fs++ [(⟨ks,rg⟩:Feed)]:=⟨_,rfl⟩
   rw[←hf2]at m1 ⊢
   obtain⟨hnb2,hS4⟩:=zhw (L:= [(b5',Ob.cells [I q0,Bo q1,I q2,I (q3*100),I (q4*1000),I (q5*600),I (q6*500),I (q7*1000),I q8,I q9,Bo q10,plV,g.cell] 34),(b4', .cells [I 0,Bo false,I 0,I 0,I 0,I 0,I 0,I 0,I 0,I 0,Bo false, .v (.slice none 0 0), .v (.slice none 0 0)] 34)]) hnb m1 m2 m3
   refine zbu (S':=(bs,srcO (stepX z2))::([(b5',Ob.cells [I q0,Bo q1,I q2,I (q3*100),I (q4*1000),I (q5*600),I (q6*500),I (q7*1000),I q8,I q9,Bo q10,plV,g.cell] 34),(b4', .cells [I 0,Bo false,I 0,I 0,I 0,I 0,I 0,I 0,I 0,I 0,Bo false, .v (.slice none 0 0), .v (.slice none 0 0)] 34)]++SRg 145 ⟨f2.map Feed.cells,some (b',cap',junk')⟩)) hS4 ?_
   have hI2:FdI [bs,b5',b4'] f2 ⟨f2.map Feed.cells,some (b',cap',junk')⟩:=⟨rfl,SRg.ok m1,hnb2⟩
   have hl2:f2.length=fs.length+1:=by rw[hf2,List.length_append];rfl
   have hk2:zdh s N z0=(f2++(zdh s k (stepX z2)).1,(zdh s k (stepX z2)).2):=by
    rw[H.out.2,Hf.out,hf2,Hr.out,List.append_assoc];rfl
   have H3:=Box.mk (And.intro hI2 hk2)
   clear hI2 hk2 hml m1 m2 m3 hnb2 hS4 hgl hf2
   simp only[GR.cell_some,zbk,List.length_map,zad,zaf]
   repeat' (first|refine yJ ?_|(refine DS.store yR yE yE yE yE yU yQ ?_;simp only[yS1];try simp only[yS2,Nat.reduceEqDiff,↓reduceIte])|fail)
   simp only[setS,n5,↓reduceIte]
   simp only[show((k+1:Nat):Int)-1=(k:Int) by omega]
   refine DS.back (hB (k,stepX z2,f2,⟨f2.map Feed.cells,some (b',cap',junk')⟩) _ _ (by dsimp only;omega) ⟨by dsimp only;omega,H3.out.1,H3.out.2⟩ yS yS (fun d o e=>?_))
   dsimp only at e
   rw[GR.cell_some,List.length_map,hl2]at e
   exact e
  ·rename_i e0 e1
   obtain⟨k,rfl⟩: ∃k,i=k+1:=⟨i-1,by omega⟩
   have hfd:=zul s k z1
   rw[Hk.out.1,Hk.out.2]at hfd
   rw[if_neg (by omega)]at hfd
   have hk2:zdh s N z0=(fs++(zdh s k z2).1,(zdh s k z2).2):=by rw[H.out.2,hfd]
   simp only[show((k+1:Nat):Int)-1=(k:Int) by omega]
   refine DS.back (hB (k,z2,fs,g) _ _ (by dsimp only;omega) ⟨by dsimp only;omega,H.out.1,hk2⟩ yS yS (fun d o e=>e))
  ·rename_i e0
   obtain rfl:i=0:=by omega
   have hfin:zdh s N z0=(fs,z1):=by
    have:=H.out.2
    rw[zdh,List.append_nil]at this
    exact this
   rw[hfin]
   have hl3:g.l.map (·.map V.peek)=fs.map Feed.cells:=by
    rw[H.out.1.l,List.map_map];rfl
   refine zdc (t:=81) (i:=12) (g:=g) (e:=145) (sz:=2) yR yR (H.out.1.ok.under (L:= [(b5',_),(b4',_)]) H.out.1.nb) (fun S' hs1 hs2=>?_)
   rw[hl3]
   have hbs:zae S' bs=some (srcO z1):=by
    rw[hs2 bs fun c j h=>H.out.1.nb _ _ _ h (by simp)];simp only[zaa,↓reduceIte]
   have hb4:zae S' b4'=some (.cells [I 0,Bo false,I 0,I 0,I 0,I 0,I 0,I 0,I 0,I 0,Bo false, .v (.slice none 0 0), .v (.slice none 0 0)] 34):=by
    rw[hs2 b4' fun c j h=>H.out.1.nb _ _ _ h (by simp)];simp only[zaa,zad,n4,m5',↓reduceIte]
   refine zbu (S':= [(bs,srcO z1),(b4', .cells [I 0,Bo false,I 0,I 0,I 0,I 0,I 0,I 0,I 0,I 0,Bo false, .v (.slice none 0 0), .v (.slice none 0 0)] 34)]) (fun d o e=>?_) ?_
   ·simp only[zaa,zah]at e
    split at e
    ·rename_i h;subst h;rw[hbs];exact e
    split at e
    ·rename_i h;subst h;rw[hb4];exact e
    ·cases e
   clear hbs hb4 hs1 hs2
   simp only[List.set_cons_succ,List.set_cons_zero]
   repeat' (first|refine yJ ?_|(refine DS.store yR yX0 yX0 yX0 yX0 yU yQ ?_;simp only[yS1];try simp only[yS2,Nat.reduceEqDiff,↓reduceIte])|fail)
   try (simp only[setS,zab,zac,n4,n4',↓reduceIte,List.map_cons,List.map_nil,zbc,zai,zam,zaq,zal,Nat.reduceAdd,Nat.zero_add])
   refine zbj [(bs,srcO z1)] (by(simp (disch:=omega) only[go_sem,dopV,yV0,↓reduceIte,Nat.reduceEqDiff,Nat.reduceLT,Nat.reduceLeDiff,Nat.reduceAdd,Nat.reduceMul,Nat.reduceSub,Int.reduceToNat,Int.reduceLT,Int.reduceLE,Int.reduceEq,IntWalk.toNatUp,IntWalk.iteOmega,IntWalk.i64_in,V.flat,V.one,setS,setAll,n4,n4'];exact rfl)) (fun b o e=>?_) ⟨?_,rfl⟩
   ·simp only[zaa,zah]at e ⊢
    split at e
    ·rename_i hb;subst hb;simp only[n4',↓reduceIte];exact e
    ·cases e
   ·rfl
end Go.XL
namespace Go.XL
open Go.Proofs
set_option maxRecDepth 100000
set_option maxHeartbeats 8000000
def zdo : List V := (Value.agg #[Value.int IntKind.i64 0, Value.slice none 0 0, Value.int IntKind.i64 0, Value.int IntKind.i64 0,
                    Value.int IntKind.i64 0, Value.int IntKind.i64 0, Value.int IntKind.i64 0, Value.int IntKind.i64 0,
                    Value.slice none 0 0, Value.slice none 0 0, Value.slice none 0 0, Value.slice none 0 0,
                    Value.int IntKind.i64 0, Value.int IntKind.i64 0, Value.bool false, Value.slice none 0 0,
                    Value.int IntKind.i64 0, Value.int IntKind.i64 0, Value.bool false, Value.int IntKind.i64 0,
                    Value.int IntKind.i64 0, Value.int IntKind.i64 0, Value.int IntKind.i64 0, Value.int IntKind.i64 0,
                    Value.int IntKind.i64 0, Value.int IntKind.i64 0, Value.int IntKind.i64 0, Value.bool false,
                    Value.slice none 0 0, Value.slice none 0 0, Value.bool false, Value.int IntKind.i64 0,
                    Value.bool false, Value.int IntKind.i64 0, Value.bool false, Value.int IntKind.i64 0,
                    Value.int IntKind.i64 0, Value.int IntKind.i64 0, Value.bool false, Value.bool false,
                    Value.bool false, Value.int IntKind.i64 0, Value.int IntKind.i64 0, Value.int IntKind.i64 0,
                    Value.bool false, Value.bool false]).cells.toList.map V.v
def zhz (s:GSet) (l:List Form) (v w:V) (le:Int) (sc:Scale) (pa:Pay) (py:Play):List V:=s.cells++ [zki l,v,w,I le]++sc.cells++pa.cells++py.cells
structure PtI (bl:List Nat) (ps:List Pattern) (g:GR):Prop where
 l:g.l=ps.map Pattern.cells
 ok:g.Ok 53 6 (SRg 53 g)
 nb:NBg bl g
theorem znz : ∀(c l r:List V),c.length=l.length→setAll (r++l) r.length c=r++c
 | [],[],_,_=>rfl
 | v::c,u::l,r,h=>by
  have ih:=znz c l (r++ [v]) (by simpa using h)
  simp only[List.length_append,List.length_cons,List.length_nil,Nat.zero_add,List.append_assoc,List.cons_append,List.nil_append]at ih
  rw[zai,List.set_append_right _ _ (Nat.le_refl _),Nat.sub_self,List.set_cons_zero]
  exact ih
theorem zfj (c l:List V) (h:c.length=l.length):setAll l 0 c=c:=znz c l [] h
theorem zqg {s:GSet} {N i:Nat} {x:Int} (hi:i<N):zha s N (N-i) x=((patK s i N x).1::(zha s N (N-(i+1)) (patK s i N x).2).1,(zha s N (N-(i+1)) (patK s i N x).2).2):=by
 obtain⟨c,hc⟩: ∃c,N-i=c+1:=⟨N-i-1,by omega⟩
 have h1:N-(c+1)=i:=by omega
 have h2:N-(i+1)=c:=by omega
 rw[hc,zha,h1,h2]
theorem yX19 {p:Prop} (h:p:=by(simp (disch:=omega) only[go_sem,dopV,yV0,↓reduceIte,Nat.reduceEqDiff,Nat.reduceLT,Nat.reduceLeDiff,Nat.reduceAdd,Nat.reduceMul,Nat.reduceSub,Int.reduceToNat,Int.reduceLT,Int.reduceLE,Int.reduceEq,IntWalk.toNatUp,IntWalk.iteOmega,IntWalk.i64_in,V.flat,V.one, *,GR.cell_copy,zhz];exact rfl)):p:=h
theorem yX20 {p:Prop} (h:p:=by(simp (disch:=omega) only[go_sem,dopV,yV0,↓reduceIte,Nat.reduceEqDiff,Nat.reduceLT,Nat.reduceLeDiff,Nat.reduceAdd,Nat.reduceMul,Nat.reduceSub,Int.reduceToNat,Int.reduceLT,Int.reduceLE,Int.reduceEq,IntWalk.toNatUp,IntWalk.iteOmega,IntWalk.i64_in,V.flat,V.one, *,zhz];exact rfl)):p:=h
theorem yX21 {p:Prop} (h:p:=by(simp (disch:=omega) only[go_sem,dopV,yV0,↓reduceIte,Nat.reduceEqDiff,Nat.reduceLT,Nat.reduceLeDiff,Nat.reduceAdd,Nat.reduceMul,Nat.reduceSub,Int.reduceToNat,Int.reduceLT,Int.reduceLE,Int.reduceEq,IntWalk.toNatUp,IntWalk.iteOmega,IntWalk.i64_in,V.flat,V.one, *,zhz,GR.cell_copy];exact rfl)):p:=h
theorem yC {P:Program} {n:Nat} {r:Rr} {Q:VEnv→Sto→Prop} {k:List Fr} {E:VEnv} {S:Sto} {ty:TypeId} {pos:String} {af:Array Edge} {ts:Array TypeId} {g:FuncId} {args:List V} {xs:Array Operand} {fn:Func} {ops l:List Oper} {v:V} {t:Nat} [hf:FnOk P g fn] (hc:PC P g args v) (q:DS P n r Q (.ops ops l::k) ((t,v)::E) S) (hd:decide (t<n)=true:=by exact yR) (he:(evsV (evV E) xs.toList).map (·.map V.peek)=some args:=by exact yH):DS P n r Q (.ops ops (⟨some t, .call {callee := .value (.func g),args:=xs,argTypes:=ts},ty,pos,af,none⟩::l)::k) E S:=zap hf hc hd he q
theorem zwg (hsc: ∀(bs:Nat) (x:Int),SC Tryz.prog 43 [ptr bs] bs x ((zip x).1.val) ((zip x).2)) (bs:Nat) (x:Int) (s:GSet) (h:zbo s=0) (l:List Form):SC Tryz.prog 22 [ptr bs,s.val,zki l] bs x ((zua s l x).1.val) (zua s l x).2:=by
 have HSX:=Box.mk h
 obtain⟨x1,e1⟩: ∃y,stepX x=y:=⟨_,rfl⟩
 obtain⟨sc,x2,e2⟩: ∃sc y,zip x1=(sc,y):=⟨_,_,rfl⟩
 obtain⟨pa,x3,e3⟩: ∃pa y,payK s x2=(pa,y):=⟨_,_,rfl⟩
 obtain⟨py,x4,e4⟩: ∃py y,zpj s x3=(py,y):=⟨_,_,rfl⟩
 have c1:=zba bs x 3 (by omega)
 have c2:=hsc bs x1
 have c3:=yiv bs x2 s h
 have c4:=ydj bs x3 s h
 rw[e1]at c1
 rw[e2]at c2
 rw[e3]at c3
 rw[e4]at c4
 dsimp only at c2 c3 c4
 obtain⟨le,hle⟩: ∃y,zar x 3=y:=⟨_,rfl⟩
 rw[hle]at c1
 unfold zua
 simp only[e1,e2,e3,e4,hle]
 clear e1 e2 e3 e4 hle
 unfold SC
 have Hh:=Box.mk h
 clear h hsc
 refine DC.of_run Tryz.func22 rfl Tryz.ntmps22 Tryz.results22 (by simp) (fun _ _=>?_);simp only[zag,zaj,go_sem,Nat.zero_add,Nat.reduceAdd]
 repeat' (first|refine yJ ?_|(refine zao (t:=4) yU yE yU ?_;simp only[yS3])|fail)
 refine zbd yR yU yU (fun b6 h6=>?_)
 have n6: ¬bs=b6:=fun e=>by rw[zaa,if_pos e]at h6;cases h6
 have n6': ¬b6=bs:=fun e=>n6 e.symm
 clear h6
 repeat' (first|refine yJ ?_|fail)
 (refine zho (id:=1) (bs:=bs) (x:=x) (by simp only[zaa,zah,↓reduceIte, *]) [0,1,2,3,4,5,6,7,8,9,10,11,12,13] 14 yKR mixed yP1 yP2 ?_;simp only[zab,zac,↓reduceIte, *])
 repeat' (first|(with_reducible first|refine zau yU yU yU yX0 ?_|refine zff yU yU yU yU yX0 ?_)|(refine zcy inferInstance (c1) yU yX3 yX3 ?_;simp only[zas,zat,Nat.reduceEqDiff,↓reduceIte];(try simp only[zab,zac,↓reduceIte, *]))|(refine zcy inferInstance (c2) yU yX3 yX3 ?_;simp only[zas,zat,Nat.reduceEqDiff,↓reduceIte];(try simp only[zab,zac,↓reduceIte, *]))|(refine zcy inferInstance (c3) yU yX3 yX3 ?_;simp only[zas,zat,Nat.reduceEqDiff,↓reduceIte];(try simp only[zab,zac,↓reduceIte, *]))|(refine zcy inferInstance (c4) yU yX3 yX3 ?_;simp only[zas,zat,Nat.reduceEqDiff,↓reduceIte];(try simp only[zab,zac,↓reduceIte, *]))|fail)
 refine DD.alloc yR yU yU (fun b7 h7 h7'=>?_)
 have n7: ¬bs=b7:=fun e=>by subst e;first|(simp[zae]at h7;done)|(simp[zae]at h7';done)
 have n7': ¬b7=bs:=fun e=>n7 e.symm
 have m7: ¬b6=b7:=fun e=>by subst e;first|(simp[zae]at h7;done)|(simp[zae]at h7';done)
 have m7': ¬b7=b6:=fun e=>m7 e.symm
 clear h7 h7'
 refine DD.nil ?_
 repeat' (first|with_reducible refine zak yU yU yX0 ?_|refine yJ ?_|(refine DS.store yR yX0 yX0 yX0 yX0 yU yQ ?_;simp only[yS1];try simp only[yS2,Nat.reduceEqDiff,↓reduceIte])|fail)
 have b5:=zaz (x:=x4) (n:=7) (by omega)
 have c5:=zba bs x4 7 (by omega)
 obtain⟨N,hN⟩: ∃N:Nat,(N:Int)=zar x4 7:=⟨(zar x4 7).toNat,by omega⟩
 rw[←hN]at b5 c5 ⊢
 rw[Int.toNat_natCast]
 clear hN
 generalize stepX x4=z0 at *
 repeat' (first|refine yJ ?_|(refine zaw inferInstance (c5) yR yT yT ?_;(try simp only[zab,zac,↓reduceIte, *]))|fail)
 simp only[setS,zab,zac,zad,zaf,n6,n6',n7,n7',m7,m7',↓reduceIte,zbc]
 rw[zfj _ _ yR]
 refine zbu (S':=(bs,srcO z0)::(b7, .cells (zhz s l (.v (.slice none 0 0)) (.v (.slice none 0 0)) le sc pa py) 38):: [(b6, .cells zdo 38)]) (fun d o e=>e) ?_
 refine zbn [0,4,6,7,8] yN (fun(y:Nat×Int×List Pattern×GR)=> [(9,I y.1)]) (fun(y:Nat×Int×List Pattern×GR)=>(bs,srcO y.2.1)::(b7, .cells (zhz s l y.2.2.2.cell (.v (.slice none 0 0)) le sc pa py) 38)::(b6, .cells zdo 38)::SRg 53 y.2.2.2) (fun(y:Nat×Int×List Pattern×GR)=>(y.1≤N∧y.2.2.1.length=y.1)∧PtI [bs,b7,b6] y.2.2.1 y.2.2.2∧zha s N N z0=(y.2.2.1++(zha s N (N-y.1) y.2.1).1,(zha s N (N-y.1) y.2.1).2)) (fun(y:Nat×Int×List Pattern×GR)=>N-y.1) (0,z0,[],⟨[],none⟩) yS (fun b o e=>by exact e) ⟨⟨Nat.zero_le _,rfl⟩,⟨rfl,rfl,NBg.none _ _⟩,rfl⟩ (fun y B hI hB=>?_);try dsimp only at hI hB;simp only[zad,zaf]
 obtain⟨i,z1,ps,g⟩:=y
 dsimp only at hI hB ⊢
 obtain⟨i1,i2,i3⟩:=hI
 have H:=Box.mk (And.intro i2 i3)
 clear i3
 have hdel:=i2.nb.del 53 (c:=bs) (by simp)
 clear i2
 repeat' (first|refine yJ ?_|(with_reducible (refine zax yE ?_;refine zdz (fun _=>?_) (fun _=>?_)))|fail)
 ·rename_i e0
  obtain⟨y1,e1⟩: ∃y,stepX z1=y:=⟨_,rfl⟩
  obtain⟨y2,e2⟩: ∃y,stepX y1=y:=⟨_,rfl⟩
  obtain⟨ex,y3,e3⟩: ∃ex y,zea i N 0 y2=(ex,y):=⟨_,_,rfl⟩
  obtain⟨im,y4,e4⟩: ∃im y,zea i N 0 y3=(im,y):=⟨_,_,rfl⟩
  have d3:=zth bs y2 i N (by omega) (by omega)
  have d4:=zth bs y3 i N (by omega) (by omega)
  rw[e3]at d3
  rw[e4]at d4
  dsimp only at d3 d4
  have d1:=zba bs z1 4 (by omega)
  rw[e1]at d1
  have d2:=zba bs y1 3 (by omega)
  rw[e2]at d2
  have He:=Box.mk (And.intro e1 (And.intro e2 (And.intro e3 e4)))
  clear e1 e2 e3 e4
  have hN7:N≤6:=by first|omega|skip
  have hi6:i<6:=by omega
  refine yC (yoe i hi6) ?_
  repeat' (first|refine yJ ?_|fail)
  refine zaw inferInstance d1 yR yH (by simp only[zaa,↓reduceIte]) ?_
  try (simp only[zab,zac,n6,n6',n7,n7',↓reduceIte,hdel])
  repeat' (first|refine yJ ?_|fail)
  refine zaw inferInstance d2 yR yH (by simp only[zaa,↓reduceIte]) ?_
  try (simp only[zab,zac,n6,n6',n7,n7',↓reduceIte,hdel])
  repeat' (first|refine yJ ?_|fail)
  refine zaw inferInstance d3 yR yH (by simp only[zaa,↓reduceIte]) ?_
  try (simp only[zab,zac,n6,n6',n7,n7',↓reduceIte,hdel])
  repeat' (first|refine yJ ?_|fail)
  refine zaw inferInstance d4 yR yH (by simp only[zaa,↓reduceIte]) ?_
  try (simp only[zab,zac,n6,n6',n7,n7',↓reduceIte,hdel])
  repeat' (first|refine yJ ?_|fail)
  refine zbd yR yU yU (fun b10 h10=>?_)
  have r0: ¬bs=b10:=fun e=>by rw[zaa,if_pos e]at h10;cases h10
  have r0': ¬b10=bs:=fun e=>r0 e.symm
  rw[zaa,if_neg r0]at h10
  have r7: ¬b7=b10:=fun e=>by rw[zaa,if_pos e]at h10;cases h10
  have r7': ¬b10=b7:=fun e=>r7 e.symm
  rw[zaa,if_neg r7]at h10
  have r6: ¬b6=b10:=fun e=>by rw[zaa,if_pos e]at h10;cases h10
  have r6': ¬b10=b6:=fun e=>r6 e.symm
  rw[zaa,if_neg r6]at h10
  repeat' (first|with_reducible refine zak yU yU yX0 ?_|refine yJ ?_|(refine DS.store yR yX0 yX0 yX0 yX0 yU yQ ?_;simp only[yS1];try simp only[yS2,Nat.reduceEqDiff,↓reduceIte])|fail)
  have d5:=zck bs y4 5 (by omega)
  obtain⟨od,hod⟩: ∃od,zcu y4 5=od:=⟨_,rfl⟩
  obtain⟨y5,e5⟩: ∃y,stepX y4=y:=⟨_,rfl⟩
  rw[hod,e5]at d5
  have HO:=Box.mk (And.intro hod e5)
  clear hod e5
  simp only[setS,zab,zac,n6,n6',n7,n7',m7,m7',r0,r0',r6,r6',r7,r7',↓reduceIte]
  rw[zfj _ _ yR]
  simp only[List.map_cons,List.map_nil,zbc,zbb]
  refine zaw inferInstance d5 yR yH (by simp only[zaa,n6,n6',n7,n7',r0,r0',r6,r6',r7,r7',↓reduceIte]) ?_
  try (simp only[zab,zac,n6,n6',n7,n7',r0,r0',r6,r6',r7,r7',↓reduceIte,hdel])
  cases od with
  | true =>
   repeat' (first|with_reducible refine zak yU yU yX19 ?_|refine yJ ?_|(with_reducible (refine zax yX19 ?_;refine zbl ?_))|(refine zbw yU yX19 yX19 ?_;simp only[go_sem,Nat.zero_add,Nat.reduceAdd])|fail)
   have hpat:patK s i N z1=(⟨zji i,zar z1 4,zar y1 3,[],ex,im⟩,y5):=by
    unfold patK
    simp only[He.out.1,He.out.2.1,He.out.2.2.1,He.out.2.2.2,HO.out.1,HO.out.2,↓reduceIte]
   obtain⟨p,hp0⟩: ∃p,(⟨zji i,zar z1 4,zar y1 3,[],ex,im⟩:Pattern)=p:=⟨_,rfl⟩
   rw[hp0]at hpat
   have HP:=Box.mk (And.intro hpat hp0)
   clear hpat
   have hnb:=H.out.1.nb
   have hgl:g.l.length=ps.length:=by rw[H.out.1.l,List.length_map]
   have hpv:p.cells= [V.v (Value.string (zji i)),V.v (Value.int IntKind.i64 (zar z1 4)),V.v (Value.int IntKind.i64 (zar y1 3)),V.v (Value.slice none 0 0),V.lst (List.map cI ex),V.lst (List.map cI im)]∨True:=Or.inr trivial
   clear hp0 hpv
   refine zbu (S':=(bs,srcO y5)::([(b7,Ob.cells (zhz s l g.cell (V.v (Value.slice none 0 0)) le sc pa py) 38),(b6,Ob.cells zdo 38)]++SRg 53 g)) (fun d o e=>?_) ?_
   ·by_cases hd:d=b10
    ·subst hd
     simp only[zaa,zad,zaf,r0,r7,r6,↓reduceIte]at e
     rw[h10]at e;cases e
    ·have hd': ¬b10=d:=fun e=>hd e.symm
     simp only[zaa,zad,zaf,if_neg hd']at e ⊢
     exact e
   refine zch rfl rfl yR (zed (g:=g) (ml:= [Pattern.cells (⟨zji i,zar z1 4,zar y1 3,[],ex,im⟩:Pattern)]) rfl yH yH yR yR (by decide) yH (H.out.1.ok.under (L:= [(b7,Ob.cells (zhz s l g.cell (V.v (Value.slice none 0 0)) le sc pa py) 38),(b6,Ob.cells zdo 38)]) hnb) yH yH (by exact Nat.zero_lt_succ _) (by intro c hc;obtain rfl:=List.mem_singleton.1 hc;rfl) ⟨by rw[hgl,List.length_singleton];omega,by decide⟩) (fun u2 E' S4 hu2=>?_)
   rw[HP.out.2]at hu2
   obtain⟨rfl,b',cap',junk',rfl,m1,m2,m3⟩:=hu2
   have hml:g.l++ [Pattern.cells p].map (fun x=>List.map V.copy x)=(ps++ [p]).map Pattern.cells:=by rw[H.out.1.l,List.map_append];rfl
   rw[hml]at m1 ⊢
   obtain⟨hnb2,hS4⟩:=zhw (L:= [(b7,Ob.cells (zhz s l g.cell (V.v (Value.slice none 0 0)) le sc pa py) 38),(b6,Ob.cells zdo 38)]) hnb m1 m2 m3
   refine zbu (S':=(bs,srcO y5)::([(b7,Ob.cells (zhz s l g.cell (V.v (Value.slice none 0 0)) le sc pa py) 38),(b6,Ob.cells zdo 38)]++SRg 53 ⟨(ps++ [p]).map Pattern.cells,some (b',cap',junk')⟩)) hS4 ?_
   have hI2:PtI [bs,b7,b6] (ps++ [p]) ⟨(ps++ [p]).map Pattern.cells,some (b',cap',junk')⟩:=⟨rfl,SRg.ok m1,hnb2⟩
   have hps:=zqg (s:=s) (N:=N) (i:=i) (x:=z1) (by omega)
   rw[HP.out.1]at hps
   have hpk:zha s N N z0=((ps++ [p])++(zha s N (N-(i+1)) y5).1,(zha s N (N-(i+1)) y5).2):=by rw[H.out.2,hps];simp
   have H3:=Box.mk (And.intro hI2 hpk)
   clear hI2 hpk hps hml m1 m2 m3 hnb2 hS4
   simp only[GR.cell_some,zbk,List.length_map,zad,zaf]
   repeat' (first|with_reducible refine zak yU yU yX20 ?_|refine yJ ?_|(refine DS.store yR yX20 yX20 yX20 yX20 yU yQ ?_;simp only[yS1];try simp only[yS2,Nat.reduceEqDiff,↓reduceIte])|fail)
   simp only[setS,n7,↓reduceIte]
   refine DS.back (hB (i+1,y5,ps++ [p],⟨(ps++ [p]).map Pattern.cells,some (b',cap',junk')⟩) _ _ (by dsimp only;omega) ⟨⟨by dsimp only;omega,by simp only[List.length_append,List.length_singleton];omega⟩,H3.out.1,H3.out.2⟩ yS yS (fun d o e=>?_))
   dsimp only at e
   rw[GR.cell_some,List.length_map]at e
   exact e
  | false =>
   have d6:=zba bs y5 3 (by omega)
   obtain⟨y6,e6⟩: ∃y,stepX y5=y:=⟨_,rfl⟩
   rw[e6]at d6
   have d7:=zck bs y6 4 (by omega)
   obtain⟨y7,e7⟩: ∃y,stepX y6=y:=⟨_,rfl⟩
   rw[e7]at d7
   obtain⟨oc,hoc⟩: ∃oc,zcu y6 4=oc:=⟨_,rfl⟩
   rw[hoc]at d7
   have b6x:=zaz (x:=y5) (n:=3) (by omega)
   obtain⟨kc,hkc⟩: ∃kc:Nat,(kc:Int)=zar y5 3:=⟨(zar y5 3).toNat,by omega⟩
   rw[←hkc]at d6 b6x
   have HC:=Box.mk (And.intro e6 (And.intro e7 (And.intro hoc hkc)))
   clear e6 e7 hoc hkc
   repeat' (first|refine yJT ?_|fail)
   refine zbx (id:=8) ((b7,Ob.cells (zhz s l g.cell (V.v (Value.slice none 0 0)) le sc pa py) 38)::(b6,Ob.cells zdo 38)::SRg 53 g) ([(bs,srcO y5),(b10,Ob.cells [V.v (Value.string (zji i)),V.v (Value.int IntKind.i64 (zar z1 4)),V.v (Value.int IntKind.i64 (zar y1 3)),V.v (Value.slice none 0 0),V.lst (List.map cI ex),V.lst (List.map cI im)] 53)]) [0,1,2,3,4,5] 6 yKR mixed yP1 yP2 ((fun d o e=>?_)) ((fun d o e=>?_)) ?_
   ·have h1: ¬bs=d:=fun q=>by
     subst q
     simp only[zaa,n7',n6',↓reduceIte]at e
     rw[←hdel,zbz,if_pos rfl]at e;cases e
    have h2: ¬b10=d:=fun q=>by
     subst q
     simp only[zaa,r7,r6,↓reduceIte]at e
     rw[h10]at e;cases e
    simp only[zaa,zah,if_neg h1,if_neg h2]at e ⊢
    exact⟨e,trivial⟩
   ·simp only[zaa,zah]at e ⊢
    split at e
    ·rename_i hq;subst hq;simp only[↓reduceIte];exact e
    ·rename_i hq0
     split at e
     ·rename_i hq;subst hq;simp only[r0,↓reduceIte];exact e
     ·cases e
   repeat' (first|with_reducible refine zau yU yU yU yE ?_|fail)
   refine zcy inferInstance d6 yR yH (by simp only[zaa,↓reduceIte]) ?_
   simp only[zas,zat,Nat.reduceEqDiff,↓reduceIte]
   try (simp only[zab,zac,r0,r0',↓reduceIte])
   repeat' (first|with_reducible refine zau yU yU yU yE ?_|fail)
   refine zcy inferInstance d7 yR yH (by simp only[zaa,↓reduceIte]) ?_
   simp only[zas,zat,Nat.reduceEqDiff,↓reduceIte]
   try (simp only[zab,zac,r0,r0',↓reduceIte])
   repeat' (first|(with_reducible refine DD.nil ?_;simp only[zad,zaf])|fail)
   have d8:=zwp s HSX.out bs kc (by omega) y7 oc
   obtain⟨cn,y8,hcn⟩: ∃cn y8,zgx s kc y7 oc=(cn,y8):=⟨_,_,rfl⟩
   rw[hcn]at d8
   dsimp only at d8
   have HCN:=Box.mk hcn
   clear hcn
   refine zaw inferInstance d8 yR yH (by simp only[zaa,↓reduceIte]) ?_
   try (simp only[zab,zac,n6,n6',n7,n7',r0,r0',r6,r6',r7,r7',↓reduceIte,hdel])
   repeat' (first|refine yJ ?_|(refine DS.store yR yE yE yE yE yU yQ ?_;simp only[yS1];try simp only[yS2,Nat.reduceEqDiff,↓reduceIte])|fail)
   simp only[setS,zab,zac,n6,n6',n7,n7',m7,m7',r0,r0',r6,r6',r7,r7',↓reduceIte,zai,zam,zaq,zal,zbf,zbb,zbc]
   repeat' (first|with_reducible refine zak yU yU yX19 ?_|(refine zbw yU yX19 yX19 ?_;simp only[go_sem,Nat.zero_add,Nat.reduceAdd])|fail)
   have hpat:patK s i N z1=(⟨zji i,zar z1 4,zar y1 3,cn,ex,im⟩,y8):=by
    unfold patK
    simp only[He.out.1,He.out.2.1,He.out.2.2.1,He.out.2.2.2,HO.out.1,HO.out.2,HC.out.1,HC.out.2.1,HC.out.2.2.1,←HC.out.2.2.2,Int.toNat_natCast,HCN.out,Bool.false_eq_true,↓reduceIte]
   obtain⟨p,hp0⟩: ∃p,(⟨zji i,zar z1 4,zar y1 3,cn,ex,im⟩:Pattern)=p:=⟨_,rfl⟩
   rw[hp0]at hpat
   have HP:=Box.mk (And.intro hpat hp0)
   clear hpat
   have hnb:=H.out.1.nb
   have hgl:g.l.length=ps.length:=by rw[H.out.1.l,List.length_map]
   have hpv:p.cells= [V.v (Value.string (zji i)),V.v (Value.int IntKind.i64 (zar z1 4)),V.v (Value.int IntKind.i64 (zar y1 3)),V.v (Value.slice none 0 0),V.lst (List.map cI ex),V.lst (List.map cI im)]∨True:=Or.inr trivial
   clear hp0 hpv
   refine zbu (S':=(bs,srcO y8)::([(b7,Ob.cells (zhz s l g.cell (V.v (Value.slice none 0 0)) le sc pa py) 38),(b6,Ob.cells zdo 38)]++SRg 53 g)) (fun d o e=>?_) ?_
   ·by_cases hd:d=b10
    ·subst hd
     simp only[zaa,zad,zaf,r0,r7,r6,↓reduceIte]at e
     rw[h10]at e;cases e
    ·have hd': ¬b10=d:=fun e=>hd e.symm
     simp only[zaa,zad,zaf,if_neg hd']at e ⊢
     exact e
   refine zch rfl rfl yR (zed (g:=g) (ml:= [Pattern.cells (⟨zji i,zar z1 4,zar y1 3,cn,ex,im⟩:Pattern)]) rfl yH yH yR yR (by decide) yH (H.out.1.ok.under (L:= [(b7,Ob.cells (zhz s l g.cell (V.v (Value.slice none 0 0)) le sc pa py) 38),(b6,Ob.cells zdo 38)]) hnb) yH yH (by exact Nat.zero_lt_succ _) (by intro c hc;obtain rfl:=List.mem_singleton.1 hc;rfl) ⟨by rw[hgl,List.length_singleton];omega,by decide⟩) (fun u2 E' S4 hu2=>?_)
   rw[HP.out.2]at hu2
   obtain⟨rfl,b',cap',junk',rfl,m1,m2,m3⟩:=hu2
   have hml:g.l++ [Pattern.cells p].map (fun x=>List.map V.copy x)=(ps++ [p]).map Pattern.cells:=by rw[H.out.1.l,List.map_append];rfl
   rw[hml]at m1 ⊢
   obtain⟨hnb2,hS4⟩:=zhw (L:= [(b7,Ob.cells (zhz s l g.cell (V.v (Value.slice none 0 0)) le sc pa py) 38),(b6,Ob.cells zdo 38)]) hnb m1 m2 m3
   refine zbu (S':=(bs,srcO y8)::([(b7,Ob.cells (zhz s l g.cell (V.v (Value.slice none 0 0)) le sc pa py) 38),(b6,Ob.cells zdo 38)]++SRg 53 ⟨(ps++ [p]).map Pattern.cells,some (b',cap',junk')⟩)) hS4 ?_
   have hI2:PtI [bs,b7,b6] (ps++ [p]) ⟨(ps++ [p]).map Pattern.cells,some (b',cap',junk')⟩:=⟨rfl,SRg.ok m1,hnb2⟩
   have hps:=zqg (s:=s) (N:=N) (i:=i) (x:=z1) (by omega)
   rw[HP.out.1]at hps
   have hpk:zha s N N z0=((ps++ [p])++(zha s N (N-(i+1)) y8).1,(zha s N (N-(i+1)) y8).2):=by rw[H.out.2,hps];simp
   have H3:=Box.mk (And.intro hI2 hpk)
   clear hI2 hpk hps hml m1 m2 m3 hnb2 hS4
   simp only[GR.cell_some,zbk,List.length_map,zad,zaf]
   repeat' (first|with_reducible refine zak yU yU yX20 ?_|refine yJ ?_|(refine DS.store yR yX20 yX20 yX20 yX20 yU yQ ?_;simp only[yS1];try simp only[yS2,Nat.reduceEqDiff,↓reduceIte])|fail)
   simp only[setS,n7,↓reduceIte]
   refine DS.back (hB (i+1,y8,ps++ [p],⟨(ps++ [p]).map Pattern.cells,some (b',cap',junk')⟩) _ _ (by dsimp only;omega) ⟨⟨by dsimp only;omega,by simp only[List.length_append,List.length_singleton];omega⟩,H3.out.1,H3.out.2⟩ yS yS (fun d o e=>?_))
   dsimp only at e
   rw[GR.cell_some,List.length_map]at e
   exact e
 ·obtain rfl:i=N:=by omega
  have hpk:=H.out.2
  rw[Nat.sub_self,zha,List.append_nil]at hpk
  rw[hpk]
  dsimp only
  clear hpk
  have d9:=zck bs z1 2 (by omega)
  obtain⟨od,hod⟩: ∃od,zcu z1 2=od:=⟨_,rfl⟩
  obtain⟨y1,e1⟩: ∃y,stepX z1=y:=⟨_,rfl⟩
  rw[hod,e1]at d9
  rw[hod,e1]
  clear hod e1
  skip
  refine zaw inferInstance d9 yR yH (by simp only[zaa,↓reduceIte]) ?_
  try (simp only[zab,zac,n6,n6',n7,n7',↓reduceIte,hdel])
  cases od with
  | false =>
   simp only[Bool.false_eq_true,↓reduceIte]
   repeat' (first|with_reducible refine zak yU yU yX21 ?_|refine yJ ?_|(with_reducible (refine zax yX21 ?_;refine zbl ?_))|fail)
   have hl3:g.l.map (·.map V.peek)=ps.map Pattern.cells:=by rw[H.out.1.l,List.map_map];rfl
   refine zdc (t:=71) (i:=10) (g:=g) (e:=53) (sz:=6) yR yR (H.out.1.ok.under (L:= [(b7,_),(b6,_)]) H.out.1.nb) (fun S' hs1 hs2=>?_)
   rw[hl3]
   have hbs:zae S' bs=some (srcO y1):=by
    rw[hs2 bs fun c j h=>H.out.1.nb _ _ _ h (by simp)];simp only[zaa,↓reduceIte]
   have hb6:zae S' b6=some (Ob.cells zdo 38):=by
    rw[hs2 b6 fun c j h=>H.out.1.nb _ _ _ h (by simp)];simp only[zaa,zad,n6,n6',n7,n7',m7,m7',↓reduceIte]
   refine zbu (S':= [(bs,srcO y1),(b6,Ob.cells zdo 38)]) (fun d o e=>?_) ?_
   ·simp only[zaa,zah]at e
    split at e
    ·rename_i h;subst h;rw[hbs];exact e
    split at e
    ·rename_i h;subst h;rw[hb6];exact e
    ·cases e
   clear hbs hb6 hs1 hs2
   simp only[List.set_cons_succ,List.set_cons_zero]
   refine DS.store (b:=b6) (off:=0) (m:=46) (cl:=zdo) (T':=38) yR yH yG yU (by simp only[zaa,n6,↓reduceIte]) yR ⟨by rfl,by decide⟩ ?_
   rw[zfj _ _ yR]
   repeat' (first|refine yJ ?_|fail)
   simp only[setS,n6,↓reduceIte,zgv]
   refine zbj [(bs,srcO y1)] (by(simp (disch:=omega) only[go_sem,dopV,yV0,↓reduceIte,Nat.reduceEqDiff,Nat.reduceLT,Nat.reduceLeDiff,Nat.reduceAdd,Nat.reduceMul,Nat.reduceSub,Int.reduceToNat,Int.reduceLT,Int.reduceLE,Int.reduceEq,IntWalk.toNatUp,IntWalk.iteOmega,IntWalk.i64_in,V.flat,V.one,setS,setAll,n6,n6'];exact rfl)) (fun b o e=>?_) ?_
   ·simp only[zaa,zah]at e ⊢
    split at e
    ·rename_i hb;subst hb;simp only[n6',↓reduceIte];exact e
    ·cases e
   ·exact⟨rfl,rfl⟩
  | true =>
   simp only[↓reduceIte]
   have d6:=zba bs y1 3 (by omega)
   obtain⟨y2,e2⟩: ∃y,stepX y1=y:=⟨_,rfl⟩
   have b6x:=zaz (x:=y1) (n:=3) (by omega)
   obtain⟨kc,hkc⟩: ∃kc:Nat,(kc:Int)=zar y1 3:=⟨(zar y1 3).toNat,by omega⟩
   rw[e2,←hkc]at d6
   rw[←hkc]at b6x
   rw[e2,←hkc,Int.toNat_natCast]
   clear e2 hkc
   repeat' (first|refine yJT ?_|fail)
   refine zbx (id:=11) ((b6,Ob.cells zdo 38)::SRg 53 g) ([(bs,srcO y1),(b7,Ob.cells (zhz s l g.cell (V.v (Value.slice none 0 0)) le sc pa py) 38)]) [0,1,2,3] 4 yKR mixed yP1 yP2 ((fun d o e=>?_)) ((fun d o e=>?_)) ?_
   ·have hl7:=H.out.1.nb.look 53 (c:=b7) (by simp)
    have hl0:=H.out.1.nb.look 53 (c:=bs) (by simp)
    have h1: ¬bs=d:=fun q=>by
     subst q
     simp only[zaa,n6',↓reduceIte]at e
     rw[hl0]at e;cases e
    have h2: ¬b7=d:=fun q=>by
     subst q
     simp only[zaa,m7,↓reduceIte]at e
     rw[hl7]at e;cases e
    simp only[zaa,zah,if_neg h1,if_neg h2]at e ⊢
    exact⟨e,trivial⟩
   ·simp only[zaa,zah]at e ⊢
    split at e
    ·rename_i hq;subst hq;simp only[↓reduceIte];exact e
    ·rename_i hq0
     split at e
     ·rename_i hq;subst hq;simp only[n7,↓reduceIte];exact e
     ·cases e
   repeat' (first|with_reducible refine zau yU yU yU yE ?_|fail)
   refine zcy inferInstance d6 yR yH (by simp only[zaa,↓reduceIte]) ?_
   simp only[zas,zat,Nat.reduceEqDiff,↓reduceIte]
   try (simp only[zab,zac,n7,n7',↓reduceIte])
   repeat' (first|(with_reducible refine DD.nil ?_;simp only[zad,zaf])|fail)
   have d8:=zwp s HSX.out bs kc (by omega) y2 true
   obtain⟨cn,y8,hcn⟩: ∃cn y8,zgx s kc y2 true=(cn,y8):=⟨_,_,rfl⟩
   rw[hcn]at d8
   rw[hcn]
   dsimp only at d8 ⊢
   clear hcn
   refine zaw inferInstance d8 yR yH (by simp only[zaa,↓reduceIte]) ?_
   try (simp only[zab,zac,n6,n6',n7,n7',↓reduceIte,hdel])
   repeat' (first|with_reducible refine zak yU yU yX20 ?_|refine yJ ?_|(refine DS.store yR yX20 yX20 yX20 yX20 yU yQ ?_;simp only[yS1];try simp only[yS2,Nat.reduceEqDiff,↓reduceIte])|fail)
   simp only[setS,zab,zac,n6,n6',n7,n7',m7,m7',↓reduceIte,zai,zam,zaq,zal,zbf,zbb,zbc]
   have hl3:g.l.map (·.map V.peek)=ps.map Pattern.cells:=by rw[H.out.1.l,List.map_map];rfl
   refine zdc (t:=71) (i:=10) (g:=g) (e:=53) (sz:=6) yR yR (H.out.1.ok.under (L:= [(b7,_),(b6,_)]) H.out.1.nb) (fun S' hs1 hs2=>?_)
   rw[hl3]
   have hbs:zae S' bs=some (srcO y8):=by
    rw[hs2 bs fun c j h=>H.out.1.nb _ _ _ h (by simp)];simp only[zaa,↓reduceIte]
   have hb6:zae S' b6=some (Ob.cells zdo 38):=by
    rw[hs2 b6 fun c j h=>H.out.1.nb _ _ _ h (by simp)];simp only[zaa,zad,n6,n6',n7,n7',m7,m7',↓reduceIte]
   refine zbu (S':= [(bs,srcO y8),(b6,Ob.cells zdo 38)]) (fun d o e=>?_) ?_
   ·simp only[zaa,zah]at e
    split at e
    ·rename_i h;subst h;rw[hbs];exact e
    split at e
    ·rename_i h;subst h;rw[hb6];exact e
    ·cases e
   clear hbs hb6 hs1 hs2
   simp only[List.set_cons_succ,List.set_cons_zero]
   refine DS.store (b:=b6) (off:=0) (m:=46) (cl:=zdo) (T':=38) yR yH yG yU (by simp only[zaa,n6,↓reduceIte]) yR ⟨by rfl,by decide⟩ ?_
   rw[zfj _ _ yR]
   repeat' (first|refine yJ ?_|fail)
   simp only[setS,n6,↓reduceIte,zgv]
   refine zbj [(bs,srcO y8)] (by(simp (disch:=omega) only[go_sem,dopV,yV0,↓reduceIte,Nat.reduceEqDiff,Nat.reduceLT,Nat.reduceLeDiff,Nat.reduceAdd,Nat.reduceMul,Nat.reduceSub,Int.reduceToNat,Int.reduceLT,Int.reduceLE,Int.reduceEq,IntWalk.toNatUp,IntWalk.iteOmega,IntWalk.i64_in,V.flat,V.one,setS,setAll,n6,n6'];exact rfl)) (fun b o e=>?_) ?_
   ·simp only[zaa,zah]at e ⊢
    split at e
    ·rename_i hb;subst hb;simp only[n6',↓reduceIte];exact e
    ·cases e
   ·exact⟨rfl,rfl⟩
end Go.XL
namespace Go.XL
open Go.Proofs
set_option maxRecDepth 100000
set_option maxHeartbeats 8000000
structure PayM where
 h:House
 points:Int
 dealer:Int
 winner:Int
 from_:Int
 counters:Int
def PayM.cells (p:PayM):List V:=p.h.cells++ [I p.points,I p.dealer,I p.winner,I p.from_,I p.counters]
@[go_sem] theorem PayM.cells_eq (p:PayM):p.cells= [I p.h.set.players,ints p.h.set.suits,I p.h.set.winds,I p.h.set.dragons,I p.h.set.flowers,I p.h.set.copies,I p.h.set.melds,I p.h.set.dead,ints p.h.set.reds,
 zki p.h.forms,ydo p.h.patterns,zlf p.h.minor,I p.h.least,
 I p.h.scale.base,Bo p.h.scale.double, .lst (p.h.scale.limits.map Limit.cells),I p.h.scale.round,
 I p.h.pay.mode,Bo p.h.pay.dealer,I p.h.pay.basic,I p.h.pay.counter,I p.h.pay.stick,I p.h.pay.pool,I p.h.pay.foul,I p.h.pay.start,I p.h.pay.rounds,I p.h.pay.stay,Bo p.h.pay.bust,ints p.h.pay.places, .lst (p.h.pay.feeds.map Feed.cells),
 Bo p.h.play.chows,I p.h.play.heads,Bo p.h.play.riichi,I p.h.play.last,Bo p.h.play.furiten,I p.h.play.rob,I p.h.play.kongs,I p.h.play.nines,Bo p.h.play.winds,Bo p.h.play.riichis,Bo p.h.play.swap,I p.h.play.time,I p.h.play.foul,I p.h.play.indicators,Bo p.h.play.show_,Bo p.h.play.under,
 I p.points,I p.dealer,I p.winner,I p.from_,I p.counters]:=rfl
abbrev PayM.val (p:PayM):V := .agg p.cells
structure PayM.Ok (p:PayM):Prop where
 players:3≤p.h.set.players∧p.h.set.players≤4
 points:0≤p.points∧p.points≤1000000
 round:1≤p.h.scale.round∧p.h.scale.round≤10000
 mode:1≤p.h.pay.mode∧p.h.pay.mode≤3
 basic:0≤p.h.pay.basic∧p.h.pay.basic≤1000000
 counter:0≤p.h.pay.counter∧p.h.pay.counter≤1000000
 counters:0≤p.counters∧p.counters≤100
theorem zro (h:House) (n:Int):PC Tryz.prog 34 [h.val,I n] (Bo (h.seat n)):=by
 refine DC.of_run Tryz.func34 rfl Tryz.ntmps34 Tryz.results34 (by simp) (fun _ _=>?_);simp only[zag,zaj,go_sem,Nat.zero_add,Nat.reduceAdd]
 repeat' (first|refine yJ ?_|(with_reducible (refine zbi yU yE ?_;first|refine zfb (fun _=>?_) (fun _=>?_)|refine GG.run ?_|refine zcl ?_))|(refine zao (t:=2) yU yE yU ?_;simp only[yS3])|refine zan [] yE trivial ?_|fail)
 all_goals (simp[tupV,House.seat, *];try omega)
theorem znj (p:PayM) (j:Int):PC Tryz.prog 67 [p.val,I j] (I (zef p.h p.dealer p.winner j)):=by
 refine DC.of_run Tryz.func67 rfl Tryz.ntmps67 Tryz.results67 (by simp) (fun _ _=>?_);simp only[zag,zaj,go_sem,Nat.zero_add,Nat.reduceAdd]
 repeat' (first|refine yJ ?_|(with_reducible first|(refine zax yE ?_;first|refine zdz (fun _=>?_) (fun _=>?_)|refine zay ?_|refine zbl ?_)|(refine zbi yU yE ?_;first|refine zfz ?_|refine zex (fun _=>?_) (fun _=>?_)|refine GG.run ?_|refine zcl ?_|refine zcv ?_|refine zpp (fun _=>?_) (fun _=>?_)))|(refine zao (t:=2) yU yE yU ?_;simp only[yS3])|refine zan [] yE trivial ?_|fail)
 all_goals (simp only[tupV,zef];(repeat' split) <;> first|rfl|(exfalso;omega)|(exfalso;grind))
theorem zgu (h:House) (d w j:Int):0≤zef h d w j∧zef h d w j≤2:=by
 unfold zef;split
 ·omega
 ·split <;> omega
theorem zvq {n to:Int} (h0:0≤n) (h1:1≤to):0≤upS n to∧upS n to≤n+to:=by
 unfold upS
 have h2:=Int.emod_add_mul_ediv (n+to-1) to
 have h3:=Int.emod_nonneg (n+to-1) (show to≠0 by omega)
 have h4:0≤(n+to-1) / to:=Int.ediv_nonneg (by omega) (by omega)
 have h5:0≤(n+to-1) / to*to:=Int.mul_nonneg h4 (by omega)
 rw[Int.mul_comm]at h2
 omega
theorem yid (p:PayM) (n:Int) (ok:p.Ok) (hn:0≤n∧n≤8):PC Tryz.prog 66 [p.val,I n] (I (upS (p.points*n) p.h.scale.round)):=by
 have h1:=ok.points
 have h2:=ok.round
 have h3:0≤p.points*n:=Int.mul_nonneg h1.1 hn.1
 have h4:p.points*n≤1000000*8:=Int.mul_le_mul h1.2 hn.2 hn.1 (by omega)
 have hb:=zvq h3 h2.1
 have e:(p.points*n+p.h.scale.round-1).tdiv p.h.scale.round=(p.points*n+p.h.scale.round-1) / p.h.scale.round:=Int.tdiv_eq_ediv_of_nonneg (by omega)
 have h5:0≤(p.points*n+p.h.scale.round-1) / p.h.scale.round:=Int.ediv_nonneg (by omega) (by omega)
 have h6:(p.points*n+p.h.scale.round-1) / p.h.scale.round≤p.points*n+p.h.scale.round-1:=Int.ediv_le_self _ (by omega)
 have h7:p.h.scale.round≠0:=by omega
 unfold upS at hb ⊢
 refine DC.of_run Tryz.func66 rfl Tryz.ntmps66 Tryz.results66 (by simp) (fun _ _=>?_);simp only[zag,zaj,go_sem,Nat.zero_add,Nat.reduceAdd]
 repeat' (first|refine yJ ?_|(refine zao (t:=2) yU yE yU ?_;simp only[yS3])|refine zan [] yE trivial ?_|fail)
 rfl
theorem ypd (p:PayM) (j:Int) (ok:p.Ok):PC Tryz.prog 164 [p.val,I j] (I (if j=p.from_ then 2*upS (p.points*zef p.h p.dealer p.winner j) p.h.scale.round else upS (p.points*zef p.h p.dealer p.winner j) p.h.scale.round)):=by
 have hs:=znj p j
 have hb:=zgu p.h p.dealer p.winner j
 generalize zef p.h p.dealer p.winner j=s at *
 have hu:=yid p s ok (by omega)
 have h1:=ok.points
 have h3:0≤p.points*s:=Int.mul_nonneg h1.1 hb.1
 have h4:p.points*s≤1000000*2:=Int.mul_le_mul h1.2 hb.2 hb.1 (by omega)
 have hub:=zvq h3 ok.round.1
 have hr:=ok.round
 generalize upS (p.points*s) p.h.scale.round=u at *
 refine DC.of_run Tryz.func164 rfl Tryz.ntmps164 Tryz.results164 (by simp) (fun _ _=>?_);simp only[zag,zaj,go_sem,Nat.zero_add,Nat.reduceAdd]
 repeat' (first|refine yJ ?_|(with_reducible (refine zax yE ?_;refine zdz (fun _=>?_) (fun _=>?_)))|refine zap inferInstance (hu) yR yT ?_|(refine zao (t:=2) yU yE yU ?_;simp only[yS3])|refine zbe (id:=2) [0,1,2,3] 4 yKR mixed yP1 yP2 ?_|refine zbe (id:=3) [0,1,2,3] 4 yKR mixed yP1 yP2 ?_|(with_reducible first|refine zau yU yU yU yE ?_|refine zbg ?_)|refine zdf inferInstance (hs) yU yT ?_|refine zan [] yE trivial ?_|fail)
 all_goals first|(rw[if_pos (by omega)];rfl)|(rw[if_neg (by omega)];rfl)
theorem ylk (p:PayM) (j:Int) (ok:p.Ok):PC Tryz.prog 167 [p.val,I j] (I (if j=p.from_ then upS (p.points*zef p.h p.dealer p.winner j) p.h.scale.round+p.h.pay.basic else p.h.pay.basic)):=by
 have hs:=znj p j
 have hb:=zgu p.h p.dealer p.winner j
 generalize zef p.h p.dealer p.winner j=s at *
 have hu:=yid p s ok (by omega)
 have h1:=ok.points
 have h3:0≤p.points*s:=Int.mul_nonneg h1.1 hb.1
 have h4:p.points*s≤1000000*2:=Int.mul_le_mul h1.2 hb.2 hb.1 (by omega)
 have hub:=zvq h3 ok.round.1
 have hr:=ok.round
 have hba:=ok.basic
 generalize upS (p.points*s) p.h.scale.round=u at *
 refine DC.of_run Tryz.func167 rfl Tryz.ntmps167 Tryz.results167 (by simp) (fun _ _=>?_);simp only[zag,zaj,go_sem,Nat.zero_add,Nat.reduceAdd]
 repeat' (first|refine yJ ?_|(with_reducible (refine zax yE ?_;refine zdz (fun _=>?_) (fun _=>?_)))|(refine zao (t:=2) yU yE yU ?_;simp only[yS3])|refine zbe (id:=2) [0,1,2,3,4,5,6,7,8] 9 yKR mixed yP1 yP2 ?_|(with_reducible first|refine zau yU yU yU yE ?_|refine zbg ?_)|refine zdf inferInstance (hs) yU yT ?_|refine zdf inferInstance (hu) yU yT ?_|refine zan [] yE trivial ?_|fail)
 all_goals first|(rw[if_pos (by omega)];rfl)|(rw[if_neg (by omega)];rfl)
theorem znh {f:Nat→Int} {lo hi:Int} (h: ∀i,lo≤f i∧f i≤hi): ∀n:Nat,lo*n≤zpi f n∧zpi f n≤hi*n
 | 0=>by simp[zpi]
 | n+1=>by
  have h1:=znh h n
  have h2:=h n
  rw[zpi,Int.natCast_add,Int.mul_add,Int.mul_add];omega
theorem yln (p:PayM) (j:Int) (ok:p.Ok):PC Tryz.prog 166 [p.val,I j] (I (if j=p.from_ then upS (p.points*zpi (fun i=>zef p.h p.dealer p.winner i) p.h.set.players.toNat) p.h.scale.round else 0)):=by
 have hpl:=ok.players
 have hbd:=znh (f:=fun i:Nat=>zef p.h p.dealer p.winner i) (lo:=0) (hi:=2) fun i=>zgu _ _ _ _
 refine DC.of_run Tryz.func166 rfl Tryz.ntmps166 Tryz.results166 (by simp) (fun _ _=>?_);simp only[zag,zaj,go_sem,Nat.zero_add,Nat.reduceAdd]
 by_cases hj:j=p.from_
 ·rw[if_pos hj]
  repeat' (first|refine yJT ?_|(refine zao (t:=2) yU yE yU ?_;simp only[yS3])|fail)
  all_goals try (exfalso;omega)
  refine zbp [2,14] yN (fun(z:Nat×Int)=> [(5,I z.2),(15,I z.1)]) (fun(z:Nat×Int)=>z.1≤p.h.set.players.toNat∧z.2=zpi (fun i=>zef p.h p.dealer p.winner i) z.1) (fun(z:Nat×Int)=>p.h.set.players.toNat-z.1) (0,0) yS ⟨Nat.zero_le _,rfl⟩ (fun z B hI hB=>?_);try dsimp only at hI hB;simp only[zad,zaf]
  have HB:=Box.mk hB
  clear hB
  obtain⟨i,kk⟩:=z
  dsimp only at hI ⊢
  obtain⟨hI,hI1⟩:=hI
  have b1:=hbd i
  rw[←hI1]at b1
  have H1:=Box.mk hI1
  clear hI1
  by_cases hi:(i:Int)<p.h.set.players
  ·have hs:=znj p i
   have hb:=zgu p.h p.dealer p.winner i
   repeat' (first|refine yJT ?_|refine zap inferInstance (hs) yR yT ?_|fail)
   exact DS.back (HB.out (i+1,kk+zef p.h p.dealer p.winner i) _ _ (by dsimp only;omega) ⟨by dsimp only;omega,by dsimp only;rw[H1.out];rfl⟩ yS yS (fun b o e=>by cases e))
  ·have hi2:i=p.h.set.players.toNat:=by omega
   subst hi2
   rw[←H1.out]
   have hu:=yid p kk ok (by omega)
   repeat' (first|refine yJT ?_|refine zap inferInstance (hu) yR yT ?_|refine zan [] yE trivial ?_|fail)
   rfl
 ·rw[if_neg hj]
  repeat' (first|refine yJT ?_|(refine zao (t:=2) yU yE yU ?_;simp only[yS3])|refine zan [] yE trivial ?_|fail)
  all_goals first|rfl|(exfalso;omega)
theorem zxx (p:PayM) (ok:p.Ok) (j:Int):0≤zjh p.h p.points p.dealer p.winner p.from_ p.counters j∧zjh p.h p.points p.dealer p.winner p.from_ p.counters j≤1000000000:=by
 have hb:=zgu p.h p.dealer p.winner j
 have hbd:=znh (f:=fun i:Nat=>zef p.h p.dealer p.winner i) (lo:=0) (hi:=2) (fun i=>zgu _ _ _ _) p.h.set.players.toNat
 have h1:=ok.points
 have h2:=ok.round
 have h3:=ok.players
 have h4:=ok.basic
 have h5:=ok.counter
 have h6:=ok.counters
 have c1:0≤p.h.pay.counter*p.counters:=Int.mul_nonneg h5.1 h6.1
 have c2:p.h.pay.counter*p.counters≤1000000*100:=Int.mul_le_mul h5.2 h6.2 h6.1 (by omega)
 have c3:0≤p.h.pay.counter*p.counters*(p.h.set.players-1):=Int.mul_nonneg c1 (by omega)
 have c4:p.h.pay.counter*p.counters*(p.h.set.players-1)≤1000000*100*3:=Int.mul_le_mul c2 (by omega) (by omega) (by omega)
 unfold zjh
 generalize zef p.h p.dealer p.winner j=s at *
 generalize zpi (fun i:Nat=>zef p.h p.dealer p.winner i) p.h.set.players.toNat=t at *
 have a1:0≤p.points*s:=Int.mul_nonneg h1.1 hb.1
 have a2:p.points*s≤1000000*2:=Int.mul_le_mul h1.2 hb.2 hb.1 (by omega)
 have a3:0≤p.points*t:=Int.mul_nonneg h1.1 (by omega)
 have a4:p.points*t≤1000000*8:=Int.mul_le_mul h1.2 (by omega) (by omega) (by omega)
 have u1:=zvq a1 h2.1
 have u2:=zvq a3 h2.1
 generalize p.h.pay.counter*p.counters*(p.h.set.players-1)=C2 at *
 generalize p.h.pay.counter*p.counters=C1 at *
 generalize upS (p.points*s) p.h.scale.round=U1 at *
 generalize upS (p.points*t) p.h.scale.round=U2 at *
 (repeat' split) <;> omega
theorem yny (p:PayM) (j:Int) (ok:p.Ok):PC Tryz.prog 36 [p.val,I j] (I (zjh p.h p.points p.dealer p.winner p.from_ p.counters j)):=by
 have hs:=znj p j
 have hb:=zgu p.h p.dealer p.winner j
 have hA:=yln p j ok
 have hL:=ypd p j ok
 have hC:=ylk p j ok
 have h1:=ok.points
 have h2:=ok.round
 have h3:=ok.players
 have h4:=ok.basic
 have h5:=ok.counter
 have h6:=ok.counters
 have h7:=ok.mode
 have c1:0≤p.h.pay.counter*p.counters:=Int.mul_nonneg h5.1 h6.1
 have c2:p.h.pay.counter*p.counters≤1000000*100:=Int.mul_le_mul h5.2 h6.2 h6.1 (by omega)
 have c3:0≤p.h.pay.counter*p.counters*(p.h.set.players-1):=Int.mul_nonneg c1 (by omega)
 have c4:p.h.pay.counter*p.counters*(p.h.set.players-1)≤1000000*100*3:=Int.mul_le_mul c2 (by omega) (by omega) (by omega)
 have hbd:=znh (f:=fun i:Nat=>zef p.h p.dealer p.winner i) (lo:=0) (hi:=2) (fun i=>zgu _ _ _ _) p.h.set.players.toNat
 unfold zjh
 generalize zpi (fun i:Nat=>zef p.h p.dealer p.winner i) p.h.set.players.toNat=t at *
 generalize zef p.h p.dealer p.winner j=s at *
 have hu:=yid p s ok (by omega)
 have a1:0≤p.points*s:=Int.mul_nonneg h1.1 hb.1
 have a2:p.points*s≤1000000*2:=Int.mul_le_mul h1.2 hb.2 hb.1 (by omega)
 have a3:0≤p.points*t:=Int.mul_nonneg h1.1 (by omega)
 have a4:p.points*t≤1000000*8:=Int.mul_le_mul h1.2 (by omega) (by omega) (by omega)
 have u1:=zvq a1 h2.1
 have u2:=zvq a3 h2.1
 generalize upS (p.points*s) p.h.scale.round=U1 at *
 generalize upS (p.points*t) p.h.scale.round=U2 at *
 refine DC.of_run Tryz.func36 rfl Tryz.ntmps36 Tryz.results36 (by simp) (fun v0 hk=>?_);simp only[zag,zaj,go_sem,Nat.zero_add,Nat.reduceAdd]
 obtain⟨bm,es,clock,k1,k2,k3⟩:=hk.more
 have h1b:=Box.mk h7
 by_cases hf:p.from_=p.winner
 ·rw[if_pos hf]
  have hf1:=eq_true hf
  clear hf
  by_cases hm:p.h.pay.mode=3
  ·rw[if_pos hm]
   have hm1:=eq_true hm
   clear hm
   repeat' (first|refine yJT ?_|(refine zao (t:=2) yU yE yU ?_;simp only[yS3])|refine zbe (id:=3) [0,1,2,3,4,5] 6 yKR mixed yP1 yP2 ?_|(with_reducible first|refine zau yU yU yU yE ?_|refine zbg ?_)|refine zdf inferInstance (hs) yU yT ?_|refine zdf inferInstance (hu) yU yT ?_|refine zan [] yE trivial ?_|fail)
   all_goals first|rfl|(exfalso;omega)|trace_state
  ·rw[if_neg hm,Int.add_zero]
   repeat' (first|refine yJT ?_|(refine zao (t:=2) yU yE yU ?_;simp only[yS3])|refine zbe (id:=3) [0,1,2,3,4,5] 6 yKR mixed yP1 yP2 ?_|(with_reducible first|refine zau yU yU yU yE ?_|refine zbg ?_)|refine zdf inferInstance (hs) yU yT ?_|refine zdf inferInstance (hu) yU yT ?_|refine zan [] yE trivial ?_|fail)
   all_goals first|rfl|(exfalso;omega)|trace_state
 ·rw[if_neg hf]
  repeat' (first|refine yJT ?_|(refine zao (t:=2) yU yE yU ?_;simp only[yS3])|fail)
  refine yma (m:=1) (by decide) yKR k1 yR ?_
  repeat' (first|refine yJ ?_|fail)
  refine ylz (m:=p.h.pay.mode) (by decide) k2 k3 yH yH h1b.out ?_
  have hmode:p.h.pay.mode=1∨p.h.pay.mode=2∨p.h.pay.mode=3:=by omega
  rcases hmode with hm|hm|hm
  ·rw[if_pos hm,show ybk p.h.pay.mode=166 by rw[hm];rfl]
   clear hm
   by_cases hj:j=p.from_
   ·rw[if_pos hj]at hA
    rw[if_pos hj,if_pos hj]
    have hj1:=eq_true hj
    clear hj
    repeat' (first|refine yJT ?_|refine zby inferInstance yE (hA) yR yT ?_|refine zan [] yE trivial ?_|fail)
    all_goals first|rfl|(exfalso;omega)
   ·rw[if_neg hj]at hA
    rw[if_neg hj,if_neg hj]
    repeat' (first|refine yJT ?_|refine zby inferInstance yE (hA) yR yT ?_|refine zan [] yE trivial ?_|fail)
    all_goals first|rfl|(exfalso;omega)
  ·rw[if_neg (by omega),if_pos hm,show ybk p.h.pay.mode=164 by rw[hm];rfl]
   clear hm
   by_cases hj:j=p.from_
   ·rw[if_pos hj]at hL
    rw[if_pos hj,if_pos hj]
    have hj1:=eq_true hj
    clear hj
    repeat' (first|refine yJT ?_|refine zby inferInstance yE (hL) yR yT ?_|refine zan [] yE trivial ?_|fail)
    all_goals first|rfl|(exfalso;omega)
   ·rw[if_neg hj]at hL
    rw[if_neg hj,if_neg hj,Int.add_zero]
    repeat' (first|refine yJT ?_|refine zby inferInstance yE (hL) yR yT ?_|refine zan [] yE trivial ?_|fail)
    all_goals first|rfl|(exfalso;omega)
  ·rw[if_neg (by omega),if_neg (by omega),show ybk p.h.pay.mode=167 by rw[hm];rfl]
   clear hm
   by_cases hj:j=p.from_
   ·rw[if_pos hj]at hC
    rw[if_pos hj,if_pos hj]
    have hj1:=eq_true hj
    clear hj
    repeat' (first|refine yJT ?_|refine zby inferInstance yE (hC) yR yT ?_|refine zan [] yE trivial ?_|fail)
    all_goals first|rfl|(exfalso;omega)
   ·rw[if_neg hj]at hC
    rw[if_neg hj,if_neg hj,Int.add_zero]
    repeat' (first|refine yJT ?_|refine zby inferInstance yE (hC) yR yT ?_|refine zan [] yE trivial ?_|fail)
    all_goals first|rfl|(exfalso;omega)
end Go.XL
namespace Go.XL
open Go.Proofs
set_option maxRecDepth 100000
set_option maxHeartbeats 8000000
theorem yeh (s:GSet):0≤zcc s∧zcc s≤1000:=by
 by_cases h:zbo s=0
 ·have:=(zcb h).plain
  rw[zcc,if_neg (by omega)];omega
 ·rw[zcc,if_pos h];omega
theorem ybz {s:GSet} {l:List Feed} {i:Nat} (hi:i<l.length):zhd s (l.drop i)=if(l[i].kinds.length:Int)=0 then 6 else if ascS (zcc s) l[i].kinds≠0 then ascS (zcc s) l[i].kinds else if ¬(1≤l[i].many∧l[i].many≤s.melds)then 2 else zhd s (l.drop (i+1)):=by
 rw[List.drop_eq_getElem_cons hi,zhd]
theorem ylc (s:GSet) (l:List Feed):PC Tryz.prog 87 [s.val, .lst (l.map Feed.cells)] (I (if 4<(l.length:Int)then 8 else zhd s l)):=by
 have hk:=zfo s
 have hb:=yeh s
 refine DC.of_run Tryz.func87 rfl Tryz.ntmps87 Tryz.results87 (by simp) (fun _ _=>?_);simp only[zag,zaj,go_sem,Nat.zero_add,Nat.reduceAdd]
 repeat' (first|refine yJ ?_|(with_reducible (refine zax yE ?_;refine zdz (fun _=>?_) (fun _=>?_)))|(refine zao (t:=2) yU yE yU ?_;simp only[yS3])|refine zan [] yE trivial ?_|fail)
 ·rw[if_pos (by omega)];rfl
 rename_i h4
 rw[if_neg (by omega)]
 refine zbp [2,11,12] yN (fun(i:Nat)=> [(13,I i)]) (fun(i:Nat)=>i≤l.length∧zhd s l=zhd s (l.drop i)) (fun(i:Nat)=>l.length-i) 0 yS ⟨Nat.zero_le _,rfl⟩ (fun i B hI hB=>?_);try dsimp only at hI hB;simp only[zad,zaf]
 have HB:=Box.mk hB
 clear hB
 obtain⟨hI,hI2⟩:=hI
 by_cases hi:(i:Int)<(l.length:Int)
 ·have hi':i<l.length:=by omega
  rw[ybz hi']at hI2
  have HI:=Box.mk hI2
  clear hI2
  have hr:=zgk (zcc s) l[i].kinds hb
  by_cases h1:(l[i].kinds.length:Int)=0
  ·repeat' (first|refine yJT ?_|(refine zbt (t:=6) yU yE yU (fun _=>yE) yE yU yV1 (fun _=>yN1) ?_;simp only[go_sem])|refine zan [] yE trivial ?_|fail)
   all_goals first|(rw[HI.out,if_pos h1];rfl)|(exfalso;omega)
  ·by_cases h2:ascS (zcc s) l[i].kinds=0
   ·rw[h2]at hr
    repeat' (first|refine yJ ?_|(with_reducible (refine zax yE ?_;first|refine zfd (fun _=>?_) (fun _=>?_)|refine zay ?_|refine zbl ?_))|(refine zbt (t:=6) yU yE yU (fun _=>yE) yE yU yV1 (fun _=>yN1) ?_;simp only[go_sem])|refine zap inferInstance (hr) yR yT ?_|refine zap inferInstance (zct _ _ _) yR yT ?_|refine zbe (id:=8) [0,1,2,3] 4 yKR mixed yP1 yP2 ?_|(with_reducible first|refine zau yU yU yU yE ?_|refine zbg ?_)|refine zdf inferInstance (hk) yU yT ?_|refine zan [] yE trivial ?_|fail)
    all_goals first
     | (exfalso;omega)
     | (rw[HI.out,if_neg h1,if_neg (by omega),if_pos (by omega)];rfl)
     | exact DS.back (HB.out (i+1) _ _ (by omega) ⟨by omega,by rw[HI.out,if_neg h1,if_neg (by omega),if_neg (by omega)]⟩ yS yS (fun b o e=>by cases e))
   ·repeat' (first|refine yJT ?_|(refine zbt (t:=6) yU yE yU (fun _=>yE) yE yU yV1 (fun _=>yN1) ?_;simp only[go_sem])|refine zap inferInstance (hr) yR yT ?_|refine zbe (id:=8) [0,1,2,3] 4 yKR mixed yP1 yP2 ?_|(with_reducible first|refine zau yU yU yU yE ?_|refine zbg ?_)|refine zdf inferInstance (hk) yU yT ?_|refine zan [] yE trivial ?_|fail)
    all_goals first|(rw[HI.out,if_neg h1,if_pos h2];rfl)|(exfalso;omega)
 ·repeat' (first|refine yJT ?_|refine zan [] yE trivial ?_|fail)
  rw[hI2,zew hi];rfl
theorem ydl {l:List Int} (h:ziz l=true): ∀x∈l,-1000000≤x∧x≤1000000:=fun x hx=>by
 simp only[ziz,List.all_eq_true]at h
 have:=h x hx
 simpa using this
theorem yqh (s:GSet) (p:Pay):PC Tryz.prog 58 [s.val,p.val] (I (payS s p)):=by
 have hc:=zfp s
 by_cases h0:zbo s=0
 ·have hpl:=(zcb h0).players
  rw[h0]at hc
  have hf:=ylc s p.feeds
  have ha1:=zwi 0 1000000 [p.basic,p.counter,p.stick,p.pool,p.foul,p.start]
  have ha2:=zwi (-1000000) 1000000 p.places
  have e1:([p.basic,p.counter,p.stick,p.pool,p.foul,p.start].all fun n=>decide (0≤n∧n≤1000000))=(ptB p.basic&&ptB p.counter&&ptB p.stick&&ptB p.pool&&ptB p.foul&&ptB p.start):=by
   simp[ptB,Bool.and_assoc]
  have e2:(p.places.all fun n=>decide (-1000000≤n∧n≤1000000))=ziz p.places:=rfl
  rw[e1]at ha1
  rw[e2]at ha2
  clear e1 e2
  have hpay:payS s p=if ¬(1≤p.mode∧p.mode≤3)then 4 else
   if(ptB p.basic&&ptB p.counter&&ptB p.stick&&ptB p.pool&&ptB p.foul&&ptB p.start)=false then 2 else if p.pool % 6≠0 then 2 else if ¬(1≤p.rounds∧p.rounds≤16)then 2 else if ¬(0≤p.stay∧p.stay≤7)then 2 else
   if 0<(p.places.length:Int)∧(p.places.length:Int)≠s.players then 3 else if ziz p.places=false then 2 else if sumI p.places≠0 then 12 else
   if 4<(p.feeds.length:Int)then 8 else zhd s p.feeds:=by rw[payS,if_neg (by omega)]
  have hpool:(ptB p.basic&&ptB p.counter&&ptB p.stick&&ptB p.pool&&ptB p.foul&&ptB p.start)=true→0≤p.pool:=by
   simp only[ptB,Bool.and_eq_true,decide_eq_true_eq];omega
  have hin:=fun h=>ydl (l:=p.places) h
  generalize (ptB p.basic&&ptB p.counter&&ptB p.stick&&ptB p.pool&&ptB p.foul&&ptB p.start)=B1 at *
  generalize ziz p.places=B2 at *
  rw[hpay]
  clear hpay
  by_cases hm:1≤p.mode∧p.mode≤3
  ·rw[if_neg (by omega)]
   cases B1 with
   | false =>
    rw[if_pos rfl]
    refine DC.of_run Tryz.func58 rfl Tryz.ntmps58 Tryz.results58 (by simp) (fun _ _=>?_);simp only[zag,zaj,go_sem,Nat.zero_add,Nat.reduceAdd]
    repeat' (first|refine yJT ?_|(refine zbw yU yE yE ?_;simp only[go_sem,Nat.zero_add,Nat.reduceAdd])|refine zap inferInstance (hc) yR yF ?_|refine zap inferInstance (zct _ _ _) yR yF ?_|refine zap inferInstance (ha1) yR yF ?_|(refine zao (t:=2) yU yE yU ?_;simp only[yS3])|(refine zao (t:=3) yU yE yU ?_;simp only[yS3])|refine zan [] yE trivial ?_|fail)
    all_goals first|rfl|(exfalso;omega)
   | true =>
    rw[if_neg (by decide)]
    have ht:p.pool.tmod 6=p.pool % 6:=Int.tmod_eq_emod_of_nonneg (hpool rfl)
    have ht2:=Int.emod_nonneg p.pool (show(6:Int)≠0 by decide)
    clear hpool
    by_cases hx:p.pool % 6=0∧(1≤p.rounds∧p.rounds≤16)∧(0≤p.stay∧p.stay≤7)
    ·obtain⟨hx1,hx2,hx3⟩:=hx
     rw[if_neg (by omega),if_neg (by omega),if_neg (by omega)]
     have ht3: ¬(0:Int)<p.pool % 6:=by omega
     clear hx1 ht2
     by_cases hx4:0<(p.places.length:Int)∧(p.places.length:Int)≠s.players
     ·rw[if_pos hx4]
      obtain⟨hx5,hx6⟩:=hx4
      refine DC.of_run Tryz.func58 rfl Tryz.ntmps58 Tryz.results58 (by simp) (fun _ _=>?_);simp only[zag,zaj,go_sem,Nat.zero_add,Nat.reduceAdd]
      repeat' (first|refine yJT ?_|(refine zbw yU yE yE ?_;simp only[go_sem,Nat.zero_add,Nat.reduceAdd])|refine zap inferInstance (hc) yR yF ?_|refine zap inferInstance (zct _ _ _) yR yF ?_|refine zap inferInstance (ha1) yR yF ?_|(refine zao (t:=2) yU yE yU ?_;simp only[yS3])|(refine zao (t:=3) yU yE yU ?_;simp only[yS3])|refine zan [] yE trivial ?_|fail)
      all_goals first|rfl|(exfalso;omega)
     ·rw[if_neg hx4]
      cases B2 with
      | false =>
       rw[if_pos rfl]
       refine DC.of_run Tryz.func58 rfl Tryz.ntmps58 Tryz.results58 (by simp) (fun _ _=>?_);simp only[zag,zaj,go_sem,Nat.zero_add,Nat.reduceAdd]
       repeat' (first|refine yJ ?_|(with_reducible first|(refine zax yE ?_;first|refine zfd (fun _=>?_) (fun _=>?_)|refine zay ?_|refine zbl ?_)|(refine zbi yU yE ?_;first|refine zfb (fun _=>?_) (fun _=>?_)|refine GG.run ?_|refine zcl ?_))|(refine zbw yU yE yE ?_;simp only[go_sem,Nat.zero_add,Nat.reduceAdd])|refine zap inferInstance (hc) yR yF ?_|refine zap inferInstance (zct _ _ _) yR yF ?_|refine zap inferInstance (ha1) yR yF ?_|refine zap inferInstance (ha2) yR yF ?_|(refine zao (t:=2) yU yE yU ?_;simp only[yS3])|(refine zao (t:=3) yU yE yU ?_;simp only[yS3])|refine zan [] yE trivial ?_|fail)
       all_goals first|rfl|(exfalso;omega)
      | true =>
       rw[if_neg (by decide)]
       have hin:=hin rfl
       have hl:(p.places.length:Int)≤4:=by omega
       have hx5:=Box.mk hx4
       clear hx4
       refine DC.of_run Tryz.func58 rfl Tryz.ntmps58 Tryz.results58 (by simp) (fun _ _=>?_);simp only[zag,zaj,go_sem,Nat.zero_add,Nat.reduceAdd]
       repeat' (first|refine yJ ?_|(with_reducible first|(refine zax yE ?_;first|refine zfd (fun _=>?_) (fun _=>?_)|refine zbl ?_)|(refine zbi yU yE ?_;first|refine zfb (fun _=>?_) (fun _=>?_)|refine GG.run ?_|refine zcl ?_))|(refine zbw yU yE yE ?_;simp only[go_sem,Nat.zero_add,Nat.reduceAdd])|refine zap inferInstance (hc) yR yF ?_|refine zap inferInstance (zct _ _ _) yR yF ?_|refine zap inferInstance (ha1) yR yF ?_|refine zap inferInstance (ha2) yR yF ?_|(refine zao (t:=2) yU yE yU ?_;simp only[yS3])|(refine zao (t:=3) yU yE yU ?_;simp only[yS3])|refine zan [] yE trivial ?_|fail)
       all_goals try (exfalso;have:=hx5.out;omega)
       ·refine zbp [2,3,68,69] yN (fun(z:Nat×Int)=> [(6,I z.2),(70,I z.1)]) (fun(z:Nat×Int)=>z.1≤p.places.length∧z.2=sumI (p.places.take z.1)) (fun(z:Nat×Int)=>p.places.length-z.1) (0,0) yS ⟨Nat.zero_le _,rfl⟩ (fun z B hI hB=>?_);try dsimp only at hI hB;simp only[zad,zaf]
        have HB:=Box.mk hB
        clear hB
        obtain⟨i,kk⟩:=z
        dsimp only at hI ⊢
        obtain⟨hI,hI1⟩:=hI
        have hbd:=zvr (l:=p.places.take i) (lo := -1000000) (hi:=1000000) fun x hx=>hin x (List.mem_of_mem_take hx)
        rw[List.length_take,Nat.min_eq_left hI,←hI1]at hbd
        have H1:=Box.mk hI1
        clear hI1
        by_cases hi:(i:Int)<s.players
        ·have hi':i<p.places.length:=by omega
         have hx:=hin _ (List.getElem_mem hi')
         have e:=zel hi'
         have H2:=Box.mk e
         clear e
         repeat' (first|refine yJT ?_|fail)
         exact DS.back (HB.out (i+1,kk+p.places[i]) _ _ (by dsimp only;omega) ⟨by dsimp only;omega,by dsimp only;rw[H2.out,H1.out]⟩ yS yS (fun b o e=>by cases e))
        ·have e:kk=sumI p.places:=by rw[H1.out,List.take_of_length_le (by omega)]
         rw[←e]
         clear e
         repeat' (first|refine yJ ?_|(with_reducible (refine zax yE ?_;first|refine zfd (fun _=>?_) (fun _=>?_)|refine zbl ?_))|refine zap inferInstance (hf) yR yT ?_|refine zan [] yE trivial ?_|fail)
         all_goals first
          | (rw[if_pos (show kk≠0 by omega)];rfl)
          | (rw[if_neg (show ¬kk≠0 by omega)];first|rfl|(rw[if_pos (by omega)];rfl)|(rw[if_neg (by omega)];rfl))
       ·refine zbp [2,3,68,69] yN (fun(z:Nat×Int)=> [(6,I z.2),(70,I z.1)]) (fun(z:Nat×Int)=>z.1≤p.places.length∧z.2=sumI (p.places.take z.1)) (fun(z:Nat×Int)=>p.places.length-z.1) (0,0) yS ⟨Nat.zero_le _,rfl⟩ (fun z B hI hB=>?_);try dsimp only at hI hB;simp only[zad,zaf]
        have HB:=Box.mk hB
        clear hB
        obtain⟨i,kk⟩:=z
        dsimp only at hI ⊢
        obtain⟨hI,hI1⟩:=hI
        have hbd:=zvr (l:=p.places.take i) (lo := -1000000) (hi:=1000000) fun x hx=>hin x (List.mem_of_mem_take hx)
        rw[List.length_take,Nat.min_eq_left hI,←hI1]at hbd
        have H1:=Box.mk hI1
        clear hI1
        by_cases hi:(i:Int)<(p.places.length:Int)
        ·exfalso;omega
        ·have e:kk=sumI p.places:=by rw[H1.out,List.take_of_length_le (by omega)]
         rw[←e]
         clear e
         repeat' (first|refine yJ ?_|(with_reducible (refine zax yE ?_;first|refine zfd (fun _=>?_) (fun _=>?_)|refine zbl ?_))|refine zap inferInstance (hf) yR yT ?_|refine zan [] yE trivial ?_|fail)
         all_goals first
          | (rw[if_pos (show kk≠0 by omega)];rfl)
          | (rw[if_neg (show ¬kk≠0 by omega)];first|rfl|(rw[if_pos (by omega)];rfl)|(rw[if_neg (by omega)];rfl))
    ·have e:(if p.pool % 6≠0 then(2:Int)else if ¬(1≤p.rounds∧p.rounds≤16)then 2 else if ¬(0≤p.stay∧p.stay≤7)then 2 else
   if 0<(p.places.length:Int)∧(p.places.length:Int)≠s.players then 3 else if B2=false then 2 else if sumI p.places≠0 then 12 else
   if 4<(p.feeds.length:Int)then 8 else zhd s p.feeds)=2:=by
      by_cases a1:p.pool % 6=0
      ·by_cases a2:1≤p.rounds∧p.rounds≤16
       ·rw[if_neg (by omega),if_neg (by omega),if_pos (by omega)]
       ·rw[if_neg (by omega),if_pos (by omega)]
      ·rw[if_pos a1]
     rw[e]
     refine DC.of_run Tryz.func58 rfl Tryz.ntmps58 Tryz.results58 (by simp) (fun _ _=>?_);simp only[zag,zaj,go_sem,Nat.zero_add,Nat.reduceAdd]
     repeat' (first|refine yJ ?_|(with_reducible first|(refine zax yE ?_;first|refine zfd (fun _=>?_) (fun _=>?_)|refine zay ?_|refine zbl ?_|refine ycs (fun _=>?_) (fun _=>?_))|(refine zbi yU yE ?_;first|refine zix (fun _=>?_) (fun _=>?_)|refine zfb (fun _=>?_) (fun _=>?_)|refine zex (fun _=>?_) (fun _=>?_)|refine GG.run ?_|refine zcl ?_|refine zcv ?_))|(refine zbw yU yE yE ?_;simp only[go_sem,Nat.zero_add,Nat.reduceAdd])|refine zap inferInstance (hc) yR yF ?_|refine zap inferInstance (zct _ _ _) yR yF ?_|refine zap inferInstance (ha1) yR yF ?_|refine zap inferInstance (ha2) yR yF ?_|(refine zao (t:=2) yU yE yU ?_;simp only[yS3])|(refine zao (t:=3) yU yE yU ?_;simp only[yS3])|refine zan [] yE trivial ?_|fail)
     all_goals first|rfl|(exfalso;omega)
  ·rw[if_pos hm]
   refine DC.of_run Tryz.func58 rfl Tryz.ntmps58 Tryz.results58 (by simp) (fun _ _=>?_);simp only[zag,zaj,go_sem,Nat.zero_add,Nat.reduceAdd]
   repeat' (first|refine yJT ?_|refine zap inferInstance (hc) yR yF ?_|refine zap inferInstance (zct _ _ _) yR yF ?_|(refine zao (t:=2) yU yE yU ?_;simp only[yS3])|(refine zao (t:=3) yU yE yU ?_;simp only[yS3])|refine zan [] yE trivial ?_|fail)
   all_goals first|rfl|(exfalso;omega)
 ·rw[payS,if_pos h0]
  refine DC.of_run Tryz.func58 rfl Tryz.ntmps58 Tryz.results58 (by simp) (fun _ _=>?_);simp only[zag,zaj,go_sem,Nat.zero_add,Nat.reduceAdd]
  repeat' (first|refine yJT ?_|refine zap inferInstance (hc) yR yT ?_|(refine zao (t:=2) yU yE yU ?_;simp only[yS3])|(refine zao (t:=3) yU yE yU ?_;simp only[yS3])|refine zan [] yE trivial ?_|fail)
  all_goals first|rfl|(exfalso;omega)
def rowP (p:Play) (j:Nat):Int×Int×Int:= [(p.heads,1,3),(p.last,0,144),(p.rob,0,2),(p.kongs,0,16),(p.nines,0,34),(p.time,1,1000),(p.foul,1,2),(p.indicators,0,5)].getD j (0,0,0)
abbrev tabP (p:Play):List V:= [I p.heads,I 1,I 3,I p.last,I 0,I 144,I p.rob,I 0,I 2,I p.kongs,I 0,I 16,I p.nines,I 0,I 34,I p.time,I 1,I 1000,I p.foul,I 1,I 2,I p.indicators,I 0,I 5]
theorem yig (p:Play): ∀(j:Nat),j<8→(((tabP p).drop ((j:Int).toNat*3)).take 3).map V.peek= [I (rowP p j).1,I (rowP p j).2.1,I (rowP p j).2.2]
 | 0,_=>rfl
 | 1,_=>rfl
 | 2,_=>rfl
 | 3,_=>rfl
 | 4,_=>rfl
 | 5,_=>rfl
 | 6,_=>rfl
 | 7,_=>rfl
 | _+8,h=>by omega
theorem yir {s:GSet} {p:Play} (h0:zbo s=0) :
  (∀j,j<8→(rowP p j).2.1≤(rowP p j).1∧(rowP p j).1≤(rowP p j).2.2)∨zlc s p=2:=by
 rw[zlc,if_neg (by omega)]
 by_cases a1:1≤p.heads∧p.heads≤3
 ·rw[if_neg (by omega)]
  by_cases a2:0≤p.last∧p.last≤144
  ·rw[if_neg (by omega)]
   by_cases a3:0≤p.rob∧p.rob≤2
   ·rw[if_neg (by omega)]
    by_cases a4:0≤p.kongs∧p.kongs≤16
    ·rw[if_neg (by omega)]
     by_cases a5:0≤p.nines∧p.nines≤34
     ·rw[if_neg (by omega)]
      by_cases a6:1≤p.time∧p.time≤1000
      ·rw[if_neg (by omega)]
       by_cases a7:1≤p.foul∧p.foul≤2
       ·rw[if_neg (by omega)]
        by_cases a8:0≤p.indicators∧p.indicators≤5
        ·refine .inl fun j hj=>?_
         match j,hj with
         | 0,_=>exact a1
         | 1,_=>exact a2
         | 2,_=>exact a3
         | 3,_=>exact a4
         | 4,_=>exact a5
         | 5,_=>exact a6
         | 6,_=>exact a7
         | 7,_=>exact a8
        ·right;rw[if_pos a8]
       ·right;rw[if_pos a7]
      ·right;rw[if_pos a6]
     ·right;rw[if_pos a5]
    ·right;rw[if_pos a4]
   ·right;rw[if_pos a3]
  ·right;rw[if_pos a2]
 ·right;rw[if_pos a1]
theorem ynt {s:GSet} {p:Play} (h0:zbo s=0) (h: ∀j,j<8→(rowP p j).2.1≤(rowP p j).1∧(rowP p j).1≤(rowP p j).2.2):zlc s p=if 2*p.indicators > s.dead then 6 else 0:=by
 have a1:1≤p.heads∧p.heads≤3:=h 0 (by omega)
 have a2:0≤p.last∧p.last≤144:=h 1 (by omega)
 have a3:0≤p.rob∧p.rob≤2:=h 2 (by omega)
 have a4:0≤p.kongs∧p.kongs≤16:=h 3 (by omega)
 have a5:0≤p.nines∧p.nines≤34:=h 4 (by omega)
 have a6:1≤p.time∧p.time≤1000:=h 5 (by omega)
 have a7:1≤p.foul∧p.foul≤2:=h 6 (by omega)
 have a8:0≤p.indicators∧p.indicators≤5:=h 7 (by omega)
 rw[zlc,if_neg (by omega),if_neg (by omega),if_neg (by omega),if_neg (by omega),if_neg (by omega),if_neg (by omega),if_neg (by omega),if_neg (by omega),if_neg (by omega)]
theorem yns (s:GSet) (p:Play):PC Tryz.prog 60 [s.val,p.val] (I (zlc s p)):=by
 have hc:=zfp s
 by_cases h0:zbo s=0
 ·rw[h0]at hc
  have HT:=Box.mk (And.intro (yir (p:=p) h0) (ynt (p:=p) h0))
  refine DC.of_run Tryz.func60 rfl Tryz.ntmps60 Tryz.results60 (by simp) (fun _ _=>?_);simp only[zag,zaj,go_sem,Nat.zero_add,Nat.reduceAdd]
  repeat' (first|refine yJT ?_|refine zap inferInstance (hc) yR yT ?_|(refine zao (t:=2) yU yE yU ?_;simp only[yS3])|(refine zao (t:=3) yU yE yU ?_;simp only[yS3])|fail)
  refine zbp [2,3,37] yN (fun(j:Nat)=> [(38,I j)]) (fun(j:Nat)=>j≤8∧ ∀m,m<j→(rowP p m).2.1≤(rowP p m).1∧(rowP p m).1≤(rowP p m).2.2) (fun(j:Nat)=>8-j) 0 yS ⟨Nat.zero_le _,fun m h=>by omega⟩ (fun j B hI hB=>?_);try dsimp only at hI hB;simp only[zad,zaf]
  obtain⟨hJ,hJ2⟩:=hI
  have HJ:=Box.mk (And.intro hJ2 hB)
  clear hJ2 hB
  by_cases hj:(j:Int)<8
  ·repeat' (first|refine yJT ?_|fail)
   refine zvl (e:=166) (m:=3) (c:=tabP p) (by decide) yKR yKR yH yH (Int.natCast_nonneg _) hj (by show(j:Int).toNat*3+3≤24;omega) ?_
   rw[yig p j (by omega)]
   generalize hq:rowP p j=q at *
   obtain⟨x,lo,hi2⟩:=q
   dsimp only
   by_cases hok:lo≤x∧x≤hi2
   ·repeat' (first|refine yJT ?_|(refine zbt (t:=7) yU yE yU (fun _=>yE) yE yU yV1 (fun _=>yN1) ?_;simp only[go_sem])|refine zap inferInstance (zct _ _ _) yR yT ?_|fail)
    all_goals first
     | exact DS.back (HJ.out.2 (j+1) _ _ (by omega) ⟨by omega,fun m hm=>if h:m=j then(by subst h;rw[hq];exact hok)else HJ.out.1 m (by omega)⟩ yS yS (fun b o e=>by cases e))
     | (exfalso;omega)
   ·have e:zlc s p=2:=HT.out.1.resolve_left fun h=>hok (by have:=h j (by omega);rw[hq]at this;exact this)
    rw[e]
    repeat' (first|refine yJT ?_|(refine zbt (t:=7) yU yE yU (fun _=>yE) yE yU yV1 (fun _=>yN1) ?_;simp only[go_sem])|refine zap inferInstance (zct _ _ _) yR yT ?_|refine zan [] yE trivial ?_|fail)
    all_goals first|rfl|(exfalso;omega)
  ·have h4: ∀j,j<8→(rowP p j).2.1≤(rowP p j).1∧(rowP p j).1≤(rowP p j).2.2:=fun m hm=>HJ.out.1 m (by omega)
   have e:=HT.out.2 h4
   have a8:0≤p.indicators∧p.indicators≤5:=h4 7 (by omega)
   rw[e]
   clear HT HJ e h4
   repeat' (first|refine yJ ?_|(with_reducible (refine zax yE ?_;first|refine zdz (fun _=>?_) (fun _=>?_)|refine zbl ?_))|refine zan [] yE trivial ?_|fail)
   ·rw[if_pos (by omega)];rfl
   ·rw[if_neg (by omega)];rfl
 ·rw[zlc,if_pos h0]
  refine DC.of_run Tryz.func60 rfl Tryz.ntmps60 Tryz.results60 (by simp) (fun _ _=>?_);simp only[zag,zaj,go_sem,Nat.zero_add,Nat.reduceAdd]
  repeat' (first|refine yJT ?_|refine zap inferInstance (hc) yR yT ?_|(refine zao (t:=2) yU yE yU ?_;simp only[yS3])|(refine zao (t:=3) yU yE yU ?_;simp only[yS3])|refine zan [] yE trivial ?_|fail)
  all_goals first|rfl|(exfalso;omega)
end Go.XL
namespace Go.Proofs
open Go.Shelf
def Tryz.lays160_ren :Go.Shelf.Ren:=⟨fun|160=>106|232=>123|231=>122|227=>124|234=>126|233=>125|236=>128|235=>127|228=>133|271=>136|151=>135|197=>134|120=>140|152=>139|260=>138|137=>141|119=>142|224=>143|225=>144|217=>145|266=>146|n=>n,fun|9=>9|4=>4|3=>3|5=>5|117=>197|116=>196|0=>0|124=>200|21=>21|105=>203|46=>92|119=>209|139=>212|138=>211|n=>n,fun|3=>2|4=>3|n=>n⟩
theorem Tryz.lays160 :Go.Proofs.Lays.n160 Tryz.prog Tryz.lays160_ren:={
 mixed:=by kernel_rfl
 f119:=Tryz.func142.trans (congrArg some (by kernel_rfl))
 f120:=Tryz.func140.trans (congrArg some (by kernel_rfl))
 f137:=Tryz.func141.trans (congrArg some (by kernel_rfl))
 f151:=Tryz.func135.trans (congrArg some (by kernel_rfl))
 f152:=Tryz.func139.trans (congrArg some (by kernel_rfl))
 f160:=Tryz.func106.trans (congrArg some (by kernel_rfl))
 f197:=Tryz.func134.trans (congrArg some (by kernel_rfl))
 f217:=Tryz.func145.trans (congrArg some (by kernel_rfl))
 f224:=Tryz.func143.trans (congrArg some (by kernel_rfl))
 f225:=Tryz.func144.trans (congrArg some (by kernel_rfl))
 f227:=Tryz.func124.trans (congrArg some (by kernel_rfl))
 f228:=Tryz.func133.trans (congrArg some (by kernel_rfl))
 f231:=Tryz.func122.trans (congrArg some (by kernel_rfl))
 f232:=Tryz.func123.trans (congrArg some (by kernel_rfl))
 f233:=Tryz.func125.trans (congrArg some (by kernel_rfl))
 f234:=Tryz.func126.trans (congrArg some (by kernel_rfl))
 f235:=Tryz.func127.trans (congrArg some (by kernel_rfl))
 f236:=Tryz.func128.trans (congrArg some (by kernel_rfl))
 f260:=Tryz.func138.trans (congrArg some (by kernel_rfl))
 f266:=Tryz.func146.trans (congrArg some (by kernel_rfl))
 f271:=Tryz.func136.trans (congrArg some (by kernel_rfl))
 t0:=Tryz.underlying0
 a0:=Tryz.isAgg0
 z0:=Tryz.sizeOf0
 v0:=Tryz.zeroValue0
 t3:=Tryz.underlying3
 a3:=Tryz.isAgg3
 z3:=Tryz.sizeOf3
 v3:=Tryz.zeroValue3
 t4:=Tryz.underlying4
 a4:=Tryz.isAgg4
 z4:=Tryz.sizeOf4
 v4:=Tryz.zeroValue4
 t5:=Tryz.underlying5
 a5:=Tryz.isAgg5
 z5:=Tryz.sizeOf5
 v5:=Tryz.zeroValue5
 t9:=Tryz.underlying9
 a9:=Tryz.isAgg9
 z9:=Tryz.sizeOf9
 v9:=Tryz.zeroValue9
 t21:=Tryz.underlying21
 a21:=Tryz.isAgg21
 z21:=Tryz.sizeOf21
 v21:=Tryz.zeroValue21
 t46:=Tryz.underlying92
 a46:=Tryz.isAgg92
 z46:=Tryz.sizeOf92
 v46:=Tryz.zeroValue92
 t105:=Tryz.underlying203
 a105:=Tryz.isAgg203
 z105:=Tryz.sizeOf203
 v105:=Tryz.zeroValue203
 t116:=Tryz.underlying196
 a116:=Tryz.isAgg196
 z116:=Tryz.sizeOf196
 t117:=Tryz.underlying197
 a117:=Tryz.isAgg197
 z117:=Tryz.sizeOf197
 v117:=Tryz.zeroValue197
 t119:=Tryz.underlying209
 a119:=Tryz.isAgg209
 z119:=Tryz.sizeOf209
 t124:=Tryz.underlying200
 a124:=Tryz.isAgg200
 z124:=Tryz.sizeOf200
 v124:=Tryz.zeroValue200
 t138:=Tryz.underlying211
 a138:=Tryz.isAgg211
 z138:=Tryz.sizeOf211
 v138:=Tryz.zeroValue211
 t139:=Tryz.underlying212
 a139:=Tryz.isAgg212
 z139:=Tryz.sizeOf212
 v139:=Tryz.zeroValue212
 g3:=by kernel_rfl
 g4:=by kernel_rfl}
end Go.Proofs
namespace Go.XL
open Go.Proofs
set_option maxRecDepth 100000
set_option maxHeartbeats 4000000
theorem zqz {hv:VH}: ∀{cs ys:List Value},RlL hv (cs.map V.v) ys→ys=cs
 | [],ys,h=>by simpa only[List.map_nil,RlL] using h
 | c::r,ys,h=>by
  simp only[List.map_cons,RlL]at h
  obtain⟨z,zs,rfl,h1,h2⟩:=h
  simp only[V.Rl]at h1
  rw[h1,zqz h2]
theorem PC.of_below {P:Program} {f:FuncId} {xs:List Value} {y:Value} (h: ∀w:World,Calls P f xs.toArray w fun e w'=>e = .returned y∧Go.RowKit.Below w.heap.size w w'):PC P f (xs.map V.v) (.v y):=by
 intro v0 K hv hold h0 ys hp hr s w hw
 obtain rfl:=zqz hr
 subst hw
 refine(h w).mono fun e w' ⟨he,hb⟩=>⟨y,he,⟨hb.os,hb.tape,hb.output⟩, .v y,[],hv,hold,PreV.refl hv,⟨fun b o e=>?_,fun t v e=>?_,fun b o e=>(by cases e),s.held,⟨s.base.1,Nat.le_trans s.base.2.1 hb.size,fun b hB=>?_⟩,s.vbase⟩,rfl⟩
 ·obtain⟨o',h1,h2⟩:=s.pre b o e
  exact⟨o',by rw[hb.block b (Array.getElem?_eq_some_iff.1 h1).1];exact h1,h2⟩
 ·simp only[zbr]at e
  split at e
  ·rename_i h1
   subst h1
   cases e
   exact⟨y,by simp[look],V.Rl_v,trivial⟩
  ·cases e
 ·rw[hb.block b (Nat.lt_of_lt_of_le (s.base.1 b hB) s.base.2.1)]
  exact s.base.2.2 b hB
def nameL :List UInt8:= [97,98,99,100,101,102,103,104,105,106,107,108,109,110,111,112,113,114,115,116,117,118,119,120,121,122,48,49,50,51,52,53,54,55,56,57,45]
theorem yiz (c:UInt8):nameL.contains c=znc c:=by
 have h: ∀n:_root_.Fin 256,nameL.contains (UInt8.ofNat n.val)=znc (UInt8.ofNat n.val):=by decide
 have:=h ⟨c.toNat,c.toNat_lt⟩
 simpa using this
theorem dropW_nil {p:UInt8→Bool}: ∀{l:List UInt8},l.dropWhile p= []↔l.all p=true
 | []=>by simp
 | a::l=>by
  rw[List.dropWhile_cons,List.all_cons]
  cases h:p a with
  | true=>simp[dropW_nil]
  | false=>simp
theorem yie (l:List UInt8):Lib.trimS l nameL= []↔l.all znc=true:=by
 have e:(fun c:UInt8=>nameL.contains c)=znc:=funext yiz
 have h1:Lib.trimS l nameL=(Lib.trimRightS l nameL).dropWhile znc:=by rw[Lib.trimS,Lib.trimLeftS];rw[e]
 have h2:Lib.trimRightS l nameL=(l.reverse.dropWhile znc).reverse:=by rw[Lib.trimRightS];rw[e]
 rw[h1,dropW_nil,h2,List.all_reverse]
 constructor
 ·intro h
  have h3:l.reverse.dropWhile znc= []:=by
   cases hd:l.reverse.dropWhile znc with
   | nil=>rfl
   | cons a r =>
    have h4:=List.head?_dropWhile_not znc l.reverse
    rw[hd]at h4 h
    simp only[List.head?_cons,List.all_cons,Bool.and_eq_true]at h4 h
    rw[h.1]at h4
    simp at h4
  have h5:=dropW_nil.1 h3
  rwa [List.all_reverse]at h5
 ·intro h
  have h3:l.reverse.dropWhile znc= []:=dropW_nil.2 (by rw[List.all_reverse];exact h)
  rw[h3];rfl
theorem ynd (s:ByteArray) (hs:s.size≤9223372036854775807):PC Tryz.prog 106 [St8 s,St8 ⟨nameL.toArray⟩] (St8 ⟨(Lib.trimS s.data.toList nameL).toArray⟩) :=
 PC.of_below (xs:= [.string s, .string ⟨nameL.toArray⟩]) fun w=>Any.strings_Trim_laid Tryz.lays160 yKR s ⟨nameL.toArray⟩ w hs (by decide) (ascii_of_all (by decide))
theorem yiy (s:ByteArray):PC Tryz.prog 80 [St8 s] (Bo (zlg s)):=by
 refine DC.of_run Tryz.func80 rfl Tryz.ntmps80 Tryz.results80 (by simp) (fun _ _=>?_);simp only[zag,zaj,go_sem,Nat.zero_add,Nat.reduceAdd]
 by_cases h:1≤(s.size:Int)∧(s.size:Int)≤24
 ·have ht:=ynd s (by omega)
  repeat' (first|refine yJT ?_|refine zap inferInstance (zct _ _ _) yR yT ?_|refine zap inferInstance (ht) yR yT ?_|refine zan [] yE trivial ?_|fail)
  have e:zlg s=s.data.toList.all znc:=by simp[zlg,h]
  have h2:=yie s.data.toList
  rw[e]
  simp only[tupV,ByteArray.mk.injEq]
  congr 2
  rw[Bool.eq_iff_iff,decide_eq_true_eq,←h2]
  constructor
  ·intro h3
   have:=congrArg Array.toList h3
   simpa using this
  ·intro h3;rw[h3]
 ·have e:zlg s=false:=by simp[zlg,h]
  rw[e]
  repeat' (first|refine yJT ?_|refine zap inferInstance (zct _ _ _) yR yT ?_|refine zan [] yE trivial ?_|fail)
  all_goals first|rfl|(exfalso;omega)
end Go.XL
namespace Go.XL
open Go.Proofs
set_option maxRecDepth 100000
set_option maxHeartbeats 8000000
theorem zsd (l:List Pattern) {g:FuncId} {fs cs:List V} {fn:Func} (p:Pattern→Bool) (hf:FnOk Tryz.prog g fn) (h: ∀m:Pattern,PC Tryz.prog g (fs++ [m.val]++cs) (Bo (p m))) :
  PC Tryz.prog 107 [ydo l, .fn g fs cs] (I (idxF p l 0)):=by
 refine DC.of_run Tryz.func107 rfl Tryz.ntmps107 Tryz.results107 (by simp) (fun _ _=>?_);simp only[zag,zaj,go_sem,Nat.zero_add,Nat.reduceAdd]
 refine zgz (t:=0) yG (.inl rfl) (fun hb0=>?_);simp only[List.length_map]at hb0
 repeat' (first|refine yJ ?_|fail)
 refine zbp [0,1,7] yN (fun(i:Nat)=> [(8,I i)]) (fun(i:Nat)=>i≤l.length∧idxF p l 0=idxF p (l.drop i) i) (fun(i:Nat)=>l.length-i) 0 yS (by simp) (fun i B hI hB=>?_);try dsimp only at hI hB;simp only[zad,zaf]
 have HB:=Box.mk hB
 clear hB
 by_cases hi:(i:Int)<(l.length:Int)
 ·have hi':i<l.length:=by omega
  cases hp:p l[i]with
  | true =>
   have:=zyl (p:=p) (l:=l) (i:=i) hi' hp
   repeat' (first|refine yJT ?_|fail)
   refine zby hf (by simp (disch:=omega) only[go_sem,dopV,yV0,↓reduceIte,Nat.reduceEqDiff,Nat.reduceLT,Nat.reduceLeDiff,Nat.reduceAdd,Nat.reduceMul,Nat.reduceSub,Int.reduceToNat,Int.reduceLT,Int.reduceLE,Int.reduceEq,IntWalk.toNatUp,IntWalk.iteOmega,IntWalk.i64_in,V.flat,V.one]) (h l[i]) yR yH ?_
   repeat' (first|refine yJT ?_|refine zan [] yE trivial ?_|fail)
   rw[hI.2,this];rfl
  | false =>
   repeat' (first|refine yJT ?_|fail)
   refine zby hf (by simp (disch:=omega) only[go_sem,dopV,yV0,↓reduceIte,Nat.reduceEqDiff,Nat.reduceLT,Nat.reduceLeDiff,Nat.reduceAdd,Nat.reduceMul,Nat.reduceSub,Int.reduceToNat,Int.reduceLT,Int.reduceLE,Int.reduceEq,IntWalk.toNatUp,IntWalk.iteOmega,IntWalk.i64_in,V.flat,V.one]) (h l[i]) yR yH ?_
   repeat' (first|refine yJT ?_|fail)
   refine DS.back (HB.out (i+1) _ _ (by omega) ⟨by omega,by rw[hI.2,ztz hi' hp]⟩ yS yS (fun b o e=>by cases e))
 ·repeat' (first|refine yJT ?_|refine zan [] yE trivial ?_|fail)
  have:=zym (p:=p) (l:=l) (i:=i) (by omega)
  simp only[tupV];rw[hI.2,this]
theorem zne (l:List Pattern) {g:FuncId} {fs cs:List V} {fn:Func} (p:Pattern→Bool) (hf:FnOk Tryz.prog g fn) (h: ∀m:Pattern,PC Tryz.prog g (fs++ [m.val]++cs) (Bo (p m))) :
  PC Tryz.prog 81 [ydo l, .fn g fs cs] (Bo (l.any p)):=by
 have e:=zsh p l 0
 have hk:=zsd l p hf h
 refine DC.of_run Tryz.func81 rfl Tryz.ntmps81 Tryz.results81 (by simp) (fun _ _=>?_);simp only[zag,zaj,go_sem,Nat.zero_add,Nat.reduceAdd]
 repeat' (first|refine yJ ?_|refine zap inferInstance (hk) yR yT ?_|refine zan [] yE trivial ?_|fail)
 rw[←e];rfl
theorem ynx (q p:Pattern):PC Tryz.prog 82 [q.val, .plc p.cells] (Bo (decide (q.name=p.name))):=by
 refine DC.of_run Tryz.func82 rfl Tryz.ntmps82 Tryz.results82 (by simp) (fun _ _=>?_);simp only[zag,zaj,go_sem,Nat.zero_add,Nat.reduceAdd]
 repeat' (first|refine yJ ?_|(refine zao (t:=2) yU yE yU ?_;simp only[yS3])|refine zan [] yE trivial ?_|fail)
 rfl
def zph (s:GSet) (l:List Node):Prop:=PC Tryz.prog 53 [s.val,zlf l] (.tup [Bo (zhf s l).1,I (zhf s l).2])
theorem yX22 {p:Prop} (h:p:=by(simp (disch:=omega) only[go_sem,dopV,yV0,↓reduceIte,Nat.reduceEqDiff,Nat.reduceLT,Nat.reduceLeDiff,Nat.reduceAdd,Nat.reduceMul,Nat.reduceSub,Int.reduceToNat,Int.reduceLT,Int.reduceLE,Int.reduceEq,IntWalk.toNatUp,IntWalk.iteOmega,IntWalk.i64_in,V.flat,V.one, *,List.forall_mem_map,Pattern.len,implies_true,List.drop_zero];exact rfl)):p:=h
theorem yX23 {p:Prop} (h:p:=by(simp (disch:=omega) only[go_sem,dopV,yV0,↓reduceIte,Nat.reduceEqDiff,Nat.reduceLT,Nat.reduceLeDiff,Nat.reduceAdd,Nat.reduceMul,Nat.reduceSub,Int.reduceToNat,Int.reduceLT,Int.reduceLE,Int.reduceEq,IntWalk.toNatUp,IntWalk.iteOmega,IntWalk.i64_in,V.flat,V.one, *,List.forall_mem_map,Pattern.len,implies_true,List.drop_zero];first|done|exact rfl)):p:=h
theorem ybf (h:House) (hl:h.patterns.length≤1000000) {i:Nat} (hi:i<h.patterns.length) (hc:zph h.set h.patterns[i].cond):PC Tryz.prog 52 [h.val,I i] (I (patS h i)):=by
 have e:h.pat i=h.patterns[i]:=by rw[House.pat,List.getD_eq_getElem?_getD,List.getElem?_eq_getElem hi];rfl
 have hn:=yiy h.patterns[i].name
 have ha:=zwi 0 1000 [h.patterns[i].closed,h.patterns[i].open_]
 have hk:=zne (h.patterns.take i) (g:=82) (fs:= []) (cs:= [.plc h.patterns[i].cells]) (fun q=>decide (q.name=h.patterns[i].name)) inferInstance (fun q=>ynx q h.patterns[i])
 have ho1:=zti h.patterns[i].excl i h.patterns.length ⟨by omega,by omega⟩
 have ho2:=zti h.patterns[i].impl i h.patterns.length ⟨by omega,by omega⟩
 have e1:([h.patterns[i].closed,h.patterns[i].open_].all fun n=>decide (0≤n∧n≤1000))=decide ((0≤h.patterns[i].closed∧h.patterns[i].closed≤1000)∧(0≤h.patterns[i].open_∧h.patterns[i].open_≤1000)):=by simp
 rw[e1]at ha
 clear e1
 unfold zph at hc
 rw[patS,e]
 clear e
 have hil:(i:Int)<(h.patterns.length:Int):=by omega
 have hsub:(List.map Pattern.cells h.patterns).take i=List.map Pattern.cells (h.patterns.take i):=by rw[List.map_take]
 generalize ((h.patterns.take i).any fun q=>decide (q.name=h.patterns[i].name))=B1 at hk ⊢
 generalize zhf h.set h.patterns[i].cond=C at hc ⊢
 obtain⟨c1,c2⟩:=C
 dsimp only at hc ⊢
 generalize zen h.patterns[i].excl i h.patterns.length=O1 at ho1 ⊢
 generalize zen h.patterns[i].impl i h.patterns.length=O2 at ho2 ⊢
 generalize zlg h.patterns[i].name=N at hn ⊢
 refine DC.of_run Tryz.func52 rfl Tryz.ntmps52 Tryz.results52 (by simp) (fun _ _=>?_);simp only[zag,zaj,go_sem,Nat.zero_add,Nat.reduceAdd]
 repeat' (first|with_reducible refine zak yU yU yX22 ?_|refine yJ ?_|(with_reducible (refine zax yX22 ?_;first|refine zfd (fun _=>?_) (fun _=>?_)|refine ycs (fun _=>?_) (fun _=>?_)|refine ypk (fun _=>?_) (fun _=>?_)))|(refine zbw yU yX22 yX22 ?_;simp only[go_sem,Nat.zero_add,Nat.reduceAdd])|(refine zbt (t:=5) yU yX22 yU (fun _=>yX22) yX22 yU yV1 (fun _=>yN1) ?_;simp only[go_sem])|refine zap inferInstance (hn) yR yX23 ?_|refine zap inferInstance (hk) yR yX23 ?_|refine zap inferInstance (ha) yR yX23 ?_|refine zap inferInstance (hc) yR yX23 ?_|refine zap inferInstance (ho1) yR yX23 ?_|refine zap inferInstance (ho2) yR yX23 ?_|(refine zao (t:=2) yU yX22 yU ?_;simp only[yS3])|refine zan [] yX22 trivial ?_|fail)
 all_goals (clear hn hk ha hc ho1 ho2;simp only[tupV];(repeat' split) <;> first|rfl|(exfalso;omega)|(exfalso;grind))
theorem ybs (h:House):PC Tryz.prog 55 [.plc h.cells] (I (zga h.scale)):=by
 have hs:=zlq h.scale
 refine DC.of_run Tryz.func55 rfl Tryz.ntmps55 Tryz.results55 (by simp) (fun _ _=>?_);simp only[zag,zaj,go_sem,Nat.zero_add,Nat.reduceAdd]
 repeat' (first|refine yJ ?_|refine zap inferInstance (hs) yR yT ?_|refine zan [] yE trivial ?_|fail)
 rfl
theorem ybr (h:House):PC Tryz.prog 57 [.plc h.cells] (I (payS h.set h.pay)):=by
 have hs:=yqh h.set h.pay
 refine DC.of_run Tryz.func57 rfl Tryz.ntmps57 Tryz.results57 (by simp) (fun _ _=>?_);simp only[zag,zaj,go_sem,Nat.zero_add,Nat.reduceAdd]
 repeat' (first|refine yJ ?_|refine zap inferInstance (hs) yR yT ?_|refine zan [] yE trivial ?_|fail)
 rfl
theorem ybq (h:House):PC Tryz.prog 59 [.plc h.cells] (I (zlc h.set h.play)):=by
 have hs:=yns h.set h.play
 refine DC.of_run Tryz.func59 rfl Tryz.ntmps59 Tryz.results59 (by simp) (fun _ _=>?_);simp only[zag,zaj,go_sem,Nat.zero_add,Nat.reduceAdd]
 repeat' (first|refine yJ ?_|refine zap inferInstance (hs) yR yT ?_|refine zan [] yE trivial ?_|fail)
 rfl
end Go.XL
namespace Go.XL
open Go.Proofs
set_option maxRecDepth 100000
set_option maxHeartbeats 8000000
structure House.CondsPC (h:House):Prop where
 minor:zph h.set h.minor
 pats: ∀(i:Nat) (hi:i<h.patterns.length),zph h.set h.patterns[i].cond
theorem ydp (h:House): ∀(n i:Nat),zir h i (n+1)=if patS h i≠0 then patS h i else zir h (i+1) n:=fun _ _=>rfl
theorem yX24 {p:Prop} (h:p:=by(simp (disch:=omega) only[go_sem,dopV,yV0,↓reduceIte,Nat.reduceEqDiff,Nat.reduceLT,Nat.reduceLeDiff,Nat.reduceAdd,Nat.reduceMul,Nat.reduceSub,Int.reduceToNat,Int.reduceLT,Int.reduceLE,Int.reduceEq,IntWalk.toNatUp,IntWalk.iteOmega,IntWalk.i64_in,V.flat,V.one, *,Int.reduceAdd];exact rfl)):p:=h
theorem yX25 {p:Prop} (h:p:=by(simp (disch:=omega) only[go_sem,dopV,yV0,↓reduceIte,Nat.reduceEqDiff,Nat.reduceLT,Nat.reduceLeDiff,Nat.reduceAdd,Nat.reduceMul,Nat.reduceSub,Int.reduceToNat,Int.reduceLT,Int.reduceLE,Int.reduceEq,IntWalk.toNatUp,IntWalk.iteOmega,IntWalk.i64_in,V.flat,V.one, *,Int.reduceAdd];try exact rfl)):p:=h
theorem zyn (h:House) (hc:h.CondsPC):PC Tryz.prog 25 [h.val] (I (zfs h)):=by
 have h1:=zfp h.set
 have h2:=yjp h.set h.forms
 have hm:=hc.minor
 unfold zph at hm
 by_cases h0:zbo h.set=0
 ·rw[h0]at h1
  by_cases hf:zep h.set h.forms=0
  ·rw[hf]at h2
   rw[zfs,if_neg (by omega)]
   refine DC.of_run Tryz.func25 rfl Tryz.ntmps25 Tryz.results25 (by simp) (fun _ _=>?_);simp only[zag,zaj,go_sem,Nat.zero_add,Nat.reduceAdd]
   repeat' (first|refine yJ ?_|(with_reducible (refine zax yE ?_;first|refine zdz (fun _=>?_) (fun _=>?_)|refine zbl ?_))|refine zap inferInstance (h1) yR yT ?_|refine zap inferInstance (h2) yR yT ?_|(refine zao (t:=1) yU yE yU ?_;simp only[yS3])|refine zan [] yE trivial ?_|fail)
   ·rw[if_pos (by omega)];rfl
   rename_i g40
   rw[if_neg (by omega)]
   refine zbp [1,32] yN (fun(i:Nat)=> [(33,I i)]) (fun(i:Nat)=>i≤h.patterns.length∧zir h 0 h.patterns.length=zir h i (h.patterns.length-i)) (fun(i:Nat)=>h.patterns.length-i) 0 yS ⟨Nat.zero_le _,rfl⟩ (fun i B hI hB=>?_);try dsimp only at hI hB;simp only[zad,zaf]
   have HB:=Box.mk hB
   clear hB
   obtain⟨hI,hI2⟩:=hI
   by_cases hi:(i:Int)<(h.patterns.length:Int)
   ·have hi':i<h.patterns.length:=by omega
    obtain⟨m,hmm⟩: ∃m,h.patterns.length-i=m+1:=⟨h.patterns.length-i-1,by omega⟩
    rw[hmm,ydp]at hI2
    have hmm2:h.patterns.length-(i+1)=m:=by omega
    have HI:=Box.mk hI2
    clear hI2
    have hp:=ybf h (by omega) hi' (hc.pats i hi')
    have HM:=Box.mk hmm
    have HM2:=Box.mk hmm2
    clear hmm hmm2
    by_cases he:patS h i=0
    ·rw[he]at hp
     repeat' (first|refine yJT ?_|refine zap inferInstance (hp) yR yT ?_|fail)
     all_goals first
      | exact DS.back (HB.out (i+1) _ _ (by omega) ⟨by omega,by rw[HI.out,HM2.out,if_neg (by omega)]⟩ yS yS (fun b o e=>by cases e))
      | (exfalso;omega)
    ·repeat' (first|refine yJT ?_|refine zap inferInstance (hp) yR yT ?_|refine zan [] yE trivial ?_|fail)
     all_goals first|(rw[HI.out,if_pos he,if_pos he];rfl)|(exfalso;omega)
   ·have e:zir h 0 h.patterns.length=0:=by rw[hI2,show h.patterns.length-i=0 by omega];rfl
    rw[e,if_neg (by decide),zxq]
    clear e hI2 HB
    have c1:=ybs h
    have c2:=ybr h
    have c3:=ybq h
    generalize zhf h.set h.minor=C at hm ⊢
    obtain⟨m1,m2⟩:=C
    dsimp only at hm ⊢
    generalize zga h.scale=X1 at c1 ⊢
    generalize payS h.set h.pay=X2 at c2 ⊢
    generalize zlc h.set h.play=X3 at c3 ⊢
    repeat' (first|refine yJ ?_|(with_reducible first|(refine zax yE ?_;first|refine zfd (fun _=>?_) (fun _=>?_)|refine zbl ?_|refine ycs (fun _=>?_) (fun _=>?_))|(refine zbi yU yE ?_;first|refine zfb (fun _=>?_) (fun _=>?_)|refine GG.run ?_|refine zcl ?_))|(refine zbw yU yE yE ?_;simp only[go_sem,Nat.zero_add,Nat.reduceAdd])|refine zap inferInstance (hm) yR yT ?_|refine zap inferInstance (zct _ _ _) yR yT ?_|refine zan [] yE trivial ?_|fail)
    all_goals try ((simp only[tupV];(repeat' split) <;> first|rfl|(exfalso;omega)|(exfalso;grind));done)
    all_goals
     have eR:(if m2≠0 then m2 else if 0<(h.minor.length:Int)∧m1=false then 15 else if ¬(0≤h.least∧h.least≤1000)then 2 else if X1≠0 then X1 else if X2≠0 then X2 else X3)=if X1≠0 then X1 else if X2≠0 then X2 else X3:=by
      clear hm c1 c2 c3
      rw[if_neg (by omega),if_neg (by grind),if_neg (by omega)]
     rw[eR]
     clear eR
     refine zde (E':= [(74,I 0),(73,I 3),(72, .own false 117 1 [[.fn 55 [] [.plc h.cells]],[.fn 57 [] [.plc h.cells]],[.fn 59 [] [.plc h.cells]]])]) (zem ⟨by rfl,by rfl,by rfl,trivial⟩) (fun _ _ e=>e) ?_
     refine zbp [72,73] yN (fun(j:Int)=> [(74,I j)]) (fun(j:Int)=>0≤j∧j≤3∧(0<j→X1=0)∧(1<j→X2=0)∧(2<j→X3=0)) (fun(j:Int)=>(3-j).toNat) 0 yS ⟨by omega,by omega,by omega,by omega,by omega⟩ (fun j B hI hB=>?_);try dsimp only at hI hB;simp only[zad,zaf]
     have HB:=Box.mk hB
     clear hB
     obtain⟨hj0,hj,k1,k2,k3⟩:=hI
     have HK:=Box.mk (And.intro k1 (And.intro k2 k3))
     clear k1 k2 k3 hm
     obtain q|q|q|q:j=0∨j=1∨j=2∨j=3:=by omega
     ·subst q
      repeat' (first|with_reducible refine zak yU yU yX24 ?_|refine yJ ?_|(with_reducible (refine zax yX24 ?_;first|refine zfd (fun _=>?_) (fun _=>?_)|refine zay ?_))|refine zby inferInstance yX24 (c1) yR yX25 ?_|refine zan [] yX24 trivial ?_|fail)
      all_goals first
       | (rw[if_pos (by omega)];rfl)
       | exact DS.back (HB.out 1 _ _ (by omega) ⟨by omega,by omega,fun _=>by omega,by omega,by omega⟩ yS yS (fun b o e=>by cases e))
     ·subst q
      repeat' (first|with_reducible refine zak yU yU yX24 ?_|refine yJ ?_|(with_reducible (refine zax yX24 ?_;first|refine zfd (fun _=>?_) (fun _=>?_)|refine zay ?_))|refine zby inferInstance yX24 (c2) yR yX25 ?_|refine zan [] yX24 trivial ?_|fail)
      all_goals first
       | (obtain⟨k1,k2,k3⟩:=HK.out;rw[if_neg (by omega),if_pos (by omega)];rfl)
       | exact DS.back (HB.out 2 _ _ (by omega) ⟨by omega,by omega,fun _=>HK.out.1 (by omega),fun _=>by omega,by omega⟩ yS yS (fun b o e=>by cases e))
     ·subst q
      repeat' (first|with_reducible refine zak yU yU yX24 ?_|refine yJ ?_|(with_reducible (refine zax yX24 ?_;first|refine zfd (fun _=>?_) (fun _=>?_)|refine zay ?_))|refine zby inferInstance yX24 (c3) yR yX25 ?_|refine zan [] yX24 trivial ?_|fail)
      all_goals first
       | (obtain⟨k1,k2,k3⟩:=HK.out;rw[if_neg (by omega),if_neg (by omega)];rfl)
       | exact DS.back (HB.out 3 _ _ (by omega) ⟨by omega,by omega,fun _=>HK.out.1 (by omega),fun _=>HK.out.2.1 (by omega),fun _=>by omega⟩ yS yS (fun b o e=>by cases e))
     ·subst q
      repeat' (first|refine yJT ?_|refine zan [] yE trivial ?_|fail)
      obtain⟨k1,k2,k3⟩:=HK.out
      rw[if_neg (by omega),if_neg (by omega),k3 (by omega)];rfl
  ·rw[zfs,if_pos hf]
   refine DC.of_run Tryz.func25 rfl Tryz.ntmps25 Tryz.results25 (by simp) (fun _ _=>?_);simp only[zag,zaj,go_sem,Nat.zero_add,Nat.reduceAdd]
   repeat' (first|refine yJT ?_|refine zap inferInstance (h1) yR yT ?_|refine zap inferInstance (h2) yR yT ?_|(refine zao (t:=1) yU yE yU ?_;simp only[yS3])|refine zan [] yE trivial ?_|fail)
   all_goals first|rfl|(exfalso;omega)
 ·have e:zep h.set h.forms=zbo h.set:=by rw[zep,if_pos h0]
  rw[zfs,e,if_pos h0]
  refine DC.of_run Tryz.func25 rfl Tryz.ntmps25 Tryz.results25 (by simp) (fun _ _=>?_);simp only[zag,zaj,go_sem,Nat.zero_add,Nat.reduceAdd]
  repeat' (first|refine yJT ?_|refine zap inferInstance (h1) yR yT ?_|(refine zao (t:=1) yU yE yU ?_;simp only[yS3])|refine zan [] yE trivial ?_|fail)
  all_goals first|rfl|(exfalso;omega)
end Go.XL
namespace Go.XL
open Go.Proofs
set_option maxRecDepth 100000
set_option maxHeartbeats 8000000
def payL (L:List Int) (j w:Nat) (n:Int):List Int:=(L.set j (L.getD j 0-n)).set w ((L.set j (L.getD j 0-n)).getD w 0+n)
theorem zif (L:List Int) (j w:Nat) (n:Int):(payL L j w n).length=L.length:=by simp[payL]
abbrev slcO (bo n:Nat):V := .v (.slice (some ⟨bo,0,none⟩) n n)
theorem ydn (bo:Nat) (L:List Int) (j w:Nat) (n:Int) (hj:j<L.length) (hw:w<L.length) (hn:0≤n∧n≤1000000000) (hL: ∀x∈L,-1000000000000≤x∧x≤1000000000000) (hl:L.length≤4) :
  DC Tryz.prog 35 [I j,I n, .plc [slcO bo L.length], .plc [I w]] [(bo, .cells (L.map I) 3)] (fun u S'=>u=V.tup []∧S'= [(bo, .cells ((payL L j w n).map I) 3)]):=by
 have e1:(L.map I)[j]?=some (I L[j]):=by simp[hj]
 have e2:L.getD j 0=L[j]:=by rw[List.getD_eq_getElem?_getD,List.getElem?_eq_getElem hj];rfl
 have b1:=hL _ (List.getElem_mem hj)
 have hw':w<(L.set j (L[j]-n)).length:=by simpa using hw
 have e3:payL L j w n=(L.set j (L[j]-n)).set w ((L.set j (L[j]-n))[w]+n):=by
  rw[payL,e2,List.getD_eq_getElem?_getD,List.getElem?_eq_getElem hw'];rfl
 have e4:((L.set j (L[j]-n)).map I)[w]?=some (I (L.set j (L[j]-n))[w]):=by rw[List.getElem?_map,List.getElem?_eq_getElem hw'];rfl
 have b2 : -1000000000000-1000000000≤(L.set j (L[j]-n))[w]∧(L.set j (L[j]-n))[w]≤1000000000000:=by
  rw[List.getElem_set]
  split
  ·omega
  ·have:=hL _ (List.getElem_mem hw);omega
 have e5:(List.map I L).set j (V.v (Value.int IntKind.i64 (L[j]-n)))=(L.set j (L[j]-n)).map I:=by rw[List.map_set]
 have hl2:(L.set j (L[j]-n)).length=L.length:=by simp
 refine DC.of_run Tryz.func35 rfl Tryz.ntmps35 Tryz.results35 (by simp) (fun _ _=>?_);simp only[zag,zaj,go_sem,Nat.zero_add,Nat.reduceAdd]
 repeat' (first|refine yJ ?_|(refine DS.store yR yE yE yE yE yU yQ ?_;simp only[yS1];try simp only[yS2,Nat.reduceEqDiff,↓reduceIte])|fail)
 simp only[setS,↓reduceIte]
 rw[e3,show(List.map I (L.set j (L[j]-n))).set w (V.v (Value.int IntKind.i64 ((L.set j (L[j]-n))[w]+n)))=((L.set j (L[j]-n)).set w ((L.set j (L[j]-n))[w]+n)).map I by rw[List.map_set (l:=L.set j (L[j]-n))]]
 repeat' (first|refine yhm yE ⟨?_,rfl⟩|fail)
 all_goals rfl
def outS (p:PayM) (liable:Int):Nat→List Int
 | 0=>List.replicate p.h.set.players.toNat 0
 | i+1=>if(i:Int)=p.winner then outS p liable i else
   if 0≤liable∧p.from_=p.winner then payL (outS p liable i) liable.toNat p.winner.toNat (zjh p.h p.points p.dealer p.winner p.from_ p.counters i)else
   if 0≤liable∧(i:Int)=p.from_∧liable≠p.from_ then
    payL (payL (outS p liable i) liable.toNat p.winner.toNat (zjh p.h p.points p.dealer p.winner p.from_ p.counters i-zjh p.h p.points p.dealer p.winner p.from_ p.counters i / 2)) i p.winner.toNat (zjh p.h p.points p.dealer p.winner p.from_ p.counters i / 2)
   else payL (outS p liable i) i p.winner.toNat (zjh p.h p.points p.dealer p.winner p.from_ p.counters i)
def ybe (h:House) (points dealer winner from_ counters liable:Int):List Int×Int :=
 if zfs h≠0 then([],zfs h)else
 if points<0∨points > 1000000∨counters<0∨counters > 100 then([],2)else
 if(h.seat dealer&&h.seat winner&&h.seat from_)=false then([],2)else
 if liable ≠ -1∧(h.seat liable=false∨liable=winner)then([],2)else
 (outS ⟨h,points,dealer,winner,from_,counters⟩ liable h.set.players.toNat,0)
theorem zod {L:List Int} {j w:Nat} {n B:Int} (hL: ∀x∈L,-B≤x∧x≤B) (hn:0≤n∧n≤1000000000) (hB:0≤B): ∀x∈payL L j w n,-(B+2000000000)≤x∧x≤B+2000000000:=by
 have get: ∀(M:List Int) (C:Int),0≤C→(∀x∈M,-C≤x∧x≤C)→ ∀i:Nat,-C≤M.getD i 0∧M.getD i 0≤C:=fun M C hC hM i=>by
  rw[List.getD_eq_getElem?_getD]
  cases e:M[i]? with
  | none=>simp;omega
  | some v=>exact hM v (List.mem_of_getElem? e)
 have h1: ∀x∈L.set j (L.getD j 0-n),-(B+1000000000)≤x∧x≤B+1000000000:=fun x hx=>by
  rcases List.mem_or_eq_of_mem_set hx with h|h
  ·have:=hL x h;omega
  ·have:=get L B hB hL j;omega
 intro x hx
 rw[payL]at hx
 rcases List.mem_or_eq_of_mem_set hx with h|h
 ·have:=h1 x h;omega
 ·have:=get _ (B+1000000000) (by omega) h1 w;omega
theorem ydu (p:PayM) (ok:p.Ok) (liable:Int): ∀i:Nat,(outS p liable i).length=p.h.set.players.toNat∧ ∀x∈outS p liable i,-(i*4000000000:Int)≤x∧x≤(i*4000000000:Int)
 | 0=>by
  refine⟨by simp[outS],fun x hx=>?_⟩
  simp only[outS,List.mem_replicate]at hx
  rw[hx.2];omega
 | i+1=>by
  obtain⟨h1,h2⟩:=ydu p ok liable i
  have ho:=zxx p ok i
  rw[outS]
  split
  ·exact⟨h1,fun x hx=>by have:=h2 x hx;omega⟩
  split
  ·refine⟨by rw[zif];exact h1,fun x hx=>?_⟩
   have:=zod h2 ho (by omega) x hx;omega
  split
  ·refine⟨by rw[zif,zif];exact h1,fun x hx=>?_⟩
   have q1: ∀x∈payL (outS p liable i) liable.toNat p.winner.toNat (zjh p.h p.points p.dealer p.winner p.from_ p.counters i-zjh p.h p.points p.dealer p.winner p.from_ p.counters i / 2),_:=zod h2 (n:=zjh p.h p.points p.dealer p.winner p.from_ p.counters i-zjh p.h p.points p.dealer p.winner p.from_ p.counters i / 2) (by omega) (by omega)
   have:=zod q1 (n:=zjh p.h p.points p.dealer p.winner p.from_ p.counters i / 2) (j:=i) (w:=p.winner.toNat) (by omega) (by omega) x hx
   omega
  ·refine⟨by rw[zif];exact h1,fun x hx=>?_⟩
   have:=zod h2 ho (by omega) x hx;omega
structure House.Ok (h:House):Prop where
 set:zbo h.set=0
 forms:zep h.set h.forms=0
 many:h.patterns.length≤40
 pats:zir h 0 h.patterns.length=0
 least:0≤h.least∧h.least≤1000
 scale:zga h.scale=0
 pay:payS h.set h.pay=0
 play:zlc h.set h.play=0
theorem ite1 {b a:Int} (h:(if a≠0 then a else b)=0):a=0∧b=0:=by
 by_cases hp:a≠0
 ·rw[if_pos hp]at h;exact absurd h hp
 ·rw[if_neg hp]at h;exact⟨Decidable.not_not.1 hp,h⟩
theorem zll {h:House} (e:zfs h=0):h.Ok:=by
 rw[zfs]at e
 obtain⟨e1,e⟩:=ite1 e
 obtain⟨e2,e⟩:=ite0 (by decide) e
 obtain⟨e3,e⟩:=ite1 e
 rw[zxq]at e
 obtain⟨e4,e⟩:=ite1 e
 obtain⟨e5,e⟩:=ite0 (by decide) e
 obtain⟨e6,e⟩:=ite0 (by decide) e
 obtain⟨e7,e⟩:=ite1 e
 obtain⟨e8,e⟩:=ite1 e
 have e9:zbo h.set=0:=by
  rw[zep]at e1
  exact(ite1 e1).1
 exact⟨e9,e1,by omega,e3,by omega,e7,e8,e⟩
theorem zxp {x:Scale} (e:zga x=0):(0≤x.base∧x.base≤1000)∧(1≤x.round∧x.round≤10000)∧x.limits.length≤12∧zfr x.limits none=0:=by
 rw[zga]at e
 obtain⟨e1,e⟩:=ite0 (by decide) e
 obtain⟨e2,e⟩:=ite0 (by decide) e
 obtain⟨e3,e⟩:=ite0 (by decide) e
 exact⟨by omega,by omega,by omega,e⟩
theorem yqi {s:GSet} {p:Pay} (e:payS s p=0):(1≤p.mode∧p.mode≤3)∧(ptB p.basic&&ptB p.counter&&ptB p.stick&&ptB p.pool&&ptB p.foul&&ptB p.start)=true:=by
 rw[payS]at e
 obtain⟨e1,e⟩:=ite1 e
 obtain⟨e2,e⟩:=ite0 (by decide) e
 obtain⟨e3,e⟩:=ite0 (by decide) e
 exact⟨by omega,by simpa [and_assoc] using e3⟩
theorem ynu {p:PayM} (e:zfs p.h=0) (hp: ¬(p.points<0∨p.points > 1000000∨p.counters<0∨p.counters > 100)):p.Ok:=by
 have ok:=zll e
 have h1:=(zcb ok.set).players
 obtain⟨s1,s2,-,-⟩:=zxp ok.scale
 obtain⟨q1,q2⟩:=yqi ok.pay
 simp only[Bool.and_eq_true,ptB,decide_eq_true_eq]at q2
 exact⟨h1,by omega,s2,q1,by omega,by omega,by omega⟩
end Go.XL
namespace Go.XL
open Go.Proofs
set_option maxRecDepth 100000
set_option maxHeartbeats 8000000
theorem zzy {P:Program} {T:TypeId} {k':IntKind} {a:Int}:bop P .shr T (.int .u64 a) (.int k' 1)=some (.int .u64 (a / 2)):=by
 rw[zzw (by decide),Int.fdiv_eq_ediv_of_nonneg _ (by decide)]
 have:(2:Int) ^ (min (1:Int).toNat 64)=2:=by decide
 rw[this]
theorem ztx (a:Int):PC Tryz.prog 89 [I a] (Bo false):=by
 refine DC.of_run Tryz.func89 rfl Tryz.ntmps89 Tryz.results89 (by simp) (fun _ _=>?_);simp only[zag,zaj,go_sem,Nat.zero_add,Nat.reduceAdd]
 repeat' (first|refine yJ ?_|refine zan [] yE trivial ?_|fail)
 all_goals first|rfl|(exfalso;omega)|(simp[tupV];done)
def cmpS (a b:Int):Int:=if a<b then -1 else if b<a then 1 else 0
theorem yge (a b:Int):cmpS a b<0↔a<b:=by unfold cmpS;split <;> (try split) <;> omega
theorem yox (a b:Int):cmpS a b=0↔a=b:=by unfold cmpS;split <;> (try split) <;> omega
theorem yoy (a b:Int):PC Tryz.prog 65 [I a,I b] (I (cmpS a b)):=by
 have h1:=ztx a
 have h2:=ztx b
 refine DC.of_run Tryz.func65 rfl Tryz.ntmps65 Tryz.results65 (by simp) (fun _ _=>?_);simp only[zag,zaj,go_sem,Nat.zero_add,Nat.reduceAdd]
 repeat' (first|refine yJ ?_|(with_reducible (refine zax yE ?_;first|refine zdz (fun _=>?_) (fun _=>?_)|refine zbl ?_))|refine zap inferInstance (h1) yR yF ?_|refine zap inferInstance (h2) yR yF ?_|refine zan [] yE trivial ?_|fail)
 all_goals (simp only[tupV,cmpS];(repeat' split) <;> first|rfl|(exfalso;omega))
theorem zqe (x:Limit) (v:Int):PC Tryz.prog 64 [x.val,I v] (I (cmpS x.from_ v)):=by
 refine DC.of_run Tryz.func64 rfl Tryz.ntmps64 Tryz.results64 (by simp) (fun _ _=>?_);simp only[zag,zaj,go_sem,Nat.zero_add,Nat.reduceAdd]
 repeat' (first|refine yJ ?_|refine zap inferInstance (yoy _ _) yR yT ?_|(refine zao (t:=2) yU yE yU ?_;simp only[yS3])|refine zan [] yE trivial ?_|fail)
 rfl
structure Found (l:List Limit) (v:Int) (i:Nat):Prop where
 le:i≤l.length
 lo: ∀(t:Nat) (h:t<l.length),t<i→l[t].from_<v
 hi: ∀(t:Nat) (h:t<l.length),i≤t→v≤l[t].from_
def Rise (l:List Limit):Prop:= ∀(a b:Nat) (ha:a<l.length) (hb:b<l.length),a≤b→l[a].from_≤l[b].from_
theorem yX26 {p:Prop} (h:p:=by(simp (disch:=omega) only[go_sem,dopV,yV0,↓reduceIte,Nat.reduceEqDiff,Nat.reduceLT,Nat.reduceLeDiff,Nat.reduceAdd,Nat.reduceMul,Nat.reduceSub,Int.reduceToNat,Int.reduceLT,Int.reduceLE,Int.reduceEq,IntWalk.toNatUp,IntWalk.iteOmega,IntWalk.i64_in,V.flat,V.one, *,zzy,IntWalk.u64_in];exact rfl)):p:=h
theorem yX27 {p:Prop} (h:p:=by(simp (disch:=omega) only[go_sem,dopV,yV0,↓reduceIte,Nat.reduceEqDiff,Nat.reduceLT,Nat.reduceLeDiff,Nat.reduceAdd,Nat.reduceMul,Nat.reduceSub,Int.reduceToNat,Int.reduceLT,Int.reduceLE,Int.reduceEq,IntWalk.toNatUp,IntWalk.iteOmega,IntWalk.i64_in,V.flat,V.one, *,zzy,IntWalk.u64_in];try exact rfl)):p:=h
theorem ydd (l:List Limit) (v:Int) (hr:Rise l) (hl:l.length≤1000) :
  DC Tryz.prog 63 [.lst (l.map Limit.cells),I v, .fn 64 [] []] [] (fun u S'=> ∃i:Nat,Found l v i∧u = .tup [I i,Bo (decide (∃h:i<l.length,l[i].from_=v))]):=by
 have HR:=Box.mk hr
 clear hr
 refine DC.of_run Tryz.func63 rfl Tryz.ntmps63 Tryz.results63 (by simp) (fun _ _=>?_);simp only[zag,zaj,go_sem,Nat.zero_add,Nat.reduceAdd]
 repeat' (first|refine yJ ?_|fail)
 refine zbp [0,1,2,8] yN (fun(x:Nat×Nat)=> [(9,I x.1),(10,I x.2)]) (fun(x:Nat×Nat)=>x.1≤x.2∧x.2≤l.length∧(∀(t:Nat) (h:t<l.length),t<x.1→l[t].from_<v)∧(∀(t:Nat) (h:t<l.length),x.2≤t→v≤l[t].from_)) (fun(x:Nat×Nat)=>x.2-x.1) (0,l.length) yS ⟨Nat.zero_le _,Nat.le_refl _,fun t h h2=>absurd h2 (Nat.not_lt_zero _),fun t h h2=>absurd h (by omega)⟩ (fun x B hI hB=>?_);try dsimp only at hI hB;simp only[zad,zaf]
 obtain⟨lo,hi⟩:=x
 dsimp only at hI hB
 obtain⟨i1,i2,i3,i4⟩:=hI
 have H:=Box.mk (And.intro i3 i4)
 have HB:=Box.mk hB
 clear i3 i4 hB
 by_cases hlt:lo<hi
 ·have hlt':(lo:Int)<(hi:Int):=by omega
  obtain⟨m,hm⟩: ∃m:Nat,m=(lo+hi) / 2:=⟨_,rfl⟩
  have hm1:((lo:Int)+(hi:Int)) / 2=(m:Int):=by omega
  have hm2:m<l.length:=by omega
  have hm3:lo≤m∧m<hi:=by omega
  have hp:=zqe l[m] v
  clear hm
  repeat' (first|with_reducible refine zak yU yU yX26 ?_|refine yJ ?_|(with_reducible (refine zax yX26 ?_;first|refine zdz (fun _=>?_) (fun _=>?_)|refine zay ?_))|refine zby inferInstance yX26 (hp) yR yX27 ?_|fail)
  ·rename_i e
   have e1:=(yge _ _).1 e
   exact DS.back (HB.out (m+1,hi) _ _ (by dsimp only;omega) ⟨by dsimp only;omega,i2,fun t h ht=>by
    have:=HR.out t m h hm2 (by dsimp only at ht;omega)
    omega,H.out.2⟩ yS yS (fun b o e=>by exact e))
  ·rename_i e
   have e1: ¬l[m].from_<v:=fun h=>e ((yge _ _).2 h)
   exact DS.back (HB.out (lo,m) _ _ (by dsimp only;omega) ⟨by dsimp only;omega,by dsimp only;omega,H.out.1,fun t h ht=>by
    have:=HR.out m t hm2 h ht
    omega⟩ yS yS (fun b o e=>by exact e))
 ·have hlt': ¬(lo:Int)<(hi:Int):=by omega
  have he:hi=lo:=by omega
  have hle:lo≤l.length:=by omega
  rw[he]at H
  clear he i1 HB
  have HF:Found l v lo:=⟨hle,H.out.1,H.out.2⟩
  by_cases hl2:lo<l.length
  ·have hl3:(lo:Int)<(l.length:Int):=by omega
   have hp:=zqe l[lo] v
   have hd:decide (∃h:lo<l.length,l[lo].from_=v)=decide (cmpS l[lo].from_ v=0):=by
    rw[decide_eq_decide,yox];exact⟨fun⟨_,h⟩=>h,fun h=>⟨hl2,h⟩⟩
   have HF:=Box.mk (And.intro HF hd)
   clear hd
   repeat' (first|refine yJT ?_|refine zby inferInstance yE (hp) yR yT ?_|refine zan [] yE trivial ?_|fail)
   all_goals exact⟨lo,HF.out.1,by rw[HF.out.2];rfl⟩
  ·have hl3: ¬(lo:Int)<(l.length:Int):=by omega
   have hd:decide (∃h:lo<l.length,l[lo].from_=v)=false:=by
    rw[decide_eq_false_iff_not];rintro⟨h,-⟩;exact hl2 h
   have HF:=Box.mk (And.intro HF hd)
   clear hd
   repeat' (first|refine yJT ?_|refine zan [] yE trivial ?_|fail)
   all_goals exact⟨lo,HF.out.1,by rw[HF.out.2];rfl⟩
theorem ztq : ∀{l:List Limit} {p:Option Limit},zfr l p=0→(∀x∈l,(1≤x.from_∧x.from_≤1000)∧0≤x.points∧x.points≤1000000)∧l.Pairwise (fun a b=>a.from_<b.from_∧a.points≤b.points)∧ ∀q,p=some q→ ∀x∈l,q.from_<x.from_∧q.points≤x.points
 | [],_,_=>⟨by simp, .nil,by simp⟩
 | y::l,p,h=>by
  rw[zfr]at h
  obtain⟨h1,h⟩:=ite0 (by decide) h
  obtain⟨h2,h⟩:=ite0 (by decide) h
  obtain⟨h3,h⟩:=ite0 (by decide) h
  obtain⟨k1,k2,k3⟩:=ztq h
  have k4:=k3 y rfl
  refine⟨fun x hx=>?_,List.pairwise_cons.2 ⟨k4,k2⟩,fun q hq x hx=>?_⟩
  ·rcases List.mem_cons.1 hx with rfl|hx
   ·omega
   ·exact k1 x hx
  ·subst hq
   simp only[anyO,Bool.or_eq_true,decide_eq_true_eq,not_or]at h3
   rcases List.mem_cons.1 hx with rfl|hx
   ·omega
   ·have:=k4 x hx;omega
theorem ynq {l:List Limit} (h:l.Pairwise (fun a b=>a.from_<b.from_∧a.points≤b.points)):Rise l:=fun a b ha hb hab=>by
 rcases Nat.lt_or_ge a b with h1|h1
 ·have:=List.pairwise_iff_getElem.1 h a b ha hb h1;omega
 ·have:a=b:=by omega
  subst this;exact Int.le_refl _
theorem zrz (v:Int): ∀(l:List Limit) (out:Option Int),(∀x∈l,v<x.from_)→limG v l out=out
 | [],_,_=>rfl
 | y::l,out,h=>by
  have h1:=h y (List.mem_cons_self ..)
  rw[limG,if_neg (by omega)]
  exact zrz v l out fun x hx=>h x (List.mem_cons_of_mem _ hx)
theorem yea (v:Int): ∀(l:List Limit) (out:Option Int) (j:Nat) (hj:j<l.length),l[j].from_≤v→(∀(t:Nat) (ht:t<l.length),j<t→v<l[t].from_)→limG v l out=some l[j].points
 | y::l,out,0,hj,h1,h2=>by
  rw[limG,if_pos (by simpa using h1),zrz]
  ·rfl
  ·intro x hx
   obtain⟨t,ht,rfl⟩:=List.getElem_of_mem hx
   have:=h2 (t+1) (by simpa using ht) (by omega)
   simpa using this
 | y::l,out,j+1,hj,h1,h2=>by
  rw[limG]
  have hj':j<l.length:=by simpa using hj
  refine(yea v l _ j hj' (by simpa using h1) fun t ht hjt=>?_).trans (by simp)
  have:=h2 (t+1) (by simpa using ht) (by omega)
  simpa using this
theorem zwa {a b:Int}:(if b<a then b else a)=min a b:=by rw[Int.min_def];split <;> split <;> omega
theorem yno {T:TypeId} {n v:Int} (hn:0≤n∧n≤1000000) (hv:0≤v):bop Tryz.prog .shl T (.int .i64 n) (.int .i64 (if 21<v then 21 else v))=some (.int .i64 (n*2 ^ (min v 21).toNat)):=by
 rw[zwa]
 obtain⟨s,hs⟩: ∃s:Nat,s=(min v 21).toNat:=⟨_,rfl⟩
 have hs2:min v 21=(s:Int):=by rw[hs];omega
 have hs3:s≤21:=by omega
 have hp:(2:Int) ^ s≤2 ^ 21:=by
  have:=Nat.pow_le_pow_right (n:=2) (by omega) hs3
  exact_mod_cast this
 have hp0:(0:Int)≤2 ^ s:=by
  have:=Nat.zero_le (2 ^ s)
  exact_mod_cast this
 have h1:0≤n*2 ^ s:=Int.mul_nonneg hn.1 hp0
 have h2:n*2 ^ s≤1000000*2097152:=Int.mul_le_mul hn.2 (by simpa using hp) hp0 (by omega)
 rw[hs2]
 simp only[bop,Op.shift,if_neg (show ¬((s:Int)<0) by omega),Int.toNat_natCast,Nat.min_eq_left (show s≤IntKind.i64.bits from Nat.le_trans hs3 (by decide))]
 show some (Value.int .i64 (IntKind.i64.wrap (n*2 ^ s)))=_
 rw[IntWalk.i64_in _ (by omega)]
theorem yip {x:Scale} {minor value:Int} (h0:zga x=0) (h1:0≤minor∧minor≤1000) (h2:0≤value∧value≤1073741824) {p:Int} (h:limS x value=some p):ptsS x minor value=p:=by
 rw[ptsS,if_neg (by omega),if_neg (by omega),if_neg (by omega),h]
theorem zxu {x:Scale} {minor value:Int} (h0:zga x=0) (h1:0≤minor∧minor≤1000) (h2:0≤value∧value≤1073741824) (h:limS x value=none) :
  ptsS x minor value=min (if x.double=true then x.base*minor*2 ^ (min value 21).toNat else x.base*minor*value) (ybj x):=by
 rw[ptsS,if_neg (by omega),if_neg (by omega),if_neg (by omega),h]
theorem ydi (x:Scale) (minor value:Int):PC Tryz.prog 33 [x.val,I minor,I value] (I (ptsS x minor value)):=by
 have hs:=zlq x
 by_cases h0:zga x=0
 ·rw[h0]at hs
  by_cases h1:0≤minor∧minor≤1000
  ·by_cases h2:0≤value∧value≤1073741824
   ·obtain⟨b1,b2,b3,b4⟩:=zxp h0
    obtain⟨k1,k2,-⟩:=ztq b4
    have hr:=ynq k2
    have hsd:=ydd x.limits value hr (by omega)
    have hm1:0≤x.base*minor:=Int.mul_nonneg b1.1 h1.1
    have hm2:x.base*minor≤1000*1000:=Int.mul_le_mul b1.2 h1.2 h1.1 (by omega)
    have hm3:0≤x.base*minor*value:=Int.mul_nonneg hm1 h2.1
    have hm4:x.base*minor*value≤1000*1000*1073741824:=Int.mul_le_mul hm2 h2.2 h2.1 (by omega)
    have hsh:bop Tryz.prog .shl 3 (.int .i64 (x.base*minor)) (.int .i64 (if 21<value then 21 else value))=some (.int .i64 (x.base*minor*2 ^ (min value 21).toNat)):=yno ⟨hm1,hm2⟩ h2.1
    by_cases hl:0<x.limits.length
    ·have hl':(0:Int)<(x.limits.length:Int):=by omega
     by_cases hf:x.limits[0].from_≤value
     ·have hq: ∀i,Found x.limits value i→ ∀b,b=decide (∃h:i<x.limits.length,x.limits[i].from_=value)→ ∃j:Nat,∃hj:j<x.limits.length,(j:Int)=(if b=true then(i:Int)else(i:Int)-1)∧ptsS x minor value=x.limits[j].points:=by
       intro i hi b hb
       have fin: ∀(j:Nat) (hj:j<x.limits.length),x.limits[j].from_≤value→(∀(t:Nat) (ht:t<x.limits.length),j<t→value<x.limits[t].from_)→ptsS x minor value=x.limits[j].points:=fun j hj e1 e2=>yip h0 h1 h2 (yea value _ none j hj e1 e2)
       have hst: ∀(a b:Nat) (ha:a<x.limits.length) (hb:b<x.limits.length),a<b→x.limits[a].from_<x.limits[b].from_:=fun a b ha hb h=>(List.pairwise_iff_getElem.1 k2 a b ha hb h).1
       by_cases he: ∃h:i<x.limits.length,x.limits[i].from_=value
       ·rw[decide_eq_true he]at hb
        obtain⟨h3,h4⟩:=he
        refine⟨i,h3,by rw[if_pos hb],fin i h3 (by omega) fun t ht hit=>?_⟩
        have:=hst i t h3 ht hit;omega
       ·rw[decide_eq_false he]at hb
        have hi0:0<i:=by
         refine Nat.pos_of_ne_zero fun h=>?_
         subst h
         have:=hi.hi 0 hl (Nat.le_refl _)
         exact he ⟨hl,by omega⟩
        have hle:=hi.le
        refine⟨i-1,by omega,by rw[hb,if_neg (by decide)];omega,fin (i-1) (by omega) ?_ fun t ht hit=>?_⟩
        ·have:=hi.lo (i-1) (by omega) (by omega);omega
        ·have:=hi.hi t ht (by omega)
         have hne:x.limits[t].from_≠value:=fun h=>by
          rcases Nat.lt_or_ge i t with h5|h5
          ·have:=hst i t (by omega) ht h5
           have:=hi.hi i (by omega) (Nat.le_refl _)
           omega
          ·have:i=t:=by omega
           subst this;exact he ⟨ht,h⟩
         omega
      have HQ:=Box.mk hq
      clear hq k1 k2 hr b4
      refine DC.of_run Tryz.func33 rfl Tryz.ntmps33 Tryz.results33 (by simp) (fun _ _=>?_);simp only[zag,zaj,go_sem,Nat.zero_add,Nat.reduceAdd]
      repeat' (first|refine yJ ?_|(with_reducible first|(refine zax yE ?_;first|refine zdz (fun _=>?_) (fun _=>?_)|refine zay ?_)|(refine zbi yU yE ?_;first|refine zex (fun _=>?_) (fun _=>?_)|refine GG.run ?_|refine zcv ?_))|refine zap inferInstance (hs) yR yT ?_|(refine zao (t:=3) yU yE yU ?_;simp only[yS3])|fail)
      all_goals try (exfalso;omega)
      refine yak inferInstance hsd yR yH (fun u S' hu=>?_)
      obtain⟨i,hi,rfl⟩:=hu
      generalize hb:decide (∃h:i<x.limits.length,x.limits[i].from_=value)=b
      obtain⟨j,hj,q1,q2⟩:=HQ.out i hi b hb.symm
      rw[q2]
      have hile:=hi.le
      clear hb q2 hi HQ hsd
      cases b with
      | true =>
       have q3:i=j:=by rw[if_pos rfl]at q1;omega
       subst q3
       clear q1
       repeat' (first|refine yJT ?_|refine zan [] yE trivial ?_|fail)
       all_goals first|rfl|(exfalso;omega)
      | false =>
       have q3:(i:Int)-1=(j:Int):=by rw[if_neg (by decide)]at q1;omega
       clear q1
       repeat' (first|refine yJT ?_|refine zan [] yE trivial ?_|fail)
       all_goals first|rfl|(exfalso;omega)
     ·have hn:limS x value=none:=zrz value _ none fun y hy=>by
       obtain⟨t,ht,rfl⟩:=List.getElem_of_mem hy
       have:=hr 0 t hl ht (Nat.zero_le _);omega
      have hmo:ybj x=x.limits[0].points:=by
       unfold ybj
       split
       ·rename_i e;rw[e]at hl;simp at hl
       ·rename_i e;simp[e]
      rw[zxu h0 h1 h2 hn,hmo]
      clear hn hmo hsd hr k2 k1 b4
      refine DC.of_run Tryz.func33 rfl Tryz.ntmps33 Tryz.results33 (by simp) (fun _ _=>?_);simp only[zag,zaj,go_sem,Nat.zero_add,Nat.reduceAdd]
      repeat' (first|refine yJ ?_|(with_reducible first|(refine zax yE ?_;first|refine zdz (fun _=>?_) (fun _=>?_)|refine zay ?_|refine zbl ?_|refine ypk (fun _=>?_) (fun _=>?_))|(refine zbi yU yE ?_;first|refine zex (fun _=>?_) (fun _=>?_)|refine GG.run ?_|refine zcv ?_))|refine zap inferInstance (hs) yR yT ?_|(refine zao (t:=3) yU yE yU ?_;simp only[yS3])|refine zan [] yE trivial ?_|fail)
      all_goals first|(exfalso;omega)|(rename_i hd;rw[hd];simp only[↓reduceIte,Bool.false_eq_true];exact congrArg I zwa)
    ·have he:x.limits= []:=List.eq_nil_of_length_eq_zero (by omega)
     have hn:limS x value=none:=by rw[limS,he];rfl
     have hmo:ybj x=1000000:=by rw[ybj,he]
     have hl': ¬(0:Int)<(x.limits.length:Int):=by omega
     rw[zxu h0 h1 h2 hn,hmo]
     clear hn hmo hsd hr k2 k1 b4 he
     refine DC.of_run Tryz.func33 rfl Tryz.ntmps33 Tryz.results33 (by simp) (fun _ _=>?_);simp only[zag,zaj,go_sem,Nat.zero_add,Nat.reduceAdd]
     repeat' (first|refine yJ ?_|(with_reducible first|(refine zax yE ?_;first|refine zdz (fun _=>?_) (fun _=>?_)|refine zay ?_|refine zbl ?_|refine ypk (fun _=>?_) (fun _=>?_))|(refine zbi yU yE ?_;first|refine zex (fun _=>?_) (fun _=>?_)|refine GG.run ?_|refine zcv ?_))|refine zap inferInstance (hs) yR yT ?_|(refine zao (t:=3) yU yE yU ?_;simp only[yS3])|refine zan [] yE trivial ?_|fail)
     all_goals first|(exfalso;omega)|(rename_i hd;rw[hd];simp only[↓reduceIte,Bool.false_eq_true];exact congrArg I zwa)
   ·rw[ptsS,if_neg (by omega),if_neg (by omega),if_pos h2]
    refine DC.of_run Tryz.func33 rfl Tryz.ntmps33 Tryz.results33 (by simp) (fun _ _=>?_);simp only[zag,zaj,go_sem,Nat.zero_add,Nat.reduceAdd]
    repeat' (first|refine yJ ?_|(with_reducible first|(refine zax yE ?_;first|refine zdz (fun _=>?_) (fun _=>?_)|refine zay ?_|refine ypk (fun _=>?_) (fun _=>?_))|(refine zbi yU yE ?_;first|refine zex (fun _=>?_) (fun _=>?_)|refine GG.run ?_|refine zcv ?_))|refine zap inferInstance (hs) yR yT ?_|(refine zao (t:=3) yU yE yU ?_;simp only[yS3])|refine zan [] yE trivial ?_|fail)
    all_goals first|rfl|(exfalso;omega)
  ·rw[ptsS,if_neg (by omega),if_pos h1]
   refine DC.of_run Tryz.func33 rfl Tryz.ntmps33 Tryz.results33 (by simp) (fun _ _=>?_);simp only[zag,zaj,go_sem,Nat.zero_add,Nat.reduceAdd]
   repeat' (first|refine yJ ?_|(with_reducible first|(refine zax yE ?_;first|refine zdz (fun _=>?_) (fun _=>?_)|refine zay ?_|refine ypk (fun _=>?_) (fun _=>?_))|(refine zbi yU yE ?_;first|refine zex (fun _=>?_) (fun _=>?_)|refine GG.run ?_|refine zcv ?_))|refine zap inferInstance (hs) yR yT ?_|(refine zao (t:=3) yU yE yU ?_;simp only[yS3])|refine zan [] yE trivial ?_|fail)
   all_goals first|rfl|(exfalso;omega)
 ·rw[ptsS,if_pos h0]
  refine DC.of_run Tryz.func33 rfl Tryz.ntmps33 Tryz.results33 (by simp) (fun _ _=>?_);simp only[zag,zaj,go_sem,Nat.zero_add,Nat.reduceAdd]
  repeat' (first|refine yJT ?_|refine zap inferInstance (hs) yR yT ?_|(refine zao (t:=3) yU yE yU ?_;simp only[yS3])|refine zan [] yE trivial ?_|fail)
  all_goals first|rfl|(exfalso;omega)
end Go.XL
namespace Go.XL
section
variable {x:Scale} (h0:zga x=0)
include h0
end
end Go.XL
namespace Go.XL
open Go.Proofs
set_option maxRecDepth 100000
set_option maxHeartbeats 8000000
theorem yW2 : ¬((1:Int)=0)∧ ¬((2:Int)=0)∧ ¬((2:Int)=1):=by repeat' (first|apply And.intro|decide)
theorem yaw (bs:Nat) (x:Int):SC Tryz.prog 43 [ptr bs] bs x ((zip x).1.val) ((zip x).2):=by
 have k1:=zcz x 20
 have k2:=zcz (stepX (stepX x)) 3
 have k3:=zcz (stepX (stepX (stepX x))) 4
 unfold SC
 refine DC.of_run Tryz.func43 rfl Tryz.ntmps43 Tryz.results43 (by simp) (fun _ _=>?_);simp only[zag,zaj,go_sem,Nat.zero_add,Nat.reduceAdd]
 repeat' (first|refine yJ ?_|fail)
 refine zbd yR yU yU (fun b2 h2=>?_)
 have n2: ¬bs=b2:=fun e=>by rw[zaa,if_pos e]at h2;cases h2
 have n2': ¬b2=bs:=fun e=>n2 e.symm
 clear h2
 repeat' (first|with_reducible refine zak yU yU yX0 ?_|refine yJ ?_|(refine zbw yU yX0 yX0 ?_;simp only[go_sem,Nat.zero_add,Nat.reduceAdd])|(refine zaw inferInstance (zce bs x 1 20 (by omega)) yR yX3 yX3 ?_;(try simp only[zab,zac,↓reduceIte, *]))|(refine zaw inferInstance (zck bs (stepX x) 2 (by omega)) yR yX3 yX3 ?_;(try simp only[zab,zac,↓reduceIte, *]))|(refine zaw inferInstance (zba bs (stepX (stepX x)) 3 (by omega)) yR yX3 yX3 ?_;(try simp only[zab,zac,↓reduceIte, *]))|fail)
 unfold zip
 clear k1
 generalize zar (stepX (stepX x)) 3=j at *
 rcases(show j=0∨j=1∨j=2 by omega)with rfl|rfl|rfl
 all_goals (try simp only[↓reduceIte,yW2])
 all_goals clear k2
 ·repeat' (first|with_reducible refine zak yU yU yX0 ?_|fail)
  refine zbd yR yU yU (fun b3 h3=>?_)
  have n3: ¬bs=b3:=fun e=>by simp only[zaa,e,↓reduceIte]at h3;first|(cases h3;done)|(split at h3 <;> cases h3)
  have n3': ¬b3=bs:=fun e=>n3 e.symm
  have m3: ¬b2=b3:=fun e=>by simp only[zaa,e,↓reduceIte]at h3;first|(cases h3;done)|(split at h3 <;> cases h3)
  have m3': ¬b3=b2:=fun e=>m3 e.symm
  clear h3
  repeat' (first|with_reducible refine zak yU yU yX0 ?_|refine yJ ?_|(refine zaw inferInstance (zba bs (stepX (stepX (stepX x))) 4 (by omega)) yR yX6 yX6 ?_;(try simp only[zab,zac,↓reduceIte, *]))|(refine DS.store yR yX0 yX0 yX0 yX0 yU yQ ?_;simp only[yS1];try simp only[yS2,Nat.reduceEqDiff,↓reduceIte])|fail)
  simp only[setS,zab,zac,n2,n2',n3,n3',m3,m3',↓reduceIte,List.map_cons,List.map_nil,zbc,zai,zam,zaq,zal,Nat.reduceAdd,Nat.zero_add]
  refine zpf (b:=b3) (off:=2) (e:=127) (sz:=2) (T':=31) (by simp only[zaa,zah,n3,↓reduceIte];rfl) yR ?_
  simp only[setS,n3,↓reduceIte,zaq,zal]
  generalize zcu (stepX x) 2=db
  generalize zbv x 1 20=ba
  obtain⟨N,hN⟩: ∃N:Nat,(N:Int)=zar (stepX (stepX (stepX x))) 4:=⟨(zar (stepX (stepX (stepX x))) 4).toNat,by omega⟩
  rw[←hN,Int.toNat_natCast]
  have hNb:N≤3:=by omega
  clear hN k3
  generalize stepX (stepX (stepX (stepX x)))=x0
  refine zbn [0,2,3] yN (fun(y:Nat×Int×Int×Int×List Limit)=> [(6,I y.1),(4,I y.2.1),(5,I y.2.2.1)]) (fun(y:Nat×Int×Int×Int×List Limit)=> [(bs,srcO y.2.2.2.1),(b3, .cells [I ba,Bo db, .own false 127 2 (y.2.2.2.2.map Limit.cells),I 1] 31),(b2, .cells [I 0,Bo false, .v (.slice none 0 0),I 0] 31)]) (fun(y:Nat×Int×Int×Int×List Limit)=>(0≤y.2.1∧y.2.1+6*y.1≤18)∧(0≤y.2.2.1∧y.2.2.1+2000*y.1≤6000)∧y.2.2.2.2.length+y.1≤3∧limX N x0 0 0=(y.2.2.2.2++(limX y.1 y.2.2.2.1 y.2.1 y.2.2.1).1,(limX y.1 y.2.2.2.1 y.2.1 y.2.2.1).2)) (fun(y:Nat×Int×Int×Int×List Limit)=>y.1) (N,0,0,x0,[]) yS (fun b o e=>by exact e) ⟨by dsimp only;omega,by dsimp only;omega,by simp;omega,rfl⟩ (fun y B hI hB=>?_);try dsimp only at hI hB;simp only[zad,zaf]
  obtain⟨k,f,p,x1,out⟩:=y
  dsimp only at hI hB ⊢
  obtain⟨g0,g1,g2,g3⟩:=hI
  have HG:=Box.mk g3
  rw[g3]
  have HB:=Box.mk hB
  clear g3 hB
  have q1:=zcz x1 6
  have q2:zbv x1 1 6=1+zar x1 6:=rfl
  have q3:=zcz (stepX x1) 2000
  repeat' (first|(with_reducible refine zml (t:=32) yU yX0 yX0 yX0 yX0 ?_;simp only[zal,zaq])|with_reducible refine zak yU yU yX0 ?_|refine yJ ?_|(with_reducible (refine zax yX0 ?_;refine zdz (fun _=>?_) (fun _=>?_)))|(refine zbw yU yX0 yX0 ?_;simp only[go_sem,Nat.zero_add,Nat.reduceAdd])|(refine DS.append (mm:=false) yU yX0 yX0 yU (by decide) yX0 yO2 yX0 yX14 yLM yQ2 ?_;simp only[yS2,Nat.reduceEqDiff,↓reduceIte])|(refine zaw inferInstance (zce bs x1 1 6 (by omega)) yR yX3 yX3 ?_;(try simp only[zab,zac,↓reduceIte, *]))|(refine zaw inferInstance (zba bs (stepX x1) 2000 (by omega)) yR yX3 yX3 ?_;(try simp only[zab,zac,↓reduceIte, *]))|(refine DS.store yR yX0 yX0 yX0 yX0 yU yQ ?_;simp only[yS1];try simp only[yS2,Nat.reduceEqDiff,↓reduceIte])|fail)
  ·obtain⟨k',rfl⟩: ∃k',k=k'+1:=⟨k-1,by omega⟩
   have hk:limX N x0 0 0=((out++ [⟨f+(1+zar x1 6),p+zar (stepX x1) 2000⟩])++(limX k' (stepX (stepX x1)) (f+(1+zar x1 6)) (p+zar (stepX x1) 2000)).1,(limX k' (stepX (stepX x1)) (f+(1+zar x1 6)) (p+zar (stepX x1) 2000)).2):=by
    rw[List.append_assoc,List.singleton_append];exact HG.out
   have HK:=Box.mk hk
   clear hk
   have e6:((k'+1:Nat):Int)-1=(k':Int):=by omega
   simp only[e6]
   refine DS.back (HB.out (k',f+(1+zar x1 6),p+zar (stepX x1) 2000,stepX (stepX x1),out++ [⟨f+(1+zar x1 6),p+zar (stepX x1) 2000⟩]) _ _ (by dsimp only;omega) ⟨by dsimp only;omega,by dsimp only;omega,by simp;omega,HK.out⟩ yS yS (fun b o e=>?_))
   dsimp only at e
   rw[List.map_append,List.map_singleton,Limit.cells]at e
   simp only[setS,n2,n2',n3,n3',m3,m3',↓reduceIte,zaq,zal,zaa,zah]at e ⊢
   exact e
  ·simp only[setS,zab,zac,n2,n2',n3,n3',m3,m3',↓reduceIte,List.map_cons,List.map_nil,zbc,zai,zam,zaq,zal,Nat.reduceAdd,Nat.zero_add]
   have hk:k=0:=by omega
   subst hk
   refine zbj [(bs,srcO x1)] yG (fun b o e=>?_) ⟨?_,rfl⟩
   ·simp only[zaa,zah]at e ⊢
    split at e
    ·rename_i hb;rw[if_pos hb];exact e
    ·cases e
   ·rw[limX,List.append_nil];rfl
 ·repeat' (first|with_reducible refine zak yU yU yX0 ?_|fail)
  refine zbd yR yU yU (fun b3 h3=>?_)
  have n3: ¬bs=b3:=fun e=>by simp only[zaa,e,↓reduceIte]at h3;first|(cases h3;done)|(split at h3 <;> cases h3)
  have n3': ¬b3=bs:=fun e=>n3 e.symm
  have m3: ¬b2=b3:=fun e=>by simp only[zaa,e,↓reduceIte]at h3;first|(cases h3;done)|(split at h3 <;> cases h3)
  have m3': ¬b3=b2:=fun e=>m3 e.symm
  clear h3
  repeat' (first|with_reducible refine zak yU yU yX0 ?_|refine yJ ?_|(refine zaw inferInstance (zba bs (stepX (stepX (stepX x))) 4 (by omega)) yR yX6 yX6 ?_;(try simp only[zab,zac,↓reduceIte, *]))|(refine DS.store yR yX0 yX0 yX0 yX0 yU yQ ?_;simp only[yS1];try simp only[yS2,Nat.reduceEqDiff,↓reduceIte])|fail)
  simp only[setS,zab,zac,n2,n2',n3,n3',m3,m3',↓reduceIte,List.map_cons,List.map_nil,zbc,zai,zam,zaq,zal,Nat.reduceAdd,Nat.zero_add]
  refine zpf (b:=b3) (off:=2) (e:=127) (sz:=2) (T':=31) (by simp only[zaa,zah,n3,↓reduceIte];rfl) yR ?_
  simp only[setS,n3,↓reduceIte,zaq,zal]
  generalize zcu (stepX x) 2=db
  generalize zbv x 1 20=ba
  obtain⟨N,hN⟩: ∃N:Nat,(N:Int)=zar (stepX (stepX (stepX x))) 4:=⟨(zar (stepX (stepX (stepX x))) 4).toNat,by omega⟩
  rw[←hN,Int.toNat_natCast]
  have hNb:N≤3:=by omega
  clear hN k3
  generalize stepX (stepX (stepX (stepX x)))=x0
  refine zbn [0,2,3] yN (fun(y:Nat×Int×Int×Int×List Limit)=> [(6,I y.1),(4,I y.2.1),(5,I y.2.2.1)]) (fun(y:Nat×Int×Int×Int×List Limit)=> [(bs,srcO y.2.2.2.1),(b3, .cells [I ba,Bo db, .own false 127 2 (y.2.2.2.2.map Limit.cells),I 10] 31),(b2, .cells [I 0,Bo false, .v (.slice none 0 0),I 0] 31)]) (fun(y:Nat×Int×Int×Int×List Limit)=>(0≤y.2.1∧y.2.1+6*y.1≤18)∧(0≤y.2.2.1∧y.2.2.1+2000*y.1≤6000)∧y.2.2.2.2.length+y.1≤3∧limX N x0 0 0=(y.2.2.2.2++(limX y.1 y.2.2.2.1 y.2.1 y.2.2.1).1,(limX y.1 y.2.2.2.1 y.2.1 y.2.2.1).2)) (fun(y:Nat×Int×Int×Int×List Limit)=>y.1) (N,0,0,x0,[]) yS (fun b o e=>by exact e) ⟨by dsimp only;omega,by dsimp only;omega,by simp;omega,rfl⟩ (fun y B hI hB=>?_);try dsimp only at hI hB;simp only[zad,zaf]
  obtain⟨k,f,p,x1,out⟩:=y
  dsimp only at hI hB ⊢
  obtain⟨g0,g1,g2,g3⟩:=hI
  have HG:=Box.mk g3
  rw[g3]
  have HB:=Box.mk hB
  clear g3 hB
  have q1:=zcz x1 6
  have q2:zbv x1 1 6=1+zar x1 6:=rfl
  have q3:=zcz (stepX x1) 2000
  repeat' (first|(with_reducible refine zml (t:=32) yU yX0 yX0 yX0 yX0 ?_;simp only[zal,zaq])|with_reducible refine zak yU yU yX0 ?_|refine yJ ?_|(with_reducible (refine zax yX0 ?_;refine zdz (fun _=>?_) (fun _=>?_)))|(refine zbw yU yX0 yX0 ?_;simp only[go_sem,Nat.zero_add,Nat.reduceAdd])|(refine DS.append (mm:=false) yU yX0 yX0 yU (by decide) yX0 yO2 yX0 yX14 yLM yQ2 ?_;simp only[yS2,Nat.reduceEqDiff,↓reduceIte])|(refine zaw inferInstance (zce bs x1 1 6 (by omega)) yR yX3 yX3 ?_;(try simp only[zab,zac,↓reduceIte, *]))|(refine zaw inferInstance (zba bs (stepX x1) 2000 (by omega)) yR yX3 yX3 ?_;(try simp only[zab,zac,↓reduceIte, *]))|(refine DS.store yR yX0 yX0 yX0 yX0 yU yQ ?_;simp only[yS1];try simp only[yS2,Nat.reduceEqDiff,↓reduceIte])|fail)
  ·obtain⟨k',rfl⟩: ∃k',k=k'+1:=⟨k-1,by omega⟩
   have hk:limX N x0 0 0=((out++ [⟨f+(1+zar x1 6),p+zar (stepX x1) 2000⟩])++(limX k' (stepX (stepX x1)) (f+(1+zar x1 6)) (p+zar (stepX x1) 2000)).1,(limX k' (stepX (stepX x1)) (f+(1+zar x1 6)) (p+zar (stepX x1) 2000)).2):=by
    rw[List.append_assoc,List.singleton_append];exact HG.out
   have HK:=Box.mk hk
   clear hk
   have e6:((k'+1:Nat):Int)-1=(k':Int):=by omega
   simp only[e6]
   refine DS.back (HB.out (k',f+(1+zar x1 6),p+zar (stepX x1) 2000,stepX (stepX x1),out++ [⟨f+(1+zar x1 6),p+zar (stepX x1) 2000⟩]) _ _ (by dsimp only;omega) ⟨by dsimp only;omega,by dsimp only;omega,by simp;omega,HK.out⟩ yS yS (fun b o e=>?_))
   dsimp only at e
   rw[List.map_append,List.map_singleton,Limit.cells]at e
   simp only[setS,n2,n2',n3,n3',m3,m3',↓reduceIte,zaq,zal,zaa,zah]at e ⊢
   exact e
  ·simp only[setS,zab,zac,n2,n2',n3,n3',m3,m3',↓reduceIte,List.map_cons,List.map_nil,zbc,zai,zam,zaq,zal,Nat.reduceAdd,Nat.zero_add]
   have hk:k=0:=by omega
   subst hk
   refine zbj [(bs,srcO x1)] yG (fun b o e=>?_) ⟨?_,rfl⟩
   ·simp only[zaa,zah]at e ⊢
    split at e
    ·rename_i hb;rw[if_pos hb];exact e
    ·cases e
   ·rw[limX,List.append_nil];rfl
 ·repeat' (first|with_reducible refine zak yU yU yX0 ?_|fail)
  refine zbd yR yU yU (fun b3 h3=>?_)
  have n3: ¬bs=b3:=fun e=>by simp only[zaa,e,↓reduceIte]at h3;first|(cases h3;done)|(split at h3 <;> cases h3)
  have n3': ¬b3=bs:=fun e=>n3 e.symm
  have m3: ¬b2=b3:=fun e=>by simp only[zaa,e,↓reduceIte]at h3;first|(cases h3;done)|(split at h3 <;> cases h3)
  have m3': ¬b3=b2:=fun e=>m3 e.symm
  clear h3
  repeat' (first|with_reducible refine zak yU yU yX0 ?_|refine yJ ?_|(refine zaw inferInstance (zba bs (stepX (stepX (stepX x))) 4 (by omega)) yR yX6 yX6 ?_;(try simp only[zab,zac,↓reduceIte, *]))|(refine DS.store yR yX0 yX0 yX0 yX0 yU yQ ?_;simp only[yS1];try simp only[yS2,Nat.reduceEqDiff,↓reduceIte])|fail)
  simp only[setS,zab,zac,n2,n2',n3,n3',m3,m3',↓reduceIte,List.map_cons,List.map_nil,zbc,zai,zam,zaq,zal,Nat.reduceAdd,Nat.zero_add]
  refine zpf (b:=b3) (off:=2) (e:=127) (sz:=2) (T':=31) (by simp only[zaa,zah,n3,↓reduceIte];rfl) yR ?_
  simp only[setS,n3,↓reduceIte,zaq,zal]
  generalize zcu (stepX x) 2=db
  generalize zbv x 1 20=ba
  obtain⟨N,hN⟩: ∃N:Nat,(N:Int)=zar (stepX (stepX (stepX x))) 4:=⟨(zar (stepX (stepX (stepX x))) 4).toNat,by omega⟩
  rw[←hN,Int.toNat_natCast]
  have hNb:N≤3:=by omega
  clear hN k3
  generalize stepX (stepX (stepX (stepX x)))=x0
  refine zbn [0,2,3] yN (fun(y:Nat×Int×Int×Int×List Limit)=> [(6,I y.1),(4,I y.2.1),(5,I y.2.2.1)]) (fun(y:Nat×Int×Int×Int×List Limit)=> [(bs,srcO y.2.2.2.1),(b3, .cells [I ba,Bo db, .own false 127 2 (y.2.2.2.2.map Limit.cells),I 100] 31),(b2, .cells [I 0,Bo false, .v (.slice none 0 0),I 0] 31)]) (fun(y:Nat×Int×Int×Int×List Limit)=>(0≤y.2.1∧y.2.1+6*y.1≤18)∧(0≤y.2.2.1∧y.2.2.1+2000*y.1≤6000)∧y.2.2.2.2.length+y.1≤3∧limX N x0 0 0=(y.2.2.2.2++(limX y.1 y.2.2.2.1 y.2.1 y.2.2.1).1,(limX y.1 y.2.2.2.1 y.2.1 y.2.2.1).2)) (fun(y:Nat×Int×Int×Int×List Limit)=>y.1) (N,0,0,x0,[]) yS (fun b o e=>by exact e) ⟨by dsimp only;omega,by dsimp only;omega,by simp;omega,rfl⟩ (fun y B hI hB=>?_);try dsimp only at hI hB;simp only[zad,zaf]
  obtain⟨k,f,p,x1,out⟩:=y
  dsimp only at hI hB ⊢
  obtain⟨g0,g1,g2,g3⟩:=hI
  have HG:=Box.mk g3
  rw[g3]
  have HB:=Box.mk hB
  clear g3 hB
  have q1:=zcz x1 6
  have q2:zbv x1 1 6=1+zar x1 6:=rfl
  have q3:=zcz (stepX x1) 2000
  repeat' (first|(with_reducible refine zml (t:=32) yU yX0 yX0 yX0 yX0 ?_;simp only[zal,zaq])|with_reducible refine zak yU yU yX0 ?_|refine yJ ?_|(with_reducible (refine zax yX0 ?_;refine zdz (fun _=>?_) (fun _=>?_)))|(refine zbw yU yX0 yX0 ?_;simp only[go_sem,Nat.zero_add,Nat.reduceAdd])|(refine DS.append (mm:=false) yU yX0 yX0 yU (by decide) yX0 yO2 yX0 yX14 yLM yQ2 ?_;simp only[yS2,Nat.reduceEqDiff,↓reduceIte])|(refine zaw inferInstance (zce bs x1 1 6 (by omega)) yR yX3 yX3 ?_;(try simp only[zab,zac,↓reduceIte, *]))|(refine zaw inferInstance (zba bs (stepX x1) 2000 (by omega)) yR yX3 yX3 ?_;(try simp only[zab,zac,↓reduceIte, *]))|(refine DS.store yR yX0 yX0 yX0 yX0 yU yQ ?_;simp only[yS1];try simp only[yS2,Nat.reduceEqDiff,↓reduceIte])|fail)
  ·obtain⟨k',rfl⟩: ∃k',k=k'+1:=⟨k-1,by omega⟩
   have hk:limX N x0 0 0=((out++ [⟨f+(1+zar x1 6),p+zar (stepX x1) 2000⟩])++(limX k' (stepX (stepX x1)) (f+(1+zar x1 6)) (p+zar (stepX x1) 2000)).1,(limX k' (stepX (stepX x1)) (f+(1+zar x1 6)) (p+zar (stepX x1) 2000)).2):=by
    rw[List.append_assoc,List.singleton_append];exact HG.out
   have HK:=Box.mk hk
   clear hk
   have e6:((k'+1:Nat):Int)-1=(k':Int):=by omega
   simp only[e6]
   refine DS.back (HB.out (k',f+(1+zar x1 6),p+zar (stepX x1) 2000,stepX (stepX x1),out++ [⟨f+(1+zar x1 6),p+zar (stepX x1) 2000⟩]) _ _ (by dsimp only;omega) ⟨by dsimp only;omega,by dsimp only;omega,by simp;omega,HK.out⟩ yS yS (fun b o e=>?_))
   dsimp only at e
   rw[List.map_append,List.map_singleton,Limit.cells]at e
   simp only[setS,n2,n2',n3,n3',m3,m3',↓reduceIte,zaq,zal,zaa,zah]at e ⊢
   exact e
  ·simp only[setS,zab,zac,n2,n2',n3,n3',m3,m3',↓reduceIte,List.map_cons,List.map_nil,zbc,zai,zam,zaq,zal,Nat.reduceAdd,Nat.zero_add]
   have hk:k=0:=by omega
   subst hk
   refine zbj [(bs,srcO x1)] yG (fun b o e=>?_) ⟨?_,rfl⟩
   ·simp only[zaa,zah]at e ⊢
    split at e
    ·rename_i hb;rw[if_pos hb];exact e
    ·cases e
   ·rw[limX,List.append_nil];rfl
end Go.XL
namespace Go.XL
open Go.Proofs
theorem ybp (bs:Nat) (x:Int) (s:GSet) (h:zbo s=0) (l:List Form) (hl:zep s l=0):QC Tryz.prog 22 [ptr bs,s.val,zki l] bs x (fun u=> ∃hs:House,u=hs.val∧MadeHouse hs s l) :=
 QC.of_sc (zwg (fun bs x=>yaw bs x) bs x s h l) ⟨_,rfl,yek h hl x⟩
end Go.XL
namespace Go.XL
theorem zfm {b:Nat}: ∀{S:Sto},zae S b=none→b ∉ S.map Prod.fst
 | [],_=>by simp
 | (d,v)::r,h=>by
  simp only[zae]at h
  split at h
  ·cases h
  ·rename_i hne
   simp only[List.map_cons,List.mem_cons,not_or]
   exact⟨fun e=>hne e.symm,zfm h⟩
theorem zyd {b:Nat} {o:Ob}: ∀{S:Sto},zae S b=some o→(b,o)∈S
 | (d,v)::r,h=>by
  simp only[zae]at h
  split at h
  ·rename_i e;subst e;cases h;exact .head _
  ·exact .tail _ (zyd h)
theorem zyc {b:Nat} {o:Ob}: ∀{S:Sto},(S.map Prod.fst).Nodup→(b,o)∈S→zae S b=some o
 | (d,v)::r,nd,h=>by
  simp only[List.map_cons,List.nodup_cons]at nd
  simp only[zae]
  rcases List.mem_cons.1 h with h|h
  ·cases h;rw[if_pos rfl]
  ·rw[if_neg,zyc nd.2 h]
   rintro rfl
   exact nd.1 (List.mem_map.2 ⟨_,h,rfl⟩)
theorem zol {S S':Sto} (nd:(S.map Prod.fst).Nodup) (h: ∀p∈S',p∈S): ∀d o,zae S' d=some o→zae S d=some o:=fun d o e=>zyc nd (h _ (zyd e))
theorem zqn {S S0 S1:Sto} (nd:(S.map Prod.fst).Nodup) (nd2:((S0++S1).map Prod.fst).Nodup) (h: ∀p∈S0,p∈S): ∀d o,zae S0 d=some o→zae S d=some o∧zae S1 d=none:=fun d o e=>⟨zol nd h d o e,zit fun hm=>by
 rw[List.map_append,List.nodup_append]at nd2
 exact nd2.2.2 _ (zom e) _ hm rfl⟩
end Go.XL
namespace Go.XL
open Go.Proofs
set_option maxRecDepth 100000
set_option maxHeartbeats 8000000
theorem ybg (l:List Int):DC Tryz.prog 7 [ints l] [] (fun u S'=> ∃(bs:Nat) (x:Int) (s:GSet) (fs:List Form) (h:House) (hd:Hnd) (w:Winn),u = .tup [ptr bs,h.val,hd.val,w.val]∧S'= [(bs,srcO x)]∧zbo s=0∧MadeHouse h s fs∧HandUp s.plain.toNat hd∧ ∃tile,WinIn s.players tile w):=by
 have hsh:=yij l
 refine DC.of_run Tryz.func7 rfl Tryz.ntmps7 Tryz.results7 (by simp) (fun _ _=>?_);simp only[zag,zaj,go_sem,Nat.zero_add,Nat.reduceAdd]
 repeat' (first|refine yJ ?_|fail)
 refine zbd yR yU yU (fun b3 h3=>?_)
 skip
 refine zbu (S':= [(b3,Ob.cells zdo 38)]) (fun d o e=>e) ?_
 refine zbd yR yU yU (fun b4 h4=>?_)
 have q:=zfm h4
 simp only[List.map_cons,List.map_nil,List.mem_cons,List.not_mem_nil,or_false,not_or]at q
 have qAF:=q
 clear q
 have qAA: ¬b3=b4:=fun e=>qAF e.symm
 skip
 refine zbu (S':= [(b4,Ob.cells [.v (.slice none 0 0), .v (.slice none 0 0)] 41),(b3,Ob.cells zdo 38)]) (fun d o e=>e) ?_
 refine zbd yR yU yU (fun b5 h5=>?_)
 have q:=zfm h5
 simp only[List.map_cons,List.map_nil,List.mem_cons,List.not_mem_nil,or_false,not_or]at q
 obtain⟨qAL,qAK⟩:=q
 have qAG: ¬b4=b5:=fun e=>qAL e.symm
 have qAB: ¬b3=b5:=fun e=>qAK e.symm
 clear h3 h4 h5
 repeat' (first|refine yJ ?_|fail)
 refine zbu (S':= [(b5,Ob.cells [I 0,Bo false,I 0,I 0, .v (.slice none 0 0),I 0] 43),(b4,Ob.cells [.v (.slice none 0 0), .v (.slice none 0 0)] 41),(b3,Ob.cells zdo 38)]) (fun d o e=>e) ?_
 refine DS.call (dst:=some 13) [] [(b5,Ob.cells [I 0,Bo false,I 0,I 0, .v (.slice none 0 0),I 0] 43),(b4,Ob.cells [.v (.slice none 0 0), .v (.slice none 0 0)] 41),(b3,Ob.cells zdo 38)] inferInstance hsh yR yH (fun _ _ e=>by cases e) (fun _ _ e=>⟨e,rfl⟩) (fun u S0 hu hdis=>?_)
 obtain⟨bs,x1,s,fs,hd,rfl,rfl,hs,hfs,hH⟩:=hu
 have hd0:=hdis bs _ (by simp only[zaa,↓reduceIte];exact rfl)
 have q:=zfm hd0
 simp only[List.map_cons,List.map_nil,List.mem_cons,List.not_mem_nil,or_false,not_or]at q
 obtain⟨qBB,qBA,qAZ⟩:=q
 have qAO: ¬b5=bs:=fun e=>qBB e.symm
 have qAJ: ¬b4=bs:=fun e=>qBA e.symm
 have qAE: ¬b3=bs:=fun e=>qAZ e.symm
 clear hd0 hdis hsh
 have HH:=Box.mk (And.intro hs (And.intro hfs hH))
 clear hs hfs hH
 simp only[zbk,zad,zaf]
 repeat' (first|refine yJ ?_|fail)
 refine zbd yR yU yU (fun b7 h7=>?_)
 have q:=zfm h7
 simp only[List.map_cons,List.map_nil,List.mem_cons,List.not_mem_nil,or_false,not_or]at q
 obtain⟨qAT,qAR,qAQ,qAP⟩:=q
 have qBC: ¬bs=b7:=fun e=>qAT e.symm
 have qAM: ¬b5=b7:=fun e=>qAR e.symm
 have qAH: ¬b4=b7:=fun e=>qAQ e.symm
 have qAC: ¬b3=b7:=fun e=>qAP e.symm
 clear h7
 skip
 refine zbd yR yU yU (fun b9 h9=>?_)
 have q:=zfm h9
 simp only[List.map_cons,List.map_nil,List.mem_cons,List.not_mem_nil,or_false,not_or]at q
 obtain⟨qAX,qAY,qAW,qAV,qAU⟩:=q
 have qAS: ¬b7=b9:=fun e=>qAX e.symm
 have qBD: ¬bs=b9:=fun e=>qAY e.symm
 have qAN: ¬b5=b9:=fun e=>qAW e.symm
 have qAI: ¬b4=b9:=fun e=>qAV e.symm
 have qAD: ¬b3=b9:=fun e=>qAU e.symm
 clear h9
 have hz2:(Value.agg #[Value.slice none 0 0,Value.slice none 0 0]).cells.toList.map V.v= [.v (.slice none 0 0), .v (.slice none 0 0)]:=rfl
 have hz3:(Value.agg #[.int .i64 0, .slice none 0 0, .int .i64 0, .int .i64 0, .int .i64 0, .int .i64 0, .int .i64 0, .int .i64 0, .slice none 0 0]).cells.toList.map V.v= [.v (.int .i64 0), .v (.slice none 0 0), .v (.int .i64 0), .v (.int .i64 0), .v (.int .i64 0), .v (.int .i64 0), .v (.int .i64 0), .v (.int .i64 0), .v (.slice none 0 0)]:=rfl
 rw[hz2,hz3]
 clear hz2 hz3
 repeat' (first|refine yJ ?_|(refine DS.store yR yE yE yE yE yU yQ ?_;simp only[yS1];try simp only[yS2,Nat.reduceEqDiff,↓reduceIte])|fail)
 try (simp only[setS,zab,zac,zad,zaf,qAF,qAA,qAL,qAG,qAK,qAB,qBB,qAO,qBA,qAJ,qAZ,qAE,qAT,qBC,qAR,qAM,qAQ,qAH,qAP,qAC,qAX,qAS,qAY,qBD,qAW,qAN,qAV,qAI,qAU,qAD,↓reduceIte,List.map_cons,List.map_nil,zbc,zbb,zbf,zai,zam,zaq,zal,Nat.reduceAdd,Nat.zero_add])
 have hbl:hd.bag.length≤1000:=by
  have:=(zcb HH.out.1).plain
  have:=HH.out.2.2.bag.len
  omega
 refine zht (t:=9) (b:=b9) yH (by simp only[zaa,↓reduceIte];rfl) ?_
 simp only[zab,zac,qAF,qAA,qAL,qAG,qAK,qAB,qBB,qAO,qBA,qAJ,qAZ,qAE,qAT,qBC,qAR,qAM,qAQ,qAH,qAP,qAC,qAX,qAS,qAY,qBD,qAW,qAN,qAV,qAI,qAU,qAD,↓reduceIte,List.map_cons,List.map_nil,zbc,zbb]
 refine zht (t:=7) (b:=b7) yH (by simp only[zaa,↓reduceIte];rfl) ?_
 simp only[zab,zac,qAF,qAA,qAL,qAG,qAK,qAB,qBB,qAO,qBA,qAJ,qAZ,qAE,qAT,qBC,qAR,qAM,qAQ,qAH,qAP,qAC,qAX,qAS,qAY,qBD,qAW,qAN,qAV,qAI,qAU,qAD,↓reduceIte,List.map_cons,List.map_nil,zbc,zbb]
 refine zkh inferInstance (ybp bs x1 s HH.out.1 fs HH.out.2.1) yR yH (by(simp (disch:=omega) only[go_sem,dopV,yV0,↓reduceIte,Nat.reduceEqDiff,Nat.reduceLT,Nat.reduceLeDiff,Nat.reduceAdd,Nat.reduceMul,Nat.reduceSub,Int.reduceToNat,Int.reduceLT,Int.reduceLE,Int.reduceEq,IntWalk.toNatUp,IntWalk.iteOmega,IntWalk.i64_in,V.flat,V.one,qAF,qAA,qAL,qAG,qAK,qAB,qBB,qAO,qBA,qAJ,qAZ,qAE,qAT,qBC,qAR,qAM,qAQ,qAH,qAP,qAC,qAX,qAS,qAY,qBD,qAW,qAN,qAV,qAI,qAU,qAD];try exact rfl)) (fun u x2 hu=>?_)
 obtain⟨h,rfl,hM⟩:=hu
 have HM:=Box.mk hM
 clear hM
 simp only[zab,zac,qAF,qAA,qAL,qAG,qAK,qAB,qBB,qAO,qBA,qAJ,qAZ,qAE,qAT,qBC,qAR,qAM,qAQ,qAH,qAP,qAC,qAX,qAS,qAY,qBD,qAW,qAN,qAV,qAI,qAU,qAD,↓reduceIte]
 repeat' (first|refine yJ ?_|(refine zbt (t:=10) yU yE yU (fun _=>yE) yE yU yV1 (fun _=>yN1) ?_;simp only[go_sem])|fail)
 refine zbx (id:=3) ([]) ([(bs,srcO x2),(b5,Ob.cells [I 0,Bo false,I 0,I 0, .v (.slice none 0 0),I 0] 43),(b4,Ob.cells [.v (.slice none 0 0), .v (.slice none 0 0)] 41),(b3,Ob.cells zdo 38)]) [0,1,2,3,4,5,6,7,8,9,10,11] 12 yKR mixed yP1 yP2 ((fun d o e=>by cases e)) ((fun d o e=>e)) ?_
 repeat' (first|with_reducible refine zau yU yU yU yE ?_|fail)
 refine zii [(bs,srcO x2)] [(b5,Ob.cells [I 0,Bo false,I 0,I 0, .v (.slice none 0 0),I 0] 43),(b4,Ob.cells [.v (.slice none 0 0), .v (.slice none 0 0)] 41),(b3,Ob.cells zdo 38)] inferInstance (yqk bs x2 hd.bag hbl) yR yH (zol (by simp only[List.map_cons,List.map_nil,List.cons_append,List.nil_append,List.nodup_cons,List.mem_cons,List.not_mem_nil,or_false,not_or,List.nodup_nil,not_false_eq_true,and_true,and_self,qAF,qAA,qAL,qAG,qAK,qAB,qBB,qAO,qBA,qAJ,qAZ,qAE,qAT,qBC,qAR,qAM,qAQ,qAH,qAP,qAC,qAX,qAS,qAY,qBD,qAW,qAN,qAV,qAI,qAU,qAD]) (List.forall_mem_cons.2 ⟨(.head _),(List.forall_mem_nil _)⟩)) (zqn (by simp only[List.map_cons,List.map_nil,List.cons_append,List.nil_append,List.nodup_cons,List.mem_cons,List.not_mem_nil,or_false,not_or,List.nodup_nil,not_false_eq_true,and_true,and_self,qAF,qAA,qAL,qAG,qAK,qAB,qBB,qAO,qBA,qAJ,qAZ,qAE,qAT,qBC,qAR,qAM,qAQ,qAH,qAP,qAC,qAX,qAS,qAY,qBD,qAW,qAN,qAV,qAI,qAU,qAD]) (by simp only[List.map_cons,List.map_nil,List.cons_append,List.nil_append,List.nodup_cons,List.mem_cons,List.not_mem_nil,or_false,not_or,List.nodup_nil,not_false_eq_true,and_true,and_self,qAF,qAA,qAL,qAG,qAK,qAB,qBB,qAO,qBA,qAJ,qAZ,qAE,qAT,qBC,qAR,qAM,qAQ,qAH,qAP,qAC,qAX,qAS,qAY,qBD,qAW,qAN,qAV,qAI,qAU,qAD]) (List.forall_mem_cons.2 ⟨(.tail _ (.head _)),(List.forall_mem_cons.2 ⟨(.tail _ (.tail _ (.head _))),(List.forall_mem_cons.2 ⟨(.tail _ (.tail _ (.tail _ (.head _)))),(List.forall_mem_nil _)⟩)⟩)⟩)) (zmh yKR) (fun u S' hu hdis=>?_)
 obtain⟨⟨tk,rfl,htk⟩,x3,rfl⟩:=hu
 clear hdis htk
 simp only[zad,zaf,zas,zat,Nat.reduceEqDiff,↓reduceIte]
 skip
 refine zii [(bs,srcO x3)] [(b5,Ob.cells [I 0,Bo false,I 0,I 0, .v (.slice none 0 0),I 0] 43),(b4,Ob.cells [.v (.slice none 0 0), .v (.slice none 0 0)] 41),(b3,Ob.cells zdo 38)] inferInstance (yic bs x3 s HH.out.1 tk) yR yH (zol (by simp only[List.map_cons,List.map_nil,List.cons_append,List.nil_append,List.nodup_cons,List.mem_cons,List.not_mem_nil,or_false,not_or,List.nodup_nil,not_false_eq_true,and_true,and_self,qAF,qAA,qAL,qAG,qAK,qAB,qBB,qAO,qBA,qAJ,qAZ,qAE,qAT,qBC,qAR,qAM,qAQ,qAH,qAP,qAC,qAX,qAS,qAY,qBD,qAW,qAN,qAV,qAI,qAU,qAD]) (List.forall_mem_cons.2 ⟨(.head _),(List.forall_mem_nil _)⟩)) (zqn (by simp only[List.map_cons,List.map_nil,List.cons_append,List.nil_append,List.nodup_cons,List.mem_cons,List.not_mem_nil,or_false,not_or,List.nodup_nil,not_false_eq_true,and_true,and_self,qAF,qAA,qAL,qAG,qAK,qAB,qBB,qAO,qBA,qAJ,qAZ,qAE,qAT,qBC,qAR,qAM,qAQ,qAH,qAP,qAC,qAX,qAS,qAY,qBD,qAW,qAN,qAV,qAI,qAU,qAD]) (by simp only[List.map_cons,List.map_nil,List.cons_append,List.nil_append,List.nodup_cons,List.mem_cons,List.not_mem_nil,or_false,not_or,List.nodup_nil,not_false_eq_true,and_true,and_self,qAF,qAA,qAL,qAG,qAK,qAB,qBB,qAO,qBA,qAJ,qAZ,qAE,qAT,qBC,qAR,qAM,qAQ,qAH,qAP,qAC,qAX,qAS,qAY,qBD,qAW,qAN,qAV,qAI,qAU,qAD]) (List.forall_mem_cons.2 ⟨(.tail _ (.head _)),(List.forall_mem_cons.2 ⟨(.tail _ (.tail _ (.head _))),(List.forall_mem_cons.2 ⟨(.tail _ (.tail _ (.tail _ (.head _)))),(List.forall_mem_nil _)⟩)⟩)⟩)) (zmh yKR) (fun u S' hu hdis=>?_)
 obtain⟨⟨w,rfl,hw⟩,x4,rfl⟩:=hu
 have HW:=Box.mk hw
 clear hdis hw
 simp only[zad,zaf,zas,zat,Nat.reduceEqDiff,↓reduceIte]
 repeat' (first|with_reducible refine zau yU yU yU yE ?_|fail)
 refine DD.store (b:=b3) (off:=0) (m:=46) (cl:=zdo) (T':=38) yR yH yG yU (by simp only[zaa,qAF,qAA,qAL,qAG,qAK,qAB,qBB,qAO,qBA,qAJ,qAZ,qAE,qAT,qBC,qAR,qAM,qAQ,qAH,qAP,qAC,qAX,qAS,qAY,qBD,qAW,qAN,qAV,qAI,qAU,qAD,↓reduceIte]) yR ⟨by rfl,by decide⟩ (fun _=>MpOk.nil) ?_
 rw[zfj _ _ yR]
 simp only[setS,qAF,qAA,qAL,qAG,qAK,qAB,qBB,qAO,qBA,qAJ,qAZ,qAE,qAT,qBC,qAR,qAM,qAQ,qAH,qAP,qAC,qAX,qAS,qAY,qBD,qAW,qAN,qAV,qAI,qAU,qAD,↓reduceIte,zgv]
 refine DD.nil ?_
 simp only[zad,zaf]
 repeat' (first|refine yJ ?_|(refine DS.store yR yE yE yE yE yU yQ ?_;simp only[yS1];try simp only[yS2,Nat.reduceEqDiff,↓reduceIte])|fail)
 simp only[setS,qAF,qAA,qAL,qAG,qAK,qAB,qBB,qAO,qBA,qAJ,qAZ,qAE,qAT,qBC,qAR,qAM,qAQ,qAH,qAP,qAC,qAX,qAS,qAY,qBD,qAW,qAN,qAV,qAI,qAU,qAD,↓reduceIte,zai,zam,zaq,zal,Nat.reduceAdd,Nat.zero_add,List.map_cons,List.map_nil,zbc,zbb]
 refine zbj [(bs,srcO x4)] (by(simp (disch:=omega) only[go_sem,dopV,yV0,↓reduceIte,Nat.reduceEqDiff,Nat.reduceLT,Nat.reduceLeDiff,Nat.reduceAdd,Nat.reduceMul,Nat.reduceSub,Int.reduceToNat,Int.reduceLT,Int.reduceLE,Int.reduceEq,IntWalk.toNatUp,IntWalk.iteOmega,IntWalk.i64_in,V.flat,V.one,qAF,qAA,qAL,qAG,qAK,qAB,qBB,qAO,qBA,qAJ,qAZ,qAE,qAT,qBC,qAR,qAM,qAQ,qAH,qAP,qAC,qAX,qAS,qAY,qBD,qAW,qAN,qAV,qAI,qAU,qAD];exact rfl)) (fun d o e=>?_) ?_
 ·simp only[zaa,zah]at e ⊢
  split at e
  ·rename_i hq;subst hq;simp only[↓reduceIte];exact e
  ·cases e
 ·exact⟨bs,x4,s,fs,h,hd,w,rfl,rfl,HH.out.1,HM.out,HH.out.2.2,tk,HW.out⟩
end Go.XL
