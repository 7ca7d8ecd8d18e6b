/- A part of a program logic over the kit's walk rules, and contracts of functions in it. Conditions: as each theorem says. -/
import Derived.Test.YtoihlmdcgagegaaGreatDoorR7
set_option linter.all false
namespace Go.XL
open Go.Proofs
set_option maxRecDepth 100000
set_option maxHeartbeats 8000000
theorem lookS_ne {b:Nat}: ∀{S:Sto},lookS S b=none→b ∉ S.map Prod.fst
 | [],_=>by simp
 | (d,o)::r,h=>by
  simp only[lookS]at h
  split at h
  ·cases h
  ·rename_i hne
   simp only[List.map_cons,List.mem_cons,not_or]
   exact⟨fun e=>hne e.symm,lookS_ne h⟩
structure GrpG (bl:List Nat) (l:List Grp) (g:GR):Prop where
 l:g.l=l.map Grp.cells
 ok:g.Ok 143 3 (SRg 143 g)
 nb:NBg bl g
structure HandIn (n:Nat) (h:Hnd):Prop where
 bag:Bag n 1000 h.bag
 melds:h.melds.length≤4
 kinds:MeldsIn n h.melds
theorem zerosR (n:Nat):zerosV (.int .i64 0) n=(List.replicate n (0:Int)).map fun x=>I x:=by
 rw[zerosV];induction n with
 | zero=>rfl
 | succ n ih=>rw[List.replicate_succ,List.replicate_succ,List.map_cons,List.flatten_cons,ih];rfl
section
variable {P:Program} {n:Nat} {r:Rr} {Q:VEnv→Sto→Prop} {k:List Fr} {E:VEnv} {S:Sto} {ops l:List Oper} {ty:TypeId} {pos:String} {af:Array Edge} {ts:Array TypeId}
theorem DS.putK {t b cap m:Nat} {c:Int} {L ks:List Int} {xs:Array Operand} (hl:Bag m c L) (hk:KindsIn m ks) (hc:0≤c∧c≤1000000) (hm:m≤1000) (hks:ks.length≤1000) (hd:decide (t<n)=true)
  (he:(evsV (evV E) xs.toList).map (·.map V.peek)=some [.v (.slice (some ⟨b,0,none⟩) m cap),ints ks]) (hS:lookS S b=some (.cells (L.map fun x=>I x) 3))
  (q:DS Tryz.prog n r Q (.ops ops l::k) ((t, .tup [])::E) ((b, .cells ((putB L ks).map fun x=>I x) 3)::delS b S)) :
  DS Tryz.prog n r Q (.ops ops (⟨some t, .call {callee := .value (.func 131),args:=xs,argTypes:=ts},ty,pos,af,none⟩::l)::k) E S:=by
 refine DS.call (dst:=some t) [(b, .cells (L.map fun x=>I x) 3)] (delS b S) inferInstance (put_dc b cap 3 m c L ks hl hk hc hm hks) hd he (one_in hS).1 (one_in hS).2 ?_
 rintro u S' ⟨rfl,rfl⟩ -
 exact q
end
theorem chunk_objK (l:List Int):chunk 1 l.length ((l.map fun x=>I x).map V.peek)=l.map cI:=by
 have:=chunk_flg (sz:=1) [] (l:=l.map cI) (fun c hc=>by obtain⟨y,-,rfl⟩:=List.mem_map.1 hc;rfl)
 rw[List.length_map,ints_flatI,List.append_nil]at this
 rw[List.map_map]
 exact this
theorem NBg.sub {bl bl':List Nat} {g:GR} (h:NBg bl g) (hs: ∀b∈bl',b∈bl):NBg bl' g:=fun b cap j e hm=>h b cap j e (hs b hm)
theorem yX13 {p:Prop} (h:p:=by(simp (disch:=omega) only[go_sem,dopV,yV0,↓reduceIte,Nat.reduceEqDiff,Nat.reduceLT,Nat.reduceLeDiff,Nat.reduceAdd,Nat.reduceMul,Nat.reduceSub,Int.reduceToNat,Int.reduceLT,Int.reduceLE,Int.reduceEq,IntWalk.toNatUp,IntWalk.iteOmega,IntWalk.i64_in,V.flat,V.one, *,GR.cell_copy];exact rfl)):p:=h
theorem yX14 {p:Prop} (h:p:=by(simp (disch:=omega) only[go_sem,dopV,yV0,↓reduceIte,Nat.reduceEqDiff,Nat.reduceLT,Nat.reduceLeDiff,Nat.reduceAdd,Nat.reduceMul,Nat.reduceSub,Int.reduceToNat,Int.reduceLT,Int.reduceLE,Int.reduceEq,IntWalk.toNatUp,IntWalk.iteOmega,IntWalk.i64_in,V.flat,V.one, *,GR.cell_copy,Value.oneCell'];exact rfl)):p:=h
theorem yX15 {p:Prop} (h:p:=by first|exact rfl|(simp (disch:=omega) only[go_sem,dopV,yV0,↓reduceIte,Nat.reduceEqDiff,Nat.reduceLT,Nat.reduceLeDiff,Nat.reduceAdd,Nat.reduceMul,Nat.reduceSub,Int.reduceToNat,Int.reduceLT,Int.reduceLE,Int.reduceEq,IntWalk.toNatUp,IntWalk.iteOmega,IntWalk.i64_in,V.flat,V.one, *,GR.cell_copy];exact rfl)):p:=h
theorem yX16 {p:Prop} (h:p:=by(simp (disch:=omega) only[go_sem,dopV,yV0,↓reduceIte,Nat.reduceEqDiff,Nat.reduceLT,Nat.reduceLeDiff,Nat.reduceAdd,Nat.reduceMul,Nat.reduceSub,Int.reduceToNat,Int.reduceLT,Int.reduceLE,Int.reduceEq,IntWalk.toNatUp,IntWalk.iteOmega,IntWalk.i64_in,V.flat,V.one, *,GR.cell_copy];try exact rfl)):p:=h
theorem built_qc (bs:Nat) (x:Int) (s:GSet) (h:gsetS s=0):QC Tryz.prog 82 [ptr bs,s.val] bs x (fun u=> ∃(hd:Hnd) (gs:List Grp) (r:Bool),u = .tup [hd.val,grpsV gs,Bo r]∧HandIn s.plain.toNat hd):=by
 have ok:=gset_ok h
 have hp:=kitPlain_pc s ok.few
 have hpl:=ok.plain
 have hme:=ok.melds
 have hmd:=fun x d=>meld_qc bs x s h d
 have htl:=fun g hk=>tilesG_qp s h g hk
 obtain⟨N,hN⟩: ∃N:Nat,s.plain=N:=⟨s.plain.toNat,by omega⟩
 rw[hN]at hp hpl hmd htl ⊢
 simp only[Int.toNat_natCast]at htl ⊢
 have hNm:N≤maxLen:=Nat.le_trans (show N≤34 by omega) (by decide)
 have hfi:=fun(al ks:List Int) (c:Int) hB hk hks hc=>fits_pc s N c al ks hB hk hc (by omega) hks
 obtain⟨y1,e1⟩: ∃y,stepX x=y:=⟨_,rfl⟩
 obtain⟨y2,e2⟩: ∃y,stepX y1=y:=⟨_,rfl⟩
 have c1:=below_sc bs x 2 (by omega)
 have b1x:=below_lt (x:=x) (n:=2) (by omega)
 have c2:=below_sc bs y1 (s.melds+1) (by omega)
 have b2x:=below_lt (x:=y1) (n:=s.melds+1) (by omega)
 rw[e1]at c1
 rw[e2]at c2
 generalize belowX x 2=dA at *
 generalize belowX y1 (s.melds+1)=dB at *
 have hd1:0≤dA*dB∧dA*dB≤4:=by
  have hz:dA=0∨dA=1:=by omega
  rcases hz with rfl|rfl <;> omega
 clear e1 e2 ok h hN
 have HF:=Box.mk (And.intro hmd (And.intro htl hfi))
 clear hmd htl hfi
 unfold QC
 refine DC.of_run Tryz.func82 rfl Tryz.ntmps82 Tryz.results82 (by simp) (fun _ _=>?_);simp only[argV_cons,argV_nil,go_sem,Nat.zero_add,Nat.reduceAdd]
 repeat' (first|refine yJ ?_|(refine DS.boxF (t:=3) yU yE yU ?_;simp only[yS3])|fail)
 refine DS.allocS yR yU yU (fun b4 h4=>?_)
 have q:=lookS_ne h4
 simp only[List.map_cons,List.map_nil,List.mem_cons,List.not_mem_nil,or_false,not_or]at q
 have p0:=q
 have qAL: ¬b4=bs:=p0
 have qAS: ¬bs=b4:=fun e=>p0 e.symm
 clear h4 p0
 repeat' (first|refine yJ ?_|refine DS.pcS inferInstance (hp) yR yT ?_|(refine DS.mkS yU yE yE yE yE yU yU ⟨by omega,by omega,by decide,by omega⟩ (fun _ hfr=>?_))|fail)
 rename_i b1
 have h1:=hfr
 clear hfr
 have hz:(Value.agg #[Value.slice none 0 0,Value.slice none 0 0]).cells.toList.map V.v= [.v (.slice none 0 0), .v (.slice none 0 0)]:=rfl
 rw[hz]
 simp only[Int.toNat_natCast]
 rw[zerosR]
 have q:=lookS_ne h1
 simp only[List.map_cons,List.map_nil,List.mem_cons,List.not_mem_nil,or_false,not_or]at q
 obtain⟨p0,p1⟩:=q
 have qAB: ¬b1=b4:=p0
 have qAI: ¬b4=b1:=fun e=>p0 e.symm
 have qAD: ¬b1=bs:=p1
 have qAQ: ¬bs=b1:=fun e=>p1 e.symm
 clear h1 p0 p1
 refine DS.allocS yR yU yU (fun b7 h7=>?_)
 have q:=lookS_ne h7
 simp only[List.map_cons,List.map_nil,List.mem_cons,List.not_mem_nil,or_false,not_or]at q
 obtain⟨p0,p1,p2⟩:=q
 have qAM: ¬b7=b1:=p0
 have qAC: ¬b1=b7:=fun e=>p0 e.symm
 have qAO: ¬b7=b4:=p1
 have qAK: ¬b4=b7:=fun e=>p1 e.symm
 have qAP: ¬b7=bs:=p2
 have qAT: ¬bs=b7:=fun e=>p2 e.symm
 clear h7 p0 p1 p2
 rw[hz]
 repeat' (first|(with_reducible first|(refine DS.nilOwn (t:=9) yU yO yX6 ?_)|refine DS.fltS yU yU yX6 ?_)|refine yJ ?_|refine DS.pcS inferInstance (hp) yR yX12 ?_|(refine DS.mkS yU yX6 yX6 yX6 yX6 yU yU ⟨by omega,by omega,by decide,by omega⟩ (fun _ hfr=>?_))|(refine DS.store yR yX6 yX6 yX6 yX6 yU yQ ?_;simp only[yS1];try simp only[yS2,Nat.reduceEqDiff,↓reduceIte])|fail)
 rename_i b2
 have h2:=hfr
 clear hfr
 simp only[setS,qAS,qAQ,qAT,qAL,qAI,qAK,qAD,qAB,qAC,qAP,qAO,qAM,↓reduceIte,List.map_cons,List.map_nil,copy_v,setAll_cons,setAll_nil,set_cons',set_zero',Nat.reduceAdd,Nat.zero_add]at h2 ⊢
 have q:=lookS_ne h2
 simp only[List.map_cons,List.map_nil,List.mem_cons,List.not_mem_nil,or_false,not_or]at q
 obtain⟨p0,p1,p2,p3⟩:=q
 have qAG: ¬b2=b7:=p0
 have qAN: ¬b7=b2:=fun e=>p0 e.symm
 have qAE: ¬b2=b1:=p1
 have qAA: ¬b1=b2:=fun e=>p1 e.symm
 have qAF: ¬b2=b4:=p2
 have qAJ: ¬b4=b2:=fun e=>p2 e.symm
 have qAH: ¬b2=bs:=p3
 have qAR: ¬bs=b2:=fun e=>p3 e.symm
 clear h2 p0 p1 p2 p3
 simp only[Int.toNat_natCast]
 rw[zerosR]
 skip
 (refine DS.drawX (id:=4) (bs:=bs) (x:=x) (by simp only[lookS_cons,lookS_nil,↓reduceIte, *]) [0,1,2,3,4,5] 6 yKR mixed yP1 yP2 ?_;simp only[delS_cons,delS_nil,↓reduceIte, *])
 repeat' (first|with_reducible refine DS.fltS yU yU yX6 ?_|refine yJ ?_|(refine DS.scS inferInstance (c2) yR yX9 yX9 ?_;(try simp only[delS_cons,delS_nil,↓reduceIte, *]))|with_reducible refine DD.fltS yU yU yU yX6 ?_|(with_reducible refine DD.nil ?_;simp only[app_cons',app_nil'])|(refine DD.scS inferInstance (c1) yU yX9 yX9 ?_;simp only[delV_cons',delV_nil',Nat.reduceEqDiff,↓reduceIte];(try simp only[delS_cons,delS_nil,↓reduceIte, *]))|fail)
 generalize dA*dB=d at *
 trace_state
 refine DS.reS (S':=(bs,srcO y2):: [(b7,Ob.cells [.v (.slice (some ⟨b1,0,none⟩) N N), .v (.slice none 0 0)] 33),(b4,Ob.cells [.v (.slice none 0 0), .v (.slice none 0 0)] 33),(b1,Ob.cells ((List.replicate N (0:Int)).map fun x=>I x) 3),(b2,Ob.cells ((List.replicate N (0:Int)).map fun x=>I x) 3)]) (fun d o e=>?_) ?_
 simp only[lookS_cons,lookS_nil,app_cons',app_nil']at e ⊢
 by_cases q0:bs=d
 ·subst q0;simp only[qAT,qAP,qAS,qAL,qAQ,qAD,qAR,qAH,↓reduceIte]at e ⊢;exact e
 by_cases q1:b7=d
 ·subst q1;simp only[qAP,qAT,qAO,qAK,qAM,qAC,qAN,qAG,↓reduceIte]at e ⊢;exact e
 by_cases q2:b4=d
 ·subst q2;simp only[qAL,qAS,qAK,qAO,qAI,qAB,qAJ,qAF,↓reduceIte]at e ⊢;exact e
 by_cases q3:b1=d
 ·subst q3;simp only[qAD,qAQ,qAC,qAM,qAB,qAI,qAA,qAE,↓reduceIte]at e ⊢;exact e
 by_cases q4:b2=d
 ·subst q4;simp only[qAH,qAR,qAG,qAN,qAF,qAJ,qAE,qAA,↓reduceIte]at e ⊢;exact e
 simp only[q0,q1,q2,q3,q4,↓reduceIte]at e
 exact absurd e (by simp)
 have hg0: ∀(l:List Grp) (g:GR),GrpG [bs,b7,b4,b1,b2] l g→lenV' Tryz.prog 31 g.cell=some (I l.length):=fun l g hg=>by
  obtain⟨gl,blk⟩:=g
  have h1:gl=l.map Grp.cells:=hg.l
  cases blk with
  | none =>
   have h2:gl= []:=hg.ok
   rw[h2]at h1
   have h3:l= []:=List.map_eq_nil_iff.1 h1.symm
   subst h3
   with_unfolding_all rfl
  | some x =>
   subst h1
   have:lenV' Tryz.prog 31 (GR.cell ⟨l.map Grp.cells,some x⟩)=some (I ((l.map Grp.cells).length:Int)):=by with_unfolding_all rfl
   rw[this,List.length_map]
 have HG:=Box.mk hg0
 clear hg0
 refine DS.loopS [0,3,4,7,8,10] yN (fun(y:Nat×Int×List Grp×GR×List Grp×List Int×List Int)=> [(9, .own false 143 3 (y.2.2.2.2.1.map Grp.cells)),(11,I y.1)]) (fun(y:Nat×Int×List Grp×GR×List Grp×List Int×List Int)=>(bs,srcO y.2.1):: [(b7,Ob.cells [.v (.slice (some ⟨b1,0,none⟩) N N),y.2.2.2.1.cell] 33),(b4,Ob.cells [.v (.slice none 0 0), .v (.slice none 0 0)] 33),(b1,Ob.cells (y.2.2.2.2.2.2.map fun x=>I x) 3),(b2,Ob.cells (y.2.2.2.2.2.1.map fun x=>I x) 3)]++SRg 143 y.2.2.2.1) (fun(y:Nat×Int×List Grp×GR×List Grp×List Int×List Int)=>(y.1≤80∧y.2.2.1.length+y.2.2.2.2.1.length≤4)∧(MeldsIn N y.2.2.1∧MeldsIn N y.2.2.2.2.1)∧(Bag N (4*y.1) y.2.2.2.2.2.1∧Bag N (4*y.1) y.2.2.2.2.2.2)∧GrpG [bs,b7,b4,b1,b2] y.2.2.1 y.2.2.2.1) (fun(y:Nat×Int×List Grp×GR×List Grp×List Int×List Int)=>80-y.1) (0,y2,[],⟨[],none⟩,[],List.replicate N 0,List.replicate N 0) yS (fun b o e=>by exact e) ⟨⟨Nat.zero_le _,Nat.zero_le _⟩,⟨(fun g hg=>by cases hg),(fun g hg=>by cases hg)⟩,⟨Bag.zero N (by dsimp only;omega),Bag.zero N (by dsimp only;omega)⟩,⟨rfl,rfl,NBg.none _ _⟩⟩ (fun y B hI hB=>?_);try dsimp only at hI hB;simp only[app_cons',app_nil']
 obtain⟨tr,z,melds,g,gs,al,bag⟩:=y
 dsimp only at hI hB ⊢
 obtain⟨⟨i1,i2⟩,⟨i3,i4⟩,⟨i5,i6⟩,i7⟩:=hI
 have hln:=HG.out melds g i7
 have H:=Box.mk (And.intro i7 (And.intro i3 (And.intro i4 (And.intro i5 (And.intro i6 hB)))))
 have hdel:=i7.nb.del 143 (c:=bs) (by simp)
 have hdel1:=i7.nb.del 143 (c:=b1) (by simp)
 have hdel2:=i7.nb.del 143 (c:=b2) (by simp)
 clear i3 i4 i5 i6 i7 hB
 by_cases ht:(tr:Int)<80
 ·by_cases hm:(melds.length:Int)+gs.length<s.melds
  ·repeat' (first|with_reducible refine DS.fltS yU yU yX13 ?_|refine yJ ?_|(with_reducible first|(refine DS.cE yX13 ?_;refine CG.yes ?_)|(refine DS.gE yU yX13 ?_;refine GG.run ?_))|fail)
   refine DS.qc inferInstance (HF.out.1 z (decide ((melds.length:Int)<d))) yR yH yH (fun u x' hu=>?_)
   obtain⟨g1,rfl,hk1,hk2⟩:=hu
   simp only[delS_cons,delS_nil,app_cons',app_nil',qAS,qAQ,qAT,qAR,qAL,qAI,qAK,qAJ,qAD,qAB,qAC,qAA,qAP,qAO,qAM,qAN,qAH,qAF,qAE,qAG,↓reduceIte,hdel]
   repeat' (first|with_reducible refine DS.fltS yU yU yX14 ?_|refine yJ ?_|(refine DS.letF (t:=13) yU yX14 yU (fun _=>yX14) yX14 yU yV1 (fun _=>yN1) ?_;simp only[go_sem])|fail)
   refine DS.qp inferInstance (HF.out.2.1 g1 ⟨hk1,hk2⟩) yR yH (fun u hu=>?_)
   obtain⟨ks,rfl,hks,hkl⟩:=hu
   by_cases h0:(ks.length:Int)=0
   ·repeat' (first|with_reducible refine DS.fltS yU yU yX13 ?_|refine yJ ?_|(with_reducible first|(refine DS.cE yX13 ?_;refine CG.yes ?_)|(refine DS.gE yU yX13 ?_;refine GG.sT ?_))|fail)
    refine DS.back (H.out.2.2.2.2.2 (tr+1,x',melds,g,gs,al,bag) _ _ (by dsimp only;omega) ⟨⟨by dsimp only;omega,by dsimp only;omega⟩,⟨H.out.2.1,H.out.2.2.1⟩,⟨H.out.2.2.2.1.mono (by dsimp only;omega),H.out.2.2.2.2.1.mono (by dsimp only;omega)⟩,H.out.1⟩ yS yS (fun d o e=>e))
   ·repeat' (first|with_reducible refine DS.fltS yU yU yX13 ?_|refine yJ ?_|(with_reducible (refine DS.gE yU yX13 ?_;refine GG.run ?_))|fail)
    refine DS.lendJ (A:= [.agg s.cells]) (B:= [.lst (ks.map cI)]) (R:=fun u _=> ∃r:Bool,u=Bo r) (b:=b2) (len:=N) (cap:=N) (T:=3) (L:=al) inferInstance yR yH (HF.out.2.2 al ks (4*tr) H.out.2.2.2.1 hks (by omega) (by omega)) (by simp only[lookS_cons,app_cons',qAS,qAQ,qAT,qAR,qAL,qAI,qAK,qAJ,qAD,qAB,qAC,qAA,qAP,qAO,qAM,qAN,qAH,qAF,qAE,qAG,↓reduceIte]) H.out.2.2.2.1.len ⟨Nat.le_refl _,hNm⟩ (fun v S' ⟨r,hr⟩=>⟨_,hr⟩) (fun u hu=>?_)
    obtain⟨S0,r,hr⟩:=hu
    cases hr
    cases r with
    | false =>
     repeat' (first|with_reducible refine DS.fltS yU yU yX13 ?_|refine yJ ?_|(with_reducible first|(refine DS.cE yX13 ?_;refine CG.yes ?_)|(refine DS.gE yU yX13 ?_;refine GG.run ?_))|fail)
     refine DS.back (H.out.2.2.2.2.2 (tr+1,x',melds,g,gs,al,bag) _ _ (by dsimp only;omega) ⟨⟨by dsimp only;omega,by dsimp only;omega⟩,⟨H.out.2.1,H.out.2.2.1⟩,⟨H.out.2.2.2.1.mono (by dsimp only;omega),H.out.2.2.2.2.1.mono (by dsimp only;omega)⟩,H.out.1⟩ yS yS (fun d o e=>e))
    | true =>
     repeat' (first|with_reducible refine DS.fltS yU yU yX13 ?_|refine yJ ?_|(with_reducible first|(refine DS.cE yX13 ?_;refine CG.no ?_)|(refine DS.gE yU yX13 ?_;refine GG.run ?_))|fail)
     refine DS.putK (b:=b2) (cap:=N) (m:=N) (c:=4*tr) (L:=al) (ks:=ks) H.out.2.2.2.1 hks (by omega) (by omega) (by omega) yR yH (by simp only[lookS_cons,app_cons',qAS,qAQ,qAT,qAR,qAL,qAI,qAK,qAJ,qAD,qAB,qAC,qAA,qAP,qAO,qAM,qAN,qAH,qAF,qAE,qAG,↓reduceIte]) ?_
     have hB2:=(H.out.2.2.2.1.putB hks).mono (d:=4*((tr:Int)+1)) (by omega)
     have hB1:=(H.out.2.2.2.2.1.putB hks).mono (d:=4*((tr:Int)+1)) (by omega)
     have HBB:=Box.mk (And.intro hB1 hB2)
     clear hB1 hB2
     simp only[delS_cons,delS_nil,app_cons',app_nil',qAS,qAQ,qAT,qAR,qAL,qAI,qAK,qAJ,qAD,qAB,qAC,qAA,qAP,qAO,qAM,qAN,qAH,qAF,qAE,qAG,↓reduceIte,hdel2]
     refine DS.reS (S':=(bs,srcO x'):: [(b7,Ob.cells [.v (.slice (some ⟨b1,0,none⟩) N N),g.cell] 33),(b4,Ob.cells [.v (.slice none 0 0), .v (.slice none 0 0)] 33),(b1,Ob.cells (bag.map fun x=>I x) 3),(b2,Ob.cells ((putB al ks).map fun x=>I x) 3)]++SRg 143 g) (fun d o e=>?_) ?_
     simp only[lookS_cons,lookS_nil,app_cons',app_nil']at e ⊢
     by_cases q0:bs=d
     ·subst q0;simp only[qAT,qAP,qAS,qAL,qAQ,qAD,qAR,qAH,↓reduceIte]at e ⊢;exact e
     by_cases q1:b7=d
     ·subst q1;simp only[qAP,qAT,qAO,qAK,qAM,qAC,qAN,qAG,↓reduceIte]at e ⊢;exact e
     by_cases q2:b4=d
     ·subst q2;simp only[qAL,qAS,qAK,qAO,qAI,qAB,qAJ,qAF,↓reduceIte]at e ⊢;exact e
     by_cases q3:b1=d
     ·subst q3;simp only[qAD,qAQ,qAC,qAM,qAB,qAI,qAA,qAE,↓reduceIte]at e ⊢;exact e
     by_cases q4:b2=d
     ·subst q4;simp only[qAH,qAR,qAG,qAN,qAF,qAJ,qAE,qAA,↓reduceIte]at e ⊢;exact e
     simp only[q0,q1,q2,q3,q4,↓reduceIte]at e ⊢
     exact e
     by_cases hdd:(melds.length:Int)<d
     ·repeat' (first|with_reducible refine DS.fltS yU yU yX13 ?_|refine yJ ?_|(with_reducible (refine DS.cE yX13 ?_;refine CG.yes ?_))|(refine DS.bsl yU yX13 yX13 ?_;simp only[go_sem,Nat.zero_add,Nat.reduceAdd])|fail)
      have hnb:=H.out.1.nb
      have hgl:g.l.length=melds.length:=by rw[H.out.1.l,List.length_map]
      refine DS.reS (S':=(bs,srcO x')::([(b7,Ob.cells [.v (.slice (some ⟨b1,0,none⟩) N N),g.cell] 33),(b4,Ob.cells [.v (.slice none 0 0), .v (.slice none 0 0)] 33),(b1,Ob.cells (bag.map fun x=>I x) 3),(b2,Ob.cells ((putB al ks).map fun x=>I x) 3)]++SRg 143 g)) (fun d o e=>e) ?_
      refine DS.step rfl rfl yR (OpS.appG (g:=g) (ml:= [Grp.cells g1]) rfl yH yH yR yR (by decide) yH (H.out.1.ok.under (L:= [(b7,Ob.cells [.v (.slice (some ⟨b1,0,none⟩) N N),g.cell] 33),(b4,Ob.cells [.v (.slice none 0 0), .v (.slice none 0 0)] 33),(b1,Ob.cells (bag.map fun x=>I x) 3),(b2,Ob.cells ((putB al ks).map fun x=>I x) 3)]) hnb) yH yH (by exact Nat.zero_lt_succ _) (by intro c hc;obtain rfl:=List.mem_singleton.1 hc;rfl) ⟨by rw[hgl,List.length_singleton];omega,by decide⟩) (fun u2 E' S4 hu2=>?_)
      obtain⟨rfl,b',cap',junk',rfl,m1,m2,m3⟩:=hu2
      have hml:g.l++ [Grp.cells g1].map (fun x=>List.map V.copy x)=(melds++ [g1]).map Grp.cells:=by rw[H.out.1.l,List.map_append];rfl
      rw[hml]at m1 ⊢
      obtain⟨hnb2,hS4⟩:=srg_seq (L:= [(b7,Ob.cells [.v (.slice (some ⟨b1,0,none⟩) N N),g.cell] 33),(b4,Ob.cells [.v (.slice none 0 0), .v (.slice none 0 0)] 33),(b1,Ob.cells (bag.map fun x=>I x) 3),(b2,Ob.cells ((putB al ks).map fun x=>I x) 3)]) hnb m1 m2 m3
      refine DS.reS (S':=(bs,srcO x')::([(b7,Ob.cells [.v (.slice (some ⟨b1,0,none⟩) N N),g.cell] 33),(b4,Ob.cells [.v (.slice none 0 0), .v (.slice none 0 0)] 33),(b1,Ob.cells (bag.map fun x=>I x) 3),(b2,Ob.cells ((putB al ks).map fun x=>I x) 3)]++SRg 143 ⟨(melds++ [g1]).map Grp.cells,some (b',cap',junk')⟩)) hS4 ?_
      have hI2:GrpG [bs,b7,b4,b1,b2] (melds++ [g1]) ⟨(melds++ [g1]).map Grp.cells,some (b',cap',junk')⟩:=⟨rfl,SRg.ok m1,hnb2⟩
      have hin2:MeldsIn N (melds++ [g1]):=fun q hq=>(List.mem_append.1 hq).elim (H.out.2.1 q) fun hq=>by rw[List.mem_singleton.1 hq];exact⟨hk1,hk2⟩
      have H3:=Box.mk (And.intro hI2 hin2)
      clear hI2 hin2 hml m1 m2 m3 hnb2 hS4 hgl
      simp only[GR.cell_some,putV_some,List.length_map,app_cons',app_nil']
      repeat' (first|refine yJ ?_|(refine DS.store yR yE yE yE yE yU yQ ?_;simp only[yS1];try simp only[yS2,Nat.reduceEqDiff,↓reduceIte])|fail)
      simp only[setS,qAS,qAQ,qAT,qAR,qAL,qAI,qAK,qAJ,qAD,qAB,qAC,qAA,qAP,qAO,qAM,qAN,qAH,qAF,qAE,qAG,↓reduceIte]
      refine DS.back (H.out.2.2.2.2.2 (tr+1,x',melds++ [g1],⟨(melds++ [g1]).map Grp.cells,some (b',cap',junk')⟩,gs,putB al ks,bag) _ _ (by dsimp only;omega) ⟨⟨by dsimp only;omega,by simp only[List.length_append,List.length_singleton];omega⟩,⟨H3.out.2,H.out.2.2.1⟩,⟨HBB.out.2,H.out.2.2.2.2.1.mono (by dsimp only;omega)⟩,H3.out.1⟩ yS yS (fun d o e=>?_))
      dsimp only at e
      rw[GR.cell_some,List.length_map]at e
      exact e
     ·repeat' (first|(with_reducible refine DS.mv (t:=9) yU yO yX13 ?_;simp only[yS2,Nat.reduceEqDiff,↓reduceIte])|(with_reducible refine DS.mv (t:=80) yU yO yX13 ?_;simp only[yS2,Nat.reduceEqDiff,↓reduceIte])|with_reducible refine DS.fltS yU yU yX13 ?_|refine yJ ?_|(with_reducible (refine DS.cE yX13 ?_;refine CG.no ?_))|(refine DS.bsl yU yX13 yX13 ?_;simp only[go_sem,Nat.zero_add,Nat.reduceAdd])|(refine DS.append (mm:=false) yU yX13 yX13 yU (by decide) yX13 yO2 yX13 yX15 yLM yQ2 ?_;simp only[yS2,Nat.reduceEqDiff,↓reduceIte])|fail)
      refine DS.putK (b:=b1) (cap:=N) (m:=N) (c:=4*tr) (L:=bag) (ks:=ks) H.out.2.2.2.2.1 hks (by omega) (by omega) (by omega) yR yH (by simp only[lookS_cons,app_cons',qAS,qAQ,qAT,qAR,qAL,qAI,qAK,qAJ,qAD,qAB,qAC,qAA,qAP,qAO,qAM,qAN,qAH,qAF,qAE,qAG,↓reduceIte]) ?_
      have hin2:MeldsIn N (gs++ [g1]):=fun q hq=>(List.mem_append.1 hq).elim (H.out.2.2.1 q) fun hq=>by rw[List.mem_singleton.1 hq];exact⟨hk1,hk2⟩
      have H3:=Box.mk hin2
      clear hin2
      simp only[delS_cons,delS_nil,app_cons',app_nil',qAS,qAQ,qAT,qAR,qAL,qAI,qAK,qAJ,qAD,qAB,qAC,qAA,qAP,qAO,qAM,qAN,qAH,qAF,qAE,qAG,↓reduceIte,hdel1]
      refine DS.reS (S':=(bs,srcO x'):: [(b7,Ob.cells [.v (.slice (some ⟨b1,0,none⟩) N N),g.cell] 33),(b4,Ob.cells [.v (.slice none 0 0), .v (.slice none 0 0)] 33),(b1,Ob.cells ((putB bag ks).map fun x=>I x) 3),(b2,Ob.cells ((putB al ks).map fun x=>I x) 3)]++SRg 143 g) (fun d o e=>?_) ?_
      simp only[lookS_cons,lookS_nil,app_cons',app_nil']at e ⊢
      by_cases q0:bs=d
      ·subst q0;simp only[qAT,qAP,qAS,qAL,qAQ,qAD,qAR,qAH,↓reduceIte]at e ⊢;exact e
      by_cases q1:b7=d
      ·subst q1;simp only[qAP,qAT,qAO,qAK,qAM,qAC,qAN,qAG,↓reduceIte]at e ⊢;exact e
      by_cases q2:b4=d
      ·subst q2;simp only[qAL,qAS,qAK,qAO,qAI,qAB,qAJ,qAF,↓reduceIte]at e ⊢;exact e
      by_cases q3:b1=d
      ·subst q3;simp only[qAD,qAQ,qAC,qAM,qAB,qAI,qAA,qAE,↓reduceIte]at e ⊢;exact e
      by_cases q4:b2=d
      ·subst q4;simp only[qAH,qAR,qAG,qAN,qAF,qAJ,qAE,qAA,↓reduceIte]at e ⊢;exact e
      simp only[q0,q1,q2,q3,q4,↓reduceIte]at e ⊢
      exact e
      repeat' (first|with_reducible refine DS.fltS yU yU yX13 ?_|refine yJ ?_|fail)
      refine DS.back (H.out.2.2.2.2.2 (tr+1,x',melds,g,gs++ [g1],putB al ks,putB bag ks) _ _ (by dsimp only;omega) ⟨⟨by dsimp only;omega,by simp only[List.length_append,List.length_singleton];omega⟩,⟨H.out.2.1,H3.out⟩,⟨HBB.out.2,HBB.out.1⟩,H.out.1⟩ ?_ yS (fun d o e=>e))
      simp only[subV_cons,subV_nil,lookV_cons,Nat.reduceEqDiff,↓reduceIte,and_true,List.map_append,List.map_cons,List.map_nil,Grp.cells_eq,Int.natCast_add,Int.natCast_one]
  ·repeat' (first|with_reducible refine DS.fltS yU yU yX13 ?_|refine yJ ?_|(with_reducible first|(refine DS.cE yX13 ?_;refine CG.no ?_)|(refine DS.gE yU yX13 ?_;refine GG.run ?_))|fail)
   have hN34:N≤34:=by omega
   refine DS.loopS [0,3,4,7,8,9,15] yN (fun(w:Nat×Int)=> [(16,I w.1)]) (fun(w:Nat×Int)=>(bs,srcO w.2):: [(b7,Ob.cells [.v (.slice (some ⟨b1,0,none⟩) N N),g.cell] 33),(b4,Ob.cells [.v (.slice none 0 0), .v (.slice none 0 0)] 33),(b1,Ob.cells (bag.map fun x=>I x) 3),(b2,Ob.cells (al.map fun x=>I x) 3)]++SRg 143 g) (fun(w:Nat×Int)=>w.1≤40) (fun(w:Nat×Int)=>40-w.1) (0,z) yS (fun b o e=>by exact e) (Nat.zero_le _) (fun w B hI hB=>?_);try dsimp only at hI hB;simp only[app_cons',app_nil']
   obtain⟨t2,z2⟩:=w
   dsimp only at hI hB ⊢
   have HB3:=Box.mk hB
   clear hB
   by_cases ht2:(t2:Int)<40
   ·by_cases hw:(melds.length:Int)+gs.length=s.melds
    ·have cb:=below_sc bs z2 N (by omega)
     have bb:=below_lt (x:=z2) (n:=(N:Int)) (by omega)
     obtain⟨k,hk⟩: ∃k:Nat,(k:Int)=belowX z2 N:=⟨(belowX z2 N).toNat,by omega⟩
     rw[←hk]at cb bb
     clear hk
     generalize stepX z2=z3 at *
     have hkk:KindsIn N [(k:Int),(k:Int)]:=fun q hq=>by
      simp only[List.mem_cons,List.not_mem_nil,or_false,or_self]at hq
      subst hq;omega
     have hwB:(((melds.length:Int)+gs.length=s.melds)=True):=eq_true hw
     clear hw
     repeat' (first|with_reducible refine DS.fltS yU yU yX13 ?_|refine yJ ?_|(with_reducible first|(refine DS.cE yX13 ?_;refine CG.yes ?_)|(refine DS.gE yU yX13 ?_;refine GG.run ?_))|(refine DS.bsl yU yX13 yX13 ?_;simp only[go_sem,Nat.zero_add,Nat.reduceAdd])|refine DS.pcS inferInstance (hp) yR yX16 ?_|(refine DS.scS inferInstance (cb) yR yX16 yX16 ?_;(try simp only[delS_cons,delS_nil,↓reduceIte, *]))|fail)
     simp only[delS_cons,delS_nil,app_cons',app_nil',qAS,qAQ,qAT,qAR,qAL,qAI,qAK,qAJ,qAD,qAB,qAC,qAA,qAP,qAO,qAM,qAN,qAH,qAF,qAE,qAG,↓reduceIte,hdel]
     skip
     refine DS.lendJ (A:= [.agg s.cells]) (B:= [.own false 3 1 [[I (k:Int)],[I (k:Int)]]]) (R:=fun u _=> ∃r:Bool,u=Bo r) (b:=b2) (len:=N) (cap:=N) (T:=3) (L:=al) inferInstance yR yH (HF.out.2.2 al [(k:Int),(k:Int)] (4*tr) H.out.2.2.2.1 hkk (by simp) (by omega)) (by simp only[lookS_cons,app_cons',qAS,qAQ,qAT,qAR,qAL,qAI,qAK,qAJ,qAD,qAB,qAC,qAA,qAP,qAO,qAM,qAN,qAH,qAF,qAE,qAG,↓reduceIte]) H.out.2.2.2.1.len ⟨Nat.le_refl _,hNm⟩ (fun v S' ⟨r,hr⟩=>⟨_,hr⟩) (fun u hu=>?_)
     obtain⟨S0,r,hr⟩:=hu
     cases hr
     cases r with
     | false =>
      repeat' (first|with_reducible refine DS.fltS yU yU yX13 ?_|refine yJ ?_|(with_reducible (refine DS.cE yX13 ?_;refine CG.no ?_))|fail)
      refine DS.back (HB3.out (t2+1,z3) _ _ (by dsimp only;omega) (by dsimp only;omega) yS yS (fun d o e=>e))
     | true =>
      repeat' (first|with_reducible refine DS.fltS yU yU yX13 ?_|refine yJ ?_|(with_reducible (refine DS.cE yX13 ?_;refine CG.yes ?_))|(refine DS.bsl yU yX13 yX13 ?_;simp only[go_sem,Nat.zero_add,Nat.reduceAdd])|fail)
      refine DS.putK (b:=b1) (cap:=N) (m:=N) (c:=4*tr) (L:=bag) (ks:= [(k:Int),(k:Int)]) H.out.2.2.2.2.1 hkk (by omega) (by omega) (by simp) yR yH (by simp only[lookS_cons,app_cons',qAS,qAQ,qAT,qAR,qAL,qAI,qAK,qAJ,qAD,qAB,qAC,qAA,qAP,qAO,qAM,qAN,qAH,qAF,qAE,qAG,↓reduceIte]) ?_
      have hB1:=H.out.2.2.2.2.1.putB hkk
      have HB1:=Box.mk hB1
      clear hB1
      simp only[delS_cons,delS_nil,app_cons',app_nil',qAS,qAQ,qAT,qAR,qAL,qAI,qAK,qAJ,qAD,qAB,qAC,qAA,qAP,qAO,qAM,qAN,qAH,qAF,qAE,qAG,↓reduceIte,hdel1]
      refine DS.reS (S':=(bs,srcO z3):: [(b7,Ob.cells [.v (.slice (some ⟨b1,0,none⟩) N N),g.cell] 33),(b4,Ob.cells [.v (.slice none 0 0), .v (.slice none 0 0)] 33),(b1,Ob.cells ((putB bag [(k:Int),(k:Int)]).map fun x=>I x) 3),(b2,Ob.cells (al.map fun x=>I x) 3)]++SRg 143 g) (fun d o e=>?_) ?_
      simp only[lookS_cons,lookS_nil,app_cons',app_nil']at e ⊢
      by_cases q0:bs=d
      ·subst q0;simp only[qAT,qAP,qAS,qAL,qAQ,qAD,qAR,qAH,↓reduceIte]at e ⊢;exact e
      by_cases q1:b7=d
      ·subst q1;simp only[qAP,qAT,qAO,qAK,qAM,qAC,qAN,qAG,↓reduceIte]at e ⊢;exact e
      by_cases q2:b4=d
      ·subst q2;simp only[qAL,qAS,qAK,qAO,qAI,qAB,qAJ,qAF,↓reduceIte]at e ⊢;exact e
      by_cases q3:b1=d
      ·subst q3;simp only[qAD,qAQ,qAC,qAM,qAB,qAI,qAA,qAE,↓reduceIte]at e ⊢;exact e
      by_cases q4:b2=d
      ·subst q4;simp only[qAH,qAR,qAG,qAN,qAF,qAJ,qAE,qAA,↓reduceIte]at e ⊢;exact e
      simp only[q0,q1,q2,q3,q4,↓reduceIte]at e ⊢
      exact e
      repeat' (first|refine yJ ?_|fail)
      refine DS.drawLS (id:=24) ((bs,srcO z3):: [(b7,Ob.cells [.v (.slice (some ⟨b1,0,none⟩) N N),g.cell] 33),(b4,Ob.cells [.v (.slice none 0 0), .v (.slice none 0 0)] 33),(b1,Ob.cells ((putB bag [(k:Int),(k:Int)]).map fun x=>I x) 3),(b2,Ob.cells (al.map fun x=>I x) 3)]++SRg 143 g) ([]) [0,1,2,3,4,5,6] 7 yKR mixed yP1 yP2 ((fun d o e=>⟨e,rfl⟩)) ((fun d o e=>by cases e)) ?_
      repeat' (first|(with_reducible refine DD.mvS (t:=121) yU yO yX13 ?_;simp only[yS2,Nat.reduceEqDiff,↓reduceIte];simp only[delV_cons',delV_nil',Nat.reduceEqDiff,↓reduceIte])|with_reducible refine DD.fltS yU yU yU yX13 ?_|(refine DD.bslS yU yX13 yX13 ?_;simp only[go_sem,Nat.zero_add,Nat.reduceAdd];simp only[delV_cons',delV_nil',Nat.reduceEqDiff,↓reduceIte])|(refine DD.append (mm:=false) yU yX13 yX13 yU (by decide) yX13 yO2 yX13 yX15 yLM yQ2 ?_;simp only[yS2,Nat.reduceEqDiff,↓reduceIte];simp only[delV_cons',delV_nil',Nat.reduceEqDiff,↓reduceIte])|fail)
      have hgk: ∀q∈gs++ [(⟨4,(k:Int),false⟩:Grp)],0≤q.kind∧q.kind<(N:Int):=fun q hq=>(List.mem_append.1 hq).elim (H.out.2.2.1 q) fun hq=>by rw[List.mem_singleton.1 hq];exact⟨by dsimp only;omega,by dsimp only;omega⟩
      refine DD.callR [] [] inferInstance (ordered_qp N (gs++ [(⟨4,(k:Int),false⟩:Grp)]) (by simp only[List.length_append,List.length_singleton];omega) hgk) yR (by rw[show grpsV (gs++ [(⟨4,(k:Int),false⟩:Grp)])=V.lst (List.map Grp.cells gs++ [[I 4,I (k:Int),Bo false]])from congrArg V.lst (by rw[List.map_append];rfl)];(simp (disch:=omega) only[go_sem,dopV,yV0,↓reduceIte,Nat.reduceEqDiff,Nat.reduceLT,Nat.reduceLeDiff,Nat.reduceAdd,Nat.reduceMul,Nat.reduceSub,Int.reduceToNat,Int.reduceLT,Int.reduceLE,Int.reduceEq,IntWalk.toNatUp,IntWalk.iteOmega,IntWalk.i64_in,V.flat,V.one];try exact rfl)) (fun _ _ e=>by cases e) (fun _ _ e=>by cases e) (fun o ho=>by cases ho) (fun u S' hu hdis=>?_)
      obtain⟨m,rfl,hm1,hm2⟩:=hu
      refine DD.reS (S1':= []) (fun _ _ e=>by cases e) ?_
      clear hdis hgk
      refine DD.nil ?_
      simp only[delV_cons',delV_nil',Nat.reduceEqDiff,↓reduceIte,app_cons',app_nil']
      skip
      have hol:(putB bag [(k:Int),(k:Int)]).length=N:=HB1.out.len
      refine DS.freezeAg (t:=120) (b:=b1) (i:=0) (len:=N) (cap:=N) (sz:=1) (l:=(putB bag [(k:Int),(k:Int)]).map fun x=>I x) (T:=3) (l':= [.v (.slice (some ⟨b1,0,none⟩) N N),g.cell.peek]) yH yR (by simp only[lookS_cons,app_cons',qAS,qAQ,qAT,qAR,qAL,qAI,qAK,qAJ,qAD,qAB,qAC,qAA,qAP,qAO,qAM,qAN,qAH,qAF,qAE,qAG,↓reduceIte]) (by rw[List.length_map];omega) ⟨Nat.le_refl _,hNm⟩ ?_
      have hch:=chunk_objK (putB bag [(k:Int),(k:Int)])
      rw[hol]at hch
      rw[hch]
      simp only[set_zero',delS_cons,delS_nil,app_cons',app_nil',qAS,qAQ,qAT,qAR,qAL,qAI,qAK,qAJ,qAD,qAB,qAC,qAA,qAP,qAO,qAM,qAN,qAH,qAF,qAE,qAG,↓reduceIte,hdel1]
      have hl3:g.l.map (·.map V.peek)=melds.map Grp.cells:=by rw[H.out.1.l,List.map_map];rfl
      have hnb3:NBg [bs,b7,b4,b2] g:=H.out.1.nb.sub (fun b hb=>by simp only[List.mem_cons,List.not_mem_nil,or_false]at hb ⊢;rcases hb with rfl|rfl|rfl|rfl <;> simp)
      refine DS.freezeGA (t:=120) (i:=1) (g:=g) (e:=143) (sz:=3) yH yR (H.out.1.ok.under (L:= [(b7,_),(b4,_),(b2,_)]) hnb3) (fun S' hs1 hs2=>?_)
      rw[hl3]
      have hbs:lookS S' bs=some (srcO z3):=by
       rw[hs2 bs fun c j h=>hnb3 _ _ _ h (by simp)];simp only[lookS_cons,↓reduceIte]
      have hb4:lookS S' b4=some (.cells [.v (.slice none 0 0), .v (.slice none 0 0)] 33):=by
       rw[hs2 b4 fun c j h=>hnb3 _ _ _ h (by simp)];simp only[lookS_cons,app_cons',qAS,qAQ,qAT,qAR,qAL,qAI,qAK,qAJ,qAD,qAB,qAC,qAA,qAP,qAO,qAM,qAN,qAH,qAF,qAE,qAG,↓reduceIte]
      refine DS.reS (S':= [(bs,srcO z3),(b4, .cells [.v (.slice none 0 0), .v (.slice none 0 0)] 33)]) (fun d o e=>?_) ?_
      ·simp only[lookS_cons,lookS_nil]at e
       split at e
       ·rename_i h;subst h;rw[hbs];exact e
       split at e
       ·rename_i h;subst h;rw[hb4];exact e
       ·cases e
      clear hbs hb4 hs1 hs2
      simp only[List.set_cons_succ,List.set_cons_zero]
      repeat' (first|with_reducible refine DS.fltS yU yU yX6 ?_|refine yJ ?_|(refine DS.store yR yX6 yX6 yX6 yX6 yU yQ ?_;simp only[yS1];try simp only[yS2,Nat.reduceEqDiff,↓reduceIte])|fail)
      try (simp only[setS,delS_cons,delS_nil,qAS,qAQ,qAT,qAR,qAL,qAI,qAK,qAJ,qAD,qAB,qAC,qAA,qAP,qAO,qAM,qAN,qAH,qAF,qAE,qAG,↓reduceIte,List.map_cons,List.map_nil,copy_v,copy_lst,setAll_cons,setAll_nil,set_cons',set_zero',Nat.reduceAdd,Nat.zero_add])
      refine DS.retW [(bs,srcO z3)] (by(simp (disch:=omega) only[go_sem,dopV,yV0,↓reduceIte,Nat.reduceEqDiff,Nat.reduceLT,Nat.reduceLeDiff,Nat.reduceAdd,Nat.reduceMul,Nat.reduceSub,Int.reduceToNat,Int.reduceLT,Int.reduceLE,Int.reduceEq,IntWalk.toNatUp,IntWalk.iteOmega,IntWalk.i64_in,V.flat,V.one,setS,setAll,qAS,qAQ,qAT,qAR,qAL,qAI,qAK,qAJ,qAD,qAB,qAC,qAA,qAP,qAO,qAM,qAN,qAH,qAF,qAE,qAG];exact rfl)) (fun b o e=>?_) ?_
      ·simp only[lookS_cons,lookS_nil]at e ⊢
       split at e
       ·rename_i hb;subst hb;simp only[qAS,qAQ,qAT,qAR,qAL,qAI,qAK,qAJ,qAD,qAB,qAC,qAA,qAP,qAO,qAM,qAN,qAH,qAF,qAE,qAG,↓reduceIte];exact e
       ·cases e
      ·exact⟨⟨⟨(putB bag [(k:Int),(k:Int)]),melds⟩,m,true,rfl,⟨HB1.out.mono (by simp only[List.length_cons,List.length_nil];omega),by dsimp only;omega,H.out.2.1⟩⟩,z3,rfl⟩
    ·have hwB:(((melds.length:Int)+gs.length=s.melds)=False):=eq_false hw
     repeat' (first|with_reducible refine DS.fltS yU yU yX13 ?_|refine yJ ?_|(with_reducible first|(refine DS.cE yX13 ?_;refine CG.no ?_)|(refine DS.gE yU yX13 ?_;refine GG.run ?_))|fail)
     have hol:(bag).length=N:=H.out.2.2.2.2.1.len
     refine DS.freezeAg (t:=127) (b:=b1) (i:=0) (len:=N) (cap:=N) (sz:=1) (l:=(bag).map fun x=>I x) (T:=3) (l':= [.v (.slice (some ⟨b1,0,none⟩) N N),g.cell.peek]) yH yR (by simp only[lookS_cons,app_cons',qAS,qAQ,qAT,qAR,qAL,qAI,qAK,qAJ,qAD,qAB,qAC,qAA,qAP,qAO,qAM,qAN,qAH,qAF,qAE,qAG,↓reduceIte]) (by rw[List.length_map];omega) ⟨Nat.le_refl _,hNm⟩ ?_
     have hch:=chunk_objK (bag)
     rw[hol]at hch
     rw[hch]
     simp only[set_zero',delS_cons,delS_nil,app_cons',app_nil',qAS,qAQ,qAT,qAR,qAL,qAI,qAK,qAJ,qAD,qAB,qAC,qAA,qAP,qAO,qAM,qAN,qAH,qAF,qAE,qAG,↓reduceIte,hdel1]
     have hl3:g.l.map (·.map V.peek)=melds.map Grp.cells:=by rw[H.out.1.l,List.map_map];rfl
     have hnb3:NBg [bs,b7,b4,b2] g:=H.out.1.nb.sub (fun b hb=>by simp only[List.mem_cons,List.not_mem_nil,or_false]at hb ⊢;rcases hb with rfl|rfl|rfl|rfl <;> simp)
     refine DS.freezeGA (t:=127) (i:=1) (g:=g) (e:=143) (sz:=3) yH yR (H.out.1.ok.under (L:= [(b7,_),(b4,_),(b2,_)]) hnb3) (fun S' hs1 hs2=>?_)
     rw[hl3]
     have hbs:lookS S' bs=some (srcO z2):=by
      rw[hs2 bs fun c j h=>hnb3 _ _ _ h (by simp)];simp only[lookS_cons,↓reduceIte]
     have hb4:lookS S' b4=some (.cells [.v (.slice none 0 0), .v (.slice none 0 0)] 33):=by
      rw[hs2 b4 fun c j h=>hnb3 _ _ _ h (by simp)];simp only[lookS_cons,app_cons',qAS,qAQ,qAT,qAR,qAL,qAI,qAK,qAJ,qAD,qAB,qAC,qAA,qAP,qAO,qAM,qAN,qAH,qAF,qAE,qAG,↓reduceIte]
     refine DS.reS (S':= [(bs,srcO z2),(b4, .cells [.v (.slice none 0 0), .v (.slice none 0 0)] 33)]) (fun d o e=>?_) ?_
     ·simp only[lookS_cons,lookS_nil]at e
      split at e
      ·rename_i h;subst h;rw[hbs];exact e
      split at e
      ·rename_i h;subst h;rw[hb4];exact e
      ·cases e
     clear hbs hb4 hs1 hs2
     simp only[List.set_cons_succ,List.set_cons_zero]
     repeat' (first|with_reducible refine DS.fltS yU yU yX6 ?_|refine yJ ?_|(refine DS.store yR yX6 yX6 yX6 yX6 yU yQ ?_;simp only[yS1];try simp only[yS2,Nat.reduceEqDiff,↓reduceIte])|fail)
     try (simp only[setS,delS_cons,delS_nil,qAS,qAQ,qAT,qAR,qAL,qAI,qAK,qAJ,qAD,qAB,qAC,qAA,qAP,qAO,qAM,qAN,qAH,qAF,qAE,qAG,↓reduceIte,List.map_cons,List.map_nil,copy_v,copy_lst,setAll_cons,setAll_nil,set_cons',set_zero',Nat.reduceAdd,Nat.zero_add])
     refine DS.retW [(bs,srcO z2)] (by(simp (disch:=omega) only[go_sem,dopV,yV0,↓reduceIte,Nat.reduceEqDiff,Nat.reduceLT,Nat.reduceLeDiff,Nat.reduceAdd,Nat.reduceMul,Nat.reduceSub,Int.reduceToNat,Int.reduceLT,Int.reduceLE,Int.reduceEq,IntWalk.toNatUp,IntWalk.iteOmega,IntWalk.i64_in,V.flat,V.one,setS,setAll,qAS,qAQ,qAT,qAR,qAL,qAI,qAK,qAJ,qAD,qAB,qAC,qAA,qAP,qAO,qAM,qAN,qAH,qAF,qAE,qAG];exact rfl)) (fun b o e=>?_) ?_
     ·simp only[lookS_cons,lookS_nil]at e ⊢
      split at e
      ·rename_i hb;subst hb;simp only[qAS,qAQ,qAT,qAR,qAL,qAI,qAK,qAJ,qAD,qAB,qAC,qAA,qAP,qAO,qAM,qAN,qAH,qAF,qAE,qAG,↓reduceIte];exact e
      ·cases e
     ·exact⟨⟨⟨bag,melds⟩,[],false,rfl,⟨H.out.2.2.2.2.1.mono (by omega),by dsimp only;omega,H.out.2.1⟩⟩,z2,rfl⟩
   ·repeat' (first|with_reducible refine DS.fltS yU yU yX13 ?_|refine yJ ?_|(with_reducible first|(refine DS.cE yX13 ?_;refine CG.no ?_)|(refine DS.gE yU yX13 ?_;refine GG.sF ?_))|fail)
    have hol:(bag).length=N:=H.out.2.2.2.2.1.len
    refine DS.freezeAg (t:=127) (b:=b1) (i:=0) (len:=N) (cap:=N) (sz:=1) (l:=(bag).map fun x=>I x) (T:=3) (l':= [.v (.slice (some ⟨b1,0,none⟩) N N),g.cell.peek]) yH yR (by simp only[lookS_cons,app_cons',qAS,qAQ,qAT,qAR,qAL,qAI,qAK,qAJ,qAD,qAB,qAC,qAA,qAP,qAO,qAM,qAN,qAH,qAF,qAE,qAG,↓reduceIte]) (by rw[List.length_map];omega) ⟨Nat.le_refl _,hNm⟩ ?_
    have hch:=chunk_objK (bag)
    rw[hol]at hch
    rw[hch]
    simp only[set_zero',delS_cons,delS_nil,app_cons',app_nil',qAS,qAQ,qAT,qAR,qAL,qAI,qAK,qAJ,qAD,qAB,qAC,qAA,qAP,qAO,qAM,qAN,qAH,qAF,qAE,qAG,↓reduceIte,hdel1]
    have hl3:g.l.map (·.map V.peek)=melds.map Grp.cells:=by rw[H.out.1.l,List.map_map];rfl
    have hnb3:NBg [bs,b7,b4,b2] g:=H.out.1.nb.sub (fun b hb=>by simp only[List.mem_cons,List.not_mem_nil,or_false]at hb ⊢;rcases hb with rfl|rfl|rfl|rfl <;> simp)
    refine DS.freezeGA (t:=127) (i:=1) (g:=g) (e:=143) (sz:=3) yH yR (H.out.1.ok.under (L:= [(b7,_),(b4,_),(b2,_)]) hnb3) (fun S' hs1 hs2=>?_)
    rw[hl3]
    have hbs:lookS S' bs=some (srcO z2):=by
     rw[hs2 bs fun c j h=>hnb3 _ _ _ h (by simp)];simp only[lookS_cons,↓reduceIte]
    have hb4:lookS S' b4=some (.cells [.v (.slice none 0 0), .v (.slice none 0 0)] 33):=by
     rw[hs2 b4 fun c j h=>hnb3 _ _ _ h (by simp)];simp only[lookS_cons,app_cons',qAS,qAQ,qAT,qAR,qAL,qAI,qAK,qAJ,qAD,qAB,qAC,qAA,qAP,qAO,qAM,qAN,qAH,qAF,qAE,qAG,↓reduceIte]
    refine DS.reS (S':= [(bs,srcO z2),(b4, .cells [.v (.slice none 0 0), .v (.slice none 0 0)] 33)]) (fun d o e=>?_) ?_
    ·simp only[lookS_cons,lookS_nil]at e
     split at e
     ·rename_i h;subst h;rw[hbs];exact e
     split at e
     ·rename_i h;subst h;rw[hb4];exact e
     ·cases e
    clear hbs hb4 hs1 hs2
    simp only[List.set_cons_succ,List.set_cons_zero]
    repeat' (first|with_reducible refine DS.fltS yU yU yX6 ?_|refine yJ ?_|(refine DS.store yR yX6 yX6 yX6 yX6 yU yQ ?_;simp only[yS1];try simp only[yS2,Nat.reduceEqDiff,↓reduceIte])|fail)
    try (simp only[setS,delS_cons,delS_nil,qAS,qAQ,qAT,qAR,qAL,qAI,qAK,qAJ,qAD,qAB,qAC,qAA,qAP,qAO,qAM,qAN,qAH,qAF,qAE,qAG,↓reduceIte,List.map_cons,List.map_nil,copy_v,copy_lst,setAll_cons,setAll_nil,set_cons',set_zero',Nat.reduceAdd,Nat.zero_add])
    refine DS.retW [(bs,srcO z2)] (by(simp (disch:=omega) only[go_sem,dopV,yV0,↓reduceIte,Nat.reduceEqDiff,Nat.reduceLT,Nat.reduceLeDiff,Nat.reduceAdd,Nat.reduceMul,Nat.reduceSub,Int.reduceToNat,Int.reduceLT,Int.reduceLE,Int.reduceEq,IntWalk.toNatUp,IntWalk.iteOmega,IntWalk.i64_in,V.flat,V.one,setS,setAll,qAS,qAQ,qAT,qAR,qAL,qAI,qAK,qAJ,qAD,qAB,qAC,qAA,qAP,qAO,qAM,qAN,qAH,qAF,qAE,qAG];exact rfl)) (fun b o e=>?_) ?_
    ·simp only[lookS_cons,lookS_nil]at e ⊢
     split at e
     ·rename_i hb;subst hb;simp only[qAS,qAQ,qAT,qAR,qAL,qAI,qAK,qAJ,qAD,qAB,qAC,qAA,qAP,qAO,qAM,qAN,qAH,qAF,qAE,qAG,↓reduceIte];exact e
     ·cases e
    ·exact⟨⟨⟨bag,melds⟩,[],false,rfl,⟨H.out.2.2.2.2.1.mono (by omega),by dsimp only;omega,H.out.2.1⟩⟩,z2,rfl⟩
 ·repeat' (first|with_reducible refine DS.fltS yU yU yX13 ?_|refine yJ ?_|(with_reducible first|(refine DS.cE yX13 ?_;refine CG.no ?_)|(refine DS.gE yU yX13 ?_;refine GG.sF ?_))|fail)
  have hN34:N≤34:=by omega
  refine DS.loopS [0,3,4,7,8,9,15] yN (fun(w:Nat×Int)=> [(16,I w.1)]) (fun(w:Nat×Int)=>(bs,srcO w.2):: [(b7,Ob.cells [.v (.slice (some ⟨b1,0,none⟩) N N),g.cell] 33),(b4,Ob.cells [.v (.slice none 0 0), .v (.slice none 0 0)] 33),(b1,Ob.cells (bag.map fun x=>I x) 3),(b2,Ob.cells (al.map fun x=>I x) 3)]++SRg 143 g) (fun(w:Nat×Int)=>w.1≤40) (fun(w:Nat×Int)=>40-w.1) (0,z) yS (fun b o e=>by exact e) (Nat.zero_le _) (fun w B hI hB=>?_);try dsimp only at hI hB;simp only[app_cons',app_nil']
  obtain⟨t2,z2⟩:=w
  dsimp only at hI hB ⊢
  have HB3:=Box.mk hB
  clear hB
  by_cases ht2:(t2:Int)<40
  ·by_cases hw:(melds.length:Int)+gs.length=s.melds
   ·have cb:=below_sc bs z2 N (by omega)
    have bb:=below_lt (x:=z2) (n:=(N:Int)) (by omega)
    obtain⟨k,hk⟩: ∃k:Nat,(k:Int)=belowX z2 N:=⟨(belowX z2 N).toNat,by omega⟩
    rw[←hk]at cb bb
    clear hk
    generalize stepX z2=z3 at *
    have hkk:KindsIn N [(k:Int),(k:Int)]:=fun q hq=>by
     simp only[List.mem_cons,List.not_mem_nil,or_false,or_self]at hq
     subst hq;omega
    have hwB:(((melds.length:Int)+gs.length=s.melds)=True):=eq_true hw
    clear hw
    repeat' (first|with_reducible refine DS.fltS yU yU yX13 ?_|refine yJ ?_|(with_reducible first|(refine DS.cE yX13 ?_;refine CG.yes ?_)|(refine DS.gE yU yX13 ?_;refine GG.run ?_))|(refine DS.bsl yU yX13 yX13 ?_;simp only[go_sem,Nat.zero_add,Nat.reduceAdd])|refine DS.pcS inferInstance (hp) yR yX16 ?_|(refine DS.scS inferInstance (cb) yR yX16 yX16 ?_;(try simp only[delS_cons,delS_nil,↓reduceIte, *]))|fail)
    simp only[delS_cons,delS_nil,app_cons',app_nil',qAS,qAQ,qAT,qAR,qAL,qAI,qAK,qAJ,qAD,qAB,qAC,qAA,qAP,qAO,qAM,qAN,qAH,qAF,qAE,qAG,↓reduceIte,hdel]
    skip
    refine DS.lendJ (A:= [.agg s.cells]) (B:= [.own false 3 1 [[I (k:Int)],[I (k:Int)]]]) (R:=fun u _=> ∃r:Bool,u=Bo r) (b:=b2) (len:=N) (cap:=N) (T:=3) (L:=al) inferInstance yR yH (HF.out.2.2 al [(k:Int),(k:Int)] (4*tr) H.out.2.2.2.1 hkk (by simp) (by omega)) (by simp only[lookS_cons,app_cons',qAS,qAQ,qAT,qAR,qAL,qAI,qAK,qAJ,qAD,qAB,qAC,qAA,qAP,qAO,qAM,qAN,qAH,qAF,qAE,qAG,↓reduceIte]) H.out.2.2.2.1.len ⟨Nat.le_refl _,hNm⟩ (fun v S' ⟨r,hr⟩=>⟨_,hr⟩) (fun u hu=>?_)
    obtain⟨S0,r,hr⟩:=hu
    cases hr
    cases r with
    | false =>
     repeat' (first|with_reducible refine DS.fltS yU yU yX13 ?_|refine yJ ?_|(with_reducible (refine DS.cE yX13 ?_;refine CG.no ?_))|fail)
     refine DS.back (HB3.out (t2+1,z3) _ _ (by dsimp only;omega) (by dsimp only;omega) yS yS (fun d o e=>e))
    | true =>
     repeat' (first|with_reducible refine DS.fltS yU yU yX13 ?_|refine yJ ?_|(with_reducible (refine DS.cE yX13 ?_;refine CG.yes ?_))|(refine DS.bsl yU yX13 yX13 ?_;simp only[go_sem,Nat.zero_add,Nat.reduceAdd])|fail)
     refine DS.putK (b:=b1) (cap:=N) (m:=N) (c:=4*tr) (L:=bag) (ks:= [(k:Int),(k:Int)]) H.out.2.2.2.2.1 hkk (by omega) (by omega) (by simp) yR yH (by simp only[lookS_cons,app_cons',qAS,qAQ,qAT,qAR,qAL,qAI,qAK,qAJ,qAD,qAB,qAC,qAA,qAP,qAO,qAM,qAN,qAH,qAF,qAE,qAG,↓reduceIte]) ?_
     have hB1:=H.out.2.2.2.2.1.putB hkk
     have HB1:=Box.mk hB1
     clear hB1
     simp only[delS_cons,delS_nil,app_cons',app_nil',qAS,qAQ,qAT,qAR,qAL,qAI,qAK,qAJ,qAD,qAB,qAC,qAA,qAP,qAO,qAM,qAN,qAH,qAF,qAE,qAG,↓reduceIte,hdel1]
     refine DS.reS (S':=(bs,srcO z3):: [(b7,Ob.cells [.v (.slice (some ⟨b1,0,none⟩) N N),g.cell] 33),(b4,Ob.cells [.v (.slice none 0 0), .v (.slice none 0 0)] 33),(b1,Ob.cells ((putB bag [(k:Int),(k:Int)]).map fun x=>I x) 3),(b2,Ob.cells (al.map fun x=>I x) 3)]++SRg 143 g) (fun d o e=>?_) ?_
     simp only[lookS_cons,lookS_nil,app_cons',app_nil']at e ⊢
     by_cases q0:bs=d
     ·subst q0;simp only[qAT,qAP,qAS,qAL,qAQ,qAD,qAR,qAH,↓reduceIte]at e ⊢;exact e
     by_cases q1:b7=d
     ·subst q1;simp only[qAP,qAT,qAO,qAK,qAM,qAC,qAN,qAG,↓reduceIte]at e ⊢;exact e
     by_cases q2:b4=d
     ·subst q2;simp only[qAL,qAS,qAK,qAO,qAI,qAB,qAJ,qAF,↓reduceIte]at e ⊢;exact e
     by_cases q3:b1=d
     ·subst q3;simp only[qAD,qAQ,qAC,qAM,qAB,qAI,qAA,qAE,↓reduceIte]at e ⊢;exact e
     by_cases q4:b2=d
     ·subst q4;simp only[qAH,qAR,qAG,qAN,qAF,qAJ,qAE,qAA,↓reduceIte]at e ⊢;exact e
     simp only[q0,q1,q2,q3,q4,↓reduceIte]at e ⊢
     exact e
     repeat' (first|refine yJ ?_|fail)
     refine DS.drawLS (id:=24) ((bs,srcO z3):: [(b7,Ob.cells [.v (.slice (some ⟨b1,0,none⟩) N N),g.cell] 33),(b4,Ob.cells [.v (.slice none 0 0), .v (.slice none 0 0)] 33),(b1,Ob.cells ((putB bag [(k:Int),(k:Int)]).map fun x=>I x) 3),(b2,Ob.cells (al.map fun x=>I x) 3)]++SRg 143 g) ([]) [0,1,2,3,4,5,6] 7 yKR mixed yP1 yP2 ((fun d o e=>⟨e,rfl⟩)) ((fun d o e=>by cases e)) ?_
     repeat' (first|(with_reducible refine DD.mvS (t:=121) yU yO yX13 ?_;simp only[yS2,Nat.reduceEqDiff,↓reduceIte];simp only[delV_cons',delV_nil',Nat.reduceEqDiff,↓reduceIte])|with_reducible refine DD.fltS yU yU yU yX13 ?_|(refine DD.bslS yU yX13 yX13 ?_;simp only[go_sem,Nat.zero_add,Nat.reduceAdd];simp only[delV_cons',delV_nil',Nat.reduceEqDiff,↓reduceIte])|(refine DD.append (mm:=false) yU yX13 yX13 yU (by decide) yX13 yO2 yX13 yX15 yLM yQ2 ?_;simp only[yS2,Nat.reduceEqDiff,↓reduceIte];simp only[delV_cons',delV_nil',Nat.reduceEqDiff,↓reduceIte])|fail)
     have hgk: ∀q∈gs++ [(⟨4,(k:Int),false⟩:Grp)],0≤q.kind∧q.kind<(N:Int):=fun q hq=>(List.mem_append.1 hq).elim (H.out.2.2.1 q) fun hq=>by rw[List.mem_singleton.1 hq];exact⟨by dsimp only;omega,by dsimp only;omega⟩
     refine DD.callR [] [] inferInstance (ordered_qp N (gs++ [(⟨4,(k:Int),false⟩:Grp)]) (by simp only[List.length_append,List.length_singleton];omega) hgk) yR (by rw[show grpsV (gs++ [(⟨4,(k:Int),false⟩:Grp)])=V.lst (List.map Grp.cells gs++ [[I 4,I (k:Int),Bo false]])from congrArg V.lst (by rw[List.map_append];rfl)];(simp (disch:=omega) only[go_sem,dopV,yV0,↓reduceIte,Nat.reduceEqDiff,Nat.reduceLT,Nat.reduceLeDiff,Nat.reduceAdd,Nat.reduceMul,Nat.reduceSub,Int.reduceToNat,Int.reduceLT,Int.reduceLE,Int.reduceEq,IntWalk.toNatUp,IntWalk.iteOmega,IntWalk.i64_in,V.flat,V.one];try exact rfl)) (fun _ _ e=>by cases e) (fun _ _ e=>by cases e) (fun o ho=>by cases ho) (fun u S' hu hdis=>?_)
     obtain⟨m,rfl,hm1,hm2⟩:=hu
     refine DD.reS (S1':= []) (fun _ _ e=>by cases e) ?_
     clear hdis hgk
     refine DD.nil ?_
     simp only[delV_cons',delV_nil',Nat.reduceEqDiff,↓reduceIte,app_cons',app_nil']
     skip
     have hol:(putB bag [(k:Int),(k:Int)]).length=N:=HB1.out.len
     refine DS.freezeAg (t:=120) (b:=b1) (i:=0) (len:=N) (cap:=N) (sz:=1) (l:=(putB bag [(k:Int),(k:Int)]).map fun x=>I x) (T:=3) (l':= [.v (.slice (some ⟨b1,0,none⟩) N N),g.cell.peek]) yH yR (by simp only[lookS_cons,app_cons',qAS,qAQ,qAT,qAR,qAL,qAI,qAK,qAJ,qAD,qAB,qAC,qAA,qAP,qAO,qAM,qAN,qAH,qAF,qAE,qAG,↓reduceIte]) (by rw[List.length_map];omega) ⟨Nat.le_refl _,hNm⟩ ?_
     have hch:=chunk_objK (putB bag [(k:Int),(k:Int)])
     rw[hol]at hch
     rw[hch]
     simp only[set_zero',delS_cons,delS_nil,app_cons',app_nil',qAS,qAQ,qAT,qAR,qAL,qAI,qAK,qAJ,qAD,qAB,qAC,qAA,qAP,qAO,qAM,qAN,qAH,qAF,qAE,qAG,↓reduceIte,hdel1]
     have hl3:g.l.map (·.map V.peek)=melds.map Grp.cells:=by rw[H.out.1.l,List.map_map];rfl
     have hnb3:NBg [bs,b7,b4,b2] g:=H.out.1.nb.sub (fun b hb=>by simp only[List.mem_cons,List.not_mem_nil,or_false]at hb ⊢;rcases hb with rfl|rfl|rfl|rfl <;> simp)
     refine DS.freezeGA (t:=120) (i:=1) (g:=g) (e:=143) (sz:=3) yH yR (H.out.1.ok.under (L:= [(b7,_),(b4,_),(b2,_)]) hnb3) (fun S' hs1 hs2=>?_)
     rw[hl3]
     have hbs:lookS S' bs=some (srcO z3):=by
      rw[hs2 bs fun c j h=>hnb3 _ _ _ h (by simp)];simp only[lookS_cons,↓reduceIte]
     have hb4:lookS S' b4=some (.cells [.v (.slice none 0 0), .v (.slice none 0 0)] 33):=by
      rw[hs2 b4 fun c j h=>hnb3 _ _ _ h (by simp)];simp only[lookS_cons,app_cons',qAS,qAQ,qAT,qAR,qAL,qAI,qAK,qAJ,qAD,qAB,qAC,qAA,qAP,qAO,qAM,qAN,qAH,qAF,qAE,qAG,↓reduceIte]
     refine DS.reS (S':= [(bs,srcO z3),(b4, .cells [.v (.slice none 0 0), .v (.slice none 0 0)] 33)]) (fun d o e=>?_) ?_
     ·simp only[lookS_cons,lookS_nil]at e
      split at e
      ·rename_i h;subst h;rw[hbs];exact e
      split at e
      ·rename_i h;subst h;rw[hb4];exact e
      ·cases e
     clear hbs hb4 hs1 hs2
     simp only[List.set_cons_succ,List.set_cons_zero]
     repeat' (first|with_reducible refine DS.fltS yU yU yX6 ?_|refine yJ ?_|(refine DS.store yR yX6 yX6 yX6 yX6 yU yQ ?_;simp only[yS1];try simp only[yS2,Nat.reduceEqDiff,↓reduceIte])|fail)
     try (simp only[setS,delS_cons,delS_nil,qAS,qAQ,qAT,qAR,qAL,qAI,qAK,qAJ,qAD,qAB,qAC,qAA,qAP,qAO,qAM,qAN,qAH,qAF,qAE,qAG,↓reduceIte,List.map_cons,List.map_nil,copy_v,copy_lst,setAll_cons,setAll_nil,set_cons',set_zero',Nat.reduceAdd,Nat.zero_add])
     refine DS.retW [(bs,srcO z3)] (by(simp (disch:=omega) only[go_sem,dopV,yV0,↓reduceIte,Nat.reduceEqDiff,Nat.reduceLT,Nat.reduceLeDiff,Nat.reduceAdd,Nat.reduceMul,Nat.reduceSub,Int.reduceToNat,Int.reduceLT,Int.reduceLE,Int.reduceEq,IntWalk.toNatUp,IntWalk.iteOmega,IntWalk.i64_in,V.flat,V.one,setS,setAll,qAS,qAQ,qAT,qAR,qAL,qAI,qAK,qAJ,qAD,qAB,qAC,qAA,qAP,qAO,qAM,qAN,qAH,qAF,qAE,qAG];exact rfl)) (fun b o e=>?_) ?_
     ·simp only[lookS_cons,lookS_nil]at e ⊢
      split at e
      ·rename_i hb;subst hb;simp only[qAS,qAQ,qAT,qAR,qAL,qAI,qAK,qAJ,qAD,qAB,qAC,qAA,qAP,qAO,qAM,qAN,qAH,qAF,qAE,qAG,↓reduceIte];exact e
      ·cases e
     ·exact⟨⟨⟨(putB bag [(k:Int),(k:Int)]),melds⟩,m,true,rfl,⟨HB1.out.mono (by simp only[List.length_cons,List.length_nil];omega),by dsimp only;omega,H.out.2.1⟩⟩,z3,rfl⟩
   ·have hwB:(((melds.length:Int)+gs.length=s.melds)=False):=eq_false hw
    repeat' (first|with_reducible refine DS.fltS yU yU yX13 ?_|refine yJ ?_|(with_reducible first|(refine DS.cE yX13 ?_;refine CG.no ?_)|(refine DS.gE yU yX13 ?_;refine GG.run ?_))|fail)
    have hol:(bag).length=N:=H.out.2.2.2.2.1.len
    refine DS.freezeAg (t:=127) (b:=b1) (i:=0) (len:=N) (cap:=N) (sz:=1) (l:=(bag).map fun x=>I x) (T:=3) (l':= [.v (.slice (some ⟨b1,0,none⟩) N N),g.cell.peek]) yH yR (by simp only[lookS_cons,app_cons',qAS,qAQ,qAT,qAR,qAL,qAI,qAK,qAJ,qAD,qAB,qAC,qAA,qAP,qAO,qAM,qAN,qAH,qAF,qAE,qAG,↓reduceIte]) (by rw[List.length_map];omega) ⟨Nat.le_refl _,hNm⟩ ?_
    have hch:=chunk_objK (bag)
    rw[hol]at hch
    rw[hch]
    simp only[set_zero',delS_cons,delS_nil,app_cons',app_nil',qAS,qAQ,qAT,qAR,qAL,qAI,qAK,qAJ,qAD,qAB,qAC,qAA,qAP,qAO,qAM,qAN,qAH,qAF,qAE,qAG,↓reduceIte,hdel1]
    have hl3:g.l.map (·.map V.peek)=melds.map Grp.cells:=by rw[H.out.1.l,List.map_map];rfl
    have hnb3:NBg [bs,b7,b4,b2] g:=H.out.1.nb.sub (fun b hb=>by simp only[List.mem_cons,List.not_mem_nil,or_false]at hb ⊢;rcases hb with rfl|rfl|rfl|rfl <;> simp)
    refine DS.freezeGA (t:=127) (i:=1) (g:=g) (e:=143) (sz:=3) yH yR (H.out.1.ok.under (L:= [(b7,_),(b4,_),(b2,_)]) hnb3) (fun S' hs1 hs2=>?_)
    rw[hl3]
    have hbs:lookS S' bs=some (srcO z2):=by
     rw[hs2 bs fun c j h=>hnb3 _ _ _ h (by simp)];simp only[lookS_cons,↓reduceIte]
    have hb4:lookS S' b4=some (.cells [.v (.slice none 0 0), .v (.slice none 0 0)] 33):=by
     rw[hs2 b4 fun c j h=>hnb3 _ _ _ h (by simp)];simp only[lookS_cons,app_cons',qAS,qAQ,qAT,qAR,qAL,qAI,qAK,qAJ,qAD,qAB,qAC,qAA,qAP,qAO,qAM,qAN,qAH,qAF,qAE,qAG,↓reduceIte]
    refine DS.reS (S':= [(bs,srcO z2),(b4, .cells [.v (.slice none 0 0), .v (.slice none 0 0)] 33)]) (fun d o e=>?_) ?_
    ·simp only[lookS_cons,lookS_nil]at e
     split at e
     ·rename_i h;subst h;rw[hbs];exact e
     split at e
     ·rename_i h;subst h;rw[hb4];exact e
     ·cases e
    clear hbs hb4 hs1 hs2
    simp only[List.set_cons_succ,List.set_cons_zero]
    repeat' (first|with_reducible refine DS.fltS yU yU yX6 ?_|refine yJ ?_|(refine DS.store yR yX6 yX6 yX6 yX6 yU yQ ?_;simp only[yS1];try simp only[yS2,Nat.reduceEqDiff,↓reduceIte])|fail)
    try (simp only[setS,delS_cons,delS_nil,qAS,qAQ,qAT,qAR,qAL,qAI,qAK,qAJ,qAD,qAB,qAC,qAA,qAP,qAO,qAM,qAN,qAH,qAF,qAE,qAG,↓reduceIte,List.map_cons,List.map_nil,copy_v,copy_lst,setAll_cons,setAll_nil,set_cons',set_zero',Nat.reduceAdd,Nat.zero_add])
    refine DS.retW [(bs,srcO z2)] (by(simp (disch:=omega) only[go_sem,dopV,yV0,↓reduceIte,Nat.reduceEqDiff,Nat.reduceLT,Nat.reduceLeDiff,Nat.reduceAdd,Nat.reduceMul,Nat.reduceSub,Int.reduceToNat,Int.reduceLT,Int.reduceLE,Int.reduceEq,IntWalk.toNatUp,IntWalk.iteOmega,IntWalk.i64_in,V.flat,V.one,setS,setAll,qAS,qAQ,qAT,qAR,qAL,qAI,qAK,qAJ,qAD,qAB,qAC,qAA,qAP,qAO,qAM,qAN,qAH,qAF,qAE,qAG];exact rfl)) (fun b o e=>?_) ?_
    ·simp only[lookS_cons,lookS_nil]at e ⊢
     split at e
     ·rename_i hb;subst hb;simp only[qAS,qAQ,qAT,qAR,qAL,qAI,qAK,qAJ,qAD,qAB,qAC,qAA,qAP,qAO,qAM,qAN,qAH,qAF,qAE,qAG,↓reduceIte];exact e
     ·cases e
    ·exact⟨⟨⟨bag,melds⟩,[],false,rfl,⟨H.out.2.2.2.2.1.mono (by omega),by dsimp only;omega,H.out.2.1⟩⟩,z2,rfl⟩
  ·repeat' (first|with_reducible refine DS.fltS yU yU yX13 ?_|refine yJ ?_|(with_reducible first|(refine DS.cE yX13 ?_;refine CG.no ?_)|(refine DS.gE yU yX13 ?_;refine GG.sF ?_))|fail)
   have hol:(bag).length=N:=H.out.2.2.2.2.1.len
   refine DS.freezeAg (t:=127) (b:=b1) (i:=0) (len:=N) (cap:=N) (sz:=1) (l:=(bag).map fun x=>I x) (T:=3) (l':= [.v (.slice (some ⟨b1,0,none⟩) N N),g.cell.peek]) yH yR (by simp only[lookS_cons,app_cons',qAS,qAQ,qAT,qAR,qAL,qAI,qAK,qAJ,qAD,qAB,qAC,qAA,qAP,qAO,qAM,qAN,qAH,qAF,qAE,qAG,↓reduceIte]) (by rw[List.length_map];omega) ⟨Nat.le_refl _,hNm⟩ ?_
   have hch:=chunk_objK (bag)
   rw[hol]at hch
   rw[hch]
   simp only[set_zero',delS_cons,delS_nil,app_cons',app_nil',qAS,qAQ,qAT,qAR,qAL,qAI,qAK,qAJ,qAD,qAB,qAC,qAA,qAP,qAO,qAM,qAN,qAH,qAF,qAE,qAG,↓reduceIte,hdel1]
   have hl3:g.l.map (·.map V.peek)=melds.map Grp.cells:=by rw[H.out.1.l,List.map_map];rfl
   have hnb3:NBg [bs,b7,b4,b2] g:=H.out.1.nb.sub (fun b hb=>by simp only[List.mem_cons,List.not_mem_nil,or_false]at hb ⊢;rcases hb with rfl|rfl|rfl|rfl <;> simp)
   refine DS.freezeGA (t:=127) (i:=1) (g:=g) (e:=143) (sz:=3) yH yR (H.out.1.ok.under (L:= [(b7,_),(b4,_),(b2,_)]) hnb3) (fun S' hs1 hs2=>?_)
   rw[hl3]
   have hbs:lookS S' bs=some (srcO z2):=by
    rw[hs2 bs fun c j h=>hnb3 _ _ _ h (by simp)];simp only[lookS_cons,↓reduceIte]
   have hb4:lookS S' b4=some (.cells [.v (.slice none 0 0), .v (.slice none 0 0)] 33):=by
    rw[hs2 b4 fun c j h=>hnb3 _ _ _ h (by simp)];simp only[lookS_cons,app_cons',qAS,qAQ,qAT,qAR,qAL,qAI,qAK,qAJ,qAD,qAB,qAC,qAA,qAP,qAO,qAM,qAN,qAH,qAF,qAE,qAG,↓reduceIte]
   refine DS.reS (S':= [(bs,srcO z2),(b4, .cells [.v (.slice none 0 0), .v (.slice none 0 0)] 33)]) (fun d o e=>?_) ?_
   ·simp only[lookS_cons,lookS_nil]at e
    split at e
    ·rename_i h;subst h;rw[hbs];exact e
    split at e
    ·rename_i h;subst h;rw[hb4];exact e
    ·cases e
   clear hbs hb4 hs1 hs2
   simp only[List.set_cons_succ,List.set_cons_zero]
   repeat' (first|with_reducible refine DS.fltS yU yU yX6 ?_|refine yJ ?_|(refine DS.store yR yX6 yX6 yX6 yX6 yU yQ ?_;simp only[yS1];try simp only[yS2,Nat.reduceEqDiff,↓reduceIte])|fail)
   try (simp only[setS,delS_cons,delS_nil,qAS,qAQ,qAT,qAR,qAL,qAI,qAK,qAJ,qAD,qAB,qAC,qAA,qAP,qAO,qAM,qAN,qAH,qAF,qAE,qAG,↓reduceIte,List.map_cons,List.map_nil,copy_v,copy_lst,setAll_cons,setAll_nil,set_cons',set_zero',Nat.reduceAdd,Nat.zero_add])
   refine DS.retW [(bs,srcO z2)] (by(simp (disch:=omega) only[go_sem,dopV,yV0,↓reduceIte,Nat.reduceEqDiff,Nat.reduceLT,Nat.reduceLeDiff,Nat.reduceAdd,Nat.reduceMul,Nat.reduceSub,Int.reduceToNat,Int.reduceLT,Int.reduceLE,Int.reduceEq,IntWalk.toNatUp,IntWalk.iteOmega,IntWalk.i64_in,V.flat,V.one,setS,setAll,qAS,qAQ,qAT,qAR,qAL,qAI,qAK,qAJ,qAD,qAB,qAC,qAA,qAP,qAO,qAM,qAN,qAH,qAF,qAE,qAG];exact rfl)) (fun b o e=>?_) ?_
   ·simp only[lookS_cons,lookS_nil]at e ⊢
    split at e
    ·rename_i hb;subst hb;simp only[qAS,qAQ,qAT,qAR,qAL,qAI,qAK,qAJ,qAD,qAB,qAC,qAA,qAP,qAO,qAM,qAN,qAH,qAF,qAE,qAG,↓reduceIte];exact e
    ·cases e
   ·exact⟨⟨⟨bag,melds⟩,[],false,rfl,⟨H.out.2.2.2.2.1.mono (by omega),by dsimp only;omega,H.out.2.1⟩⟩,z2,rfl⟩
end Go.XL
namespace Go.XL
open Go.Proofs
set_option maxRecDepth 100000
set_option maxHeartbeats 8000000
theorem sumI_at {l:List Int} (h: ∀x∈l,0≤x) {i:Nat} (hi:i<l.length):sumI (l.take i)+l[i]≤sumI l:=by
 have:=sumI_take_le (l:=l) h (i+1)
 rw[sumI_take hi]at this
 exact this
theorem yX17 {p:Prop} (h:p:=by(simp (disch:=omega) only[go_sem,dopV,yV0,↓reduceIte,Nat.reduceEqDiff,Nat.reduceLT,Nat.reduceLeDiff,Nat.reduceAdd,Nat.reduceMul,Nat.reduceSub,Int.reduceToNat,Int.reduceLT,Int.reduceLE,Int.reduceEq,IntWalk.toNatUp,IntWalk.iteOmega,IntWalk.i64_in,V.flat,V.one, *,List.forall_mem_map,implies_true,take_all,List.take_length];try exact rfl)):p:=h
theorem knit_qc (bs:Nat) (x:Int) (s:GSet) (h:gsetS s=0):QC Tryz.prog 126 [ptr bs,s.val] bs x (fun u=> ∃l:List Int,u = .own false 3 1 (l.map cI)∧KindsIn s.plain.toNat l∧l.length≤14):=by
 have ok:=gset_ok h
 have hp:=kitPlain_pc s ok.few
 have hpl:=ok.plain
 have hme:=ok.melds
 have hsl:=ok.suits
 have hsi:=suit_in ok.suit
 have hw:=ok.winds
 have hdr:=ok.dragons
 have hpe:s.plain=s.winds+s.dragons+sumI s.suits:=rfl
 have hsa:=fun(i:Nat) (hi:i<s.suits.length)=>sumI_at (l:=s.suits) (fun z hz=>by have:=hsi z hz;omega) hi
 obtain⟨N,hN⟩: ∃N:Nat,s.plain=N:=⟨s.plain.toNat,by omega⟩
 rw[hN]at hp hpl hpe ⊢
 rw[Int.toNat_natCast]
 have c1:=below_sc bs x 3 (by omega)
 have b1:=below_lt (x:=x) (n:=3) (by omega)
 generalize belowX x 3=sh at *
 generalize stepX x=y1 at *
 have HS:=Box.mk (And.intro hsi (And.intro hsa hpe))
 clear hsi hsa hpe ok h hN
 unfold QC
 refine DC.of_run Tryz.func126 rfl Tryz.ntmps126 Tryz.results126 (by simp) (fun _ _=>?_);simp only[argV_cons,argV_nil,go_sem,Nat.zero_add,Nat.reduceAdd]
 repeat' (first|(with_reducible first|(refine DS.nilOwn (t:=4) yU yO yE ?_)|(refine DS.nilOwn (t:=6) yU yO yE ?_))|refine yJ ?_|(refine DS.scS inferInstance (c1) yR yT yT ?_;(try simp only[delS_cons,delS_nil,↓reduceIte, *]))|(refine DS.boxF (t:=3) yU yE yU ?_;simp only[yS3])|fail)
 refine DS.loopS [0,3,5] yN (fun(y:Nat×Nat×List Int)=> [(6, .own false 3 1 (y.2.2.map cI)),(7,I y.2.1),(8,I y.1)]) (fun(y:Nat×Nat×List Int)=> [(bs,srcO y1)]) (fun(y:Nat×Nat×List Int)=>(y.1≤s.suits.length∧(y.2.1:Int)=sumI (s.suits.take y.1))∧y.2.2.length≤y.2.1∧KindsIn N y.2.2∧y.2.1≤N) (fun(y:Nat×Nat×List Int)=>s.suits.length-y.1) (0,0,[]) yS (fun b o e=>by exact e) ⟨⟨Nat.zero_le _,by simp[sumI]⟩,Nat.le_refl _,KindsIn.nil _,Nat.zero_le _⟩ (fun y B hI hB=>?_);try dsimp only at hI hB;simp only[app_cons',app_nil']
 obtain⟨i,k,out⟩:=y
 dsimp only at hI hB ⊢
 obtain⟨⟨i1,i2⟩,i3,i4,i5⟩:=hI
 have H:=Box.mk (And.intro i2 (And.intro i4 hB))
 clear i2 i4 hB
 by_cases hi:(i:Int)<(s.suits.length:Int)
 ·have hi':i<s.suits.length:=by omega
  have hb:=HS.out.1 _ (List.getElem_mem hi')
  have hle:=HS.out.2.1 i hi'
  have hle2:(k:Int)+s.suits[i]≤N:=by have:=HS.out.2.2;have:=H.out.1;omega
  obtain⟨R,hR⟩: ∃R:Nat,s.suits[i]=R:=⟨s.suits[i].toNat,by omega⟩
  have HR:=Box.mk hR
  clear hle
  repeat' (first|refine yJT ?_|fail)
  refine DS.loopS [0,3,5,8] yN (fun(w:Nat×Nat×List Int)=> [(6, .own false 3 1 (w.2.2.map cI)),(7,I w.2.1),(9,I w.1)]) (fun(w:Nat×Nat×List Int)=> [(bs,srcO y1)]) (fun(w:Nat×Nat×List Int)=>(w.1≤R∧w.2.1=k+w.1)∧w.2.2.length≤w.2.1∧KindsIn N w.2.2) (fun(w:Nat×Nat×List Int)=>R-w.1) (0,k,out) yS (fun b o e=>by exact e) ⟨⟨Nat.zero_le _,rfl⟩,i3,H.out.2.1⟩ (fun w B hI hB=>?_);try dsimp only at hI hB;simp only[app_cons',app_nil']
  obtain⟨r,q,out2⟩:=w
  dsimp only at hI hB ⊢
  obtain⟨⟨j1,j2⟩,j3,j4⟩:=hI
  have H2:=Box.mk (And.intro j4 hB)
  clear j4 hB
  by_cases hr:(r:Int)<(R:Int)
  ·have hqN:(q:Int)<N:=by omega
   have J2:=Box.mk j2
   clear j2
   repeat' (first|(with_reducible refine DS.mv (t:=6) yU yO yE ?_;simp only[yS2,Nat.reduceEqDiff,↓reduceIte])|(with_reducible refine DS.mv (t:=37) yU yO yE ?_;simp only[yS2,Nat.reduceEqDiff,↓reduceIte])|refine yJ ?_|(with_reducible (refine DS.cE yE ?_;first|refine CG.p (fun _=>?_) (fun _=>?_)|refine CG.yes ?_))|(refine DS.bsl yU yE yE ?_;simp only[go_sem,Nat.zero_add,Nat.reduceAdd])|(refine DS.append (mm:=false) yU yE yE yU (by decide) yE yO2 yE yX7 (by first|exact(htk _)|exact(hdk _)|exact yLM) yQ2 ?_;simp only[yS2,Nat.reduceEqDiff,↓reduceIte])|fail)
   ·refine DS.back (H2.out.2 (r+1,q+1,out2++ [(q:Int)]) _ _ (by dsimp only;omega) ⟨⟨by dsimp only;omega,by have:=J2.out;dsimp only;omega⟩,by simp only[List.length_append,List.length_singleton];omega,H2.out.1.app (fun z hz=>by rw[List.mem_singleton.1 hz];omega)⟩ yS yS (fun b o e=>by exact e))
   ·refine DS.back (H2.out.2 (r+1,q+1,out2) _ _ (by dsimp only;omega) ⟨⟨by dsimp only;omega,by have:=J2.out;dsimp only;omega⟩,by dsimp only;omega,H2.out.1⟩ yS yS (fun b o e=>by exact e))
  ·repeat' (first|refine yJT ?_|fail)
   refine DS.back (H.out.2.2 (i+1,q,out2) _ _ (by dsimp only;omega) ⟨⟨by dsimp only;omega,by dsimp only;rw[sumI_take hi',HR.out,←H.out.1];omega⟩,by dsimp only;omega,H2.out.1,by dsimp only;omega⟩ yS yS (fun b o e=>by exact e))
 ·repeat' (first|refine yJT ?_|fail)
  refine DS.loopS [0,3] yN (fun(y:Nat×List Int)=> [(6, .own false 3 1 (y.2.map cI)),(7,I y.1)]) (fun(y:Nat×List Int)=> [(bs,srcO y1)]) (fun(y:Nat×List Int)=>y.1≤N∧y.2.length≤y.1∧KindsIn N y.2) (fun(y:Nat×List Int)=>N-y.1) (k,out) yS (fun b o e=>by exact e) ⟨i5,i3,H.out.2.1⟩ (fun y B hI hB=>?_);try dsimp only at hI hB;simp only[app_cons',app_nil']
  obtain⟨q,out2⟩:=y
  dsimp only at hI hB ⊢
  obtain⟨j1,j2,j3⟩:=hI
  have H2:=Box.mk (And.intro j3 hB)
  clear j3 hB
  by_cases hq:(q:Int)<(N:Int)
  ·repeat' (first|(with_reducible refine DS.mv (t:=6) yU yO yE ?_;simp only[yS2,Nat.reduceEqDiff,↓reduceIte])|(with_reducible refine DS.mv (t:=49) yU yO yE ?_;simp only[yS2,Nat.reduceEqDiff,↓reduceIte])|refine yJT ?_|(refine DS.bsl yU yE yE ?_;simp only[go_sem,Nat.zero_add,Nat.reduceAdd])|(refine DS.append (mm:=false) yU yE yE yU (by decide) yE yO2 yE yX7 (by first|exact(htk _)|exact(hdk _)|exact yLM) yQ2 ?_;simp only[yS2,Nat.reduceEqDiff,↓reduceIte])|refine DS.pcS inferInstance (hp) yR yT ?_|fail)
   refine DS.back (H2.out.2 (q+1,out2++ [(q:Int)]) _ _ (by dsimp only;omega) ⟨by dsimp only;omega,by simp only[List.length_append,List.length_singleton];omega,H2.out.1.app (fun z hz=>by rw[List.mem_singleton.1 hz];omega)⟩ yS yS (fun b o e=>by exact e))
  ·repeat' (first|refine yJT ?_|refine DS.pcS inferInstance (hp) yR yT ?_|fail)
   refine DS.loopS [0,10] yN (fun(y:Int×List Int)=> [(6, .own false 3 1 (y.2.map cI))]) (fun(y:Int×List Int)=> [(bs,srcO y.1)]) (fun(y:Int×List Int)=>y.2.length≤N∧KindsIn N y.2) (fun(y:Int×List Int)=>y.2.length) (y1,out2) yS (fun b o e=>by exact e) ⟨by dsimp only;omega,H2.out.1⟩ (fun y B hI hB=>?_);try dsimp only at hI hB;simp only[app_cons',app_nil']
   obtain⟨z,l3⟩:=y
   dsimp only at hI hB ⊢
   obtain⟨k1,k2⟩:=hI
   have H3:=Box.mk (And.intro k2 hB)
   clear k2 hB
   by_cases hl3:(l3.length:Int) > 3*s.melds+2
   ·have cb:=below_sc bs z l3.length (by omega)
    have bb:=below_lt (x:=z) (n:=(l3.length:Int)) (by omega)
    obtain⟨a,ha⟩: ∃a:Nat,(a:Int)=belowX z l3.length:=⟨(belowX z l3.length).toNat,by omega⟩
    rw[←ha]at cb bb
    clear ha
    have htk: ∀(a:Nat),∀c∈List.take a (List.map cI l3),c.length=1:=fun a c hc=>len_map cI_len _ c (List.mem_of_mem_take hc)
    have hdk: ∀(a:Nat),∀c∈List.drop a (List.map cI l3),c.length=1:=fun a c hc=>len_map cI_len _ c (List.mem_of_mem_drop hc)
    have hto:List.take l3.length (List.map cI l3)=List.map cI l3:=List.take_of_length_le (by simp)
    repeat' (first|(with_reducible refine DS.mv (t:=6) yU yO yX10 ?_;simp only[yS2,Nat.reduceEqDiff,↓reduceIte])|with_reducible refine DS.fltS yU yU yX10 ?_|refine yJ ?_|(with_reducible (refine DS.cE yX10 ?_;refine CG.yes ?_))|(refine DS.append (mm:=false) yU yX10 yX10 yU (by decide) yX10 yO2 yX10 yX11 (by first|exact(htk _)|exact(hdk _)|exact yLM) yQ2 ?_;simp only[yS2,Nat.reduceEqDiff,↓reduceIte])|(refine DS.scS inferInstance (cb) yR yX17 yX17 ?_;(try simp only[delS_cons,delS_nil,↓reduceIte, *]))|refine DS.drawL (id:=19) [1,2,3,0,4,5,6,7,8] 9 yKR mixed yP1 yP2 ?_|(with_reducible first|refine DD.fltS yU yU yU yX10 ?_|refine DD.nil0 ?_)|(refine DD.bslS yU yX10 yX10 ?_;simp only[go_sem,Nat.zero_add,Nat.reduceAdd];simp only[delV_cons',delV_nil',Nat.reduceEqDiff,↓reduceIte])|(refine DD.append (mm:=false) yU yX10 yX10 yU (by decide) yX10 yO2 yX10 yX11 (by first|exact(htk _)|exact(hdk _)|exact yLM) yQ2 ?_;simp only[yS2,Nat.reduceEqDiff,↓reduceIte];simp only[delV_cons',delV_nil',Nat.reduceEqDiff,↓reduceIte])|fail)
    have e1:List.take a (List.map cI l3)++List.drop (a+1) (List.map cI l3)=(l3.take a++l3.drop (a+1)).map cI:=by rw[List.map_append,List.map_take,List.map_drop]
    rw[e1]
    refine DS.back (H3.out.2 (stepX z,l3.take a++l3.drop (a+1)) _ _ (by simp only[List.length_append,List.length_take,List.length_drop];omega) ⟨by simp only[List.length_append,List.length_take,List.length_drop];omega,(H3.out.1.take a).app (H3.out.1.drop (a+1))⟩ yS yS (fun b o e=>by exact e))
   ·repeat' (first|(with_reducible refine DS.mv (t:=4) yU yO yE ?_;simp only[yS2,Nat.reduceEqDiff,↓reduceIte])|(with_reducible refine DS.mv (t:=75) yU yO yE ?_;simp only[yS2,Nat.reduceEqDiff,↓reduceIte])|refine yJT ?_|fail)
    refine DS.retA yG ⟨⟨l3,rfl,H3.out.1,by omega⟩,z,rfl⟩
theorem bagOf_qp (s:GSet) (h:gsetS s=0) (ks:List Int) (hk:KindsIn s.plain.toNat ks) (hl:ks.length≤100):QP Tryz.prog 127 [s.val,ints ks] (fun u=> ∃l:List Int,u=ints l∧Bag s.plain.toNat 1000 l):=by
 have ok:=gset_ok h
 have hp:=kitPlain_pc s ok.few
 have hpl:=ok.plain
 obtain⟨N,hN⟩: ∃N:Nat,s.plain=N:=⟨s.plain.toNat,by omega⟩
 rw[hN]at hp hpl hk ⊢
 rw[Int.toNat_natCast]at hk ⊢
 have hN34:N≤34:=by omega
 have hNm:N≤maxLen:=Nat.le_trans hN34 (by decide)
 clear ok h hN
 unfold QP
 refine DC.of_run Tryz.func127 rfl Tryz.ntmps127 Tryz.results127 (by simp) (fun _ _=>?_);simp only[argV_cons,argV_nil,go_sem,Nat.zero_add,Nat.reduceAdd]
 repeat' (first|refine yJ ?_|refine DS.pcS inferInstance (hp) yR yT ?_|(refine DS.boxF (t:=2) yU yE yU ?_;simp only[yS3])|(refine DS.mkS yU yE yE yE yE yU yU ⟨by omega,by omega,by decide,by omega⟩ (fun _ hfr=>?_))|fail)
 rename_i b1
 simp only[Int.toNat_natCast]
 rw[zerosR]
 refine DS.putK (b:=b1) (cap:=N) (m:=N) (c:=0) (L:=List.replicate N 0) (ks:=ks) (Bag.zero N (Int.le_refl _)) hk (by omega) (by omega) (by omega) yR yH (by simp only[lookS_cons,↓reduceIte]) ?_
 have hB1:=(Bag.zero N (Int.le_refl 0)).putB hk
 simp only[delS_cons,delS_nil,↓reduceIte]
 generalize putB (List.replicate N 0) ks=l at *
 have hol:=hB1.len
 repeat' (first|refine yJ ?_|fail)
 refine DS.freeze (t:=4) (b:=b1) (len:=N) (cap:=N) (sz:=1) (l:=l.map fun x=>I x) (T:=3) yH (by simp only[lookS_cons,↓reduceIte]) (by rw[List.length_map];omega) ⟨Nat.le_refl _,hNm⟩ ?_
 have hch:=chunk_objJ l []
 rw[hol,List.append_nil]at hch
 rw[hch]
 refine DS.retW [] yG (fun d o e=>by cases e) ⟨l,rfl,hB1.mono (by omega)⟩
end Go.XL
namespace Go.XL
open Go.Proofs
set_option maxRecDepth 100000
set_option maxHeartbeats 8000000
theorem yX18 {p:Prop} (h:p:=by(simp (disch:=omega) only[go_sem,dopV,yV0,↓reduceIte,Nat.reduceEqDiff,Nat.reduceLT,Nat.reduceLeDiff,Nat.reduceAdd,Nat.reduceMul,Nat.reduceSub,Int.reduceToNat,Int.reduceLT,Int.reduceLE,Int.reduceEq,IntWalk.toNatUp,IntWalk.iteOmega,IntWalk.i64_in,V.flat,V.one,setS,setAll];exact rfl)):p:=h
theorem big_pc :QP Tryz.prog 78 [] (fun u=> ∃s:GSet,u=s.val∧gsetS s=0):=by
 unfold QP
 refine DC.of_run Tryz.func78 rfl Tryz.ntmps78 Tryz.results78 (by simp) (fun _ _=>?_);simp only[argV_cons,argV_nil,go_sem,Nat.zero_add,Nat.reduceAdd]
 repeat' (first|refine yJ ?_|fail)
 refine DS.allocS yR yU yU (fun b6 h6=>?_)
 clear h6
 repeat' (first|with_reducible refine DS.fltS yU yU yX6 ?_|refine yJ ?_|(refine DS.bsl yU yX6 yX6 ?_;simp only[go_sem,Nat.zero_add,Nat.reduceAdd])|(refine DS.store yR yX6 yX6 yX6 yX6 yU yQ ?_;simp only[yS1];try simp only[yS2,Nat.reduceEqDiff,↓reduceIte])|fail)
 refine DS.retW [] yX18 (fun b o e=>by cases e) ?_
 exact⟨⟨4,[9,9,9],4,3,0,4,4,14,[4,13,22]⟩,rfl,by decide⟩
theorem kitPlainR_pc (s:GSet) (h:s.Few) (a:Addr) (ln cp:Nat):PC Tryz.prog 65 [.agg [I s.players,ints s.suits,I s.winds,I s.dragons,I s.flowers,I s.copies,I s.melds,I s.dead, .v (.slice (some a) ln cp)]] (I s.plain):=by
 have ht:=kitTotal_pc s.suits (fun x hx=>by have:=h.suit x hx;omega) (by have:=h.suits;omega)
 have hs:=sumI_bdK (l:=s.suits) (B:=9) fun x hx=>by have:=h.suit x hx;omega
 have h1:=h.suits
 have h2:=h.winds
 have h3:=h.dragons
 have hb : -27≤sumI s.suits∧sumI s.suits≤27:=by omega
 clear hs h
 have e2:s.plain=sumI s.suits+s.winds+s.dragons:=by rw[GSet.plain];omega
 rw[e2]
 clear e2
 refine DC.of_run Tryz.func65 rfl Tryz.ntmps65 Tryz.results65 (by simp) (fun _ _=>?_);simp only[argV_cons,argV_nil,go_sem,Nat.zero_add,Nat.reduceAdd]
 repeat' (first|refine yJ ?_|(refine DS.boxF (t:=1) yU yE yU ?_;simp only[yS3])|refine DS.drawL (id:=1) [0,1,2,3,4,5,6,7] 8 yKR mixed yP1 yP2 ?_|(with_reducible first|refine DD.fltS yU yU yU yE ?_|refine DD.nil0 ?_)|refine DD.pcV0 inferInstance (ht) yU yT ?_|refine DS.retT [] yE trivial ?_|fail)
 all_goals rfl
end Go.XL
namespace Go.XL
open Go.Proofs
set_option maxRecDepth 100000
set_option maxHeartbeats 8000000
structure IntG (bl:List Nat) (l:List Int) (g:GR):Prop where
 l:g.l=l.map cI
 ok:g.Ok 3 1 (SRg 3 g)
 nb:NBg bl g
theorem asc_app {K:Int}: ∀{l:List Int} {p:Int},(∀z∈l,0≤z∧z<K)→(∀z∈l,p<z)→l.Pairwise (· < ·)→ascGo K l p=0
 | [],_,_,_,_=>rfl
 | a::l,p,h1,h2,h3=>by
  have ha:=h1 a (List.mem_cons_self ..)
  have hp:=h2 a (List.mem_cons_self ..)
  obtain⟨h4,h5⟩:=List.pairwise_cons.1 h3
  rw[ascGo,if_neg (by omega),if_neg (by omega)]
  exact asc_app (fun z hz=>h1 z (List.mem_cons_of_mem _ hz)) h4 h5
theorem suits_zero : ∀{l:List Int},(∀z∈l,3≤z∧z≤5)→suitsGo l=0
 | [],_=>rfl
 | a::l,h=>by
  have ha:=h a (List.mem_cons_self ..)
  rw[suitsGo,if_neg (by omega)]
  exact suits_zero fun z hz=>h z (List.mem_cons_of_mem _ hz)
theorem suits_bd : ∀{l:List Int},(∀z∈l,3≤z∧z≤5)→3*(l.length:Int)≤sumI l∧sumI l≤5*l.length
 | [],_=>by simp[sumI]
 | a::l,h=>by
  have ha:=h a (List.mem_cons_self ..)
  have:=suits_bd fun z hz=>h z (List.mem_cons_of_mem _ hz)
  rw[sumI,List.length_cons];omega
theorem IntG.some {bl:List Nat} {l:List Int} {g:GR} (h:IntG bl l g) (hl:0<l.length): ∃b cap j,g=⟨l.map cI,Option.some (b,cap,j)⟩:=by
 obtain⟨gl,blk⟩:=g
 have h1:gl=l.map cI:=h.l
 subst h1
 cases blk with
 | none =>
  have:=h.ok
  have h2:l.map cI= []:=this
  rw[List.map_eq_nil_iff.1 h2]at hl;cases hl
 | some x=>exact⟨x.1,x.2.1,x.2.2,rfl⟩
theorem little_ok {suits reds:List Int} {wi dr fl cp melds de:Int} (hs: ∀z∈suits,3≤z∧z≤5) (hn:1≤suits.length∧suits.length≤2) (h1:2≤cp∧cp≤4) (h2:0≤wi∧wi≤4) (h3:0≤dr∧dr≤3) (h4:0≤fl∧fl≤1) (h5:0≤de∧de≤2) (hm:1≤melds∧melds≤3)
  (hr: ∀z∈reds,0≤z∧z<(⟨3,suits,wi,dr,fl,cp,melds,de,[]⟩:GSet).plain) (hp:reds.Pairwise (· < ·)) (hneed: ¬(⟨3,suits,wi,dr,fl,cp,melds,de,[]⟩:GSet).plain*cp+fl<3*(3*melds+1)+1+de):gsetS ⟨3,suits,wi,dr,fl,cp,melds,de,reds⟩=0:=by
 have hb:=suits_bd hs
 have e:(⟨3,suits,wi,dr,fl,cp,melds,de,reds⟩:GSet).plain=(⟨3,suits,wi,dr,fl,cp,melds,de,[]⟩:GSet).plain:=rfl
 have hpl:1≤(⟨3,suits,wi,dr,fl,cp,melds,de,[]⟩:GSet).plain:=by rw[GSet.plain];dsimp only;omega
 have ha:ascS (⟨3,suits,wi,dr,fl,cp,melds,de,[]⟩:GSet).plain reds=0:=asc_app hr (fun z hz=>by have:=hr z hz;omega) hp
 unfold gsetS
 rw[e]
 dsimp only
 rw[ha,suits_zero hs]
 rw[if_neg (by omega),if_neg (by omega),if_neg (by omega),if_neg (by omega),if_neg (by omega),if_neg (by omega),if_neg (by omega),if_neg (by omega),if_neg (by omega),if_neg (by omega),if_neg (by omega),if_neg hneed]
theorem yX19 {p:Prop} (h:p:=by(simp (disch:=omega) only[go_sem,dopV,yV0,↓reduceIte,Nat.reduceEqDiff,Nat.reduceLT,Nat.reduceLeDiff,Nat.reduceAdd,Nat.reduceMul,Nat.reduceSub,Int.reduceToNat,Int.reduceLT,Int.reduceLE,Int.reduceEq,IntWalk.toNatUp,IntWalk.iteOmega,IntWalk.i64_in,V.flat,V.one, *,GR.cell_copy,Value.oneCell'];try exact rfl)):p:=h
theorem little_qc (bs:Nat) (x melds:Int) (hm:1≤melds∧melds≤3):QC Tryz.prog 39 [ptr bs,I melds] bs x (fun u=> ∃s:GSet,u=s.val∧gsetS s=0):=by
 obtain⟨y1,e1⟩: ∃y,stepX x=y:=⟨_,rfl⟩
 obtain⟨y2,e2⟩: ∃y,stepX y1=y:=⟨_,rfl⟩
 obtain⟨y3,e3⟩: ∃y,stepX y2=y:=⟨_,rfl⟩
 obtain⟨y4,e4⟩: ∃y,stepX y3=y:=⟨_,rfl⟩
 obtain⟨y5,e5⟩: ∃y,stepX y4=y:=⟨_,rfl⟩
 obtain⟨y6,e6⟩: ∃y,stepX y5=y:=⟨_,rfl⟩
 have c1:=range_sc bs x 2 4 (by omega)
 have c2:=below_sc bs y1 3 (by omega)
 have c3:=below_sc bs y2 3 (by omega)
 have c4:=below_sc bs y3 2 (by omega)
 have c5:=below_sc bs y4 3 (by omega)
 have c6:=range_sc bs y5 1 2 (by omega)
 have b1:=range_bd (x:=x) (lo:=2) (hi:=4) (by omega)
 have b2:=below_lt (x:=y1) (n:=3) (by omega)
 have b3:=below_lt (x:=y2) (n:=3) (by omega)
 have b4x:=below_lt (x:=y3) (n:=2) (by omega)
 have b5x:=below_lt (x:=y4) (n:=3) (by omega)
 have b6x:=range_bd (x:=y5) (lo:=1) (hi:=2) (by omega)
 rw[e1]at c1
 rw[e2]at c2
 rw[e3]at c3
 rw[e4]at c4
 rw[e5]at c5
 rw[e6]at c6
 generalize rangeX x 2 4=cp at *
 generalize belowX y1 3=wi at *
 generalize belowX y2 3=dr at *
 generalize belowX y3 2=fl at *
 generalize belowX y4 3=de at *
 obtain⟨N,hN⟩: ∃N:Nat,(N:Int)=rangeX y5 1 2:=⟨(rangeX y5 1 2).toNat,by omega⟩
 rw[←hN]at c6 b6x
 clear hN e1 e2 e3 e4 e5 e6
 unfold QC
 refine DC.of_run Tryz.func39 rfl Tryz.ntmps39 Tryz.results39 (by simp) (fun _ _=>?_);simp only[argV_cons,argV_nil,go_sem,Nat.zero_add,Nat.reduceAdd]
 repeat' (first|refine yJ ?_|fail)
 refine DS.allocS yR yU yU (fun b4 h4=>?_)
 have n4: ¬bs=b4:=fun e=>by rw[lookS_cons,if_pos e]at h4;cases h4
 have n4': ¬b4=bs:=fun e=>n4 e.symm
 clear h4
 repeat' (first|with_reducible refine DS.fltS yU yU yX6 ?_|refine yJ ?_|(refine DS.scS inferInstance (c1) yR yX9 yX9 ?_;(try simp only[delS_cons,delS_nil,↓reduceIte, *]))|(refine DS.scS inferInstance (c2) yR yX9 yX9 ?_;(try simp only[delS_cons,delS_nil,↓reduceIte, *]))|(refine DS.scS inferInstance (c3) yR yX9 yX9 ?_;(try simp only[delS_cons,delS_nil,↓reduceIte, *]))|(refine DS.scS inferInstance (c4) yR yX9 yX9 ?_;(try simp only[delS_cons,delS_nil,↓reduceIte, *]))|(refine DS.scS inferInstance (c5) yR yX9 yX9 ?_;(try simp only[delS_cons,delS_nil,↓reduceIte, *]))|fail)
 refine DS.allocS yR yU yU (fun b5 h5=>?_)
 have n5: ¬bs=b5:=fun e=>by simp only[lookS_cons,e,↓reduceIte]at h5;first|(cases h5;done)|(split at h5 <;> cases h5)
 have n5': ¬b5=bs:=fun e=>n5 e.symm
 have m5: ¬b4=b5:=fun e=>by simp only[lookS_cons,e,↓reduceIte]at h5;first|(cases h5;done)|(split at h5 <;> cases h5)
 have m5': ¬b5=b4:=fun e=>m5 e.symm
 clear h5
 repeat' (first|with_reducible refine DS.fltS yU yU yX6 ?_|refine yJ ?_|(refine DS.scS inferInstance (c6) yR yX9 yX9 ?_;(try simp only[delS_cons,delS_nil,↓reduceIte, *]))|(refine DS.store yR yX6 yX6 yX6 yX6 yU yQ ?_;simp only[yS1];try simp only[yS2,Nat.reduceEqDiff,↓reduceIte])|fail)
 simp only[setS,delS_cons,delS_nil,n4,n4',n5,n5',m5,m5',↓reduceIte,List.map_cons,List.map_nil,copy_v,setAll_cons,setAll_nil,set_cons',set_zero',Nat.reduceAdd,Nat.zero_add]
 have hz0:(Value.agg #[Value.int IntKind.i64 0,Value.slice none 0 0,Value.int IntKind.i64 0,Value.int IntKind.i64 0,Value.int IntKind.i64 0,Value.int IntKind.i64 0,Value.int IntKind.i64 0,Value.int IntKind.i64 0,Value.slice none 0 0]).cells.toList.map V.v= [I 0, .v (.slice none 0 0),I 0,I 0,I 0,I 0,I 0,I 0, .v (.slice none 0 0)]:=rfl
 rw[hz0]
 clear hz0 c1 c2 c3 c4 c5 c6
 try (simp only[setS,delS_cons,delS_nil,n4,n4',n5,n5',m5,m5',↓reduceIte,List.map_cons,List.map_nil,copy_v,setAll_cons,setAll_nil,set_cons',set_zero',Nat.reduceAdd,Nat.zero_add])
 refine DS.loopS [0,1,4,5] yN (fun(y:Nat×Int×List Int×GR)=> [(6,I y.1)]) (fun(y:Nat×Int×List Int×GR)=>(bs,srcO y.2.1)::(b5,Ob.cells [I 3,y.2.2.2.cell,I wi,I dr,I fl,I cp,I melds,I de, .v (.slice none 0 0)] 24)::(b4, .cells [I 0, .v (.slice none 0 0),I 0,I 0,I 0,I 0,I 0,I 0, .v (.slice none 0 0)] 24)::SRg 3 y.2.2.2) (fun(y:Nat×Int×List Int×GR)=>(y.1+y.2.2.1.length=N∧ ∀z∈y.2.2.1,3≤z∧z≤5)∧IntG [bs,b5,b4] y.2.2.1 y.2.2.2) (fun(y:Nat×Int×List Int×GR)=>y.1) (N,y6,[],⟨[],none⟩) yS (fun b o e=>by exact e) ⟨⟨Nat.add_zero _,fun z hz=>by cases hz⟩,⟨rfl,rfl,NBg.none _ _⟩⟩ (fun y B hI hB=>?_);try dsimp only at hI hB;simp only[app_cons',app_nil']
 obtain⟨i,z1,suits,g⟩:=y
 dsimp only at hI hB ⊢
 obtain⟨⟨i0,i1⟩,i2⟩:=hI
 have H:=Box.mk (And.intro i2 (And.intro i1 hB))
 have hdel:=i2.nb.del 3 (c:=bs) (by simp)
 clear i1 i2 hB
 by_cases hi:0<(i:Int)
 ·obtain⟨k,rfl⟩: ∃k,i=k+1:=⟨i-1,by omega⟩
  have cr:=range_sc bs z1 3 5 (by omega)
  have br:=range_bd (x:=z1) (lo:=3) (hi:=5) (by omega)
  obtain⟨rg,hrg⟩: ∃rg,rangeX z1 3 5=rg:=⟨_,rfl⟩
  rw[hrg]at cr br
  clear hrg
  repeat' (first|refine yJT ?_|fail)
  refine DS.drawLS (id:=5) ([(b5,Ob.cells [I 3,g.cell,I wi,I dr,I fl,I cp,I melds,I de, .v (.slice none 0 0)] 24),(b4, .cells [I 0, .v (.slice none 0 0),I 0,I 0,I 0,I 0,I 0,I 0, .v (.slice none 0 0)] 24)]) ((bs,srcO z1)::SRg 3 g) [0,1,2,3,4] 5 yKR mixed yP1 yP2 ((srg_split0 (L:= [(b5,Ob.cells [I 3,g.cell,I wi,I dr,I fl,I cp,I melds,I de, .v (.slice none 0 0)] 24),(b4, .cells [I 0, .v (.slice none 0 0),I 0,I 0,I 0,I 0,I 0,I 0, .v (.slice none 0 0)] 24)]) (by simp only[List.map_cons,List.map_nil,List.mem_cons,List.not_mem_nil,or_false,not_or];exact⟨n5,n4⟩) H.out.1.nb)) ((srg_split1 (L:= [(b5,Ob.cells [I 3,g.cell,I wi,I dr,I fl,I cp,I melds,I de, .v (.slice none 0 0)] 24),(b4, .cells [I 0, .v (.slice none 0 0),I 0,I 0,I 0,I 0,I 0,I 0, .v (.slice none 0 0)] 24)]) H.out.1.nb)) ?_
  repeat' (first|with_reducible refine DD.fltS yU yU yU yX14 ?_|(with_reducible refine DD.nil ?_;simp only[app_cons',app_nil'])|(refine DD.scS inferInstance (cr) yU yX19 yX19 ?_;simp only[delV_cons',delV_nil',Nat.reduceEqDiff,↓reduceIte];(try simp only[delS_cons,delS_nil,↓reduceIte, *]))|(refine DD.bslS yU yX14 yX14 ?_;simp only[go_sem,Nat.zero_add,Nat.reduceAdd];simp only[delV_cons',delV_nil',Nat.reduceEqDiff,↓reduceIte])|fail)
  have hnb:=H.out.1.nb
  have hgl:g.l.length=suits.length:=by rw[H.out.1.l,List.length_map]
  refine DS.reS (S':=(bs,srcO (stepX z1))::([(b5,Ob.cells [I 3,g.cell,I wi,I dr,I fl,I cp,I melds,I de, .v (.slice none 0 0)] 24),(b4, .cells [I 0, .v (.slice none 0 0),I 0,I 0,I 0,I 0,I 0,I 0, .v (.slice none 0 0)] 24)]++SRg 3 g)) (srg_swap (L:= [(b5,Ob.cells [I 3,g.cell,I wi,I dr,I fl,I cp,I melds,I de, .v (.slice none 0 0)] 24),(b4, .cells [I 0, .v (.slice none 0 0),I 0,I 0,I 0,I 0,I 0,I 0, .v (.slice none 0 0)] 24)]) hnb) ?_
  refine DS.step rfl rfl yR (OpS.appG (g:=g) (ml:= [cI rg]) rfl yH yH yR yR (by decide) yH (H.out.1.ok.under (L:= [(b5,Ob.cells [I 3,g.cell,I wi,I dr,I fl,I cp,I melds,I de, .v (.slice none 0 0)] 24),(b4, .cells [I 0, .v (.slice none 0 0),I 0,I 0,I 0,I 0,I 0,I 0, .v (.slice none 0 0)] 24)]) hnb) yH yH (by exact Nat.zero_lt_succ _) (by intro c hc;obtain rfl:=List.mem_singleton.1 hc;rfl) ⟨by rw[hgl,List.length_singleton];omega,by decide⟩) (fun u2 E' S4 hu2=>?_)
  obtain⟨rfl,b',cap',junk',rfl,m1,m2,m3⟩:=hu2
  have hml:g.l++ [cI rg].map (fun x=>List.map V.copy x)=(suits++ [rg]).map cI:=by rw[H.out.1.l,List.map_append];rfl
  rw[hml]at m1 ⊢
  obtain⟨hnb2,hS4⟩:=srg_seq (L:= [(b5,Ob.cells [I 3,g.cell,I wi,I dr,I fl,I cp,I melds,I de, .v (.slice none 0 0)] 24),(b4, .cells [I 0, .v (.slice none 0 0),I 0,I 0,I 0,I 0,I 0,I 0, .v (.slice none 0 0)] 24)]) hnb m1 m2 m3
  refine DS.reS (S':=(bs,srcO (stepX z1))::([(b5,Ob.cells [I 3,g.cell,I wi,I dr,I fl,I cp,I melds,I de, .v (.slice none 0 0)] 24),(b4, .cells [I 0, .v (.slice none 0 0),I 0,I 0,I 0,I 0,I 0,I 0, .v (.slice none 0 0)] 24)]++SRg 3 ⟨(suits++ [rg]).map cI,some (b',cap',junk')⟩)) hS4 ?_
  have hI2:IntG [bs,b5,b4] (suits++ [rg]) ⟨(suits++ [rg]).map cI,some (b',cap',junk')⟩:=⟨rfl,SRg.ok m1,hnb2⟩
  have hs2: ∀z∈suits++ [rg],3≤z∧z≤5:=fun z hz=>(List.mem_append.1 hz).elim (H.out.2.1 z) fun hz=>by rw[List.mem_singleton.1 hz];exact br
  have H3:=Box.mk (And.intro hI2 hs2)
  clear hI2 hs2 hml m1 m2 m3 hnb2 hS4 hgl
  simp only[GR.cell_some,putV_some,List.length_map,app_cons',app_nil']
  repeat' (first|refine yJ ?_|(refine DS.store yR yE yE yE yE yU yQ ?_;simp only[yS1];try simp only[yS2,Nat.reduceEqDiff,↓reduceIte])|fail)
  simp only[setS,n5,↓reduceIte]
  simp only[show((k+1:Nat):Int)-1=(k:Int) by omega]
  refine DS.back (H.out.2.2 (k,stepX z1,suits++ [rg],⟨(suits++ [rg]).map cI,some (b',cap',junk')⟩) _ _ (by dsimp only;omega) ⟨⟨by simp only[List.length_append,List.length_singleton];omega,H3.out.2⟩,H3.out.1⟩ yS yS (fun d o e=>?_))
  dsimp only at e
  rw[GR.cell_some,List.length_map]at e
  exact e
 ·obtain rfl:i=0:=by omega
  have hsl:1≤suits.length∧suits.length≤2:=by omega
  obtain⟨b,cap,junk,rfl⟩:=H.out.1.some (by omega)
  have h1:=H.out.1.nb b cap junk rfl
  simp only[List.mem_cons,List.not_mem_nil,or_false,not_or]at h1
  obtain⟨k1,k2,k3⟩:=h1
  have hok:GR.At 3 1 _ (suits.map cI) b cap junk:=H.out.1.ok
  have q1:=hok.len
  have q2:=hok.le
  have q3:=hok.cap
  have hs:=H.out.2.1
  rw[List.length_map]at q1 q2
  have k1': ¬bs=b:=fun e=>k1 e.symm
  have k2': ¬b5=b:=fun e=>k2 e.symm
  have k3': ¬b4=b:=fun e=>k3 e.symm
  have HH:=Box.mk hs
  have e0:(suits.map cI).flatten++junk=(suits.map fun x=>I x)++junk:=by rw[ints_flatI]
  simp only[SRg,GR.cell_some,List.length_map,e0]
  have hch:chunk 1 suits.length (((suits.map fun x=>I x)++junk).map V.copy)=suits.map cI:=by
   rw[List.map_append,List.map_map]
   have:=chunk_flg (sz:=1) (junk.map V.copy) (l:=suits.map cI) (fun c hc=>by obtain⟨y,-,rfl⟩:=List.mem_map.1 hc;rfl)
   rw[List.length_map,ints_flatI]at this
   exact this
  have hsu:=suits_bd hs
  have hsn:=suits_zero hs
  clear H e0 hok hs hdel
  repeat' (first|refine yJT ?_|fail)
  refine DS.freezeC (b:=b) (b':=b5) (i:=1) (len:=suits.length) (cap:=cap) (sz:=1) (l:=(suits.map fun x=>I x)++junk) (T:=3) (l':= [I 3, .v (.slice (some ⟨b,0,none⟩) suits.length cap),I wi,I dr,I fl,I cp,I melds,I de, .v (.slice none 0 0)]) (T':=24) k2' (by simp only[lookS_cons,lookS_nil,n5,k1',k2',k3',m5',↓reduceIte]) yR (by simp only[lookS_cons,k1',k2',k3',↓reduceIte]) (by simp) ⟨q2,q3⟩ ?_
  rw[hch]
  simp only[setS,delS_cons,delS_nil,n4,n4',n5,n5',m5,m5',k1,k2,k3,k1',k2',k3',↓reduceIte,set_cons',set_zero']
  clear hch q1 q2 q3 k1 k2 k3 k1' k2' k3' b cap junk
  have few: ∀cp' wi' dr':Int,(0≤wi'∧wi'≤4)→(0≤dr'∧dr'≤3)→ ∀reds,(⟨3,suits,wi',dr',fl,cp',melds,de,reds⟩:GSet).Few:=fun cp' wi' dr' h1 h2 reds=>⟨by dsimp only;omega,fun z hz=>by have:=HH.out z hz;omega,h1,h2⟩
  refine DS.loopS [0,4,5,7] yN (fun(y:Int×Int×Int)=> []) (fun(y:Int×Int×Int)=>(bs,srcO z1)::(b5,Ob.cells [I 3,ints suits,I y.2.1,I y.2.2,I fl,I y.1,I melds,I de, .v (.slice none 0 0)] 24):: [(b4, .cells [I 0, .v (.slice none 0 0),I 0,I 0,I 0,I 0,I 0,I 0, .v (.slice none 0 0)] 24)]) (fun(y:Int×Int×Int)=>(2≤y.1∧y.1≤4)∧(0≤y.2.1∧y.2.1≤4)∧0≤y.2.2∧y.2.2≤3) (fun(y:Int×Int×Int)=>(15-y.1-y.2.1-y.2.2).toNat) (cp,wi,dr) yS (fun b o e=>by exact e) ⟨⟨by dsimp only;omega,by dsimp only;omega⟩,⟨by dsimp only;omega,by dsimp only;omega⟩,by dsimp only;omega,by dsimp only;omega⟩ (fun y B hI hB=>?_);try dsimp only at hI hB;simp only[app_cons',app_nil']
  obtain⟨cp',wi',dr'⟩:=y
  dsimp only at hI hB ⊢
  obtain⟨j1,j2,j3⟩:=hI
  have hp:=kitPlain_pc ⟨3,suits,wi',dr',fl,cp',melds,de,[]⟩ (few cp' wi' dr' j2 j3 [])
  have hpl:(⟨3,suits,wi',dr',fl,cp',melds,de,[]⟩:GSet).plain=wi'+dr'+sumI suits:=rfl
  obtain⟨pl,hpl2⟩: ∃pl,(⟨3,suits,wi',dr',fl,cp',melds,de,[]⟩:GSet).plain=pl:=⟨_,rfl⟩
  rw[hpl2]at hp hpl
  have hpb:3≤pl∧pl≤17:=by omega
  obtain⟨pr,hpr⟩: ∃pr,pl*cp'=pr:=⟨_,rfl⟩
  have hprb:0≤pr∧pr≤68:=by
   rw[←hpr]
   have h1:pl*cp'≤17*4:=Int.mul_le_mul hpb.2 j1.2 (by omega) (by omega)
   have h2:0≤pl*cp':=Int.mul_nonneg (by omega) (by omega)
   omega
  have hpr2:cp'=4→pr=pl*4:=fun e=>by rw[←hpr,e]
  have HB:=Box.mk (And.intro hB (And.intro hpl2 (And.intro hpr2 hpl)))
  clear hB hpl2 hpr2 hpl
  by_cases ht:pr+fl<3*(3*melds+1)+1+de
  ·have back: ∀(a b c:Int) E' S',((2≤a∧a≤4)∧(0≤b∧b≤4)∧0≤c∧c≤3)→cp'+wi'+dr'<a+b+c→subV [(0,ptr bs),(4,ptr b4),(5,ptr b5),(7,I (3*(3*melds+1)+1+de))] E'→(∀d o,lookS ((bs,srcO z1)::(b5,Ob.cells [I 3,ints suits,I b,I c,I fl,I a,I melds,I de, .v (.slice none 0 0)] 24):: [(b4, .cells [I 0, .v (.slice none 0 0),I 0,I 0,I 0,I 0,I 0,I 0, .v (.slice none 0 0)] 24)]) d=some o→lookS S' d=some o)→B E' S':=fun a b c E' S' h1 h2 h3 h4=>HB.out.1 (a,b,c) E' S' (by dsimp only;omega) h1 trivial h3 h4
   by_cases hc1:cp'<4
   ·repeat' (first|refine yJT ?_|(refine DS.store yR yE yE yE yE yU yQ ?_;simp only[yS1];try simp only[yS2,Nat.reduceEqDiff,↓reduceIte])|refine DS.drawL (id:=7) [0,1,2,3,4,5,6,7,8] 9 yKR mixed yP1 yP2 ?_|(with_reducible first|refine DD.fltS yU yU yU yE ?_|refine DD.nil0 ?_)|refine DD.pcV0 inferInstance (hp) yU yT ?_|fail)
    all_goals try (exfalso;omega)
    simp only[setS,delS_cons,delS_nil,n4,n4',n5,n5',m5,m5',↓reduceIte,List.map_cons,List.map_nil,copy_v,setAll_cons,setAll_nil,set_cons',set_zero',Nat.reduceAdd,Nat.zero_add]
    refine DS.back (back (cp'+1) wi' dr' _ _ (by omega) (by omega) yS (fun d o e=>e))
   ·by_cases hc2:wi'<4
    ·repeat' (first|refine yJT ?_|(refine DS.store yR yE yE yE yE yU yQ ?_;simp only[yS1];try simp only[yS2,Nat.reduceEqDiff,↓reduceIte])|refine DS.drawL (id:=7) [0,1,2,3,4,5,6,7,8] 9 yKR mixed yP1 yP2 ?_|(with_reducible first|refine DD.fltS yU yU yU yE ?_|refine DD.nil0 ?_)|refine DD.pcV0 inferInstance (hp) yU yT ?_|fail)
     all_goals try (exfalso;omega)
     simp only[setS,delS_cons,delS_nil,n4,n4',n5,n5',m5,m5',↓reduceIte,List.map_cons,List.map_nil,copy_v,setAll_cons,setAll_nil,set_cons',set_zero',Nat.reduceAdd,Nat.zero_add]
     refine DS.back (back cp' (wi'+1) dr' _ _ (by omega) (by omega) yS (fun d o e=>e))
    ·by_cases hc3:dr'<3
     ·repeat' (first|refine yJT ?_|(refine DS.store yR yE yE yE yE yU yQ ?_;simp only[yS1];try simp only[yS2,Nat.reduceEqDiff,↓reduceIte])|refine DS.drawL (id:=7) [0,1,2,3,4,5,6,7,8] 9 yKR mixed yP1 yP2 ?_|(with_reducible first|refine DD.fltS yU yU yU yE ?_|refine DD.nil0 ?_)|refine DD.pcV0 inferInstance (hp) yU yT ?_|fail)
      all_goals try (exfalso;omega)
      simp only[setS,delS_cons,delS_nil,n4,n4',n5,n5',m5,m5',↓reduceIte,List.map_cons,List.map_nil,copy_v,setAll_cons,setAll_nil,set_cons',set_zero',Nat.reduceAdd,Nat.zero_add]
      refine DS.back (back cp' wi' (dr'+1) _ _ (by omega) (by omega) yS (fun d o e=>e))
     ·have:=HB.out.2.2.1 (by omega)
      have:=HB.out.2.2.2
      exfalso;omega
  ·repeat' (first|refine yJT ?_|refine DS.drawL (id:=7) [0,1,2,3,4,5,6,7,8] 9 yKR mixed yP1 yP2 ?_|(with_reducible first|refine DD.fltS yU yU yU yE ?_|refine DD.nil0 ?_)|refine DD.pcV0 inferInstance (hp) yU yT ?_|fail)
   all_goals try (exfalso;omega)
   obtain⟨K,hK⟩: ∃K:Nat,pl=K:=⟨pl.toNat,by omega⟩
   have HN:=Box.mk (And.intro HB.out.2.1 (And.intro hpr ht))
   rw[hK]at HN
   clear HB hpr ht hp
   have hpS: ∀(g:GR),(g.blk=none→g.l= [])→PC Tryz.prog 65 [.agg [I 3,ints suits,I wi',I dr',I fl,I cp',I melds,I de,g.cell.peek]] (I K):=fun g hg=>by
    have hn:=HN.out.1
    obtain⟨gl,blk⟩:=g
    cases blk with
    | none =>
     have:=kitPlain_pc ⟨3,suits,wi',dr',fl,cp',melds,de,[]⟩ (few cp' wi' dr' j2 j3 [])
     rw[hn]at this
     exact this
    | some x =>
     have:=kitPlainR_pc ⟨3,suits,wi',dr',fl,cp',melds,de,[]⟩ (few cp' wi' dr' j2 j3 []) ⟨x.1,0,none⟩ gl.length x.2.1
     rw[hn]at this
     exact this
   have HP:=Box.mk hpS
   clear hpS hprb
   refine DS.loopS [0,4,5] yN (fun(y:Nat×Int×List Int×GR)=> [(8,I y.1)]) (fun(y:Nat×Int×List Int×GR)=>(bs,srcO y.2.1)::(b5,Ob.cells [I 3,ints suits,I wi',I dr',I fl,I cp',I melds,I de,y.2.2.2.cell] 24)::(b4, .cells [I 0, .v (.slice none 0 0),I 0,I 0,I 0,I 0,I 0,I 0, .v (.slice none 0 0)] 24)::SRg 3 y.2.2.2) (fun(y:Nat×Int×List Int×GR)=>(y.1≤K∧y.2.2.1.length≤y.1)∧((∀z∈y.2.2.1,0≤z∧z<(y.1:Int))∧y.2.2.1.Pairwise (· < ·))∧IntG [bs,b5,b4] y.2.2.1 y.2.2.2) (fun(y:Nat×Int×List Int×GR)=>K-y.1) (0,z1,[],⟨[],none⟩) yS (fun b o e=>by exact e) ⟨⟨Nat.zero_le _,Nat.le_refl _⟩,⟨(fun z hz=>by cases hz),List.Pairwise.nil⟩,⟨rfl,rfl,NBg.none _ _⟩⟩ (fun y B hI hB=>?_);try dsimp only at hI hB;simp only[app_cons',app_nil']
   obtain⟨i,z2,reds,g⟩:=y
   dsimp only at hI hB ⊢
   obtain⟨⟨i0,i1⟩,i2,i3⟩:=hI
   have hpg:=HP.out g (fun e=>by
    have h1:=i3.ok
    obtain⟨gl,blk⟩:=g
    subst e
    exact h1)
   have H:=Box.mk (And.intro i3 (And.intro i2 hB))
   have hdel:=i3.nb.del 3 (c:=bs) (by simp)
   clear i2 i3 hB
   by_cases hi:(i:Int)<(K:Int)
   ·have co:=odds_sc bs z2 6 (by omega)
    obtain⟨od,hod⟩: ∃od,oddsX z2 6=od:=⟨_,rfl⟩
    rw[hod]at co
    clear hod
    cases od with
    | false =>
     repeat' (first|with_reducible refine DS.fltS yU yU yX13 ?_|refine yJ ?_|(with_reducible (refine DS.cE yX13 ?_;first|refine CG.yes ?_|refine CG.no ?_))|refine DS.pcS inferInstance (hpg) yR yX16 ?_|(refine DS.scS inferInstance (co) yR yX16 yX16 ?_;(try simp only[delS_cons,delS_nil,↓reduceIte, *]))|fail)
     refine DS.back (H.out.2.2 (i+1,stepX z2,reds,g) _ _ (by dsimp only;omega) ⟨⟨by dsimp only;omega,by dsimp only;omega⟩,⟨(fun z hz=>by have:=H.out.2.1.1 z hz;dsimp only;omega),H.out.2.1.2⟩,H.out.1⟩ yS yS (fun d o e=>e))
    | true =>
     repeat' (first|with_reducible refine DS.fltS yU yU yX13 ?_|refine yJ ?_|(with_reducible (refine DS.cE yX13 ?_;refine CG.yes ?_))|(refine DS.bsl yU yX13 yX13 ?_;simp only[go_sem,Nat.zero_add,Nat.reduceAdd])|refine DS.pcS inferInstance (hpg) yR yX16 ?_|(refine DS.scS inferInstance (co) yR yX16 yX16 ?_;(try simp only[delS_cons,delS_nil,↓reduceIte, *]))|fail)
     have hnb:=H.out.1.nb
     have hgl:g.l.length=reds.length:=by rw[H.out.1.l,List.length_map]
     refine DS.reS (S':=(bs,srcO (stepX z2))::([(b5,Ob.cells [I 3,ints suits,I wi',I dr',I fl,I cp',I melds,I de,g.cell] 24),(b4, .cells [I 0, .v (.slice none 0 0),I 0,I 0,I 0,I 0,I 0,I 0, .v (.slice none 0 0)] 24)]++SRg 3 g)) (fun d o e=>e) ?_
     refine DS.step rfl rfl yR (OpS.appG (g:=g) (ml:= [cI (i:Int)]) rfl yH yH yR yR (by decide) yH (H.out.1.ok.under (L:= [(b5,Ob.cells [I 3,ints suits,I wi',I dr',I fl,I cp',I melds,I de,g.cell] 24),(b4, .cells [I 0, .v (.slice none 0 0),I 0,I 0,I 0,I 0,I 0,I 0, .v (.slice none 0 0)] 24)]) hnb) yH yH (by exact Nat.zero_lt_succ _) (by intro c hc;obtain rfl:=List.mem_singleton.1 hc;rfl) ⟨by rw[hgl,List.length_singleton];omega,by decide⟩) (fun u2 E' S4 hu2=>?_)
     obtain⟨rfl,b',cap',junk',rfl,m1,m2,m3⟩:=hu2
     have hml:g.l++ [cI (i:Int)].map (fun x=>List.map V.copy x)=(reds++ [(i:Int)]).map cI:=by rw[H.out.1.l,List.map_append];rfl
     rw[hml]at m1 ⊢
     obtain⟨hnb2,hS4⟩:=srg_seq (L:= [(b5,Ob.cells [I 3,ints suits,I wi',I dr',I fl,I cp',I melds,I de,g.cell] 24),(b4, .cells [I 0, .v (.slice none 0 0),I 0,I 0,I 0,I 0,I 0,I 0, .v (.slice none 0 0)] 24)]) hnb m1 m2 m3
     refine DS.reS (S':=(bs,srcO (stepX z2))::([(b5,Ob.cells [I 3,ints suits,I wi',I dr',I fl,I cp',I melds,I de,g.cell] 24),(b4, .cells [I 0, .v (.slice none 0 0),I 0,I 0,I 0,I 0,I 0,I 0, .v (.slice none 0 0)] 24)]++SRg 3 ⟨(reds++ [(i:Int)]).map cI,some (b',cap',junk')⟩)) hS4 ?_
     have hI2:IntG [bs,b5,b4] (reds++ [(i:Int)]) ⟨(reds++ [(i:Int)]).map cI,some (b',cap',junk')⟩:=⟨rfl,SRg.ok m1,hnb2⟩
     have hr2:(∀z∈reds++ [(i:Int)],0≤z∧z<((i+1:Nat):Int))∧(reds++ [(i:Int)]).Pairwise (· < ·):=by
      refine⟨fun z hz=>(List.mem_append.1 hz).elim (fun hz=>by have:=H.out.2.1.1 z hz;omega) fun hz=>by rw[List.mem_singleton.1 hz];omega,?_⟩
      rw[List.pairwise_append]
      exact⟨H.out.2.1.2,List.pairwise_singleton _ _,fun z hz w hw=>by rw[List.mem_singleton.1 hw];exact(H.out.2.1.1 z hz).2⟩
     have H3:=Box.mk (And.intro hI2 hr2)
     clear hI2 hr2 hml m1 m2 m3 hnb2 hS4 hgl
     simp only[GR.cell_some,putV_some,List.length_map,app_cons',app_nil']
     repeat' (first|refine yJ ?_|(refine DS.store yR yE yE yE yE yU yQ ?_;simp only[yS1];try simp only[yS2,Nat.reduceEqDiff,↓reduceIte])|fail)
     simp only[setS,n5,↓reduceIte]
     refine DS.back (H.out.2.2 (i+1,stepX z2,reds++ [(i:Int)],⟨(reds++ [(i:Int)]).map cI,some (b',cap',junk')⟩) _ _ (by dsimp only;omega) ⟨⟨by dsimp only;omega,by simp only[List.length_append,List.length_singleton];omega⟩,H3.out.2,H3.out.1⟩ yS yS (fun d o e=>?_))
     dsimp only at e
     rw[GR.cell_some,List.length_map]at e
     exact e
   ·repeat' (first|with_reducible refine DS.fltS yU yU yX13 ?_|refine yJ ?_|(with_reducible (refine DS.cE yX13 ?_;refine CG.no ?_))|refine DS.pcS inferInstance (hpg) yR yX16 ?_|fail)
    have hl3:g.l.map (·.map V.peek)=reds.map cI:=by rw[H.out.1.l,List.map_map];rfl
    have hlen: ∀z∈reds,0≤z∧z<(⟨3,suits,wi',dr',fl,cp',melds,de,[]⟩:GSet).plain:=fun z hz=>by have:=H.out.2.1.1 z hz;rw[HN.out.1];omega
    have hok:gsetS ⟨3,suits,wi',dr',fl,cp',melds,de,reds⟩=0:=by
     refine little_ok HH.out hsl j1 j2 j3 (by omega) (by omega) hm hlen H.out.2.1.2 ?_
     rw[HN.out.1,HN.out.2.1];exact HN.out.2.2
    refine DS.freezeGA (t:=97) (i:=8) (g:=g) (e:=3) (sz:=1) yR yR (H.out.1.ok.under (L:= [(b5,_),(b4,_)]) H.out.1.nb) (fun S' hs1 hs2=>?_)
    rw[hl3]
    have hbs:lookS S' bs=some (srcO z2):=by
     rw[hs2 bs fun c j h=>H.out.1.nb _ _ _ h (by simp)];simp only[lookS_cons,↓reduceIte]
    have hb4:lookS S' b4=some (.cells [I 0, .v (.slice none 0 0),I 0,I 0,I 0,I 0,I 0,I 0, .v (.slice none 0 0)] 24):=by
     rw[hs2 b4 fun c j h=>H.out.1.nb _ _ _ h (by simp)];simp only[lookS_cons,app_cons',n4,m5',↓reduceIte]
    refine DS.reS (S':= [(bs,srcO z2),(b4, .cells [I 0, .v (.slice none 0 0),I 0,I 0,I 0,I 0,I 0,I 0, .v (.slice none 0 0)] 24)]) (fun d o e=>?_) ?_
    ·simp only[lookS_cons,lookS_nil]at e
     split at e
     ·rename_i h;subst h;rw[hbs];exact e
     split at e
     ·rename_i h;subst h;rw[hb4];exact e
     ·cases e
    have HO:=Box.mk hok
    clear hbs hb4 hs1 hs2 hok hlen
    simp only[List.set_cons_succ,List.set_cons_zero]
    repeat' (first|refine yJ ?_|(refine DS.store yR yX6 yX6 yX6 yX6 yU yQ ?_;simp only[yS1];try simp only[yS2,Nat.reduceEqDiff,↓reduceIte])|fail)
    try (simp only[setS,delS_cons,delS_nil,n4,n4',n5,n5',m5,m5',↓reduceIte,List.map_cons,List.map_nil,copy_v,setAll_cons,setAll_nil,set_cons',set_zero',Nat.reduceAdd,Nat.zero_add])
    refine DS.retW [(bs,srcO z2)] (by(simp (disch:=omega) only[go_sem,dopV,yV0,↓reduceIte,Nat.reduceEqDiff,Nat.reduceLT,Nat.reduceLeDiff,Nat.reduceAdd,Nat.reduceMul,Nat.reduceSub,Int.reduceToNat,Int.reduceLT,Int.reduceLE,Int.reduceEq,IntWalk.toNatUp,IntWalk.iteOmega,IntWalk.i64_in,V.flat,V.one,setS,setAll,n4,n4'];exact rfl)) (fun b o e=>?_) ?_
    ·simp only[lookS_cons,lookS_nil]at e ⊢
     split at e
     ·rename_i hb;subst hb;simp only[n4',↓reduceIte];exact e
     ·cases e
    ·exact⟨⟨⟨3,suits,wi',dr',fl,cp',melds,de,reds⟩,rfl,HO.out⟩,z2,rfl⟩
end Go.XL
namespace Go.XL
open Go.Proofs
set_option maxRecDepth 100000
set_option maxHeartbeats 8000000
theorem lookS_swap {a b d:Nat} {x y:Ob} {S:Sto} (h: ¬a=b):lookS ((a,x)::(b,y)::S) d=lookS ((b,y)::(a,x)::S) d:=by
 simp only[lookS]
 by_cases h1:a=d
 ·subst h1;rw[if_pos rfl,if_neg (fun e=>h e.symm),if_pos rfl]
 ·rw[if_neg h1,if_neg h1]
theorem formOf_qc (bs:Nat) (x:Int) (s:GSet) (h:gsetS s=0):QC Tryz.prog 79 [ptr bs,s.val] bs x (fun u=> ∃f:Form,u=f.val∧f.kinds.length≤1000):=by
 have ok:=gset_ok h
 have hp:=kitPlain_pc s ok.few
 have hpl:=ok.plain
 have hme:=ok.melds
 have hco:=ok.copies
 have hdf:=fun x=>different_qc bs x s h (3*s.melds+1) (by omega)
 obtain⟨y1,e1⟩: ∃y,stepX x=y:=⟨_,rfl⟩
 have c1:=range_sc bs x 1 6 (by omega)
 have b1:=range_bd (x:=x) (lo:=1) (hi:=6) (by omega)
 rw[e1]at c1
 generalize rangeX x 1 6=wh at *
 clear e1 ok h
 unfold QC
 refine DC.of_run Tryz.func79 rfl Tryz.ntmps79 Tryz.results79 (by simp) (fun _ _=>?_);simp only[argV_cons,argV_nil,go_sem,Nat.zero_add,Nat.reduceAdd]
 repeat' (first|refine yJ ?_|(refine DS.boxF (t:=3) yU yE yU ?_;simp only[yS3])|fail)
 refine DS.allocS yR yU yU (fun b4 h4=>?_)
 have n4: ¬bs=b4:=fun e=>by rw[lookS_cons,if_pos e]at h4;cases h4
 have n4': ¬b4=bs:=fun e=>n4 e.symm
 clear h4
 repeat' (first|with_reducible refine DS.fltS yU yU yX6 ?_|refine yJ ?_|(refine DS.scS inferInstance (c1) yR yX9 yX9 ?_;(try simp only[delS_cons,delS_nil,↓reduceIte, *]))|fail)
 refine DS.allocS yR yU yU (fun b5 h5=>?_)
 have n5: ¬bs=b5:=fun e=>by simp only[lookS_cons,e,↓reduceIte]at h5;first|(cases h5;done)|(split at h5 <;> cases h5)
 have n5': ¬b5=bs:=fun e=>n5 e.symm
 have m5: ¬b4=b5:=fun e=>by simp only[lookS_cons,e,↓reduceIte]at h5;first|(cases h5;done)|(split at h5 <;> cases h5)
 have m5': ¬b5=b4:=fun e=>m5 e.symm
 clear h5
 repeat' (first|with_reducible refine DS.fltS yU yU yX6 ?_|refine yJ ?_|(refine DS.store yR yX6 yX6 yX6 yX6 yU yQ ?_;simp only[yS1];try simp only[yS2,Nat.reduceEqDiff,↓reduceIte])|fail)
 simp only[setS,delS_cons,delS_nil,n4,n4',n5,n5',m5,m5',↓reduceIte,List.map_cons,List.map_nil,copy_v,copy_own,copy_lst,setAll_cons,setAll_nil,set_cons',set_zero',Nat.reduceAdd,Nat.zero_add]
 have hz0:(Value.agg #[Value.int IntKind.i64 0,Value.slice none 0 0,Value.bool false]).cells.toList.map V.v= [I 0, .v (.slice none 0 0),Bo false]:=rfl
 rw[hz0]
 clear hz0
 try (simp only[setS,delS_cons,delS_nil,n4,n4',n5,n5',m5,m5',↓reduceIte,List.map_cons,List.map_nil,copy_v,copy_own,copy_lst,setAll_cons,setAll_nil,set_cons',set_zero',Nat.reduceAdd,Nat.zero_add])
 by_cases w2:wh=2
 ·have w2':(wh=2)=True:=eq_true w2
  have co:=odds_sc bs y1 2 (by omega)
  clear w2
  generalize oddsX y1 2=od at *
  generalize stepX y1=y2 at *
  repeat' (first|with_reducible refine DS.fltS yU yU yX6 ?_|refine yJ ?_|(with_reducible (refine DS.cE yX6 ?_;refine CG.yes ?_))|(refine DS.scS inferInstance (co) yR yX12 yX12 ?_;(try simp only[delS_cons,delS_nil,↓reduceIte, *]))|(refine DS.store yR yX6 yX6 yX6 yX6 yU yQ ?_;simp only[yS1];try simp only[yS2,Nat.reduceEqDiff,↓reduceIte])|fail)
  try (simp only[setS,delS_cons,delS_nil,n4,n4',n5,n5',m5,m5',↓reduceIte,List.map_cons,List.map_nil,copy_v,copy_own,copy_lst,setAll_cons,setAll_nil,set_cons',set_zero',Nat.reduceAdd,Nat.zero_add])
  refine DS.retW [(bs,srcO y2)] (by(simp (disch:=omega) only[go_sem,dopV,yV0,↓reduceIte,Nat.reduceEqDiff,Nat.reduceLT,Nat.reduceLeDiff,Nat.reduceAdd,Nat.reduceMul,Nat.reduceSub,Int.reduceToNat,Int.reduceLT,Int.reduceLE,Int.reduceEq,IntWalk.toNatUp,IntWalk.iteOmega,IntWalk.i64_in,V.flat,V.one,setS,setAll,n4,n4'];exact rfl)) (fun b o e=>?_) ?_
  ·simp only[lookS_cons,lookS_nil]at e ⊢
   split at e
   ·rename_i hb;subst hb;simp only[n4',n5',↓reduceIte];exact e
   ·cases e
  ·exact⟨⟨⟨wh,[],od⟩,rfl,Nat.zero_le _⟩,y2,rfl⟩
 have w2':(wh=2)=False:=eq_false w2
 by_cases w3:wh=3
 ·have w3':(wh=3)=True:=eq_true w3
  clear w3 w2
  repeat' (first|with_reducible refine DS.fltS yU yU yX6 ?_|refine yJ ?_|(with_reducible (refine DS.cE yX6 ?_;first|refine CG.yes ?_|refine CG.no ?_))|fail)
  refine DS.qc inferInstance (hdf y1) yR yH yH (fun u x' hu=>?_)
  obtain⟨l,rfl,hl1,hl2⟩:=hu
  simp only[delS_cons,delS_nil,n4,n4',n5,n5',↓reduceIte]
  repeat' (first|with_reducible refine DS.fltS yU yU yX6 ?_|refine yJ ?_|(refine DS.store yR yX6 yX6 yX6 yX6 yU yQ ?_;simp only[yS1];try simp only[yS2,Nat.reduceEqDiff,↓reduceIte])|fail)
  try (simp only[setS,delS_cons,delS_nil,n4,n4',n5,n5',m5,m5',↓reduceIte,List.map_cons,List.map_nil,copy_v,copy_own,copy_lst,setAll_cons,setAll_nil,set_cons',set_zero',Nat.reduceAdd,Nat.zero_add])
  refine DS.retW [(bs,srcO x')] (by(simp (disch:=omega) only[go_sem,dopV,yV0,↓reduceIte,Nat.reduceEqDiff,Nat.reduceLT,Nat.reduceLeDiff,Nat.reduceAdd,Nat.reduceMul,Nat.reduceSub,Int.reduceToNat,Int.reduceLT,Int.reduceLE,Int.reduceEq,IntWalk.toNatUp,IntWalk.iteOmega,IntWalk.i64_in,V.flat,V.one,setS,setAll,n4,n4'];exact rfl)) (fun b o e=>?_) ?_
  ·simp only[lookS_cons,lookS_nil]at e ⊢
   split at e
   ·rename_i hb;subst hb;simp only[n4',n5',↓reduceIte];exact e
   ·cases e
  ·exact⟨⟨⟨wh,l,false⟩,rfl,by dsimp only;omega⟩,x',rfl⟩
 have w3':(wh=3)=False:=eq_false w3
 by_cases w6:wh=6
 ·have w6':wh=6:=w6
  subst w6
  clear w2 w3
  obtain⟨P,hP⟩: ∃P:Nat,s.plain=P:=⟨s.plain.toNat,by omega⟩
  rw[hP]at hp
  obtain⟨F0,hF⟩: ∃F0:Nat,3*s.melds+2=F0:=⟨(3*s.melds+2).toNat,by omega⟩
  repeat' (first|with_reducible refine DS.fltS yU yU yX6 ?_|refine yJ ?_|(with_reducible (refine DS.cE yX6 ?_;first|refine CG.yes ?_|refine CG.no ?_))|refine DS.drawL (id:=8) [0,1,2,3,4] 5 yKR mixed yP1 yP2 ?_|(with_reducible first|refine DD.fltS yU yU yU yX6 ?_|refine DD.nil0 ?_)|fail)
  refine DS.reS (S':=(bs,srcO y1)::(b5,Ob.cells [I 6, .v (.slice none 0 0),Bo false] 125):: [(b4,Ob.cells [I 0, .v (.slice none 0 0),Bo false] 125)]) (fun d o e=>by rw[lookS_swap n5'];exact e) ?_
  refine DS.loopS [0,3,4,5] yN (fun(y:Nat×Int×Nat×List Int×GR)=> [(6,I y.1),(7,I y.2.2.1)]) (fun(y:Nat×Int×Nat×List Int×GR)=>(bs,srcO y.2.1)::(b5,Ob.cells [I 6,y.2.2.2.2.cell,Bo false] 125)::(b4,Ob.cells [I 0, .v (.slice none 0 0),Bo false] 125)::SRg 3 y.2.2.2.2) (fun(y:Nat×Int×Nat×List Int×GR)=>(y.1≤P∧(y.2.2.2.1.length:Int)+y.2.2.1=F0)∧IntG [bs,b5,b4] y.2.2.2.1 y.2.2.2.2) (fun(y:Nat×Int×Nat×List Int×GR)=>P-y.1) (0,y1,F0,[],⟨[],none⟩) yS (fun b o e=>by exact e) ⟨⟨Nat.zero_le _,by simp⟩,⟨rfl,rfl,NBg.none _ _⟩⟩ (fun y B hI hB=>?_);try dsimp only at hI hB;simp only[app_cons',app_nil']
  obtain⟨k,z1,n,l,g⟩:=y
  dsimp only at hI hB ⊢
  obtain⟨⟨i0,i1⟩,i2⟩:=hI
  have H:=Box.mk (And.intro i2 hB)
  have hdel:=i2.nb.del 3 (c:=bs) (by simp)
  clear i2 hB
  by_cases hk:(k:Int)<(P:Int)
  ·by_cases hn:0<(n:Int)
   ·have cb:=below_sc bs z1 (s.copies+1) (by omega)
    have bb:=below_lt (x:=z1) (n:=s.copies+1) (by omega)
    obtain⟨c,hc⟩: ∃c:Nat,(c:Int)=belowX z1 (s.copies+1):=⟨(belowX z1 (s.copies+1)).toNat,by omega⟩
    rw[←hc]at cb bb
    clear hc
    repeat' (first|with_reducible refine DS.fltS yU yU yX13 ?_|refine yJ ?_|(with_reducible first|(refine DS.cE yX13 ?_;refine CG.yes ?_)|(refine DS.gE yU yX13 ?_;refine GG.run ?_))|refine DS.pcS inferInstance (hp) yR yX16 ?_|(refine DS.scS inferInstance (cb) yR yX16 yX16 ?_;(try simp only[delS_cons,delS_nil,↓reduceIte, *]))|fail)
    refine DS.loopS [0,3,4,5,6] yN (fun(w:Nat×Nat×List Int×GR)=> [(7,I w.2.1),(8,I w.1)]) (fun(w:Nat×Nat×List Int×GR)=>(bs,srcO (stepX z1))::(b5,Ob.cells [I 6,w.2.2.2.cell,Bo false] 125)::(b4,Ob.cells [I 0, .v (.slice none 0 0),Bo false] 125)::SRg 3 w.2.2.2) (fun(w:Nat×Nat×List Int×GR)=>((w.2.2.1.length:Int)+w.2.1=F0∧w.1≤9)∧IntG [bs,b5,b4] w.2.2.1 w.2.2.2) (fun(w:Nat×Nat×List Int×GR)=>w.1) (c,n,l,g) yS (fun b o e=>by exact e) ⟨⟨i1,by dsimp only;omega⟩,H.out.1⟩ (fun w B hI hB=>?_);try dsimp only at hI hB;simp only[app_cons',app_nil']
    obtain⟨i,m,l2,g2⟩:=w
    dsimp only at hI hB ⊢
    obtain⟨⟨j1,j3⟩,j2⟩:=hI
    have H2:=Box.mk (And.intro j2 hB)
    clear j2 hB hdel
    by_cases hi:0<(i:Int)
    ·by_cases hm:0<(m:Int)
     ·repeat' (first|with_reducible refine DS.fltS yU yU yX13 ?_|refine yJ ?_|(with_reducible first|(refine DS.cE yX13 ?_;refine CG.yes ?_)|(refine DS.gE yU yX13 ?_;refine GG.run ?_))|(refine DS.bsl yU yX13 yX13 ?_;simp only[go_sem,Nat.zero_add,Nat.reduceAdd])|fail)
      have hnb:=H2.out.1.nb
      have hgl:g2.l.length=l2.length:=by rw[H2.out.1.l,List.length_map]
      refine DS.reS (S':=(bs,srcO (stepX z1))::([(b5,Ob.cells [I 6,g2.cell,Bo false] 125),(b4,Ob.cells [I 0, .v (.slice none 0 0),Bo false] 125)]++SRg 3 g2)) (fun d o e=>e) ?_
      refine DS.step rfl rfl yR (OpS.appG (g:=g2) (ml:= [cI (k:Int)]) rfl yH yH yR yR (by decide) yH (H2.out.1.ok.under (L:= [(b5,Ob.cells [I 6,g2.cell,Bo false] 125),(b4,Ob.cells [I 0, .v (.slice none 0 0),Bo false] 125)]) hnb) yH yH (by exact Nat.zero_lt_succ _) (by intro c hc;obtain rfl:=List.mem_singleton.1 hc;rfl) ⟨by rw[hgl,List.length_singleton];omega,by decide⟩) (fun u2 E' S4 hu2=>?_)
      obtain⟨rfl,b',cap',junk',rfl,m1,m2,m3⟩:=hu2
      have hml:g2.l++ [cI (k:Int)].map (fun x=>List.map V.copy x)=(l2++ [(k:Int)]).map cI:=by rw[H2.out.1.l,List.map_append];rfl
      rw[hml]at m1 ⊢
      obtain⟨hnb2,hS4⟩:=srg_seq (L:= [(b5,Ob.cells [I 6,g2.cell,Bo false] 125),(b4,Ob.cells [I 0, .v (.slice none 0 0),Bo false] 125)]) hnb m1 m2 m3
      refine DS.reS (S':=(bs,srcO (stepX z1))::([(b5,Ob.cells [I 6,g2.cell,Bo false] 125),(b4,Ob.cells [I 0, .v (.slice none 0 0),Bo false] 125)]++SRg 3 ⟨(l2++ [(k:Int)]).map cI,some (b',cap',junk')⟩)) hS4 ?_
      have hI2:IntG [bs,b5,b4] (l2++ [(k:Int)]) ⟨(l2++ [(k:Int)]).map cI,some (b',cap',junk')⟩:=⟨rfl,SRg.ok m1,hnb2⟩
      have H3:=Box.mk hI2
      clear hI2 hml m1 m2 m3 hnb2 hS4 hgl
      simp only[GR.cell_some,putV_some,List.length_map,app_cons',app_nil']
      repeat' (first|refine yJ ?_|(refine DS.store yR yE yE yE yE yU yQ ?_;simp only[yS1];try simp only[yS2,Nat.reduceEqDiff,↓reduceIte])|fail)
      simp only[setS,n5,↓reduceIte]
      obtain⟨i',rfl⟩: ∃i',i=i'+1:=⟨i-1,by omega⟩
      obtain⟨m',rfl⟩: ∃m',m=m'+1:=⟨m-1,by omega⟩
      simp only[show((i'+1:Nat):Int)-1=(i':Int) by omega,show((m'+1:Nat):Int)-1=(m':Int) by omega]
      refine DS.back (H2.out.2 (i',m',l2++ [(k:Int)],⟨(l2++ [(k:Int)]).map cI,some (b',cap',junk')⟩) _ _ (by dsimp only;omega) ⟨⟨by simp only[List.length_append,List.length_singleton];omega,by dsimp only;omega⟩,H3.out⟩ yS yS (fun d o e=>?_))
      dsimp only at e
      rw[GR.cell_some,List.length_map]at e
      exact e
     ·repeat' (first|with_reducible refine DS.fltS yU yU yX13 ?_|refine yJ ?_|(with_reducible first|(refine DS.cE yX13 ?_;refine CG.no ?_)|(refine DS.gE yU yX13 ?_;refine GG.run ?_))|fail)
      refine DS.back (H.out.2 (k+1,stepX z1,m,l2,g2) _ _ (by dsimp only;omega) ⟨⟨by dsimp only;omega,by dsimp only;omega⟩,H2.out.1⟩ yS yS (fun d o e=>e))
    ·repeat' (first|with_reducible refine DS.fltS yU yU yX13 ?_|refine yJ ?_|(with_reducible first|(refine DS.cE yX13 ?_;refine CG.no ?_)|(refine DS.gE yU yX13 ?_;refine GG.sF ?_))|fail)
     refine DS.back (H.out.2 (k+1,stepX z1,m,l2,g2) _ _ (by dsimp only;omega) ⟨⟨by dsimp only;omega,by dsimp only;omega⟩,H2.out.1⟩ yS yS (fun d o e=>e))
   ·repeat' (first|with_reducible refine DS.fltS yU yU yX13 ?_|refine yJ ?_|(with_reducible first|(refine DS.cE yX13 ?_;refine CG.no ?_)|(refine DS.gE yU yX13 ?_;refine GG.run ?_))|refine DS.pcS inferInstance (hp) yR yX16 ?_|fail)
    have hl3:g.l.map (·.map V.peek)=l.map cI:=by rw[H.out.1.l,List.map_map];rfl
    refine DS.freezeGA (t:=66) (i:=1) (g:=g) (e:=3) (sz:=1) yR yR (H.out.1.ok.under (L:= [(b5,_),(b4,_)]) H.out.1.nb) (fun S' hs1 hs2=>?_)
    rw[hl3]
    have hbs:lookS S' bs=some (srcO z1):=by
     rw[hs2 bs fun c j h=>H.out.1.nb _ _ _ h (by simp)];simp only[lookS_cons,↓reduceIte]
    have hb4:lookS S' b4=some (Ob.cells [I 0, .v (.slice none 0 0),Bo false] 125):=by
     rw[hs2 b4 fun c j h=>H.out.1.nb _ _ _ h (by simp)];simp only[lookS_cons,app_cons',n4,m5',↓reduceIte]
    refine DS.reS (S':= [(bs,srcO z1),(b4,Ob.cells [I 0, .v (.slice none 0 0),Bo false] 125)]) (fun d o e=>?_) ?_
    ·simp only[lookS_cons,lookS_nil]at e
     split at e
     ·rename_i h;subst h;rw[hbs];exact e
     split at e
     ·rename_i h;subst h;rw[hb4];exact e
     ·cases e
    clear hbs hb4 hs1 hs2
    simp only[List.set_cons_succ,List.set_cons_zero]
    repeat' (first|refine yJ ?_|(refine DS.store yR yX6 yX6 yX6 yX6 yU yQ ?_;simp only[yS1];try simp only[yS2,Nat.reduceEqDiff,↓reduceIte])|fail)
    try (simp only[setS,delS_cons,delS_nil,n4,n4',n5,n5',m5,m5',↓reduceIte,List.map_cons,List.map_nil,copy_v,copy_own,copy_lst,setAll_cons,setAll_nil,set_cons',set_zero',Nat.reduceAdd,Nat.zero_add])
    refine DS.retW [(bs,srcO z1)] (by(simp (disch:=omega) only[go_sem,dopV,yV0,↓reduceIte,Nat.reduceEqDiff,Nat.reduceLT,Nat.reduceLeDiff,Nat.reduceAdd,Nat.reduceMul,Nat.reduceSub,Int.reduceToNat,Int.reduceLT,Int.reduceLE,Int.reduceEq,IntWalk.toNatUp,IntWalk.iteOmega,IntWalk.i64_in,V.flat,V.one,setS,setAll,n4,n4'];exact rfl)) (fun b o e=>?_) ?_
    ·simp only[lookS_cons,lookS_nil]at e ⊢
     split at e
     ·rename_i hb;subst hb;simp only[n4',↓reduceIte];exact e
     ·cases e
    ·exact⟨⟨⟨6,l,false⟩,rfl,by dsimp only;omega⟩,z1,rfl⟩
  ·repeat' (first|with_reducible refine DS.fltS yU yU yX13 ?_|refine yJ ?_|(with_reducible first|(refine DS.cE yX13 ?_;refine CG.no ?_)|(refine DS.gE yU yX13 ?_;refine GG.sF ?_))|refine DS.pcS inferInstance (hp) yR yX16 ?_|fail)
   have hl3:g.l.map (·.map V.peek)=l.map cI:=by rw[H.out.1.l,List.map_map];rfl
   refine DS.freezeGA (t:=66) (i:=1) (g:=g) (e:=3) (sz:=1) yR yR (H.out.1.ok.under (L:= [(b5,_),(b4,_)]) H.out.1.nb) (fun S' hs1 hs2=>?_)
   rw[hl3]
   have hbs:lookS S' bs=some (srcO z1):=by
    rw[hs2 bs fun c j h=>H.out.1.nb _ _ _ h (by simp)];simp only[lookS_cons,↓reduceIte]
   have hb4:lookS S' b4=some (Ob.cells [I 0, .v (.slice none 0 0),Bo false] 125):=by
    rw[hs2 b4 fun c j h=>H.out.1.nb _ _ _ h (by simp)];simp only[lookS_cons,app_cons',n4,m5',↓reduceIte]
   refine DS.reS (S':= [(bs,srcO z1),(b4,Ob.cells [I 0, .v (.slice none 0 0),Bo false] 125)]) (fun d o e=>?_) ?_
   ·simp only[lookS_cons,lookS_nil]at e
    split at e
    ·rename_i h;subst h;rw[hbs];exact e
    split at e
    ·rename_i h;subst h;rw[hb4];exact e
    ·cases e
   clear hbs hb4 hs1 hs2
   simp only[List.set_cons_succ,List.set_cons_zero]
   repeat' (first|refine yJ ?_|(refine DS.store yR yX6 yX6 yX6 yX6 yU yQ ?_;simp only[yS1];try simp only[yS2,Nat.reduceEqDiff,↓reduceIte])|fail)
   try (simp only[setS,delS_cons,delS_nil,n4,n4',n5,n5',m5,m5',↓reduceIte,List.map_cons,List.map_nil,copy_v,copy_own,copy_lst,setAll_cons,setAll_nil,set_cons',set_zero',Nat.reduceAdd,Nat.zero_add])
   refine DS.retW [(bs,srcO z1)] (by(simp (disch:=omega) only[go_sem,dopV,yV0,↓reduceIte,Nat.reduceEqDiff,Nat.reduceLT,Nat.reduceLeDiff,Nat.reduceAdd,Nat.reduceMul,Nat.reduceSub,Int.reduceToNat,Int.reduceLT,Int.reduceLE,Int.reduceEq,IntWalk.toNatUp,IntWalk.iteOmega,IntWalk.i64_in,V.flat,V.one,setS,setAll,n4,n4'];exact rfl)) (fun b o e=>?_) ?_
   ·simp only[lookS_cons,lookS_nil]at e ⊢
    split at e
    ·rename_i hb;subst hb;simp only[n4',↓reduceIte];exact e
    ·cases e
   ·exact⟨⟨⟨6,l,false⟩,rfl,by dsimp only;omega⟩,z1,rfl⟩
 ·have w6':(wh=6)=False:=eq_false w6
  repeat' (first|with_reducible refine DS.fltS yU yU yX6 ?_|refine yJ ?_|(with_reducible (refine DS.cE yX6 ?_;refine CG.no ?_))|(refine DS.store yR yX6 yX6 yX6 yX6 yU yQ ?_;simp only[yS1];try simp only[yS2,Nat.reduceEqDiff,↓reduceIte])|fail)
  try (simp only[setS,delS_cons,delS_nil,n4,n4',n5,n5',m5,m5',↓reduceIte,List.map_cons,List.map_nil,copy_v,copy_own,copy_lst,setAll_cons,setAll_nil,set_cons',set_zero',Nat.reduceAdd,Nat.zero_add])
  refine DS.retW [(bs,srcO y1)] (by(simp (disch:=omega) only[go_sem,dopV,yV0,↓reduceIte,Nat.reduceEqDiff,Nat.reduceLT,Nat.reduceLeDiff,Nat.reduceAdd,Nat.reduceMul,Nat.reduceSub,Int.reduceToNat,Int.reduceLT,Int.reduceLE,Int.reduceEq,IntWalk.toNatUp,IntWalk.iteOmega,IntWalk.i64_in,V.flat,V.one,setS,setAll,n4,n4'];exact rfl)) (fun b o e=>?_) ?_
  ·simp only[lookS_cons,lookS_nil]at e ⊢
   split at e
   ·rename_i hb;subst hb;simp only[n4',n5',↓reduceIte];exact e
   ·cases e
  ·exact⟨⟨⟨wh,[],false⟩,rfl,Nat.zero_le _⟩,y1,rfl⟩
theorem setOf_qc (bs:Nat) (x:Int):QC Tryz.prog 37 [ptr bs] bs x (fun u=> ∃s:GSet,u=s.val∧gsetS s=0):=by
 have co:=odds_sc bs x 6 (by omega)
 obtain⟨od,hod⟩: ∃od,oddsX x 6=od:=⟨_,rfl⟩
 obtain⟨y1,e1⟩: ∃y,stepX x=y:=⟨_,rfl⟩
 have cr:=range_sc bs y1 1 2 (by omega)
 have br:=range_bd (x:=y1) (lo:=1) (hi:=2) (by omega)
 rw[hod,e1]at co
 clear hod e1
 have cl:=fun y=>little_qc bs y (rangeX y1 1 2) (by omega)
 generalize rangeX y1 1 2=rg at *
 generalize stepX y1=y2 at *
 unfold QC
 refine DC.of_run Tryz.func37 rfl Tryz.ntmps37 Tryz.results37 (by simp) (fun _ _=>?_);simp only[argV_cons,argV_nil,go_sem,Nat.zero_add,Nat.reduceAdd]
 repeat' (first|refine yJ ?_|fail)
 refine DS.allocS yR yU yU (fun b4 h4=>?_)
 have n4: ¬bs=b4:=fun e=>by rw[lookS_cons,if_pos e]at h4;cases h4
 have n4': ¬b4=bs:=fun e=>n4 e.symm
 clear h4
 cases od with
 | true =>
  repeat' (first|with_reducible refine DS.fltS yU yU yX6 ?_|refine yJ ?_|(with_reducible (refine DS.cE yX6 ?_;refine CG.yes ?_))|(refine DS.scS inferInstance (co) yR yX12 yX12 ?_;(try simp only[delS_cons,delS_nil,↓reduceIte, *]))|fail)
  refine DS.qp inferInstance big_pc yR yH (fun u hu=>?_)
  obtain⟨s,rfl,hs⟩:=hu
  repeat' (first|refine yJ ?_|(refine DS.store yR yX6 yX6 yX6 yX6 yU yQ ?_;simp only[yS1];try simp only[yS2,Nat.reduceEqDiff,↓reduceIte])|fail)
  simp only[setS,delS_cons,delS_nil,n4,n4',↓reduceIte]
  refine DS.retW [(bs,srcO y1)] (by(simp (disch:=omega) only[go_sem,dopV,yV0,↓reduceIte,Nat.reduceEqDiff,Nat.reduceLT,Nat.reduceLeDiff,Nat.reduceAdd,Nat.reduceMul,Nat.reduceSub,Int.reduceToNat,Int.reduceLT,Int.reduceLE,Int.reduceEq,IntWalk.toNatUp,IntWalk.iteOmega,IntWalk.i64_in,V.flat,V.one,setS,setAll,n4,n4'];exact rfl)) (fun b o e=>?_) ?_
  ·simp only[lookS_cons,lookS_nil]at e ⊢
   split at e
   ·rename_i hb;subst hb;simp only[n4',↓reduceIte];exact e
   ·cases e
  ·exact⟨⟨s,rfl,hs⟩,y1,rfl⟩
 | false =>
  repeat' (first|with_reducible refine DS.fltS yU yU yX6 ?_|refine yJ ?_|(with_reducible (refine DS.cE yX6 ?_;refine CG.no ?_))|(refine DS.scS inferInstance (co) yR yX9 yX9 ?_;(try simp only[delS_cons,delS_nil,↓reduceIte, *]))|(refine DS.scS inferInstance (cr) yR yX9 yX9 ?_;(try simp only[delS_cons,delS_nil,↓reduceIte, *]))|fail)
  refine DS.qc inferInstance (cl y2) yR yH (by(simp (disch:=omega) only[go_sem,dopV,yV0,↓reduceIte,Nat.reduceEqDiff,Nat.reduceLT,Nat.reduceLeDiff,Nat.reduceAdd,Nat.reduceMul,Nat.reduceSub,Int.reduceToNat,Int.reduceLT,Int.reduceLE,Int.reduceEq,IntWalk.toNatUp,IntWalk.iteOmega,IntWalk.i64_in,V.flat,V.one,n4,n4'];try exact rfl)) (fun u x' hu=>?_)
  obtain⟨s,rfl,hs⟩:=hu
  repeat' (first|refine yJ ?_|(refine DS.store yR yX6 yX6 yX6 yX6 yU yQ ?_;simp only[yS1];try simp only[yS2,Nat.reduceEqDiff,↓reduceIte])|fail)
  simp only[setS,delS_cons,delS_nil,n4,n4',↓reduceIte]
  refine DS.retW [(bs,srcO x')] (by(simp (disch:=omega) only[go_sem,dopV,yV0,↓reduceIte,Nat.reduceEqDiff,Nat.reduceLT,Nat.reduceLeDiff,Nat.reduceAdd,Nat.reduceMul,Nat.reduceSub,Int.reduceToNat,Int.reduceLT,Int.reduceLE,Int.reduceEq,IntWalk.toNatUp,IntWalk.iteOmega,IntWalk.i64_in,V.flat,V.one,setS,setAll,n4,n4'];exact rfl)) (fun b o e=>?_) ?_
  ·simp only[lookS_cons,lookS_nil]at e ⊢
   split at e
   ·rename_i hb;subst hb;simp only[n4',↓reduceIte];exact e
   ·cases e
  ·exact⟨⟨s,rfl,hs⟩,x',rfl⟩
end Go.XL
namespace Go.XL
theorem RlC_map {hv:VH} {f:V→V} (hf: ∀v y,v.Rl hv y→(f v).Rl hv y) {p:Option Addr}: ∀{c:List V} {i:Nat},RlC hv p i c→RlC hv p i (c.map f)
 | [],_,_=>trivial
 | v::r,i,h=>by
  simp only[List.map_cons,RlC]at h ⊢
  obtain⟨⟨u,h1,h2,h3⟩,h4⟩:=h
  exact⟨⟨u,h1,hf _ _ h2,h3⟩,RlC_map hf h4⟩
theorem RlE_map {hv:VH} {f:V→V} (hf: ∀v y,v.Rl hv y→(f v).Rl hv y) {p:Option Addr}: ∀{l:List (List V)} {i:Nat},RlE hv p i l→RlE hv p i (l.map (·.map f))
 | [],_,_=>trivial
 | c::r,i,h=>by
  simp only[List.map_cons,RlE]at h ⊢
  exact⟨RlC_map hf h.1,by rw[List.length_map];exact RlE_map hf h.2⟩
def inL (f:V→V) (v:V):V:=match v.peek with | .lst l => .lst (l.map (·.map f))|w=>w
theorem inL_Rl {hv:VH} {f:V→V} (hf: ∀v y,v.Rl hv y→(f v).Rl hv y) {v:V} {y:Value} (h:v.Rl hv y):(inL f v).Rl hv y:=by
 have h':=V.peek_Rl h
 unfold inL
 split
 ·rename_i l e
  rw[e]at h'
  simp only[V.Rl]at h' ⊢
  obtain⟨p,cap,sz,h1,h2,h3,h4,h5⟩:=h'
  refine⟨p,cap,sz,by rw[List.length_map];exact h1,by rw[List.length_map];exact h2,h3,fun c hc=>?_,RlE_map hf h5⟩
  obtain⟨d,hd,rfl⟩:=List.mem_map.1 hc
  rw[List.length_map];exact h4 d hd
 ·exact h'
theorem inL_free (f:V→V) (v:V):(inL f v).free=true:=by
 unfold inL
 split
 ·rfl
 ·exact peek_free v
end Go.XL
namespace Go.XL
open Go.Proofs
set_option maxRecDepth 100000
set_option maxHeartbeats 8000000
theorem DC.of_inR {P:Program} {f:FuncId} {args:List V} {S:Sto} {R:V→Sto→Prop} (h:DC P f args S fun u S'=>R (inL V.peek u) S'):DC P f args S R :=
 fun v0 K hv hold hp xs hf ha hs=>(h v0 K hv hold hp xs hf ha hs).mono fun _ _ ⟨v,S',hv',hold',a,b,c⟩=>by
  refine⟨inL V.peek v,S',hv',hold',a,⟨b.pre,fun t w e=>?_,b.obj,b.held,b.base,b.vbase⟩,c⟩
  simp only[lookV]at e
  split at e
  ·rename_i ht
   subst ht
   cases e
   obtain⟨y,e1,e2,_⟩:=b.slot 0 v (by simp[lookV])
   exact⟨y,e1,inL_Rl (fun _ _ h=>V.peek_Rl h) e2,V.free_Own (inL_free _ v) y⟩
  ·cases e
theorem QC.of_in {P:Program} {f:FuncId} {args:List V} {bs:Nat} {x:Int} {R:V→Prop} (h:DC P f args [(bs,srcO x)] fun u S'=>R (inL V.peek u)∧ ∃x',S'= [(bs,srcO x')]):QC P f args bs x R:=DC.of_inR h
theorem forms_peek (l:List Form):(l.map Form.cells).map (·.map V.peek)=l.map Form.cells:=by rw[List.map_map];rfl
theorem forms_zero {s:GSet}: ∀{l:List Form},(∀f∈l,formS s f=0)→formsGo s l=0
 | [],_=>rfl
 | f::l,h=>by
  rw[formsGo,h f (List.mem_cons_self ..),if_neg (by omega)]
  exact forms_zero fun g hg=>h g (List.mem_cons_of_mem _ hg)
theorem melds_form {s:GSet} (h:gsetS s=0):formS s ⟨1,[],false⟩=0:=by
 rw[formS,if_neg (by omega),if_neg (by dsimp only;omega),if_neg (by simp[Form.wrong])]
 rfl
theorem yX20 {p:Prop} (h:p:=by first|exact rfl|(simp (disch:=omega) only[go_sem,dopV,yV0,↓reduceIte,Nat.reduceEqDiff,Nat.reduceLT,Nat.reduceLeDiff,Nat.reduceAdd,Nat.reduceMul,Nat.reduceSub,Int.reduceToNat,Int.reduceLT,Int.reduceLE,Int.reduceEq,IntWalk.toNatUp,IntWalk.iteOmega,IntWalk.i64_in,V.flat,V.one, *,Value.oneCell'];exact rfl)):p:=h
theorem yX21 {p:Prop} (h:p:=by(simp (disch:=omega) only[go_sem,dopV,yV0,↓reduceIte,Nat.reduceEqDiff,Nat.reduceLT,Nat.reduceLeDiff,Nat.reduceAdd,Nat.reduceMul,Nat.reduceSub,Int.reduceToNat,Int.reduceLT,Int.reduceLE,Int.reduceEq,IntWalk.toNatUp,IntWalk.iteOmega,IntWalk.i64_in,V.flat,V.one, *,List.forall_mem_map,implies_true,take_all,List.take_length];first|done|exact rfl)):p:=h
theorem formsOf_qc (bs:Nat) (x:Int) (s:GSet) (h:gsetS s=0):QC Tryz.prog 41 [ptr bs,s.val] bs x (fun u=> ∃l:List Form,u=formsV l∧formsS s l=0):=by
 have hfo:=fun y=>formOf_qc bs y s h
 have hcf:=fun f=>r2form_pc s f
 have hmf:=melds_form h
 have c1:=below_sc bs x 3 (by omega)
 have b1:=below_lt (x:=x) (n:=3) (by omega)
 obtain⟨N,hN⟩: ∃N:Nat,(N:Int)=belowX x 3:=⟨(belowX x 3).toNat,by omega⟩
 rw[←hN]at c1 b1
 generalize stepX x=y1 at *
 have hend: ∀l:List Form,1≤l.length→l.length≤3→(∀f∈l,formS s f=0)→formsS s l=0:=fun l h1 h2 h3=>by
  rw[formsS,if_neg (by omega),if_neg (by omega),if_neg (by omega),forms_zero h3]
 clear hN
 have HE:=Box.mk (And.intro h (And.intro hmf hend))
 clear h hend hmf
 refine QC.of_in ?_
 refine DC.of_run Tryz.func41 rfl Tryz.ntmps41 Tryz.results41 (by simp) (fun _ _=>?_);simp only[argV_cons,argV_nil,go_sem,Nat.zero_add,Nat.reduceAdd]
 repeat' (first|(with_reducible first|(refine DS.nilOwn (t:=4) yU yO yE ?_)|(refine DS.nilOwn (t:=5) yU yO yE ?_))|refine yJ ?_|(refine DS.scS inferInstance (c1) yR yT yT ?_;(try simp only[delS_cons,delS_nil,↓reduceIte, *]))|(refine DS.boxF (t:=3) yU yE yU ?_;simp only[yS3])|fail)
 refine DS.loopS [0,3] yN (fun(y:Nat×Int×List Form)=> [(5, .own false 125 3 (y.2.2.map Form.cells)),(6,I y.1)]) (fun(y:Nat×Int×List Form)=> [(bs,srcO y.2.1)]) (fun(y:Nat×Int×List Form)=>y.1+y.2.2.length≤N∧ ∀f∈y.2.2,formS s f=0) (fun(y:Nat×Int×List Form)=>y.1) (N,y1,[]) yS (fun b o e=>by exact e) ⟨Nat.le_refl _,fun f hf=>by cases hf⟩ (fun y B hI hB=>?_);try dsimp only at hI hB;simp only[app_cons',app_nil']
 obtain⟨i,z,out⟩:=y
 dsimp only at hI hB ⊢
 obtain⟨g1,g2⟩:=hI
 have H:=Box.mk (And.intro g2 hB)
 clear g2 hB
 by_cases hi:0<(i:Int)
 ·obtain⟨k,rfl⟩: ∃k,i=k+1:=⟨i-1,by omega⟩
  repeat' (first|refine yJT ?_|fail)
  refine DS.qc inferInstance (hfo z) yR yH yH (fun u x' hu=>?_)
  obtain⟨f,rfl,hf⟩:=hu
  simp only[delS_cons,delS_nil,↓reduceIte]
  have hcf1:=hcf f
  obtain⟨e,he⟩: ∃e,formS s f=e:=⟨_,rfl⟩
  rw[he]at hcf1
  by_cases h0:e=0
  ·subst h0
   have HF:=Box.mk he
   clear he
   repeat' (first|(with_reducible refine DS.mv (t:=5) yU yO yX6 ?_;simp only[yS2,Nat.reduceEqDiff,↓reduceIte])|(with_reducible refine DS.mv (t:=22) yU yO yX6 ?_;simp only[yS2,Nat.reduceEqDiff,↓reduceIte])|with_reducible refine DS.fltS yU yU yX6 ?_|refine yJ ?_|(with_reducible (refine DS.cE yX6 ?_;refine CG.yes ?_))|(refine DS.bsl yU yX6 yX6 ?_;simp only[go_sem,Nat.zero_add,Nat.reduceAdd])|(refine DS.append (mm:=false) yU yX6 yX6 yU (by decide) yX6 yO2 yX6 yX20 (by first|exact(htk _)|exact(hdk _)|exact yLM) yQ2 ?_;simp only[yS2,Nat.reduceEqDiff,↓reduceIte])|(refine DS.letF (t:=7) yU yX6 yU (fun _=>yX6) yX6 yU yV1 (fun _=>yN1) ?_;simp only[go_sem])|refine DS.pcS inferInstance (hcf1) yR yX12 ?_|fail)
   refine DS.back (H.out.2 (k,x',out++ [f]) _ _ (by dsimp only;omega) ⟨by simp only[List.length_append,List.length_singleton];omega,fun g hg=>(List.mem_append.1 hg).elim (H.out.1 g) fun hg=>by rw[List.mem_singleton.1 hg];exact HF.out⟩ ?_ yS (fun d o e=>e))
   simp only[subV_cons,subV_nil,lookV_cons,Nat.reduceEqDiff,↓reduceIte,and_true]
   exact⟨by rw[List.map_append];rfl,by rw[show((k+1:Nat):Int)-1=(k:Int) by omega]⟩
  ·repeat' (first|with_reducible refine DS.fltS yU yU yX6 ?_|refine yJ ?_|(with_reducible (refine DS.cE yX6 ?_;refine CG.no ?_))|(refine DS.letF (t:=7) yU yX6 yU (fun _=>yX6) yX6 yU yV1 (fun _=>yN1) ?_;simp only[go_sem])|refine DS.pcS inferInstance (hcf1) yR yX12 ?_|fail)
   refine DS.back (H.out.2 (k,x',out) _ _ (by dsimp only;omega) ⟨by dsimp only;omega,H.out.1⟩ ?_ yS (fun d o e=>e))
   simp only[subV_cons,subV_nil,lookV_cons,Nat.reduceEqDiff,↓reduceIte,and_true,true_and]
   rw[show((k+1:Nat):Int)-1=(k:Int) by omega]
 ·obtain rfl:i=0:=by omega
  have htk: ∀(a:Nat),∀c∈List.take a (List.map Form.cells out),c.length=3:=fun a c hc=>len_map Form.len _ c (List.mem_of_mem_take hc)
  have hdk: ∀(a:Nat),∀c∈List.drop a (List.map Form.cells out),c.length=3:=fun a c hc=>len_map Form.len _ c (List.mem_of_mem_drop hc)
  have cb:=below_sc bs z 4 (by omega)
  have bb:=below_lt (x:=z) (n:=4) (by omega)
  generalize belowX z 4=q at *
  generalize stepX z=z2 at *
  have cb2:=fun w=>below_sc bs w ((out.length:Int)+1) (by omega)
  have bb2:=fun w=>below_lt (x:=w) (n:=(out.length:Int)+1) (by omega)
  have hat: ∀w:Int,∃a:Nat,belowX w ((out.length:Int)+1)=a∧a≤out.length:=fun w=>⟨(belowX w ((out.length:Int)+1)).toNat,by have:=bb2 w;omega,by have:=bb2 w;omega⟩
  have hto:List.take out.length (List.map Form.cells out)=List.map Form.cells out:=List.take_of_length_le (by simp)
  have fin: ∀(a:Nat),(List.take a (List.map Form.cells out)++ [[V.v (Value.int IntKind.i64 1),V.v (Value.slice none 0 0),V.v (Value.bool false)]]++List.drop a (List.map Form.cells out)).map (·.map V.peek)=(out.take a++ [(⟨1,[],false⟩:Form)]++out.drop a).map Form.cells∧formsS s (out.take a++ [(⟨1,[],false⟩:Form)]++out.drop a)=0:=fun a=>by
   refine⟨by rw[←List.map_take,←List.map_drop,List.map_append,List.map_append,forms_peek,forms_peek,List.map_append,List.map_append];rfl,HE.out.2.2 _ ?_ ?_ ?_⟩
   ·simp only[List.length_append,List.length_singleton];omega
   ·simp only[List.length_append,List.length_singleton,List.length_take,List.length_drop];omega
   ·intro f hf
    rcases List.mem_append.1 hf with hf|hf
    ·rcases List.mem_append.1 hf with hf|hf
     ·exact H.out.1 f (List.mem_of_mem_take hf)
     ·rw[List.mem_singleton.1 hf];exact HE.out.2.1
    ·exact H.out.1 f (List.mem_of_mem_drop hf)
  have HFin:=Box.mk fin
  clear fin
  by_cases ho:(out.length:Int)=0
  ·have cz:=cb2 z
   obtain⟨a,ha,ha2⟩:=hat z
   rw[ha]at cz
   clear cb2 bb2 hat ha cb
   have hl0:out.length=0:=by omega
   repeat' (first|(with_reducible refine DS.mv (t:=4) yU yO yX10 ?_;simp only[yS2,Nat.reduceEqDiff,↓reduceIte])|(with_reducible refine DS.mv (t:=5) yU yO yX10 ?_;simp only[yS2,Nat.reduceEqDiff,↓reduceIte])|(with_reducible refine DS.mv (t:=51) yU yO yX10 ?_;simp only[yS2,Nat.reduceEqDiff,↓reduceIte])|with_reducible refine DS.fltS yU yU yX10 ?_|refine yJ ?_|(with_reducible first|(refine DS.cE yX10 ?_;first|refine CG.yes ?_|refine CG.no ?_)|(refine DS.gE yU yX10 ?_;refine GG.sT ?_))|(refine DS.append (mm:=false) yU yX10 yX10 yU (by decide) yX10 yO2 yX10 yX11 (by first|exact(htk _)|exact(hdk _)|exact yLM) yQ2 ?_;simp only[yS2,Nat.reduceEqDiff,↓reduceIte])|(refine DS.scS inferInstance (cz) yR yX17 yX17 ?_;(try simp only[delS_cons,delS_nil,↓reduceIte, *]))|refine DS.drawL (id:=10) [1,2,3,0,4,5,6,7,8,9,10] 11 yKR mixed yP1 yP2 ?_|(with_reducible first|refine DD.fltS yU yU yU yX10 ?_|refine DD.nil0 ?_)|(refine DD.bslS yU yX10 yX10 ?_;simp only[go_sem,Nat.zero_add,Nat.reduceAdd];simp only[delV_cons',delV_nil',Nat.reduceEqDiff,↓reduceIte])|(refine DD.append (mm:=false) yU yX10 yX10 yU (by decide) yX10 yO2 yX10 yX11 (by first|exact(htk _)|exact(hdk _)|exact yLM) yQ2 ?_;simp only[yS2,Nat.reduceEqDiff,↓reduceIte];simp only[delV_cons',delV_nil',Nat.reduceEqDiff,↓reduceIte])|fail)
   refine DS.retA yG ⟨⟨out.take a++ [⟨1,[],false⟩]++out.drop a,?_,(HFin.out a).2⟩,_,rfl⟩
   have h:=(HFin.out a).1
   rw[List.length_eq_zero_iff.1 hl0]at h ⊢
   exact congrArg V.lst h
  ·by_cases hq:0<q
   ·have cz:=cb2 z2
    obtain⟨a,ha,ha2⟩:=hat z2
    rw[ha]at cz
    clear cb2 bb2 hat ha
    repeat' (first|(with_reducible refine DS.mv (t:=4) yU yO yX10 ?_;simp only[yS2,Nat.reduceEqDiff,↓reduceIte])|(with_reducible refine DS.mv (t:=5) yU yO yX10 ?_;simp only[yS2,Nat.reduceEqDiff,↓reduceIte])|(with_reducible refine DS.mv (t:=51) yU yO yX10 ?_;simp only[yS2,Nat.reduceEqDiff,↓reduceIte])|with_reducible refine DS.fltS yU yU yX10 ?_|refine yJ ?_|(with_reducible first|(refine DS.cE yX10 ?_;first|refine CG.yes ?_|refine CG.no ?_)|(refine DS.gE yU yX10 ?_;refine GG.run ?_))|(refine DS.append (mm:=false) yU yX10 yX10 yU (by decide) yX10 yO2 yX10 yX11 (by first|exact(htk _)|exact(hdk _)|exact yLM) yQ2 ?_;simp only[yS2,Nat.reduceEqDiff,↓reduceIte])|(refine DS.scS inferInstance (cb) yR yX21 yX21 ?_;(try simp only[delS_cons,delS_nil,↓reduceIte, *]))|(refine DS.scS inferInstance (cz) yR yX21 yX21 ?_;(try simp only[delS_cons,delS_nil,↓reduceIte, *]))|refine DS.drawL (id:=10) [1,2,3,0,4,5,6,7,8,9,10] 11 yKR mixed yP1 yP2 ?_|(with_reducible first|refine DD.fltS yU yU yU yX10 ?_|refine DD.nil0 ?_)|(refine DD.bslS yU yX10 yX10 ?_;simp only[go_sem,Nat.zero_add,Nat.reduceAdd];simp only[delV_cons',delV_nil',Nat.reduceEqDiff,↓reduceIte])|(refine DD.append (mm:=false) yU yX10 yX10 yU (by decide) yX10 yO2 yX10 yX11 (by first|exact(htk _)|exact(hdk _)|exact yLM) yQ2 ?_;simp only[yS2,Nat.reduceEqDiff,↓reduceIte];simp only[delV_cons',delV_nil',Nat.reduceEqDiff,↓reduceIte])|fail)
    refine DS.retA yG ⟨⟨out.take a++ [⟨1,[],false⟩]++out.drop a,?_,(HFin.out a).2⟩,_,rfl⟩
    exact congrArg V.lst (HFin.out a).1
   ·clear cb2 bb2 hat
    repeat' (first|(with_reducible refine DS.mv (t:=4) yU yO yE ?_;simp only[yS2,Nat.reduceEqDiff,↓reduceIte])|(with_reducible refine DS.mv (t:=51) yU yO yE ?_;simp only[yS2,Nat.reduceEqDiff,↓reduceIte])|refine yJT ?_|(refine DS.scS inferInstance (cb) yR yF yF ?_;(try simp only[delS_cons,delS_nil,↓reduceIte, *]))|fail)
    refine DS.retA yG ⟨⟨out,?_,HE.out.2.2 out (by omega) (by omega) H.out.1⟩,z2,rfl⟩
    exact congrArg V.lst (forms_peek out)
end Go.XL
namespace Go.XL
open Go.Proofs
set_option maxRecDepth 100000
set_option maxHeartbeats 8000000
theorem different_gc (bs:Nat) (x:Int) (s:GSet) (h:gsetS s=0) (n:Int) (hn : -100≤n∧n≤100):DC Tryz.prog 123 [ptr bs,s.val,I n] [(bs,srcO x)] (fun u S'=> ∃(l:List Int) (g:GR) (x':Int),u=g.cell∧IntG [bs] l g∧S'=(bs,srcO x')::SRg 3 g∧KindsIn s.plain.toNat l∧l.length≤s.plain.toNat):=by
 have ok:=gset_ok h
 have hp:=kitPlain_pc s ok.few
 have h1:=ok.plain
 obtain⟨N,hN⟩: ∃N:Nat,s.plain=N:=⟨s.plain.toNat,by omega⟩
 rw[hN]at hp ⊢
 rw[Int.toNat_natCast]
 have hN34:N≤34:=by omega
 clear hN h1 ok h
 refine DC.of_run Tryz.func123 rfl Tryz.ntmps123 Tryz.results123 (by simp) (fun _ _=>?_);simp only[argV_cons,argV_nil,go_sem,Nat.zero_add,Nat.reduceAdd]
 repeat' (first|refine yJ ?_|(refine DS.boxF (t:=4) yU yE yU ?_;simp only[yS3])|fail)
 have hnil:GR.cell ⟨[],none⟩=V.v (.slice none 0 0):=rfl
 refine DS.loopS [0,4] yN (fun(y:Nat×Int×Int×List Int×GR)=> [(2,I y.2.2.1),(7,y.2.2.2.2.cell),(8,I y.1)]) (fun(y:Nat×Int×Int×List Int×GR)=>(bs,srcO y.2.1)::SRg 3 y.2.2.2.2) (fun(y:Nat×Int×Int×List Int×GR)=>(y.1≤N∧y.2.2.2.1.length≤y.1 ∧ -100≤y.2.2.1∧y.2.2.1≤100)∧KindsIn N y.2.2.2.1∧IntG [bs] y.2.2.2.1 y.2.2.2.2) (fun(y:Nat×Int×Int×List Int×GR)=>N-y.1) (0,x,n,[],⟨[],none⟩) yS (fun b o e=>by exact e) ⟨⟨Nat.zero_le _,Nat.le_refl _,hn.1,hn.2⟩,KindsIn.nil _,⟨rfl,rfl,NBg.none _ _⟩⟩ (fun y B hI hB=>?_);try dsimp only at hI hB;simp only[app_cons',app_nil']
 clear hnil
 obtain⟨k,x1,m,out,g⟩:=y
 dsimp only at hI hB ⊢
 obtain⟨⟨g1,g2,g4,g5⟩,g3,g6⟩:=hI
 have H:=Box.mk (And.intro g6 (And.intro g3 hB))
 have hdel:=g6.nb.del 3 (c:=bs) (by simp)
 clear g3 g6 hB
 by_cases hk:(k:Int)<(N:Int)
 ·have ho:=below_sc bs x1 ((N:Int)-k) (by omega)
  obtain⟨q,hq⟩: ∃q,belowX x1 ((N:Int)-k)=q:=⟨_,rfl⟩
  rw[hq]at ho
  clear hq
  by_cases hm:0<m
  ·by_cases hqm:q<m
   ·repeat' (first|with_reducible refine DS.fltS yU yU yX13 ?_|refine yJ ?_|(with_reducible first|(refine DS.cE yX13 ?_;refine CG.yes ?_)|(refine DS.gE yU yX13 ?_;refine GG.run ?_))|refine DS.pcS inferInstance (hp) yR yX16 ?_|(refine DS.scS inferInstance (ho) yR yX16 yX16 ?_;(try simp only[delS_cons,delS_nil,↓reduceIte, *]))|fail)
    refine DS.bsl yU yG yG ?_
    simp only[go_sem,Nat.zero_add,Nat.reduceAdd]
    have hnb:=H.out.1.nb
    have hgl:g.l.length=out.length:=by rw[H.out.1.l,List.length_map]
    refine DS.reS (S':=(bs,srcO (stepX x1))::([]++SRg 3 g)) (fun d o e=>e) ?_
    refine DS.step rfl rfl yR (OpS.appG (g:=g) (ml:= [cI (k:Int)]) rfl yH yH yR yR (by decide) yH (H.out.1.ok.under (L:= []) hnb) yH yH (by exact Nat.zero_lt_succ _) (by intro c hc;obtain rfl:=List.mem_singleton.1 hc;rfl) ⟨by rw[hgl,List.length_singleton];omega,by decide⟩) (fun u2 E' S4 hu2=>?_)
    obtain⟨rfl,b',cap',junk',rfl,m1,m2,m3⟩:=hu2
    have hml:g.l++ [cI (k:Int)].map (fun x=>List.map V.copy x)=(out++ [(k:Int)]).map cI:=by rw[H.out.1.l,List.map_append];rfl
    rw[hml]at m1 ⊢
    obtain⟨hnb2,hS4⟩:=srg_seq (L:= []) hnb m1 m2 m3
    refine DS.reS (S':=(bs,srcO (stepX x1))::SRg 3 ⟨(out++ [(k:Int)]).map cI,some (b',cap',junk')⟩) hS4 ?_
    have hI2:IntG [bs] (out++ [(k:Int)]) ⟨(out++ [(k:Int)]).map cI,some (b',cap',junk')⟩:=⟨rfl,SRg.ok m1,hnb2⟩
    have H3:=Box.mk hI2
    clear hI2 hml m1 m2 m3 hnb2 hS4 hgl
    simp only[putV_some]
    generalize hg2:(⟨(out++ [(k:Int)]).map cI,some (b',cap',junk')⟩:GR)=g2
    rw[hg2]at H3
    clear hg2
    repeat' (first|with_reducible refine DS.fltS yU yU yX13 ?_|refine yJ ?_|fail)
    refine DS.back (H.out.2.2 (k+1,stepX x1,m-1,out++ [(k:Int)],g2) _ _ (by dsimp only;omega) ⟨⟨by dsimp only;omega,by simp only[List.length_append,List.length_singleton];omega,by dsimp only;omega,by dsimp only;omega⟩,H.out.2.1.app (fun z hz=>by rw[List.mem_singleton.1 hz];omega),H3.out⟩ yS yS (fun d o e=>e))
   ·repeat' (first|with_reducible refine DS.fltS yU yU yX13 ?_|refine yJ ?_|(with_reducible first|(refine DS.cE yX13 ?_;first|refine CG.yes ?_|refine CG.no ?_)|(refine DS.gE yU yX13 ?_;refine GG.run ?_))|refine DS.pcS inferInstance (hp) yR yX16 ?_|(refine DS.scS inferInstance (ho) yR yX16 yX16 ?_;(try simp only[delS_cons,delS_nil,↓reduceIte, *]))|fail)
    refine DS.back (H.out.2.2 (k+1,stepX x1,m,out,g) _ _ (by dsimp only;omega) ⟨⟨by dsimp only;omega,by dsimp only;omega,by dsimp only;omega,by dsimp only;omega⟩,H.out.2.1,H.out.1⟩ yS yS (fun d o e=>e))
  ·repeat' (first|with_reducible refine DS.fltS yU yU yX13 ?_|refine yJ ?_|(with_reducible first|(refine DS.cE yX13 ?_;first|refine CG.yes ?_|refine CG.no ?_)|(refine DS.gE yU yX13 ?_;refine GG.sF ?_))|refine DS.pcS inferInstance (hp) yR yX16 ?_|fail)
   refine DS.back (H.out.2.2 (k+1,x1,m,out,g) _ _ (by dsimp only;omega) ⟨⟨by dsimp only;omega,by dsimp only;omega,by dsimp only;omega,by dsimp only;omega⟩,H.out.2.1,H.out.1⟩ yS yS (fun d o e=>e))
 ·repeat' (first|with_reducible refine DS.fltS yU yU yX13 ?_|refine yJ ?_|(with_reducible (refine DS.cE yX13 ?_;refine CG.no ?_))|refine DS.pcS inferInstance (hp) yR yX16 ?_|fail)
  refine DS.retA yG ⟨out,g,x1,?_,H.out.1,rfl,H.out.2.1,by omega⟩
  first|rfl|(simp only[tupV,GR.cell_copy])
theorem fkGo_in {K c:Int} {b:Bool}: ∀{l:List Int} {p:Option Int} {m:Int},fkGo K c b l p m=0→ ∀z∈l,0≤z∧z<K
 | [],_,_,_,z,hz=>by cases hz
 | a::l,p,m,h,z,hz=>by
  rw[fkGo]at h
  obtain⟨h1,h⟩:=ite0 (by decide) h
  obtain⟨h2,h⟩:=ite0 (by decide) h
  obtain⟨h3,h⟩:=ite0 (by decide) h
  rcases List.mem_cons.1 hz with rfl|hz
  ·omega
  ·exact fkGo_in h z hz
structure FormIn (s:GSet) (f:Form):Prop where
 what:1≤f.what∧f.what≤6
 kinds:KindsIn s.plain.toNat f.kinds
 each:f.what=3→(f.kinds.length:Int)=3*s.melds+1
 list:f.what=6→(f.kinds.length:Int)=3*s.melds+2
 straight:f.what=5→s.suits= [9,9,9]∧3≤s.melds
theorem form_in {s:GSet} {f:Form} (h:formS s f=0):FormIn s f:=by
 unfold formS at h
 split at h
 ·rename_i h0;exact absurd h h0
 rename_i h0
 have h0:gsetS s=0:=by omega
 obtain⟨h1,h⟩:=ite0 (by decide) h
 obtain⟨h2,h⟩:=ite0 (by decide) h
 have hpl:=(gset_ok h0).plain
 have h3:=fkGo_in h
 have h2:f.wrong s=false:=by simpa using h2
 unfold Form.wrong at h2
 simp only[Bool.or_eq_false_iff,Bool.and_eq_false_iff,decide_eq_false_iff_not,Bool.not_eq_false',Bool.or_eq_true,decide_eq_true_eq]at h2
 obtain⟨⟨⟨⟨⟨a1,a2⟩,a3⟩,a4⟩,a5⟩,a6⟩:=h2
 refine⟨by omega,fun z hz=>by have:=h3 z hz;omega,fun w=>?_,fun w=>?_,fun w=>?_⟩
 ·rcases a4 with a4|a4
  ·exact absurd w a4
  ·omega
 ·rcases a6 with a6|a6
  ·exact absurd w a6
  ·omega
 ·rcases a5 with a5|⟨a5,a7⟩
  ·exact absurd w a5
  ·exact⟨by simpa using a5,by omega⟩
end Go.XL
namespace Go.XL
open Go.Proofs
set_option maxRecDepth 100000
set_option maxHeartbeats 8000000
structure Within (n:Nat) (c:Int) (bag al:List Int):Prop where
 abag:Bag n c al
 len:bag.length=n
 le: ∀(i:Nat),i<n→0≤bag.getD i 0∧bag.getD i 0≤al.getD i 0
theorem Within.bag {n:Nat} {c:Int} {bag al:List Int} (h:Within n c bag al):Bag n c bag:=⟨h.len,fun x hx=>by
 obtain⟨i,hi,rfl⟩:=List.getElem_of_mem hx
 have h1:=h.le i (by rw[←h.len];exact hi)
 have h2:i<al.length:=by rw[h.abag.len,←h.len];exact hi
 have h3:=h.abag.get h2
 rw[List.getD_eq_getElem?_getD,List.getElem?_eq_getElem hi,List.getD_eq_getElem?_getD,List.getElem?_eq_getElem h2]at h1
 simp only[Option.getD_some]at h1
 omega⟩
theorem incB_getD {l:List Int} {k i:Nat} (hk:k<l.length):(incB l k).getD i 0=if k=i then l.getD i 0+1 else l.getD i 0:=by
 rw[incB_at (by simpa using hk)]
 simp only[Int.toNat_natCast]
 rw[List.getD_eq_getElem?_getD,List.getElem?_set,List.getD_eq_getElem?_getD]
 by_cases h:k=i
 ·subst h;rw[if_pos rfl,if_pos rfl,if_pos hk,List.getElem?_eq_getElem hk];rfl
 ·rw[if_neg h,if_neg h]
theorem Within.inc {n:Nat} {c:Int} {bag al:List Int} (h:Within n c bag al) {k:Nat} (hk:k<n) (hl:al.getD k 0<c):Within n c (incB bag k) (incB al k):=by
 have e1:=h.abag.len
 have e2:=h.len
 refine⟨⟨by rw[incB_len];exact e1,fun x hx=>?_⟩,by rw[incB_len];exact e2,fun i hi=>?_⟩
 ·obtain⟨i,hi,rfl⟩:=List.getElem_of_mem hx
  have h3:=incB_getD (l:=al) (k:=k) (i:=i) (by omega)
  rw[incB_len]at hi
  have h4:=h.abag.get hi
  rw[List.getD_eq_getElem?_getD,List.getElem?_eq_getElem (by rw[incB_len];exact hi)]at h3
  simp only[Option.getD_some]at h3
  rw[h3]
  have h5:al.getD i 0=al[i]:=by rw[List.getD_eq_getElem?_getD,List.getElem?_eq_getElem hi];rfl
  rw[h5]at h3 ⊢
  by_cases e:k=i
  ·subst e;rw[if_pos rfl];rw[h5]at hl;omega
  ·rw[if_neg e];omega
 ·have h1:=h.le i hi
  rw[incB_getD (by omega),incB_getD (by omega)]
  split <;> omega
theorem Within.zero (n:Nat) {c:Int} {al:List Int} (h:Bag n c al):Within n c (List.replicate n 0) al:=⟨h,List.length_replicate,fun i hi=>by
 have h1:i<al.length:=by rw[h.len];exact hi
 have h2:=h.get h1
 rw[List.getD_eq_getElem?_getD,List.getElem?_replicate,if_pos hi,List.getD_eq_getElem?_getD,List.getElem?_eq_getElem h1]
 simp only[Option.getD_some]
 omega⟩
section
variable {P:Program} {n:Nat} {r:Rr} {Q:VEnv→Sto→Prop} {k:List Fr} {E:VEnv} {S:Sto} {ops l:List Oper} {ty:TypeId} {pos:String} {af:Array Edge} {ts:Array TypeId}
theorem DS.totK {t b cap m:Nat} {c:Int} {L:List Int} {xs:Array Operand} (hl:Bag m c L) (hc:0≤c∧c≤1000000) (hm:m≤1000) (hd:decide (t<n)=true)
  (he:(evsV (evV E) xs.toList).map (·.map V.peek)=some [.v (.slice (some ⟨b,0,none⟩) m cap)]) (hS:lookS S b=some (.cells (L.map fun x=>I x) 3))
  (q:DS Tryz.prog n r Q (.ops ops l::k) ((t,I (sumI L))::E) S) :
  DS Tryz.prog n r Q (.ops ops (⟨some t, .call {callee := .value (.func 69),args:=xs,argTypes:=ts},ty,pos,af,none⟩::l)::k) E S:=by
 have hc:=kitTotalO_dc b cap L (fun z hz=>by have:=hl.bd z hz;omega) (by rw[hl.len];exact hm)
 rw[hl.len]at hc
 refine DS.call (dst:=some t) [(b, .cells (L.map fun x=>I x) 3)] (delS b S) inferInstance hc hd he (one_in hS).1 (one_in hS).2 ?_
 rintro u S' ⟨rfl,rfl⟩ -
 refine DS.reS (S':=S) (fun d o e=>?_) q
 simp only[lookS,app_cons',app_nil']
 split
 ·rename_i h;subst h;rw[hS]at e;exact e
 ·rename_i h
  rw[lookS_del,if_neg (fun h'=>h h'.symm)];exact e
end
theorem filled_qc (bs:Nat) (x:Int) (s:GSet) (h:gsetS s=0) (hd:Hnd) (hh:HandIn s.plain.toNat hd):QC Tryz.prog 83 [ptr bs,s.val,hd.val,Bo true] bs x (fun u=> ∃hd2:Hnd,u=hd2.val∧HandIn s.plain.toNat hd2):=by
 have ok:=gset_ok h
 have hp:=kitPlain_pc s ok.few
 have hpl:=ok.plain
 have hme:=ok.melds
 have hco:=ok.copies
 have htl:=fun g hk=>tilesG_qp s h g hk
 obtain⟨N,hN⟩: ∃N:Nat,s.plain=N:=⟨s.plain.toNat,by omega⟩
 rw[hN]at hp hpl htl hh ⊢
 simp only[Int.toNat_natCast]at htl hh ⊢
 have hNm:N≤maxLen:=Nat.le_trans (show N≤34 by omega) (by decide)
 have hN34:N≤34:=by omega
 obtain⟨obag,melds⟩:=hd
 have hml:=hh.melds
 have hmk:=hh.kinds
 dsimp only at hml hmk
 have HF:=Box.mk (And.intro htl hmk)
 clear htl hmk hh ok h hN
 unfold QC
 refine DC.of_run Tryz.func83 rfl Tryz.ntmps83 Tryz.results83 (by simp) (fun _ _=>?_);simp only[argV_cons,argV_nil,go_sem,Nat.zero_add,Nat.reduceAdd]
 repeat' (first|refine yJ ?_|(refine DS.boxF (t:=5) yU yE yU ?_;simp only[yS3])|(refine DS.boxF (t:=6) yU yE yU ?_;simp only[yS3])|fail)
 refine DS.allocS yR yU yU (fun b8 h8=>?_)
 have q:=lookS_ne h8
 try (simp only[List.map_cons,List.map_nil,List.mem_cons,List.not_mem_nil,or_false,not_or]at q)
 have p0:=q
 have qAL: ¬b8=bs:=p0
 have qAS: ¬bs=b8:=fun e=>p0 e.symm
 clear h8 p0
 have hz:(Value.agg #[Value.slice none 0 0,Value.slice none 0 0]).cells.toList.map V.v= [.v (.slice none 0 0), .v (.slice none 0 0)]:=rfl
 rw[hz]
 repeat' (first|refine yJ ?_|fail)
 refine DS.drawLS (id:=1) ([(b8, .cells [.v (.slice none 0 0), .v (.slice none 0 0)] 33),(bs,srcO x)]) ([]) [0,1,4,5,3,6,2,7,8] 9 yKR mixed yP1 yP2 ((fun d o e=>⟨e,rfl⟩)) ((fun d o e=>by cases e)) ?_
 repeat' (first|with_reducible refine DD.fltS yU yU yU yX6 ?_|refine DD.pcV0 inferInstance (hp) yU yX12 ?_|(refine DD.bslS yU yX6 yX6 ?_;simp only[go_sem,Nat.zero_add,Nat.reduceAdd];simp only[delV_cons',delV_nil',Nat.reduceEqDiff,↓reduceIte])|(refine DD.append (mm:=false) yU yX6 yX6 yU (by decide) yX6 yO2 yX6 yX20 yLM yQ2 ?_;simp only[yS2,Nat.reduceEqDiff,↓reduceIte];simp only[delV_cons',delV_nil',Nat.reduceEqDiff,↓reduceIte])|fail)
 refine DD.mk yR yH yH yH yH yR yR ⟨by omega,by omega,by decide,by omega⟩ (fun b1 h1 h1'=>?_)
 repeat' (first|with_reducible refine DD.flt1S yU yU yU yU yX6 ?_|fail)
 refine DD.alloc yR yU yU (fun b9 h9 h9'=>?_)
 rw[hz]
 simp only[Int.toNat_natCast]
 rw[zerosR]
 refine DD.dis (fun hdis=>?_)
 have qAM: ¬b9=b1:=fun e=>by subst e;simp[lookS]at h9
 have qAC: ¬b1=b9:=fun e=>qAM e.symm
 have qAB: ¬b1=b8:=fun e=>by
  have q:=hdis b8 _ (by simp only[lookS_cons,qAS,qAL,↓reduceIte];exact rfl)
  rw[←e,lookS_cons,if_neg qAM,lookS_cons,if_pos rfl]at q;cases q
 have qAI: ¬b8=b1:=fun e=>qAB e.symm
 have qAD: ¬b1=bs:=fun e=>by
  have q:=hdis bs _ (by simp only[lookS_cons,qAS,qAL,↓reduceIte];exact rfl)
  rw[←e,lookS_cons,if_neg qAM,lookS_cons,if_pos rfl]at q;cases q
 have qAQ: ¬bs=b1:=fun e=>qAD e.symm
 have qAO: ¬b9=b8:=fun e=>by
  have q:=hdis b8 _ (by simp only[lookS_cons,qAS,qAL,↓reduceIte];exact rfl)
  rw[←e,lookS_cons,if_pos rfl]at q;cases q
 have qAK: ¬b8=b9:=fun e=>qAO e.symm
 have qAP: ¬b9=bs:=fun e=>by
  have q:=hdis bs _ (by simp only[lookS_cons,qAS,qAL,↓reduceIte];exact rfl)
  rw[←e,lookS_cons,if_pos rfl]at q;cases q
 have qAT: ¬bs=b9:=fun e=>qAP e.symm
 clear hdis h1 h1' h9 h9'
 refine DD.nil ?_
 repeat' (first|with_reducible refine DS.fltS yU yU yX6 ?_|refine yJ ?_|refine DS.pcS inferInstance (hp) yR yX12 ?_|(refine DS.mkS yU yX6 yX6 yX6 yX6 yU yU ⟨by omega,by omega,by decide,by omega⟩ (fun _ hfr=>?_))|(refine DS.store yR yX6 yX6 yX6 yX6 yU yQ ?_;simp only[yS1];try simp only[yS2,Nat.reduceEqDiff,↓reduceIte])|fail)
 rename_i b2
 have h2:=hfr
 clear hfr
 simp only[setS,delS_cons,delS_nil,app_cons',app_nil',qAS,qAQ,qAT,qAL,qAI,qAK,qAD,qAB,qAC,qAP,qAO,qAM,↓reduceIte,List.map_cons,List.map_nil,copy_v,copy_lst,copy_own,setAll_cons,setAll_nil,set_cons',set_zero',Nat.reduceAdd,Nat.zero_add]at h2 ⊢
 have q:=lookS_ne h2
 try (simp only[List.map_cons,List.map_nil,List.mem_cons,List.not_mem_nil,or_false,not_or]at q)
 obtain⟨p0,p1,p2,p3⟩:=q
 have qAG: ¬b2=b9:=p0
 have qAN: ¬b9=b2:=fun e=>p0 e.symm
 have qAE: ¬b2=b1:=p1
 have qAA: ¬b1=b2:=fun e=>p1 e.symm
 have qAF: ¬b2=b8:=p2
 have qAJ: ¬b8=b2:=fun e=>p2 e.symm
 have qAH: ¬b2=bs:=p3
 have qAR: ¬bs=b2:=fun e=>p3 e.symm
 clear h2 p0 p1 p2 p3
 try (simp only[Int.toNat_natCast])
 rw[zerosR]
 refine DS.reS (S':= [(bs,srcO x),(b9,Ob.cells [.v (.slice (some ⟨b1,0,none⟩) N N),grpsV melds] 33),(b8,Ob.cells [.v (.slice none 0 0), .v (.slice none 0 0)] 33),(b1,Ob.cells ((List.replicate N (0:Int)).map fun x=>I x) 3),(b2,Ob.cells ((List.replicate N (0:Int)).map fun x=>I x) 3)]) (fun d o e=>?_) ?_
 simp only[lookS_cons,lookS_nil,app_cons',app_nil']at e ⊢
 by_cases q0:bs=d
 ·subst q0;simp only[qAT,qAP,qAS,qAL,qAQ,qAD,qAR,qAH,↓reduceIte]at e ⊢;exact e
 by_cases q1:b9=d
 ·subst q1;simp only[qAP,qAT,qAO,qAK,qAM,qAC,qAN,qAG,↓reduceIte]at e ⊢;exact e
 by_cases q2:b8=d
 ·subst q2;simp only[qAL,qAS,qAK,qAO,qAI,qAB,qAJ,qAF,↓reduceIte]at e ⊢;exact e
 by_cases q3:b1=d
 ·subst q3;simp only[qAD,qAQ,qAC,qAM,qAB,qAI,qAA,qAE,↓reduceIte]at e ⊢;exact e
 by_cases q4:b2=d
 ·subst q4;simp only[qAH,qAR,qAG,qAN,qAF,qAJ,qAE,qAA,↓reduceIte]at e ⊢;exact e
 simp only[q0,q1,q2,q3,q4,↓reduceIte]at e
 exact absurd e (by simp)
 refine DS.loopS [0,3,5,6,8,9,10] yN (fun(y:Nat×List Int)=> [(11,I y.1)]) (fun(y:Nat×List Int)=> [(bs,srcO x),(b9,Ob.cells [.v (.slice (some ⟨b1,0,none⟩) N N),grpsV melds] 33),(b8,Ob.cells [.v (.slice none 0 0), .v (.slice none 0 0)] 33),(b1,Ob.cells ((List.replicate N (0:Int)).map fun x=>I x) 3),(b2,Ob.cells (y.2.map fun x=>I x) 3)]) (fun(y:Nat×List Int)=>y.1≤melds.length∧Bag N (4*y.1) y.2) (fun(y:Nat×List Int)=>melds.length-y.1) (0,List.replicate N 0) yS (fun b o e=>by exact e) ⟨Nat.zero_le _,Bag.zero N (by dsimp only;omega)⟩ (fun y B hI hB=>?_);try dsimp only at hI hB;simp only[app_cons',app_nil']
 obtain⟨i,al⟩:=y
 dsimp only at hI hB ⊢
 obtain⟨i1,i2⟩:=hI
 have H:=Box.mk (And.intro i2 hB)
 clear i2 hB
 by_cases hi:(i:Int)<(melds.length:Int)
 ·have hi':i<melds.length:=by omega
  have htl:=HF.out.1 _ (HF.out.2 _ (List.getElem_mem hi'))
  repeat' (first|refine yJT ?_|fail)
  refine DS.drawLS (id:=6) ([(bs,srcO x),(b9,Ob.cells [.v (.slice (some ⟨b1,0,none⟩) N N),grpsV melds] 33),(b8,Ob.cells [.v (.slice none 0 0), .v (.slice none 0 0)] 33),(b1,Ob.cells ((List.replicate N (0:Int)).map fun x=>I x) 3),(b2,Ob.cells (al.map fun x=>I x) 3)]) ([]) [0,1,2,3,4,5,6,7] 8 yKR mixed yP1 yP2 ((fun d o e=>⟨e,rfl⟩)) ((fun d o e=>by cases e)) ?_
  repeat' (first|with_reducible refine DD.fltS yU yU yU yE ?_|fail)
  refine DD.callR [] [] inferInstance htl yR yH (fun _ _ e=>by cases e) (fun _ _ e=>by cases e) (fun o ho=>by cases ho) (fun u S' hu hdis=>?_)
  obtain⟨ks,rfl,hks,hkl⟩:=hu
  refine DD.reS (S1':= []) (fun _ _ e=>by cases e) ?_
  clear hdis htl
  refine DD.nil ?_
  simp only[delV_cons',delV_nil',Nat.reduceEqDiff,↓reduceIte,app_cons',app_nil']
  skip
  refine DS.putK (b:=b2) (cap:=N) (m:=N) (c:=4*i) (L:=al) (ks:=ks) H.out.1 hks (by omega) (by omega) (by omega) yR yH (by simp only[lookS_cons,qAS,qAQ,qAT,qAR,qAL,qAI,qAK,qAJ,qAD,qAB,qAC,qAA,qAP,qAO,qAM,qAN,qAH,qAF,qAE,qAG,↓reduceIte]) ?_
  simp only[delS_cons,delS_nil,qAS,qAQ,qAT,qAR,qAL,qAI,qAK,qAJ,qAD,qAB,qAC,qAA,qAP,qAO,qAM,qAN,qAH,qAF,qAE,qAG,↓reduceIte]
  repeat' (first|refine yJ ?_|fail)
  refine DS.back (H.out.2 (i+1,putB al ks) _ _ (by dsimp only;omega) ⟨by dsimp only;omega,(H.out.1.putB hks).mono (by dsimp only;omega)⟩ yS yS (fun d o e=>?_))
  simp only[lookS_cons,lookS_nil,app_cons',app_nil']at e ⊢
  by_cases q0:bs=d
  ·subst q0;simp only[qAT,qAP,qAS,qAL,qAQ,qAD,qAR,qAH,↓reduceIte]at e ⊢;exact e
  by_cases q1:b9=d
  ·subst q1;simp only[qAP,qAT,qAO,qAK,qAM,qAC,qAN,qAG,↓reduceIte]at e ⊢;exact e
  by_cases q2:b8=d
  ·subst q2;simp only[qAL,qAS,qAK,qAO,qAI,qAB,qAJ,qAF,↓reduceIte]at e ⊢;exact e
  by_cases q3:b1=d
  ·subst q3;simp only[qAD,qAQ,qAC,qAM,qAB,qAI,qAA,qAE,↓reduceIte]at e ⊢;exact e
  by_cases q4:b2=d
  ·subst q4;simp only[qAH,qAR,qAG,qAN,qAF,qAJ,qAE,qAA,↓reduceIte]at e ⊢;exact e
  simp only[q0,q1,q2,q3,q4,↓reduceIte]at e
  exact absurd e (by simp)
 ·have hb16:Bag N 16 al:=H.out.1.mono (by omega)
  have hw0:=Within.zero N hb16
  clear hb16
  have W0:=Box.mk hw0
  clear hw0 H
  have cb:=below_sc bs x N (by omega)
  have bb:=below_lt (x:=x) (n:=(N:Int)) (by omega)
  generalize belowX x N=sp at *
  generalize stepX x=y1 at *
  repeat' (first|refine yJT ?_|refine DS.pcS inferInstance (hp) yR yT ?_|(refine DS.scS inferInstance (cb) yR yT yT ?_;(try simp only[delS_cons,delS_nil,↓reduceIte, *]))|fail)
  simp only[setS,delS_cons,delS_nil,app_cons',app_nil',qAS,qAQ,qAT,qAR,qAL,qAI,qAK,qAJ,qAD,qAB,qAC,qAA,qAP,qAO,qAM,qAN,qAH,qAF,qAE,qAG,↓reduceIte,List.map_cons,List.map_nil,copy_v,copy_lst,copy_own,setAll_cons,setAll_nil,set_cons',set_zero',Nat.reduceAdd,Nat.zero_add]
  generalize 3*(s.melds-(melds.length:Int))+1+1=nn at *
  have HK: ∀k:Nat,(k:Int)<N→KindsIn N [(k:Int)]:=fun k hk q hq=>by rw[List.mem_singleton.1 hq];omega
  refine DS.loopS [0,5,8,9,10,12,13] yN (fun(y:Nat×Int×List Int×List Int)=> [(14,I y.1)]) (fun(y:Nat×Int×List Int×List Int)=> [(bs,srcO y.2.1),(b9,Ob.cells [.v (.slice (some ⟨b1,0,none⟩) N N),grpsV melds] 33),(b8,Ob.cells [.v (.slice none 0 0), .v (.slice none 0 0)] 33),(b1,Ob.cells (y.2.2.1.map fun x=>I x) 3),(b2,Ob.cells (y.2.2.2.map fun x=>I x) 3)]) (fun(y:Nat×Int×List Int×List Int)=>y.1≤400∧Within N 16 y.2.2.1 y.2.2.2) (fun(y:Nat×Int×List Int×List Int)=>400-y.1) (0,y1,List.replicate N 0,al) yS (fun b o e=>by exact e) ⟨Nat.zero_le _,W0.out⟩ (fun y B hI hB=>?_);try dsimp only at hI hB;simp only[app_cons',app_nil']
  obtain⟨tr,z,bag,al⟩:=y
  dsimp only at hI hB ⊢
  obtain⟨i1,i2⟩:=hI
  have H:=Box.mk (And.intro i2 hB)
  clear i2 hB
  by_cases ht:(tr:Int)<400
  ·repeat' (first|refine yJT ?_|fail)
   refine DS.totK (b:=b1) (cap:=N) (m:=N) (c:=16) (L:=bag) H.out.1.bag (by omega) (by omega) yR yH (by simp only[lookS_cons,qAS,qAQ,qAT,qAR,qAL,qAI,qAK,qAJ,qAD,qAB,qAC,qAA,qAP,qAO,qAM,qAN,qAH,qAF,qAE,qAG,↓reduceIte]) ?_
   by_cases hs:sumI bag<nn
   ·have cb1:=below_sc bs z N (by omega)
    have bb1:=below_lt (x:=z) (n:=(N:Int)) (by omega)
    obtain⟨k1,hk1⟩: ∃k:Nat,(k:Int)=belowX z N:=⟨(belowX z N).toNat,by omega⟩
    rw[←hk1]at cb1 bb1
    clear hk1
    obtain⟨z1,hz1⟩: ∃z1,stepX z=z1:=⟨_,rfl⟩
    rw[hz1]at cb1
    clear hz1
    by_cases h60:(tr:Int)<60
    ·have cb2:=below_sc bs z1 (1+sp) (by omega)
     have bb2:=below_lt (x:=z1) (n:=1+sp) (by omega)
     obtain⟨k2,hk2⟩: ∃k:Nat,(k:Int)=belowX z1 (1+sp):=⟨(belowX z1 (1+sp)).toNat,by omega⟩
     rw[←hk2]at cb2 bb2
     clear hk2
     repeat' (first|refine yJT ?_|refine DS.pcS inferInstance (hp) yR yF ?_|(refine DS.scS inferInstance (cb1) yR yF yF ?_;(try simp only[delS_cons,delS_nil,↓reduceIte, *]))|(refine DS.scS inferInstance (cb2) yR yF yF ?_;(try simp only[delS_cons,delS_nil,↓reduceIte, *]))|fail)
     try (simp only[setS,delS_cons,delS_nil,app_cons',app_nil',qAS,qAQ,qAT,qAR,qAL,qAI,qAK,qAJ,qAD,qAB,qAC,qAA,qAP,qAO,qAM,qAN,qAH,qAF,qAE,qAG,↓reduceIte,List.map_cons,List.map_nil,copy_v,copy_lst,copy_own,setAll_cons,setAll_nil,set_cons',set_zero',Nat.reduceAdd,Nat.zero_add])
     have hkl:k2<al.length:=by rw[H.out.1.abag.len];omega
     have hmk:=H.out.1.abag.get hkl
     have hgk:al.getD k2 0=al[k2]:=by rw[List.getD_eq_getElem?_getD,List.getElem?_eq_getElem hkl];rfl
     have HG:=Box.mk hgk
     clear hgk
     by_cases hck:al[k2]<s.copies
     ·repeat' (first|refine yJT ?_|(refine DS.bsl yU yE yE ?_;simp only[go_sem,Nat.zero_add,Nat.reduceAdd])|refine DS.drawL (id:=17) [0,1,2,3,4,5] 6 yKR mixed yP1 yP2 ?_|(with_reducible first|refine DD.fltS yU yU yU yE ?_|refine DD.nil0 ?_)|fail)
      refine DS.putK (b:=b2) (cap:=N) (m:=N) (c:=16) (L:=al) (ks:= [(k2:Int)]) H.out.1.abag (HK k2 (by omega)) (by omega) (by omega) (by simp) yR yH (by simp only[lookS_cons,qAS,qAQ,qAT,qAR,qAL,qAI,qAK,qAJ,qAD,qAB,qAC,qAA,qAP,qAO,qAM,qAN,qAH,qAF,qAE,qAG,↓reduceIte]) ?_
      simp only[delS_cons,delS_nil,qAS,qAQ,qAT,qAR,qAL,qAI,qAK,qAJ,qAD,qAB,qAC,qAA,qAP,qAO,qAM,qAN,qAH,qAF,qAE,qAG,↓reduceIte]
      repeat' (first|refine yJ ?_|(refine DS.bsl yU yE yE ?_;simp only[go_sem,Nat.zero_add,Nat.reduceAdd])|fail)
      refine DS.putK (b:=b1) (cap:=N) (m:=N) (c:=16) (L:=bag) (ks:= [(k2:Int)]) H.out.1.bag (HK k2 (by omega)) (by omega) (by omega) (by simp) yR yH (by simp only[lookS_cons,qAS,qAQ,qAT,qAR,qAL,qAI,qAK,qAJ,qAD,qAB,qAC,qAA,qAP,qAO,qAM,qAN,qAH,qAF,qAE,qAG,↓reduceIte]) ?_
      simp only[delS_cons,delS_nil,qAS,qAQ,qAT,qAR,qAL,qAI,qAK,qAJ,qAD,qAB,qAC,qAA,qAP,qAO,qAM,qAN,qAH,qAF,qAE,qAG,↓reduceIte]
      repeat' (first|refine yJ ?_|fail)
      refine DS.back (H.out.2 (tr+1,stepX z1,incB bag k2,incB al k2) _ _ (by dsimp only;omega) ⟨by dsimp only;omega,H.out.1.inc (by omega) (by rw[HG.out];omega)⟩ yS yS (fun d o e=>?_))
      simp only[lookS_cons,lookS_nil,app_cons',app_nil']at e ⊢
      by_cases q0:bs=d
      ·subst q0;simp only[qAT,qAP,qAS,qAL,qAQ,qAD,qAR,qAH,↓reduceIte]at e ⊢;exact e
      by_cases q1:b9=d
      ·subst q1;simp only[qAP,qAT,qAO,qAK,qAM,qAC,qAN,qAG,↓reduceIte]at e ⊢;exact e
      by_cases q2:b8=d
      ·subst q2;simp only[qAL,qAS,qAK,qAO,qAI,qAB,qAJ,qAF,↓reduceIte]at e ⊢;exact e
      by_cases q3:b1=d
      ·subst q3;simp only[qAD,qAQ,qAC,qAM,qAB,qAI,qAA,qAE,↓reduceIte]at e ⊢;exact e
      by_cases q4:b2=d
      ·subst q4;simp only[qAH,qAR,qAG,qAN,qAF,qAJ,qAE,qAA,↓reduceIte]at e ⊢;exact e
      simp only[q0,q1,q2,q3,q4,↓reduceIte]at e
      exact absurd e (by simp)
     ·repeat' (first|refine yJT ?_|refine DS.drawL (id:=17) [0,1,2,3,4,5] 6 yKR mixed yP1 yP2 ?_|(with_reducible first|refine DD.fltS yU yU yU yE ?_|refine DD.nil0 ?_)|fail)
      refine DS.back (H.out.2 (tr+1,stepX z1,bag,al) _ _ (by dsimp only;omega) ⟨by dsimp only;omega,H.out.1⟩ yS yS (fun d o e=>?_))
      simp only[lookS_cons,lookS_nil,app_cons',app_nil']at e ⊢
      by_cases q0:bs=d
      ·subst q0;simp only[qAT,qAP,qAS,qAL,qAQ,qAD,qAR,qAH,↓reduceIte]at e ⊢;exact e
      by_cases q1:b9=d
      ·subst q1;simp only[qAP,qAT,qAO,qAK,qAM,qAC,qAN,qAG,↓reduceIte]at e ⊢;exact e
      by_cases q2:b8=d
      ·subst q2;simp only[qAL,qAS,qAK,qAO,qAI,qAB,qAJ,qAF,↓reduceIte]at e ⊢;exact e
      by_cases q3:b1=d
      ·subst q3;simp only[qAD,qAQ,qAC,qAM,qAB,qAI,qAA,qAE,↓reduceIte]at e ⊢;exact e
      by_cases q4:b2=d
      ·subst q4;simp only[qAH,qAR,qAG,qAN,qAF,qAJ,qAE,qAA,↓reduceIte]at e ⊢;exact e
      simp only[q0,q1,q2,q3,q4,↓reduceIte]at e
      exact absurd e (by simp)
    ·repeat' (first|refine yJT ?_|refine DS.pcS inferInstance (hp) yR yF ?_|(refine DS.scS inferInstance (cb1) yR yF yF ?_;(try simp only[delS_cons,delS_nil,↓reduceIte, *]))|fail)
     try (simp only[setS,delS_cons,delS_nil,app_cons',app_nil',qAS,qAQ,qAT,qAR,qAL,qAI,qAK,qAJ,qAD,qAB,qAC,qAA,qAP,qAO,qAM,qAN,qAH,qAF,qAE,qAG,↓reduceIte,List.map_cons,List.map_nil,copy_v,copy_lst,copy_own,setAll_cons,setAll_nil,set_cons',set_zero',Nat.reduceAdd,Nat.zero_add])
     have hkl:k1<al.length:=by rw[H.out.1.abag.len];omega
     have hmk:=H.out.1.abag.get hkl
     have hgk:al.getD k1 0=al[k1]:=by rw[List.getD_eq_getElem?_getD,List.getElem?_eq_getElem hkl];rfl
     have HG:=Box.mk hgk
     clear hgk
     by_cases hck:al[k1]<s.copies
     ·repeat' (first|refine yJT ?_|(refine DS.bsl yU yE yE ?_;simp only[go_sem,Nat.zero_add,Nat.reduceAdd])|refine DS.drawL (id:=17) [0,1,2,3,4,5] 6 yKR mixed yP1 yP2 ?_|(with_reducible first|refine DD.fltS yU yU yU yE ?_|refine DD.nil0 ?_)|fail)
      refine DS.putK (b:=b2) (cap:=N) (m:=N) (c:=16) (L:=al) (ks:= [(k1:Int)]) H.out.1.abag (HK k1 (by omega)) (by omega) (by omega) (by simp) yR yH (by simp only[lookS_cons,qAS,qAQ,qAT,qAR,qAL,qAI,qAK,qAJ,qAD,qAB,qAC,qAA,qAP,qAO,qAM,qAN,qAH,qAF,qAE,qAG,↓reduceIte]) ?_
      simp only[delS_cons,delS_nil,qAS,qAQ,qAT,qAR,qAL,qAI,qAK,qAJ,qAD,qAB,qAC,qAA,qAP,qAO,qAM,qAN,qAH,qAF,qAE,qAG,↓reduceIte]
      repeat' (first|refine yJ ?_|(refine DS.bsl yU yE yE ?_;simp only[go_sem,Nat.zero_add,Nat.reduceAdd])|fail)
      refine DS.putK (b:=b1) (cap:=N) (m:=N) (c:=16) (L:=bag) (ks:= [(k1:Int)]) H.out.1.bag (HK k1 (by omega)) (by omega) (by omega) (by simp) yR yH (by simp only[lookS_cons,qAS,qAQ,qAT,qAR,qAL,qAI,qAK,qAJ,qAD,qAB,qAC,qAA,qAP,qAO,qAM,qAN,qAH,qAF,qAE,qAG,↓reduceIte]) ?_
      simp only[delS_cons,delS_nil,qAS,qAQ,qAT,qAR,qAL,qAI,qAK,qAJ,qAD,qAB,qAC,qAA,qAP,qAO,qAM,qAN,qAH,qAF,qAE,qAG,↓reduceIte]
      repeat' (first|refine yJ ?_|fail)
      refine DS.back (H.out.2 (tr+1,z1,incB bag k1,incB al k1) _ _ (by dsimp only;omega) ⟨by dsimp only;omega,H.out.1.inc (by omega) (by rw[HG.out];omega)⟩ yS yS (fun d o e=>?_))
      simp only[lookS_cons,lookS_nil,app_cons',app_nil']at e ⊢
      by_cases q0:bs=d
      ·subst q0;simp only[qAT,qAP,qAS,qAL,qAQ,qAD,qAR,qAH,↓reduceIte]at e ⊢;exact e
      by_cases q1:b9=d
      ·subst q1;simp only[qAP,qAT,qAO,qAK,qAM,qAC,qAN,qAG,↓reduceIte]at e ⊢;exact e
      by_cases q2:b8=d
      ·subst q2;simp only[qAL,qAS,qAK,qAO,qAI,qAB,qAJ,qAF,↓reduceIte]at e ⊢;exact e
      by_cases q3:b1=d
      ·subst q3;simp only[qAD,qAQ,qAC,qAM,qAB,qAI,qAA,qAE,↓reduceIte]at e ⊢;exact e
      by_cases q4:b2=d
      ·subst q4;simp only[qAH,qAR,qAG,qAN,qAF,qAJ,qAE,qAA,↓reduceIte]at e ⊢;exact e
      simp only[q0,q1,q2,q3,q4,↓reduceIte]at e
      exact absurd e (by simp)
     ·repeat' (first|refine yJT ?_|refine DS.drawL (id:=17) [0,1,2,3,4,5] 6 yKR mixed yP1 yP2 ?_|(with_reducible first|refine DD.fltS yU yU yU yE ?_|refine DD.nil0 ?_)|fail)
      refine DS.back (H.out.2 (tr+1,z1,bag,al) _ _ (by dsimp only;omega) ⟨by dsimp only;omega,H.out.1⟩ yS yS (fun d o e=>?_))
      simp only[lookS_cons,lookS_nil,app_cons',app_nil']at e ⊢
      by_cases q0:bs=d
      ·subst q0;simp only[qAT,qAP,qAS,qAL,qAQ,qAD,qAR,qAH,↓reduceIte]at e ⊢;exact e
      by_cases q1:b9=d
      ·subst q1;simp only[qAP,qAT,qAO,qAK,qAM,qAC,qAN,qAG,↓reduceIte]at e ⊢;exact e
      by_cases q2:b8=d
      ·subst q2;simp only[qAL,qAS,qAK,qAO,qAI,qAB,qAJ,qAF,↓reduceIte]at e ⊢;exact e
      by_cases q3:b1=d
      ·subst q3;simp only[qAD,qAQ,qAC,qAM,qAB,qAI,qAA,qAE,↓reduceIte]at e ⊢;exact e
      by_cases q4:b2=d
      ·subst q4;simp only[qAH,qAR,qAG,qAN,qAF,qAJ,qAE,qAA,↓reduceIte]at e ⊢;exact e
      simp only[q0,q1,q2,q3,q4,↓reduceIte]at e
      exact absurd e (by simp)
   ·repeat' (first|refine yJT ?_|fail)
    refine DS.loopS [5,8,9,10,12] yN (fun(y:Nat×List Int×List Int)=> [(16,I y.1)]) (fun(y:Nat×List Int×List Int)=> [(bs,srcO z),(b9,Ob.cells [.v (.slice (some ⟨b1,0,none⟩) N N),grpsV melds] 33),(b8,Ob.cells [.v (.slice none 0 0), .v (.slice none 0 0)] 33),(b1,Ob.cells (y.2.1.map fun x=>I x) 3),(b2,Ob.cells (y.2.2.map fun x=>I x) 3)]) (fun(y:Nat×List Int×List Int)=>y.1≤N∧Within N 16 y.2.1 y.2.2) (fun(y:Nat×List Int×List Int)=>N-y.1) (0,bag,al) yS (fun b o e=>by exact e) ⟨Nat.zero_le _,H.out.1⟩ (fun y B hI hB=>?_);try dsimp only at hI hB;simp only[app_cons',app_nil']
    obtain⟨k,bag2,al2⟩:=y
    dsimp only at hI hB ⊢
    obtain⟨j1,j2⟩:=hI
    have H2:=Box.mk (And.intro j2 hB)
    clear j2 hB
    by_cases hk:(k:Int)<(N:Int)
    ·repeat' (first|refine yJT ?_|refine DS.pcS inferInstance (hp) yR yT ?_|fail)
     refine DS.totK (b:=b1) (cap:=N) (m:=N) (c:=16) (L:=bag2) H2.out.1.bag (by omega) (by omega) yR yH (by simp only[lookS_cons,qAS,qAQ,qAT,qAR,qAL,qAI,qAK,qAJ,qAD,qAB,qAC,qAA,qAP,qAO,qAM,qAN,qAH,qAF,qAE,qAG,↓reduceIte]) ?_
     by_cases hs2:sumI bag2<nn
     ·repeat' (first|refine yJT ?_|fail)
      refine DS.loopS [5,8,9,10,12,16] yN (fun(y:List Int×List Int)=> []) (fun(y:List Int×List Int)=> [(bs,srcO z),(b9,Ob.cells [.v (.slice (some ⟨b1,0,none⟩) N N),grpsV melds] 33),(b8,Ob.cells [.v (.slice none 0 0), .v (.slice none 0 0)] 33),(b1,Ob.cells (y.1.map fun x=>I x) 3),(b2,Ob.cells (y.2.map fun x=>I x) 3)]) (fun(y:List Int×List Int)=>Within N 16 y.1 y.2) (fun(y:List Int×List Int)=>(s.copies-y.2.getD k 0).toNat) (bag2,al2) yS (fun b o e=>by exact e) H2.out.1 (fun y B hI hB=>?_);try dsimp only at hI hB;simp only[app_cons',app_nil']
      obtain⟨bag3,al3⟩:=y
      dsimp only at hI hB ⊢
      have H3:=Box.mk (And.intro hI hB)
      have hkl:k<al3.length:=by rw[hI.abag.len];omega
      have hmk:=hI.abag.get hkl
      have hgk:al3.getD k 0=al3[k]:=by rw[List.getD_eq_getElem?_getD,List.getElem?_eq_getElem hkl];rfl
      have hbl:=hI.len
      have htot:=kitTotalO_dc b1 N bag3 (fun z hz=>by have:=hI.bag.bd z hz;omega) (by omega)
      rw[hbl]at htot
      have HG:=Box.mk hgk
      clear hI hB hgk hbl
      by_cases hck:al3[k]<s.copies
      ·repeat' (first|refine yJ ?_|fail)
       refine DS.drawLS (id:=23) ([(bs,srcO z),(b9,Ob.cells [.v (.slice (some ⟨b1,0,none⟩) N N),grpsV melds] 33),(b8,Ob.cells [.v (.slice none 0 0), .v (.slice none 0 0)] 33),(b2,Ob.cells (al3.map fun x=>I x) 3)]) ([(b1,Ob.cells (bag3.map fun x=>I x) 3)]) [0,1,2,3,4,5,6,7,8,9,10,11] 12 yKR mixed yP1 yP2 ((fun d o e=>?_)) ((fun d o e=>?_)) ?_
       ·simp only[lookS_cons,lookS_nil]at e ⊢
        by_cases q0:bs=d
        ·subst q0;simp only[qAS,qAQ,qAT,qAR,qAL,qAI,qAK,qAJ,qAD,qAB,qAC,qAA,qAP,qAO,qAM,qAN,qAH,qAF,qAE,qAG,↓reduceIte]at e ⊢;exact⟨e,trivial⟩
        by_cases q1:b9=d
        ·subst q1;simp only[qAS,qAQ,qAT,qAR,qAL,qAI,qAK,qAJ,qAD,qAB,qAC,qAA,qAP,qAO,qAM,qAN,qAH,qAF,qAE,qAG,↓reduceIte]at e ⊢;exact⟨e,trivial⟩
        by_cases q2:b8=d
        ·subst q2;simp only[qAS,qAQ,qAT,qAR,qAL,qAI,qAK,qAJ,qAD,qAB,qAC,qAA,qAP,qAO,qAM,qAN,qAH,qAF,qAE,qAG,↓reduceIte]at e ⊢;exact⟨e,trivial⟩
        by_cases q3:b2=d
        ·subst q3;simp only[qAS,qAQ,qAT,qAR,qAL,qAI,qAK,qAJ,qAD,qAB,qAC,qAA,qAP,qAO,qAM,qAN,qAH,qAF,qAE,qAG,↓reduceIte]at e ⊢;exact⟨e,trivial⟩
        simp only[q0,q1,q2,q3,↓reduceIte]at e
        exact absurd e (by simp)
       ·simp only[lookS_cons,lookS_nil]at e ⊢
        by_cases q:b1=d
        ·subst q;simp only[qAS,qAQ,qAT,qAR,qAL,qAI,qAK,qAJ,qAD,qAB,qAC,qAA,qAP,qAO,qAM,qAN,qAH,qAF,qAE,qAG,↓reduceIte]at e ⊢;exact e
        simp only[q,↓reduceIte]at e
        exact absurd e (by simp)
       repeat' (first|(with_reducible first|refine DD.fltS yU yU yU yE ?_|(refine DD.gE yU yE ?_;refine DGG.run ?_))|fail)
       refine DD.call (dst:=some 119) [(b1,Ob.cells (bag3.map fun x=>I x) 3)] [] inferInstance htot yR yH (fun _ _ e=>e) (fun _ _ e=>by cases e) (fun _=>MpOk.nil) ?_
       simp only[putV_some,delO_some,delV_cons',delV_nil',Nat.reduceEqDiff,↓reduceIte,app_cons',app_nil']
       by_cases hs3:sumI bag3<nn
       ·repeat' (first|refine yJT ?_|(refine DS.bsl yU yE yE ?_;simp only[go_sem,Nat.zero_add,Nat.reduceAdd])|(with_reducible first|refine DD.fltS yU yU yU yE ?_|(refine DD.gE yU yE ?_;refine DGG.run ?_))|(with_reducible refine DD.nil ?_;simp only[app_cons',app_nil'])|fail)
        try (simp only[setS,delS_cons,delS_nil,app_cons',app_nil',qAS,qAQ,qAT,qAR,qAL,qAI,qAK,qAJ,qAD,qAB,qAC,qAA,qAP,qAO,qAM,qAN,qAH,qAF,qAE,qAG,↓reduceIte,List.map_cons,List.map_nil,copy_v,copy_lst,copy_own,setAll_cons,setAll_nil,set_cons',set_zero',Nat.reduceAdd,Nat.zero_add])
        refine DS.putK (b:=b2) (cap:=N) (m:=N) (c:=16) (L:=al3) (ks:= [(k:Int)]) H3.out.1.abag (HK k (by omega)) (by omega) (by omega) (by simp) yR yH (by simp only[lookS_cons,qAS,qAQ,qAT,qAR,qAL,qAI,qAK,qAJ,qAD,qAB,qAC,qAA,qAP,qAO,qAM,qAN,qAH,qAF,qAE,qAG,↓reduceIte]) ?_
        simp only[delS_cons,delS_nil,qAS,qAQ,qAT,qAR,qAL,qAI,qAK,qAJ,qAD,qAB,qAC,qAA,qAP,qAO,qAM,qAN,qAH,qAF,qAE,qAG,↓reduceIte]
        repeat' (first|refine yJ ?_|(refine DS.bsl yU yE yE ?_;simp only[go_sem,Nat.zero_add,Nat.reduceAdd])|fail)
        refine DS.putK (b:=b1) (cap:=N) (m:=N) (c:=16) (L:=bag3) (ks:= [(k:Int)]) H3.out.1.bag (HK k (by omega)) (by omega) (by omega) (by simp) yR yH (by simp only[lookS_cons,qAS,qAQ,qAT,qAR,qAL,qAI,qAK,qAJ,qAD,qAB,qAC,qAA,qAP,qAO,qAM,qAN,qAH,qAF,qAE,qAG,↓reduceIte]) ?_
        simp only[delS_cons,delS_nil,qAS,qAQ,qAT,qAR,qAL,qAI,qAK,qAJ,qAD,qAB,qAC,qAA,qAP,qAO,qAM,qAN,qAH,qAF,qAE,qAG,↓reduceIte]
        repeat' (first|refine yJ ?_|fail)
        have hal':(incB al3 k).getD k 0=al3.getD k 0+1:=by rw[incB_getD hkl,if_pos rfl]
        refine DS.back (H3.out.2 (incB bag3 k,incB al3 k) _ _ (by dsimp only;rw[hal',HG.out];omega) (H3.out.1.inc (by omega) (by rw[HG.out];omega)) yS yS (fun d o e=>?_))
        simp only[lookS_cons,lookS_nil,app_cons',app_nil']at e ⊢
        by_cases q0:bs=d
        ·subst q0;simp only[qAT,qAP,qAS,qAL,qAQ,qAD,qAR,qAH,↓reduceIte]at e ⊢;exact e
        by_cases q1:b9=d
        ·subst q1;simp only[qAP,qAT,qAO,qAK,qAM,qAC,qAN,qAG,↓reduceIte]at e ⊢;exact e
        by_cases q2:b8=d
        ·subst q2;simp only[qAL,qAS,qAK,qAO,qAI,qAB,qAJ,qAF,↓reduceIte]at e ⊢;exact e
        by_cases q3:b1=d
        ·subst q3;simp only[qAD,qAQ,qAC,qAM,qAB,qAI,qAA,qAE,↓reduceIte]at e ⊢;exact e
        by_cases q4:b2=d
        ·subst q4;simp only[qAH,qAR,qAG,qAN,qAF,qAJ,qAE,qAA,↓reduceIte]at e ⊢;exact e
        simp only[q0,q1,q2,q3,q4,↓reduceIte]at e
        exact absurd e (by simp)
       ·repeat' (first|refine yJT ?_|(with_reducible first|refine DD.fltS yU yU yU yE ?_|(refine DD.gE yU yE ?_;refine DGG.run ?_))|(with_reducible refine DD.nil ?_;simp only[app_cons',app_nil'])|fail)
        refine DS.back (H2.out.2 (k+1,bag3,al3) _ _ (by dsimp only;omega) ⟨by dsimp only;omega,H3.out.1⟩ yS yS (fun d o e=>?_))
        simp only[lookS_cons,lookS_nil,app_cons',app_nil']at e ⊢
        by_cases q0:bs=d
        ·subst q0;simp only[qAT,qAP,qAS,qAL,qAQ,qAD,qAR,qAH,↓reduceIte]at e ⊢;exact e
        by_cases q1:b9=d
        ·subst q1;simp only[qAP,qAT,qAO,qAK,qAM,qAC,qAN,qAG,↓reduceIte]at e ⊢;exact e
        by_cases q2:b8=d
        ·subst q2;simp only[qAL,qAS,qAK,qAO,qAI,qAB,qAJ,qAF,↓reduceIte]at e ⊢;exact e
        by_cases q3:b1=d
        ·subst q3;simp only[qAD,qAQ,qAC,qAM,qAB,qAI,qAA,qAE,↓reduceIte]at e ⊢;exact e
        by_cases q4:b2=d
        ·subst q4;simp only[qAH,qAR,qAG,qAN,qAF,qAJ,qAE,qAA,↓reduceIte]at e ⊢;exact e
        simp only[q0,q1,q2,q3,q4,↓reduceIte]at e
        exact absurd e (by simp)
      ·repeat' (first|refine yJT ?_|refine DS.drawL (id:=23) [0,1,2,3,4,5,6,7,8,9,10,11] 12 yKR mixed yP1 yP2 ?_|(with_reducible first|refine DD.fltS yU yU yU yE ?_|(refine DD.gE yU yE ?_;refine DGG.sF ?_)|refine DD.nil0 ?_)|fail)
       refine DS.back (H2.out.2 (k+1,bag3,al3) _ _ (by dsimp only;omega) ⟨by dsimp only;omega,H3.out.1⟩ yS yS (fun d o e=>e))
     ·repeat' (first|refine yJT ?_|(refine DS.store yR yE yE yE yE yU yQ ?_;simp only[yS1];try simp only[yS2,Nat.reduceEqDiff,↓reduceIte])|fail)
      have hol:bag2.length=N:=H2.out.1.len
      try (simp only[setS,delS_cons,delS_nil,app_cons',app_nil',qAS,qAQ,qAT,qAR,qAL,qAI,qAK,qAJ,qAD,qAB,qAC,qAA,qAP,qAO,qAM,qAN,qAH,qAF,qAE,qAG,↓reduceIte,List.map_cons,List.map_nil,copy_v,copy_lst,copy_own,setAll_cons,setAll_nil,set_cons',set_zero',Nat.reduceAdd,Nat.zero_add])
      refine DS.freezeC (b:=b1) (b':=b8) (i:=0) (len:=N) (cap:=N) (sz:=1) (l:=bag2.map fun x=>I x) (T:=3) (l':= [.v (.slice (some ⟨b1,0,none⟩) N N),grpsV melds]) (T':=33) qAI (by simp only[lookS_cons,qAS,qAQ,qAT,qAR,qAL,qAI,qAK,qAJ,qAD,qAB,qAC,qAA,qAP,qAO,qAM,qAN,qAH,qAF,qAE,qAG,↓reduceIte]) yR (by simp only[lookS_cons,qAS,qAQ,qAT,qAR,qAL,qAI,qAK,qAJ,qAD,qAB,qAC,qAA,qAP,qAO,qAM,qAN,qAH,qAF,qAE,qAG,↓reduceIte]) (by rw[List.length_map];omega) ⟨Nat.le_refl _,hNm⟩ ?_
      have hch:=chunk_objJ bag2 []
      rw[hol,List.append_nil]at hch
      rw[hch]
      simp only[set_zero',setS,delS_cons,delS_nil,qAS,qAQ,qAT,qAR,qAL,qAI,qAK,qAJ,qAD,qAB,qAC,qAA,qAP,qAO,qAM,qAN,qAH,qAF,qAE,qAG,↓reduceIte]
      refine DS.retW [(bs,srcO z)] (by(simp (disch:=omega) only[go_sem,dopV,yV0,↓reduceIte,Nat.reduceEqDiff,Nat.reduceLT,Nat.reduceLeDiff,Nat.reduceAdd,Nat.reduceMul,Nat.reduceSub,Int.reduceToNat,Int.reduceLT,Int.reduceLE,Int.reduceEq,IntWalk.toNatUp,IntWalk.iteOmega,IntWalk.i64_in,V.flat,V.one,setS,setAll,qAS,qAQ,qAT,qAR,qAL,qAI,qAK,qAJ,qAD,qAB,qAC,qAA,qAP,qAO,qAM,qAN,qAH,qAF,qAE,qAG];exact rfl)) (fun b o e=>?_) ?_
      ·simp only[lookS_cons,lookS_nil]at e ⊢
       split at e
       ·rename_i hb;subst hb;simp only[qAS,qAQ,qAT,qAR,qAL,qAI,qAK,qAJ,qAD,qAB,qAC,qAA,qAP,qAO,qAM,qAN,qAH,qAF,qAE,qAG,↓reduceIte];exact e
       ·cases e
      ·exact⟨⟨⟨bag2,melds⟩,rfl,⟨H2.out.1.bag.mono (by omega),hml,HF.out.2⟩⟩,z,rfl⟩
    ·repeat' (first|refine yJT ?_|refine DS.pcS inferInstance (hp) yR yT ?_|(refine DS.store yR yE yE yE yE yU yQ ?_;simp only[yS1];try simp only[yS2,Nat.reduceEqDiff,↓reduceIte])|fail)
     have hol:bag2.length=N:=H2.out.1.len
     try (simp only[setS,delS_cons,delS_nil,app_cons',app_nil',qAS,qAQ,qAT,qAR,qAL,qAI,qAK,qAJ,qAD,qAB,qAC,qAA,qAP,qAO,qAM,qAN,qAH,qAF,qAE,qAG,↓reduceIte,List.map_cons,List.map_nil,copy_v,copy_lst,copy_own,setAll_cons,setAll_nil,set_cons',set_zero',Nat.reduceAdd,Nat.zero_add])
     refine DS.freezeC (b:=b1) (b':=b8) (i:=0) (len:=N) (cap:=N) (sz:=1) (l:=bag2.map fun x=>I x) (T:=3) (l':= [.v (.slice (some ⟨b1,0,none⟩) N N),grpsV melds]) (T':=33) qAI (by simp only[lookS_cons,qAS,qAQ,qAT,qAR,qAL,qAI,qAK,qAJ,qAD,qAB,qAC,qAA,qAP,qAO,qAM,qAN,qAH,qAF,qAE,qAG,↓reduceIte]) yR (by simp only[lookS_cons,qAS,qAQ,qAT,qAR,qAL,qAI,qAK,qAJ,qAD,qAB,qAC,qAA,qAP,qAO,qAM,qAN,qAH,qAF,qAE,qAG,↓reduceIte]) (by rw[List.length_map];omega) ⟨Nat.le_refl _,hNm⟩ ?_
     have hch:=chunk_objJ bag2 []
     rw[hol,List.append_nil]at hch
     rw[hch]
     simp only[set_zero',setS,delS_cons,delS_nil,qAS,qAQ,qAT,qAR,qAL,qAI,qAK,qAJ,qAD,qAB,qAC,qAA,qAP,qAO,qAM,qAN,qAH,qAF,qAE,qAG,↓reduceIte]
     refine DS.retW [(bs,srcO z)] (by(simp (disch:=omega) only[go_sem,dopV,yV0,↓reduceIte,Nat.reduceEqDiff,Nat.reduceLT,Nat.reduceLeDiff,Nat.reduceAdd,Nat.reduceMul,Nat.reduceSub,Int.reduceToNat,Int.reduceLT,Int.reduceLE,Int.reduceEq,IntWalk.toNatUp,IntWalk.iteOmega,IntWalk.i64_in,V.flat,V.one,setS,setAll,qAS,qAQ,qAT,qAR,qAL,qAI,qAK,qAJ,qAD,qAB,qAC,qAA,qAP,qAO,qAM,qAN,qAH,qAF,qAE,qAG];exact rfl)) (fun b o e=>?_) ?_
     ·simp only[lookS_cons,lookS_nil]at e ⊢
      split at e
      ·rename_i hb;subst hb;simp only[qAS,qAQ,qAT,qAR,qAL,qAI,qAK,qAJ,qAD,qAB,qAC,qAA,qAP,qAO,qAM,qAN,qAH,qAF,qAE,qAG,↓reduceIte];exact e
      ·cases e
     ·exact⟨⟨⟨bag2,melds⟩,rfl,⟨H2.out.1.bag.mono (by omega),hml,HF.out.2⟩⟩,z,rfl⟩
  ·repeat' (first|refine yJT ?_|fail)
   refine DS.loopS [5,8,9,10,12] yN (fun(y:Nat×List Int×List Int)=> [(16,I y.1)]) (fun(y:Nat×List Int×List Int)=> [(bs,srcO z),(b9,Ob.cells [.v (.slice (some ⟨b1,0,none⟩) N N),grpsV melds] 33),(b8,Ob.cells [.v (.slice none 0 0), .v (.slice none 0 0)] 33),(b1,Ob.cells (y.2.1.map fun x=>I x) 3),(b2,Ob.cells (y.2.2.map fun x=>I x) 3)]) (fun(y:Nat×List Int×List Int)=>y.1≤N∧Within N 16 y.2.1 y.2.2) (fun(y:Nat×List Int×List Int)=>N-y.1) (0,bag,al) yS (fun b o e=>by exact e) ⟨Nat.zero_le _,H.out.1⟩ (fun y B hI hB=>?_);try dsimp only at hI hB;simp only[app_cons',app_nil']
   obtain⟨k,bag2,al2⟩:=y
   dsimp only at hI hB ⊢
   obtain⟨j1,j2⟩:=hI
   have H2:=Box.mk (And.intro j2 hB)
   clear j2 hB
   by_cases hk:(k:Int)<(N:Int)
   ·repeat' (first|refine yJT ?_|refine DS.pcS inferInstance (hp) yR yT ?_|fail)
    refine DS.totK (b:=b1) (cap:=N) (m:=N) (c:=16) (L:=bag2) H2.out.1.bag (by omega) (by omega) yR yH (by simp only[lookS_cons,qAS,qAQ,qAT,qAR,qAL,qAI,qAK,qAJ,qAD,qAB,qAC,qAA,qAP,qAO,qAM,qAN,qAH,qAF,qAE,qAG,↓reduceIte]) ?_
    by_cases hs2:sumI bag2<nn
    ·repeat' (first|refine yJT ?_|fail)
     refine DS.loopS [5,8,9,10,12,16] yN (fun(y:List Int×List Int)=> []) (fun(y:List Int×List Int)=> [(bs,srcO z),(b9,Ob.cells [.v (.slice (some ⟨b1,0,none⟩) N N),grpsV melds] 33),(b8,Ob.cells [.v (.slice none 0 0), .v (.slice none 0 0)] 33),(b1,Ob.cells (y.1.map fun x=>I x) 3),(b2,Ob.cells (y.2.map fun x=>I x) 3)]) (fun(y:List Int×List Int)=>Within N 16 y.1 y.2) (fun(y:List Int×List Int)=>(s.copies-y.2.getD k 0).toNat) (bag2,al2) yS (fun b o e=>by exact e) H2.out.1 (fun y B hI hB=>?_);try dsimp only at hI hB;simp only[app_cons',app_nil']
     obtain⟨bag3,al3⟩:=y
     dsimp only at hI hB ⊢
     have H3:=Box.mk (And.intro hI hB)
     have hkl:k<al3.length:=by rw[hI.abag.len];omega
     have hmk:=hI.abag.get hkl
     have hgk:al3.getD k 0=al3[k]:=by rw[List.getD_eq_getElem?_getD,List.getElem?_eq_getElem hkl];rfl
     have hbl:=hI.len
     have htot:=kitTotalO_dc b1 N bag3 (fun z hz=>by have:=hI.bag.bd z hz;omega) (by omega)
     rw[hbl]at htot
     have HG:=Box.mk hgk
     clear hI hB hgk hbl
     by_cases hck:al3[k]<s.copies
     ·repeat' (first|refine yJ ?_|fail)
      refine DS.drawLS (id:=23) ([(bs,srcO z),(b9,Ob.cells [.v (.slice (some ⟨b1,0,none⟩) N N),grpsV melds] 33),(b8,Ob.cells [.v (.slice none 0 0), .v (.slice none 0 0)] 33),(b2,Ob.cells (al3.map fun x=>I x) 3)]) ([(b1,Ob.cells (bag3.map fun x=>I x) 3)]) [0,1,2,3,4,5,6,7,8,9,10,11] 12 yKR mixed yP1 yP2 ((fun d o e=>?_)) ((fun d o e=>?_)) ?_
      ·simp only[lookS_cons,lookS_nil]at e ⊢
       by_cases q0:bs=d
       ·subst q0;simp only[qAS,qAQ,qAT,qAR,qAL,qAI,qAK,qAJ,qAD,qAB,qAC,qAA,qAP,qAO,qAM,qAN,qAH,qAF,qAE,qAG,↓reduceIte]at e ⊢;exact⟨e,trivial⟩
       by_cases q1:b9=d
       ·subst q1;simp only[qAS,qAQ,qAT,qAR,qAL,qAI,qAK,qAJ,qAD,qAB,qAC,qAA,qAP,qAO,qAM,qAN,qAH,qAF,qAE,qAG,↓reduceIte]at e ⊢;exact⟨e,trivial⟩
       by_cases q2:b8=d
       ·subst q2;simp only[qAS,qAQ,qAT,qAR,qAL,qAI,qAK,qAJ,qAD,qAB,qAC,qAA,qAP,qAO,qAM,qAN,qAH,qAF,qAE,qAG,↓reduceIte]at e ⊢;exact⟨e,trivial⟩
       by_cases q3:b2=d
       ·subst q3;simp only[qAS,qAQ,qAT,qAR,qAL,qAI,qAK,qAJ,qAD,qAB,qAC,qAA,qAP,qAO,qAM,qAN,qAH,qAF,qAE,qAG,↓reduceIte]at e ⊢;exact⟨e,trivial⟩
       simp only[q0,q1,q2,q3,↓reduceIte]at e
       exact absurd e (by simp)
      ·simp only[lookS_cons,lookS_nil]at e ⊢
       by_cases q:b1=d
       ·subst q;simp only[qAS,qAQ,qAT,qAR,qAL,qAI,qAK,qAJ,qAD,qAB,qAC,qAA,qAP,qAO,qAM,qAN,qAH,qAF,qAE,qAG,↓reduceIte]at e ⊢;exact e
       simp only[q,↓reduceIte]at e
       exact absurd e (by simp)
      repeat' (first|(with_reducible first|refine DD.fltS yU yU yU yE ?_|(refine DD.gE yU yE ?_;refine DGG.run ?_))|fail)
      refine DD.call (dst:=some 119) [(b1,Ob.cells (bag3.map fun x=>I x) 3)] [] inferInstance htot yR yH (fun _ _ e=>e) (fun _ _ e=>by cases e) (fun _=>MpOk.nil) ?_
      simp only[putV_some,delO_some,delV_cons',delV_nil',Nat.reduceEqDiff,↓reduceIte,app_cons',app_nil']
      by_cases hs3:sumI bag3<nn
      ·repeat' (first|refine yJT ?_|(refine DS.bsl yU yE yE ?_;simp only[go_sem,Nat.zero_add,Nat.reduceAdd])|(with_reducible first|refine DD.fltS yU yU yU yE ?_|(refine DD.gE yU yE ?_;refine DGG.run ?_))|(with_reducible refine DD.nil ?_;simp only[app_cons',app_nil'])|fail)
       try (simp only[setS,delS_cons,delS_nil,app_cons',app_nil',qAS,qAQ,qAT,qAR,qAL,qAI,qAK,qAJ,qAD,qAB,qAC,qAA,qAP,qAO,qAM,qAN,qAH,qAF,qAE,qAG,↓reduceIte,List.map_cons,List.map_nil,copy_v,copy_lst,copy_own,setAll_cons,setAll_nil,set_cons',set_zero',Nat.reduceAdd,Nat.zero_add])
       refine DS.putK (b:=b2) (cap:=N) (m:=N) (c:=16) (L:=al3) (ks:= [(k:Int)]) H3.out.1.abag (HK k (by omega)) (by omega) (by omega) (by simp) yR yH (by simp only[lookS_cons,qAS,qAQ,qAT,qAR,qAL,qAI,qAK,qAJ,qAD,qAB,qAC,qAA,qAP,qAO,qAM,qAN,qAH,qAF,qAE,qAG,↓reduceIte]) ?_
       simp only[delS_cons,delS_nil,qAS,qAQ,qAT,qAR,qAL,qAI,qAK,qAJ,qAD,qAB,qAC,qAA,qAP,qAO,qAM,qAN,qAH,qAF,qAE,qAG,↓reduceIte]
       repeat' (first|refine yJ ?_|(refine DS.bsl yU yE yE ?_;simp only[go_sem,Nat.zero_add,Nat.reduceAdd])|fail)
       refine DS.putK (b:=b1) (cap:=N) (m:=N) (c:=16) (L:=bag3) (ks:= [(k:Int)]) H3.out.1.bag (HK k (by omega)) (by omega) (by omega) (by simp) yR yH (by simp only[lookS_cons,qAS,qAQ,qAT,qAR,qAL,qAI,qAK,qAJ,qAD,qAB,qAC,qAA,qAP,qAO,qAM,qAN,qAH,qAF,qAE,qAG,↓reduceIte]) ?_
       simp only[delS_cons,delS_nil,qAS,qAQ,qAT,qAR,qAL,qAI,qAK,qAJ,qAD,qAB,qAC,qAA,qAP,qAO,qAM,qAN,qAH,qAF,qAE,qAG,↓reduceIte]
       repeat' (first|refine yJ ?_|fail)
       have hal':(incB al3 k).getD k 0=al3.getD k 0+1:=by rw[incB_getD hkl,if_pos rfl]
       refine DS.back (H3.out.2 (incB bag3 k,incB al3 k) _ _ (by dsimp only;rw[hal',HG.out];omega) (H3.out.1.inc (by omega) (by rw[HG.out];omega)) yS yS (fun d o e=>?_))
       simp only[lookS_cons,lookS_nil,app_cons',app_nil']at e ⊢
       by_cases q0:bs=d
       ·subst q0;simp only[qAT,qAP,qAS,qAL,qAQ,qAD,qAR,qAH,↓reduceIte]at e ⊢;exact e
       by_cases q1:b9=d
       ·subst q1;simp only[qAP,qAT,qAO,qAK,qAM,qAC,qAN,qAG,↓reduceIte]at e ⊢;exact e
       by_cases q2:b8=d
       ·subst q2;simp only[qAL,qAS,qAK,qAO,qAI,qAB,qAJ,qAF,↓reduceIte]at e ⊢;exact e
       by_cases q3:b1=d
       ·subst q3;simp only[qAD,qAQ,qAC,qAM,qAB,qAI,qAA,qAE,↓reduceIte]at e ⊢;exact e
       by_cases q4:b2=d
       ·subst q4;simp only[qAH,qAR,qAG,qAN,qAF,qAJ,qAE,qAA,↓reduceIte]at e ⊢;exact e
       simp only[q0,q1,q2,q3,q4,↓reduceIte]at e
       exact absurd e (by simp)
      ·repeat' (first|refine yJT ?_|(with_reducible first|refine DD.fltS yU yU yU yE ?_|(refine DD.gE yU yE ?_;refine DGG.run ?_))|(with_reducible refine DD.nil ?_;simp only[app_cons',app_nil'])|fail)
       refine DS.back (H2.out.2 (k+1,bag3,al3) _ _ (by dsimp only;omega) ⟨by dsimp only;omega,H3.out.1⟩ yS yS (fun d o e=>?_))
       simp only[lookS_cons,lookS_nil,app_cons',app_nil']at e ⊢
       by_cases q0:bs=d
       ·subst q0;simp only[qAT,qAP,qAS,qAL,qAQ,qAD,qAR,qAH,↓reduceIte]at e ⊢;exact e
       by_cases q1:b9=d
       ·subst q1;simp only[qAP,qAT,qAO,qAK,qAM,qAC,qAN,qAG,↓reduceIte]at e ⊢;exact e
       by_cases q2:b8=d
       ·subst q2;simp only[qAL,qAS,qAK,qAO,qAI,qAB,qAJ,qAF,↓reduceIte]at e ⊢;exact e
       by_cases q3:b1=d
       ·subst q3;simp only[qAD,qAQ,qAC,qAM,qAB,qAI,qAA,qAE,↓reduceIte]at e ⊢;exact e
       by_cases q4:b2=d
       ·subst q4;simp only[qAH,qAR,qAG,qAN,qAF,qAJ,qAE,qAA,↓reduceIte]at e ⊢;exact e
       simp only[q0,q1,q2,q3,q4,↓reduceIte]at e
       exact absurd e (by simp)
     ·repeat' (first|refine yJT ?_|refine DS.drawL (id:=23) [0,1,2,3,4,5,6,7,8,9,10,11] 12 yKR mixed yP1 yP2 ?_|(with_reducible first|refine DD.fltS yU yU yU yE ?_|(refine DD.gE yU yE ?_;refine DGG.sF ?_)|refine DD.nil0 ?_)|fail)
      refine DS.back (H2.out.2 (k+1,bag3,al3) _ _ (by dsimp only;omega) ⟨by dsimp only;omega,H3.out.1⟩ yS yS (fun d o e=>e))
    ·repeat' (first|refine yJT ?_|(refine DS.store yR yE yE yE yE yU yQ ?_;simp only[yS1];try simp only[yS2,Nat.reduceEqDiff,↓reduceIte])|fail)
     have hol:bag2.length=N:=H2.out.1.len
     try (simp only[setS,delS_cons,delS_nil,app_cons',app_nil',qAS,qAQ,qAT,qAR,qAL,qAI,qAK,qAJ,qAD,qAB,qAC,qAA,qAP,qAO,qAM,qAN,qAH,qAF,qAE,qAG,↓reduceIte,List.map_cons,List.map_nil,copy_v,copy_lst,copy_own,setAll_cons,setAll_nil,set_cons',set_zero',Nat.reduceAdd,Nat.zero_add])
     refine DS.freezeC (b:=b1) (b':=b8) (i:=0) (len:=N) (cap:=N) (sz:=1) (l:=bag2.map fun x=>I x) (T:=3) (l':= [.v (.slice (some ⟨b1,0,none⟩) N N),grpsV melds]) (T':=33) qAI (by simp only[lookS_cons,qAS,qAQ,qAT,qAR,qAL,qAI,qAK,qAJ,qAD,qAB,qAC,qAA,qAP,qAO,qAM,qAN,qAH,qAF,qAE,qAG,↓reduceIte]) yR (by simp only[lookS_cons,qAS,qAQ,qAT,qAR,qAL,qAI,qAK,qAJ,qAD,qAB,qAC,qAA,qAP,qAO,qAM,qAN,qAH,qAF,qAE,qAG,↓reduceIte]) (by rw[List.length_map];omega) ⟨Nat.le_refl _,hNm⟩ ?_
     have hch:=chunk_objJ bag2 []
     rw[hol,List.append_nil]at hch
     rw[hch]
     simp only[set_zero',setS,delS_cons,delS_nil,qAS,qAQ,qAT,qAR,qAL,qAI,qAK,qAJ,qAD,qAB,qAC,qAA,qAP,qAO,qAM,qAN,qAH,qAF,qAE,qAG,↓reduceIte]
     refine DS.retW [(bs,srcO z)] (by(simp (disch:=omega) only[go_sem,dopV,yV0,↓reduceIte,Nat.reduceEqDiff,Nat.reduceLT,Nat.reduceLeDiff,Nat.reduceAdd,Nat.reduceMul,Nat.reduceSub,Int.reduceToNat,Int.reduceLT,Int.reduceLE,Int.reduceEq,IntWalk.toNatUp,IntWalk.iteOmega,IntWalk.i64_in,V.flat,V.one,setS,setAll,qAS,qAQ,qAT,qAR,qAL,qAI,qAK,qAJ,qAD,qAB,qAC,qAA,qAP,qAO,qAM,qAN,qAH,qAF,qAE,qAG];exact rfl)) (fun b o e=>?_) ?_
     ·simp only[lookS_cons,lookS_nil]at e ⊢
      split at e
      ·rename_i hb;subst hb;simp only[qAS,qAQ,qAT,qAR,qAL,qAI,qAK,qAJ,qAD,qAB,qAC,qAA,qAP,qAO,qAM,qAN,qAH,qAF,qAE,qAG,↓reduceIte];exact e
      ·cases e
     ·exact⟨⟨⟨bag2,melds⟩,rfl,⟨H2.out.1.bag.mono (by omega),hml,HF.out.2⟩⟩,z,rfl⟩
   ·repeat' (first|refine yJT ?_|refine DS.pcS inferInstance (hp) yR yT ?_|(refine DS.store yR yE yE yE yE yU yQ ?_;simp only[yS1];try simp only[yS2,Nat.reduceEqDiff,↓reduceIte])|fail)
    have hol:bag2.length=N:=H2.out.1.len
    try (simp only[setS,delS_cons,delS_nil,app_cons',app_nil',qAS,qAQ,qAT,qAR,qAL,qAI,qAK,qAJ,qAD,qAB,qAC,qAA,qAP,qAO,qAM,qAN,qAH,qAF,qAE,qAG,↓reduceIte,List.map_cons,List.map_nil,copy_v,copy_lst,copy_own,setAll_cons,setAll_nil,set_cons',set_zero',Nat.reduceAdd,Nat.zero_add])
    refine DS.freezeC (b:=b1) (b':=b8) (i:=0) (len:=N) (cap:=N) (sz:=1) (l:=bag2.map fun x=>I x) (T:=3) (l':= [.v (.slice (some ⟨b1,0,none⟩) N N),grpsV melds]) (T':=33) qAI (by simp only[lookS_cons,qAS,qAQ,qAT,qAR,qAL,qAI,qAK,qAJ,qAD,qAB,qAC,qAA,qAP,qAO,qAM,qAN,qAH,qAF,qAE,qAG,↓reduceIte]) yR (by simp only[lookS_cons,qAS,qAQ,qAT,qAR,qAL,qAI,qAK,qAJ,qAD,qAB,qAC,qAA,qAP,qAO,qAM,qAN,qAH,qAF,qAE,qAG,↓reduceIte]) (by rw[List.length_map];omega) ⟨Nat.le_refl _,hNm⟩ ?_
    have hch:=chunk_objJ bag2 []
    rw[hol,List.append_nil]at hch
    rw[hch]
    simp only[set_zero',setS,delS_cons,delS_nil,qAS,qAQ,qAT,qAR,qAL,qAI,qAK,qAJ,qAD,qAB,qAC,qAA,qAP,qAO,qAM,qAN,qAH,qAF,qAE,qAG,↓reduceIte]
    refine DS.retW [(bs,srcO z)] (by(simp (disch:=omega) only[go_sem,dopV,yV0,↓reduceIte,Nat.reduceEqDiff,Nat.reduceLT,Nat.reduceLeDiff,Nat.reduceAdd,Nat.reduceMul,Nat.reduceSub,Int.reduceToNat,Int.reduceLT,Int.reduceLE,Int.reduceEq,IntWalk.toNatUp,IntWalk.iteOmega,IntWalk.i64_in,V.flat,V.one,setS,setAll,qAS,qAQ,qAT,qAR,qAL,qAI,qAK,qAJ,qAD,qAB,qAC,qAA,qAP,qAO,qAM,qAN,qAH,qAF,qAE,qAG];exact rfl)) (fun b o e=>?_) ?_
    ·simp only[lookS_cons,lookS_nil]at e ⊢
     split at e
     ·rename_i hb;subst hb;simp only[qAS,qAQ,qAT,qAR,qAL,qAI,qAK,qAJ,qAD,qAB,qAC,qAA,qAP,qAO,qAM,qAN,qAH,qAF,qAE,qAG,↓reduceIte];exact e
     ·cases e
    ·exact⟨⟨⟨bag2,melds⟩,rfl,⟨H2.out.1.bag.mono (by omega),hml,HF.out.2⟩⟩,z,rfl⟩
end Go.XL
namespace Go.XL
open Go.Proofs
open Classical in
theorem DS.ownI2 {P:Program} {n:Nat} {r:Rr} {Q:VEnv→Sto→Prop} {k:List Fr} {E:VEnv} {S:Sto} {t u b cap T:Nat} {l:List Int} {j:List V} (hE:lookV E t=some (.v (.slice (some ⟨b,0,none⟩) l.length cap))) (hU:lookV E u=some (.v (.slice (some ⟨b,0,none⟩) l.length cap))) (hS:lookS S b=some (.cells ((l.map fun x=>I x)++j) T)) (hc:l.length≤cap∧cap≤maxLen) (hj:l.length+j.length=cap)
  (q:DS P n r Q k ((t, .own false T 1 (l.map cI))::(u, .lst (l.map cI))::E) (delS b S)):DS P n r Q k E S:=fun K W a w ⟨K',D,hv,hold,env,hb,ha,s⟩ hw=>by
 obtain⟨o1,o2,cs,o3,o4,o5,o6⟩:=s.obj b _ hS
 have hcl:=o4.length
 simp only[List.length_append,List.length_map]at hcl
 have hpre:PreV hv (addB hv b (.cells (cs.take l.length).toArray T (0,0))):=addB_pre (.inl o2)
 obtain⟨y,e1,e2,_⟩:=s.slot t _ hE
 simp only[V.Rl]at e2;subst e2
 have hC:RlC (addB hv b (.cells (cs.take l.length).toArray T (0,0))) (some ⟨b,0,none⟩) 0 (((l.map fun x=>I x)).map V.peek):=by
  have h1:=o4.take l.length
  rw[List.take_left' (by simp)]at h1
  exact RlC_blk (T:=T) (f:=(0,0)) (cs:=cs.take l.length) (i:=0) ⟨#[],by simp[addB]⟩ rfl (RlL_peek (RlL_mono hpre _ _ h1)) (fun u hu=>o5 u (List.mem_of_mem_take hu))
 have hrd:RlE (addB hv b (.cells (cs.take l.length).toArray T (0,0))) (some ⟨b,0,none⟩) 0 (l.map cI):=RlE.of_flat (by
  rw[ints_flatI]
  have e:((l.map fun x=>I x)).map V.peek=l.map I:=by rw[List.map_map];rfl
  rw[e]at hC
  exact hC)
 refine q K W a w ⟨K',D,addB hv b (.cells (cs.take l.length).toArray T (0,0)),fun g=>if g=b then some (.slot t)else hold g,env,hb,ha,⟨addB_Pre s.pre o3 ⟨(cs.drop l.length).toArray,by rw[List.append_toArray,List.take_append_drop]⟩,fun u' v e=>?_,fun b' o e=>?_,fun g x e=>?_,s.base,s.vbase.1.trans hpre,fun j' hj'=>?_⟩⟩ hw
 ·simp only[lookV]at e
  by_cases hu:t=u'
  ·subst hu
   simp only[if_true,Option.some.injEq]at e;subst e
   refine⟨_,e1,?_,?_⟩
   ·simp only[V.Rl]
    exact⟨some ⟨b,0,none⟩,cap,1,by rw[List.length_map],by rw[List.length_map];exact hc.1,hc.2,(fun c hc=>by obtain⟨z,-,rfl⟩:=List.mem_map.1 hc;rfl),hrd⟩
   ·refine .inr ⟨b,cap,cs.toArray,(cs.take l.length).toArray,by rw[List.length_map],by simp,o3,by rw[List.length_map];exact hc.1,hc.2,by simp;omega,by rw[addB_self],by simp;omega,(fun c hc=>by obtain⟨z,-,rfl⟩:=List.mem_map.1 hc;rfl)⟩
  ·rw[if_neg hu]at e
   by_cases hu2:u'=u
   ·subst hu2
    rw[if_pos rfl]at e
    simp only[Option.some.injEq]at e;subst e
    obtain⟨z,h1,h2,h3⟩:=s.slot u' _ hU
    simp only[V.Rl]at h2;subst h2
    refine⟨_,h1,?_,trivial⟩
    simp only[V.Rl]
    exact⟨some ⟨b,0,none⟩,cap,1,by rw[List.length_map],by rw[List.length_map];exact hc.1,hc.2,(fun c hc=>by obtain⟨z,-,rfl⟩:=List.mem_map.1 hc;rfl),hrd⟩
   rw[if_neg (fun h=>hu2 h.symm)]at e
   obtain⟨z,h1,h2,h3⟩:=s.slot u' v e
   refine⟨z,h1,V.Rl_mono hpre v z h2,h3.keep fun g ob a1 a2 a3=>?_⟩
   have hne:g≠b:=fun e=>by subst e;rw[o2]at a2;cases a2
   exact⟨rfl,addB_ne _ hne,by simp[hne,a1]⟩
 ·rw[lookS_del]at e
  split at e
  ·cases e
  ·rename_i hb'
   obtain⟨r1,r2,r3⟩:=s.obj b' o e
   refine⟨r1,by rw[addB_ne _ hb'];exact r2,Ob.keep r3 hpre rfl fun g i ob a1 a2 a3=>?_⟩
   have hne:g≠b:=fun e=>by subst e;rw[o2]at a2;cases a2
   exact⟨rfl,addB_ne _ hne,by simp[hne,a1]⟩
 ·have e':(if g=b then some (Hd.slot t)else hold g)=some x:=e
  split at e'
  ·rename_i h;subst h;exact o1
  ·exact s.held g x e'
 ·have hne:j'≠b:=fun e=>by subst e;exact o1 hj'
  rw[addB_ne _ hne];exact s.vbase.2 j' hj'
end Go.XL
