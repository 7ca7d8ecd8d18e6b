/- A part of a program logic over the kit's walk rules, and contracts of functions in it. Conditions: as each theorem says. -/
import Derived.Test.YtbbhoipphnbdiaaGreatDoorB5
import Derived.Shelf.Spec.TrailingZeros
import Derived.Lib.AppendZeros
set_option linter.all false
namespace Go.XL
open Go.Proofs
set_option maxRecDepth 100000
set_option maxHeartbeats 8000000
structure Within (n:Nat) (c:Int) (bag al:List Int):Prop where
 abag:Bag n c al
 len:bag.length=n
 le: ∀(i:Nat),i<n→0≤bag.getD i 0∧bag.getD i 0≤al.getD i 0
theorem Within.bag {n:Nat} {c:Int} {bag al:List Int} (h:Within n c bag al):Bag n c bag:=⟨h.len,fun x hx=>by
 obtain⟨i,hi,rfl⟩:=List.getElem_of_mem hx
 have h1:=h.le i (by rw[←h.len];exact hi)
 have h2:i<al.length:=by rw[h.abag.len,←h.len];exact hi
 have h3:=h.abag.get h2
 rw[List.getD_eq_getElem?_getD,List.getElem?_eq_getElem hi,List.getD_eq_getElem?_getD,List.getElem?_eq_getElem h2]at h1
 simp only[Option.getD_some]at h1
 omega⟩
theorem zjr {l:List Int} {k i:Nat} (hk:k<l.length):(incB l k).getD i 0=if k=i then l.getD i 0+1 else l.getD i 0:=by
 rw[zos (by simpa using hk)]
 simp only[Int.toNat_natCast]
 rw[List.getD_eq_getElem?_getD,List.getElem?_set,List.getD_eq_getElem?_getD]
 by_cases h:k=i
 ·subst h;rw[if_pos rfl,if_pos rfl,if_pos hk,List.getElem?_eq_getElem hk];rfl
 ·rw[if_neg h,if_neg h]
theorem Within.inc {n:Nat} {c:Int} {bag al:List Int} (h:Within n c bag al) {k:Nat} (hk:k<n) (hl:al.getD k 0<c):Within n c (incB bag k) (incB al k):=by
 have e1:=h.abag.len
 have e2:=h.len
 refine⟨⟨by rw[zno];exact e1,fun x hx=>?_⟩,by rw[zno];exact e2,fun i hi=>?_⟩
 ·obtain⟨i,hi,rfl⟩:=List.getElem_of_mem hx
  have h3:=zjr (l:=al) (k:=k) (i:=i) (by omega)
  rw[zno]at hi
  have h4:=h.abag.get hi
  rw[List.getD_eq_getElem?_getD,List.getElem?_eq_getElem (by rw[zno];exact hi)]at h3
  simp only[Option.getD_some]at h3
  rw[h3]
  have h5:al.getD i 0=al[i]:=by rw[List.getD_eq_getElem?_getD,List.getElem?_eq_getElem hi];rfl
  rw[h5]at h3 ⊢
  by_cases e:k=i
  ·subst e;rw[if_pos rfl];rw[h5]at hl;omega
  ·rw[if_neg e];omega
 ·have h1:=h.le i hi
  rw[zjr (by omega),zjr (by omega)]
  split <;> omega
theorem Within.zero (n:Nat) {c:Int} {al:List Int} (h:Bag n c al):Within n c (List.replicate n 0) al:=⟨h,List.length_replicate,fun i hi=>by
 have h1:i<al.length:=by rw[h.len];exact hi
 have h2:=h.get h1
 rw[List.getD_eq_getElem?_getD,List.getElem?_replicate,if_pos hi,List.getD_eq_getElem?_getD,List.getElem?_eq_getElem h1]
 simp only[Option.getD_some]
 omega⟩
section
variable {P:Program} {n:Nat} {r:Rr} {Q:VEnv→Sto→Prop} {k:List Fr} {E:VEnv} {S:Sto} {ops l:List Oper} {ty:TypeId} {pos:String} {af:Array Edge} {ts:Array TypeId}
theorem zxc {t b cap m:Nat} {c:Int} {L:List Int} {xs:Array Operand} (hl:Bag m c L) (hc:0≤c∧c≤1000000) (hm:m≤1000) (hd:decide (t<n)=true)
  (he:(evsV (evV E) xs.toList).map (·.map V.peek)=some [.v (.slice (some ⟨b,0,none⟩) m cap)]) (hS:zae S b=some (.cells (L.map fun x=>I x) 3))
  (q:DS Tryz.prog n r Q (.ops ops l::k) ((t,I (sumI L))::E) S) :
  DS Tryz.prog n r Q (.ops ops (⟨some t, .call {callee := .value (.func 17),args:=xs,argTypes:=ts},ty,pos,af,none⟩::l)::k) E S:=by
 have hc:=zjq b cap L (fun z hz=>by have:=hl.bd z hz;omega) (by rw[hl.len];exact hm)
 rw[hl.len]at hc
 refine DS.call (dst:=some t) [(b, .cells (L.map fun x=>I x) 3)] (delS b S) inferInstance hc hd he (zig hS).1 (zig hS).2 ?_
 rintro u S' ⟨rfl,rfl⟩ -
 refine zbu (S':=S) (fun d o e=>?_) q
 simp only[zae,zad,zaf]
 split
 ·rename_i h;subst h;rw[hS]at e;exact e
 ·rename_i h
  rw[zbz,if_neg (fun h'=>h h'.symm)];exact e
end
theorem yfu (bs:Nat) (x:Int) (s:GSet) (h:zbo s=0) (hd:Hnd) (hh:HandIn s.plain.toNat hd):QC Tryz.prog 74 [ptr bs,s.val,hd.val,Bo true] bs x (fun u=> ∃hd2:Hnd,u=hd2.val∧HandIn s.plain.toNat hd2):=by
 have ok:=zcb h
 have hp:=zda s ok.few
 have hpl:=ok.plain
 have hme:=ok.melds
 have hco:=ok.copies
 have htl:=fun g hk=>zsw s h g hk
 obtain⟨N,hN⟩: ∃N:Nat,s.plain=N:=⟨s.plain.toNat,by omega⟩
 rw[hN]at hp hpl htl hh ⊢
 simp only[Int.toNat_natCast]at htl hh ⊢
 have hNm:N≤maxLen:=Nat.le_trans (show N≤34 by omega) (by decide)
 have hN34:N≤34:=by omega
 obtain⟨obag,melds⟩:=hd
 have hml:=hh.melds
 have hmk:=hh.kinds
 dsimp only at hml hmk
 have HF:=Box.mk (And.intro htl hmk)
 clear htl hmk hh ok h hN
 unfold QC
 refine DC.of_run Tryz.func74 rfl Tryz.ntmps74 Tryz.results74 (by simp) (fun _ _=>?_);simp only[zag,zaj,go_sem,Nat.zero_add,Nat.reduceAdd]
 repeat' (first|refine yJ ?_|(refine zao (t:=5) yU yE yU ?_;simp only[yS3])|(refine zao (t:=6) yU yE yU ?_;simp only[yS3])|fail)
 refine zbd yR yU yU (fun b8 h8=>?_)
 have q:=zja h8
 try (simp only[List.map_cons,List.map_nil,List.mem_cons,List.not_mem_nil,or_false,not_or]at q)
 have p0:=q
 have qAL: ¬b8=bs:=p0
 have qAS: ¬bs=b8:=fun e=>p0 e.symm
 clear h8 p0
 have hz:(Value.agg #[Value.slice none 0 0,Value.slice none 0 0]).cells.toList.map V.v= [.v (.slice none 0 0), .v (.slice none 0 0)]:=rfl
 rw[hz]
 repeat' (first|refine yJ ?_|fail)
 refine zbx (id:=1) ([(b8, .cells [.v (.slice none 0 0), .v (.slice none 0 0)] 41),(bs,srcO x)]) ([]) [0,1,4,5,3,6,2,7,8] 9 yKR mixed yP1 yP2 ((fun d o e=>⟨e,rfl⟩)) ((fun d o e=>by cases e)) ?_
 repeat' (first|with_reducible refine zau yU yU yU yX0 ?_|refine zdf inferInstance (hp) yU yX6 ?_|(refine zfx yU yX0 yX0 ?_;simp only[go_sem,Nat.zero_add,Nat.reduceAdd];simp only[zas,zat,Nat.reduceEqDiff,↓reduceIte])|(refine DD.append (mm:=false) yU yX0 yX0 yU (by decide) yX0 yO2 yX0 yX14 yLM yQ2 ?_;simp only[yS2,Nat.reduceEqDiff,↓reduceIte];simp only[zas,zat,Nat.reduceEqDiff,↓reduceIte])|fail)
 refine ytl yR yH yH yH yH yR yR ⟨by omega,by omega,by decide,by omega⟩ (fun b1 h1 h1'=>?_)
 repeat' (first|with_reducible refine zff yU yU yU yU yX0 ?_|fail)
 refine DD.alloc yR yU yU (fun b9 h9 h9'=>?_)
 rw[hz]
 simp only[Int.toNat_natCast]
 rw[zsu]
 refine yna (fun hdis=>?_)
 have qAM: ¬b9=b1:=fun e=>by subst e;simp[zae]at h9
 have qAC: ¬b1=b9:=fun e=>qAM e.symm
 have qAB: ¬b1=b8:=fun e=>by
  have q:=hdis b8 _ (by simp only[zaa,qAS,qAL,↓reduceIte];exact rfl)
  rw[←e,zaa,if_neg qAM,zaa,if_pos rfl]at q;cases q
 have qAI: ¬b8=b1:=fun e=>qAB e.symm
 have qAD: ¬b1=bs:=fun e=>by
  have q:=hdis bs _ (by simp only[zaa,qAS,qAL,↓reduceIte];exact rfl)
  rw[←e,zaa,if_neg qAM,zaa,if_pos rfl]at q;cases q
 have qAQ: ¬bs=b1:=fun e=>qAD e.symm
 have qAO: ¬b9=b8:=fun e=>by
  have q:=hdis b8 _ (by simp only[zaa,qAS,qAL,↓reduceIte];exact rfl)
  rw[←e,zaa,if_pos rfl]at q;cases q
 have qAK: ¬b8=b9:=fun e=>qAO e.symm
 have qAP: ¬b9=bs:=fun e=>by
  have q:=hdis bs _ (by simp only[zaa,qAS,qAL,↓reduceIte];exact rfl)
  rw[←e,zaa,if_pos rfl]at q;cases q
 have qAT: ¬bs=b9:=fun e=>qAP e.symm
 clear hdis h1 h1' h9 h9'
 refine DD.nil ?_
 repeat' (first|with_reducible refine zak yU yU yX0 ?_|refine yJ ?_|refine zap inferInstance (hp) yR yX6 ?_|(refine zmx yU yX0 yX0 yX0 yX0 yU yU ⟨by omega,by omega,by decide,by omega⟩ (fun _ hfr=>?_))|(refine DS.store yR yX0 yX0 yX0 yX0 yU yQ ?_;simp only[yS1];try simp only[yS2,Nat.reduceEqDiff,↓reduceIte])|fail)
 rename_i b2
 have h2:=hfr
 clear hfr
 simp only[setS,zab,zac,zad,zaf,qAS,qAQ,qAT,qAL,qAI,qAK,qAD,qAB,qAC,qAP,qAO,qAM,↓reduceIte,List.map_cons,List.map_nil,zbc,zbb,zbf,zai,zam,zaq,zal,Nat.reduceAdd,Nat.zero_add]at h2 ⊢
 have q:=zja h2
 try (simp only[List.map_cons,List.map_nil,List.mem_cons,List.not_mem_nil,or_false,not_or]at q)
 obtain⟨p0,p1,p2,p3⟩:=q
 have qAG: ¬b2=b9:=p0
 have qAN: ¬b9=b2:=fun e=>p0 e.symm
 have qAE: ¬b2=b1:=p1
 have qAA: ¬b1=b2:=fun e=>p1 e.symm
 have qAF: ¬b2=b8:=p2
 have qAJ: ¬b8=b2:=fun e=>p2 e.symm
 have qAH: ¬b2=bs:=p3
 have qAR: ¬bs=b2:=fun e=>p3 e.symm
 clear h2 p0 p1 p2 p3
 try (simp only[Int.toNat_natCast])
 rw[zsu]
 refine zbu (S':= [(bs,srcO x),(b9,Ob.cells [.v (.slice (some ⟨b1,0,none⟩) N N),zhl melds] 41),(b8,Ob.cells [.v (.slice none 0 0), .v (.slice none 0 0)] 41),(b1,Ob.cells ((List.replicate N (0:Int)).map fun x=>I x) 3),(b2,Ob.cells ((List.replicate N (0:Int)).map fun x=>I x) 3)]) (fun d o e=>?_) ?_
 simp only[zaa,zah,zad,zaf]at e ⊢
 by_cases q0:bs=d
 ·subst q0;simp only[qAT,qAP,qAS,qAL,qAQ,qAD,qAR,qAH,↓reduceIte]at e ⊢;exact e
 by_cases q1:b9=d
 ·subst q1;simp only[qAP,qAT,qAO,qAK,qAM,qAC,qAN,qAG,↓reduceIte]at e ⊢;exact e
 by_cases q2:b8=d
 ·subst q2;simp only[qAL,qAS,qAK,qAO,qAI,qAB,qAJ,qAF,↓reduceIte]at e ⊢;exact e
 by_cases q3:b1=d
 ·subst q3;simp only[qAD,qAQ,qAC,qAM,qAB,qAI,qAA,qAE,↓reduceIte]at e ⊢;exact e
 by_cases q4:b2=d
 ·subst q4;simp only[qAH,qAR,qAG,qAN,qAF,qAJ,qAE,qAA,↓reduceIte]at e ⊢;exact e
 simp only[q0,q1,q2,q3,q4,↓reduceIte]at e
 exact absurd e (by simp)
 refine zbn [0,3,5,6,8,9,10] yN (fun(y:Nat×List Int)=> [(11,I y.1)]) (fun(y:Nat×List Int)=> [(bs,srcO x),(b9,Ob.cells [.v (.slice (some ⟨b1,0,none⟩) N N),zhl melds] 41),(b8,Ob.cells [.v (.slice none 0 0), .v (.slice none 0 0)] 41),(b1,Ob.cells ((List.replicate N (0:Int)).map fun x=>I x) 3),(b2,Ob.cells (y.2.map fun x=>I x) 3)]) (fun(y:Nat×List Int)=>y.1≤melds.length∧Bag N (4*y.1) y.2) (fun(y:Nat×List Int)=>melds.length-y.1) (0,List.replicate N 0) yS (fun b o e=>by exact e) ⟨Nat.zero_le _,Bag.zero N (by dsimp only;omega)⟩ (fun y B hI hB=>?_);try dsimp only at hI hB;simp only[zad,zaf]
 obtain⟨i,al⟩:=y
 dsimp only at hI hB ⊢
 obtain⟨i1,i2⟩:=hI
 have H:=Box.mk (And.intro i2 hB)
 clear i2 hB
 by_cases hi:(i:Int)<(melds.length:Int)
 ·have hi':i<melds.length:=by omega
  have htl:=HF.out.1 _ (HF.out.2 _ (List.getElem_mem hi'))
  repeat' (first|refine yJT ?_|fail)
  refine zbx (id:=6) ([(bs,srcO x),(b9,Ob.cells [.v (.slice (some ⟨b1,0,none⟩) N N),zhl melds] 41),(b8,Ob.cells [.v (.slice none 0 0), .v (.slice none 0 0)] 41),(b1,Ob.cells ((List.replicate N (0:Int)).map fun x=>I x) 3),(b2,Ob.cells (al.map fun x=>I x) 3)]) ([]) [0,1,2,3,4,5,6,7] 8 yKR mixed yP1 yP2 ((fun d o e=>⟨e,rfl⟩)) ((fun d o e=>by cases e)) ?_
  repeat' (first|with_reducible refine zau yU yU yU yE ?_|fail)
  refine zii [] [] inferInstance htl yR yH (fun _ _ e=>by cases e) (fun _ _ e=>by cases e) (fun o ho=>by cases ho) (fun u S' hu hdis=>?_)
  obtain⟨ks,rfl,hks,hkl⟩:=hu
  refine yan (S1':= []) (fun _ _ e=>by cases e) ?_
  clear hdis htl
  refine DD.nil ?_
  simp only[zas,zat,Nat.reduceEqDiff,↓reduceIte,zad,zaf]
  skip
  refine zfw (b:=b2) (cap:=N) (m:=N) (c:=4*i) (L:=al) (ks:=ks) H.out.1 hks (by omega) (by omega) (by omega) yR yH (by simp only[zaa,qAS,qAQ,qAT,qAR,qAL,qAI,qAK,qAJ,qAD,qAB,qAC,qAA,qAP,qAO,qAM,qAN,qAH,qAF,qAE,qAG,↓reduceIte]) ?_
  simp only[zab,zac,qAS,qAQ,qAT,qAR,qAL,qAI,qAK,qAJ,qAD,qAB,qAC,qAA,qAP,qAO,qAM,qAN,qAH,qAF,qAE,qAG,↓reduceIte]
  repeat' (first|refine yJ ?_|fail)
  refine DS.back (H.out.2 (i+1,putB al ks) _ _ (by dsimp only;omega) ⟨by dsimp only;omega,(H.out.1.putB hks).mono (by dsimp only;omega)⟩ yS yS (fun d o e=>?_))
  simp only[zaa,zah,zad,zaf]at e ⊢
  by_cases q0:bs=d
  ·subst q0;simp only[qAT,qAP,qAS,qAL,qAQ,qAD,qAR,qAH,↓reduceIte]at e ⊢;exact e
  by_cases q1:b9=d
  ·subst q1;simp only[qAP,qAT,qAO,qAK,qAM,qAC,qAN,qAG,↓reduceIte]at e ⊢;exact e
  by_cases q2:b8=d
  ·subst q2;simp only[qAL,qAS,qAK,qAO,qAI,qAB,qAJ,qAF,↓reduceIte]at e ⊢;exact e
  by_cases q3:b1=d
  ·subst q3;simp only[qAD,qAQ,qAC,qAM,qAB,qAI,qAA,qAE,↓reduceIte]at e ⊢;exact e
  by_cases q4:b2=d
  ·subst q4;simp only[qAH,qAR,qAG,qAN,qAF,qAJ,qAE,qAA,↓reduceIte]at e ⊢;exact e
  simp only[q0,q1,q2,q3,q4,↓reduceIte]at e
  exact absurd e (by simp)
 ·have hb16:Bag N 16 al:=H.out.1.mono (by omega)
  have hw0:=Within.zero N hb16
  clear hb16
  have W0:=Box.mk hw0
  clear hw0 H
  have cb:=zba bs x N (by omega)
  have bb:=zaz (x:=x) (n:=(N:Int)) (by omega)
  generalize zar x N=sp at *
  generalize stepX x=y1 at *
  repeat' (first|refine yJT ?_|refine zap inferInstance (hp) yR yT ?_|(refine zaw inferInstance (cb) yR yT yT ?_;(try simp only[zab,zac,↓reduceIte, *]))|fail)
  simp only[setS,zab,zac,zad,zaf,qAS,qAQ,qAT,qAR,qAL,qAI,qAK,qAJ,qAD,qAB,qAC,qAA,qAP,qAO,qAM,qAN,qAH,qAF,qAE,qAG,↓reduceIte,List.map_cons,List.map_nil,zbc,zbb,zbf,zai,zam,zaq,zal,Nat.reduceAdd,Nat.zero_add]
  generalize 3*(s.melds-(melds.length:Int))+1+1=nn at *
  have HK: ∀k:Nat,(k:Int)<N→KindsIn N [(k:Int)]:=fun k hk q hq=>by rw[List.mem_singleton.1 hq];omega
  refine zbn [0,5,8,9,10,12,13] yN (fun(y:Nat×Int×List Int×List Int)=> [(14,I y.1)]) (fun(y:Nat×Int×List Int×List Int)=> [(bs,srcO y.2.1),(b9,Ob.cells [.v (.slice (some ⟨b1,0,none⟩) N N),zhl melds] 41),(b8,Ob.cells [.v (.slice none 0 0), .v (.slice none 0 0)] 41),(b1,Ob.cells (y.2.2.1.map fun x=>I x) 3),(b2,Ob.cells (y.2.2.2.map fun x=>I x) 3)]) (fun(y:Nat×Int×List Int×List Int)=>y.1≤400∧Within N 16 y.2.2.1 y.2.2.2) (fun(y:Nat×Int×List Int×List Int)=>400-y.1) (0,y1,List.replicate N 0,al) yS (fun b o e=>by exact e) ⟨Nat.zero_le _,W0.out⟩ (fun y B hI hB=>?_);try dsimp only at hI hB;simp only[zad,zaf]
  obtain⟨tr,z,bag,al⟩:=y
  dsimp only at hI hB ⊢
  obtain⟨i1,i2⟩:=hI
  have H:=Box.mk (And.intro i2 hB)
  clear i2 hB
  by_cases ht:(tr:Int)<400
  ·repeat' (first|refine yJT ?_|fail)
   refine zxc (b:=b1) (cap:=N) (m:=N) (c:=16) (L:=bag) H.out.1.bag (by omega) (by omega) yR yH (by simp only[zaa,qAS,qAQ,qAT,qAR,qAL,qAI,qAK,qAJ,qAD,qAB,qAC,qAA,qAP,qAO,qAM,qAN,qAH,qAF,qAE,qAG,↓reduceIte]) ?_
   by_cases hs:sumI bag<nn
   ·have cb1:=zba bs z N (by omega)
    have bb1:=zaz (x:=z) (n:=(N:Int)) (by omega)
    obtain⟨k1,hk1⟩: ∃k:Nat,(k:Int)=zar z N:=⟨(zar z N).toNat,by omega⟩
    rw[←hk1]at cb1 bb1
    clear hk1
    obtain⟨z1,hz1⟩: ∃z1,stepX z=z1:=⟨_,rfl⟩
    rw[hz1]at cb1
    clear hz1
    by_cases h60:(tr:Int)<60
    ·have cb2:=zba bs z1 (1+sp) (by omega)
     have bb2:=zaz (x:=z1) (n:=1+sp) (by omega)
     obtain⟨k2,hk2⟩: ∃k:Nat,(k:Int)=zar z1 (1+sp):=⟨(zar z1 (1+sp)).toNat,by omega⟩
     rw[←hk2]at cb2 bb2
     clear hk2
     repeat' (first|refine yJT ?_|refine zap inferInstance (hp) yR yF ?_|(refine zaw inferInstance (cb1) yR yF yF ?_;(try simp only[zab,zac,↓reduceIte, *]))|(refine zaw inferInstance (cb2) yR yF yF ?_;(try simp only[zab,zac,↓reduceIte, *]))|fail)
     try (simp only[setS,zab,zac,zad,zaf,qAS,qAQ,qAT,qAR,qAL,qAI,qAK,qAJ,qAD,qAB,qAC,qAA,qAP,qAO,qAM,qAN,qAH,qAF,qAE,qAG,↓reduceIte,List.map_cons,List.map_nil,zbc,zbb,zbf,zai,zam,zaq,zal,Nat.reduceAdd,Nat.zero_add])
     have hkl:k2<al.length:=by rw[H.out.1.abag.len];omega
     have hmk:=H.out.1.abag.get hkl
     have hgk:al.getD k2 0=al[k2]:=by rw[List.getD_eq_getElem?_getD,List.getElem?_eq_getElem hkl];rfl
     have HG:=Box.mk hgk
     clear hgk
     by_cases hck:al[k2]<s.copies
     ·repeat' (first|refine yJT ?_|(refine zbw yU yE yE ?_;simp only[go_sem,Nat.zero_add,Nat.reduceAdd])|refine zbe (id:=17) [0,1,2,3,4,5] 6 yKR mixed yP1 yP2 ?_|(with_reducible first|refine zau yU yU yU yE ?_|refine zbg ?_)|fail)
      refine zfw (b:=b2) (cap:=N) (m:=N) (c:=16) (L:=al) (ks:= [(k2:Int)]) H.out.1.abag (HK k2 (by omega)) (by omega) (by omega) (by simp) yR yH (by simp only[zaa,qAS,qAQ,qAT,qAR,qAL,qAI,qAK,qAJ,qAD,qAB,qAC,qAA,qAP,qAO,qAM,qAN,qAH,qAF,qAE,qAG,↓reduceIte]) ?_
      simp only[zab,zac,qAS,qAQ,qAT,qAR,qAL,qAI,qAK,qAJ,qAD,qAB,qAC,qAA,qAP,qAO,qAM,qAN,qAH,qAF,qAE,qAG,↓reduceIte]
      repeat' (first|refine yJ ?_|(refine zbw yU yE yE ?_;simp only[go_sem,Nat.zero_add,Nat.reduceAdd])|fail)
      refine zfw (b:=b1) (cap:=N) (m:=N) (c:=16) (L:=bag) (ks:= [(k2:Int)]) H.out.1.bag (HK k2 (by omega)) (by omega) (by omega) (by simp) yR yH (by simp only[zaa,qAS,qAQ,qAT,qAR,qAL,qAI,qAK,qAJ,qAD,qAB,qAC,qAA,qAP,qAO,qAM,qAN,qAH,qAF,qAE,qAG,↓reduceIte]) ?_
      simp only[zab,zac,qAS,qAQ,qAT,qAR,qAL,qAI,qAK,qAJ,qAD,qAB,qAC,qAA,qAP,qAO,qAM,qAN,qAH,qAF,qAE,qAG,↓reduceIte]
      repeat' (first|refine yJ ?_|fail)
      refine DS.back (H.out.2 (tr+1,stepX z1,incB bag k2,incB al k2) _ _ (by dsimp only;omega) ⟨by dsimp only;omega,H.out.1.inc (by omega) (by rw[HG.out];omega)⟩ yS yS (fun d o e=>?_))
      simp only[zaa,zah,zad,zaf]at e ⊢
      by_cases q0:bs=d
      ·subst q0;simp only[qAT,qAP,qAS,qAL,qAQ,qAD,qAR,qAH,↓reduceIte]at e ⊢;exact e
      by_cases q1:b9=d
      ·subst q1;simp only[qAP,qAT,qAO,qAK,qAM,qAC,qAN,qAG,↓reduceIte]at e ⊢;exact e
      by_cases q2:b8=d
      ·subst q2;simp only[qAL,qAS,qAK,qAO,qAI,qAB,qAJ,qAF,↓reduceIte]at e ⊢;exact e
      by_cases q3:b1=d
      ·subst q3;simp only[qAD,qAQ,qAC,qAM,qAB,qAI,qAA,qAE,↓reduceIte]at e ⊢;exact e
      by_cases q4:b2=d
      ·subst q4;simp only[qAH,qAR,qAG,qAN,qAF,qAJ,qAE,qAA,↓reduceIte]at e ⊢;exact e
      simp only[q0,q1,q2,q3,q4,↓reduceIte]at e
      exact absurd e (by simp)
     ·repeat' (first|refine yJT ?_|refine zbe (id:=17) [0,1,2,3,4,5] 6 yKR mixed yP1 yP2 ?_|(with_reducible first|refine zau yU yU yU yE ?_|refine zbg ?_)|fail)
      refine DS.back (H.out.2 (tr+1,stepX z1,bag,al) _ _ (by dsimp only;omega) ⟨by dsimp only;omega,H.out.1⟩ yS yS (fun d o e=>?_))
      simp only[zaa,zah,zad,zaf]at e ⊢
      by_cases q0:bs=d
      ·subst q0;simp only[qAT,qAP,qAS,qAL,qAQ,qAD,qAR,qAH,↓reduceIte]at e ⊢;exact e
      by_cases q1:b9=d
      ·subst q1;simp only[qAP,qAT,qAO,qAK,qAM,qAC,qAN,qAG,↓reduceIte]at e ⊢;exact e
      by_cases q2:b8=d
      ·subst q2;simp only[qAL,qAS,qAK,qAO,qAI,qAB,qAJ,qAF,↓reduceIte]at e ⊢;exact e
      by_cases q3:b1=d
      ·subst q3;simp only[qAD,qAQ,qAC,qAM,qAB,qAI,qAA,qAE,↓reduceIte]at e ⊢;exact e
      by_cases q4:b2=d
      ·subst q4;simp only[qAH,qAR,qAG,qAN,qAF,qAJ,qAE,qAA,↓reduceIte]at e ⊢;exact e
      simp only[q0,q1,q2,q3,q4,↓reduceIte]at e
      exact absurd e (by simp)
    ·repeat' (first|refine yJT ?_|refine zap inferInstance (hp) yR yF ?_|(refine zaw inferInstance (cb1) yR yF yF ?_;(try simp only[zab,zac,↓reduceIte, *]))|fail)
     try (simp only[setS,zab,zac,zad,zaf,qAS,qAQ,qAT,qAR,qAL,qAI,qAK,qAJ,qAD,qAB,qAC,qAA,qAP,qAO,qAM,qAN,qAH,qAF,qAE,qAG,↓reduceIte,List.map_cons,List.map_nil,zbc,zbb,zbf,zai,zam,zaq,zal,Nat.reduceAdd,Nat.zero_add])
     have hkl:k1<al.length:=by rw[H.out.1.abag.len];omega
     have hmk:=H.out.1.abag.get hkl
     have hgk:al.getD k1 0=al[k1]:=by rw[List.getD_eq_getElem?_getD,List.getElem?_eq_getElem hkl];rfl
     have HG:=Box.mk hgk
     clear hgk
     by_cases hck:al[k1]<s.copies
     ·repeat' (first|refine yJT ?_|(refine zbw yU yE yE ?_;simp only[go_sem,Nat.zero_add,Nat.reduceAdd])|refine zbe (id:=17) [0,1,2,3,4,5] 6 yKR mixed yP1 yP2 ?_|(with_reducible first|refine zau yU yU yU yE ?_|refine zbg ?_)|fail)
      refine zfw (b:=b2) (cap:=N) (m:=N) (c:=16) (L:=al) (ks:= [(k1:Int)]) H.out.1.abag (HK k1 (by omega)) (by omega) (by omega) (by simp) yR yH (by simp only[zaa,qAS,qAQ,qAT,qAR,qAL,qAI,qAK,qAJ,qAD,qAB,qAC,qAA,qAP,qAO,qAM,qAN,qAH,qAF,qAE,qAG,↓reduceIte]) ?_
      simp only[zab,zac,qAS,qAQ,qAT,qAR,qAL,qAI,qAK,qAJ,qAD,qAB,qAC,qAA,qAP,qAO,qAM,qAN,qAH,qAF,qAE,qAG,↓reduceIte]
      repeat' (first|refine yJ ?_|(refine zbw yU yE yE ?_;simp only[go_sem,Nat.zero_add,Nat.reduceAdd])|fail)
      refine zfw (b:=b1) (cap:=N) (m:=N) (c:=16) (L:=bag) (ks:= [(k1:Int)]) H.out.1.bag (HK k1 (by omega)) (by omega) (by omega) (by simp) yR yH (by simp only[zaa,qAS,qAQ,qAT,qAR,qAL,qAI,qAK,qAJ,qAD,qAB,qAC,qAA,qAP,qAO,qAM,qAN,qAH,qAF,qAE,qAG,↓reduceIte]) ?_
      simp only[zab,zac,qAS,qAQ,qAT,qAR,qAL,qAI,qAK,qAJ,qAD,qAB,qAC,qAA,qAP,qAO,qAM,qAN,qAH,qAF,qAE,qAG,↓reduceIte]
      repeat' (first|refine yJ ?_|fail)
      refine DS.back (H.out.2 (tr+1,z1,incB bag k1,incB al k1) _ _ (by dsimp only;omega) ⟨by dsimp only;omega,H.out.1.inc (by omega) (by rw[HG.out];omega)⟩ yS yS (fun d o e=>?_))
      simp only[zaa,zah,zad,zaf]at e ⊢
      by_cases q0:bs=d
      ·subst q0;simp only[qAT,qAP,qAS,qAL,qAQ,qAD,qAR,qAH,↓reduceIte]at e ⊢;exact e
      by_cases q1:b9=d
      ·subst q1;simp only[qAP,qAT,qAO,qAK,qAM,qAC,qAN,qAG,↓reduceIte]at e ⊢;exact e
      by_cases q2:b8=d
      ·subst q2;simp only[qAL,qAS,qAK,qAO,qAI,qAB,qAJ,qAF,↓reduceIte]at e ⊢;exact e
      by_cases q3:b1=d
      ·subst q3;simp only[qAD,qAQ,qAC,qAM,qAB,qAI,qAA,qAE,↓reduceIte]at e ⊢;exact e
      by_cases q4:b2=d
      ·subst q4;simp only[qAH,qAR,qAG,qAN,qAF,qAJ,qAE,qAA,↓reduceIte]at e ⊢;exact e
      simp only[q0,q1,q2,q3,q4,↓reduceIte]at e
      exact absurd e (by simp)
     ·repeat' (first|refine yJT ?_|refine zbe (id:=17) [0,1,2,3,4,5] 6 yKR mixed yP1 yP2 ?_|(with_reducible first|refine zau yU yU yU yE ?_|refine zbg ?_)|fail)
      refine DS.back (H.out.2 (tr+1,z1,bag,al) _ _ (by dsimp only;omega) ⟨by dsimp only;omega,H.out.1⟩ yS yS (fun d o e=>?_))
      simp only[zaa,zah,zad,zaf]at e ⊢
      by_cases q0:bs=d
      ·subst q0;simp only[qAT,qAP,qAS,qAL,qAQ,qAD,qAR,qAH,↓reduceIte]at e ⊢;exact e
      by_cases q1:b9=d
      ·subst q1;simp only[qAP,qAT,qAO,qAK,qAM,qAC,qAN,qAG,↓reduceIte]at e ⊢;exact e
      by_cases q2:b8=d
      ·subst q2;simp only[qAL,qAS,qAK,qAO,qAI,qAB,qAJ,qAF,↓reduceIte]at e ⊢;exact e
      by_cases q3:b1=d
      ·subst q3;simp only[qAD,qAQ,qAC,qAM,qAB,qAI,qAA,qAE,↓reduceIte]at e ⊢;exact e
      by_cases q4:b2=d
      ·subst q4;simp only[qAH,qAR,qAG,qAN,qAF,qAJ,qAE,qAA,↓reduceIte]at e ⊢;exact e
      simp only[q0,q1,q2,q3,q4,↓reduceIte]at e
      exact absurd e (by simp)
   ·repeat' (first|refine yJT ?_|fail)
    refine zbn [5,8,9,10,12] yN (fun(y:Nat×List Int×List Int)=> [(16,I y.1)]) (fun(y:Nat×List Int×List Int)=> [(bs,srcO z),(b9,Ob.cells [.v (.slice (some ⟨b1,0,none⟩) N N),zhl melds] 41),(b8,Ob.cells [.v (.slice none 0 0), .v (.slice none 0 0)] 41),(b1,Ob.cells (y.2.1.map fun x=>I x) 3),(b2,Ob.cells (y.2.2.map fun x=>I x) 3)]) (fun(y:Nat×List Int×List Int)=>y.1≤N∧Within N 16 y.2.1 y.2.2) (fun(y:Nat×List Int×List Int)=>N-y.1) (0,bag,al) yS (fun b o e=>by exact e) ⟨Nat.zero_le _,H.out.1⟩ (fun y B hI hB=>?_);try dsimp only at hI hB;simp only[zad,zaf]
    obtain⟨k,bag2,al2⟩:=y
    dsimp only at hI hB ⊢
    obtain⟨j1,j2⟩:=hI
    have H2:=Box.mk (And.intro j2 hB)
    clear j2 hB
    by_cases hk:(k:Int)<(N:Int)
    ·repeat' (first|refine yJT ?_|refine zap inferInstance (hp) yR yT ?_|fail)
     refine zxc (b:=b1) (cap:=N) (m:=N) (c:=16) (L:=bag2) H2.out.1.bag (by omega) (by omega) yR yH (by simp only[zaa,qAS,qAQ,qAT,qAR,qAL,qAI,qAK,qAJ,qAD,qAB,qAC,qAA,qAP,qAO,qAM,qAN,qAH,qAF,qAE,qAG,↓reduceIte]) ?_
     by_cases hs2:sumI bag2<nn
     ·repeat' (first|refine yJT ?_|fail)
      refine zbn [5,8,9,10,12,16] yN (fun(y:List Int×List Int)=> []) (fun(y:List Int×List Int)=> [(bs,srcO z),(b9,Ob.cells [.v (.slice (some ⟨b1,0,none⟩) N N),zhl melds] 41),(b8,Ob.cells [.v (.slice none 0 0), .v (.slice none 0 0)] 41),(b1,Ob.cells (y.1.map fun x=>I x) 3),(b2,Ob.cells (y.2.map fun x=>I x) 3)]) (fun(y:List Int×List Int)=>Within N 16 y.1 y.2) (fun(y:List Int×List Int)=>(s.copies-y.2.getD k 0).toNat) (bag2,al2) yS (fun b o e=>by exact e) H2.out.1 (fun y B hI hB=>?_);try dsimp only at hI hB;simp only[zad,zaf]
      obtain⟨bag3,al3⟩:=y
      dsimp only at hI hB ⊢
      have H3:=Box.mk (And.intro hI hB)
      have hkl:k<al3.length:=by rw[hI.abag.len];omega
      have hmk:=hI.abag.get hkl
      have hgk:al3.getD k 0=al3[k]:=by rw[List.getD_eq_getElem?_getD,List.getElem?_eq_getElem hkl];rfl
      have hbl:=hI.len
      have htot:=zjq b1 N bag3 (fun z hz=>by have:=hI.bag.bd z hz;omega) (by omega)
      rw[hbl]at htot
      have HG:=Box.mk hgk
      clear hI hB hgk hbl
      by_cases hck:al3[k]<s.copies
      ·repeat' (first|refine yJ ?_|fail)
       refine zbx (id:=23) ([(bs,srcO z),(b9,Ob.cells [.v (.slice (some ⟨b1,0,none⟩) N N),zhl melds] 41),(b8,Ob.cells [.v (.slice none 0 0), .v (.slice none 0 0)] 41),(b2,Ob.cells (al3.map fun x=>I x) 3)]) ([(b1,Ob.cells (bag3.map fun x=>I x) 3)]) [0,1,2,3,4,5,6,7,8,9,10,11] 12 yKR mixed yP1 yP2 ((fun d o e=>?_)) ((fun d o e=>?_)) ?_
       ·simp only[zaa,zah]at e ⊢
        by_cases q0:bs=d
        ·subst q0;simp only[qAS,qAQ,qAT,qAR,qAL,qAI,qAK,qAJ,qAD,qAB,qAC,qAA,qAP,qAO,qAM,qAN,qAH,qAF,qAE,qAG,↓reduceIte]at e ⊢;exact⟨e,trivial⟩
        by_cases q1:b9=d
        ·subst q1;simp only[qAS,qAQ,qAT,qAR,qAL,qAI,qAK,qAJ,qAD,qAB,qAC,qAA,qAP,qAO,qAM,qAN,qAH,qAF,qAE,qAG,↓reduceIte]at e ⊢;exact⟨e,trivial⟩
        by_cases q2:b8=d
        ·subst q2;simp only[qAS,qAQ,qAT,qAR,qAL,qAI,qAK,qAJ,qAD,qAB,qAC,qAA,qAP,qAO,qAM,qAN,qAH,qAF,qAE,qAG,↓reduceIte]at e ⊢;exact⟨e,trivial⟩
        by_cases q3:b2=d
        ·subst q3;simp only[qAS,qAQ,qAT,qAR,qAL,qAI,qAK,qAJ,qAD,qAB,qAC,qAA,qAP,qAO,qAM,qAN,qAH,qAF,qAE,qAG,↓reduceIte]at e ⊢;exact⟨e,trivial⟩
        simp only[q0,q1,q2,q3,↓reduceIte]at e
        exact absurd e (by simp)
       ·simp only[zaa,zah]at e ⊢
        by_cases q:b1=d
        ·subst q;simp only[qAS,qAQ,qAT,qAR,qAL,qAI,qAK,qAJ,qAD,qAB,qAC,qAA,qAP,qAO,qAM,qAN,qAH,qAF,qAE,qAG,↓reduceIte]at e ⊢;exact e
        simp only[q,↓reduceIte]at e
        exact absurd e (by simp)
       repeat' (first|(with_reducible first|refine zau yU yU yU yE ?_|(refine zim yU yE ?_;refine DGG.run ?_))|fail)
       refine DD.call (dst:=some 119) [(b1,Ob.cells (bag3.map fun x=>I x) 3)] [] inferInstance htot yR yH (fun _ _ e=>e) (fun _ _ e=>by cases e) (fun _=>MpOk.nil) ?_
       simp only[zbk,zuo,zas,zat,Nat.reduceEqDiff,↓reduceIte,zad,zaf]
       by_cases hs3:sumI bag3<nn
       ·repeat' (first|refine yJT ?_|(refine zbw yU yE yE ?_;simp only[go_sem,Nat.zero_add,Nat.reduceAdd])|(with_reducible first|refine zau yU yU yU yE ?_|(refine zim yU yE ?_;refine DGG.run ?_))|(with_reducible refine DD.nil ?_;simp only[zad,zaf])|fail)
        try (simp only[setS,zab,zac,zad,zaf,qAS,qAQ,qAT,qAR,qAL,qAI,qAK,qAJ,qAD,qAB,qAC,qAA,qAP,qAO,qAM,qAN,qAH,qAF,qAE,qAG,↓reduceIte,List.map_cons,List.map_nil,zbc,zbb,zbf,zai,zam,zaq,zal,Nat.reduceAdd,Nat.zero_add])
        refine zfw (b:=b2) (cap:=N) (m:=N) (c:=16) (L:=al3) (ks:= [(k:Int)]) H3.out.1.abag (HK k (by omega)) (by omega) (by omega) (by simp) yR yH (by simp only[zaa,qAS,qAQ,qAT,qAR,qAL,qAI,qAK,qAJ,qAD,qAB,qAC,qAA,qAP,qAO,qAM,qAN,qAH,qAF,qAE,qAG,↓reduceIte]) ?_
        simp only[zab,zac,qAS,qAQ,qAT,qAR,qAL,qAI,qAK,qAJ,qAD,qAB,qAC,qAA,qAP,qAO,qAM,qAN,qAH,qAF,qAE,qAG,↓reduceIte]
        repeat' (first|refine yJ ?_|(refine zbw yU yE yE ?_;simp only[go_sem,Nat.zero_add,Nat.reduceAdd])|fail)
        refine zfw (b:=b1) (cap:=N) (m:=N) (c:=16) (L:=bag3) (ks:= [(k:Int)]) H3.out.1.bag (HK k (by omega)) (by omega) (by omega) (by simp) yR yH (by simp only[zaa,qAS,qAQ,qAT,qAR,qAL,qAI,qAK,qAJ,qAD,qAB,qAC,qAA,qAP,qAO,qAM,qAN,qAH,qAF,qAE,qAG,↓reduceIte]) ?_
        simp only[zab,zac,qAS,qAQ,qAT,qAR,qAL,qAI,qAK,qAJ,qAD,qAB,qAC,qAA,qAP,qAO,qAM,qAN,qAH,qAF,qAE,qAG,↓reduceIte]
        repeat' (first|refine yJ ?_|fail)
        have hal':(incB al3 k).getD k 0=al3.getD k 0+1:=by rw[zjr hkl,if_pos rfl]
        refine DS.back (H3.out.2 (incB bag3 k,incB al3 k) _ _ (by dsimp only;rw[hal',HG.out];omega) (H3.out.1.inc (by omega) (by rw[HG.out];omega)) yS yS (fun d o e=>?_))
        simp only[zaa,zah,zad,zaf]at e ⊢
        by_cases q0:bs=d
        ·subst q0;simp only[qAT,qAP,qAS,qAL,qAQ,qAD,qAR,qAH,↓reduceIte]at e ⊢;exact e
        by_cases q1:b9=d
        ·subst q1;simp only[qAP,qAT,qAO,qAK,qAM,qAC,qAN,qAG,↓reduceIte]at e ⊢;exact e
        by_cases q2:b8=d
        ·subst q2;simp only[qAL,qAS,qAK,qAO,qAI,qAB,qAJ,qAF,↓reduceIte]at e ⊢;exact e
        by_cases q3:b1=d
        ·subst q3;simp only[qAD,qAQ,qAC,qAM,qAB,qAI,qAA,qAE,↓reduceIte]at e ⊢;exact e
        by_cases q4:b2=d
        ·subst q4;simp only[qAH,qAR,qAG,qAN,qAF,qAJ,qAE,qAA,↓reduceIte]at e ⊢;exact e
        simp only[q0,q1,q2,q3,q4,↓reduceIte]at e
        exact absurd e (by simp)
       ·repeat' (first|refine yJT ?_|(with_reducible first|refine zau yU yU yU yE ?_|(refine zim yU yE ?_;refine DGG.run ?_))|(with_reducible refine DD.nil ?_;simp only[zad,zaf])|fail)
        refine DS.back (H2.out.2 (k+1,bag3,al3) _ _ (by dsimp only;omega) ⟨by dsimp only;omega,H3.out.1⟩ yS yS (fun d o e=>?_))
        simp only[zaa,zah,zad,zaf]at e ⊢
        by_cases q0:bs=d
        ·subst q0;simp only[qAT,qAP,qAS,qAL,qAQ,qAD,qAR,qAH,↓reduceIte]at e ⊢;exact e
        by_cases q1:b9=d
        ·subst q1;simp only[qAP,qAT,qAO,qAK,qAM,qAC,qAN,qAG,↓reduceIte]at e ⊢;exact e
        by_cases q2:b8=d
        ·subst q2;simp only[qAL,qAS,qAK,qAO,qAI,qAB,qAJ,qAF,↓reduceIte]at e ⊢;exact e
        by_cases q3:b1=d
        ·subst q3;simp only[qAD,qAQ,qAC,qAM,qAB,qAI,qAA,qAE,↓reduceIte]at e ⊢;exact e
        by_cases q4:b2=d
        ·subst q4;simp only[qAH,qAR,qAG,qAN,qAF,qAJ,qAE,qAA,↓reduceIte]at e ⊢;exact e
        simp only[q0,q1,q2,q3,q4,↓reduceIte]at e
        exact absurd e (by simp)
      ·repeat' (first|refine yJT ?_|refine zbe (id:=23) [0,1,2,3,4,5,6,7,8,9,10,11] 12 yKR mixed yP1 yP2 ?_|(with_reducible first|refine zau yU yU yU yE ?_|(refine zim yU yE ?_;refine zpg ?_)|refine zbg ?_)|fail)
       refine DS.back (H2.out.2 (k+1,bag3,al3) _ _ (by dsimp only;omega) ⟨by dsimp only;omega,H3.out.1⟩ yS yS (fun d o e=>e))
     ·repeat' (first|refine yJT ?_|(refine DS.store yR yE yE yE yE yU yQ ?_;simp only[yS1];try simp only[yS2,Nat.reduceEqDiff,↓reduceIte])|fail)
      have hol:bag2.length=N:=H2.out.1.len
      try (simp only[setS,zab,zac,zad,zaf,qAS,qAQ,qAT,qAR,qAL,qAI,qAK,qAJ,qAD,qAB,qAC,qAA,qAP,qAO,qAM,qAN,qAH,qAF,qAE,qAG,↓reduceIte,List.map_cons,List.map_nil,zbc,zbb,zbf,zai,zam,zaq,zal,Nat.reduceAdd,Nat.zero_add])
      refine zfn (b:=b1) (b':=b8) (i:=0) (len:=N) (cap:=N) (sz:=1) (l:=bag2.map fun x=>I x) (T:=3) (l':= [.v (.slice (some ⟨b1,0,none⟩) N N),zhl melds]) (T':=41) qAI (by simp only[zaa,qAS,qAQ,qAT,qAR,qAL,qAI,qAK,qAJ,qAD,qAB,qAC,qAA,qAP,qAO,qAM,qAN,qAH,qAF,qAE,qAG,↓reduceIte]) yR (by simp only[zaa,qAS,qAQ,qAT,qAR,qAL,qAI,qAK,qAJ,qAD,qAB,qAC,qAA,qAP,qAO,qAM,qAN,qAH,qAF,qAE,qAG,↓reduceIte]) (by rw[List.length_map];omega) ⟨Nat.le_refl _,hNm⟩ ?_
      have hch:=zgm bag2 []
      rw[hol,List.append_nil]at hch
      rw[hch]
      simp only[zal,setS,zab,zac,qAS,qAQ,qAT,qAR,qAL,qAI,qAK,qAJ,qAD,qAB,qAC,qAA,qAP,qAO,qAM,qAN,qAH,qAF,qAE,qAG,↓reduceIte]
      refine zbj [(bs,srcO z)] (by(simp (disch:=omega) only[go_sem,dopV,yV0,↓reduceIte,Nat.reduceEqDiff,Nat.reduceLT,Nat.reduceLeDiff,Nat.reduceAdd,Nat.reduceMul,Nat.reduceSub,Int.reduceToNat,Int.reduceLT,Int.reduceLE,Int.reduceEq,IntWalk.toNatUp,IntWalk.iteOmega,IntWalk.i64_in,V.flat,V.one,setS,setAll,qAS,qAQ,qAT,qAR,qAL,qAI,qAK,qAJ,qAD,qAB,qAC,qAA,qAP,qAO,qAM,qAN,qAH,qAF,qAE,qAG];exact rfl)) (fun b o e=>?_) ?_
      ·simp only[zaa,zah]at e ⊢
       split at e
       ·rename_i hb;subst hb;simp only[qAS,qAQ,qAT,qAR,qAL,qAI,qAK,qAJ,qAD,qAB,qAC,qAA,qAP,qAO,qAM,qAN,qAH,qAF,qAE,qAG,↓reduceIte];exact e
       ·cases e
      ·exact⟨⟨⟨bag2,melds⟩,rfl,⟨H2.out.1.bag.mono (by omega),hml,HF.out.2⟩⟩,z,rfl⟩
    ·repeat' (first|refine yJT ?_|refine zap inferInstance (hp) yR yT ?_|(refine DS.store yR yE yE yE yE yU yQ ?_;simp only[yS1];try simp only[yS2,Nat.reduceEqDiff,↓reduceIte])|fail)
     have hol:bag2.length=N:=H2.out.1.len
     try (simp only[setS,zab,zac,zad,zaf,qAS,qAQ,qAT,qAR,qAL,qAI,qAK,qAJ,qAD,qAB,qAC,qAA,qAP,qAO,qAM,qAN,qAH,qAF,qAE,qAG,↓reduceIte,List.map_cons,List.map_nil,zbc,zbb,zbf,zai,zam,zaq,zal,Nat.reduceAdd,Nat.zero_add])
     refine zfn (b:=b1) (b':=b8) (i:=0) (len:=N) (cap:=N) (sz:=1) (l:=bag2.map fun x=>I x) (T:=3) (l':= [.v (.slice (some ⟨b1,0,none⟩) N N),zhl melds]) (T':=41) qAI (by simp only[zaa,qAS,qAQ,qAT,qAR,qAL,qAI,qAK,qAJ,qAD,qAB,qAC,qAA,qAP,qAO,qAM,qAN,qAH,qAF,qAE,qAG,↓reduceIte]) yR (by simp only[zaa,qAS,qAQ,qAT,qAR,qAL,qAI,qAK,qAJ,qAD,qAB,qAC,qAA,qAP,qAO,qAM,qAN,qAH,qAF,qAE,qAG,↓reduceIte]) (by rw[List.length_map];omega) ⟨Nat.le_refl _,hNm⟩ ?_
     have hch:=zgm bag2 []
     rw[hol,List.append_nil]at hch
     rw[hch]
     simp only[zal,setS,zab,zac,qAS,qAQ,qAT,qAR,qAL,qAI,qAK,qAJ,qAD,qAB,qAC,qAA,qAP,qAO,qAM,qAN,qAH,qAF,qAE,qAG,↓reduceIte]
     refine zbj [(bs,srcO z)] (by(simp (disch:=omega) only[go_sem,dopV,yV0,↓reduceIte,Nat.reduceEqDiff,Nat.reduceLT,Nat.reduceLeDiff,Nat.reduceAdd,Nat.reduceMul,Nat.reduceSub,Int.reduceToNat,Int.reduceLT,Int.reduceLE,Int.reduceEq,IntWalk.toNatUp,IntWalk.iteOmega,IntWalk.i64_in,V.flat,V.one,setS,setAll,qAS,qAQ,qAT,qAR,qAL,qAI,qAK,qAJ,qAD,qAB,qAC,qAA,qAP,qAO,qAM,qAN,qAH,qAF,qAE,qAG];exact rfl)) (fun b o e=>?_) ?_
     ·simp only[zaa,zah]at e ⊢
      split at e
      ·rename_i hb;subst hb;simp only[qAS,qAQ,qAT,qAR,qAL,qAI,qAK,qAJ,qAD,qAB,qAC,qAA,qAP,qAO,qAM,qAN,qAH,qAF,qAE,qAG,↓reduceIte];exact e
      ·cases e
     ·exact⟨⟨⟨bag2,melds⟩,rfl,⟨H2.out.1.bag.mono (by omega),hml,HF.out.2⟩⟩,z,rfl⟩
  ·repeat' (first|refine yJT ?_|fail)
   refine zbn [5,8,9,10,12] yN (fun(y:Nat×List Int×List Int)=> [(16,I y.1)]) (fun(y:Nat×List Int×List Int)=> [(bs,srcO z),(b9,Ob.cells [.v (.slice (some ⟨b1,0,none⟩) N N),zhl melds] 41),(b8,Ob.cells [.v (.slice none 0 0), .v (.slice none 0 0)] 41),(b1,Ob.cells (y.2.1.map fun x=>I x) 3),(b2,Ob.cells (y.2.2.map fun x=>I x) 3)]) (fun(y:Nat×List Int×List Int)=>y.1≤N∧Within N 16 y.2.1 y.2.2) (fun(y:Nat×List Int×List Int)=>N-y.1) (0,bag,al) yS (fun b o e=>by exact e) ⟨Nat.zero_le _,H.out.1⟩ (fun y B hI hB=>?_);try dsimp only at hI hB;simp only[zad,zaf]
   obtain⟨k,bag2,al2⟩:=y
   dsimp only at hI hB ⊢
   obtain⟨j1,j2⟩:=hI
   have H2:=Box.mk (And.intro j2 hB)
   clear j2 hB
   by_cases hk:(k:Int)<(N:Int)
   ·repeat' (first|refine yJT ?_|refine zap inferInstance (hp) yR yT ?_|fail)
    refine zxc (b:=b1) (cap:=N) (m:=N) (c:=16) (L:=bag2) H2.out.1.bag (by omega) (by omega) yR yH (by simp only[zaa,qAS,qAQ,qAT,qAR,qAL,qAI,qAK,qAJ,qAD,qAB,qAC,qAA,qAP,qAO,qAM,qAN,qAH,qAF,qAE,qAG,↓reduceIte]) ?_
    by_cases hs2:sumI bag2<nn
    ·repeat' (first|refine yJT ?_|fail)
     refine zbn [5,8,9,10,12,16] yN (fun(y:List Int×List Int)=> []) (fun(y:List Int×List Int)=> [(bs,srcO z),(b9,Ob.cells [.v (.slice (some ⟨b1,0,none⟩) N N),zhl melds] 41),(b8,Ob.cells [.v (.slice none 0 0), .v (.slice none 0 0)] 41),(b1,Ob.cells (y.1.map fun x=>I x) 3),(b2,Ob.cells (y.2.map fun x=>I x) 3)]) (fun(y:List Int×List Int)=>Within N 16 y.1 y.2) (fun(y:List Int×List Int)=>(s.copies-y.2.getD k 0).toNat) (bag2,al2) yS (fun b o e=>by exact e) H2.out.1 (fun y B hI hB=>?_);try dsimp only at hI hB;simp only[zad,zaf]
     obtain⟨bag3,al3⟩:=y
     dsimp only at hI hB ⊢
     have H3:=Box.mk (And.intro hI hB)
     have hkl:k<al3.length:=by rw[hI.abag.len];omega
     have hmk:=hI.abag.get hkl
     have hgk:al3.getD k 0=al3[k]:=by rw[List.getD_eq_getElem?_getD,List.getElem?_eq_getElem hkl];rfl
     have hbl:=hI.len
     have htot:=zjq b1 N bag3 (fun z hz=>by have:=hI.bag.bd z hz;omega) (by omega)
     rw[hbl]at htot
     have HG:=Box.mk hgk
     clear hI hB hgk hbl
     by_cases hck:al3[k]<s.copies
     ·repeat' (first|refine yJ ?_|fail)
      refine zbx (id:=23) ([(bs,srcO z),(b9,Ob.cells [.v (.slice (some ⟨b1,0,none⟩) N N),zhl melds] 41),(b8,Ob.cells [.v (.slice none 0 0), .v (.slice none 0 0)] 41),(b2,Ob.cells (al3.map fun x=>I x) 3)]) ([(b1,Ob.cells (bag3.map fun x=>I x) 3)]) [0,1,2,3,4,5,6,7,8,9,10,11] 12 yKR mixed yP1 yP2 ((fun d o e=>?_)) ((fun d o e=>?_)) ?_
      ·simp only[zaa,zah]at e ⊢
       by_cases q0:bs=d
       ·subst q0;simp only[qAS,qAQ,qAT,qAR,qAL,qAI,qAK,qAJ,qAD,qAB,qAC,qAA,qAP,qAO,qAM,qAN,qAH,qAF,qAE,qAG,↓reduceIte]at e ⊢;exact⟨e,trivial⟩
       by_cases q1:b9=d
       ·subst q1;simp only[qAS,qAQ,qAT,qAR,qAL,qAI,qAK,qAJ,qAD,qAB,qAC,qAA,qAP,qAO,qAM,qAN,qAH,qAF,qAE,qAG,↓reduceIte]at e ⊢;exact⟨e,trivial⟩
       by_cases q2:b8=d
       ·subst q2;simp only[qAS,qAQ,qAT,qAR,qAL,qAI,qAK,qAJ,qAD,qAB,qAC,qAA,qAP,qAO,qAM,qAN,qAH,qAF,qAE,qAG,↓reduceIte]at e ⊢;exact⟨e,trivial⟩
       by_cases q3:b2=d
       ·subst q3;simp only[qAS,qAQ,qAT,qAR,qAL,qAI,qAK,qAJ,qAD,qAB,qAC,qAA,qAP,qAO,qAM,qAN,qAH,qAF,qAE,qAG,↓reduceIte]at e ⊢;exact⟨e,trivial⟩
       simp only[q0,q1,q2,q3,↓reduceIte]at e
       exact absurd e (by simp)
      ·simp only[zaa,zah]at e ⊢
       by_cases q:b1=d
       ·subst q;simp only[qAS,qAQ,qAT,qAR,qAL,qAI,qAK,qAJ,qAD,qAB,qAC,qAA,qAP,qAO,qAM,qAN,qAH,qAF,qAE,qAG,↓reduceIte]at e ⊢;exact e
       simp only[q,↓reduceIte]at e
       exact absurd e (by simp)
      repeat' (first|(with_reducible first|refine zau yU yU yU yE ?_|(refine zim yU yE ?_;refine DGG.run ?_))|fail)
      refine DD.call (dst:=some 119) [(b1,Ob.cells (bag3.map fun x=>I x) 3)] [] inferInstance htot yR yH (fun _ _ e=>e) (fun _ _ e=>by cases e) (fun _=>MpOk.nil) ?_
      simp only[zbk,zuo,zas,zat,Nat.reduceEqDiff,↓reduceIte,zad,zaf]
      by_cases hs3:sumI bag3<nn
      ·repeat' (first|refine yJT ?_|(refine zbw yU yE yE ?_;simp only[go_sem,Nat.zero_add,Nat.reduceAdd])|(with_reducible first|refine zau yU yU yU yE ?_|(refine zim yU yE ?_;refine DGG.run ?_))|(with_reducible refine DD.nil ?_;simp only[zad,zaf])|fail)
       try (simp only[setS,zab,zac,zad,zaf,qAS,qAQ,qAT,qAR,qAL,qAI,qAK,qAJ,qAD,qAB,qAC,qAA,qAP,qAO,qAM,qAN,qAH,qAF,qAE,qAG,↓reduceIte,List.map_cons,List.map_nil,zbc,zbb,zbf,zai,zam,zaq,zal,Nat.reduceAdd,Nat.zero_add])
       refine zfw (b:=b2) (cap:=N) (m:=N) (c:=16) (L:=al3) (ks:= [(k:Int)]) H3.out.1.abag (HK k (by omega)) (by omega) (by omega) (by simp) yR yH (by simp only[zaa,qAS,qAQ,qAT,qAR,qAL,qAI,qAK,qAJ,qAD,qAB,qAC,qAA,qAP,qAO,qAM,qAN,qAH,qAF,qAE,qAG,↓reduceIte]) ?_
       simp only[zab,zac,qAS,qAQ,qAT,qAR,qAL,qAI,qAK,qAJ,qAD,qAB,qAC,qAA,qAP,qAO,qAM,qAN,qAH,qAF,qAE,qAG,↓reduceIte]
       repeat' (first|refine yJ ?_|(refine zbw yU yE yE ?_;simp only[go_sem,Nat.zero_add,Nat.reduceAdd])|fail)
       refine zfw (b:=b1) (cap:=N) (m:=N) (c:=16) (L:=bag3) (ks:= [(k:Int)]) H3.out.1.bag (HK k (by omega)) (by omega) (by omega) (by simp) yR yH (by simp only[zaa,qAS,qAQ,qAT,qAR,qAL,qAI,qAK,qAJ,qAD,qAB,qAC,qAA,qAP,qAO,qAM,qAN,qAH,qAF,qAE,qAG,↓reduceIte]) ?_
       simp only[zab,zac,qAS,qAQ,qAT,qAR,qAL,qAI,qAK,qAJ,qAD,qAB,qAC,qAA,qAP,qAO,qAM,qAN,qAH,qAF,qAE,qAG,↓reduceIte]
       repeat' (first|refine yJ ?_|fail)
       have hal':(incB al3 k).getD k 0=al3.getD k 0+1:=by rw[zjr hkl,if_pos rfl]
       refine DS.back (H3.out.2 (incB bag3 k,incB al3 k) _ _ (by dsimp only;rw[hal',HG.out];omega) (H3.out.1.inc (by omega) (by rw[HG.out];omega)) yS yS (fun d o e=>?_))
       simp only[zaa,zah,zad,zaf]at e ⊢
       by_cases q0:bs=d
       ·subst q0;simp only[qAT,qAP,qAS,qAL,qAQ,qAD,qAR,qAH,↓reduceIte]at e ⊢;exact e
       by_cases q1:b9=d
       ·subst q1;simp only[qAP,qAT,qAO,qAK,qAM,qAC,qAN,qAG,↓reduceIte]at e ⊢;exact e
       by_cases q2:b8=d
       ·subst q2;simp only[qAL,qAS,qAK,qAO,qAI,qAB,qAJ,qAF,↓reduceIte]at e ⊢;exact e
       by_cases q3:b1=d
       ·subst q3;simp only[qAD,qAQ,qAC,qAM,qAB,qAI,qAA,qAE,↓reduceIte]at e ⊢;exact e
       by_cases q4:b2=d
       ·subst q4;simp only[qAH,qAR,qAG,qAN,qAF,qAJ,qAE,qAA,↓reduceIte]at e ⊢;exact e
       simp only[q0,q1,q2,q3,q4,↓reduceIte]at e
       exact absurd e (by simp)
      ·repeat' (first|refine yJT ?_|(with_reducible first|refine zau yU yU yU yE ?_|(refine zim yU yE ?_;refine DGG.run ?_))|(with_reducible refine DD.nil ?_;simp only[zad,zaf])|fail)
       refine DS.back (H2.out.2 (k+1,bag3,al3) _ _ (by dsimp only;omega) ⟨by dsimp only;omega,H3.out.1⟩ yS yS (fun d o e=>?_))
       simp only[zaa,zah,zad,zaf]at e ⊢
       by_cases q0:bs=d
       ·subst q0;simp only[qAT,qAP,qAS,qAL,qAQ,qAD,qAR,qAH,↓reduceIte]at e ⊢;exact e
       by_cases q1:b9=d
       ·subst q1;simp only[qAP,qAT,qAO,qAK,qAM,qAC,qAN,qAG,↓reduceIte]at e ⊢;exact e
       by_cases q2:b8=d
       ·subst q2;simp only[qAL,qAS,qAK,qAO,qAI,qAB,qAJ,qAF,↓reduceIte]at e ⊢;exact e
       by_cases q3:b1=d
       ·subst q3;simp only[qAD,qAQ,qAC,qAM,qAB,qAI,qAA,qAE,↓reduceIte]at e ⊢;exact e
       by_cases q4:b2=d
       ·subst q4;simp only[qAH,qAR,qAG,qAN,qAF,qAJ,qAE,qAA,↓reduceIte]at e ⊢;exact e
       simp only[q0,q1,q2,q3,q4,↓reduceIte]at e
       exact absurd e (by simp)
     ·repeat' (first|refine yJT ?_|refine zbe (id:=23) [0,1,2,3,4,5,6,7,8,9,10,11] 12 yKR mixed yP1 yP2 ?_|(with_reducible first|refine zau yU yU yU yE ?_|(refine zim yU yE ?_;refine zpg ?_)|refine zbg ?_)|fail)
      refine DS.back (H2.out.2 (k+1,bag3,al3) _ _ (by dsimp only;omega) ⟨by dsimp only;omega,H3.out.1⟩ yS yS (fun d o e=>e))
    ·repeat' (first|refine yJT ?_|(refine DS.store yR yE yE yE yE yU yQ ?_;simp only[yS1];try simp only[yS2,Nat.reduceEqDiff,↓reduceIte])|fail)
     have hol:bag2.length=N:=H2.out.1.len
     try (simp only[setS,zab,zac,zad,zaf,qAS,qAQ,qAT,qAR,qAL,qAI,qAK,qAJ,qAD,qAB,qAC,qAA,qAP,qAO,qAM,qAN,qAH,qAF,qAE,qAG,↓reduceIte,List.map_cons,List.map_nil,zbc,zbb,zbf,zai,zam,zaq,zal,Nat.reduceAdd,Nat.zero_add])
     refine zfn (b:=b1) (b':=b8) (i:=0) (len:=N) (cap:=N) (sz:=1) (l:=bag2.map fun x=>I x) (T:=3) (l':= [.v (.slice (some ⟨b1,0,none⟩) N N),zhl melds]) (T':=41) qAI (by simp only[zaa,qAS,qAQ,qAT,qAR,qAL,qAI,qAK,qAJ,qAD,qAB,qAC,qAA,qAP,qAO,qAM,qAN,qAH,qAF,qAE,qAG,↓reduceIte]) yR (by simp only[zaa,qAS,qAQ,qAT,qAR,qAL,qAI,qAK,qAJ,qAD,qAB,qAC,qAA,qAP,qAO,qAM,qAN,qAH,qAF,qAE,qAG,↓reduceIte]) (by rw[List.length_map];omega) ⟨Nat.le_refl _,hNm⟩ ?_
     have hch:=zgm bag2 []
     rw[hol,List.append_nil]at hch
     rw[hch]
     simp only[zal,setS,zab,zac,qAS,qAQ,qAT,qAR,qAL,qAI,qAK,qAJ,qAD,qAB,qAC,qAA,qAP,qAO,qAM,qAN,qAH,qAF,qAE,qAG,↓reduceIte]
     refine zbj [(bs,srcO z)] (by(simp (disch:=omega) only[go_sem,dopV,yV0,↓reduceIte,Nat.reduceEqDiff,Nat.reduceLT,Nat.reduceLeDiff,Nat.reduceAdd,Nat.reduceMul,Nat.reduceSub,Int.reduceToNat,Int.reduceLT,Int.reduceLE,Int.reduceEq,IntWalk.toNatUp,IntWalk.iteOmega,IntWalk.i64_in,V.flat,V.one,setS,setAll,qAS,qAQ,qAT,qAR,qAL,qAI,qAK,qAJ,qAD,qAB,qAC,qAA,qAP,qAO,qAM,qAN,qAH,qAF,qAE,qAG];exact rfl)) (fun b o e=>?_) ?_
     ·simp only[zaa,zah]at e ⊢
      split at e
      ·rename_i hb;subst hb;simp only[qAS,qAQ,qAT,qAR,qAL,qAI,qAK,qAJ,qAD,qAB,qAC,qAA,qAP,qAO,qAM,qAN,qAH,qAF,qAE,qAG,↓reduceIte];exact e
      ·cases e
     ·exact⟨⟨⟨bag2,melds⟩,rfl,⟨H2.out.1.bag.mono (by omega),hml,HF.out.2⟩⟩,z,rfl⟩
   ·repeat' (first|refine yJT ?_|refine zap inferInstance (hp) yR yT ?_|(refine DS.store yR yE yE yE yE yU yQ ?_;simp only[yS1];try simp only[yS2,Nat.reduceEqDiff,↓reduceIte])|fail)
    have hol:bag2.length=N:=H2.out.1.len
    try (simp only[setS,zab,zac,zad,zaf,qAS,qAQ,qAT,qAR,qAL,qAI,qAK,qAJ,qAD,qAB,qAC,qAA,qAP,qAO,qAM,qAN,qAH,qAF,qAE,qAG,↓reduceIte,List.map_cons,List.map_nil,zbc,zbb,zbf,zai,zam,zaq,zal,Nat.reduceAdd,Nat.zero_add])
    refine zfn (b:=b1) (b':=b8) (i:=0) (len:=N) (cap:=N) (sz:=1) (l:=bag2.map fun x=>I x) (T:=3) (l':= [.v (.slice (some ⟨b1,0,none⟩) N N),zhl melds]) (T':=41) qAI (by simp only[zaa,qAS,qAQ,qAT,qAR,qAL,qAI,qAK,qAJ,qAD,qAB,qAC,qAA,qAP,qAO,qAM,qAN,qAH,qAF,qAE,qAG,↓reduceIte]) yR (by simp only[zaa,qAS,qAQ,qAT,qAR,qAL,qAI,qAK,qAJ,qAD,qAB,qAC,qAA,qAP,qAO,qAM,qAN,qAH,qAF,qAE,qAG,↓reduceIte]) (by rw[List.length_map];omega) ⟨Nat.le_refl _,hNm⟩ ?_
    have hch:=zgm bag2 []
    rw[hol,List.append_nil]at hch
    rw[hch]
    simp only[zal,setS,zab,zac,qAS,qAQ,qAT,qAR,qAL,qAI,qAK,qAJ,qAD,qAB,qAC,qAA,qAP,qAO,qAM,qAN,qAH,qAF,qAE,qAG,↓reduceIte]
    refine zbj [(bs,srcO z)] (by(simp (disch:=omega) only[go_sem,dopV,yV0,↓reduceIte,Nat.reduceEqDiff,Nat.reduceLT,Nat.reduceLeDiff,Nat.reduceAdd,Nat.reduceMul,Nat.reduceSub,Int.reduceToNat,Int.reduceLT,Int.reduceLE,Int.reduceEq,IntWalk.toNatUp,IntWalk.iteOmega,IntWalk.i64_in,V.flat,V.one,setS,setAll,qAS,qAQ,qAT,qAR,qAL,qAI,qAK,qAJ,qAD,qAB,qAC,qAA,qAP,qAO,qAM,qAN,qAH,qAF,qAE,qAG];exact rfl)) (fun b o e=>?_) ?_
    ·simp only[zaa,zah]at e ⊢
     split at e
     ·rename_i hb;subst hb;simp only[qAS,qAQ,qAT,qAR,qAL,qAI,qAK,qAJ,qAD,qAB,qAC,qAA,qAP,qAO,qAM,qAN,qAH,qAF,qAE,qAG,↓reduceIte];exact e
     ·cases e
    ·exact⟨⟨⟨bag2,melds⟩,rfl,⟨H2.out.1.bag.mono (by omega),hml,HF.out.2⟩⟩,z,rfl⟩
end Go.XL
namespace Go.XL
open Go.Proofs
open Classical in
theorem DS.ownI2 {P:Program} {n:Nat} {r:Rr} {Q:VEnv→Sto→Prop} {k:List Fr} {E:VEnv} {S:Sto} {t u b cap T:Nat} {l:List Int} {j:List V} (hE:zbr E t=some (.v (.slice (some ⟨b,0,none⟩) l.length cap))) (hU:zbr E u=some (.v (.slice (some ⟨b,0,none⟩) l.length cap))) (hS:zae S b=some (.cells ((l.map fun x=>I x)++j) T)) (hc:l.length≤cap∧cap≤maxLen) (hj:l.length+j.length=cap)
  (q:DS P n r Q k ((t, .own false T 1 (l.map cI))::(u, .lst (l.map cI))::E) (delS b S)):DS P n r Q k E S:=fun K W a w ⟨K',D,hv,hold,env,hb,ha,s⟩ hw=>by
 obtain⟨o1,o2,cs,o3,o4,o5,o6⟩:=s.obj b _ hS
 have hcl:=o4.length
 simp only[List.length_append,List.length_map]at hcl
 have hpre:PreV hv (addB hv b (.cells (cs.take l.length).toArray T (0,0))):=zgs (.inl o2)
 obtain⟨y,e1,e2,_⟩:=s.slot t _ hE
 simp only[V.Rl]at e2;subst e2
 have hC:RlC (addB hv b (.cells (cs.take l.length).toArray T (0,0))) (some ⟨b,0,none⟩) 0 (((l.map fun x=>I x)).map V.peek):=by
  have h1:=o4.take l.length
  rw[List.take_left' (by simp)]at h1
  exact zil (T:=T) (f:=(0,0)) (cs:=cs.take l.length) (i:=0) ⟨#[],by simp[addB]⟩ rfl (zej (zcm hpre _ _ h1)) (fun u hu=>o5 u (List.mem_of_mem_take hu))
 have hrd:RlE (addB hv b (.cells (cs.take l.length).toArray T (0,0))) (some ⟨b,0,none⟩) 0 (l.map cI):=RlE.of_flat (by
  rw[zds]
  have e:((l.map fun x=>I x)).map V.peek=l.map I:=by rw[List.map_map];rfl
  rw[e]at hC
  exact hC)
 refine q K W a w ⟨K',D,addB hv b (.cells (cs.take l.length).toArray T (0,0)),fun g=>if g=b then some (.slot t)else hold g,env,hb,ha,⟨zhn s.pre o3 ⟨(cs.drop l.length).toArray,by rw[List.append_toArray,List.take_append_drop]⟩,fun u' v e=>?_,fun b' o e=>?_,fun g x e=>?_,s.base,s.vbase.1.trans hpre,fun j' hj'=>?_⟩⟩ hw
 ·simp only[zbr]at e
  by_cases hu:t=u'
  ·subst hu
   simp only[if_true,Option.some.injEq]at e;subst e
   refine⟨_,e1,?_,?_⟩
   ·simp only[V.Rl]
    exact⟨some ⟨b,0,none⟩,cap,1,by rw[List.length_map],by rw[List.length_map];exact hc.1,hc.2,(fun c hc=>by obtain⟨z,-,rfl⟩:=List.mem_map.1 hc;rfl),hrd⟩
   ·refine .inr ⟨b,cap,cs.toArray,(cs.take l.length).toArray,by rw[List.length_map],by simp,o3,by rw[List.length_map];exact hc.1,hc.2,by simp;omega,by rw[zeh],by simp;omega,(fun c hc=>by obtain⟨z,-,rfl⟩:=List.mem_map.1 hc;rfl)⟩
  ·rw[if_neg hu]at e
   by_cases hu2:u'=u
   ·subst hu2
    rw[if_pos rfl]at e
    simp only[Option.some.injEq]at e;subst e
    obtain⟨z,h1,h2,h3⟩:=s.slot u' _ hU
    simp only[V.Rl]at h2;subst h2
    refine⟨_,h1,?_,trivial⟩
    simp only[V.Rl]
    exact⟨some ⟨b,0,none⟩,cap,1,by rw[List.length_map],by rw[List.length_map];exact hc.1,hc.2,(fun c hc=>by obtain⟨z,-,rfl⟩:=List.mem_map.1 hc;rfl),hrd⟩
   rw[if_neg (fun h=>hu2 h.symm)]at e
   obtain⟨z,h1,h2,h3⟩:=s.slot u' v e
   refine⟨z,h1,V.Rl_mono hpre v z h2,h3.keep fun g ob a1 a2 a3=>?_⟩
   have hne:g≠b:=fun e=>by subst e;rw[o2]at a2;cases a2
   exact⟨rfl,zcn _ hne,by simp[hne,a1]⟩
 ·rw[zbz]at e
  split at e
  ·cases e
  ·rename_i hb'
   obtain⟨r1,r2,r3⟩:=s.obj b' o e
   refine⟨r1,by rw[zcn _ hb'];exact r2,Ob.keep r3 hpre rfl fun g i ob a1 a2 a3=>?_⟩
   have hne:g≠b:=fun e=>by subst e;rw[o2]at a2;cases a2
   exact⟨rfl,zcn _ hne,by simp[hne,a1]⟩
 ·have e':(if g=b then some (Hd.slot t)else hold g)=some x:=e
  split at e'
  ·rename_i h;subst h;exact o1
  ·exact s.held g x e'
 ·have hne:j'≠b:=fun e=>by subst e;exact o1 hj'
  rw[zcn _ hne];exact s.vbase.2 j' hj'
end Go.XL
namespace Go.XL
open Go.Proofs
set_option maxRecDepth 100000
set_option maxHeartbeats 8000000
theorem yX16 {p:Prop} (h:p:=by(simp (disch:=omega) only[go_sem,dopV,yV0,↓reduceIte,Nat.reduceEqDiff,Nat.reduceLT,Nat.reduceLeDiff,Nat.reduceAdd,Nat.reduceMul,Nat.reduceSub,Int.reduceToNat,Int.reduceLT,Int.reduceLE,Int.reduceEq,IntWalk.toNatUp,IntWalk.iteOmega,IntWalk.i64_in,V.flat,V.one,List.map_append,ints];try exact rfl)):p:=h
theorem ypl (bs:Nat) (x:Int) (s:GSet) (h:zbo s=0) (f:Form) (hf:zgw s f=0):QC Tryz.prog 72 [ptr bs,s.val,f.val] bs x (fun u=> ∃(hd:Hnd) (r:Bool),u = .tup [hd.val,Bo r]∧HandIn s.plain.toNat hd):=by
 have ok:=zcb h
 have hp:=zda s ok.few
 have hpl:=ok.plain
 have hme:=ok.melds
 have hco:=ok.copies
 have hfi:=yot hf
 have hbu:=zzv bs x s h
 have hkn:=yoj bs x s h
 have hdi:=zun bs x s h ((3*s.melds+2) / 2) (by omega)
 have hdd:(3*s.melds+2).tdiv 2=(3*s.melds+2) / 2:=Int.tdiv_eq_ediv_of_nonneg (by omega)
 have hN34:s.plain.toNat≤34:=by omega
 obtain⟨wh,fk,ag⟩:=f
 have hwh:=hfi.what
 have HS:=Box.mk h
 have HFI:=Box.mk hfi
 dsimp only at hwh
 clear ok h hf hfi
 unfold QC
 refine DC.of_run Tryz.func72 rfl Tryz.ntmps72 Tryz.results72 (by simp) (fun _ _=>?_);simp only[zag,zaj,go_sem,Nat.zero_add,Nat.reduceAdd]
 repeat' (first|refine yJ ?_|(refine zao (t:=4) yU yE yU ?_;simp only[yS3])|(refine zao (t:=5) yU yE yU ?_;simp only[yS3])|fail)
 refine zbd yR yU yU (fun b6 h6=>?_)
 have n6: ¬bs=b6:=fun e=>by rw[zaa,if_pos e]at h6;cases h6
 have n6': ¬b6=bs:=fun e=>n6 e.symm
 clear h6
 have hz:(Value.agg #[Value.slice none 0 0,Value.slice none 0 0]).cells.toList.map V.v= [.v (.slice none 0 0), .v (.slice none 0 0)]:=rfl
 rw[hz]
 clear hz
 by_cases w2:wh=2
 ·have w2':(wh=2)=True:=eq_true w2
  clear w2 hbu hkn
  repeat' (first|(with_reducible (refine zbs (t:=8) yU yO yE ?_))|refine yJT ?_|fail)
  refine DS.call (dst:=some 38) [(bs,srcO x)] [(b6,Ob.cells [.v (.slice none 0 0), .v (.slice none 0 0)] 41)] inferInstance hdi yR yH (fun d o e=>?_) (fun d o e=>?_) (fun u S0 hu hdis=>?_)
  ·rw[zdj n6']
   simp only[zaa,zah]at e ⊢
   split at e
   ·rename_i hq;subst hq;simp only[↓reduceIte];exact e
   ·cases e
  ·simp only[zaa,zah]at e ⊢
   split at e
   ·rename_i hq;subst hq;simp only[n6,↓reduceIte];exact⟨e,trivial⟩
   ·cases e
  obtain⟨l,g,x',rfl,hg,rfl,hk,hl⟩:=hu
  have hnb:NBg (bs:: [(b6,Ob.cells [.v (.slice none 0 0), .v (.slice none 0 0)] 41)].map Prod.fst) g:=fun b cap j hb hm=>by
   simp only[List.map_cons,List.map_nil,List.mem_cons,List.not_mem_nil,or_false]at hm
   rcases hm with rfl|rfl
   ·exact hg.nb _ cap j hb (by simp)
   ·have h1:=hg.nb
    have h2:zae ((bs,srcO x')::SRg 3 g) b=some (.cells (g.l.flatten++j) 3):=by
     obtain⟨gl,blk⟩:=g
     dsimp only at hb
     subst hb
     simp only[zaa,SRg,n6,↓reduceIte]
    have h3:=hdis b _ h2
    rw[zaa,if_pos rfl]at h3;cases h3
  refine zbu (S':=(bs,srcO x')::([(b6,Ob.cells [.v (.slice none 0 0), .v (.slice none 0 0)] 41)]++SRg 3 g)) (fun d o e=>zrl (L:= [(b6,Ob.cells [.v (.slice none 0 0), .v (.slice none 0 0)] 41)]) hnb d o e) ?_
  have hdel:=hnb.del 3 (c:=bs) (by simp)
  have HK:=Box.mk (And.intro hk (And.intro hdi hdis))
  clear hk hdis hdi
  simp only[zbk,zad,zaf]
  obtain⟨gl,blk⟩:=g
  have hgl:gl=l.map cI:=hg.l
  subst hgl
  cases blk with
  | none =>
   have hl0:l= []:=by
    rcases l with _|⟨e0,l2⟩
    ·rfl
    ·obtain⟨bq,cq,jq,hbad⟩:=hg.some (by simp)
     cases hbad
   subst hl0
   simp only[GR.cell_none]
   refine zbu (S':= [(bs,srcO x'),(b6,Ob.cells [.v (.slice none 0 0), .v (.slice none 0 0)] 41)]) (fun d o e=>e) ?_
   have HKK:=Box.mk (And.intro (KindsIn.nil s.plain.toNat) (show([]:List Int).length≤100 by simp))
   cases ag with
   | false =>
    repeat' (first|(with_reducible refine zcj (t:=8) yU yO yX0 ?_;simp only[yS2,Nat.reduceEqDiff,↓reduceIte])|(with_reducible refine zcj (t:=9) yU yO yX0 ?_;simp only[yS2,Nat.reduceEqDiff,↓reduceIte])|(with_reducible refine zcj (t:=60) yU yO yX0 ?_;simp only[yS2,Nat.reduceEqDiff,↓reduceIte])|with_reducible refine zak yU yU yX0 ?_|refine yJ ?_|(with_reducible first|(refine zax yX0 ?_;refine zbl ?_)|(refine zbi yU yX0 ?_;refine zcl ?_))|(refine DS.append (mm:=false) yU yX0 yX0 yU (by decide) yX0 yO2 yX0 yX14 yLM yQ2 ?_;simp only[yS2,Nat.reduceEqDiff,↓reduceIte])|fail)
    refine zhh inferInstance (zfv s HS.out [] HKK.out.1 HKK.out.2) yR yH (fun u hu=>?_)
    obtain⟨bag,rfl,hB⟩:=hu
    have HB:=Box.mk hB
    clear hB
    repeat' (first|with_reducible refine zak yU yU yX0 ?_|refine yJ ?_|(refine zbt (t:=17) yU yX0 yU (fun _=>yX0) yX0 yU yV1 (fun _=>yN1) ?_;simp only[go_sem])|fail)
    refine zbx (id:=27) ([(bs,srcO x'),(b6,Ob.cells [.v (.slice none 0 0), .v (.slice none 0 0)] 41)]) ([]) [0,1,2,3] 4 yKR mixed yP1 yP2 ((fun d o e=>?_)) ((fun d o e=>by cases e)) ?_
    ·refine⟨?_,rfl⟩
     first|exact e|(rw[zdj n6'];exact e)
    repeat' (first|with_reducible refine zau yU yU yU yE ?_|fail)
    refine zfg inferInstance (zhb s HS.out ⟨bag,[]⟩ 1000 HB.out.bd (by rw[HB.out.len];omega) (by omega) (Nat.zero_le _) (fun g hg=>by cases hg)) (fun v S' ⟨r,hr⟩=>⟨_,hr⟩) yR yH (fun u hu=>?_)
    obtain⟨S',r,hr⟩:=hu
    cases hr
    simp only[zas,zat,Nat.reduceEqDiff,↓reduceIte]
    repeat' (first|with_reducible refine zak yU yU yX0 ?_|refine yJ ?_|(refine DS.store yR yX0 yX0 yX0 yX0 yU yQ ?_;simp only[yS1];try simp only[yS2,Nat.reduceEqDiff,↓reduceIte])|with_reducible refine zbg ?_|fail)
    simp only[setS,zab,zac,zad,zaf,n6,n6',↓reduceIte,List.map_cons,List.map_nil,zbc,zbb,zbf,zai,zam,zaq,zal,Nat.reduceAdd,Nat.zero_add]
    refine zbj [(bs,srcO x')] (by(simp (disch:=omega) only[go_sem,dopV,yV0,↓reduceIte,Nat.reduceEqDiff,Nat.reduceLT,Nat.reduceLeDiff,Nat.reduceAdd,Nat.reduceMul,Nat.reduceSub,Int.reduceToNat,Int.reduceLT,Int.reduceLE,Int.reduceEq,IntWalk.toNatUp,IntWalk.iteOmega,IntWalk.i64_in,V.flat,V.one,setS,setAll,n6,n6'];exact rfl)) (fun b o e=>?_) ?_
    ·simp only[zaa,zah]at e ⊢
     split at e
     ·rename_i hb;subst hb;simp only[n6',↓reduceIte];exact e
     ·cases e
    ·exact⟨⟨⟨bag,[]⟩,r,rfl,⟨HB.out,Nat.zero_le _,fun g hg=>by cases hg⟩⟩,x',rfl⟩
   | true =>
    repeat' (first|(with_reducible refine zcj (t:=8) yU yO yX0 ?_;simp only[yS2,Nat.reduceEqDiff,↓reduceIte])|(with_reducible refine zcj (t:=9) yU yO yX0 ?_;simp only[yS2,Nat.reduceEqDiff,↓reduceIte])|(with_reducible refine zcj (t:=60) yU yO yX0 ?_;simp only[yS2,Nat.reduceEqDiff,↓reduceIte])|with_reducible refine zak yU yU yX0 ?_|refine yJ ?_|(with_reducible first|(refine zax yX0 ?_;refine zbl ?_)|(refine zbi yU yX0 ?_;first|refine GG.run ?_|refine zcl ?_))|(refine DS.append (mm:=false) yU yX0 yX0 yU (by decide) yX0 yO2 yX0 yX14 yLM yQ2 ?_;simp only[yS2,Nat.reduceEqDiff,↓reduceIte])|fail)
    refine zhh inferInstance (zfv s HS.out [] HKK.out.1 HKK.out.2) yR yH (fun u hu=>?_)
    obtain⟨bag,rfl,hB⟩:=hu
    have HB:=Box.mk hB
    clear hB
    repeat' (first|with_reducible refine zak yU yU yX0 ?_|refine yJ ?_|(refine zbt (t:=17) yU yX0 yU (fun _=>yX0) yX0 yU yV1 (fun _=>yN1) ?_;simp only[go_sem])|fail)
    refine zbx (id:=27) ([(bs,srcO x'),(b6,Ob.cells [.v (.slice none 0 0), .v (.slice none 0 0)] 41)]) ([]) [0,1,2,3] 4 yKR mixed yP1 yP2 ((fun d o e=>?_)) ((fun d o e=>by cases e)) ?_
    ·refine⟨?_,rfl⟩
     first|exact e|(rw[zdj n6'];exact e)
    repeat' (first|with_reducible refine zau yU yU yU yE ?_|fail)
    refine zfg inferInstance (zhb s HS.out ⟨bag,[]⟩ 1000 HB.out.bd (by rw[HB.out.len];omega) (by omega) (Nat.zero_le _) (fun g hg=>by cases hg)) (fun v S' ⟨r,hr⟩=>⟨_,hr⟩) yR yH (fun u hu=>?_)
    obtain⟨S',r,hr⟩:=hu
    cases hr
    simp only[zas,zat,Nat.reduceEqDiff,↓reduceIte]
    repeat' (first|with_reducible refine zak yU yU yX0 ?_|refine yJ ?_|(refine DS.store yR yX0 yX0 yX0 yX0 yU yQ ?_;simp only[yS1];try simp only[yS2,Nat.reduceEqDiff,↓reduceIte])|with_reducible refine zbg ?_|fail)
    simp only[setS,zab,zac,zad,zaf,n6,n6',↓reduceIte,List.map_cons,List.map_nil,zbc,zbb,zbf,zai,zam,zaq,zal,Nat.reduceAdd,Nat.zero_add]
    refine zbj [(bs,srcO x')] (by(simp (disch:=omega) only[go_sem,dopV,yV0,↓reduceIte,Nat.reduceEqDiff,Nat.reduceLT,Nat.reduceLeDiff,Nat.reduceAdd,Nat.reduceMul,Nat.reduceSub,Int.reduceToNat,Int.reduceLT,Int.reduceLE,Int.reduceEq,IntWalk.toNatUp,IntWalk.iteOmega,IntWalk.i64_in,V.flat,V.one,setS,setAll,n6,n6'];exact rfl)) (fun b o e=>?_) ?_
    ·simp only[zaa,zah]at e ⊢
     split at e
     ·rename_i hb;subst hb;simp only[n6',↓reduceIte];exact e
     ·cases e
    ·exact⟨⟨⟨bag,[]⟩,r,rfl,⟨HB.out,Nat.zero_le _,fun g hg=>by cases hg⟩⟩,x',rfl⟩
  | some q =>
   obtain⟨bq,cq,jq⟩:=q
   have h1:=hnb bq cq jq rfl
   simp only[List.map_cons,List.map_nil,List.mem_cons,List.not_mem_nil,or_false,not_or]at h1
   obtain⟨nq1,nq2⟩:=h1
   have nq1': ¬bs=bq:=fun e=>nq1 e.symm
   have nq2': ¬b6=bq:=fun e=>nq2 e.symm
   have hok:GR.At 3 1 _ (l.map cI) bq cq jq:=hg.ok
   have q1:=hok.len
   have q2:=hok.le
   have q3:=hok.cap
   rw[List.length_map]at q1 q2
   have eo:(l.map cI).flatten++jq=(l.map fun x=>I x)++jq:=by rw[zds]
   simp only[SRg,GR.cell_some,List.length_map,eo]
   clear hok hg hdel hnb eo
   have q2':(l.length:Int)≤34:=by omega
   have Q:=Box.mk (And.intro q1 (And.intro q2 q3))
   have HL:=Box.mk hl
   clear q1 q2 q3 hl
   cases ag with
   | false =>
    repeat' (first|with_reducible refine zak yU yU yX0 ?_|refine yJ ?_|(with_reducible first|(refine zax yX0 ?_;refine zbl ?_)|(refine zbi yU yX0 ?_;refine zcl ?_))|fail)
    refine DS.ownI2 (t:=60) (u:=61) (b:=bq) (cap:=cq) (l:=l) (j:=jq) (T:=3) yH yH (by simp only[zaa,nq1,nq2,nq1',nq2',n6,n6',↓reduceIte]) ⟨Q.out.2.1,Q.out.2.2⟩ (by have:=Q.out.1;omega) ?_
    simp only[zab,zac,nq1,nq2,nq1',nq2',n6,n6',↓reduceIte]
    have hkk:KindsIn s.plain.toNat (l++l):=KindsIn.app HK.out.1 HK.out.1
    have hkL:(l++l).length≤100:=by have:=HL.out;rw[List.length_append];omega
    have HKK:=Box.mk (And.intro hkk hkL)
    clear hkk hkL
    repeat' (first|(with_reducible refine zcj (t:=8) yU yO yX0 ?_;simp only[yS2,Nat.reduceEqDiff,↓reduceIte])|with_reducible refine zak yU yU yX0 ?_|refine yJ ?_|(refine DS.append (mm:=false) yU yX0 yX0 yU (by decide) yX0 yO2 yX0 yX14 yLM yQ2 ?_;simp only[yS2,Nat.reduceEqDiff,↓reduceIte])|fail)
    refine zhh inferInstance (zfv s HS.out (l++l) HKK.out.1 HKK.out.2) yR yX16 (fun u hu=>?_)
    obtain⟨bag,rfl,hB⟩:=hu
    have HB:=Box.mk hB
    clear hB
    repeat' (first|with_reducible refine zak yU yU yX0 ?_|refine yJ ?_|(refine zbt (t:=17) yU yX0 yU (fun _=>yX0) yX0 yU yV1 (fun _=>yN1) ?_;simp only[go_sem])|fail)
    refine zbx (id:=27) ([(bs,srcO x'),(b6,Ob.cells [.v (.slice none 0 0), .v (.slice none 0 0)] 41)]) ([]) [0,1,2,3] 4 yKR mixed yP1 yP2 ((fun d o e=>?_)) ((fun d o e=>by cases e)) ?_
    ·refine⟨?_,rfl⟩
     first|exact e|(rw[zdj n6'];exact e)
    repeat' (first|with_reducible refine zau yU yU yU yE ?_|fail)
    refine zfg inferInstance (zhb s HS.out ⟨bag,[]⟩ 1000 HB.out.bd (by rw[HB.out.len];omega) (by omega) (Nat.zero_le _) (fun g hg=>by cases hg)) (fun v S' ⟨r,hr⟩=>⟨_,hr⟩) yR yH (fun u hu=>?_)
    obtain⟨S',r,hr⟩:=hu
    cases hr
    simp only[zas,zat,Nat.reduceEqDiff,↓reduceIte]
    repeat' (first|with_reducible refine zak yU yU yX0 ?_|refine yJ ?_|(refine DS.store yR yX0 yX0 yX0 yX0 yU yQ ?_;simp only[yS1];try simp only[yS2,Nat.reduceEqDiff,↓reduceIte])|with_reducible refine zbg ?_|fail)
    simp only[setS,zab,zac,zad,zaf,n6,n6',↓reduceIte,List.map_cons,List.map_nil,zbc,zbb,zbf,zai,zam,zaq,zal,Nat.reduceAdd,Nat.zero_add]
    refine zbj [(bs,srcO x')] (by(simp (disch:=omega) only[go_sem,dopV,yV0,↓reduceIte,Nat.reduceEqDiff,Nat.reduceLT,Nat.reduceLeDiff,Nat.reduceAdd,Nat.reduceMul,Nat.reduceSub,Int.reduceToNat,Int.reduceLT,Int.reduceLE,Int.reduceEq,IntWalk.toNatUp,IntWalk.iteOmega,IntWalk.i64_in,V.flat,V.one,setS,setAll,n6,n6'];exact rfl)) (fun b o e=>?_) ?_
    ·simp only[zaa,zah]at e ⊢
     split at e
     ·rename_i hb;subst hb;simp only[n6',↓reduceIte];exact e
     ·cases e
    ·exact⟨⟨⟨bag,[]⟩,r,rfl,⟨HB.out,Nat.zero_le _,fun g hg=>by cases hg⟩⟩,x',rfl⟩
   | true =>
    by_cases hlt:(1:Int)<(l.length:Int)
    ·by_cases hc4:s.copies=4
     ·have hc4':(s.copies=4)=True:=eq_true hc4
      clear hc4
      have co:=zck bs x' 2 (by omega)
      obtain⟨od,hod⟩: ∃od,zcu x' 2=od:=⟨_,rfl⟩
      obtain⟨x2,hx2⟩: ∃x2,stepX x'=x2:=⟨_,rfl⟩
      rw[hod,hx2]at co
      clear hod hx2
      cases od with
      | false =>
       have hlt':((1:Int)<(l.length:Int))=True:=eq_true hlt
       clear hlt
       repeat' (first|with_reducible refine zak yU yU yX0 ?_|refine yJ ?_|(with_reducible first|(refine zax yX0 ?_;refine zbl ?_)|(refine zbi yU yX0 ?_;refine GG.run ?_))|(refine zaw inferInstance (co) yR yX6 yX6 ?_;(try simp only[zab,zac,↓reduceIte, *]))|fail)
       try (simp only[setS,zab,zac,nq1,nq2,nq1',nq2',n6,n6',↓reduceIte,zaq,zal])
       refine DS.ownI2 (t:=60) (u:=61) (b:=bq) (cap:=cq) (l:=l) (j:=jq) (T:=3) yH yH (by simp only[zaa,nq1,nq2,nq1',nq2',n6,n6',↓reduceIte]) ⟨Q.out.2.1,Q.out.2.2⟩ (by have:=Q.out.1;omega) ?_
       simp only[zab,zac,nq1,nq2,nq1',nq2',n6,n6',↓reduceIte]
       have hkk:KindsIn s.plain.toNat (l++l):=KindsIn.app HK.out.1 HK.out.1
       have hkL:(l++l).length≤100:=by have:=HL.out;rw[List.length_append];omega
       have HKK:=Box.mk (And.intro hkk hkL)
       clear hkk hkL
       repeat' (first|(with_reducible refine zcj (t:=8) yU yO yX0 ?_;simp only[yS2,Nat.reduceEqDiff,↓reduceIte])|with_reducible refine zak yU yU yX0 ?_|refine yJ ?_|(refine DS.append (mm:=false) yU yX0 yX0 yU (by decide) yX0 yO2 yX0 yX14 yLM yQ2 ?_;simp only[yS2,Nat.reduceEqDiff,↓reduceIte])|fail)
       refine zhh inferInstance (zfv s HS.out (l++l) HKK.out.1 HKK.out.2) yR yX16 (fun u hu=>?_)
       obtain⟨bag,rfl,hB⟩:=hu
       have HB:=Box.mk hB
       clear hB
       repeat' (first|with_reducible refine zak yU yU yX0 ?_|refine yJ ?_|(refine zbt (t:=17) yU yX0 yU (fun _=>yX0) yX0 yU yV1 (fun _=>yN1) ?_;simp only[go_sem])|fail)
       refine zbx (id:=27) ([(bs,srcO x2),(b6,Ob.cells [.v (.slice none 0 0), .v (.slice none 0 0)] 41)]) ([]) [0,1,2,3] 4 yKR mixed yP1 yP2 ((fun d o e=>?_)) ((fun d o e=>by cases e)) ?_
       ·refine⟨?_,rfl⟩
        first|exact e|(rw[zdj n6'];exact e)
       repeat' (first|with_reducible refine zau yU yU yU yE ?_|fail)
       refine zfg inferInstance (zhb s HS.out ⟨bag,[]⟩ 1000 HB.out.bd (by rw[HB.out.len];omega) (by omega) (Nat.zero_le _) (fun g hg=>by cases hg)) (fun v S' ⟨r,hr⟩=>⟨_,hr⟩) yR yH (fun u hu=>?_)
       obtain⟨S',r,hr⟩:=hu
       cases hr
       simp only[zas,zat,Nat.reduceEqDiff,↓reduceIte]
       repeat' (first|with_reducible refine zak yU yU yX0 ?_|refine yJ ?_|(refine DS.store yR yX0 yX0 yX0 yX0 yU yQ ?_;simp only[yS1];try simp only[yS2,Nat.reduceEqDiff,↓reduceIte])|with_reducible refine zbg ?_|fail)
       simp only[setS,zab,zac,zad,zaf,n6,n6',↓reduceIte,List.map_cons,List.map_nil,zbc,zbb,zbf,zai,zam,zaq,zal,Nat.reduceAdd,Nat.zero_add]
       refine zbj [(bs,srcO x2)] (by(simp (disch:=omega) only[go_sem,dopV,yV0,↓reduceIte,Nat.reduceEqDiff,Nat.reduceLT,Nat.reduceLeDiff,Nat.reduceAdd,Nat.reduceMul,Nat.reduceSub,Int.reduceToNat,Int.reduceLT,Int.reduceLE,Int.reduceEq,IntWalk.toNatUp,IntWalk.iteOmega,IntWalk.i64_in,V.flat,V.one,setS,setAll,n6,n6'];exact rfl)) (fun b o e=>?_) ?_
       ·simp only[zaa,zah]at e ⊢
        split at e
        ·rename_i hb;subst hb;simp only[n6',↓reduceIte];exact e
        ·cases e
       ·exact⟨⟨⟨bag,[]⟩,r,rfl,⟨HB.out,Nat.zero_le _,fun g hg=>by cases hg⟩⟩,x2,rfl⟩
      | true =>
       rcases l with _|⟨e0,_|⟨e1,l2⟩⟩
       ·exact absurd hlt (by simp)
       ·exact absurd hlt (by simp)
       ·have eo2:((e0::e1::l2).map fun x=>I x)++jq=I e0::I e1::((l2.map fun x=>I x)++jq):=rfl
        rw[eo2]
        clear eo2
        obtain⟨L,hL⟩: ∃L,e0::e0::l2=L:=⟨_,rfl⟩
        have hKL:KindsIn s.plain.toNat L:=hL▸(fun z hz=>HK.out.1 z (by simp only[List.mem_cons]at hz ⊢;rcases hz with h|h|h <;> simp[h]))
        have hLL:L.length=(e0::e1::l2).length:=by rw[←hL];rfl
        have hl22:((1:Int)<((l2.length+1+1:Nat):Int))=True:=eq_true (by omega)
        have q2L:(L.length:Int)≤34:=by rw[hLL];exact q2'
        have HKL:=Box.mk (And.intro hKL (And.intro hLL hL))
        clear hKL hLL hL
        repeat' (first|with_reducible refine zak yU yU yX0 ?_|refine yJ ?_|(with_reducible first|(refine zax yX0 ?_;refine zay ?_)|(refine zbi yU yX0 ?_;refine GG.run ?_))|(refine zaw inferInstance (co) yR yX6 yX6 ?_;(try simp only[zab,zac,↓reduceIte, *]))|(refine DS.store yR yX0 yX0 yX0 yX0 yU yQ ?_;simp only[yS1];try simp only[yS2,Nat.reduceEqDiff,↓reduceIte])|fail)
        try (simp only[setS,zab,zac,nq1,nq2,nq1',nq2',n6,n6',↓reduceIte,zaq,zal])
        refine DS.ownI2 (t:=60) (u:=61) (b:=bq) (cap:=cq) (l:=(e0::e0::l2)) (j:=jq) (T:=3) yH yH (by simp only[zaa,nq1,nq2,nq1',nq2',n6,n6',↓reduceIte];exact rfl) ⟨Q.out.2.1,Q.out.2.2⟩ (by have:=Q.out.1;simp only[List.length_cons]at this ⊢;omega) ?_
        rw[HKL.out.2.2]
        simp only[zab,zac,nq1,nq2,nq1',nq2',n6,n6',↓reduceIte]
        have hkk:KindsIn s.plain.toNat (L++L):=KindsIn.app HKL.out.1 HKL.out.1
        have hkL:(L++L).length≤100:=by have:=HL.out;rw[List.length_append];rw[HKL.out.2.1];omega
        have HKK:=Box.mk (And.intro hkk hkL)
        clear hkk hkL
        repeat' (first|(with_reducible refine zcj (t:=8) yU yO yX0 ?_;simp only[yS2,Nat.reduceEqDiff,↓reduceIte])|with_reducible refine zak yU yU yX0 ?_|refine yJ ?_|(refine DS.append (mm:=false) yU yX0 yX0 yU (by decide) yX0 yO2 yX0 yX14 yLM yQ2 ?_;simp only[yS2,Nat.reduceEqDiff,↓reduceIte])|fail)
        refine zhh inferInstance (zfv s HS.out (L++L) HKK.out.1 HKK.out.2) yR yX16 (fun u hu=>?_)
        obtain⟨bag,rfl,hB⟩:=hu
        have HB:=Box.mk hB
        clear hB
        repeat' (first|with_reducible refine zak yU yU yX0 ?_|refine yJ ?_|(refine zbt (t:=17) yU yX0 yU (fun _=>yX0) yX0 yU yV1 (fun _=>yN1) ?_;simp only[go_sem])|fail)
        refine zbx (id:=27) ([(bs,srcO x2),(b6,Ob.cells [.v (.slice none 0 0), .v (.slice none 0 0)] 41)]) ([]) [0,1,2,3] 4 yKR mixed yP1 yP2 ((fun d o e=>?_)) ((fun d o e=>by cases e)) ?_
        ·refine⟨?_,rfl⟩
         first|exact e|(rw[zdj n6'];exact e)
        repeat' (first|with_reducible refine zau yU yU yU yE ?_|fail)
        refine zfg inferInstance (zhb s HS.out ⟨bag,[]⟩ 1000 HB.out.bd (by rw[HB.out.len];omega) (by omega) (Nat.zero_le _) (fun g hg=>by cases hg)) (fun v S' ⟨r,hr⟩=>⟨_,hr⟩) yR yH (fun u hu=>?_)
        obtain⟨S',r,hr⟩:=hu
        cases hr
        simp only[zas,zat,Nat.reduceEqDiff,↓reduceIte]
        repeat' (first|with_reducible refine zak yU yU yX0 ?_|refine yJ ?_|(refine DS.store yR yX0 yX0 yX0 yX0 yU yQ ?_;simp only[yS1];try simp only[yS2,Nat.reduceEqDiff,↓reduceIte])|with_reducible refine zbg ?_|fail)
        simp only[setS,zab,zac,zad,zaf,n6,n6',↓reduceIte,List.map_cons,List.map_nil,zbc,zbb,zbf,zai,zam,zaq,zal,Nat.reduceAdd,Nat.zero_add]
        refine zbj [(bs,srcO x2)] (by(simp (disch:=omega) only[go_sem,dopV,yV0,↓reduceIte,Nat.reduceEqDiff,Nat.reduceLT,Nat.reduceLeDiff,Nat.reduceAdd,Nat.reduceMul,Nat.reduceSub,Int.reduceToNat,Int.reduceLT,Int.reduceLE,Int.reduceEq,IntWalk.toNatUp,IntWalk.iteOmega,IntWalk.i64_in,V.flat,V.one,setS,setAll,n6,n6'];exact rfl)) (fun b o e=>?_) ?_
        ·simp only[zaa,zah]at e ⊢
         split at e
         ·rename_i hb;subst hb;simp only[n6',↓reduceIte];exact e
         ·cases e
        ·exact⟨⟨⟨bag,[]⟩,r,rfl,⟨HB.out,Nat.zero_le _,fun g hg=>by cases hg⟩⟩,x2,rfl⟩
        all_goals (exfalso;omega)
     ·have hc4':(s.copies=4)=False:=eq_false hc4
      have hlt':((1:Int)<(l.length:Int))=True:=eq_true hlt
      clear hc4 hlt
      repeat' (first|with_reducible refine zak yU yU yX0 ?_|refine yJ ?_|(with_reducible first|(refine zax yX0 ?_;refine zbl ?_)|(refine zbi yU yX0 ?_;first|refine GG.run ?_|refine zcl ?_))|fail)
      refine DS.ownI2 (t:=60) (u:=61) (b:=bq) (cap:=cq) (l:=l) (j:=jq) (T:=3) yH yH (by simp only[zaa,nq1,nq2,nq1',nq2',n6,n6',↓reduceIte]) ⟨Q.out.2.1,Q.out.2.2⟩ (by have:=Q.out.1;omega) ?_
      simp only[zab,zac,nq1,nq2,nq1',nq2',n6,n6',↓reduceIte]
      have hkk:KindsIn s.plain.toNat (l++l):=KindsIn.app HK.out.1 HK.out.1
      have hkL:(l++l).length≤100:=by have:=HL.out;rw[List.length_append];omega
      have HKK:=Box.mk (And.intro hkk hkL)
      clear hkk hkL
      repeat' (first|(with_reducible refine zcj (t:=8) yU yO yX0 ?_;simp only[yS2,Nat.reduceEqDiff,↓reduceIte])|with_reducible refine zak yU yU yX0 ?_|refine yJ ?_|(refine DS.append (mm:=false) yU yX0 yX0 yU (by decide) yX0 yO2 yX0 yX14 yLM yQ2 ?_;simp only[yS2,Nat.reduceEqDiff,↓reduceIte])|fail)
      refine zhh inferInstance (zfv s HS.out (l++l) HKK.out.1 HKK.out.2) yR yX16 (fun u hu=>?_)
      obtain⟨bag,rfl,hB⟩:=hu
      have HB:=Box.mk hB
      clear hB
      repeat' (first|with_reducible refine zak yU yU yX0 ?_|refine yJ ?_|(refine zbt (t:=17) yU yX0 yU (fun _=>yX0) yX0 yU yV1 (fun _=>yN1) ?_;simp only[go_sem])|fail)
      refine zbx (id:=27) ([(bs,srcO x'),(b6,Ob.cells [.v (.slice none 0 0), .v (.slice none 0 0)] 41)]) ([]) [0,1,2,3] 4 yKR mixed yP1 yP2 ((fun d o e=>?_)) ((fun d o e=>by cases e)) ?_
      ·refine⟨?_,rfl⟩
       first|exact e|(rw[zdj n6'];exact e)
      repeat' (first|with_reducible refine zau yU yU yU yE ?_|fail)
      refine zfg inferInstance (zhb s HS.out ⟨bag,[]⟩ 1000 HB.out.bd (by rw[HB.out.len];omega) (by omega) (Nat.zero_le _) (fun g hg=>by cases hg)) (fun v S' ⟨r,hr⟩=>⟨_,hr⟩) yR yH (fun u hu=>?_)
      obtain⟨S',r,hr⟩:=hu
      cases hr
      simp only[zas,zat,Nat.reduceEqDiff,↓reduceIte]
      repeat' (first|with_reducible refine zak yU yU yX0 ?_|refine yJ ?_|(refine DS.store yR yX0 yX0 yX0 yX0 yU yQ ?_;simp only[yS1];try simp only[yS2,Nat.reduceEqDiff,↓reduceIte])|with_reducible refine zbg ?_|fail)
      simp only[setS,zab,zac,zad,zaf,n6,n6',↓reduceIte,List.map_cons,List.map_nil,zbc,zbb,zbf,zai,zam,zaq,zal,Nat.reduceAdd,Nat.zero_add]
      refine zbj [(bs,srcO x')] (by(simp (disch:=omega) only[go_sem,dopV,yV0,↓reduceIte,Nat.reduceEqDiff,Nat.reduceLT,Nat.reduceLeDiff,Nat.reduceAdd,Nat.reduceMul,Nat.reduceSub,Int.reduceToNat,Int.reduceLT,Int.reduceLE,Int.reduceEq,IntWalk.toNatUp,IntWalk.iteOmega,IntWalk.i64_in,V.flat,V.one,setS,setAll,n6,n6'];exact rfl)) (fun b o e=>?_) ?_
      ·simp only[zaa,zah]at e ⊢
       split at e
       ·rename_i hb;subst hb;simp only[n6',↓reduceIte];exact e
       ·cases e
      ·exact⟨⟨⟨bag,[]⟩,r,rfl,⟨HB.out,Nat.zero_le _,fun g hg=>by cases hg⟩⟩,x',rfl⟩
    ·have hlt':((1:Int)<(l.length:Int))=False:=eq_false hlt
     clear hlt
     repeat' (first|with_reducible refine zak yU yU yX0 ?_|refine yJ ?_|(with_reducible first|(refine zax yX0 ?_;refine zbl ?_)|(refine zbi yU yX0 ?_;first|refine GG.run ?_|refine zcl ?_))|fail)
     refine DS.ownI2 (t:=60) (u:=61) (b:=bq) (cap:=cq) (l:=l) (j:=jq) (T:=3) yH yH (by simp only[zaa,nq1,nq2,nq1',nq2',n6,n6',↓reduceIte]) ⟨Q.out.2.1,Q.out.2.2⟩ (by have:=Q.out.1;omega) ?_
     simp only[zab,zac,nq1,nq2,nq1',nq2',n6,n6',↓reduceIte]
     have hkk:KindsIn s.plain.toNat (l++l):=KindsIn.app HK.out.1 HK.out.1
     have hkL:(l++l).length≤100:=by have:=HL.out;rw[List.length_append];omega
     have HKK:=Box.mk (And.intro hkk hkL)
     clear hkk hkL
     repeat' (first|(with_reducible refine zcj (t:=8) yU yO yX0 ?_;simp only[yS2,Nat.reduceEqDiff,↓reduceIte])|with_reducible refine zak yU yU yX0 ?_|refine yJ ?_|(refine DS.append (mm:=false) yU yX0 yX0 yU (by decide) yX0 yO2 yX0 yX14 yLM yQ2 ?_;simp only[yS2,Nat.reduceEqDiff,↓reduceIte])|fail)
     refine zhh inferInstance (zfv s HS.out (l++l) HKK.out.1 HKK.out.2) yR yX16 (fun u hu=>?_)
     obtain⟨bag,rfl,hB⟩:=hu
     have HB:=Box.mk hB
     clear hB
     repeat' (first|with_reducible refine zak yU yU yX0 ?_|refine yJ ?_|(refine zbt (t:=17) yU yX0 yU (fun _=>yX0) yX0 yU yV1 (fun _=>yN1) ?_;simp only[go_sem])|fail)
     refine zbx (id:=27) ([(bs,srcO x'),(b6,Ob.cells [.v (.slice none 0 0), .v (.slice none 0 0)] 41)]) ([]) [0,1,2,3] 4 yKR mixed yP1 yP2 ((fun d o e=>?_)) ((fun d o e=>by cases e)) ?_
     ·refine⟨?_,rfl⟩
      first|exact e|(rw[zdj n6'];exact e)
     repeat' (first|with_reducible refine zau yU yU yU yE ?_|fail)
     refine zfg inferInstance (zhb s HS.out ⟨bag,[]⟩ 1000 HB.out.bd (by rw[HB.out.len];omega) (by omega) (Nat.zero_le _) (fun g hg=>by cases hg)) (fun v S' ⟨r,hr⟩=>⟨_,hr⟩) yR yH (fun u hu=>?_)
     obtain⟨S',r,hr⟩:=hu
     cases hr
     simp only[zas,zat,Nat.reduceEqDiff,↓reduceIte]
     repeat' (first|with_reducible refine zak yU yU yX0 ?_|refine yJ ?_|(refine DS.store yR yX0 yX0 yX0 yX0 yU yQ ?_;simp only[yS1];try simp only[yS2,Nat.reduceEqDiff,↓reduceIte])|with_reducible refine zbg ?_|fail)
     simp only[setS,zab,zac,zad,zaf,n6,n6',↓reduceIte,List.map_cons,List.map_nil,zbc,zbb,zbf,zai,zam,zaq,zal,Nat.reduceAdd,Nat.zero_add]
     refine zbj [(bs,srcO x')] (by(simp (disch:=omega) only[go_sem,dopV,yV0,↓reduceIte,Nat.reduceEqDiff,Nat.reduceLT,Nat.reduceLeDiff,Nat.reduceAdd,Nat.reduceMul,Nat.reduceSub,Int.reduceToNat,Int.reduceLT,Int.reduceLE,Int.reduceEq,IntWalk.toNatUp,IntWalk.iteOmega,IntWalk.i64_in,V.flat,V.one,setS,setAll,n6,n6'];exact rfl)) (fun b o e=>?_) ?_
     ·simp only[zaa,zah]at e ⊢
      split at e
      ·rename_i hb;subst hb;simp only[n6',↓reduceIte];exact e
      ·cases e
     ·exact⟨⟨⟨bag,[]⟩,r,rfl,⟨HB.out,Nat.zero_le _,fun g hg=>by cases hg⟩⟩,x',rfl⟩
 have w2':(wh=2)=False:=eq_false w2
 by_cases w3:wh=3
 ·have w3':(wh=3)=True:=eq_true w3
  have hfl:(fk.length:Int)=3*s.melds+1:=HFI.out.each w3
  have hfl2:4≤fk.length∧fk.length≤13:=by omega
  clear w3 w2 hbu hkn hdi hfl
  have cb:=zba bs x fk.length (by omega)
  have bb:=zaz (x:=x) (n:=(fk.length:Int)) (by omega)
  obtain⟨k,hk⟩: ∃k:Nat,(k:Int)=zar x fk.length:=⟨(zar x fk.length).toNat,by omega⟩
  rw[←hk]at cb bb
  clear hk
  generalize stepX x=y1 at *
  have hkf:k<fk.length:=by omega
  repeat' (first|(with_reducible (refine zbs (t:=8) yU yO yE ?_))|refine yJT ?_|fail)
  (refine zho (id:=11) (bs:=bs) (x:=x) (by simp only[zaa,zah,↓reduceIte, *]) [0,1,2,3,4,5,6,7,8,10,11,9] 12 yKR mixed yP1 yP2 ?_;simp only[zab,zac,↓reduceIte, *])
  repeat' (first|(with_reducible first|refine zau yU yU yU yE ?_|refine zff yU yU yU yU yE ?_)|(refine zcy inferInstance (cb) yU yT yT ?_;simp only[zas,zat,Nat.reduceEqDiff,↓reduceIte];(try simp only[zab,zac,↓reduceIte, *]))|fail)
  refine zxh yU yU yE ?_
  have hkk:KindsIn s.plain.toNat ([fk[k]]++fk):=KindsIn.app (fun z hz=>by rw[List.mem_singleton.1 hz];exact HFI.out.kinds _ (List.getElem_mem hkf)) HFI.out.kinds
  have hkL:([fk[k]]++fk).length≤100:=by simp only[List.length_append,List.length_singleton];omega
  have HKK:=Box.mk (And.intro hkk hkL)
  clear hkk hkL
  repeat' (first|(with_reducible refine zcj (t:=8) yU yO yX0 ?_;simp only[yS2,Nat.reduceEqDiff,↓reduceIte])|with_reducible refine zak yU yU yX0 ?_|refine yJ ?_|(refine DS.append (mm:=false) yU yX0 yX0 yU (by decide) yX0 yO2 yX0 yX14 yLM yQ2 ?_;simp only[yS2,Nat.reduceEqDiff,↓reduceIte])|with_reducible refine zau yU yU yU yX0 ?_|(with_reducible refine DD.nil ?_;simp only[zad,zaf])|(refine zfx yU yX0 yX0 ?_;simp only[go_sem,Nat.zero_add,Nat.reduceAdd];simp only[zas,zat,Nat.reduceEqDiff,↓reduceIte])|fail)
  refine zhh inferInstance (zfv s HS.out ([fk[k]]++fk) HKK.out.1 HKK.out.2) yR yH (fun u hu=>?_)
  obtain⟨bag,rfl,hB⟩:=hu
  have HB:=Box.mk hB
  clear hB
  repeat' (first|with_reducible refine zak yU yU yX0 ?_|refine yJ ?_|(refine zbt (t:=17) yU yX0 yU (fun _=>yX0) yX0 yU yV1 (fun _=>yN1) ?_;simp only[go_sem])|fail)
  refine zbx (id:=27) ([(bs,srcO y1),(b6,Ob.cells [.v (.slice none 0 0), .v (.slice none 0 0)] 41)]) ([]) [0,1,2,3] 4 yKR mixed yP1 yP2 ((fun d o e=>?_)) ((fun d o e=>by cases e)) ?_
  ·refine⟨?_,rfl⟩
   first|exact e|(rw[zdj n6'];exact e)
  repeat' (first|with_reducible refine zau yU yU yU yE ?_|fail)
  refine zfg inferInstance (zhb s HS.out ⟨bag,[]⟩ 1000 HB.out.bd (by rw[HB.out.len];omega) (by omega) (Nat.zero_le _) (fun g hg=>by cases hg)) (fun v S' ⟨r,hr⟩=>⟨_,hr⟩) yR yH (fun u hu=>?_)
  obtain⟨S',r,hr⟩:=hu
  cases hr
  simp only[zas,zat,Nat.reduceEqDiff,↓reduceIte]
  repeat' (first|with_reducible refine zak yU yU yX0 ?_|refine yJ ?_|(refine DS.store yR yX0 yX0 yX0 yX0 yU yQ ?_;simp only[yS1];try simp only[yS2,Nat.reduceEqDiff,↓reduceIte])|with_reducible refine zbg ?_|fail)
  simp only[setS,zab,zac,zad,zaf,n6,n6',↓reduceIte,List.map_cons,List.map_nil,zbc,zbb,zbf,zai,zam,zaq,zal,Nat.reduceAdd,Nat.zero_add]
  refine zbj [(bs,srcO y1)] (by(simp (disch:=omega) only[go_sem,dopV,yV0,↓reduceIte,Nat.reduceEqDiff,Nat.reduceLT,Nat.reduceLeDiff,Nat.reduceAdd,Nat.reduceMul,Nat.reduceSub,Int.reduceToNat,Int.reduceLT,Int.reduceLE,Int.reduceEq,IntWalk.toNatUp,IntWalk.iteOmega,IntWalk.i64_in,V.flat,V.one,setS,setAll,n6,n6'];exact rfl)) (fun b o e=>?_) ?_
  ·simp only[zaa,zah]at e ⊢
   split at e
   ·rename_i hb;subst hb;simp only[n6',↓reduceIte];exact e
   ·cases e
  ·exact⟨⟨⟨bag,[]⟩,r,rfl,⟨HB.out,Nat.zero_le _,fun g hg=>by cases hg⟩⟩,y1,rfl⟩
 have w3':(wh=3)=False:=eq_false w3
 by_cases w4:wh=4
 ·have w4':(wh=4)=True:=eq_true w4
  clear w4 w3 w2 hbu hdi
  repeat' (first|(with_reducible (refine zbs (t:=8) yU yO yE ?_))|refine yJT ?_|fail)
  refine zkh inferInstance hkn yR yH (by(simp (disch:=omega) only[go_sem,dopV,yV0,↓reduceIte,Nat.reduceEqDiff,Nat.reduceLT,Nat.reduceLeDiff,Nat.reduceAdd,Nat.reduceMul,Nat.reduceSub,Int.reduceToNat,Int.reduceLT,Int.reduceLE,Int.reduceEq,IntWalk.toNatUp,IntWalk.iteOmega,IntWalk.i64_in,V.flat,V.one,n6,n6'];try exact rfl)) (fun u x' hu=>?_)
  obtain⟨kl,rfl,hk,hl⟩:=hu
  simp only[zab,zac,n6,n6',↓reduceIte]
  repeat' (first|(with_reducible refine zcj (t:=8) yU yO yX0 ?_;simp only[yS2,Nat.reduceEqDiff,↓reduceIte])|with_reducible refine zak yU yU yX0 ?_|refine yJ ?_|fail)
  refine zhh inferInstance (zfv s HS.out kl hk (by omega)) yR yH (fun u hu=>?_)
  obtain⟨bag,rfl,hB⟩:=hu
  have HB:=Box.mk hB
  clear hB
  repeat' (first|with_reducible refine zak yU yU yX0 ?_|refine yJ ?_|(refine zbt (t:=17) yU yX0 yU (fun _=>yX0) yX0 yU yV1 (fun _=>yN1) ?_;simp only[go_sem])|fail)
  refine zbx (id:=27) ([(bs,srcO x'),(b6,Ob.cells [.v (.slice none 0 0), .v (.slice none 0 0)] 41)]) ([]) [0,1,2,3] 4 yKR mixed yP1 yP2 ((fun d o e=>?_)) ((fun d o e=>by cases e)) ?_
  ·refine⟨?_,rfl⟩
   first|exact e|(rw[zdj n6'];exact e)
  repeat' (first|with_reducible refine zau yU yU yU yE ?_|fail)
  refine zfg inferInstance (zhb s HS.out ⟨bag,[]⟩ 1000 HB.out.bd (by rw[HB.out.len];omega) (by omega) (Nat.zero_le _) (fun g hg=>by cases hg)) (fun v S' ⟨r,hr⟩=>⟨_,hr⟩) yR yH (fun u hu=>?_)
  obtain⟨S',r,hr⟩:=hu
  cases hr
  simp only[zas,zat,Nat.reduceEqDiff,↓reduceIte]
  repeat' (first|with_reducible refine zak yU yU yX0 ?_|refine yJ ?_|(refine DS.store yR yX0 yX0 yX0 yX0 yU yQ ?_;simp only[yS1];try simp only[yS2,Nat.reduceEqDiff,↓reduceIte])|with_reducible refine zbg ?_|fail)
  simp only[setS,zab,zac,zad,zaf,n6,n6',↓reduceIte,List.map_cons,List.map_nil,zbc,zbb,zbf,zai,zam,zaq,zal,Nat.reduceAdd,Nat.zero_add]
  refine zbj [(bs,srcO x')] (by(simp (disch:=omega) only[go_sem,dopV,yV0,↓reduceIte,Nat.reduceEqDiff,Nat.reduceLT,Nat.reduceLeDiff,Nat.reduceAdd,Nat.reduceMul,Nat.reduceSub,Int.reduceToNat,Int.reduceLT,Int.reduceLE,Int.reduceEq,IntWalk.toNatUp,IntWalk.iteOmega,IntWalk.i64_in,V.flat,V.one,setS,setAll,n6,n6'];exact rfl)) (fun b o e=>?_) ?_
  ·simp only[zaa,zah]at e ⊢
   split at e
   ·rename_i hb;subst hb;simp only[n6',↓reduceIte];exact e
   ·cases e
  ·exact⟨⟨⟨bag,[]⟩,r,rfl,⟨HB.out,Nat.zero_le _,fun g hg=>by cases hg⟩⟩,x',rfl⟩
 have w4':(wh=4)=False:=eq_false w4
 by_cases w5:wh=5
 ·have w5':(wh=5)=True:=eq_true w5
  have hst:=HFI.out.straight w5
  have hpN:27≤s.plain:=by
   have e:s.plain=s.winds+s.dragons+sumI s.suits:=rfl
   have e2:sumI s.suits=27:=by rw[hst.1];rfl
   have:=(zcb HS.out).winds
   have:=(zcb HS.out).dragons
   omega
  have hm3:=hst.2
  have cb:=zba bs x 3 (by omega)
  have bb:=zaz (x:=x) (n:=3) (by omega)
  generalize zar x 3=sh at *
  generalize stepX x=y1 at *
  clear w2 w3 w4 w5 hbu hkn hdi hst
  have hnil:GR.cell ⟨[],none⟩=V.v (.slice none 0 0):=rfl
  repeat' (first|refine yJT ?_|(refine zaw inferInstance (cb) yR yT yT ?_;(try simp only[zab,zac,↓reduceIte, *]))|fail)
  try (simp only[setS,zab,zac,zad,zaf,n6,n6',↓reduceIte,List.map_cons,List.map_nil,zbc,zbb,zbf,zai,zam,zaq,zal,Nat.reduceAdd,Nat.zero_add])
  refine zbn [0,4,6,10] yN (fun(y:Nat×List Int×GR)=> [(8,y.2.2.cell),(11,I y.1)]) (fun(y:Nat×List Int×GR)=>(bs,srcO y1)::(b6,Ob.cells [.v (.slice none 0 0), .v (.slice none 0 0)] 41)::SRg 3 y.2.2) (fun(y:Nat×List Int×GR)=>(y.1≤9∧y.2.1.length=y.1)∧(∀z∈y.2.1,0≤z∧z<27)∧IntG [bs,b6] y.2.1 y.2.2) (fun(y:Nat×List Int×GR)=>9-y.1) (0,[],⟨[],none⟩) yS (fun b o e=>by exact e) ⟨⟨Nat.zero_le _,rfl⟩,(fun z hz=>by cases hz),⟨rfl,rfl,NBg.none _ _⟩⟩ (fun y B hI hB=>?_);try dsimp only at hI hB;simp only[zad,zaf]
  clear hnil
  obtain⟨i,l,g⟩:=y
  dsimp only at hI hB ⊢
  obtain⟨⟨i1,i2⟩,i3,i4⟩:=hI
  have H:=Box.mk (And.intro i4 (And.intro i3 hB))
  have hdel:=i4.nb.del 3 (c:=bs) (by simp)
  clear i3 i4 hB
  by_cases hi:(i:Int)<9
  ·have hq1:(i:Int).tdiv 3=(i:Int) / 3:=Int.tdiv_eq_ediv_of_nonneg (by omega)
   have hq2:(i:Int).tmod 3=(i:Int) % 3:=Int.tmod_eq_emod_of_nonneg (by omega)
   have hq3:(sh+(i:Int) / 3).tmod 3=(sh+(i:Int) / 3) % 3:=Int.tmod_eq_emod_of_nonneg (by omega)
   have hE:0≤9*((i:Int) / 3)+(sh+(i:Int) / 3) % 3+3*((i:Int) % 3)∧9*((i:Int) / 3)+(sh+(i:Int) / 3) % 3+3*((i:Int) % 3)<27:=by omega
   repeat' (first|with_reducible refine zak yU yU yX7 ?_|refine yJ ?_|(with_reducible (refine zax yX7 ?_;refine zay ?_))|fail)
   clear hq1 hq2 hq3
   generalize 9*((i:Int) / 3)+(sh+(i:Int) / 3) % 3+3*((i:Int) % 3)=e9 at *
   refine zbw yU yG yG ?_
   simp only[go_sem,Nat.zero_add,Nat.reduceAdd]
   have hnb:=H.out.1.nb
   have hgl:g.l.length=l.length:=by rw[H.out.1.l,List.length_map]
   refine zbu (S':=(bs,srcO y1)::([(b6,Ob.cells [.v (.slice none 0 0), .v (.slice none 0 0)] 41)]++SRg 3 g)) (fun d o e=>e) ?_
   refine zch rfl rfl yR (zed (g:=g) (ml:= [cI e9]) rfl yH yH yR yR (by decide) yH (H.out.1.ok.under (L:= [(b6,Ob.cells [.v (.slice none 0 0), .v (.slice none 0 0)] 41)]) hnb) yH yH (by exact Nat.zero_lt_succ _) (by intro c hc;simp only[List.mem_cons,List.not_mem_nil,or_false]at hc;first|(subst hc;rfl)|(rcases hc with rfl|rfl <;> rfl)|(rcases hc with rfl|rfl|rfl <;> rfl)) ⟨by rw[hgl];simp only[List.length_cons,List.length_nil];omega,by decide⟩) (fun u2 E' S4 hu2=>?_)
   obtain⟨rfl,b',cap',junk',rfl,m1,m2,m3⟩:=hu2
   have hml:g.l++ [cI e9].map (fun x=>List.map V.copy x)=(l++ [(e9:Int)]).map cI:=by rw[H.out.1.l,List.map_append];rfl
   rw[hml]at m1 ⊢
   obtain⟨hnb2,hS4⟩:=zhw (L:= [(b6,Ob.cells [.v (.slice none 0 0), .v (.slice none 0 0)] 41)]) hnb m1 m2 m3
   refine zbu (S':=(bs,srcO y1)::([(b6,Ob.cells [.v (.slice none 0 0), .v (.slice none 0 0)] 41)]++SRg 3 ⟨(l++ [(e9:Int)]).map cI,some (b',cap',junk')⟩)) hS4 ?_
   have hI2:IntG [bs,b6] (l++ [(e9:Int)]) ⟨(l++ [(e9:Int)]).map cI,some (b',cap',junk')⟩:=⟨rfl,SRg.ok m1,hnb2⟩
   have H3:=Box.mk hI2
   clear hI2 hml m1 m2 m3 hnb2 hS4 hgl hnb
   simp only[zbk]
   generalize hg2:(⟨(l++ [e9]).map cI,some (b',cap',junk')⟩:GR)=g2
   rw[hg2]at H3
   clear hg2
   repeat' (first|with_reducible refine zak yU yU yX7 ?_|refine yJ ?_|fail)
   refine DS.back (H.out.2.2 (i+1,l++ [e9],g2) _ _ (by dsimp only;omega) ⟨⟨by dsimp only;omega,by simp only[List.length_append,List.length_singleton];omega⟩,fun z hz=>(List.mem_append.1 hz).elim (H.out.2.1 z) fun hz=>by rw[List.mem_singleton.1 hz];exact hE,H3.out⟩ yS yS (fun d o e=>e))
  ·have cb7:=zba bs y1 7 (by omega)
   have bb7:=zaz (x:=y1) (n:=7) (by omega)
   generalize zar y1 7=k7 at *
   generalize stepX y1=y2 at *
   repeat' (first|with_reducible refine zak yU yU yX7 ?_|refine yJ ?_|(with_reducible (refine zax yX7 ?_;refine zbl ?_))|(refine zaw inferInstance (cb7) yR yX10 yX10 ?_;(try simp only[zab,zac,↓reduceIte, *]))|fail)
   try (simp only[zab,zac,n6,n6',↓reduceIte,hdel])
   skip
   refine zbw yU yG yG ?_
   simp only[go_sem,Nat.zero_add,Nat.reduceAdd]
   have hnb:=H.out.1.nb
   have hgl:g.l.length=l.length:=by rw[H.out.1.l,List.length_map]
   refine zbu (S':=(bs,srcO y2)::([(b6,Ob.cells [.v (.slice none 0 0), .v (.slice none 0 0)] 41)]++SRg 3 g)) (fun d o e=>e) ?_
   refine zch rfl rfl yR (zed (g:=g) (ml:= [cI k7,cI (k7+1),cI (k7+2)]) rfl yH yH yR yR (by decide) yH (H.out.1.ok.under (L:= [(b6,Ob.cells [.v (.slice none 0 0), .v (.slice none 0 0)] 41)]) hnb) yH yH (by exact Nat.zero_lt_succ _) (by intro c hc;simp only[List.mem_cons,List.not_mem_nil,or_false]at hc;first|(subst hc;rfl)|(rcases hc with rfl|rfl <;> rfl)|(rcases hc with rfl|rfl|rfl <;> rfl)) ⟨by rw[hgl];simp only[List.length_cons,List.length_nil];omega,by decide⟩) (fun u2 E' S4 hu2=>?_)
   obtain⟨rfl,b',cap',junk',rfl,m1,m2,m3⟩:=hu2
   have hml:g.l++ [cI k7,cI (k7+1),cI (k7+2)].map (fun x=>List.map V.copy x)=(l++ [(k7:Int),((k7+1):Int),((k7+2):Int)]).map cI:=by rw[H.out.1.l,List.map_append];rfl
   rw[hml]at m1 ⊢
   obtain⟨hnb2,hS4⟩:=zhw (L:= [(b6,Ob.cells [.v (.slice none 0 0), .v (.slice none 0 0)] 41)]) hnb m1 m2 m3
   refine zbu (S':=(bs,srcO y2)::([(b6,Ob.cells [.v (.slice none 0 0), .v (.slice none 0 0)] 41)]++SRg 3 ⟨(l++ [(k7:Int),((k7+1):Int),((k7+2):Int)]).map cI,some (b',cap',junk')⟩)) hS4 ?_
   have hI2:IntG [bs,b6] (l++ [(k7:Int),((k7+1):Int),((k7+2):Int)]) ⟨(l++ [(k7:Int),((k7+1):Int),((k7+2):Int)]).map cI,some (b',cap',junk')⟩:=⟨rfl,SRg.ok m1,hnb2⟩
   have H3:=Box.mk hI2
   clear hI2 hml m1 m2 m3 hnb2 hS4 hgl hnb
   simp only[zbk]
   have hl9:l.length=9:=by omega
   have cbN:=zba bs y2 s.plain (by omega)
   have bbN:=zaz (x:=y2) (n:=s.plain) (by omega)
   generalize zar y2 s.plain=pN at *
   generalize stepX y2=y3 at *
   have hdel3:=H3.out.nb.del 3 (c:=bs) (by simp)
   repeat' (first|with_reducible refine zak yU yU yX7 ?_|refine yJ ?_|refine zap inferInstance (hp) yR yX10 ?_|(refine zaw inferInstance (cbN) yR yX10 yX10 ?_;(try simp only[zab,zac,↓reduceIte, *]))|fail)
   try (simp only[zab,zac,n6,n6',↓reduceIte,hdel3])
   obtain⟨L12,hL⟩: ∃L12,l++ [(k7:Int),((k7+1):Int),((k7+2):Int)]=L12:=⟨_,rfl⟩
   have hL12:L12.length=12:=by rw[←hL];simp only[List.length_append,List.length_cons,List.length_nil];omega
   have hLi: ∀z∈L12,0≤z∧z<27:=fun z hz=>by
    rw[←hL]at hz
    rcases List.mem_append.1 hz with hz|hz
    ·exact H.out.2.1 z hz
    ·simp only[List.mem_cons,List.not_mem_nil,or_false]at hz
     rcases hz with rfl|rfl|rfl <;> omega
   rw[hL]at H3 ⊢
   have hok:GR.At 3 1 _ (L12.map cI) b' cap' junk':=H3.out.ok
   have q1:=hok.len
   have q2:=hok.le
   have q3:=hok.cap
   have h1:=H3.out.nb b' cap' junk' rfl
   simp only[List.mem_cons,List.not_mem_nil,or_false,not_or]at h1
   obtain⟨nq1,nq2⟩:=h1
   have nq1': ¬bs=b':=fun e=>nq1 e.symm
   have nq2': ¬b6=b':=fun e=>nq2 e.symm
   rw[List.length_map]at q1 q2
   simp only[SRg,GR.cell_some,List.length_map,zds]
   try (simp only[zab,zac,zad,zaf,nq1,nq2,nq1',nq2',n6,n6',↓reduceIte])
   obtain⟨M3,hM3⟩: ∃M3:Nat,3*s.melds=M3:=⟨(3*s.melds).toNat,by omega⟩
   have hM3b:9≤M3∧M3≤12:=by omega
   have HLL:=Box.mk (And.intro hL (And.intro hLi hok))
   clear hL hLi hok hdel3 hdel
   rw[hL12]at q1 q2
   have hT:(L12.take M3).length=M3:=by rw[List.length_take];omega
   have hD:(L12.drop M3).length=12-M3:=by rw[List.length_drop];omega
   have hobj:(L12.map fun x=>I x)++junk'=((L12.take M3).map fun x=>I x)++(((L12.drop M3).map fun x=>I x)++junk'):=by
    rw[←List.append_assoc,←List.map_append,List.take_append_drop]
   have HT:=Box.mk (And.intro hT (And.intro hD (And.intro hobj hL12)))
   clear hT hD hobj
   repeat' (first|with_reducible refine zak yU yU yX7 ?_|fail)
   refine DS.ownI (t:=125) (b:=b') (cap:=cap') (l:=L12.take M3) (j:=((L12.drop M3).map fun x=>I x)++junk') (T:=3) (by rw[HT.out.1];(simp (disch:=omega) only[go_sem,dopV,yV0,↓reduceIte,Nat.reduceEqDiff,Nat.reduceLT,Nat.reduceLeDiff,Nat.reduceAdd,Nat.reduceMul,Nat.reduceSub,Int.reduceToNat,Int.reduceLT,Int.reduceLE,Int.reduceEq,IntWalk.toNatUp,IntWalk.iteOmega,IntWalk.i64_in,V.flat,V.one];try exact rfl)) (by rw[←HT.out.2.2.1];simp only[zaa,nq1,nq2,nq1',nq2',n6,n6',↓reduceIte]) (by rw[HT.out.1];omega) (by rw[HT.out.1,List.length_append,List.length_map,HT.out.2.1];omega) ?_
   simp only[zab,zac,nq1,nq2,nq1',nq2',n6,n6',↓reduceIte]
   have hkk:KindsIn s.plain.toNat (L12.take M3++ [pN,pN]):=KindsIn.app (fun z hz=>by have:=HLL.out.2.1 z (List.mem_of_mem_take hz);omega) (fun z hz=>by simp only[List.mem_cons,List.not_mem_nil,or_false,or_self]at hz;subst hz;omega)
   have hkL:(L12.take M3++ [pN,pN]).length≤100:=by rw[List.length_append,HT.out.1];simp only[List.length_cons,List.length_nil];omega
   have HKK:=Box.mk (And.intro hkk hkL)
   clear hkk hkL
   repeat' (first|(with_reducible refine zcj (t:=8) yU yO yX0 ?_;simp only[yS2,Nat.reduceEqDiff,↓reduceIte])|with_reducible refine zak yU yU yX0 ?_|refine yJ ?_|(refine zbw yU yX0 yX0 ?_;simp only[go_sem,Nat.zero_add,Nat.reduceAdd])|(refine DS.append (mm:=false) yU yX0 yX0 yU (by decide) yX0 yO2 yX0 yX14 yLM yQ2 ?_;simp only[yS2,Nat.reduceEqDiff,↓reduceIte])|fail)
   refine zhh inferInstance (zfv s HS.out (L12.take M3++ [pN,pN]) HKK.out.1 HKK.out.2) yR yX16 (fun u hu=>?_)
   obtain⟨bag,rfl,hB⟩:=hu
   have HB:=Box.mk hB
   clear hB
   repeat' (first|with_reducible refine zak yU yU yX0 ?_|refine yJ ?_|(refine zbt (t:=17) yU yX0 yU (fun _=>yX0) yX0 yU yV1 (fun _=>yN1) ?_;simp only[go_sem])|fail)
   refine zbx (id:=27) ([(bs,srcO y3),(b6,Ob.cells [.v (.slice none 0 0), .v (.slice none 0 0)] 41)]) ([]) [0,1,2,3] 4 yKR mixed yP1 yP2 ((fun d o e=>?_)) ((fun d o e=>by cases e)) ?_
   ·refine⟨?_,rfl⟩
    first|exact e|(rw[zdj n6'];exact e)
   repeat' (first|with_reducible refine zau yU yU yU yE ?_|fail)
   refine zfg inferInstance (zhb s HS.out ⟨bag,[]⟩ 1000 HB.out.bd (by rw[HB.out.len];omega) (by omega) (Nat.zero_le _) (fun g hg=>by cases hg)) (fun v S' ⟨r,hr⟩=>⟨_,hr⟩) yR yH (fun u hu=>?_)
   obtain⟨S',r,hr⟩:=hu
   cases hr
   simp only[zas,zat,Nat.reduceEqDiff,↓reduceIte]
   repeat' (first|with_reducible refine zak yU yU yX0 ?_|refine yJ ?_|(refine DS.store yR yX0 yX0 yX0 yX0 yU yQ ?_;simp only[yS1];try simp only[yS2,Nat.reduceEqDiff,↓reduceIte])|with_reducible refine zbg ?_|fail)
   simp only[setS,zab,zac,zad,zaf,n6,n6',↓reduceIte,List.map_cons,List.map_nil,zbc,zbb,zbf,zai,zam,zaq,zal,Nat.reduceAdd,Nat.zero_add]
   refine zbj [(bs,srcO y3)] (by(simp (disch:=omega) only[go_sem,dopV,yV0,↓reduceIte,Nat.reduceEqDiff,Nat.reduceLT,Nat.reduceLeDiff,Nat.reduceAdd,Nat.reduceMul,Nat.reduceSub,Int.reduceToNat,Int.reduceLT,Int.reduceLE,Int.reduceEq,IntWalk.toNatUp,IntWalk.iteOmega,IntWalk.i64_in,V.flat,V.one,setS,setAll,n6,n6'];exact rfl)) (fun b o e=>?_) ?_
   ·simp only[zaa,zah]at e ⊢
    split at e
    ·rename_i hb;subst hb;simp only[n6',↓reduceIte];exact e
    ·cases e
   ·exact⟨⟨⟨bag,[]⟩,r,rfl,⟨HB.out,Nat.zero_le _,fun g hg=>by cases hg⟩⟩,y3,rfl⟩
 have w5':(wh=5)=False:=eq_false w5
 by_cases w6:wh=6
 ·have w6':(wh=6)=True:=eq_true w6
  have hfl:(fk.length:Int)=3*s.melds+2:=HFI.out.list w6
  have hfl2:fk.length≤14:=by omega
  clear w2 w3 w4 w5 w6 hbu hkn hdi hfl
  repeat' (first|with_reducible (refine zbs (t:=8) yU yO yX0 ?_)|(with_reducible refine zcj (t:=8) yU yO yX0 ?_;simp only[yS2,Nat.reduceEqDiff,↓reduceIte])|with_reducible refine zak yU yU yX0 ?_|refine yJ ?_|(with_reducible (refine zax yX0 ?_;first|refine zay ?_|refine zbl ?_))|fail)
  refine zhh inferInstance (zfv s HS.out fk HFI.out.kinds (by omega)) yR yH (fun u hu=>?_)
  obtain⟨bag,rfl,hB⟩:=hu
  have HB:=Box.mk hB
  clear hB
  repeat' (first|with_reducible refine zak yU yU yX0 ?_|refine yJ ?_|(refine zbt (t:=17) yU yX0 yU (fun _=>yX0) yX0 yU yV1 (fun _=>yN1) ?_;simp only[go_sem])|fail)
  refine zbx (id:=27) ([(bs,srcO x),(b6,Ob.cells [.v (.slice none 0 0), .v (.slice none 0 0)] 41)]) ([]) [0,1,2,3] 4 yKR mixed yP1 yP2 ((fun d o e=>?_)) ((fun d o e=>by cases e)) ?_
  ·refine⟨?_,rfl⟩
   first|exact e|(rw[zdj n6'];exact e)
  repeat' (first|with_reducible refine zau yU yU yU yE ?_|fail)
  refine zfg inferInstance (zhb s HS.out ⟨bag,[]⟩ 1000 HB.out.bd (by rw[HB.out.len];omega) (by omega) (Nat.zero_le _) (fun g hg=>by cases hg)) (fun v S' ⟨r,hr⟩=>⟨_,hr⟩) yR yH (fun u hu=>?_)
  obtain⟨S',r,hr⟩:=hu
  cases hr
  simp only[zas,zat,Nat.reduceEqDiff,↓reduceIte]
  repeat' (first|with_reducible refine zak yU yU yX0 ?_|refine yJ ?_|(refine DS.store yR yX0 yX0 yX0 yX0 yU yQ ?_;simp only[yS1];try simp only[yS2,Nat.reduceEqDiff,↓reduceIte])|with_reducible refine zbg ?_|fail)
  simp only[setS,zab,zac,zad,zaf,n6,n6',↓reduceIte,List.map_cons,List.map_nil,zbc,zbb,zbf,zai,zam,zaq,zal,Nat.reduceAdd,Nat.zero_add]
  refine zbj [(bs,srcO x)] (by(simp (disch:=omega) only[go_sem,dopV,yV0,↓reduceIte,Nat.reduceEqDiff,Nat.reduceLT,Nat.reduceLeDiff,Nat.reduceAdd,Nat.reduceMul,Nat.reduceSub,Int.reduceToNat,Int.reduceLT,Int.reduceLE,Int.reduceEq,IntWalk.toNatUp,IntWalk.iteOmega,IntWalk.i64_in,V.flat,V.one,setS,setAll,n6,n6'];exact rfl)) (fun b o e=>?_) ?_
  ·simp only[zaa,zah]at e ⊢
   split at e
   ·rename_i hb;subst hb;simp only[n6',↓reduceIte];exact e
   ·cases e
  ·exact⟨⟨⟨bag,[]⟩,r,rfl,⟨HB.out,Nat.zero_le _,fun g hg=>by cases hg⟩⟩,x,rfl⟩
 ·have w6':(wh=6)=False:=eq_false w6
  clear w2 w3 w4 w5 w6 hkn hdi
  repeat' (first|(with_reducible (refine zbs (t:=8) yU yO yE ?_))|refine yJT ?_|fail)
  refine zkh inferInstance hbu yR yH (by(simp (disch:=omega) only[go_sem,dopV,yV0,↓reduceIte,Nat.reduceEqDiff,Nat.reduceLT,Nat.reduceLeDiff,Nat.reduceAdd,Nat.reduceMul,Nat.reduceSub,Int.reduceToNat,Int.reduceLT,Int.reduceLE,Int.reduceEq,IntWalk.toNatUp,IntWalk.iteOmega,IntWalk.i64_in,V.flat,V.one,n6,n6'];try exact rfl)) (fun u x' hu=>?_)
  obtain⟨hd2,gs,r,rfl,hB⟩:=hu
  simp only[zab,zac,n6,n6',↓reduceIte]
  repeat' (first|with_reducible refine zak yU yU yX0 ?_|refine yJ ?_|(refine zbt (t:=14) yU yX0 yU (fun _=>yX0) yX0 yU yV1 (fun _=>yN1) ?_;simp only[go_sem])|(refine DS.store yR yX0 yX0 yX0 yX0 yU yQ ?_;simp only[yS1];try simp only[yS2,Nat.reduceEqDiff,↓reduceIte])|fail)
  simp only[setS,zab,zac,zad,zaf,n6,n6',↓reduceIte,List.map_cons,List.map_nil,zbc,zbb,zbf,zai,zam,zaq,zal,Nat.reduceAdd,Nat.zero_add]
  refine zbj [(bs,srcO x')] (by(simp (disch:=omega) only[go_sem,dopV,yV0,↓reduceIte,Nat.reduceEqDiff,Nat.reduceLT,Nat.reduceLeDiff,Nat.reduceAdd,Nat.reduceMul,Nat.reduceSub,Int.reduceToNat,Int.reduceLT,Int.reduceLE,Int.reduceEq,IntWalk.toNatUp,IntWalk.iteOmega,IntWalk.i64_in,V.flat,V.one,setS,setAll,n6,n6'];exact rfl)) (fun b o e=>?_) ?_
  ·simp only[zaa,zah]at e ⊢
   split at e
   ·rename_i hb;subst hb;simp only[n6',↓reduceIte];exact e
   ·cases e
  ·exact⟨⟨hd2,r,rfl,hB⟩,x',rfl⟩
end Go.XL
namespace Go.XL
open Go.Proofs
set_option maxRecDepth 100000
set_option maxHeartbeats 8000000
theorem ybw {s:GSet} {l:List Form} (h:zep s l=0):(1≤l.length∧l.length≤8)∧ ∀f∈l,zgw s f=0:=by
 rw[zep]at h
 split at h
 ·exact absurd h (by assumption)
 split at h
 ·exact absurd h (by decide)
 split at h
 ·exact absurd h (by decide)
 refine⟨⟨by omega,by omega⟩,?_⟩
 rename_i h1 h2 h3
 clear h1 h2 h3
 induction l with
 | nil=>intro f hf;cases hf
 | cons a l ih =>
  rw[zjd]at h
  split at h
  ·exact absurd h (by assumption)
  ·rename_i h0
   intro f hf
   rcases List.mem_cons.1 hf with rfl|hf
   ·exact Classical.byContradiction h0
   ·exact ih h f hf
section
variable {P:Program} {n:Nat} {r:Rr} {Q:VEnv→Sto→Prop} {k:List Fr} {E0 E:VEnv} {S0 S1:Sto} {Mp:List MpE} {ops l:List Oper}
theorem ypg {t:Nat} {x:Value} (e:zbr E t=some (.v x)) (q:DD P n r Q ops S0 Mp l k ((t, .v x)::E0) E S1):DD P n r Q ops S0 Mp l k E0 E S1:=fun K0 K D W hv0 hs a SPs hbx hfl hE hp hS0 hz hl hR=>by
 obtain⟨w1,hw1,h1⟩:=hl
 obtain⟨_,_,hv1,hold1,env1,ha1,s1,_⟩:=hR noF _ h1
 obtain⟨y,e1,e2,_⟩:=s1.slot t _ e
 simp only[V.Rl]at e2;subst e2
 obtain⟨env,ha,hE'⟩:=hE
 refine q K0 K D W hv0 hs a SPs hbx hfl ⟨(t,y)::env,⟨ha.size,ha.defers,fun t' u h=>?_⟩,fun t' u h=>?_⟩ hp hS0 hz ⟨w1,hw1,h1⟩ hR
 ·simp only[XL.look]at h
  split at h
  ·rename_i q;subst q;cases h;exact ha1.look _ _ e1
  ·exact ha.look _ _ h
 ·rw[zet]at h
  split at h
  ·rename_i q;subst q;cases h;exact⟨y,by simp only[XL.look,↓reduceIte],V.Rl_v⟩
  ·rename_i q
   obtain⟨z,g1,g2⟩:=hE' _ _ h
   exact⟨z,by simp only[XL.look,if_neg q];exact g1,g2⟩
end
structure HandUp (n:Nat) (h:Hnd):Prop where
 bag:Bag n 1001 h.bag
 melds:h.melds.length≤4
 kinds:zju n h.melds
theorem HandIn.up {n:Nat} {h:Hnd} (H:HandIn n h):HandUp n h:=⟨⟨H.bag.len,fun z hz=>by have:=H.bag.bd z hz;omega⟩,H.melds,H.kinds⟩
theorem zub (bs:Nat) (x:Int) (s:GSet) (h:zbo s=0) (l:List Form) (hl:zep s l=0):QC Tryz.prog 42 [ptr bs,s.val,zki l] bs x (fun u=> ∃hd:Hnd,u=hd.val∧HandUp s.plain.toNat hd):=by
 have ok:=zcb h
 have hp:=zda s ok.few
 have hpl:=ok.plain
 obtain⟨hln,hfo⟩:=ybw hl
 have hbu:=fun y=>zzv bs y s h
 have hfi:=fun y hd hh=>yfu bs y s h hd hh
 have hwo:=fun y f hf=>ypl bs y s h f hf
 generalize hN:s.plain.toNat=N at *
 have hNi:(N:Int)=s.plain:=by omega
 have HNI:=Box.mk hNi
 clear hN hNi
 have HS:=Box.mk (And.intro h (And.intro hfo (And.intro hbu (And.intro hfi hwo))))
 clear ok h hl hfo hbu hfi hwo
 have cb:=zba bs x l.length (by omega)
 have bb:=zaz (x:=x) (n:=(l.length:Int)) (by omega)
 obtain⟨k,hk⟩: ∃k:Nat,(k:Int)=zar x l.length:=⟨(zar x l.length).toNat,by omega⟩
 rw[←hk]at cb bb
 clear hk
 generalize stepX x=y1 at *
 have hkl:k<l.length:=by omega
 unfold QC
 refine DC.of_run Tryz.func42 rfl Tryz.ntmps42 Tryz.results42 (by simp) (fun _ _=>?_);simp only[zag,zaj,go_sem,Nat.zero_add,Nat.reduceAdd]
 repeat' (first|refine yJ ?_|(refine zao (t:=4) yU yE yU ?_;simp only[yS3])|fail)
 refine zbd yR yU yU (fun b6 h6=>?_)
 have n6: ¬bs=b6:=fun e=>by rw[zaa,if_pos e]at h6;cases h6
 have n6': ¬b6=bs:=fun e=>n6 e.symm
 clear h6
 have hz:(Value.agg #[Value.slice none 0 0,Value.slice none 0 0]).cells.toList.map V.v= [.v (.slice none 0 0), .v (.slice none 0 0)]:=rfl
 rw[hz]
 clear hz
 repeat' (first|refine yJ ?_|fail)
 (refine zho (id:=1) (bs:=bs) (x:=x) (by simp only[zaa,zah,↓reduceIte, *]) [0,1,2,3,4,5,6,7,8,9,10,11,12,13,14] 15 yKR mixed yP1 yP2 ?_;simp only[zab,zac,↓reduceIte, *])
 repeat' (first|with_reducible refine zau yU yU yU yE ?_|fail)
 refine zcy inferInstance cb yR yH (by simp only[zaa,zah,↓reduceIte]) ?_
 simp only[zas,zat,Nat.reduceEqDiff,↓reduceIte]
 try (simp only[zab,zac,↓reduceIte])
 refine ypg (t:=18) (x := .int .i64 k) (by simp only[zet,↓reduceIte]) ?_
 repeat' (first|with_reducible refine zau yU yU yU yE ?_|fail)
 try refine zau yU yU yU yG ?_
 have hw:=HS.out.2.2.2.2 y1 l[k] (HS.out.2.1 _ (List.getElem_mem hkl))
 refine zii [(bs,srcO y1)] [] inferInstance hw yR yH (fun _ _ e=>e) (fun _ _ e=>by cases e) (zmh yKR) (fun u S' hu hdis=>?_)
 obtain⟨⟨hd1,r1,rfl,hH⟩,z1,rfl⟩:=hu
 have HH:=Box.mk hH
 clear hH hdis hw
 simp only[List.append_nil]
 repeat' (first|with_reducible refine zff yU yU yU yU yE ?_|fail)
 refine DD.alloc yR yU yU (fun b7 a1 a2=>?_)
 have n7: ¬bs=b7:=fun e=>by rw[zaa,if_pos e]at a1;cases a1
 have n7': ¬b7=bs:=fun e=>n7 e.symm
 have n67: ¬b6=b7:=fun e=>by rw[zaa,if_pos e]at a2;cases a2
 have n67': ¬b7=b6:=fun e=>n67 e.symm
 clear a1 a2
 have hz7: ∀u v:V,u.copy=u→v.copy=v→setAll (List.map V.v (Value.agg #[Value.slice none 0 0,Value.slice none 0 0]).cells.toList) 0 (V.agg [u,v]).scells= [u,v]:=fun u v h1 h2=>by show [u.copy,v.copy]= [u,v];rw[h1,h2]
 refine DD.store (b:=b7) (off:=0) (m:=2) (T':=41) yR yH yG yU (by simp only[zaa,↓reduceIte];rfl) yR ⟨by rfl,by decide⟩ (fun _=>MpOk.nil) ?_
 simp only[setS,zab,zac,zad,zaf,n6,n6',n7,n7',n67,n67',↓reduceIte,List.map_cons,List.map_nil,zbc,zbb,zbf,zai,zam,zaq,zal,Nat.reduceAdd,Nat.zero_add]
 rw[hz7 _ _ rfl rfl]
 refine DD.nil ?_
 simp only[zad,zaf]
 cases r1 with
 | false =>
  repeat' (first|with_reducible refine zak yU yU yX0 ?_|refine yJ ?_|(with_reducible first|(refine zax yX0 ?_;refine zay ?_)|(refine zbi yU yX0 ?_;refine zcv ?_))|fail)
  refine zkh inferInstance (HS.out.2.2.1 z1) yR yH (by(simp (disch:=omega) only[go_sem,dopV,yV0,↓reduceIte,Nat.reduceEqDiff,Nat.reduceLT,Nat.reduceLeDiff,Nat.reduceAdd,Nat.reduceMul,Nat.reduceSub,Int.reduceToNat,Int.reduceLT,Int.reduceLE,Int.reduceEq,IntWalk.toNatUp,IntWalk.iteOmega,IntWalk.i64_in,V.flat,V.one,n6,n6',n7,n7',n67,n67'];try exact rfl)) (fun u z3 hu=>?_)
  obtain⟨hd2,gs,r,rfl,hB⟩:=hu
  have HB:=Box.mk hB
  clear hB
  simp only[zab,zac,n6,n6',n7,n7',n67,n67',↓reduceIte]
  repeat' (first|with_reducible refine zak yU yU yX0 ?_|refine yJ ?_|(refine DS.store yR yX0 yX0 yX0 yX0 yU yQ ?_;simp only[yS1];try simp only[yS2,Nat.reduceEqDiff,↓reduceIte])|fail)
  try (simp only[setS,zab,zac,zad,zaf,n6,n6',n7,n7',n67,n67',↓reduceIte,List.map_cons,List.map_nil,zbc,zbb,zbf,zai,zam,zaq,zal,Nat.reduceAdd,Nat.zero_add])
  skip
  refine zkh inferInstance (HS.out.2.2.2.1 z3 hd2 HB.out) yR yH (by(simp (disch:=omega) only[go_sem,dopV,yV0,↓reduceIte,Nat.reduceEqDiff,Nat.reduceLT,Nat.reduceLeDiff,Nat.reduceAdd,Nat.reduceMul,Nat.reduceSub,Int.reduceToNat,Int.reduceLT,Int.reduceLE,Int.reduceEq,IntWalk.toNatUp,IntWalk.iteOmega,IntWalk.i64_in,V.flat,V.one,n6,n6',n7,n7',n67,n67'];try exact rfl)) (fun u z4 hu=>?_)
  obtain⟨hd3,rfl,hC⟩:=hu
  have HC:=Box.mk hC
  clear hC
  simp only[zab,zac,n6,n6',n7,n7',n67,n67',↓reduceIte]
  repeat' (first|refine yJ ?_|(refine DS.store yR yX0 yX0 yX0 yX0 yU yQ ?_;simp only[yS1];try simp only[yS2,Nat.reduceEqDiff,↓reduceIte])|fail)
  try (simp only[setS,zab,zac,zad,zaf,n6,n6',n7,n7',n67,n67',↓reduceIte,List.map_cons,List.map_nil,zbc,zbb,zbf,zai,zam,zaq,zal,Nat.reduceAdd,Nat.zero_add])
  refine zbj [(bs,srcO z4)] (by(simp (disch:=omega) only[go_sem,dopV,yV0,↓reduceIte,Nat.reduceEqDiff,Nat.reduceLT,Nat.reduceLeDiff,Nat.reduceAdd,Nat.reduceMul,Nat.reduceSub,Int.reduceToNat,Int.reduceLT,Int.reduceLE,Int.reduceEq,IntWalk.toNatUp,IntWalk.iteOmega,IntWalk.i64_in,V.flat,V.one,setS,setAll,n6,n6',n7,n7',n67,n67'];exact rfl)) (fun b o e=>?_) ?_
  ·simp only[zaa,zah]at e ⊢
   split at e
   ·rename_i hb;subst hb;simp only[n6,n6',n7,n7',n67,n67',↓reduceIte];exact e
   ·cases e
  ·exact⟨⟨hd3,rfl,HC.out.up⟩,z4,rfl⟩
 | true =>
  have cod:=zck bs z1 6 (by omega)
  obtain⟨od,hod⟩: ∃od,zcu z1 6=od:=⟨_,rfl⟩
  obtain⟨z2,hz2⟩: ∃z2,stepX z1=z2:=⟨_,rfl⟩
  rw[hod,hz2]at cod
  clear hod hz2
  repeat' (first|with_reducible refine zak yU yU yX0 ?_|refine yJ ?_|(with_reducible (refine zbi yU yX0 ?_;refine GG.run ?_))|fail)
  refine zaw inferInstance cod yR yH (by simp only[zaa,n6,n6',n7,n7',n67,n67',↓reduceIte]) ?_
  try (simp only[zab,zac,n6,n6',n7,n7',n67,n67',↓reduceIte])
  cases od with
  | true =>
   repeat' (first|with_reducible refine zak yU yU yX0 ?_|refine yJ ?_|(with_reducible (refine zax yX0 ?_;refine zay ?_))|fail)
   refine zkh inferInstance (HS.out.2.2.1 z2) yR yH (by(simp (disch:=omega) only[go_sem,dopV,yV0,↓reduceIte,Nat.reduceEqDiff,Nat.reduceLT,Nat.reduceLeDiff,Nat.reduceAdd,Nat.reduceMul,Nat.reduceSub,Int.reduceToNat,Int.reduceLT,Int.reduceLE,Int.reduceEq,IntWalk.toNatUp,IntWalk.iteOmega,IntWalk.i64_in,V.flat,V.one,n6,n6',n7,n7',n67,n67'];try exact rfl)) (fun u z3 hu=>?_)
   obtain⟨hd2,gs,r,rfl,hB⟩:=hu
   have HB:=Box.mk hB
   clear hB
   simp only[zab,zac,n6,n6',n7,n7',n67,n67',↓reduceIte]
   repeat' (first|with_reducible refine zak yU yU yX0 ?_|refine yJ ?_|(refine DS.store yR yX0 yX0 yX0 yX0 yU yQ ?_;simp only[yS1];try simp only[yS2,Nat.reduceEqDiff,↓reduceIte])|fail)
   try (simp only[setS,zab,zac,zad,zaf,n6,n6',n7,n7',n67,n67',↓reduceIte,List.map_cons,List.map_nil,zbc,zbb,zbf,zai,zam,zaq,zal,Nat.reduceAdd,Nat.zero_add])
   skip
   refine zkh inferInstance (HS.out.2.2.2.1 z3 hd2 HB.out) yR yH (by(simp (disch:=omega) only[go_sem,dopV,yV0,↓reduceIte,Nat.reduceEqDiff,Nat.reduceLT,Nat.reduceLeDiff,Nat.reduceAdd,Nat.reduceMul,Nat.reduceSub,Int.reduceToNat,Int.reduceLT,Int.reduceLE,Int.reduceEq,IntWalk.toNatUp,IntWalk.iteOmega,IntWalk.i64_in,V.flat,V.one,n6,n6',n7,n7',n67,n67'];try exact rfl)) (fun u z4 hu=>?_)
   obtain⟨hd3,rfl,hC⟩:=hu
   have HC:=Box.mk hC
   clear hC
   simp only[zab,zac,n6,n6',n7,n7',n67,n67',↓reduceIte]
   repeat' (first|refine yJ ?_|(refine DS.store yR yX0 yX0 yX0 yX0 yU yQ ?_;simp only[yS1];try simp only[yS2,Nat.reduceEqDiff,↓reduceIte])|fail)
   try (simp only[setS,zab,zac,zad,zaf,n6,n6',n7,n7',n67,n67',↓reduceIte,List.map_cons,List.map_nil,zbc,zbb,zbf,zai,zam,zaq,zal,Nat.reduceAdd,Nat.zero_add])
   refine zbj [(bs,srcO z4)] (by(simp (disch:=omega) only[go_sem,dopV,yV0,↓reduceIte,Nat.reduceEqDiff,Nat.reduceLT,Nat.reduceLeDiff,Nat.reduceAdd,Nat.reduceMul,Nat.reduceSub,Int.reduceToNat,Int.reduceLT,Int.reduceLE,Int.reduceEq,IntWalk.toNatUp,IntWalk.iteOmega,IntWalk.i64_in,V.flat,V.one,setS,setAll,n6,n6',n7,n7',n67,n67'];exact rfl)) (fun b o e=>?_) ?_
   ·simp only[zaa,zah]at e ⊢
    split at e
    ·rename_i hb;subst hb;simp only[n6,n6',n7,n7',n67,n67',↓reduceIte];exact e
    ·cases e
   ·exact⟨⟨hd3,rfl,HC.out.up⟩,z4,rfl⟩
  | false =>
   repeat' (first|with_reducible refine zak yU yU yX0 ?_|refine yJ ?_|(with_reducible (refine zax yX0 ?_;refine zbl ?_))|fail)
   have coe:=zck bs z2 3 (by omega)
   obtain⟨oe,hoe⟩: ∃oe,zcu z2 3=oe:=⟨_,rfl⟩
   obtain⟨z3,hz3⟩: ∃z3,stepX z2=z3:=⟨_,rfl⟩
   rw[hoe,hz3]at coe
   clear hoe hz3
   skip
   refine zaw inferInstance coe yR yH (by simp only[zaa,n6,n6',n7,n7',n67,n67',↓reduceIte]) ?_
   try (simp only[zab,zac,n6,n6',n7,n7',n67,n67',↓reduceIte])
   cases oe with
   | false =>
    repeat' (first|with_reducible refine zak yU yU yX0 ?_|refine yJ ?_|(with_reducible (refine zax yX0 ?_;refine zbl ?_))|(refine DS.store yR yX0 yX0 yX0 yX0 yU yQ ?_;simp only[yS1];try simp only[yS2,Nat.reduceEqDiff,↓reduceIte])|fail)
    try (simp only[setS,zab,zac,zad,zaf,n6,n6',n7,n7',n67,n67',↓reduceIte,List.map_cons,List.map_nil,zbc,zbb,zbf,zai,zam,zaq,zal,Nat.reduceAdd,Nat.zero_add])
    refine zbj [(bs,srcO z3)] (by(simp (disch:=omega) only[go_sem,dopV,yV0,↓reduceIte,Nat.reduceEqDiff,Nat.reduceLT,Nat.reduceLeDiff,Nat.reduceAdd,Nat.reduceMul,Nat.reduceSub,Int.reduceToNat,Int.reduceLT,Int.reduceLE,Int.reduceEq,IntWalk.toNatUp,IntWalk.iteOmega,IntWalk.i64_in,V.flat,V.one,setS,setAll,n6,n6',n7,n7',n67,n67'];exact rfl)) (fun b o e=>?_) ?_
    ·simp only[zaa,zah]at e ⊢
     split at e
     ·rename_i hb;subst hb;simp only[n6,n6',n7,n7',n67,n67',↓reduceIte];exact e
     ·cases e
    ·exact⟨⟨hd1,rfl,HH.out.up⟩,z3,rfl⟩
   | true =>
    repeat' (first|with_reducible refine zak yU yU yX0 ?_|refine yJ ?_|(with_reducible (refine zax yX0 ?_;refine zay ?_))|fail)
    refine DS.call (dst:=some 45) [(bs,srcO z3)] [(b7,Ob.cells [ints hd1.bag,zhl hd1.melds] 41),(b6,Ob.cells [.v (.slice none 0 0), .v (.slice none 0 0)] 41)] inferInstance (yar bs z3 hd1 N 1000 HH.out.bag (by have:=HNI.out;omega) (by omega) (by have:=HH.out.melds;omega)) yR yH (fun d o e=>?_) (fun d o e=>?_) (fun u S0 hu hdis=>?_)
    ·simp only[zaa,zah]at e ⊢
     split at e
     ·rename_i hq;subst hq;simp only[↓reduceIte];exact e
     ·cases e
    ·simp only[zaa,zah]at e ⊢
     split at e
     ·rename_i hq;subst hq;simp only[n7,n7',↓reduceIte];exact⟨e,trivial⟩
     ·rename_i hq0
      split at e
      ·rename_i hq;subst hq;simp only[n6,n6',n67',↓reduceIte];exact⟨e,trivial⟩
      ·cases e
    obtain⟨b,cap,j,l1,z4,m0,q1,q2,q3,q4,rfl,rfl⟩:=hu
    have m0': ¬b=bs:=fun e=>m0 e.symm
    have hd0:=hdis b _ (by simp only[zaa,m0,↓reduceIte];exact rfl)
    simp only[zaa,zah]at hd0
    have m7: ¬b7=b:=fun e=>by rw[if_pos e]at hd0;cases hd0
    have m7': ¬b=b7:=fun e=>m7 e.symm
    have m6: ¬b6=b:=fun e=>by rw[if_neg m7,if_pos e]at hd0;cases hd0
    have m6': ¬b=b6:=fun e=>m6 e.symm
    clear hd0
    have HW:=Box.mk (And.intro hdis (And.intro q3 q4))
    clear hdis q3
    simp only[zbk,zad,zaf]
    refine zbd yR yU yU (fun b9 h9=>?_)
    have h9a:=h9
    simp only[zaa,zah]at h9a
    have k0: ¬bs=b9:=fun e=>by rw[if_pos e]at h9a;cases h9a
    have k0': ¬b9=bs:=fun e=>k0 e.symm
    rw[if_neg k0]at h9a
    have kb: ¬b=b9:=fun e=>by rw[if_pos e]at h9a;cases h9a
    have kb': ¬b9=b:=fun e=>kb e.symm
    rw[if_neg kb]at h9a
    have k7: ¬b7=b9:=fun e=>by rw[if_pos e]at h9a;cases h9a
    have k7': ¬b9=b7:=fun e=>k7 e.symm
    rw[if_neg k7]at h9a
    have k6: ¬b6=b9:=fun e=>by rw[if_pos e]at h9a;cases h9a
    have k6': ¬b9=b6:=fun e=>k6 e.symm
    clear h9 h9a
    have cbp:=zba bs z4 s.plain (by omega)
    have bbp:=zaz (x:=z4) (n:=s.plain) (by omega)
    obtain⟨k2,hk2⟩: ∃k2:Nat,(k2:Int)=zar z4 s.plain:=⟨(zar z4 s.plain).toNat,by omega⟩
    rw[←hk2]at cbp bbp
    clear hk2
    generalize stepX z4=z5 at *
    have hk2N:k2<l1.length:=by have:=q4.len;have:=HNI.out;omega
    have hk2n:(k2:Int)<N:=by have:=HNI.out;omega
    have hm2:=q4.get hk2N
    clear q4
    repeat' (first|with_reducible refine zak yU yU yX0 ?_|refine yJ ?_|refine zap inferInstance (hp) yR yX6 ?_|(refine zaw inferInstance (cbp) yR yX6 yX6 ?_;(try simp only[zab,zac,↓reduceIte, *]))|(refine DS.store yR yX0 yX0 yX0 yX0 yU yQ ?_;simp only[yS1];try simp only[yS2,Nat.reduceEqDiff,↓reduceIte])|fail)
    try (simp only[setS,zab,zac,zad,zaf,n6,n6',n7,n7',n67,n67',m0,m0',m6,m6',m7,m7',k0,k0',k6,k6',k7,k7',kb,kb',↓reduceIte,List.map_cons,List.map_nil,zbc,zbb,zbf,zai,zam,zaq,zal,Nat.reduceAdd,Nat.zero_add])
    have g1:=objJ (j:=j) hk2N
    refine zak yU yU (by(simp (disch:=omega) only[go_sem,dopV,yV0,↓reduceIte,Nat.reduceEqDiff,Nat.reduceLT,Nat.reduceLeDiff,Nat.reduceAdd,Nat.reduceMul,Nat.reduceSub,Int.reduceToNat,Int.reduceLT,Int.reduceLE,Int.reduceEq,IntWalk.toNatUp,IntWalk.iteOmega,IntWalk.i64_in,V.flat,V.one,g1];exact rfl)) ?_
    refine zak yU yU yG ?_
    refine zak yU yU yG ?_
    refine DS.store yR yG yG yG yG yU (by exact⟨by with_unfolding_all rfl,by(try simp only[List.length_map,List.length_append,List.length_set]);omega⟩) ?_
    simp only[zgv,zai,zam,zrq]
    simp only[setS,zab,zac,zad,zaf,n6,n6',n7,n7',n67,n67',m0,m0',m6,m6',m7,m7',k0,k0',k6,k6',k7,k7',kb,kb',↓reduceIte,List.map_cons,List.map_nil,zbc,zbb,zbf,zai,zam,zaq,zal,Nat.reduceAdd,Nat.zero_add]
    rw[znm hk2N]
    clear g1
    have hl2:Bag N 1001 (l1.set k2 (l1[k2]+1)):=⟨by rw[List.length_set];exact HW.out.2.2.len,fun z hz=>by
     rcases List.mem_or_eq_of_mem_set hz with hz|rfl
     ·have:=HW.out.2.2.bd z hz;omega
     ·omega⟩
    generalize l1.set k2 (l1[k2]+1)=l2 at *
    have hch:=zgm l2 j
    rw[hl2.len]at hch
    refine zfn (b:=b) (b':=b9) (i:=0) (sz:=1) (len:=N) (cap:=cap) (l:=(l2.map fun x=>I x)++j) (T:=3) (l':= [.v (.slice (some ⟨b,0,none⟩) N cap),zhl hd1.melds]) (T':=41) kb' (by simp only[zaa,n6,n6',n7,n7',n67,n67',m0,m0',m6,m6',m7,m7',k0,k0',k6,k6',k7,k7',kb,kb',↓reduceIte]) yR (by simp only[zaa,n6,n6',n7,n7',n67,n67',m0,m0',m6,m6',m7,m7',k0,k0',k6,k6',k7,k7',kb,kb',↓reduceIte]) (by rw[List.length_append,List.length_map,hl2.len];omega) ⟨q1,q2⟩ ?_
    rw[hch]
    simp only[setS,zab,zac,zad,zaf,n6,n6',n7,n7',n67,n67',m0,m0',m6,m6',m7,m7',k0,k0',k6,k6',k7,k7',kb,kb',↓reduceIte,List.map_cons,List.map_nil,zbc,zbb,zbf,zai,zam,zaq,zal,Nat.reduceAdd,Nat.zero_add]
    clear hch
    have HL2:=Box.mk hl2
    clear hl2 hk2n
    repeat' (first|with_reducible refine zak yU yU yX0 ?_|refine yJ ?_|fail)
    have HU:HandUp N ⟨l2,hd1.melds⟩:=⟨HL2.out,HH.out.melds,HH.out.kinds⟩
    have hfu:=zhb s HS.out.1 ⟨l2,hd1.melds⟩ 1001 HL2.out.bd (by show l2.length≤1000;rw[HL2.out.len];have:=HNI.out;omega) (by omega) (by show hd1.melds.length≤1000;have:=HH.out.melds;omega) (by rw[show s.plain.toNat=N by have:=HNI.out;omega];exact HH.out.kinds)
    refine zhh inferInstance hfu yR yH (fun u hu=>?_)
    obtain⟨r,rfl⟩:=hu
    cases r with
    | true =>
     repeat' (first|with_reducible refine zak yU yU yX0 ?_|refine yJ ?_|(with_reducible (refine zax yX0 ?_;refine zay ?_))|(refine DS.store yR yX0 yX0 yX0 yX0 yU yQ ?_;simp only[yS1];try simp only[yS2,Nat.reduceEqDiff,↓reduceIte])|fail)
     try (simp only[setS,zab,zac,zad,zaf,n6,n6',n7,n7',n67,n67',m0,m0',m6,m6',m7,m7',k0,k0',k6,k6',k7,k7',kb,kb',↓reduceIte,List.map_cons,List.map_nil,zbc,zbb,zbf,zai,zam,zaq,zal,Nat.reduceAdd,Nat.zero_add])
     refine zbj [(bs,srcO z5)] (by(simp (disch:=omega) only[go_sem,dopV,yV0,↓reduceIte,Nat.reduceEqDiff,Nat.reduceLT,Nat.reduceLeDiff,Nat.reduceAdd,Nat.reduceMul,Nat.reduceSub,Int.reduceToNat,Int.reduceLT,Int.reduceLE,Int.reduceEq,IntWalk.toNatUp,IntWalk.iteOmega,IntWalk.i64_in,V.flat,V.one,setS,setAll,n6,n6',n7,n7',n67,n67',m0,m0',m6,m6',m7,m7',k0,k0',k6,k6',k7,k7',kb,kb'];exact rfl)) (fun b o e=>?_) ?_
     ·simp only[zaa,zah]at e ⊢
      split at e
      ·rename_i hb;subst hb;simp only[n6,n6',n7,n7',n67,n67',m0,m0',m6,m6',m7,m7',k0,k0',k6,k6',k7,k7',kb,kb',↓reduceIte];exact e
      ·cases e
     ·exact⟨⟨⟨l2,hd1.melds⟩,rfl,HU⟩,z5,rfl⟩
    | false =>
     repeat' (first|with_reducible refine zak yU yU yX0 ?_|refine yJ ?_|(with_reducible (refine zax yX0 ?_;refine zbl ?_))|(refine DS.store yR yX0 yX0 yX0 yX0 yU yQ ?_;simp only[yS1];try simp only[yS2,Nat.reduceEqDiff,↓reduceIte])|fail)
     try (simp only[setS,zab,zac,zad,zaf,n6,n6',n7,n7',n67,n67',m0,m0',m6,m6',m7,m7',k0,k0',k6,k6',k7,k7',kb,kb',↓reduceIte,List.map_cons,List.map_nil,zbc,zbb,zbf,zai,zam,zaq,zal,Nat.reduceAdd,Nat.zero_add])
     refine zbj [(bs,srcO z5)] (by(simp (disch:=omega) only[go_sem,dopV,yV0,↓reduceIte,Nat.reduceEqDiff,Nat.reduceLT,Nat.reduceLeDiff,Nat.reduceAdd,Nat.reduceMul,Nat.reduceSub,Int.reduceToNat,Int.reduceLT,Int.reduceLE,Int.reduceEq,IntWalk.toNatUp,IntWalk.iteOmega,IntWalk.i64_in,V.flat,V.one,setS,setAll,n6,n6',n7,n7',n67,n67',m0,m0',m6,m6',m7,m7',k0,k0',k6,k6',k7,k7',kb,kb'];exact rfl)) (fun b o e=>?_) ?_
     ·simp only[zaa,zah]at e ⊢
      split at e
      ·rename_i hb;subst hb;simp only[n6,n6',n7,n7',n67,n67',m0,m0',m6,m6',m7,m7',k0,k0',k6,k6',k7,k7',kb,kb',↓reduceIte];exact e
      ·cases e
     ·exact⟨⟨hd1,rfl,HH.out.up⟩,z5,rfl⟩
end Go.XL
namespace Go.XL
open Go.Proofs
set_option maxRecDepth 100000
set_option maxHeartbeats 8000000
theorem yij (l:List Int):DC Tryz.prog 21 [ints l] [] (fun u S'=> ∃(bs:Nat) (x:Int) (s:GSet) (fs:List Form) (hd:Hnd),u = .tup [ptr bs,s.val,zki fs,hd.val]∧S'= [(bs,srcO x)]∧zbo s=0∧zep s fs=0∧HandUp s.plain.toNat hd):=by
 have hns:=ztn l
 refine DC.of_run Tryz.func21 rfl Tryz.ntmps21 Tryz.results21 (by simp) (fun _ _=>?_);simp only[zag,zaj,go_sem,Nat.zero_add,Nat.reduceAdd]
 repeat' (first|refine yJ ?_|fail)
 refine zbd yR yU yU (fun b3 h3=>?_)
 repeat' (first|refine yJ ?_|fail)
 refine zbd yR yU yU (fun b5 h5=>?_)
 have n35: ¬b3=b5:=fun e=>by rw[zaa,if_pos e]at h5;cases h5
 have n35': ¬b5=b3:=fun e=>n35 e.symm
 clear h3 h5
 have hz5:(Value.agg #[Value.slice none 0 0,Value.slice none 0 0]).cells.toList.map V.v= [.v (.slice none 0 0), .v (.slice none 0 0)]:=rfl
 have hz3:(Value.agg #[.int .i64 0, .slice none 0 0, .int .i64 0, .int .i64 0, .int .i64 0, .int .i64 0, .int .i64 0, .int .i64 0, .slice none 0 0]).cells.toList.map V.v= [.v (.int .i64 0), .v (.slice none 0 0), .v (.int .i64 0), .v (.int .i64 0), .v (.int .i64 0), .v (.int .i64 0), .v (.int .i64 0), .v (.int .i64 0), .v (.slice none 0 0)]:=rfl
 rw[hz5,hz3]
 clear hz5 hz3
 repeat' (first|refine yJ ?_|fail)
 refine DS.call (dst:=some 10) [] [(b5,Ob.cells [.v (.slice none 0 0), .v (.slice none 0 0)] 41),(b3,Ob.cells [.v (.int .i64 0), .v (.slice none 0 0), .v (.int .i64 0), .v (.int .i64 0), .v (.int .i64 0), .v (.int .i64 0), .v (.int .i64 0), .v (.int .i64 0), .v (.slice none 0 0)] 25)] inferInstance hns yR yH (fun _ _ e=>by cases e) (fun _ _ e=>⟨e,rfl⟩) (fun u S0 hu hdis=>?_)
 obtain⟨bs,rfl,rfl⟩:=hu
 generalize newX l=x1 at *
 have hd0:=hdis bs _ (by simp only[zaa,↓reduceIte];exact rfl)
 simp only[zaa,zah]at hd0
 have m5: ¬b5=bs:=fun e=>by rw[if_pos e]at hd0;cases hd0
 have m5': ¬bs=b5:=fun e=>m5 e.symm
 have m3: ¬b3=bs:=fun e=>by rw[if_neg m5,if_pos e]at hd0;cases hd0
 have m3': ¬bs=b3:=fun e=>m3 e.symm
 clear hd0 hdis hns
 simp only[zbk,zad,zaf]
 repeat' (first|refine yJ ?_|fail)
 refine zkh inferInstance (yik bs x1) yR yH (by(simp (disch:=omega) only[go_sem,dopV,yV0,↓reduceIte,Nat.reduceEqDiff,Nat.reduceLT,Nat.reduceLeDiff,Nat.reduceAdd,Nat.reduceMul,Nat.reduceSub,Int.reduceToNat,Int.reduceLT,Int.reduceLE,Int.reduceEq,IntWalk.toNatUp,IntWalk.iteOmega,IntWalk.i64_in,V.flat,V.one,m3,m3',m5,m5'];try exact rfl)) (fun u x2 hu=>?_)
 obtain⟨s,rfl,hs⟩:=hu
 simp only[zab,zac,m3,m3',m5,m5',↓reduceIte]
 skip
 refine zbd yR yU yU (fun b7 h7=>?_)
 simp only[zaa,zah]at h7
 have k0: ¬bs=b7:=fun e=>by rw[if_pos e]at h7;cases h7
 have k0': ¬b7=bs:=fun e=>k0 e.symm
 rw[if_neg k0]at h7
 have k5: ¬b5=b7:=fun e=>by rw[if_pos e]at h7;cases h7
 have k5': ¬b7=b5:=fun e=>k5 e.symm
 rw[if_neg k5]at h7
 have k3: ¬b3=b7:=fun e=>by rw[if_pos e]at h7;cases h7
 have k3': ¬b7=b3:=fun e=>k3 e.symm
 clear h7
 have hz3:(Value.agg #[.int .i64 0, .slice none 0 0, .int .i64 0, .int .i64 0, .int .i64 0, .int .i64 0, .int .i64 0, .int .i64 0, .slice none 0 0]).cells.toList.map V.v= [.v (.int .i64 0), .v (.slice none 0 0), .v (.int .i64 0), .v (.int .i64 0), .v (.int .i64 0), .v (.int .i64 0), .v (.int .i64 0), .v (.int .i64 0), .v (.slice none 0 0)]:=rfl
 rw[hz3]
 clear hz3
 repeat' (first|refine yJ ?_|(refine DS.store yR yE yE yE yE yU yQ ?_;simp only[yS1];try simp only[yS2,Nat.reduceEqDiff,↓reduceIte])|fail)
 try (simp only[setS,zab,zac,zad,zaf,n35,n35',m3,m3',m5,m5',k0,k0',k3,k3',k5,k5',↓reduceIte,List.map_cons,List.map_nil,zbc,zbb,zbf,zai,zam,zaq,zal,Nat.reduceAdd,Nat.zero_add])
 have HS:=Box.mk hs
 clear hs
 have co:=zck bs x2 5 (by omega)
 obtain⟨od,hod⟩: ∃od,zcu x2 5=od:=⟨_,rfl⟩
 obtain⟨x3,hx3⟩: ∃x3,stepX x2=x3:=⟨_,rfl⟩
 rw[hod,hx3]at co
 clear hod hx3
 skip
 refine zaw inferInstance co yR yH (by simp only[zaa,n35,n35',m3,m3',m5,m5',k0,k0',k3,k3',k5,k5',↓reduceIte]) ?_
 try (simp only[zab,zac,n35,n35',m3,m3',m5,m5',k0,k0',k3,k3',k5,k5',↓reduceIte])
 clear co
 have hset: ∀s:GSet,setAll [.v (.int .i64 0), .v (.slice none 0 0), .v (.int .i64 0), .v (.int .i64 0), .v (.int .i64 0), .v (.int .i64 0), .v (.int .i64 0), .v (.int .i64 0), .v (.slice none 0 0)] 0 (s.cells.map V.copy)=s.cells:=fun s=>rfl
 have hset2: ∀s s':GSet,setAll [I s.players,ints s.suits,I s.winds,I s.dragons,I s.flowers,I s.copies,I s.melds,I s.dead,ints s.reds] 0 (s'.cells.map V.copy)=s'.cells:=fun s s'=>rfl
 rw[hset s]
 have HX:=Box.mk hset2
 clear hset hset2
 cases od with
 | false =>
  repeat' (first|refine yJT ?_|fail)
  refine zkh inferInstance (zqu bs x3 s HS.out) yR yH (by(simp (disch:=omega) only[go_sem,dopV,yV0,↓reduceIte,Nat.reduceEqDiff,Nat.reduceLT,Nat.reduceLeDiff,Nat.reduceAdd,Nat.reduceMul,Nat.reduceSub,Int.reduceToNat,Int.reduceLT,Int.reduceLE,Int.reduceEq,IntWalk.toNatUp,IntWalk.iteOmega,IntWalk.i64_in,V.flat,V.one,n35,n35',m3,m3',m5,m5',k0,k0',k3,k3',k5,k5'];try exact rfl)) (fun u y1 hu=>?_)
  obtain⟨fs,rfl,hfs⟩:=hu
  have HF:=Box.mk hfs
  clear hfs
  simp only[zab,zac,n35,n35',m3,m3',m5,m5',k0,k0',k3,k3',k5,k5',↓reduceIte]
  repeat' (first|refine yJ ?_|fail)
  refine zbu (S':= [(b7,Ob.cells s.cells 25),(bs,srcO y1),(b3,Ob.cells [.v (.int .i64 0), .v (.slice none 0 0), .v (.int .i64 0), .v (.int .i64 0), .v (.int .i64 0), .v (.int .i64 0), .v (.int .i64 0), .v (.int .i64 0), .v (.slice none 0 0)] 25),(b5,Ob.cells [.v (.slice none 0 0), .v (.slice none 0 0)] 41)]) (fun d o e=>?_) ?_
  ·simp only[zaa,zah]at e ⊢
   split at e
   ·rename_i hq;subst hq;simp only[n35,n35',m3,m3',m5,m5',k0,k0',k3,k3',k5,k5',↓reduceIte];exact e
   ·rename_i hq4
    split at e
    ·rename_i hq;subst hq;simp only[n35,n35',m3,m3',m5,m5',k0,k0',k3,k3',k5,k5',↓reduceIte];exact e
    ·rename_i hq3
     split at e
     ·rename_i hq;subst hq;simp only[n35,n35',m3,m3',m5,m5',k0,k0',k3,k3',k5,k5',↓reduceIte];exact e
     ·rename_i hq2
      split at e
      ·rename_i hq;subst hq;simp only[n35,n35',m3,m3',m5,m5',k0,k0',k3,k3',k5,k5',↓reduceIte];exact e
      ·cases e
  refine zbx (id:=6) ([(b7,Ob.cells s.cells 25)]) ([(bs,srcO y1),(b3,Ob.cells [.v (.int .i64 0), .v (.slice none 0 0), .v (.int .i64 0), .v (.int .i64 0), .v (.int .i64 0), .v (.int .i64 0), .v (.int .i64 0), .v (.int .i64 0), .v (.slice none 0 0)] 25),(b5,Ob.cells [.v (.slice none 0 0), .v (.slice none 0 0)] 41)]) [0,1,2,3,4,5,6,7,8] 9 yKR mixed yP1 yP2 ((fun d o e=>?_)) ((fun d o e=>?_)) ?_
  ·simp only[zaa,zah]at e ⊢
   split at e
   ·rename_i hq;subst hq;simp only[n35,n35',m3,m3',m5,m5',k0,k0',k3,k3',k5,k5',↓reduceIte];exact⟨e,trivial⟩
   ·cases e
  ·simp only[zaa,zah]at e ⊢
   split at e
   ·rename_i hq;subst hq;simp only[n35,n35',m3,m3',m5,m5',k0,k0',k3,k3',k5,k5',↓reduceIte];exact e
   ·rename_i hq3
    split at e
    ·rename_i hq;subst hq;simp only[n35,n35',m3,m3',m5,m5',k0,k0',k3,k3',k5,k5',↓reduceIte];exact e
    ·rename_i hq2
     split at e
     ·rename_i hq;subst hq;simp only[n35,n35',m3,m3',m5,m5',k0,k0',k3,k3',k5,k5',↓reduceIte];exact e
     ·cases e
  repeat' (first|with_reducible refine zau yU yU yU yE ?_|fail)
  refine zii [(bs,srcO y1)] [(b3,Ob.cells [.v (.int .i64 0), .v (.slice none 0 0), .v (.int .i64 0), .v (.int .i64 0), .v (.int .i64 0), .v (.int .i64 0), .v (.int .i64 0), .v (.int .i64 0), .v (.slice none 0 0)] 25),(b5,Ob.cells [.v (.slice none 0 0), .v (.slice none 0 0)] 41)] inferInstance (zub bs y1 s HS.out fs HF.out) yR yH (fun d o e=>?_) (fun d o e=>?_) (zmh yKR) (fun u S' hu hdis=>?_)
  ·simp only[zaa,zah]at e ⊢
   split at e
   ·rename_i hq;subst hq;simp only[n35,n35',m3,m3',m5,m5',k0,k0',k3,k3',k5,k5',↓reduceIte];exact e
   ·cases e
  ·simp only[zaa,zah]at e ⊢
   split at e
   ·rename_i hq;subst hq;simp only[n35,n35',m3,m3',m5,m5',k0,k0',k3,k3',k5,k5',↓reduceIte];exact⟨e,trivial⟩
   ·rename_i hq2
    split at e
    ·rename_i hq;subst hq;simp only[n35,n35',m3,m3',m5,m5',k0,k0',k3,k3',k5,k5',↓reduceIte];exact⟨e,trivial⟩
    ·cases e
  obtain⟨⟨hd1,rfl,hH⟩,y2,rfl⟩:=hu
  have HH:=Box.mk hH
  clear hH hdis
  simp only[zad,zaf,zas,zat,Nat.reduceEqDiff,↓reduceIte]
  repeat' (first|with_reducible refine zau yU yU yU yE ?_|fail)
  refine DD.store (b:=b3) (off:=0) (m:=9) (T':=25) yR yH yG yU (by simp only[zaa,n35,n35',m3,m3',m5,m5',k0,k0',k3,k3',k5,k5',↓reduceIte];rfl) yR ⟨by rfl,by decide⟩ (fun _=>MpOk.nil) ?_
  simp only[setS,zab,zac,zad,zaf,n35,n35',m3,m3',m5,m5',k0,k0',k3,k3',k5,k5',↓reduceIte,List.map_cons,List.map_nil,zbc,zbb,zbf,zai,zam,zaq,zal,Nat.reduceAdd,Nat.zero_add]
  refine DD.nil ?_
  simp only[zad,zaf]
  repeat' (first|refine yJ ?_|(refine DS.store yR yE yE yE yE yU yQ ?_;simp only[yS1];try simp only[yS2,Nat.reduceEqDiff,↓reduceIte])|fail)
  try (simp only[setS,zab,zac,zad,zaf,n35,n35',m3,m3',m5,m5',k0,k0',k3,k3',k5,k5',↓reduceIte,List.map_cons,List.map_nil,zbc,zbb,zbf,zai,zam,zaq,zal,Nat.reduceAdd,Nat.zero_add])
  refine zbj [(bs,srcO y2)] (by(simp (disch:=omega) only[go_sem,dopV,yV0,↓reduceIte,Nat.reduceEqDiff,Nat.reduceLT,Nat.reduceLeDiff,Nat.reduceAdd,Nat.reduceMul,Nat.reduceSub,Int.reduceToNat,Int.reduceLT,Int.reduceLE,Int.reduceEq,IntWalk.toNatUp,IntWalk.iteOmega,IntWalk.i64_in,V.flat,V.one,setS,setAll,n35,n35',m3,m3',m5,m5',k0,k0',k3,k3',k5,k5'];exact rfl)) (fun d o e=>?_) ?_
  ·simp only[zaa,zah]at e ⊢
   split at e
   ·rename_i hq;subst hq;simp only[n35,n35',m3,m3',m5,m5',k0,k0',k3,k3',k5,k5',↓reduceIte];exact e
   ·cases e
  ·exact⟨bs,y2,s,fs,hd1,rfl,rfl,HS.out,HF.out,HH.out⟩
 | true =>
  have cr:=zce bs x3 1 3 (by omega)
  have br:=zaz (x:=x3) (n:=3) (by omega)
  have er:zbv x3 1 3=1+zar x3 3:=rfl
  obtain⟨m,hm⟩: ∃m,zbv x3 1 3=m:=⟨_,rfl⟩
  obtain⟨x4,hx4⟩: ∃x4,stepX x3=x4:=⟨_,rfl⟩
  rw[hm,hx4]at cr
  rw[hm]at er
  have hm3:1≤m∧m≤3:=by omega
  clear hm hx4 br er
  repeat' (first|refine yJT ?_|fail)
  refine zaw inferInstance cr yR yH (by simp only[zaa,n35,n35',m3,m3',m5,m5',k0,k0',k3,k3',k5,k5',↓reduceIte]) ?_
  try (simp only[zab,zac,n35,n35',m3,m3',m5,m5',k0,k0',k3,k3',k5,k5',↓reduceIte])
  clear cr
  skip
  refine zkh inferInstance (ztp bs x4 m hm3) yR yH (by(simp (disch:=omega) only[go_sem,dopV,yV0,↓reduceIte,Nat.reduceEqDiff,Nat.reduceLT,Nat.reduceLeDiff,Nat.reduceAdd,Nat.reduceMul,Nat.reduceSub,Int.reduceToNat,Int.reduceLT,Int.reduceLE,Int.reduceEq,IntWalk.toNatUp,IntWalk.iteOmega,IntWalk.i64_in,V.flat,V.one,n35,n35',m3,m3',m5,m5',k0,k0',k3,k3',k5,k5'];try exact rfl)) (fun u x5 hu=>?_)
  obtain⟨s2,rfl,hs2⟩:=hu
  have HS2:=Box.mk hs2
  clear hs2
  simp only[zab,zac,n35,n35',m3,m3',m5,m5',k0,k0',k3,k3',k5,k5',↓reduceIte]
  repeat' (first|refine yJ ?_|(refine DS.store yR yE yE yE yE yU yQ ?_;simp only[yS1];try simp only[yS2,Nat.reduceEqDiff,↓reduceIte])|fail)
  try (simp only[setS,zab,zac,zad,zaf,n35,n35',m3,m3',m5,m5',k0,k0',k3,k3',k5,k5',↓reduceIte,List.map_cons,List.map_nil,zbc,zbb,zbf,zai,zam,zaq,zal,Nat.reduceAdd,Nat.zero_add])
  rw[HX.out s s2]
  skip
  refine zkh inferInstance (zqu bs x5 s2 HS2.out) yR yH (by(simp (disch:=omega) only[go_sem,dopV,yV0,↓reduceIte,Nat.reduceEqDiff,Nat.reduceLT,Nat.reduceLeDiff,Nat.reduceAdd,Nat.reduceMul,Nat.reduceSub,Int.reduceToNat,Int.reduceLT,Int.reduceLE,Int.reduceEq,IntWalk.toNatUp,IntWalk.iteOmega,IntWalk.i64_in,V.flat,V.one,n35,n35',m3,m3',m5,m5',k0,k0',k3,k3',k5,k5'];try exact rfl)) (fun u y1 hu=>?_)
  obtain⟨fs,rfl,hfs⟩:=hu
  have HF:=Box.mk hfs
  clear hfs
  simp only[zab,zac,n35,n35',m3,m3',m5,m5',k0,k0',k3,k3',k5,k5',↓reduceIte]
  repeat' (first|refine yJ ?_|fail)
  refine zbu (S':= [(b7,Ob.cells s2.cells 25),(bs,srcO y1),(b3,Ob.cells [.v (.int .i64 0), .v (.slice none 0 0), .v (.int .i64 0), .v (.int .i64 0), .v (.int .i64 0), .v (.int .i64 0), .v (.int .i64 0), .v (.int .i64 0), .v (.slice none 0 0)] 25),(b5,Ob.cells [.v (.slice none 0 0), .v (.slice none 0 0)] 41)]) (fun d o e=>?_) ?_
  ·simp only[zaa,zah]at e ⊢
   split at e
   ·rename_i hq;subst hq;simp only[n35,n35',m3,m3',m5,m5',k0,k0',k3,k3',k5,k5',↓reduceIte];exact e
   ·rename_i hq4
    split at e
    ·rename_i hq;subst hq;simp only[n35,n35',m3,m3',m5,m5',k0,k0',k3,k3',k5,k5',↓reduceIte];exact e
    ·rename_i hq3
     split at e
     ·rename_i hq;subst hq;simp only[n35,n35',m3,m3',m5,m5',k0,k0',k3,k3',k5,k5',↓reduceIte];exact e
     ·rename_i hq2
      split at e
      ·rename_i hq;subst hq;simp only[n35,n35',m3,m3',m5,m5',k0,k0',k3,k3',k5,k5',↓reduceIte];exact e
      ·cases e
  refine zbx (id:=6) ([(b7,Ob.cells s2.cells 25)]) ([(bs,srcO y1),(b3,Ob.cells [.v (.int .i64 0), .v (.slice none 0 0), .v (.int .i64 0), .v (.int .i64 0), .v (.int .i64 0), .v (.int .i64 0), .v (.int .i64 0), .v (.int .i64 0), .v (.slice none 0 0)] 25),(b5,Ob.cells [.v (.slice none 0 0), .v (.slice none 0 0)] 41)]) [0,1,2,3,4,5,6,7,8] 9 yKR mixed yP1 yP2 ((fun d o e=>?_)) ((fun d o e=>?_)) ?_
  ·simp only[zaa,zah]at e ⊢
   split at e
   ·rename_i hq;subst hq;simp only[n35,n35',m3,m3',m5,m5',k0,k0',k3,k3',k5,k5',↓reduceIte];exact⟨e,trivial⟩
   ·cases e
  ·simp only[zaa,zah]at e ⊢
   split at e
   ·rename_i hq;subst hq;simp only[n35,n35',m3,m3',m5,m5',k0,k0',k3,k3',k5,k5',↓reduceIte];exact e
   ·rename_i hq3
    split at e
    ·rename_i hq;subst hq;simp only[n35,n35',m3,m3',m5,m5',k0,k0',k3,k3',k5,k5',↓reduceIte];exact e
    ·rename_i hq2
     split at e
     ·rename_i hq;subst hq;simp only[n35,n35',m3,m3',m5,m5',k0,k0',k3,k3',k5,k5',↓reduceIte];exact e
     ·cases e
  repeat' (first|with_reducible refine zau yU yU yU yE ?_|fail)
  refine zii [(bs,srcO y1)] [(b3,Ob.cells [.v (.int .i64 0), .v (.slice none 0 0), .v (.int .i64 0), .v (.int .i64 0), .v (.int .i64 0), .v (.int .i64 0), .v (.int .i64 0), .v (.int .i64 0), .v (.slice none 0 0)] 25),(b5,Ob.cells [.v (.slice none 0 0), .v (.slice none 0 0)] 41)] inferInstance (zub bs y1 s2 HS2.out fs HF.out) yR yH (fun d o e=>?_) (fun d o e=>?_) (zmh yKR) (fun u S' hu hdis=>?_)
  ·simp only[zaa,zah]at e ⊢
   split at e
   ·rename_i hq;subst hq;simp only[n35,n35',m3,m3',m5,m5',k0,k0',k3,k3',k5,k5',↓reduceIte];exact e
   ·cases e
  ·simp only[zaa,zah]at e ⊢
   split at e
   ·rename_i hq;subst hq;simp only[n35,n35',m3,m3',m5,m5',k0,k0',k3,k3',k5,k5',↓reduceIte];exact⟨e,trivial⟩
   ·rename_i hq2
    split at e
    ·rename_i hq;subst hq;simp only[n35,n35',m3,m3',m5,m5',k0,k0',k3,k3',k5,k5',↓reduceIte];exact⟨e,trivial⟩
    ·cases e
  obtain⟨⟨hd1,rfl,hH⟩,y2,rfl⟩:=hu
  have HH:=Box.mk hH
  clear hH hdis
  simp only[zad,zaf,zas,zat,Nat.reduceEqDiff,↓reduceIte]
  repeat' (first|with_reducible refine zau yU yU yU yE ?_|fail)
  refine DD.store (b:=b3) (off:=0) (m:=9) (T':=25) yR yH yG yU (by simp only[zaa,n35,n35',m3,m3',m5,m5',k0,k0',k3,k3',k5,k5',↓reduceIte];rfl) yR ⟨by rfl,by decide⟩ (fun _=>MpOk.nil) ?_
  simp only[setS,zab,zac,zad,zaf,n35,n35',m3,m3',m5,m5',k0,k0',k3,k3',k5,k5',↓reduceIte,List.map_cons,List.map_nil,zbc,zbb,zbf,zai,zam,zaq,zal,Nat.reduceAdd,Nat.zero_add]
  refine DD.nil ?_
  simp only[zad,zaf]
  repeat' (first|refine yJ ?_|(refine DS.store yR yE yE yE yE yU yQ ?_;simp only[yS1];try simp only[yS2,Nat.reduceEqDiff,↓reduceIte])|fail)
  try (simp only[setS,zab,zac,zad,zaf,n35,n35',m3,m3',m5,m5',k0,k0',k3,k3',k5,k5',↓reduceIte,List.map_cons,List.map_nil,zbc,zbb,zbf,zai,zam,zaq,zal,Nat.reduceAdd,Nat.zero_add])
  refine zbj [(bs,srcO y2)] (by(simp (disch:=omega) only[go_sem,dopV,yV0,↓reduceIte,Nat.reduceEqDiff,Nat.reduceLT,Nat.reduceLeDiff,Nat.reduceAdd,Nat.reduceMul,Nat.reduceSub,Int.reduceToNat,Int.reduceLT,Int.reduceLE,Int.reduceEq,IntWalk.toNatUp,IntWalk.iteOmega,IntWalk.i64_in,V.flat,V.one,setS,setAll,n35,n35',m3,m3',m5,m5',k0,k0',k3,k3',k5,k5'];exact rfl)) (fun d o e=>?_) ?_
  ·simp only[zaa,zah]at e ⊢
   split at e
   ·rename_i hq;subst hq;simp only[n35,n35',m3,m3',m5,m5',k0,k0',k3,k3',k5,k5',↓reduceIte];exact e
   ·cases e
  ·exact⟨bs,y2,s2,fs,hd1,rfl,rfl,HS2.out,HF.out,HH.out⟩
end Go.XL
namespace Go.XL
open Go.Proofs
set_option maxRecDepth 100000
set_option maxHeartbeats 8000000
structure Winn where
 tile:Int
 self:Bool
 seat:Int
 from_:Int
 flags:List Int
 flowers:Int
def Winn.cells (w:Winn):List V:= [I w.tile,Bo w.self,I w.seat,I w.from_,ints w.flags,I w.flowers]
abbrev Winn.val (w:Winn):V := .agg w.cells
structure WinIn (p:Int) (tile:Int) (w:Winn):Prop where
 tile:w.tile=tile
 seat:0≤w.seat∧w.seat<p
 from_:0≤w.from_∧w.from_<p
 flags:w.flags.length≤7∧ ∀z∈w.flags,1≤z∧z≤7
 flowers:0≤w.flowers∧w.flowers<5
theorem yic (bs:Nat) (x:Int) (s:GSet) (h:zbo s=0) (tile:Int):QC Tryz.prog 23 [ptr bs,s.val,I tile] bs x (fun u=> ∃w:Winn,u=w.val∧WinIn s.players tile w):=by
 have ok:=zcb h
 have hpl:=ok.players
 clear ok h
 obtain⟨y1,e1⟩: ∃y,stepX x=y:=⟨_,rfl⟩
 obtain⟨y2,e2⟩: ∃y,stepX y1=y:=⟨_,rfl⟩
 obtain⟨y3,e3⟩: ∃y,stepX y2=y:=⟨_,rfl⟩
 obtain⟨y4,e4⟩: ∃y,stepX y3=y:=⟨_,rfl⟩
 have c1:=zck bs x 2 (by omega)
 have c2:=zba bs y1 s.players (by omega)
 have c3:=zba bs y2 s.players (by omega)
 have c4:=zba bs y3 5 (by omega)
 have B2:=zaz (x:=y1) (n:=s.players) (by omega)
 have B3:=zaz (x:=y2) (n:=s.players) (by omega)
 have B4:=zaz (x:=y3) (n:=5) (by omega)
 obtain⟨od,hod⟩: ∃od,zcu x 2=od:=⟨_,rfl⟩
 obtain⟨a,ha⟩: ∃a,zar y1 s.players=a:=⟨_,rfl⟩
 obtain⟨b,hb⟩: ∃b,zar y2 s.players=b:=⟨_,rfl⟩
 obtain⟨fl,hfl⟩: ∃fl,zar y3 5=fl:=⟨_,rfl⟩
 rw[hod,e1]at c1
 rw[ha,e2]at c2
 rw[hb,e3]at c3
 rw[hfl,e4]at c4
 rw[ha]at B2
 rw[hb]at B3
 rw[hfl]at B4
 have HB0:=Box.mk (And.intro B2 (And.intro B3 B4))
 clear e1 e2 e3 e4 hod ha hb hfl B2 B3 B4
 unfold QC
 refine DC.of_run Tryz.func23 rfl Tryz.ntmps23 Tryz.results23 (by simp) (fun _ _=>?_);simp only[zag,zaj,go_sem,Nat.zero_add,Nat.reduceAdd]
 repeat' (first|refine yJ ?_|(refine zao (t:=4) yU yE yU ?_;simp only[yS3])|fail)
 refine zbd yR yU yU (fun b6 h6=>?_)
 have n6: ¬bs=b6:=fun e=>by rw[zaa,if_pos e]at h6;cases h6
 have n6': ¬b6=bs:=fun e=>n6 e.symm
 clear h6
 have hz0:(Value.agg #[Value.int IntKind.i64 0,Value.bool false,Value.int IntKind.i64 0,Value.int IntKind.i64 0,Value.slice none 0 0,Value.int IntKind.i64 0]).cells.toList.map V.v= [I 0,Bo false,I 0,I 0, .v (.slice none 0 0),I 0]:=rfl
 rw[hz0]
 repeat' (first|refine yJ ?_|fail)
 (refine zho (id:=1) (bs:=bs) (x:=x) (by simp only[zaa,zah,↓reduceIte, *]) [0,1,2,3,4,5,6,7,8,9,10,11,12,13,14] 15 yKR mixed yP1 yP2 ?_;simp only[zab,zac,↓reduceIte, *])
 repeat' (first|(with_reducible first|refine zau yU yU yU yE ?_|refine zff yU yU yU yU yE ?_)|(refine zcy inferInstance (c1) yU yF yF ?_;simp only[zas,zat,Nat.reduceEqDiff,↓reduceIte];(try simp only[zab,zac,↓reduceIte, *]))|(refine zcy inferInstance (c2) yU yF yF ?_;simp only[zas,zat,Nat.reduceEqDiff,↓reduceIte];(try simp only[zab,zac,↓reduceIte, *]))|(refine zcy inferInstance (c3) yU yF yF ?_;simp only[zas,zat,Nat.reduceEqDiff,↓reduceIte];(try simp only[zab,zac,↓reduceIte, *]))|(refine zcy inferInstance (c4) yU yF yF ?_;simp only[zas,zat,Nat.reduceEqDiff,↓reduceIte];(try simp only[zab,zac,↓reduceIte, *]))|fail)
 refine DD.alloc yR yU yU (fun b7 a1 a2=>?_)
 have n7: ¬bs=b7:=fun e=>by rw[zaa,if_pos e]at a1;cases a1
 have n7': ¬b7=bs:=fun e=>n7 e.symm
 have n67: ¬b6=b7:=fun e=>by rw[zaa,if_pos e]at a2;cases a2
 have n67': ¬b7=b6:=fun e=>n67 e.symm
 clear a1 a2 c1 c2 c3 c4
 rw[hz0]
 clear hz0
 repeat' (first|refine yJ ?_|(refine DS.store yR yE yE yE yE yU yQ ?_;simp only[yS1];try simp only[yS2,Nat.reduceEqDiff,↓reduceIte])|(with_reducible refine DD.nil ?_;simp only[zad,zaf])|fail)
 try (simp only[setS,zab,zac,zad,zaf,n6,n6',n7,n7',n67,n67',↓reduceIte,List.map_cons,List.map_nil,zbc,zbb,zbf,zai,zam,zaq,zal,Nat.reduceAdd,Nat.zero_add])
 refine zbu (S':= [(bs,srcO y4),(b7,Ob.cells [I tile,Bo od,I a,I b, .v (.slice none 0 0),I fl] 43),(b6,Ob.cells [I 0,Bo false,I 0,I 0, .v (.slice none 0 0),I 0] 43)]) (fun d o e=>?_) ?_
 ·simp only[zaa,zah]at e ⊢
  split at e
  ·rename_i hq;subst hq;simp only[n6,n6',n7,n7',n67,n67',↓reduceIte];exact e
  ·rename_i hq1
   split at e
   ·rename_i hq;subst hq;simp only[n6,n6',n7,n7',n67,n67',↓reduceIte];exact e
   ·rename_i hq2
    split at e
    ·rename_i hq;subst hq;simp only[n6,n6',n7,n7',n67,n67',↓reduceIte];exact e
    ·cases e
 have hnil:GR.cell ⟨[],none⟩=V.v (.slice none 0 0):=rfl
 refine zbn [0,6,7] yN (fun(y:Nat×Int×List Int×GR)=> [(8,I y.1)]) (fun(y:Nat×Int×List Int×GR)=>(bs,srcO y.2.1)::(b7,Ob.cells [I tile,Bo od,I a,I b,y.2.2.2.cell,I fl] 43)::(b6,Ob.cells [I 0,Bo false,I 0,I 0, .v (.slice none 0 0),I 0] 43)::SRg 3 y.2.2.2) (fun(y:Nat×Int×List Int×GR)=>(1≤y.1∧y.1≤8∧y.2.2.1.length+1≤y.1)∧(∀z∈y.2.2.1,1≤z∧z≤7)∧IntG [bs,b7,b6] y.2.2.1 y.2.2.2) (fun(y:Nat×Int×List Int×GR)=>8-y.1) (1,y4,[],⟨[],none⟩) yS (fun b o e=>by exact e) ⟨⟨by dsimp only;omega,by dsimp only;omega,by simp⟩,(fun z hz=>by cases hz),⟨rfl,rfl,NBg.none _ _⟩⟩ (fun y B hI hB=>?_);try dsimp only at hI hB;simp only[zad,zaf]
 clear hnil
 obtain⟨i,z2,reds,g⟩:=y
 dsimp only at hI hB ⊢
 obtain⟨⟨i0,i1,i4⟩,i2,i3⟩:=hI
 have H:=Box.mk (And.intro i3 (And.intro i2 hB))
 have hdel:=i3.nb.del 3 (c:=bs) (by simp)
 clear i2 i3 hB
 by_cases hi:(i:Int)≤7
 ·have co:=zck bs z2 5 (by omega)
  obtain⟨oe,hoe⟩: ∃oe,zcu z2 5=oe:=⟨_,rfl⟩
  rw[hoe]at co
  clear hoe
  cases oe with
  | false =>
   repeat' (first|with_reducible refine zak yU yU yX7 ?_|refine yJ ?_|(with_reducible (refine zax yX7 ?_;first|refine zay ?_|refine zbl ?_))|(refine zaw inferInstance (co) yR yX10 yX10 ?_;(try simp only[zab,zac,↓reduceIte, *]))|fail)
   refine DS.back (H.out.2.2 (i+1,stepX z2,reds,g) _ _ (by dsimp only;omega) ⟨⟨by dsimp only;omega,by dsimp only;omega,by dsimp only;omega⟩,H.out.2.1,H.out.1⟩ yS yS (fun d o e=>e))
  | true =>
   repeat' (first|with_reducible refine zak yU yU yX7 ?_|refine yJ ?_|(with_reducible (refine zax yX7 ?_;refine zay ?_))|(refine zbw yU yX7 yX7 ?_;simp only[go_sem,Nat.zero_add,Nat.reduceAdd])|(refine zaw inferInstance (co) yR yX10 yX10 ?_;(try simp only[zab,zac,↓reduceIte, *]))|fail)
   have hnb:=H.out.1.nb
   have hgl:g.l.length=reds.length:=by rw[H.out.1.l,List.length_map]
   refine zbu (S':=(bs,srcO (stepX z2))::([(b7,Ob.cells [I tile,Bo od,I a,I b,g.cell,I fl] 43),(b6,Ob.cells [I 0,Bo false,I 0,I 0, .v (.slice none 0 0),I 0] 43)]++SRg 3 g)) (fun d o e=>e) ?_
   refine zch rfl rfl yR (zed (g:=g) (ml:= [cI (i:Int)]) rfl yH yH yR yR (by decide) yH (H.out.1.ok.under (L:= [(b7,Ob.cells [I tile,Bo od,I a,I b,g.cell,I fl] 43),(b6,Ob.cells [I 0,Bo false,I 0,I 0, .v (.slice none 0 0),I 0] 43)]) hnb) yH yH (by exact Nat.zero_lt_succ _) (by intro c hc;obtain rfl:=List.mem_singleton.1 hc;rfl) ⟨by rw[hgl,List.length_singleton];omega,by decide⟩) (fun u2 E' S4 hu2=>?_)
   obtain⟨rfl,b',cap',junk',rfl,m1,m2,m3⟩:=hu2
   have hml:g.l++ [cI (i:Int)].map (fun x=>List.map V.copy x)=(reds++ [(i:Int)]).map cI:=by rw[H.out.1.l,List.map_append];rfl
   rw[hml]at m1 ⊢
   obtain⟨hnb2,hS4⟩:=zhw (L:= [(b7,Ob.cells [I tile,Bo od,I a,I b,g.cell,I fl] 43),(b6,Ob.cells [I 0,Bo false,I 0,I 0, .v (.slice none 0 0),I 0] 43)]) hnb m1 m2 m3
   refine zbu (S':=(bs,srcO (stepX z2))::([(b7,Ob.cells [I tile,Bo od,I a,I b,g.cell,I fl] 43),(b6,Ob.cells [I 0,Bo false,I 0,I 0, .v (.slice none 0 0),I 0] 43)]++SRg 3 ⟨(reds++ [(i:Int)]).map cI,some (b',cap',junk')⟩)) hS4 ?_
   have hI2:IntG [bs,b7,b6] (reds++ [(i:Int)]) ⟨(reds++ [(i:Int)]).map cI,some (b',cap',junk')⟩:=⟨rfl,SRg.ok m1,hnb2⟩
   have hr2: ∀z∈reds++ [(i:Int)],1≤z∧z≤7:=fun z hz=>(List.mem_append.1 hz).elim (H.out.2.1 z) fun hz=>by rw[List.mem_singleton.1 hz];omega
   have H3:=Box.mk (And.intro hI2 hr2)
   clear hI2 hr2 hml m1 m2 m3 hnb2 hS4 hgl
   simp only[GR.cell_some,zbk,List.length_map,zad,zaf]
   repeat' (first|refine yJ ?_|(refine DS.store yR yE yE yE yE yU yQ ?_;simp only[yS1];try simp only[yS2,Nat.reduceEqDiff,↓reduceIte])|fail)
   simp only[setS,n7,↓reduceIte]
   refine DS.back (H.out.2.2 (i+1,stepX z2,reds++ [(i:Int)],⟨(reds++ [(i:Int)]).map cI,some (b',cap',junk')⟩) _ _ (by dsimp only;omega) ⟨⟨by dsimp only;omega,by dsimp only;omega,by simp only[List.length_append,List.length_singleton];omega⟩,H3.out.2,H3.out.1⟩ yS yS (fun d o e=>?_))
   dsimp only at e
   rw[GR.cell_some,List.length_map]at e
   exact e
 ·repeat' (first|with_reducible refine zak yU yU yX7 ?_|refine yJ ?_|(with_reducible (refine zax yX7 ?_;refine zbl ?_))|fail)
  have hl3:g.l.map (·.map V.peek)=reds.map cI:=by rw[H.out.1.l,List.map_map];rfl
  have hlen:reds.length≤7:=by omega
  refine zdc (t:=35) (i:=4) (g:=g) (e:=3) (sz:=1) yR yR (H.out.1.ok.under (L:= [(b7,_),(b6,_)]) H.out.1.nb) (fun S' hs1 hs2=>?_)
  rw[hl3]
  have hbs:zae S' bs=some (srcO z2):=by
   rw[hs2 bs fun c j h=>H.out.1.nb _ _ _ h (by simp)];simp only[zaa,↓reduceIte]
  have hb6:zae S' b6=some (Ob.cells [I 0,Bo false,I 0,I 0, .v (.slice none 0 0),I 0] 43):=by
   rw[hs2 b6 fun c j h=>H.out.1.nb _ _ _ h (by simp)];simp only[zaa,zad,n6,n6',n7,n7',n67,n67',↓reduceIte]
  refine zbu (S':= [(bs,srcO z2),(b6,Ob.cells [I 0,Bo false,I 0,I 0, .v (.slice none 0 0),I 0] 43)]) (fun d o e=>?_) ?_
  ·simp only[zaa,zah]at e
   split at e
   ·rename_i h;subst h;rw[hbs];exact e
   split at e
   ·rename_i h;subst h;rw[hb6];exact e
   ·cases e
  have HO:=Box.mk (And.intro hlen H.out.2.1)
  clear hbs hb6 hs1 hs2 hlen
  simp only[List.set_cons_succ,List.set_cons_zero]
  repeat' (first|refine yJ ?_|(refine DS.store yR yX0 yX0 yX0 yX0 yU yQ ?_;simp only[yS1];try simp only[yS2,Nat.reduceEqDiff,↓reduceIte])|fail)
  try (simp only[setS,zab,zac,zad,zaf,n6,n6',n7,n7',n67,n67',↓reduceIte,List.map_cons,List.map_nil,zbc,zbb,zbf,zai,zam,zaq,zal,Nat.reduceAdd,Nat.zero_add])
  refine zbj [(bs,srcO z2)] (by(simp (disch:=omega) only[go_sem,dopV,yV0,↓reduceIte,Nat.reduceEqDiff,Nat.reduceLT,Nat.reduceLeDiff,Nat.reduceAdd,Nat.reduceMul,Nat.reduceSub,Int.reduceToNat,Int.reduceLT,Int.reduceLE,Int.reduceEq,IntWalk.toNatUp,IntWalk.iteOmega,IntWalk.i64_in,V.flat,V.one,setS,setAll,n6,n6'];exact rfl)) (fun b o e=>?_) ?_
  ·simp only[zaa,zah]at e ⊢
   split at e
   ·rename_i hb;subst hb;simp only[n6',↓reduceIte];exact e
   ·cases e
  ·exact⟨⟨⟨tile,od,a,b,reds,fl⟩,rfl,⟨rfl,HB0.out.1,HB0.out.2.1,HO.out,HB0.out.2.2⟩⟩,z2,rfl⟩
end Go.XL
namespace Go.XL
open Go.Proofs
set_option maxRecDepth 100000
set_option maxHeartbeats 8000000
theorem yaa {P:Program} {T:TypeId} {i:Nat} (hi:i≤40):bop P .shl T (.int .i64 1) (.int .i64 (i:Int))=some (.int .i64 ((2 ^ i:Nat):Int)):=by
 have h2:(2 ^ i:Nat)≤2 ^ 40:=Nat.pow_le_pow_right (by omega) hi
 have h3:(2 ^ 40:Nat)=1099511627776:=by decide
 simp only[bop,Op.shift,if_neg (show ¬((i:Int)<0) by omega),Int.toNat_natCast,Nat.min_eq_left (show i≤IntKind.i64.bits from Nat.le_trans hi (by decide))]
 show some (Value.int .i64 (IntKind.i64.wrap (1*2 ^ i)))=_
 have e:((2:Int) ^ i)=((2 ^ i:Nat):Int):=by simp
 rw[Int.one_mul,e,IntWalk.i64_in _ (by generalize (2 ^ i:Nat)=q at *;omega)]
theorem yW0 : ¬((1:Int)=0)∧ ¬((2:Int)=0)∧ ¬((2:Int)=1)∧ ¬((3:Int)=0)∧ ¬((3:Int)=1)∧ ¬((3:Int)=2)∧ ¬((4:Int)=0)∧ ¬((4:Int)=1)∧ ¬((4:Int)=2)∧ ¬((4:Int)=3)∧ ¬((5:Int)=0)∧ ¬((5:Int)=1)∧ ¬((5:Int)=2)∧ ¬((5:Int)=3)∧ ¬((5:Int)=4)∧ ¬((6:Int)=0)∧ ¬((6:Int)=1)∧ ¬((6:Int)=2)∧ ¬((6:Int)=3)∧ ¬((6:Int)=4)∧ ¬((6:Int)=5):=by repeat' (first|apply And.intro|decide)
theorem zts (bs:Nat) (x:Int) (s:GSet):SC Tryz.prog 78 [ptr bs,s.val,Bo false] bs x ((zkg s x false).1.val) (zkg s x false).2:=by
 have c1:=zce bs x 1 31 (by omega)
 have c2:=zck bs (stepX x) 2 (by omega)
 have c3:=zba bs (stepX (stepX x)) 5 (by omega)
 have b3:=zaz (x:=stepX (stepX x)) (n:=5) (by omega)
 obtain⟨j,hj⟩: ∃j:Nat,zar (stepX (stepX x)) 5=j:=⟨(zar (stepX (stepX x)) 5).toNat,by omega⟩
 have hsh:bop Tryz.prog .shl 3 (.int .i64 1) (.int .i64 (j:Int))=some (.int .i64 ((2 ^ j:Nat):Int)):=yaa (by omega)
 obtain⟨od,hod⟩: ∃od,zcu (stepX x) 2=od:=⟨_,rfl⟩
 obtain⟨y,hy⟩: ∃y,(zkp x).2=y:=⟨_,rfl⟩
 obtain⟨w,hw⟩: ∃w,(zkp x).1=w:=⟨_,rfl⟩
 have c4:=zba bs y 7 (by omega)
 have b4:=zaz (x:=y) (n:=7) (by omega)
 obtain⟨c,hc⟩: ∃c,zar y 7=c:=⟨_,rfl⟩
 rw[zkg,if_neg (by decide),hy,hw,hc]
 rw[hc]at b4 c4
 rw[hod]at c2
 rw[hj]at c3
 have c5:=zce bs (stepX y) 1 6 (by omega)
 have c6:=zce bs (stepX y) 1 7 (by omega)
 have c7:=zba bs (stepX y) 4 (by omega)
 rw[zkp,hod]at hy hw
 rw[hj,Int.toNat_natCast]at hw
 clear hj b3 hod hc
 cases od with
 | true =>
  rw[if_pos rfl]at hy hw
  dsimp only at hy hw
  subst hy
  subst hw
  rcases(show c=0∨c=1∨c=2∨c=3∨c=4∨c=5∨c=6 by omega)with rfl|rfl|rfl|rfl|rfl|rfl|rfl
  all_goals
   simp only[yec,↓reduceIte,or_true,true_or,or_self,yW0]
   clear b4
   unfold SC
   refine DC.of_run Tryz.func78 rfl Tryz.ntmps78 Tryz.results78 (by simp) (fun _ _=>?_);simp only[zag,zaj,go_sem,Nat.zero_add,Nat.reduceAdd]
   repeat' (first|refine yJ ?_|(refine zao (t:=4) yU yE yU ?_;simp only[yS3])|fail)
   refine zbd yR yU yU (fun b2 h2=>?_)
   have n2: ¬bs=b2:=fun e=>by rw[zaa,if_pos e]at h2;cases h2
   have n2': ¬b2=bs:=fun e=>n2 e.symm
   clear h2
   repeat' (first|with_reducible refine zak yU yU yX0 ?_|refine yJ ?_|(with_reducible (refine zax yX0 ?_;first|refine zay ?_|refine zbl ?_))|(refine zaw inferInstance (c1) yR yX3 yX3 ?_;(try simp only[zab,zac,↓reduceIte, *]))|(refine zaw inferInstance (c2) yR yX3 yX3 ?_;(try simp only[zab,zac,↓reduceIte, *]))|(refine zaw inferInstance (c3) yR yX3 yX3 ?_;(try simp only[zab,zac,↓reduceIte, *]))|(refine zaw inferInstance (c4) yR yX3 yX3 ?_;(try simp only[zab,zac,↓reduceIte, *]))|(refine zaw inferInstance (c5) yR yX3 yX3 ?_;(try simp only[zab,zac,↓reduceIte, *]))|(refine zaw inferInstance (c6) yR yX3 yX3 ?_;(try simp only[zab,zac,↓reduceIte, *]))|(refine zaw inferInstance (c7) yR yX3 yX3 ?_;(try simp only[zab,zac,↓reduceIte, *]))|(refine DS.store yR yX0 yX0 yX0 yX0 yU yQ ?_;simp only[yS1];try simp only[yS2,Nat.reduceEqDiff,↓reduceIte])|fail)
   try (simp only[setS,zab,zac,n2,n2',↓reduceIte,List.map_cons,List.map_nil,zbc,zai,zam,zaq,zal,Nat.reduceAdd,Nat.zero_add])
   refine zic (b:=b2) deep (fun _ _ _ h=>zib h) (fun v=>zfe _ v) (by simp only[zaa,zah,n2,n2',↓reduceIte];rfl) ?_
   simp only[setS,n2,n2',↓reduceIte]
   refine zbj [(bs,srcO _)] (by(simp (disch:=omega) only[go_sem,dopV,yV0,↓reduceIte,Nat.reduceEqDiff,Nat.reduceLT,Nat.reduceLeDiff,Nat.reduceAdd,Nat.reduceMul,Nat.reduceSub,Int.reduceToNat,Int.reduceLT,Int.reduceLE,Int.reduceEq,IntWalk.toNatUp,IntWalk.iteOmega,IntWalk.i64_in,V.flat,V.one,setS,setAll,n2,n2'];exact rfl)) (fun b o e=>?_) ⟨?_,rfl⟩
   ·simp only[zaa,zah]at e ⊢
    split at e
    ·rename_i hb;subst hb;simp only[n2',↓reduceIte];exact e
    ·cases e
   ·first|rfl|(simp only[Node.cells,ints,deep,inL,V.peek,List.map_map];rfl)
 | false =>
  rw[if_neg (by decide)]at hy hw
  dsimp only at hy hw
  subst hy
  subst hw
  rcases(show c=0∨c=1∨c=2∨c=3∨c=4∨c=5∨c=6 by omega)with rfl|rfl|rfl|rfl|rfl|rfl|rfl
  all_goals
   simp only[yec,↓reduceIte,or_true,true_or,or_self,yW0]
   clear b4
   unfold SC
   refine DC.of_run Tryz.func78 rfl Tryz.ntmps78 Tryz.results78 (by simp) (fun _ _=>?_);simp only[zag,zaj,go_sem,Nat.zero_add,Nat.reduceAdd]
   repeat' (first|refine yJ ?_|(refine zao (t:=4) yU yE yU ?_;simp only[yS3])|fail)
   refine zbd yR yU yU (fun b2 h2=>?_)
   have n2: ¬bs=b2:=fun e=>by rw[zaa,if_pos e]at h2;cases h2
   have n2': ¬b2=bs:=fun e=>n2 e.symm
   clear h2
   repeat' (first|with_reducible refine zak yU yU yX0 ?_|refine yJ ?_|(with_reducible (refine zax yX0 ?_;first|refine zay ?_|refine zbl ?_))|(refine zaw inferInstance (c1) yR yX3 yX3 ?_;(try simp only[zab,zac,↓reduceIte, *]))|(refine zaw inferInstance (c2) yR yX3 yX3 ?_;(try simp only[zab,zac,↓reduceIte, *]))|(refine zaw inferInstance (c4) yR yX3 yX3 ?_;(try simp only[zab,zac,↓reduceIte, *]))|(refine zaw inferInstance (c5) yR yX3 yX3 ?_;(try simp only[zab,zac,↓reduceIte, *]))|(refine zaw inferInstance (c6) yR yX3 yX3 ?_;(try simp only[zab,zac,↓reduceIte, *]))|(refine zaw inferInstance (c7) yR yX3 yX3 ?_;(try simp only[zab,zac,↓reduceIte, *]))|(refine DS.store yR yX0 yX0 yX0 yX0 yU yQ ?_;simp only[yS1];try simp only[yS2,Nat.reduceEqDiff,↓reduceIte])|fail)
   try (simp only[setS,zab,zac,n2,n2',↓reduceIte,List.map_cons,List.map_nil,zbc,zai,zam,zaq,zal,Nat.reduceAdd,Nat.zero_add])
   refine zic (b:=b2) deep (fun _ _ _ h=>zib h) (fun v=>zfe _ v) (by simp only[zaa,zah,n2,n2',↓reduceIte];rfl) ?_
   simp only[setS,n2,n2',↓reduceIte]
   refine zbj [(bs,srcO _)] (by(simp (disch:=omega) only[go_sem,dopV,yV0,↓reduceIte,Nat.reduceEqDiff,Nat.reduceLT,Nat.reduceLeDiff,Nat.reduceAdd,Nat.reduceMul,Nat.reduceSub,Int.reduceToNat,Int.reduceLT,Int.reduceLE,Int.reduceEq,IntWalk.toNatUp,IntWalk.iteOmega,IntWalk.i64_in,V.flat,V.one,setS,setAll,n2,n2'];exact rfl)) (fun b o e=>?_) ⟨?_,rfl⟩
   ·simp only[zaa,zah]at e ⊢
    split at e
    ·rename_i hb;subst hb;simp only[n2',↓reduceIte];exact e
    ·cases e
   ·first|rfl|(simp only[Node.cells,ints,deep,inL,V.peek,List.map_map];rfl)
end Go.XL
namespace Go.XL
open Go.Proofs
section
variable {n:Nat} {r:Rr} {Q:VEnv→Sto→Prop} {k:List Fr} {E:VEnv} {S:Sto} {ops l:List Oper} {t:Nat} {ty:TypeId} {pos:String} {af:Array Edge}
theorem yma {P:Program} {T m g:Nat} {v:Value} (hd:decide (t<n)=true) (ht:tsz P T=some (false,m)) (hv:zfu r.v0 ⟨g,0,none⟩=some v) (hg:knC g=none)
  (q:DS P n r Q (.ops ops l::k) ((t, .v v)::E) S):DS P n r Q (.ops ops (⟨some t, .load T (.global g),ty,pos,af,none⟩::l)::k) E S:=fun K W a w ⟨K',D,hvv,hold,env,hb,ha,s⟩ hw=>by
 have hc:cell w.heap ⟨g,0,none⟩=some v:=s.pre.cell ((hb.floor s).cell hv)
 have hr:(execOp a.eval ⟨some t, .load T (.global g),ty,pos,af,none⟩).run P w = .ok (.value v) w:=by
  refine zhe ha ?_
  simp only[dop,yfv,Option.bind_some,ldT,ht]
  exact hc
 refine zku (zhu rfl a) ⟨fun _ _=>trivial,?_⟩
 rw[Oper.semAt_eq _ _ _ (zgi yR),hr]
 exact q K W _ w ⟨K',D,hvv,hold,XL.put env (some t) v,hb,ha.put' (d:=some t) hd _,s.put (some t) V.Rl_v fun _ _=>V.free_Own rfl _⟩ hw
theorem ylz {b:Nat} {es:Array MapEntry} {clock:Nat} {m:Int} {mx kx:Operand} (hd:decide (t<n)=true) (hb:r.v0 b=some (.map es clock)) (hM:yhi b es clock) (h1:evV E mx=some (.v (.map (some b)))) (h2:evV E kx=some (.v (.int .i64 m))) (hm:1≤m∧m≤3)
  (q:DS Tryz.prog n r Q (.ops ops l::k) ((t, .fn (ybk m) [] [])::E) S):DS Tryz.prog n r Q (.ops ops (⟨some t, .lookup 132 mx kx false,ty,pos,af,none⟩::l)::k) E S:=fun K W a w ⟨K',D,hvv,hold,env,hbx,ha,s⟩ hw=>by
 obtain⟨o1,e1,e2⟩:=(hbx.floor s) _ _ hb
 simp only[leO]at e2;subst e2
 obtain⟨o2,e3,e4⟩:=s.pre _ _ e1
 simp only[leO]at e4;subst e4
 obtain⟨y1,a1,a2⟩:=s.rl _ _ h1
 obtain⟨y2,a3,a4⟩:=s.rl _ _ h2
 simp only[V.Rl]at a2 a4;subst a2;subst a4
 have hr:(execOp a.eval ⟨some t, .lookup 132 mx kx false,ty,pos,af,none⟩).run Tryz.prog w = .ok (.value (.func (.func (ybk m)) #[] #[])) w:=by
  have:=hM w m e3 hm.1 hm.2
  simp only[execOp,ha.ev a1,ha.ev a3,Sem.run_bind,this,Result.andThen_ok,Sem.run_pure]
 refine zku (zhu rfl a) ⟨fun _ _=>trivial,?_⟩
 rw[Oper.semAt_eq _ _ _ (zgi yR),hr]
 exact q K W _ w ⟨K',D,hvv,hold,XL.put env (some t) _,hbx,ha.put' (d:=some t) hd _,s.put (some t) (by simp only[V.Rl];exact⟨[],[],rfl,by simp[RlL],by simp[RlL]⟩) fun _ _=>V.free_Own rfl _⟩ hw
end
end Go.XL
namespace Go.XL
open Go.Proofs
open Go.Maps (Keyed)
set_option maxRecDepth 100000
set_option maxHeartbeats 4000000
abbrev UN (m:Nat):V := .v (.int .u64 (m:Int))
section
variable {P:Program} {T:TypeId} {a b:Nat}
theorem zkr (ha:a<18446744073709551616) (hb:b<18446744073709551616):bits .andNot .u64 (a:Int) (b:Int)=((andN a b:Nat):Int):=by
 have h1:(BitVec.ofInt 64 (a:Int)).toNat=a:=by
  rw[BitVec.ofInt_natCast,BitVec.toNat_ofNat];exact Nat.mod_eq_of_lt (by omega)
 have h2:(BitVec.ofInt 64 (b:Int)).toNat=b:=by
  rw[BitVec.ofInt_natCast,BitVec.toNat_ofNat];exact Nat.mod_eq_of_lt (by omega)
 have hx:(BitVec.ofInt 64 (a:Int) &&& ~~~ BitVec.ofInt 64 (b:Int)).toNat=andN a b:=by
  apply Nat.eq_of_testBit_eq
  intro j
  rw[zlv b (by simpa using ha)]
  have e1: ∀x:BitVec 64,x.toNat.testBit j=x.getLsbD j:=fun _=>rfl
  rw[e1,BitVec.getLsbD_and,BitVec.getLsbD_not,←e1,←e1,h1,h2]
  by_cases hj:j<64
  ·simp[hj]
  ·have:a.testBit j=false:=Nat.testBit_lt_two_pow (Nat.lt_of_lt_of_le (show a<2 ^ 64 by simpa using ha) (Nat.pow_le_pow_right (by omega) (by omega)))
   simp[this]
 have hl:andN a b<2 ^ 64:=ygy b (by simpa using ha)
 show IntKind.u64.wrap ((BitVec.ofInt 64 (a:Int) &&& ~~~ BitVec.ofInt 64 (b:Int)).toNat:Int)=_
 rw[hx,IntKind.wrap_u64]
 omega
theorem yab (ha:a<18446744073709551616) (hb:b<18446744073709551616):bop P .and T (.int .u64 (a:Int)) (.int .u64 (b:Int))=some (.int .u64 ((a &&& b:Nat):Int)):=by
 rw[←bits_and_u64_nat a b ha hb];rfl
theorem zsk (ha:a<18446744073709551616) (hb:b<18446744073709551616):bop P .or T (.int .u64 (a:Int)) (.int .u64 (b:Int))=some (.int .u64 ((a ||| b:Nat):Int)):=by
 rw[←bits_or_u64_nat a b ha hb];rfl
theorem zpb (ha:a<18446744073709551616) (hb:b<18446744073709551616):bop P .andNot T (.int .u64 (a:Int)) (.int .u64 (b:Int))=some (.int .u64 ((andN a b:Nat):Int)):=by
 rw[←zkr ha hb];rfl
theorem znq {k:IntKind} {i:Nat} (hi:i<64):bop P .shl T (.int .u64 1) (.int k (i:Int))=some (.int .u64 ((2 ^ i:Nat):Int)):=by
 have h: ¬((i:Int)<0):=by omega
 have h2:(2 ^ i:Nat)<2 ^ 64:=Nat.pow_lt_pow_right (by omega) hi
 simp only[bop,Op.shift,if_neg h,Int.toNat_natCast,Nat.min_eq_left (show i≤IntKind.u64.bits from Nat.le_of_lt hi)]
 show some (Value.int .u64 (IntKind.u64.wrap (1*2 ^ i)))=_
 have e:IntKind.u64.wrap (1*2 ^ i)=((2 ^ i:Nat):Int):=by
  rw[IntKind.wrap_u64,Int.one_mul]
  have:((2:Int) ^ i)=((2 ^ i:Nat):Int):=by simp
  rw[this]
  generalize 2 ^ i=x at h2
  omega
 rw[e]
end
theorem zzw {P:Program} {T:TypeId} {k':IntKind} {a b:Int} (h: ¬b<0):bop P .shr T (.int .u64 a) (.int k' b)=some (.int .u64 (a.fdiv (2 ^ (min b.toNat 64)))):=by
 simp only[bop,Op.shift]
 rw[if_neg h]
 rfl
theorem ylm {m:Nat} (h0:m≠0) (hm:m<2 ^ 64):m &&& (m-1)=andN m (2 ^ Lib.ctz 64 m):=by
 obtain⟨k,hk,ht⟩:=Lib.ctzFrom_spec 64 m (by omega) hm
 have e:Lib.ctz 64 m=Lib.ctzFrom 64 m:=by simp[Lib.ctz,h0]
 rw[e]
 generalize Lib.ctzFrom 64 m=t at *
 apply Nat.eq_of_testBit_eq
 intro j
 rw[zlv _ hm,Nat.testBit_and,Nat.testBit_two_pow]
 have h1:0<2 ^ t:=Nat.pow_pos (by omega)
 have e2:m-1=2 ^ t*(2*k)+(2 ^ t-1):=by rw[hk,Nat.mul_add];omega
 have e3:m=2 ^ t*(2*k+1)+0:=by omega
 have b1:(m-1).testBit j=if j<t then(2 ^ t-1).testBit j else(2*k).testBit (j-t):=by
  rw[e2];exact Nat.testBit_two_pow_mul_add _ (by omega) j
 have b2:m.testBit j=if j<t then(0:Nat).testBit j else(2*k+1).testBit (j-t):=by
  conv=>lhs;rw[e3]
  exact Nat.testBit_two_pow_mul_add _ h1 j
 rw[b1,b2]
 by_cases hj:j<t
 ·simp[hj]
 ·rw[if_neg hj,if_neg hj]
  by_cases hj2:t=j
  ·subst hj2
   simp[Nat.testBit_zero]
  ·obtain⟨d,rfl⟩: ∃d,j=t+(d+1):=⟨j-t-1,by omega⟩
   have:t+(d+1)-t=d+1:=by omega
   rw[this,Nat.testBit_succ,Nat.testBit_succ]
   have:(2*k+1) / 2=k:=by omega
   have:2*k / 2=k:=by omega
   simp[*]
section
variable {P:Program} {t k e:TypeId} {b:Nat} {f:Value→Option Value} {es:Array MapEntry} {clock:Nat} {key z:Value}
theorem zwc (K:Keyed P k) (ht:P.underlying t=some (.map k e)) (hz: ∀w:World,(zeroValue e).run P w = .ok z w) (M:MapIs P k f es clock) (hk:zpo P k key) (w:World) (hb:w.heap[b]?=some (.map es clock)) :
  (Instr.lookup t (.map (some b)) key true).run P w = .ok (.tuple #[(f key).getD z, .bool (f key).isSome]) w:=by
 obtain⟨l,hl⟩:=hk
 rcases M.find K ⟨l,hl⟩with⟨h1,_,h2⟩|⟨j,e0,_,_,h1,h2⟩
 ·simp[Instr.lookup,run_underlying ht,MapKept.run_getObj_map hb,K.check w _ hl,h2,hz,h1,Result.andThen]
 ·simp[Instr.lookup,run_underlying ht,MapKept.run_getObj_map hb,K.check w _ hl,h2,hz,h1,Result.andThen]
end
section
variable {v0:VH} {P:Program} {n:Nat} {r:Rr} {Q:VEnv→Sto→Prop} {k:List Fr} {E:VEnv} {S:Sto} {dst:Option Tmp} {ty:TypeId} {pos:String} {af:Array Edge} {ops l:List Oper}
theorem yhf {T kt e:TypeId} {mx kx:Operand} {b:Nat} {f:Value→Option Value} {es:Array MapEntry} {clock:Nat} {key z:Value} {u:V} (K:Keyed P kt) (ht:P.underlying T=some (.map kt e)) (hz:zcs P e=some z) (M:MapIs P kt f es clock) (hk:zpo P kt key)
  (h1:evV E mx=some (.v (.map (some b)))) (h2:evV E kx=some (.v key)) (hS:zae S b=some (.raw (.map es clock))) (hu: ∀hv,u.Rl hv ((f key).getD z)) (huf:(V.tup [u, .v (.bool (f key).isSome)]).free=true) :
  OpS v0 P n ⟨dst, .lookup T mx kx true,ty,pos,af,none⟩ E S (fun x E' S'=>x = .tup [u, .v (.bool (f key).isSome)]∧E'=E∧S'=S):=by
 intro K1 D hv hold env a w hfl ha s
 obtain⟨y1,a1,b1⟩:=s.rl _ _ h1
 obtain⟨y2,a2,b2⟩:=s.rl _ _ h2
 simp only[V.Rl]at b1 b2
 subst b1;subst b2
 have hb:w.heap[b]?=some (.map es clock):=(s.obj b _ hS).2.2
 have:=zwc K ht (fun w=>znv hz w) M hk w hb
 refine zcw (w':=w) (by simp[execOp,ha.ev a1,ha.ev a2,this];rfl) ⟨Same.refl w,_,E,S,hv,hold,PreV.refl hv,s.put dst (by simp only[V.Rl,RlL];exact⟨_,rfl,_,_,rfl,hu hv,_,_,rfl,rfl,rfl⟩) fun _ _=>V.free_Own (v := .tup [u, .v (.bool (f y2).isSome)]) huf _,rfl,rfl,rfl⟩
theorem yah {T kt e:TypeId} {mx kx:Operand} {b:Nat} {f:Value→Option Value} {es:Array MapEntry} {clock:Nat} {key z:Value} {u:V} (K:Keyed P kt) (ht:P.underlying T=some (.map kt e)) (hz:zcs P e=some z) (M:MapIs P kt f es clock) (hk:zpo P kt key)
  (h1:evV E mx=some (.v (.map (some b)))) (h2:evV E kx=some (.v key)) (hS:zae S b=some (.raw (.map es clock))) (hu: ∀hv,u.Rl hv ((f key).getD z)) (huf:(V.tup [u, .v (.bool (f key).isSome)]).free=true) (hd:dok n dst=true) (q:DS P n r Q (.ops ops l::k) (putV E dst (.tup [u, .v (.bool (f key).isSome)])) S) :
  DS P n r Q (.ops ops (⟨dst, .lookup T mx kx true,ty,pos,af,none⟩::l)::k) E S:=by
 refine zch rfl rfl hd (yhf K ht hz M hk h1 h2 hS hu huf) fun u E' S' ⟨h1,h2,h3⟩=>?_
 subst h1;subst h2;subst h3;exact q
end
theorem ylf {P:Program} {T:TypeId} {a b:Int}:bop P .and T (.int .u64 a) (.int .u64 b)=some (.int .u64 (bits .and .u64 a b)):=rfl
theorem ygm {P:Program} {T:TypeId} {k':IntKind} {a:Int}:bop P .shr T (.int .u64 a) (.int k' 58)=some (.int .u64 (a / 288230376151711744)):=by
 rw[zzw (by decide),Int.fdiv_eq_ediv_of_nonneg _ (by decide)]
 have:(2:Int) ^ (min (58:Int).toNat 64)=288230376151711744:=by decide
 rw[this]
theorem ygk (k:Nat) (hk:k<64) (idx:Nat) (hi:idx<64) (h:Lib.deBruijn64tab.getD idx 0=k):(bruijn.map fun n=>V.v (.int .u8 n))[idx]?=some (.v (.int .u8 (k:Nat))):=by
 have e2:bruijn=Lib.deBruijn64tab.map fun n=>((n:Nat):Int):=by decide +kernel
 have hi':idx<Lib.deBruijn64tab.length:=hi
 have e3:Lib.deBruijn64tab[idx]=k:=by
  rw[←h,List.getD_eq_getElem?_getD,List.getElem?_eq_getElem hi'];rfl
 rw[e2,List.map_map,List.getElem?_map,List.getElem?_eq_getElem hi',e3];rfl
theorem zwo :PC Tryz.prog 29 [UN 0] (I 64):=by
 refine DC.of_run Tryz.func29 rfl Tryz.ntmps29 Tryz.results29 (by simp) (fun _ _=>?_);simp only[zag,zaj,go_sem,Nat.zero_add,Nat.reduceAdd]
 repeat' (first|refine yJT ?_|refine zan [] yE trivial ?_|fail)
 all_goals first|rfl|(exfalso;omega)
theorem yX17 {p:Prop} (h:p:=by(simp (disch:=omega) only[go_sem,dopV,yV0,↓reduceIte,Nat.reduceEqDiff,Nat.reduceLT,Nat.reduceLeDiff,Nat.reduceAdd,Nat.reduceMul,Nat.reduceSub,Int.reduceToNat,Int.reduceLT,Int.reduceLE,Int.reduceEq,IntWalk.toNatUp,IntWalk.iteOmega,IntWalk.i64_in,V.flat,V.one, *,ylf,ygm];exact rfl)):p:=h
theorem yld (m k idx:Nat) (h0:m≠0) (hm:m<18446744073709551616) (hk:k<64) (hi:idx<64) (hget:(bruijn.map fun n=>V.v (.int .u8 n))[idx]?=some (.v (.int .u8 (k:Nat))))
  (key:IntKind.u64.wrap (bits .and .u64 (m:Int) (IntKind.u64.wrap (0-(m:Int)))*285870213051353865) / 288230376151711744=(idx:Int)):PC Tryz.prog 29 [UN m] (I (k:Nat)):=by
 have hbl:bruijn.length=64:=rfl
 refine DC.of_run Tryz.func29 rfl Tryz.ntmps29 Tryz.results29 (by simp) (fun _ _=>?_);simp only[zag,zaj,go_sem,Nat.zero_add,Nat.reduceAdd]
 repeat' (first|with_reducible refine zak yU yU yX17 ?_|refine yJ ?_|(with_reducible (refine zax yX17 ?_;refine zdz (fun _=>?_) (fun _=>?_)))|refine zan [] yX17 trivial ?_|fail)
 all_goals first|(exfalso;omega)|rfl
theorem ymu (m:Nat) (hm:m<18446744073709551616):PC Tryz.prog 29 [UN m] (I (Lib.ctz 64 m:Nat)):=by
 by_cases h0:m=0
 ·subst h0;exact zwo
 ·obtain⟨hlow,hk⟩:=Lib.lowest_bit 64 m h0 (by simpa using hm)
  obtain⟨hi,htab⟩:=Lib.deBruijn64_at _ hk
  have key:=tz64_key m _ hm h0 hlow
  rw[←Int.zero_sub]at key
  exact yld m _ _ h0 hm hk hi (ygk _ hk _ hi htab) key
end Go.XL
namespace Go.XL
open Go.Proofs
open Go.Maps (Keyed)
open Go.ChangeMaps (setBlock)
set_option maxRecDepth 100000
set_option maxHeartbeats 4000000
section
variable {v0:VH} {P:Program} {n:Nat} {r:Rr} {Q:VEnv→Sto→Prop} {k:List Fr} {E:VEnv} {S:Sto} {dst:Option Tmp} {ty:TypeId} {pos:String} {af:Array Edge} {ops l:List Oper}
theorem ylq {T tn e sz by_ t : Nat} {z : Value} {kn : IntKind} {sx x : Operand} {N : Nat} (hd : dst = some t) (ht : tel P T = some (e, sz, by_)) (htn : P.underlying tn = some (.int kn)) (hz : zcs P e = some z) (hzs : z.cells.size = sz) (hzo : zhy z.cells.toList = true) (hsz : 0 < sz)
    (hs : evV E sx = some (.v (.slice none 0 0))) (hx : evV E x = some (.v (.int .i64 (N : Int)))) (hN : 0 < N ∧ N ≤ 1000000) (hby : by_ ≤ 65536) :
    OpS v0 P n ⟨dst, .call { callee := .builtin .append, args := #[sx, x], argTypes := #[T, tn] }, ty, pos, af, none⟩ E S
      (fun u E' S' => E' = E ∧ ∃ b cap, zae S b = none ∧ N ≤ cap ∧ cap ≤ maxLen ∧ u = .v (.slice (some ⟨b, 0, none⟩) N cap) ∧ ∃ j : List V, j.length = cap * sz ∧ (∀ v ∈ j, v.free = true) ∧ S' = (b, .cells j e) :: S) := by
  subst hd
  intro K D hv hold env a w hfl ha s
  obtain ⟨y, g2, g2'⟩ := s.rl _ _ hs
  simp only [V.Rl] at g2'; subst g2'
  obtain ⟨yx, g3, g3'⟩ := s.rl _ _ hx
  simp only [V.Rl] at g3'; subst g3'
  obtain ⟨hu, i, hi, hisz, hiby⟩ := zie ht
  have hz' : i.zero = some z := by unfold zcs at hz; rw [hi] at hz; exact hz
  subst hisz; subst hiby
  have hbytes : N * i.bytes ≤ 1000000 * 65536 := Nat.mul_le_mul hN.2 hby
  have hr := Lib.run_append_nil_zeros (P := P) w T tn ty e i z .i64 kn hu htn hi hz' N hN.1 hsz (by omega) (by omega)
  have hge := grownCap_ge w N 0 e
  have hcm := grownCap_le_maxLen w N 0 e (by have : (1000000 : Nat) ≤ maxLen := by decide
                                             omega)
  have run : ∀ {y' : Value} {w' : World}, (Builtin.append_ #[T, tn] ty #[.slice none 0 0, .int .i64 (N : Int)]).run P w = .ok y' w' →
      (execOp a.eval ⟨some t, .call { callee := .builtin .append, args := #[sx, x], argTypes := #[T, tn] }, ty, pos, af, none⟩).run P w = .ok (.value y') w' := fun hr => by
    simp [execOp, resolve, Go.invoke, builtin, ha.ev g2, ha.ev g3, hr]
  refine zcw (run hr) ⟨⟨rfl, rfl, rfl⟩, ?_⟩
  obtain ⟨cap2, hcap2⟩ : ∃ c2, c2 = grownCap w N 0 e := ⟨_, rfl⟩
  rw [← hcap2] at hge hcm ⊢
  let zs := Builtin.zeroCells z.cells N ++ Builtin.zeroCells z.cells (cap2 - N)
  have hzs2 : zs.toList.length = cap2 * i.size := by
    rw [Array.length_toList, Array.size_append, size_zeroCells, size_zeroCells, hzs, ← Nat.add_mul]; congr 1; omega
  have hzo2 : Ones zs.toList := fun u hu => by
    rw [Array.toList_append] at hu
    rcases List.mem_append.1 hu with hu | hu
    · exact zgp hzo _ (by omega) u hu
    · exact zgp hzo _ (by omega) u hu
  have h := zge (hv := hv) (h := w.heap) (hold := hold) (T := e) (cs := zs.toList) (l := zs.toList.map V.v) (zhg _) hzo2 (zfc _)
  rw [show zs.toList.toArray = zs by simp] at h
  obtain ⟨s2, hn⟩ := s.born (x := .cells zs e) h
  exact ⟨_, E, _, hv, hold, PreV.refl hv, s2.put (some t) V.Rl_v fun _ _ => trivial, rfl, w.heap.size, cap2, hn, by omega, hcm, rfl, zs.toList.map V.v, by rw [List.length_map]; exact hzs2, zfc _, rfl⟩
theorem yhd {T e sz by_:Nat} {x u:Operand} {kd:IntKind} (ht:tel P T=some (e,sz,by_)) (hx:evV E x=some (.v (.slice none 0 0))) (hu:evV E u=some (.v (.int kd 0))) :
  OpS v0 P n ⟨dst, .slice T x none (some u) none,ty,pos,af,none⟩ E S (fun v E' S'=>v = .v (.slice none 0 0)∧E'=E∧S'=S):=by
 intro K D hv hold env a w hfl ha s
 obtain⟨y,g2,g2'⟩:=s.rl _ _ hx
 simp only[V.Rl]at g2';subst g2'
 obtain⟨yu,g3,g3'⟩:=s.rl _ _ hu
 simp only[V.Rl]at g3';subst g3'
 have run:(execOp a.eval ⟨dst, .slice T x none (some u) none,ty,pos,af,none⟩).run P w = .ok (.value (.slice none 0 0)) w:=by
  refine zhe ha ?_
  simp[dop,g2,g3,ht,slc,bnd]
 exact zcw run ⟨Same.refl w,_,E,S,hv,hold,PreV.refl hv,s.put dst V.Rl_v fun _ _=>trivial,rfl,rfl,rfl⟩
theorem ylw {T e sz by_:Nat} {x u:Operand} {kd:IntKind} (ht:tel P T=some (e,sz,by_)) (hx:evV E x=some (.v (.slice none 0 0))) (hu:evV E u=some (.v (.int kd 0))) (hd:dok n dst=true) (q:DS P n r Q (.ops ops l::k) (putV E dst (.v (.slice none 0 0))) S) :
  DS P n r Q (.ops ops (⟨dst, .slice T x none (some u) none,ty,pos,af,none⟩::l)::k) E S:=by
 refine zch rfl rfl hd (yhd ht hx hu) fun u E' S' ⟨g1,g2,g3⟩=>?_
 subst g1;subst g2;subst g3;exact q
theorem ylo {x:Operand} {p:Option Addr} {m c T e:Nat} (hT:P.underlying T=some (.slice e)) (hx:evV E x=some (.v (.slice p m c))) :
  OpS v0 P n ⟨dst, .call {callee := .builtin .cap,args:= #[x],argTypes:= #[T]},ty,pos,af,none⟩ E S (fun u E' S'=>u=I (c:Nat)∧E'=E∧S'=S):=by
 intro K D hv hold env a w hfl ha s
 obtain⟨y,g2,g2'⟩:=s.rl _ _ hx
 simp only[V.Rl]at g2';subst g2'
 have run:(execOp a.eval ⟨dst, .call {callee := .builtin .cap,args:= #[x],argTypes:= #[T]},ty,pos,af,none⟩).run P w = .ok (.value (.int .i64 (c:Nat))) w:=by
  simp[execOp,resolve,Go.invoke,builtin,Builtin.cap_,run_underlying hT,goInt,ha.ev g2]
 exact zcw run ⟨Same.refl w,_,E,S,hv,hold,PreV.refl hv,s.put dst V.Rl_v fun _ _=>trivial,rfl,rfl,rfl⟩
theorem zxf {x:Operand} {p:Option Addr} {m c T e:Nat} (hT:P.underlying T=some (.slice e)) (hx:evV E x=some (.v (.slice p m c))) (hd:dok n dst=true) (q:DS P n r Q (.ops ops l::k) (putV E dst (I (c:Nat))) S) :
  DS P n r Q (.ops ops (⟨dst, .call {callee := .builtin .cap,args:= #[x],argTypes:= #[T]},ty,pos,af,none⟩::l)::k) E S:=by
 refine zch rfl rfl hd (ylo hT hx) fun u E' S' ⟨g1,g2,g3⟩=>?_
 subst g1;subst g2;subst g3;exact q
end
section
variable {P:Program} {t k e:TypeId} {b:Nat} {f:Value→Option Value} {es:Array MapEntry} {clock:Nat} {key:Value}
theorem yas (K:Keyed P k) (ht:P.underlying t=some (.map k e)) (M:MapIs P k f es clock) (hk:zpo P k key) (val:Value) :
  ∃es2 clock2,MapIs P k (upd f key val) es2 clock2∧ ∀w:World,w.heap[b]?=some (.map es clock)→(Instr.mapUpdate t (.map (some b)) key val).run P w = .ok () (setBlock w b (.map es2 clock2)):=by
 obtain⟨l,hl⟩:=hk
 rcases M.find K ⟨l,hl⟩with⟨h1,hn,h2⟩|⟨j,e0,hj,h0,h1,h2⟩
 ·refine⟨es.push ⟨key,val,clock⟩,clock+1,M.push ⟨l,hl⟩ hn val,fun w hb=>?_⟩
  simp[Instr.mapUpdate,run_underlying ht,MapKept.run_getObj_map hb,K.check w false hl,h2,MapKept.run_setObj_map _ hb,Result.andThen,setBlock]
 ·refine⟨_,clock,by rw[←h0];exact M.set hj val,fun w hb=>?_⟩
  have hj':es[j]?=some e0:=by simpa using hj
  have hs:es.modify j (fun e=>{e with key:=key,val:=val})=es.modify j fun e=>{e with val:=val}:=by
   apply Array.ext'
   rw[Array.toList_modify,Array.toList_modify,ChangeMaps.modify_eq_set _ _ _ _ hj,ChangeMaps.modify_eq_set _ _ _ _ hj]
   have:({e0 with key:=key,val:=val}:MapEntry)={e0 with val:=val}:=by rw[←h0]
   rw[this]
  simp[Instr.mapUpdate,run_underlying ht,MapKept.run_getObj_map hb,K.check w false hl,h2,hj',h0,K.stays w hl,hs,MapKept.run_setObj_map _ hb,Result.andThen,setBlock]
end
section
variable {v0:VH} {P:Program} {n:Nat} {r:Rr} {Q:VEnv→Sto→Prop} {k:List Fr} {E:VEnv} {S:Sto} {dst:Option Tmp} {ty:TypeId} {pos:String} {af:Array Edge} {ops l:List Oper}
theorem OpS.mapUpdate {T kt e:TypeId} {mx kx x:Operand} {b:Nat} {f:Value→Option Value} {es:Array MapEntry} {clock:Nat} {key val:Value} {xv:V} (K:Keyed P kt) (ht:P.underlying T=some (.map kt e)) (M:MapIs P kt f es clock) (hk:zpo P kt key)
  (h1:evV E mx=some (.v (.map (some b)))) (h2:evV E kx=some (.v key)) (h3:evV E x=some xv) (hxv:xv.Is val) (hS:zae S b=some (.raw (.map es clock))) :
  ∃es2 clock2,MapIs P kt (upd f key val) es2 clock2∧OpS v0 P n ⟨dst, .mapUpdate T mx kx x,ty,pos,af,none⟩ E S (fun u E' S'=>u = .v undef∧E'=E∧S'=setS b (.raw (.map es2 clock2)) S):=by
 obtain⟨es2,clock2,q1,q2⟩:=yas (b:=b) K ht M hk val
 refine⟨es2,clock2,q1,?_⟩
 intro K1 D hv hold env a w hfl ha s
 obtain⟨y1,a1,b1⟩:=s.rl _ _ h1
 obtain⟨y2,a2,b2⟩:=s.rl _ _ h2
 obtain⟨y3,a3,b3⟩:=s.rl _ _ h3
 simp only[V.Rl]at b1 b2
 have b3:=hxv _ _ b3
 subst b1;subst b2;subst b3
 obtain⟨hb,s'⟩:=s.putObj (o' := .map es2 clock2) hS
 have:=q2 w hb
 refine zvn (w':=setBlock w b (.map es2 clock2)) (by simp[execOp,ha.ev a1,ha.ev a2,ha.ev a3,this]) ⟨⟨rfl,rfl,rfl⟩,_,E,_,hv,hold,PreV.refl hv,s'.put dst V.Rl_v fun _ _=>trivial,rfl,rfl,rfl⟩
theorem DS.mapUpdate {T kt e:TypeId} {mx kx x:Operand} {b:Nat} {f:Value→Option Value} {es:Array MapEntry} {clock:Nat} {key val:Value} {xv:V} (K:Keyed P kt) (ht:P.underlying T=some (.map kt e)) (M:MapIs P kt f es clock) (hk:zpo P kt key)
  (h1:evV E mx=some (.v (.map (some b)))) (h2:evV E kx=some (.v key)) (h3:evV E x=some xv) (hxv:xv.Is val) (hS:zae S b=some (.raw (.map es clock))) (hd:dok n dst=true)
  (q: ∀es2 clock2,MapIs P kt (upd f key val) es2 clock2→DS P n r Q (.ops ops l::k) (putV E dst (.v undef)) (setS b (.raw (.map es2 clock2)) S)) :
  DS P n r Q (.ops ops (⟨dst, .mapUpdate T mx kx x,ty,pos,af,none⟩::l)::k) E S:=by
 obtain⟨es2,clock2,q1,q2⟩:=OpS.mapUpdate (v0:=r.v0) (n:=n) (dst:=dst) (ty:=ty) (pos:=pos) (af:=af) K ht M hk h1 h2 h3 hxv hS
 refine zch rfl rfl hd q2 fun u E' S' ⟨g1,g2,g3⟩=>?_
 subst g1;subst g2;subst g3;exact q es2 clock2 q1
end
theorem zlp {sz:Nat} (j:List V): ∀{l:List (List V)},(∀c∈l,c.length=sz)→zdm sz l.length (l.flatten++j)=l
 | [],_=>rfl
 | c::r,h=>by
  have hc:=h c (List.mem_cons_self ..)
  rw[List.length_cons,zdm,List.flatten_cons,List.append_assoc,List.take_append_of_le_length (by omega),List.take_of_length_le (by omega),List.drop_append_of_le_length (by omega),List.drop_eq_nil_of_le (by omega),List.nil_append,zlp j fun c hc=>h c (List.mem_cons_of_mem _ hc)]
section
variable {v0:VH} {P:Program} {n:Nat} {r:Rr} {Q:VEnv→Sto→Prop} {k:List Fr} {E:VEnv} {S:Sto}
theorem zxe {t e sz:Nat} {g:GR} (hE:zbr E t=some g.cell) (hg:g.Ok e sz S) (q: ∀S',(∀b o,zae S' b=some o→zae S b=some o)→DS P n r Q k ((t, .lst (g.l.map (·.map V.copy)))::E) S'):DS P n r Q k E S:=by
 obtain⟨gl,blk⟩:=g
 cases blk with
 | none =>
  have h0:gl= []:=hg
  subst h0
  intro K W a w ⟨K',D,hv,hold,env,hb,ha,s⟩ hw
  refine q S (fun _ _ e=>e) K W a w ⟨K',D,hv,hold,env,hb,ha,⟨s.pre,fun u v e=>?_,s.obj,s.held,s.base,s.vbase⟩⟩ hw
  simp only[zbr]at e
  by_cases hu:t=u
  ·subst hu
   simp only[if_true,Option.some.injEq,List.map_nil]at e;subst e
   obtain⟨y,e1,e2,_⟩:=s.slot t _ hE
   simp only[GR.cell,V.Rl]at e2;subst e2
   exact⟨_,e1,by simp only[V.Rl];exact⟨none,0,0,rfl,Nat.le_refl _,Nat.zero_le _,by simp,by simp[RlE]⟩,trivial⟩
  ·rw[if_neg hu]at e;exact s.slot u v e
 | some x =>
  obtain⟨b,cap,j⟩:=x
  have hfl:=zje hg.ll
  refine zlx (t:=t) (b:=b) (sz:=sz) (by rw[hE,GR.cell_some]) hg.look (by rw[List.length_append,hfl];omega) ⟨hg.le,hg.cap⟩ ?_
  have hch:zdm sz gl.length ((gl.flatten++j).map V.copy)=gl.map (·.map V.copy):=by
   have h:=zlp (sz:=sz) (j.map V.copy) (l:=gl.map (·.map V.copy)) (fun c hc=>by obtain⟨d,hd,rfl⟩:=List.mem_map.1 hc;rw[List.length_map];exact hg.ll d hd)
   rw[List.length_map]at h
   rw[List.map_append,List.map_flatten];exact h
  rw[hch]
  exact q _ fun b' o e=>by
   rw[zbz]at e
   split at e
   ·cases e
   ·exact e
end
section
variable {v0:VH} {P:Program} {n:Nat} {r:Rr} {Q:VEnv→Sto→Prop} {k:List Fr} {E:VEnv} {S:Sto} {dst:Option Tmp} {ty:TypeId} {pos:String} {af:Array Edge} {ts:Array TypeId} {ops l:List Oper}
theorem yhg {g:FuncId} {args:List V} {xs:Array Operand} {fn:Func} {S1 S2:Sto} {R:V→Sto→Prop} (hf:FnOk P g fn) (he:evsV (evV E) xs.toList=some args)
  (hc:DCh v0 P g args S1 R) (h1: ∀b o,zae S1 b=some o→zae S b=some o) (h2: ∀b o,zae S2 b=some o→zae S b=some o∧zae S1 b=none) :
  OpS v0 P n ⟨dst, .call {callee := .value (.func g),args:=xs,argTypes:=ts},ty,pos,af,none⟩ E S (fun v E' S'=>E'=E∧ ∃S0,S'=S0++S2∧R v S0∧ ∀b o,zae S0 b=some o→zae S2 b=none):=by
 intro K D hv hold env a w hfl ha s
 obtain⟨ax,e5,e6⟩:=zft s.rl he
 obtain⟨K',hcl,s1,back⟩:=s.call h1 h2
 refine zgc (fs:= []) (cs:= []) ha hf rfl e5 ?_
 refine(hc K' hv hcl w.heap _ hfl (by simpa using e6) s1 w rfl).mono fun e w' ⟨v,ev,hs,u,S',hv',hold',p1,p2,p3⟩=>?_
 obtain⟨hold2,q1,q2⟩:=back (d:=dst) p1 p2
 exact⟨v,ev,hs,u,E,_,hv',hold2,p1,q1,rfl,S',rfl,p3,q2⟩
theorem yhs {t:Nat} {g:FuncId} {args:List V} {xs:Array Operand} {fn:Func} {R:V→Sto→Prop} (hf:FnOk P g fn) (hc:DC P g args S R) (hd:decide (t<n)=true) (he:evsV (evV E) xs.toList=some args)
  (q: ∀u S',R u S'→DS P n r Q (.ops ops l::k) ((t,u)::E) S'):DS P n r Q (.ops ops (⟨some t, .call {callee := .value (.func g),args:=xs,argTypes:=ts},ty,pos,af,none⟩::l)::k) E S:=by
 refine zch rfl rfl hd (yhg (S1:=S) (S2:= []) hf he (hc _) (fun _ _ e=>e) (fun _ _ e=>by cases e)) fun v E' S' ⟨eE,S0,eS,hR,hdis⟩=>?_
 subst eE;subst eS
 simpa [putV] using q v S0 hR
end
end Go.XL
namespace Go.XL
section
variable {P:Program} {n:Nat} {r:Rr} {Q:VEnv→Sto→Prop} {ops l:List Oper} {k:List Fr} {E:VEnv} {S:Sto} {dst:Option Tmp} {ty:TypeId} {pos:String} {af:Array Edge} {t:Nat}
theorem ype {v0:VH} {T T2:TypeId} {a b:ByteArray} {x y:Operand} (hx:evV E x=some (.v (.string a))) (hy:evV E y=some (.v (.string b))) (hl:a.size+b.size≤1000000) :
  OpS v0 P n ⟨dst, .binOp .add T x y T2,ty,pos,af,none⟩ E S (fun v E' S'=>v = .v (.string (a++b))∧E'=E∧S'=S):=by
 intro K D hv hold env a0 w hfl ha s0
 obtain⟨y1,e1,e2⟩:=s0.rl _ _ hx
 obtain⟨y2,e3,e4⟩:=s0.rl _ _ hy
 simp only[V.Rl]at e2 e4;subst e2;subst e4
 have hm: ¬(((a.size+b.size:Nat):Int) > IntKind.i64.max):=by
  have:IntKind.i64.max=9223372036854775807:=rfl
  omega
 have hrun:(execOp a0.eval ⟨dst, .binOp .add T x y T2,ty,pos,af,none⟩).run P w = .ok (.value (.string (a++b))) w:=by
  have hb:(do eqGuard .add T x y (.string a) (.string b);binOp .add T (.string a) (.string b):Sem Value).run P w = .ok (.string (a++b)) w:=by
   rw[zot]
   simp only[pure_bind,binOp,Op.stringOp,if_neg hm]
   rfl
  simp only[execOp,ha.ev e1,ha.ev e3,Sem.run_bind]at hb ⊢
  simp only[hb,Result.andThen_ok,Sem.run_pure]
 exact zcw hrun ⟨Same.refl w,_,E,S,hv,hold,PreV.refl hv,s0.put dst V.Rl_v fun _ _=>trivial,rfl,rfl,rfl⟩
theorem yrg {T T2:TypeId} {a b:ByteArray} {x y:Operand} (hd:decide (t<n)=true) (hx:evV E x=some (.v (.string a))) (hy:evV E y=some (.v (.string b))) (hl:a.size+b.size≤1000000)
  (q:DS P n r Q (.ops ops l::k) ((t, .v (.string (a++b)))::E) S):DS P n r Q (.ops ops (⟨some t, .binOp .add T x y T2,ty,pos,af,none⟩::l)::k) E S:=by
 refine zch rfl rfl hd (ype hx hy hl) fun v E' S' ⟨h1,h2,h3⟩=>?_
 subst h1;subst h2;subst h3;exact q
end
end Go.XL
namespace Go.XL
open Go.Proofs
set_option maxRecDepth 100000
set_option maxHeartbeats 8000000
def nmA :List V:= [St8 ⟨#[97]⟩,St8 ⟨#[98,50]⟩,St8 ⟨#[116,104,114,101,101,45,107,105,110]⟩,St8 ⟨#[100]⟩,St8 ⟨#[101,45,101]⟩,St8 ⟨#[102]⟩,St8 ⟨#[103,57]⟩,St8 ⟨#[104]⟩]
theorem ysu :bslV Tryz.prog 146 8 (nmA.zipIdx.map fun p=>(p.2,p.1))=some (9,1,nmA):=by kernel_rfl
theorem nm_t :Int.tmod 0 8=0∧Int.tmod 1 8=1∧Int.tmod 2 8=2∧Int.tmod 3 8=3∧Int.tmod 4 8=4∧Int.tmod 5 8=5∧Int.tdiv 0 8=0∧Int.tdiv 1 8=0∧Int.tdiv 2 8=0∧Int.tdiv 3 8=0∧Int.tdiv 4 8=0∧Int.tdiv 5 8=0∧Int.tmod 0 4=0:=by decide
theorem chA :zdm 1 8 nmA= [[St8 ⟨#[97]⟩],[St8 ⟨#[98,50]⟩],[St8 ⟨#[116,104,114,101,101,45,107,105,110]⟩],[St8 ⟨#[100]⟩],[St8 ⟨#[101,45,101]⟩],[St8 ⟨#[102]⟩],[St8 ⟨#[103,57]⟩],[St8 ⟨#[104]⟩]]:=rfl
theorem yjc : ∀i:Int,0≤i→i<6→PC Tryz.prog 46 [I i] (St8 (zji i.toNat)):=by
 intro n h0 hn
 rcases(show n=0∨n=1∨n=2∨n=3∨n=4∨n=5 by omega)with rfl|rfl|rfl|rfl|rfl|rfl
 all_goals
  clear h0 hn
  have nt:=nm_t
  obtain⟨q1,q2,q3,q4,q5,q6,q7,q8,q9,q10,q11,q12,q13⟩:=nt
  refine DC.of_run Tryz.func46 rfl Tryz.ntmps46 Tryz.results46 (by simp) (fun _ _=>?_);simp only[zag,zaj,go_sem,Nat.zero_add,Nat.reduceAdd]
  repeat' (first|refine yJ ?_|refine zbe (id:=1) [1,2,0,3,4,6,7,8,5,9,10] 11 yKR mixed yP1 yP2 ?_|with_reducible refine zau yU yU yU yE ?_|fail)
  refine zfx yU yR ysu ?_
  simp only[chA,go_sem,Nat.zero_add,Nat.reduceAdd,zas,zat,Nat.reduceEqDiff,↓reduceIte]
  repeat' (first|with_reducible refine zff yU yU yU yU yE ?_|fail)
  refine zxh yU yU yE ?_
  repeat' (first|with_reducible refine zau yU yU yU yE ?_|(refine zfx yU yE yE ?_;simp only[go_sem,Nat.zero_add,Nat.reduceAdd];simp only[zas,zat,Nat.reduceEqDiff,↓reduceIte])|fail)
  simp only[show zcp (Value.string {data:= #[]}) 4= [St8 ⟨#[]⟩,St8 ⟨#[]⟩,St8 ⟨#[]⟩,St8 ⟨#[]⟩]from rfl,List.set_cons_zero,List.set_cons_succ,List.take_succ_cons,List.take_zero,List.drop_succ_cons,List.drop_zero]
  repeat' (first|with_reducible refine zff yU yU yU yU yE ?_|fail)
  refine zxh yU yU yE ?_
  repeat' (first|with_reducible refine zbg ?_|fail)
  simp only[zbk,zas,zat,Nat.reduceEqDiff,↓reduceIte]
  refine yrg yR yU yU (by decide) ?_
  repeat' (first|refine yJ ?_|refine zan [] yE trivial ?_|fail)
  rfl
theorem yoe (n:Nat) (hn:n<6):PC Tryz.prog 46 [I n] (St8 (zji n)):=by
 have h:=yjc n (by omega) (by omega)
 rw[Int.toNat_natCast]at h
 exact h
end Go.XL
