/- A part of a program logic over the kit's walk rules, and contracts of functions in it. Conditions: as each theorem says. -/
import Derived.Test.YtkbmckmbkklnbaaGreatDoorW10
import Derived.Test.YtkbmckmbkklnbaaGreatDoorRows
import Derived.WideKeyArgs
import Derived.OpenShut
import Derived.WalkKit
import Derived.ProofKit
import Derived.Laws.StructEq
set_option linter.all false
namespace Go.XL
open Go.Proofs
set_option maxRecDepth 100000
set_option maxHeartbeats 8000000
theorem ykt (s:GSet):PC Tryz.prog 10 [s.val] (Bo (decide (20<(s.suits.length:Int)) || decide (60<(s.reds.length:Int)))):=by refine DC.of_run Tryz.func10 rfl Tryz.ntmps10 Tryz.results10 (by simp) (fun _ _=>?_);simp only[zad,zag,go_sem,Zaa,Nat.reduceAdd];(repeat' first|refine yJT ?_|refine yT2E (fun _=>?_) (fun _=>?_)|refine yuL ?_|refine yuA ?_|fail);(all_goals simp[tupV, *])
def zpg :List Feed→Bool
 | []=>false
 | f::l=>decide (60<(f.kinds.length:Int)) || zpg l
def zti (x:Scale) (p:Pay):Bool:=decide (30<(x.limits.length:Int)) || decide (10<(p.places.length:Int)) || decide (10<(p.feeds.length:Int)) || zpg p.feeds
theorem yct {l:List Feed} {i:Nat} (hi:i<l.length):zpg (l.drop i)=(decide (60<(l[i].kinds.length:Int)) || zpg (l.drop (i+1))):=by rw[Zam hi];rfl
theorem yku (x:Scale) (p:Pay):PC Tryz.prog 12 [x.val,p.val] (Bo (zti x p)):=by
 refine DC.of_run Tryz.func12 rfl Tryz.ntmps12 Tryz.results12 (by simp) (fun _ _=>?_);simp only[zad,zag,go_sem,Zaa,Nat.reduceAdd];(repeat' first|refine yJT ?_|refine yT2E (fun _=>?_) (fun _=>?_)|refine yuD ?_|refine yuC ?_|refine yuA ?_|fail);all_goals try (simp[tupV,zti, *];done)
 rename_i g1 g2 g3
 refine zas [3] yN (fun(i:Nat)=> [(5,I i)]) (fun(i:Nat)=>i≤p.feeds.length∧zti x p=zpg (p.feeds.drop i)) (fun(i:Nat)=>p.feeds.length-i) 0 yS ⟨Zai _,by
  rw[zti,decide_eq_false g1,decide_eq_false g2,decide_eq_false g3];simp⟩ (fun i B hI hB=>?_);try dsimp only at hI hB;simp only[zaf,zai]
 have HB:=Box.mk (And.intro hI.2 hB);have hI:=hI.1;clear hB;by_cases hi:(i:Int)<(p.feeds.length:Int);{have hi':i<p.feeds.length:=yw;have hat:=Box.mk (yct hi');(repeat' first|refine yJT ?_|refine yT2E (fun _=>?_) (fun _=>?_)|refine yuA ?_|fail);{rename_i e1;rw[HB.out.1,hat.out,decide_eq_true e1];rfl};·rename_i e1;refine DS.back (HB.out.2 (i+1) _ _ (by omega) ⟨by omega,by rw[HB.out.1,hat.out,decide_eq_false e1];rfl⟩ yS yS (fun b o e=>by cases e))};·(repeat' first|refine yJT ?_|refine yuA ?_|fail);rw[HB.out.1,Zas (by omega)];rfl
def zpf :List Node→Bool
 | []=>false
 | x::l=>decide (60<(x.kinds.length:Int)) || zpf l
def zmq (l:List Node):Bool:=decide (80<(l.length:Int)) || zpf l
theorem ycs {l:List Node} {i:Nat} (hi:i<l.length):zpf (l.drop i)=(decide (60<(l[i].kinds.length:Int)) || zpf (l.drop (i+1))):=by rw[Zam hi];rfl
theorem ztj (l:List Node):PC Tryz.prog 11 [zhw l] (Bo (zmq l)):=by
 refine DC.of_run Tryz.func11 rfl Tryz.ntmps11 Tryz.results11 (by simp) (fun _ _=>?_);simp only[zad,zag,go_sem,Zaa,Nat.reduceAdd];(repeat' first|refine yJ ?_|refine yT2E (fun _=>?_) (fun _=>?_)|refine yuA ?_|fail);{rename_i g;simp[tupV,zmq,g]};rename_i g1
 refine zas [0] yN (fun(i:Nat)=> [(3,I i)]) (fun(i:Nat)=>i≤l.length∧zmq l=zpf (l.drop i)) (fun(i:Nat)=>l.length-i) 0 yS ⟨Zai _,by
  rw[zmq,decide_eq_false g1];simp⟩ (fun i B hI hB=>?_);try dsimp only at hI hB;simp only[zaf,zai]
 have HB:=Box.mk (And.intro hI.2 hB);have hI:=hI.1;clear hB;by_cases hi:(i:Int)<(l.length:Int);{have hi':i<l.length:=yw;have hat:=Box.mk (ycs hi');(repeat' first|refine yJT ?_|refine yT2E (fun _=>?_) (fun _=>?_)|refine yuA ?_|fail);{rename_i e1;rw[HB.out.1,hat.out,decide_eq_true e1];rfl};·rename_i e1;refine DS.back (HB.out.2 (i+1) _ _ (by omega) ⟨by omega,by rw[HB.out.1,hat.out,decide_eq_false e1];rfl⟩ yS yS (fun b o e=>by cases e))};·(repeat' first|refine yJT ?_|refine yuA ?_|fail);rw[HB.out.1,Zas (by omega)];rfl
theorem ywh (h:House) (hn: ∀p∈h.patterns,p.name.size≤9223372036854775807):QP Tryz.prog 4 [h.val] (fun u=> ∃b:Bool,u=Bo b∧(b=false→h.patterns.length≤50)):=by
 have c1:=ykt h.set;have c2:=ztj h.minor;have c3:=yku h.scale h.pay;generalize (decide (20<(h.set.suits.length:Int)) || decide (60<(h.set.reds.length:Int)))=b1 at *;generalize zmq h.minor=b2 at *;generalize zti h.scale h.pay=b3 at *;unfold QP;refine DC.of_run Tryz.func4 rfl Tryz.ntmps4 Tryz.results4 (by simp) (fun _ _=>?_);simp only[zad,zag,go_sem,Zaa,Nat.reduceAdd];(repeat' first|refine yJT ?_|refine yT2E (fun _=>?_) (fun _=>?_)|refine yT3E (fun _=>?_) (fun _=>?_)|refine zae yI (c1) yR yT ?_|refine zae yI (c2) yR yT ?_|refine zae yI (c3) yR yT ?_|refine yuL ?_|refine yuA ?_|fail);all_goals first|(exact⟨true,rfl,fun e=>by cases e⟩)|skip
 rename_i g2 g1 _ _;have G1:=Box.mk g1;clear c1 c2 c3;refine zas [1] yN (fun(i:Nat)=> [(3,I i)]) (fun(i:Nat)=>i≤h.forms.length) (fun(i:Nat)=>h.forms.length-i) 0 yS (Zai _) (fun i B hI hB=>?_);try dsimp only at hI hB;simp only[zaf,zai]
 by_cases hi:(i:Int)<(h.forms.length:Int);{have hi':i<h.forms.length:=yw;(repeat' first|refine yJT ?_|refine yT2E (fun _=>?_) (fun _=>?_)|refine yuA ?_|fail);{exact⟨true,rfl,fun e=>by cases e⟩};·refine DS.back (hB (i+1) _ _ (by omega) (by omega) yS yS (fun b o e=>by cases e))};·(repeat' first|refine yJT ?_|fail);clear hB;(refine zas [1] yN (fun(i2:Nat)=> [(4,I i2)]) (fun(i2:Nat)=>i2≤h.patterns.length) (fun(i2:Nat)=>h.patterns.length-i2) 0 yS (Zai _) (fun i2 B hI hB=>?_);try dsimp only at hI hB;simp only[zaf,zai]);by_cases hi:(i2:Int)<(h.patterns.length:Int);{have hi':i2<h.patterns.length:=yw;have hnm:=hn _ (Zaj hi');have c4:=ztj h.patterns[i2].cond;(repeat' first|refine yJT ?_|refine yT2E (fun _=>?_) (fun _=>?_)|refine yT3E (fun _=>?_) (fun _=>?_)|refine yuN ?_|refine zae yI (c4) yR yT ?_|refine yuA ?_|fail);(all_goals first|(exact⟨true,rfl,fun e=>by cases e⟩)|skip);refine DS.back (hB (i2+1) _ _ (by omega) (by omega) yS yS (fun b o e=>by cases e))};·(repeat' first|refine yJT ?_|refine yuA ?_|fail);exact⟨false,rfl,fun _=>by have:=G1.out;omega⟩
end Go.XL
namespace Go.XL
open Go.Proofs
set_option maxRecDepth 100000
set_option maxHeartbeats 8000000
theorem yaj (h:House) (hn: ∀p∈h.patterns,p.name.size≤9223372036854775807) (x:Hnd) (w:Winn) (l:List Int):PC Tryz.prog 3 [h.val,x.val,w.val,ints l] (Bo true):=by have ha:=ykx;have hw:=ybu (M:=LightHouse) (fun x s l _ _=>yak x) l;refine DC.of_run Tryz.func3 rfl Tryz.ntmps3 Tryz.results3 (by simp) (fun _ _=>?_);simp only[zad,zag,go_sem,Zaa,Nat.reduceAdd];(repeat' first|refine yJ ?_|refine yuJ ?_|refine yuO ?_|refine yul ?_|fail);refine ztt yI (ywh h hn) yR yH (fun u hu=>?_);obtain⟨b,rfl,hb⟩:=hu;cases b with| true =>(repeat' first|refine yJT ?_|refine zae yI (ha) yR yT ?_|fail);(all_goals refine zal yH ?_;rfl)| false =>have hb:=hb rfl;have HBG:=Box.mk (And.intro hb hn);clear hb hn;(repeat' first|refine yJT ?_|refine yT2E (fun _=>?_) (fun _=>?_)|refine zae yI (ha) yR yT ?_|fail);(all_goals try (refine zal yH ?_;rfl));have hfl:w.flags.length≤20:=yw;have HFL:=Box.mk hfl;clear hfl;refine yfi yI hw yR yH (fun u S' hu=>?_);obtain⟨bs,z,s,fs,h2,hd,k,w2,rfl,hs,hfs,hM,hH,hW,hk,hz,hu⟩:=hu;have hu: ∃(rd:Rdg) (ok:Bool),u = .tup [ptr bs,h2.val,hd.val, .agg rd.cells,w2.val,Bo ok]:=by{rcases hu with⟨_,rfl⟩|⟨r,_,rfl⟩;{exact⟨⟨0,[],0⟩,false,rfl⟩};·exact⟨r,true,rfl⟩};obtain⟨rd,ok,rfl⟩:=hu;have hpN:=(zbb hs).plain;have HH:=Box.mk (And.intro hM (And.intro hH hW));clear hM hH hW hw hk hz hfs hs;(repeat' first|refine yJ ?_|fail);refine zay yR yU yU (fun c10 g10=>?_);have q:=zek g10;simp only[Zac,Zaf,Zar,Zav,or_false,not_or]at q;have qAQ:=q;clear q;have qAM: ¬bs=c10:=fun e=>qAQ e.symm;refine zbp (S':= [(c10,Ob.cells zdi 37),(bs,srcO z)]) (fun d o e=>e) ?_;refine zay yR yU yU (fun c11 g11=>?_);have q:=zek g11;simp only[Zac,Zaf,Zar,Zav,or_false,not_or]at q;obtain⟨qAD,qAR⟩:=q;have qAA: ¬c10=c11:=fun e=>qAD e.symm;have qAN: ¬bs=c11:=fun e=>qAR e.symm;refine zbp (S':= [(c11,Ob.cells [.v (.slice none 0 0), .v (.slice none 0 0)] 40),(c10,Ob.cells zdi 37),(bs,srcO z)]) (fun d o e=>e) ?_;refine zay yR yU yU (fun c12 g12=>?_);have q:=zek g12;simp only[Zac,Zaf,Zar,Zav,or_false,not_or]at q;obtain⟨qAH,qAG,qAS⟩:=q;have qAE: ¬c11=c12:=fun e=>qAH e.symm;have qAB: ¬c10=c12:=fun e=>qAG e.symm;have qAO: ¬bs=c12:=fun e=>qAS e.symm;refine zbp (S':= [(c12,Ob.cells [I 0, .v (.slice none 0 0),I 0] 47),(c11,Ob.cells [.v (.slice none 0 0), .v (.slice none 0 0)] 40),(c10,Ob.cells zdi 37),(bs,srcO z)]) (fun d o e=>e) ?_;refine zay yR yU yU (fun c13 g13=>?_);have q:=zek g13;simp only[Zac,Zaf,Zar,Zav,or_false,not_or]at q;obtain⟨qAL,qAK,qAJ,qAT⟩:=q;have qAI: ¬c12=c13:=fun e=>qAL e.symm;have qAF: ¬c11=c13:=fun e=>qAK e.symm;have qAC: ¬c10=c13:=fun e=>qAJ e.symm;have qAP: ¬bs=c13:=fun e=>qAT e.symm;clear g10 g11 g12 g13;refine zbp (S':= [(c13,Ob.cells [I 0,Bo false,I 0,I 0, .v (.slice none 0 0),I 0] 42),(c12,Ob.cells [I 0, .v (.slice none 0 0),I 0] 47),(c11,Ob.cells [.v (.slice none 0 0), .v (.slice none 0 0)] 40),(c10,Ob.cells zdi 37),(bs,srcO z)]) (fun d o e=>e) ?_;(repeat' first|refine yJ ?_|fail);refine DS.store (b:=c10) (off:=0) (m:=46) (cl:=zdi) (T':=37) yR yH yG yU yZA yR ⟨by rfl,by decide⟩ ?_;rw[zcy _ _ yR];simp (disch:=assumption) only[setS,if_neg,↓reduceIte,zew];(repeat' first|refine yJ ?_|refine yuF ?_|fail);(try simp (disch:=assumption) only[setS,zaa,zac,zaf,zai,if_neg,↓reduceIte,Zac,Zaf,zaz,zba,zbl,zaj,zam,zap,zan,Nat.reduceAdd,Zaa]);refine zfz (t:=13) (b:=c13) yH yZB ?_;simp (disch:=assumption) only[zaa,zac,if_neg,↓reduceIte,Zac,Zaf,zaz,zba];refine zfz (t:=12) (b:=c12) yH yZB ?_;simp (disch:=assumption) only[zaa,zac,if_neg,↓reduceIte,Zac,Zaf,zaz,zba];refine zfz (t:=11) (b:=c11) yH yZB ?_;simp (disch:=assumption) only[zaa,zac,if_neg,↓reduceIte,Zac,Zaf,zaz,zba];refine zfz (t:=10) (b:=c10) yH yZB ?_;simp (disch:=assumption) only[zaa,zac,if_neg,↓reduceIte,Zac,Zaf,zaz,zba];have hNt:(s.plain.toNat:Int)=s.plain:=yw;have hHb:=HH.out.2.1.bag;have hHm:=HH.out.2.1.melds;generalize s.plain.toNat=N at *;have hN1:1≤N∧N≤34:=yw;clear hNt;skip;refine DS.call (dst:=some 52) [(bs,srcO z)] [] yI (ztw bs z hd N 1001 hHb (by omega) (by omega) (by omega)) yR yH (fun d o e=>e) (fun d o e=>by cases e) (fun u S0 hu hdis=>?_);obtain⟨b,cap,j,l1,z4,m0,q1,q2,q3,q4,rfl,rfl⟩:=hu;have m0': ¬b=bs:=fun e=>m0 e.symm;clear hdis hHb hHm;simp only[zbz,zaf,zai];have hch:zee 1 l1.length (((l1.map fun x=>I x)++j).map V.peek)=l1.map cI:=by{have:=zkw (sz:=1) (j.map V.peek) (l:=l1.map cI) (fun c hc=>by obtain⟨y,-,rfl⟩:=Zbp.1 hc;rfl);rw[Zae,zdj]at this;rw[Zay,Zbs];exact this};have hl1:=q4.len;rw[hl1]at hch;refine zls (t:=52) (b:=b) (i:=0) (len:=N) (cap:=cap) (sz:=1) (l:=(l1.map fun x=>I x)++j) (T:=3) (l':= [.v (.slice (some ⟨b,0,none⟩) N cap),zds hd.melds]) yH yR (by simp only[zab,m0,m0',↓reduceIte]) (by rw[Zah,Zae,hl1];omega) ⟨q1,q2⟩ ?_;rw[hch];simp only[zaa,zac,m0,m0',↓reduceIte,zan];clear hch hl1 q1 q2 q3 q4;(repeat' first|refine yJ ?_|(refine zfd (t:=15) yU yE yU (fun _=>yE) yE yU yV1 (fun _=>yN1) ?_;simp only[go_sem])|fail);refine zco (id:=5) ([(bs,srcO z4)]) ([]) [0,1,2,3,5,6,7,8,10,11,12,13,4,15,9,16,14] 17 yKR mixed yP1 yP2 ((fun d o e=>⟨e,rfl⟩)) ((fun d o e=>by cases e)) ?_;(repeat' first|refine yJ ?_|refine yuE ?_|refine yuk ?_|refine yuH ?_|refine yuV ?_|fail);obtain⟨HL,hHL⟩: ∃HL:List House,HL= [h,h2,h2,h2]:=⟨_,rfl⟩;obtain⟨XL,hXL⟩: ∃XL:List Hnd,XL= [x,hd,hd,⟨l1,hd.melds⟩]:=⟨_,rfl⟩;obtain⟨WL,hWL⟩: ∃WL:List Winn,WL= [w,w2,w,w2]:=⟨_,rfl⟩;refine zhe (t:=16) (v := .lst (HL.map House.cells)) (by rw[hHL];simp only[zbg,Nat.reduceEqDiff,↓reduceIte];rfl) ?_;refine zhe (t:=17) (v := .lst (XL.map Hnd.cells)) (by rw[hXL];simp only[zbg,Nat.reduceEqDiff,↓reduceIte];rfl) ?_;refine zhe (t:=18) (v := .lst (WL.map Winn.cells)) (by rw[hWL];simp only[zbg,Nat.reduceEqDiff,↓reduceIte];rfl) ?_;have b1: ∀y∈HL,y.patterns.length≤1000000∧ ∀p∈y.patterns,p.name.size≤9223372036854775807:=fun y hy=>by{rw[hHL]at hy;have h2b:h2.patterns.length≤1000000∧ ∀p∈h2.patterns,p.name.size≤9223372036854775807:=⟨by have:=HH.out.1.many;omega,fun p hp=>by have:=HH.out.1.name p hp;omega⟩;simp only[Zar,Zav,or_false,or_self]at hy;rcases hy with rfl|rfl;{exact⟨by have:=HBG.out.1;omega,HBG.out.2⟩};·exact h2b};have b2: ∀y∈WL,y.flags.length≤1000000:=fun y hy=>by{rw[hWL]at hy;simp only[Zar,Zav,or_false]at hy;have f1:=HFL.out;have f2:=HH.out.2.2.flags.1;rcases hy with rfl|rfl|rfl|rfl <;> omega};have hl1:XL.length=HL.length:=by{rw[hXL,hHL];rfl};have hl4:HL.length≤4:=by{rw[hHL];exact Zap 4};have hl2:WL.length=HL.length:=by{rw[hWL,hHL];rfl};have HB:=Box.mk (And.intro b1 (And.intro b2 (And.intro hl1 hl2)));clear b1 b2 hl1 hl2 hHL hXL hWL HBG HFL HH;(refine zas [16,17,18] yN (fun(i:Nat)=> [(19,I i)]) (fun(i:Nat)=>i≤HL.length) (fun(i:Nat)=>HL.length-i) 0 yS (Zai _) (fun i B hI hB=>?_);try dsimp only at hI hB;simp only[zaf,zai]);by_cases hi:(i:Int)<(HL.length:Int);{have hi':i<HL.length:=yw;have hx:i<XL.length:=by{rw[HB.out.2.2.1];exact hi'};have hw':i<WL.length:=by{rw[HB.out.2.2.2];exact hi'};have c1:=ycp HL[i] XL[i] WL[i];have c2:=zwy HL[i] XL[i] WL[i] (HB.out.1 _ (Zaj hi')).1 (HB.out.1 _ (Zaj hi')).2 (HB.out.2.1 _ (Zaj hw'));generalize winS HL[i] XL[i] WL[i]=v at *;(repeat' first|refine yJT ?_|fail);refine zco (id:=9) ([(bs,srcO z4)]) ([]) [0,1,2,3,4,5,6,7,8,9,10,11,12,13,14,15,16,17,18,19,20,21,22,23,24] 25 yKR mixed yP1 yP2 ((fun d o e=>⟨e,rfl⟩)) ((fun d o e=>by cases e)) ?_;(repeat' first|refine yJT ?_|refine zae yI (c2) yR yT ?_|refine yuE ?_|refine yuH ?_|refine zbt yI (c1) yU yT ?_|fail);refine DS.back (hB (i+1) _ _ (by omega) (by omega) yS yS (fun d o e=>e))};·(repeat' first|refine yJT ?_|refine zae yI (ha) yR yT ?_|fail);refine zal yH ?_;rfl
end Go.XL
namespace Go.XL
open Go.Proofs Go.ChangeShapes Go.WideShapes Go.ChangeAt Go.RowKit
def hvW (W:World):VH:=fun b=>W.heap[b]?
def ywj (W:World) (k:Kn (hvW W)):Bs:=⟨fun b=>b<W.heap.size,W.heap,hvW W,k⟩
theorem stW (W:World) (k:Kn (hvW W)):St (ywj W k) (hvW W) (fun _=>none) [] [] [] W.heap where
 pre:=fun b o e=>⟨o,e,leO.refl o⟩
 slot:=fun t v e=>by cases e
 obj:=fun b o e=>by cases e
 held:=fun g x e=>by cases e
 base:=⟨fun b h=>h,Zap _,fun b _=>rfl⟩
 vbase:=⟨PreV.refl _,fun _ _=>rfl⟩
structure KeptW (W W':World):Prop where
 os:W'.os=W.os
 output:W'.output=W.output
 size:W.heap.size≤W'.heap.size
 old: ∀b,b<W.heap.size→W'.heap[b]?=W.heap[b]?
theorem PC.door {P:Program} {f:FuncId} {vs:List V} {xs:List Value} (h:PC P f vs (.v (.bool true))) (W:World) (hx:RlL (hvW W) vs xs) (k:Kn (hvW W):=by exact zss _) :
  Calls P f xs.toArray W fun e w'=>e = .returned (.bool true)∧KeptW W w':=by refine(h (hvW W) (ywj W k) (hvW W) (fun _=>none) W.heap xs (PreV.refl _) hx (stW W k) W rfl).mono fun e w'=>?_;rintro⟨y,rfl,⟨s1,s2,s3⟩,v,S',hv',hold',-,st,rfl⟩;obtain⟨z,h1,h2,-⟩:=st.slot 0 (.v (.bool true)) rfl;simp only[V.Rl]at h2;subst h2;have h3:look [(0,y)] 0=some y:=by{simp[look]};rw[h3]at h1;cases h1;exact⟨rfl,s1,s3,st.base.2.1,st.base.2.2⟩
theorem KeptW.keptBut {W W':World} (k:KeptW W W') (may:MemPlace→Prop):W.keptBut W' may:=by refine⟨k.os,k.output,fun i hi=>?_⟩;rw[k.old i hi];generalize W.heap[i]?=o;cases o with| none=>trivial| some o=>cases o <;> simp
theorem KeptW.cell {W W':World} (k:KeptW W W') {a:Addr} (h:a.block<W.heap.size):W'.cell? a=W.cell? a:=by unfold World.cell?;rw[k.old _ h]
theorem KeptW.sameAt {W W':World} (k:KeptW W W') {p:MemPlace} (h:p.block<W.heap.size):W.sameAt W' p:=by cases p with| cell b off=>exact k.cell h| map b=>exact k.old _ h
section
variable {H:Type} {enc:TypeId×Value→H} {P:Program}
theorem zoj (hl:laidOutB P=true) {W W':World} {sp:Nat→Bool}: ∀{ts:List TypeId} {vs:List Value} {ds:List (DataW H)} {ps:List MemPlace},(∀t∈ts,P.readableRec t=true∧t<P.types.size) →
  DataW.TrodAll enc P W 0 (fun _=>true) true ts vs ds ps→(∀p∈ps,W.sameAt W' p)→(∀p∈ps,sp p.block=true)→DataW.TrodAll enc P W' 0 sp true ts vs ds ps
 | [],vs,ds,ps,_,h,_,_=>by obtain⟨rfl,rfl,rfl⟩:=trodAll_nil h;rfl
 | t::ts,vs,ds,ps,ht,h,h1,h2=>by obtain⟨v,vs',d,ds',p,q,rfl,rfl,rfl,h3,h4⟩:=trodAll_cons h;obtain⟨r1,r2⟩:=ht t (Zan ..);exact⟨p,q,WideElems.Trod_stays hl r1 r2 h3 (fun x hx=>h1 x (Zbn _ hx)) (fun x hx=>h2 x (Zbn _ hx)),zoj hl (fun t h=>ht t (Zak _ h)) h4 (fun x hx=>h1 x (Zcn _ hx)) (fun x hx=>h2 x (Zcn _ hx)),rfl⟩
theorem yna {f:Func} {s:ChangeSpec} {apart fresh handsOn:Bool} {W W':World} {args:Array Value} {ds gs:List (DataW H)} {before:List MemPlace} {tb:TypeId}
  (hW:DataW.Whole enc P f.params.toList s.vars apart W args.toList ds gs before) (hv:s.vars= []) (hs:s.fn H ds={results:= [.lit (.bool true)],args:=ds})
  (hrt:f.resultTypes= #[tb]) (hb:P.underlying tb=some .bool) (hl:laidOutB P=true) (hr: ∀t∈f.params.toList,P.readableRec t=true∧t<P.types.size) (k:KeptW W W') :
  s.post enc P f apart fresh handsOn false W args (.bool true) W':=by have hlt:=fun p hp=>hW.lt (p:=p) hp;have hW':=hW;obtain⟨p,q,hA,hV,rfl,-,-⟩:=hW;rw[hv]at hV;obtain⟨rfl,rfl⟩:=trodVars_none hV;refine⟨ds,[],p++ [],[],p,[],hW',?_,?_,?_,k.keptBut _,fun h=>by cases h⟩;{rw[Zbh,hs,hrt];exact trodAll_mk1 (shut_bool hb _)};{rw[Zbh,hs];exact zoj hl hr hA (fun x hx=>k.sameAt (hlt x (by simpa using hx))) (fun x hx=>by simpa using hlt x (by simpa using hx))};·rw[Zbh,hs,hv];rfl
def Opens (P:Program) (W:World) (H:Type) (enc:TypeId×Value→H) (t:TypeId) {α:Type} (f:α→List V) (G:α→Prop):Prop :=
 ∀fuel cs x,DataW.trod enc P W 0 (fun _=>true) true fuel t cs=some x→ ∃a,RlL (hvW W) (f a) cs∧(∀u∈cs,u.oneCell'=true)∧G a
variable {W:World} {t e:TypeId}
theorem yis {k:IntKind} (ht:P.underlying t=some (.int k)):Opens P W H enc t (fun n:Int=> [.v (.int k n)]) (fun n=>(Lit.int k n).wf=true):=by intro fuel cs x h;obtain⟨n,rfl,-,hw⟩:=DataW.trod_int ht h;exact⟨n,by simp[RlL,V.Rl],by simp[Value.oneCell'],hw⟩
theorem ygf (ht:P.underlying t=some .bool):Opens P W H enc t (fun b:Bool=> [.v (.bool b)]) (fun _=>True):=by intro fuel cs x h;obtain⟨b,rfl,-⟩:=DataW.trod_bool ht h;exact⟨b,by simp[RlL,V.Rl],by simp[Value.oneCell'],trivial⟩
theorem RlL.len {hv:VH}: ∀{vs:List V} {cs:List Value},RlL hv vs cs→vs.length=cs.length
 | [],_,h=>by simp only[RlL]at h;subst h;rfl
 | v::vs,cs,h=>by simp only[RlL]at h;obtain⟨z,zs,rfl,-,h⟩:=h;simp[RlL.len h]
theorem yrx {n:Int} (h:(Lit.int .i64 n).wf=true) : -9223372036854775808≤n∧n≤9223372036854775807:=by have h1:IntKind.min .i64 = -9223372036854775808:=by{decide};have h2:IntKind.max .i64=9223372036854775807:=by{decide};simp only[Lit.wf,h1,h2,Zbb,decide_eq_true_eq]at h;exact h
theorem RlL.one {hv:VH} {v:V} {y:Value} (h:v.Rl hv y):RlL hv [v] [y]:=by simp only[RlL];exact⟨y,[],rfl,h,rfl⟩
theorem RlL.cons_one {hv:VH} {v:V} {y:Value} {vs:List V} {ys:List Value} (h:RlL hv [v] [y]) (k:RlL hv vs ys):RlL hv (v::vs) (y::ys):=by simp only[RlL]at h ⊢;obtain⟨z,zs,e,h1,h2⟩:=h;cases e;exact⟨_,_,rfl,h1,k⟩
theorem ypt {a:Addr} {m:Nat}: ∀{vs:List V} {cs:List Value} {i:Nat},RlL (hvW W) vs cs→(∀u∈cs,u.oneCell'=true)→(∀j,j<cs.length→W.cell? (a.add (i+j))=cs[j]?)→RlC (hvW W) (some a) i vs
 | [],_,_,_,_,_=>by simp only[RlC]
 | v::vs,cs,i,h,h1,h2=>by simp only[RlL]at h;obtain⟨z,zs,rfl,h3,h4⟩:=h;simp only[RlC];refine⟨⟨z,?_,h3,h1 z (Zan ..)⟩,ypt (m:=m) h4 (fun u hu=>h1 u (Zak _ hu)) fun j hj=>?_⟩;{have:=h2 0 (by simp);rw[Zdm]at this;exact this};·have:=h2 (j+1) (by simpa using hj);rw[show i+1+j=i+(j+1) by omega,this];rfl
theorem yps {a:Addr} {sz:Nat}: ∀{l:List (List V)} {i:Nat},(∀(j:Nat) (h:j<l.length),l[j].length=sz∧RlC (hvW W) (some a) (i+j*sz) l[j])→RlE (hvW W) (some a) i l
 | [],_,_=>by simp only[RlE]
 | c::l,i,h=>by simp only[RlE];have h0:=h 0 (by simp);simp only[Nat.zero_mul,Zdm,Zep]at h0;refine⟨h0.2,yps (sz:=sz) fun j hj=>?_⟩;have h1:=h (j+1) (by simpa using hj);simp only[Zde]at h1;refine⟨h1.1,?_⟩;have e:i+c.length+j*sz=i+(j+1)*sz:=by{rw[h0.1,Zdn,Nat.one_mul];omega};rw[e];exact h1.2
theorem ztg {α β:Type} {R:Nat→α→Prop}: ∀(n:Nat),(∀i,i<n→ ∃a,R i a)→ ∃l:List α,l.length=n∧ ∀(i:Nat) (h:i<l.length),R i l[i]
 | 0,_=>⟨[],rfl,fun i h=>by cases h⟩
 | n+1,h=>by obtain⟨l,h1,h2⟩:=ztg (β:=β) n fun i hi=>h i (by omega);obtain⟨a,ha⟩:=h n (by omega);refine⟨l++ [a],by simp[h1],fun i hi=>?_⟩;rw[Zah,Zbd]at hi;by_cases h3:i<l.length;{rw[List.getElem_append_left h3];exact h2 i h3};·obtain rfl:i=l.length:=yw;simp only[List.getElem_concat_length];rw[h1];exact ha
theorem zgm {α:Type} {f:α→List V} {G:α→Prop} {sz:Nat} (ht:P.underlying t=some (.slice e)) (hc:P.cellsOf e=sz) (h:Opens P W H enc e f G) :
  Opens P W H enc t (fun l:List α=> [.lst (l.map f)]) (fun l=> ∀a∈l,G a):=by
 intro fuel cs x hx;rcases DataW.trod_slice ht hx with⟨rfl,-⟩|⟨a,len,cap,elems,rest,n,rfl,rfl,-,-,h1,h2,h3,h4,-,-⟩;·refine⟨[],?_,by simp[Value.oneCell'],fun a h=>by cases h⟩;simp only[RlL,V.Rl,Zaf];exact⟨_,[],rfl,⟨none,0,0,rfl,Zap _,Zai _,(fun c h=>by cases h),by simp only[RlE]⟩,rfl⟩
 ·obtain⟨l,hl,hk⟩:=ztg (β:=Unit) (R:=fun i y=> ∃cs,W.cells? 0 (a.add (i*sz)) sz=some cs∧RlL (hvW W) (f y) cs∧(∀u∈cs,u.oneCell'=true)∧G y) len (fun i hi=>by
   have h5:=h4 i hi
   rw[Zao (by omega),Zad,hc]at h5
   obtain⟨cs,h6,h7⟩:=h5
   obtain⟨y,h8,h9,h10⟩:=h _ _ _ h7
   exact⟨y,cs,h6,h8,h9,h10⟩)
  have hlen: ∀y∈l,(f y).length=sz:=fun y hy=>by{obtain⟨i,hi,rfl⟩:=List.mem_iff_getElem.1 hy;obtain⟨cs,k1,k2,-,-⟩:=hk i hi;rw[k2.len,(World.cells?_some k1).2.1]};refine⟨l,?_,by simp[Value.oneCell'],fun y hy=>?_⟩;{simp only[RlL,V.Rl];refine⟨_,[],rfl,⟨some a,cap,sz,by rw[Zae,hl],by rw[Zae,hl];exact h1,h2,fun c hc=>?_,yps (sz:=sz) fun j hj=>?_⟩,rfl⟩;{obtain⟨y,hy,rfl⟩:=Zbp.1 hc;exact hlen y hy};·rw[Zae]at hj;rw[List.getElem_map];obtain⟨cs,k1,k2,k3,k4⟩:=hk j hj;obtain⟨-,k5,k6⟩:=World.cells?_some k1;refine⟨hlen _ (Zaj hj),ypt (m:=sz) k2 k3 fun i hi=>?_⟩;rw[Zaa,←yld];exact k6 i (by omega)};·obtain⟨i,hi,rfl⟩:=List.mem_iff_getElem.1 hy;obtain⟨cs,-,-,-,k4⟩:=hk i hi;exact k4
end
end Go.XL
namespace Go.XL
open Go.Proofs Go.ChangeShapes Go.WideShapes Go.ChangeAt Go.RowKit
set_option maxRecDepth 100000
abbrev N64 (n:Int):Prop := -9223372036854775808≤n∧n≤9223372036854775807
def yni (P:Program):List Field→Nat→List TypeId→Bool
 | [],_,[]=>true
 | f::fs,i,t::ts=>f.offset == i&&f.type == t&&yni P fs (i+P.cellsOf t) ts
 | _,_,_=>false
def yhu (P:Program) (ts:List TypeId):Nat:=(ts.map P.cellsOf).sum
theorem yia {hv:VH}: ∀{a b:List V} {x y:List Value},RlL hv a x→RlL hv b y→RlL hv (a++b) (x++y)
 | [],b,x,y,h,k=>by simp only[RlL]at h;subst h;exact k
 | v::a,b,x,y,h,k=>by simp only[RlL]at h;obtain⟨z,zs,rfl,h1,h2⟩:=h;simp only[Zbr,RlL];exact⟨z,_,rfl,h1,yia h2 k⟩
section
variable {H:Type} {enc:TypeId×Value→H} {P:Program} {W:World} {t:TypeId}
def ylw (enc:TypeId×Value→H) (P:Program) (W:World) (n:Nat):List TypeId→List Value→Prop
 | [],cs=>cs= []
 | t::ts,cs=> ∃a b,cs=a++b∧(∃y,DataW.trod enc P W 0 (fun _=>true) true n t a=some y)∧ylw enc P W n ts b
theorem ypy {n:Nat}: ∀{fs:List Field} {k:Nat} {ts:List TypeId} {cs:List Value},yni P fs k ts=true→cs.length=k+yhu P ts →
  (∀(i:Nat) (f:Field),fs[i]?=some f→ ∃y,DataW.trod enc P W 0 (fun _=>true) true n f.type ((cs.drop f.offset).take (P.cellsOf f.type))=some y)→ylw enc P W n ts (cs.drop k)
 | [],k,[],cs,_,hl,_=>by simp only[ylw];simp only[yhu,Zaf,List.sum_nil,Zdm]at hl;rw[←hl,List.drop_length]
 | [],k,_::_,cs,h,_,_=>by cases h
 | _::_,k,[],cs,h,_,_=>by cases h
 | f::fs,k,u::ts,cs,h,hl,hy=>by simp only[yni,Zbb,beq_iff_eq]at h;obtain⟨⟨h1,h2⟩,h3⟩:=h;simp only[yhu,Zac,List.sum_cons]at hl;obtain⟨y,h4⟩:=hy 0 f rfl;rw[h1,h2]at h4;refine⟨(cs.drop k).take (P.cellsOf u),(cs.drop k).drop (P.cellsOf u),(Zbz _ _).symm,⟨y,h4⟩,?_⟩;rw[List.drop_drop];exact ypy h3 (by simp only[yhu];omega) fun i g hg=>hy (i+1) g hg
def OpensC (P:Program) (W:World) (H:Type) (enc:TypeId×Value→H) (ts:List TypeId) {α:Type} (f:α→List V) (G:α→Prop):Prop :=
 ∀n cs,ylw enc P W n ts cs→ ∃a,RlL (hvW W) (f a) cs∧(∀u∈cs,u.oneCell'=true)∧G a
theorem OpensC.nil :OpensC P W H enc [] (fun _:Unit=> []) (fun _=>True):=fun n cs h=>by simp only[ylw]at h;subst h;exact⟨(),by simp only[RlL],fun u hu=>(by cases hu),trivial⟩
theorem Opens.cons {α β:Type} {ts:List TypeId} {f:α→List V} {g:β→List V} {G:α→Prop} {K:β→Prop} (h:Opens P W H enc t f G) (k:OpensC P W H enc ts g K) :
  OpensC P W H enc (t::ts) (fun p:α×β=>f p.1++g p.2) (fun p=>G p.1∧K p.2):=fun n cs hc=>by obtain⟨a,b,rfl,⟨y,hy⟩,hb⟩:=hc;obtain⟨x,h1,h2,h3⟩:=h _ _ _ hy;obtain⟨z,k1,k2,k3⟩:=k _ _ hb;exact⟨(x,z),yia h1 k1,fun u hu=>(Zbc.1 hu).elim (h2 u) (k2 u),h3,k3⟩
theorem OpensC.struct {α:Type} {ts:List TypeId} {f:α→List V} {G:α→Prop} (k:OpensC P W H enc ts f G) (ht:P.underlying t=some (.struct (P.fieldsOf t))) (hf:yni P (P.fieldsOf t).toList 0 ts=true) (hn:P.cellsOf t=yhu P ts) :
  Opens P W H enc t f G:=fun fuel cs x h=>by obtain⟨xs,n,-,-,h1,h2,h3⟩:=DataW.trod_struct ht h;have:=ypy (enc:=enc) (W:=W) (n:=n) (cs:=cs) hf (by rw[h1,hn,Zaa]) fun i g hg=>by{have g1':(P.fieldsOf t)[i]?=some g:=by{simpa using hg};have h5:i<xs.length:=by{rw[h2];exact(Zag.1 g1').1};exact⟨xs[i],by rw[h3 i g g1',Zao h5]⟩};rw[Zej]at this;exact k n cs this
theorem Opens.iso {α β:Type} {f:α→List V} {G:α→Prop} {g:β→List V} {K:β→Prop} (h:Opens P W H enc t f G) (e:α→β) (h1: ∀a,f a=g (e a)) (h2: ∀a,G a→K (e a)):Opens P W H enc t g K:=fun fuel cs x hx=>by obtain⟨a,k1,k2,k3⟩:=h _ _ _ hx;exact⟨e a,h1 a▸k1,k2,h2 a k3⟩
theorem Opens.agg {α:Type} {f:α→List V} {G:α→Prop} (h:Opens P W H enc t f G) (hf: ∀a,1<(f a).length) {v:Value} {fuel:Nat} {x:DataW H×List MemPlace}
  (hx:DataW.trod enc P W 0 (fun _=>true) true fuel t v.cells.toList=some x): ∃a,RlL (hvW W) [.agg (f a)] [v]∧G a:=by obtain⟨c,h1,-,h3⟩:=h _ _ _ hx;have hl:=h1.len;have:=hf c;have hs: ∃xs,v = .agg xs:=by{cases v <;> first|exact⟨_,rfl⟩|(simp[Value.cells]at hl;omega)};obtain⟨xs,rfl⟩:=hs;refine⟨c,RlL.one ?_,h3⟩;simp only[V.Rl];exact⟨xs.toList,rfl,h1⟩
end
section
variable {H:Type} {enc:TypeId×Value→H} {W:World}
theorem oI :Opens Tryz.prog W H enc 3 cI N64:=fun fuel cs x h=>by obtain⟨a,h1,h2,h3⟩:=yis Tryz.underlying3 fuel cs x h;exact⟨a,h1,h2,yrx h3⟩
theorem oB :Opens Tryz.prog W H enc 4 (fun b:Bool=> [.v (.bool b)]) (fun _=>True):=ygf Tryz.underlying4
theorem oL :Opens Tryz.prog W H enc 22 (fun l=> [ints l]) (fun l=> ∀x∈l,N64 x):=zgm (sz:=1) Tryz.underlying22 yKR oI
theorem oLim :Opens Tryz.prog W H enc 164 Limit.cells (fun _=>True) :=
 ((oI.cons (oI.cons .nil)).struct yKR yKR yKR).iso (fun p=>⟨p.1,p.2.1⟩) (fun _=>rfl) (fun _ _=>trivial)
theorem oScale :Opens Tryz.prog W H enc 30 Scale.cells (fun _=>True) :=
 ((oI.cons (oB.cons ((zgm (sz:=2) Tryz.underlying28 yKR oLim).cons (oI.cons .nil)))).struct yKR yKR yKR).iso
  (fun p=>(⟨p.1,p.2.1,p.2.2.1,p.2.2.2.1⟩:Scale)) (fun _=>rfl) (fun _ _=>trivial)
end
end Go.XL
namespace Go.XL
open Go.Proofs Go.ChangeShapes Go.WideShapes Go.ChangeAt Go.RowKit
set_option maxRecDepth 100000
def Pattern.NameIn (p:Pattern):Prop:=p.name.size≤9223372036854775807
def House.NamesIn (h:House):Prop:= ∀p∈h.patterns,p.name.size≤9223372036854775807
section
variable {H:Type} {enc:TypeId×Value→H} {W:World}
theorem oStr :Opens Tryz.prog W H enc 9 (fun b:ByteArray=> [St8 b]) (fun b=>b.size≤9223372036854775807):=by intro fuel cs x h;obtain⟨s,rfl,-,hs⟩:=DataW.trod_string Tryz.underlying9 h;exact⟨s,by simp[RlL,V.Rl],by simp[Value.oneCell'],hs⟩
theorem Opens.weak {P:Program} {t:TypeId} {α:Type} {f:α→List V} {G:α→Prop} (h:Opens P W H enc t f G):Opens P W H enc t f (fun _=>True):=fun fuel cs x hx=>by obtain⟨a,h1,h2,-⟩:=h _ _ _ hx;exact⟨a,h1,h2,trivial⟩
theorem oSet :Opens Tryz.prog W H enc 24 GSet.cells (fun _=>True) :=
 ((oI.cons (oL.cons (oI.cons (oI.cons (oI.cons (oI.cons (oI.cons (oI.cons (oL.cons .nil))))))))).struct yKR yKR yKR).iso
  (fun p=>(⟨p.1,p.2.1,p.2.2.1,p.2.2.2.1,p.2.2.2.2.1,p.2.2.2.2.2.1,p.2.2.2.2.2.2.1,p.2.2.2.2.2.2.2.1,p.2.2.2.2.2.2.2.2.1⟩:GSet)) (fun _=>rfl) (fun _ _=>trivial)
theorem yyh :Opens Tryz.prog W H enc 61 Form.cells (fun _=>True) :=
 ((oI.cons (oL.cons (oB.cons .nil))).struct yKR yKR yKR).iso (fun p=>(⟨p.1,p.2.1,p.2.2.1⟩:Form)) (fun _=>rfl) (fun _ _=>trivial)
theorem yyg :Opens Tryz.prog W H enc 68 Node.cells (fun _=>True) :=
 ((oI.cons (oI.cons (oI.cons (oI.cons (oI.cons (oB.cons (oL.cons .nil))))))).struct yKR yKR yKR).iso
  (fun p=>(⟨p.1,p.2.1,p.2.2.1,p.2.2.2.1,p.2.2.2.2.1,p.2.2.2.2.2.1,p.2.2.2.2.2.2.1⟩:Node)) (fun _=>rfl) (fun _ _=>trivial)
theorem oNodes :Opens Tryz.prog W H enc 27 (fun l:List Node=> [zhw l]) (fun _=>True):=(zgm (sz:=7) Tryz.underlying27 yKR yyg).weak
theorem oPat :Opens Tryz.prog W H enc 63 Pattern.cells Pattern.NameIn :=
 ((oStr.cons (oI.cons (oI.cons (oNodes.cons (oL.cons (oL.cons .nil)))))).struct yKR yKR yKR).iso
  (fun p=>(⟨p.1,p.2.1,p.2.2.1,p.2.2.2.1,p.2.2.2.2.1,p.2.2.2.2.2.1⟩:Pattern)) (fun _=>rfl) (fun _ h=>h.1)
theorem yyi :Opens Tryz.prog W H enc 95 Feed.cells (fun _=>True) :=
 ((oL.cons (oI.cons .nil)).struct yKR yKR yKR).iso (fun p=>(⟨p.1,p.2.1⟩:Feed)) (fun _=>rfl) (fun _ _=>trivial)
theorem oPay :Opens Tryz.prog W H enc 33 Pay.cells (fun _=>True) :=
 ((oI.cons (oB.cons (oI.cons (oI.cons (oI.cons (oI.cons (oI.cons (oI.cons (oI.cons (oI.cons (oB.cons (oL.cons ((zgm (sz:=2) Tryz.underlying31 yKR yyi).cons .nil))))))))))))).struct yKR yKR yKR).iso
  (fun p=>(⟨p.1,p.2.1,p.2.2.1,p.2.2.2.1,p.2.2.2.2.1,p.2.2.2.2.2.1,p.2.2.2.2.2.2.1,p.2.2.2.2.2.2.2.1,p.2.2.2.2.2.2.2.2.1,p.2.2.2.2.2.2.2.2.2.1,p.2.2.2.2.2.2.2.2.2.2.1,p.2.2.2.2.2.2.2.2.2.2.2.1,p.2.2.2.2.2.2.2.2.2.2.2.2.1⟩:Pay)) (fun _=>rfl) (fun _ _=>trivial)
theorem oPlay :Opens Tryz.prog W H enc 35 Play.cells (fun _=>True) :=
 ((oB.cons (oI.cons (oB.cons (oI.cons (oB.cons (oI.cons (oI.cons (oI.cons (oB.cons (oB.cons (oB.cons (oI.cons (oI.cons (oI.cons (oB.cons (oB.cons .nil)))))))))))))))).struct yKR yKR yKR).iso
  (fun p=>(⟨p.1,p.2.1,p.2.2.1,p.2.2.2.1,p.2.2.2.2.1,p.2.2.2.2.2.1,p.2.2.2.2.2.2.1,p.2.2.2.2.2.2.2.1,p.2.2.2.2.2.2.2.2.1,p.2.2.2.2.2.2.2.2.2.1,p.2.2.2.2.2.2.2.2.2.2.1,p.2.2.2.2.2.2.2.2.2.2.2.1,p.2.2.2.2.2.2.2.2.2.2.2.2.1,p.2.2.2.2.2.2.2.2.2.2.2.2.2.1,p.2.2.2.2.2.2.2.2.2.2.2.2.2.2.1,p.2.2.2.2.2.2.2.2.2.2.2.2.2.2.2.1⟩:Play)) (fun _=>rfl) (fun _ _=>trivial)
theorem oHouse :Opens Tryz.prog W H enc 37 House.cells House.NamesIn :=
 ((oSet.cons ((zgm (sz:=3) Tryz.underlying25 yKR yyh).cons ((zgm (sz:=6) Tryz.underlying26 yKR oPat).cons (oNodes.cons (oI.cons (oScale.cons (oPay.cons (oPlay.cons .nil)))))))).struct yKR yKR yKR).iso
  (fun p=>(⟨p.1,p.2.1,p.2.2.1,p.2.2.2.1,p.2.2.2.2.1,p.2.2.2.2.2.1,p.2.2.2.2.2.2.1,p.2.2.2.2.2.2.2.1⟩:House)) (fun _=>rfl) (fun _ h=>h.2.2.1)
end
end Go.XL
namespace Go.XL
open Go.Proofs Go.ChangeShapes Go.WideShapes Go.ChangeAt Go.RowKit
set_option maxRecDepth 100000
section
variable {H:Type} {enc:TypeId×Value→H} {W:World}
theorem oGrp :Opens Tryz.prog W H enc 108 Grp.cells (fun _=>True) :=
 ((oI.cons (oI.cons (oB.cons .nil))).struct yKR yKR yKR).iso (fun p=>(⟨p.1,p.2.1,p.2.2.1⟩:Grp)) (fun _=>rfl) (fun _ _=>trivial)
theorem oGrps :Opens Tryz.prog W H enc 38 (fun l:List Grp=> [zds l]) (fun _=>True):=(zgm (sz:=3) Tryz.underlying38 yKR oGrp).weak
theorem oHnd :Opens Tryz.prog W H enc 40 Hnd.cells (fun _=>True) :=
 ((oL.cons (oGrps.cons .nil)).struct yKR yKR yKR).iso (fun p=>(⟨p.1,p.2.1⟩:Hnd)) (fun _=>rfl) (fun _ _=>trivial)
theorem oWinn :Opens Tryz.prog W H enc 42 Winn.cells (fun _=>True) :=
 ((oI.cons (oB.cons (oI.cons (oI.cons (oL.cons (oI.cons .nil)))))).struct yKR yKR yKR).iso
  (fun p=>(⟨p.1,p.2.1,p.2.2.1,p.2.2.2.1,p.2.2.2.2.1,p.2.2.2.2.2.1⟩:Winn)) (fun _=>rfl) (fun _ _=>trivial)
end
end Go.XL
