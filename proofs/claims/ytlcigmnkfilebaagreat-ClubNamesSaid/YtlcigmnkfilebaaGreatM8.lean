/- A part of a program logic over the kit's walk rules, and contracts of functions in it. Conditions: as each theorem says. -/
import Derived.Test.YtlcigmnkfilebaaGreatM7
import Derived.Test.YtlcigmnkfilebaaGreatRows
import Derived.WideKeyArgs
import Derived.OpenShut
import Derived.WalkKit
import Derived.ProofKit
set_option linter.all false
namespace Go.XL
open Go.Proofs
set_option maxRecDepth 100000
set_option maxHeartbeats 8000000
instance :Inhabited GR:=⟨⟨[],none⟩⟩
def sitL (G:Gf):Nat→List Sitting→List (List V)
 | _,[]=> []
 | i,s::R=> [(G i).1.cell,rows s.points,(G i).2.cell]::sitL G (i+1) R
theorem FamOk.zero (e e':Nat) (G:Gf) {R:List Sitting} {S:Sto} {n:Nat} (h:n≤0):FamOk e e' G R n S :=
 ⟨fun i hi=>by omega,fun i hi=>by omega,fun i _ hi=>by omega,fun i _ hi=>by omega,fun i j _ hi=>by omega,fun i j _ hi=>by omega⟩
def CpB (c:Club) (m:V) (u:V) (S':Sto):Prop:= ∃(g:GR) (G:Gf),u = .agg (gN c m g.cell)∧g.Ok 61 3 S'∧g.l=sitL G 0 c.rounds∧FamOk 22 65 G c.rounds c.rounds.length S'
def CpA (c:Club) (u:V) (S':Sto):Prop:= ∃gm:GR,gm.Ok 47 4 S'∧gm.l=c.members.map Member.cells∧CpB c gm.cell u S'
theorem FamOk.mono {e e':Nat} {G:Gf} {R:List Sitting} {n:Nat} {S S':Sto} (h:FamOk e e' G R n S) (k: ∀b o,zad S b=some o→zad S' b=some o):FamOk e e' G R n S' :=
 ⟨fun i hi=>(h.tok i hi).mono fun b o q=>k b o (zgg (h.tok i hi) q),fun i hi=>(h.rok i hi).mono fun b o q=>k b o (zgg (h.rok i hi) q),h.tl,h.rl,h.td,h.rd⟩
theorem yvn {c:Club} {gm:GR} {S:Sto} (h:gm.Ok 47 4 S) (hl:gm.l=c.members.map Member.cells:=by rfl) {u:V} {S':Sto} (k:CpB c gm.cell u S') (hd:dis (SR 47 gm) S'):CpA c u (S'++SR 47 gm):=by
 obtain⟨g,G,rfl,g2,g3,g4⟩:=k
 refine⟨gm,h.mono fun b o e=>?_,hl,g,G,rfl,g2.mono fun b o e=>zmi (zgg g2 e),g3,g4.mono fun b o e=>zmi e⟩
 cases e2:zad S' b with
 | none=>rw[zbd,e2];exact e
 | some o2=>have:=hd b o2 e2;rw[e]at this;cases this
structure SitG (L:List V) (G:Gf) (R:List Sitting) (i:Nat):Prop where
 len:R.length*3≤L.length
 tab: ∀(k:Nat) (h:k<R.length),L[k*3]?=some (if k<i then(G k).1.cell else rows R[k].tables)
 pts: ∀(k:Nat) (h:k<R.length),L[k*3+1]?=some (rows R[k].points)
 rul: ∀(k:Nat) (h:k<R.length),L[k*3+2]?=some (if k<i then(G k).2.cell else .lst (R[k].rulings.map Ruling.cells))
 free: ∀v∈L,v.free=true
theorem yjo (G:Gf) (R:List Sitting) {junk:List V} (hj: ∀v∈junk,v.free=true):SitG ((R.map Sitting.cells).flatten++junk) G R 0 where
 len:=(zmq R junk).len
 tab:=fun k h=>(zmq R junk).tab k h
 pts:=(zmq R junk).pts
 rul:=fun k h=>(zmq R junk).rul k h
 free:=fun v hv=>(List.mem_append.1 hv).elim (zzd R v) (hj v)
theorem GR.cell_free (g:GR):g.cell.free=true:=by obtain⟨l,blk⟩:=g;cases blk <;> rfl
theorem zxy {L:List V} {i:Nat} {x:V} (h: ∀v∈L,v.free=true) (hx:x.free=true): ∀v∈L.set i x,v.free=true:=fun v hv=>by
 rcases List.mem_or_eq_of_mem_set hv with hv|rfl
 ·exact h v hv
 ·exact hx
theorem SitG.put {L:List V} {G:Gf} {R:List Sitting} {i:Nat} (h:SitG L G R i) (hi:i<R.length) (g:GR×GR):SitG (((L.set (i*3) g.1.cell).set (i*3+1) (rows R[i].points)).set (i*3+2) g.2.cell) (setG G i g) R (i+1):=by
 have hl:=h.len
 refine⟨by simpa using hl,fun k hk=>?_,fun k hk=>?_,fun k hk=>?_,zxy (zxy (zxy h.free g.1.cell_free) rfl) g.2.cell_free⟩
 ·by_cases e:k=i
  ·subst e
   rw[if_pos (Nat.lt_succ_self _),zfs,zeq (zeq (zgp (by omega)) (by omega)) (by omega)]
  ·rw[zjh G g e]
   have:=zeq (i:=i*3+2) (x:=g.2.cell) (zeq (i:=i*3+1) (x:=rows R[i].points) (zeq (i:=i*3) (x:=g.1.cell) (h.tab k hk) (by omega)) (by omega)) (by omega)
   rw[this]
   congr 1
   by_cases e2:k<i
   ·rw[if_pos e2,if_pos (by omega)]
   ·rw[if_neg e2,if_neg (by omega)]
 ·by_cases e:k=i
  ·subst e
   exact zeq (zgp (by rw[List.length_set];omega)) (by omega)
  ·exact zeq (zeq (zeq (h.pts k hk) (by omega)) (by omega)) (by omega)
 ·by_cases e:k=i
  ·subst e
   rw[if_pos (Nat.lt_succ_self _),zfs,zgp (by rw[List.length_set,List.length_set];omega)]
  ·rw[zjh G g e]
   have:=zeq (i:=i*3+2) (x:=g.2.cell) (zeq (i:=i*3+1) (x:=rows R[i].points) (zeq (i:=i*3) (x:=g.1.cell) (h.rul k hk) (by omega)) (by omega)) (by omega)
   rw[this]
   congr 1
   by_cases e2:k<i
   ·rw[if_pos e2,if_pos (by omega)]
   ·rw[if_neg e2,if_neg (by omega)]
theorem zis (G:Gf): ∀(R:List Sitting) (i:Nat),(sitL G i R).length=R.length
 | [],_=>rfl
 | s::R,i=>by rw[sitL,List.length_cons,List.length_cons,zis G R]
theorem zqr (G:Gf): ∀(R:List Sitting) (i:Nat),∀c∈sitL G i R,c.length=3
 | [],_,c,hc=>by cases hc
 | s::R,i,c,hc=>by
  rcases List.mem_cons.1 hc with rfl|hc
  ·rfl
  ·exact zqr G R _ c hc
theorem zrm (G:Gf) (junk:List V): ∀(R:List Sitting) (i k:Nat) (h:k<R.length) (j:Nat),j<3→((sitL G i R).flatten++junk)[k*3+j]?= [(G (i+k)).1.cell,rows R[k].points,(G (i+k)).2.cell][j]?
 | [],_,k,h,_,_=>by cases h
 | s::R,i,0,h,j,hj=>by
  rw[sitL,List.flatten_cons,List.append_assoc,Nat.zero_mul,Nat.zero_add,List.getElem?_append_left (by exact hj)]
  rfl
 | s::R,i,k+1,h,j,hj=>by
  have h1:=zrm G junk R (i+1) k (by simpa using h) j hj
  rw[sitL,List.flatten_cons,List.append_assoc,List.getElem?_append_right (by simp;omega),show(k+1)*3+j-([(G i).1.cell,rows s.points,(G i).2.cell]:List V).length=k*3+j by simp;omega,h1,show i+1+k=i+(k+1) by omega]
  rfl
theorem SitG.flat {L:List V} {G:Gf} {R:List Sitting} (h:SitG L G R R.length):L=(sitL G 0 R).flatten++L.drop (R.length*3):=by
 have hfl:(sitL G 0 R).flatten.length=R.length*3:=by rw[zfh (sz:=3) (zqr G R 0),zis]
 apply List.ext_getElem?
 intro i
 by_cases hi:i<R.length*3
 ·obtain⟨k,j,hj,rfl⟩: ∃k j,j<3∧i=k*3+j:=⟨i / 3,i % 3,by omega,by omega⟩
  have hk:k<R.length:=by omega
  rw[zrm G _ R 0 k hk j hj,Nat.zero_add]
  rcases(by omega:j=0∨j=1∨j=2)with rfl|rfl|rfl
  ·rw[Nat.add_zero,h.tab k hk,if_pos hk];rfl
  ·rw[h.pts k hk];rfl
  ·rw[h.rul k hk,if_pos hk];rfl
 ·rw[List.getElem?_append_right (by rw[hfl];omega),hfl,List.getElem?_drop]
  congr 1;omega
theorem SitG.ok {L:List V} {G:Gf} {R:List Sitting} (h:SitG L G R R.length) {b cap:Nat} {S:Sto} {e:Nat} (hS:zad S b=some (.cells L e)) (hl:L.length=cap*3) (hc:R.length≤cap∧cap≤maxLen): ∃g:GR,g.cell = .v (.slice (some ⟨b,0,none⟩) R.length cap)∧g.Ok e 3 S∧g.l=sitL G 0 R:=by
 have hln:=h.len
 refine⟨⟨sitL G 0 R,some (b,cap,L.drop (R.length*3))⟩,by rw[GR.cell_some,zis],⟨by rw[hS];congr 2;exact h.flat,?_,by rw[zis];exact hc.1,hc.2,fun v hv=>h.free v (List.mem_of_mem_drop hv),fun v hv=>h.free v (by rw[h.flat];exact List.mem_append_left _ hv),zqr G R 0⟩,rfl⟩
 rw[zis,List.length_drop];omega
theorem RulAt.flat {L:List V} {R:List Ruling} (h:RulAt L R):L=(R.map Ruling.cells).flatten++L.drop (R.length*3):=by
 apply List.ext_getElem?
 intro i
 by_cases hi:i<R.length*3
 ·obtain⟨k,j,hj,rfl⟩: ∃k j,j<3∧i=k*3+j:=⟨i / 3,i % 3,by omega,by omega⟩
  have hk:k<R.length:=by omega
  rw[zxz Ruling.len _ R k hk j hj]
  rcases(by omega:j=0∨j=1∨j=2)with rfl|rfl|rfl
  ·rw[Nat.add_zero,h.rnd k hk];rfl
  ·rw[h.tab k hk];rfl
  ·rw[h.pts k hk];rfl
 ·rw[List.getElem?_append_right (by rw[zig Ruling.len];omega),zig Ruling.len,List.getElem?_drop]
  congr 1;omega
theorem zzm (R:List Ruling): ∀v∈(R.map Ruling.cells).flatten,v.free=true:=fun v hv=>by
 obtain⟨l,h1,h2⟩:=List.mem_flatten.1 hv
 obtain⟨s,-,rfl⟩:=List.mem_map.1 h1
 simp only[Ruling.cells,List.mem_cons,List.not_mem_nil,or_false]at h2
 rcases h2 with rfl|rfl|rfl <;> rfl
theorem RulAt.ok {L:List V} {R:List Ruling} (h:RulAt L R) (hf: ∀v∈L,v.free=true) {b cap:Nat} {S:Sto} {e:Nat} (hS:zad S b=some (.cells L e)) (hl:L.length=cap*3) (hc:R.length≤cap∧cap≤maxLen):GR.Ok e 3 S ⟨R.map Ruling.cells,some (b,cap,L.drop (R.length*3))⟩:=by
 have hln:=h.len
 refine(⟨by rw[hS];congr 2;exact h.flat,?_,by rw[List.length_map];exact hc.1,hc.2,fun v hv=>hf v (List.mem_of_mem_drop hv),zzm R,fun c hc=>by obtain⟨r,-,rfl⟩:=List.mem_map.1 hc;rfl⟩:GR.At e 3 S (R.map Ruling.cells) b cap _)
 rw[List.length_map,List.length_drop];omega
theorem ygh {e e':Nat} {G:Gf} {R:List Sitting} {i:Nat} {X F0:Sto} {gt g2:GR} (hne: ∀d o,zad X d=some o→zad (SR e' g2) d=none) (gf:FamOk e e' G R i F0) (hF:famS e e' G i=F0) (hi:i<R.length) (k1:gt.Ok e 1 (SR e gt)) (k2:g2.Ok e' 3 (SR e' g2))
  (l1:gt.l=R[i].tables.map cR) (l2:g2.l=R[i].rulings.map Ruling.cells) (gd: ∀d o,zad X d=some o→zad F0 d=none) (d1:dis (SR e gt) (X++SR e' g2)) (d0:dis F0 ((X++SR e' g2)++SR e gt)) :
  FamOk e e' (setG G i (gt,g2)) R (i+1) (famS e e' (setG G i (gt,g2)) (i+1))∧(∀d o,zad X d=some o→zad (famS e e' (setG G i (gt,g2)) (i+1)) d=none)∧ ∀d o,zad (X++famS e e' (setG G i (gt,g2)) (i+1)) d=some o→zad (((X++SR e' g2)++SR e gt)++F0) d=some o:=by
 have hE:famS e e' (setG G i (gt,g2)) (i+1)=(SR e gt++SR e' g2)++F0:=by rw[famS,zfs,ygi _ _ _ _ i (Nat.le_refl _),hF,List.append_assoc]
 have x1: ∀d o,zad X d=some o→zad (SR e gt) d=none:=fun d o q=>d1 d o (zmi q)
 have x2: ∀d o,zad (SR e' g2) d=some o→zad (SR e gt) d=none:=fun d o q=>d1 d o (by
  rw[zbd]
  cases q2:zad X d with
  | none=>exact q
  | some o2=>have:=hne d o2 q2;rw[q]at this;cases this)
 have x3: ∀d o,zad (SR e gt) d=some o→zad F0 d=none:=fun d o q=>by
  cases q2:zad (X++SR e' g2) d with
  | none=>exact d0 d o (by rw[zbd,q2];exact q)
  | some o2=>exact d0 d o2 (zmi q2)
 have x4: ∀d o,zad (SR e' g2) d=some o→zad F0 d=none:=fun d o q=>by
  cases q2:zad X d with
  | none=>exact d0 d o (zmi (by rw[zbd,q2];exact q))
  | some o2=>exact gd d o2 q2
 rw[hE]
 refine⟨gf.snoc hi (k1.mono fun b o q=>zmi q) (k2.mono fun b o q=>zyf (fun d o2 q2=>x2 d o2 q2) q) l1 l2 fun d o q=>?_,fun d o q=>?_,fun d o q=>?_⟩
 ·rw[zbd]at q
  cases q2:zad (SR e gt) d with
  | none=>rw[q2]at q;exact x4 d o q
  | some o2=>exact x3 d o2 q2
 ·rw[zbd,zbd,x1 d o q,hne d o q];exact gd d o q
 ·rw[zbd]at q
  rw[zbd,zbd,zbd]
  cases q1:zad X d with
  | some o2=>rw[q1]at q;exact q
  | none =>
   rw[q1]at q
   dsimp only at q ⊢
   rw[zbd,zbd]at q
   cases q2:zad (SR e' g2) d with
   | some o2=>rw[x2 d o2 q2,q2]at q;exact q
   | none =>
    rw[q2]at q
    cases q3:zad (SR e gt) d <;> rw[q3]at q <;> exact q
theorem yqc (c:Club) (hs:c.Small):DC Tryz.prog 11 [c.val] [] (CpA c):=by
 have q1:=hs.rounds
 have q2:=hs.members
 have q3:=hs.places
 refine DC.of_runC Tryz.func11 rfl Tryz.ntmps11 Tryz.results11 (by simp) rfl (fun _=>?_);simp only[zaq,zat,go_sem,Nat.zero_add,Nat.reduceAdd]
 repeat' (first|(with_reducible first|refine DS.seq ?_|refine zaa ?_)|(with_reducible refine zkg yU yE yU (fun _ hfr=>?_);have hfr:=zjy hfr;simp only[zgr,zhv,and_true]at hfr;simp only[zbs,zct,zbr,zcg,zbq,zbj,zbt,zbn,zcp,zcr,zcb,zcq,zcf,zce])|fail)
 rename_i b1 hb1
 refine zej yR yU yU (fun b2 h2=>?_)
 have n1: ¬b1=b2:=fun e=>by rw[zae,if_pos e]at h2;cases h2
 have n1': ¬b2=b1:=fun e=>n1 e.symm
 clear h2 hb1
 have e0:(Value.agg #[.int .i64 0, .int .i64 0, .int .i64 0, .int .i64 0, .slice none 0 0, .bool false, .slice none 0 0, .slice none 0 0]).cells.toList.map V.v=zds:=rfl
 rw[e0]
 clear e0
 repeat' (first|(with_reducible first|refine zab ?_|refine DS.seq ?_)|fail)
 have e3: [V.v (.int .i64 c.size),V.v (.int .i64 c.start),V.v (.int .i64 c.absent),V.v (.int .i64 c.window),V.lst (c.places.map cI),V.v (.bool c.share),V.lst (c.members.map Member.cells),V.lst (c.rounds.map Sitting.cells)]=gN c (.lst (c.members.map Member.cells)) (.lst (c.rounds.map Sitting.cells)):=rfl
 rw[e3]
 clear e3
 refine zug (id:=1) [(b2, .cells zds 26),(b1, .cells (gN c (.lst (c.members.map Member.cells)) (.lst (c.rounds.map Sitting.cells))) 26)] [] [] [0,1,2,3,4,6,5] 7 rfl (by kernel_rfl) (by decide) zdq (fun _ _ e=>⟨e,rfl⟩) (fun _ _ e=>by cases e)
  rfl (by simp only[zba,zbg,zbh,zbi,zaz];exact rfl) (by simp only[zax,zay,List.drop_nil];exact rfl) ?_
 repeat' (first|with_reducible refine zbz yU yU yU yE ?_|refine zml inferInstance (zsr c.places (by omega)) yU yF ?_;simp only[zca,zck,Nat.reduceEqDiff,↓reduceIte]|fail)
 refine zui rfl rfl rfl yR (zqy (g:=⟨[],none⟩) (ml:=c.members.map Member.cells) rfl yH yH yR yR (by decide) yH rfl yH yH (by intro x hx;obtain⟨y,-,rfl⟩:=List.mem_map.1 hx;rfl) ⟨by simp only[List.length_map,List.length_nil];omega,by decide⟩) (fun u2 E' Sg hu2 hdis=>?_)
 obtain⟨rfl,⟨R,blk⟩,rfl,gl0,gok,-,-⟩:=hu2
 obtain rfl:R=c.members.map Member.cells:=by rw[show R=_ from gl0,List.nil_append,List.map_map];rfl
 clear gl0
 simp only[zco]
 have hF:=fun b o e=>zgg (S:=Sg) (g:=⟨c.members.map Member.cells,blk⟩) gok (b:=b) (o:=o) e
 refine ynw [(b2, .cells zds 26),(b1, .cells (gN c (.lst (c.members.map Member.cells)) (.lst (c.rounds.map Sitting.cells))) 26)] (SR 47 ⟨c.members.map Member.cells,blk⟩) (fun b o e=>zyf hdis e) (fun b o e=>⟨zmi (hF b o e),by cases e2:zad [(b2,Ob.cells zds 26),(b1, .cells (gN c (.lst (c.members.map Member.cells)) (.lst (c.rounds.map Sitting.cells))) 26)] b with|none=>rfl|some o2=>have h3:=hdis b o2 e2;rw[hF b o e]at h3;cases h3⟩) rfl ?_
 refine yqs (R:=CpB c (GR.cell ⟨c.members.map Member.cells,blk⟩)) (fun u S'=>yvn gok) ?_
 clear hF gok hdis
 obtain⟨x1,x2,x3,hx⟩:=GR.cell_slice ⟨c.members.map Member.cells,blk⟩
 rw[hx]
 clear hx
 repeat' (first|(with_reducible first|refine zac yU yU yX45 ?_|refine zab ?_|refine DS.seq ?_|refine zaa ?_)|(refine DS.store yR yX45 yX45 yX45 yX45 yU (by exact⟨by with_unfolding_all rfl,by(try simp only[List.length_map,List.length_append,List.length_set,List.length_replicate,List.length_cons,List.length_nil]);omega⟩) ?_;simp only[zbo,zau,zaw,zbw,zbm,zbk,zbl];try simp only[zam,zaf,zag,Nat.reduceEqDiff,↓reduceIte,zaj,zak,zap,zai,zah,zan,zal])|fail)
 simp only[setS,n1,n1',↓reduceIte,zcj,zcc,List.nil_append]
 refine zed rfl rfl yR (zqy (g:=⟨[],none⟩) (ml:=c.rounds.map Sitting.cells) rfl yH yH yR yR (by decide) yH rfl yH yH (by intro x hx;obtain⟨y,-,rfl⟩:=List.mem_map.1 hx;rfl) ⟨by simp only[List.length_map,List.length_nil];omega,by decide⟩) (fun u2 E' S4 hu2=>?_)
 obtain⟨rfl,⟨R,blk⟩,rfl,gl0,gok,m2,m3⟩:=hu2
 obtain rfl:R=c.rounds.map Sitting.cells:=by rw[show R=_ from gl0,List.nil_append,List.map_map];rfl
 clear gl0
 simp only[zco]
 cases blk with
 | none =>
  have h0:c.rounds= []:=List.map_eq_nil_iff.1 gok
  have f1:=m3 b1 (fun _ _ h=>by cases h) (fun _ _ h=>by cases h)
  have f2:=m3 b2 (fun _ _ h=>by cases h) (fun _ _ h=>by cases h)
  simp only[zae,n1',↓reduceIte]at f1 f2
  refine zet (S':= [(b1, .cells (cpN c (.v (.slice x1 x2 x3)) (.lst (c.rounds.map Sitting.cells))) 26),(b2, .cells zds 26)]) (zib ⟨f1,f2,trivial⟩) ?_
  clear m2 m3 gok f1 f2
  simp only[GR.cell_none]
  repeat' (first|(with_reducible first|refine zac yU yU yE ?_|refine zab ?_|refine DS.seq ?_|refine zaa ?_|refine DS.block ?_)|(refine DS.store yR yE yE yE yE yU (by exact⟨by with_unfolding_all rfl,by(try simp only[List.length_map,List.length_append,List.length_set,List.length_replicate,List.length_cons,List.length_nil]);omega⟩) ?_;simp only[zbo,zau,zaw,zbw,zbm,zbk,zbl];try simp only[zam,zaf,zag,Nat.reduceEqDiff,↓reduceIte,zaj,zak,zap,zai,zah,zan,zal])|fail)
  simp only[setS,n1,n1',↓reduceIte,zcj,zcc]
  refine zoa (b:=b1) V.copy (fun _ _ _ h=>V.copy_Rl h) zhe (by simp only[zae,n1,n1',↓reduceIte];exact rfl) ?_
  simp only[setS,n1,n1',↓reduceIte]
  refine zcn [1,2] yN (fun(y:Nat)=> [(3,I y)]) (fun(y:Nat)=> [(b1, .cells (gN c (.v (.slice x1 x2 x3)) (.v (.slice none 0 0))) 26),(b2, .cells zds 26)]) (fun(y:Nat)=>y=0) (fun(y:Nat)=>y) 0 yS (fun b o e=>by exact e) rfl (fun y B hI hB=>?_);try dsimp only at hI hB;simp only[zar,zav]
  subst hI
  refine zjg (t:=1) yE yE ?_;simp only[zbp,zbv,↓reduceIte, *,zbq,zbj,zbt,zbn,zcp,zcr,zcb,zcq]
  repeat' (first|(refine ygt (t:=78) yU yE yU (by simp only[List.length_cons,List.length_nil];omega) ?_;simp only[List.take_succ_cons,List.take_zero,List.map_cons,List.map_nil,zbt,zbn,zcp,Nat.reduceAdd])|(with_reducible first|refine zac yU yU yE ?_|refine zab ?_|refine DS.seq ?_|refine zaa ?_|(refine zbc yE ?_;refine zdd ?_)|refine DS.exit yU ?_)|(refine DS.store yR yE yE yE yE yU (by exact⟨by with_unfolding_all rfl,by(try simp only[List.length_map,List.length_append,List.length_set,List.length_replicate,List.length_cons,List.length_nil]);omega⟩) ?_;simp only[zbo,zau,zaw,zbw,zbm,zbk,zbl];try simp only[zam,zaf,zag,Nat.reduceEqDiff,↓reduceIte,zaj,zak,zap,zai,zah,zan,zal])|fail)
  simp only[setS,n1,n1',↓reduceIte,zau,zaw,zcc,zcj,zds,Nat.reduceAdd,Nat.zero_add]
  refine ydp [] yH yH yH yH (fun d o e=>by cases e) ⟨⟨[],none⟩,fun _=>default,rfl,rfl,by rw[h0];rfl,FamOk.zero _ _ _ (by rw[h0];exact Nat.le_refl _)⟩
 | some z =>
 obtain⟨b,cap,junk⟩:=z
 have k1:=gok.look
 have k2:=gok.le
 have k3:=gok.cap
 have k4:=gok.len
 have k5:=gok.jf
 rw[List.length_map]at k2 k4
 simp only[GR.cell_some,List.length_map]
 have hn:=(m2 b cap junk rfl).resolve_left (fun⟨_,_,h⟩=>by cases h)
 have e1: ¬b=b1:=fun h=>by rw[h,zae,if_neg n1',zae,if_pos rfl]at hn;cases hn
 have e2: ¬b=b2:=fun h=>by rw[h,zae,if_pos rfl]at hn;cases hn
 have e1': ¬b1=b:=fun h=>e1 h.symm
 have e2': ¬b2=b:=fun h=>e2 h.symm
 have f1:=m3 b1 (fun _ _ h=>by cases h;exact e1 rfl) (fun _ _ h=>by cases h)
 have f2:=m3 b2 (fun _ _ h=>by cases h;exact e2 rfl) (fun _ _ h=>by cases h)
 simp only[zae,n1',↓reduceIte]at f1 f2
 refine zet (S':= [(b1, .cells (cpN c (.v (.slice x1 x2 x3)) (.lst (c.rounds.map Sitting.cells))) 26),(b2, .cells zds 26),(b, .cells ((c.rounds.map Sitting.cells).flatten++junk) 61)]) (zib ⟨f1,f2,k1,trivial⟩) ?_
 clear hn m2 m3 gok k1 f1 f2
 repeat' (first|(with_reducible first|refine zac yU yU yE ?_|refine zab ?_|refine DS.seq ?_|refine zaa ?_|refine DS.block ?_)|(refine DS.store yR yE yE yE yE yU (by exact⟨by with_unfolding_all rfl,by(try simp only[List.length_map,List.length_append,List.length_set,List.length_replicate,List.length_cons,List.length_nil]);omega⟩) ?_;simp only[zbo,zau,zaw,zbw,zbm,zbk,zbl];try simp only[zam,zaf,zag,Nat.reduceEqDiff,↓reduceIte,zaj,zak,zap,zai,zah,zan,zal])|fail)
 simp only[setS,↓reduceIte,zcj,zcc]
 refine zoa (b:=b1) V.copy (fun _ _ _ h=>V.copy_Rl h) zhe (by simp only[zae,n1,n1',e1',↓reduceIte];exact rfl) ?_
 simp only[setS,n1,n1',↓reduceIte]
 refine zcn [1,2] yN (fun(y:Nat×List V×Gf)=> [(3,I y.1)]) (fun(y:Nat×List V×Gf)=>(b1, .cells (gN c (.v (.slice x1 x2 x3)) (.v (.slice (some ⟨b,0,none⟩) c.rounds.length cap))) 26)::(b2, .cells zds 26)::(b, .cells y.2.1 61)::famS 22 65 y.2.2 y.1) (fun(y:Nat×List V×Gf)=>y.1≤c.rounds.length∧SitG y.2.1 y.2.2 c.rounds y.1∧y.2.1.length=cap*3∧FamOk 22 65 y.2.2 c.rounds y.1 (famS 22 65 y.2.2 y.1)∧(zad (famS 22 65 y.2.2 y.1) b1=none∧zad (famS 22 65 y.2.2 y.1) b2=none∧zad (famS 22 65 y.2.2 y.1) b=none)) (fun(y:Nat×List V×Gf)=>c.rounds.length-y.1) (0,(c.rounds.map Sitting.cells).flatten++junk,fun _=>default) yS (fun b o e=>by exact e) ⟨Nat.zero_le _,yjo _ _ k5,by rw[List.length_append,zig Sitting.len];exact k4,FamOk.zero _ _ _ (Nat.le_refl _),rfl,rfl,rfl⟩ (fun y B hI hB=>?_);try dsimp only at hI hB;simp only[zar,zav]
 obtain⟨i,L,G⟩:=y
 dsimp only at hI hB ⊢
 have hB0:=hB
 clear hB
 obtain⟨g1,g2,gl,gf,gd1,gd2,gd3⟩:=hI
 by_cases hi:(i:Int)<(c.rounds.length:Int)
 ·have hi':i<c.rounds.length:=by omega
  have hsm:=hs.round _ (List.getElem_mem hi')
  have hL:=g2.len
  have h1:=g2.tab i hi'
  have h2:=g2.pts i hi'
  have h3:=g2.rul i hi'
  rw[if_neg (Nat.lt_irrefl _)]at h1 h3
  generalize hF:famS 22 65 G i=F0 at gf gd1 gd2 gd3 ⊢
  refine zqz [(b1, .cells (gN c (.v (.slice x1 x2 x3)) (.v (.slice (some ⟨b,0,none⟩) c.rounds.length cap))) 26),(b2, .cells zds 26),(b, .cells L 61)] F0 (fun d o e=>?_) (fun d o e=>?_) ?_
  ·simp only[zae,zbu]at e ⊢
   split
   ·simp_all
   ·rename_i q1;rw[if_neg q1]at e
    split
    ·simp_all
    ·rename_i q2;rw[if_neg q2]at e
     split
     ·simp_all
     ·rename_i q3;rw[if_neg q3]at e;cases e
  ·have m1: ¬b1=d:=fun q=>by subst q;rw[gd1]at e;cases e
   have m2: ¬b2=d:=fun q=>by subst q;rw[gd2]at e;cases e
   have m3: ¬b=d:=fun q=>by subst q;rw[gd3]at e;cases e
   exact⟨by simp only[zae,m1,m2,m3,↓reduceIte];exact e,by simp only[zae,zbu,m1,m2,m3,↓reduceIte]⟩
  simp only[List.map_cons,List.map_nil,frK]
  repeat' (first|(with_reducible first|refine zac yU yU yE ?_|refine zab ?_|refine DS.seq ?_|refine zaa ?_|(refine zbc yE ?_;refine zdb ?_)|refine DS.block ?_|refine DS.skip ?_)|fail)
  refine zug (id:=7) [(b1, .cells (gN c (.v (.slice x1 x2 x3)) (.v (.slice (some ⟨b,0,none⟩) c.rounds.length cap))) 26),(b2, .cells zds 26),(b, .cells L 61)] [] [1,2] [0,3,4,5,6,7,8,9,10,11,12,13,14,15,16,17] 18 rfl (by kernel_rfl) (by decide) zdq (fun _ _ e=>⟨e,rfl⟩) (fun _ _ e=>by cases e)
   ⟨_,_,_,_,_,_,rfl,rfl,yG,_,_,_,_,_,_,rfl,rfl,yG,rfl⟩ (by simp only[zba,zbg,zbh,zbi,zaz];exact rfl) (by simp only[zax,zay,List.drop_nil];exact rfl) ?_
  have q5:=hsm.rulings
  repeat' (first|with_reducible refine zbz yU yU yU yE ?_|fail)
  refine yrb inferInstance (ypg c.rounds[i].tables hsm.tables hsm.table) (fun v S' ⟨g,h,_⟩=>by obtain⟨y1,y2,y3,hx⟩:=GR.cell_slice g;exact⟨_,h.trans hx⟩) yR yH (fun xt=>?_)
  simp only[zca,zck,Nat.reduceEqDiff,↓reduceIte]
  refine DX.flt (dst:=some 37) rfl rfl rfl yE ?_
  simp only[zco]
  refine DX.flt (dst:=some 38) rfl rfl rfl yE ?_
  simp only[zco]
  refine DX.flt (dst:=some 39) rfl rfl rfl yE ?_
  simp only[zco]
  refine DX.flt (dst:=some 40) rfl rfl rfl yE ?_
  simp only[zco]
  refine DX.pc inferInstance (ypf c.rounds[i].points hsm.points hsm.point) yR yH ?_
  simp only[zca,zck,Nat.reduceEqDiff,↓reduceIte]
  refine DX.flt (dst:=some 42) rfl rfl rfl yE ?_
  simp only[zco]
  refine DX.flt (dst:=some 43) rfl rfl rfl yE ?_
  simp only[zco]
  refine DX.flt (dst:=some 44) rfl rfl rfl yE ?_
  simp only[zco]
  refine DX.flt (dst:=some 45) rfl rfl rfl yE ?_
  simp only[zco]
  refine DX.lastApp (ml:=c.rounds[i].rulings.map Ruling.cells) yR yR yR yR yR (by decide) yT yT (by intro x hx;obtain⟨y,-,rfl⟩:=List.mem_map.1 hx;rfl) ⟨by rw[List.length_map];omega,by decide⟩ (fun S1 g2 Sg hS1 gl0 gok z2 z3 hdis=>?_)
  obtain⟨gt,hxt,gtok,gtl⟩:=hS1
  obtain⟨y1,y2,y3,hxc⟩:=GR.cell_slice gt
  rw[hxc]at hxt
  cases hxt
  obtain⟨R,blk⟩:=g2
  obtain rfl:R=c.rounds[i].rulings.map Ruling.cells:=by rw[show R=_ from gl0,List.map_map];rfl
  clear gl0
  have gtS:GR.Ok 22 1 Sg gt:=gtok.mono fun d o q=>by
   rw[z3 d fun cap j h=>by have:=z2 d cap j h;rw[zgg gtok q]at this;cases this];exact zgg gtok q
  have gt0: ∀d o,zad (SR 22 gt) d=some o→zad Sg d=some o:=fun d o q=>zgg gtS q
  have gt1:=gtok.self
  have gtc: ∀d cap j,blk=some (d,cap,j)→zad (SR 22 gt) d=none:=fun d cap j h=>by
   cases q:zad (SR 22 gt) d with
   | none=>rfl
   | some o=>have:=z2 d cap j h;rw[zgg gtok q]at this;cases this
  clear gtS gtok z2 z3
  have l1:zad [(b1, .cells (gN c (.v (.slice x1 x2 x3)) (.v (.slice (some ⟨b,0,none⟩) c.rounds.length cap))) 26),(b2, .cells zds 26),(b, .cells L 61)] b1=some (.cells (gN c (.v (.slice x1 x2 x3)) (.v (.slice (some ⟨b,0,none⟩) c.rounds.length cap))) 26):=by simp only[zae,↓reduceIte]
  have l2:zad [(b1, .cells (gN c (.v (.slice x1 x2 x3)) (.v (.slice (some ⟨b,0,none⟩) c.rounds.length cap))) 26),(b2, .cells zds 26),(b, .cells L 61)] b2=some (.cells zds 26):=by simp only[zae,n1,↓reduceIte]
  have l3:zad [(b1, .cells (gN c (.v (.slice x1 x2 x3)) (.v (.slice (some ⟨b,0,none⟩) c.rounds.length cap))) 26),(b2, .cells zds 26),(b, .cells L 61)] b=some (.cells L 61):=by simp only[zae,e1',e2',↓reduceIte]
  have t1:zad (SR 22 gt) b1=none:=by cases q:zad (SR 22 gt) b1 with|none=>rfl|some o=>have:=hdis _ _ l1;rw[gt0 _ _ q]at this;cases this
  have t2:zad (SR 22 gt) b2=none:=by cases q:zad (SR 22 gt) b2 with|none=>rfl|some o=>have:=hdis _ _ l2;rw[gt0 _ _ q]at this;cases this
  have t3:zad (SR 22 gt) b=none:=by cases q:zad (SR 22 gt) b with|none=>rfl|some o=>have:=hdis _ _ l3;rw[gt0 _ _ q]at this;cases this
  have gd: ∀(L:List V) d o,zad [(b1, .cells (gN c (.v (.slice x1 x2 x3)) (.v (.slice (some ⟨b,0,none⟩) c.rounds.length cap))) 26),(b2, .cells zds 26),(b, .cells L 61)] d=some o→zad F0 d=none:=fun L d o q=>by
   simp only[zae,zbu]at q
   by_cases q1:b1=d
   ·rw[←q1];exact gd1
   ·rw[if_neg q1]at q
    by_cases q2:b2=d
    ·rw[←q2];exact gd2
    ·rw[if_neg q2]at q
     by_cases q3:b=d
     ·rw[←q3];exact gd3
     ·rw[if_neg q3]at q;cases q
  cases blk with
  | none =>
   have hr0:c.rounds[i].rulings= []:=List.map_eq_nil_iff.1 gok
   refine zqz [(b1, .cells (gN c (.v (.slice x1 x2 x3)) (.v (.slice (some ⟨b,0,none⟩) c.rounds.length cap))) 26),(b2, .cells zds 26),(b, .cells L 61)] (SR 22 gt) (zib ⟨zyf hdis l1,zyf hdis l2,zyf hdis l3,trivial⟩) (fun d o q=>⟨zmi (gt0 d o q),?_⟩) ?_
   ·cases q2:zad [(b1,Ob.cells (gN c (.v (.slice x1 x2 x3)) (.v (.slice (some ⟨b,0,none⟩) c.rounds.length cap))) 26),(b2, .cells zds 26),(b, .cells L 61)] d with
    | none=>rfl
    | some o2=>have:=hdis d o2 q2;rw[gt0 d o q]at this;cases this
   simp only[List.map_cons,List.map_nil,frK]
   clear hdis gok l1 l2 l3 gt0 gtc
   simp only[GR.cell_none]
   repeat' (first|(with_reducible first|refine zac yU yU yE ?_|refine zab ?_|refine DS.seq ?_|refine zaa ?_|refine DS.block ?_)|(refine DS.store yR yE yE yE yE yU (by exact⟨by with_unfolding_all rfl,by(try simp only[List.length_map,List.length_append,List.length_set,List.length_replicate,List.length_cons,List.length_nil]);omega⟩) ?_;simp only[zbo,zau,zaw,zbw,zbm,zbk,zbl];try simp only[zam,zaf,zag,Nat.reduceEqDiff,↓reduceIte,zaj,zak,zap,zai,zah,zan,zal])|fail)
   have g4:SitG (((L.set (i*3) (.v (.slice y1 y2 y3))).set (i*3+1) (rows c.rounds[i].points)).set (i*3+2) (.v (.slice none 0 0))) (setG G i (gt,⟨c.rounds[i].rulings.map Ruling.cells,none⟩)) c.rounds (i+1):=by
    have q:=g2.put hi' (gt,⟨c.rounds[i].rulings.map Ruling.cells,none⟩)
    dsimp only at q
    rw[hxc]at q
    exact q
   have gl4:(((L.set (i*3) (.v (.slice y1 y2 y3))).set (i*3+1) (rows c.rounds[i].points)).set (i*3+2) (.v (.slice none 0 0))).length=cap*3:=by simp only[List.length_set];exact gl
   generalize hgL:(((L.set (i*3) (.v (.slice y1 y2 y3))).set (i*3+1) (rows c.rounds[i].points)).set (i*3+2) (.v (.slice none 0 0)))=L' at g4 gl4 ⊢
   have h6:=g4.rul i hi'
   rw[if_pos (Nat.lt_succ_self _),zfs,GR.cell_none]at h6
   clear hgL
   simp only[setS,e1',e2',↓reduceIte]
   refine zcn [1,2,3,4] yN (fun(y:Nat)=> [(5,I y)]) (fun(y:Nat)=> [(b1, .cells (gN c (.v (.slice x1 x2 x3)) (.v (.slice (some ⟨b,0,none⟩) c.rounds.length cap))) 26),(b2, .cells zds 26),(b, .cells L' 61)]) (fun(y:Nat)=>y=0) (fun(y:Nat)=>y) 0 yS (fun b o e=>by exact e) rfl (fun y B hI hB=>?_);try dsimp only at hI hB;simp only[zar,zav]
   subst hI
   repeat' (first|(with_reducible first|refine zac yU yU yE ?_|refine zab ?_|refine DS.seq ?_|refine zaa ?_|(refine zbc yE ?_;refine zdd ?_)|refine DS.blk ?_|refine DS.exit yU ?_)|fail)
   refine DS.back (fun hd1 hd0=>?_)
   obtain⟨f1,f2,f3⟩:=ygh (X:= [(b1, .cells (gN c (.v (.slice x1 x2 x3)) (.v (.slice (some ⟨b,0,none⟩) c.rounds.length cap))) 26),(b2, .cells zds 26),(b, .cells L' 61)]) (e:=22) (e':=65) (g2:=⟨c.rounds[i].rulings.map Ruling.cells,none⟩) (fun _ _ _=>rfl) gf hF hi' gt1 (by rw[hr0];exact(rfl:([]:List (List V))= [])) gtl rfl (gd L') (by exact hd1) (by exact hd0)
   exact hB0 (i+1,L',setG G i (gt,⟨c.rounds[i].rulings.map Ruling.cells,none⟩)) _ _ (by dsimp only;omega) ⟨by dsimp only;omega,g4,gl4,f1,f2 b1 _ (by simp only[zae,↓reduceIte];exact rfl),f2 b2 _ (by simp only[zae,n1,↓reduceIte];exact rfl),f2 b _ (by simp only[zae,e1',e2',↓reduceIte];exact rfl)⟩ yS yS (by exact f3)
  | some z =>
   obtain⟨bk,capk,junkk⟩:=z
   have gok:GR.At 65 3 Sg (c.rounds[i].rulings.map Ruling.cells) bk capk junkk:=gok
   have k1:=gok.look
   have k6:=gok.le
   have k7:=gok.cap
   have k8:=gok.len
   have k9:=gok.jf
   rw[List.length_map]at k6 k8
   have gtb:=gtc bk capk junkk rfl
   simp only[GR.cell_some,List.length_map]
   have u1:=yna hdis k1 l1
   have u2:=yna hdis k1 l2
   have u3:=yna hdis k1 l3
   have u1': ¬b1=bk:=fun h=>u1 h.symm
   have u2': ¬b2=bk:=fun h=>u2 h.symm
   have u3': ¬b=bk:=fun h=>u3 h.symm
   refine zqz [(b1, .cells (gN c (.v (.slice x1 x2 x3)) (.v (.slice (some ⟨b,0,none⟩) c.rounds.length cap))) 26),(b2, .cells zds 26),(b, .cells L 61),(bk, .cells ((c.rounds[i].rulings.map Ruling.cells).flatten++junkk) 65)] (SR 22 gt) (zib ⟨zyf hdis l1,zyf hdis l2,zyf hdis l3,zmi k1,trivial⟩) (fun d o q=>⟨zmi (gt0 d o q),?_⟩) ?_
   ·have m1: ¬b1=d:=fun e=>by subst e;rw[t1]at q;cases q
    have m2: ¬b2=d:=fun e=>by subst e;rw[t2]at q;cases q
    have m3: ¬b=d:=fun e=>by subst e;rw[t3]at q;cases q
    have m4: ¬bk=d:=fun e=>by subst e;rw[gtb]at q;cases q
    simp only[zae,zbu,m1,m2,m3,m4,↓reduceIte]
   simp only[List.map_cons,List.map_nil,frK]
   clear hdis gok l1 l2 l3 gt0 gtc k1
   repeat' (first|(with_reducible first|refine zac yU yU yE ?_|refine zab ?_|refine DS.seq ?_|refine zaa ?_|refine DS.block ?_)|(refine DS.store yR yE yE yE yE yU (by exact⟨by with_unfolding_all rfl,by(try simp only[List.length_map,List.length_append,List.length_set,List.length_replicate,List.length_cons,List.length_nil]);omega⟩) ?_;simp only[zbo,zau,zaw,zbw,zbm,zbk,zbl];try simp only[zam,zaf,zag,Nat.reduceEqDiff,↓reduceIte,zaj,zak,zap,zai,zah,zan,zal])|fail)
   have g4: ∀j,SitG (((L.set (i*3) (.v (.slice y1 y2 y3))).set (i*3+1) (rows c.rounds[i].points)).set (i*3+2) (.v (.slice (some ⟨bk,0,none⟩) c.rounds[i].rulings.length capk))) (setG G i (gt,⟨c.rounds[i].rulings.map Ruling.cells,some (bk,capk,j)⟩)) c.rounds (i+1):=fun j=>by
    have q:=g2.put hi' (gt,⟨c.rounds[i].rulings.map Ruling.cells,some (bk,capk,j)⟩)
    dsimp only at q
    rw[hxc,GR.cell_some,List.length_map]at q
    exact q
   have gl4:(((L.set (i*3) (.v (.slice y1 y2 y3))).set (i*3+1) (rows c.rounds[i].points)).set (i*3+2) (.v (.slice (some ⟨bk,0,none⟩) c.rounds[i].rulings.length capk))).length=cap*3:=by simp only[List.length_set];exact gl
   generalize hgL:(((L.set (i*3) (.v (.slice y1 y2 y3))).set (i*3+1) (rows c.rounds[i].points)).set (i*3+2) (.v (.slice (some ⟨bk,0,none⟩) c.rounds[i].rulings.length capk)))=L' at g4 gl4 ⊢
   have h6:=(g4 []).rul i hi'
   rw[if_pos (Nat.lt_succ_self _),zfs,GR.cell_some,List.length_map]at h6
   clear hgL
   simp only[setS,e1,e2,e1',e2',u1,u2,u3,u1',u2',u3',↓reduceIte]
   refine zcn [1,2,3,4] yN (fun(y:Nat×List V)=> [(5,I y.1)]) (fun(y:Nat×List V)=> [(b1, .cells (gN c (.v (.slice x1 x2 x3)) (.v (.slice (some ⟨b,0,none⟩) c.rounds.length cap))) 26),(b2, .cells zds 26),(b, .cells L' 61),(bk, .cells y.2 65)]) (fun(y:Nat×List V)=>y.1≤c.rounds[i].rulings.length∧RulAt y.2 c.rounds[i].rulings∧y.2.length=capk*3∧ ∀v∈y.2,v.free=true) (fun(y:Nat×List V)=>c.rounds[i].rulings.length-y.1) (0,(c.rounds[i].rulings.map Ruling.cells).flatten++junkk) yS (fun b o e=>by exact e) ⟨Nat.zero_le _,yhn _ _,by rw[List.length_append,zig Ruling.len];exact k8,fun v hv=>(List.mem_append.1 hv).elim (zzm _ v) (k9 v)⟩ (fun y B hI hB=>?_);try dsimp only at hI hB;simp only[zar,zav]
   obtain⟨k,M⟩:=y
   dsimp only at hI hB ⊢
   obtain⟨p1,p2,p3,p4⟩:=hI
   have P4:=Box.mk p4
   clear p4
   by_cases hk:(k:Int)<(c.rounds[i].rulings.length:Int)
   ·have hk':k<c.rounds[i].rulings.length:=by omega
    have hM:=p2.len
    have h8:=p2.pts k hk'
    have h9:=hsm.ruling _ (List.getElem_mem hk')
    repeat' (first|(with_reducible first|refine zac yU yU yE ?_|refine zab ?_|refine DS.seq ?_|refine zaa ?_|(refine zbc yE ?_;refine zdb ?_)|refine DS.blk ?_|refine DS.block ?_|refine DS.skip ?_)|(refine DS.store yR yE yE yE yE yU (by exact⟨by with_unfolding_all rfl,by(try simp only[List.length_map,List.length_append,List.length_set,List.length_replicate,List.length_cons,List.length_nil]);omega⟩) ?_;simp only[zbo,zau,zaw,zbw,zbm,zbk,zbl];try simp only[zam,zaf,zag,Nat.reduceEqDiff,↓reduceIte,zaj,zak,zap,zai,zah,zan,zal])|refine zch (id:=11) [0,1,2,3,4,5,6,7,8,9,10,11,12,13] 14 (by kernel_rfl) zdq (by simp only[zba,zbg,zbh,zbi,zaz];exact rfl) (by simp only[zax,zay,List.drop_nil];exact rfl) ?_|(with_reducible first|refine zbz yU yU yU yE ?_|refine zdc ?_)|refine zml inferInstance (zsr c.rounds[i].rulings[k].points (Nat.le_trans h9 (by decide))) yU yT ?_;simp only[zca,zck,Nat.reduceEqDiff,↓reduceIte]|fail)
    simp only[setS,u1',u2',u3',↓reduceIte]
    refine zoa (b:=bk) V.peek (fun _ _ _ h=>V.peek_Rl h) zfu (by simp only[zae,u1',u2',u3',↓reduceIte];exact rfl) ?_
    simp only[setS,u1',u2',u3',↓reduceIte]
    refine DS.back (hB (k+1,(M.set (k*3+2) (.own false 3 1 (c.rounds[i].rulings[k].points.map cI))).map V.peek) _ _ (by dsimp only;omega) ⟨by dsimp only;omega,p2.put hk',by simp only[List.length_map,List.length_set];exact p3,fun v hv=>by obtain⟨u,-,rfl⟩:=List.mem_map.1 hv;exact zfu u⟩ yS yS (fun d o e=>by exact e))
   ·obtain rfl:k=c.rounds[i].rulings.length:=by omega
    clear hB
    repeat' (first|(with_reducible first|refine zac yU yU yE ?_|refine zab ?_|refine DS.seq ?_|refine zaa ?_|(refine zbc yE ?_;refine zdd ?_)|refine DS.blk ?_|refine DS.exit yU ?_)|fail)
    have hSR:SR 65 ⟨c.rounds[i].rulings.map Ruling.cells,some (bk,capk,M.drop (c.rounds[i].rulings.length*3))⟩= [(bk, .cells M 65)]:=by
     show [(bk,Ob.cells (_++_) _)]=_
     rw[←p2.flat]
    have hok:GR.Ok 65 3 (SR 65 ⟨c.rounds[i].rulings.map Ruling.cells,some (bk,capk,M.drop (c.rounds[i].rulings.length*3))⟩) ⟨c.rounds[i].rulings.map Ruling.cells,some (bk,capk,M.drop (c.rounds[i].rulings.length*3))⟩:=by
     rw[hSR];exact p2.ok P4.out (by simp only[zae,↓reduceIte]) p3 ⟨k6,k7⟩
    refine DS.back (fun hd1 hd0=>?_)
    obtain⟨f1,f2,f3⟩:=ygh (X:= [(b1, .cells (gN c (.v (.slice x1 x2 x3)) (.v (.slice (some ⟨b,0,none⟩) c.rounds.length cap))) 26),(b2, .cells zds 26),(b, .cells L' 61)]) (e:=22) (e':=65) (g2:=⟨c.rounds[i].rulings.map Ruling.cells,some (bk,capk,M.drop (c.rounds[i].rulings.length*3))⟩) (fun d o q=>by
      rw[hSR]
      have m4: ¬bk=d:=fun e=>by subst e;simp only[zae,zbu,u1',u2',u3',↓reduceIte]at q;cases q
      simp only[zae,zbu,m4,↓reduceIte]) gf hF hi' gt1 hok gtl rfl (gd L') (by rw[hSR];exact hd1) (by rw[hSR];exact hd0)
    rw[hSR]at f3
    exact hB0 (i+1,L',setG G i (gt,⟨c.rounds[i].rulings.map Ruling.cells,some (bk,capk,M.drop (c.rounds[i].rulings.length*3))⟩)) _ _ (by dsimp only;omega) ⟨by dsimp only;omega,g4 _,gl4,f1,f2 b1 _ (by simp only[zae,↓reduceIte];exact rfl),f2 b2 _ (by simp only[zae,n1,↓reduceIte];exact rfl),f2 b _ (by simp only[zae,e1',e2',↓reduceIte];exact rfl)⟩ yS yS (by exact f3)
 ·obtain rfl:i=c.rounds.length:=by omega
  clear hB0
  generalize famS 22 65 G c.rounds.length=F0 at gf gd1 gd2 gd3 ⊢
  refine zjg (t:=1) yE yE ?_;simp only[zbp,zbv,↓reduceIte, *,zbq,zbj,zbt,zbn,zcp,zcr,zcb,zcq]
  repeat' (first|(refine ygt (t:=78) yU yE yU (by simp only[List.length_cons,List.length_nil];omega) ?_;simp only[List.take_succ_cons,List.take_zero,List.map_cons,List.map_nil,zbt,zbn,zcp,Nat.reduceAdd])|(with_reducible first|refine zac yU yU yE ?_|refine zab ?_|refine DS.seq ?_|refine zaa ?_|(refine zbc yE ?_;refine zdd ?_)|refine DS.exit yU ?_)|(refine DS.store yR yE yE yE yE yU (by exact⟨by with_unfolding_all rfl,by(try simp only[List.length_map,List.length_append,List.length_set,List.length_replicate,List.length_cons,List.length_nil]);omega⟩) ?_;simp only[zbo,zau,zaw,zbw,zbm,zbk,zbl];try simp only[zam,zaf,zag,Nat.reduceEqDiff,↓reduceIte,zaj,zak,zap,zai,zah,zan,zal])|fail)
  obtain⟨g,z1,z2,z3⟩:=g2.ok (S:=(b, .cells L 61)::F0) (b:=b) (e:=61) (by simp only[zae,↓reduceIte]) gl ⟨k2,k3⟩
  simp only[setS,n1,n1',e1',e2',↓reduceIte,zau,zaw,zcc,zcj,zds,Nat.reduceAdd,Nat.zero_add,List.map_cons,List.map_nil,zcp,zbn]
  refine ydp ((b, .cells L 61)::F0) yH yH yH yH (fun d o e=>?_) ⟨g,G,by rw[z1];rfl,z2,z3,gf.mono fun d o e=>?_⟩
  ·rw[zae]at e
   by_cases q:b=d
   ·subst q;rw[if_pos rfl]at e;simp only[zae,e2',↓reduceIte];exact e
   ·rw[if_neg q]at e
    have m1: ¬d=b1:=fun h=>by subst h;rw[gd1]at e;cases e
    have m2: ¬b2=d:=fun h=>by subst h;rw[gd2]at e;cases e
    rw[zae,if_neg m2,zae,if_neg q,zcx,if_neg m1];exact e
  ·have m3: ¬b=d:=fun h=>by subst h;rw[gd3]at e;cases e
   rw[zae,if_neg m3];exact e
end Go.XL
namespace Go.XL
set_option maxHeartbeats 4000000
def Falls (l:List Int):Prop:= ∀i,1≤i→i<l.length→l.getD i 0≤l.getD (i-1) 0
theorem Falls.le {l : List Int} (h : Falls l) {i : Nat} : ∀ {j : Nat}, i ≤ j → j < l.length → l.getD j 0 ≤ l.getD i 0
  | 0, h1, _ => by obtain rfl : i = 0 := by omega
                   exact Int.le_refl _
  | j + 1, h1, h2 => by
    rcases Nat.lt_or_ge i (j + 1) with h3 | h3
    · have h4 := h.le (i := i) (j := j) (by omega) (by omega)
      have h5 := h (j + 1) (by omega) h2
      rw [Nat.add_sub_cancel] at h5
      omega
    · obtain rfl : i = j + 1 := by omega
      exact Int.le_refl _
theorem yre {L U:Int}: ∀(l:List Int),(∀x∈l,L≤x∧x≤U)→l.length*L≤l.sum∧l.sum≤l.length*U
 | [],_=>by simp
 | x::l,h=>by
  have h1:=yre l fun y hy=>h y (List.mem_cons_of_mem _ hy)
  have h2:=h x (List.mem_cons_self ..)
  simp only[List.length_cons,List.sum_cons,Int.natCast_add,Int.natCast_one,Int.add_mul,Int.one_mul]
  omega
end Go.XL
namespace Go.XL
set_option maxHeartbeats 4000000
theorem zuz (n:Int) (out:List Int): ∀k:Nat,zln n out k≤k∧(∀a:Nat,zln n out k≤a→a<k→n<out.getD a 0)∧(zln n out k=0∨out.getD (zln n out k-1) 0≤n)
 | 0=>⟨Nat.le_refl _,fun a _ h=>by omega, .inl rfl⟩
 | k+1=>by
  rw[zln]
  split
  ·rename_i h
   obtain⟨h1,h2,h3⟩:=zuz n out k
   refine⟨by omega,fun a ha hk=>?_,h3⟩
   by_cases e:a=k
   ·subst e;exact h
   ·exact h2 a ha (by omega)
  ·rename_i h
   exact⟨Nat.le_refl _,fun a _ _=>by omega, .inr (by simpa using Int.not_lt.1 h)⟩
theorem ylg (out:List Int) (n:Int):(insS out n).Perm (n::out):=by
 rw[insS]
 refine List.perm_middle.trans ?_
 rw[List.take_append_drop]
theorem ycw {out:List Int} (h:out.Pairwise (· ≤ ·)) (n:Int):(insS out n).Pairwise (· ≤ ·):=by
 obtain⟨h1,h2,h3⟩:=zuz n out out.length
 rw[insS]
 generalize zln n out out.length=p at *
 have hp:=List.pairwise_iff_getElem.1 h
 rw[List.pairwise_append]
 refine⟨List.Pairwise.sublist (List.take_sublist ..) h, .cons (fun x hx=>?_) (List.Pairwise.sublist (List.drop_sublist ..) h),fun x hx y hy=>?_⟩
 ·obtain⟨i,hi,rfl⟩:=List.mem_iff_getElem.1 hx
  rw[List.length_drop]at hi
  have:=h2 (p+i) (by omega) (by omega)
  rw[List.getD_eq_getElem?_getD,List.getElem?_eq_getElem (by omega),Option.getD_some]at this
  rw[List.getElem_drop];omega
 ·obtain⟨i,hi,rfl⟩:=List.mem_iff_getElem.1 hx
  rw[List.length_take]at hi
  rw[List.getElem_take]
  have hx2:out[i]'(by omega)≤n:=by
   rcases h3 with h3|h3
   ·omega
   ·rw[List.getD_eq_getElem?_getD,List.getElem?_eq_getElem (by omega),Option.getD_some]at h3
    by_cases e:i=p-1
    ·subst e;exact h3
    ·have:=hp i (p-1) (by omega) (by omega) (by omega)
     omega
  rcases List.mem_cons.1 hy with rfl|hy
  ·exact hx2
  ·obtain⟨j,hj,rfl⟩:=List.mem_iff_getElem.1 hy
   rw[List.length_drop]at hj
   rw[List.getElem_drop]
   exact hp i (p+j) (by omega) (by omega) (by omega)
theorem yaw : ∀(l out:List Int),out.Pairwise (· ≤ ·)→(l.foldl insS out).Pairwise (· ≤ ·)∧(l.foldl insS out).Perm (l++out)
 | [],out,h=>⟨h, .refl _⟩
 | n::l,out,h=>by
  obtain⟨h1,h2⟩:=yaw l (insS out n) (ycw h n)
  refine⟨h1,h2.trans ?_⟩
  refine((ylg out n).append_left l).trans ?_
  exact List.perm_middle
theorem zsi {a b:Int}: ∀{T:List (List Int)},(∀t∈T,¬(a∈t∧b∈t))→metT a b T=0
 | [],_=>rfl
 | t::T,h=>by
  rw[metT,if_neg (fun h1=>h t (List.mem_cons_self ..) h1.2),zsi fun t ht=>h t (List.mem_cons_of_mem _ ht)]
theorem yfc {a b:Int}: ∀{T:List (List Int)},T.flatten.Nodup→metT a b T≤1
 | [],_=>by simp[metT]
 | t::T,h=>by
  rw[List.flatten_cons]at h
  obtain⟨h1,h2,h3⟩:=List.nodup_append.1 h
  rw[metT]
  by_cases h4:a≠b∧a∈t∧b∈t
  ·rw[if_pos h4,zsi fun t' ht h5=>h3 a h4.2.1 a (List.mem_flatten.2 ⟨t',ht,h5.1⟩) rfl]
   omega
  ·rw[if_neg h4]
   have:=yfc (a:=a) (b:=b) h2
   omega
theorem RoundOk.met {c:Club} {size:Nat} {ids:List Int} {T:List (List Int)} (h:RoundOk size (met0 c) ids T) (hn:ids.Nodup) {a b:Int} (hab:a≠b):metT a b T≤1∧(0<metS c a b→metT a b T=0):=by
 refine⟨yfc (h.perm.nodup_iff.2 hn),fun h1=>zsi fun t ht h2=>?_⟩
 have h3:=List.pairwise_iff_getElem.1 ((zma _ _).1 (h.fair t ht))
 obtain⟨i,hi,rfl⟩:=List.getElem_of_mem h2.1
 obtain⟨j,hj,rfl⟩:=List.getElem_of_mem h2.2
 have h4:met0 c t[i] t[j]=true:=decide_eq_true h1
 rcases Nat.lt_trichotomy i j with h5|h5|h5
 ·rw[h3 i j hi hj h5]at h4;cases h4
 ·subst h5;exact hab rfl
 ·rw[zsj,h3 j i hj hi h5]at h4;cases h4
theorem zsb {c:Club} {ids:List Int} (hz:1≤c.size) (ha:ids.Pairwise (· < ·)) (h:(zge c ids).2=0):zde c=0∧RoundOk c.size.toNat (met0 c) ids (zge c ids).1:=by
 by_cases h1:zde c=0
 ·refine⟨h1,?_⟩
  rw[zge,if_neg (by omega)]at h ⊢
  split at h
  ·cases h
  rename_i h2
  rw[if_neg h2]
  split at h
  ·cases h
  rename_i h3
  rw[if_neg h3]
  split at h
  ·contradiction
  rename_i h4
  rw[if_neg h4]
  split at h
  ·cases h
  rename_i h5
  rw[if_neg h5]
  split at h
  ·cases h
  rename_i h6
  rw[if_neg h6]
  have h7:=zws (size:=c.size.toNat) (budget := -1) (rounds:= [ids]) (zim [ids]) (met0 c) 0 ids 0 (by rw[runS]at h6;exact Decidable.not_not.1 h6)
  obtain⟨T,Q',e,h8,h9⟩:=ymd (by omega) h7 ha
  have e2:(runS c [ids] (-1)).2.2=T.map (fun t=>(0,t))++Q':=e
  rcases h9 with⟨-,rfl⟩|⟨h9,-⟩
  ·rw[e2]
   simpa [Function.comp_def] using h8
  ·exact absurd rfl h9
 ·rw[zge,if_pos h1]at h
  exact absurd h h1
theorem yko {c:Club} {ids:List Int} (h:(zge c ids).2≠0):(zge c ids).1= []:=by
 rw[zge]at h ⊢
 repeat' split
 all_goals first|rfl|skip
 exfalso
 simp_all
theorem znw {c:Club} (hm:c.members.Pairwise fun a b=>a.id<b.id) (r:Int):(zdn c r).Pairwise (· < ·):=by
 rw[zdn,List.pairwise_map]
 exact hm.filter _
structure AheadI (n:Nat) (P:List (List (List Int))) (c:Club) (i:Nat):Prop where
 chk:zde c=0
 size:c.size=3∨c.size=4
 asc:c.members.Pairwise fun a b=>a.id<b.id
 pos: ∀m∈c.members,0<m.id
 len:i≤n∧c.rounds.length+(n-i)≤20
 small:c.Small
 tab:zyh c
 ids: ∀m∈c.members,In64 m.id
 mem:c.members.length≤1000
 plan:P.length=n
 fnd:i<n→ ∃rounds Q,rounds.length=n∧(∀j,i≤j→j<n→rounds.getD j []=zdn c ((c.rounds.length:Int)+((j-i:Nat):Int)))∧Fnd c.size.toNat rounds (met0 c) i (zdn c c.rounds.length) Q∧ ∀j,i≤j→j<n→P.getD j []=(Q.filter fun q=>decide (q.1=j)).map Prod.snd
end Go.XL
namespace Go.XL
set_option maxHeartbeats 4000000
theorem yek (x:Int):zgi x=3∨zgi x=4:=by unfold zgi;split <;> simp
def ygr (size:Int) (l:List Int):Prop :=
 (size=3∧ ∃a b c:Int,l= [a,b,c]∧a+b+c=0∧(-1000≤a∧a≤1000)∧(-1000≤b∧b≤1000)∧(-1000≤c∧c≤1000)) ∨
 (size=4∧ ∃a b c d:Int,l= [a,b,c,d]∧a+b+c+d=0∧(-1000≤a∧a≤1000)∧(-1000≤b∧b≤1000)∧(-1000≤c∧c≤1000)∧(-1000≤d∧d≤1000))
theorem yjc {n i:Int} (h:0≤n∧n≤40) (hi:1≤i):0≤n.tdiv i∧n.tdiv i≤40:=by
 refine⟨Int.tdiv_nonneg h.1 (by omega),?_⟩
 rw[Int.tdiv_eq_ediv_of_nonneg h.1]
 exact Int.le_trans (Int.ediv_le_self _ h.1) h.2
theorem yhz (x:Int):ygr (zgi x) (zdo x).1:=by
 have k1:=zby (x5 x) 5
 have k2:=zby (stepX (x5 x)) 2
 have k3:=zby (stepX (stepX (x5 x))) 9
 have k4:=zby (stepX (stepX (stepX (x5 x)))) 9
 have k5:=yjc (n:=zao (x5 x) 5*10) (i:=1+1) (by omega) (by omega)
 have k6:=yjc (n:=zao (x5 x) 5*10) (i:=1+1+1) (by omega) (by omega)
 rcases yek x with h|h
 ·refine .inl ⟨h,zao (x5 x) 5*10+zao (stepX (x5 x)) 2,(zao (x5 x) 5*10).tdiv (1+1)-zao (stepX (stepX (x5 x))) 9,-(zao (x5 x) 5*10+zao (stepX (x5 x)) 2+((zao (x5 x) 5*10).tdiv (1+1)-zao (stepX (stepX (x5 x))) 9)),?_,?_,?_,?_,?_⟩
  ·rw[zdo,h];rfl
  all_goals omega
 ·refine .inr ⟨h,zao (x5 x) 5*10+zao (stepX (x5 x)) 2,(zao (x5 x) 5*10).tdiv (1+1)-zao (stepX (stepX (x5 x))) 9,(zao (x5 x) 5*10).tdiv (1+1+1)-zao (stepX (stepX (stepX (x5 x)))) 9,-(zao (x5 x) 5*10+zao (stepX (x5 x)) 2+((zao (x5 x) 5*10).tdiv (1+1)-zao (stepX (stepX (x5 x))) 9)+((zao (x5 x) 5*10).tdiv (1+1+1)-zao (stepX (stepX (stepX (x5 x)))) 9)),?_,?_,?_,?_,?_,?_⟩
  ·rw[zdo,h];rfl
  all_goals omega
structure ZClub (c:Club):Prop where
 start:0≤c.start∧c.start≤300
 size:c.size=3∨c.size=4
 places:ygr c.size c.places
end Go.XL
namespace Go.XL
set_option maxHeartbeats 4000000
def Club.add (c:Club) (s:Sitting):Club:={c with rounds:=c.rounds++ [s]}
theorem zyg (c:Club) (s:Sitting):(c.add s).rounds.length=c.rounds.length+1:=by simp[Club.add]
theorem zro (c:Club) (s:Sitting) {k:Int} (h0:0≤k) (h:k<c.rounds.length):(c.add s).round k=c.round k:=by
 rw[Club.round,Club.round,Club.add]
 dsimp only
 rw[List.getD_eq_getElem?_getD,List.getD_eq_getElem?_getD,List.getElem?_append_left (by omega)]
theorem zvd (c:Club) (s:Sitting):(c.add s).round (c.rounds.length:Int)=s:=by
 rw[Club.round_at (c.add s) (by rw[zyg];omega)]
 simp[Club.add]
theorem yhy (c:Club) (s:Sitting) {k:Int} (h:k<c.rounds.length) (table:Int):zeu (c.add s) k table=zeu c k table:=by
 by_cases h0:0≤k
 ·rw[zeu,zeu,zro c s h0 h,decide_eq_decide]
  rw[zyg]
  constructor
  ·rintro⟨-,h2⟩;exact⟨⟨h0,by omega⟩,h2⟩
  ·rintro⟨-,h2⟩;exact⟨⟨h0,by omega⟩,h2⟩
 ·rw[zeu,zeu,decide_eq_false (by omega),decide_eq_false (by omega)]
theorem zok (c:Club) (s:Sitting) {k:Int} (h:k<c.rounds.length): ∀l,zcw (c.add s) k l=zcw c k l
 | []=>rfl
 | x::r=>by
  rw[zcw,zcw,zok c s h r]
  have hw:(c.add s).window=c.window:=rfl
  have hr:zfq (c.add s) x.points=zfq c x.points:=rfl
  rw[hw,hr]
  by_cases h1: ¬(max 0 (k-c.window)≤x.round∧x.round≤k)
  ·rw[if_pos h1,if_pos h1]
  ·rw[if_neg h1,if_neg h1,yhy c s (by have:=(Decidable.not_not.1 h1).2;omega)]
theorem yit {c:Club} (hc:zde c=0) {s:Sitting} (hl:c.rounds.length<20) (ht:zdj c c.rounds.length s.tables [] 0=0) (h1:s.points.length=s.tables.length) (h2:zdm c s.points=0)
  (h3:s.rulings.length≤20) (h4:zcw (c.add s) c.rounds.length s.rulings=0):zde (c.add s)=0:=by
 have hr:zfl (c.add s)=zfl c:=rfl
 rw[zde]at hc
 split at hc
 ·contradiction
 split at hc
 ·contradiction
 split at hc
 ·cases hc
 rename_i k1 k2 k3
 have h5:=(zgv c c.rounds.length 0).1 hc
 rw[zde,hr,if_neg k1,show(c.add s).members=c.members from rfl,if_neg k2,zyg,if_neg (by omega)]
 refine(zgv (c.add s) _ 0).2 fun k _ hk=>?_
 by_cases hk2:k<c.rounds.length
 ·obtain⟨h6,h7⟩:=h5 k (Nat.zero_le _) (by omega)
  have e:=zro c s (k:=k) (by omega) (by omega)
  constructor
  ·rw[zey,e,zkd (c:=c.add s) (d:=c) rfl rfl];exact h6
  ·rw[zhb,zfo,zfd,e,zok c s (by omega),zia (c:=c.add s) (d:=c) rfl rfl]
   exact h7
 ·obtain rfl:k=c.rounds.length:=by omega
  have e:=zvd c s
  constructor
  ·rw[zey,e,zkd (c:=c.add s) (d:=c) rfl rfl];exact ht
  ·rw[zhb,zfo,zfd,e,if_neg (show ¬s.points.length≠s.tables.length by omega),zia (c:=c.add s) (d:=c) rfl rfl,h2,if_neg (by decide),if_neg (by omega),h4]
theorem zsf {size:Int} (hs:1≤size): ∀(n:Nat) (x:Int) (l:List Int),l.length<n→((znr size n x l).1.length:Int) % size=0
 | 0,_,_,h=>by omega
 | n+1,x,l,h=>by
  simp only[znr]
  have key: ∀i:Nat,i<l.length→(l.take i++l.drop (i+1)).length<n:=fun i hi=>by
   rw[List.length_append,List.length_take,List.length_drop];omega
  split
  ·rename_i h1;show((l.length:Nat):Int) % size=0;rw[h1];simp
  ·have h2:=zby x l.length
   have h3:=zby (stepX x) l.length
   split
   ·exact zsf hs n _ _ (key _ (by omega))
   ·rename_i h4
    split
    ·exact zsf hs n _ _ (key _ (by omega))
    ·exact Decidable.not_not.1 h4
theorem zyy (size:Int): ∀(n:Nat) (x:Int) (t rest:List Int),((t.length:Int)+rest.length≥size)→((tabG size n x t rest).1++(tabG size n x t rest).2.1).Perm (t++rest)∧(tabG size n x t rest).2.1.Sublist rest
 | 0,x,t,rest,h=>⟨.refl _, .refl _⟩
 | n+1,x,t,rest,h=>by
  simp only[tabG]
  split
  ·rename_i h1
   have hb:=zby x rest.length
   have hi:(zao x rest.length).toNat<rest.length:=by omega
   generalize (zao x rest.length).toNat=i at hi ⊢
   have e:rest.getD i 0=rest[i]:=by rw[List.getD_eq_getElem?_getD,List.getElem?_eq_getElem hi];rfl
   have e2:rest=rest.take i++rest[i]::rest.drop (i+1):=by rw[←List.drop_eq_getElem_cons hi,List.take_append_drop]
   have hl:(rest.take i++rest.drop (i+1)).length+1=rest.length:=by rw[List.length_append,List.length_take,List.length_drop];omega
   obtain⟨k1,k2⟩:=zyy size n (stepX x) (t++ [rest.getD i 0]) (rest.take i++rest.drop (i+1)) (by rw[List.length_append,List.length_singleton];omega)
   refine⟨k1.trans ?_,k2.trans ?_⟩
   ·rw[e,List.append_assoc,List.singleton_append]
    refine List.Perm.append_left _ ?_
    conv=>rhs;rw[e2]
    exact List.perm_middle.symm
   ·conv=>rhs;rw[e2]
    exact List.Sublist.append (List.Sublist.refl _) (List.sublist_cons_self ..)
  ·exact⟨.refl _, .refl _⟩
abbrev ynf (size:Nat) (ids:List Int) (T:List (List Int)):Prop:=RoundOk size (fun _ _=>false) ids T
theorem ygj (t:List Int):zmb (fun _ _=>false) t=true:=(zma _ _).2 (List.pairwise_of_forall fun _ _=>rfl)
theorem yec {size:Int} (hs:1≤size) {ids:List Int}: ∀(n:Nat) (x:Int) (rest:List Int) (out:List (List Int)),rest.length<n→(rest.length:Int) % size=0→rest.Pairwise (· < ·)→(out.flatten++rest).Perm ids→(∀t∈out,∀a∈rest,t.headD 0<a) →
  out.Pairwise (fun a b=>a.headD 0<b.headD 0)→(∀t∈out,(t.length:Int)=size)→(∀t∈out,t.Pairwise (· < ·))→ids.Nodup→ynf size.toNat ids (znp size n x rest out).1
 | 0,_,_,_,h,_,_,_,_,_,_,_,_=>by omega
 | n+1,x,rest,out,h1,h2,h3,h4,h5,h6,h7,h8,h9=>by
  simp only[znp]
  split
  ·rename_i hle
   cases rest with
   | nil=>simp only[List.length_nil]at hle;omega
   | cons f fr =>
    have q:=zyy size size.toNat x [f] fr (by simp only[List.length_cons,List.length_nil]at hle ⊢;omega)
    have ql:=zwn size size.toNat x [f] fr (by simp;omega) (by simp;omega)
    simp only[List.headD_cons,List.drop_one,List.tail_cons]at q ql ⊢
    generalize tabG size size.toNat x [f] fr=g at q ql ⊢
    obtain⟨t,r2,x2⟩:=g
    dsimp only at q ql ⊢
    obtain⟨q1,q2⟩:=q
    obtain⟨a1,a2⟩:=List.pairwise_cons.1 h3
    have hnd:(t++r2).Nodup:=q1.nodup_iff.2 (h3.imp fun h=>by omega)
    obtain⟨s1,s2⟩:=yaw t [] .nil
    rw[List.append_nil]at s2
    have hrl:(zft t).length=t.length:=s2.length_eq
    have hrp:(zft t).Perm t:=s2
    have hra:(zft t).Pairwise (· < ·):=by
     have n1:(zft t).Nodup:=hrp.nodup_iff.2 (List.nodup_append.1 hnd).1
     exact(List.pairwise_and_iff.2 ⟨s1,n1⟩).imp fun{a b} h=>by omega
    have hmem: ∀a∈zft t,a=f∨f<a:=fun a ha=>by
     have:a∈f::fr:=(q1.mem_iff.1 (List.mem_append_left _ (hrp.mem_iff.1 ha)))
     rcases List.mem_cons.1 this with e|e
     ·exact .inl e
     ·exact .inr (a1 a e)
    have hf:f∈zft t:=by
     have:f∈t++r2:=q1.mem_iff.2 (List.mem_cons_self ..)
     rcases List.mem_append.1 this with e|e
     ·exact hrp.mem_iff.2 e
     ·have:=a1 f (q2.subset e);omega
    have hhead:(zft t).headD 0=f:=by
     generalize zft t=R at *
     cases R with
     | nil=>cases hf
     | cons a r =>
      rw[List.headD_cons]
      rcases hmem a (List.mem_cons_self ..)with e|e
      ·exact e
      ·rcases List.mem_cons.1 hf with e2|e2
       ·exact e2.symm
       ·have:=(List.pairwise_cons.1 hra).1 f e2;omega
    have hlen:(t++r2).length=(f::fr).length:=q1.length_eq
    rw[List.length_append,List.length_cons]at hlen
    refine yec hs n x2 r2 (out++ [zft t]) ?_ ?_ (List.Pairwise.sublist q2 a2) ?_ ?_ ?_ ?_ ?_ h9
    ·simp only[List.length_cons]at h1;omega
    ·rw[List.length_cons]at h2
     have e3:((fr.length+1:Nat):Int)=size+r2.length:=by omega
     rw[e3,Int.add_emod_left]at h2
     exact h2
    ·refine List.Perm.trans ?_ h4
     rw[List.flatten_append,List.flatten_singleton,List.append_assoc]
     exact List.Perm.append_left _ ((List.Perm.append_right _ hrp).trans q1)
    ·intro t' ht' a ha
     rcases List.mem_append.1 ht' with ht'|ht'
     ·exact h5 t' ht' a (List.mem_cons_of_mem _ (q2.subset ha))
     ·obtain rfl:=List.mem_singleton.1 ht'
      rw[hhead];exact a1 a (q2.subset ha)
    ·refine List.pairwise_append.2 ⟨h6,List.pairwise_singleton ..,fun a ha b hb=>?_⟩
     obtain rfl:=List.mem_singleton.1 hb
     rw[hhead];exact h5 a ha f (List.mem_cons_self ..)
    ·intro t' ht'
     rcases List.mem_append.1 ht' with ht'|ht'
     ·exact h7 t' ht'
     ·obtain rfl:=List.mem_singleton.1 ht'
      rw[hrl];exact ql
    ·intro t' ht'
     rcases List.mem_append.1 ht' with ht'|ht'
     ·exact h8 t' ht'
     ·obtain rfl:=List.mem_singleton.1 ht'
      exact hra
  ·rename_i hle
   have h0:rest= []:=by
    have h10:=Int.emod_eq_of_lt (a:=(rest.length:Int)) (b:=size) (by omega) (by omega)
    have:(rest.length:Int)=0:=by omega
    exact List.length_eq_zero_iff.1 (by omega)
   subst h0
   rw[List.append_nil]at h4
   exact⟨h4,h6,fun t ht=>by have:=h7 t ht;omega,h8,fun t _=>ygj t⟩
theorem zyx {size:Int} (hs:1≤size) {ids:List Int} (x:Int) (h1:(ids.length:Int) % size=0) (h2:ids.Pairwise (· < ·)):ynf size.toNat ids (zes size x ids).1 :=
 yec hs _ x ids [] (Nat.lt_succ_self _) h1 h2 (.refl _) (fun t ht=>by cases ht) .nil (fun t ht=>by cases ht) (fun t ht=>by cases ht) (h2.imp fun h=>by omega)
theorem zzn {c:Club} (hz:1≤c.size) (hm:c.members.Pairwise fun a b=>a.id<b.id) (x:Int):ynf c.size.toNat (zdt c x).1 (zbb c x).1:=by
 have ha:(zdt c x).1.Pairwise (· < ·):=by
  refine List.Pairwise.sublist (zga c.size x _) ?_
  unfold zcv
  split
  ·exact .nil
  split
  ·exact .nil
  exact znw hm _
 have hd:((zdt c x).1.length:Int) % c.size=0:=zsf hz _ x _ (Nat.lt_succ_self _)
 have h1:=zyx hz (ids:=(zdt c x).1) (zdt c x).2 hd ha
 unfold zbb
 split
 ·dsimp only
  split
  ·rename_i h2
   have h3:=(zsb hz ha h2.2).2
   exact⟨h3.perm,h3.heads,h3.len,h3.asc,fun t _=>ygj t⟩
  ·exact h1
 ·exact h1
theorem zlq (c:Club) (x:Int):(zdt c x).1.Sublist (zcv c c.rounds.length):=zga c.size x _
theorem ygk (start:Int): ∀(n:Nat) (x:Int) (out:List Int),(∀a∈out,start-30≤a∧a≤start+30)→(∀a∈(zmc start n x out).1,start-30≤a∧a≤start+30)∧(zmc start n x out).1.length=out.length+n
 | 0,x,out,h=>⟨h,rfl⟩
 | n+1,x,out,h=>by
  have hb:=zby x 7
  obtain⟨h1,h2⟩:=ygk start n (stepX x) (out++ [start+(zao x 7-3)*10]) fun a ha=>by
   rcases List.mem_append.1 ha with ha|ha
   ·exact h a ha
   ·obtain rfl:=List.mem_singleton.1 ha
    omega
  exact⟨h1,by rw[zmc,h2,List.length_append,List.length_singleton];omega⟩
theorem zmn {most:Int}: ∀{l:List Int} {want:Int},(∀a∈l,-most≤a∧a≤most)→l.sum=want→zek most l want=0
 | [],want,_,h=>by rw[zek,if_pos (by simpa using h.symm)]
 | a::l,want,h1,h=>by
  rw[zek,if_pos (h1 a (List.mem_cons_self ..))]
  exact zmn (fun b hb=>h1 b (List.mem_cons_of_mem _ hb)) (by rw[List.sum_cons]at h;omega)
theorem ztb {c:Club} (hz:3≤c.size∧c.size≤4) (hst:0≤c.start∧c.start≤1000000) (x:Int):zfq c (zfw c.size c.start x).1=0:=by
 obtain⟨h1,h2⟩:=ygk c.start (c.size.toNat-1) x [] (fun a ha=>by cases ha)
 have h3:=zpb c.size c.start x (by omega)
 rw[zfq,zha,if_pos h3]
 have h4:=yre (L:=c.start-30) (U:=c.start+30) (zmc c.start (c.size.toNat-1) x []).1 h1
 have h5:(zmc c.start (c.size.toNat-1) x []).1.length=2∨(zmc c.start (c.size.toNat-1) x []).1.length=3:=by rw[h2,List.length_nil];omega
 refine zmn (fun a ha=>?_) ?_
 ·rw[zfw]at ha
  rcases List.mem_cons.1 ha with rfl|ha
  ·have h6:c.size=3∨c.size=4:=by omega
   rcases h5 with h5|h5 <;> rw[h5]at h4 <;> rcases h6 with h6|h6 <;> rw[h6]at h4 ⊢ <;> omega
  ·have:=h1 a ha;omega
 ·rw[zfw,List.sum_cons];omega
theorem ycq {c:Club} (hz:3≤c.size∧c.size≤4) (hst:0≤c.start∧c.start≤1000000): ∀(n:Nat) (x:Int) (out:List (List Int)),zdm c out=0→zdm c (ptsG c.size c.start n x out).1=0
 | 0,x,out,h=>h
 | n+1,x,out,h=>by
  have key: ∀(p:List Int),p.length=0∨zfq c p=0→ ∀out,zdm c out=0→zdm c (out++ [p])=0:=fun p hp out=>by
   induction out with
   | nil =>
    intro _
    rw[List.nil_append,zdm,zdm]
    rcases hp with hp|hp
    ·rw[if_pos hp]
    ·rw[hp];split <;> rfl
   | cons a r ih =>
    intro h
    rw[List.cons_append,zdm]
    rw[zdm]at h
    split
    ·rename_i h1;rw[if_pos h1]at h;exact ih h
    ·rename_i h1
     rw[if_neg h1]at h
     split at h
     ·contradiction
     ·rename_i h2;rw[if_neg h2];exact ih h
  rw[ptsG]
  split
  ·exact ycq hz hst n _ _ (key _ (.inr (ztb hz hst _)) _ h)
  ·exact ycq hz hst n _ _ (key _ (.inl rfl) _ h)
theorem zoi {c:Club} {k:Int} (x:Ruling) (h1:max 0 (k-c.window)≤x.round∧x.round≤k) (h2:zeu c x.round x.table=true) (h3:zfq c x.points=0): ∀R,zcw c k R=0→zcw c k (R++ [x])=0
 | [],_=>by rw[List.nil_append,zcw,zcw,if_neg (fun h=>h h1),h2,if_neg (by decide),h3];rfl
 | a::r,h=>by
  rw[List.cons_append,zcw]
  rw[zcw]at h
  split
  ·rename_i h4;rw[if_pos h4]at h;exact h
  rename_i h4
  rw[if_neg h4]at h
  split
  ·rename_i h5;rw[if_pos h5]at h;exact h
  rename_i h5
  rw[if_neg h5]at h
  split
  ·rename_i h6;rw[if_pos h6]at h;exact h
  rename_i h6
  rw[if_neg h6]at h
  exact zoi x h1 h2 h3 r h
theorem zwx {c:Club} (hz:3≤c.size∧c.size≤4) (hst:0≤c.start∧c.start≤1000000) {k round:Int} (h1:max 0 (k-c.window)≤round∧round≤k): ∀(l:List (List Int)) (t:Nat) (x:Int) (R:List Ruling),
  (∀(j:Nat),j<l.length→0<(l.getD j []).length→zeu c round ((t+j:Nat):Int)=true)→zcw c k R=0→zcw c k (rulG c.size c.start round l t x R).1=0
 | [],t,x,R,h2,h=>h
 | p::l,t,x,R,h2,h=>by
  have h3: ∀(j:Nat),j<l.length→0<(l.getD j []).length→zeu c round ((t+1+j:Nat):Int)=true:=fun j hj hp=>by
   have:=h2 (j+1) (by simpa using hj) (by simpa using hp)
   rw[show t+1+j=t+(j+1) by omega];exact this
  have e:((t:Nat):Int)+1=((t+1:Nat):Int):=by omega
  rw[rulG,e]
  split
  ·rename_i h4
   have h5:=h2 0 (by simp) (by simpa using h4)
   split
   ·exact zwx hz hst h1 l (t+1) _ _ h3 (zoi _ h1 h5 (ztb hz hst _) R h)
   ·exact zwx hz hst h1 l (t+1) _ _ h3 h
  ·exact zwx hz hst h1 l (t+1) _ _ h3 h
theorem yjw {c:Club} (hz:3≤c.size∧c.size≤4) (hst:0≤c.start∧c.start≤1000000) (hw:0≤c.window) {n:Nat} {ps:List (List (List Int))} (hn:ps.length=n+1) (hps: ∀i:Nat,i<n+1→(c.round i).points=ps.getD i []) (hcl:c.rounds.length=n+1) :
  ∀(k:Nat) (x:Int) (R:List Ruling),zcw c n R=0→zcw c n (rulK c.size c.start c.window ps k x R).1=0
 | 0,x,R,h=>h
 | k+1,x,R,h=>by
  rw[rulK]
  have hb:=zby x (c.window+1)
  have ha:max 0 ((n:Int)-c.window)≤zkf c.window x ps.length∧zkf c.window x ps.length≤n:=by
   rw[zkf,hn];omega
  obtain⟨i,hi⟩: ∃i:Nat,zkf c.window x ps.length=i:=⟨(zkf c.window x ps.length).toNat,by omega⟩
  refine yjw hz hst hw hn hps hcl k _ _ ?_
  rw[hi]at ha ⊢
  refine zwx hz hst ha _ 0 _ _ (fun j hj hp=>?_) h
  rw[Int.toNat_natCast]at hj hp
  have e:=hps i (by omega)
  rw[zeu,e,decide_eq_true_eq]
  refine⟨by omega,⟨by omega,by omega⟩,?_⟩
  rw[Nat.zero_add,Int.toNat_natCast];exact hp
theorem znm : ∀(k:Nat) (id x:Int) (out:List Member) (last:Int),(∀m∈out,-10000≤m.hand∧m.hand≤10000∧0≤m.from_∧m.from_≤20∧(m.to = -1∨m.from_≤m.to∧m.to≤20))→out.Pairwise (fun a b=>a.id<b.id)→(∀m∈out,last<m.id∧m.id≤id)→last≤id→zdr (zdf k id x out).1 last=0
 | 0,id,x,out,last,h1,h2,h3,_=>by
  show zdr out last=0
  induction out generalizing last with
  | nil=>rfl
  | cons m r ih =>
   obtain⟨a1,a2⟩:=List.pairwise_cons.1 h2
   have b1:=h1 m (List.mem_cons_self ..)
   have b2:=h3 m (List.mem_cons_self ..)
   rw[zdr,if_neg (by omega),if_neg (by omega),if_neg (by omega)]
   have ih2:=ih m.id (fun y hy=>h1 y (List.mem_cons_of_mem _ hy)) a2 (fun y hy=>⟨a1 y hy,(h3 y (List.mem_cons_of_mem _ hy)).2⟩) (by omega)
   split
   ·exact ih2
   ·rw[if_pos (by omega)];exact ih2
 | k+1,id,x,out,last,h1,h2,h3,h4=>by
  rw[zdf]
  have hb:=zby x (3-1+1)
  have hr:1≤zcz x 1 3:=by unfold zcz;omega
  refine znm k _ _ _ last (fun m hm=>?_) ?_ (fun m hm=>?_) (by omega)
  ·rcases List.mem_append.1 hm with hm|hm
   ·exact h1 m hm
   ·obtain rfl:=List.mem_singleton.1 hm
    have c1:=zby (stepX (stepX x)) 21
    have c2:=zby (stepX (zja (stepX x)).2) 3
    have c3:=zby (stepX (stepX (zja (stepX x)).2)) 2
    have d1 : -10000≤(zja (stepX x)).1∧(zja (stepX x)).1≤10000:=by unfold zja;split <;> (dsimp only;omega)
    have d2:0≤(zlp (zja (stepX x)).2).1.1∧(zlp (zja (stepX x)).2).1.1≤20∧((zlp (zja (stepX x)).2).1.2 = -1∨(zlp (zja (stepX x)).2).1.1≤(zlp (zja (stepX x)).2).1.2∧(zlp (zja (stepX x)).2).1.2≤20):=by
     generalize (zja (stepX x)).2=y at *
     unfold zlp;split <;> (dsimp only;omega)
    exact⟨d1.1,d1.2,d2⟩
  ·refine List.pairwise_append.2 ⟨h2,List.pairwise_singleton ..,fun a ha b hb=>?_⟩
   obtain rfl:=List.mem_singleton.1 hb
   have:=(h3 a ha).2
   dsimp only;omega
  ·rcases List.mem_append.1 hm with hm|hm
   ·have:=h3 m hm;omega
   ·obtain rfl:=List.mem_singleton.1 hm
    dsimp only;omega
theorem yqg (x:Int):zde (zio x)=0∧(3≤(zio x).size∧(zio x).size≤4)∧(0≤(zio x).start∧(zio x).start≤1000000)∧0≤(zio x).window∧(zio x).members.length≤13:=by
 have b1:=zby x 4
 have b2:=zby (stepX x) 5
 have b3:=zby (stepX (stepX x)) 3
 have hz:3≤(zio x).size∧(zio x).size≤4:=by have:=yek x;show 3≤zgi x∧zgi x≤4;omega
 have hst:0≤(zio x).start∧(zio x).start≤1000000:=by show 0≤zao x 4*100∧zao x 4*100≤1000000;omega
 have hab : -1000000≤(zio x).absent∧(zio x).absent≤1000000:=by show -1000000≤zao (stepX x) 5*10-30∧zao (stepX x) 5*10-30≤1000000;omega
 have hw:0≤(zio x).window∧(zio x).window≤20:=by show 0≤zao (stepX (stepX x)) 3∧zao (stepX (stepX x)) 3≤20;omega
 have hpl:zha (zio x).size (zio x).places 1000000 0=0:=by
  show zha (zgi x) (zdo x).1 1000000 0=0
  rw[zha,if_pos (zrw x)]
  rcases yhz x with⟨-,a,b,c,e,h0,h1,h2,h3⟩|⟨-,a,b,c,d,e,h0,h1,h2,h3,h4⟩
  ·rw[e]
   exact zmn (fun y hy=>by simp only[List.mem_cons,List.not_mem_nil,or_false]at hy;omega) (by simp only[List.sum_cons,List.sum_nil];omega)
  ·rw[e]
   exact zmn (fun y hy=>by simp only[List.mem_cons,List.not_mem_nil,or_false]at hy;omega) (by simp only[List.sum_cons,List.sum_nil];omega)
 have hr:zfl (zio x)=0:=by
  rw[zfl,if_neg (by omega),if_neg (by omega),if_neg (by omega),if_neg (by omega),hpl]
 have hm:=znm (zgi x*zcz (zdo x).2 1 3+zao (stepX (zdo x).2) 2).toNat 0 (stepX (stepX (zdo x).2)) [] 0 (fun m hm=>by cases hm) .nil (fun m hm=>by cases hm) (Int.le_refl _)
 have hml:(zio x).members.length≤13:=by
  have h1:=zqq x
  have h2:=zby (zdo x).2 (3-1+1)
  have h3:=zby (stepX (zdo x).2) 2
  have h4:1≤zcz (zdo x).2 1 3∧zcz (zdo x).2 1 3≤3:=by unfold zcz;omega
  have h5:0≤zgi x*zcz (zdo x).2 1 3∧zgi x*zcz (zdo x).2 1 3≤12:=by
   rcases h1 with h|h <;> rw[h] <;> omega
  have h6:=ziv (zgi x*zcz (zdo x).2 1 3+zao (stepX (zdo x).2) 2).toNat 0 (stepX (stepX (zdo x).2)) [] ⟨Int.le_refl _,fun m hm=>by cases hm⟩
  show(zfp x).1.length≤13
  rw[zfp,h6.1];simp only[List.length_nil];omega
 have hmem:zel (zio x).members=0:=by
  rw[zel,if_neg (by omega)];exact hm
 refine⟨?_,hz,hst,hw.1,hml⟩
 rw[zde,hr,if_neg (by decide),hmem,if_neg (by decide),show(zio x).rounds= []from rfl]
 rfl
theorem yri {c:Club} (hc:zde c=0):(c.members.Pairwise fun a b=>a.id<b.id)∧ ∀m∈c.members,0<m.id:=by
 obtain⟨-,k2,-⟩:=zfe hc
 exact⟨ymw k2,(zya k2).pos⟩
theorem yjy {c:Club} {R:List Sitting} (hc:zde (zcy c R)=0) (hz:3≤c.size∧c.size≤4) (hst:0≤c.start∧c.start≤1000000) (hw:0≤c.window) (hm:c.members.length≤13) (hR:R.length≤10) (hR4: ∀s∈R,s.points.length≤4) (x:Int) :
  zde (zcy c (R++ [⟨(zbb (zcy c R) x).1,(zcu (zcy c R) x).1,(zid c x R).1⟩]))=0∧(zcu (zcy c R) x).1.length≤4:=by
 obtain⟨ha,hp⟩:=yri hc
 have h1:=zzn (c:=zcy c R) (by show 1≤c.size;omega) ha x
 have h2:=(zlq (zcy c R) x).subset
 have e:zcv (zcy c R) (zcy c R).rounds.length=zdn (zcy c R) (zcy c R).rounds.length:=by
  rw[zcv,if_neg (by omega),if_neg (by omega)]
 rw[e]at h2
 have hids:(zdt (zcy c R) x).1.Pairwise (· < ·):=by
  have:=(zlq (zcy c R) x)
  rw[e]at this
  exact List.Pairwise.sublist this (znw ha _)
 have h3:=h1.count
 have h4:(zdt (zcy c R) x).1.length≤13:=by
  have k1:=(zlq (zcy c R) x).length_le
  rw[e,zdn,List.length_map]at k1
  have k2:=List.length_filter_le (fun m:Member=>m.plays (zcy c R).rounds.length) (zcy c R).members
  have k3:(zcy c R).members.length≤13:=hm
  omega
 have h5:(zbb (zcy c R) x).1.length≤4:=by
  have k1:3≤(zcy c R).size.toNat:=by show 3≤c.size.toNat;omega
  have k2:=Nat.mul_le_mul_left (zbb (zcy c R) x).1.length k1
  omega
 have hpl:=(zoo c.size c.start (by omega) (zbb (zcy c R) x).1.length (zbb (zcy c R) x).2 [] (fun p hp=>by cases hp)).2
 rw[List.length_nil,Nat.zero_add]at hpl
 have hpl':(zcu (zcy c R) x).1.length=(zbb (zcy c R) x).1.length:=hpl
 have e2:zcy c (R++ [⟨(zbb (zcy c R) x).1,(zcu (zcy c R) x).1,(zid c x R).1⟩])=(zcy c R).add ⟨(zbb (zcy c R) x).1,(zcu (zcy c R) x).1,(zid c x R).1⟩:=rfl
 rw[e2]
 have mem: ∀t∈(zbb (zcy c R) x).1,∀y∈t,y∈zdn (zcy c R) (zcy c R).rounds.length:=fun t ht y hy=>h2 (h1.perm.mem_iff.1 (List.mem_flatten.2 ⟨t,ht,hy⟩))
 refine⟨yit hc (by show R.length<20;omega) ?_ hpl' (ycq (c:=zcy c R) hz hst _ _ [] rfl) ?_ ?_,by rw[hpl'];exact h5⟩
 ·refine zri (fun t ht=>?_) (fun t ht=>zov ha _ (mem t ht) (h1.asc t ht) fun p hp=>by cases hp) ?_ (fun t ht=>?_) h1.heads
  ·have:=h1.len t ht
   have k:(zcy c R).size=c.size:=rfl
   rw[k]at this ⊢;omega
  ·rw[List.nil_append];exact h1.perm.nodup_iff.2 (hids.imp fun h=>by omega)
  ·have h6:=h1.len t ht
   have k:(zcy c R).size=c.size:=rfl
   rw[k]at h6
   cases t with
   | nil=>simp at h6;omega
   | cons y r =>
    obtain⟨m,hm1,hm2⟩:=List.mem_map.1 (mem _ ht y (List.mem_cons_self ..))
    have:=hp m (List.mem_filter.1 hm1).1
    simp only[List.headD_cons];omega
 ·have h6:=(zww c.size c.start c.window (by omega) (R.map Sitting.points++ [(zcu (zcy c R) x).1]) 4 (ycy (fun p hp=>by
   rcases List.mem_append.1 hp with hp|hp
   ·obtain⟨s,hs,rfl⟩:=List.mem_map.1 hp
    exact hR4 s hs
   ·obtain rfl:=List.mem_singleton.1 hp
    rw[hpl'];exact h5)) (zao (zcu (zcy c R) x).2 3).toNat (stepX (zcu (zcy c R) x).2) [] (fun r hr=>by cases hr)).2
  have h7:=zby (zcu (zcy c R) x).2 3
  rw[List.length_nil,Nat.zero_add]at h6
  refine Nat.le_trans h6 ?_
  have h8:(zao (zcu (zcy c R) x).2 3).toNat≤2:=by omega
  have:=Nat.mul_le_mul_right 4 h8
  omega
 ·refine yjw (c:=(zcy c R).add ⟨(zbb (zcy c R) x).1,(zcu (zcy c R) x).1,(zid c x R).1⟩) hz hst hw (n:=R.length) (ps:=R.map Sitting.points++ [(zcu (zcy c R) x).1]) (by simp) (fun i hi=>?_) (by rw[zyg];rfl) _ _ [] rfl
  by_cases h7:i<R.length
  ·rw[zro _ _ (by omega) (by show((i:Nat):Int)<(R.length:Int);omega),Club.round_at _ (show i<(zcy c R).rounds.length from h7),List.getD_eq_getElem?_getD,List.getElem?_append_left (by simpa using h7),List.getElem?_map,List.getElem?_eq_getElem h7]
   rfl
  ·obtain rfl:i=R.length:=by omega
   have k:=zvd (zcy c R) ⟨(zbb (zcy c R) x).1,(zcu (zcy c R) x).1,(zid c x R).1⟩
   rw[show((zcy c R).rounds.length:Int)=(R.length:Int)from rfl]at k
   rw[k]
   simp
theorem zvc {c:Club} (hz:3≤c.size∧c.size≤4) (hst:0≤c.start∧c.start≤1000000) (hw:0≤c.window) (hm:c.members.length≤13): ∀(k:Nat) (x:Int) (R:List Sitting),R.length+k≤10→(∀s∈R,s.points.length≤4)→zde (zcy c R)=0 →
  zde (zcy c (zfb c k x R).1)=0∧ ∀s∈(zfb c k x R).1,s.points.length≤4
 | 0,x,R,h1,h2,h3=>⟨h3,h2⟩
 | k+1,x,R,h1,h2,h3=>by
  rw[zfb]
  obtain⟨h4,h5⟩:=yjy h3 hz hst hw hm (by omega) h2 x
  exact zvc hz hst hw hm k _ _ (by rw[List.length_append,List.length_singleton];omega) (fun s hs=>by
   rcases List.mem_append.1 hs with hs|hs
   ·exact h2 s hs
   ·obtain rfl:=List.mem_singleton.1 hs
    exact h5) h4
theorem ymq (x:Int):zde (zev x 3).1=0∧ ∀s∈(zev x 3).1.rounds,s.points.length≤4:=by
 obtain⟨h1,h2,h3,h4,h5⟩:=yqg x
 have hb:=zby (zfp x).2 (3+1)
 exact zvc h2 h3 h4 h5 (zao (zfp x).2 (3+1)).toNat _ [] (by rw[List.length_nil];omega) (fun s hs=>by cases hs) h1
end Go.XL
namespace Go.XL
set_option maxHeartbeats 4000000
set_option maxRecDepth 100000
theorem ydu (n:Int):IntKind.i64.wrap n=(n+9223372036854775808) % 18446744073709551616-9223372036854775808:=by
 have h1:(2:Int) ^ 64=18446744073709551616:=by decide
 have h2:(2:Int) ^ (64-1)=9223372036854775808:=by decide
 simp only[IntKind.wrap,IntKind.bits,IntKind.signed,Bool.true_and,decide_eq_true_eq,h1,h2]
 split <;> omega
def cT (c:Club) (i:Nat) (m:Member):List (List Int)→Nat→Int×Int
 | [],_=>(if m.plays i=true then c.absent else 0,0)
 | t::T,k=>if idxI t m.id<0 then cT c i m T (k+1)else if zeu c i k=false then(0,0)else((zke (zeh c i k) c.places c.start c.share).getD (idxI t m.id).toNat 0+m.hand,1)
end Go.XL
namespace Go.XL
set_option maxHeartbeats 4000000
set_option maxRecDepth 100000
theorem zrx {β:Type} (f:Rank→β) (hf: ∀(r:Rank) (x:Int),f {r with place:=x}=f r): ∀(l:List Rank) (p:Rank) (i:Nat),(zhc p i l).map f=l.map f
 | [],_,_=>rfl
 | r::l,p,i=>by rw[zhc,List.map_cons,List.map_cons,hf,zrx f hf l]
theorem yhk {β:Type} (c:Club) (f:Rank→β) (hf: ∀(r:Rank) (x:Int),f {r with place:=x}=f r):((zkh c).map f).Perm (c.members.map fun m=>f (zjs c m)):=by
 rw[zkh,zrx f hf]
 have:=(zmp (c.members.map (zjs c))).map f
 rwa [List.map_map]at this
end Go.XL
namespace Go.XL
set_option maxHeartbeats 4000000
set_option maxRecDepth 100000
def rnI (x:Int):Int:=3*x+5
theorem rnI_eq {a b:Int}:rnI a=rnI b↔a=b:=by unfold rnI;omega
theorem rnI_le {a b:Int}:rnI a≤rnI b↔a≤b:=by unfold rnI;omega
theorem yua {a b:Int}:rnI a<rnI b↔a<b:=by unfold rnI;omega
def Member.rn (m:Member):Member:={m with id:=rnI m.id}
def Sitting.rn (s:Sitting):Sitting:={s with tables:=s.tables.map (·.map rnI)}
def Club.rn (c:Club):Club:={c with members:=c.members.map Member.rn,rounds:=c.rounds.map Sitting.rn}
def Rank.rn (r:Rank):Rank:={r with id:=rnI r.id}
theorem zxk {x:Int} {t:List Int}:rnI x∈t.map rnI↔x∈t :=
 ⟨fun h=>by obtain⟨y,hy,e⟩:=List.mem_map.1 h;rwa [←rnI_eq.1 e],List.mem_map_of_mem⟩
theorem zxv {α β:Type} (f:α→β) (p:β→Bool): ∀(l:List α) (n:Nat),idxF p (l.map f) n=idxF (fun x=>p (f x)) l n
 | [],_=>rfl
 | a::l,n=>by rw[List.map_cons,idxF,idxF,zxv f p l]
theorem ysr (c:Club) (id:Int):zgy c.rn (rnI id)=zgy c id:=by
 rw[zgy,zgy,Club.rn,zxv]
 congr 1
 funext m
 show decide (rnI m.id=rnI id)=_
 simp only[rnI_eq]
theorem yuf (c:Club) (i round:Int):(c.rn.mem i).plays round=(c.mem i).plays round:=by
 rw[Club.mem,Club.mem,Club.rn]
 dsimp only
 rw[List.getD_eq_getElem?_getD,List.getD_eq_getElem?_getD,List.getElem?_map]
 cases c.members[i.toNat]? <;> rfl
theorem zxw (c:Club) (round:Int): ∀(l:List Int) (pre:Option Int),zdy c.rn round (l.map rnI) (pre.map rnI)=zdy c round l pre
 | [],_=>rfl
 | id::l,pre=>by
  have h:=zxw c round l (some id)
  have e:zhg (pre.map rnI) (rnI id)=zhg pre id:=by
   cases pre with
   | none=>rfl
   | some p=>simp only[Option.map_some,zhg,rnI_le]
  rw[List.map_cons,zdy,zdy,ysr,yuf,e,←h]
  rfl
theorem yuo (t seated:List Int):(t.map rnI).any (fun id=>decide (id∈seated.map rnI))=t.any fun id=>decide (id∈seated):=by
 rw[List.any_map]
 congr 1
 funext x
 simp only[Function.comp_apply,zxk]
theorem zrh {c : Club} {round : Int} (hz : 1 ≤ c.size) : ∀ {T : List (List Int)} {s : List Int} {f f' : Int}, zdj c round T s f = 0 → f' ≤ rnI f → zdj c.rn round (T.map (·.map rnI)) (s.map rnI) f' = 0
  | [], _, _, _, _, _ => rfl
  | t :: T, s, f, f', h, hf => by
    rw [zdj] at h
    rw [List.map_cons, zdj, List.length_map, yuo, show zdy c.rn round (t.map rnI) none = zdy c round t none from zxw c round t none, show c.rn.size = c.size from rfl]
    split at h
    · cases h
    rename_i h1
    rw [if_neg h1]
    split at h
    · rename_i h2; exact absurd h h2
    rename_i h2
    rw [if_neg h2]
    split at h
    · cases h
    rename_i h3
    rw [if_neg h3]
    split at h
    · cases h
    rename_i h4
    have e : (t.map rnI).headD 0 = rnI (t.headD 0) := by
      cases t with
      | nil => simp at h1; omega
      | cons a r => rfl
    rw [e, if_neg (by have : ¬ rnI (t.headD 0) ≤ rnI f := fun h => h4 (rnI_le.1 h)
                      omega)]
    have := zrh hz (f' := rnI (t.headD 0)) h (Int.le_refl _)
    rwa [List.map_append] at this
theorem zqu (c:Club) (i:Int):c.rn.round i=(c.round i).rn:=by
 rw[Club.round,Club.round,Club.rn]
 dsimp only
 rw[List.getD_eq_getElem?_getD,List.getD_eq_getElem?_getD,List.getElem?_map]
 cases c.rounds[i.toNat]? <;> rfl
theorem zzq (c:Club) (i k:Int):zeu c.rn i k=zeu c i k:=by
 rw[zeu,zeu,zqu,show c.rn.rounds.length=c.rounds.length from List.length_map _]
 rfl
theorem zqb (c:Club) (k:Int): ∀l,zcw c.rn k l=zcw c k l
 | []=>rfl
 | x::r=>by
  rw[zcw,zcw,zqb c k r,zzq]
  rfl
theorem yoo (c:Club) (k:Int):zhb c.rn k=zhb c k:=by
 rw[zhb,zhb,zfo,zfo,zfd,zfd,zqb,zia (c:=c.rn) (d:=c) rfl rfl,zqu,show(c.round k).rn.tables.length=(c.round k).tables.length from List.length_map _]
 rfl
theorem zqe : ∀{l:List Member} {a b:Int},zdr l a=0→b≤rnI a→zdr (l.map Member.rn) b=0
 | [],_,_,_,_=>rfl
 | m::l,a,b,h,hb=>by
  rw[zdr]at h
  rw[List.map_cons,zdr]
  split at h
  ·cases h
  rename_i h1
  rw[if_neg (by show ¬rnI m.id≤b;have:=mt rnI_le.1 h1;omega)]
  rw[show m.rn.hand=m.hand from rfl,show m.rn.from_=m.from_ from rfl,show m.rn.to=m.to from rfl]
  have ih:=fun e=>zqe (l:=l) (a:=m.id) (b:=rnI m.id) e (Int.le_refl _)
  split at h
  ·cases h
  rename_i h2
  rw[if_neg h2]
  split at h
  ·cases h
  rename_i h3
  rw[if_neg h3]
  split at h
  ·rename_i h4;rw[if_pos h4];exact ih h
  rename_i h4
  rw[if_neg h4]
  split at h
  ·rename_i h5;rw[if_pos h5];exact ih h
  ·cases h
theorem ztt {c:Club} (hc:zde c=0):zde c.rn=0:=by
 have hr:zfl c.rn=zfl c:=rfl
 obtain⟨a1,a2,a3⟩:=zfe hc
 obtain⟨-,-,hz,-⟩:=zzs hc
 have hl:c.rn.rounds.length=c.rounds.length:=List.length_map _
 have a2':zel c.rn.members=0:=by
  rw[zel]at a2 ⊢
  rw[show c.rn.members.length=c.members.length from List.length_map _]
  split at a2
  ·cases a2
  rename_i h
  rw[if_neg h]
  exact zqe a2 (by decide)
 rw[zde,hr,if_neg (by rw[a1];decide),if_neg (by rw[a2'];decide),hl,if_neg (by omega)]
 refine(zgv c.rn _ 0).2 fun k _ hk=>?_
 obtain⟨b1,b2⟩:=zkw hc (i:=k) (by omega)
 refine⟨?_,by rw[yoo];exact b2⟩
 rw[zey]at b1 ⊢
 rw[zqu]
 exact zrh (s:= []) (by omega) b1 (by decide)
theorem yhv (c:Club) (r:Int):zdn c.rn r=(zdn c r).map rnI:=by
 rw[zdn,zdn,Club.rn]
 dsimp only
 rw[List.filter_map,List.map_map,List.map_map]
 rfl
theorem ykq (a b:Int): ∀T:List (List Int),metT (rnI a) (rnI b) (T.map (·.map rnI))=metT a b T
 | []=>rfl
 | t::T=>by rw[List.map_cons,metT,metT,ykq a b T];simp only[zxk,ne_eq,rnI_eq]
theorem yfd (a b:Int): ∀R:List Sitting,znh (rnI a) (rnI b) (R.map Sitting.rn)=znh a b R
 | []=>rfl
 | s::R=>by rw[List.map_cons,znh,znh,yfd a b R,←ykq a b s.tables];rfl
def ynm (m' m:Int→Int→Bool):Prop:= ∀a b,m' (rnI a) (rnI b)=m a b
theorem ysc (c:Club):ynm (met0 c.rn) (met0 c):=fun a b=>by
 rw[met0,met0,metS,metS];exact congrArg (fun n=>decide (0<n)) (yfd a b c.rounds)
theorem ysd {m' m:Int→Int→Bool} (h:ynm m' m) (t:List Int):ynm (ziw m' (t.map rnI)) (ziw m t):=fun a b=>by
 simp only[ziw,zxk,ne_eq,rnI_eq,h a b]
theorem ycj {m' m:Int→Int→Bool} (h:ynm m' m) (t:List Int) (id:Int):zbx m' (t.map rnI) (rnI id)=zbx m t id:=by
 rw[zbx,zbx,List.all_map]
 congr 1
 funext a
 simp only[Function.comp_apply,h a id]
theorem ybc {st' st:List Int→Int→Bool} (hs: ∀t id,st' (t.map rnI) (rnI id)=st t id) {f' f:List Int→List Int→List (List Int)} (hf: ∀t l,f' (t.map rnI) (l.map rnI)=(f t l).map (·.map rnI)) (t:List Int): ∀l:List Int,zfi st' f' (t.map rnI) (l.map rnI)=(zfi st f t l).map (·.map rnI)
 | []=>rfl
 | id::l=>by
  have:=hf (t++ [id]) l
  rw[List.map_append]at this
  rw[List.map_cons,zfi,zfi,ybc hs hf t l,hs,List.map_append]
  split
  ·rw[←this];rfl
  ·rfl
theorem yge {st' st:List Int→Int→Bool} (hs: ∀t id,st' (t.map rnI) (rnI id)=st t id): ∀(n:Nat) (t l:List Int),zgo st' n (t.map rnI) (l.map rnI)=(zgo st n t l).map (·.map rnI)
 | 0,t,l=>rfl
 | n+1,t,l=>ybc hs (yge hs n) t l
def yht (r:Int×Int×List (Nat×List Int)):Int×Int×List (Nat×List Int):=(r.1,r.2.1,r.2.2.map fun q=>(q.1,q.2.map rnI))
theorem yja {budget:Int} {round:Nat} {rec' rec:List Int→Int→Int×Int×List (Nat×List Int)} (h: ∀t s,rec' (t.map rnI) s=yht (rec t s)): ∀(l:List (List Int)) (s:Int),tryL budget round rec' (l.map (·.map rnI)) s=yht (tryL budget round rec l s)
 | [],s=>rfl
 | t::l,s=>by
  rw[List.map_cons,tryL,tryL,h]
  by_cases h1:s=budget
  ·rw[if_pos h1,if_pos h1];rfl
  rw[if_neg h1,if_neg h1,show(yht (rec t (w64 (s+1)))).1=(rec t (w64 (s+1))).1 from rfl]
  by_cases h2:(rec t (w64 (s+1))).1=2
  ·rw[if_pos h2,if_pos h2];exact yja h l _
  ·rw[if_neg h2,if_neg h2];rfl
theorem ymf (l t:List Int):(l.map rnI).filter (fun id=> !decide (id∈t.map rnI))=(l.filter fun id=> !decide (id∈t)).map rnI:=by
 rw[List.filter_map]
 congr 2
 funext x
 simp only[Function.comp_apply,zxk]
theorem ycn {size:Nat} {budget:Int} {rounds:List (List Int)}: ∀(n:Nat) {m' m:Int→Int→Bool} (round:Nat) (free:List Int) (s:Int),ynm m' m→srch size budget (rounds.map (·.map rnI)) n m' round (free.map rnI) s=yht (srch size budget rounds n m round free s)
 | 0,_,_,_,_,_,_=>rfl
 | n+1,m',m,round,[],s,h=>by
  rw[List.map_nil,srch,srch,List.length_map]
  split
  ·rfl
  ·have e:(rounds.map (·.map rnI)).getD (round+1) []=(rounds.getD (round+1) []).map rnI:=by
    rw[List.getD_eq_getElem?_getD,List.getD_eq_getElem?_getD,List.getElem?_map]
    cases rounds[round+1]? <;> rfl
   rw[e]
   exact ycn n (round+1) _ s h
 | n+1,m',m,round,f::fr,s,h=>by
  have e:=yge (fun t id=>ycj h t id) (size-1) [f] fr
  rw[List.map_cons,srch,srch,show [rnI f]= [f].map rnI from rfl,e]
  refine yja (fun t s=>?_) _ s
  have:=ymf (f::fr) t
  rw[List.map_cons]at this
  rw[this]
  exact ycn n round _ s (ysd h t)
theorem yjv (c:Club) (rounds:List (List Int)) (budget:Int):runS c.rn (rounds.map (·.map rnI)) budget=yht (runS c rounds budget):=by
 have e1:zim (rounds.map (·.map rnI))=zim rounds:=by
  rw[zim,zim,List.length_map,List.map_map]
  congr 3
  funext l
  exact List.length_map _
 have e2:(rounds.map (·.map rnI)).headD []=(rounds.headD []).map rnI:=by cases rounds <;> rfl
 rw[runS,runS,e1,e2]
 exact ycn _ 0 _ 0 (ysc c)
theorem yoz {c:Club} (hc:zde c=0) (ids:List Int):zge c.rn (ids.map rnI)=((zge c ids).1.map (·.map rnI),(zge c ids).2):=by
 have h1:=ztt hc
 have h2:=yjv c [ids] (-1)
 have h3:zdy c.rn c.rounds.length (ids.map rnI) none=zdy c c.rounds.length ids none:=zxw c _ ids none
 rw[List.map_singleton]at h2
 rw[zge,zge,h1,hc,List.length_map,show c.rn.rounds.length=c.rounds.length from List.length_map _,h3,h2,show c.rn.size=c.size from rfl]
 have e: ∀l:List (Nat×List Int),(l.map fun q=>(q.1,q.2.map rnI)).map Prod.snd=(l.map Prod.snd).map (·.map rnI):=fun l=>by rw[List.map_map,List.map_map];rfl
 simp only[yht,e]
 repeat' split
 all_goals first|rfl|contradiction
theorem yso (c:Club) (n:Nat):idsP c.rn n=(idsP c n).map (·.map rnI):=by
 rw[idsP,idsP,List.map_map,show c.rn.rounds.length=c.rounds.length from List.length_map _]
 congr 1
 funext i
 exact yhv c _
theorem yao (c:Club): ∀l:List (List Int),zgl c.rn (l.map (·.map rnI))=zgl c l
 | []=>rfl
 | a::l=>by rw[List.map_cons,zgl,zgl,yao c l,List.length_map];rfl
theorem yov {c:Club} (hc:zde c=0) (n b:Int):(zrv c.rn n b).2=(zrv c n b).2:=by
 have h1:=ztt hc
 rw[zrv,zrv,h1,hc,yso,yao,yjv,show c.rn.rounds.length=c.rounds.length from List.length_map _]
 repeat' split
 all_goals first|rfl|contradiction
theorem yiq (c:Club) (i k:Int):zeh c.rn i k=zeh c i k:=by
 have: ∀(R:List Sitting) (out:List Int),zkq i k (R.map Sitting.rn) out=zkq i k R out:=by
  intro R
  induction R with
  | nil=>intro out;rfl
  | cons s R ih=>intro out;rw[List.map_cons,zkq,zkq,ih];rfl
 rw[zeh,zeh,zqu]
 exact this c.rounds _
theorem ysm (t:List Int) (id:Int):idxI (t.map rnI) (rnI id)=idxI t id:=by
 rw[idxI,idxI,zxv]
 congr 1
 funext x
 simp only[rnI_eq]
theorem yet (c:Club) (m:Member) (i:Nat): ∀(T:List (List Int)) (k:Nat) (r:Rank),zky c.rn m.rn i (T.map (·.map rnI)) k r.rn=(zky c m i T k r).rn
 | [],_,_=>rfl
 | t::T,k,r=>by
  have ih:=yet c m i T (k+1) r
  rw[List.map_cons,zky,zky,ih,show m.rn.id=rnI m.id from rfl,ysm,zzq,yiq]
  repeat' split
  all_goals first|rfl|contradiction
theorem yev (c:Club) (m:Member): ∀(R:List Sitting) (i:Nat) (r:Rank),zon c.rn m.rn (R.map Sitting.rn) i r.rn=(zon c m R i r).rn
 | [],_,_=>rfl
 | s::R,i,r=>by
  rw[List.map_cons,zon,zon,←yev c m R,←yet]
  rfl
theorem yor (c:Club) (m:Member):zjs c.rn m.rn=(zjs c m).rn:=yev c m c.rounds 0 (yrx c m)
theorem ypi (a b:Rank):zdh a.rn b.rn=zdh a b:=by
 rw[zdh,zdh,show a.rn.id=rnI a.id from rfl,show b.rn.id=rnI b.id from rfl]
 simp only[yua]
 rfl
theorem ylh (x:Rank): ∀l:List Rank,insK x.rn (l.map Rank.rn)=(insK x l).map Rank.rn
 | []=>rfl
 | y::l=>by
  rw[List.map_cons,insK,insK,ypi,ylh x l]
  split <;> rfl
theorem yeh : ∀l:List Rank,zrl (l.map Rank.rn)=(zrl l).map Rank.rn
 | []=>rfl
 | x::l=>by rw[List.map_cons,zrl,zrl,yeh l,ylh]
theorem zzt : ∀(l:List Rank) (p q:Rank) (i:Nat),(i=0∨q=p.rn)→zhc q i (l.map Rank.rn)=(zhc p i l).map Rank.rn
 | [],_,_,_,_=>rfl
 | r::l,p,q,i,h=>by
  have e:(if 0<i∧cmpK q r.rn=0 then q.place else(i:Int))=if 0<i∧cmpK p r=0 then p.place else(i:Int):=by
   rcases h with h|h
   ·subst h;simp
   ·subst h;rfl
  rw[List.map_cons,zhc,zhc,List.map_cons,e]
  exact congrArg (List.cons _) (zzt l {r with place:=if 0<i∧cmpK p r=0 then p.place else(i:Int)} _ (i+1) (.inr rfl))
theorem yjk (c:Club):zkh c.rn=(zkh c).map Rank.rn:=by
 rw[zkh,zkh,Club.rn]
 dsimp only
 rw[List.map_map]
 have e:(zjs {c with members:=c.members.map Member.rn,rounds:=c.rounds.map Sitting.rn}∘Member.rn)=Rank.rn∘zjs c:=by
  funext m;exact yor c m
 rw[e,←List.map_map,yeh]
 exact zzt _ _ _ 0 (.inl rfl)
theorem yoe {c:Club} (h:c.Small):c.rn.Small:=by
 refine⟨h.places,by show(c.members.map _).length≤_;rw[List.length_map];exact h.members,by show(c.rounds.map _).length≤_;rw[List.length_map];exact h.rounds,fun s hs=>?_⟩
 obtain⟨s,hs',rfl⟩:=List.mem_map.1 (show s∈c.rounds.map Sitting.rn from hs)
 have q:=h.round s hs'
 refine⟨by show(s.tables.map _).length≤_;rw[List.length_map];exact q.tables,q.points,q.rulings,fun t ht=>?_,q.point,q.ruling⟩
 obtain⟨t,ht',rfl⟩:=List.mem_map.1 (show t∈s.tables.map _ from ht)
 rw[List.length_map];exact q.table t ht'
end Go.XL
namespace Go.XL
open Go.Proofs
set_option maxRecDepth 100000
set_option maxHeartbeats 8000000
theorem ycp {x:Int} (h:0≤x∧x≤1000):IntKind.i64.wrap (IntKind.i64.wrap (3*x)+5)=rnI x:=by
 unfold rnI;rw[ydu,ydu];omega
theorem ykk (l:List Int) (hl:l.length≤1000000) (hb: ∀x∈l,0≤x∧x≤1000):PC Tryz.prog 34 [ints l] (.own false 3 1 ((l.map rnI).map cI)):=by
 refine DC.of_run Tryz.func34 rfl Tryz.ntmps34 Tryz.results34 (by simp) (fun _=>?_);simp only[zaq,zat,go_sem,Nat.zero_add,Nat.reduceAdd]
 repeat' (first|(with_reducible first|(refine zdi (t:=2) yU yO yE ?_)|(refine zdi (t:=3) yU yO yE ?_)|refine zac yU yU yE ?_|refine zab ?_|refine DS.seq ?_|refine zaa ?_|refine DS.block ?_)|fail)
 refine zcl [0] yN (fun(y:Nat×List Int)=> [(3, .own false 3 1 (y.2.map cI)),(4,I y.1)]) (fun(y:Nat×List Int)=>y.1≤l.length∧y.2.length≤y.1∧l.map rnI=y.2++(l.drop y.1).map rnI) (fun(y:Nat×List Int)=>l.length-y.1) (0,[]) yS (by simp) (fun y B hI hB=>?_);try dsimp only at hI hB;simp only[zar,zav]
 obtain⟨i,L⟩:=y
 dsimp only at hI hB ⊢
 obtain⟨g1,g2,g3⟩:=hI
 have H:=Box.mk g3
 clear g3
 by_cases hi:(i:Int)<(l.length:Int)
 ·have hi':i<l.length:=by omega
  have hd:l.drop i=l[i]::l.drop (i+1):=List.drop_eq_getElem_cons hi'
  have hw:=ycp (hb _ (List.getElem_mem hi'))
  have HD:=Box.mk hd
  clear hd
  repeat' (first|(with_reducible refine zdx (t:=3) yU yO yE ?_;simp only[zam,zaf,zag,Nat.reduceEqDiff,↓reduceIte,zaj,zak,zap,zai,zah,zan,zal])|(with_reducible refine zdx (t:=11) yU yO yE ?_;simp only[zam,zaf,zag,Nat.reduceEqDiff,↓reduceIte,zaj,zak,zap,zai,zah,zan,zal])|(with_reducible first|refine zac yU yU yE ?_|refine zab ?_|refine DS.seq ?_|refine zaa ?_|(refine zbc yE ?_;refine zdb ?_)|refine DS.blk ?_|refine DS.block ?_|refine DS.skip ?_)|(refine zfa yU yE yE ?_;simp only[go_sem,Nat.zero_add,Nat.reduceAdd])|(refine DS.append (mm:=false) yU yE yE yU (by decide) yE (by first|exact .inl rfl|exact .inr ⟨rfl,rfl⟩) yE yX0 (by first|exact zas zdu _|exact zas zer _|exact zas Member.len _|exact zas Sitting.len _|exact zas Ruling.len _|(simp only[List.mem_cons,List.not_mem_nil,or_false,forall_eq];rfl)|simp) ⟨by(try simp only[List.length_map,List.length_cons,List.length_nil,List.length_append,List.length_take,List.length_drop]);omega,by decide⟩ ?_;simp only[zam,zaf,zag,Nat.reduceEqDiff,↓reduceIte,zaj,zak,zap,zai,zah,zan,zal])|fail)
  refine DS.back (hB (i+1,L++ [rnI (l[i]'(by omega))]) _ _ (by dsimp only;omega) ⟨by dsimp only;omega,by simp;omega,by dsimp only;rw[H.out,HD.out,List.map_cons,List.append_assoc];rfl⟩ yS yS (fun d o e=>by exact e))
 ·have h:=H.out
  rw[List.drop_eq_nil_of_le (by omega)]at h
  repeat' (first|(with_reducible refine zdx (t:=2) yU yO yE ?_;simp only[zam,zaf,zag,Nat.reduceEqDiff,↓reduceIte,zaj,zak,zap,zai,zah,zan,zal])|(with_reducible refine zdx (t:=20) yU yO yE ?_;simp only[zam,zaf,zag,Nat.reduceEqDiff,↓reduceIte,zaj,zak,zap,zai,zah,zan,zal])|(with_reducible first|refine zac yU yU yE ?_|refine zab ?_|refine DS.seq ?_|refine zaa ?_|(refine zbc yE ?_;refine zdd ?_)|refine DS.exit yU ?_)|refine zbf [] yE trivial ?_|fail)
  rw[h];simp[tupV]
theorem zxf (l:List Int) (hl:l.length≤1000000) (hb: ∀x∈l,0≤x∧x≤1000):PC Tryz.prog 34 [ints l] (ints (l.map rnI)):=(ykk l hl hb).peek
section
variable {P:Program} {n:Nat} {r:Rr} {Q:VEnv→Sto→Prop} {k:List Fr} {E:VEnv} {S:Sto}
theorem zyp {b i:Nat} {L:List V} {T:TypeId} {v u:V} (hS:zad S b=some (.cells L T)) (hi:L[i]?=some v) (hvu: ∀hv z,v.Rl hv z→u.Rl hv z) (hu:u.free=true) (q:DS P n r Q k E (setS b (.cells (L.set i u) T) S)):DS P n r Q k E S:=fun K W a w ⟨K',D,hv,hold,env,hbx,ha,s⟩ hw=>by
 refine q K W a w ⟨K',D,hv,hold,env,hbx,ha,⟨s.pre,s.slot,fun j o e=>?_,s.held,s.base,s.vbase⟩⟩ hw
 rw[zbe hS]at e
 split at e
 ·rename_i hj
  subst hj
  simp only[Option.some.injEq]at e;subst e
  obtain⟨o1,o2,cs,o3,o4,o5,o6⟩:=s.obj _ _ hS
  obtain⟨z,z1,z2⟩:=o4.get hi
  have hset:cs.set i z=cs:=by
   obtain⟨hlt,hget⟩:=List.getElem?_eq_some_iff.1 z1
   rw[←hget];exact List.set_getElem_self hlt
  refine⟨o1,o2,cs,o3,by rw[←hset];exact o4.set i (hvu _ _ z2),o5,fun i2 c x hc hx=>?_⟩
  rw[List.getElem?_set]at hc
  split at hc
  ·split at hc
   ·simp only[Option.some.injEq]at hc;subst hc;exact V.free_Own hu x
   ·cases hc
  ·exact o6 i2 c x hc hx
 ·exact s.obj j o e
theorem ytj {g:GR} {b i e sz:Nat} {T':TypeId} {L:List V} (S2:Sto) (hb:zad S b=some (.cells L T')) (hi:L[i]?=some g.cell) (hg:g.Ok e sz S) (hne:g.bk≠some b) (hb2:zad S2 b=some (.cells L T')) (hS: ∀d o,zad S2 d=some o→zad S d=some o∧g.bk≠some d)
  (q:DS P n r Q k E (setS b (.cells (L.set i (.lst (g.l.map (·.map V.copy)))) T') S2)):DS P n r Q k E S:=by
 obtain⟨l,blk⟩:=g
 cases blk with
 | none =>
  have h0:l= []:=hg
  subst h0
  refine zyp hb hi (u := .lst []) (fun hv z hz=>V.peek_Rl (v := .v (.slice none 0 0)) hz) rfl (zet (fun d o h=>?_) q)
  rw[zbe hb2]at h
  rw[zbe hb]
  split
  ·rename_i h1;rw[if_pos h1]at h;exact h
  ·rename_i h1;rw[if_neg h1]at h;exact(hS d o h).1
 | some x =>
  obtain⟨bk,cap,j⟩:=x
  have hg:GR.At e sz S l bk cap j:=hg
  have hbk:b≠bk:=fun h=>hne (by rw[h];rfl)
  refine zgd (b:=bk) (b':=b) (i:=i) (len:=l.length) (cap:=cap) (sz:=sz) hbk hb hi hg.look (by rw[List.length_append,zfh hg.ll];omega) ⟨hg.le,hg.cap⟩ ?_
  have hch:chunk sz l.length ((l.flatten++j).map V.copy)=l.map (·.map V.copy):=by
   rw[List.map_append,zgn]
   have:=zhf (sz:=sz) (j:=j.map V.copy) (l:=l.map (·.map V.copy)) (fun y hy=>by obtain⟨z,hz,rfl⟩:=List.mem_map.1 hy;rw[List.length_map];exact hg.ll z hz)
   rwa [List.length_map]at this
  rw[hch]
  have hb3:zad (delS bk S) b=some (.cells L T'):=by rw[zcx,if_neg hbk];exact hb
  refine zet (fun d o h=>?_) q
  rw[zbe hb2]at h
  rw[zbe hb3]
  split
  ·rename_i h1;rw[if_pos h1]at h;exact h
  ·rename_i h1
   rw[if_neg h1]at h
   obtain⟨h2,h3⟩:=hS d o h
   rw[zcx,if_neg (fun h=>h3 (by rw[h];rfl))];exact h2
end
def famU (e e':Nat) (G:Gf):Nat→Nat→Sto
 | _,0=> []
 | i,m+1=>SR e (G i).1++(SR e' (G i).2++famU e e' G (i+1) m)
theorem zue {e:Nat} {g:GR} {d:Nat} {o:Ob} (h:zad (SR e g) d=some o):g.bk=some d∧ ∃l,o = .cells l e:=by
 obtain⟨l,blk⟩:=g
 cases blk with
 | none=>cases h
 | some x =>
  obtain⟨b1,cap,j⟩:=x
  have h':(if b1=d then some (Ob.cells (l.flatten++j) e)else none)=some o:=h
  split at h'
  ·rename_i hb;subst hb;cases h';exact⟨rfl,_,rfl⟩
  ·cases h'
theorem yng {e:Nat} {g:GR} {d:Nat} (h:g.bk≠some d):zad (SR e g) d=none:=by
 cases q:zad (SR e g) d with
 | none=>rfl
 | some o=>exact absurd (zue q).1 h
theorem zqx {e e':Nat} {G:Gf} {d:Nat} {o:Ob}: ∀(m i:Nat),zad (famU e e' G i m) d=some o→ ∃k,i≤k∧k<i+m∧(((G k).1.bk=some d∧zad (SR e (G k).1) d=some o)∨((G k).2.bk=some d∧zad (SR e' (G k).2) d=some o))
 | 0,i,h=>by cases h
 | m+1,i,h=>by
  rw[famU,zbd]at h
  cases q:zad (SR e (G i).1) d with
  | some o2=>rw[q]at h;cases h;exact⟨i,Nat.le_refl _,by omega, .inl ⟨(zue q).1,q⟩⟩
  | none =>
   rw[q]at h
   dsimp only at h
   rw[zbd]at h
   cases q2:zad (SR e' (G i).2) d with
   | some o2=>rw[q2]at h;cases h;exact⟨i,Nat.le_refl _,by omega, .inr ⟨(zue q2).1,q2⟩⟩
   | none =>
    rw[q2]at h
    obtain⟨k,h1,h2,h3⟩:=zqx m (i+1) h
    exact⟨k,by omega,by omega,h3⟩
theorem FamOk.sub {e e':Nat} {G:Gf} {R:List Sitting} {n:Nat} {S:Sto} (h:FamOk e e' G R n S) {i m:Nat} (hm:i+m≤n) {d:Nat} {o:Ob} (q:zad (famU e e' G i m) d=some o):zad S d=some o∧ ∃l,o = .cells l e∨o = .cells l e':=by
 obtain⟨k,-,h2,⟨-,h3⟩|⟨-,h3⟩⟩:=zqx m i q
 ·obtain⟨l,hl⟩:=(zue h3).2;exact⟨zgg (h.tok k (by omega)) h3,l, .inl hl⟩
 ·obtain⟨l,hl⟩:=(zue h3).2;exact⟨zgg (h.rok k (by omega)) h3,l, .inr hl⟩
theorem FamOk.cross {e e':Nat} {G:Gf} {R:List Sitting} {n:Nat} {S:Sto} (h:FamOk e e' G R n S) (he:e≠e') {i j:Nat} (hi:i<n) (hj:j<n) {d:Nat} (h1:(G i).1.bk=some d) (h2:(G j).2.bk=some d):False:=by
 obtain⟨o,a1,a2⟩:=zmh (h.tok i hi) h1
 obtain⟨o2,b1,b2⟩:=zmh (h.rok j hj) h2
 rw[a1]at b1;cases b1
 obtain⟨l,rfl⟩:=(zue a2).2
 obtain⟨l2,hl⟩:=(zue b2).2
 cases hl;exact he rfl
theorem FamOk.tbl {e e':Nat} {G:Gf} {R:List Sitting} {n:Nat} {S:Sto} (h:FamOk e e' G R n S) (he:e≠e') {i m:Nat} (hm:i+1+m≤n) {d:Nat} (h1:(G i).1.bk=some d):zad (famU e e' G (i+1) m) d=none:=by
 cases q:zad (famU e e' G (i+1) m) d with
 | none=>rfl
 | some o =>
  obtain⟨k,a1,a2,⟨a3,-⟩|⟨a3,-⟩⟩:=zqx m (i+1) q
  ·exact absurd a3 (h.td i k (by omega) (by omega) d h1)
  ·exact(h.cross he (by omega) (by omega) h1 a3).elim
theorem FamOk.rul {e e':Nat} {G:Gf} {R:List Sitting} {n:Nat} {S:Sto} (h:FamOk e e' G R n S) (he:e≠e') {i m:Nat} (hm:i+1+m≤n) {d:Nat} (h1:(G i).2.bk=some d):zad (famU e e' G (i+1) m) d=none:=by
 cases q:zad (famU e e' G (i+1) m) d with
 | none=>rfl
 | some o =>
  obtain⟨k,a1,a2,⟨a3,-⟩|⟨a3,-⟩⟩:=zqx m (i+1) q
  ·exact(h.cross he (by omega) (by omega) a3 h1).elim
  ·exact absurd a3 (h.rd i k (by omega) (by omega) d h1)
theorem ztg {b:Nat}: ∀{S:Sto},zad S b=none→delS b S=S
 | [],_=>rfl
 | (d,o)::r,h=>by
  rw[zae]at h
  split at h
  ·cases h
  ·rename_i hd
   rw[zbp,if_neg hd,ztg h]
theorem yti {P:Program} {n:Nat} {r:Rr} {Q:VEnv→Sto→Prop} {k:List Fr} {E:VEnv} {g:GR} {b i e sz:Nat} {T':TypeId} {L:List V} (X A F:Sto) (hb:zad X b=some (.cells L T')) (hi:L[i]?=some g.cell) (hg:g.Ok e sz (SR e g)) (hX: ∀d,g.bk=some d→zad X d=none) (hA: ∀d,g.bk=some d→zad A d=none) (hF: ∀d,g.bk=some d→zad F d=none)
  (q:DS P n r Q k E (setS b (.cells (L.set i (.lst (g.l.map (·.map V.copy)))) T') (X++(A++F)))):DS P n r Q k E (X++(A++(SR e g++F))):=by
 have key: ∀d o,zad (X++(A++F)) d=some o→zad (X++(A++(SR e g++F))) d=some o∧g.bk≠some d:=fun d o h=>by
  rw[zbd]at h ⊢
  cases q1:zad X d with
  | some o2=>rw[q1]at h;exact⟨h,fun h2=>by rw[hX d h2]at q1;cases q1⟩
  | none =>
   rw[q1]at h
   dsimp only at h ⊢
   rw[zbd]at h ⊢
   cases q2:zad A d with
   | some o2=>rw[q2]at h;exact⟨h,fun h2=>by rw[hA d h2]at q2;cases q2⟩
   | none =>
    rw[q2]at h
    dsimp only at h ⊢
    have hn:g.bk≠some d:=fun h2=>by rw[hF d h2]at h;cases h
    rw[zbd,yng hn]
    exact⟨h,hn⟩
 refine ytj (X++(A++F)) (zmi hb) hi (hg.mono fun d o h=>?_) (fun h=>by rw[hX b h]at hb;cases hb) (zmi hb) key q
 have h2:=(zue h).1
 rw[zbd,hX d h2]
 dsimp only
 rw[zbd,hA d h2]
 exact zmi h
theorem yme {α:Type} {f:α→List V} (hf: ∀a,(f a).length=4) (junk:List V): ∀(R:List α) (k:Nat) (h:k<R.length) (j:Nat),j<4→((R.map f).flatten++junk)[k*4+j]?=(f R[k])[j]?
 | [],k,h,_,_=>by cases h
 | a::R,0,h,j,hj=>by
  rw[List.map_cons,List.flatten_cons,List.append_assoc,Nat.zero_mul,Nat.zero_add,List.getElem?_append_left (by rw[hf];exact hj)]
  rfl
 | a::R,k+1,h,j,hj=>by
  have h1:=yme hf junk R k (by simpa using h) j hj
  rw[List.map_cons,List.flatten_cons,List.append_assoc,List.getElem?_append_right (by rw[hf];omega),hf,show(k+1)*4+j-4=k*4+j by omega,h1]
  rfl
structure MemN (L:List V) (R:List Member) (i:Nat):Prop where
 len:R.length*4≤L.length
 id: ∀(k:Nat) (h:k<R.length),L[k*4]?=some (I (if k<i then rnI R[k].id else R[k].id))
 hand: ∀(k:Nat) (h:k<R.length),L[k*4+1]?=some (I R[k].hand)
 frm: ∀(k:Nat) (h:k<R.length),L[k*4+2]?=some (I R[k].from_)
 to: ∀(k:Nat) (h:k<R.length),L[k*4+3]?=some (I R[k].to)
theorem yku (R:List Member) (junk:List V):MemN ((R.map Member.cells).flatten++junk) R 0 where
 len:=by rw[List.length_append,zfh (sz:=4) (fun c hc=>by obtain⟨a,-,rfl⟩:=List.mem_map.1 hc;rfl),List.length_map];omega
 id:=fun k h=>by have:=yme Member.len junk R k h 0 (by omega);rw[Nat.add_zero]at this;rw[this];rfl
 hand:=fun k h=>by rw[yme Member.len junk R k h 1 (by omega)];rfl
 frm:=fun k h=>by rw[yme Member.len junk R k h 2 (by omega)];rfl
 to:=fun k h=>by rw[yme Member.len junk R k h 3 (by omega)];rfl
theorem MemN.put {L:List V} {R:List Member} {i:Nat} (h:MemN L R i) (hi:i<R.length):MemN (L.set (i*4) (I (rnI R[i].id))) R (i+1):=by
 have hl:=h.len
 refine⟨by simpa using hl,fun k hk=>?_,fun k hk=>zeq (h.hand k hk) (by omega),fun k hk=>zeq (h.frm k hk) (by omega),fun k hk=>zeq (h.to k hk) (by omega)⟩
 by_cases e:k=i
 ·subst e
  rw[if_pos (Nat.lt_succ_self _),zgp (by omega)]
 ·rw[zeq (h.id k hk) (by omega)]
  by_cases e2:k<i
  ·rw[if_pos e2,if_pos (by omega)]
  ·rw[if_neg e2,if_neg (by omega)]
theorem yip {L:List V} {i:Nat} {a b c d:V} (h0:L[i]?=some a) (h1:L[i+1]?=some b) (h2:L[i+2]?=some c) (h3:L[i+3]?=some d):(L.drop i).take 4= [a,b,c,d]:=by
 obtain⟨k0,e0⟩:=List.getElem?_eq_some_iff.1 h0
 rw[List.drop_eq_getElem_cons k0,e0,List.take_succ_cons,znb h1 h2 h3]
theorem MemN.chunk {L:List V} {R:List Member} (h:MemN L R R.length):XL.chunk 4 R.length (L.map V.copy)=(R.map Member.rn).map Member.cells :=
 zld _ _ _ (by rw[List.length_map,List.length_map]) fun k hk=>by
  rw[List.length_map,List.length_map]at hk
  have h0:=h.id k hk
  rw[if_pos hk]at h0
  rw[yip (zfr h0) (zfr (h.hand k hk)) (zfr (h.frm k hk)) (zfr (h.to k hk)),List.getElem_map,List.getElem_map]
  rfl
structure SitN (L:List V) (G:Gf) (R:List Sitting) (i:Nat):Prop where
 len:R.length*3≤L.length
 tab: ∀(k:Nat) (h:k<R.length),L[k*3]?=some (if k<i then rows R[k].rn.tables else(G k).1.cell)
 pts: ∀(k:Nat) (h:k<R.length),L[k*3+1]?=some (rows R[k].points)
 rul: ∀(k:Nat) (h:k<R.length),L[k*3+2]?=some (if k<i then .lst (R[k].rulings.map Ruling.cells)else(G k).2.cell)
theorem yjn (G:Gf) (R:List Sitting) (junk:List V):SitN ((sitL G 0 R).flatten++junk) G R 0 where
 len:=by rw[List.length_append,zfh (sz:=3) (zqr G R 0),zis];omega
 tab:=fun k h=>by have:=zrm G junk R 0 k h 0 (by omega);rw[Nat.add_zero,Nat.zero_add]at this;rw[this];rfl
 pts:=fun k h=>by rw[zrm G junk R 0 k h 1 (by omega)];rfl
 rul:=fun k h=>by rw[zrm G junk R 0 k h 2 (by omega),Nat.zero_add];rfl
theorem SitN.put {L:List V} {G:Gf} {R:List Sitting} {i:Nat} (h:SitN L G R i) (hi:i<R.length):SitN ((L.set (i*3+2) (.lst (R[i].rulings.map Ruling.cells))).set (i*3) (rows R[i].rn.tables)) G R (i+1):=by
 have hl:=h.len
 refine⟨by simpa using hl,fun k hk=>?_,fun k hk=>zeq (zeq (h.pts k hk) (by omega)) (by omega),fun k hk=>?_⟩
 ·by_cases e:k=i
  ·subst e
   rw[if_pos (Nat.lt_succ_self _),zgp (by rw[List.length_set];omega)]
  ·rw[zeq (zeq (h.tab k hk) (by omega)) (by omega)]
   by_cases e2:k<i
   ·rw[if_pos e2,if_pos (by omega)]
   ·rw[if_neg e2,if_neg (by omega)]
 ·by_cases e:k=i
  ·subst e
   rw[if_pos (Nat.lt_succ_self _),zeq (zgp (by omega)) (by omega)]
  ·rw[zeq (zeq (h.rul k hk) (by omega)) (by omega)]
   by_cases e2:k<i
   ·rw[if_pos e2,if_pos (by omega)]
   ·rw[if_neg e2,if_neg (by omega)]
theorem SitN.chunk {L:List V} {G:Gf} {R:List Sitting} (h:SitN L G R R.length):XL.chunk 3 R.length (L.map V.copy)=(R.map Sitting.rn).map Sitting.cells :=
 zld _ _ _ (by rw[List.length_map,List.length_map]) fun k hk=>by
  rw[List.length_map,List.length_map]at hk
  have h0:=h.tab k hk
  have h2:=h.rul k hk
  rw[if_pos hk]at h0 h2
  rw[znb (zfr h0) (zfr (h.pts k hk)) (zfr h2),List.getElem_map,List.getElem_map]
  rfl
structure TabN (L:List V) (R:List (List Int)) (i:Nat):Prop where
 len:R.length≤L.length
 row: ∀(k:Nat) (h:k<R.length),L[k]?=some (ints (if k<i then R[k].map rnI else R[k]))
theorem yjg (R:List (List Int)) (junk:List V):TabN ((R.map cR).flatten++junk) R 0 where
 len:=by rw[zpt];simp
 row:=fun k h=>by rw[zpt,zkl h];rfl
theorem TabN.put {L:List V} {R:List (List Int)} {i:Nat} (h:TabN L R i) (hi:i<R.length):TabN (L.set i (ints (R[i].map rnI))) R (i+1):=by
 have hl:=h.len
 refine⟨by simpa using hl,fun k hk=>?_⟩
 by_cases e:k=i
 ·subst e
  rw[if_pos (Nat.lt_succ_self _),zgp (by omega)]
 ·rw[zeq (h.row k hk) (fun h=>e h.symm)]
  by_cases e2:k<i
  ·rw[if_pos e2,if_pos (by omega)]
  ·rw[if_neg e2,if_neg (by omega)]
theorem TabN.chunk {L:List V} {R:List (List Int)} (h:TabN L R R.length):XL.chunk 1 R.length (L.map V.copy)=(R.map (·.map rnI)).map cR :=
 zld _ _ _ (by rw[List.length_map,List.length_map]) fun k hk=>by
  rw[List.length_map,List.length_map]at hk
  have h1:=zfr (h.row k hk)
  rw[if_pos hk]at h1
  obtain⟨hk2,h3⟩:=List.getElem?_eq_some_iff.1 h1
  rw[Nat.mul_one,List.drop_eq_getElem_cons hk2,List.take_succ_cons,List.take_zero,h3,List.getElem_map,List.getElem_map]
  rfl
end Go.XL
namespace Go.XL
open Go.Proofs
set_option maxRecDepth 100000
set_option maxHeartbeats 8000000
theorem yX50 {p:Prop} (h:p:=by(simp (disch:=omega) only[go_sem,dopV,yV0,↓reduceIte,Nat.reduceEqDiff,Nat.reduceLT,Nat.reduceLeDiff,Nat.reduceAdd,Nat.reduceMul,Nat.reduceSub,Int.reduceToNat,Int.reduceLT,Int.reduceLE,Int.reduceEq,IntWalk.toNatUp,IntWalk.iteOmega,IntWalk.i64_in,V.flat,V.one, *,List.length_map];exact rfl)):p:=h
theorem yhu (c:Club) (hs:c.Small) (h0:0<c.members.length) (hm: ∀m∈c.members,0≤m.id∧m.id≤1000) (ht: ∀s∈c.rounds,∀t∈s.tables,∀x∈t,0≤x∧x≤1000):PC Tryz.prog 33 [c.val] c.rn.val:=by
 have q1:=hs.rounds
 have q2:=hs.members
 refine DC.of_run Tryz.func33 rfl Tryz.ntmps33 Tryz.results33 (by simp) (fun _=>?_);simp only[zaq,zat,go_sem,Nat.zero_add,Nat.reduceAdd]
 repeat' (first|(with_reducible first|refine DS.seq ?_|refine zaa ?_)|(with_reducible refine zkg yU yE yU (fun _ hfr=>?_);have hfr:=zjy hfr;simp only[zgr,zhv,and_true]at hfr;simp only[zbs,zct,zbr,zcg,zbq,zbj,zbt,zbn,zcp,zcr,zcb,zcq,zcf,zce])|fail)
 rename_i b1 hb1
 refine zej yR yU yU (fun b2 h2=>?_)
 have n1: ¬b1=b2:=fun e=>by rw[zae,if_pos e]at h2;cases h2
 have n1': ¬b2=b1:=fun e=>n1 e.symm
 clear h2 hb1
 have e0:(Value.agg #[.int .i64 0, .int .i64 0, .int .i64 0, .int .i64 0, .slice none 0 0, .bool false, .slice none 0 0, .slice none 0 0]).cells.toList.map V.v=zds:=rfl
 rw[e0]
 clear e0
 repeat' (first|(with_reducible first|refine zac yU yU yE ?_|refine zab ?_|refine DS.seq ?_|refine zaa ?_)|fail)
 have e3: [V.v (.int .i64 c.size),V.v (.int .i64 c.start),V.v (.int .i64 c.absent),V.v (.int .i64 c.window),V.lst (c.places.map cI),V.v (.bool c.share),V.lst (c.members.map Member.cells),V.lst (c.rounds.map Sitting.cells)]=gN c (.lst (c.members.map Member.cells)) (.lst (c.rounds.map Sitting.cells)):=rfl
 try rw[e3]
 clear e3
 refine DS.call (dst:=some 7) [] [(b2, .cells zds 26),(b1, .cells (gN c (.lst (c.members.map Member.cells)) (.lst (c.rounds.map Sitting.cells))) 26)] inferInstance (yqc c hs) yR yH (fun _ _ e=>by cases e) (fun _ _ e=>⟨e,rfl⟩) ?_
 rintro v S0 ⟨⟨ml,blk⟩,mok,rfl,g,G,rfl,gok,gl,fok⟩ hdis
 cases blk with
 | none =>
  have:c.members.map Member.cells= []:=mok
  have:=List.map_eq_nil_iff.1 this
  rw[this]at h0;exact absurd h0 (by simp)
 | some z =>
 obtain⟨bm,capm,jm⟩:=z
 have mok:GR.At 47 4 S0 (c.members.map Member.cells) bm capm jm:=mok
 have k1:=mok.look
 have k2:=mok.le
 have k3:=mok.cap
 have k4:=mok.len
 rw[List.length_map]at k2 k4
 have d1:zad S0 b1=none:=by cases q:zad S0 b1 with|none=>rfl|some o=>have:=hdis b1 o q;simp only[zae,n1',↓reduceIte]at this;cases this
 have d2:zad S0 b2=none:=by cases q:zad S0 b2 with|none=>rfl|some o=>have:=hdis b2 o q;simp only[zae,↓reduceIte]at this;cases this
 have m1: ¬b1=bm:=fun h=>by rw[h,k1]at d1;cases d1
 have m2: ¬b2=bm:=fun h=>by rw[h,k1]at d2;cases d2
 have m1': ¬bm=b1:=fun h=>m1 h.symm
 have m2': ¬bm=b2:=fun h=>m2 h.symm
 obtain⟨r1,r2,r3,hr⟩:=GR.cell_slice g
 have fY: ∀d o,zad (SR 61 g++famU 22 65 G 0 c.rounds.length) d=some o→zad S0 d=some o∧ ¬bm=d:=fun d o q=>by
  rw[zbd]at q
  cases q2:zad (SR 61 g) d with
  | some o2 =>
   rw[q2]at q;cases q
   refine⟨zgg gok q2,fun h=>?_⟩
   obtain⟨l,rfl⟩:=(zue q2).2
   have:=zgg gok q2
   rw[←h,k1]at this
   simp only[Option.some.injEq,Ob.cells.injEq]at this
   exact absurd this.2 (by decide)
  | none =>
   rw[q2]at q
   obtain⟨q3,l,hl⟩:=fok.sub (by omega) q
   refine⟨q3,fun h=>?_⟩
   rw[←h,k1]at q3
   rcases hl with rfl|rfl
   ·simp only[Option.some.injEq,Ob.cells.injEq]at q3
    exact absurd q3.2 (by decide)
   ·simp only[Option.some.injEq,Ob.cells.injEq]at q3
    exact absurd q3.2 (by decide)
 generalize hY:SR 61 g++famU 22 65 G 0 c.rounds.length=Y at fY
 have y1:zad Y b1=none:=by cases q:zad Y b1 with|none=>rfl|some o=>rw[(fY b1 o q).1]at d1;cases d1
 have y2:zad Y b2=none:=by cases q:zad Y b2 with|none=>rfl|some o=>rw[(fY b2 o q).1]at d2;cases d2
 have y3:zad Y bm=none:=by cases q:zad Y bm with|none=>rfl|some o=>exact absurd rfl (fY bm o q).2
 refine zet (S':=(b1, .cells (gN c (.lst (c.members.map Member.cells)) (.lst (c.rounds.map Sitting.cells))) 26)::(b2, .cells zds 26)::(bm, .cells ((c.members.map Member.cells).flatten++jm) 47)::Y) (fun d o e=>?_) ?_
 ·simp only[zae]at e
  by_cases c1:b1=d
  ·subst c1;rw[if_pos rfl]at e;rw[zbd,d1];simp only[zae,n1',↓reduceIte];exact e
  rw[if_neg c1]at e
  by_cases c2:b2=d
  ·subst c2;rw[if_pos rfl]at e;rw[zbd,d2];simp only[zae,↓reduceIte];exact e
  rw[if_neg c2]at e
  by_cases c3:bm=d
  ·subst c3;rw[if_pos rfl]at e;exact zmi (by rw[k1];exact e)
  rw[if_neg c3]at e
  exact zmi (fY d o e).1
 rw[GR.cell_some,List.length_map,hr]
 simp only[zco]
 repeat' (first|(with_reducible first|refine zac yU yU yE ?_|refine zab ?_|refine DS.seq ?_|refine zaa ?_|refine DS.block ?_)|(refine DS.store yR yE yE yE yE yU (by exact⟨by with_unfolding_all rfl,by(try simp only[List.length_map,List.length_append,List.length_set,List.length_replicate,List.length_cons,List.length_nil]);omega⟩) ?_;simp only[zbo,zau,zaw,zbw,zbm,zbk,zbl];try simp only[zam,zaf,zag,Nat.reduceEqDiff,↓reduceIte,zaj,zak,zap,zai,zah,zan,zal])|fail)
 simp only[setS,n1,n1',m1,m2,m1',m2',↓reduceIte,zau,zaw,zcj,zcc,Nat.reduceAdd,Nat.zero_add,List.map_cons,List.map_nil,zcp,zbn]
 refine zcn [1,2] yN (fun(y:Nat×List V)=> [(3,I y.1)]) (fun(y:Nat×List V)=>(b1, .cells (gN c (.v (.slice (some ⟨bm,0,none⟩) c.members.length capm)) (.v (.slice r1 r2 r3))) 26)::(b2, .cells zds 26)::(bm, .cells y.2 47)::Y) (fun(y:Nat×List V)=>y.1≤c.members.length∧MemN y.2 c.members y.1) (fun(y:Nat×List V)=>c.members.length-y.1) (0,(c.members.map Member.cells).flatten++jm) yS (fun b o e=>by exact e) ⟨Nat.zero_le _,yku _ _⟩ (fun y B hI hB=>?_);try dsimp only at hI hB;simp only[zar,zav]
 obtain⟨i,M⟩:=y
 dsimp only at hI hB ⊢
 obtain⟨p1,p2⟩:=hI
 by_cases hi:(i:Int)<(c.members.length:Int)
 ·have hi':i<c.members.length:=by omega
  have hM:=p2.len
  have h1:=p2.id i hi'
  rw[if_neg (Nat.lt_irrefl _)]at h1
  have hw:=ycp (hm _ (List.getElem_mem hi'))
  repeat' (first|(with_reducible first|refine zac yU yU yE ?_|refine zab ?_|refine DS.seq ?_|refine zaa ?_|(refine zbc yE ?_;refine zdb ?_)|refine DS.blk ?_|refine DS.block ?_|refine DS.skip ?_)|(refine DS.store yR yE yE yE yE yU (by exact⟨by with_unfolding_all rfl,by(try simp only[List.length_map,List.length_append,List.length_set,List.length_replicate,List.length_cons,List.length_nil]);omega⟩) ?_;simp only[zbo,zau,zaw,zbw,zbm,zbk,zbl];try simp only[zam,zaf,zag,Nat.reduceEqDiff,↓reduceIte,zaj,zak,zap,zai,zah,zan,zal])|refine zch (id:=5) [0,1,2,3,4,5,6,7,8,9,10] 11 (by kernel_rfl) zdq (by simp only[zba,zbg,zbh,zbi,zaz];exact rfl) (by simp only[zax,zay,List.drop_nil];exact rfl) ?_|(with_reducible first|refine zbz yU yU yU yE ?_|refine zdc ?_)|fail)
  simp only[setS,m1,m2,m1',m2',↓reduceIte]
  refine DS.back (hB (i+1,M.set (i*4) (I (rnI c.members[i].id))) _ _ (by dsimp only;omega) ⟨by dsimp only;omega,p2.put hi'⟩ yS yS (fun d o e=>by exact e))
 ·obtain rfl:i=c.members.length:=by omega
  clear hB
  refine zgd (b:=bm) (b':=b1) (i:=6) (sz:=4) (len:=c.members.length) (cap:=capm) (l:=M) (T:=47) (l':=gN c (.v (.slice (some ⟨bm,0,none⟩) c.members.length capm)) (.v (.slice r1 r2 r3))) (T':=26) m1 (by simp only[zae,↓reduceIte]) rfl (by simp only[zae,m1,m2,↓reduceIte]) p2.len ⟨k2,k3⟩ ?_
  rw[p2.chunk]
  have hdl:delS bm Y=Y:=ztg y3
  simp only[setS,zbp,zbv,hdl,m1,m2,m1',m2',n1,n1',↓reduceIte,zcj,zcc]
  clear p2 k1 k2 k3 k4 mok y3 hdl p1
  repeat' (first|(with_reducible first|refine zac yU yU yE ?_|refine zab ?_|refine DS.seq ?_|refine zaa ?_|(refine zbc yE ?_;refine zdd ?_)|refine DS.block ?_|refine DS.exit yU ?_)|fail)
  obtain⟨gl',gblk⟩:=g
  obtain rfl:gl'=sitL G 0 c.rounds:=gl
  cases gblk with
  | none =>
   have hR:c.rounds= []:=by
    have h1:sitL G 0 c.rounds= []:=gok
    have h2:=zis G c.rounds 0
    rw[h1]at h2
    exact List.length_eq_zero_iff.1 h2.symm
   cases hr
   refine zyp (b:=b1) (i:=7) (v := .v (.slice none 0 0)) (u := .lst []) (by simp only[zae,↓reduceIte];exact rfl) rfl (fun hv z hz=>V.peek_Rl (v := .v (.slice none 0 0)) hz) rfl ?_
   simp only[setS,↓reduceIte,zcj,zcc]
   refine zcn [1,2] yN (fun(y:Nat)=> [(4,I y)]) (fun(y:Nat)=>(b1, .cells (gN c (.lst ((c.members.map Member.rn).map Member.cells)) (.lst [])) 26)::(b2, .cells zds 26)::Y) (fun(y:Nat)=>y=0) (fun(y:Nat)=>y) 0 yS (fun b o e=>by exact e) rfl (fun y B hI hB=>?_);try dsimp only at hI hB;simp only[zar,zav]
   subst hI
   repeat' (first|(with_reducible first|refine zac yU yU yE ?_|refine zab ?_|refine DS.seq ?_|refine zaa ?_|(refine zbc yE ?_;refine zdd ?_)|refine DS.exit yU ?_)|(refine DS.store yR yE yE yE yE yU (by exact⟨by with_unfolding_all rfl,by(try simp only[List.length_map,List.length_append,List.length_set,List.length_replicate,List.length_cons,List.length_nil]);omega⟩) ?_;simp only[zbo,zau,zaw,zbw,zbm,zbk,zbl];try simp only[zam,zaf,zag,Nat.reduceEqDiff,↓reduceIte,zaj,zak,zap,zai,zah,zan,zal])|fail)
   simp only[setS,n1,n1',↓reduceIte,zau,zaw,zcj,zcc,zds,Nat.reduceAdd,Nat.zero_add,List.map_cons,List.map_nil,zcp,zbn]
   refine zci yE ?_
   simp only[tupV]
   rw[Club.val,Club.cells]
   have hR2:c.rn.rounds= []:=by rw[Club.rn,hR];rfl
   rw[hR2];rfl
  | some x =>
   obtain⟨b,cap,junk⟩:=x
   have gok:GR.At 61 3 S0 (sitL G 0 c.rounds) b cap junk:=gok
   have k1:=gok.look
   have k2:=gok.le
   have k3:=gok.cap
   rw[zis]at k2
   rw[GR.cell_some,zis]at hr
   simp only[V.v.injEq,Value.slice.injEq]at hr
   obtain⟨rfl,rfl,rfl⟩:=hr
   have e1: ¬b1=b:=fun h=>by rw[h,k1]at d1;cases d1
   have e2: ¬b2=b:=fun h=>by rw[h,k1]at d2;cases d2
   have e1': ¬b=b1:=fun h=>e1 h.symm
   have e2': ¬b=b2:=fun h=>e2 h.symm
   have hY':Y=(b, .cells ((sitL G 0 c.rounds).flatten++junk) 61)::famU 22 65 G 0 (c.rounds.length-0):=hY.symm
   subst hY'
   have nb: ∀d o,zad S0 d=some o→(∃l,o = .cells l 22∨o = .cells l 65)→ ¬d=b1∧ ¬d=b2∧ ¬d=b:=fun d o h hl=>by
    refine⟨fun q=>?_,fun q=>?_,fun q=>?_⟩
    ·rw[q,d1]at h;cases h
    ·rw[q,d2]at h;cases h
    ·rw[q,k1]at h
     obtain⟨l,rfl|rfl⟩:=hl
     ·simp only[Option.some.injEq,Ob.cells.injEq]at h;exact absurd h.2 (by decide)
     ·simp only[Option.some.injEq,Ob.cells.injEq]at h;exact absurd h.2 (by decide)
   clear hY fY y1 y2
   refine zcn [1,2] yN (fun(y:Nat×List V)=> [(4,I y.1)]) (fun(y:Nat×List V)=>(b1, .cells (gN c (.lst ((c.members.map Member.rn).map Member.cells)) (.v (.slice (some ⟨b,0,none⟩) c.rounds.length cap))) 26)::(b2, .cells zds 26)::(b, .cells y.2 61)::famU 22 65 G y.1 (c.rounds.length-y.1)) (fun(y:Nat×List V)=>y.1≤c.rounds.length∧SitN y.2 G c.rounds y.1) (fun(y:Nat×List V)=>c.rounds.length-y.1) (0,(sitL G 0 c.rounds).flatten++junk) yS (fun b o e=>by exact e) ⟨Nat.zero_le _,yjn _ _ _⟩ (fun y B hI hB=>?_);try dsimp only at hI hB;simp only[zar,zav]
   obtain⟨i,L⟩:=y
   dsimp only at hI hB ⊢
   obtain⟨p1,p2⟩:=hI
   have hB0:=hB
   clear hB
   by_cases hi:(i:Int)<(c.rounds.length:Int)
   ·have hi':i<c.rounds.length:=by omega
    have hL:=p2.len
    have hsm:=hs.round _ (List.getElem_mem hi')
    have h1:=p2.tab i hi'
    have h3:=p2.rul i hi'
    rw[if_neg (Nat.lt_irrefl _)]at h1 h3
    have hF:famU 22 65 G i (c.rounds.length-i)=SR 22 (G i).1++(SR 65 (G i).2++famU 22 65 G (i+1) (c.rounds.length-(i+1))):=by
     rw[show c.rounds.length-i=(c.rounds.length-(i+1))+1 by omega];rfl
    rw[hF]
    have f1:=fun d=>fok.tbl (by decide) (i:=i) (m:=c.rounds.length-(i+1)) (by omega) (d:=d)
    have f2:=fun d=>fok.rul (by decide) (i:=i) (m:=c.rounds.length-(i+1)) (by omega) (d:=d)
    have f3:=fun d o=>fok.sub (i:=i+1) (m:=c.rounds.length-(i+1)) (by omega) (d:=d) (o:=o)
    have f4:=fun d=>fok.cross (by decide) hi' hi' (d:=d)
    have t1:=fok.tok i hi'
    have t2:=fok.rok i hi'
    have t3:=fok.tl i hi' hi'
    have t4:=fok.rl i hi' hi'
    generalize hF1:famU 22 65 G (i+1) (c.rounds.length-(i+1))=F1 at f1 f2 f3 ⊢
    generalize (G i).1=gt at h1 f1 f4 t1 t3 ⊢
    generalize (G i).2=gr at h3 f2 f4 t2 t4 ⊢
    have r0: ∀d,gr.bk=some d→ ¬d=b1∧ ¬d=b2∧ ¬d=b:=fun d hd=>by
     obtain⟨o,a1,a2⟩:=zmh t2 hd
     obtain⟨l,hl⟩:=(zue a2).2
     exact nb d o a1 ⟨l, .inr hl⟩
    have g0: ∀d,gt.bk=some d→ ¬d=b1∧ ¬d=b2∧ ¬d=b:=fun d hd=>by
     obtain⟨o,a1,a2⟩:=zmh t1 hd
     obtain⟨l,hl⟩:=(zue a2).2
     exact nb d o a1 ⟨l, .inl hl⟩
    refine yti (b:=b) (i:=i*3+2) (e:=65) (sz:=3) (g:=gr) [(b1, .cells (gN c (.lst ((c.members.map Member.rn).map Member.cells)) (.v (.slice (some ⟨b,0,none⟩) c.rounds.length cap))) 26),(b2, .cells zds 26),(b, .cells L 61)] (SR 22 gt) F1 (by simp only[zae,e1,e2,↓reduceIte];exact rfl) h3 t2.self (fun d hd=>by
      obtain⟨a1,a2,a3⟩:=r0 d hd
      rw[zae,if_neg (fun h=>a1 h.symm),zae,if_neg (fun h=>a2 h.symm),zae,if_neg (fun h=>a3 h.symm)];rfl) (fun d hd=>yng fun h=>f4 d h hd) f2 ?_
    have hrl:gr.l.map (·.map V.copy)=c.rounds[i].rulings.map Ruling.cells:=by rw[t4,List.map_map];rfl
    rw[hrl]
    simp only[List.cons_append,List.nil_append,setS,e1,e2,e1',e2',↓reduceIte]
    have hL1:(L.set (i*3+2) (.lst (c.rounds[i].rulings.map Ruling.cells))).length=L.length:=List.length_set
    have h1':(L.set (i*3+2) (.lst (c.rounds[i].rulings.map Ruling.cells)))[i*3]?=some gt.cell:=zeq h1 (by omega)
    have hput:=p2.put hi'
    generalize hgL:L.set (i*3+2) (.lst (c.rounds[i].rulings.map Ruling.cells))=L1 at hL1 h1' hput ⊢
    clear hgL h1 h3 r0 t2 t4 f2 f4 hrl
    obtain⟨tl,tblk⟩:=gt
    obtain rfl:tl=c.rounds[i].tables.map cR:=t3
    cases tblk with
    | none =>
     have hT:c.rounds[i].tables= []:=List.map_eq_nil_iff.1 t1
     rw[GR.cell_none]at h1'
     simp only[SR,List.nil_append]
     repeat' (first|(with_reducible first|refine zac yU yU yE ?_|refine zab ?_|refine DS.seq ?_|refine zaa ?_|(refine zbc yE ?_;refine zdb ?_)|refine DS.block ?_|refine DS.skip ?_)|fail)
     refine zcn [1,2,4] yN (fun(y:Nat)=> [(5,I y)]) (fun(y:Nat)=>(b1, .cells (gN c (.lst ((c.members.map Member.rn).map Member.cells)) (.v (.slice (some ⟨b,0,none⟩) c.rounds.length cap))) 26)::(b2, .cells zds 26)::(b, .cells L1 61)::F1) (fun(y:Nat)=>y=0) (fun(y:Nat)=>y) 0 yS (fun b o e=>by exact e) rfl (fun y B hI hB=>?_);try dsimp only at hI hB;simp only[zar,zav]
     subst hI
     repeat' (first|(with_reducible first|refine zac yU yU yE ?_|refine zab ?_|refine DS.seq ?_|refine zaa ?_|(refine zbc yE ?_;refine zdd ?_)|refine DS.blk ?_|refine DS.exit yU ?_)|fail)
     refine zyp (b:=b) (i:=i*3) (v := .v (.slice none 0 0)) (u := .lst []) (by simp only[zae,e1,e2,↓reduceIte];exact rfl) h1' (fun hv z hz=>V.peek_Rl (v := .v (.slice none 0 0)) hz) rfl ?_
     simp only[setS,e1,e2,e1',e2',↓reduceIte]
     have hput2:SitN (L1.set (i*3) (.lst [])) G c.rounds (i+1):=by
      have e:rows c.rounds[i].rn.tables = .lst []:=by rw[Sitting.rn,hT];rfl
      rw[e]at hput;exact hput
     refine DS.back (hB0 (i+1,L1.set (i*3) (.lst [])) _ _ (by dsimp only;omega) ⟨by dsimp only;omega,by exact hput2⟩ yS yS (fun d o e=>by dsimp only at e;rw[hF1]at e;exact e))
    | some z =>
     obtain⟨bt,capt,jt⟩:=z
     have t1:GR.At 22 1 S0 (c.rounds[i].tables.map cR) bt capt jt:=t1
     obtain⟨a1,a2,a3⟩:=g0 bt rfl
     have a1': ¬b1=bt:=fun h=>a1 h.symm
     have a2': ¬b2=bt:=fun h=>a2 h.symm
     have a3': ¬b=bt:=fun h=>a3 h.symm
     have k6:=t1.le
     have k7:=t1.cap
     rw[List.length_map]at k6
     rw[GR.cell_some,List.length_map]at h1'
     have ff:=f1 bt rfl
     simp only[SR,List.cons_append,List.nil_append]
     clear t1 f1
     repeat' (first|(with_reducible first|refine zac yU yU yE ?_|refine zab ?_|refine DS.seq ?_|refine zaa ?_|(refine zbc yE ?_;refine zdb ?_)|refine DS.block ?_|refine DS.skip ?_)|fail)
     refine zcn [1,2,4] yN (fun(y:Nat×List V)=> [(5,I y.1)]) (fun(y:Nat×List V)=>(b1, .cells (gN c (.lst ((c.members.map Member.rn).map Member.cells)) (.v (.slice (some ⟨b,0,none⟩) c.rounds.length cap))) 26)::(b2, .cells zds 26)::(b, .cells L1 61)::(bt, .cells y.2 22)::F1) (fun(y:Nat×List V)=>y.1≤c.rounds[i].tables.length∧TabN y.2 c.rounds[i].tables y.1) (fun(y:Nat×List V)=>c.rounds[i].tables.length-y.1) (0,(c.rounds[i].tables.map cR).flatten++jt) yS (fun b o e=>by exact e) ⟨Nat.zero_le _,yjg _ _⟩ (fun y B hI hB=>?_);try dsimp only at hI hB;simp only[zar,zav]
     obtain⟨j,T⟩:=y
     dsimp only at hI hB ⊢
     obtain⟨p3,p4⟩:=hI
     by_cases hj:(j:Int)<(c.rounds[i].tables.length:Int)
     ·have hj':j<c.rounds[i].tables.length:=by omega
      have hTl:=p4.len
      have h5:=p4.row j hj'
      rw[if_neg (Nat.lt_irrefl _)]at h5
      have hmt:=hsm.tables
      have hml:=hsm.table _ (List.getElem_mem hj')
      have htb:=ht _ (List.getElem_mem hi') _ (List.getElem_mem hj')
      repeat' (first|(with_reducible first|refine zac yU yU yE ?_|refine zab ?_|refine DS.seq ?_|refine zaa ?_|(refine zbc yE ?_;refine zdb ?_)|refine DS.blk ?_|refine DS.block ?_|refine DS.skip ?_)|(refine DS.store yR yE yE yE yE yU (by exact⟨by with_unfolding_all rfl,by(try simp only[List.length_map,List.length_append,List.length_set,List.length_replicate,List.length_cons,List.length_nil]);omega⟩) ?_;simp only[zbo,zau,zaw,zbw,zbm,zbk,zbl];try simp only[zam,zaf,zag,Nat.reduceEqDiff,↓reduceIte,zaj,zak,zap,zai,zah,zan,zal])|refine zch (id:=12) [0,1,2,3,4,5,6,7,8,9,10,11,12,13,14,15,16] 17 (by kernel_rfl) zdq (by simp only[zba,zbg,zbh,zbi,zaz];exact rfl) (by simp only[zax,zay,List.drop_nil];exact rfl) ?_|(with_reducible first|refine zbz yU yU yU yE ?_|refine zdc ?_)|refine zml inferInstance (zxf c.rounds[i].tables[j] hml htb) yU yT ?_;simp only[zca,zck,Nat.reduceEqDiff,↓reduceIte]|fail)
      simp only[setS,e1,e2,e1',e2',a1,a2,a3,a1',a2',a3',↓reduceIte]
      refine DS.back (hB (j+1,T.set j (ints (c.rounds[i].tables[j].map rnI))) _ _ (by dsimp only;omega) ⟨by dsimp only;omega,by exact p4.put hj'⟩ yS yS (fun d o e=>by exact e))
     ·obtain rfl:j=c.rounds[i].tables.length:=by omega
      refine zgd (b:=bt) (b':=b) (i:=i*3) (sz:=1) (len:=c.rounds[i].tables.length) (cap:=capt) (l:=T) (T:=22) (l':=L1) (T':=61) a3' (by simp only[zae,e1,e2,↓reduceIte]) h1' (by simp only[zae,a1',a2',a3',↓reduceIte]) (by have:=p4.len;omega) ⟨k6,k7⟩ ?_
      rw[p4.chunk]
      simp only[setS,zbp,zbv,ztg ff,e1,e2,e1',e2',a1,a2,a3,a1',a2',a3',↓reduceIte]
      clear hB
      have h7:(L1.set (i*3) (.lst ((c.rounds[i].tables.map (·.map rnI)).map cR)))[i*3]?=some (.lst ((c.rounds[i].tables.map (·.map rnI)).map cR)):=zgp (by omega)
      repeat' (first|(with_reducible first|refine zac yU yU yX50 ?_|refine zab ?_|refine DS.seq ?_|refine zaa ?_|(refine zbc yX50 ?_;refine zdd ?_)|refine DS.blk ?_|refine DS.exit yU ?_)|fail)
      refine DS.back (hB0 (i+1,L1.set (i*3) (.lst ((c.rounds[i].tables.map (·.map rnI)).map cR))) _ _ (by dsimp only;omega) ⟨by dsimp only;omega,by exact hput⟩ yS yS (fun d o e=>by dsimp only at e;rw[hF1]at e;exact e))
   ·obtain rfl:i=c.rounds.length:=by omega
    rw[Nat.sub_self]
    clear hB0
    refine zgd (b:=b) (b':=b1) (i:=7) (sz:=3) (len:=c.rounds.length) (cap:=cap) (l:=L) (T:=61) (l':=gN c (.lst ((c.members.map Member.rn).map Member.cells)) (.v (.slice (some ⟨b,0,none⟩) c.rounds.length cap))) (T':=26) e1 (by simp only[zae,↓reduceIte]) rfl (by simp only[zae,e1,e2,↓reduceIte]) p2.len ⟨k2,k3⟩ ?_
    rw[p2.chunk]
    simp only[setS,zbp,zbv,famU,e1,e2,e1',e2',n1,n1',↓reduceIte,zcj,zcc]
    repeat' (first|(with_reducible first|refine zac yU yU yE ?_|refine zab ?_|refine DS.seq ?_|refine zaa ?_|(refine zbc yE ?_;refine zdd ?_)|refine DS.exit yU ?_)|(refine DS.store yR yE yE yE yE yU (by exact⟨by with_unfolding_all rfl,by(try simp only[List.length_map,List.length_append,List.length_set,List.length_replicate,List.length_cons,List.length_nil]);omega⟩) ?_;simp only[zbo,zau,zaw,zbw,zbm,zbk,zbl];try simp only[zam,zaf,zag,Nat.reduceEqDiff,↓reduceIte,zaj,zak,zap,zai,zah,zan,zal])|fail)
    simp only[setS,n1,n1',e1',e2',↓reduceIte,zau,zaw,zcj,zcc,zds,Nat.reduceAdd,Nat.zero_add,List.map_cons,List.map_nil,zcp,zbn]
    refine zci yE ?_
    simp only[tupV]
    rfl
end Go.XL
namespace Go.XL
open Go.Proofs
set_option maxRecDepth 100000
set_option maxHeartbeats 8000000
theorem yX51 {p:Prop} (h:p:=by(simp (disch:=omega) only[go_sem,dopV,yV0,↓reduceIte,Nat.reduceEqDiff,Nat.reduceLT,Nat.reduceLeDiff,Nat.reduceAdd,Nat.reduceMul,Nat.reduceSub,Int.reduceToNat,Int.reduceLT,Int.reduceLE,Int.reduceEq,IntWalk.toNatUp,IntWalk.iteOmega,IntWalk.i64_in,V.flat,V.one, *,List.length_map,List.getElem_map];exact rfl)):p:=h
theorem yX52 {p:Prop} (h:p:=by(simp (disch:=omega) only[go_sem,dopV,yV0,↓reduceIte,Nat.reduceEqDiff,Nat.reduceLT,Nat.reduceLeDiff,Nat.reduceAdd,Nat.reduceMul,Nat.reduceSub,Int.reduceToNat,Int.reduceLT,Int.reduceLE,Int.reduceEq,IntWalk.toNatUp,IntWalk.iteOmega,IntWalk.i64_in,V.flat,V.one, *,List.length_map,List.getElem_map];try exact rfl)):p:=h
theorem zyd (nums:List Int) (h0:0<(zev (newX nums) 3).1.members.length):PC Tryz.prog 7 [ints nums] (Bo true):=by
 have hz:=ygm (newX nums)
 have hc:=(ymq (newX nums)).1
 refine DC.of_run Tryz.func7 rfl Tryz.ntmps7 Tryz.results7 (by simp) (fun _=>?_);simp only[zaq,zat,go_sem,Nat.zero_add,Nat.reduceAdd]
 repeat' (first|(with_reducible first|refine zac yU yU yE ?_|refine zab ?_|refine DS.seq ?_|refine zaa ?_)|fail)
 refine DS.call (dst:=some 25) [] [] inferInstance (ymm nums 12 (by omega)) yR yH (fun _ _ e=>by cases e) (fun _ _ e=>by cases e) ?_
 rintro v S0 ⟨bs,x,ids,rfl,rfl,hcm⟩ -
 refine zet (S':= []) (fun _ _ e=>by cases e) ?_
 generalize (zev (newX nums) 3).1=c at hz hcm hc h0 ⊢
 have hsm:=hz.small
 have htb:=hz.tab
 have hid:=hz.in64
 have hsz:=hz.size
 have hml:=hz.mem
 have hlen:=hcm.len
 have hib: ∀x∈ids,0≤x∧x≤1000:=fun x hx=>by
  have h1:=hcm.sub.subset hx
  rw[zcv,if_neg (by omega),if_neg (by omega),zdn]at h1
  obtain⟨m,hm,rfl⟩:=List.mem_map.1 h1
  have:=hz.id m (List.mem_filter.1 hm).1
  omega
 have hmb: ∀m∈c.members,0≤m.id∧m.id≤1000:=fun m hm=>by have:=hz.id m hm;omega
 have htt: ∀s∈c.rounds,∀t∈s.tables,∀x∈t,0≤x∧x≤1000:=fun s hs t ht x hx=>by have:=(hz.round s hs).ids t ht x hx;omega
 have hrn:=yhu c hsm h0 hmb htt
 have ho:=zxf ids (by omega) hib
 have hck:=ztt hc
 have hsm2:=yoe hsm
 have htb2:zyh c.rn:=fun s hs t ht x hx=>by
  obtain⟨s,hs',rfl⟩:=List.mem_map.1 (show s∈c.rounds.map Sitting.rn from hs)
  obtain⟨t,ht',rfl⟩:=List.mem_map.1 (show t∈s.tables.map _ from ht)
  obtain⟨x,hx',rfl⟩:=List.mem_map.1 hx
  have:=htt s hs' t ht' x hx'
  unfold In64 rnI;omega
 have hid2: ∀m∈c.rn.members,In64 m.id:=fun m hm=>by
  obtain⟨m,hm',rfl⟩:=List.mem_map.1 (show m∈c.members.map Member.rn from hm)
  have:=hmb m hm'
  unfold In64 Member.rn rnI;dsimp only;omega
 have hl2:c.rn.members.length=c.members.length:=List.length_map _
 have hnx:=zxh c hsm htb hid ids (by omega)
 have hnx2:=zxh c.rn hsm2 htb2 hid2 (ids.map rnI) (by rw[List.length_map];omega)
 rw[yoz hc]at hnx2
 have hpl:=yey c hsm htb hid 2 100 ⟨by unfold In64;omega,by unfold In64;omega⟩
 have hpl2:=yey c.rn hsm2 htb2 hid2 2 100 ⟨by unfold In64;omega,by unfold In64;omega⟩
 rw[yov hc]at hpl2
 have hst:=zza c hsm (by omega) (zzb (by omega)) hc h0
 have hst2:=zza c.rn hsm2 (by omega) (zzb (by omega)) hck (by omega)
 rw[yjk]at hst2
 have r3:(zkh c).length=c.members.length:=by rw[zkh,zpo,zzc,List.length_map]
 have rid: ∀r∈zkh c,0≤r.id∧r.id≤1000:=fun r hr=>by
  have p1:=yhk c (·.id) fun _ _=>rfl
  have h1:=p1.mem_iff.1 (List.mem_map.2 ⟨r,hr,rfl⟩)
  obtain⟨m,hm,e⟩:=List.mem_map.1 h1
  rw[zxc]at e
  rw[←e];exact hmb m hm
 have tb: ∀t∈(zge c ids).1,∀x∈t,0≤x∧x≤1000:=zzy c ids hib
 have tl:(zge c ids).1.length≤1000:=by have:=zzx c ids;omega
 have hasc:ids.Pairwise (· < ·):=by
  have h1:=hcm.sub
  rw[zcv,if_neg (by omega),if_neg (by omega)]at h1
  exact List.Pairwise.sublist h1 (znw (yri hc).1 _)
 have tl2: ∀t∈(zge c ids).1,t.length≤1000:=fun t ht=>by
  by_cases h:(zge c ids).2=0
  ·have h2:=((zsb (by omega) hasc h).2.len t ht)
   omega
  ·rw[yko h]at ht;cases ht
 generalize zkh c=R at *
 generalize zge c ids=N at *
 generalize zrv c 2 100=P1 at *
 generalize (zrv c.rn 2 100).1=P2 at *
 obtain⟨T,e⟩:=N
 obtain⟨A,w,st,er⟩:=P1
 dsimp only at hnx hnx2 hpl hpl2 tb tl tl2
 clear hck hcm hz hib hmb htt htb htb2 hid hid2
 simp only[zco]
 repeat' (first|with_reducible refine zac yU yU yE ?_|fail)
 refine zej yR yU yU (fun b4 h4=>?_)
 clear h4
 have e0:(Value.agg #[.int .i64 0, .int .i64 0, .int .i64 0, .int .i64 0, .slice none 0 0, .bool false, .slice none 0 0, .slice none 0 0]).cells.toList.map V.v=zds:=rfl
 rw[e0]
 repeat' (first|(with_reducible first|refine zac yU yU yE ?_|refine zab ?_|refine DS.seq ?_|refine zaa ?_)|(refine zhh (t:=6) yU yE yU (fun _=>yE) yE yU (by exact⟨by with_unfolding_all rfl,by with_unfolding_all decide⟩) (fun _=>by simp only[go_sem,Nat.reduceEqDiff,↓reduceIte]) ?_;simp only[go_sem])|refine zcd inferInstance (hrn) yR yT ?_|(refine DS.store yR yE yE yE yE yU (by exact⟨by with_unfolding_all rfl,by(try simp only[List.length_map,List.length_append,List.length_set,List.length_replicate,List.length_cons,List.length_nil]);omega⟩) ?_;simp only[zbo,zau,zaw,zbw,zbm,zbk,zbl];try simp only[zam,zaf,zag,Nat.reduceEqDiff,↓reduceIte,zaj,zak,zap,zai,zah,zan,zal])|fail)
 clear e0
 refine yiw (dst:=some 34) inferInstance hnx yR yH ?_
 simp only[zco]
 repeat' (first|(with_reducible first|refine zac yU yU yE ?_|refine zab ?_|refine DS.seq ?_)|fail)
 simp only[setS,↓reduceIte]
 repeat' (first|refine zch (id:=4) [0,1,2,3,4,5,6,7] 8 (by kernel_rfl) zdq (by simp only[zba,zbg,zbh,zbi,zaz];exact rfl) (by simp only[zax,zay,List.drop_nil];exact rfl) ?_|with_reducible refine zbz yU yU yU yE ?_|fail)
 refine zml inferInstance ho yR yH ?_
 simp only[zca,zck,Nat.reduceEqDiff,↓reduceIte]
 refine zml inferInstance hnx2 yR yH ?_
 simp only[zca,zck,Nat.reduceEqDiff,↓reduceIte]
 repeat' (first|(with_reducible first|refine zac yU yU yX50 ?_|refine zab ?_|refine DS.seq ?_|refine zaa ?_|(refine zbc yX50 ?_;refine zdd ?_)|(refine zea yU yX50 ?_;refine GG.run ?_)|refine DS.block ?_|refine DS.skip ?_|refine zkc yU yU yU yU yX50 ?_|refine zdc ?_)|fail)
 clear ho hnx hnx2 hrn
 all_goals first|(exfalso;omega)|skip
 refine zcl [4,6,7,9] yN (fun(i:Nat)=> [(11,I i)]) (fun(i:Nat)=>i≤T.length) (fun(i:Nat)=>T.length-i) 0 yS (Nat.zero_le _) (fun i B hI hB=>?_);try dsimp only at hI hB;simp only[zar,zav]
 by_cases hi:(i:Int)<(T.length:Int)
 ·have hi':i<T.length:=by omega
  have ho:=zxf T[i] (Nat.le_trans (tl2 _ (List.getElem_mem hi')) (by decide)) (tb _ (List.getElem_mem hi'))
  have hE:=zsq (T[i].map rnI) (T[i].map rnI)
  rw[decide_eq_true rfl]at hE
  repeat' (first|(with_reducible first|refine zac yU yU yX51 ?_|refine zab ?_|refine DS.seq ?_|refine zaa ?_|(refine zbc yX51 ?_;first|refine zdb ?_|refine zdd ?_)|refine DS.blk ?_|refine DS.block ?_|refine DS.skip ?_)|refine zcd inferInstance (hE) yR yX52 ?_|refine zch (id:=10) [0,1,2,3,4,5,6,7,8] 9 (by kernel_rfl) zdq (by simp only[zba,zbg,zbh,zbi,zaz];exact rfl) (by simp only[zax,zay,List.drop_nil];exact rfl) ?_|(with_reducible first|refine zbz yU yU yU yX51 ?_|refine zdc ?_)|refine zml inferInstance (ho) yU yX52 ?_;simp only[zca,zck,Nat.reduceEqDiff,↓reduceIte]|fail)
  refine DS.back (hB (i+1) _ _ (by omega) (by omega) yS yS (fun d o e=>by exact e))
 ·repeat' (first|(with_reducible first|refine zac yU yU yX50 ?_|refine zab ?_|refine DS.seq ?_|refine zaa ?_|(refine zbc yX50 ?_;refine zdd ?_)|refine DS.exit yU ?_)|fail)
  clear tb tl2 hB
  refine yiw (dst:=some 73) inferInstance hpl yR yH ?_
  simp only[zco]
  repeat' (first|(with_reducible first|refine zac yU yU yE ?_|refine zab ?_|refine DS.seq ?_|refine zaa ?_)|fail)
  refine yiw (dst:=some 80) inferInstance hpl2 yR yH ?_
  simp only[zco]
  clear hpl hpl2
  repeat' (first|(with_reducible first|refine zac yU yU yE ?_|refine zab ?_|refine DS.seq ?_|refine zaa ?_|(refine zbc yE ?_;refine zdd ?_)|(refine zea yU yE ?_;refine GG.run ?_)|refine DS.skip ?_)|fail)
  all_goals first|(exfalso;omega)|skip
  refine yiw (dst:=some 100) inferInstance hst yR yH ?_
  simp only[zco]
  repeat' (first|(with_reducible first|refine zac yU yU yE ?_|refine zab ?_|refine DS.seq ?_|refine zaa ?_)|fail)
  refine yiw (dst:=some 105) inferInstance hst2 yR yH ?_
  simp only[zco]
  clear hst hst2
  repeat' (first|(with_reducible first|refine zac yU yU yX50 ?_|refine zab ?_|refine DS.seq ?_|refine zaa ?_|(refine zbc yX50 ?_;refine zdd ?_)|(refine zea yU yX50 ?_;refine GG.run ?_)|refine DS.block ?_|refine DS.skip ?_)|fail)
  all_goals first|(exfalso;omega)|skip
  refine zcl [20,21] yN (fun(i:Nat)=> [(22,I i)]) (fun(i:Nat)=>i≤R.length) (fun(i:Nat)=>R.length-i) 0 yS (Nat.zero_le _) (fun i B hI hB=>?_);try dsimp only at hI hB;simp only[zar,zav]
  by_cases hi2:(i:Int)<(c.members.length:Int)
  ·have hi':i<R.length:=by omega
   have hw:=ycp (rid _ (List.getElem_mem hi'))
   have hw2:(R[i].rn).id=rnI R[i].id:=rfl
   have hw3:(R[i].rn).total=R[i].total:=rfl
   have hw4:(R[i].rn).place=R[i].place:=rfl
   have hw5:(R[i].rn).games=R[i].games:=rfl
   clear rid
   repeat' (first|(with_reducible first|refine zac yU yU yX51 ?_|refine zab ?_|refine DS.seq ?_|refine zaa ?_|(refine zbc yX51 ?_;first|refine zdb ?_|refine zdd ?_)|(refine zea yU yX51 ?_;refine GG.run ?_)|refine DS.blk ?_|refine DS.block ?_|refine DS.skip ?_)|refine zch (id:=23) [0,1,2,3,4,5,6,7,8,9,10,11,12,13,14,15,16,17,18,19,20,21,22,23,24,25,26,27,28,29,30,31,32,33,34,35,36,37,38,39,40,41,42,43,44,45,46,47,48,49] 50 (by kernel_rfl) zdq (by simp only[zba,zbg,zbh,zbi,zaz];exact rfl) (by simp only[zax,zay,List.drop_nil];exact rfl) ?_|(with_reducible first|refine zbz yU yU yU yX51 ?_|(refine zuj yU yX51 ?_;refine DGG.run ?_)|refine zdc ?_)|fail)
   refine DS.back (hB (i+1) _ _ (by omega) (by omega) yS yS (fun d o e=>by exact e))
  ·repeat' (first|(with_reducible first|refine zac yU yU yE ?_|refine zab ?_|refine DS.seq ?_|refine zaa ?_|(refine zbc yE ?_;refine zdd ?_)|refine DS.exit yU ?_)|refine zcd inferInstance (yqk) yR yT ?_|refine zbf [] yE trivial ?_|fail)
   all_goals rfl
theorem yae (x:Int):0<(zev x 3).1.members.length:=by
 have h1:=zqq x
 have h2:=zby (zdo x).2 (3-1+1)
 have h3:=zby (stepX (zdo x).2) 2
 have h4:1≤zcz (zdo x).2 1 3∧zcz (zdo x).2 1 3≤3:=by unfold zcz;omega
 have h5:3≤zgi x*zcz (zdo x).2 1 3:=by
  rcases h1 with h|h <;> rw[h] <;> omega
 have h6:=ziv (zgi x*zcz (zdo x).2 1 3+zao (stepX (zdo x).2) 2).toNat 0 (stepX (stepX (zdo x).2)) [] ⟨Int.le_refl _,fun m hm=>by cases hm⟩
 show 0<(zfp x).1.length
 rw[zfp,h6.1];simp only[List.length_nil];omega
theorem ybl (nums:List Int):PC Tryz.prog 7 [ints nums] (Bo true):=zyd nums (yae _)
end Go.XL
namespace Go.XL
open Go.Proofs Go.ChangeShapes Go.WideShapes Go.ChangeAt Go.RowKit
def hvW (W:World):VH:=fun b=>W.heap[b]?
def yum (W:World):Bs:=⟨fun b=>b<W.heap.size,W.heap,hvW W⟩
theorem stW (W:World):St (yum W) (hvW W) (fun _=>none) [] [] [] W.heap where
 pre:=fun b o e=>⟨o,e,leO.refl o⟩
 slot:=fun t v e=>by cases e
 obj:=fun b o e=>by cases e
 held:=fun g x e=>by cases e
 base:=⟨fun b h=>h,Nat.le_refl _,fun b _=>rfl⟩
 vbase:=⟨PreV.refl _,fun _ _=>rfl⟩
structure KeptW (W W':World):Prop where
 os:W'.os=W.os
 output:W'.output=W.output
 size:W.heap.size≤W'.heap.size
 old: ∀b,b<W.heap.size→W'.heap[b]?=W.heap[b]?
theorem PC.door {P:Program} {f:FuncId} {vs:List V} {xs:List Value} (h:PC P f vs (.v (.bool true))) (W:World) (hx:RlL (hvW W) vs xs) :
  Calls P f xs.toArray W fun e w'=>e = .returned (.bool true)∧KeptW W w':=by
 refine(h (hvW W) (yum W) (hvW W) (fun _=>none) W.heap xs (PreV.refl _) hx (stW W) W rfl).mono fun e w'=>?_
 rintro⟨y,rfl,⟨s1,s2,s3⟩,v,S',hv',hold',-,st,rfl⟩
 obtain⟨z,h1,h2,-⟩:=st.slot 0 (.v (.bool true)) rfl
 simp only[V.Rl]at h2
 subst h2
 have h3:look [(0,y)] 0=some y:=by simp[look]
 rw[h3]at h1
 cases h1
 exact⟨rfl,s1,s3,st.base.2.1,st.base.2.2⟩
theorem KeptW.keptBut {W W':World} (k:KeptW W W') (may:MemPlace→Prop):W.keptBut W' may:=by
 refine⟨k.os,k.output,fun i hi=>?_⟩
 rw[k.old i hi]
 generalize W.heap[i]?=o
 cases o with
 | none=>trivial
 | some o=>cases o <;> simp
theorem KeptW.cell {W W':World} (k:KeptW W W') {a:Addr} (h:a.block<W.heap.size):W'.cell? a=W.cell? a:=by
 unfold World.cell?
 rw[k.old _ h]
theorem KeptW.sameAt {W W':World} (k:KeptW W W') {p:MemPlace} (h:p.block<W.heap.size):W.sameAt W' p:=by
 cases p with
 | cell b off=>exact k.cell h
 | map b=>exact k.old _ h
section
variable {H:Type} {enc:TypeId×Value→H} {P:Program}
theorem zoc (hl:laidOutB P=true) {W W':World} {sp:Nat→Bool}: ∀{ts:List TypeId} {vs:List Value} {ds:List (DataW H)} {ps:List MemPlace},(∀t∈ts,P.readableRec t=true∧t<P.types.size) →
  DataW.TrodAll enc P W 0 (fun _=>true) true ts vs ds ps→(∀p∈ps,W.sameAt W' p)→(∀p∈ps,sp p.block=true)→DataW.TrodAll enc P W' 0 sp true ts vs ds ps
 | [],vs,ds,ps,_,h,_,_=>by
  obtain⟨rfl,rfl,rfl⟩:=trodAll_nil h
  rfl
 | t::ts,vs,ds,ps,ht,h,h1,h2=>by
  obtain⟨v,vs',d,ds',p,q,rfl,rfl,rfl,h3,h4⟩:=trodAll_cons h
  obtain⟨r1,r2⟩:=ht t (List.mem_cons_self ..)
  exact⟨p,q,WideElems.Trod_stays hl r1 r2 h3 (fun x hx=>h1 x (List.mem_append_left _ hx)) (fun x hx=>h2 x (List.mem_append_left _ hx)),
   zoc hl (fun t h=>ht t (List.mem_cons_of_mem _ h)) h4 (fun x hx=>h1 x (List.mem_append_right _ hx)) (fun x hx=>h2 x (List.mem_append_right _ hx)),rfl⟩
theorem you {f:Func} {s:ChangeSpec} {apart fresh handsOn:Bool} {W W':World} {args:Array Value} {ds gs:List (DataW H)} {before:List MemPlace} {tb:TypeId}
  (hW:DataW.Whole enc P f.params.toList s.vars apart W args.toList ds gs before) (hv:s.vars= []) (hs:s.fn H ds={results:= [.lit (.bool true)],args:=ds})
  (hrt:f.resultTypes= #[tb]) (hb:P.underlying tb=some .bool) (hl:laidOutB P=true) (hr: ∀t∈f.params.toList,P.readableRec t=true∧t<P.types.size) (k:KeptW W W') :
  s.post enc P f apart fresh handsOn false W args (.bool true) W':=by
 have hlt:=fun p hp=>hW.lt (p:=p) hp
 have hW':=hW
 obtain⟨p,q,hA,hV,rfl,-,-⟩:=hW
 rw[hv]at hV
 obtain⟨rfl,rfl⟩:=trodVars_none hV
 refine⟨ds,[],p++ [],[],p,[],hW',?_,?_,?_,k.keptBut _,fun h=>by cases h⟩
 ·rw[List.append_nil,hs,hrt]
  exact trodAll_mk1 (shut_bool hb _)
 ·rw[List.append_nil,hs]
  exact zoc hl hr hA (fun x hx=>k.sameAt (hlt x (by simpa using hx))) (fun x hx=>by simpa using hlt x (by simpa using hx))
 ·rw[List.append_nil,hs,hv]
  rfl
def ytc (P:Program) (W:World) (H:Type) (enc:TypeId×Value→H) (t:TypeId) {α:Type} (f:α→List V) (G:α→Prop):Prop :=
 ∀fuel cs x,DataW.trod enc P W 0 (fun _=>true) true fuel t cs=some x→ ∃a,RlL (hvW W) (f a) cs∧(∀u∈cs,u.oneCell'=true)∧G a
variable {W:World} {t e:TypeId}
theorem ykm {k:IntKind} (ht:P.underlying t=some (.int k)):ytc P W H enc t (fun n:Int=> [.v (.int k n)]) (fun n=>(Lit.int k n).wf=true):=by
 intro fuel cs x h
 obtain⟨n,rfl,-,hw⟩:=DataW.trod_int ht h
 exact⟨n,by simp[RlL,V.Rl],by simp[Value.oneCell'],hw⟩
theorem RlL.len {hv:VH}: ∀{vs:List V} {cs:List Value},RlL hv vs cs→vs.length=cs.length
 | [],_,h=>by simp only[RlL]at h;subst h;rfl
 | v::vs,cs,h=>by
  simp only[RlL]at h
  obtain⟨z,zs,rfl,-,h⟩:=h
  simp[RlL.len h]
theorem RlL.one {hv:VH} {v:V} {y:Value} (h:v.Rl hv y):RlL hv [v] [y]:=by
 simp only[RlL];exact⟨y,[],rfl,h,rfl⟩
theorem yrh {a:Addr} {m:Nat}: ∀{vs:List V} {cs:List Value} {i:Nat},RlL (hvW W) vs cs→(∀u∈cs,u.oneCell'=true)→(∀j,j<cs.length→W.cell? (a.add (i+j))=cs[j]?)→RlC (hvW W) (some a) i vs
 | [],_,_,_,_,_=>by simp only[RlC]
 | v::vs,cs,i,h,h1,h2=>by
  simp only[RlL]at h
  obtain⟨z,zs,rfl,h3,h4⟩:=h
  simp only[RlC]
  refine⟨⟨z,?_,h3,h1 z (List.mem_cons_self ..)⟩,yrh (m:=m) h4 (fun u hu=>h1 u (List.mem_cons_of_mem _ hu)) fun j hj=>?_⟩
  ·have:=h2 0 (by simp)
   rw[Nat.add_zero]at this
   exact this
  ·have:=h2 (j+1) (by simpa using hj)
   rw[show i+1+j=i+(j+1) by omega,this]
   rfl
theorem yrg {a:Addr} {sz:Nat}: ∀{l:List (List V)} {i:Nat},(∀(j:Nat) (h:j<l.length),l[j].length=sz∧RlC (hvW W) (some a) (i+j*sz) l[j])→RlE (hvW W) (some a) i l
 | [],_,_=>by simp only[RlE]
 | c::l,i,h=>by
  simp only[RlE]
  have h0:=h 0 (by simp)
  simp only[Nat.zero_mul,Nat.add_zero,List.getElem_cons_zero]at h0
  refine⟨h0.2,yrg (sz:=sz) fun j hj=>?_⟩
  have h1:=h (j+1) (by simpa using hj)
  simp only[List.getElem_cons_succ]at h1
  refine⟨h1.1,?_⟩
  have e:i+c.length+j*sz=i+(j+1)*sz:=by rw[h0.1,Nat.add_mul,Nat.one_mul];omega
  rw[e]
  exact h1.2
theorem zts {α β:Type} {R:Nat→α→Prop}: ∀(n:Nat),(∀i,i<n→ ∃a,R i a)→ ∃l:List α,l.length=n∧ ∀(i:Nat) (h:i<l.length),R i l[i]
 | 0,_=>⟨[],rfl,fun i h=>by cases h⟩
 | n+1,h=>by
  obtain⟨l,h1,h2⟩:=zts (β:=β) n fun i hi=>h i (by omega)
  obtain⟨a,ha⟩:=h n (by omega)
  refine⟨l++ [a],by simp[h1],fun i hi=>?_⟩
  rw[List.length_append,List.length_singleton]at hi
  by_cases h3:i<l.length
  ·rw[List.getElem_append_left h3];exact h2 i h3
  ·obtain rfl:i=l.length:=by omega
   simp only[List.getElem_concat_length]
   rw[h1];exact ha
theorem ycv {α:Type} {f:α→List V} {G:α→Prop} {sz:Nat} (ht:P.underlying t=some (.slice e)) (hc:P.cellsOf e=sz) (h:ytc P W H enc e f G) :
  ytc P W H enc t (fun l:List α=> [.lst (l.map f)]) (fun l=> ∀a∈l,G a):=by
 intro fuel cs x hx
 rcases DataW.trod_slice ht hx with⟨rfl,-⟩|⟨a,len,cap,elems,rest,n,rfl,rfl,-,-,h1,h2,h3,h4,-,-⟩
 ·refine⟨[],?_,by simp[Value.oneCell'],fun a h=>by cases h⟩
  simp only[RlL,V.Rl,List.map_nil]
  exact⟨_,[],rfl,⟨none,0,0,rfl,Nat.le_refl _,Nat.zero_le _,(fun c h=>by cases h),by simp only[RlE]⟩,rfl⟩
 ·obtain⟨l,hl,hk⟩:=zts (β:=Unit) (R:=fun i y=> ∃cs,W.cells? 0 (a.add (i*sz)) sz=some cs∧RlL (hvW W) (f y) cs∧(∀u∈cs,u.oneCell'=true)∧G y) len (fun i hi=>by
   have h5:=h4 i hi
   rw[List.getElem?_eq_getElem (by omega),Option.bind_eq_some_iff,hc]at h5
   obtain⟨cs,h6,h7⟩:=h5
   obtain⟨y,h8,h9,h10⟩:=h _ _ _ h7
   exact⟨y,cs,h6,h8,h9,h10⟩)
  have hlen: ∀y∈l,(f y).length=sz:=fun y hy=>by
   obtain⟨i,hi,rfl⟩:=List.mem_iff_getElem.1 hy
   obtain⟨cs,k1,k2,-,-⟩:=hk i hi
   rw[k2.len,(World.cells?_some k1).2.1]
  refine⟨l,?_,by simp[Value.oneCell'],fun y hy=>?_⟩
  ·simp only[RlL,V.Rl]
   refine⟨_,[],rfl,⟨some a,cap,sz,by rw[List.length_map,hl],by rw[List.length_map,hl];exact h1,h2,fun c hc=>?_,yrg (sz:=sz) fun j hj=>?_⟩,rfl⟩
   ·obtain⟨y,hy,rfl⟩:=List.mem_map.1 hc
    exact hlen y hy
   ·rw[List.length_map]at hj
    rw[List.getElem_map]
    obtain⟨cs,k1,k2,k3,k4⟩:=hk j hj
    obtain⟨-,k5,k6⟩:=World.cells?_some k1
    refine⟨hlen _ (List.getElem_mem hj),yrh (m:=sz) k2 k3 fun i hi=>?_⟩
    rw[Nat.zero_add,←ynb]
    exact k6 i (by omega)
  ·obtain⟨i,hi,rfl⟩:=List.mem_iff_getElem.1 hy
   obtain⟨cs,-,-,-,k4⟩:=hk i hi
   exact k4
end
end Go.XL
namespace Go.Proofs.YtlcigmnkfilebaaGreat
open Go.XL Go.ChangeShapes Go.WideShapes Go.ChangeAt Go.RowKit
theorem own : ownKnob Tryz.prog.godebug = none := by kernel_rfl
theorem laid : laidOutB Tryz.prog = true := by kernel_rfl
set_option maxRecDepth 100000 in
theorem zqo (os : Os) (started : os.Started) (H : Type) (enc : TypeId × Value → H) :
  ReturnsInHanded {} Tryz.checked os 7 .any (Rows.clubNamesSpec.pre6 enc Tryz.prog Tryz.f7 Rows.clubNamesRow.domain false) (Rows.clubNamesSpec.post enc Tryz.prog Tryz.f7 false true false false) := by
 refine returnsInHanded_of_change (C := Tryz.checked) own started (by kernel_rfl) Tryz.func7
  (ChangeSpec.witness6 (enc := enc) (C := Tryz.checked) false ⟨#[], #[.slice none 0 0], []⟩ 8 (by kernel_rfl) (by kernel_rfl) (by kernel_rfl) (by kernel_rfl)) ?_
 intro W base args ds gs before hval0 hW hcnd _
 have hW' := hW
 obtain ⟨p, q, hA, -, -, -, -⟩ := hW'
 have hval : ∀ (j : Nat) t v, Tryz.f7.params[j]? = some t → args[j]? = some v → Value.okWide Tryz.prog W .any base t v := hval0
 have hA1 : DataW.TrodAll enc Tryz.prog W 0 (fun _ => true) true Tryz.f7.params.toList args.toList ds p := hA
 rw [Tryz.params7] at hA1 hval
 obtain ⟨v0, vs0, d0, ds0, p0, q0, hargs, rfl, -, h0, r0⟩ := trodAll_cons hA1
 obtain ⟨rfl, rfl, -⟩ := trodAll_nil r0
 obtain rfl : args = #[v0] := by cases args; simp_all
 obtain ⟨a0, len0, cap0, rfl⟩ := okWide_slice Tryz.underlying22 (hval 0 22 v0 rfl rfl)
 obtain ⟨fuel0, hf0⟩ := h0
 obtain ⟨x0, e0, -, w0⟩ := ycv (sz := 1) Tryz.underlying22 (by kernel_rfl) (ykm Tryz.underlying3) _ _ _ hf0
 refine (PC.door (ybl x0 ) W (xs := [.slice a0 len0 cap0]) e0).mono fun e W' ⟨he, k⟩ => ⟨_, he, ?_⟩
 exact you hW rfl rfl rfl Tryz.underlying4 laid (by rw [show Tryz.f7.params = _ from Tryz.params7]; intro t ht; simp only [List.mem_cons, List.not_mem_nil, or_false] at ht; rcases ht with rfl <;> exact ⟨by kernel_rfl, of_decide_eq_true (by kernel_rfl)⟩) k
theorem clubNames_holds : Rows.ClubNamesSaid :=
 OpenClaim.holds_of_wide 7 Tryz.f7 rfl rfl rfl rfl rfl rfl rfl ⟨rfl, rfl, rfl, rfl, rfl⟩ rfl rfl rfl rfl rfl (by kernel_rfl) Tryz.func7 (by kernel_rfl)
  (of_decide_eq_true (by kernel_rfl)) (by unfold Func.isWrapper; first | (rw [if_pos (by decide +kernel)]; kernel_rfl) | (rw [if_neg (by decide +kernel)]; exact ⟨rfl, rfl⟩))
  (fun os started H enc _ => zqo os started H enc)
end Go.Proofs.YtlcigmnkfilebaaGreat
