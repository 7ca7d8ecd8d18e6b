/- A part of a program logic over the kit's walk rules, and contracts of functions in it. Conditions: as each theorem says. -/
import Derived.Test.YtbpadjoiiofjnaaGreatR3
set_option linter.all false
namespace Go.XL
open Go.Proofs
set_option maxRecDepth 100000
set_option maxHeartbeats 4000000
theorem zns {α:Type} {l m:List α} {i:Nat} (h:l.take i=m.take i) (hl:i<l.length) (hm:i<m.length) (e:l[i]=m[i]):l.take (i+1)=m.take (i+1):=by
 rw[List.take_succ_eq_append_getElem hl,List.take_succ_eq_append_getElem hm,h,e]
theorem zwk {α:Type} {l m:List α} {i:Nat} (h:l.take i=m.take i) (hl:l.length≤i) (hm:m.length≤i):l=m:=by
 rwa [List.take_of_length_le hl,List.take_of_length_le hm]at h
theorem ztb (l:List Int) (h:l.length≤2147483647):PC Tryz.prog 33 [ints l] (.own false 3 1 (l.map cI)):=by
 refine DC.of_run Tryz.func33 rfl Tryz.ntmps33 Tryz.results33 (by simp) (fun _ _=>?_);simp only[zad,zaf,go_sem,Nat.zero_add,Nat.reduceAdd]
 repeat' (first|with_reducible (refine zch (t:=2) yU yO yE ?_)|(with_reducible refine zcm (t:=2) yU yO yE ?_;simp only[yS2,Nat.reduceEqDiff,↓reduceIte])|refine yJ ?_|(refine DS.append (mm:=false) yU yE yE yU (by decide) yE yO2 yE yX0 yLM yQ2 ?_;simp only[yS2,Nat.reduceEqDiff,↓reduceIte])|refine zak [] yE trivial ?_|fail)
 rfl
theorem ycq (a b:List Int):PC Tryz.prog 52 [ints a,ints b] (Bo (decide (a=b))):=by
 refine DC.of_run Tryz.func52 rfl Tryz.ntmps52 Tryz.results52 (by simp) (fun _ _=>?_);simp only[zad,zaf,go_sem,Nat.zero_add,Nat.reduceAdd]
 refine zir (t:=0) yG (.inl rfl) (fun hb0=>?_);simp only[List.length_map]at hb0
 repeat' (first|refine yJ ?_|(with_reducible (refine zau yE ?_;refine zeu (fun _=>?_) (fun _=>?_)))|refine zak [] yE trivial ?_|fail)
 ·rename_i h;have:a≠b:=fun e=>by subst e;exact h rfl
  simp[tupV,this]
 refine zbe [0,1] yN (fun(i:Nat)=> [(5,I i)]) (fun(i:Nat)=>i≤a.length∧a.take i=b.take i) (fun(i:Nat)=>a.length-i) 0 yS (by simp) (fun i B hI hB=>?_);try dsimp only at hI hB;simp only[zae,zag]
 repeat' (first|refine yJ ?_|(with_reducible (refine zau yE ?_;first|refine zeu (fun _=>?_) (fun _=>?_)|refine zcx (fun _=>?_) (fun _=>?_)))|refine zba (id:=6) [0,1,2,3,4,5,6,7] 8 yKR mixed yP1 yP2 ?_|(with_reducible first|refine zaq yU yU yU yE ?_|refine zbq ?_)|refine zak [] yE trivial ?_|fail)
 ·rename_i h1 h2
  have:a≠b:=fun e=>h2 (by subst e;rfl)
  simp[tupV,this]
 ·rename_i h1 h2
  exact DS.back (hB (i+1) _ _ (by omega) (⟨by omega,zns hI.2 (by omega) (by omega) h2⟩) yS yS (fun b o e=>by first|exact e|(simp only[zab];split <;> simp_all)))
 ·rename_i h1
  have:=zwk hI.2 (by omega) (by omega)
  simp[tupV,this]
theorem ybw (a b:List (List Int)):PC Tryz.prog 73 [rows a,rows b] (Bo (decide (a=b))):=by
 refine DC.of_run Tryz.func73 rfl Tryz.ntmps73 Tryz.results73 (by simp) (fun _ _=>?_);simp only[zad,zaf,go_sem,Nat.zero_add,Nat.reduceAdd]
 refine zir (t:=0) yG (.inl rfl) (fun hb0=>?_);simp only[List.length_map]at hb0
 repeat' (first|refine yJ ?_|(with_reducible (refine zau yE ?_;refine zeu (fun _=>?_) (fun _=>?_)))|refine zak [] yE trivial ?_|fail)
 ·rename_i h;have:a≠b:=fun e=>by subst e;exact h rfl
  simp[tupV,this]
 refine zbe [0,1] yN (fun(i:Nat)=> [(5,I i)]) (fun(i:Nat)=>i≤a.length∧a.take i=b.take i) (fun(i:Nat)=>a.length-i) 0 yS (by simp) (fun i B hI hB=>?_);try dsimp only at hI hB;simp only[zae,zag]
 repeat' (first|refine yJ ?_|(with_reducible (refine zau yE ?_;first|refine zeu (fun _=>?_) (fun _=>?_)|refine zcx (fun _=>?_) (fun _=>?_)))|refine zan inferInstance (ycq _ _) yR yT ?_|refine zba (id:=6) [0,1,2,3,4,5,6,7] 8 yKR mixed yP1 yP2 ?_|(with_reducible first|refine zaq yU yU yU yE ?_|refine zbq ?_)|refine zak [] yE trivial ?_|fail)
 ·rename_i h1 h2
  have:a≠b:=fun e=>h2 (by subst e;rfl)
  simp[tupV,this]
 ·rename_i h1 h2
  exact DS.back (hB (i+1) _ _ (by omega) (⟨by omega,zns hI.2 (by omega) (by omega) h2⟩) yS yS (fun b o e=>by first|exact e|(simp only[zab];split <;> simp_all)))
 ·rename_i h1
  have:=zwk hI.2 (by omega) (by omega)
  simp[tupV,this]
theorem zys (a b:List (List Int)):PC Tryz.prog 29 [rows a,rows b] (Bo (decide (a=b))):=by
 refine DC.of_run Tryz.func29 rfl Tryz.ntmps29 Tryz.results29 (by simp) (fun _ _=>?_);simp only[zad,zaf,go_sem,Nat.zero_add,Nat.reduceAdd]
 repeat' (first|refine yJ ?_|refine zan inferInstance (ybw _ _) yR yT ?_|refine zak [] yE trivial ?_|fail)
 rfl
end Go.XL
namespace Go.XL
open Go.Proofs
set_option maxRecDepth 100000
set_option maxHeartbeats 4000000
theorem zfh {α β:Type} (f:α→β) (l:List α):(l.map f).take l.length=l.map f:=List.take_of_length_le (by simp)
theorem zhh {α β:Type} (f:α→β) (l:List α) (n:Nat):(l.map f).drop n=(l.drop n).map f:=by rw[List.map_drop]
theorem yag {st:List Int→Int→Bool} {f:List Int→List Int→List (List Int)} {t l:List Int} {i:Nat} (h:i<l.length):zez st f t (l.drop i)=(if st t l[i]=true then(f (t++ [l[i]]) (l.drop (i+1))).map (l[i]:: ·)else [])++zez st f t (l.drop (i+1)):=by
 rw[List.drop_eq_getElem_cons h,zez]
theorem zss (st:List Int→Int→Bool): ∀(n:Nat) (t ids:List Int),∀x∈zgb st n t ids,x.length=n∧ ∀a∈x,a∈ids
 | 0,t,ids,x,h=>by simp only[zgb,List.mem_singleton]at h;subst h;simp
 | n+1,t,ids,x,h=>by
  have key: ∀l:List Int,∀x∈zez st (zgb st n) t l,x.length=n+1∧ ∀a∈x,a∈l:=by
   intro l
   induction l with
   | nil=>intro x h;simp[zez]at h
   | cons id r ih =>
    intro x h
    simp only[zez,List.mem_append]at h
    rcases h with h|h
    ·split at h
     ·obtain⟨y,hy,rfl⟩:=List.mem_map.1 h
      obtain⟨h1,h2⟩:=zss st n _ _ y hy
      refine⟨by simp[h1],fun a ha=>?_⟩
      rcases List.mem_cons.1 ha with rfl|ha
      ·exact List.mem_cons_self ..
      ·exact List.mem_cons_of_mem _ (h2 a ha)
     ·simp at h
    ·obtain⟨h1,h2⟩:=ih x h
     exact⟨h1,fun a ha=>List.mem_cons_of_mem _ (h2 a ha)⟩
  exact key ids x h
theorem yX7 {p:Prop} (h:p:=by(simp (disch:=omega) only[go_sem,dopV,yV0,↓reduceIte,Nat.reduceEqDiff,Nat.reduceLT,Nat.reduceLeDiff,Nat.reduceAdd,Nat.reduceMul,Nat.reduceSub,Int.reduceToNat,Int.reduceLT,Int.reduceLE,Int.reduceEq,IntWalk.toNatUp,IntWalk.iteOmega,IntWalk.i64_in,V.flat,V.one, *,List.forall_mem_map,implies_true,zfh];exact rfl)):p:=h
theorem yld (S:Sto) {bx bp R:Nat} {c:Club} {rs:List (List Int)} {bs:List Nat} {budget steps:Int} {met:Int→Int→Bool} (hs:c.Small)
  (hx:zaa S bx=some (.cells (sC c rs bp R (.own false 160 1 (bs.map (rowC c.members.length))) budget steps) 151)) (hm:MetR S bs c met) :
  ∀(n:Nat) (t ids:List Int),n≤4→ids.length≤40→t.length≤100-n→(∀a∈t,¬zhg c a<0)→(∀a∈ids,¬zhg c a<0) →
  RC Tryz.prog 131 [.v (.pointer (some ⟨bx,0,none⟩)),ints t,ints ids,I n] S (.own false 22 1 ((zgb (zav met) n t ids).map cR))
 | 0,t,ids,hn,hl,htl,ht,hi=>by
  show RC Tryz.prog 131 [.v (.pointer (some ⟨bx,0,none⟩)),ints t,ints ids,I 0] S _
  refine DC.of_run Tryz.func131 rfl Tryz.ntmps131 Tryz.results131 (by simp) (fun _ _=>?_);simp only[zad,zaf,go_sem,Nat.zero_add,Nat.reduceAdd]
  repeat' (first|with_reducible (refine zch (t:=8) yU yO yE ?_)|(with_reducible refine zcm (t:=8) yU yO yE ?_;simp only[yS2,Nat.reduceEqDiff,↓reduceIte])|refine yJT ?_|(refine zdq yU yE yE ?_;simp only[go_sem,Nat.zero_add,Nat.reduceAdd])|fail)
  refine yvb (t:=8) yG ?_
  refine zay yG ⟨?_,rfl⟩
  rfl
 | n+1,t,ids,hn,hl,htl,ht,hi=>by
  have ih:=yld S hs hx hm n
  have hlen:(zgb (zav met) (n+1) t ids).length≤41 ^ 4:=Nat.le_trans (zst _ _ _ _) (Nat.le_trans (Nat.pow_le_pow_left (show ids.length+1≤41 by omega) _) (Nat.pow_le_pow_right (by omega) hn))
  have hne: ¬(((n+1:Nat):Int)=0):=by omega
  have hsub:((n+1:Nat):Int)-1=n:=by omega
  refine DC.of_run Tryz.func131 rfl Tryz.ntmps131 Tryz.results131 (by simp) (fun _ _=>?_);simp only[zad,zaf,go_sem,Nat.zero_add,Nat.reduceAdd]
  repeat' (first|(with_reducible first|(refine zch (t:=8) yU yO yE ?_)|(refine zch (t:=9) yU yO yE ?_))|refine yJT ?_|fail)
  refine zbe [0,1,2,3] yN (fun(i:Nat×List (List Int))=> [(9, .own false 22 1 (i.2.map cR)),(10,I i.1)]) (fun(i:Nat×List (List Int))=>i.1≤ids.length∧i.2++zez (zav met) (zgb (zav met) n) t (ids.drop i.1)=zgb (zav met) (n+1) t ids) (fun(i:Nat×List (List Int))=>ids.length-i.1) (0,[]) yS (by simp[zgb]) (fun i B hI hB=>?_);try dsimp only at hI hB;simp only[zae,zag]
  repeat' (first|(with_reducible refine zcm (t:=8) yU yO yE ?_;simp only[yS2,Nat.reduceEqDiff,↓reduceIte])|(with_reducible refine zcm (t:=64) yU yO yE ?_;simp only[yS2,Nat.reduceEqDiff,↓reduceIte])|refine yJ ?_|(with_reducible (refine zau yE ?_;first|refine zcx (fun _=>?_) (fun _=>?_)|refine yji (fun _=>?_) (fun _=>?_)))|refine zhj inferInstance (ytb S hs hx hm t (ids[i.1]'(by omega)) ht (hi _ (List.getElem_mem (by omega)))) yR yT ?_|refine zba (id:=8) [0,1,2,3,4,5,6,7,8,9,10,11,12,13,14] 15 yKR mixed yP1 yP2 ?_|with_reducible refine zaq yU yU yU yE ?_|refine zuo inferInstance (ztb t (by omega)) yU yT ?_;simp only[zat,zbc,Nat.reduceEqDiff,↓reduceIte]|(refine zfk yU yE yE ?_;simp only[go_sem,Nat.zero_add,Nat.reduceAdd];simp only[zat,zbc,Nat.reduceEqDiff,↓reduceIte])|(refine DD.append (mm:=false) yU yE yE yU (by decide) yE yO2 yE yX0 yLM yQ2 ?_;simp only[yS2,Nat.reduceEqDiff,↓reduceIte];simp only[zat,zbc,Nat.reduceEqDiff,↓reduceIte])|refine zay yE ⟨?_,rfl⟩|fail)
  ·have hlr:(ids.drop (i.1+1)).length≤40:=by simp;omega
   have htr: ∀a∈t++ [ids[i.1]'(by omega)],¬zhg c a<0:=fun a ha=>by
    rcases List.mem_append.1 ha with ha|ha
    ·exact ht a ha
    ·rw[List.mem_singleton.1 ha];exact hi _ (List.getElem_mem (by omega))
   have H:=And.intro (ih (t++ [ids[i.1]'(by omega)]) (ids.drop (i.1+1)) (by omega) hlr (by simp;omega) htr (fun a ha=>hi a (List.mem_of_mem_drop ha))) hlen
   clear ih htr hlen hlr
   repeat' (first|(with_reducible first|refine zaq yU yU yU yX7 ?_|refine zbq ?_)|fail)
   ·refine zhj inferInstance H.1 yR (by simp (disch:=omega) only[go_sem,dopV,yV0,↓reduceIte,Nat.reduceEqDiff,Nat.reduceLT,Nat.reduceLeDiff,Nat.reduceAdd,Nat.reduceMul,Nat.reduceSub,Int.reduceToNat,Int.reduceLT,Int.reduceLE,Int.reduceEq,IntWalk.toNatUp,IntWalk.iteOmega,IntWalk.i64_in,V.flat,V.one, *,zhh,List.map_append,ints]) ?_
    repeat' (first|refine yJ ?_|fail)
    rename_i hst
    have hB0:=hB
    have hI1:=hI.1
    have hI2:=hI.2
    rw[yag (by omega),if_pos hst]at hI2
    have hmem: ∀x∈zgb (zav met) n (t++ [ids[i.1]'(by omega)]) (ids.drop (i.1+1)),x.length=n:=fun x hx=>(zss _ _ _ _ x hx).1
    have hlen:=H.2
    rw[←hI2]at hlen
    clear hB H hI
    generalize zgb (zav met) n (t++ [ids[i.1]'(by omega)]) (ids.drop (i.1+1))=X at *
    simp only[List.length_append,List.length_map]at hlen
    refine zbe [0,1,2,3,10,11] yN (fun(k:Nat×List (List Int))=> [(9, .own false 22 1 (k.2.map cR)),(12,I k.1)]) (fun(k:Nat×List (List Int))=>k.1≤X.length∧i.2++(X.take k.1).map (ids[i.1]'(by omega):: ·)=k.2∧k.2.length=i.2.length+k.1) (fun(k:Nat×List (List Int))=>X.length-k.1) (0,i.2) yS (by simp) (fun k B hI hB=>?_);try dsimp only at hI hB;simp only[zae,zag]
    have hI3:=hI.2.1
    have hI4:=hI.2.2
    have hI5:=hI.1
    clear hI
    have H:=And.intro hI2 hI3
    clear hI2 hI3
    by_cases hk:k.1<X.length
    ·have hkl:=hmem _ (List.getElem_mem hk)
     repeat' (first|(with_reducible refine zcm (t:=9) yU yO yE ?_;simp only[yS2,Nat.reduceEqDiff,↓reduceIte])|refine yJ ?_|(with_reducible (refine zau yE ?_;refine zcx (fun _=>?_) (fun _=>?_)))|(refine DS.append (mm:=false) yU yE yE yU (by decide) yE yO2 yE yX0 yLM yQ2 ?_;simp only[yS2,Nat.reduceEqDiff,↓reduceIte])|refine zba (id:=12) [0,1,2,3,4,6,7,8,9,5,10,11] 12 yKR mixed yP1 yP2 ?_|(with_reducible refine yrs (t:=51) yU yO yE ?_;simp only[yS2,Nat.reduceEqDiff,↓reduceIte];simp only[zat,zbc,Nat.reduceEqDiff,↓reduceIte])|(with_reducible first|refine zaq yU yU yU yE ?_|refine zbq ?_)|(refine zfk yU yE yE ?_;simp only[go_sem,Nat.zero_add,Nat.reduceAdd];simp only[zat,zbc,Nat.reduceEqDiff,↓reduceIte])|(refine DD.append (mm:=false) yU yE yE yU (by decide) yE yO2 yE yX0 yLM yQ2 ?_;simp only[yS2,Nat.reduceEqDiff,↓reduceIte];simp only[zat,zbc,Nat.reduceEqDiff,↓reduceIte])|fail)
     all_goals first|(exfalso;omega)|skip
     exact DS.back (hB (k.1+1,k.2++ [ids[i.1]'(by omega)::X[k.1]]) _ _ (by simp;omega) (⟨by simp;omega,by rw[List.take_succ_eq_append_getElem hk,List.map_append,←H.2];simp,by simp;omega⟩) yS yS (fun b o e=>by first|exact e|(simp only[zab];split <;> simp_all)))
    ·repeat' (first|refine yJ ?_|(with_reducible (refine zau yE ?_;refine zcx (fun _=>?_) (fun _=>?_)))|refine zba (id:=12) [0,1,2,3,4,6,7,8,9,5,10,11] 12 yKR mixed yP1 yP2 ?_|(with_reducible refine yrs (t:=51) yU yO yE ?_;simp only[yS2,Nat.reduceEqDiff,↓reduceIte];simp only[zat,zbc,Nat.reduceEqDiff,↓reduceIte])|with_reducible refine zaq yU yU yU yE ?_|fail)
     all_goals first|(exfalso;omega)|skip
     refine DS.back (hB0 (i.1+1,k.2) _ _ (by simp;omega) ⟨by simp;omega,?_⟩ yS yS (fun b o e=>by exact e))
     rw[←H.1,←H.2,List.take_of_length_le (by omega),List.append_assoc]
  ·rename_i hst
   exact DS.back (hB (i.1+1,i.2) _ _ (by simp;omega) (⟨by simp;omega,by have e:=hI.2;rw[yag (i:=i.1) (by omega),if_neg (by simp[hst]),List.nil_append]at e;exact e⟩) yS yS (fun b o e=>by first|exact e|(simp only[zab];split <;> simp_all)))
  ·have de1:=zcz (l:=ids) (i:=i.1) (by omega);rw[de1]at hI
   simp[tupV,←hI.2,zez]
end Go.XL
namespace Go.XL
theorem zfg {P:Program} {n:Nat} {r:Rr} {Q:VEnv→Sto→Prop} {k:List Fr} {E:VEnv} {S:Sto} {id:Nat} {os l1 l2:List Oper} (S0 S1:Sto) (ord:List Nat) (m:Nat) (hok:zpb os.toArray ord m=true) (hm:P.follows .mixedOrders=true) (h1:zpu os ord=l1) (h2:os.drop m=l2)
  (h0: ∀b o,zaa S0 b=some o→zaa S b=some o∧zaa S1 b=none) (h3: ∀b o,zaa S1 b=some o→zaa S b=some o)
  (q:DD P n r Q os S0 [] l1 (.ops os l2::k) E E S1):DS P n r Q (.code (.region id os.toArray true)::k) E S :=
 ydz S0 S1 [] MpOk.nil ord m hok hm h0 h3 (by rw[zok,h1];simpa [h2] using q)
end Go.XL
namespace Go.XL
open Go.Proofs
set_option maxRecDepth 100000
set_option maxHeartbeats 4000000
abbrev TS :Nat:=151
abbrev mtV (bs:List Nat) (n:Nat):V := .own false 160 1 (bs.map (rowC n))
structure SearchR (S:Sto) (bx bp:Nat) (c:Club) (rs:List (List Int)) (bs:List Nat) (budget steps:Int) (met:Int→Int→Bool) (ps:List PRow):Prop where
 obj:zaa S bx=some (.cells (sC c rs bp ps.length (mtV bs c.members.length) budget steps) TS)
 mat:MetR S bs c met
 pln:zaa S bp=some (.cells (ps.map PRow.cell) 44)
 row: ∀(i:Nat) (h:i<ps.length),ps[i].Ok S
 xp:bx≠bp
 xb: ¬bx∈bs
 pb: ¬bp∈bs
 nd:bs.Nodup
 rx: ∀(i:Nat) (h:i<ps.length) (b cap:Nat) (j:List V),ps[i].blk=some (b,cap,j)→b≠bx∧b≠bp∧ ¬b∈bs
 rr: ∀(i k:Nat) (hi:i<ps.length) (hk:k<ps.length) (b cap cap':Nat) (j j':List V),ps[i].blk=some (b,cap,j)→ps[k].blk=some (b,cap',j')→i=k
theorem PRow.Ok.of {S S':Sto} {p:PRow} (h:p.Ok S) (e: ∀b cap j,p.blk=some (b,cap,j)→zaa S' b=zaa S b):p.Ok S':=by
 obtain⟨T,blk⟩:=p
 cases blk with
 | none=>exact h
 | some x =>
  obtain⟨b,cap,j⟩:=x
  obtain⟨h1,h2⟩:=h
  exact⟨by rw[e b cap j rfl];exact h1,h2⟩
theorem MetR.of {S S':Sto} {bs:List Nat} {c:Club} {met:Int→Int→Bool} (m:MetR S bs c met) (e: ∀b,b∈bs→zaa S' b=zaa S b):MetR S' bs c met :=
 ⟨m.len,fun i h h'=>by rw[e _ (List.getElem_mem h)];exact m.row i h h'⟩
theorem SearchR.steps {S:Sto} {bx bp:Nat} {c:Club} {rs:List (List Int)} {bs:List Nat} {budget steps:Int} {met:Int→Int→Bool} {ps:List PRow} (s:SearchR S bx bp c rs bs budget steps met ps) (n:Int) {l:List V} (hl:l=sC c rs bp ps.length (mtV bs c.members.length) budget n) :
  SearchR (setS bx (.cells l TS) S) bx bp c rs bs budget n met ps:=by
 subst hl
 have e: ∀b,b≠bx→zaa (setS bx (.cells (sC c rs bp ps.length (mtV bs c.members.length) budget n) TS) S) b=zaa S b:=fun b hb=>by rw[zai s.obj,if_neg hb]
 refine⟨by rw[zai s.obj,if_pos rfl],s.mat.of fun b hb=>e b (fun h=>s.xb (h▸hb)),by rw[e _ s.xp.symm];exact s.pln,fun i h=>(s.row i h).of fun b cap j hb=>e b (s.rx i h b cap j hb).1,s.xp,s.xb,s.pb,s.nd,s.rx,s.rr⟩
theorem SearchR.marked {S S':Sto} {bx bp:Nat} {c:Club} {rs:List (List Int)} {bs:List Nat} {budget steps:Int} {met met':Int→Int→Bool} {ps:List PRow} (s:SearchR S bx bp c rs bs budget steps met ps) (m:MetR S' bs c met') (e: ∀b,¬b∈bs→zaa S' b=zaa S b) :
  SearchR S' bx bp c rs bs budget steps met' ps :=
 ⟨by rw[e _ s.xb];exact s.obj,m,by rw[e _ s.pb];exact s.pln,fun i h=>(s.row i h).of fun b cap j hb=>e b (s.rx i h b cap j hb).2.2,s.xp,s.xb,s.pb,s.nd,s.rx,s.rr⟩
theorem SearchR.turn {S S':Sto} {bx bp:Nat} {c:Club} {rs:List (List Int)} {bs:List Nat} {budget steps:Int} {met:Int→Int→Bool} {ps:List PRow} (s:SearchR S bx bp c rs bs budget steps met ps) {r:Nat} (hr:r<ps.length) {T:List (List Int)} {b' cap':Nat} {junk:List V}
  (hb:(∃cap j,ps[r].blk=some (b',cap,j))∨zaa S b'=none) (hok:PRow.Ok S' ⟨T,some (b',cap',junk)⟩) (hp:zaa S' bp=some (.cells ((ps.map PRow.cell).set r (.v (.slice (some ⟨b',0,none⟩) T.length cap'))) 44))
  (e: ∀b,b≠bp→b≠b'→(∀cap j,ps[r].blk≠some (b,cap,j))→zaa S' b=zaa S b) :
  SearchR S' bx bp c rs bs budget steps met (ps.set r ⟨T,some (b',cap',junk)⟩):=by
 have n1:b'≠bx∧b'≠bp∧ ¬b'∈bs:=by
  rcases hb with⟨cap,j,h⟩|h
  ·exact s.rx r hr b' cap j h
  ·refine⟨?_,?_,?_⟩
   ·intro h';rw[h',s.obj]at h;cases h
   ·intro h';rw[h',s.pln]at h;cases h
   ·intro h'
    obtain⟨i,hi,rfl⟩:=List.getElem_of_mem h'
    rw[s.mat.row i hi (s.mat.len▸hi)]at h;cases h
 have nb: ∀(i:Nat) (h:i<ps.length) (cap:Nat) (j:List V),ps[i].blk=some (b',cap,j)→i=r:=fun i h cap j hi=>by
  rcases hb with⟨cap2,j2,h2⟩|h2
  ·exact s.rr i r h hr b' cap cap2 j j2 hi h2
  ·have h3:=s.row i h
   generalize ps[i]=p at hi h3
   obtain⟨T',blk⟩:=p
   dsimp only at hi
   subst hi
   rw[h3.1]at h2;cases h2
 have eb: ∀(i:Nat) (h:i<ps.length) (b cap:Nat) (j:List V),i≠r→ps[i].blk=some (b,cap,j)→zaa S' b=zaa S b:=fun i h b cap j hir hi=>by
  refine e b (s.rx i h b cap j hi).2.1 (fun hbb=>?_) fun cap2 j2 h2=>hir (s.rr i r h hr b cap cap2 j j2 hi h2)
  subst hbb;exact hir (nb i h cap j hi)
 have ex: ∀b,b≠bp→b≠b'→(b=bx∨b∈bs)→zaa S' b=zaa S b:=fun b h1 h2 h3=>e b h1 h2 fun cap j h4=>by
  have:=s.rx r hr b cap j h4
  rcases h3 with h3|h3
  ·exact this.1 h3
  ·exact this.2.2 h3
 have gs: ∀(i:Nat) (h:i<(ps.set r ⟨T,some (b',cap',junk)⟩).length),(ps.set r ⟨T,some (b',cap',junk)⟩)[i]=if r=i then⟨T,some (b',cap',junk)⟩else ps[i]'(by simpa using h):=fun i h=>by rw[List.getElem_set]
 refine⟨?_,s.mat.of fun b hb'=>ex b (fun h=>s.pb (h▸hb')) (fun h=>n1.2.2 (h▸hb')) (.inr hb'),?_,fun i h=>?_,s.xp,s.xb,s.pb,s.nd,fun i h b cap j hi=>?_,fun i k hi hk b cap cap2 j j2 h1 h2=>?_⟩
 ·rw[ex bx s.xp n1.1.symm (.inl rfl),s.obj,List.length_set]
 ·rw[hp,List.map_set];rfl
 ·rw[gs]
  have h':i<ps.length:=by simpa using h
  by_cases hir:r=i
  ·rw[if_pos hir];exact hok
  ·rw[if_neg hir];exact(s.row i h').of fun b cap j hi=>eb i h' b cap j (Ne.symm hir) hi
 ·rw[gs]at hi
  have h':i<ps.length:=by simpa using h
  by_cases hir:r=i
  ·rw[if_pos hir]at hi;cases hi;exact n1
  ·rw[if_neg hir]at hi;exact s.rx i h' b cap j hi
 ·rw[gs]at h1 h2
  have hi':i<ps.length:=by simpa using hi
  have hk':k<ps.length:=by simpa using hk
  by_cases hir:r=i
  ·rw[if_pos hir]at h1
   by_cases hkr:r=k
   ·omega
   ·rw[if_neg hkr]at h2
    simp only[Option.some.injEq,Prod.mk.injEq]at h1
    obtain⟨rfl,_⟩:=h1
    exact hir▸(nb k hk' cap2 j2 h2).symm
  ·rw[if_neg hir]at h1
   by_cases hkr:r=k
   ·rw[if_pos hkr]at h2
    simp only[Option.some.injEq,Prod.mk.injEq]at h2
    obtain⟨rfl,_⟩:=h2
    exact hkr▸nb i hi' cap j h1
   ·rw[if_neg hkr]at h2
    exact s.rr i k hi' hk' b cap cap2 j j2 h1 h2
end Go.XL
namespace Go.XL
open Go.Proofs
set_option maxRecDepth 100000
set_option maxHeartbeats 4000000
theorem PRow.split {S:Sto} {p:PRow} (h:p.Ok S): ∃S0 S1,(∀b o,zaa S0 b=some o→zaa S b=some o∧zaa S1 b=none)∧(∀b o,zaa S1 b=some o→zaa S b=some o)∧p.Ok S1 ∧
  ∀b,(∀cap j,p.blk≠some (b,cap,j))→zaa S0 b=zaa S b∧zaa S1 b=none:=by
 obtain⟨T,blk⟩:=p
 cases blk with
 | none=>exact⟨S,[],fun _ _ e=>⟨e,rfl⟩,(fun _ _ e=>by cases e),h,fun _ _=>⟨rfl,rfl⟩⟩
 | some x =>
  obtain⟨b0,cap,j⟩:=x
  obtain⟨h1,h2⟩:=h
  refine⟨delS b0 S,[(b0, .cells ((T.map fun t=>ints t)++j) 22)],fun b o e=>?_,fun b o e=>?_,⟨by simp[zaa],h2⟩,fun b hb=>?_⟩
  ·rw[zaz]at e
   split at e
   ·cases e
   ·rename_i hne
    exact⟨e,by simp only[zaa];rw[if_neg (fun h=>hne h.symm)]⟩
  ·simp only[zaa]at e
   split at e
   ·rename_i hbb;subst hbb;rw[h1];exact e
   ·cases e
  ·have hne: ¬b0=b:=fun h=>hb cap j (by rw[h])
   exact⟨by rw[zaz,if_neg (fun h=>hne h.symm)],by simp only[zaa];rw[if_neg hne]⟩
theorem PRow.cell_copy (p:PRow):p.cell.copy=p.cell:=by
 obtain⟨T,blk⟩:=p
 cases blk <;> rfl
theorem PRow.cell_some (T:List (List Int)) (b cap:Nat) (j:List V):PRow.cell ⟨T,some (b,cap,j)⟩ = .v (.slice (some ⟨b,0,none⟩) T.length cap):=rfl
theorem SearchR.appended {S S0 Sr S4:Sto} {bx bp:Nat} {c:Club} {rs:List (List Int)} {bs:List Nat} {budget steps:Int} {met:Int→Int→Bool} {ps:List PRow} (s:SearchR S bx bp c rs bs budget steps met ps) {r:Nat} (hr:r<ps.length) {p:PRow} (hp:p=ps[r])
  (k3: ∀b,(∀cap j,p.blk≠some (b,cap,j))→zaa S0 b=zaa S b∧zaa Sr b=none) (hdis: ∀b o,zaa S0 b=some o→zaa S4 b=none) {T:List (List Int)} {b' cap':Nat} {junk:List V} (m1:PRow.Ok S4 ⟨T,some (b',cap',junk)⟩)
  (m2:(∃cap j,p.blk=some (b',cap,j))∨zaa Sr b'=none) (m3: ∀b,b≠b'→(∀cap j,p.blk≠some (b,cap,j))→zaa S4 b=zaa Sr b) :
  zaa (S4++S0) bp=some (.cells (ps.map PRow.cell) 44) ∧
  SearchR (setS bp (.cells ((ps.map PRow.cell).set r (.v (.slice (some ⟨b',0,none⟩) T.length cap'))) 44) (S4++S0)) bx bp c rs bs budget steps met (ps.set r ⟨T,some (b',cap',junk)⟩):=by
 subst hp
 have hbp:=k3 bp fun cap j h=>(s.rx r hr bp cap j h).2.1 rfl
 have h0:zaa S0 bp=some (.cells (ps.map PRow.cell) 44):=hbp.1.trans s.pln
 have h1:zaa (S4++S0) bp=some (.cells (ps.map PRow.cell) 44):=by rw[zaj,hdis bp _ h0];exact h0
 have h2: ∃cap j,zaa S4 b'=some (.cells ((T.map fun t=>ints t)++j) cap):=⟨_,_,m1.1⟩
 have h3:b'≠bp:=fun h=>by
  obtain⟨_,_,h2⟩:=h2
  rw[h,hdis bp _ h0]at h2;cases h2
 refine⟨h1,s.turn hr ?_ (m1.of fun b cap j h=>?_) ?_ fun b e1 e2 e3=>?_⟩
 ·by_cases hold: ∃cap j,ps[r].blk=some (b',cap,j)
  ·exact .inl hold
  ·right
   have hk:=k3 b' fun cap j h=>hold ⟨cap,j,h⟩
   rw[←hk.1]
   cases hh:zaa S0 b' with
   | none=>rfl
   | some o =>
    obtain⟨_,_,h2⟩:=h2
    rw[hdis b' o hh]at h2;cases h2
 ·simp only[Option.some.injEq,Prod.mk.injEq]at h
  obtain⟨rfl,_⟩:=h
  rw[zai h1,if_neg h3,zaj,m1.1]
 ·rw[zai h1,if_pos rfl]
 ·rw[zai h1,if_neg e1,zaj,m3 b e2 e3,(k3 b e3).2]
  exact(k3 b e3).1
theorem yaw (ids:List Int) (T:List (List Int)) (t:List Int):zgr ids (T++ [t])=(zgr ids T).filter fun id=> !decide (id∈t):=by
 simp only[zgr,List.filter_filter]
 apply List.filter_congr
 intro x _
 simp[Bool.and_comm]
theorem ykj (T:List (List Int)) {j:List V} (h: ∀v∈j,v.free=true): ∀v∈(T.map fun t=>ints t)++j,v.free=true:=fun v hv=>by
 rcases List.mem_append.1 hv with h1|h1
 ·obtain⟨t,_,rfl⟩:=List.mem_map.1 h1;rfl
 ·exact h v h1
section
variable {v0:VH} {P:Program} {n:Nat} {E:VEnv} {S:Sto} {dst:Option Tmp} {ty:TypeId} {pos:String} {af:Array Edge}
theorem zww {p:PRow} {T t by_:Nat} {z:Value} {sx x:Operand} {vx:V} {tab:List Int} (hd:dst=some t) (ht:tel P T=some (22,1,by_)) (hz:zdd P 22=some z) (hzs:z.cells.size=1) (hzo:zhn z.cells.toList=true)
  (hs:evV E sx=some p.cell) (hok:p.Ok S) (hx:evV E x=some vx) (hxl:zeb vx=some [[ints tab]]) (hfit:p.rows.length+1≤2147483648∧by_≤65536) :
  OpS v0 P n ⟨dst, .call {callee := .builtin .append,args:= #[sx,x],argTypes:= #[T,T]},ty,pos,af,none⟩ E S
   (fun u E' S'=>E'=E∧ ∃b' cap' junk,u=PRow.cell ⟨p.rows++ [tab],some (b',cap',junk)⟩∧PRow.Ok S' ⟨p.rows++ [tab],some (b',cap',junk)⟩∧((∃cap j,p.blk=some (b',cap,j))∨zaa S b'=none) ∧
    ∀b,b≠b'→(∀cap j,p.blk≠some (b,cap,j))→zaa S' b=zaa S b):=by
 obtain⟨R,blk⟩:=p
 intro K D hv hold env a w hfl ha s
 cases blk with
 | none =>
  simp only[PRow.Ok]at hok
  subst hok
  refine(ygz hd ht hz hzs hzo (by decide) hs hx hxl (by simp) (by simp) (by simpa [Fits] using hfit) K D hv hold env a w hfl ha s).mono ?_
  rintro y w' ⟨hsame,u,E2,S2,hv2,hold2,q1,q2,h1,b',cap',junk,h2,h3,h4,h5,h6,h7,h8⟩
  refine⟨hsame,u,E2,S2,hv2,hold2,q1,q2,h1,b',cap',junk,?_,?_,?_,?_⟩
  ·rw[h2];simp[PRow.cell]
  ·subst h3
   refine⟨by simp[zaa,V.copy],by simpa using h5,h7,h8⟩
  ·exact .inr (h4.resolve_left (by simp))
  ·intro b hb _
   subst h3
   simp only[zaa,delB]
   rw[if_neg (fun h=>hb h.symm)]
 | some x =>
  obtain⟨b0,cap0,j0⟩:=x
  obtain⟨k1,k2,k3,k4⟩:=hok
  refine(yha hd ht hz hzs hzo (by decide) hs k1 (by simpa using k2) (by omega) k3 (ykj R k4) hx hxl (by simp) (by simp) (by simpa [Fits] using hfit) K D hv hold env a w hfl ha s).mono ?_
  rintro y w' ⟨hsame,u,E2,S2,hv2,hold2,q1,q2,h1,b',cap',junk,h2,h3,h4,h5,h6,h7,h8⟩
  refine⟨hsame,u,E2,S2,hv2,hold2,q1,q2,h1,b',cap',junk,?_,?_,?_,?_⟩
  ·rw[h2];simp[PRow.cell]
  ·subst h3
   refine⟨?_,by simpa using h5,h7,h8⟩
   simp only[zaa,if_true,Option.some.injEq,Ob.cells.injEq,and_true]
   simp[V.copy]
  ·rcases h4 with h4|h4
   ·cases h4;exact .inl ⟨_,_,rfl⟩
   ·exact .inr h4
  ·intro b hb hnb
   subst h3
   simp only[zaa,delB]
   rw[if_neg (fun h=>hb h.symm),zaz,if_neg]
   intro h;subst h;exact hnb _ _ rfl
end
end Go.XL
namespace Go.XL
open Go.Proofs
set_option maxRecDepth 100000
set_option maxHeartbeats 8000000
abbrev ptr (b:Nat):V := .v (.pointer (some ⟨b,0,none⟩))
theorem zct (bs:Nat) (x n:Int) (hn:n≤1000000000000):SC Tryz.prog 25 [ptr bs,I n] bs x (I (zac x n)) (stepX x):=by
 unfold SC
 refine DC.of_run Tryz.func25 rfl Tryz.ntmps25 Tryz.results25 (by simp) (fun _ _=>?_);simp only[zad,zaf,go_sem,Nat.zero_add,Nat.reduceAdd]
 repeat' (first|refine yJ ?_|(with_reducible (refine zau yE ?_;refine zcx (fun _=>?_) (fun _=>?_)))|(refine DS.store yR yE yE yE yE yU yQ ?_;simp only[yS1];try simp only[yS2,Nat.reduceEqDiff,↓reduceIte])|refine zba (id:=4) [0,1,2,3,4,5,6,7,8,9,10,11,12] 13 yKR mixed yP1 yP2 ?_|(with_reducible first|refine zaq yU yU yU yE ?_|refine zbq ?_)|fail)
 ·rename_i e1
  refine zay yG ⟨?_,?_⟩
  ·rw[zac,if_pos (by omega)];rfl
  ·simp only[setS,if_true,zaw];rfl
 ·rename_i e1
  have hw:IntKind.u64.wrap n=n:=yec ⟨by omega,by omega⟩
  repeat' (first|refine yJ ?_|fail)
  refine zay yG ⟨?_,?_⟩
  ·rw[zac,if_neg e1]
   show I (IntKind.i64.wrap ((mixX (stepX x)).tmod n))=_
   have h1:=ysi (stepX x)
   have h2:=Int.emod_nonneg (mixX (stepX x)) (show n≠0 by omega)
   have h3:=Int.emod_lt_of_pos (mixX (stepX x)) (show 0<n by omega)
   rw[Int.tmod_eq_emod_of_nonneg h1.1]
   have h4:=zve (n:=mixX (stepX x) % n) (by omega)
   unfold w64 at h4
   rw[h4]
  ·simp only[setS,if_true,zaw];rfl
theorem znd (bs:Nat) (x n:Int) (hn:n≤1000000000000):SC Tryz.prog 76 [ptr bs,I n] bs x (Bo (zra x n)) (stepX x):=by
 unfold SC
 refine DC.of_run Tryz.func76 rfl Tryz.ntmps76 Tryz.results76 (by simp) (fun _ _=>?_);simp only[zad,zaf,go_sem,Nat.zero_add,Nat.reduceAdd]
 repeat' (first|refine yJ ?_|(refine zdp inferInstance (zct bs x n hn) yR yT yT ?_;(try simp only[zal,zap,↓reduceIte, *]))|fail)
 refine zay yG ⟨rfl,rfl⟩
theorem yfb (bs:Nat) (x lo hi:Int) (hn : -1000≤lo∧lo≤1000 ∧ -1000≤hi∧hi≤1000):SC Tryz.prog 77 [ptr bs,I lo,I hi] bs x (I (zbn x lo hi)) (stepX x):=by
 have hb:=zar x (hi-lo+1)
 obtain⟨h1,h2,h3⟩:=hb
 obtain⟨n1,n2,n3,n4⟩:=hn
 have h4:zac x (hi-lo+1)≤3000:=by
  rcases Int.lt_or_le (hi-lo+1) 1 with h|h
  ·rw[h3 h];omega
  ·have:=h2 h;omega
 clear h2 h3
 unfold SC
 refine DC.of_run Tryz.func77 rfl Tryz.ntmps77 Tryz.results77 (by simp) (fun _ _=>?_);simp only[zad,zaf,go_sem,Nat.zero_add,Nat.reduceAdd]
 repeat' (first|refine yJ ?_|(refine zdp inferInstance (zct bs x (hi-lo+1) (by omega)) yR yT yT ?_;(try simp only[zal,zap,↓reduceIte, *]))|fail)
 refine zay yG ⟨rfl,rfl⟩
theorem yX8 {p:Prop} (h:p:=by(simp (disch:=omega) only[go_sem,dopV,yV0,↓reduceIte,Nat.reduceEqDiff,Nat.reduceLT,Nat.reduceLeDiff,Nat.reduceAdd,Nat.reduceMul,Nat.reduceSub,Int.reduceToNat,Int.reduceLT,Int.reduceLE,Int.reduceEq,IntWalk.toNatUp,IntWalk.iteOmega,IntWalk.i64_in,V.flat,V.one, *,Value.oneCell'];exact rfl)):p:=h
theorem yae (l:List Int):DC Tryz.prog 31 [ints l] [] (fun u S'=> ∃bs,u=ptr bs∧S'= [(bs,srcO (newX l))]):=by
 refine DC.of_run Tryz.func31 rfl Tryz.ntmps31 Tryz.results31 (by simp) (fun _ _=>?_);simp only[zad,zaf,go_sem,Nat.zero_add,Nat.reduceAdd]
 refine zir (t:=0) yG (.inl rfl) (fun hb0=>?_);simp only[List.length_map]at hb0
 repeat' (first|with_reducible refine zas yU yU yX8 ?_|refine yJ ?_|(with_reducible refine zkv yU yX8 yU (fun _ hfr=>?_);have hfr:=zkp hfr;simp only[zgq,zia,and_true]at hfr;simp only[yS3])|fail)
 rename_i bs hbs
 refine zbf [0,3] yN (fun(y:Nat×Int)=> [(4,I y.1)]) (fun(y:Nat×Int)=> [(bs,srcO y.2)]) (fun(y:Nat×Int)=>y.1≤l.length∧newX l=yop (l.drop y.1) y.2) (fun(y:Nat×Int)=>l.length-y.1) (0,2685821657736338717) yS (fun b o e=>by exact e) ⟨Nat.zero_le _,rfl⟩ (fun y B hI hB=>?_);try dsimp only at hI hB;simp only[zae,zag]
 obtain⟨i,x⟩:=y
 dsimp only at hI hB
 obtain⟨g1,g2⟩:=hI
 have H:=Box.mk g2
 clear g2
 repeat' (first|refine yJ ?_|(with_reducible (refine zau yE ?_;refine zcx (fun _=>?_) (fun _=>?_)))|(refine DS.store yR yE yE yE yE yU yQ ?_;simp only[yS1];try simp only[yS2,Nat.reduceEqDiff,↓reduceIte])|refine zba (id:=5) [0,1,2,3,4,5,6,7,8,9,10,11] 12 yKR mixed yP1 yP2 ?_|refine zba (id:=6) [0,1,2,3,4,5,6,7,8,9,10] 11 yKR mixed yP1 yP2 ?_|(with_reducible first|refine zaq yU yU yU yE ?_|refine zbq ?_)|fail)
 ·rename_i e1
  have hi:i<l.length:=by omega
  refine DS.back (hB (i+1,xorI .u64 (IntKind.u64.wrap (xorI .u64 x (IntKind.u64.wrap l[i])*11400714819323198485)) ((IntKind.u64.wrap (xorI .u64 x (IntKind.u64.wrap l[i])*11400714819323198485)).fdiv 536870912)) _ _ (by dsimp only;omega) ⟨by dsimp only;omega,by rw[H.out,List.drop_eq_getElem_cons hi,yop]⟩ yS yS (fun b o e=>?_))
  simp only[setS,if_true,zaw]
  exact e
 ·rename_i e1
  have h:=H.out
  rw[List.drop_eq_nil_of_le (by omega)]at h
  refine zay yG ⟨bs,rfl,?_⟩
  rw[h];rfl
end Go.XL
namespace Go.XL
open Go.Proofs
theorem zyg (l:List Member) {g:FuncId} {fs cs:List V} {fn:Func} (p:Member→Bool) (hf:FnOk Tryz.prog g fn) (h: ∀m,PC Tryz.prog g (fs++ [m.val]++cs) (Bo (p m))) :
  PC Tryz.prog 97 [.lst (l.map Member.cells), .fn g fs cs] (I (idxF p l 0)):=by
 refine DC.of_run Tryz.func97 rfl Tryz.ntmps97 Tryz.results97 (by simp) (fun _ _=>?_);simp only[zad,zaf,go_sem,Nat.zero_add,Nat.reduceAdd]
 refine zir (t:=0) yG (.inl rfl) (fun hb0=>?_);simp only[List.length_map]at hb0
 repeat' (first|refine yJ ?_|fail)
 refine zyy (fun(i:Nat)=> [(0, .lst (l.map Member.cells)),(1, .fn g fs cs),(7,I l.length),(8,I i)]) (fun(i:Nat)=> []) (fun(i:Nat)=>i≤l.length∧idxF p l 0=idxF p (l.drop i) i) (fun(i:Nat)=>l.length-i) 0 yS yS (by simp) (fun i B hI hB=>?_);try dsimp only at hI hB ⊢
 repeat' (first|refine yJ ?_|(with_reducible (refine zau yE ?_;refine zcx (fun _=>?_) (fun _=>?_)))|refine zak [] yE trivial ?_|fail)
 ·refine ydw hf (by simp (disch:=omega) only[go_sem,dopV,yV0,↓reduceIte,Nat.reduceEqDiff,Nat.reduceLT,Nat.reduceLeDiff,Nat.reduceAdd,Nat.reduceMul,Nat.reduceSub,Int.reduceToNat,Int.reduceLT,Int.reduceLE,Int.reduceEq,IntWalk.toNatUp,IntWalk.iteOmega,IntWalk.i64_in,V.flat,V.one]) (h l[i]) yR yG ?_
  repeat' (first|refine yJ ?_|(with_reducible (refine zau yE ?_;refine yji (fun _=>?_) (fun _=>?_)))|refine zak [] yE trivial ?_|fail)
  ·rename_i h1 h2
   have:=zmg (p:=p) (l:=l) (i:=i) (by omega) h2
   simp only[tupV];rw[hI.2,this]
  ·rename_i h1 h2
   exact DS.back (hB (i+1) _ _ (by omega) ⟨by omega,by rw[hI.2,zju (by omega) h2]⟩ yS yS)
 ·have:=zmh (p:=p) (l:=l) (i:=i) (by omega)
  simp only[tupV];rw[hI.2,this]
theorem yqf (m:Member) (id:Int):PC Tryz.prog 98 [m.val, .plc [I id]] (Bo (decide (m.id=id))):=by
 refine DC.of_run Tryz.func98 rfl Tryz.ntmps98 Tryz.results98 (by simp) (fun _ _=>?_);simp only[zad,zaf,go_sem,Nat.zero_add,Nat.reduceAdd]
 repeat' (first|refine yJ ?_|(refine zbk (t:=2) yU yE yU ?_;simp only[yS3])|refine zak [] yE trivial ?_|fail)
 all_goals first|(simp_all [tupV];done)
theorem ysx (c:Club) (id:Int):PC Tryz.prog 69 [c.val,I id] (I (idxF (fun m=>decide (m.id=id)) c.members 0)):=by
 refine DC.of_run Tryz.func69 rfl Tryz.ntmps69 Tryz.results69 (by simp) (fun _ _=>?_);simp only[zad,zaf,go_sem,Nat.zero_add,Nat.reduceAdd]
 repeat (first|refine DS.seq ?_|refine DS.block ?_|refine DS.scope ?_|refine DS.region ?_|refine zpi ?_|refine DS.blk ?_|refine DS.label ?_|refine DS.skip ?_|refine DS.exit yR ?_|refine zas yR yR yG ?_|refine ywv yG yR ?_|refine yvk yG yR ?_|refine yvg yG yR ?_|refine yvh yG yR yR ?_|refine yvf yG yR yR ?_)
 refine zkv yR yG yR (fun b hb=>?_);have hb:=zkp hb;simp only[zgq,zia,and_true,yS3,ite_eq_right_iff,reduceCtorEq,imp_false]at hb ⊢
 refine zkv yR yG yR (fun d hd=>?_);have hd:=zkp hd;simp only[zgq,zia,and_true,yS3,ite_eq_right_iff,reduceCtorEq,imp_false]at hd ⊢
 refine zet (t:=3) yE yE ?_;simp only[zal,zap,↓reduceIte, *,zik,zgn,zfy,zcj,zdn,zqd,zml,zqc]
 repeat' (first|refine yJ ?_|refine zan inferInstance (zyg c.members (fun m=>decide (m.id=id)) inferInstance (fun m=>yqf m id)) yR yT ?_|refine zak [] yE trivial ?_|fail)
 all_goals first|(simp_all [tupV];done)
end Go.XL
namespace Go.XL
open Go.Proofs
theorem yho {most:Int} {l:List Int} {i:Nat} {w:Int} (hi:i<l.length) (h : -most≤l[i]∧l[i]≤most):zcp most (l.drop i) w=zcp most (l.drop (i+1)) (w-l[i]):=by
 rw[List.drop_eq_getElem_cons hi,zcp,if_pos h]
theorem ycl {most:Int} {l:List Int} {i:Nat} {w:Int} (hi:i<l.length) (h: ¬(-most≤l[i]∧l[i]≤most)):zcp most (l.drop i) w=2:=by
 rw[List.drop_eq_getElem_cons hi,zcp,if_neg h]
theorem zro {most:Int} {l:List Int} {i:Nat} {w:Int} (hi:l.length≤i):zcp most (l.drop i) w=if w=0 then 0 else 12:=by
 rw[List.drop_eq_nil_of_le hi,zcp]
theorem yei (c:Club) (l:List Int) (most want:Int) (h1:c.size≤4) (h2:0≤most∧most≤1099511627776) (h3 : -1099511627776≤want∧want≤1099511627776):PC Tryz.prog 36 [c.val,ints l,I most,I want] (I (zew c.size l most want)):=by
 refine DC.of_run Tryz.func36 rfl Tryz.ntmps36 Tryz.results36 (by simp) (fun _ _=>?_);simp only[zad,zaf,go_sem,Nat.zero_add,Nat.reduceAdd]
 refine zir (t:=1) yG (.inl rfl) (fun hb1=>?_);simp only[List.length_map]at hb1
 repeat' (first|refine yJ ?_|(with_reducible (refine zau yE ?_;refine zeu (fun _=>?_) (fun _=>?_)))|(refine zbk (t:=4) yU yE yU ?_;simp only[yS3])|refine zak [] yE trivial ?_|fail)
 ·simp[tupV,zew, *]
 refine zyy (fun(i:Nat×Int)=> [(1,ints l),(2,I most),(3,I i.2),(16,ints l),(17,I l.length),(18,I i.1)]) (fun(i:Nat×Int)=> []) (fun(i:Nat×Int)=>i.1≤l.length∧zcp most l want=zcp most (l.drop i.1) i.2 ∧ -1099511627776*(i.1+1)≤i.2∧i.2≤1099511627776*(i.1+1)) (fun(i:Nat×Int)=>l.length-i.1) (0,want) yS yS (by simp;omega) (fun i B hI hB=>?_);try dsimp only at hI hB ⊢
 repeat' (first|refine yJ ?_|(with_reducible (refine zau yE ?_;first|refine zeu (fun _=>?_) (fun _=>?_)|refine zcx (fun _=>?_) (fun _=>?_)))|refine zan inferInstance (zin _ _ _) yR yT ?_|refine zak [] yE trivial ?_|fail)
 ·rename_i q1 q2
  have hs:(l.length:Int)=c.size:=by omega
  rw[zee,zew,if_pos hs,hI.2.1,ycl (by omega) (by simpa using q2)]
 ·rename_i q1 q2
  have q3 : -most≤l[i.1]∧l[i.1]≤most:=by simpa using q2
  exact DS.back (hB (i.1+1,i.2-l[i.1]) _ _ (by simp;omega) ⟨by simp;omega,by rw[hI.2.1,yho (by omega) q3],by simp;omega,by simp;omega⟩ yS yS)
 ·rename_i q1 q2
  have hs:(l.length:Int)=c.size:=by omega
  rw[zee,zew,if_pos hs,hI.2.1,zro (by omega),if_neg (by simpa using q2)]
 ·rename_i q1 q2
  have hs:(l.length:Int)=c.size:=by omega
  rw[zee,zew,if_pos hs,hI.2.1,zro (by omega),if_pos (by simpa using q2)]
end Go.XL
namespace Go.XL
open Go.Proofs
set_option maxRecDepth 100000
set_option maxHeartbeats 4000000
theorem yin (l:List Member):PC Tryz.prog 37 [.lst (l.map Member.cells)] (I (zdj l)):=by
 refine DC.of_run Tryz.func37 rfl Tryz.ntmps37 Tryz.results37 (by simp) (fun _ _=>?_);simp only[zad,zaf,go_sem,Nat.zero_add,Nat.reduceAdd]
 refine zir (t:=0) yG (.inl rfl) (fun hb0=>?_);simp only[List.length_map]at hb0
 repeat' (first|refine yJ ?_|(with_reducible (refine zau yE ?_;refine zcx (fun _=>?_) (fun _=>?_)))|refine zak [] yE trivial ?_|fail)
 ·rename_i q;rw[zdj,if_pos (by omega)];rfl
 refine zbe [9,10] yN (fun(i:Nat×Int)=> [(3,I i.2),(11,I i.1)]) (fun(i:Nat×Int)=>i.1≤l.length∧zdj l=zcr (l.drop i.1) i.2) (fun(i:Nat×Int)=>l.length-i.1) (0,0) yS (by simp[zdj];omega) (fun i B hI hB=>?_);try dsimp only at hI hB;simp only[zae,zag]
 repeat' (first|refine yJ ?_|(with_reducible first|(refine zau yE ?_;first|refine zeu (fun _=>?_) (fun _=>?_)|refine zcx (fun _=>?_) (fun _=>?_)|refine zec ?_|refine zdw ?_)|(refine zds yU yE ?_;first|refine zyx ?_|refine ynw (fun _=>?_) (fun _=>?_)|refine zum (fun _=>?_) (fun _=>?_)|refine GG.run ?_|refine zgd ?_|refine zno ?_))|(refine zev (t:=5) yU yE yU (fun _=>yE) yE yU yV1 (fun _=>yN1) ?_;simp only[go_sem])|refine zan inferInstance (zin _ _ _) yR yT ?_|refine zak [] yE trivial ?_|fail)
 all_goals try first|(clear hB;obtain⟨_,r,dr1,rfl,dr3⟩:=zbi (l:=l) (i:=i.1) (by omega);rw[dr1]at hI;rw[hI.2];simp[tupV,zcr, *];done)|(clear hB;have de1:=zcz (l:=l) (i:=i.1) (by omega);rw[de1]at hI;rw[hI.2];simp[tupV,zcr, *];done)
 ·obtain⟨_,r,dr1,rfl,dr3⟩:=zbi (l:=l) (i:=i.1) (by omega);rw[dr1]at hI
  exact DS.back (hB (i.1+1,l[i.1].id) _ _ (by simp;omega) (⟨by simp;omega,by rw[hI.2,dr3];simp[zcr, *]⟩) yS yS (fun b o e=>by first|exact e|(simp only[zab];split <;> simp_all)))
 ·obtain⟨_,r,dr1,rfl,dr3⟩:=zbi (l:=l) (i:=i.1) (by omega);rw[dr1]at hI
  exact DS.back (hB (i.1+1,l[i.1].id) _ _ (by simp;omega) (⟨by simp;omega,by rw[hI.2,dr3];simp[zcr, *]⟩) yS yS (fun b o e=>by first|exact e|(simp only[zab];split <;> simp_all)))
theorem zoj (c:Club) (hs:c.Small) (a b:Int):PC Tryz.prog 67 [c.val,I a,I b] (Bo (zci c a b)):=by
 have h1:=hs.rounds
 by_cases ha:0≤a∧a≤(c.rounds.length:Int)-1
 ·obtain⟨i,rfl⟩:=Int.eq_ofNat_of_zero_le ha.1
  have hi:i<c.rounds.length:=by omega
  have h2:=(hs.at hi).points
  rw[zhz hi]
  refine DC.of_run Tryz.func67 rfl Tryz.ntmps67 Tryz.results67 (by simp) (fun _ _=>?_);simp only[zad,zaf,go_sem,Nat.zero_add,Nat.reduceAdd]
  repeat' (first|refine yJ ?_|(with_reducible (refine zds yU yE ?_;first|refine zmq (fun _=>?_) (fun _=>?_)|refine GG.run ?_|refine zgd ?_))|refine zan inferInstance (zin _ _ _) yR yT ?_|(refine zbk (t:=3) yU yE yU ?_;simp only[yS3])|refine zak [] yE trivial ?_|fail)
  ·rename_i q1 q2
   have:b.toNat<c.rounds[i].points.length:=by omega
   simp[tupV,List.getD_eq_getElem?_getD, *]
  ·simp[tupV, *]
 ·rw[zsj ha]
  refine DC.of_run Tryz.func67 rfl Tryz.ntmps67 Tryz.results67 (by simp) (fun _ _=>?_);simp only[zad,zaf,go_sem,Nat.zero_add,Nat.reduceAdd]
  repeat' (first|refine yJT ?_|refine zan inferInstance (zin _ _ _) yR yT ?_|(refine zbk (t:=3) yU yE yU ?_;simp only[yS3])|refine zak [] yE trivial ?_|fail)
  all_goals first|rfl|omega
theorem zzy (c:Club) (l:List Int) (h1:c.size≤4) (h2:0≤c.size) (h3:0≤c.start∧c.start≤1000000):PC Tryz.prog 83 [c.val,ints l] (I (zde c l)):=by
 have h4:0≤c.size*c.start:=Int.mul_nonneg h2 h3.1
 have h5:c.size*c.start≤4*1000000:=Int.mul_le_mul h1 h3.2 h3.1 (by decide)
 rw[zde]
 refine DC.of_run Tryz.func83 rfl Tryz.ntmps83 Tryz.results83 (by simp) (fun _ _=>?_);simp only[zad,zaf,go_sem,Nat.zero_add,Nat.reduceAdd]
 repeat' (first|refine yJ ?_|refine zan inferInstance (yei c l 1099511627776 (c.size*c.start) h1 (by decide) ⟨by omega,by omega⟩) yR yT ?_|(refine zbk (t:=2) yU yE yU ?_;simp only[yS3])|refine zak [] yE trivial ?_|fail)
 rfl
theorem yfl (l:List Int) (n:Int):PC Tryz.prog 92 [ints l,I n] (I (idxF (fun x=>decide (x=n)) l 0)):=by
 refine DC.of_run Tryz.func92 rfl Tryz.ntmps92 Tryz.results92 (by simp) (fun _ _=>?_);simp only[zad,zaf,go_sem,Nat.zero_add,Nat.reduceAdd]
 refine zir (t:=0) yG (.inl rfl) (fun hb0=>?_);simp only[List.length_map]at hb0
 repeat' (first|refine yJ ?_|fail)
 refine zbe [0,1,7] yN (fun(i:Nat)=> [(8,I i)]) (fun(i:Nat)=>i≤l.length∧idxF (fun x=>decide (x=n)) l 0=idxF (fun x=>decide (x=n)) (l.drop i) i) (fun(i:Nat)=>l.length-i) 0 yS (by simp) (fun i B hI hB=>?_);try dsimp only at hI hB;simp only[zae,zag]
 repeat' (first|refine yJ ?_|(with_reducible (refine zau yE ?_;refine zcx (fun _=>?_) (fun _=>?_)))|refine zak [] yE trivial ?_|fail)
 ·rename_i q1 q2
  rw[hI.2,zmg (p:=fun x=>decide (x=n)) (l:=l) (i:=i) (by omega) (decide_eq_true q2.symm)];rfl
 ·rename_i q1 q2
  exact DS.back (hB (i+1) _ _ (by omega) (⟨by omega,by rw[hI.2,zju (p:=fun x=>decide (x=n)) (l:=l) (i:=i) (by omega) (by simpa using fun h=>q2 h.symm)]⟩) yS yS (fun b o e=>by first|exact e|(simp only[zab];split <;> simp_all)))
 ·rename_i q1
  rw[hI.2,zmh (p:=fun x=>decide (x=n)) (l:=l) (i:=i) (by omega)];rfl
theorem zor {α:Type} (p:α→Bool) (l:List α):decide (0≤idxF p l 0)=l.any p:=by
 have key: ∀(l:List α) (i:Nat),(0≤idxF p l i)↔l.any p=true:=by
  intro l
  induction l with
  | nil=>intro i;simp[idxF]
  | cons x r ih =>
   intro i
   simp only[idxF,List.any_cons]
   by_cases h:p x=true
   ·simp only[h,if_true,Bool.true_or,iff_true];omega
   ·rw[if_neg h,ih (i+1)];simp[h]
 cases h:l.any p with
 | true=>exact decide_eq_true ((key l 0).2 h)
 | false=>exact decide_eq_false (fun h'=>by rw[(key l 0).1 h']at h;cases h)
theorem ydk (l:List Int) (n:Int):PC Tryz.prog 82 [ints l,I n] (Bo (decide (n∈l))):=by
 refine DC.of_run Tryz.func82 rfl Tryz.ntmps82 Tryz.results82 (by simp) (fun _ _=>?_);simp only[zad,zaf,go_sem,Nat.zero_add,Nat.reduceAdd]
 repeat' (first|refine yJ ?_|refine zan inferInstance (yfl l n) yR yT ?_|refine zak [] yE trivial ?_|fail)
 rw[zee,zor]
 simp[List.any_eq]
theorem ykq {c:Club} {r e:Int} (h:zdm c r=e) (h2:e≠0):zey c r=e:=by rw[zey,if_pos (by rw[h];exact h2),h]
theorem ykp {c:Club} {r:Int} (h:zdm c r=0):zey c r=zdg c r:=by rw[zey,if_neg (by rw[h];decide)]
theorem ysd (c:Club) (hs:c.Small) (h1:c.size≤4) (h2:0≤c.size) (h3:0≤c.start∧c.start≤1000000) (h4:0≤c.window∧c.window≤20) {i:Nat} (hi:i<c.rounds.length) (h5:c.rounds.length≤20):PC Tryz.prog 39 [c.val,I i] (I (zey c i)):=by
 have q1:=hs.rounds
 have q2:=hs.at hi
 have q3:=q2.points
 have q4:=q2.tables
 have q5:=q2.rulings
 refine DC.of_run Tryz.func39 rfl Tryz.ntmps39 Tryz.results39 (by simp) (fun _ _=>?_);simp only[zad,zaf,go_sem,Nat.zero_add,Nat.reduceAdd]
 repeat' (first|refine yJ ?_|(with_reducible (refine zau yE ?_;refine zeu (fun _=>?_) (fun _=>?_)))|(refine zev (t:=5) yU yE yU (fun _=>yE) yE yU yV1 (fun _=>yN1) ?_;simp only[go_sem])|(refine zbk (t:=2) yU yE yU ?_;simp only[yS3])|refine zak [] yE trivial ?_|fail)
 ·rename_i q
  rw[ykq (e:=3) (by rw[zdm,c.round_at hi,if_pos (by omega)]) (by decide)];rfl
 rename_i q
 have hps:zdm c i=zbs c c.rounds[i].points:=by rw[zdm,c.round_at hi,if_neg (by omega)]
 have hrs:c.rounds[i].rulings.length≤20→zdg c i=zbb c i c.rounds[i].rulings:=fun h=>by rw[zdg,c.round_at hi,if_neg (by omega)]
 refine zbe [1,2,5,25,26] yN (fun(k:Nat)=> [(27,I k)]) (fun(k:Nat)=>k≤c.rounds[i].points.length∧zbs c c.rounds[i].points=zbs c (c.rounds[i].points.drop k)) (fun(k:Nat)=>c.rounds[i].points.length-k) 0 yS ⟨Nat.zero_le _,rfl⟩ (fun k B hI hB=>?_);try dsimp only at hI hB;simp only[zae,zag]
 repeat' (first|refine yJ ?_|(with_reducible first|(refine zau yE ?_;first|refine zeu (fun _=>?_) (fun _=>?_)|refine zcx (fun _=>?_) (fun _=>?_)|refine zdw ?_)|(refine zds yU yE ?_;first|refine zmq (fun _=>?_) (fun _=>?_)|refine GG.run ?_|refine zgd ?_))|refine zan inferInstance (zzy c _ h1 h2 h3) yR yT ?_|refine zak [] yE trivial ?_|fail)
 ·rename_i e1 e2 e3
  obtain⟨_,r,dr1,rfl,dr3⟩:=zbi (l:=c.rounds[i].points) (i:=k) (by omega);rw[dr1]at hI
  rw[ykq (hps.trans (hI.2.trans (by rw[zbs,if_neg (by omega),if_pos e3]))) e3];rfl
 ·rename_i e1 e2 e3
  obtain⟨_,r,dr1,rfl,dr3⟩:=zbi (l:=c.rounds[i].points) (i:=k) (by omega);rw[dr1]at hI
  exact DS.back (hB (k+1) _ _ (by omega) (⟨by omega,by rw[hI.2,dr3,zbs,if_neg (by omega),if_neg (by omega)]⟩) yS yS (fun b o e=>by first|exact e|(simp only[zab];split <;> simp_all)))
 ·rename_i e1 e2
  obtain⟨_,r,dr1,rfl,dr3⟩:=zbi (l:=c.rounds[i].points) (i:=k) (by omega);rw[dr1]at hI
  exact DS.back (hB (k+1) _ _ (by omega) (⟨by omega,by rw[hI.2,dr3,zbs,if_pos (by omega)]⟩) yS yS (fun b o e=>by first|exact e|(simp only[zab];split <;> simp_all)))
 ·rename_i e1 e2
  have de1:=zcz (l:=c.rounds[i].points) (i:=k) (by omega);rw[de1]at hI
  rw[ykp (hps.trans hI.2),zdg,c.round_at hi,if_pos (by omega)];rfl
 ·rename_i e1 e2
  have de1:=zcz (l:=c.rounds[i].points) (i:=k) (by omega);rw[de1]at hI
  have hr:=(ykp (hps.trans hI.2)).trans (hrs (by omega))
  clear hps hrs hI hB
  rw[hr]
  clear hr
  refine zbe [1,2,48,49] yN (fun(k:Nat)=> [(50,I k)]) (fun(k:Nat)=>k≤c.rounds[i].rulings.length∧zbb c i c.rounds[i].rulings=zbb c i (c.rounds[i].rulings.drop k)) (fun(k:Nat)=>c.rounds[i].rulings.length-k) 0 yS ⟨Nat.zero_le _,rfl⟩ (fun k B hI hB=>?_);try dsimp only at hI hB;simp only[zae,zag]
  repeat' (first|refine yJ ?_|(with_reducible (refine zau yE ?_;first|refine zeu (fun _=>?_) (fun _=>?_)|refine zcx (fun _=>?_) (fun _=>?_)|refine ycg (fun _=>?_) (fun _=>?_)))|(refine zev (t:=10) yU yE yU (fun _=>yE) yE yU yV1 (fun _=>yN1) ?_;simp only[go_sem])|refine zan inferInstance (zin _ _ _) yR yT ?_|refine zan inferInstance (zzy c _ h1 h2 h3) yR yT ?_|refine zan inferInstance (zoj c hs _ _) yR yT ?_|refine zak [] yE trivial ?_|fail)
  ·rename_i e1 e2 e3
   obtain⟨_,r,dr1,rfl,dr3⟩:=zbi (l:=c.rounds[i].rulings) (i:=k) (by omega);rw[dr1]at hI
   rw[hI.2,zbb,if_pos (by omega)];rfl
  ·rename_i e1 e2 e3 e4
   obtain⟨_,r,dr1,rfl,dr3⟩:=zbi (l:=c.rounds[i].rulings) (i:=k) (by omega);rw[dr1]at hI
   rw[hI.2,zbb,if_neg (by omega),if_pos e4];rfl
  ·rename_i e1 e2 e3 e4 e5
   obtain⟨_,r,dr1,rfl,dr3⟩:=zbi (l:=c.rounds[i].rulings) (i:=k) (by omega);rw[dr1]at hI
   rw[hI.2,zbb,if_neg (by omega),if_neg (by simp[e4]),if_pos e5];rfl
  ·rename_i e1 e2 e3 e4 e5
   obtain⟨_,r,dr1,rfl,dr3⟩:=zbi (l:=c.rounds[i].rulings) (i:=k) (by omega);rw[dr1]at hI
   exact DS.back (hB (k+1) _ _ (by omega) (⟨by omega,by rw[hI.2,dr3,zbb,if_neg (by omega),if_neg (by simp[e4]),if_neg (by omega)]⟩) yS yS (fun b o e=>by first|exact e|(simp only[zab];split <;> simp_all)))
  ·rename_i e1 e2
   have de1:=zcz (l:=c.rounds[i].rulings) (i:=k) (by omega);rw[de1]at hI
   rw[hI.2];rfl
theorem zyh (S:Sto) (l:List Int) {g:FuncId} {fs cs:List V} {fn:Func} (p:Int→Bool) (hf:FnOk Tryz.prog g fn) (h: ∀x,RC Tryz.prog g (fs++ [I x]++cs) S (Bo (p x))) :
  RC Tryz.prog 103 [ints l, .fn g fs cs] S (I (idxF p l 0)):=by
 refine DC.of_run Tryz.func103 rfl Tryz.ntmps103 Tryz.results103 (by simp) (fun _ _=>?_);simp only[zad,zaf,go_sem,Nat.zero_add,Nat.reduceAdd]
 refine zir (t:=0) yG (.inl rfl) (fun hb0=>?_);simp only[List.length_map]at hb0
 repeat' (first|refine yJ ?_|fail)
 refine zbe [0,1,7] yN (fun(i:Nat)=> [(8,I i)]) (fun(i:Nat)=>i≤l.length∧idxF p l 0=idxF p (l.drop i) i) (fun(i:Nat)=>l.length-i) 0 yS ⟨Nat.zero_le _,rfl⟩ (fun i B hI hB=>?_);try dsimp only at hI hB;simp only[zae,zag]
 repeat' (first|refine yJ ?_|(with_reducible (refine zau yE ?_;refine zcx (fun _=>?_) (fun _=>?_)))|refine zay yE ⟨?_,rfl⟩|fail)
 ·refine yoa hf (by simp (disch:=omega) only[go_sem,dopV,yV0,↓reduceIte,Nat.reduceEqDiff,Nat.reduceLT,Nat.reduceLeDiff,Nat.reduceAdd,Nat.reduceMul,Nat.reduceSub,Int.reduceToNat,Int.reduceLT,Int.reduceLE,Int.reduceEq,IntWalk.toNatUp,IntWalk.iteOmega,IntWalk.i64_in,V.flat,V.one]) (h l[i]) yR yH ?_
  repeat' (first|refine yJ ?_|(with_reducible (refine zau yE ?_;refine yji (fun _=>?_) (fun _=>?_)))|refine zay yE ⟨?_,rfl⟩|fail)
  ·rename_i h1 h2
   rw[hI.2,zmg (p:=p) (l:=l) (i:=i) (by omega) h2];rfl
  ·rename_i h1 h2
   exact DS.back (hB (i+1) _ _ (by omega) (⟨by omega,by rw[hI.2,zju (by omega) h2]⟩) yS yS (fun b o e=>by first|exact e|(simp only[zab];split <;> simp_all)))
 ·rw[hI.2,zmh (p:=p) (l:=l) (i:=i) (by omega)];rfl
theorem zts (S:Sto) (l:List Int) {g:FuncId} {fs cs:List V} {fn:Func} (p:Int→Bool) (hf:FnOk Tryz.prog g fn) (h: ∀x,RC Tryz.prog g (fs++ [I x]++cs) S (Bo (p x))) :
  RC Tryz.prog 80 [ints l, .fn g fs cs] S (Bo (l.any p)):=by
 refine DC.of_run Tryz.func80 rfl Tryz.ntmps80 Tryz.results80 (by simp) (fun _ _=>?_);simp only[zad,zaf,go_sem,Nat.zero_add,Nat.reduceAdd]
 repeat' (first|refine yJ ?_|refine zhj inferInstance (zyh S l p hf h) yR yT ?_|refine zay yE ⟨?_,rfl⟩|fail)
 rw[zee,zor]
abbrev GR.Int (g:GR) (l:List Int):Prop:=g.l=l.map cI
theorem zpz : ∀l:List Int,(l.map cI).flatten=l.map fun x=>I x
 | []=>rfl
 | x::r=>by rw[List.map_cons,List.flatten_cons,zpz r];rfl
theorem yX9 {p:Prop} (h:p:=by(simp (disch:=omega) only[go_sem,dopV,yV0,↓reduceIte,Nat.reduceEqDiff,Nat.reduceLT,Nat.reduceLeDiff,Nat.reduceAdd,Nat.reduceMul,Nat.reduceSub,Int.reduceToNat,Int.reduceLT,Int.reduceLE,Int.reduceEq,IntWalk.toNatUp,IntWalk.iteOmega,IntWalk.i64_in,V.flat,V.one, *,zmf];exact rfl)):p:=h
theorem ypu (S:Sto) (g:GR) (l:List Int) (n:Int) (ok:g.Ok 3 1 S) (hg:g.l=l.map cI):RC Tryz.prog 92 [g.cell.peek,I n] S (I (idxF (fun x=>decide (x=n)) l 0)):=by
 obtain⟨gl,blk⟩:=g
 dsimp only at hg
 subst hg
 cases blk with
 | none =>
  simp only[GR.Ok,List.map_eq_nil_iff]at ok
  subst ok
  simp only[GR.cell,zxv]
  refine DC.of_run Tryz.func92 rfl Tryz.ntmps92 Tryz.results92 (by simp) (fun _ _=>?_);simp only[zad,zaf,go_sem,Nat.zero_add,Nat.reduceAdd]
  repeat' (first|refine yJ ?_|fail)
  refine zbe [0,1,7] yN (fun(i:Nat)=> [(8,I 0)]) (fun(i:Nat)=>True) (fun(i:Nat)=>i) 0 yS trivial (fun i B hI hB=>?_);try dsimp only at hI hB;simp only[zae,zag]
  repeat' (first|refine yJT ?_|refine zay yE ⟨?_,rfl⟩|fail)
  rfl
 | some x =>
  obtain⟨b,cap,j⟩:=x
  have k1:=ok.look
  have k2:=ok.le
  have k3:=ok.cap
  have hfl:=zpz l
  rw[hfl]at k1
  clear hfl ok
  simp only[List.length_map]at k2
  simp only[maxLen]at k3
  simp only[GR.cell,zme,List.length_map]
  refine DC.of_run Tryz.func92 rfl Tryz.ntmps92 Tryz.results92 (by simp) (fun _ _=>?_);simp only[zad,zaf,go_sem,Nat.zero_add,Nat.reduceAdd]
  repeat' (first|refine yJ ?_|fail)
  refine zbe [0,1,7] yN (fun(i:Nat)=> [(8,I i)]) (fun(i:Nat)=>i≤l.length∧idxF (fun x=>decide (x=n)) l 0=idxF (fun x=>decide (x=n)) (l.drop i) i) (fun(i:Nat)=>l.length-i) 0 yS ⟨Nat.zero_le _,rfl⟩ (fun i B hI hB=>?_);try dsimp only at hI hB;simp only[zae,zag]
  repeat' (first|with_reducible refine zas yU yU yX9 ?_|refine yJ ?_|(with_reducible (refine zau yX9 ?_;refine zcx (fun _=>?_) (fun _=>?_)))|refine zay yX9 ⟨?_,rfl⟩|fail)
  ·rename_i q1 q2
   rw[hI.2,zmg (p:=fun x=>decide (x=n)) (l:=l) (i:=i) (by omega) (decide_eq_true q2.symm)];rfl
  ·rename_i q1 q2
   exact DS.back (hB (i+1) _ _ (by omega) (⟨by omega,by rw[hI.2,zju (p:=fun x=>decide (x=n)) (l:=l) (i:=i) (by omega) (by simpa using fun h=>q2 h.symm)]⟩) yS yS (fun b o e=>by first|exact e|(simp only[zab];split <;> simp_all)))
  ·rename_i q1
   rw[hI.2,zmh (p:=fun x=>decide (x=n)) (l:=l) (i:=i) (by omega)];rfl
theorem ydj (S:Sto) (g:GR) (l:List Int) (n:Int) (ok:g.Ok 3 1 S) (hg:g.l=l.map cI):RC Tryz.prog 82 [g.cell.peek,I n] S (Bo (decide (n∈l))):=by
 have h:=ypu S g l n ok hg
 clear ok hg
 obtain⟨gl,blk⟩:=g
 cases blk with
 | none =>
  simp only[GR.cell,zxv]at h ⊢
  refine DC.of_run Tryz.func82 rfl Tryz.ntmps82 Tryz.results82 (by simp) (fun _ _=>?_);simp only[zad,zaf,go_sem,Nat.zero_add,Nat.reduceAdd]
  repeat' (first|refine yJ ?_|refine zhj inferInstance (h) yR yT ?_|refine zay yE ⟨?_,rfl⟩|fail)
  rw[zee,zor]
  simp[List.any_eq]
 | some x =>
  obtain⟨b,cap,j⟩:=x
  simp only[GR.cell,zme]at h ⊢
  refine DC.of_run Tryz.func82 rfl Tryz.ntmps82 Tryz.results82 (by simp) (fun _ _=>?_);simp only[zad,zaf,go_sem,Nat.zero_add,Nat.reduceAdd]
  repeat' (first|refine yJ ?_|refine zhj inferInstance (h) yR yT ?_|refine zay yE ⟨?_,rfl⟩|fail)
  rw[zee,zor]
  simp[List.any_eq]
end Go.XL
namespace Go.XL
open Go.Proofs
set_option maxRecDepth 100000
set_option maxHeartbeats 8000000
theorem yuq (l:List Int): ∀c∈l.map cI,c≠ []:=fun c hc=>by
 obtain⟨x,_,rfl⟩:=List.mem_map.1 hc;simp[cI]
theorem ybo (l:List Int) (hl:l.length≤2147483647):PC Tryz.prog 59 [ints l] (.own false 3 1 (l.map cI)):=by
 refine DC.of_run Tryz.func59 rfl Tryz.ntmps59 Tryz.results59 (by simp) (fun _ _=>?_);simp only[zad,zaf,go_sem,Nat.zero_add,Nat.reduceAdd]
 repeat' (first|(with_reducible (refine zch (t:=2) yU yO yE ?_))|refine yJ ?_|fail)
 refine yhe yR yU yG yR (yuq l) (fun b hb=>?_)
 cases b with
 | true =>
  have hb:=hb rfl
  simp only[List.map_eq_nil_iff]at hb
  subst hb
  repeat' (first|(with_reducible (refine zch (t:=2) yU yO yE ?_))|refine yJT ?_|refine zak [] yE trivial ?_|fail)
  rfl
 | false =>
  clear hb
  repeat' (first|(with_reducible refine zcm (t:=2) yU yO yE ?_;simp only[yS2,Nat.reduceEqDiff,↓reduceIte])|refine yJT ?_|(refine zdq yU yE yE ?_;simp only[go_sem,Nat.zero_add,Nat.reduceAdd])|(refine DS.append (mm:=false) yU yE yE yU (by decide) yE yO2 yE yX0 yLM yQ2 ?_;simp only[yS2,Nat.reduceEqDiff,↓reduceIte])|refine zak [] yE trivial ?_|fail)
  rfl
theorem ybp (l:List Int) (hl:l.length≤2147483647) (hl0:l≠ []):DC Tryz.prog 59 [ints l] [] (fun u S'=> ∃g:GR,u=g.cell∧g.Ok 3 1 S'∧g.l=l.map cI):=by
 refine DC.of_run Tryz.func59 rfl Tryz.ntmps59 Tryz.results59 (by simp) (fun _ _=>?_);simp only[zad,zaf,go_sem,Nat.zero_add,Nat.reduceAdd]
 repeat' (first|refine yJ ?_|fail)
 refine yhe yR yU yG yR (yuq l) (fun b hb=>?_)
 cases b with
 | true =>
  have hb:=hb rfl
  simp only[List.map_eq_nil_iff]at hb
  exact absurd hb hl0
 | false =>
  clear hb
  repeat' (first|refine yJT ?_|fail)
  refine yto yR yG yG (fun b hb=>?_)
  repeat' (first|refine yJ ?_|fail)
  have G:GR.Ok 3 1 [(b, .cells [] 3)] ⟨[],some (b,0,[])⟩:=⟨by simp[zaa],rfl,Nat.le_refl _,Nat.zero_le _,by simp,by simp,by simp⟩
  have hlp:0<l.length:=List.length_pos_iff.2 hl0
  refine zcq rfl rfl yR (zes (g:=⟨[],some (b,0,[])⟩) (ml:=l.map cI) rfl yH yH yR yR (by decide) yH G yH yH (by rw[List.length_map];omega) (by intro x hx;obtain⟨y,-,rfl⟩:=List.mem_map.1 hx;rfl) ⟨by simp only[List.length_map,List.length_nil];omega,by decide⟩) (fun u2 E' S4 hu2=>?_)
  obtain⟨rfl,b',cap',junk',rfl,m1,m2,m3⟩:=hu2
  simp only[GR.cell_some,zao]
  repeat' (first|refine yJ ?_|fail)
  refine zay yG ⟨⟨l.map cI,some (b',cap',junk')⟩,by simp[GR.cell,tupV],?_,rfl⟩
  have hml: []++(l.map cI).map (·.map V.copy)=l.map cI:=by rw[List.nil_append,List.map_map];rfl
  rw[hml]at m1
  exact m1
theorem zyi (S:Sto) (l:List Int) {b cap:Nat} {j:List V} {T:TypeId} (hS:zaa S b=some (.cells ((l.map fun x=>I x)++j) T)) (hc:l.length≤cap∧cap≤maxLen) {g:FuncId} {fs cs:List V} {fn:Func} (p:Int→Bool) (hf:FnOk Tryz.prog g fn) (h: ∀x∈l,PC Tryz.prog g (fs++ [I x]++cs) (Bo (p x))) :
  RC Tryz.prog 103 [.v (.slice (some ⟨b,0,none⟩) l.length cap), .fn g fs cs] S (I (idxF p l 0)):=by
 have k3:=hc.2
 have k2:=hc.1
 simp only[maxLen]at k3
 clear hc
 refine DC.of_run Tryz.func103 rfl Tryz.ntmps103 Tryz.results103 (by simp) (fun _ _=>?_);simp only[zad,zaf,go_sem,Nat.zero_add,Nat.reduceAdd]
 repeat' (first|refine yJ ?_|fail)
 refine zbe [0,1,7] yN (fun(i:Nat)=> [(8,I i)]) (fun(i:Nat)=>i≤l.length∧idxF p l 0=idxF p (l.drop i) i) (fun(i:Nat)=>l.length-i) 0 yS ⟨Nat.zero_le _,rfl⟩ (fun i B hI hB=>?_);try dsimp only at hI hB;simp only[zae,zag]
 repeat' (first|with_reducible refine zas yU yU yX9 ?_|refine yJ ?_|(with_reducible (refine zau yX9 ?_;refine zcx (fun _=>?_) (fun _=>?_)))|refine zay yX9 ⟨?_,rfl⟩|fail)
 ·refine ydw hf (by simp (disch:=omega) only[go_sem,dopV,yV0,↓reduceIte,Nat.reduceEqDiff,Nat.reduceLT,Nat.reduceLeDiff,Nat.reduceAdd,Nat.reduceMul,Nat.reduceSub,Int.reduceToNat,Int.reduceLT,Int.reduceLE,Int.reduceEq,IntWalk.toNatUp,IntWalk.iteOmega,IntWalk.i64_in,V.flat,V.one]) (h l[i] (List.getElem_mem _)) yR yH ?_
  repeat' (first|refine yJ ?_|(with_reducible (refine zau yE ?_;refine yji (fun _=>?_) (fun _=>?_)))|refine zay yE ⟨?_,rfl⟩|fail)
  ·rename_i h1 h2
   rw[hI.2,zmg (p:=p) (l:=l) (i:=i) (by omega) h2];rfl
  ·rename_i h1 h2
   exact DS.back (hB (i+1) _ _ (by omega) (⟨by omega,by rw[hI.2,zju (by omega) h2]⟩) yS yS (fun b o e=>by first|exact e|(simp only[zab];split <;> simp_all)))
 ·rw[hI.2,zmh (p:=p) (l:=l) (i:=i) (by omega)];rfl
theorem yfm {p:Int→Bool}: ∀(l:List Int) (s:Nat),(idxF p l s = -1∧l.filter (fun x=> !p x)=l)∨ ∃i:Nat,idxF p l s=(s+i:Nat)∧i<l.length∧l.take i=(l.take (i+1)).filter (fun x=> !p x)
 | [],s => .inl ⟨rfl,rfl⟩
 | x::r,s=>by
  simp only[idxF]
  by_cases hx:p x=true
  ·rw[if_pos hx]
   exact .inr ⟨0,by simp,by simp,by simp[hx]⟩
  ·rw[if_neg hx]
   rcases yfm r (s+1)with⟨h1,h2⟩|⟨i,h1,h2,h3⟩
   ·exact .inl ⟨h1,by simp[hx,h2]⟩
   ·refine .inr ⟨i+1,by rw[h1];congr 1;omega,by simp;omega,?_⟩
    rw[List.take_succ_cons,List.take_succ_cons,List.filter_cons,if_pos (by simpa using hx),←h3]
structure DelI (p:Int→Bool) (l m:List Int) (i j:Nat):Prop where
 ij:i<j
 jl:j≤l.length
 len:m.length=l.length
 keep:m.take i=(l.take j).filter (fun x=> !p x)
 rest:m.drop j=l.drop j
theorem zlp (l:List Int) (k:Nat) (r:List V) (hk:k≤l.length):chunk 1 k ((l.map fun x=>I x)++r)=(l.take k).map cI:=by
 induction k generalizing l with
 | zero=>simp[chunk]
 | succ k ih =>
  cases l with
  | nil=>simp at hk
  | cons x l =>
   simp only[List.length_cons]at hk
   simp only[chunk,List.map_cons,List.cons_append,List.take_succ_cons,List.take_zero,List.drop_succ_cons,List.drop_zero,ih l (by omega)]
   rfl
theorem zym (l:List Int) (gr:GR) (S:Sto) (ok:gr.Ok 3 1 S) (hl0:l≠ []) (hg:gr.l=l.map cI) {g:FuncId} {fs cs:List V} {fn:Func} (p:Int→Bool) (hf:FnOk Tryz.prog g fn) (h: ∀x∈l,PC Tryz.prog g (fs++ [I x]++cs) (Bo (p x))) :
  DC Tryz.prog 117 [gr.cell.peek, .fn g fs cs] S (fun u S'=>u=ints (l.filter fun x=> !p x)):=by
 obtain⟨gl,blk⟩:=gr
 dsimp only at hg
 subst hg
 cases blk with
 | none =>
  simp only[GR.Ok,List.map_eq_nil_iff]at ok
  exact absurd ok hl0
 | some x =>
  obtain⟨b,cap,j⟩:=x
  have k1:=ok.look
  have k2:=ok.le
  have k3:=ok.cap
  have k4:=ok.len
  have hfl:=zpz l
  rw[hfl]at k1
  clear hfl ok
  simp only[List.length_map,Nat.mul_one]at k2 k4
  simp only[GR.cell,zme,List.length_map]
  have hix:=zyi S l k1 ⟨k2,k3⟩ p hf h
  simp only[maxLen]at k3
  have hpre:=yfm (p:=p) l 0
  rcases hpre with⟨e1,e2⟩|⟨i0,e1,e2,e3⟩
  ·rw[e1]at hix
   rw[e2]
   clear e1 e2
   refine DC.of_run Tryz.func117 rfl Tryz.ntmps117 Tryz.results117 (by simp) (fun _ _=>?_);simp only[zad,zaf,go_sem,Nat.zero_add,Nat.reduceAdd]
   repeat' (first|refine yJT ?_|refine zhj inferInstance (hix) yR yT ?_|fail)
   refine zff (t:=4) (sz:=1) yR k1 (by simp) ⟨k2,by simp only[maxLen];exact k3⟩ ?_
   refine zak [] yG trivial ?_
   rw[zee,List.map_append,List.map_map,show(V.copy∘fun x=>I x)=(fun x=>I x)from rfl,zlp l _ _ (Nat.le_refl _),List.take_length]
  ·rw[Nat.zero_add]at e1
   rw[e1]at hix
   have D0:DelI p l l i0 (i0+1):=⟨by omega,by omega,rfl,e3,rfl⟩
   clear e1 e3
   refine DC.of_run Tryz.func117 rfl Tryz.ntmps117 Tryz.results117 (by simp) (fun _ _=>?_);simp only[zad,zaf,go_sem,Nat.zero_add,Nat.reduceAdd]
   repeat' (first|refine yJ ?_|(with_reducible (refine zau yE ?_;refine zcx (fun _=>?_) (fun _=>?_)))|refine zhj inferInstance (hix) yR yT ?_|fail)
   all_goals first|(exfalso;omega)|skip
   rename_i e4
   clear hix
   refine zbf [0,1] yN (fun(x:Nat×Nat×List Int×Sto)=> [(5,I x.1),(6,I x.2.1)]) (fun(x:Nat×Nat×List Int×Sto)=>x.2.2.2) (fun(x:Nat×Nat×List Int×Sto)=>DelI p l x.2.2.1 x.1 x.2.1∧zaa x.2.2.2 b=some (.cells ((x.2.2.1.map fun x=>I x)++j) 3)) (fun(x:Nat×Nat×List Int×Sto)=>l.length-x.2.1) (i0,i0+1,l,S) yS (fun b o e=>by exact e) ⟨D0,k1⟩ (fun x B hI hB=>?_);try dsimp only at hI hB;simp only[zae,zag]
   obtain⟨a,c,m,S1⟩:=x
   dsimp only at hI hB
   obtain⟨D,g2⟩:=hI
   have d1:=D.ij
   have d2:=D.jl
   have d3:=D.len
   have hcc:c<l.length→ ∃h1:c<m.length,∃h2:c<l.length,m[c]=l[c]:=fun hc=>by
    have h1:c<m.length:=by omega
    refine⟨h1,hc,?_⟩
    have:=D.rest
    rw[List.drop_eq_getElem_cons h1,List.drop_eq_getElem_cons hc]at this
    exact(List.cons.inj this).1
   repeat' (first|with_reducible refine zas yU yU yX9 ?_|refine yJ ?_|(with_reducible (refine zau yX9 ?_;refine zcx (fun _=>?_) (fun _=>?_)))|fail)
   ·rename_i e5
    obtain⟨h1,h2,h3⟩:=hcc (by omega)
    have hpx:=h l[c] (List.getElem_mem h2)
    rw[←h3]at hpx
    refine ydw hf (by simp (disch:=omega) only[go_sem,dopV,yV0,↓reduceIte,Nat.reduceEqDiff,Nat.reduceLT,Nat.reduceLeDiff,Nat.reduceAdd,Nat.reduceMul,Nat.reduceSub,Int.reduceToNat,Int.reduceLT,Int.reduceLE,Int.reduceEq,IntWalk.toNatUp,IntWalk.iteOmega,IntWalk.i64_in,V.flat,V.one]) hpx yR yH ?_
    repeat' (first|refine yJ ?_|(with_reducible (refine zau yE ?_;refine ycg (fun _=>?_) (fun _=>?_)))|(refine DS.store yR yE yE yE yE yU yQ ?_;simp only[yS1];try simp only[yS2,Nat.reduceEqDiff,↓reduceIte])|fail)
    ·rename_i e6
     have hai:a<m.length:=by omega
     have hset:((m.map fun x=>I x)++j).set a (.v (.int .i64 l[c]))=((m.set a l[c]).map fun x=>I x)++j:=by
      rw[List.set_append_left _ _ (by simpa using hai),List.map_set]
     refine zcs (S':=setS b (.cells (((m.set a l[c]).map fun x=>I x)++j) 3) S1) (fun b' o e=>by rw[←hset]at e;exact e) ?_
     have g3:zaa (setS b (.cells (((m.set a l[c]).map fun x=>I x)++j) 3) S1) b=some (.cells (((m.set a l[c]).map fun x=>I x)++j) 3):=by rw[zai g2,if_pos rfl]
     have D2:DelI p l (m.set a l[c]) (a+1) (c+1):=by
      refine⟨by omega,by omega,by rw[List.length_set];exact D.len,?_,?_⟩
      ·rw[List.take_succ_eq_append_getElem (by rw[List.length_set];omega),List.take_set_of_le (Nat.le_refl _),D.keep,List.getElem_set_self,List.take_succ_eq_append_getElem h2,List.filter_append]
       simp[e6]
      ·rw[List.drop_set_of_lt (by omega)]
       have:=D.rest
       rw[List.drop_eq_getElem_cons h1,List.drop_eq_getElem_cons h2]at this
       exact(List.cons.inj this).2
     generalize setS b (.cells (((m.set a l[c]).map fun x=>I x)++j) 3) S1=S2 at *
     clear hset hcc
     skip
     refine DS.back (hB (a+1,c+1,m.set a l[c],S2) _ _ (by dsimp only;omega) ⟨D2,g3⟩ yS yS (fun b o e=>by exact e))
    ·rename_i e6
     have D2:DelI p l m a (c+1):=by
      refine⟨by omega,by omega,D.len,?_,?_⟩
      ·rw[List.take_succ_eq_append_getElem h2,List.filter_append,←D.keep]
       simp[e6]
      ·have:=D.rest
       rw[List.drop_eq_getElem_cons h1,List.drop_eq_getElem_cons h2]at this
       exact(List.cons.inj this).2
     clear hcc
     skip
     refine DS.back (hB (a,c+1,m,S1) _ _ (by dsimp only;omega) ⟨D2,g2⟩ yS yS (fun b o e=>by exact e))
   ·rename_i e5
    have hc:c=m.length:=by omega
    have hkeep:=D.keep
    rw[List.take_of_length_le (l:=l) (by omega)]at hkeep
    rw[←hkeep]
    clear hcc hkeep
    refine DS.clear (z := .int .i64 0) yU yU yR yR (m:=l.length-a) (by omega) yG g2 (by simp only[List.length_append,List.length_map];omega) ?_
    have hset:setAll ((m.map fun x=>I x)++j) a (List.replicate (l.length-a) (.v (.int .i64 0)))=((m.take a).map fun x=>I x)++(List.replicate (l.length-a) (.v (.int .i64 0))++j):=by
     apply List.ext_getElem?
     intro i
     rw[zgh _ _ _ _ (by simp;omega),List.length_replicate]
     by_cases h1:i<a
     ·rw[if_neg (by omega),List.getElem?_append_left (by simp;omega),List.getElem?_append_left (by simp;omega),List.map_take,List.getElem?_take_of_lt h1]
     ·rw[List.getElem?_append_right (l₁:=(m.take a).map fun x=>I x) (by simp;omega),List.length_map,List.length_take,Nat.min_eq_left (by omega)]
      by_cases h2:i<l.length
      ·rw[if_pos (by omega),List.getElem?_append_left (by simp;omega)]
      ·rw[if_neg (by omega),List.getElem?_append_right (by simp;omega),List.getElem?_append_right (by simp;omega),List.length_map,List.length_replicate]
       congr 1;omega
    refine zcs (S':=setS b (.cells (((m.take a).map fun x=>I x)++(List.replicate (l.length-a) (.v (.int .i64 0))++j)) 3) S1) (fun b' o e=>by rw[←hset]at e;exact e) ?_
    have g3:zaa (setS b (.cells (((m.take a).map fun x=>I x)++(List.replicate (l.length-a) (.v (.int .i64 0))++j)) 3) S1) b=some (.cells (((m.take a).map fun x=>I x)++(List.replicate (l.length-a) (.v (.int .i64 0))++j)) 3):=by rw[zai g2,if_pos rfl]
    generalize setS b (.cells (((m.take a).map fun x=>I x)++(List.replicate (l.length-a) (.v (.int .i64 0))++j)) 3) S1=S2 at *
    repeat' (first|refine yJ ?_|fail)
    refine zff (t:=4) (sz:=1) yR g3 (by simp;omega) ⟨by omega,by simp only[maxLen];exact k3⟩ ?_
    refine zak [] yG trivial ?_
    rw[zee,List.map_append,List.map_map,show(V.copy∘fun x=>I x)=(fun x=>I x)from rfl,zlp _ _ _ (by simp;omega),Nat.sub_zero,List.take_take,Nat.min_self]
end Go.XL
namespace Go.XL
open Go.Proofs
set_option maxRecDepth 100000
set_option maxHeartbeats 8000000
theorem znt {α β:Type} (f:α→β) (l:List α) (n:Nat):(l.map f).take n=(l.take n).map f:=by rw[List.map_take]
theorem yX10 {p:Prop} (h:p:=by(simp (disch:=omega) only[go_sem,dopV,yV0,↓reduceIte,Nat.reduceEqDiff,Nat.reduceLT,Nat.reduceLeDiff,Nat.reduceAdd,Nat.reduceMul,Nat.reduceSub,Int.reduceToNat,Int.reduceLT,Int.reduceLE,Int.reduceEq,IntWalk.toNatUp,IntWalk.iteOmega,IntWalk.i64_in,V.flat,V.one, *,List.forall_mem_map,implies_true,zfh,zjy,zhh,znt,List.take_length];exact rfl)):p:=h
theorem yX11 {p:Prop} (h:p:=by first|exact rfl|(simp (disch:=omega) only[go_sem,dopV,yV0,↓reduceIte,Nat.reduceEqDiff,Nat.reduceLT,Nat.reduceLeDiff,Nat.reduceAdd,Nat.reduceMul,Nat.reduceSub,Int.reduceToNat,Int.reduceLT,Int.reduceLE,Int.reduceEq,IntWalk.toNatUp,IntWalk.iteOmega,IntWalk.i64_in,V.flat,V.one, *,List.forall_mem_map,implies_true,zfh,zjy,zhh,znt,List.take_length];exact rfl)):p:=h
theorem yX12 {p:Prop} (h:p:=by(simp (disch:=omega) only[go_sem,dopV,yV0,↓reduceIte,Nat.reduceEqDiff,Nat.reduceLT,Nat.reduceLeDiff,Nat.reduceAdd,Nat.reduceMul,Nat.reduceSub,Int.reduceToNat,Int.reduceLT,Int.reduceLE,Int.reduceEq,IntWalk.toNatUp,IntWalk.iteOmega,IntWalk.i64_in,V.flat,V.one, *,List.forall_mem_map,implies_true,zfh,zjy,zhh,znt,List.take_length];try exact rfl)):p:=h
theorem ycx (bs:Nat) (x:Int) (l:List Int) (size:Int) (hs:3≤size∧size≤4) (hl:l.length≤1000000):SC Tryz.prog 100 [ptr bs,ints l,I size] bs x (.own false 3 1 ((zce size x l).1.map cI)) (zce size x l).2:=by
 unfold SC
 obtain⟨hs1,hs2⟩:=hs
 refine DC.of_run Tryz.func100 rfl Tryz.ntmps100 Tryz.results100 (by simp) (fun _ _=>?_);simp only[zad,zaf,go_sem,Nat.zero_add,Nat.reduceAdd]
 repeat' (first|with_reducible (refine zch (t:=6) yU yO yE ?_)|(with_reducible refine zcm (t:=7) yU yO yE ?_;simp only[yS2,Nat.reduceEqDiff,↓reduceIte])|refine yJ ?_|(refine zdq yU yE yE ?_;simp only[go_sem,Nat.zero_add,Nat.reduceAdd])|(refine DS.append (mm:=false) yU yE yE yU (by decide) yE yO2 yE yX0 yLM yQ2 ?_;simp only[yS2,Nat.reduceEqDiff,↓reduceIte])|fail)
 refine zbf [0,2] yN (fun(y:Nat×Int×List Int)=> [(7, .own false 3 1 (y.2.2.map cI))]) (fun(y:Nat×Int×List Int)=> [(bs,srcO y.2.1)]) (fun(y:Nat×Int×List Int)=>y.2.2.length<y.1∧y.2.2.length≤l.length∧zce size x l=zpv size y.1 y.2.1 y.2.2) (fun(y:Nat×Int×List Int)=>y.2.2.length) (l.length+1,x,l) yS (fun b o e=>by exact e) ⟨Nat.lt_succ_self _,Nat.le_refl _,rfl⟩ (fun y B hI hB=>?_);try dsimp only at hI hB;simp only[zae,zag]
 obtain⟨n,x1,l1⟩:=y
 dsimp only at hI hB
 obtain⟨g1,g2,g3⟩:=hI
 have H:=Box.mk g3
 clear g3
 obtain⟨n,rfl⟩: ∃n',n=n'+1:=⟨n-1,by omega⟩
 have hb1:=zar x1 l1.length
 have hb2:=zar (stepX x1) l1.length
 obtain⟨b1,b2,b3⟩:=hb1
 obtain⟨b4,b5,b6⟩:=hb2
 by_cases h0:l1.length=0
 ·have hl0:l1= []:=List.eq_nil_of_length_eq_zero h0
  subst hl0
  clear b2 b3 b5 b6
  repeat' (first|(with_reducible refine zcm (t:=6) yU yO yE ?_;simp only[yS2,Nat.reduceEqDiff,↓reduceIte])|(with_reducible refine zcm (t:=40) yU yO yE ?_;simp only[yS2,Nat.reduceEqDiff,↓reduceIte])|refine yJT ?_|(with_reducible (refine zds yU yE ?_;first|refine zyx ?_|refine zgd ?_))|fail)
  have h:=H.out
  simp only[zpv,List.length_nil,if_true]at h
  refine zay yG ⟨by rw[h];rfl,by rw[h]⟩
 ·have c2:=b2 (by omega)
  have c5:=b5 (by omega)
  clear b2 b3 b5 b6
  have hmod:((l1.length:Int)).tmod size=(l1.length:Int) % size:=Int.tmod_eq_emod_of_nonneg (by omega)
  have hbl1:=zct bs x1 l1.length (by omega)
  have hbl2:=zct bs (stepX x1) l1.length (by omega)
  have hmg:zpv size (n+1) x1 l1=if(l1.length:Int) % size≠0 then zpv size n (stepX x1) (l1.take (zac x1 l1.length).toNat++l1.drop ((zac x1 l1.length).toNat+1))else if zra x1 9=true then zpv size n (stepX (stepX x1)) (l1.take (zac (stepX x1) l1.length).toNat++l1.drop ((zac (stepX x1) l1.length).toNat+1))else(l1,stepX x1):=by
   rw[zpv,if_neg h0]
  have H2:=Box.mk (And.intro hmg (And.intro hbl1 hbl2))
  clear hmg hbl1 hbl2
  obtain⟨i1,hi1⟩: ∃i1:Nat,zac x1 l1.length=i1:=⟨(zac x1 l1.length).toNat,by omega⟩
  obtain⟨i2,hi2⟩: ∃i2:Nat,zac (stepX x1) l1.length=i2:=⟨(zac (stepX x1) l1.length).toNat,by omega⟩
  repeat' (first|(with_reducible refine zcm (t:=6) yU yO yE ?_;simp only[yS2,Nat.reduceEqDiff,↓reduceIte])|(with_reducible refine zcm (t:=40) yU yO yE ?_;simp only[yS2,Nat.reduceEqDiff,↓reduceIte])|refine yJ ?_|(with_reducible first|(refine zau yE ?_;first|refine zec ?_|refine zdw ?_|refine yji (fun _=>?_) (fun _=>?_))|(refine zds yU yE ?_;first|refine zyx ?_|refine zum (fun _=>?_) (fun _=>?_)|refine zmq (fun _=>?_) (fun _=>?_)|refine GG.run ?_|refine zgd ?_|refine zno ?_))|(refine zdp inferInstance (znd bs x1 9 (by omega)) yR yT yT ?_;(try simp only[zal,zap,↓reduceIte, *]))|fail)
  ·rename_i e1 e2 e3
   have hb:=H2.out.2.2
   rw[hi2]at hb
   repeat' (first|(with_reducible refine zcm (t:=7) yU yO yX10 ?_;simp only[yS2,Nat.reduceEqDiff,↓reduceIte])|with_reducible refine zas yU yU yX10 ?_|refine yJ ?_|(refine DS.append (mm:=false) yU yX10 yX10 yU (by decide) yX10 yO2 yX10 yX11 yLM yQ2 ?_;simp only[yS2,Nat.reduceEqDiff,↓reduceIte])|(refine zdp inferInstance (hb) yR yX12 yX12 ?_;(try simp only[zal,zap,↓reduceIte, *]))|refine zba (id:=4) [1,2,3,0,4,5,6,7,8] 9 yKR mixed yP1 yP2 ?_|(with_reducible first|refine zaq yU yU yU yX10 ?_|refine zbq ?_)|(refine zfk yU yX10 yX10 ?_;simp only[go_sem,Nat.zero_add,Nat.reduceAdd];simp only[zat,zbc,Nat.reduceEqDiff,↓reduceIte])|(refine DD.append (mm:=false) yU yX10 yX10 yU (by decide) yX10 yO2 yX10 yX11 yLM yQ2 ?_;simp only[yS2,Nat.reduceEqDiff,↓reduceIte];simp only[zat,zbc,Nat.reduceEqDiff,↓reduceIte])|fail)
   have h:=H.out
   rw[H2.out.1,if_neg (by omega),if_pos (by assumption),hi2]at h
   refine DS.back (hB (n,stepX (stepX x1),l1.take i2++l1.drop (i2+1)) _ _ (by simp;omega) ⟨by simp;omega,by simp;omega,by rw[h];rfl⟩ yS yS (fun b o e=>by exact e))
  ·rename_i e1 e2 e3
   have h:=H.out
   rw[H2.out.1,if_neg (by omega),if_neg (by simp[*])]at h
   refine zay yG ⟨by rw[h];rfl,by rw[h]⟩
  ·rename_i e1 e2
   have hb:=H2.out.2.1
   rw[hi1]at hb
   repeat' (first|(with_reducible refine zcm (t:=7) yU yO yX10 ?_;simp only[yS2,Nat.reduceEqDiff,↓reduceIte])|with_reducible refine zas yU yU yX10 ?_|refine yJ ?_|(refine DS.append (mm:=false) yU yX10 yX10 yU (by decide) yX10 yO2 yX10 yX11 yLM yQ2 ?_;simp only[yS2,Nat.reduceEqDiff,↓reduceIte])|(refine zdp inferInstance (hb) yR yX12 yX12 ?_;(try simp only[zal,zap,↓reduceIte, *]))|refine zba (id:=4) [1,2,3,0,4,5,6,7,8] 9 yKR mixed yP1 yP2 ?_|(with_reducible first|refine zaq yU yU yU yX10 ?_|refine zbq ?_)|(refine zfk yU yX10 yX10 ?_;simp only[go_sem,Nat.zero_add,Nat.reduceAdd];simp only[zat,zbc,Nat.reduceEqDiff,↓reduceIte])|(refine DD.append (mm:=false) yU yX10 yX10 yU (by decide) yX10 yO2 yX10 yX11 yLM yQ2 ?_;simp only[yS2,Nat.reduceEqDiff,↓reduceIte];simp only[zat,zbc,Nat.reduceEqDiff,↓reduceIte])|fail)
   have h:=H.out
   rw[H2.out.1,if_pos (by omega),hi1]at h
   refine DS.back (hB (n,stepX x1,l1.take i1++l1.drop (i1+1)) _ _ (by simp;omega) ⟨by simp;omega,by simp;omega,by rw[h];rfl⟩ yS yS (fun b o e=>by exact e))
  ·exfalso;omega
end Go.XL
namespace Go.XL
open Go.Proofs
set_option maxRecDepth 100000
set_option maxHeartbeats 8000000
theorem yeo (n:Int) (out:List Int): ∀a,zky n out a≤a
 | 0=>Nat.le_refl _
 | a+1=>by
  have:=yeo n out a
  simp only[zky];split <;> omega
theorem ykn (l:List Int) (hl:l.length≤1000000):PC Tryz.prog 119 [ints l] (.own false 3 1 ((zeh l).map cI)):=by
 refine DC.of_run Tryz.func119 rfl Tryz.ntmps119 Tryz.results119 (by simp) (fun _ _=>?_);simp only[zad,zaf,go_sem,Nat.zero_add,Nat.reduceAdd]
 repeat' (first|(with_reducible first|(refine zch (t:=2) yU yO yE ?_)|(refine zch (t:=3) yU yO yE ?_))|refine yJ ?_|fail)
 refine zbe [0] yN (fun(y:Nat×List Int)=> [(3, .own false 3 1 (y.2.map cI)),(4,I y.1)]) (fun(y:Nat×List Int)=>y.1≤l.length∧y.2.length=y.1∧zeh l=(l.drop y.1).foldl insS y.2) (fun(y:Nat×List Int)=>l.length-y.1) (0,[]) yS (by simp[zeh]) (fun y B hI hB=>?_);try dsimp only at hI hB;simp only[zae,zag]
 obtain⟨i,out⟩:=y
 dsimp only at hI hB
 obtain⟨g1,g2,g3⟩:=hI
 have H:=Box.mk g3
 clear g3
 repeat' (first|(with_reducible refine zcm (t:=2) yU yO yE ?_;simp only[yS2,Nat.reduceEqDiff,↓reduceIte])|(with_reducible refine zcm (t:=45) yU yO yE ?_;simp only[yS2,Nat.reduceEqDiff,↓reduceIte])|refine yJ ?_|(with_reducible (refine zau yE ?_;refine zcx (fun _=>?_) (fun _=>?_)))|refine zak [] yE trivial ?_|fail)
 ·rename_i e1
  have hi:i<l.length:=by omega
  have hto:List.take i out=out:=by rw[←g2];exact List.take_length
  have hB0:=hB
  clear hB
  refine zbe [0,3,4] yN (fun(a:Nat)=> [(5,I a)]) (fun(a:Nat)=>a≤out.length∧zky l[i] out out.length=zky l[i] out a) (fun(a:Nat)=>a) out.length yS ⟨Nat.le_refl _,rfl⟩ (fun a B hI hB=>?_);try dsimp only at hI hB;simp only[zae,zag]
  obtain⟨a1,a2⟩:=hI
  have H2:=Box.mk a2
  clear a2
  have hend:zky l[i] out out.length=a→ ∀E':VEnv,subV [(3, .own false 3 1 (List.map cI (List.take a out)++ [[V.v (Value.int IntKind.i64 l[i])]]++List.map cI (List.drop a out))),(4,I ((i:Int)+1))] E'→subV [(3, .own false 3 1 ((insS out l[i]).map cI)),(4,I ((i+1:Nat):Int))] E':=fun h E' hE=>by
   have h1:(insS out l[i]).map cI=List.map cI (List.take a out)++ [[V.v (Value.int IntKind.i64 l[i])]]++List.map cI (List.drop a out):=by
    rw[insS,h,List.map_append,List.map_cons,List.append_assoc];rfl
   rw[h1]
   exact hE
  have hil:(insS out l[i]).length=i+1:=by
   rw[insS,List.length_append,List.length_cons,List.length_take,List.length_drop]
   have:=yeo l[i] out out.length
   omega
  have hir:zeh l=(l.drop (i+1)).foldl insS (insS out l[i]):=by rw[H.out,List.drop_eq_getElem_cons hi,List.foldl_cons]
  have H3:=Box.mk (And.intro hend (And.intro hil hir))
  clear hend hil hir
  repeat' (first|(with_reducible refine zcm (t:=3) yU yO yX10 ?_;simp only[yS2,Nat.reduceEqDiff,↓reduceIte])|with_reducible refine zas yU yU yX10 ?_|refine yJ ?_|(with_reducible first|(refine zau yX10 ?_;first|refine zcx (fun _=>?_) (fun _=>?_)|refine zdw ?_)|(refine zds yU yX10 ?_;first|refine GG.run ?_|refine zgd ?_))|(refine DS.append (mm:=false) yU yX10 yX10 yU (by decide) yX10 yO2 yX10 yX11 yLM yQ2 ?_;simp only[yS2,Nat.reduceEqDiff,↓reduceIte])|refine zba (id:=6) [0,1,2,3,4,5,6,7,8,9,10,11] 12 yKR mixed yP1 yP2 ?_|refine zba (id:=8) [1,2,3,0,4,5,6,7,8,9,10,11,12,13] 14 yKR mixed yP1 yP2 ?_|(with_reducible first|refine zaq yU yU yU yX10 ?_|(refine zpl yU yX10 ?_;first|refine zun (fun _=>?_) (fun _=>?_)|refine DGG.run ?_|refine zmy ?_)|refine zbq ?_)|(refine zfk yU yX10 yX10 ?_;simp only[go_sem,Nat.zero_add,Nat.reduceAdd];simp only[zat,zbc,Nat.reduceEqDiff,↓reduceIte])|(refine DD.append (mm:=false) yU yX10 yX10 yU (by decide) yX10 yO2 yX10 yX11 yLM yQ2 ?_;simp only[yS2,Nat.reduceEqDiff,↓reduceIte];simp only[zat,zbc,Nat.reduceEqDiff,↓reduceIte])|fail)
  ·rename_i e2 e3
   obtain⟨a',rfl⟩: ∃a',a=a'+1:=⟨a-1,by omega⟩
   refine DS.back (hB a' _ _ (by omega) ⟨by omega,by rw[H2.out,zky,if_pos (by rw[List.getD_eq_getElem?_getD,List.getElem?_eq_getElem (by omega)];simpa using e3)]⟩ ⟨?_,trivial⟩ yS (fun b o e=>by exact e))
   have e9:((a':Int)+1-1)=a':=by omega
   simp only[zax,if_true,Int.natCast_add,Int.natCast_one,e9]
  ·rename_i e2 e3
   obtain⟨a',rfl⟩: ∃a',a=a'+1:=⟨a-1,by omega⟩
   have h:zky l[i] out out.length=a'+1:=by rw[H2.out,zky,if_neg (by rw[List.getD_eq_getElem?_getD,List.getElem?_eq_getElem (by omega)];simpa using e3)]
   refine DS.back (hB0 (i+1,insS out l[i]) _ _ (by dsimp only;omega) ⟨by dsimp only;omega,H3.out.2.1,H3.out.2.2⟩ (H3.out.1 h _ yS) yS (fun b o e=>by exact e))
  ·rename_i e2
   have:a=0:=by omega
   subst this
   have h:zky l[i] out out.length=0:=by rw[H2.out];rfl
   refine DS.back (hB0 (i+1,insS out l[i]) _ _ (by dsimp only;omega) ⟨by dsimp only;omega,H3.out.2.1,H3.out.2.2⟩ (H3.out.1 h _ yS) yS (fun b o e=>by exact e))
 ·have h:=H.out
  rw[List.drop_eq_nil_of_le (by omega)]at h
  rw[h];rfl
end Go.XL
namespace Go.XL
open Go.Proofs
set_option maxRecDepth 100000
set_option maxHeartbeats 8000000
theorem ybh (start:Int): ∀(n:Nat) (x:Int) (acc:List Int),(zlm start n x acc).1.length=acc.length+n
 | 0,x,acc=>rfl
 | n+1,x,acc=>by rw[zlm,ybh];simp;omega
theorem zoz (size start x:Int) (h:1≤size):((zek size start x).1.length:Int)=size:=by
 simp only[zek,List.length_cons,ybh,List.length_nil];omega
def evC (sz:Nat) (acc:List Int):List V:=I 0::(acc.map fun a=>I a)++List.replicate (sz-1-acc.length) (I 0)
theorem ydf {sz:Nat} {acc:List Int} (h:acc.length+1≤sz):(evC sz acc).length=sz:=by simp[evC];omega
theorem ymr {sz:Nat} {acc:List Int} (h:acc.length+1<sz) (a:Int):(evC sz acc).set (acc.length+1) (I a)=evC sz (acc++ [a]):=by
 apply List.ext_getElem?
 intro i
 obtain⟨m,hm⟩: ∃m,sz-1-acc.length=m+1:=⟨sz-1-acc.length-1,by omega⟩
 have hm2:sz-1-(acc++ [a]).length=m:=by simp;omega
 have e1:evC sz acc=(I 0::acc.map fun a=>I a)++I 0::List.replicate m (I 0):=by rw[evC,hm,List.replicate_succ]
 have e2:evC sz (acc++ [a])=(I 0::acc.map fun a=>I a)++I a::List.replicate m (I 0):=by rw[evC,hm2];simp
 have hl:(I 0::acc.map fun a=>I a).length=acc.length+1:=by simp
 rw[e1,e2,List.set_append_right _ _ (by omega),hl,Nat.sub_self,List.set_cons_zero]
theorem ytc {sz:Nat} {acc:List Int} (h:acc.length+1<sz) (a:Int):(evC sz (acc++ [a]))[acc.length+1]?=some (I a):=by
 rw[←ymr h,List.getElem?_set_self (by have:=ydf (sz:=sz) (acc:=acc) (by omega);omega)]
theorem ymq (bs:Nat) (x:Int) (sz:Nat) (start:Int) (hs:3≤sz∧sz≤4) (h0:0≤start∧start≤1000000):SC Tryz.prog 79 [ptr bs,I sz,I start] bs x (ints (zek sz start x).1) (zek sz start x).2:=by
 obtain⟨hs1,hs2⟩:=hs
 obtain⟨h01,h02⟩:=h0
 have hmul:0≤(sz:Int)*start∧(sz:Int)*start≤4000000:=by
  rcases(show sz=3∨sz=4 by omega)with rfl|rfl <;> omega
 obtain⟨hm1,hm2⟩:=hmul
 unfold SC
 refine DC.of_run Tryz.func79 rfl Tryz.ntmps79 Tryz.results79 (by simp) (fun _ _=>?_);simp only[zad,zaf,go_sem,Nat.zero_add,Nat.reduceAdd]
 repeat' (first|refine yJ ?_|(refine yob yU yE yE yE yE yU yU ⟨by omega,by omega,by decide,by omega⟩ (fun _ hfr=>?_))|fail)
 rename_i b
 have nb: ¬bs=b:=fun e=>by rw[zab,if_pos e]at hfr;cases hfr
 have nb': ¬b=bs:=fun e=>nb e.symm
 clear hfr
 have hz:(zdh (Value.int IntKind.i64 0) ((sz:Int)).toNat)=evC sz []:=by
  rw[Int.toNat_natCast,yhk]
  obtain⟨m,rfl⟩: ∃m,sz=m+1:=⟨sz-1,by omega⟩
  rfl
 rw[hz]
 clear hz
 refine zbf [0,1,2,7] yN (fun(y:Int×List Int×Int×Nat)=> [(8,I y.2.2.1),(9,I y.2.2.2)]) (fun(y:Int×List Int×Int×Nat)=> [(b, .cells (evC sz y.2.1) 3),(bs,srcO y.1)]) (fun(y:Int×List Int×Int×Nat)=>y.2.2.2=y.2.1.length+1∧y.2.2.2≤sz∧y.2.2.1=(sz:Int)*start-y.2.1.sum∧zlm start (sz-1) x []=zlm start (sz-y.2.2.2) y.1 y.2.1 ∧ -(y.2.2.2:Int)*2000000≤y.2.1.sum∧y.2.1.sum≤(y.2.2.2:Int)*2000000) (fun(y:Int×List Int×Int×Nat)=>sz-y.2.2.2) (x,[],sz*start,1) yS (fun b o e=>by exact e) ⟨rfl,by dsimp only;omega,by simp,rfl,by simp,by simp⟩ (fun y B hI hB=>?_);try dsimp only at hI hB;simp only[zae,zag]
 obtain⟨x1,acc,rest,k⟩:=y
 dsimp only at hI hB
 obtain⟨g1,g2,g3,g4,g5,g6⟩:=hI
 have g7 : -8000000≤rest∧rest≤12000000:=by omega
 obtain⟨g7,g8⟩:=g7
 have H:=Box.mk (And.intro g1 (And.intro g3 g4))
 obtain⟨b1,b2,-⟩:=zar x1 7
 have b3:=b2 (by omega)
 clear b2
 have hlen:=ydf (sz:=sz) (acc:=acc) (by omega)
 have hgen: ∀a,k<sz→(evC sz acc).set k (I a)=evC sz (acc++ [a]):=fun a h=>by rw[g1];exact ymr (by omega) a
 have hge2:k<sz→(evC sz (acc++ [start+(zac x1 7-3)*10]))[k]?=some (I (start+(zac x1 7-3)*10)):=fun h=>by rw[g1];exact ytc (by omega) _
 have hgl:k<sz→(evC sz (acc++ [start+(zac x1 7-3)*10])).length=sz:=fun h=>ydf (by simp;omega)
 have H2:=Box.mk (And.intro hgen (And.intro hge2 hgl))
 clear hgen hge2 hgl g1 g3 g4
 repeat' (first|refine yJ ?_|(with_reducible (refine zau yE ?_;refine zcx (fun _=>?_) (fun _=>?_)))|(refine zdp inferInstance (zct bs x1 7 (by omega)) yR yT yT ?_;(try simp only[zal,zap,↓reduceIte, *]))|(refine DS.store yR yE yE yE yE yU yQ ?_;simp only[yS1];try simp only[yS2,Nat.reduceEqDiff,↓reduceIte])|fail)
 ·rename_i e1
  have hk:k<sz:=by omega
  have h2:=H2.out.2.1 hk
  have h3:=H2.out.2.2 hk
  refine zcs (S':= [(b, .cells (evC sz (acc++ [start+(zac x1 7-3)*10])) 3),(bs,srcO (stepX x1))]) (fun b' o e=>?_) ?_
  ·rw[←H2.out.1 _ hk]at e
   simp only[setS,zaa,nb,nb',↓reduceIte]at e ⊢
   by_cases h4:b=b'
   ·subst h4
    simp only[nb,↓reduceIte]at e ⊢;exact e
   ·simp only[h4,↓reduceIte]at e ⊢;exact e
  repeat' (first|refine yJ ?_|fail)
  obtain⟨q1,q3,q4⟩:=H.out
  refine DS.back (hB (stepX x1,acc++ [start+(zac x1 7-3)*10],rest-(start+(zac x1 7-3)*10),k+1) _ _ (by dsimp only;omega) ⟨by simp;omega,by dsimp only;omega,by simp[q3];omega,?_,by simp;omega,by simp;omega⟩ yS yS (fun b o e=>by exact e))
  obtain⟨m,hm⟩: ∃m,sz-k=m+1:=⟨sz-k-1,by omega⟩
  dsimp only
  rw[q4,hm,zlm,show sz-(k+1)=m by omega]
 ·rename_i e1
  obtain⟨q1,q3,q4⟩:=H.out
  have hk:k=sz:=by omega
  have hcells:(evC sz acc).set 0 (I rest)=(rest::acc).map fun a=>I a:=by
   rw[evC,show sz-1-acc.length=0 by omega];simp
  refine zcs (S':= [(b, .cells ((rest::acc).map fun a=>I a) 3),(bs,srcO x1)]) (fun b' o e=>?_) ?_
  ·rw[←hcells]at e
   simp only[setS,↓reduceIte]at e ⊢
   exact e
  refine zff (t:=6) (b:=b) (sz:=1) (l:=(rest::acc).map fun a=>I a) (T:=3) yR (by simp only[zab,↓reduceIte]) (by simp;omega) ⟨Nat.le_refl _,by simp only[maxLen];omega⟩ ?_
  simp only[zal,zap,nb,↓reduceIte]
  refine zay yG ⟨?_,?_⟩
  ·have h:=zlp (rest::acc) sz [] (by simp;omega)
   rw[List.append_nil]at h
   rw[zee,List.map_map,show(V.copy∘fun a=>I a)=(fun x=>I x)from rfl]
   rw[List.take_of_length_le (by simp;omega)]at h
   refine(congrArg V.lst h).trans ?_
   simp only[zek,Int.toNat_natCast,q4,hk,Nat.sub_self,zlm]
   rw[q3]
  ·simp only[zek,Int.toNat_natCast,q4,hk,Nat.sub_self,zlm]
end Go.XL
namespace Go.XL
open Go.Proofs
set_option maxRecDepth 100000
set_option maxHeartbeats 8000000
theorem zxe (size:Int): ∀(n:Nat) (x:Int) (t rest:List Int),(t.length:Int)≤size→size≤(t.length:Int)+n→((tabG size n x t rest).1.length:Int)=size
 | 0,x,t,rest,h1,h2=>by
  show(t.length:Int)=size
  omega
 | n+1,x,t,rest,h1,h2=>by
  simp only[tabG]
  split
  ·exact zxe size n _ _ _ (by simp;omega) (by simp;omega)
  ·show(t.length:Int)=size
   omega
theorem yjp (size:Int): ∀(n:Nat) (x:Int) (t rest:List Int),¬(t.length:Int)<size→tabG size n x t rest=(t,rest,x)
 | 0,x,t,rest,h=>rfl
 | n+1,x,t,rest,h=>by rw[tabG,if_neg h]
theorem yX13 {p:Prop} (h:p:=by(simp (disch:=omega) only[go_sem,dopV,yV0,↓reduceIte,Nat.reduceEqDiff,Nat.reduceLT,Nat.reduceLeDiff,Nat.reduceAdd,Nat.reduceMul,Nat.reduceSub,Int.reduceToNat,Int.reduceLT,Int.reduceLE,Int.reduceEq,IntWalk.toNatUp,IntWalk.iteOmega,IntWalk.i64_in,V.flat,V.one, *,List.forall_mem_cons,List.forall_mem_map,implies_true,zfh,zjy,zhh,znt,List.take_length,List.length_singleton,and_self];exact rfl)):p:=h
theorem ycm (bs:Nat) (x:Int) (l:List Int) (size:Int) (hs:3≤size∧size≤4) (hl:l.length≤1000000):SC Tryz.prog 101 [ptr bs,ints l,I size] bs x (.own false 22 1 ((zda size x l).1.map cR)) (zda size x l).2:=by
 unfold SC
 obtain⟨hs1,hs2⟩:=hs
 refine DC.of_run Tryz.func101 rfl Tryz.ntmps101 Tryz.results101 (by simp) (fun _ _=>?_);simp only[zad,zaf,go_sem,Nat.zero_add,Nat.reduceAdd]
 repeat' (first|(with_reducible first|(refine zch (t:=6) yU yO yE ?_)|(refine zch (t:=8) yU yO yE ?_))|refine yJ ?_|(refine zdq yU yE yE ?_;simp only[go_sem,Nat.zero_add,Nat.reduceAdd])|(refine DS.append (mm:=false) yU yE yE yU (by decide) yE yO2 yE yX0 yLM yQ2 ?_;simp only[yS2,Nat.reduceEqDiff,↓reduceIte])|fail)
 refine zbf [0,2] yN (fun(y:Nat×Int×List Int×List (List Int))=> [(7,ints y.2.2.1),(8, .own false 22 1 (y.2.2.2.map cR))]) (fun(y:Nat×Int×List Int×List (List Int))=> [(bs,srcO y.2.1)]) (fun(y:Nat×Int×List Int×List (List Int))=>y.2.2.1.length<y.1∧y.2.2.1.length+y.2.2.2.length≤l.length∧zda size x l=zna size y.1 y.2.1 y.2.2.1 y.2.2.2) (fun(y:Nat×Int×List Int×List (List Int))=>y.2.2.1.length) (l.length+1,x,l,[]) yS (fun b o e=>by exact e) ⟨Nat.lt_succ_self _,Nat.le_refl _,rfl⟩ (fun y B hI hB=>?_);try dsimp only at hI hB;simp only[zae,zag]
 obtain⟨n,x1,rest,out⟩:=y
 dsimp only at hI hB
 obtain⟨g1,g2,g3⟩:=hI
 have H:=Box.mk g3
 clear g3
 obtain⟨n,rfl⟩: ∃n',n=n'+1:=⟨n-1,by omega⟩
 have hB0:=hB
 clear hB
 by_cases h0:size≤(rest.length:Int)
 ·obtain⟨a,r,rfl⟩: ∃a r,rest=a::r:=by
   cases rest with
   | nil=>simp at h0;omega
   | cons a r=>exact⟨a,r,rfl⟩
  have h0:size≤((r.length:Int)+1):=by simpa using h0
  have g1:r.length+1<n+1:=by simpa using g1
  have g2:r.length+1+out.length≤l.length:=by simpa using g2
  repeat' (first|(with_reducible refine zcm (t:=6) yU yO yX13 ?_;simp only[yS2,Nat.reduceEqDiff,↓reduceIte])|(with_reducible refine zcm (t:=9) yU yO yX13 ?_;simp only[yS2,Nat.reduceEqDiff,↓reduceIte])|(with_reducible refine zcm (t:=54) yU yO yX13 ?_;simp only[yS2,Nat.reduceEqDiff,↓reduceIte])|with_reducible refine zas yU yU yX13 ?_|refine yJ ?_|(with_reducible (refine zau yX13 ?_;refine zcx (fun _=>?_) (fun _=>?_)))|(refine zdq yU yX13 yX13 ?_;simp only[go_sem,Nat.zero_add,Nat.reduceAdd])|fail)
  all_goals first|(exfalso;omega)|skip
  refine zbf [0,2,8] yN (fun(z:Nat×Int×List Int×List Int)=> [(7,ints z.2.2.2),(9, .own false 3 1 (z.2.2.1.map cI))]) (fun(z:Nat×Int×List Int×List Int)=> [(bs,srcO z.2.1)]) (fun(z:Nat×Int×List Int×List Int)=>(z.2.2.1.length:Int)≤size∧size≤(z.2.2.1.length:Int)+z.1∧size≤(z.2.2.1.length:Int)+z.2.2.2.length∧z.2.2.1.length+z.2.2.2.length=r.length+1∧tabG size size.toNat x1 [a] r=tabG size z.1 z.2.1 z.2.2.1 z.2.2.2) (fun(z:Nat×Int×List Int×List Int)=>z.2.2.2.length) (size.toNat,x1,[a],r) yS (fun b o e=>by exact e) ⟨by simp;omega,by simp;omega,by simp;omega,by simp;omega,rfl⟩ (fun z B hI hB=>?_);try dsimp only at hI hB;simp only[zae,zag]
  obtain⟨m,x2,t,rest⟩:=z
  dsimp only at hI hB
  obtain⟨k1,k2,k3,k4,k5⟩:=hI
  have K:=Box.mk k5
  clear k5
  by_cases ht:(t.length:Int)<size
  ·obtain⟨b1,b2,-⟩:=zar x2 rest.length
   have b3:=b2 (by omega)
   obtain⟨i,hi⟩: ∃i:Nat,zac x2 rest.length=i:=⟨(zac x2 rest.length).toNat,by omega⟩
   have hbl:=zct bs x2 rest.length (by omega)
   have hdi:=hi
   rw[hi]at b3 hbl
   have K2:=Box.mk hi
   clear hi b1 b2 hdi
   have hir:i<rest.length:=by omega
   repeat' (first|(with_reducible refine zcm (t:=9) yU yO yX10 ?_;simp only[yS2,Nat.reduceEqDiff,↓reduceIte])|(with_reducible refine zcm (t:=32) yU yO yX10 ?_;simp only[yS2,Nat.reduceEqDiff,↓reduceIte])|with_reducible refine zas yU yU yX10 ?_|refine yJ ?_|(with_reducible (refine zau yX10 ?_;refine zec ?_))|(refine zdq yU yX10 yX10 ?_;simp only[go_sem,Nat.zero_add,Nat.reduceAdd])|(refine DS.append (mm:=false) yU yX10 yX10 yU (by decide) yX10 yO2 yX10 yX11 yLM yQ2 ?_;simp only[yS2,Nat.reduceEqDiff,↓reduceIte])|(refine zdp inferInstance (hbl) yR yX12 yX12 ?_;(try simp only[zal,zap,↓reduceIte, *]))|refine zba (id:=9) [1,2,3,0,4,5,6,7,8] 9 yKR mixed yP1 yP2 ?_|(with_reducible first|refine zaq yU yU yU yX10 ?_|refine zbq ?_)|(refine zfk yU yX10 yX10 ?_;simp only[go_sem,Nat.zero_add,Nat.reduceAdd];simp only[zat,zbc,Nat.reduceEqDiff,↓reduceIte])|(refine DD.append (mm:=false) yU yX10 yX10 yU (by decide) yX10 yO2 yX10 yX11 yLM yQ2 ?_;simp only[yS2,Nat.reduceEqDiff,↓reduceIte];simp only[zat,zbc,Nat.reduceEqDiff,↓reduceIte])|fail)
   all_goals first|(exfalso;omega)|skip
   obtain⟨m,rfl⟩: ∃m',m=m'+1:=⟨m-1,by omega⟩
   have hk:=K.out
   rw[tabG,if_pos ht,K2.out,Int.toNat_natCast,List.getD_eq_getElem?_getD,List.getElem?_eq_getElem hir,Option.getD_some]at hk
   refine DS.back (hB (m,stepX x2,t++ [rest[i]],rest.take i++rest.drop (i+1)) _ _ (by simp;omega) ⟨by simp;omega,by simp;omega,by simp;omega,by simp;omega,hk⟩ yS yS (fun b o e=>by exact e))
  ·repeat' (first|(with_reducible refine zcm (t:=8) yU yO yX10 ?_;simp only[yS2,Nat.reduceEqDiff,↓reduceIte])|(with_reducible refine zcm (t:=49) yU yO yX10 ?_;simp only[yS2,Nat.reduceEqDiff,↓reduceIte])|with_reducible refine zas yU yU yX10 ?_|refine yJ ?_|(with_reducible (refine zau yX10 ?_;refine zdw ?_))|(refine zdq yU yX10 yX10 ?_;simp only[go_sem,Nat.zero_add,Nat.reduceAdd])|(refine DS.append (mm:=false) yU yX10 yX10 yU (by decide) yX10 yO2 yX10 yX11 yLM yQ2 ?_;simp only[yS2,Nat.reduceEqDiff,↓reduceIte])|refine zan inferInstance (ykn t (by omega)) yR yX12 ?_|fail)
   all_goals first|(exfalso;omega)|skip
   have hk:=K.out
   rw[yjp size m x2 t rest ht]at hk
   have h:=H.out
   rw[zna,if_pos (by simpa using h0),List.headD_cons,List.drop_succ_cons,List.drop_zero,hk]at h
   refine DS.back (hB0 (n,x2,rest,out++ [zeh t]) _ _ (by simp;omega) ⟨by simp;omega,by simp;omega,h⟩ yS yS (fun b o e=>by exact e))
 ·repeat' (first|(with_reducible refine zcm (t:=6) yU yO yE ?_;simp only[yS2,Nat.reduceEqDiff,↓reduceIte])|(with_reducible refine zcm (t:=54) yU yO yE ?_;simp only[yS2,Nat.reduceEqDiff,↓reduceIte])|refine yJT ?_|fail)
  all_goals first|(exfalso;omega)|skip
  have h:=H.out
  rw[zna,if_neg h0]at h
  refine zay yG ⟨by rw[h];rfl,by rw[h]⟩
end Go.XL
namespace Go.XL
def ptsG (size start:Int):Nat→Int→List (List Int)→List (List Int)×Int
 | 0,x,out=>(out,x)
 | n+1,x,out=>if 0<zac x 5 then ptsG size start n (zek size start (stepX x)).2 (out++ [(zek size start (stepX x)).1])else ptsG size start n (stepX x) (out++ [[]])
def zcb (c:Club) (x:Int):List Int×Int:=zce c.size x (zbp c c.rounds.length)
def zah (c:Club) (x:Int):List (List Int)×Int :=
 if(zcb c x).1.length≤12 then
  (if 0<zac (zda c.size (zcb c x).2 (zcb c x).1).2 3∧(zjp c (zcb c x).1).2=0 then(zjp c (zcb c x).1).1 else(zda c.size (zcb c x).2 (zcb c x).1).1,stepX (zda c.size (zcb c x).2 (zcb c x).1).2)
 else zda c.size (zcb c x).2 (zcb c x).1
def zbj (c:Club) (x:Int):List (List Int)×Int:=ptsG c.size c.start (zah c x).1.length (zah c x).2 []
theorem yee {budget:Int} {round n:Nat} {rec:List Int→Int→Int×Int×List (Nat×List Int)} (h: ∀t s,(rec t s).2.2.length≤n): ∀(l:List (List Int)) (s:Int),(tryL budget round rec l s).2.2.length≤n+1
 | [],s=>by simp[tryL]
 | t::r,s=>by
  simp only[tryL]
  split
  ·simp
  split
  ·exact yee h r _
  ·simp only[List.length_cons];have:=h t (w64 (s+1));omega
theorem zxi {size:Nat} {budget:Int} {rounds:List (List Int)}: ∀(n:Nat) (met:Int→Int→Bool) (round:Nat) (ids:List Int) (s:Int),(srch size budget rounds n met round ids s).2.2.length≤n
 | 0,met,round,ids,s=>by simp[srch]
 | n+1,met,round,[],s=>by
  rw[srch]
  split
  ·simp
  ·exact Nat.le_succ_of_le (zxi n met _ _ _)
 | n+1,met,round,f::fr,s=>by
  rw[srch]
  exact yee (fun t s=>zxi n _ _ _ _) _ _
theorem ylb (c:Club) (ids:List Int):(zjp c ids).1.length≤ids.length+2:=by
 unfold zjp
 repeat' split
 all_goals first|(simp;done)|skip
 simp only[List.length_map,runS]
 have:=zxi (size:=c.size.toNat) (budget := -1) (rounds:= [ids]) (znh [ids]) (met0 c) 0 ([ids].headD []) 0
 simp[znh]at this ⊢
 omega
theorem zzf (size:Int): ∀(n:Nat) (x:Int) (rest:List Int) (out:List (List Int)),(zna size n x rest out).1.length≤out.length+n
 | 0,x,rest,out=>by simp[zna]
 | n+1,x,rest,out=>by
  simp only[zna]
  split
  ·have:=zzf size n (tabG size size.toNat x [rest.headD 0] (rest.drop 1)).2.2 (tabG size size.toNat x [rest.headD 0] (rest.drop 1)).2.1 (out++ [zeh (tabG size size.toNat x [rest.headD 0] (rest.drop 1)).1])
   simp only[List.length_append,List.length_singleton]at this
   omega
  ·show out.length≤_
   omega
theorem zxd (size x:Int) (l:List Int):(zda size x l).1.length≤l.length+1:=by
 have:=zzf size (l.length+1) x l []
 simpa [zda] using this
theorem zof (c:Club) (x:Int):(zah c x).1.length≤c.members.length+2:=by
 have h1:=(zfw c.size x (zbp c c.rounds.length)).length_le
 have h2:(zbp c c.rounds.length).length≤c.members.length:=by
  unfold zbp
  repeat' split
  all_goals first|(simp;done)|skip
  rw[zeo,List.length_map]
  exact List.length_filter_le _ _
 have h3:=ylb c (zcb c x).1
 have h4:=zxd c.size (zcb c x).2 (zcb c x).1
 unfold zcb at *
 unfold zah zcb
 split
 ·dsimp only
  split <;> omega
 ·omega
end Go.XL
namespace Go.XL
open Go.Proofs
set_option maxRecDepth 100000
set_option maxHeartbeats 8000000
def mzS (rs:List (List Int)) (round k:Nat):Nat:=k+((rs.drop (round+1)).map List.length).sum+(rs.length-round)
def yuz (bx bp:Nat) (c:Club) (rs:List (List Int)) (bs:List Nat) (budget:Int) (met:Int→Int→Bool) (ps:List PRow) (res:Int×Int×List (Nat×List Int)) (u:V) (S':Sto):Prop :=
 u=I res.1∧ ∃met' ps',SearchR S' bx bp c rs bs budget res.2.1 met' ps'∧ps'.length=ps.length∧(res.1=2→met'=met∧ ∀(i:Nat) (h:i<ps.length) (h':i<ps'.length),ps'[i].rows=ps[i].rows) ∧
  (res.1=1→ ∀(i:Nat) (h:i<ps.length) (h':i<ps'.length),ps'[i].rows=ps[i].rows++(res.2.2.filter fun q=>decide (q.1=i)).map Prod.snd)
theorem yav (ids:List Int):zgr ids []=ids:=by simp[zgr]
theorem yfe {rs:List (List Int)} {round:Nat} (h:round+1<rs.length):mzS rs (round+1) rs[round+1].length+1=mzS rs round 0:=by
 simp only[mzS]
 rw[List.drop_eq_getElem_cons h,List.map_cons,List.sum_cons]
 omega
theorem yaf (st:List Int→Int→Bool): ∀(n:Nat) (t ids:List Int),∀x∈zgb st n t ids,x.Sublist ids
 | 0,t,ids,x,h=>by simp only[zgb,List.mem_singleton]at h;subst h;exact List.nil_sublist _
 | n+1,t,ids,x,h=>by
  have key: ∀l:List Int,∀x∈zez st (zgb st n) t l,x.Sublist l:=by
   intro l
   induction l with
   | nil=>intro x h;simp[zez]at h
   | cons id r ih =>
    intro x h
    simp only[zez,List.mem_append]at h
    rcases h with h|h
    ·split at h
     ·obtain⟨y,hy,rfl⟩:=List.mem_map.1 h
      exact(yaf st n _ _ y hy).cons_cons id
     ·simp at h
    ·exact(ih x h).cons id
  exact key ids x h
theorem zvv (met:Int→Int→Bool): ∀(n:Nat) (t ids:List Int),t.Pairwise (fun a b=>met a b=false)→ ∀x∈zgb (zav met) n t ids,(t++x).Pairwise fun a b=>met a b=false
 | 0,t,ids,ht,x,h=>by simp only[zgb,List.mem_singleton]at h;subst h;simpa using ht
 | n+1,t,ids,ht,x,h=>by
  have key: ∀l:List Int,∀x∈zez (zav met) (zgb (zav met) n) t l,(t++x).Pairwise fun a b=>met a b=false:=by
   intro l
   induction l with
   | nil=>intro x h;simp[zez]at h
   | cons id r ih =>
    intro x h
    simp only[zez,List.mem_append]at h
    rcases h with h|h
    ·split at h
     ·rename_i hst
      obtain⟨y,hy,rfl⟩:=List.mem_map.1 h
      have:=zvv met n (t++ [id]) r (by
       rw[List.pairwise_append]
       refine⟨ht,by simp,fun a ha b hb=>?_⟩
       rw[List.mem_singleton.1 hb]
       have:=List.all_eq_true.1 hst a ha
       simpa using this) y hy
      rwa [List.append_assoc]at this
     ·simp at h
    ·exact ih x h
  exact key ids x h
theorem yiu {met:Int→Int→Bool} {t:List Int} (hp:t.Pairwise fun a b=>met a b=false) (hs: ∀a b,met a b=met b a):zpw (zpw met t true) t false=met:=by
 funext a b
 simp only[zpw]
 by_cases h:a∈t∧b∈t∧a≠b
 ·rw[if_pos h]
  obtain⟨h1,h2,h3⟩:=h
  obtain⟨i,hi,rfl⟩:=List.getElem_of_mem h1
  obtain⟨j,hj,rfl⟩:=List.getElem_of_mem h2
  rcases Nat.lt_trichotomy i j with h4|h4|h4
  ·exact(List.pairwise_iff_getElem.1 hp i j hi hj h4).symm
  ·subst h4;exact absurd rfl h3
  ·rw[hs];exact(List.pairwise_iff_getElem.1 hp j i hj hi h4).symm
 ·rw[if_neg h,if_neg h]
theorem ylk {met:Int→Int→Bool} {t:List Int} {v:Bool} (hs: ∀a b,met a b=met b a) (a b:Int):zpw met t v a b=zpw met t v b a:=by
 simp only[zpw,hs a b]
 by_cases h:a∈t∧b∈t∧a≠b
 ·rw[if_pos h,if_pos ⟨h.2.1,h.1,h.2.2.symm⟩]
 ·rw[if_neg h,if_neg (fun h'=>h ⟨h'.2.1,h'.1,h'.2.2.symm⟩)]
theorem ypk (met:Int→Int→Bool) (t:List Int):zjh met t=zpw met t true:=rfl
theorem ysv {S:Sto} {bx bp:Nat} {c:Club} {rs:List (List Int)} {bs:List Nat} {budget steps:Int} {met:Int→Int→Bool} {ps:List PRow} (s:SearchR S bx bp c rs bs budget steps met ps) :
  RC Tryz.prog 121 [.v (.pointer (some ⟨bx,0,none⟩)),I rs.length] S (I 1):=by
 have hx:=s.obj
 clear s
 refine DC.of_run Tryz.func121 rfl Tryz.ntmps121 Tryz.results121 (by simp) (fun _ _=>?_);simp only[zad,zaf,go_sem,Nat.zero_add,Nat.reduceAdd]
 repeat' (first|with_reducible refine zas yU yU yX1 ?_|refine yJ ?_|(with_reducible (refine zau yX1 ?_;refine zec ?_))|refine zay yX1 ⟨?_,rfl⟩|fail)
 rfl
theorem yX14 {p:Prop} (h:p:=by(simp (disch:=omega) only[go_sem,dopV,yV0,↓reduceIte,Nat.reduceEqDiff,Nat.reduceLT,Nat.reduceLeDiff,Nat.reduceAdd,Nat.reduceMul,Nat.reduceSub,Int.reduceToNat,Int.reduceLT,Int.reduceLE,Int.reduceEq,IntWalk.toNatUp,IntWalk.iteOmega,IntWalk.i64_in,V.flat,V.one, *,zur,List.forall_mem_cons,List.forall_mem_map,implies_true,zfh];exact rfl)):p:=h
theorem yX15 {p:Prop} (h:p:=by(simp (disch:=omega) only[go_sem,dopV,yV0,↓reduceIte,Nat.reduceEqDiff,Nat.reduceLT,Nat.reduceLeDiff,Nat.reduceAdd,Nat.reduceMul,Nat.reduceSub,Int.reduceToNat,Int.reduceLT,Int.reduceLE,Int.reduceEq,IntWalk.toNatUp,IntWalk.iteOmega,IntWalk.i64_in,V.flat,V.one, *,zur,List.forall_mem_cons,List.forall_mem_map,implies_true,zfh];try exact rfl)):p:=h
theorem yX16 {p:Prop} (h:p:=by(simp (disch:=omega) only[go_sem,dopV,yV0,↓reduceIte,Nat.reduceEqDiff,Nat.reduceLT,Nat.reduceLeDiff,Nat.reduceAdd,Nat.reduceMul,Nat.reduceSub,Int.reduceToNat,Int.reduceLT,Int.reduceLE,Int.reduceEq,IntWalk.toNatUp,IntWalk.iteOmega,IntWalk.i64_in,V.flat,V.one, *,zur,PRow.cell_copy];exact rfl)):p:=h
theorem yX17 {p:Prop} (h:p:=by(simp (disch:=omega) only[go_sem,dopV,yV0,↓reduceIte,Nat.reduceEqDiff,Nat.reduceLT,Nat.reduceLeDiff,Nat.reduceAdd,Nat.reduceMul,Nat.reduceSub,Int.reduceToNat,Int.reduceLT,Int.reduceLE,Int.reduceEq,IntWalk.toNatUp,IntWalk.iteOmega,IntWalk.i64_in,V.flat,V.one, *,ints];try exact rfl)):p:=h
theorem yX18 {p:Prop} (h:p:=by(simp (disch:=omega) only[go_sem,dopV,yV0,↓reduceIte,Nat.reduceEqDiff,Nat.reduceLT,Nat.reduceLeDiff,Nat.reduceAdd,Nat.reduceMul,Nat.reduceSub,Int.reduceToNat,Int.reduceLT,Int.reduceLE,Int.reduceEq,IntWalk.toNatUp,IntWalk.iteOmega,IntWalk.i64_in,V.flat,V.one, *,ints,List.map_append];try exact rfl)):p:=h
theorem yly {bx bp:Nat} {c:Club} {rs:List (List Int)} {bs:List Nat} {budget:Int} (hs:c.Small) (ha:c.Asc) (hsz:3≤c.size∧c.size≤4) (hrl:rs.length≤1000) (hrs: ∀ids∈rs,ids.length≤40∧ids.Nodup∧ ∀a∈ids,¬zhg c a<0) :
  ∀(n:Nat) (S:Sto) (met:Int→Int→Bool) (steps:Int) (ps:List PRow) (round:Nat) (s:SearchR S bx bp c rs bs budget steps met ps) (hps:ps.length=rs.length) (hr:round<rs.length) (hrest: ∀i,round<i→ ∀h:i<ps.length,ps[i].rows= []) (hsym: ∀a b,met a b=met b a)
   (hn:mzS rs round (zgr rs[round] (ps[round]'(hps▸hr)).rows).length<n) (hT: ∀i (h:i<ps.length),ps[i].rows.length+n≤10000),
  DC Tryz.prog 121 [.v (.pointer (some ⟨bx,0,none⟩)),I round] S (yuz bx bp c rs bs budget met ps (srch c.size.toNat budget rs n met round (zgr rs[round] (ps[round]'(hps▸hr)).rows) steps))
 | 0,S,met,steps,ps,round,s,hps,hr,hrest,hsym,hn,hT=>by omega
 | n+1,S,met,steps,ps,round,s,hps,hr,hrest,hsym,hn,hT=>by
  have hr':round<ps.length:=hps▸hr
  have hx:=s.obj
  have hrr:=hrs _ (List.getElem_mem hr)
  have hfree:=ysw S (mt:=mtV bs c.members.length) s.obj s.pln hr' hr (s.row round hr') (by omega) (by have:=hT round hr';omega)
  generalize hids:zgr rs[round] (ps[round]'hr').rows=ids at *
  cases ids with
  | nil =>
   by_cases hend:round+1=rs.length
   ·have he:=ysv s
    rw[srch,if_pos hend]
    have H:=And.intro s (And.intro hps hend)
    clear s hrs hrest hsym hn hT hps
    have hend':(round:Int)+1=rs.length:=by omega
    refine DC.of_run Tryz.func121 rfl Tryz.ntmps121 Tryz.results121 (by simp) (fun _ _=>?_);simp only[zad,zaf,go_sem,Nat.zero_add,Nat.reduceAdd]
    repeat' (first|with_reducible refine zas yU yU yX1 ?_|refine yJ ?_|(with_reducible (refine zau yX1 ?_;first|refine zcx (fun _=>?_) (fun _=>?_)|refine zec ?_))|refine zhj inferInstance (hfree) yR yX2 ?_|refine zhj inferInstance (he) yR yX2 ?_|fail)
    all_goals first|(exfalso;omega)|skip
    refine zay yG ⟨rfl,met,ps,H.1,rfl,fun h=>by simp at h,fun _ i h h'=>by simp⟩
   ·have hnx:round+1<rs.length:=by omega
    have hf2:zgr (rs[round+1]'hnx) (ps[round+1]'(hps▸hnx)).rows=rs[round+1]'hnx:=by rw[hrest (round+1) (by omega) (hps▸hnx),yav]
    have ih:=yly hs ha hsz hrl hrs n S met steps ps (round+1) s hps hnx (fun i hi h=>hrest i (by omega) h) hsym (by rw[hf2];have:=yfe hnx;simp only[List.length_nil]at hn;omega) (fun i h=>by have:=hT i h;omega)
    rw[hf2]at ih
    rw[srch,if_neg hend,List.getD_eq_getElem?_getD,List.getElem?_eq_getElem hnx,Option.getD_some]
    clear s hrs hrest hsym hn hT hps hf2
    refine DC.of_run Tryz.func121 rfl Tryz.ntmps121 Tryz.results121 (by simp) (fun _ _=>?_);simp only[zad,zaf,go_sem,Nat.zero_add,Nat.reduceAdd]
    repeat' (first|with_reducible refine zas yU yU yX1 ?_|refine yJ ?_|(with_reducible (refine zau yX1 ?_;first|refine zcx (fun _=>?_) (fun _=>?_)|refine zec ?_))|refine zhj inferInstance (hfree) yR yX2 ?_|fail)
    all_goals first|(exfalso;omega)|skip
    refine zcc inferInstance ih yR (by simp (disch:=omega) only[go_sem,dopV,yV0,↓reduceIte,Nat.reduceEqDiff,Nat.reduceLT,Nat.reduceLeDiff,Nat.reduceAdd,Nat.reduceMul,Nat.reduceSub,Int.reduceToNat,Int.reduceLT,Int.reduceLE,Int.reduceEq,IntWalk.toNatUp,IntWalk.iteOmega,IntWalk.i64_in,V.flat,V.one, *,Int.natCast_add,Int.natCast_one]) (fun u S' hu=>?_)
    obtain⟨rfl,hu2⟩:=hu
    repeat' (first|refine yJ ?_|fail)
    refine zay yG ⟨rfl,hu2⟩
  | cons f fr =>
   generalize hres:srch c.size.toNat budget rs (n+1) met round (f::fr) steps=res
   rw[srch]at hres
   obtain⟨k,hk⟩: ∃k:Nat,(k:Int)=c.size-1:=⟨(c.size-1).toNat,by omega⟩
   have hk2:c.size.toNat-1=k:=by omega
   rw[hk2,zwf]at hres
   have hmem: ∀a∈f::fr,a∈rs[round]:=fun a h=>by rw[←hids]at h;exact(List.mem_filter.1 h).1
   have hlen:(f::fr).length≤40:=by rw[←hids];exact Nat.le_trans (List.length_filter_le _ _) hrr.1
   have hm1:=yld S hs s.obj s.mat k [f] fr (by omega) (by simp at hlen;omega) (by simp;omega) (fun a h=>hrr.2.2 a (hmem a (by simp at h;simp[h]))) (fun a h=>hrr.2.2 a (hmem a (List.mem_cons_of_mem _ h)))
   rw[hk]at hm1
   have hXl:=zst (zav met) k [f] fr
   have H:=And.intro hres (And.intro hmem hids)
   clear hres hmem hids
   refine DC.of_run Tryz.func121 rfl Tryz.ntmps121 Tryz.results121 (by simp) (fun _ _=>?_);simp only[zad,zaf,go_sem,Nat.zero_add,Nat.reduceAdd]
   repeat' (first|with_reducible refine zas yU yU yX14 ?_|refine yJ ?_|(with_reducible (refine zau yX14 ?_;refine zcx (fun _=>?_) (fun _=>?_)))|refine zhj inferInstance (hfree) yR yX15 ?_|refine zhj inferInstance (hm1) yR yX15 ?_|refine zba (id:=6) [0,1,2,3,4,5,6,7,8,9,10] 11 yKR mixed yP1 yP2 ?_|(with_reducible first|refine zaq yU yU yU yX14 ?_|refine zbq ?_)|fail)
   all_goals first|(exfalso;omega)|skip
   have hXs:=yaf (zav met) k [f] fr
   have hXp:=zvv met k [f] fr (by simp)
   have hXm:=zss (zav met) k [f] fr
   have hXl2:(zgb (zav met) k [f] fr).length≤41 ^ 3:=Nat.le_trans hXl (Nat.le_trans (Nat.pow_le_pow_left (show fr.length+1≤41 by simp at hlen;omega) _) (Nat.pow_le_pow_right (by omega) (by omega)))
   have hres:=H.1
   have hids:=H.2.2
   have hmem:=H.2.1
   clear H hm1 hXl
   generalize zgb (zav met) k [f] fr=X at *
   have hndf:(f::fr).Nodup:=by rw[←hids];exact hrr.2.1.filter _
   have H:=And.intro hXs (And.intro hXp (And.intro hXm (And.intro hids (And.intro hmem hndf))))
   clear hXs hXp hXm hids hmem hndf
   refine zbf [0,1,5,6] yN (fun(x:Nat×Sto×Int×List PRow)=> [(7,I x.1)]) (fun(x:Nat×Sto×Int×List PRow)=>x.2.1) (fun(x:Nat×Sto×Int×List PRow)=>x.1≤X.length∧SearchR x.2.1 bx bp c rs bs budget x.2.2.1 met x.2.2.2∧x.2.2.2.length=ps.length∧(∀(i:Nat) (h:i<ps.length) (h':i<x.2.2.2.length),x.2.2.2[i].rows=ps[i].rows)∧tryL budget round (fun t s=>srch c.size.toNat budget rs n (zjh met t) round ((f::fr).filter fun id=> !decide (id∈t)) s) ((X.drop x.1).map ([f]++ ·)) x.2.2.1=res) (fun(x:Nat×Sto×Int×List PRow)=>X.length-x.1) (0,S,steps,ps) yS (fun b o e=>by exact e) ⟨Nat.zero_le _,s,rfl,fun _ _ _=>rfl,hres⟩ (fun x B hI hB=>?_);try dsimp only at hI hB;simp only[zae,zag]
   obtain⟨j,S1,st1,ps1⟩:=x
   dsimp only at hI hB
   obtain⟨g1,g2,g3,g4,g5⟩:=hI
   have hx1:=g2.obj
   have G:=And.intro g2 (And.intro g4 g5)
   have Kp:=And.intro hrest (And.intro hn (And.intro hT (And.intro hrs hsym)))
   clear g2 g4 g5 hres s hx hrs hrest hn hT hfree hsym
   simp only[zae,zag]
   have hr1:round<ps1.length:=g3▸hr'
   repeat' (first|with_reducible refine zas yU yU yX1 ?_|refine yJ ?_|(with_reducible (refine zau yX1 ?_;refine zcx (fun _=>?_) (fun _=>?_)))|(refine DS.store yR yX1 yX1 yX1 yX1 yU yQ ?_;simp only[yS1];try simp only[yS2,Nat.reduceEqDiff,↓reduceIte])|refine zba (id:=10) [0,1,2,3,4,5,6,7] 8 yKR mixed yP1 yP2 ?_|refine zba (id:=13) [0,1,2,4,5,6,7,3] 8 yKR mixed yP1 yP2 ?_|(with_reducible first|refine zaq yU yU yU yX1 ?_|refine zbq ?_)|(refine zfk yU yX1 yX1 ?_;simp only[go_sem,Nat.zero_add,Nat.reduceAdd];simp only[zat,zbc,Nat.reduceEqDiff,↓reduceIte])|fail)
   ·rename_i e1 e2
    have e3:res=(3,st1,[]):=by
     rw[←G.2.2,List.drop_eq_getElem_cons (show j<X.length by omega),List.map_cons,tryL,if_pos e2]
    rw[e3]
    refine zay yG ⟨rfl,met,ps1,G.1,g3,fun h=>by simp at h,fun h=>by simp at h⟩
   ·rename_i e1 e2
    have hj:j<X.length:=by omega
    have hk3:=(H.2.2.1 _ (List.getElem_mem hj)).1
    have g6:=G.1.steps (w64 (st1+1)) (l:=sC c rs bp ps1.length (mtV bs c.members.length) budget (w64 (st1+1))) rfl
    refine zcs (S':=setS bx (.cells (sC c rs bp ps1.length (mtV bs c.members.length) budget (w64 (st1+1))) TS) S1) (fun b o e=>by rw[g3.trans hps]at e;exact e) ?_
    generalize setS bx (.cells (sC c rs bp ps1.length (mtV bs c.members.length) budget (w64 (st1+1))) TS) S1=S2 at *
    repeat' (first|with_reducible refine zas yU yU yX1 ?_|refine yJ ?_|(refine DS.append (mm:=false) yU yX1 yX1 yU (by decide) yX1 yO2 yX1 yX3 yLM yQ2 ?_;simp only[yS2,Nat.reduceEqDiff,↓reduceIte])|fail)
    have htab:([f]++X[j]).Sublist (f::fr):=(H.1 _ (List.getElem_mem hj)).cons_cons f
    have hmk:=ylj S2 hs ha g6.nd g6.xb g6.obj g6.mat ([f]++X[j]) true (fun a h=>hrr.2.2 a (H.2.2.2.2.1 a (htab.subset h))) (htab.nodup H.2.2.2.2.2) (by simp;omega)
    refine zcc inferInstance hmk yR (by simp (disch:=omega) only[go_sem,dopV,yV0,↓reduceIte,Nat.reduceEqDiff,Nat.reduceLT,Nat.reduceLeDiff,Nat.reduceAdd,Nat.reduceMul,Nat.reduceSub,Int.reduceToNat,Int.reduceLT,Int.reduceLE,Int.reduceEq,IntWalk.toNatUp,IntWalk.iteOmega,IntWalk.i64_in,V.flat,V.one, *,ints,List.map_append]) (fun u S3 hu=>?_)
    have g7:=g6.marked hu.1 hu.2
    clear hmk hu g6 hx1
    have hx3:=g7.obj
    have hp3:=g7.pln
    obtain⟨p,hp⟩: ∃p,p=ps1[round]:=⟨_,rfl⟩
    have hrow:=g7.row round hr1
    rw[←hp]at hrow
    have hpc:(ps1.map PRow.cell)[round]?=some p.cell:=by rw[List.getElem?_map,List.getElem?_eq_getElem hr1,←hp];rfl
    obtain⟨S0,Sr,k0,k1,k2,k3⟩:=PRow.split hrow
    have hx0:zaa S0 bx=_:=(k3 bx fun cap jk h=>(g7.rx round hr1 bx cap jk (hp▸h)).1 rfl).1.trans hx3
    have hp0:zaa S0 bp=_:=(k3 bp fun cap jk h=>(g7.rx round hr1 bp cap jk (hp▸h)).2.1 rfl).1.trans hp3
    have hpr:p.rows.length+(n+1)≤10000:=by rw[hp,G.2.1 round hr' hr1];exact Kp.2.2.1 round hr'
    subst hp
    have Kq:=And.intro hrow (And.intro k3 (And.intro k2 (And.intro g7 hpr)))
    clear hx3 hp3 hrow k3 g7 k2 hpc
    repeat' (first|refine yJ ?_|fail)
    refine zfg (id:=15) (S0) (Sr) [0,1,2,3,4,5,6,7,8,9,10,11,12,13,14] 15 yKR mixed yP1 yP2 (k0) (k1) ?_
    repeat' (first|with_reducible refine zaq yU yU yU yX16 ?_|(refine zfk yU yX16 yX16 ?_;simp only[go_sem,Nat.zero_add,Nat.reduceAdd];simp only[zat,zbc,Nat.reduceEqDiff,↓reduceIte])|fail)
    refine zlu rfl rfl rfl yR (zww (p:=ps1[round]'hr1) (tab:= [f]++X[j]) rfl yT yT yR yR yT Kq.2.2.1 yT yX17 ⟨by omega,by decide⟩) (fun u2 E' S4 hu2 hdis=>?_)
    obtain⟨rfl,b',cap',junk',rfl,m1,m2,m3⟩:=hu2
    have g8:=Kq.2.2.2.1.appended hr1 rfl Kq.2.1 hdis m1 m2 m3
    have hbp4:=g8.1
    clear m1 m2 m3 hdis hx0 hp0 k0 k1
    simp only[PRow.cell_some,zao]
    repeat' (first|with_reducible refine zas yU yU yX1 ?_|refine yJ ?_|(refine DS.store yR yX1 yX1 yX1 yX1 yU yQ ?_;simp only[yS1];try simp only[yS2,Nat.reduceEqDiff,↓reduceIte])|fail)
    have hrow1:=G.2.1 round hr' hr1
    refine zcs (S':=setS bp (.cells ((ps1.map PRow.cell).set round (.v (.slice (some ⟨b',0,none⟩) ((ps1[round]'hr1).rows++ [[f]++X[j]]).length cap'))) 44) (S4++S0)) (fun b o e=>by rw[hrow1]at e;exact e) ?_
    have g9:=g8.2
    clear g8 hbp4
    generalize setS bp (.cells ((ps1.map PRow.cell).set round (.v (.slice (some ⟨b',0,none⟩) ((ps1[round]'hr1).rows++ [[f]++X[j]]).length cap'))) 44) (S4++S0)=S5 at *
    have hr5:round<(ps1.set round ⟨(ps1[round]'hr1).rows++ [[f]++X[j]],some (b',cap',junk')⟩).length:=by simpa using hr1
    have hrow5:((ps1.set round ⟨(ps1[round]'hr1).rows++ [[f]++X[j]],some (b',cap',junk')⟩)[round]'hr5).rows=(ps1[round]'hr1).rows++ [[f]++X[j]]:=by rw[List.getElem_set_self]
    have hfree5:zgr rs[round] ((ps1.set round ⟨(ps1[round]'hr1).rows++ [[f]++X[j]],some (b',cap',junk')⟩)[round]'hr5).rows=(f::fr).filter fun id=> !decide (id∈ [f]++X[j]):=by
     rw[hrow5,yaw,hrow1,H.2.2.2.1]
    have hlt5:((f::fr).filter fun id=> !decide (id∈ [f]++X[j])).length≤fr.length:=by
     rw[List.filter_cons,if_neg (by simp)];exact List.length_filter_le _ _
    have ih:=yly hs ha hsz hrl Kp.2.2.2.1 n S5 (zpw met ([f]++X[j]) true) (w64 (st1+1)) (ps1.set round ⟨(ps1[round]'hr1).rows++ [[f]++X[j]],some (b',cap',junk')⟩) round g9 (by rw[List.length_set];exact g3.trans hps) hr
     (fun i hi h=>by
      have h':i<ps1.length:=by simpa using h
      rw[List.getElem_set_ne (by omega),G.2.1 i (g3▸h') h'];exact Kp.1 i hi _)
     (ylk Kp.2.2.2.2)
     (by rw[hfree5];have:=Kp.2.1;simp only[mzS,List.length_cons]at this ⊢;omega)
     (fun i h=>by
      have h':i<ps1.length:=by simpa using h
      by_cases hir:round=i
      ·subst hir;rw[hrow5,hrow1];have:=Kp.2.2.1 round hr';simp only[List.length_append,List.length_cons,List.length_nil];omega
      ·rw[List.getElem_set_ne hir,G.2.1 i (g3▸h') h'];have:=Kp.2.2.1 i (g3▸h');omega)
    rw[hfree5]at ih
    have Kr:=And.intro g9 (And.intro hrow1 (And.intro hrow5 hfree5))
    clear g9 hrow1 hrow5 hfree5
    refine zcc inferInstance ih yR yT (fun u3 S6 hu3=>?_)
    obtain⟨rfl,met2,ps2,g10,g11,g12,g13⟩:=hu3
    generalize hr2:srch c.size.toNat budget rs n (zpw met ([f]++X[j]) true) round ((f::fr).filter fun id=> !decide (id∈ [f]++X[j])) (w64 (st1+1))=res2 at *
    have htry:tryL budget round (fun t s=>srch c.size.toNat budget rs n (zjh met t) round ((f::fr).filter fun id=> !decide (id∈t)) s) ((X.drop j).map ([f]++ ·)) st1 =
      if res2.1=2 then tryL budget round (fun t s=>srch c.size.toNat budget rs n (zjh met t) round ((f::fr).filter fun id=> !decide (id∈t)) s) ((X.drop (j+1)).map ([f]++ ·)) res2.2.1 else(res2.1,res2.2.1,(round,[f]++X[j])::res2.2.2):=by
     rw[List.drop_eq_getElem_cons hj,List.map_cons,tryL,if_neg e2]
     simp only[ypk,hr2]
    have Ks:=And.intro g10 (And.intro g12 (And.intro g13 (And.intro hr2 htry)))
    clear g10 g12 g13 hr2 htry ih
    have hlen2:ps2.length=ps1.length:=by rw[g11,List.length_set]
    clear g11
    have g5r: ∀(i:Nat) (h:i<ps1.length) (h':i<(ps1.set round ⟨(ps1[round]'hr1).rows++ [[f]++X[j]],some (b',cap',junk')⟩).length),((ps1.set round ⟨(ps1[round]'hr1).rows++ [[f]++X[j]],some (b',cap',junk')⟩)[i]'h').rows=if round=i then(ps1[round]'hr1).rows++ [[f]++X[j]]else(ps1[i]'h).rows:=fun i h h'=>by
     rw[List.getElem_set];split <;> rfl
    have Kt:=g5r
    clear g5r
    repeat' (first|refine yJ ?_|(with_reducible (refine zau yE ?_;refine zeu (fun _=>?_) (fun _=>?_)))|fail)
    ·rename_i e3
     have e4:res=(res2.1,res2.2.1,(round,[f]++X[j])::res2.2.2):=by rw[←G.2.2,Ks.2.2.2.2,if_neg e3]
     rw[e4]
     refine zay yG ⟨rfl,met2,ps2,Ks.1,hlen2.trans g3,fun h=>absurd h e3,fun h i h1 h2=>?_⟩
     have hi1:i<ps1.length:=g3▸h1
     rw[Ks.2.2.1 h i (by simpa using hi1) h2,Kt i hi1 (by simpa using hi1)]
     by_cases hir:round=i
     ·subst hir
      rw[if_pos rfl,G.2.1 round h1 hi1,List.filter_cons,if_pos (by simp)];simp
     ·rw[if_neg hir,G.2.1 i h1 hi1,List.filter_cons,if_neg (by simpa using hir)]
    ·rename_i e3
     obtain⟨rfl,hrows2⟩:=Ks.2.1 e3
     have hr2':round<ps2.length:=hlen2▸hr1
     have hrow2:=hrows2 round hr5 hr2'
     rw[Kt round hr1 hr5,if_pos rfl]at hrow2
     have hok2:=Ks.1.row round hr2'
     obtain⟨b6,cap6,junk6,hblk⟩: ∃b6 cap6 junk6,(ps2[round]'hr2').blk=some (b6,cap6,junk6):=by
      generalize ps2[round]'hr2'=p2 at hok2 hrow2
      obtain⟨T2,blk2⟩:=p2
      cases blk2 with
      | none=>simp only[PRow.Ok]at hok2;subst hok2;simp at hrow2
      | some x=>exact⟨x.1,x.2.1,x.2.2,rfl⟩
     have hp2e:ps2[round]'hr2'=⟨(ps1[round]'hr1).rows++ [[f]++X[j]],some (b6,cap6,junk6)⟩:=by
      generalize ps2[round]'hr2'=p2 at hblk hrow2
      obtain⟨T2,blk2⟩:=p2
      dsimp only at hblk hrow2;rw[hblk,hrow2]
     rw[hp2e]at hok2
     obtain⟨o1,o2,o3,o4⟩:=hok2
     obtain⟨ℓ,hℓ⟩: ∃ℓ,ℓ=(ps1[round]'hr1).rows.length:=⟨_,rfl⟩
     have hc6:(ps2[round]'hr2').cell = .v (.slice (some ⟨b6,0,none⟩) (ℓ+1) cap6):=by rw[hp2e,PRow.cell_some,hℓ];simp
     have hlc:ℓ+1≤cap6:=by rw[List.length_append,List.length_singleton]at o2;omega
     have hx6:=Ks.1.obj
     have hp6:=Ks.1.pln
     have Ku:=Box.mk (And.intro hp2e (And.intro hblk (And.intro o1 (And.intro o2 (And.intro o3 (And.intro o4 hrows2))))))
     clear hp2e hblk o1 o2 o3 o4 hrows2 hrow2
     have hℓ2:ℓ≤10000:=by rw[hℓ,(G.2.1 round hr' hr1)];have:=Kp.2.2.1 round hr';omega
     have Kv:=Box.mk hℓ
     clear hℓ
     repeat' (first|with_reducible refine zas yU yU yX16 ?_|refine yJ ?_|(refine DS.store yR yX16 yX16 yX16 yX16 yU yQ ?_;simp only[yS1];try simp only[yS2,Nat.reduceEqDiff,↓reduceIte])|refine zba (id:=19) [0,1,2,3,4,5,6,7,8,9,10,11,12,13,14,15,16,17,18,19,20,21] 22 yKR mixed yP1 yP2 ?_|(with_reducible first|refine zaq yU yU yU yX16 ?_|refine zbq ?_)|fail)
     refine zcs (S':=setS bp (.cells ((ps2.map PRow.cell).set round (.v (.slice (some ⟨b6,0,none⟩) (ps1[round]'hr1).rows.length cap6))) 44) S6) (fun b o e=>by rw[←Kv.out]at e;exact e) ?_
     have hbp6:b6≠bp:=(Ks.1.rx round hr2' b6 cap6 junk6 Ku.out.2.1).2.1
     have g14:SearchR (setS bp (.cells ((ps2.map PRow.cell).set round (.v (.slice (some ⟨b6,0,none⟩) (ps1[round]'hr1).rows.length cap6))) 44) S6) bx bp c rs bs budget res2.2.1 (zpw met ([f]++X[j]) true) (ps2.set round ⟨(ps1[round]'hr1).rows,some (b6,cap6,ints ([f]++X[j])::junk6)⟩):=by
      refine Ks.1.turn hr2' (.inl ⟨cap6,junk6,Ku.out.2.1⟩) ⟨?_,?_,Ku.out.2.2.2.2.1,?_⟩ ?_ fun b e4 e5 e6=>?_
      ·rw[zai Ks.1.pln,if_neg hbp6,Ku.out.2.2.1];simp
      ·have:=Ku.out.2.2.2.1;simp only[List.length_append,List.length_cons,List.length_nil]at this ⊢;omega
      ·intro v hv
       rcases List.mem_cons.1 hv with rfl|hv
       ·rfl
       ·exact Ku.out.2.2.2.2.2.1 v hv
      ·rw[zai Ks.1.pln,if_pos rfl]
      ·rw[zai Ks.1.pln,if_neg e4]
     generalize setS bp (.cells ((ps2.map PRow.cell).set round (.v (.slice (some ⟨b6,0,none⟩) (ps1[round]'hr1).rows.length cap6))) 44) S6=S7 at *
     have hmk2:=ylj S7 hs ha g14.nd g14.xb g14.obj g14.mat ([f]++X[j]) false (fun a h=>hrr.2.2 a (H.2.2.2.2.1 a (htab.subset h))) (htab.nodup H.2.2.2.2.2) (by simp;omega)
     refine zcc inferInstance hmk2 yR yX18 (fun u4 S8 hu4=>?_)
     have g15:=g14.marked hu4.1 hu4.2
     rw[yiu (H.2.1 _ (List.getElem_mem hj)) Kp.2.2.2.2]at g15
     have hrows8: ∀(i:Nat) (h:i<ps.length) (h':i<(ps2.set round ⟨(ps1[round]'hr1).rows,some (b6,cap6,ints ([f]++X[j])::junk6)⟩).length),((ps2.set round ⟨(ps1[round]'hr1).rows,some (b6,cap6,ints ([f]++X[j])::junk6)⟩)[i]'h').rows=(ps[i]'h).rows:=fun i h h'=>by
      have hi1:i<ps1.length:=g3▸h
      have hi2:i<ps2.length:=by simpa using h'
      rw[List.getElem_set]
      by_cases hir:round=i
      ·subst hir;rw[if_pos rfl];exact G.2.1 round h hi1
      ·rw[if_neg hir,Ku.out.2.2.2.2.2.2 i (by simpa using hi1) hi2,Kt i hi1 (by simpa using hi1),if_neg hir];exact G.2.1 i h hi1
     have htry2:tryL budget round (fun t s=>srch c.size.toNat budget rs n (zjh met t) round ((f::fr).filter fun id=> !decide (id∈t)) s) ((X.drop (j+1)).map ([f]++ ·)) res2.2.1=res:=by
      rw[←G.2.2,Ks.2.2.2.2,if_pos e3]
     clear Ku Kv Kt Ks Kr hc6 hx6 hp6 hmk2 g14 hu4 Kq
     repeat' (first|refine yJ ?_|fail)
     exact DS.back (hB (j+1,S8,res2.2.1,ps2.set round ⟨(ps1[round]'hr1).rows,some (b6,cap6,ints ([f]++X[j])::junk6)⟩) _ _ (by simp;omega) ⟨by simp;omega,g15,by rw[List.length_set];exact hlen2.trans g3,hrows8,htry2⟩ yS yS (fun b o e=>by exact e))
   ·rename_i e1
    have e3:res=(2,st1,[]):=by
     rw[←G.2.2,List.drop_eq_nil_of_le (by omega)];rfl
    rw[e3]
    refine zay yG ⟨rfl,met,ps1,G.1,g3,fun _=>⟨rfl,fun i h h'=>G.2.1 i h h'⟩,fun h=>by simp at h⟩
end Go.XL
namespace Go.XL
open Go.Proofs
set_option maxRecDepth 100000
set_option maxHeartbeats 4000000
theorem yle (a b:Int): ∀l:List (List Int),metT a b l≤l.length
 | []=>Nat.le_refl _
 | t::r=>by
  have:=yle a b r
  simp only[metT,List.length_cons];split <;> omega
theorem yul (c:Club) (hs:c.Small) (a b:Int):PC Tryz.prog 58 [c.val,I a,I b] (I (metS c a b)):=by
 have q1:=hs.rounds
 refine DC.of_run Tryz.func58 rfl Tryz.ntmps58 Tryz.results58 (by simp) (fun _ _=>?_);simp only[zad,zaf,go_sem,Nat.zero_add,Nat.reduceAdd]
 repeat' (first|refine yJ ?_|(refine zbk (t:=3) yU yE yU ?_;simp only[yS3])|fail)
 refine zbe [1,2,3] yN (fun(i:Nat×Nat)=> [(7,I i.2),(8,I i.1)]) (fun(i:Nat×Nat)=>i.1≤c.rounds.length∧i.2≤1000000*i.1∧i.2+zrb a b (c.rounds.drop i.1)=metS c a b) (fun(i:Nat×Nat)=>c.rounds.length-i.1) (0,0) yS (by simp[metS]) (fun i B hI hB=>?_);try dsimp only at hI hB;simp only[zae,zag]
 repeat' (first|refine yJ ?_|(with_reducible (refine zau yE ?_;refine zcx (fun _=>?_) (fun _=>?_)))|refine zak [] yE trivial ?_|fail)
 ·rename_i e1
  have hi:i.1<c.rounds.length:=by omega
  have q2:=(hs.at hi).tables
  have q3:=yle a b c.rounds[i.1].tables
  have hB0:=hB
  have hI0:=hI
  clear hB hI
  refine zbe [1,2,3,8] yN (fun(k:Nat×Nat)=> [(7,I k.2),(9,I k.1)]) (fun(k:Nat×Nat)=>k.1≤c.rounds[i.1].tables.length∧k.2+metT a b (c.rounds[i.1].tables.drop k.1)=i.2+metT a b c.rounds[i.1].tables) (fun(k:Nat×Nat)=>c.rounds[i.1].tables.length-k.1) (0,i.2) yS (by simp) (fun k B hI hB=>?_);try dsimp only at hI hB;simp only[zae,zag]
  repeat' (first|refine yJ ?_|(with_reducible first|(refine zau yE ?_;first|refine zcx (fun _=>?_) (fun _=>?_)|refine zdw ?_)|(refine zds yU yE ?_;first|refine ynw (fun _=>?_) (fun _=>?_)|refine zmq (fun _=>?_) (fun _=>?_)|refine GG.run ?_|refine zgd ?_))|refine zan inferInstance (ylx _ _) yR yT ?_|fail)
  ·rename_i e2 e3 e4 e5
   obtain⟨_,r,dr1,rfl,dr3⟩:=zbi (l:=c.rounds[i.1].tables) (i:=k.1) (by omega);rw[dr1]at hI
   exact DS.back (hB (k.1+1,k.2+1) _ _ (by simp;omega) (⟨by simp;omega,by rw[←hI.2,dr3,metT,if_pos ⟨e3,e4,e5⟩];simp;omega⟩) yS yS (fun b o e=>by first|exact e|(simp only[zab];split <;> simp_all)))
  ·rename_i e2 e3 e4 e5
   obtain⟨_,r,dr1,rfl,dr3⟩:=zbi (l:=c.rounds[i.1].tables) (i:=k.1) (by omega);rw[dr1]at hI
   exact DS.back (hB (k.1+1,k.2) _ _ (by simp;omega) (⟨by simp;omega,by rw[←hI.2,dr3,metT,if_neg (fun h=>e5 h.2.2)];simp⟩) yS yS (fun b o e=>by first|exact e|(simp only[zab];split <;> simp_all)))
  ·rename_i e2 e3 e4
   obtain⟨_,r,dr1,rfl,dr3⟩:=zbi (l:=c.rounds[i.1].tables) (i:=k.1) (by omega);rw[dr1]at hI
   exact DS.back (hB (k.1+1,k.2) _ _ (by simp;omega) (⟨by simp;omega,by rw[←hI.2,dr3,metT,if_neg (fun h=>e4 h.2.1)];simp⟩) yS yS (fun b o e=>by first|exact e|(simp only[zab];split <;> simp_all)))
  ·rename_i e2 e3
   obtain⟨_,r,dr1,rfl,dr3⟩:=zbi (l:=c.rounds[i.1].tables) (i:=k.1) (by omega);rw[dr1]at hI
   exact DS.back (hB (k.1+1,k.2) _ _ (by simp;omega) (⟨by simp;omega,by rw[←hI.2,dr3,metT,if_neg (fun h=>h.1 e3)];simp⟩) yS yS (fun b o e=>by first|exact e|(simp only[zab];split <;> simp_all)))
  ·rename_i e2
   have de1:=zcz (l:=c.rounds[i.1].tables) (i:=k.1) (by omega);rw[de1]at hI
   have e3:k.2=i.2+metT a b c.rounds[i.1].tables:=by rw[←hI.2];simp[metT]
   have e4:i.2+(metT a b c.rounds[i.1].tables+zrb a b (c.rounds.drop (i.1+1)))=metS c a b:=by
    rw[←hI0.2.2,List.drop_eq_getElem_cons hi];rfl
   refine DS.back (hB0 (i.1+1,k.2) _ _ (by simp;omega) ⟨by simp;omega,by simp;omega,by simp only[e3];omega⟩ yS yS (fun b o e=>by exact e))
 ·rename_i e1
  have de1:=zcz (l:=c.rounds) (i:=i.1) (by omega);rw[de1]at hI
  simp only[zee];rw[←hI.2.2];simp[zrb]
end Go.XL
namespace Go.XL
open Go.Proofs
set_option maxRecDepth 100000
set_option maxHeartbeats 8000000
theorem ylg (c:Club) (a b:Int):decide (0<(metS c a b:Int))=met0 c a b:=by
 simp only[met0,decide_eq_decide];omega
structure Begun (S:Sto) (bx bp:Nat) (c:Club) (rs:List (List Int)) (budget:Int) (bs:List Nat):Prop where
 obj:zaa S bx=some (.cells (sC c rs bp rs.length (mtV bs c.members.length) budget 0) TS)
 pln:zaa S bp=some (.cells (List.replicate rs.length (.v (.slice none 0 0))) 44)
 row: ∀(i:Nat) (h:i<bs.length) (h':i<c.members.length),zaa S bs[i]=some (.cells (c.members.map fun m=>Bo (met0 c c.members[i].id m.id)) 4)
 xp:bx≠bp
 xb: ¬bx∈bs
 pb: ¬bp∈bs
 nd:bs.Nodup
theorem yX19 {p:Prop} (h:p:=by(simp (disch:=omega) only[go_sem,dopV,yV0,↓reduceIte,Nat.reduceEqDiff,Nat.reduceLT,Nat.reduceLeDiff,Nat.reduceAdd,Nat.reduceMul,Nat.reduceSub,Int.reduceToNat,Int.reduceLT,Int.reduceLE,Int.reduceEq,IntWalk.toNatUp,IntWalk.iteOmega,IntWalk.i64_in,V.flat,V.one, *,ylg];exact rfl)):p:=h
theorem yX20 {p:Prop} (h:p:=by(simp (disch:=omega) only[go_sem,dopV,yV0,↓reduceIte,Nat.reduceEqDiff,Nat.reduceLT,Nat.reduceLeDiff,Nat.reduceAdd,Nat.reduceMul,Nat.reduceSub,Int.reduceToNat,Int.reduceLT,Int.reduceLE,Int.reduceEq,IntWalk.toNatUp,IntWalk.iteOmega,IntWalk.i64_in,V.flat,V.one, *,ylg];try exact rfl)):p:=h
theorem yqr (c:Club) (hs:c.Small) (rs:List (List Int)) (budget:Int) (hr:rs.length≤1000) :
  DC Tryz.prog 120 [c.val,rows rs,I budget] [] (fun u S'=> ∃bx bp bs,u = .v (.pointer (some ⟨bx,0,none⟩))∧SearchR S' bx bp c rs bs budget 0 (met0 c) (List.replicate rs.length ⟨[],none⟩)):=by
 have q1:=hs.members
 refine DC.of_run Tryz.func120 rfl Tryz.ntmps120 Tryz.results120 (by simp) (fun _ _=>?_);simp only[zad,zaf,go_sem,Nat.zero_add,Nat.reduceAdd]
 repeat' (first|refine yJ ?_|(refine zbk (t:=3) yU yE yU ?_;simp only[yS3])|refine zba (id:=1) [0,1,2,3,5,4] 6 yKR mixed yP1 yP2 ?_|with_reducible refine zaq yU yU yU yE ?_|fail)
 refine yvq yU yG yG yG yG yU yU ⟨by omega,by omega,by decide,by omega⟩ (fun bp h1 h2=>?_)
 repeat' (first|with_reducible refine zas yU yU yX8 ?_|refine yJ ?_|(with_reducible refine zkv yU yX8 yU (fun _ hfr=>?_);have hfr:=zkp hfr;simp only[zgq,zia,and_true]at hfr;simp only[yS3])|(with_reducible refine DD.nil ?_;simp only[zae,zag])|fail)
 rename_i bx hfr
 refine yce (b:=bx) (off:=10) (e:=160) (sz:=1) yH yH ?_
 have B0:Begun (setS bx (.cells (sC c rs bp rs.length (mtV [] c.members.length) budget 0) TS) [(bx, .cells (sC c rs bp rs.length (.v (.slice none 0 0)) budget 0) TS),(bp, .cells (zdh (Value.slice none 0 0) rs.length) 44)]) bx bp c rs budget []:=by
  refine⟨by simp[setS,zaa],?_,fun i h=>by simp at h,fun h=>hfr.1 h.symm,by simp,by simp,by simp⟩
  simp only[setS,zaa,if_true]
  rw[if_neg hfr.2,zqj]
 refine zcs (S':=setS bx (.cells (sC c rs bp rs.length (mtV [] c.members.length) budget 0) TS) [(bx, .cells (sC c rs bp rs.length (.v (.slice none 0 0)) budget 0) TS),(bp, .cells (zdh (Value.slice none 0 0) rs.length) 44)]) (fun b o e=>by exact e) ?_
 generalize setS bx (.cells (sC c rs bp rs.length (mtV [] c.members.length) budget 0) TS) [(bx, .cells (sC c rs bp rs.length (.v (.slice none 0 0)) budget 0) TS),(bp, .cells (zdh (Value.slice none 0 0) rs.length) 44)]=S0 at *
 clear hfr h1 h2
 refine zbf [3,7] yN (fun(x:Nat×Sto×List Nat)=> [(8,I x.1)]) (fun(x:Nat×Sto×List Nat)=>x.2.1) (fun(x:Nat×Sto×List Nat)=>x.1≤c.members.length∧Begun x.2.1 bx bp c rs budget x.2.2∧x.2.2.length=x.1) (fun(x:Nat×Sto×List Nat)=>c.members.length-x.1) (0,S0,[]) yS (fun b o e=>by exact e) ⟨Nat.zero_le _,B0,rfl⟩ (fun x B hI hB=>?_);try dsimp only at hI hB;simp only[zae,zag]
 obtain⟨i,S1,bs⟩:=x
 dsimp only at hI hB
 obtain⟨g1,g2,g3⟩:=hI
 simp only[zae,zag]
 repeat' (first|refine yJ ?_|(with_reducible (refine zau yE ?_;refine zcx (fun _=>?_) (fun _=>?_)))|(refine yob yU yE yE yE yE yU yU ⟨by omega,by omega,by decide,by omega⟩ (fun _ hfr=>?_))|fail)
 ·rename_i e1 b
  have hfb:=hfr
  clear hfr
  have hi:i<c.members.length:=by omega
  have hnb:b≠bx∧b≠bp∧ ¬b∈bs:=by
   refine⟨?_,?_,?_⟩
   ·intro h;rw[h,g2.obj]at hfb;cases hfb
   ·intro h;rw[h,g2.pln]at hfb;cases hfb
   ·intro h
    obtain⟨j,hj,rfl⟩:=List.getElem_of_mem h
    rw[g2.row j hj (by omega)]at hfb;cases hfb
  have hB0:=hB
  clear hB
  have hz:((b,Ob.cells (zdh (Value.bool false) ((c.members.length:Int)).toNat) 4)::S1)=((b, .cells (List.replicate c.members.length (Bo false)) 4)::S1):=by rw[Int.toNat_natCast,ych]
  rw[hz]
  clear hz
  refine zbf [3,7,8,9] yN (fun(y:Nat×Sto)=> [(10,I y.1)]) (fun(y:Nat×Sto)=>y.2) (fun(y:Nat×Sto)=>y.1≤c.members.length∧zaa y.2 b=some (.cells (((c.members.map fun m=>Bo (met0 c (c.members[i]'hi).id m.id)).take y.1)++List.replicate (c.members.length-y.1) (Bo false)) 4)∧ ∀b',b'≠b→zaa y.2 b'=zaa S1 b') (fun(y:Nat×Sto)=>c.members.length-y.1) (0,(b, .cells (List.replicate c.members.length (Bo false)) 4)::S1) yS (fun b o e=>by exact e) ⟨Nat.zero_le _,by simp[zaa],fun b' h=>by simp only[zaa];rw[if_neg (fun h'=>h h'.symm)]⟩ (fun y B hI hB=>?_);try dsimp only at hI hB;simp only[zae,zag]
  obtain⟨k,S2⟩:=y
  dsimp only at hI hB
  obtain⟨k1,k2,k3⟩:=hI
  simp only[zae,zag]
  have hx2:=(k3 bx hnb.1.symm).trans g2.obj
  repeat' (first|with_reducible refine zas yU yU yX19 ?_|refine yJ ?_|(with_reducible (refine zau yX19 ?_;refine zcx (fun _=>?_) (fun _=>?_)))|fail)
  ·rename_i e2
   have hk:k<c.members.length:=by omega
   repeat' (first|with_reducible refine zas yU yU yX19 ?_|refine zba (id:=9) [0,1,2,3,4,5,6,7,8,9,10,11,12,13,14,15,16] 17 yKR mixed yP1 yP2 ?_|(with_reducible first|refine zaq yU yU yU yX19 ?_|refine zbq ?_)|refine zlt inferInstance (yul c hs _ _) yU yX20 ?_|fail)
   refine DS.store yR yG yG yG k2 yU ⟨by with_unfolding_all rfl,by simp only[List.length_append,List.length_take,List.length_map,List.length_replicate];omega⟩ ?_
   simp only[zfu,zbo,zbw,zma]
   have hrow:(((c.members.map fun m=>Bo (met0 c (c.members[i]'hi).id m.id)).take k)++List.replicate (c.members.length-k) (Bo false)).set k (.v (.bool (met0 c (c.members[i]'hi).id (c.members[k]'hk).id)))=(((c.members.map fun m=>Bo (met0 c (c.members[i]'hi).id m.id)).take (k+1))++List.replicate (c.members.length-(k+1)) (Bo false)):=by
    apply List.ext_getElem
    ·simp only[List.length_append,List.length_take,List.length_map,List.length_replicate,List.length_set];omega
    ·intro j h1 h2
     simp only[List.getElem_set,List.getElem_append,List.getElem_take,List.getElem_map,List.getElem_replicate,List.length_take,List.length_map]
     by_cases hj:k=j
     ·subst hj
      rw[if_pos rfl,dif_pos (by omega)]
     ·rw[if_neg hj]
      by_cases hj2:j<k
      ·rw[dif_pos (by omega),dif_pos (by omega)]
      ·rw[dif_neg (by omega),dif_neg (by omega)]
   refine zcs (S':=setS b (.cells (((c.members.map fun m=>Bo (met0 c (c.members[i]'hi).id m.id)).take (k+1))++List.replicate (c.members.length-(k+1)) (Bo false)) 4) S2) (fun b' o e=>by rw[←hrow]at e;exact e) ?_
   have k2':zaa (setS b (.cells (((c.members.map fun m=>Bo (met0 c (c.members[i]'hi).id m.id)).take (k+1))++List.replicate (c.members.length-(k+1)) (Bo false)) 4) S2) b=some (.cells (((c.members.map fun m=>Bo (met0 c (c.members[i]'hi).id m.id)).take (k+1))++List.replicate (c.members.length-(k+1)) (Bo false)) 4):=by
    rw[zai k2,if_pos rfl]
   have k3': ∀b',b'≠b→zaa (setS b (.cells (((c.members.map fun m=>Bo (met0 c (c.members[i]'hi).id m.id)).take (k+1))++List.replicate (c.members.length-(k+1)) (Bo false)) 4) S2) b'=zaa S1 b':=fun b' h=>by
    rw[zai k2,if_neg h];exact k3 b' h
   generalize setS b (.cells (((c.members.map fun m=>Bo (met0 c (c.members[i]'hi).id m.id)).take (k+1))++List.replicate (c.members.length-(k+1)) (Bo false)) 4) S2=S3 at *
   clear hrow hx2
   repeat' (first|refine yJ ?_|fail)
   refine DS.back (hB (k+1,S3) _ _ (by dsimp only;omega) ⟨by dsimp only;omega,k2',k3'⟩ yS yS (fun b o e=>by exact e))
  ·rename_i e2
   have hke:k=c.members.length:=by omega
   skip
   refine zic (t:=59) yR yG hx2 yU yG ?_
   repeat' (first|refine yJ ?_|(refine zdq yU yE yE ?_;simp only[go_sem,Nat.zero_add,Nat.reduceAdd])|(refine DS.append (mm:=false) yU yE yE yU (by decide) yE yO2 yE yX0 yLM yQ2 ?_;simp only[yS2,Nat.reduceEqDiff,↓reduceIte])|fail)
   have ho:zaa (setS bx (.cells (sC c rs bp rs.length (.lst (bs.map (rowC c.members.length))) budget 0) TS) S2) bx=some (.cells (sC c rs bp rs.length (.lst (bs.map (rowC c.members.length))) budget 0) TS):=by rw[zai hx2,if_pos rfl]
   have ho': ∀b',b'≠bx→zaa (setS bx (.cells (sC c rs bp rs.length (.lst (bs.map (rowC c.members.length))) budget 0) TS) S2) b'=zaa S2 b':=fun b' h=>by rw[zai hx2,if_neg h]
   refine zcs (S':=setS bx (.cells (sC c rs bp rs.length (.lst (bs.map (rowC c.members.length))) budget 0) TS) S2) (fun b' o e=>by exact e) ?_
   generalize setS bx (.cells (sC c rs bp rs.length (.lst (bs.map (rowC c.members.length))) budget 0) TS) S2=S3 at *
   refine DS.store yR yG yG yG ho yU ⟨by with_unfolding_all rfl,by simp only[zur,List.length_cons,List.length_nil];omega⟩ ?_
   simp only[zfu,zbo,zbw,zma,zpq,zmb]
   have hm:List.map (rowC c.members.length) bs++ [[V.v (Value.slice (some ⟨b,0,none⟩) c.members.length c.members.length)]]=List.map (rowC c.members.length) (bs++ [b]):=by rw[List.map_append];rfl
   rw[hm]
   have hset:(sC c rs bp rs.length (.lst (bs.map (rowC c.members.length))) budget 0).set 10 (mtV (bs++ [b]) c.members.length)=sC c rs bp rs.length (mtV (bs++ [b]) c.members.length) budget 0:=rfl
   refine zcs (S':=setS bx (.cells (sC c rs bp rs.length (mtV (bs++ [b]) c.members.length) budget 0) TS) S3) (fun b' o e=>by rw[←hset]at e;exact e) ?_
   have hb1:zaa (setS bx (.cells (sC c rs bp rs.length (mtV (bs++ [b]) c.members.length) budget 0) TS) S3) bx=some (.cells (sC c rs bp rs.length (mtV (bs++ [b]) c.members.length) budget 0) TS):=by rw[zai ho,if_pos rfl]
   have hb2: ∀b',b'≠bx→zaa (setS bx (.cells (sC c rs bp rs.length (mtV (bs++ [b]) c.members.length) budget 0) TS) S3) b'=zaa S2 b':=fun b' h=>by rw[zai ho,if_neg h];exact ho' b' h
   generalize setS bx (.cells (sC c rs bp rs.length (mtV (bs++ [b]) c.members.length) budget 0) TS) S3=S4 at *
   have G4:Begun S4 bx bp c rs budget (bs++ [b]):=by
    refine⟨hb1,((hb2 bp g2.xp.symm).trans (k3 bp hnb.2.1.symm)).trans g2.pln,fun j h h'=>?_,g2.xp,?_,?_,?_⟩
    ·by_cases hj:j<bs.length
     ·have e:(bs++ [b])[j]=bs[j]:=by rw[List.getElem_append_left hj]
      have hm':bs[j]∈bs:=List.getElem_mem hj
      rw[e,hb2 _ (fun h=>g2.xb (h▸hm')),k3 _ (fun h=>hnb.2.2 (h▸hm'))]
      exact g2.row j hj h'
     ·have hje:j=i:=by simp only[List.length_append,List.length_cons,List.length_nil]at h;omega
      subst hje
      have e:(bs++ [b])[j]=b:=by rw[List.getElem_append_right (by omega)];simp only[g3,Nat.sub_self,List.getElem_cons_zero]
      rw[e,hb2 _ hnb.1,k2]
      have ht:List.take k (List.map (fun m=>Bo (met0 c c.members[j].id m.id)) c.members)++List.replicate (c.members.length-k) (Bo false)=List.map (fun m=>Bo (met0 c c.members[j].id m.id)) c.members:=by
       rw[List.take_of_length_le (by rw[List.length_map];omega),hke,Nat.sub_self];simp
      rw[ht]
    ·simp only[List.mem_append,List.mem_singleton];rintro(h|h)
     ·exact g2.xb h
     ·exact hnb.1 h.symm
    ·simp only[List.mem_append,List.mem_singleton];rintro(h|h)
     ·exact g2.pb h
     ·exact hnb.2.1 h.symm
    ·rw[List.nodup_append]
     refine⟨g2.nd,by simp,fun x hx y hy=>?_⟩
     rw[List.mem_singleton]at hy
     subst hy
     exact fun h=>hnb.2.2 (h▸hx)
   clear hm hset hb1 hb2 ho ho' k2 k3 hx2 B0 hke
   repeat' (first|refine yJ ?_|fail)
   refine DS.back (hB0 (i+1,S4,bs++ [b]) _ _ (by dsimp only;omega) ⟨by dsimp only;omega,G4,by simp only[List.length_append,List.length_cons,List.length_nil];omega⟩ yS yS (fun b o e=>by exact e))
 ·refine zay yG ⟨bx,bp,bs,rfl,?_⟩
  have hl:bs.length=c.members.length:=by omega
  refine⟨by rw[List.length_replicate];exact g2.obj,⟨hl,g2.row⟩,?_,fun j h=>?_,g2.xp,g2.xb,g2.pb,g2.nd,fun j h b cap jk hb=>?_,fun j k hj hk b cap cap2 jk jk2 hb _=>?_⟩
  ·rw[g2.pln,List.map_replicate];rfl
  ·rw[List.getElem_replicate];rfl
  ·rw[List.getElem_replicate]at hb;cases hb
  ·rw[List.getElem_replicate]at hb;cases hb
end Go.XL
namespace Go.XL
open Go.Proofs
set_option maxRecDepth 100000
set_option maxHeartbeats 8000000
theorem zol : ∀{l:List Member} {last:Int},0≤last→zcr l last=0→l.Pairwise fun a b=>a.id<b.id
 | [],_,_,_ => .nil
 | m::l,last,h0,h=>by
  have hf:=zfa h0 h
  have hm:=hf.1 m (List.mem_cons_self ..)
  have h1:0≤m.id:=by omega
  simp only[zcr]at h
  repeat' split at h
  all_goals first
   | exact .cons (fun x hx=>(zfa h1 h).1 x hx) (zol h1 h)
   | exact absurd h (by decide)
theorem ynd {c:Club} (h:zdj c.members=0):c.Asc:=by
 unfold zdj at h
 split at h
 ·cases h
 ·exact zol (Int.le_refl 0) h
theorem zel {c:Club} (h:zbh c=0):zdu c=0∧zdj c.members=0∧c.rounds.length≤20:=by
 unfold zbh at h
 split at h
 ·contradiction
 split at h
 ·contradiction
 split at h
 ·cases h
 exact⟨by omega,by omega,by omega⟩
theorem yah (a b:Int): ∀T,metT a b T=metT b a T
 | []=>rfl
 | t::r=>by
  simp only[metT]
  rw[yah a b r]
  congr 1
  by_cases h:a≠b∧a∈t∧b∈t
  ·rw[if_pos h,if_pos ⟨h.1.symm,h.2.2,h.2.1⟩]
  ·rw[if_neg h,if_neg (fun h'=>h ⟨h'.1.symm,h'.2.2,h'.2.1⟩)]
theorem yai (c:Club) (a b:Int):metS c a b=metS c b a:=by
 unfold metS
 generalize c.rounds=l
 induction l with
 | nil=>rfl
 | cons s r ih=>simp only[zrb,ih,yah a b]
theorem yaj (c:Club) (a b:Int):met0 c a b=met0 c b a:=by simp only[met0,yai c a b]
theorem yjk {budget:Int} {round R:Nat} {rec:List Int→Int→Int×Int×List (Nat×List Int)} (hr:round<R) (h: ∀t s,∀q∈(rec t s).2.2,q.1<R): ∀(l:List (List Int)) (s:Int),∀q∈(tryL budget round rec l s).2.2,q.1<R
 | [],s,q,hq=>by simp[tryL]at hq
 | t::r,s,q,hq=>by
  simp only[tryL]at hq
  split at hq
  ·simp at hq
  split at hq
  ·exact yjk hr h r _ q hq
  ·rcases List.mem_cons.1 hq with rfl|hq
   ·exact hr
   ·exact h _ _ q hq
theorem zxh {size:Nat} {budget:Int} {rounds:List (List Int)}: ∀(n:Nat) (met:Int→Int→Bool) (round:Nat) (ids:List Int) (s:Int),round<rounds.length→ ∀q∈(srch size budget rounds n met round ids s).2.2,q.1<rounds.length
 | 0,met,round,ids,s,hr,q,hq=>by simp[srch]at hq
 | n+1,met,round,[],s,hr,q,hq=>by
  rw[srch]at hq
  split at hq
  ·simp at hq
  ·exact zxh n met _ _ _ (by omega) q hq
 | n+1,met,round,f::fr,s,hr,q,hq=>by
  rw[srch]at hq
  exact yjk hr (fun t s=>zxh n _ _ _ _ hr) _ _ q hq
theorem zou {c:Club} {round:Int}: ∀{t:List Int} {pre:Option Int},zcn c round t pre=0→t.Pairwise (· < ·)∧ ∀p,pre=some p→ ∀x∈t,p<x
 | [],_,_=>⟨.nil,fun _ _ _ h=>(List.not_mem_nil h).elim⟩
 | x::t,pre,e=>by
  simp only[zcn]at e
  split at e
  ·cases e
  split at e
  ·cases e
  split at e
  ·cases e
  rename_i h3
  obtain⟨h4,h5⟩:=zou e
  have h6:=h5 x rfl
  refine⟨.cons h6 h4,fun p hp y hy=>?_⟩
  subst hp
  simp only[zhl,decide_eq_true_eq]at h3
  rcases List.mem_cons.1 hy with rfl|hy
  ·omega
  ·have:=h6 y hy;omega
theorem yne {t:List Int} (h:t.Pairwise (· < ·)):t.Nodup:=List.Pairwise.imp (fun h=>by omega) h
theorem zqe : ∀(T:List (List Int)) (jk:List V),chunk 1 T.length (List.map V.copy (List.map (fun t=>ints t) T++jk))=T.map cR
 | [],_=>rfl
 | t::T,jk=>by
  have:=zqe T jk
  simp only[List.length_cons,chunk,List.map_cons,List.cons_append,List.take_succ_cons,List.take_zero,List.drop_succ_cons,List.drop_zero,this]
  rfl
theorem ypg (c:Club) (hs:c.Small) (ids:List Int) (hl:ids.length≤1000000):PC Tryz.prog 102 [c.val,ints ids] (tupV [rows (zjp c ids).1,I (zjp c ids).2]):=by
 have q1:=hs.rounds
 have q2:=hs.members
 rw[zjp]
 by_cases hc:zbh c=0
 ·obtain⟨k1,k2,k3⟩:=zel hc
  have f:=ztz hc
  have g:=zki k1
  have ha:=ynd k2
  rw[if_neg (by omega)]
  refine DC.of_run Tryz.func102 rfl Tryz.ntmps102 Tryz.results102 (by simp) (fun _ _=>?_);simp only[zad,zaf,go_sem,Nat.zero_add,Nat.reduceAdd]
  repeat' (first|refine yJ ?_|(with_reducible (refine zau yE ?_;first|refine zcx (fun _=>?_) (fun _=>?_)|refine zdw ?_))|refine zan inferInstance (zub c hs) yR yT ?_|(refine zbk (t:=2) yU yE yU ?_;simp only[yS3])|refine zak [] yE trivial ?_|fail)
  ·rename_i e1
   rw[if_pos (by omega)];rfl
  ·rename_i e1 e2
   rw[if_neg (by omega),if_pos (by omega)];rfl
  rename_i e1 e2
  rw[if_neg (by omega),if_neg (by omega)]
  refine zbe [1,2] yN (fun(j:Nat)=> [(7,I j)]) (fun(j:Nat)=>j≤ids.length∧zcn c c.rounds.length ids none=zcn c c.rounds.length (ids.drop j) (zmo ids j)) (fun(j:Nat)=>ids.length-j) 0 yS (by simp[zmo]) (fun j B hI hB=>?_);try dsimp only at hI hB;simp only[zae,zag]
  repeat' (first|refine yJ ?_|(with_reducible (refine zau yE ?_;first|refine zeu (fun _=>?_) (fun _=>?_)|refine zcx (fun _=>?_) (fun _=>?_)))|(refine zdq yU yE yE ?_;simp only[go_sem,Nat.zero_add,Nat.reduceAdd])|refine zan inferInstance (zjq c _ (by omega)) yR yT ?_|refine zba (id:=11) [0,1,2,3,4] 5 yKR mixed yP1 yP2 ?_|refine zba (id:=14) [0,1,2,3,4,5,6,7] 8 yKR mixed yP1 yP2 ?_|(with_reducible first|refine zaq yU yU yU yE ?_|refine zbq ?_)|refine zak [] yE trivial ?_|fail)
  ·rename_i e3 e4
   obtain⟨_,r,dr1,rfl,dr3⟩:=zbi (l:=ids) (i:=j) (by omega);rw[dr1]at hI
   have hid:zcn c c.rounds.length ids none=7:=by rw[hI.2,zcn,if_pos e4]
   rw[hid,if_pos (by decide)];rfl
  ·rename_i e3 e4
   obtain⟨m,hm,e5,-,e7⟩:=zfx e4
   have H:=And.intro e5 e7
   simp only[e5]
   clear e5 e7 e4
   repeat' (first|refine yJ ?_|(with_reducible first|(refine zau yE ?_;first|refine zcx (fun _=>?_) (fun _=>?_)|refine zdw ?_|refine ycg (fun _=>?_) (fun _=>?_))|(refine zds yU yE ?_;first|refine GG.run ?_|refine zgd ?_))|refine zan inferInstance (zsi _ _) yR yT ?_|refine zba (id:=16) [0,1,2,3,4,5,6,7,8,9,10,11] 12 yKR mixed yP1 yP2 ?_|(with_reducible first|refine zaq yU yU yU yE ?_|(refine zpl yU yE ?_;first|refine zun (fun _=>?_) (fun _=>?_)|refine DGG.run ?_|refine zmy ?_)|refine zbq ?_)|refine zak [] yE trivial ?_|fail)
   all_goals have e8:=zpt (f.to _ (List.getElem_mem hm)) c.rounds.length
   all_goals obtain⟨_,r,dr1,rfl,dr3⟩:=zbi (l:=ids) (i:=j) (by omega);rw[dr1]at hI
   ·rename_i e9
    rw[e8]at e9
    have hid:zcn c c.rounds.length ids none=10:=by rw[hI.2,zcn,if_neg (by rw[H.1];omega),if_pos (by rw[H.2];exact e9)]
    rw[hid,if_pos (by decide)];rfl
   ·rename_i e9 e10 e11
    rw[e8]at e9
    obtain⟨e12,e13⟩:=zhe (t:=ids) (k:=j) (by omega) (by omega)
    have hid:zcn c c.rounds.length ids none=11:=by rw[hI.2,zcn,if_neg (by rw[H.1];omega),if_neg (by rw[H.2,e9];decide),if_pos (by rw[e13];simp only[zhl];exact decide_eq_true e11)]
    rw[hid,if_pos (by decide)];rfl
   ·rename_i e9 e10 e11
    rw[e8]at e9
    obtain⟨e12,e13⟩:=zhe (t:=ids) (k:=j) (by omega) (by omega)
    exact DS.back (hB (j+1) _ _ (by omega) (⟨by omega,by rw[hI.2,dr3,zcn,if_neg (by rw[H.1];omega),if_neg (by rw[H.2,e9];decide),if_neg (by rw[e13];simp only[zhl];simpa using e11),zfo (by omega)]⟩) yS yS (fun b o e=>by first|exact e|(simp only[zab];split <;> simp_all)))
   ·rename_i e9 e10
    rw[e8]at e9
    have e13:zhl (zmo ids j) ids[j]=false:=by
     have:j=0:=by omega
     subst this;rfl
    exact DS.back (hB (j+1) _ _ (by omega) (⟨by omega,by rw[hI.2,dr3,zcn,if_neg (by rw[H.1];omega),if_neg (by rw[H.2,e9];decide),if_neg (by rw[e13];decide),zfo (by omega)]⟩) yS yS (fun b o e=>by first|exact e|(simp only[zab];split <;> simp_all)))
  all_goals (rename_i e3 e4;have hid:zcn c c.rounds.length ids none=0:=by rw[hI.2,List.drop_eq_nil_of_le (by omega)];rfl)
  ·rw[hid,if_neg (by decide),if_pos (by have:=Int.tmod_nonneg (a:=(ids.length:Int)) c.size (by omega);omega)];rfl
  rw[hid,if_neg (by decide),if_neg (by omega)]
  have hmem:=zot hid
  have hnd:=yne (zou hid).1
  refine zcc inferInstance (yqr c hs [ids] (-1) (by simp)) yR yG (fun u S' hu=>?_)
  obtain⟨bx,bp,bs,rfl,s0⟩:=hu
  repeat' (first|refine yJ ?_|fail)
  have hgo:=yly hs ha g.1 (rs:= [ids]) (by simp) (fun x hx=>by rw[List.mem_singleton]at hx;subst hx;exact⟨by omega,hnd,hmem⟩) (znh [ids]) S' (met0 c) 0 (List.replicate 1 ⟨[],none⟩) 0 s0 rfl (by simp) (fun i h1 h2=>by simp at h2;omega) (yaj c) (by simp[mzS,znh,yav];omega) (fun i h=>by simp[znh];omega)
  refine zcc inferInstance hgo yR (by simp (disch:=omega) only[go_sem,dopV,yV0,↓reduceIte,Nat.reduceEqDiff,Nat.reduceLT,Nat.reduceLeDiff,Nat.reduceAdd,Nat.reduceMul,Nat.reduceSub,Int.reduceToNat,Int.reduceLT,Int.reduceLE,Int.reduceEq,IntWalk.toNatUp,IntWalk.iteOmega,IntWalk.i64_in,V.flat,V.one]) (fun u S1 hu=>?_)
  obtain⟨rfl,met1,ps1,s1,hp1,-,hp2⟩:=hu
  have hrun:srch c.size.toNat (-1) [ids] (znh [ids]) (met0 c) 0 (zgr [ids][0] (List.replicate 1 (⟨[],none⟩:PRow))[0].rows) 0=runS c [ids] (-1):=by
   rw[runS];congr 1;simp[zgr]
  rw[hrun]at s1 hp2 ⊢
  have hlt: ∀q∈(runS c [ids] (-1)).2.2,q.1<1:=zxh (rounds:= [ids]) (znh [ids]) (met0 c) 0 _ 0 (by simp)
  clear hrun hgo
  repeat' (first|refine yJ ?_|(with_reducible (refine zau yE ?_;refine zeu (fun _=>?_) (fun _=>?_)))|fail)
  ·rename_i e5
   rw[if_pos e5]
   refine zak [] yG trivial rfl
  ·rename_i e5
   rw[if_neg (by omega)]
   have hps:0<ps1.length:=by rw[hp1];decide
   have hrows:=hp2 e5 0 (by simp) hps
   have hfil:(runS c [ids] (-1)).2.2.filter (fun q=>decide (q.1=0))=(runS c [ids] (-1)).2.2:=List.filter_eq_self.2 fun q hq=>by have:=hlt q hq;exact decide_eq_true (by omega)
   rw[hfil]at hrows
   simp only[List.replicate,List.getElem_cons_zero,List.nil_append]at hrows
   rw[←hrows]
   have hpl1:ps1.length=1:=by simpa using hp1
   obtain⟨p,rfl⟩:=List.length_eq_one_iff.1 hpl1
   have hx:=s1.obj
   have hpl:=s1.pln
   have hr:=s1.row 0 hps
   simp only[List.length_singleton,List.map_cons,List.map_nil,List.getElem_cons_zero]at hx hpl hr ⊢
   clear hp2 hp1 hrows hfil hlt s1 hpl1
   obtain⟨T,blk⟩:=p
   cases blk with
   | none =>
    simp only[PRow.Ok]at hr
    subst hr
    simp only[PRow.cell]at hpl
    repeat' (first|with_reducible refine zas yU yU yX1 ?_|refine yJ ?_|fail)
    refine zak [] yG trivial rfl
   | some z =>
    obtain⟨b,cap,jk⟩:=z
    simp only[PRow.Ok]at hr
    obtain⟨r1,r2,r3,r4⟩:=hr
    simp only[PRow.cell]at hpl
    repeat' (first|with_reducible refine zas yU yU yX1 ?_|refine yJ ?_|fail)
    refine zff (t:=4) (sz:=1) yR r1 (by simp) ⟨by omega,r3⟩ ?_
    refine zak [] yG trivial ?_
    rw[zqe]
    rfl
 ·rw[if_pos hc]
  refine DC.of_run Tryz.func102 rfl Tryz.ntmps102 Tryz.results102 (by simp) (fun _ _=>?_);simp only[zad,zaf,go_sem,Nat.zero_add,Nat.reduceAdd]
  repeat' (first|refine yJT ?_|refine zan inferInstance (zub c hs) yR yT ?_|(refine zbk (t:=2) yU yE yU ?_;simp only[yS3])|refine zak [] yE trivial ?_|fail)
  rfl
end Go.XL
namespace Go.XL
theorem zqg {P:Program} {n:Nat} {r:Rr} {rs:List ResultVar} {R:V→Sto→Prop} {k:List Fr} {E:VEnv} {S:Sto} (T:Sto) {vs:List V} (h1:resV P E S rs=some vs) (h2: ∀b o,zaa T b=some o→zaa S b=some o) (h3:R (tupV vs) T) (hk:popR k=none:=by rfl):DS P n r (FinV P rs R) (.code .ret::k) E S :=
 DS.ret hk ⟨vs,T,h1,h2,h3⟩
end Go.XL
namespace Go.XL
open Go.Proofs
set_option maxRecDepth 100000
set_option maxHeartbeats 8000000
theorem yhs (S:Sto) (g:GR) (l:List Int) (n:Int) (ok:g.Ok 3 1 S) (hg:g.l=l.map cI) {b:Nat} {T:TypeId} (hb:zaa S b=some (.cells [g.cell] T)) :
  RC Tryz.prog 81 [I n, .v (.pointer (some ⟨b,0,none⟩))] S (Bo (decide (n∈l))):=by
 have h:=ydj S g l n ok hg
 have hc:=g.cell_copy
 clear ok hg
 obtain⟨gl,blk⟩:=g
 cases blk with
 | none =>
  simp only[GR.cell,zxv]at h hb
  refine DC.of_run Tryz.func81 rfl Tryz.ntmps81 Tryz.results81 (by simp) (fun _ _=>?_);simp only[zad,zaf,go_sem,Nat.zero_add,Nat.reduceAdd]
  repeat' (first|refine yJ ?_|refine zhj inferInstance (h) yR yT ?_|refine zay yE ⟨?_,rfl⟩|fail)
  rfl
 | some x =>
  obtain⟨b,cap,j⟩:=x
  simp only[GR.cell,zme]at h hb
  refine DC.of_run Tryz.func81 rfl Tryz.ntmps81 Tryz.results81 (by simp) (fun _ _=>?_);simp only[zad,zaf,go_sem,Nat.zero_add,Nat.reduceAdd]
  repeat' (first|refine yJ ?_|refine zhj inferInstance (h) yR yT ?_|refine zay yE ⟨?_,rfl⟩|fail)
  rfl
theorem ygf (c:Club) (id:Int):PC Tryz.prog 69 [c.val,I id] (I (zhg c id)):=ysx c id
theorem yX21 {p:Prop} (h:p:=by(simp (disch:=omega) only[go_sem,dopV,yV0,↓reduceIte,Nat.reduceEqDiff,Nat.reduceLT,Nat.reduceLeDiff,Nat.reduceAdd,Nat.reduceMul,Nat.reduceSub,Int.reduceToNat,Int.reduceLT,Int.reduceLE,Int.reduceEq,IntWalk.toNatUp,IntWalk.iteOmega,IntWalk.i64_in,V.flat,V.one, *,GR.cell_copy];exact rfl)):p:=h
theorem yjn (c:Club) (hs:c.Small) (f:c.Fine) (h1:c.size≤4) (h2:3≤c.size) {i:Nat} (hi:i<c.rounds.length):PC Tryz.prog 38 [c.val,I i] (I (zcv c i)):=by
 have q1:=hs.rounds
 have q2:=hs.at hi
 have q3:=q2.tables
 have q4:=hs.members
 rw[zcv,c.round_at hi]
 refine DC.of_run Tryz.func38 rfl Tryz.ntmps38 Tryz.results38 (by simp) (fun _ _=>?_);simp only[zad,zaf,go_sem,Nat.zero_add,Nat.reduceAdd]
 repeat' (first|refine yJ ?_|(refine zbk (t:=2) yU yE yU ?_;simp only[yS3])|fail)
 refine zdf yR yU yU (fun b5 hb5=>?_)
 have hz:(List.map V.v (Value.slice none 0 0).cells.toList)= [GR.cell ⟨[],none⟩]:=rfl
 rw[hz]
 clear hz hb5
 repeat' (first|refine yJ ?_|fail)
 refine zbf [1,2,5,17,18] yN (fun(x:Nat×Int×List Int×GR×Sto)=> [(6,I x.2.1),(19,I x.1)]) (fun(x:Nat×Int×List Int×GR×Sto)=>x.2.2.2.2) (fun(x:Nat×Int×List Int×GR×Sto)=>x.1≤c.rounds[i].tables.length∧x.2.2.1.length≤4*x.1∧zbx c i c.rounds[i].tables [] 0=zbx c i (c.rounds[i].tables.drop x.1) x.2.2.1 x.2.1∧x.2.2.2.1.l=x.2.2.1.map cI∧x.2.2.2.1.Ok 3 1 x.2.2.2.2∧zaa x.2.2.2.2 b5=some (.cells [x.2.2.2.1.cell] 22)∧ ∀cap j,x.2.2.2.1.blk≠some (b5,cap,j)) (fun(x:Nat×Int×List Int×GR×Sto)=>c.rounds[i].tables.length-x.1) (0,0,[],⟨[],none⟩,[(b5, .cells [GR.cell ⟨[],none⟩] 22)]) yS (fun b o e=>by exact e) ⟨Nat.zero_le _,by simp,rfl,rfl,rfl,by simp[zaa],fun _ _ h=>by cases h⟩ (fun x B hI hB=>?_);try dsimp only at hI hB;simp only[zae,zag]
 obtain⟨k,first,l,g,S⟩:=x
 dsimp only at hI hB
 obtain⟨g1,g2,g3,g4,g5,g6,g7⟩:=hI
 have hI0:=And.intro g3 (And.intro g4 (And.intro g5 (And.intro g6 g7)))
 have hB0:=hB
 clear hB g3 g4 g5 g6 g7
 repeat' (first|refine yJ ?_|(with_reducible (refine zau yE ?_;first|refine zeu (fun _=>?_) (fun _=>?_)|refine zcx (fun _=>?_) (fun _=>?_)))|refine zak [] yE trivial ?_|fail)
 ·rename_i e1 e2
  obtain⟨_,r0,dr4,rfl,dr6⟩:=zbi (l:=c.rounds[i].tables) (i:=k) (by omega);rw[dr4]at hI0
  rw[hI0.1,zql e2];rfl
 ·rename_i e1 e2
  have hk:k<c.rounds[i].tables.length:=by omega
  refine zbe [1,2,5,6,8,17,18,19,28,29] yN (fun(j:Nat)=> [(30,I j)]) (fun(j:Nat)=>j≤c.rounds[i].tables[k].length∧zcn c i c.rounds[i].tables[k] none=zcn c i (c.rounds[i].tables[k].drop j) (zmo c.rounds[i].tables[k] j)) (fun(j:Nat)=>c.rounds[i].tables[k].length-j) 0 yS (by simp[zmo]) (fun j B hI hB=>?_);try dsimp only at hI hB;simp only[zae,zag]
  repeat' (first|refine yJ ?_|(with_reducible (refine zau yE ?_;refine zcx (fun _=>?_) (fun _=>?_)))|refine zan inferInstance (ygf c _) yR yT ?_|refine zak [] yE trivial ?_|fail)
  ·rename_i e3 e4
   obtain⟨_,r,dr1,rfl,dr3⟩:=zbi (l:=c.rounds[i].tables[k]) (i:=j) (by omega);rw[dr1]at hI
   obtain⟨_,r0,dr4,rfl,dr6⟩:=zbi (l:=c.rounds[i].tables) (i:=k) (by omega);rw[dr4]at hI0
   rw[hI0.1,zfl (e:=7) e2 (by rw[hI.2,zcn,if_pos e4]) (by decide)];rfl
  ·rename_i e3 e4
   obtain⟨m,hm,e5,-,e7⟩:=zfx e4
   have H:=And.intro e5 e7
   simp only[e5]
   clear e5 e7 e4
   repeat' (first|refine yJ ?_|(with_reducible first|(refine zau yE ?_;first|refine zcx (fun _=>?_) (fun _=>?_)|refine zdw ?_|refine ycg (fun _=>?_) (fun _=>?_))|(refine zds yU yE ?_;first|refine zmq (fun _=>?_) (fun _=>?_)|refine GG.run ?_|refine zgd ?_))|refine zan inferInstance (zxu _ _) yR yT ?_|refine zak [] yE trivial ?_|fail)
   all_goals obtain⟨_,r,dr1,rfl,dr3⟩:=zbi (l:=c.rounds[i].tables[k]) (i:=j) (by omega);rw[dr1]at hI
   ·rename_i e9
    obtain⟨_,r0,dr4,rfl,dr6⟩:=zbi (l:=c.rounds[i].tables) (i:=k) (by omega);rw[dr4]at hI0
    rw[hI0.1,zfl (e:=10) e2 (by rw[hI.2,zcn,if_neg (by rw[H.1];omega),if_pos (by rw[H.2];exact e9)]) (by decide)];rfl
   ·rename_i e9 e10 e11
    obtain⟨e12,e13⟩:=zhe (t:=c.rounds[i].tables[k]) (k:=j) (by omega) (by omega)
    obtain⟨_,r0,dr4,rfl,dr6⟩:=zbi (l:=c.rounds[i].tables) (i:=k) (by omega);rw[dr4]at hI0
    rw[hI0.1,zfl (e:=11) e2 (by rw[hI.2,zcn,if_neg (by rw[H.1];omega),if_neg (by rw[H.2,e9];decide),if_pos (by rw[e13];simp only[zhl];exact decide_eq_true e11)]) (by decide)];rfl
   ·rename_i e9 e10 e11
    obtain⟨e12,e13⟩:=zhe (t:=c.rounds[i].tables[k]) (k:=j) (by omega) (by omega)
    exact DS.back (hB (j+1) _ _ (by omega) (⟨by omega,by rw[hI.2,dr3,zcn,if_neg (by rw[H.1];omega),if_neg (by rw[H.2,e9];decide),if_neg (by rw[e13];simp only[zhl];simpa using e11),zfo (by omega)]⟩) yS yS (fun b o e=>by first|exact e|(simp only[zab];split <;> simp_all)))
   ·rename_i e9 e10
    have e13:zhl (zmo c.rounds[i].tables[k] j) c.rounds[i].tables[k][j]=false:=by
     have:j=0:=by omega
     subst this;rfl
    exact DS.back (hB (j+1) _ _ (by omega) (⟨by omega,by rw[hI.2,dr3,zcn,if_neg (by rw[H.1];omega),if_neg (by rw[H.2,e9];decide),if_neg (by rw[e13];decide),zfo (by omega)]⟩) yS yS (fun b o e=>by first|exact e|(simp only[zab];split <;> simp_all)))
  ·rename_i e3
   have hids:zcn c i c.rounds[i].tables[k] none=0:=by rw[hI.2,List.drop_eq_nil_of_le (by omega)];rfl
   clear hI hB
   have hcf:=zts S c.rounds[i].tables[k] (fun x=>decide (x∈l)) inferInstance (g:=81) (fs:= []) (cs:= [.v (.pointer (some ⟨b5,0,none⟩))]) (fun x=>yhs S g l x hI0.2.2.1 hI0.2.1 hI0.2.2.2.1)
   repeat' (first|refine yJ ?_|(with_reducible (refine zau yE ?_;first|refine zcx (fun _=>?_) (fun _=>?_)|refine yji (fun _=>?_) (fun _=>?_)))|refine zhj inferInstance (hcf) yR yT ?_|refine zak [] yE trivial ?_|fail)
   ·rename_i e4
    obtain⟨_,r0,dr4,rfl,dr6⟩:=zbi (l:=c.rounds[i].tables) (i:=k) (by omega);rw[dr4]at hI0
    obtain⟨x,hx,hx2⟩:=List.any_eq_true.1 e4
    obtain⟨j,hj,rfl⟩:=List.getElem_of_mem hx
    rw[hI0.1,zmt e2 hids (k:=j) hj (by simpa using hx2)];rfl
   all_goals rename_i e4 e5
   all_goals
    have hno: ∀x∈c.rounds[i].tables[k],¬x∈l:=fun x hx hx2=>by
     have:(c.rounds[i].tables[k].any fun x=>decide (x∈l))=true:=List.any_eq_true.2 ⟨x,hx,by simpa using hx2⟩
     rw[this]at e4;cases e4
    have hhd:=zth (t:=c.rounds[i].tables[k]) (by omega)
   ·obtain⟨_,r0,dr4,rfl,dr6⟩:=zbi (l:=c.rounds[i].tables) (i:=k) (by omega);rw[dr4]at hI0
    rw[hI0.1,zms e2 hids hno (by rw[hhd];exact e5)];rfl
   ·obtain⟨p1,p2,p3,p4,p5⟩:=hI0
    obtain⟨S0,S1,s0,s1,s2,s3⟩:=GR.split p3
    have hx0:zaa S0 b5=some (.cells [g.cell] 22):=(s3 b5 p5).1.trans p4
    have hN:=And.intro hids (And.intro hno (And.intro hhd (And.intro p1 (And.intro p2 (And.intro p3 (And.intro p4 (And.intro p5 s3)))))))
    clear hno hhd p1 p2 p3 p4 p5 s3 hids hcf e4
    skip
    refine zfg (id:=23) (S0) (S1) [0,1,2,3,4,5] 6 yKR mixed yP1 yP2 (s0) (s1) ?_
    repeat' (first|with_reducible refine zaq yU yU yU yX21 ?_|fail)
    have hgl:g.l.length=l.length:=by rw[hN.2.2.2.2.1,List.length_map]
    refine zlu rfl rfl rfl yR (zes (g:=g) (ml:=c.rounds[i].tables[k].map cI) rfl yH yH yR yR (by decide) yH s2 yH yH (by rw[List.length_map];omega) (by intro x hx;obtain⟨y,-,rfl⟩:=List.mem_map.1 hx;rfl) ⟨by rw[List.length_map];omega,by decide⟩) (fun u2 E' S4 hu2 hdis=>?_)
    obtain⟨rfl,b',cap',junk',rfl,m1,m2,m3⟩:=hu2
    have hbs:zaa (S4++S0) b5=some (.cells [g.cell] 22):=by rw[zaj,hdis b5 _ hx0];exact hx0
    have hne:b'≠b5:=fun h=>by
     have:=m1.look
     rw[h,hdis b5 _ hx0]at this;cases this
    have hml:g.l++(c.rounds[i].tables[k].map cI).map (·.map V.copy)=(l++c.rounds[i].tables[k]).map cI:=by
     rw[hN.2.2.2.2.1,List.map_append,List.map_map];rfl
    rw[hml]at m1 ⊢
    simp only[GR.cell_some,zao]
    clear hml hgl
    repeat' (first|refine yJ ?_|(refine DS.store yR yE yE yE yE yU yQ ?_;simp only[yS1];try simp only[yS2,Nat.reduceEqDiff,↓reduceIte])|fail)
    have hb1:zaa (setS b5 (.cells [GR.cell ⟨(l++c.rounds[i].tables[k]).map cI,some (b',cap',junk')⟩] 22) (S4++S0)) b5=some (.cells [GR.cell ⟨(l++c.rounds[i].tables[k]).map cI,some (b',cap',junk')⟩] 22):=by rw[zai hbs,if_pos rfl]
    have hb2:zaa (setS b5 (.cells [GR.cell ⟨(l++c.rounds[i].tables[k]).map cI,some (b',cap',junk')⟩] 22) (S4++S0)) b'=zaa S4 b':=by rw[zai hbs,if_neg hne,zaj,m1.look]
    refine zcs (S':=setS b5 (.cells [GR.cell ⟨(l++c.rounds[i].tables[k]).map cI,some (b',cap',junk')⟩] 22) (S4++S0)) (fun b o e=>by simp only[GR.cell,List.length_map]at e;exact e) ?_
    refine DS.back (hB0 (k+1,c.rounds[i].tables[k][0],l++c.rounds[i].tables[k],⟨(l++c.rounds[i].tables[k]).map cI,some (b',cap',junk')⟩,setS b5 (.cells [GR.cell ⟨(l++c.rounds[i].tables[k]).map cI,some (b',cap',junk')⟩] 22) (S4++S0)) _ _ (by dsimp only;omega)
     ⟨by dsimp only;omega,by simp only[List.length_append];omega,by dsimp only;rw[hN.2.2.2.1,List.drop_eq_getElem_cons hk,zkf e2 hN.1 hN.2.1 (by rw[hN.2.2.1];exact e5),hN.2.2.1],rfl,m1.of (fun b cap j h=>by cases h;exact hb2),hb1,fun cap j h=>by cases h;exact hne rfl⟩ yS yS (fun b o e=>by exact e))
 ·rename_i e1
  rw[hI0.1,List.drop_eq_nil_of_le (by omega)];rfl
end Go.XL
namespace Go.XL
open Go.Proofs
set_option maxRecDepth 100000
set_option maxHeartbeats 4000000
theorem yia {c:Club} {i:Nat} (h:i<c.rounds.length) (h1:zcv c i=0) (h2: ¬zey c i=0):zca c i (c.rounds.length-i)=zey c i:=by rw[zgi h,if_neg (by omega),if_pos h2]
theorem yhz {c:Club} {i:Nat} (h:i<c.rounds.length) (h1:zcv c i=0) (h2:zey c i=0):zca c i (c.rounds.length-i)=zca c (i+1:Nat) (c.rounds.length-(i+1)):=by rw[zgi h,if_neg (by omega),if_neg (by omega)]
theorem zhv (c:Club) (hs:c.Small):PC Tryz.prog 9 [c.val] (I (zbh c)):=by
 have q1:=hs.rounds
 have q2:=hs.members
 refine DC.of_run Tryz.func9 rfl Tryz.ntmps9 Tryz.results9 (by simp) (fun _ _=>?_);simp only[zad,zaf,go_sem,Nat.zero_add,Nat.reduceAdd]
 repeat' (first|refine yJ ?_|(with_reducible first|(refine zau yE ?_;first|refine zeu (fun _=>?_) (fun _=>?_)|refine zec ?_)|(refine zds yU yE ?_;first|refine zum (fun _=>?_) (fun _=>?_)|refine GG.run ?_|refine zno ?_))|refine zan inferInstance (zin _ _ _) yR yT ?_|(refine zbk (t:=1) yU yE yU ?_;simp only[yS3])|refine zak [] yE trivial ?_|fail)
 rotate_left 2
 ·rename_i e1 e2 e3
  have hr:zdu c=2:=by rw[zdu,if_neg (by simpa using e1),if_neg (by simpa using e2),if_pos e3]
  rw[zbh,if_pos (by rw[hr];decide),hr];rfl
 ·rename_i e1 e2
  have hr:zdu c=2:=by rw[zdu,if_neg (by simpa using e1),if_pos e2]
  rw[zbh,if_pos (by rw[hr];decide),hr];rfl
 ·rename_i e1
  have hr:zdu c=2:=by rw[zdu,if_pos e1]
  rw[zbh,if_pos (by rw[hr];decide),hr];rfl
 ·rename_i e1 e2 e3 e4
  have hr:zdu c=2:=by rw[zdu,if_neg (by simpa using e1),if_neg (by simpa using e2),if_neg (by simpa using e3),if_pos e4]
  rw[zbh,if_pos (by rw[hr];decide),hr];rfl
 ·rename_i e1 e2 e3 e4
  have hr:zdu c=zew c.size c.places 1000000 0:=by rw[zdu,if_neg (by simpa using e1),if_neg (by simpa using e2),if_neg (by simpa using e3),if_neg (by simpa using e4)]
  have hz:=hr
  clear hr
  repeat' (first|refine yJ ?_|(with_reducible (refine zau yE ?_;first|refine zeu (fun _=>?_) (fun _=>?_)|refine zcx (fun _=>?_) (fun _=>?_)))|refine zan inferInstance (yei c c.places 1000000 0 (by omega) (by decide) (by decide)) yR yT ?_|refine zan inferInstance (yin c.members) yR yT ?_|refine zak [] yE trivial ?_|fail)
  ·rename_i e5
   rw[zbh,if_pos (by omega),hz];rfl
  ·rename_i e5 e6
   rw[zbh,if_neg (by omega),if_pos e6];rfl
  ·rename_i e5 e6 e7
   rw[zbh,if_neg (by omega),if_neg (by omega),if_pos (by omega)];rfl
  ·rename_i e5 e6 e7
   have f:=zyl e6
   have hc:zbh c=zca c 0 c.rounds.length:=by rw[zbh,if_neg (by omega),if_neg (by omega),if_neg (by omega)]
   rw[hc]
   clear hc hz
   refine zbe [1,49] yN (fun(i:Nat)=> [(50,I i)]) (fun(i:Nat)=>i≤c.rounds.length∧zca c 0 c.rounds.length=zca c i (c.rounds.length-i)) (fun(i:Nat)=>c.rounds.length-i) 0 yS ⟨Nat.zero_le _,rfl⟩ (fun i B hI hB=>?_);try dsimp only at hI hB;simp only[zae,zag]
   repeat' (first|refine yJ ?_|(with_reducible (refine zau yE ?_;first|refine zeu (fun _=>?_) (fun _=>?_)|refine zcx (fun _=>?_) (fun _=>?_)))|refine zan inferInstance (yjn c hs f e1.2 e1.1 (i:=i) (by omega)) yR yT ?_|refine zan inferInstance (ysd c hs e1.2 (by omega) e2 e4 (i:=i) (by omega) (by omega)) yR yT ?_|refine zak [] yE trivial ?_|fail)
   ·rename_i e8 e9
    rw[hI.2,zvo (by omega) e9];rfl
   ·rename_i e8 e9 e10
    rw[hI.2,yia (by omega) e9 e10];rfl
   ·rename_i e8 e9 e10
    exact DS.back (hB (i+1) _ _ (by omega) (⟨by omega,by rw[hI.2,yhz (by omega) e9 e10]⟩) yS yS (fun b o e=>by first|exact e|(simp only[zab];split <;> simp_all)))
   ·rename_i e8
    rw[hI.2,show c.rounds.length-i=0 by omega];rfl
end Go.XL
namespace Go.XL
open Go.Proofs
set_option maxRecDepth 100000
set_option maxHeartbeats 8000000
structure Hid (p:Prop):Prop where
 out:p
def kA (a b:Int):Value := .agg #[.int .i64 a, .int .i64 b]
def In64 (a:Int):Prop := -9223372036854775808≤a∧a≤9223372036854775807
structure MapW (S:Sto) (b:Nat) (w:W):Prop where
 out: ∃f es clock,zaa S b=some (.raw (.map es clock))∧MapIs Tryz.prog 81 f es clock∧ ∀x y,In64 x→In64 y→(f (kA x y)).getD (.int .i64 0) = .int .i64 (w x y)
theorem keyA {a b:Int} (ha:In64 a) (hb:In64 b):zrd Tryz.prog 81 (kA a b):=by
 have hw: ∀c:Int,In64 c→(Lit.int .i64 c).wf=true:=fun c hc=>by
  have h1:decide (IntKind.i64.min≤c)=true:=decide_eq_true (show(-9223372036854775808:Int)≤c from hc.1)
  have h2:decide (c≤IntKind.i64.max)=true:=decide_eq_true (show c≤(9223372036854775807:Int)from hc.2)
  simp only[Lit.wf,h1,h2,Bool.and_self]
 have h1:Tryz.prog.underlying 81=some (.array 2 3):=by with_unfolding_all rfl
 have h2:Tryz.prog.keyType 81=true:=by with_unfolding_all rfl
 have h3:Value.formed Tryz.prog 81 (kA a b)=true:=by with_unfolding_all rfl
 have h4:Tryz.prog.underlying 3=some (.int .i64):=by with_unfolding_all rfl
 have h5:Tryz.prog.cellsOf 81=2:=by with_unfolding_all rfl
 have h6:Tryz.prog.cellsOf 3=1:=by with_unfolding_all rfl
 obtain⟨m,hm⟩: ∃m,Tryz.prog.types.size=m+1:=⟨Tryz.prog.types.size-1,by with_unfolding_all rfl⟩
 have k1: ∀c,In64 c→Tryz.prog.keyLits (m+1) 3 [.int .i64 c]=some [.int .i64 c]:=fun c hc=>by
  unfold Program.keyLits
  rw[h4]
  simp[hw c hc]
 unfold zrd keyOf
 rw[h1]
 simp only[h2,h3,Bool.and_self,if_true]
 rw[hm]
 unfold Program.keyLits
 rw[h1]
 simp only[h5,h6]
 have hc:(kA a b).cells.toList= [.int .i64 a, .int .i64 b]:=rfl
 rw[hc]
 have hr:List.range 2= [0,1]:=rfl
 rw[hr]
 simp[k1 a ha,k1 b hb]
def yjd (c:Club):Prop:= ∀s∈c.rounds,∀t∈s.tables,∀x∈t,In64 x
theorem yX22 {p:Prop} (h:p:=by(simp (disch:=omega) only[go_sem,dopV,yV0,↓reduceIte,Nat.reduceEqDiff,Nat.reduceLT,Nat.reduceLeDiff,Nat.reduceAdd,Nat.reduceMul,Nat.reduceSub,Int.reduceToNat,Int.reduceLT,Int.reduceLE,Int.reduceEq,IntWalk.toNatUp,IntWalk.iteOmega,IntWalk.i64_in,V.flat,V.one, *,List.forall_mem_map,implies_true,zjy,List.drop_zero];exact rfl)):p:=h
theorem zsu (c:Club) (hs:c.Small) (hc:yjd c):DC Tryz.prog 56 [c.val] [] (fun u S'=> ∃b,u = .v (.map (some b))∧MapW S' b (zuu c)):=by
 have q1:=hs.rounds
 refine DC.of_run Tryz.func56 rfl Tryz.ntmps56 Tryz.results56 (by simp) (fun _ _=>?_);simp only[zad,zaf,go_sem,Nat.zero_add,Nat.reduceAdd]
 repeat' (first|refine yJ ?_|(refine zbk (t:=1) yU yE yU ?_;simp only[yS3])|fail)
 refine yra yR (fun b hb=>?_)
 simp only[zao]
 repeat' (first|refine yJ ?_|fail)
 have M0:MapW [(b, .raw (.map #[] 0))] b (fun _ _=>0):=⟨_,_,_,by simp only[zaa,if_true],MapIs.empty _ _,fun _ _ _ _=>rfl⟩
 refine zbf [3,14,15] yN (fun(x:Nat×Sto×W)=> [(16,I x.1)]) (fun(x:Nat×Sto×W)=>x.2.1) (fun(x:Nat×Sto×W)=>x.1≤c.rounds.length∧MapW x.2.1 b x.2.2∧zuu c=addS (c.rounds.drop x.1) x.2.2) (fun(x:Nat×Sto×W)=>c.rounds.length-x.1) (0,[(b, .raw (.map #[] 0))],fun _ _=>0) yS (fun b o e=>by exact e) ⟨Nat.zero_le _,M0,rfl⟩ (fun x B hI hB=>?_);try dsimp only at hI hB;simp only[zae,zag]
 obtain⟨i,S,w⟩:=x
 dsimp only at hI hB
 obtain⟨g1,g2,g3⟩:=hI
 repeat' (first|refine yJ ?_|(with_reducible (refine zau yE ?_;refine zcx (fun _=>?_) (fun _=>?_)))|(refine zev (t:=5) yU yE yU (fun _=>yE) yE yU yV1 (fun _=>yN1) ?_;simp only[go_sem])|fail)
 ·rename_i e1
  have hi:i<c.rounds.length:=by omega
  have q2:=hs.at hi
  have q3:=q2.tables
  have hB0:=hB
  clear hB
  refine zbf [3,14,15,16,21,22] yN (fun(y:Nat×Sto×W)=> [(23,I y.1)]) (fun(y:Nat×Sto×W)=>y.2.1) (fun(y:Nat×Sto×W)=>y.1≤(c.rounds[i]'hi).tables.length∧MapW y.2.1 b y.2.2∧zuu c=addS (c.rounds.drop (i+1)) (zvc ((c.rounds[i]'hi).tables.drop y.1) y.2.2)) (fun(y:Nat×Sto×W)=>(c.rounds[i]'hi).tables.length-y.1) (0,S,w) yS (fun b o e=>by exact e) ⟨Nat.zero_le _,g2,by rw[g3,List.drop_eq_getElem_cons hi];rfl⟩ (fun y B hI hB=>?_);try dsimp only at hI hB;simp only[zae,zag]
  obtain⟨k,S1,w1⟩:=y
  dsimp only at hI hB
  obtain⟨k1,k2,k3⟩:=hI
  clear g2 g3 M0
  repeat' (first|refine yJ ?_|(with_reducible (refine zau yE ?_;refine zcx (fun _=>?_) (fun _=>?_)))|fail)
  ·rename_i e2
   have hk:k<(c.rounds[i]'hi).tables.length:=by omega
   have q4:=q2.table _ (List.getElem_mem hk)
   have hct:=hc _ (List.getElem_mem hi) _ (List.getElem_mem hk)
   rw[List.drop_eq_getElem_cons hk,zvc]at k3
   have hB1:=hB
   clear hB
   refine zbf [3,7,14,15,16,21,22,23,27,28] yN (fun(z:Nat×Sto×W)=> [(29,I z.1)]) (fun(z:Nat×Sto×W)=>z.2.1) (fun(z:Nat×Sto×W)=>z.1≤((c.rounds[i]'hi).tables[k]'hk).length∧MapW z.2.1 b z.2.2∧zuu c=addS (c.rounds.drop (i+1)) (zvc ((c.rounds[i]'hi).tables.drop (k+1)) (addT 1 (((c.rounds[i]'hi).tables[k]'hk).take z.1) (((c.rounds[i]'hi).tables[k]'hk).drop z.1) z.2.2))) (fun(z:Nat×Sto×W)=>((c.rounds[i]'hi).tables[k]'hk).length-z.1) (0,S1,w1) yS (fun b o e=>by exact e) ⟨Nat.zero_le _,k2,k3⟩ (fun z B hI hB=>?_);try dsimp only at hI hB;simp only[zae,zag]
   obtain⟨j,S2,w2⟩:=z
   dsimp only at hI hB
   obtain⟨j1,j2,j3⟩:=hI
   clear k2 k3
   repeat' (first|refine yJ ?_|(with_reducible (refine zau yE ?_;refine zcx (fun _=>?_) (fun _=>?_)))|fail)
   ·rename_i e3
    have hj:j<((c.rounds[i]'hi).tables[k]'hk).length:=by omega
    have hB2:=hB
    clear hB
    have hle:j≤((c.rounds[i]'hi).tables[k]'hk).length:=by omega
    obtain⟨pre,hpre⟩: ∃pre,pre=((c.rounds[i]'hi).tables[k]'hk).take j:=⟨_,rfl⟩
    have hpl:pre.length=j:=by rw[hpre,List.length_take];omega
    have hpi: ∀x∈pre,In64 x:=fun x hx=>hct x (List.mem_of_mem_take (hpre▸hx))
    have htk:List.take j (List.map cI ((c.rounds[i]'hi).tables[k]'hk))=pre.map cI:=by rw[hpre,List.map_take]
    rw[←hpre]at j3
    have J0:=Hid.mk (And.intro hpre j3)
    clear hpre j3
    repeat' (first|with_reducible refine zas yU yU yX22 ?_|refine yJ ?_|fail)
    clear htk
    refine zbf [3,7,9,14,15,16,21,22,23,27,28,29,36,37] yN (fun(u:Nat×Sto×W)=> [(38,I u.1)]) (fun(u:Nat×Sto×W)=>u.2.1) (fun(u:Nat×Sto×W)=>u.1≤j∧MapW u.2.1 b u.2.2∧addR 1 (((c.rounds[i]'hi).tables[k]'hk)[j]'hj) pre w2=addR 1 (((c.rounds[i]'hi).tables[k]'hk)[j]'hj) (pre.drop u.1) u.2.2) (fun(u:Nat×Sto×W)=>j-u.1) (0,S2,w2) yS (fun b o e=>by exact e) ⟨Nat.zero_le _,j2,rfl⟩ (fun u B hI hB=>?_);try dsimp only at hI hB;simp only[zae,zag]
    obtain⟨p,S3,w3⟩:=u
    dsimp only at hI hB
    obtain⟨p1,p2,p3⟩:=hI
    clear j2
    repeat' (first|refine yJ ?_|(with_reducible (refine zau yE ?_;refine zcx (fun _=>?_) (fun _=>?_)))|fail)
    ·rename_i e4
     have hp:p<pre.length:=by omega
     obtain⟨fm,es,clock,m1,m2,m3⟩:=p2.out
     have hdel: ∀b' o,zaa (delS b S3) b'=some o→zaa S3 b'=some o∧zaa [(b,Ob.raw (.map es clock))] b'=none:=fun b' o e=>by
      rw[zaz]at e
      split at e
      ·cases e
      ·rename_i hne
       exact⟨e,by simp only[zaa];rw[if_neg (fun h=>hne h.symm)]⟩
     have hone: ∀b' o,zaa [(b,Ob.raw (.map es clock))] b'=some o→zaa S3 b'=some o:=fun b' o e=>by
      simp only[zaa]at e
      split at e
      ·rename_i hbb;subst hbb;rw[m1];exact e
      ·cases e
     have hMp:MpOk Tryz.prog [⟨b,81, .int .i64 0,fun x=>(fm x).getD (.int .i64 0)⟩] ([(b,Ob.raw (.map es clock))]++delS b S3):=fun m hm=>by
      rw[List.mem_singleton]at hm
      subst hm
      exact⟨_,by simp[zaa],es,clock,fm,rfl,m2,fun _=>rfl⟩
     refine ycc (id:=14) (delS b S3) ([(b,Ob.raw (.map es clock))]) ([⟨b,81, .int .i64 0,fun x=>(fm x).getD (.int .i64 0)⟩]) [0,1,2,3,4,5,6,7] 8 yKR mixed yP1 yP2 (hMp) (hdel) (hone) ?_
     repeat' (first|with_reducible refine zaq yU yU yU yX8 ?_|fail)
     have hin1:=hpi _ (List.getElem_mem hp)
     have hin2:=hct _ (List.getElem_mem hj)
     have hkey:=keyA hin1 hin2
     have hval:=m3 _ _ hin1 hin2
     refine yhh (me:=⟨b,81, .int .i64 0,fun x=>(fm x).getD (.int .i64 0)⟩) (key:=kA pre[p] (((c.rounds[i]'hi).tables[k]'hk)[j]'hj)) (List.mem_singleton.2 rfl) kd81 yU yU yR yH yH (V.Is.two _ _) hkey ?_
     simp only[hval,zao]
     repeat' (first|with_reducible refine zaq yU yU yU yE ?_|fail)
     refine ycf (key:=kA pre[p] (((c.rounds[i]'hi).tables[k]'hk)[j]'hj)) kd81 yU yU m2 hkey yH yH (V.Is.two _ _) (by simp only[zaa,if_true]) yR (fun me hme _=>by rw[List.mem_singleton]at hme;subst hme;exact⟨rfl,rfl⟩) (fun st es1 clock1 n1 n2=>?_)
     simp only[zao]
     repeat' (first|with_reducible refine zja yU yU yU yU yE ?_|(with_reducible refine DD.nil ?_;simp only[zae,zag])|fail)
     have hs2:zaa (setS b (Ob.raw (Obj.map es1 clock1)) [(b,Ob.raw (Obj.map es clock))]++delS b S3) b=some (Ob.raw (Obj.map es1 clock1)):=by simp[setS,zaa]
     refine DS.entryStore n2 yH (by(simp (disch:=omega) only[go_sem,dopV,yV0,↓reduceIte,Nat.reduceEqDiff,Nat.reduceLT,Nat.reduceLeDiff,Nat.reduceAdd,Nat.reduceMul,Nat.reduceSub,Int.reduceToNat,Int.reduceLT,Int.reduceLE,Int.reduceEq,IntWalk.toNatUp,IntWalk.iteOmega,IntWalk.i64_in,V.flat,V.one,goInt];try exact rfl)) yH hs2 yR (fun es2 n3=>?_)
     have hW:MapW (setS b (Ob.raw (Obj.map es2 clock1)) (setS b (Ob.raw (Obj.map es1 clock1)) [(b,Ob.raw (Obj.map es clock))]++delS b S3)) b (addP 1 w3 pre[p] (((c.rounds[i]'hi).tables[k]'hk)[j]'hj)):=by
      refine⟨_,es2,clock1,by rw[zai hs2,if_pos rfl],n3,fun x y hx hy=>?_⟩
      by_cases hxy:x=pre[p]∧y=(((c.rounds[i]'hi).tables[k]'hk)[j]'hj)
      ·rw[addP,if_pos hxy,hxy.1,hxy.2,ziu];rfl
      ·rw[addP,if_neg hxy,zkz _ _ (fun h=>hxy (by simp only[kA,Value.agg.injEq]at h;simp at h;exact h)),m3 x y hx hy]
     generalize setS b (Ob.raw (Obj.map es2 clock1)) (setS b (Ob.raw (Obj.map es1 clock1)) [(b,Ob.raw (Obj.map es clock))]++delS b S3)=S5 at *
     clear hs2 n3 n2 n1 m1 m2 m3 hMp hdel hone hval hkey
     simp only[zfu]
     repeat' (first|refine yJ ?_|fail)
     refine DS.back (hB (p+1,S5,addP 1 w3 pre[p] (((c.rounds[i]'hi).tables[k]'hk)[j]'hj)) _ _ (by dsimp only;omega) ⟨by dsimp only;omega,hW,by rw[p3,List.drop_eq_getElem_cons hp,addR]⟩ yS yS (fun b o e=>by exact e))
    ·rename_i e4
     have hp:p=j:=by omega
     have J:=J0.out
     subst hp
     rw[List.drop_eq_nil_of_le (by omega)]at p3
     skip
     refine DS.back (hB2 (p+1,S3,w3) _ _ (by dsimp only;omega) ⟨by dsimp only;omega,p2,by rw[J.2,List.drop_eq_getElem_cons hj,addT,p3,List.take_succ_eq_append_getElem hj,←J.1];rfl⟩ yS yS (fun b o e=>by exact e))
   ·rename_i e3
    have hje:j=((c.rounds[i]'hi).tables[k]'hk).length:=by omega
    rw[show((c.rounds[i]'hi).tables[k]'hk).drop j= []from List.drop_eq_nil_of_le (by omega)]at j3
    refine DS.back (hB1 (k+1,S2,w2) _ _ (by dsimp only;omega) ⟨by dsimp only;omega,j2,j3⟩ yS yS (fun b o e=>by exact e))
  ·rename_i e2
   rw[show(c.rounds[i]'hi).tables.drop k= []from List.drop_eq_nil_of_le (by omega)]at k3
   refine DS.back (hB0 (i+1,S1,w1) _ _ (by dsimp only;omega) ⟨by dsimp only;omega,k2,k3⟩ yS yS (fun b o e=>by exact e))
 ·refine zay yG ⟨b,rfl,?_⟩
  rw[g3,List.drop_eq_nil_of_le (by omega)]
  exact g2
end Go.XL
namespace Go.XL
open Go.Proofs
set_option maxRecDepth 100000
set_option maxHeartbeats 8000000
theorem znv {c:Club} {r:Int}: ∀{T:List (List Int)} {s:List Int} {f:Int},zbx c r T s f=0→ ∀t∈T,(t.length:Int)=c.size∧zcn c r t none=0
 | [],_,_,_,_,h=>(List.not_mem_nil h).elim
 | t::l,s,f,e,x,h=>by
  simp only[zbx]at e
  split at e
  ·cases e
  rename_i h1
  split at e
  ·rename_i h2;exact absurd e h2
  rename_i h2
  split at e
  ·cases e
  split at e
  ·cases e
  rcases List.mem_cons.1 h with rfl|h
  ·exact⟨by omega,by omega⟩
  ·exact znv e x h
theorem zoe {c:Club}: ∀{n i:Nat},zca c i n=0→ ∀k,i≤k→k<i+n→zcv c k=0∧zey c k=0
 | 0,i,_,k,h1,h2=>by omega
 | n+1,i,e,k,h1,h2=>by
  simp only[zca]at e
  split at e
  ·rename_i h;exact absurd e h
  rename_i h3
  split at e
  ·rename_i h;exact absurd e h
  rename_i h4
  by_cases hk:k=i
  ·subst hk;exact⟨by omega,by omega⟩
  ·exact zoe e k (by omega) (by omega)
theorem zyq {c:Club} (h:zbh c=0):zca c 0 c.rounds.length=0:=by
 obtain⟨h1,h2,h3⟩:=zel h
 unfold zbh at h
 rwa [if_neg (by omega),if_neg (by omega),if_neg (by omega)]at h
theorem ybq {c:Club} (h:zbh c=0) {i:Nat} (hi:i<c.rounds.length): ∀t∈c.rounds[i].tables,(t.length:Int)=c.size∧zcn c i t none=0:=by
 have h1:=(zoe (zyq h) i (Nat.zero_le _) (by omega)).1
 rw[zcv,c.round_at hi]at h1
 exact znv h1
theorem yjb {c:Club} (h:zbh c=0): ∀s∈c.rounds,yts s.tables:=fun s hs t ht=>by
 obtain⟨i,hi,rfl⟩:=List.getElem_of_mem hs
 exact(zou (ybq h hi t ht).2).1
theorem yjq {α:Type} (f:α→Nat) (m:Nat): ∀l:List α,(∀x∈l,f x≤m)→(l.map f).sum≤l.length*m
 | [],_=>by simp
 | x::r,h=>by
  have:=yjq f m r fun y hy=>h y (List.mem_cons_of_mem _ hy)
  have h1:=h x (List.mem_cons_self ..)
  simp only[List.map_cons,List.sum_cons,List.length_cons,Nat.succ_mul]
  omega
theorem zxz {c:Club} (hs:c.Small) (h:zbh c=0) (x y:Int):zuu c x y=if x<y then(metS c x y:Int)else 0:=by
 have h1:=yjq (fun s:Sitting=>s.tables.length) 1000000 c.rounds fun s h=>(hs.round s h).tables
 have h2:=hs.rounds
 have h3:c.rounds.length*1000000≤1000000*1000000:=Nat.mul_le_mul_right _ h2
 rw[zuu,ynj c.rounds _ x y (yjb h) ⟨Int.le_refl _,by omega⟩]
 simp only[Int.zero_add];rfl
theorem ylf (c:Club) (a:Int):metS c a a=0:=by
 have k1: ∀T,metT a a T=0:=fun T=>by
  induction T with
  | nil=>rfl
  | cons t r ih=>simp[metT,ih]
 unfold metS
 generalize c.rounds=R
 induction R with
 | nil=>rfl
 | cons s r ih=>simp[zrb,ih,k1]
theorem yal {c:Club} (hs:c.Small) (h:zbh c=0) (a b:Int):zuu c (min a b) (max a b)=metS c a b:=by
 rw[zxz hs h]
 rcases Int.lt_trichotomy a b with h1|h1|h1
 ·rw[Int.min_eq_left (by omega),Int.max_eq_right (by omega),if_pos h1]
 ·subst h1;rw[Int.min_self,Int.max_self,if_neg (by omega),ylf];rfl
 ·rw[Int.min_eq_right (by omega),Int.max_eq_left (by omega),if_pos h1,yai]
theorem ysj (c:Club) (hs:c.Small) (hc:yjd c) (a b:Int) (ha:In64 a) (hb:In64 b):PC Tryz.prog 18 [c.val,I a,I b] (I (metX c a b)):=by
 rw[metX]
 refine DC.of_run Tryz.func18 rfl Tryz.ntmps18 Tryz.results18 (by simp) (fun _ _=>?_);simp only[zad,zaf,go_sem,Nat.zero_add,Nat.reduceAdd]
 repeat' (first|refine yJ ?_|(with_reducible (refine zau yE ?_;refine zeu (fun _=>?_) (fun _=>?_)))|refine zan inferInstance (zhv c hs) yR yT ?_|(refine zbk (t:=3) yU yE yU ?_;simp only[yS3])|refine zak [] yE trivial ?_|fail)
 ·rename_i e1
  rw[if_pos e1];rfl
 ·rename_i e1
  rw[if_neg (by omega)]
  refine zcc inferInstance (zsu c hs hc) yR yH (fun u S' hu=>?_)
  obtain⟨m,rfl,hw⟩:=hu
  obtain⟨f,es,clock,m1,m2,m3⟩:=hw.out
  have hin1:In64 (min a b):=by unfold In64 at *;omega
  have hin2:In64 (max a b):=by unfold In64 at *;omega
  have hkey:=keyA hin1 hin2
  have hval:=m3 _ _ hin1 hin2
  rw[yal hs e1]at hval
  have e2:min a b=(if b<a then b else a):=by split <;> omega
  have e3:max a b=(if b > a then b else a):=by split <;> omega
  rw[e2,e3]at hkey hval
  have J:=Hid.mk hval
  clear e2 e3 hin1 hin2 hval
  repeat' (first|with_reducible refine zas yU yU yX8 ?_|fail)
  refine yhc (key:=kA (if b<a then b else a) (if b > a then b else a)) kd81 yU yU m2 hkey yH yH (V.Is.two _ _) m1 yR ?_
  rw[J.out]
  simp only[zao]
  clear m1 m2 m3 hw
  repeat' (first|refine yJ ?_|refine zak [] yE trivial ?_|fail)
  rfl
end Go.XL
namespace Go.XL
structure GoodW (B:Int) (met:Int→Int→Bool) (w:W):Prop where
 is: ∀a b,a<b→met a b=decide (0<w a b)
 bd: ∀a b,0≤w a b∧w a b≤B
 sym: ∀a b,met a b=met b a
theorem GoodW.add {B:Int} {met:Int→Int→Bool} {w:W} (g:GoodW B met w) (hB:B<9223372036854775807) {t:List Int} (ht:t.Pairwise (· < ·)):GoodW (B+1) (zjh met t) (addT 1 [] t w):=by
 have e: ∀x y,addT 1 [] t w x y=if x∈t∧y∈t∧x<y then w x y+1 else w x y:=fun x y=>by
  have h:=zuk 1 t [] w x y (by simpa using ht)
  simp only[List.nil_append]at h
  have hb:=g.bd x y
  rw[h,zve (by omega)]
 refine⟨fun a b hab=>?_,fun a b=>?_,fun a b=>?_⟩
 ·rw[e,zjh]
  have hb:=g.bd a b
  by_cases h:a∈t∧b∈t
  ·rw[if_pos ⟨h.1,h.2,by omega⟩,if_pos ⟨h.1,h.2,hab⟩]
   exact(decide_eq_true (by omega)).symm
  ·rw[if_neg (fun h'=>h ⟨h'.1,h'.2.1⟩),if_neg (fun h'=>h ⟨h'.1,h'.2.1⟩)]
   exact g.is a b hab
 ·rw[e]
  have hb:=g.bd a b
  split <;> omega
 ·simp only[zjh,g.sym a b]
  by_cases h:a∈t∧b∈t∧a≠b
  ·rw[if_pos h,if_pos ⟨h.2.1,h.1,h.2.2.symm⟩]
  ·rw[if_neg h,if_neg (fun h'=>h ⟨h'.2.1,h'.1,h'.2.2.symm⟩)]
theorem yni {B:Int} {met:Int→Int→Bool} {w:W} (g:GoodW B met w) (hB:B<9223372036854775807) {t:List Int} (ht:t.Pairwise (· < ·)):addT (-1) [] t (addT 1 [] t w)=w:=by
 funext x y
 have h1:=zuk 1 t [] w x y (by simpa using ht)
 have h2:=zuk (-1) t [] (addT 1 [] t w) x y (by simpa using ht)
 simp only[List.nil_append]at h1 h2
 have hb:=g.bd x y
 rw[h2,h1]
 split
 ·rw[zve (n:=w x y+1) (by omega),zve (by omega)];omega
 ·rfl
theorem yhu {B:Int} {met:Int→Int→Bool} {w:W} (g:GoodW B met w) {t:List Int} {id:Int} (h: ∀a∈t,a<id):zav met t id= !t.any fun a=>decide (0<w a id):=by
 induction t with
 | nil=>rfl
 | cons a r ih =>
  have h1:=g.is a id (h a (List.mem_cons_self ..))
  have h2:=ih fun b hb=>h b (List.mem_cons_of_mem _ hb)
  simp only[zav,List.all_cons,List.any_cons,h1]at h2 ⊢
  rw[h2];simp
theorem ybc (st:List Int→Int→Bool): ∀(n:Nat) (t ids:List Int),(t++ids).Pairwise (· < ·)→ ∀x∈zfs st n t ids,x.length=t.length+n∧x.Sublist (t++ids)∧x.Pairwise (· < ·)
 | 0,t,ids,h,x,hx=>by
  simp only[zfs,List.mem_singleton]at hx;subst hx
  exact⟨rfl,List.sublist_append_left ..,(List.pairwise_append.1 h).1⟩
 | n+1,t,ids,h,x,hx=>by
  have key: ∀l:List Int,l.Sublist ids→ ∀x∈zef st (zfs st n) t l,x.length=t.length+(n+1)∧x.Sublist (t++l)∧x.Pairwise (· < ·):=by
   intro l
   induction l with
   | nil=>intro _ x hx;simp[zef]at hx
   | cons id r ih =>
    intro hl x hx
    simp only[zef,List.mem_append]at hx
    rcases hx with hx|hx
    ·split at hx
     ·have hp:((t++ [id])++r).Pairwise (· < ·):=by
       have:(t++id::r).Pairwise (· < ·):=h.sublist (List.Sublist.append (List.Sublist.refl t) hl)
       simpa using this
      obtain⟨h1,h2,h3⟩:=ybc st n (t++ [id]) r hp x hx
      exact⟨by simp at h1;omega,by simpa using h2,h3⟩
     ·simp at hx
    ·obtain⟨h1,h2,h3⟩:=ih ((List.sublist_cons_self ..).trans hl) x hx
     exact⟨h1,h2.trans (List.Sublist.append (List.Sublist.refl t) (List.sublist_cons_self ..)),h3⟩
  exact key ids (List.Sublist.refl _) x hx
theorem ybf {st:List Int→Int→Bool} {f:List Int→List Int→List (List Int)} {t l:List Int} {i:Nat} (h:i<l.length):zef st f t (l.drop i)=(if st t l[i]=true then f (t++ [l[i]]) (l.drop (i+1))else [])++zef st f t (l.drop (i+1)):=by
 rw[List.drop_eq_getElem_cons h,zef]
end Go.XL
namespace Go.XL
open Go.Proofs
set_option maxRecDepth 100000
set_option maxHeartbeats 8000000
def pC (size budget steps:Int) (rs:List (List Int)) (bp R bm:Nat):List V:= [I size,I budget,I steps,rows rs, .v (.slice (some ⟨bp,0,none⟩) R R), .v (.map (some bm))]
@[go_sem] theorem ykx (size budget steps:Int) (rs:List (List Int)) (bp R bm:Nat):pC size budget steps rs bp R bm= [I size,I budget,I steps,rows rs, .v (.slice (some ⟨bp,0,none⟩) R R), .v (.map (some bm))]:=rfl
abbrev TP :Nat:=108
theorem yX23 {p:Prop} (h:p:=by(simp (disch:=omega) only[go_sem,dopV,yV0,↓reduceIte,Nat.reduceEqDiff,Nat.reduceLT,Nat.reduceLeDiff,Nat.reduceAdd,Nat.reduceMul,Nat.reduceSub,Int.reduceToNat,Int.reduceLT,Int.reduceLE,Int.reduceEq,IntWalk.toNatUp,IntWalk.iteOmega,IntWalk.i64_in,V.flat,V.one, *,ykx,Value.oneCell'];exact rfl)):p:=h
theorem zzj (S:Sto) {bx bp R bm:Nat} {size budget steps:Int} {rs:List (List Int)} {w:W} (hx:zaa S bx=some (.cells (pC size budget steps rs bp R bm) TP)) (hw:MapW S bm w) (a id:Int) (ha:In64 a) (hid:In64 id) :
  RC Tryz.prog 134 [I a, .plc [.v (.pointer (some ⟨bx,0,none⟩))], .plc [I id]] S (Bo (decide (0<w a id))):=by
 obtain⟨f,es,clock,m1,m2,m3⟩:=hw.out
 have hkey:=keyA ha hid
 have hval:=m3 _ _ ha hid
 have J:=Hid.mk hval
 clear hval m3 hw
 refine DC.of_run Tryz.func134 rfl Tryz.ntmps134 Tryz.results134 (by simp) (fun _ _=>?_);simp only[zad,zaf,go_sem,Nat.zero_add,Nat.reduceAdd]
 repeat' (first|with_reducible refine zas yU yU yX23 ?_|refine yJ ?_|refine zba (id:=1) [0,1,2,3,4,5,6] 7 yKR mixed yP1 yP2 ?_|(with_reducible first|refine zaq yU yU yU yX23 ?_|refine zbq ?_)|fail)
 refine yhc (key:=kA a id) kd81 yU yU m2 hkey yH yH (V.Is.two _ _) m1 yR ?_
 rw[J.out]
 simp only[zao]
 clear m1 m2 J hkey
 repeat' (first|refine yJ ?_|refine zay yE ⟨?_,rfl⟩|fail)
 rfl
theorem zuw (S:Sto) (l:List Int) {g:FuncId} {fs cs:List V} {fn:Func} (p:Int→Bool) (hf:FnOk Tryz.prog g fn) (h: ∀x∈l,RC Tryz.prog g (fs++ [I x]++cs) S (Bo (p x))) :
  RC Tryz.prog 103 [ints l, .fn g fs cs] S (I (idxF p l 0)):=by
 refine DC.of_run Tryz.func103 rfl Tryz.ntmps103 Tryz.results103 (by simp) (fun _ _=>?_);simp only[zad,zaf,go_sem,Nat.zero_add,Nat.reduceAdd]
 refine zir (t:=0) yG (.inl rfl) (fun hb0=>?_);simp only[List.length_map]at hb0
 repeat' (first|refine yJ ?_|fail)
 refine zbe [0,1,7] yN (fun(i:Nat)=> [(8,I i)]) (fun(i:Nat)=>i≤l.length∧idxF p l 0=idxF p (l.drop i) i) (fun(i:Nat)=>l.length-i) 0 yS ⟨Nat.zero_le _,rfl⟩ (fun i B hI hB=>?_);try dsimp only at hI hB;simp only[zae,zag]
 repeat' (first|refine yJ ?_|(with_reducible (refine zau yE ?_;refine zcx (fun _=>?_) (fun _=>?_)))|refine zay yE ⟨?_,rfl⟩|fail)
 ·refine yoa hf (by simp (disch:=omega) only[go_sem,dopV,yV0,↓reduceIte,Nat.reduceEqDiff,Nat.reduceLT,Nat.reduceLeDiff,Nat.reduceAdd,Nat.reduceMul,Nat.reduceSub,Int.reduceToNat,Int.reduceLT,Int.reduceLE,Int.reduceEq,IntWalk.toNatUp,IntWalk.iteOmega,IntWalk.i64_in,V.flat,V.one]) (h l[i] (List.getElem_mem _)) yR yH ?_
  repeat' (first|refine yJ ?_|(with_reducible (refine zau yE ?_;refine yji (fun _=>?_) (fun _=>?_)))|refine zay yE ⟨?_,rfl⟩|fail)
  ·rename_i h1 h2
   rw[hI.2,zmg (p:=p) (l:=l) (i:=i) (by omega) h2];rfl
  ·rename_i h1 h2
   exact DS.back (hB (i+1) _ _ (by omega) (⟨by omega,by rw[hI.2,zju (by omega) h2]⟩) yS yS (fun b o e=>by first|exact e|(simp only[zab];split <;> simp_all)))
 ·rw[hI.2,zmh (p:=p) (l:=l) (i:=i) (by omega)];rfl
theorem zrc (S:Sto) (l:List Int) {g:FuncId} {fs cs:List V} {fn:Func} (p:Int→Bool) (hf:FnOk Tryz.prog g fn) (h: ∀x∈l,RC Tryz.prog g (fs++ [I x]++cs) S (Bo (p x))) :
  RC Tryz.prog 80 [ints l, .fn g fs cs] S (Bo (l.any p)):=by
 refine DC.of_run Tryz.func80 rfl Tryz.ntmps80 Tryz.results80 (by simp) (fun _ _=>?_);simp only[zad,zaf,go_sem,Nat.zero_add,Nat.reduceAdd]
 repeat' (first|refine yJ ?_|refine zhj inferInstance (zuw S l p hf h) yR yT ?_|refine zay yE ⟨?_,rfl⟩|fail)
 rw[zee,zor]
theorem ycn (S:Sto) {bx bp R bm:Nat} {size budget steps:Int} {rs:List (List Int)} {w:W} (hx:zaa S bx=some (.cells (pC size budget steps rs bp R bm) TP)) (hw:MapW S bm w) (t:List Int) (id:Int) (ha: ∀a∈t,In64 a) (hid:In64 id) :
  RC Tryz.prog 129 [.v (.pointer (some ⟨bx,0,none⟩)),ints t,I id] S (Bo (!t.any fun a=>decide (0<w a id))):=by
 have hcf:=zrc S t (fun a=>decide (0<w a id)) inferInstance (g:=134) (fs:= []) (cs:= [.plc [.v (.pointer (some ⟨bx,0,none⟩))], .plc [I id]]) (fun x hx'=>zzj S hx hw x id (ha x hx') hid)
 clear hx hw
 refine DC.of_run Tryz.func129 rfl Tryz.ntmps129 Tryz.results129 (by simp) (fun _ _=>?_);simp only[zad,zaf,go_sem,Nat.zero_add,Nat.reduceAdd]
 repeat' (first|refine yJ ?_|refine zhj inferInstance (hcf) yR yT ?_|(refine zbk (t:=3) yU yE yU ?_;simp only[yS3])|(refine zbk (t:=5) yU yE yU ?_;simp only[yS3])|refine zay yE ⟨?_,rfl⟩|fail)
 rfl
theorem yX24 {p:Prop} (h:p:=by(simp (disch:=omega) only[go_sem,dopV,yV0,↓reduceIte,Nat.reduceEqDiff,Nat.reduceLT,Nat.reduceLeDiff,Nat.reduceAdd,Nat.reduceMul,Nat.reduceSub,Int.reduceToNat,Int.reduceLT,Int.reduceLE,Int.reduceEq,IntWalk.toNatUp,IntWalk.iteOmega,IntWalk.i64_in,V.flat,V.one, *,Value.oneCell',ykx];exact rfl)):p:=h
theorem yjm (S:Sto) {bx bp R bm:Nat} {size budget steps:Int} {rs:List (List Int)} {w:W} (hx:zaa S bx=some (.cells (pC size budget steps rs bp R bm) TP)) (hw:MapW S bm w) (hbx:bx≠bm) (t:List Int) (by':Int) (ht: ∀a∈t,In64 a) (hl:t.length≤1000000) :
  DC Tryz.prog 116 [.v (.pointer (some ⟨bx,0,none⟩)),ints t,I by'] S (fun _ S'=>MapW S' bm (addT by' [] t w)∧ ∀b,b≠bm→zaa S' b=zaa S b):=by
 refine DC.of_run Tryz.func116 rfl Tryz.ntmps116 Tryz.results116 (by simp) (fun _ _=>?_);simp only[zad,zaf,go_sem,Nat.zero_add,Nat.reduceAdd]
 repeat' (first|refine yJ ?_|fail)
 refine zbf [0,1,2,10,11] yN (fun(z:Nat×Sto×W)=> [(12,I z.1)]) (fun(z:Nat×Sto×W)=>z.2.1) (fun(z:Nat×Sto×W)=>z.1≤t.length∧MapW z.2.1 bm z.2.2∧(∀b,b≠bm→zaa z.2.1 b=zaa S b)∧addT by' [] t w=addT by' (t.take z.1) (t.drop z.1) z.2.2) (fun(z:Nat×Sto×W)=>t.length-z.1) (0,S,w) yS (fun b o e=>by exact e) ⟨Nat.zero_le _,hw,fun _ _=>rfl,rfl⟩ (fun z B hI hB=>?_);try dsimp only at hI hB;simp only[zae,zag]
 obtain⟨j,S2,w2⟩:=z
 dsimp only at hI hB
 obtain⟨j1,j2,j4,j3⟩:=hI
 repeat' (first|refine yJ ?_|(with_reducible (refine zau yE ?_;refine zcx (fun _=>?_) (fun _=>?_)))|fail)
 ·rename_i e3
  have hj:j<t.length:=by omega
  have hB2:=hB
  clear hB
  have hle:j≤t.length:=by omega
  obtain⟨pre,hpre⟩: ∃pre,pre=t.take j:=⟨_,rfl⟩
  have hpl:pre.length=j:=by rw[hpre,List.length_take];omega
  have hpi: ∀x∈pre,In64 x:=fun x hx=>ht x (List.mem_of_mem_take (hpre▸hx))
  have htk:List.take j (List.map cI t)=pre.map cI:=by rw[hpre,List.map_take]
  rw[←hpre]at j3
  have J0:=Hid.mk (And.intro hpre j3)
  have J1:=Hid.mk hx
  clear hpre j3 hx
  repeat' (first|with_reducible refine zas yU yU yX22 ?_|refine yJ ?_|fail)
  clear htk
  refine zbf [0,1,2,7,10,11,12,19,20] yN (fun(u:Nat×Sto×W)=> [(21,I u.1)]) (fun(u:Nat×Sto×W)=>u.2.1) (fun(u:Nat×Sto×W)=>u.1≤j∧MapW u.2.1 bm u.2.2∧(∀b,b≠bm→zaa u.2.1 b=zaa S b)∧addR by' (t[j]'hj) pre w2=addR by' (t[j]'hj) (pre.drop u.1) u.2.2) (fun(u:Nat×Sto×W)=>j-u.1) (0,S2,w2) yS (fun b o e=>by exact e) ⟨Nat.zero_le _,j2,j4,rfl⟩ (fun u B hI hB=>?_);try dsimp only at hI hB;simp only[zae,zag]
  obtain⟨p,S3,w3⟩:=u
  dsimp only at hI hB
  obtain⟨p1,p2,p4,p3⟩:=hI
  clear j2 j4
  repeat' (first|refine yJ ?_|(with_reducible (refine zau yE ?_;refine zcx (fun _=>?_) (fun _=>?_)))|fail)
  ·rename_i e4
   have hp:p<pre.length:=by omega
   obtain⟨fm,es,clock,m1,m2,m3⟩:=p2.out
   have hdel: ∀b' o,zaa (delS bm S3) b'=some o→zaa S3 b'=some o∧zaa [(bm,Ob.raw (.map es clock))] b'=none:=fun b' o e=>by
    rw[zaz]at e
    split at e
    ·cases e
    ·rename_i hne
     exact⟨e,by simp only[zaa];rw[if_neg (fun h=>hne h.symm)]⟩
   have hone: ∀b' o,zaa [(bm,Ob.raw (.map es clock))] b'=some o→zaa S3 b'=some o:=fun b' o e=>by
    simp only[zaa]at e
    split at e
    ·rename_i hbb;subst hbb;rw[m1];exact e
    ·cases e
   have hMp:MpOk Tryz.prog [⟨bm,81, .int .i64 0,fun x=>(fm x).getD (.int .i64 0)⟩] ([(bm,Ob.raw (.map es clock))]++delS bm S3):=fun m hm=>by
    rw[List.mem_singleton]at hm
    subst hm
    exact⟨_,by simp[zaa],es,clock,fm,rfl,m2,fun _=>rfl⟩
   have hxd:zaa (delS bm S3) bx=some (.cells (pC size budget steps rs bp R bm) TP):=by rw[zaz,if_neg hbx,p4 bx hbx];exact J1.out
   refine ycc (id:=6) (delS bm S3) ([(bm,Ob.raw (.map es clock))]) ([⟨bm,81, .int .i64 0,fun x=>(fm x).getD (.int .i64 0)⟩]) [0,1,2,3,4,5,6,7,8,9,10,11] 12 yKR mixed yP1 yP2 (hMp) (hdel) (hone) ?_
   repeat' (first|with_reducible refine zaq yU yU yU yX24 ?_|fail)
   have hin1:=hpi _ (List.getElem_mem hp)
   have hin2:=ht _ (List.getElem_mem hj)
   have hkey:=keyA hin1 hin2
   have hval:=m3 _ _ hin1 hin2
   refine yhh (me:=⟨bm,81, .int .i64 0,fun x=>(fm x).getD (.int .i64 0)⟩) (key:=kA pre[p] (t[j]'hj)) (List.mem_singleton.2 rfl) kd81 yU yU yR yH yH (V.Is.two _ _) hkey ?_
   simp only[hval,zao]
   repeat' (first|with_reducible refine zaq yU yU yU yE ?_|fail)
   refine ycf (key:=kA pre[p] (t[j]'hj)) kd81 yU yU m2 hkey yH yH (V.Is.two _ _) (by simp only[zaa,if_true]) yR (fun me hme _=>by rw[List.mem_singleton]at hme;subst hme;exact⟨rfl,rfl⟩) (fun st es1 clock1 n1 n2=>?_)
   simp only[zao]
   repeat' (first|with_reducible refine zja yU yU yU yU yE ?_|(with_reducible refine DD.nil ?_;simp only[zae,zag])|fail)
   have hs2:zaa (setS bm (Ob.raw (Obj.map es1 clock1)) [(bm,Ob.raw (Obj.map es clock))]++delS bm S3) bm=some (Ob.raw (Obj.map es1 clock1)):=by simp[setS,zaa]
   refine DS.entryStore n2 yH (by(simp (disch:=omega) only[go_sem,dopV,yV0,↓reduceIte,Nat.reduceEqDiff,Nat.reduceLT,Nat.reduceLeDiff,Nat.reduceAdd,Nat.reduceMul,Nat.reduceSub,Int.reduceToNat,Int.reduceLT,Int.reduceLE,Int.reduceEq,IntWalk.toNatUp,IntWalk.iteOmega,IntWalk.i64_in,V.flat,V.one,goInt];try exact rfl)) yH hs2 yR (fun es2 n3=>?_)
   have hW:MapW (setS bm (Ob.raw (Obj.map es2 clock1)) (setS bm (Ob.raw (Obj.map es1 clock1)) [(bm,Ob.raw (Obj.map es clock))]++delS bm S3)) bm (addP by' w3 pre[p] (t[j]'hj)):=by
    refine⟨_,es2,clock1,by rw[zai hs2,if_pos rfl],n3,fun x y hx hy=>?_⟩
    by_cases hxy:x=pre[p]∧y=(t[j]'hj)
    ·rw[addP,if_pos hxy,hxy.1,hxy.2,ziu];rfl
    ·rw[addP,if_neg hxy,zkz _ _ (fun h=>hxy (by simp only[kA,Value.agg.injEq]at h;simp at h;exact h)),m3 x y hx hy]
   have hF: ∀b,b≠bm→zaa (setS bm (Ob.raw (Obj.map es2 clock1)) (setS bm (Ob.raw (Obj.map es1 clock1)) [(bm,Ob.raw (Obj.map es clock))]++delS bm S3)) b=zaa S b:=fun b hb=>by
    rw[zai hs2,if_neg hb,←p4 b hb,zaj]
    have h1:zaa (setS bm (Ob.raw (Obj.map es1 clock1)) [(bm,Ob.raw (Obj.map es clock))]) b=none:=by
     rw[zai (o0:=Ob.raw (Obj.map es clock)) (by simp[zaa]),if_neg hb];simp only[zaa];rw[if_neg (fun h=>hb h.symm)]
    rw[h1]
    simp only[]
    rw[zaz,if_neg hb]
   generalize setS bm (Ob.raw (Obj.map es2 clock1)) (setS bm (Ob.raw (Obj.map es1 clock1)) [(bm,Ob.raw (Obj.map es clock))]++delS bm S3)=S5 at *
   clear hs2 n3 n2 n1 m1 m2 m3 hMp hdel hone hval hkey hxd
   simp only[zfu]
   repeat' (first|refine yJ ?_|fail)
   refine DS.back (hB (p+1,S5,addP by' w3 pre[p] (t[j]'hj)) _ _ (by dsimp only;omega) ⟨by dsimp only;omega,hW,hF,by rw[p3,List.drop_eq_getElem_cons hp,addR]⟩ yS yS (fun b o e=>by exact e))
  ·rename_i e4
   have hp:p=j:=by omega
   have J:=J0.out
   subst hp
   rw[List.drop_eq_nil_of_le (by omega)]at p3
   skip
   refine DS.back (hB2 (p+1,S3,w3) _ _ (by dsimp only;omega) ⟨by dsimp only;omega,p2,p4,by rw[J.2,List.drop_eq_getElem_cons hj,addT,p3,List.take_succ_eq_append_getElem hj,←J.1];rfl⟩ yS yS (fun b o e=>by exact e))
 ·rename_i e3
  rw[List.drop_eq_nil_of_le (by omega)]at j3
  refine zqh yG ⟨?_,j4⟩
  rw[j3]
  exact j2
end Go.XL
